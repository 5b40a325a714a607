/- Networks by matrices: one is made. -/
import Derived.Test.YtgoljkjaameagaaGreatPgE
import Derived.Test.YtgoljkjaameagaaGreatPgC
import Derived.RangeFuncCalls
import Derived.OrdersIn
import Derived.Test.YtgoljkjaameagaaGreatPgB
import Derived.Test.YtgoljkjaameagaaGreatChecked
import Derived.ProofKit
import Derived.Deep.Slices
import Derived.ChangeSame
import Derived.Test.YtgoljkjaameagaaGreatRows
import Derived.OpenShut
import Derived.ShutString
import Derived.ChangeOld
import Derived.Below
set_option linter.unusedVariables false
set_option linter.unusedSimpArgs false
set_option maxRecDepth 100000
set_option maxHeartbeats 16000000
namespace Go.Proofs.YtgoljkjaameagaaGreat.V
open Go.RowKit
attribute [local irreducible] dI wpOps gy Call
attribute [local go_sem] aM fG eQ fZ fY cQ upd cC K.av cP AV.cells AV.cell rowOf rowsOf part ld rowAt bt cu dE ee ik bJ dh ew fX eX dp ej dd dc dQ dR bQ bf cW bP cY cX eh ek ei cV b4 de ef bK aP da cG ij bw cK bU aY dn bc dF AV.undef bF bI dS ec dM dK cH ev eA cF ep eo cZ db List.getD_cons_zero List.getD_cons_succ List.getD_nil List.all_cons List.all_nil Bool.and_true Bool.true_and Bool.and_self Bool.not_true Bool.not_false Option.map_some Option.map_none Option.bind_some Option.bind_none List.length_cons List.length_nil List.take_succ_cons List.take_zero List.take_nil List.drop_succ_cons List.drop_zero List.drop_nil List.head?_cons List.map_cons List.map_nil List.getElem?_cons_zero List.getElem?_cons_succ List.cons_append List.nil_append List.append_nil List.length_map List.set_cons_zero List.set_cons_succ Nat.reduceMul eq_self Int.toNat_natCast Int.natCast_nonneg and_self true_and and_true decide_true decide_false Bool.false_eq_true Nat.zero_add Nat.add_zero List.contains_cons List.contains_nil Bool.or_false Bool.false_or beq_self_eq_true Nat.reduceBEq ne_eq not_true_eq_false not_false_eq_true Id.mk.injEq false_and and_false Nat.reduceLT Int.reduceLE Int.reduceLT Int.reduceToNat Int.reduceNeg Int.reduceAdd Nat.le_refl List.length_append beq_true beq_false Bool.not_eq_eq_eq_not or_false false_or dJ ai aj aD bp bE cq aT bd aX bj cR bG
theorem HA (n:Nat):List.replicate n [AV.int .i64 0]=dW (fun _=>0) n:=by
 refine List.ext_getElem? fun i=>?_
 by_cases h:i<n
 ·rw[dO h,List.getElem?_replicate,if_pos h];rfl
 ·rw[List.getElem?_eq_none (by simp;omega),List.getElem?_eq_none (by rw[dB];omega)]
theorem AL {i j:Id} {s t:Nat} (hi:i.site=s) (hj:j.site=t) (h:(s==t)=false):(i=j)=False/\(j=i)=False:=by
 constructor<;>(simp only[eq_iff_iff,iff_false];rintro rfl;rw[hi]at hj;subst hj;simp at h)
theorem Cy (cnt:Nat) (vh:1<=cnt) (hn:cnt<=1048576) (bs:List PB) (hb:∀b∈bs,b.a<cnt/\b.b<cnt) (dH:∀b∈bs,0<=b.s/\b.s<=4) (ql:bs.length<=1048576) (σ:ar):
  Call Tryz.prog 299 [.int .i64 cnt,.sl (bs.map ay)] σ fun r σ'=>∃X o1 o2 R1 R2,r=.ptr X 0 0/\F6 X o1 o2 R1 R2 cnt σ'.next/\σ.next<=σ'.next/\nR σ'.get X o1 o2 R1 R2 cnt (lg bs) (fun _ _=>0)/\∀i:Id,i.ck<σ.next->σ'.get i=σ.get i:=by
 refine eL dX rfl fun hl=>?_
 clear hl
 (try((repeat(revert hN;revert N;apply Pn.out));refine wk @Nat.zero_add ?_;(repeat(refine Pn.mk ?_;intro N hN))))
 obtain⟨X,hX⟩:∃X:Id,X=⟨299001001,σ.next+1⟩:=⟨_,rfl⟩
 obtain⟨R1,Ur⟩:∃R:Nat->Id,R=fun k=>⟨299004006,σ.next+3+4*k+1⟩:=⟨_,rfl⟩
 obtain⟨R2,Q3⟩:∃R:Nat->Id,R=fun k=>⟨299005006,σ.next+3+4*k+2⟩:=⟨_,rfl⟩
 have sX:X.site=299001001:=by rw[hX]
 have vX:X.ck=σ.next+1:=by rw[hX]
 have s1:∀k,(R1 k).site=299004006:=fun k=>by rw[Ur]
 have s2:∀k,(R2 k).site=299005006:=fun k=>by rw[Q3]
 have v1:∀k,(R1 k).ck=σ.next+3+4*k+1:=fun k=>by rw[Ur]
 have v2:∀k,(R2 k).ck=σ.next+3+4*k+2:=fun k=>by rw[Q3]
 have jQ:(0:Int)<=(cnt:Int):=by omega
 have qm:(cnt:Int)<=((16777216:Nat):Int):=by omega
 have hz:=HA cnt
 have t1:lj R1 cnt 0=[]:=rfl
 have t2:lj R2 cnt 0=[]:=rfl
 refine aU (fun n env st=>∃k:Nat,n=(cnt)-k/\k<=(cnt)/\env 11=.int .i64 (k:Int)/\env 5=(.ptr X 0 0)/\(st.next=σ.next+3+4*k/\(∀i:Id,i.ck<σ.next->st.get i=σ.get i)/\∀j,j<k->st.get (R1 j)=some ⟨true,1,dW (fun _=>0) cnt⟩/\st.get (R2 j)=some ⟨true,1,dW (fun _=>0) cnt⟩)/\((k=0/\st.get X=some ⟨true,2,[[.bl,.bl]]⟩)∨∃o1 o2:Id,o1.site=299004008/\o2.site=299005008/\o1.ck<st.next/\o2.ck<st.next/\σ.next<=o1.ck/\σ.next<=o2.ck/\st.get X=some ⟨true,2,[[.own o1 0 k,.own o2 0 k]]⟩/\st.get o1=some ⟨true,1,lj R1 cnt k⟩/\st.get o2=some ⟨true,1,lj R2 cnt k⟩)) (cnt) ⟨0,by omega,by omega,sl @hX,sl @hX,⟨rfl,fun i hi=>by(have DX:=dr hi);simp only[go_sem, ↓reduceIte,Nat.reduceEqDiff,Nat.reduceAdd,Nat.reduceSub,Nat.reduceLeDiff,reduceCtorEq,DX],fun j hj=>absurd hj (Nat.not_lt_zero j)⟩,.inl ⟨rfl,by rw[hX];simp only[go_sem, ↓reduceIte,Nat.reduceEqDiff,Nat.reduceAdd,Nat.reduceSub,Nat.reduceLeDiff,reduceCtorEq]⟩⟩ ?_
 rintro n_a env_a st_a ⟨k,rfl,ale,a11,a5,lZ,aI1⟩ dC
 have a0:=dC 0 (by kernel_rfl);have a1:=dC 1 (by kernel_rfl);have yl:=dC 10 (by kernel_rfl)
 simp only[go_sem, ↓reduceIte,Nat.reduceEqDiff,Nat.reduceAdd,Nat.reduceSub,Nat.reduceLeDiff,reduceCtorEq,hX]at a0 a1 yl
 clear dC
 obtain⟨anx,dC,aR⟩:=lZ
 have wX:=dr (i:=X) (n:=st_a.next) (by omega)
 by_cases hk:(k:Int)<(cnt:Int)
 ·have cD:∀{e:Env} {gg:Rows} {nx:Nat},(e 11=.int .i64 (IntKind.i64.wrap ((k:Int)+1)))->(e 5=(.ptr X 0 0))->(nx=σ.next+3+4*(k+1)/\(∀i:Id,i.ck<σ.next->gg i=σ.get i)/\∀j,j<(k+1)->gg (R1 j)=some ⟨true,1,dW (fun _=>0) cnt⟩/\gg (R2 j)=some ⟨true,1,dW (fun _=>0) cnt⟩)->(((k+1)=0/\gg X=some ⟨true,2,[[.bl,.bl]]⟩)∨∃o1 o2:Id,o1.site=299004008/\o2.site=299005008/\o1.ck<nx/\o2.ck<nx/\σ.next<=o1.ck/\σ.next<=o2.ck/\gg X=some ⟨true,2,[[.own o1 0 (k+1),.own o2 0 (k+1)]]⟩/\gg o1=some ⟨true,1,lj R1 cnt (k+1)⟩/\gg o2=some ⟨true,1,lj R2 cnt (k+1)⟩)->∃m0,m0<(cnt)-k/\∃k:Nat,m0=(cnt)-k/\k<=(cnt)/\e 11=.int .i64 (k:Int)/\e 5=(.ptr X 0 0)/\(nx=σ.next+3+4*k/\(∀i:Id,i.ck<σ.next->gg i=σ.get i)/\∀j,j<k->gg (R1 j)=some ⟨true,1,dW (fun _=>0) cnt⟩/\gg (R2 j)=some ⟨true,1,dW (fun _=>0) cnt⟩)/\((k=0/\gg X=some ⟨true,2,[[.bl,.bl]]⟩)∨∃o1 o2:Id,o1.site=299004008/\o2.site=299005008/\o1.ck<nx/\o2.ck<nx/\σ.next<=o1.ck/\σ.next<=o2.ck/\gg X=some ⟨true,2,[[.own o1 0 k,.own o2 0 k]]⟩/\gg o1=some ⟨true,1,lj R1 cnt k⟩/\gg o2=some ⟨true,1,lj R2 cnt k⟩):=fun x1 x2 x3 x4=>⟨_,by omega,k+1,rfl,by omega,(by rw[x1,aA (by omega)]),x2,x3,x4⟩
  have fA:k<cnt:=by omega
  have xM:R1 k=⟨299004006,st_a.next+1⟩:=by rw[Ur,anx]
  have wI:R2 k=⟨299005006,st_a.next+1+1⟩:=by rw[Q3,anx]
  have FC:lj R1 cnt (k+1)=lj R1 cnt k++[[.own ⟨299004006,st_a.next+1⟩ 0 cnt]]:=by rw[tH,xM]
  have Qs:lj R2 cnt (k+1)=lj R2 cnt k++[[.own ⟨299005006,st_a.next+1+1⟩ 0 cnt]]:=by rw[tH,wI]
  rcases aI1 with⟨rfl,QM⟩|⟨o1,o2,so1,so2,vo1,Sn,vn1,vn2,QM,ag1,ag2⟩
  ·(try((repeat(revert hN;revert N;apply Pn.out));refine wk (tw @a11 (tw @a5 (tw @a0 (tw @a1 (tw @yl (tw @hk (tw @wX (tw @QM (tw @jQ (tw @qm (tw @Int.le_refl @hz))))))))))) ?_;(repeat(refine Pn.mk ?_;intro N hN))))
   refine cD ?_ ?_ (by
    (try dsimp only)
    refine⟨by omega,fun i hi=>?_,fun j hj=>?_⟩
    ·have q1:=dr (i:=i) (n:=st_a.next) (by omega)
     have q2:=cz (a:=i) (b:=X) (by omega)
     have:=dC i hi
     simp only[go_sem, ↓reduceIte,Nat.reduceEqDiff,Nat.reduceAdd,Nat.reduceSub,Nat.reduceLeDiff,reduceCtorEq,q1,q2,this]
    ·by_cases yP:j=0
     ·subst yP
      rw[xM,wI]
      have q1:=gW sX (b:=299004006) (v:=st_a.next+1) (by decide)
      have q2:=gW sX (b:=299005006) (v:=st_a.next+1+1) (by decide)
      simp only[go_sem, ↓reduceIte,Nat.reduceEqDiff,Nat.reduceAdd,Nat.reduceSub,Nat.reduceLeDiff,reduceCtorEq,q1,q2]
     ·obtain⟨r1,r2⟩:=aR j (by omega)
      have q1:=dr (i:=R1 j) (n:=st_a.next) (by rw[v1];omega)
      have q2:=dr (i:=R2 j) (n:=st_a.next) (by rw[v2];omega)
      have q3:=AL (s1 j) sX (by decide)
      have q4:=AL (s2 j) sX (by decide)
      constructor
      ·simp only[go_sem, ↓reduceIte,Nat.reduceEqDiff,Nat.reduceAdd,Nat.reduceSub,Nat.reduceLeDiff,reduceCtorEq,q1,q3,r1]
      ·simp only[go_sem, ↓reduceIte,Nat.reduceEqDiff,Nat.reduceAdd,Nat.reduceSub,Nat.reduceLeDiff,reduceCtorEq,q2,q4,r2]) (.inr ⟨⟨299004008,st_a.next+1⟩,⟨299005008,st_a.next+1+1⟩,rfl,rfl,by(try dsimp only);omega,by(try dsimp only);omega,by(try dsimp only);omega,by(try dsimp only);omega,sd @wX,by rw[FC,t1];simp only[go_sem, ↓reduceIte,Nat.reduceEqDiff,Nat.reduceAdd,Nat.reduceSub,Nat.reduceLeDiff,reduceCtorEq,wX,List.nil_append],by rw[Qs,t2];simp only[go_sem, ↓reduceIte,Nat.reduceEqDiff,Nat.reduceAdd,Nat.reduceSub,Nat.reduceLeDiff,reduceCtorEq,wX,List.nil_append]⟩)
   all_goals simp only[go_sem, ↓reduceIte,Nat.reduceEqDiff,Nat.reduceAdd,Nat.reduceSub,Nat.reduceLeDiff,reduceCtorEq,a11,a5,a0,a1,yl,wX]
  ·have l1:=kj R1 cnt k
   have l2:=kj R2 cnt k
   have e1:k+1<=16777216:=by omega
   have w1:=dr vo1
   have w2:=dr Sn
   have x1:=AL sX so1 (by decide)
   have x2:=AL sX so2 (by decide)
   have x3:=AL so1 so2 (by decide)
   (try((repeat(revert hN;revert N;apply Pn.out));refine wk (tw @a11 (tw @a5 (tw @a0 (tw @a1 (tw @yl (tw @hk (tw @wX (tw @QM (tw @ag1 (tw @ag2 (tw @l1 (tw @l2 (tw @e1 (tw @w1 (tw @w2 (tw @x1 (tw @x2 (tw @x3 (tw @jQ (tw @qm (tw @Int.le_refl @hz))))))))))))))))))))) ?_;(repeat(refine Pn.mk ?_;intro N hN))))
   refine cD ?_ ?_ (by
    (try dsimp only)
    refine⟨by omega,fun i hi=>?_,fun j hj=>?_⟩
    ·have q1:=dr (i:=i) (n:=st_a.next) (by omega)
     have q2:=cz (a:=i) (b:=X) (by omega)
     have q3:=cz (a:=i) (b:=o1) (by omega)
     have q4:=cz (a:=i) (b:=o2) (by omega)
     have:=dC i hi
     simp only[go_sem, ↓reduceIte,Nat.reduceEqDiff,Nat.reduceAdd,Nat.reduceSub,Nat.reduceLeDiff,reduceCtorEq,q1,q2,this,q3,q4]
    ·by_cases yP:j=k
     ·subst yP
      rw[xM,wI]
      have q1:=gW sX (b:=299004006) (v:=st_a.next+1) (by decide)
      have q2:=gW sX (b:=299005006) (v:=st_a.next+1+1) (by decide)
      simp only[go_sem, ↓reduceIte,Nat.reduceEqDiff,Nat.reduceAdd,Nat.reduceSub,Nat.reduceLeDiff,reduceCtorEq,q1,q2,w1,w2]
     ·obtain⟨r1,r2⟩:=aR j (by omega)
      have q1:=dr (i:=R1 j) (n:=st_a.next) (by rw[v1];omega)
      have q2:=dr (i:=R2 j) (n:=st_a.next) (by rw[v2];omega)
      have q3:=AL (s1 j) sX (by decide)
      have q4:=AL (s2 j) sX (by decide)
      have q5:=AL (s1 j) so1 (by decide)
      have q6:=AL (s1 j) so2 (by decide)
      have q7:=AL (s2 j) so1 (by decide)
      have q8:=AL (s2 j) so2 (by decide)
      constructor
      ·simp only[go_sem, ↓reduceIte,Nat.reduceEqDiff,Nat.reduceAdd,Nat.reduceSub,Nat.reduceLeDiff,reduceCtorEq,q1,q3,r1,q5,q6]
      ·simp only[go_sem, ↓reduceIte,Nat.reduceEqDiff,Nat.reduceAdd,Nat.reduceSub,Nat.reduceLeDiff,reduceCtorEq,q2,q4,r2,q7,q8]) (.inr ⟨⟨299004008,st_a.next+1⟩,⟨299005008,st_a.next+1+1⟩,rfl,rfl,by(try dsimp only);omega,by(try dsimp only);omega,by(try dsimp only);omega,by(try dsimp only);omega,sd @wX,by rw[FC];simp only[go_sem, ↓reduceIte,Nat.reduceEqDiff,Nat.reduceAdd,Nat.reduceSub,Nat.reduceLeDiff,reduceCtorEq,wX,w1,w2],by rw[Qs];simp only[go_sem, ↓reduceIte,Nat.reduceEqDiff,Nat.reduceAdd,Nat.reduceSub,Nat.reduceLeDiff,reduceCtorEq,wX,w1,w2]⟩)
   all_goals simp only[go_sem, ↓reduceIte,Nat.reduceEqDiff,Nat.reduceAdd,Nat.reduceSub,Nat.reduceLeDiff,reduceCtorEq,a11,a5,a0,a1,yl,wX,w1,w2,x1,x2,x3]
 have mh:cnt=k:=by omega
 subst mh
 rcases aI1 with⟨h0,_⟩|⟨o1,o2,so1,so2,vo1,Sn,vn1,vn2,QM,ag1,ag2⟩
 ·omega
 (try((repeat(revert hN;revert N;apply Pn.out));refine wk (tw @a11 (tw @a5 (tw @a0 (tw @a1 (tw @yl @hk))))) ?_;(repeat(refine Pn.mk ?_;intro N hN))))
 have I:F6 X o1 o2 R1 R2 cnt st_a.next:=⟨sX,so1,so2,fun i _=>s1 i,fun i _=>s2 i,fun i j _ _ h=>by have:=v1 i;rw[h,v1]at this;omega,fun i j _ _ h=>by have:=v2 i;rw[h,v2]at this;omega,by omega,vo1,Sn,fun i hi=>by rw[v1];omega,fun i hi=>by rw[v2];omega⟩
 refine aU (fun n env st=>∃i:Nat,n=(bs.length)-i/\i<=(bs.length)/\env 38=.int .i64 (i:Int)/\(st_a.next<=st.next/\(∀x:Id,x.ck<σ.next->st.get x=σ.get x)/\nR st.get X o1 o2 R1 R2 cnt (lg (bs.take i)) (fun _ _=>0))) (bs.length) ⟨0,by omega,by omega,sl (tw @a11 (tw @a5 (tw @a0 (tw @a1 @yl)))),⟨by(try dsimp only);omega,dC,QM,ag1,ag2,fun j hj=>(aR j hj).1,fun j hj=>(aR j hj).2⟩⟩ ?_
 rintro n_b env_b st_b ⟨i,rfl,ble,b38,bI0⟩ gh
 have b0:=gh 0 (by kernel_rfl);have b1:=gh 1 (by kernel_rfl);have b5:=gh 5 (by kernel_rfl);have Qc:=gh 36 (by kernel_rfl);have Qd:=gh 37 (by kernel_rfl)
 simp only[go_sem, ↓reduceIte,Nat.reduceEqDiff,Nat.reduceAdd,Nat.reduceSub,Nat.reduceLeDiff,reduceCtorEq,a11,a5,a0,a1,yl]at b0 b1 b5 Qc Qd
 clear gh
 obtain⟨bn,NU,bM⟩:=bI0
 by_cases hi:(i:Int)<(bs.length:Int)
 ·have gn:∀{e:Env} {gg:Rows} {nx:Nat},(e 38=.int .i64 (IntKind.i64.wrap ((i:Int)+1)))->(st_a.next<=nx/\(∀x:Id,x.ck<σ.next->gg x=σ.get x)/\nR gg X o1 o2 R1 R2 cnt (lg (bs.take (i+1))) (fun _ _=>0))->∃m0,m0<(bs.length)-i/\∃i:Nat,m0=(bs.length)-i/\i<=(bs.length)/\e 38=.int .i64 (i:Int)/\(st_a.next<=nx/\(∀x:Id,x.ck<σ.next->gg x=σ.get x)/\nR gg X o1 o2 R1 R2 cnt (lg (bs.take i)) (fun _ _=>0)):=fun x1 x2=>⟨_,by omega,i+1,rfl,by omega,(by rw[x1,aA (by omega)]),x2⟩
  have fw:i<bs.length:=by omega
  have ke:(bs.map ay)[i]? =some (ay bs[i]):=by simp[fw]
  have fR:=hb _ (List.getElem_mem fw)
  have hsi:=dH _ (List.getElem_mem fw)
  have tg:lg (bs.take (i+1))=nU (lg (bs.take i)) bs[i]:=by rw[List.take_succ_eq_append_getElem fw,Ew]
  have qN:=AE (bs.take i) (fun _ _=>0) (fun b hb=>(dH b (List.mem_of_mem_take hb)).1) (fun _ _=>Int.le_refl _)
  have hle:=room_le (bs.take i) (fun _ _=>0) 0 (fun b hb=>(dH b (List.mem_of_mem_take hb)).2) (fun _ _=>Int.le_refl _) (Int.le_refl _)
  rw[List.length_take]at hle
  have fV:(bs.take i).foldl nU (fun _ _=>0)=lg (bs.take i):=rfl
  rw[fV]at qN hle
  generalize lg (bs.take i)=c at *
  generalize bs[i]=b at *
  obtain⟨ha,ta⟩:=fR
  have gA:=sC (R:=R1) (n:=cnt) ha
  have gB:=sC (R:=R1) (n:=cnt) ta
  have rA:=bM.r1 _ ha
  have rB:=bM.r1 _ ta
  have cA:=dO (f:=c b.a) ta
  have cB:=dO (f:=c b.b) ha
  have sA:=oJ (f:=c) (a:=b.a) (d:=b.s) ta
  have gX:=bM.x
  have g1:=bM.t1
  have gM:(b.a:Int)<(cnt:Int):=by omega
  have fR:(b.b:Int)<(cnt:Int):=by omega
  have qX:=dr (i:=X) (n:=st_b.next) (by omega)
  have q1:=dr (i:=o1) (n:=st_b.next) (by omega)
  have qA:=dr (i:=R1 b.a) (n:=st_b.next) (by rw[v1];omega)
  have qB:=dr (i:=R1 b.b) (n:=st_b.next) (by rw[v1];omega)
  have xA:=AL sX (s1 b.a) (by decide)
  have xB:=AL sX (s1 b.b) (by decide)
  have yA:=AL so1 (s1 b.a) (by decide)
  have yB:=AL so1 (s1 b.b) (by decide)
  have l1:=kj R1 cnt cnt
  have lA:=dB (c b.a) cnt
  have lB:=dB (c b.b) cnt
  have hAB:=hle b.a b.b
  have hBA:=hle b.b b.a
  have gAB:=qN b.a b.b
  have gBA:=qN b.b b.a
  have wA:IntKind.i64.wrap (c b.a b.b+b.s)=c b.a b.b+b.s:=bz (by omega)
  by_cases qM:b.a=b.b
  ·obtain⟨ba,bb,s⟩:=b
   dsimp only at *
   subst qM
   have O3:=oJ (f:=bump c ba ba s) (a:=ba) (b:=ba) (d:=s) (n:=cnt) ha
   have UC:=dO (f:=bump c ba ba s ba) ha
   have hv:bump c ba ba s ba ba=c ba ba+s:=by simp[bump]
   have lC:=dB (bump c ba ba s ba) cnt
   have wB:IntKind.i64.wrap (c ba ba+s+s)=c ba ba+s+s:=bz (by omega)
   rw[hv]at O3 UC
   have tb:nU c ⟨ba,ba,s⟩ ba=bump (bump c ba ba s) ba ba s ba:=rfl
   rw[bh]at cA sA O3 UC
   (try((repeat(revert hN;revert N;apply Pn.out));refine wk (tw @b38 (tw @b0 (tw @b1 (tw @b5 (tw @Qc (tw @Qd (tw @hi (tw @ke (tw @ay.eq_1 (tw @gA (tw @rA (tw @cA (tw @sA (tw @gX (tw @g1 (tw @gM (tw @qX (tw @q1 (tw @qA (tw @xA (tw @yA (tw @l1 (tw @lA (tw @wA (tw @O3 (tw @UC (tw @lC @wB))))))))))))))))))))))))))) ?_;(repeat(refine Pn.mk ?_;intro N hN))))
   exact gn (sd (tw @b38 (tw @b0 (tw @b1 (tw @b5 (tw @Qc @Qd)))))) (by
    (try dsimp only)
    refine⟨by omega,fun x hx=>?_,?_⟩
    ·have p1:=dr (i:=x) (n:=st_b.next) (by omega)
     have p2:=cz (a:=x) (b:=R1 ba) (by rw[v1];omega)
     have:=NU x hx
     simp only[go_sem, ↓reduceIte,Nat.reduceEqDiff,Nat.reduceAdd,Nat.reduceSub,Nat.reduceLeDiff,reduceCtorEq,p1,p2,this]
    ·rw[tg]
     refine bM.add I ⟨ba,ba,s⟩ ha ha (fun h=>absurd rfl h) ?_ fun x hx h1 h2=>?_
     ·rw[tb]
      simp only[go_sem, ↓reduceIte,Nat.reduceEqDiff,Nat.reduceAdd,Nat.reduceSub,Nat.reduceLeDiff,reduceCtorEq]
     ·have p1:=dr (i:=x) (n:=st_b.next) (by omega)
      (try dsimp only at h2)
      simp only[go_sem, ↓reduceIte,Nat.reduceEqDiff,Nat.reduceAdd,Nat.reduceSub,Nat.reduceLeDiff,reduceCtorEq,p1,h2])
  ·have gZ:(R1 b.a=R1 b.b)=False:=by simp only[eq_iff_iff,iff_false];exact fun h=>qM (I.i1 _ _ ha ta h)
   have Jc:(R1 b.b=R1 b.a)=False:=by simp only[eq_iff_iff,iff_false];exact fun h=>qM (I.i1 _ _ ha ta h.symm)
   have OS:bump c b.a b.b b.s b.b=c b.b:=kb fun h=>qM h.symm
   have O3:=oJ (f:=bump c b.a b.b b.s) (a:=b.b) (b:=b.a) (d:=b.s) (n:=cnt) ha
   rw[OS]at O3
   have wB:IntKind.i64.wrap (c b.b b.a+b.s)=c b.b b.a+b.s:=bz (by omega)
   have tb:nU c b b.b=bump (bump c b.a b.b b.s) b.b b.a b.s b.b:=rfl
   rw[bh]at cA cB sA O3
   (try((repeat(revert hN;revert N;apply Pn.out));refine wk (tw @b38 (tw @b0 (tw @b1 (tw @b5 (tw @Qc (tw @Qd (tw @hi (tw @ke (tw @ay.eq_1 (tw @gA (tw @gB (tw @rA (tw @rB (tw @cA (tw @cB (tw @sA (tw @gX (tw @g1 (tw @gM (tw @fR (tw @qX (tw @q1 (tw @qA (tw @qB (tw @xA (tw @xB (tw @yA (tw @yB (tw @l1 (tw @lA (tw @lB (tw @wA (tw @O3 (tw @wB (tw @gZ @Jc))))))))))))))))))))))))))))))))))) ?_;(repeat(refine Pn.mk ?_;intro N hN))))
   exact gn (sd (tw @b38 (tw @b0 (tw @b1 (tw @b5 (tw @Qc @Qd)))))) (by
    (try dsimp only)
    refine⟨by omega,fun x hx=>?_,?_⟩
    ·have p1:=dr (i:=x) (n:=st_b.next) (by omega)
     have p2:=cz (a:=x) (b:=R1 b.b) (by rw[v1];omega)
     have p3:=cz (a:=x) (b:=R1 b.a) (by rw[v1];omega)
     have:=NU x hx
     simp only[go_sem, ↓reduceIte,Nat.reduceEqDiff,Nat.reduceAdd,Nat.reduceSub,Nat.reduceLeDiff,reduceCtorEq,p1,p2,p3,this]
    ·rw[tg]
     refine bM.add I b ha ta (fun h=>?_) ?_ fun x hx h1 h2=>?_
     ·simp only[go_sem, ↓reduceIte,Nat.reduceEqDiff,Nat.reduceAdd,Nat.reduceSub,Nat.reduceLeDiff,reduceCtorEq,gZ]
     ·rw[tb]
      simp only[go_sem, ↓reduceIte,Nat.reduceEqDiff,Nat.reduceAdd,Nat.reduceSub,Nat.reduceLeDiff,reduceCtorEq,gZ]
     ·have p1:=dr (i:=x) (n:=st_b.next) (by omega)
      simp only[go_sem, ↓reduceIte,Nat.reduceEqDiff,Nat.reduceAdd,Nat.reduceSub,Nat.reduceLeDiff,reduceCtorEq,p1,h1,h2])
 ·have lK:i=bs.length:=by omega
  subst lK
  rw[List.take_length]at bM
  (try((repeat(revert hN;revert N;apply Pn.out));refine wk (tw @b38 (tw @b0 (tw @b1 (tw @b5 (tw @Qc (tw @Qd @hi)))))) ?_;(repeat(refine Pn.mk ?_;intro N hN))))
  exact e9 (.inl rfl) (vs:=[.ptr X 0 0]) (sd @Nat.zero_add) ⟨X,o1,o2,R1,R2,rfl,⟨I.sx,I.s1,I.s2,I.TD,I.Ny,I.i1,I.i2,by have:=I.vx;(try dsimp only);omega,by have:=I.v1;(try dsimp only);omega,by have:=I.v2;(try dsimp only);omega,fun j hj=>by have:=I.TF j hj;(try dsimp only);omega,fun j hj=>by have:=I.QG j hj;(try dsimp only);omega⟩,by(try dsimp only);omega,bM,NU⟩
end Go.Proofs.YtgoljkjaameagaaGreat.V

namespace Go.Proofs.YtgoljkjaameagaaGreat.V
structure Bq (n:Nat) (c f:Nat->Nat->Int) (x:Nat) (par:Nat->Int) (Q:List Nat) (i:Nat):Prop where
 nodup:Q.Nodup
 lt:∀v∈Q,v<n
 root:par x=(x:Int)
 mem:x∈Q
 iff:∀v,v<n->(0<=par v↔v∈Q)
 up:∀v∈Q,v≠x->∃u,u∈Q/\par v=(u:Int)/\Q.idxOf u<Q.idxOf v/\f u v<c u v
 done:∀j (_:j<i) (hl:j<Q.length) (v:Nat),v<n->f Q[j] v<c Q[j] v->v∈Q
 ile:i<=Q.length
section
variable {n:Nat} {c f:Nat->Nat->Int} {x:Nat} {par:Nat->Int} {Q:List Nat} {i:Nat}
theorem Bq.len (h:Bq n c f x par Q i):Q.length<=n:=o9 n Q h.nodup h.lt
theorem Bq.start (hx:x<n):Bq n c f x (fun v=>if v=x then(x:Int)else -1) [x] 0:=by
 refine⟨by simp,fun v hv=>by simp at hv;omega,by simp,by simp,fun v hv=>?_,fun v hv gZ=>absurd (by simpa using hv) gZ,fun j hj=>by omega,by simp⟩
 by_cases h:v=x
 ·simp[h]
 ·simp[h]
theorem Bq.visit (h:Bq n c f x par Q i) (hi:i<Q.length) {v:Nat} (hv:v<n) (hp:par v<0) (hr:f Q[i] v<c Q[i] v):Bq n c f x (fun w=>if w=v then(Q[i]:Int)else par w) (Q++[v]) i:=by
 have Vq:v∉Q:=fun hm=>by have:=(h.iff v hv).2 hm;omega
 have Pc:x≠v:=fun e=>Vq (e▸h.mem)
 have Ad:∀u∈Q,(Q++[v]).idxOf u=Q.idxOf u:=fun u hu=>by rw[List.idxOf_append,if_pos hu]
 have wJ:(Q++[v]).idxOf v=Q.length:=by rw[List.idxOf_append,if_neg Vq];simp
 refine⟨?_,fun w hw=>?_,by simp only[if_neg Pc];exact h.root,by simp[h.mem],fun w hw=>?_,fun w hw gZ=>?_,fun j hj hl w hw Jk=>?_,by simp;omega⟩
 ·refine List.nodup_append.2 ⟨h.nodup,by simp,fun a ha b hb=>?_⟩
  rw[List.mem_singleton.1 hb]
  rintro rfl;exact Vq ha
 ·rcases List.mem_append.1 hw with hw|hw
  ·exact h.lt w hw
  ·rw[List.mem_singleton.1 hw];exact hv
 ·by_cases FE:w=v
  ·subst FE;simp
  ·rw[if_neg FE,h.iff w hw];simp[FE]
 ·by_cases FE:w=v
  ·subst FE
   refine⟨Q[i],by simp,by simp,?_,hr⟩
   rw[Ad _ (List.getElem_mem hi),wJ]
   exact List.idxOf_lt_length_of_mem (List.getElem_mem hi)
  ·have hwQ:w∈Q:=by
    rcases List.mem_append.1 hw with hw|hw
    ·exact hw
    ·exact absurd (List.mem_singleton.1 hw) FE
   obtain⟨u,h1,h2,h3,h4⟩:=h.up w hwQ gZ
   exact⟨u,by simp[h1],by rw[if_neg FE];exact h2,by rw[Ad u h1,Ad w hwQ];exact h3,h4⟩
 ·have ig:j<Q.length:=by have:=h.ile;omega
  rw[List.getElem_append_left ig]at Jk
  exact List.mem_append_left _ (h.done j hj ig w hw Jk)
theorem Bq.next (h:Bq n c f x par Q i) (hi:i<Q.length) (dD:∀v,v<n->f Q[i] v<c Q[i] v->0<=par v):Bq n c f x par Q (i+1):=by
 refine⟨h.nodup,h.lt,h.root,h.mem,h.iff,h.up,fun j hj hl v hv hr=>?_,by omega⟩
 by_cases mV:j=i
 ·subst mV;exact(h.iff v hv).1 (dD v hv hr)
 ·exact h.done j (by omega) hl v hv hr
theorem Bq.cut (h:Bq n c f x par Q Q.length) {y:Nat} (hy:y<n) (hp:par y<0):∃S:Nat->Bool,S x=true/\S y=false/\∀u v,u<n->v<n->S u=true->S v=false->¬f u v<c u v:=by
 refine⟨fun v=>decide (v∈Q),by simp[h.mem],?_,fun u v hu hv h1 h2 hr=>?_⟩
 ·have:y∉Q:=fun hm=>by have:=(h.iff y hy).2 hm;omega
  simp[this]
 ·simp only[decide_eq_true_eq,decide_eq_false_iff_not]at h1 h2
  obtain⟨j,hj,rfl⟩:=List.getElem_of_mem h1
  exact h2 (h.done j hj hj v hv hr)
def vH (c f:Nat->Nat->Int) (Q:List Nat) (y k:Nat) (out:List Nat):Prop:=∃rest,out.reverse=k::rest/\(k::rest).getLast (by simp)=y/\rn f c (k::rest)/\(k::rest).Pairwise (fun a b=>Q.idxOf a<Q.idxOf b)/\∀v∈k::rest,v∈Q
theorem vH.start {y:Nat} (hy:y∈Q):vH c f Q y y [y]:=⟨[],rfl,rfl,trivial,by simp,by simpa using hy⟩
theorem vH.step {y k u:Nat} {out:List Nat} (h:vH c f Q y k out) (hu:u∈Q) (hi:Q.idxOf u<Q.idxOf k) (hr:f u k<c u k):vH c f Q y u (out++[u]):=by
 obtain⟨rest,h1,h2,h3,h4,h5⟩:=h
 refine⟨k::rest,by rw[List.reverse_append,h1];rfl,by rw[List.getLast_cons (by simp)];exact h2,⟨hr,h3⟩,?_,?_⟩
 ·refine List.pairwise_cons.2 ⟨fun b hb=>?_,h4⟩
  rcases List.mem_cons.1 hb with rfl|hb
  ·exact hi
  ·have:=(List.pairwise_cons.1 h4).1 b hb;omega
 ·intro v hv
  rcases List.mem_cons.1 hv with rfl|hv
  ·exact hu
  ·exact h5 v hv
theorem vH.len {y k:Nat} {out:List Nat} (h:vH c f Q y k out) (hq:∀v∈Q,v<n):out.length<=n:=by
 obtain⟨rest,h1,_,_,h4,h5⟩:=h
 rw[<-List.length_reverse,h1]
 refine o9 n _ (h4.imp fun dU he=>?_) fun v hv=>hq v (h5 v hv)
 subst he;omega
structure QL (n:Nat) (c f:Nat->Nat->Int) (x y:Nat) (p:List Nat):Prop where
 way:∃r,p=x::r/\(x::r).getLast (by simp)=y
 nodup:p.Nodup
 room:rn f c p
 lt:∀v∈p,v<n
theorem vH.way {y:Nat} {out:List Nat} (h:vH c f Q y x out) (hq:∀v∈Q,v<n):QL n c f x y out.reverse:=by
 obtain⟨rest,h1,h2,h3,h4,h5⟩:=h
 rw[h1]
 exact⟨⟨rest,rfl,h2⟩,h4.imp fun dU he=>by subst he;omega,h3,fun v hv=>hq v (h5 v hv)⟩
end
end Go.Proofs.YtgoljkjaameagaaGreat.V

namespace Go.Proofs.YtgoljkjaameagaaGreat.V
open Go.RowKit
attribute [local irreducible] dI wpOps gy Call
attribute [local go_sem] aM fG eQ fZ fY cQ upd cC K.av cP AV.cells AV.cell rowOf rowsOf part ld rowAt bt cu dE ee ik bJ dh ew fX eX dp ej dd dc dQ dR bQ bf cW bP cY cX eh ek ei cV b4 de ef bK aP da cG ij bw cK bU aY dn bc dF AV.undef bF bI dS ec dM dK cH ev eA cF ep eo cZ db List.getD_cons_zero List.getD_cons_succ List.getD_nil List.all_cons List.all_nil Bool.and_true Bool.true_and Bool.and_self Bool.not_true Bool.not_false Option.map_some Option.map_none Option.bind_some Option.bind_none List.length_cons List.length_nil List.take_succ_cons List.take_zero List.take_nil List.drop_succ_cons List.drop_zero List.drop_nil List.head?_cons List.map_cons List.map_nil List.getElem?_cons_zero List.getElem?_cons_succ List.cons_append List.nil_append List.append_nil List.length_map List.set_cons_zero List.set_cons_succ Nat.reduceMul eq_self Int.toNat_natCast Int.natCast_nonneg and_self true_and and_true decide_true decide_false Bool.false_eq_true Nat.zero_add Nat.add_zero List.contains_cons List.contains_nil Bool.or_false Bool.false_or beq_self_eq_true Nat.reduceBEq ne_eq not_true_eq_false not_false_eq_true Id.mk.injEq false_and and_false Nat.reduceLT Int.reduceLE Int.reduceLT Int.reduceToNat Int.reduceNeg Int.reduceAdd Nat.le_refl List.length_append beq_true beq_false Bool.not_eq_eq_eq_not or_false false_or dJ ai aj aD bp bE cq aT bd aX bj cR bG
def l9 (l:List Nat) (i x:Nat):Nat:=if x<i∨l.length-i<=x then l.getD (l.length-1-x) 0 else l.getD x 0
theorem zt (l:List Nat):l.map eN=dG (fun x=>l.getD x 0) l.length:=by
 refine List.ext_getElem? fun i=>?_
 by_cases h:i<l.length
 ·rw[ft h,List.getElem?_map,List.getElem?_eq_getElem h];simp[List.getD_eq_getElem?_getD,h]
 ·rw[List.getElem?_eq_none (by simp;omega),List.getElem?_eq_none (by rw[gp];omega)]
theorem Hj (l:List Nat):dG (l9 l 0) l.length=l.map eN:=by
 rw[zt]
 exact ib fun x hx=>by unfold l9;rw[if_neg (by omega)]
theorem J9 (l:List Nat) {i:Nat} (h:l.length<=2*i+1) (hi:i<=l.length):dG (l9 l i) l.length=l.reverse.map eN:=by
 rw[zt l.reverse,List.length_reverse]
 refine ib fun x hx=>?_
 have hr:l.reverse.getD x 0=l.getD (l.length-1-x) 0:=by
  rw[List.getD_eq_getElem?_getD,List.getElem?_reverse hx,List.getD_eq_getElem?_getD]
 rw[hr]
 unfold l9
 by_cases hc:x<i∨l.length-i<=x
 ·rw[if_pos hc]
 ·rw[if_neg hc]
  have:x=l.length-1-x:=by omega
  rw[<-this]
theorem Hk (l:List Nat) (hp:0<l.length) (hl:l.length<=1048576) (o:Id) (σ:ar) (ho:σ.get o=some ⟨true,1,l.map eN⟩) (vk:o.ck<σ.next):
  Call Tryz.prog 329 [.own o 0 l.length] σ fun r σ'=>σ'.get o=some ⟨true,1,l.reverse.map eN⟩/\σ.next<=σ'.next/\∀i:Id,i.ck<σ.next->(i=o)=False->σ'.get i=σ.get i:=by
 refine eL dX rfl fun kp=>?_
 clear kp
 rw[<-Hj]at ho
 have Tw:IntKind.i64.wrap ((l.length:Int)-1)=((l.length-1:Nat):Int):=by rw[bz (by omega)];omega
 (try((repeat(revert hN;revert N;apply Pn.out));refine wk @Tw ?_;(repeat(refine Pn.mk ?_;intro N hN))))
 refine aU (fun m env st=>∃i:Nat,m=l.length-i/\2*i<=l.length+1/\i<=l.length/\env 2=.int .i64 (i:Int)/\env 3=.int .i64 ((l.length:Int)-1-i)/\st.get o=some ⟨true,1,dG (l9 l i) l.length⟩/\σ.next<=st.next/\∀x:Id,x.ck<σ.next->(x=o)=False->st.get x=σ.get x) l.length ⟨0,rfl,by omega,by omega,by(simp only[go_sem, ↓reduceIte,Nat.reduceEqDiff,Nat.reduceAdd,Nat.reduceSub,Nat.reduceLeDiff,reduceCtorEq])<;>rfl,by(simp only[go_sem, ↓reduceIte,Nat.reduceEqDiff,Nat.reduceAdd,Nat.reduceSub,Nat.reduceLeDiff,reduceCtorEq,Tw]);congr 1;omega,ho,by(try dsimp only);omega,fun x _ _=>rfl⟩ ?_
 rintro m env_b st_b ⟨i,rfl,yN,lK,b2,b3,bg,bn,gh⟩ bkp
 have b0:=bkp 0 (by kernel_rfl)
 simp only[go_sem, ↓reduceIte,Nat.reduceEqDiff,Nat.reduceAdd,Nat.reduceSub,Nat.reduceLeDiff,reduceCtorEq]at b0
 clear bkp
 have tl:=gp (l9 l i) l.length
 have qf:=dr (i:=o) (n:=st_b.next) (by omega)
 by_cases hi:(i:Int)<(l.length:Int)-1-i
 ·have fw:i<l.length:=by omega
  obtain⟨j,hj⟩:∃j,j=l.length-1-i:=⟨_,rfl⟩
  have iL:j<l.length:=by omega
  have LN:(l.length:Int)-1-i=(j:Int):=by omega
  rw[LN]at b3 hi
  have g1:=ft (f:=l9 l i) fw
  have g2:=ft (f:=l9 l i) iL
  have e1:l9 l i i=l.getD i 0:=by unfold l9;rw[if_neg (by omega)]
  have e2:l9 l i j=l.getD j 0:=by unfold l9;rw[if_neg (by omega)]
  have Nn:(dG (l9 l i) l.length).set i (eN (l.getD j 0))=dG (fun x=>if x=i then l.getD j 0 else l9 l i x) l.length:=p4 fw (if_pos rfl) fun x _ hx=>if_neg hx
  have Jl:(dG (fun x=>if x=i then l.getD j 0 else l9 l i x) l.length).set j (eN (l.getD i 0))=dG (l9 l (i+1)) l.length:=p4 iL (by unfold l9;rw[if_pos (by omega)];congr 1;omega) fun x hx Qw=>by
   by_cases Db:x=i
   ·rw[if_pos Db];unfold l9;rw[if_pos (by omega)];congr 1;omega
   ·rw[if_neg Db];unfold l9
    by_cases hc:x<i∨l.length-i<=x
    ·rw[if_pos hc,if_pos (by omega)]
    ·rw[if_neg hc,if_neg (by omega)]
  have TE:=gp (fun x=>if x=i then l.getD j 0 else l9 l i x) l.length
  have g3:=ft (f:=fun x=>if x=i then l.getD j 0 else l9 l i x) iL
  rw[e1]at g1
  rw[e2]at g2
  rw[if_neg (by omega),e2]at g3
  rw[eN]at g1 g2 g3 Nn Jl
  have hii:(i:Int)<(l.length:Int):=by omega
  have mV:(j:Int)<(l.length:Int):=by omega
  have jq:IntKind.i64.wrap ((i:Int)+1)=((i+1:Nat):Int):=aA (by omega)
  have jJ:IntKind.i64.wrap ((j:Int)-1)=(l.length:Int)-1-((i+1:Nat):Int):=by rw[bz (by omega)];omega
  (try((repeat(revert hN;revert N;apply Pn.out));refine wk (tw @b0 (tw @b2 (tw @b3 (tw @bg (tw @hi (tw @hii (tw @mV (tw @g1 (tw @g2 (tw @g3 (tw @Nn (tw @Jl (tw @tl (tw @TE (tw @qf (tw @jq @jJ)))))))))))))))) ?_;(repeat(refine Pn.mk ?_;intro N hN))))
  refine⟨_,?_,i+1,rfl,by omega,by omega,sd @jq,sd @jJ,sd @Jl,by(try dsimp only);omega,fun x hx HV=>?_⟩
  ·omega
  ·have:=gh x hx HV
   simp only[go_sem, ↓reduceIte,Nat.reduceEqDiff,Nat.reduceAdd,Nat.reduceSub,Nat.reduceLeDiff,reduceCtorEq,HV,this]
 ·rw[J9 l (by omega) lK]at bg
  (try((repeat(revert hN;revert N;apply Pn.out));refine wk (tw @b0 (tw @b2 (tw @b3 (tw @bg @hi)))) ?_;(repeat(refine Pn.mk ?_;intro N hN))))
  exact e9 (.inr rfl) (vs:=[]) (by simp only[fu,go_sem, ↓reduceIte,Nat.reduceEqDiff,Nat.reduceAdd,Nat.reduceSub,Nat.reduceLeDiff,reduceCtorEq]) ⟨bg,by(try dsimp only);omega,gh⟩
theorem Sq (cnt:Nat) (vh:1<=cnt) (hn:cnt<=1048576) (c f:Nat->Nat->Int) (x y:Nat) (hx:x<cnt) (hy:y<cnt):
  mj Tryz.prog 301 [.di (lI cnt c f),.int .i64 x,.int .i64 y] fun r=>(r=.bl/\∃S:Nat->Bool,S x=true/\S y=false/\∀u v,u<cnt->v<cnt->S u=true->S v=false->¬f u v<c u v)∨∃p:List Nat,r=.sl (p.map eN)/\QL cnt c f x y p:=by
 refine mj.body dX rfl fun hl n0=>?_
 clear hl
 have lM:=xz c cnt
 have jQ:(0:Int)<=(cnt:Int):=by omega
 have Db:(x:Int)<(cnt:Int):=by omega
 have Tz:(y:Int)<(cnt:Int):=by omega
 (try((repeat(revert hN;revert N;apply Pn.out));refine wk (tw @lI.eq_1 @lM) ?_;(repeat(refine Pn.mk ?_;intro N hN))))
 refine .inr (aC _ _ _ _ _ (fun r σ1 hq=>?_) (J7 cnt vh hn (-1) ⟨301002000,n0+1+1⟩ _ (sd @Nat.zero_add) (by(try dsimp only);omega)))
 obtain⟨o,rfl,ho,LV,LW,jG⟩:=hq
 (try dsimp only at ho LV LW jG)
 refine hN _ _ ?_
 clear hN N
 have qf:=dr LW
 have qm:(cnt:Int)<=1048576:=by omega
 have Rf:qF<qF+cnt:=by omega
 have gN:List.replicate cnt [AV.int .i64 (-1)]=dW (fun _=>-1) cnt:=by
  refine List.ext_getElem? fun i=>?_
  by_cases h:i<cnt
  ·rw[dO h,List.getElem?_replicate,if_pos h];rfl
  ·rw[List.getElem?_eq_none (by simp;omega),List.getElem?_eq_none (by rw[dB];omega)]
 rw[gN]at ho
 have B4:(dW (fun _=>-1) cnt).set x (bh (x:Int))=dW (fun v=>if v=x then(x:Int)else -1) cnt:=lk hx (if_pos rfl) fun v _ hv=>if_neg hv
 have hg0:=dO (f:=fun _=>-1) hx
 have tl0:=dB (fun _=>-1) cnt
 rw[bh]at B4 hg0
 (try((repeat(revert hN;revert N;apply Pn.out));refine wk (tw @lI.eq_1 (tw @lM (tw @jQ (tw @qm @qf)))) ?_;(repeat(refine Pn.mk ?_;intro N hN))))
 refine KI ?_
 simp only[go_sem, ↓reduceIte,Nat.reduceEqDiff,Nat.reduceAdd,Nat.reduceSub,Nat.reduceLeDiff,reduceCtorEq,Rf]
 refine hN _ _ ?_
 clear hN N
 (try((repeat(revert hN;revert N;apply Pn.out));refine wk (tw @ho (tw @qf (tw @B4 (tw @hg0 (tw @tl0 @Db))))) ?_;(repeat(refine Pn.mk ?_;intro N hN))))
 obtain⟨C,hC⟩:∃C:Id,C=⟨301003001,σ1.next+1⟩:=⟨_,rfl⟩
 have Rz:=cz (a:=o) (b:=C) (by rw[hC];(try dsimp only);omega)
 have hCv:C.ck=σ1.next+1:=by rw[hC]
 refine aU (fun m env st=>∃(par:Nat->Int) (Q:List Nat) (i:Nat),m=cnt-i/\Bq cnt c f x par Q i/\st.get o=some ⟨true,1,dW par cnt⟩/\st.get C=some ⟨true,qF+cnt,(Q.drop i).map eN⟩/\σ1.next+1<st.next) cnt ⟨_,[x],0,rfl,Bq.start hx,sd @qf,by rw[hC];simp only[go_sem, ↓reduceIte,Nat.reduceEqDiff,Nat.reduceAdd,Nat.reduceSub,Nat.reduceLeDiff,reduceCtorEq,qf];rfl,by(try dsimp only);omega⟩ ?_
 rintro m env_b st_b ⟨par,Q,i,rfl,hB,bgo,bgC,bn⟩ bkp
 have b0:=bkp 0 (by kernel_rfl)
 have b1:=bkp 1 (by kernel_rfl)
 have b2:=bkp 2 (by kernel_rfl)
 have b7:=bkp 7 (by kernel_rfl)
 have b8:=bkp 8 (by kernel_rfl)
 have b9:=bkp 9 (by kernel_rfl)
 rw[<-hC]at b9
 simp only[go_sem, ↓reduceIte,Nat.reduceEqDiff,Nat.reduceAdd,Nat.reduceSub,Nat.reduceLeDiff,reduceCtorEq]at b0 b1 b2 b7 b8 b9
 clear bkp
 have hQn:=hB.len
 have lK:=hB.ile
 have Tb:((Q.drop i).map eN).length=Q.length-i:=by simp
 by_cases hi:i<Q.length
 ·have kz:(0:Int)<((Q.length-i:Nat):Int):=by omega
  have sM:Q.drop i=Q[i]::Q.drop (i+1):=List.drop_eq_getElem_cons hi
  obtain⟨u,hu⟩:∃u,u=Q[i]:=⟨_,rfl⟩
  have hun:u<cnt:=by rw[hu];exact hB.lt _ (List.getElem_mem hi)
  rw[<-hu]at sM
  (try((repeat(revert hN;revert N;apply Pn.out));refine wk (tw @b0 (tw @b1 (tw @b2 (tw @b7 (tw @b8 (tw @b9 (tw @bgC (tw @Tb @kz)))))))) ?_;(repeat(refine Pn.mk ?_;intro N hN))))
  refine KI ?_
  rw[sM,List.map_cons,show eN u=[.int .i64 (u:Int)]from rfl]at bgC
  simp only[go_sem, ↓reduceIte,Nat.reduceEqDiff,Nat.reduceAdd,Nat.reduceSub,Nat.reduceLeDiff,reduceCtorEq,b9,bgC]
  refine hN _ _ ?_
  clear hN N
  (try((repeat(revert hN;revert N;apply Pn.out));refine wk @b7 ?_;(repeat(refine Pn.mk ?_;intro N hN))))
  refine aU (fun m env st=>∃(v:Nat) (par':Nat->Int) (Q':List Nat),m=cnt-v/\v<=cnt/\env 36=.int .i64 (v:Int)/\Bq cnt c f x par' Q' i/\(∃h:i<Q'.length,Q'[i]=u)/\st.get o=some ⟨true,1,dW par' cnt⟩/\st.get C=some ⟨true,qF+cnt,(Q'.drop (i+1)).map eN⟩/\σ1.next+1<st.next/\∀w,w<v->f u w<c u w->0<=par' w) cnt ⟨0,par,Q,rfl,Nat.zero_le _,by(simp only[go_sem, ↓reduceIte,Nat.reduceEqDiff,Nat.reduceAdd,Nat.reduceSub,Nat.reduceLeDiff,reduceCtorEq])<;>rfl,hB,⟨hi,hu.symm⟩,sd (tw @Rz @bgo),sd @Rz,by(try dsimp only);omega,fun w hw=>absurd hw (Nat.not_lt_zero w)⟩ ?_
  rintro m env_c st_c ⟨v,par',Q',rfl,hvn,c36,dz,⟨rl,FD⟩,yz,cgC,cn,dD⟩ ckp
  have c0:=ckp 0 (by kernel_rfl)
  have c1:=ckp 1 (by kernel_rfl)
  have c2:=ckp 2 (by kernel_rfl)
  have c7:=ckp 7 (by kernel_rfl)
  have c8:=ckp 8 (by kernel_rfl)
  have c9:=ckp 9 (by kernel_rfl)
  have jF:=ckp 10 (by kernel_rfl)
  have NX:=ckp 35 (by kernel_rfl)
  simp only[go_sem, ↓reduceIte,Nat.reduceEqDiff,Nat.reduceAdd,Nat.reduceSub,Nat.reduceLeDiff,reduceCtorEq,b0,b1,b2,b7,b8,b9]at c0 c1 c2 c7 c8 c9 jF NX
  clear ckp
  have tl:=dB par' cnt
  by_cases hv:(v:Int)<(cnt:Int)
  ·have DY:v<cnt:=by omega
   have OJ:=dO (f:=par') DY
   have jG:=Oe cnt c f u v hun DY
   have hw:IntKind.i64.wrap ((v:Int)+1)=((v+1:Nat):Int):=aA (by omega)
   rw[bh]at OJ
   rw[lI]at jG
   by_cases kf:par' v<0
   ·by_cases hr:f u v<c u v
    ·rw[decide_eq_true hr]at jG
     have eE:(dW par' cnt).set v (bh (u:Int))=dW (fun w=>if w=v then(u:Int)else par' w) cnt:=lk DY (if_pos rfl) fun w _ hw=>if_neg hw
     rw[bh]at eE
     have qc:=dz.visit rl DY kf (by rw[FD];exact hr)
     rw[FD]at qc
     have hQ2:=qc.len
     rw[List.length_append]at hQ2
     simp only[List.length_singleton]at hQ2
     have fV:qF+(Q'.drop (i+1)).length<qF+cnt:=by rw[List.length_drop];omega
     (repeat(first|((repeat(revert hN;revert N;apply Pn.out));refine wk (tw @lI.eq_1 (tw @c0 (tw @c7 (tw @c8 (tw @c9 (tw @jF (tw @c36 (tw @NX (tw @hv (tw @yz (tw @OJ (tw @tl (tw @kf @eE))))))))))))) ?_;(repeat(refine Pn.mk ?_;intro N hN)))|((try apply Or.inl);refine⟨_,aq.x (jG) (sd (tw @lI.eq_1 (tw @c0 (tw @c7 (tw @c8 (tw @c9 (tw @jF (tw @c36 (tw @NX (tw @hv (tw @yz (tw @OJ (tw @tl (tw @kf @eE)))))))))))))),?_⟩;refine hN _ _ ?_;clear hN N)))
     refine KI ?_
     have hq:(Q'.drop (i+1)).map eN++[[.int .i64 (v:Int)]]=((Q'++[v]).drop (i+1)).map eN:=by rw[List.drop_append_of_le_length (by omega),List.map_append];rfl
     simp only[go_sem, ↓reduceIte,Nat.reduceEqDiff,Nat.reduceAdd,Nat.reduceSub,Nat.reduceLeDiff,reduceCtorEq,c9,cgC,fV,Rz,hq]
     refine hN _ _ ?_
     clear hN N
     (try((repeat(revert hN;revert N;apply Pn.out));refine wk (tw @c36 @hw) ?_;(repeat(refine Pn.mk ?_;intro N hN))))
     refine⟨_,?_,v+1,_,_,rfl,DY,sd @hw,qc,⟨by rw[List.length_append];omega,by rw[List.getElem_append_left rl];exact FD⟩,sd @Rz,sd @Rz,by(try dsimp only);omega,fun w hw Jk=>?_⟩
     ·omega
     ·by_cases FE:w=v
      ·rw[if_pos FE];omega
      ·rw[if_neg FE];exact dD w (by omega) Jk
    ·rw[decide_eq_false hr]at jG
     (repeat(first|((repeat(revert hN;revert N;apply Pn.out));refine wk (tw @lI.eq_1 (tw @c0 (tw @c7 (tw @c8 (tw @c9 (tw @jF (tw @c36 (tw @NX (tw @hv (tw @yz (tw @OJ (tw @tl (tw @kf @hw))))))))))))) ?_;(repeat(refine Pn.mk ?_;intro N hN)))|((try apply Or.inl);refine⟨_,aq.x (jG) (sd (tw @lI.eq_1 (tw @c0 (tw @c7 (tw @c8 (tw @c9 (tw @jF (tw @c36 (tw @NX (tw @hv (tw @yz (tw @OJ (tw @tl (tw @kf @hw)))))))))))))),?_⟩;refine hN _ _ ?_;clear hN N)))
     refine⟨_,?_,v+1,par',Q',rfl,DY,sd @hw,dz,⟨rl,FD⟩,sd @yz,sd @cgC,by(try dsimp only);omega,fun w hw Jk=>?_⟩
     ·omega
     ·by_cases FE:w=v
      ·subst FE;exact absurd Jk hr
      ·exact dD w (by omega) Jk
   ·(try((repeat(revert hN;revert N;apply Pn.out));refine wk (tw @lI.eq_1 (tw @c0 (tw @c7 (tw @c8 (tw @c9 (tw @jF (tw @c36 (tw @NX (tw @hv (tw @yz (tw @OJ (tw @tl (tw @kf @hw))))))))))))) ?_;(repeat(refine Pn.mk ?_;intro N hN))))
    refine⟨_,?_,v+1,par',Q',rfl,DY,sd @hw,dz,⟨rl,FD⟩,sd @yz,sd @cgC,by(try dsimp only);omega,fun w hw Jk=>?_⟩
    ·omega
    ·by_cases FE:w=v
     ·subst FE;omega
     ·exact dD w (by omega) Jk
  ·have hvc:v=cnt:=by omega
   subst hvc
   (try((repeat(revert hN;revert N;apply Pn.out));refine wk (tw @c36 (tw @NX @hv)) ?_;(repeat(refine Pn.mk ?_;intro N hN))))
   refine⟨_,?_,par',Q',i+1,rfl,dz.next rl fun w hw hr=>dD w hw (by rw[<-FD];exact hr),sd @yz,sd @cgC,by(try dsimp only);omega⟩
   omega
 ·have hiQ:i=Q.length:=by omega
  subst hiQ
  have kz:¬(0:Int)<((Q.length-Q.length:Nat):Int):=by omega
  have UQ:=dO (f:=par) hy
  have tl:=dB par cnt
  rw[bh]at UQ
  by_cases kf:par y<0
  ·(try((repeat(revert hN;revert N;apply Pn.out));refine wk (tw @b0 (tw @b1 (tw @b2 (tw @b7 (tw @b8 (tw @b9 (tw @bgC (tw @Tb (tw @kz (tw @bgo (tw @UQ (tw @tl (tw @Tz @kf))))))))))))) ?_;(repeat(refine Pn.mk ?_;intro N hN))))
   exact⟨[.bl],sd @Nat.zero_add,.bl,jw _ _,.inl ⟨rfl,hB.cut hy kf⟩⟩
  ·(try((repeat(revert hN;revert N;apply Pn.out));refine wk (tw @b0 (tw @b1 (tw @b2 (tw @b7 (tw @b8 (tw @b9 (tw @bgC (tw @Tb (tw @kz (tw @bgo (tw @UQ (tw @tl (tw @Tz @kf))))))))))))) ?_;(repeat(refine Pn.mk ?_;intro N hN))))
   refine aU (fun m env st=>∃(k:Nat) (out:List Nat) (p:Id),m=Q.idxOf k/\env 13=.int .i64 (k:Int)/\env 12=.own p 0 out.length/\st.get p=some ⟨true,1,out.map eN⟩/\p.ck<st.next/\st_b.next<=p.ck/\k∈Q/\vH c f Q y k out/\st.get o=some ⟨true,1,dW par cnt⟩) (Q.idxOf y) ⟨y,[y],⟨301017001,st_b.next+1+1⟩,rfl,by(simp only[go_sem, ↓reduceIte,Nat.reduceEqDiff,Nat.reduceAdd,Nat.reduceSub,Nat.reduceLeDiff,reduceCtorEq]),by(simp only[go_sem, ↓reduceIte,Nat.reduceEqDiff,Nat.reduceAdd,Nat.reduceSub,Nat.reduceLeDiff,reduceCtorEq])<;>rfl,by(simp only[go_sem, ↓reduceIte,Nat.reduceEqDiff,Nat.reduceAdd,Nat.reduceSub,Nat.reduceLeDiff,reduceCtorEq])<;>rfl,by(try dsimp only);omega,by(try dsimp only);omega,(hB.iff y hy).1 (by omega),vH.start ((hB.iff y hy).1 (by omega)),by(have Vs:=dr (i:=o) (n:=st_b.next) (by omega));simp only[go_sem, ↓reduceIte,Nat.reduceEqDiff,Nat.reduceAdd,Nat.reduceSub,Nat.reduceLeDiff,reduceCtorEq,Vs,bgo]⟩ ?_
   rintro m env_d st_d ⟨k,out,p,rfl,d13,d12,dgp,dpn,dpo,hkQ,u9,dgo⟩ dkp
   have d1:=dkp 1 (by kernel_rfl)
   have d8:=dkp 8 (by kernel_rfl)
   simp only[go_sem, ↓reduceIte,Nat.reduceEqDiff,Nat.reduceAdd,Nat.reduceSub,Nat.reduceLeDiff,reduceCtorEq,b1,b8]at d1 d8
   clear dkp
   have Be:=dr dpn
   have B6:=dr (i:=o) (n:=st_d.next) (by omega)
   have er:=cz (a:=o) (b:=p) (by omega)
   have LR:=u9.len hB.lt
   have fA:=hB.lt k hkQ
   have lL:(out.map eN).length=out.length:=by simp
   by_cases Tj:k=x
   ·have hd:decide ((k:Int)=(x:Int))=true:=decide_eq_true (by rw[Tj])
    have Vg:0<out.length:=by
     obtain⟨rest,h1,_⟩:=u9
     rw[<-List.length_reverse,h1];simp
    (try((repeat(revert hN;revert N;apply Pn.out));refine wk (tw @d1 (tw @d8 (tw @d12 (tw @d13 (tw @hd @Bool.not_true))))) ?_;(repeat(refine Pn.mk ?_;intro N hN))))
    refine .inr (aC _ _ _ _ _ (fun r σ2 hq=>?_) (Hk out Vg (by omega) p _ dgp (by(try dsimp only);omega)))
    obtain⟨Rn,nr,I6⟩:=hq
    refine hN _ _ ?_
    clear hN N
    (try((repeat(revert hN;revert N;apply Pn.out));refine wk @d12 ?_;(repeat(refine Pn.mk ?_;intro N hN))))
    refine⟨[.own p 0 out.length],sd @d12,.sl (out.reverse.map eN),?_,.inr ⟨out.reverse,rfl,by subst Tj;exact u9.way hB.lt⟩⟩
    exact fj (sz:=1) Rn (by simp) fun a=>Og _ 4 a
   ·have hd:decide ((k:Int)=(x:Int))=false:=decide_eq_false fun h=>Tj (by omega)
    obtain⟨u,huQ,hpu,Ad,hr⟩:=hB.up k hkQ Tj
    have eR:=dO (f:=par) fA
    rw[bh,hpu]at eR
    have hki:(k:Int)<(cnt:Int):=by omega
    have e1:out.length+1<=16777216:=by omega
    (try((repeat(revert hN;revert N;apply Pn.out));refine wk (tw @d1 (tw @d8 (tw @d12 (tw @d13 (tw @hd (tw @Bool.not_false (tw @dgo (tw @dgp (tw @eR (tw @tl (tw @hki (tw @Be (tw @B6 (tw @er (tw @lL @e1))))))))))))))) ?_;(repeat(refine Pn.mk ?_;intro N hN))))
    refine⟨_,Ad,u,out++[u],⟨301021003,st_d.next+1+1⟩,rfl,sd @Nat.zero_add,by rw[List.length_append];simp only[go_sem, ↓reduceIte,Nat.reduceEqDiff,Nat.reduceAdd,Nat.reduceSub,Nat.reduceLeDiff,reduceCtorEq,List.length_cons,List.length_nil],by rw[List.map_append,List.map_cons,List.map_nil];simp only[go_sem, ↓reduceIte,Nat.reduceEqDiff,Nat.reduceAdd,Nat.reduceSub,Nat.reduceLeDiff,reduceCtorEq,eN],by(try dsimp only);omega,by(try dsimp only);omega,huQ,u9.step huQ Ad hr,sd (tw @B6 (tw @er @dgo))⟩
theorem Bo (b:Nat):∀(l:List Nat) (a:Nat) (f:Nat->Nat->Int),mo f ((a::l)++[b])=kF (mo f (a::l)) ((a::l).getLast (by simp)) b
 |[],a,f=>rfl
 |c::l,a,f=>by
  rw[List.cons_append,List.cons_append,mo,<-List.cons_append,Bo b l c (kF f a c),mo,List.getLast_cons_cons]
theorem Gb {p:List Nat} {f:Nat->Nat->Int} {i:Nat} (h1:1<=i) (hi:i<p.length):mo f (p.take (i+1))=kF (mo f (p.take i)) (p[i-1]'(by omega)) p[i]:=by
 rw[List.take_succ_eq_append_getElem hi]
 have gZ:p.take i≠[]:=by
  intro h
  have:(p.take i).length=0:=by rw[h];rfl
  rw[List.length_take]at this;omega
 obtain⟨a,l,S4⟩:∃a l,p.take i=a::l:=by
  cases h:p.take i with
  |nil=>exact absurd h gZ
  |cons a l=>exact⟨a,l,rfl⟩
 have wJ:(p.take i).getLast gZ=p[i-1]'(by omega):=by
  rw[List.getLast_eq_getElem,List.getElem_take]
  congr 1
  rw[List.length_take];omega
 simp only[S4]at wJ ⊢
 rw[Bo,wJ]
theorem Hg (f:Nat->Nat->Int) (a b u v:Nat):kF f a b u v<=f u v+1/\f u v-1<=kF f a b u v:=by
 unfold kF bump
 split<;>split<;>constructor<;>omega
theorem mu:∀(p:List Nat) (f:Nat->Nat->Int) (u v:Nat),mo f p u v<=f u v+p.length/\f u v-p.length<=mo f p u v
 |[],f,u,v=>by simp[mo]
 |[_],f,u,v=>by simp[mo];omega
 |a::b::r,f,u,v=>by
  rw[mo]
  have h1:=mu (b::r) (kF f a b) u v
  have h2:=Hg f a b u v
  simp only[List.length_cons]at h1 ⊢
  omega
theorem nR.push {g g':Rows} {X o1 o2:Id} {R1 R2:Nat->Id} {n nb:Nat} {c f:Nat->Nat->Int} (I:F6 X o1 o2 R1 R2 n nb) (h:nR g X o1 o2 R1 R2 n c f) {a b:Nat} (ha:a<n) (hb:b<n) (qM:a≠b) (hA:g' (R2 a)=some ⟨true,1,dW (bump f a b 1 a) n⟩) (hB:g' (R2 b)=some ⟨true,1,dW (bump (bump f a b 1) b a (-1) b) n⟩) (hf:∀i:Id,i.ck<nb->(i=R2 a)=False->(i=R2 b)=False->g' i=g i):nR g' X o1 o2 R1 R2 n c (kF f a b):=by
 have ne:∀{i:Id} {s:Nat},i.site=s->(s==299005006)=false->∀a,a<n->(i=R2 a)=False:=fun {i s} hi hs a ha=>by
  simp only[eq_iff_iff,iff_false]
  rintro rfl
  rw[I.Ny a ha]at hi
  subst hi
  simp at hs
 refine⟨(hf _ I.vx (ne I.sx (by decide) _ ha) (ne I.sx (by decide) _ hb)).trans h.x,(hf _ I.v1 (ne I.s1 (by decide) _ ha) (ne I.s1 (by decide) _ hb)).trans h.t1,(hf _ I.v2 (ne I.s2 (by decide) _ ha) (ne I.s2 (by decide) _ hb)).trans h.t2,fun i hi=>(hf _ (I.TF i hi) (ne (I.TD i hi) (by decide) _ ha) (ne (I.TD i hi) (by decide) _ hb)).trans (h.r1 i hi),fun i hi=>?_⟩
 by_cases K1:i=b
 ·subst K1;exact hB
 ·by_cases OL:i=a
  ·subst OL
   rw[hA,kF,kb K1]
  ·rw[kF,kb K1,kb OL,hf _ (I.QG i hi) (by simp only[eq_iff_iff,iff_false];exact fun he=>OL (I.i2 i _ hi ha he)) (by simp only[eq_iff_iff,iff_false];exact fun he=>K1 (I.i2 i _ hi hb he))]
   exact h.r2 i hi
theorem Py (cnt:Nat) (vh:1<=cnt) (hn:cnt<=1048576) (c:Nat->Nat->Int) (hc:∀u v,u<cnt->v<cnt->0<=c u v/\c u v<=16777216) (x y:Nat) (hx:x<cnt) (hy:y<cnt) (RU:x≠y) (t:Int) (ht:t<=1099511627776)
  (X o1 o2:Id) (R1 R2:Nat->Id) (nb:Nat) (I:F6 X o1 o2 R1 R2 cnt nb) (σ:ar) (hM:nR σ.get X o1 o2 R1 R2 cnt c (fun _ _=>0)) (Tn:nb<=σ.next):
  Call Tryz.prog 300 [.ptr X 0 0,.int .i64 x,.int .i64 y,.int .i64 t] σ fun r σ'=>∃val:Int,r=.int .i64 val/\(val<t↔∃S:Nat->Bool,S x=true/\S y=false/\mv cnt S c<t)/\σ.next<=σ'.next:=by
 refine eL dX rfl fun hl=>?_
 clear hl
 have hxS:(fun v=>decide (v=x)) x=true:=by simp
 have hyS:(fun v=>decide (v=x)) y=false:=by simp;exact fun h=>RU h.symm
 obtain⟨top,Vo⟩:∃top,top=mv cnt (fun v=>decide (v=x)) c:=⟨_,rfl⟩
 (try((repeat(revert hN;revert N;apply Pn.out));refine wk @Nat.zero_add ?_;(repeat(refine Pn.mk ?_;intro N hN))))
 refine aU (fun m env st=>∃(k:Nat) (f:Nat->Nat->Int),m=(top-k).toNat/\env 9=.int .i64 (k:Int)/\lF cnt c f x y k/\nR st.get X o1 o2 R1 R2 cnt c f/\σ.next<=st.next/\(0<k->(k:Int)<=t)/\∀u v,-((k:Int)*(cnt:Int))<=f u v) (top-0).toNat ⟨0,fun _ _=>0,rfl,by(simp only[go_sem, ↓reduceIte,Nat.reduceEqDiff,Nat.reduceAdd,Nat.reduceSub,Nat.reduceLeDiff,reduceCtorEq])<;>rfl,lF.zero fun u v hu hv=>(hc u v hu hv).1,hM,by(try dsimp only);omega,fun h=>absurd h (Nat.lt_irrefl 0),fun u v=>by simp⟩ ?_
 rintro m env_b st_b ⟨k,f,rfl,b9,hF,bM,bn,bk,blo⟩ bkp
 have b0:=bkp 0 (by kernel_rfl)
 have b1:=bkp 1 (by kernel_rfl)
 have b2:=bkp 2 (by kernel_rfl)
 have b3:=bkp 3 (by kernel_rfl)
 simp only[go_sem, ↓reduceIte,Nat.reduceEqDiff,Nat.reduceAdd,Nat.reduceSub,Nat.reduceLeDiff,reduceCtorEq]at b0 b1 b2 b3
 clear bkp
 have hz:cJ (dJ st_b.get) 6 [.ptr X 0 0,.int .i64 (x:Int),.int .i64 (y:Int)]=some [.di (lI cnt c f),.int .i64 x,.int .i64 y]:=by simp only[ai,aj,bM.fz,aD,Option.map_some]
 (try((repeat(revert hN;revert N;apply Pn.out));refine wk (tw @b0 (tw @b1 (tw @b2 (tw @b3 @b9)))) ?_;(repeat(refine Pn.mk ?_;intro N hN))))
 refine .inr (aC _ _ _ _ _ (fun r σ1 hq=>?_) ((Sq cnt vh hn c f x y hx hy).x mixed hz))
 obtain⟨O0,rfl⟩:=hq
 refine hN _ _ ?_
 clear hN N
 rcases O0 with⟨rfl,S,OD,OE,SY⟩|⟨p,rfl,hW⟩
 ·(try((repeat(revert hN;revert N;apply Pn.out));refine wk (tw @b0 (tw @b1 (tw @b2 (tw @b3 (tw @b9 (tw @Bool.not_true @Bool.not_false)))))) ?_;(repeat(refine Pn.mk ?_;intro N hN))))
  refine e9 (.inl rfl) (vs:=[.int .i64 (k:Int)]) (sd @Nat.zero_add) ⟨(k:Int),rfl,⟨fun h=>⟨S,OD,OE,by rw[<-hF.full OD OE SY];exact h⟩,fun⟨S',h1,h2,h3⟩=>by have:=hF.bound h1 h2;omega⟩,by(try dsimp only);omega⟩
 ·obtain⟨⟨rs,rfl,wJ⟩,mz,fV,hplt⟩:=hW
  by_cases LO:t<=(k:Int)
  ·(try((repeat(revert hN;revert N;apply Pn.out));refine wk (tw @b0 (tw @b1 (tw @b2 (tw @b3 (tw @b9 (tw @LO (tw @Bool.not_true @Bool.not_false))))))) ?_;(repeat(refine Pn.mk ?_;intro N hN))))
   refine e9 (.inl rfl) (vs:=[.int .i64 (k:Int)]) (sd @Nat.zero_add) ⟨(k:Int),rfl,⟨fun h=>by omega,fun⟨S',h1,h2,h3⟩=>by have:=hF.bound h1 h2;omega⟩,by(try dsimp only);omega⟩
  ·(try((repeat(revert hN;revert N;apply Pn.out));refine wk (tw @b0 (tw @b1 (tw @b2 (tw @b3 (tw @b9 (tw @LO (tw @Bool.not_true @Bool.not_false))))))) ?_;(repeat(refine Pn.mk ?_;intro N hN))))
   have mi:=o9 cnt _ mz hplt
   have hkc:(k:Int)*(cnt:Int)<=1099511627776*1048576:=Int.mul_le_mul (by omega) (by omega) (by omega) (by omega)
   have hfb:=hF.bound (S:=fun v=>decide (v=x)) hxS hyS
   have hnear:=mu
   obtain⟨p,hp⟩:∃p,p=x::rs:=⟨_,rfl⟩
   have hmp:eN x::List.map eN rs=p.map eN:=by rw[hp];rfl
   rw[hmp]
   have OV:1<=p.length:=by rw[hp];simp
   have LC:=hF.aug wJ mz fV hplt
   rw[<-hp]at LC mz fV hplt mi
   have O7:p.take 1=[x]:=by rw[hp];rfl
   clear hmp wJ
   refine aU (fun m env st=>∃i:Nat,m=p.length-i/\1<=i/\i<=p.length/\env 11=.int .i64 (i:Int)/\nR st.get X o1 o2 R1 R2 cnt c (mo f (p.take i))/\st_b.next<=st.next) (p.length-1) ⟨1,rfl,Nat.le_refl _,OV,by(simp only[go_sem, ↓reduceIte,Nat.reduceEqDiff,Nat.reduceAdd,Nat.reduceSub,Nat.reduceLeDiff,reduceCtorEq])<;>rfl,by rw[O7];exact bM,by(try dsimp only);omega⟩ ?_
   rintro m env_c st_c ⟨i,rfl,LL,lK,nW,cM,cn⟩ ckp
   have c0:=ckp 0 (by kernel_rfl)
   have c1:=ckp 1 (by kernel_rfl)
   have c2:=ckp 2 (by kernel_rfl)
   have c3:=ckp 3 (by kernel_rfl)
   have c9:=ckp 9 (by kernel_rfl)
   have jF:=ckp 10 (by kernel_rfl)
   simp only[go_sem, ↓reduceIte,Nat.reduceEqDiff,Nat.reduceAdd,Nat.reduceSub,Nat.reduceLeDiff,reduceCtorEq,b0,b1,b2,b3,b9]at c0 c1 c2 c3 c9 jF
   clear ckp
   have lL:(p.map eN).length=p.length:=by simp
   by_cases hi:(i:Int)<(p.length:Int)
   ·have fw:i<p.length:=by omega
    have ya:=Gb (f:=f) LL fw
    obtain⟨a,ha⟩:∃a,a=p[i-1]'(by omega):=⟨_,rfl⟩
    obtain⟨b,hb⟩:∃b,b=p[i]:=⟨_,rfl⟩
    have Fq:a<cnt:=by rw[ha];exact hplt _ (List.getElem_mem _)
    have Ft:b<cnt:=by rw[hb];exact hplt _ (List.getElem_mem _)
    have qM:a≠b:=by
     rw[ha,hb]
     exact List.pairwise_iff_getElem.1 mz (i-1) i (by omega) fw (by omega)
    have Ro:(p.map eN)[i-1]? =some [.int .i64 (a:Int)]:=by rw[List.getElem?_map,List.getElem?_eq_getElem (by omega),ha];rfl
    have Rp:(p.map eN)[i]? =some [.int .i64 (b:Int)]:=by rw[List.getElem?_map,List.getElem?_eq_getElem fw,hb];rfl
    rw[<-ha,<-hb]at ya
    have U4:=mu (p.take i) f a b
    have U5:=mu (p.take i) f b a
    rw[List.length_take]at U4 U5
    have hl1:=blo b a
    have UU:=blo a b
    have RM:=hF.le a b Fq Ft
    have hu2:=hF.le b a Ft Fq
    have hca:=hc a b Fq Ft
    have Fu:=hc b a Ft Fq
    generalize mo f (p.take i)=fl at *
    have gA:=sC (R:=R2) (n:=cnt) Fq
    have gB:=sC (R:=R2) (n:=cnt) Ft
    have rA:=cM.r2 _ Fq
    have rB:=cM.r2 _ Ft
    have cA:=dO (f:=fl a) Ft
    have cB:=dO (f:=fl b) Fq
    have sA:=oJ (f:=fl) (a:=a) (d:=1) Ft
    have OS:bump fl a b 1 b=fl b:=kb fun h=>qM h.symm
    have sB:=oJ (f:=bump fl a b 1) (a:=b) (b:=a) (d:=-1) (n:=cnt) Fq
    rw[OS]at sB
    have gX:=cM.x
    have g2:=cM.t2
    have gM:(a:Int)<(cnt:Int):=by omega
    have fR:(b:Int)<(cnt:Int):=by omega
    have Tw:IntKind.i64.wrap ((i:Int)-1)=((i-1:Nat):Int):=by rw[bz (by omega)];omega
    have yN:((i-1:Nat):Int)<(p.length:Int):=by omega
    have wA:IntKind.i64.wrap (fl a b+1)=fl a b+1:=bz (by omega)
    have wB:IntKind.i64.wrap (fl b a-1)=fl b a+-1:=by rw[bz (by omega)];omega
    have RS:IntKind.i64.wrap ((i:Int)+1)=((i+1:Nat):Int):=aA (by omega)
    have l2:=kj R2 cnt cnt
    have lA:=dB (fl a) cnt
    have lB:=dB (fl b) cnt
    have gZ:(R2 a=R2 b)=False:=by simp only[eq_iff_iff,iff_false];exact fun h=>qM (I.i2 _ _ Fq Ft h)
    have Jc:(R2 b=R2 a)=False:=by simp only[eq_iff_iff,iff_false];exact fun h=>qM (I.i2 _ _ Fq Ft h.symm)
    have xA:=AL I.sx (I.Ny a Fq) (by decide)
    have xB:=AL I.sx (I.Ny b Ft) (by decide)
    have yA:=AL I.s2 (I.Ny a Fq) (by decide)
    have yB:=AL I.s2 (I.Ny b Ft) (by decide)
    have qX:=dr (i:=X) (n:=st_c.next) (by have:=I.vx;omega)
    have q2:=dr (i:=o2) (n:=st_c.next) (by have:=I.v2;omega)
    have qA:=dr (i:=R2 a) (n:=st_c.next) (by have:=I.QG a Fq;omega)
    have qB:=dr (i:=R2 b) (n:=st_c.next) (by have:=I.QG b Ft;omega)
    rw[bh]at cA cB sA sB
    (try((repeat(revert hN;revert N;apply Pn.out));refine wk (tw @c0 (tw @c9 (tw @jF (tw @nW (tw @lL (tw @hi (tw @yN (tw @Ro (tw @Rp (tw @gA (tw @gB (tw @rA (tw @rB (tw @cA (tw @cB (tw @sA (tw @sB (tw @gX (tw @g2 (tw @gM (tw @fR (tw @Tw (tw @wA (tw @wB (tw @RS (tw @l2 (tw @lA (tw @lB (tw @gZ (tw @Jc (tw @xA (tw @xB (tw @yA (tw @yB (tw @qX (tw @q2 (tw @qA @qB))))))))))))))))))))))))))))))))))))) ?_;(repeat(refine Pn.mk ?_;intro N hN))))
    refine⟨_,?_,i+1,rfl,by omega,by omega,sd @RS,?_,by(try dsimp only);omega⟩
    ·omega
    ·rw[ya]
     refine cM.push I Fq Ft qM ?_ ?_ fun j hj h1 h2=>?_
     ·simp only[go_sem, ↓reduceIte,Nat.reduceEqDiff,Nat.reduceAdd,Nat.reduceSub,Nat.reduceLeDiff,reduceCtorEq,gZ]
     ·simp only[go_sem, ↓reduceIte,Nat.reduceEqDiff,Nat.reduceAdd,Nat.reduceSub,Nat.reduceLeDiff,reduceCtorEq,gZ]
     ·simp only[go_sem, ↓reduceIte,Nat.reduceEqDiff,Nat.reduceAdd,Nat.reduceSub,Nat.reduceLeDiff,reduceCtorEq,h1,h2]
   ·have HP:i=p.length:=by omega
    subst HP
    rw[List.take_length]at cM
    have Pa:IntKind.i64.wrap ((k:Int)+1)=((k+1:Nat):Int):=aA (by omega)
    have UL:=LC.bound (S:=fun v=>decide (v=x)) hxS hyS
    (try((repeat(revert hN;revert N;apply Pn.out));refine wk (tw @c0 (tw @c9 (tw @jF (tw @nW (tw @lL (tw @hi @Pa)))))) ?_;(repeat(refine Pn.mk ?_;intro N hN))))
    refine⟨_,?_,k+1,_,rfl,sd @Pa,by rw[Int.natCast_add];exact LC,cM,by(try dsimp only);omega,fun _=>by omega,fun u v=>?_⟩
    ·rw[<-Vo]at UL;omega
    ·have h1:=(mu p f u v).2
     have h2:=blo u v
     rw[Int.natCast_add,Int.add_mul]
     omega
noncomputable def ud (n:Nat) (bs:List PB) (t:Int):Bool:=@decide (kO n bs t) (Classical.propDecidable _)
theorem yQ {n:Nat} {bs:List PB} {t:Int} (h:kO n bs t):true=ud n bs t:=by simp[ud,h]
theorem BY {n:Nat} {bs:List PB} {t:Int} (h:¬kO n bs t):false=ud n bs t:=by simp[ud,h]
theorem LS (cnt:Nat) (hn:cnt<=1048576) (bs:List PB) (hb:∀b∈bs,b.a<cnt/\b.b<cnt) (dH:∀b∈bs,0<=b.s/\b.s<=4) (ql:bs.length<=1048576) (t:Int) (ht:t<=1099511627776):
  aq Tryz.prog 288 [.int .i64 cnt,.sl (bs.map ay),.int .i64 t] (.bool (ud cnt bs t)):=by
 refine aq.body dX rfl fun hl n0=>?_
 clear hl
 have qN:=AE bs (fun _ _=>0) (fun b h=>(dH b h).1) (fun _ _=>Int.le_refl _)
 have hle:=room_le bs (fun _ _=>0) 0 (fun b h=>(dH b h).2) (fun _ _=>Int.le_refl _) (Int.le_refl _)
 have fV:bs.foldl nU (fun _ _=>0)=lg bs:=rfl
 rw[fV]at qN hle
 (try((repeat(revert hN;revert N;apply Pn.out));refine wk @Nat.zero_add ?_;(repeat(refine Pn.mk ?_;intro N hN))))
 refine aU (fun m env st=>∃y:Nat,m=cnt+1-y/\1<=y/\env 7=.int .i64 (y:Int)/\y<=cnt+1/\∀z,1<=z->z<y->z<cnt->∀S:Nat->Bool,S 0=true->S z=false->t<=jk S bs) (cnt+1-1) ⟨1,rfl,Nat.le_refl _,by(simp only[go_sem, ↓reduceIte,Nat.reduceEqDiff,Nat.reduceAdd,Nat.reduceSub,Nat.reduceLeDiff,reduceCtorEq])<;>rfl,by omega,fun z h1 h2=>by omega⟩ ?_
 rintro m env_b st_b ⟨y,rfl,RV,b7,hyl,dD⟩ bkp
 have b0:=bkp 0 (by kernel_rfl)
 have b1:=bkp 1 (by kernel_rfl)
 have b2:=bkp 2 (by kernel_rfl)
 simp only[go_sem, ↓reduceIte,Nat.reduceEqDiff,Nat.reduceAdd,Nat.reduceSub,Nat.reduceLeDiff,reduceCtorEq]at b0 b1 b2
 clear bkp
 by_cases hy:(y:Int)<(cnt:Int)
 ·have hyn:y<cnt:=by omega
  (try((repeat(revert hN;revert N;apply Pn.out));refine wk (tw @b0 (tw @b1 (tw @b2 (tw @b7 @hy)))) ?_;(repeat(refine Pn.mk ?_;intro N hN))))
  refine .inr (aC _ _ _ _ _ (fun r σ1 hq=>?_) (Cy cnt (by omega) hn bs hb dH ql _))
  obtain⟨X,o1,o2,R1,R2,rfl,I,GH,hM,_⟩:=hq
  refine hN _ _ ?_
  clear hN N
  (try((repeat(revert hN;revert N;apply Pn.out));refine wk (tw @b0 (tw @b1 (tw @b2 @b7))) ?_;(repeat(refine Pn.mk ?_;intro N hN))))
  have RH:=Py cnt (by omega) hn (lg bs) (fun u v _ _=>⟨qN u v,by have:=hle u v;omega⟩) 0 y (by omega) hyn (by omega) t ht X o1 o2 R1 R2 σ1.next I
  refine .inr (aC _ _ _ _ _ (fun r σ2 hq=>?_) (RH _ hM (by(try dsimp only);omega)))
  obtain⟨val,rfl,th,nr⟩:=hq
  refine hN _ _ ?_
  clear hN N
  by_cases dU:val<t
  ·(try((repeat(revert hN;revert N;apply Pn.out));refine wk (tw @b0 (tw @b1 (tw @b2 (tw @b7 @dU)))) ?_;(repeat(refine Pn.mk ?_;intro N hN))))
   obtain⟨S,h1,h2,h3⟩:=th.1 dU
   rw[BB hb]at h3
   exact aW (b:=false) (.inl rfl) (sd @Nat.zero_add) (BY fun h=>by have:=h S h1 ⟨y,hyn,h2⟩;omega)
  ·have hw:IntKind.i64.wrap ((y:Int)+1)=((y+1:Nat):Int):=aA (by omega)
   (try((repeat(revert hN;revert N;apply Pn.out));refine wk (tw @b0 (tw @b1 (tw @b2 (tw @b7 (tw @dU @hw))))) ?_;(repeat(refine Pn.mk ?_;intro N hN))))
   refine⟨_,?_,y+1,rfl,by omega,sd (tw @b7 @hw),by omega,fun z h1 h2 h3 S OD OE=>?_⟩
   ·omega
   ·by_cases hzy:z=y
    ·subst hzy
     rcases Int.lt_or_le (jk S bs) t with h|h
     ·exact absurd (th.2 ⟨S,OD,OE,by rw[BB hb];exact h⟩) dU
     ·exact h
    ·exact dD z h1 (by omega) h3 S OD OE
 ·(try((repeat(revert hN;revert N;apply Pn.out));refine wk (tw @b0 (tw @b1 (tw @b2 (tw @b7 @hy)))) ?_;(repeat(refine Pn.mk ?_;intro N hN))))
  exact aW (b:=true) (.inl rfl) (sd @Nat.zero_add) (yQ fun S h0 ⟨z,hz,Qz⟩=>by
   have:z≠0:=by rintro rfl;rw[h0]at Qz;cases Qz
   exact dD z (by omega) (by omega) hz S h0 Qz)
theorem Jd (cnt:Nat) (hn:cnt<=1048576) (bs:List PB) (hb:∀b∈bs,b.a<cnt/\b.b<cnt) (dH:∀b∈bs,0<=b.s/\b.s<=4) (ql:bs.length<=1048576) (t:Int) (ht:t<=1099511627776):
  aq Tryz.prog 288 [.int .i64 cnt,AI bs,.int .i64 t] (.bool (ud cnt bs t)):=by
 have h:=LS cnt hn bs hb dH ql t ht
 cases bs with
 |nil=>exact h.cut mixed (.same _ (.bl (.same _ .nil)))
 |cons b r=>rw[AJ (by simp)];exact h
def Dc:Prop:=∀(s:aw) (l:List ad),iw s->jj s l->aq Tryz.prog 205 [.agg (ab s),.agg [.sl (l.map aa)]] (AI (cL s l))
noncomputable def vn (s:aw) (l:List ad) (t:Int):Bool:=if 64<iy s l t then false else ud (iy s l t) (du (eD (aL t (cL s l))) (cL s l)) t
theorem D6 (s:aw) (l:List ad) (t:Int):vn s l t=nQ s l t:=by
 letI:=Classical.propDecidable (pE l.length (cL s l) t)
 unfold vn
 by_cases h:64<iy s l t
 ·rw[if_pos h]
  exact(mM (p:=False) ⟨False.elim,fun k=>by have:=k.1;unfold iy at h;omega⟩).symm.trans (by simp) |>.symm
 ·rw[if_neg h]
  by_cases hp:kO (iy s l t) (du (eD (aL t (cL s l))) (cL s l)) t
  ·rw[<-yQ hp]
   exact((mM (p:=True) ⟨fun _=>⟨by unfold iy at h;omega,hp⟩,fun _=>trivial⟩).symm.trans (by simp)).symm
  ·rw[<-BY hp]
   exact((mM (p:=False) ⟨False.elim,fun k=>hp k.2⟩).symm.trans (by simp)).symm
theorem Kh (Uc:Dc) (s:aw) (l:List ad) (t:Int) (ht:t<=1099511627776) (h1:1<=l.length) (hS:iw s) (hA:jj s l):aq Tryz.prog 241 [.agg (ab s),.agg [.sl (l.map aa)],.int .i64 t] (.gD [.bool (nQ s l t),.bool (decide ¬64<iy s l t)]):=by
 rw[<-D6]
 refine aq.body dX rfl fun hl n0=>?_
 clear hl
 have hb:=yu (l:=l) hS
 have ql:=qu (s:=s) hA.1
 have I4:=hA.1.rP
 have xK:=Uc s l hS hA
 have Rf:=zR l.length h1 (by omega) (cL s l) (fun b h=>⟨(hb b h).1,(hb b h).2.1⟩) (by omega) t
 have hL:=uh (aL t (cL s l))
 have fw:=EB hL (fun b h=>⟨(hb b h).1,(hb b h).2.1⟩)
 have hlen:=(nA (eD (aL t (cL s l))) (cL s l)).1
 have nq:=jW l.length (eD (aL t (cL s l)))
 have hho:=Jd (iy s l t) (by unfold iy;omega) (du (eD (aL t (cL s l))) (cL s l)) (fun b h=>⟨(fw b h).1,(fw b h).2.1⟩) (fun b h=>by
  obtain⟨_,_,_,c,hc,dt⟩:=fw b h
  rw[dt];have:=hb c hc;omega) (by omega) t ht
 have fS:(l.map aa).length=l.length:=by simp
 have hzB:∀(g:Rows) (n:Nat) (bs:List PB),V.fz g (n+1) (AI bs)=some (AI bs):=fun g n bs=>by
  unfold AI;split
  ·exact aT _ _
  ·exact cq _ _ _
 rw[ab]at xK
 rw[<-iy]at Rf
 have yU:∀(g:Rows) (x:Int),cJ (dJ g) 6 [.int .i64 l.length,AI (cL s l),.int .i64 x]=some [.int .i64 l.length,AI (cL s l),.int .i64 x]:=fun g x=>by simp only[ai,aj,aD,hzB,Option.map_some]
 have hzh:∀(g:Rows) (x y:Int),cJ (dJ g) 6 [.int .i64 x,AI (du (eD (aL t (cL s l))) (cL s l)),.int .i64 y]=some [.int .i64 x,AI (du (eD (aL t (cL s l))) (cL s l)),.int .i64 y]:=fun g x y=>by simp only[ai,aj,aD,hzB,Option.map_some]
 generalize AI (cL s l)=B1 at *
 generalize AI (du (eD (aL t (cL s l))) (cL s l))=B2 at *
 by_cases uD:(64:Int)<(iy s l t:Int)
 ·have uE:64<iy s l t:=by omega
  (repeat(first|((repeat(revert hN;revert N;apply Pn.out));refine wk (tw @ab.eq_1 (tw @uD @fS)) ?_;(repeat(refine Pn.mk ?_;intro N hN)))|((try apply Or.inl);refine⟨_,aq.x (xK) (sd (tw @ab.eq_1 (tw @uD @fS))),?_⟩;refine hN _ _ ?_;clear hN N)))
  refine⟨_,aq.x Rf (yU _ _),?_⟩
  refine hN _ _ ?_
  clear hN N
  (try((repeat(revert hN;revert N;apply Pn.out));refine wk @uD ?_;(repeat(refine Pn.mk ?_;intro N hN))))
  exact jC (.inl rfl) (r1:=.bool false) (r2:=.bool false) (sd @Nat.zero_add) (sd @Nat.zero_add) (by rw[vn,if_pos uE,decide_eq_false fun h=>h uE];simp only[eS,bB,cw,fK,Option.map_some])
 ·have uE:¬64<iy s l t:=by omega
  (repeat(first|((repeat(revert hN;revert N;apply Pn.out));refine wk (tw @ab.eq_1 (tw @uD @fS)) ?_;(repeat(refine Pn.mk ?_;intro N hN)))|((try apply Or.inl);refine⟨_,aq.x (xK) (sd (tw @ab.eq_1 (tw @uD @fS))),?_⟩;refine hN _ _ ?_;clear hN N)))
  refine⟨_,aq.x Rf (yU _ _),?_⟩
  refine hN _ _ ?_
  clear hN N
  (try((repeat(revert hN;revert N;apply Pn.out));refine wk @uD ?_;(repeat(refine Pn.mk ?_;intro N hN))))
  refine .inl ⟨_,aq.x hho (hzh _ _ _),?_⟩
  refine hN _ _ ?_
  clear hN N
  (try((repeat(revert hN;revert N;apply Pn.out));refine wk @Nat.zero_add ?_;(repeat(refine Pn.mk ?_;intro N hN))))
  exact jC (.inl rfl) (r1:=.bool (ud (iy s l t) (du (eD (aL t (cL s l))) (cL s l)) t)) (r2:=.bool true) (sd @Nat.zero_add) (sd @Nat.zero_add) (by rw[vn,if_neg uE,decide_eq_true uE];simp only[eS,bB,cw,fK,Option.map_some])
theorem uK (t:Int):aq Tryz.prog 132 [.int .i64 t] (.bool (ja t 1 16)):=by
 refine aq.body dX rfl fun hl n0=>?_
 clear hl
 have h:=ll t 1 16
 (repeat(first|((repeat(revert hN;revert N;apply Pn.out));refine wk @Nat.zero_add ?_;(repeat(refine Pn.mk ?_;intro N hN)))|((try apply Or.inl);refine⟨_,aq.x (h) (sd @Nat.zero_add),?_⟩;refine hN _ _ ?_;clear hN N)))
 exact aW (b:=ja t 1 16) (.inl rfl) (sd @Nat.zero_add) rfl
theorem xQ (Uc:Dc) (s:az) (hn:fC s.aH) (hg:s.aH.ax.length<=1048576) (ht:s.aH.ah.length<=1048576) (hs:∀t∈s.aH.ah,t.bx.length<=1048576) (hl:s.aZ.ah.length<=1048576):aq Tryz.prog 97 [.agg (au s)] (.bool (nC s)):=by
 refine aq.body dX rfl fun kp n0=>?_
 clear kp
 by_cases h0:(s.aZ.ah.length:Int)=0
 ·have hd:decide ((s.aZ.ah.length:Int)=0)=true:=decide_eq_true h0
  (try((repeat(revert hN;revert N;apply Pn.out));refine wk (tw @au.eq_1 @hd) ?_;(repeat(refine Pn.mk ?_;intro N hN))))
  exact aW (b:=false) (.inl rfl) (sd @Nat.zero_add) (j8 fun h=>by have:=h.some;omega)
 have hd:decide ((s.aZ.ah.length:Int)=0)=false:=decide_eq_false h0
 have OF:=nH s.aH s.aZ.ah hn hg ht hs hl
 have Q5:=uK s.aB
 have key:aq Tryz.prog 169 [.agg (ab s.aH),.agg [.sl (s.aZ.ah.map aa)],.int .i64 s.aB] (.gD [.bool (nC s),.int .i64 (if rf s.aH&&qa s.aH s.aZ.ah then(if ja s.aB 1 16 then(if 64<iy s.aH s.aZ.ah s.aB then 4 else 0)else 2)else 1)]):=by
  refine aq.body dX rfl fun kp n0=>?_
  clear kp
  rw[ab]at OF
  cases hA:rf s.aH&&qa s.aH s.aZ.ah
  ·rw[hA]at OF
   have lx:nC s=false:=(j8 fun h=>by rw[mL.2 h.set,mm.2 h.xn]at hA;cases hA).symm
   (repeat(first|((repeat(revert hN;revert N;apply Pn.out));refine wk @ab.eq_1 ?_;(repeat(refine Pn.mk ?_;intro N hN)))|((try apply Or.inl);refine⟨_,aq.x (OF) (sd @ab.eq_1),?_⟩;refine hN _ _ ?_;clear hN N)))
   exact jC (.inl rfl) (r1:=.bool false) (r2:=.int .i64 1) (sd @Nat.zero_add) (sd @Nat.zero_add) (by rw[lx];simp only[eS,bB,cw,fK,eG,Option.map_some];rfl)
  rw[hA]at OF
  simp only[Bool.and_eq_true]at hA
  have hS:=mL.1 hA.1
  have hP:=mm.1 hA.2
  cases hT:ja s.aB 1 16
  ·rw[hT]at Q5
   have lx:nC s=false:=(j8 fun h=>by have:=h.Ku;rw[hT]at this;cases this).symm
   (repeat(first|((repeat(revert hN;revert N;apply Pn.out));refine wk @ab.eq_1 ?_;(repeat(refine Pn.mk ?_;intro N hN)))|((try apply Or.inl);refine⟨_,aq.x (OF) (sd @ab.eq_1),?_⟩;refine hN _ _ ?_;clear hN N)|((try apply Or.inl);refine⟨_,aq.x (Q5) (sd @ab.eq_1),?_⟩;refine hN _ _ ?_;clear hN N)))
   exact jC (.inl rfl) (r1:=.bool false) (r2:=.int .i64 2) (sd @Nat.zero_add) (sd @Nat.zero_add) (by rw[lx];simp only[eS,bB,cw,fK,eG,Option.map_some];rfl)
  have L0:=eC hT
  rw[hT]at Q5
  have dH:=Kh Uc s.aH s.aZ.ah s.aB (by omega) (by omega) hS hP
  rw[ab]at dH
  have hsy:nC s=nQ s.aH s.aZ.ah s.aB:=by
   cases hB:nQ s.aH s.aZ.ah s.aB
   ·exact(j8 fun h=>by have:=pV.2 h.holds;rw[hB]at this;cases this).symm
   ·exact(CP ⟨hS,hP,by omega,hT,pV.1 hB⟩).symm
  by_cases uD:64<iy s.aH s.aZ.ah s.aB
  ·rw[decide_eq_false fun h=>h uD]at dH
   have lx:nC s=false:=(j8 fun h=>by have:=h.holds.1;unfold iy at uD;omega).symm
   (repeat(first|((repeat(revert hN;revert N;apply Pn.out));refine wk @ab.eq_1 ?_;(repeat(refine Pn.mk ?_;intro N hN)))|((try apply Or.inl);refine⟨_,aq.x (OF) (sd @ab.eq_1),?_⟩;refine hN _ _ ?_;clear hN N)|((try apply Or.inl);refine⟨_,aq.x (Q5) (sd @ab.eq_1),?_⟩;refine hN _ _ ?_;clear hN N)|((try apply Or.inl);refine⟨_,aq.x (dH) (sd @ab.eq_1),?_⟩;refine hN _ _ ?_;clear hN N)))
   exact jC (.inl rfl) (r1:=.bool false) (r2:=.int .i64 4) (sd @Nat.zero_add) (sd @Nat.zero_add) (by rw[lx,if_pos uD];simp only[eS,bB,cw,fK,eG,Option.map_some])
  ·rw[decide_eq_true uD,<-hsy]at dH
   (repeat(first|((repeat(revert hN;revert N;apply Pn.out));refine wk @ab.eq_1 ?_;(repeat(refine Pn.mk ?_;intro N hN)))|((try apply Or.inl);refine⟨_,aq.x (OF) (sd @ab.eq_1),?_⟩;refine hN _ _ ?_;clear hN N)|((try apply Or.inl);refine⟨_,aq.x (Q5) (sd @ab.eq_1),?_⟩;refine hN _ _ ?_;clear hN N)|((try apply Or.inl);refine⟨_,aq.x (dH) (sd @ab.eq_1),?_⟩;refine hN _ _ ?_;clear hN N)))
   exact jC (.inl rfl) (r1:=.bool (nC s)) (r2:=.int .i64 0) (sd @Nat.zero_add) (sd @Nat.zero_add) (by rw[if_neg uD];simp only[eS,bB,cw,fK,eG,Option.map_some])
 generalize hcode:(if rf s.aH&&qa s.aH s.aZ.ah then(if ja s.aB 1 16 then(if 64<iy s.aH s.aZ.ah s.aB then(4:Int)else 0)else 2)else 1)=code at key
 rw[ab]at key
 cases hB:nC s
 ·rw[hB]at key
  (repeat(first|((repeat(revert hN;revert N;apply Pn.out));refine wk (tw @au.eq_1 @hd) ?_;(repeat(refine Pn.mk ?_;intro N hN)))|((try apply Or.inl);refine⟨_,aq.x (key) (sd (tw @au.eq_1 @hd)),?_⟩;refine hN _ _ ?_;clear hN N)))
  exact aW (b:=false) (.inl rfl) (sd @Nat.zero_add) rfl
 ·rw[hB]at key
  have hP:=xw.1 hB
  have hc:code=0:=by
   rw[<-hcode,mL.2 hP.set,mm.2 hP.xn,hP.Ku]
   have:=hP.holds.1
   simp only[Bool.and_self,if_true]
   rw[if_neg (by unfold iy;omega)]
  rw[hc]at key
  (repeat(first|((repeat(revert hN;revert N;apply Pn.out));refine wk (tw @au.eq_1 @hd) ?_;(repeat(refine Pn.mk ?_;intro N hN)))|((try apply Or.inl);refine⟨_,aq.x (key) (sd (tw @au.eq_1 @hd)),?_⟩;refine hN _ _ ?_;clear hN N)))
  exact aW (b:=true) (.inl rfl) (sd @Nat.zero_add) rfl
end Go.Proofs.YtgoljkjaameagaaGreat.V

namespace Go.Proofs.YtgoljkjaameagaaGreat.V
open Go.RowKit
variable {P:Program} {hs:Nat}
theorem HJ {q n i:Nat} {ops:Array Oper} {Q:Exit->Act->World->Prop} {K K':Act->World->Prop} {a:Act} {w:World} (mz:∀(j:Nat) (o:Oper),ops[j]? =some o->∀c,o.op≠.defer c) (lx:¬LetsOut Q) (hK:∀a w,K a w->K' a w) (h:wpOp P ops Q i K a w):wpOpIn (Fence.wide.inRound q) n P ops Q i K' a w:=by
 unfold wpOp at h
 unfold wpOpIn
 split at h
 ·rename_i ho;simp only[ho];exact hK _ _ h
 ·rename_i o ho
  simp only[ho]
  split at h
  ·rename_i hw
   rw[if_pos hw]
   replace h:=h.resolve_right fun hc=>lx hc.2
   refine⟨fun _ _=>trivial,?_⟩
   rw[Oper.semAt_eq _ _ _ (mz i o ho)]
   unfold Oper.wp at h
   generalize (execOp a.eval o).run P w=r at *
   cases r with
   |ok m w'=>
    cases m<;>simp only[Oper.upon,Oper.uponIn]at h ⊢
    case value=>exact hK _ _ h
    case skip=>exact hK _ _ h
    case defer=>exact hK _ _ h
    case enter f args=>
     refine⟨fun h=>by simp[Fence.wide]at h,CallsIn.inRound q (callsIn_wide.2 (h.mono fun e Lc he=>?_))⟩
     cases e with
     |returned v=>exact hK _ _ he
     |panicked c=>exact he
     |outgrown=>exact he
    case row r args=>exact⟨fun h=>by simp[Fence.wide]at h,fun c cs _=>let ⟨v,Lc,h1,s⟩:=h c cs;⟨v,Lc,hK _ _ h1,stepsIn_wide.2 s⟩⟩
   |halt x w'=>cases x<;>simp only[Oper.upon,Oper.uponIn]at h ⊢;exact h
  ·rename_i hw
   rw[if_neg hw]
   exact⟨fun _ _=>trivial,hK _ _ h⟩
theorem xI {q n:Nat} {md:Region.Mode} {ops:Array Oper} {Q:Exit->Act->World->Prop} (mz:∀(j:Nat) (o:Oper),ops[j]? =some o->∀c,o.op≠.defer c) (lx:¬LetsOut Q):∀(fuel:Nat) (listed:Array Bool) (a:Act) (w:World),wpAny P md ops Q fuel listed a w->wpAnyIn (Fence.wide.inRound q) n P md ops Q fuel listed a w
 |0,_,_,_,h=>h
 |fuel+1,listed,_,_,h=>⟨h.1,fun i hi=>HJ mz lx (fun a w=>xI mz lx fuel _ a w) (h.2 i hi)⟩
def FI:Op->Bool
 | .defer _=>true
 |_=>false
theorem JN {ops:Array Oper} (h:(ops.all fun o=> !FI o.op)=true):∀(j:Nat) (o:Oper),ops[j]? =some o->∀c,o.op≠.defer c:=fun j o hj c hc=>by
 have:=Array.all_eq_true_iff_forall_mem.1 h o (Array.mem_of_getElem? hj)
 rw[hc]at this
 simp[FI]at this
theorem AB (hm:P.follows .mixedOrders=true) {nt site0 id q n:Nat} {ops:Array Oper} {vl:List bq} (h:rK P nt site0 ops true false=some vl) (mz:∀(j:Nat) (o:Oper),ops[j]? =some o->∀c,o.op≠.defer c)
  {K:Env->ar->Prop} {env:Env} {σ:ar} {a:Act} {w:World} {D:Nat->Prop} {ι:Names} {Q:Exit->Act->World->Prop} (hv:wpOps (Sound P) true vl K env σ) (dH:St P hs nt D ι env σ a w)
  (hK:∀iI σ' a' w' D' ι',K iI σ'->Step hs D ι w D' ι' w'->St P hs nt D' ι' iI σ' a' w'->a'.defers=a.defers->Q .normal a' w'):(Code.region id ops true).wpIn (Fence.wide.inRound q) n P Q a w:=by
 have dD:∃hidden tL,allM (kQ P ops nt site0 true false (jH ops) hidden) ops.toList 0=some tL/\vl=tL/\oM ops tL (jH ops)=true:=by
  unfold rK at h
  simp only[if_true,Bool.not_true,Bool.false_or]at h
  split at h
  ·rename_i tL h'
   split at h
   ·rename_i wK;simp at h;exact⟨_,tL,h',h.symm,wK⟩
   ·cases h
  ·cases h
 obtain⟨hidden,tL,dD,rfl,wK⟩:=dD
 obtain⟨rV,T0⟩:=dH.drew
 obtain⟨hlen,_⟩:=oH dD
 have kU:vl.length=ops.size:=by rw[hlen];simp
 have DK:=xG (X:=Sound P) (K:=K) (n:=σ.next) wK kU vl 0 (Array.replicate ops.size false) env σ.get (by simp) (by simp) (fun i hi=>by simp[hi]) (by simp[kU]) (fun k i h=>by
  exfalso
  rcases Nat.lt_or_ge k ops.size with hk|hk
  ·simp[hk]at h
  ·simp[Nat.not_lt.2 hk]at h) hv
 rw[kU]at DK
 have hw:=ym (Q:=fun e a w=>e=.normal/\Q .normal a w) dD ops.size _ env σ.get a w.drew D ι (fun _=>False) DK rV.tD rV.used (fun _ h=>h.elim) rV.env rV.size fun jl g1 a1 w1 D1 ι1 U1 hk T S1 TP E1 Bf hd=>⟨rfl,hK jl ⟨g1,σ.next+1⟩ a1 w1 D1 ι1 hk (T0.trans T) ⟨S1,TP.next,E1,Bf⟩ hd⟩
 have fw:=xI (q:=q) (n:=n) (Q:=fun e a w=>e=.normal/\Q .normal a w) mz (by rintro⟨_,_,hc,_⟩;cases hc) ops.size _ a w.drew hw
 refine wpIn_mono (wpIn_region_any (id:=id) hm fw) ?_
 rintro e a w ⟨rfl,h⟩
 exact h
end Go.Proofs.YtgoljkjaameagaaGreat.V

namespace Go.Proofs.YtgoljkjaameagaaGreat.V
open Go.RowKit Go.Shelf
attribute [local go_sem] Oper.semAt_some
def iq (n₀:Nat) (W W':World):Prop:=W.heap.size<=W'.heap.size/\(∀(b:Nat) (cells:Array Value) (T:TypeId) (fr:Nat×Nat),W.heap[b]? =some (Obj.cells cells T fr)->T≠179->T≠254->W'.heap[b]? =W.heap[b]?)/\∀k,k<n₀->k<W.heap.size->W'.heap[k]? =W.heap[k]?
theorem iq.trans {n₀:Nat} {A B C:World} (h:iq n₀ A B) (k:iq n₀ B C):iq n₀ A C:=⟨Nat.le_trans h.1 k.1,fun b cells T fr hb h1 h2=>by
 have e:=h.2.1 b cells T fr hb h1 h2
 rw[<-e]at hb ⊢
 exact k.2.1 b cells T fr hb h1 h2,fun b hb hs=>(k.2.2 b hb (Nat.lt_of_lt_of_le hs h.1)).trans (h.2.2 b hb hs)⟩
theorem iq.of {n₀:Nat} {W W':World} (h:Below W.heap.size W W'):iq n₀ W W':=⟨h.size,fun b cells T fr hb _ _=>h.block b (Array.getElem?_eq_some_iff.1 hb).1,fun k _ hs=>h.block k hs⟩
theorem iq.refl (n₀:Nat) (W:World):iq n₀ W W:=⟨Nat.le_refl _,fun _ _ _ _ _ _ _=>rfl,fun _ _ _=>rfl⟩
theorem iq.b {n₀ m:Nat} (hm:n₀<=m) (W:World) (l:Nat) (o o':Obj) (hl:m<=l) (h:W.heap[l]? =some o) (hc:o.isCells=false) (_:o.isWalk=false):iq n₀ W (W.putObj l o'):=by
 refine⟨by simp,fun b cells T fr hb _ _=>?_,fun k hk _=>World.putObj_heap_other (by omega)⟩
 by_cases ql:b=l
 ·subst ql;rw[h]at hb;cases hb;cases hc
 ·exact World.putObj_heap_other ql
def Ll (bs:List PB):List Value:=bs.flatMap fun b=>[.int .i64 b.a,.int .i64 b.b,.int .i64 b.s]
theorem Im (bs:List PB) (b:PB):Ll (bs++[b])=Ll bs++[.int .i64 b.a,.int .i64 b.b,.int .i64 b.s]:=by simp[Ll]
def nV (s:aw) (l:List ad) (pre:List (NK l)):List PB:=(pre.map (·.1)).flatMap (zL s l)
theorem yq (s:aw) (l:List ad) (pre:List (NK l)) (x:NK l):nV s l (pre++[x])=nV s l pre++zL s l x.1:=by simp[nV]
theorem Il (s:aw) (l:List ad) (x:Nat×Nat×Int):(zL s l x).length<=1:=by
 unfold zL;split<;>simp
theorem Io (s:aw) (l:List ad) (pre:List (NK l)):(nV s l pre).length<=pre.length:=by
 unfold nV
 induction pre with
 |nil=>simp
 |cons x r ih=>
  have:=Il s l x.1
  simp only[List.map_cons,List.flatMap_cons,List.length_append,List.length_cons]at ih ⊢
  omega
theorem zd (l:List ad) (i:Nat):∀m,(k7 l i m).length<=m
 |0=>by simp[k7]
 |m+1=>by
  rw[nw,List.length_append]
  have:=zd l i m
  have:(Cw l i (1-(m:Int))).length<=1:=by unfold Cw;split<;>simp
  omega
theorem Cx (l:List ad):∀n,(lz l n).length<=n*2
 |0=>by simp[lz]
 |n+1=>by
  rw[mH,List.length_append]
  have:=Cx l n
  have:=zd l n 2
  omega
theorem BT {β:Type} (B:Nat) (c:Array Value) (t:TypeId) (fr:Nat×Nat):Own (fun(_:β) W=>W.heap[B]? =some (.cells c t fr)):=fun _ X _ row h hg hr=>(hg.block B (Array.getElem?_eq_some_iff.1 h).1 (fun e=>by
 obtain⟨o,ho,hc⟩:=hr B e.symm
 rw[h]at ho;cases ho;cases hc)).trans h
theorem iq.app {n₀:Nat} {W w1:World} {B k:Nat} {v v':Value} {xs:List Value} {tmp:Obj} (hv:Boxed W B 179 v) (fS:W.ownsRow n₀ 254 3 v k xs) (Fx:(W.alloc tmp).grownBy w1 v.ownBlock) (hb:Below n₀ W (w1.setCell ⟨B,0,none⟩ v')):iq n₀ W (w1.setCell ⟨B,0,none⟩ v'):=by
 refine⟨hb.size,fun b cells T fr h h1 h2=>?_,fun k hk _=>hb.block k hk⟩
 have dU:=(Array.getElem?_eq_some_iff.1 h).1
 have hbB:b≠B:=by
  rintro rfl
  rw[show W.heap[b]? = _ from hv]at h
  cases h
  exact h1 rfl
 have S6:some b≠v.ownBlock:=by
  rcases fS.2 with⟨rfl,_⟩|⟨g,cap,cur,rfl,_,hg,_⟩
  ·simp[Value.ownBlock]
  ·intro e
   obtain rfl:b=g:=by simpa[Value.ownBlock]using e
   rw[hg]at h;cases h
   exact h2 rfl
 refine(Below.heap_setCell w1 ⟨B,0,none⟩ v' b hbB).trans ?_
 exact(Fx.block b (by simp;omega) S6).trans (Below.heap_alloc W tmp b dU)
theorem R3 {w:World} {vS:Value} {l:List ad} (hP:p9 w vS l):H6 (iq w.heap.size) vS l where
 refl:=iq.refl _
 trans:=iq.trans
 of:=iq.of
 size h:=h.1
 typed h:=h.2.1
 pl {W W'} h hp:=by
  obtain⟨A,c,rfl,hm,hc⟩:=hp.sl
  refine⟨A,c,rfl,hm,?_⟩
  by_cases hl:l=[]
  ·exact .inl hl
  have kz:0<l.length:=List.length_pos_iff.2 hl
  rcases hc with h0|⟨b,o,rfl,kE⟩
  ·exact absurd h0 hl
  obtain⟨A',c',e,_,kT⟩:=hP.sl
  cases e
  rcases kT with h0|⟨b',o',e,hcell'⟩
  ·exact absurd h0 hl
  cases e
  have hb:=uR (hcell' 0 kz).1
  have hk:=h.2.2 b hb (uR (kE 0 kz).1)
  refine .inr ⟨b,o,rfl,fun i hi=>?_⟩
  have Ab:∀x,W'.cell? ⟨b,x,none⟩=W.cell? ⟨b,x,none⟩:=fun x=>World.cell?_of_block hk
  rw[Ab,Ab,Ab]
  exact kE i hi
theorem rrE {P:Program} {nt site0:Nat} {ops:Array Oper} {vl:List bq} (_:zN P ops site0 false (jH ops) (r5 P false ops.toList 0) ops.toList 0=some vl:=by(conv=>lhs;cbv)<;>exact rfl) (h:rK P nt site0 ops true false=some vl:=by kernel_rfl):rK P nt site0 ops true false=some vl:=h
theorem JD (l:List Value) (d:Value):l=(List.range l.length).map fun i=>(⟨l⟩:Array Value).getD i d:=by
 refine List.ext_getElem (by simp) fun i h1 h2=>?_
 simp[h1]
theorem Em {X:fH} {d:Bool} {ops:List bq} {K:Env->ar->Prop} {env:Env} {σ:ar} (h:dI X (.eJ d ops) (fun _=>K) env σ):wpOps X d ops K env σ:=h
theorem wb (W:World) (T:TypeId) (x y z:Value):∀(j:Nat) (u:Value),[x,y,z][j]? =some u->(W.alloc (.cells #[x,y,z] T)).cell? ((⟨W.heap.size,0,none⟩:Addr).add j)=some u:=fun j u h=>by
 have hb:(W.alloc (.cells #[x,y,z] T)).heap[W.heap.size]? =some (.cells #[x,y,z] T (0,0)):=World.alloc_heap_new _ _
 have e:∀k,(W.alloc (.cells #[x,y,z] T)).cell? ⟨W.heap.size,k,none⟩=(#[x,y,z]:Array Value)[k]? :=fun k=>by
  unfold World.cell?
  rw[show(W.alloc (.cells #[x,y,z] T)).heap[(⟨W.heap.size,k,none⟩:Addr).block]? = _ from hb]
  rfl
 rw[show(⟨W.heap.size,0,none⟩:Addr).add j=⟨W.heap.size,j,none⟩ by simp[Addr.add];exact fun h=>h.symm,e]
 simpa using h
def Iu (n b:Nat):Names:=fun id=>if id=⟨1,0⟩then some ⟨n,2,2,none⟩else if id=⟨2,0⟩then some ⟨n+1,1,1,none⟩else if id=⟨3,0⟩then some ⟨n+1+1,1,1,none⟩else if id=⟨4,0⟩then some ⟨b,2,2,none⟩else if id=⟨5,0⟩then some ⟨n+1+1+1,1,1,none⟩else none
def M3 (s:aw) (l:List ad) (i k:Nat):Rows:=fun id=>if id=⟨1,0⟩then some ⟨false,2,[ab s]⟩else if id=⟨2,0⟩then some ⟨false,1,[[.sl (l.map aa)]]⟩else if id=⟨4,0⟩then some ⟨false,2,[[.int .i64 (i:Int),.int .i64 (k:Int)]]⟩else none
def NW (s:aw) (l:List ad) (i k:Nat) (d:Int):Env:=cC [.agg (ab s),.agg [.sl (l.map aa)],.ptr ⟨1,0⟩ 0 0,.ptr ⟨2,0⟩ 0 0,.bl,.ptr ⟨3,0⟩ 0 0,.ptr ⟨4,0⟩ 0 0,.int .i64 d,.undef,.agg [.sl (l.map aa)],.fn 302 [.ptr ⟨5,0⟩ 0 0],.agg [.int .i64 (i:Int),.int .i64 (k:Int)],.int .i64 d]
theorem Ey {P:Program} {W:World} {D:Nat->Prop} {ι:Names} {B:sL} {cells:Array Value} {T:TypeId} {cs:List AV} (hk:B.k=none) (hb:W.heap[B.b]? =some (.cells cells T (0,0))) (hC:cells.size=B.C) (hz:B.sz=cs.length) (hl:cs.length=cells.size) (hf:∀a∈cs,a.cell=true) (hr:∀(j:Nat) (a:AV),cs[j]? =some a->∃v,cells[j]? =some v/\cI P W D ι a v):gO P W D ι B ⟨false,cs.length,[cs]⟩:=
 lG.obj ⟨hz,⟨cells,T,hb,hC⟩,by simp;omega,fun c hc=>by simp at hc;rw[hc],fun c hc=>by simp at hc;rw[hc];exact hf,fun i j c a hi hj=>by
  match i,hi with
  |0,hi=>
   simp at hi;subst hi
   obtain⟨v,h1,h2⟩:=hr j a hj
   exact⟨v,by simp[World.cell?,hb,h1],h2⟩
  |i+1,hi=>simp at hi⟩ hk
theorem Jq:(Tryz.prog.info? 254).map (fun i=>(i.zero,i.size,i.bytes))=some (some (.agg #[.int .i64 0,.int .i64 0,.int .i64 0]),3,24):=by kernel_rfl
end Go.Proofs.YtgoljkjaameagaaGreat.V

namespace Go.Proofs.YtgoljkjaameagaaGreat.V
open Go.RowKit Go.Shelf
attribute [local go_sem] Oper.semAt_some
attribute [local irreducible] dI wpOps gy Call
attribute [local go_sem] aM fG eQ fZ fY cQ upd cC K.av cP AV.cells AV.cell rowOf rowsOf part ld rowAt bt cu dE ee ik bJ dh ew fX eX dp ej dd dc dQ dR bQ bf cW bP cY cX eh ek ei cV b4 de ef bK aP da cG ij bw cK bU aY dn bc dF AV.undef bF bI dS ec dM dK cH ev eA cF ep eo cZ db List.getD_cons_zero List.getD_cons_succ List.getD_nil List.all_cons List.all_nil Bool.and_true Bool.true_and Bool.and_self Bool.not_true Bool.not_false Option.map_some Option.map_none Option.bind_some Option.bind_none List.length_cons List.length_nil List.take_succ_cons List.take_zero List.take_nil List.drop_succ_cons List.drop_zero List.drop_nil List.head?_cons List.map_cons List.map_nil List.getElem?_cons_zero List.getElem?_cons_succ List.cons_append List.nil_append List.append_nil List.length_map List.set_cons_zero List.set_cons_succ Nat.reduceMul eq_self Int.toNat_natCast Int.natCast_nonneg and_self true_and and_true decide_true decide_false Bool.false_eq_true Nat.zero_add Nat.add_zero List.contains_cons List.contains_nil Bool.or_false Bool.false_or beq_self_eq_true Nat.reduceBEq ne_eq not_true_eq_false not_false_eq_true Id.mk.injEq false_and and_false Nat.reduceLT Int.reduceLE Int.reduceLT Int.reduceToNat Int.reduceNeg Int.reduceAdd Nat.le_refl List.length_append beq_true beq_false Bool.not_eq_eq_eq_not or_false false_or dJ ai aj aD bp bE cq aT bd aX bj cR bG
theorem Is (s:aw) (l:List ad) (hF:kN s) (hA:jj s l) (w:World) (Ag At:Option Addr) (ng cg nt ct:Nat) (vS:Value) (hT:jM Tryz.prog w (fun b=>b<w.heap.size) (.agg (ab s)) (.agg #[.slice Ag ng cg,.slice At nt ct])) (hP:p9 w vS l):
  CallsIn Fence.wide 5 Tryz.prog 205 #[.agg #[.slice Ag ng cg,.slice At nt ct],.agg #[vS]] w fun e W'=>∃v,e=.returned v/\W'.ownsRow w.heap.size 254 3 v (cL s l).length (Ll (cL s l))/\(v=.slice none 0 0↔cL s l=[])/\Below w.heap.size w W':=by
 obtain⟨A,cp,rfl,_,_⟩:=hP.sl
 obtain⟨i0,hi,HW,Bf,lu⟩:=info_parts Jq
 refine callsIn_of_wp_marks Tryz.func205 rfl trivial ?_ rfl
 simp only[Tryz.ntmps205,List.size_toArray,List.length_cons,List.length_nil,Nat.reduceAdd,Nat.reduceSub,Array.replicate_succ,Array.replicate_zero,List.push_toArray,List.append_toArray,List.nil_append,List.cons_append]
 gi_wp2_with (refine⟨trivial,?_⟩;gi_at_call 260;refine(Av _ _ _).mono ?_;rintro e w' ⟨rfl,rfl⟩)
 have bT:((w.alloc (.cells #[.slice Ag ng cg,.slice At nt ct] 39)).heap[w.heap.size]?)=some (.cells #[.slice Ag ng cg,.slice At nt ct] 39 (0,0)):=World.alloc_heap_new _ _
 obtain⟨w1,jq⟩:∃w1,w.alloc (.cells #[.slice Ag ng cg,.slice At nt ct] 39)=w1:=⟨_,rfl⟩
 have QA:w1.heap.size=w.heap.size+1:=by rw[<-jq];simp
 have Bb:Below w.heap.size w w1:=by rw[<-jq];exact(Below.refl _ w).alloc (Nat.le_refl _) _
 rw[jq]at bT ⊢
 clear jq
 have bA:=Boxed.new w1 42 (.slice A l.length cp)
 have bO:=Boxed.new (w1.alloc (.cells #[.slice A l.length cp] 42)) 179 (.slice none 0 0)
 have bN:=Boxed.new ((w1.alloc (.cells #[.slice A l.length cp] 42)).alloc (.cells #[.slice none 0 0] 179)) 42 (.slice A l.length cp)
 replace bA:=(bA.alloc (.cells #[.slice none 0 0] 179)).alloc (.cells #[.slice A l.length cp] 42)
 replace bO:=bO.alloc (.cells #[.slice A l.length cp] 42)
 simp only[World.size_alloc,QA]at bA bO bN
 have qc:Below w1.heap.size w1 (((w1.alloc (.cells #[.slice A l.length cp] 42)).alloc (.cells #[.slice none 0 0] 179)).alloc (.cells #[.slice A l.length cp] 42)):=(((Below.refl _ w1).alloc (Nat.le_refl _) _).alloc (by simp) _).alloc (by simp;omega) _
 have fo:(((w1.alloc (.cells #[.slice A l.length cp] 42)).alloc (.cells #[.slice none 0 0] 179)).alloc (.cells #[.slice A l.length cp] 42)).heap.size=w.heap.size+4:=by simp;omega
 obtain⟨W0,hW0⟩:∃W0,((w1.alloc (.cells #[.slice A l.length cp] 42)).alloc (.cells #[.slice none 0 0] 179)).alloc (.cells #[.slice A l.length cp] 42)=W0:=⟨_,rfl⟩
 rw[hW0]at bA bO bN qc fo ⊢
 clear hW0
 have BR:Below w.heap.size w W0:=Bb.trans (qc.mono (by omega))
 replace bT:=(qc.block w.heap.size (by omega)).trans bT
 have hP0:p9 W0 (.slice A l.length cp) l:=hP.below BR
 have kl:=R3 hP
 have ql:=qu (s:=s) hA.1
 refine wpIn_rangeFunc_ownH (n:=5) rfl (by omega) (gf:=302) (lb:= #[.pointer (some ⟨w.heap.size+1+1+1,0,none⟩)]) rfl trivial (enters_of Tryz.func302 (by kernel_rfl) rfl)
  (JL l hA.1 (w.heap.size+1+1+1) (5-1) (by omega) (.slice A l.length cp) (iq w.heap.size) kl W0 bN hP0) iq.trans (iq.b (by omega)) (Below.refl _ _) (fun _=>rfl)
  (fun pre W=>((∃v,Boxed W (w.heap.size+1+1) 179 v/\W.ownsRow w.heap.size 254 3 v (nV s l pre).length (Ll (nV s l pre))/\(v=.slice none 0 0↔nV s l pre=[]))/\(Boxed W (w.heap.size+1) 42 (.slice A l.length cp)/\W.heap[w.heap.size]? =some (.cells #[.slice Ag ng cg,.slice At nt ct] 39 (0,0))))/\Below w.heap.size w W)
  (fun _ _ _=>False)
  (OwnFrom.and (OwnFrom.and (Own.from (holdsRow_own w.heap.size (w.heap.size+1+1) 179 254 3 (fun pre=>(nV s l pre).length) (fun pre=>Ll (nV s l pre)) (fun pre v=>v=.slice none 0 0↔nV s l pre=[])) _) (OwnFrom.and (Own.from (boxed_own _ _ _) _) (Own.from (BT _ _ _ _) _))) (ownFrom_below (Nat.le_refl _) (by omega)))
  (fun _ _ _ _ _ hs _ _=>hs)
  ⟨⟨⟨_,bO,World.ownsRow_nil _ _ _ _,by simp[nV]⟩,bA,bT⟩,BR⟩
  (fun x a' W=>∃Bx,w.heap.size+1+1<Bx/\W.heap[Bx]? =some (.cells #[.int .i64 (x.1.1:Int),.int .i64 (x.1.2.1:Int)] 322 (0,0))/\a'={tmps:= #[.agg #[.slice Ag ng cg,.slice At nt ct],.agg #[.slice A l.length cp],.pointer (some ⟨w.heap.size,0,none⟩),.pointer (some ⟨w.heap.size+1,0,none⟩),.slice none 0 0,.pointer (some ⟨w.heap.size+1+1,0,none⟩),.pointer (some ⟨Bx,0,none⟩),.int .i64 x.1.2.2,undef,.agg #[.slice A l.length cp],.func (.func 302) #[] #[.pointer (some ⟨w.heap.size+1+1+1,0,none⟩)],.agg #[.int .i64 (x.1.1:Int),.int .i64 (x.1.2.1:Int)],.int .i64 x.1.2.2,undef,undef,undef,undef,undef,undef,undef,undef,undef,undef,undef,undef,undef,undef,undef,undef,undef,undef,undef,undef,undef,undef,undef,undef,undef,undef,undef,undef,undef],defers:=[]})
  (fun x a' _ X Y row hs hg hr=>by obtain⟨Bx,h1,h2,h3⟩:=hs;exact⟨Bx,h1,BT Bx _ _ _ () X Y row h2 hg (fun r e=>(hr r e).2),h3⟩)
  ?assign ?body ?done ?stop
 case assign=>
  rintro q pre ⟨⟨x0,x1,x2⟩,hx⟩ W K ⟨⟨⟨v,hv,fS,qe⟩,bA1,bT1⟩,hB⟩ hK
  simp only[Fh]
  gi_wp2
  exact hK _ _ ((KeepsOthers.alloc _ _).from _) (iq.of ((Below.refl _ W).alloc (Nat.le_refl _) _)) ⟨⟨⟨v,hv.alloc _,fS.alloc _,qe⟩,bA1.alloc _,(Below.heap_alloc _ _ _ (Array.getElem?_eq_some_iff.1 bT1).1).trans bT1⟩,hB.alloc hB.size _⟩ ⟨W.heap.size,hv.lt,World.alloc_heap_new _ _,rfl⟩
 case body=>
  rintro q pre ⟨⟨x0,x1,x2⟩,hx⟩ a' W hq hqr ⟨⟨⟨v,hv,fS,qe⟩,bA1,bT1⟩,hB⟩ ⟨Bx,hBx,bX,rfl⟩ dU
  obtain⟨Da,Jp,yT⟩:=hx
  simp only at Da Jp yT bX
  obtain⟨A',c',e',_,hc⟩:=(hP.below hB).sl
  cases e'
  have dt:∃b o,A=some ⟨b,o,none⟩/\W.cell? ⟨b,o+x0*3+2,none⟩=some (.int .i64 (aJ l x0).aV)/\W.cell? ⟨b,o+x1*3+2,none⟩=some (.int .i64 (aJ l x1).aV):=by
   rcases hc with rfl|⟨b,o,rfl,kE⟩
   ·simp at Da
   ·exact⟨b,o,rfl,by rw[Nat.add_assoc];exact(kE x0 Da).2.2,by rw[Nat.add_assoc];exact(kE x1 Jp).2.2⟩
  obtain⟨b,o,rfl,cP0,cP1⟩:=dt
  have cT0:W.cell? ⟨w.heap.size,0,none⟩=some (.slice Ag ng cg):=by simp[World.cell?,bT1]
  have cT1:W.cell? ⟨w.heap.size,1,none⟩=some (.slice At nt ct):=by simp[World.cell?,bT1]
  have cX0:W.cell? ⟨Bx,0,none⟩=some (.int .i64 (x0:Int)):=by simp[World.cell?,bX]
  have cX1:W.cell? ⟨Bx,1,none⟩=some (.int .i64 (x1:Int)):=by simp[World.cell?,bX]
  have cA:=bA1.cell
  have dP0:W.drew.cell? ⟨b,o+x0*3+2,none⟩=some (.int .i64 (aJ l x0).aV):=cP0
  have dP1:W.drew.cell? ⟨b,o+x1*3+2,none⟩=some (.int .i64 (aJ l x1).aV):=cP1
  have dT0:W.drew.cell? ⟨w.heap.size,0,none⟩=some (.slice Ag ng cg):=cT0
  have dT1:W.drew.cell? ⟨w.heap.size,1,none⟩=some (.slice At nt ct):=cT1
  have dX0:W.drew.cell? ⟨Bx,0,none⟩=some (.int .i64 (x0:Int)):=cX0
  have dX1:W.drew.cell? ⟨Bx,1,none⟩=some (.int .i64 (x1:Int)):=cX1
  have dA:W.drew.cell? ⟨w.heap.size+1,0,none⟩=some (.slice (some ⟨b,o,none⟩) l.length cp):=cA
  have tf:∀i,i<l.length->aJ l i∈l:=fun i hi=>by
   unfold aJ
   rw[List.getD_eq_getElem?_getD,List.getElem?_eq_getElem hi]
   exact List.getElem_mem hi
  have UZ:=mixed
  have hfw:=hA.1.rP
  have S7:=Ir s hF (aJ l x0).aV x2 (aJ l x1).aV (hA.2 _ (tf x0 Da)) (hA.2 _ (tf x1 Jp)) (kV (by omega))
  have hTW:jM Tryz.prog W (fun b=>b<w.heap.size) (.agg (ab s)) (.agg #[.slice Ag ng cg,.slice At nt ct]):=hT.frame (fun b hb=>hB.block b hb) (fun _ h=>h)
  have hAW:jM Tryz.prog W (fun b=>b<w.heap.size) (.sl (l.map aa)) (.slice (some ⟨b,o,none⟩) l.length cp):=hP.eO.frame (fun b hb=>hB.block b hb) (fun _ h=>h)
  obtain⟨fT,hT0,hT1⟩:∃f:Nat->Value,(∀j,j<(ab s).length->(#[Value.slice Ag ng cg,.slice At nt ct])[j]? =some (f j))/\∀j a,(ab s)[j]? =some a->jM Tryz.prog W (fun b=>b<w.heap.size) a (f j):=by
   cases hTW with
   |agg _ _ f _ _ h3 h4=>exact⟨f,h3,h4⟩
  have dH:St Tryz.prog W.heap.size 42 (fun b=>b<w.heap.size) (Iu w.heap.size Bx) (NW s l x0 x1 x2) ⟨M3 s l x0 x1,1⟩ {tmps:= #[.agg #[.slice Ag ng cg,.slice At nt ct],.agg #[.slice (some ⟨b,o,none⟩) l.length cp],.pointer (some ⟨w.heap.size,0,none⟩),.pointer (some ⟨w.heap.size+1,0,none⟩),.slice none 0 0,.pointer (some ⟨w.heap.size+1+1,0,none⟩),.pointer (some ⟨Bx,0,none⟩),.int .i64 x2,undef,.agg #[.slice (some ⟨b,o,none⟩) l.length cp],.func (.func 302) #[] #[.pointer (some ⟨w.heap.size+1+1+1,0,none⟩)],.agg #[.int .i64 (x0:Int),.int .i64 (x1:Int)],.int .i64 x2,undef,undef,undef,undef,undef,undef,undef,undef,undef,undef,undef,undef,undef,undef,undef,undef,undef,undef,undef,undef,undef,undef,undef,undef,undef,undef,undef,undef,undef],defers:=[]} W:=by
   have n1:(Iu w.heap.size Bx) ⟨1,0⟩=some ⟨w.heap.size,2,2,none⟩:=rfl
   have n2:(Iu w.heap.size Bx) ⟨2,0⟩=some ⟨w.heap.size+1,1,1,none⟩:=rfl
   have n3:(Iu w.heap.size Bx) ⟨3,0⟩=some ⟨w.heap.size+1+1,1,1,none⟩:=rfl
   have n4:(Iu w.heap.size Bx) ⟨4,0⟩=some ⟨Bx,2,2,none⟩:=rfl
   have n5:(Iu w.heap.size Bx) ⟨5,0⟩=some ⟨w.heap.size+1+1+1,1,1,none⟩:=rfl
   have rp:∀(id:Id) (B:sL),(Iu w.heap.size Bx) id=some B->B.k=none->cI Tryz.prog W (fun b=>b<w.heap.size) (Iu w.heap.size Bx) (.ptr id 0 0) (.pointer (some ⟨B.b,0,none⟩)):=fun id B h hk=>by
    have:=cI.ptr (P:=Tryz.prog) (w:=W) (D:=fun b=>b<w.heap.size) id 0 0 B h hk
    simpa using this
   have ri:∀n:Int,cI Tryz.prog W (fun b=>b<w.heap.size) (Iu w.heap.size Bx) (.int .i64 n) (.int .i64 n):=fun n=>.eO _ _ (.int _ _)
   have hA1:jM Tryz.prog W (fun b=>b<w.heap.size) (.agg [.sl (l.map aa)]) (.agg #[.slice (some ⟨b,o,none⟩) l.length cp]):=.agg _ _ (fun _=>.slice (some ⟨b,o,none⟩) l.length cp) rfl (fun a ha=>by simp at ha;rw[ha];rfl) (fun j hj=>by match j,hj with|0,_=>rfl|j+1,hj=>simp at hj) (fun j a ha=>by match j,ha with|0,ha=>simp at ha;subst ha;exact hAW|j+1,ha=>simp at ha)
   refine⟨⟨Nat.le_refl _,fun b hb=>Nat.lt_of_lt_of_le hb hB.size,fun id r hg=>?_,fun id j6 r r' B B' h _ hw=>?_⟩,fun id hid=>?_,fun t=>?_,rfl⟩
   ·replace hg:M3 s l x0 x1 id=some r:=hg
    unfold M3 at hg
    split at hg
    ·rename_i e;subst e;injection hg with hg;subst hg
     exact⟨_,n1,Ey (cs:=ab s) rfl bT1 rfl rfl rfl (fun a ha=>by simp[ab]at ha;rcases ha with rfl|rfl<;>rfl) (fun j a ha=>⟨_,hT0 j (List.getElem?_eq_some_iff.1 ha).1,.eO _ _ (hT1 j a ha)⟩),fun h=>(by cases h),fun h=>(by cases h)⟩
    ·split at hg
     ·rename_i e;subst e;injection hg with hg;subst hg
      exact⟨_,n2,Ey (cs:=[.sl (l.map aa)]) rfl bA1 rfl rfl rfl (fun a ha=>by simp at ha;rw[ha];rfl) (fun j a ha=>by match j,ha with|0,ha=>simp at ha;subst ha;exact⟨_,rfl,.eO _ _ hAW⟩|j+1,ha=>simp at ha),fun h=>(by cases h),fun h=>(by cases h)⟩
     ·split at hg
      ·rename_i e;subst e;injection hg with hg;subst hg
       exact⟨_,n4,Ey (cs:=[.int .i64 (x0:Int),.int .i64 (x1:Int)]) rfl bX rfl rfl rfl (fun a ha=>by simp at ha;rcases ha with rfl|rfl<;>rfl) (fun j a ha=>by match j,ha with|0,ha=>simp at ha;subst ha;exact⟨_,rfl,ri _⟩|1,ha=>simp at ha;subst ha;exact⟨_,rfl,ri _⟩|j+2,ha=>simp at ha),fun h=>(by cases h),fun h=>(by cases h)⟩
      ·cases hg
   ·exfalso
    replace h:M3 s l x0 x1 id=some r:=h
    unfold M3 at h
    split at h
    ·injection h with h;subst h;cases hw
    ·split at h
     ·injection h with h;subst h;cases hw
     ·split at h
      ·injection h with h;subst h;cases hw
      ·cases h
   ·left
    unfold Iu at hid
    repeat' (split at hid)
    all_goals first|(rename_i e;subst e;exact Nat.zero_lt_one)|exact absurd rfl hid
   ·match t with
    |0=>exact .eO _ _ hTW
    |1=>exact .eO _ _ hA1
    |2=>exact rp _ _ n1 rfl
    |3=>exact rp _ _ n2 rfl
    |4=>exact .eO _ _ .bl
    |5=>exact rp _ _ n3 rfl
    |6=>exact rp _ _ n4 rfl
    |7=>exact ri _
    |8=>exact cI.undef
    |9=>exact .eO _ _ hA1
    |10=>exact .fn _ _ _ (fun _=>.pointer (some ⟨w.heap.size+1+1+1,0,none⟩)) (by kernel_rfl) rfl (fun j hj=>by match j,hj with|0,_=>rfl|j+1,hj=>simp at hj) (fun j a ha=>by match j,ha with|0,ha=>simp at ha;subst ha;exact rp _ _ n5 rfl|j+1,ha=>simp at ha)
    |11=>exact .agg _ _ (fun j=>if j=0 then .int .i64 (x0:Int)else .int .i64 (x1:Int)) rfl (fun a ha=>by simp at ha;rcases ha with rfl|rfl<;>rfl) (fun j hj=>by match j,hj with|0,_=>rfl|1,_=>rfl|j+2,hj=>simp at hj;omega) (fun j a ha=>by match j,ha with|0,ha=>simp at ha;subst ha;exact ri _|1,ha=>simp at ha;subst ha;exact ri _|j+2,ha=>simp at ha)
    |12=>exact ri _
    |13=>exact cI.undef
    |14=>exact cI.undef
    |15=>exact cI.undef
    |16=>exact cI.undef
    |17=>exact cI.undef
    |18=>exact cI.undef
    |19=>exact cI.undef
    |20=>exact cI.undef
    |21=>exact cI.undef
    |22=>exact cI.undef
    |23=>exact cI.undef
    |24=>exact cI.undef
    |25=>exact cI.undef
    |26=>exact cI.undef
    |27=>exact cI.undef
    |28=>exact cI.undef
    |29=>exact cI.undef
    |30=>exact cI.undef
    |31=>exact cI.undef
    |32=>exact cI.undef
    |33=>exact cI.undef
    |34=>exact cI.undef
    |35=>exact cI.undef
    |36=>exact cI.undef
    |37=>exact cI.undef
    |38=>exact cI.undef
    |39=>exact cI.undef
    |40=>exact cI.undef
    |41=>exact cI.undef
    |t+42=>exact cI.undef
  have hV:wpOps (Call Tryz.prog) true ?vl (fun e _=>e 5=.ptr ⟨3,0⟩ 0 0/\e 6=.ptr ⟨4,0⟩ 0 0/\e 8=.int .i64 (gV s (aJ l x0).aV x2 (aJ l x1).aV)) (NW s l x0 x1 x2) ⟨M3 s l x0 x1,1⟩:= ?hv
  gi_wp2
  refine AB mixed (rrE (nt:=42) (site0:=205005000)) (JN (by kernel_rfl)) (lp (fun _ _ _ _ h=>gr mixed h) kP (fun _ _ h=>h) _ _ _ hV) dH ?_
  rintro e1 σ1 ⟨tm,df⟩ w3 D1 ι1 ⟨h5,h6,h8⟩ T1 sS DM
  case hv=>
   refine Em ?_
   have e0:=fx Da
   have e1:=fx Jp
   (repeat(first|((repeat(revert hN;revert N;apply Pn.out));refine wk (tw @e0 (tw @e1 (tw @NW.eq_1 (tw @M3.eq_1 (tw @aa.eq_1 @ab.eq_1))))) ?_;(repeat(refine Pn.mk ?_;intro N hN)))|((try apply Or.inl);refine⟨_,aq.x (S7) (sd (tw @e0 (tw @e1 (tw @NW.eq_1 (tw @M3.eq_1 (tw @aa.eq_1 @ab.eq_1)))))),?_⟩;refine hN _ _ ?_;clear hN N)))
   exact⟨sd @NW.eq_1,sd @NW.eq_1,sd @NW.eq_1⟩
  ·have BS:Below W.heap.size W w3:=T1.below
   have rU:∀id B,Iu w.heap.size Bx id=some B->ι1 id=some B:=T1.names
   have p5:tm.getD 5 undef=.pointer (some ⟨w.heap.size+1+1,0,none⟩):=by
    have g:=sS.env 5
    rw[h5]at g
    obtain⟨B,e,hB,_⟩:=iE g
    have h:=rU ⟨3,0⟩ ⟨w.heap.size+1+1,1,1,none⟩ rfl
    rw[h]at hB;injection hB with hB;subst hB
    simpa using e
   have p6:tm.getD 6 undef=.pointer (some ⟨Bx,0,none⟩):=by
    have g:=sS.env 6
    rw[h6]at g
    obtain⟨B,e,hB,_⟩:=iE g
    have h:=rU ⟨4,0⟩ ⟨Bx,2,2,none⟩ rfl
    rw[h]at hB;injection hB with hB;subst hB
    simpa using e
   have p8:tm.getD 8 undef=.int .i64 (gV s (aJ l x0).aV x2 (aJ l x1).aV):=by
    have g:=sS.env 8
    rw[h8]at g
    exact dq g
   have fo:=sS.size
   obtain⟨tl⟩:=tm
   obtain⟨f,O8,hf⟩:∃f:Nat->Value,tl=[f 0,f 1,f 2,f 3,f 4,f 5,f 6,f 7,f 8,f 9,f 10,f 11,f 12,f 13,f 14,f 15,f 16,f 17,f 18,f 19,f 20,f 21,f 22,f 23,f 24,f 25,f 26,f 27,f 28,f 29,f 30,f 31,f 32,f 33,f 34,f 35,f 36,f 37,f 38,f 39,f 40,f 41]/\∀i,f i=(⟨tl⟩:Array Value).getD i undef:=by
    refine⟨fun i=>(⟨tl⟩:Array Value).getD i undef,?_,fun _=>rfl⟩
    have h:=JD tl undef
    rw[show tl.length=42 from fo]at h
    exact h
   rw[<-hf]at p5 p6 p8
   have UI:df=[]:=DM
   subst UI
   clear hf sS dH hV
   subst O8
   rw[p5,p6,p8]
   have K9:=hv.kept (grown_of BS) (by simp)
   have FB:=fS.kept (grown_of BS) (by rcases fS.2 with⟨e,_⟩|⟨_,_,_,e,_⟩<;>rw[e]<;>simp[Value.ownBlock])
   have hc3:=K9.cell
   have hn3:w.heap.size<=w3.heap.size:=Nat.le_trans hB.size BS.size
   have eX0:w3.cell? ⟨Bx,0,none⟩=some (.int .i64 (x0:Int)):=(BS.cell (p:=⟨Bx,0,none⟩) (Array.getElem?_eq_some_iff.1 bX).1).trans cX0
   have eX1:w3.cell? ⟨Bx,1,none⟩=some (.int .i64 (x1:Int)):=(BS.cell (p:=⟨Bx,1,none⟩) (Array.getElem?_eq_some_iff.1 bX).1).trans cX1
   have mi:(nV s l pre).length<=2097152:=by
    have h1:=Io s l pre
    have h2:=Cx l l.length
    omega
   have hKF:KeepsFrom (w.heap.size+4) W w3:=⟨BS.size,fun k o _ hk _=>(BS.block k (Array.getElem?_eq_some_iff.1 hk).1).trans hk⟩
   have hKT:iq w.heap.size W w3:=iq.of BS
   have TW:w3.heap[w.heap.size+1]? = _:=(BS.block _ bA1.lt).trans bA1
   have TX:=(BS.block _ (Array.getElem?_eq_some_iff.1 bT1).1).trans bT1
   by_cases kz:0<gV s (aJ l x0).aV x2 (aJ l x1).aV
   ·have xK:nV s l (pre++[⟨(x0,x1,x2),Da,Jp,yT⟩])=nV s l pre++[⟨x0,x1,gV s (aJ l x0).aV x2 (aJ l x1).aV⟩]:=by
     rw[yq];simp only[zL,if_pos kz]
    gi_wp2_with (gi_at_builtin;refine wpListIn_append_own _ rfl _ _ 179 rfl w.heap.size 254 i0 (.agg #[.int .i64 0,.int .i64 0,.int .i64 0]) 3 24 (by kernel_rfl) hi HW Bf lu rfl (by decide) _ _ _ rfl (FB.alloc _) ⟨w3.heap.size,0,none⟩ 1 1 [.int .i64 (x0:Int),.int .i64 (x1:Int),.int .i64 (gV s (aJ l x0).aV x2 (aJ l x1).aV)] rfl rfl (wb _ _ _ _ _) (by simp[Value.oneCell']) (by unfold maxLen;omega) (by omega) (by simp;omega) ?_;intro v' w4 Nj Fx _;obtain⟨g',cap',rfl⟩:=ownsRow_succ Nj;obtain⟨nP,uI,DU,wI,Gy⟩:=K9.appended (by decide) FB hn3 (by omega) Nj Fx;have LO:=iq.app K9 FB Fx Gy;have qm:=nP.cell;have hf1:=nP.frozen)
    exact⟨hKF.trans (wI.from _),hKT.trans LO,⟨⟨_,uI,by rw[xK,Im,List.length_append];exact DU,by rw[xK];simp⟩,(LO.2.1 _ _ _ _ TW (by decide) (by decide)).trans TW,(LO.2.1 _ _ _ _ TX (by decide) (by decide)).trans TX⟩,hB.trans ((BS.mono hB.size).trans Gy)⟩
   ·have xK:nV s l (pre++[⟨(x0,x1,x2),Da,Jp,yT⟩])=nV s l pre:=by
     rw[yq];simp only[zL,if_neg kz,List.append_nil]
    gi_wp2
    exact⟨hKF,hKT,⟨⟨v,K9,by rw[xK];exact FB,by rw[xK];exact qe⟩,TW,TX⟩,hB.trans (BS.mono hB.size)⟩
 case done=>
  rintro D ys W hD FF ⟨⟨⟨v,hv,fS,qe⟩,_⟩,hB⟩ hK
  have hc:=hv.cell
  have KX:nV s l ys=cL s l:=by rw[It,<-FF];rfl
  rw[KX]at fS qe
  gi_wp2
  refine⟨by simp,.inl ⟨_,_,rfl,run_takeDeferred hK,?_⟩⟩
  exact⟨_,results_tmp rfl _ _ _,v,rfl,ownsRow_putObj fS _ hK rfl,qe,hB.trans (belowK_b (w:=w) (Nat.le_refl _) W D _ _ (by omega) hK rfl rfl)⟩
 case stop=>
  rintro D c pre W _ _ h _
  exact h.elim
end Go.Proofs.YtgoljkjaameagaaGreat.V

namespace Go.Proofs.YtgoljkjaameagaaGreat.V
open Go.RowKit Go.Shelf
theorem E9:∀{bs:List PB} {i j:Nat} {b:PB},bs[i]? =some b->j<3->(Ll bs)[i*3+j]? =([.int .i64 b.a,.int .i64 b.b,.int .i64 b.s]:List Value)[j]?
 |c::bs,0,j,b,h,hj=>by
  simp at h;subst h
  simp only[Ll,List.flatMap_cons,Nat.zero_mul,Nat.zero_add]
  rw[List.getElem?_append_left (by simpa using hj)]
 |c::bs,i+1,j,b,h,hj=>by
  simp only[List.getElem?_cons_succ]at h
  have:=E9 (bs:=bs) (i:=i) (j:=j) h hj
  simp only[Ll,List.flatMap_cons]at this ⊢
  rw[List.getElem?_append_right (by simp;omega),<-this]
  congr 1
  simp;omega
theorem rX {P:Program} {w:World} {D:Nat->Prop} {rows:List (List AV)} {v:Value} (h:jM P w D (.sl rows) v):∃A n c,v=.slice A n c:=by
 cases h with
 |Bg a c _=>exact⟨_,_,_,rfl⟩
 |sl=>exact⟨_,_,_,rfl⟩
theorem re {P:Program} {w:World} {D:Nat->Prop} {ι:Names} {rows:List (List AV)} {v:Value} (h:cI P w D ι (.sl rows) v):jM P w D (.sl rows) v:=by
 cases h with
 |eO _ _ h=>exact h
theorem Mv {P:Program} {w:World} {D:Nat->Prop} {l:List ad} {v:Value} (h:jM P w D (.sl (l.map aa)) v):p9 w v l:=by
 generalize hr:l.map aa=rows at h
 cases h with
 |Bg a c hc=>
  have:l=[]:=by simpa using hr
  subst this
  exact⟨a,c,rfl,⟨Nat.zero_le _,hc⟩,.inl rfl⟩
 |sl _ b o n c sz vs h1 h2 h3 h4 h5 h5' h6 h7=>
  have hn:n=l.length:=by rw[<-h1,<-hr];simp
  subst hn
  refine⟨some ⟨b,o,none⟩,c,rfl,⟨h2,h3⟩,?_⟩
  by_cases hl:l=[]
  ·exact .inl hl
  refine .inr ⟨b,o,rfl,fun i hi=>?_⟩
  have hg:rows[i]? =some (aa (aJ l i)):=by rw[<-hr];exact fx hi
  have fo:sz=3:=by rw[<-h5 _ (List.mem_of_getElem? hg)];rfl
  subst fo
  have k:∀(j:Nat) (x:Int),(aa (aJ l i))[j]? =some (.int .i64 x)->j<3->w.cell? ⟨b,o+(i*3+j),none⟩=some (.int .i64 x):=fun j x hj h3=>by
   have:=h7 i j _ _ hg hj
   rw[h6 i j hi h3,dq (.eO (ι:=fun _=>none) _ _ this)]
  exact⟨k 0 _ rfl (by omega),k 1 _ rfl (by omega),k 2 _ rfl (by omega)⟩
theorem NV:Dc:=by
 intro s l hS hA n
 refine gP ?_
 intro hs D ι w vs S U A
 obtain⟨u0,Tt,r0⟩:=A.2 0 _ rfl
 obtain⟨u1,RM,r1⟩:=A.2 1 _ rfl
 have dU:∀b,D b->b<w.heap.size:=S.dead
 obtain⟨v0,f0,rfl,HW,_,Te,Vm⟩:=iR r0
 obtain⟨v1,f1,rfl,Bf,_,hf1,OZ⟩:=iR r1
 have g0:=re (Vm 0 _ rfl)
 have g1:=re (Vm 1 _ rfl)
 have a0:=re (OZ 0 _ rfl)
 obtain⟨Ag,ng,cg,eg⟩:=rX g0
 obtain⟨At,nt,ct,et⟩:=rX g1
 have e0:v0= #[.slice Ag ng cg,.slice At nt ct]:=by
  obtain⟨vl⟩:=v0
  have q0:=Te 0 (by simp[ab])
  have q1:=Te 1 (by simp[ab])
  rw[eg]at q0;rw[et]at q1
  match vl,HW with
  |[a,b],_=>simp at q0 q1;rw[q0,q1]
 have e1:v1= #[f1 0]:=by
  obtain⟨vl⟩:=v1
  have q0:=hf1 0 (by simp)
  match vl,Bf with
  |[a],_=>simp at q0;rw[q0]
 subst e0 e1
 have evs:vs= #[.agg #[.slice Ag ng cg,.slice At nt ct],.agg #[f1 0]]:=by
  obtain⟨vl⟩:=vs
  have hz:=A.1
  match vl,hz with
  |[a,b],_=>simp at Tt RM;rw[Tt,RM]
 subst evs
 have up:∀{a v},jM Tryz.prog w D a v->jM Tryz.prog w (fun b=>b<w.heap.size) a v:=fun h=>h.frame (fun _ _=>rfl) dU
 have hT:jM Tryz.prog w (fun b=>b<w.heap.size) (.agg (ab s)) (.agg #[.slice Ag ng cg,.slice At nt ct]):=
  .agg _ _ f0 HW (fun a ha=>by simp[ab]at ha;rcases ha with rfl|rfl<;>rfl) Te (fun j a ha=>by
   match j,ha with
   |0,ha=>simp[ab]at ha;subst ha;exact up g0
   |1,ha=>simp[ab]at ha;subst ha;exact up g1
   |j+2,ha=>simp[ab]at ha)
 refine(callsIn_wide.1 (Is s l hS.form hA w Ag At ng cg nt ct (f1 0) hT (Mv a0))).mono ?_
 rintro e W' ⟨v,rfl,⟨hl,hown⟩,qe,hB⟩
 have S':gz Tryz.prog hs D ι (fun _=>none) W':=S.stay (fun b hb=>hB.block b hb) hB.size (fun _ h=>h) (fun b hb=>Nat.lt_of_lt_of_le (dU b hb) hB.size) (fun _ h=>.inl h) (fun _ _ h=>h)
 have T:Step hs D ι w D ι W':=Step.stay S (fun b hb=>hB.block b hb) hB.size hB.os hB.tape hB.output (fun _ h=>h) (fun _ h=>.inl h) (fun _ _ h=>h)
 rcases hown with⟨rfl,h0⟩|⟨gb,cap,cur,rfl,Rp,hblk,hle,IV,dt,oh⟩
 ·have Q7:cL s l=[]:=qe.1 rfl
  exact⟨.bl,_,n,D,ι,_,rfl,⟨.bl,jw _ _,by rw[Q7];rfl⟩,T,S',U,Nat.le_refl _,.eO _ _ .bl⟩
 ·have Q7:cL s l≠[]:=fun h=>by have:=qe.2 h;cases this
  have jG:ι ⟨0,n⟩=none:=fresh U (fun h=>h)
  have gN:∀{a v},cI Tryz.prog W' D ι a v->cI Tryz.prog W' D (kM ι ⟨0,n⟩ ⟨gb,3,cap*3,none⟩) a v:=fun h=>h.frame (fun _ _=>rfl) (fun _ h=>h) (fb jG)
  have hR:gO Tryz.prog W' D (kM ι ⟨0,n⟩ ⟨gb,3,cap*3,none⟩) ⟨gb,3,cap*3,none⟩ ⟨true,3,(cL s l).map ay⟩:=by
   refine lG.obj ⟨rfl,⟨cur,_,hblk,dt⟩,?_,fun cs hc=>?_,fun cs hc a ha=>?_,fun i j cs a hi hj=>?_⟩ rfl
   ·simp only[List.length_map];exact Nat.mul_le_mul_right 3 hle
   ·obtain⟨b,_,rfl⟩:=List.mem_map.1 hc;rfl
   ·obtain⟨b,_,rfl⟩:=List.mem_map.1 hc
    simp[ay]at ha
    rcases ha with rfl|rfl|rfl<;>rfl
   ·rw[List.getElem?_map]at hi
    simp only[Option.map_eq_some_iff]at hi
    obtain⟨b,hb,rfl⟩:=hi
    have hj3:j<3:=by have:=(List.getElem?_eq_some_iff.1 hj).1;simpa[ay]using this
    have lK:=(List.getElem?_eq_some_iff.1 hb).1
    have hg:=E9 hb hj3
    rw[<-oh,List.getElem?_take,if_pos (by omega)]at hg
    have key:∀x:Value,([.int .i64 b.a,.int .i64 b.b,.int .i64 b.s]:List Value)[j]? =some x->W'.cell? ⟨gb,i*3+j,none⟩=some x:=fun x hx=>by
     rw[hx]at hg
     have e:W'.cell? ⟨gb,i*3+j,none⟩=cur[i*3+j]? :=by
      unfold World.cell?
      rw[show W'.heap[(⟨gb,i*3+j,none⟩:Addr).block]? = _ from hblk]
      rfl
     rw[e,<-Array.getElem?_toList];exact hg
    match j,hj with
    |0,hj=>simp[ay]at hj;subst hj;exact⟨_,key _ rfl,.eO _ _ (.int _ _)⟩
    |1,hj=>simp[ay]at hj;subst hj;exact⟨_,key _ rfl,.eO _ _ (.int _ _)⟩
    |2,hj=>simp[ay]at hj;subst hj;exact⟨_,key _ rfl,.eO _ _ (.int _ _)⟩
    |j+3,hj=>simp[ay]at hj
  have S2:=gz.add (r:=⟨true,3,(cL s l).map ay⟩) S S' jG Rp hR
  refine⟨.own ⟨0,n⟩ 0 (cL s l).length,bt (fun _=>none) ⟨0,n⟩ ⟨true,3,(cL s l).map ay⟩,n+1,D,kM ι ⟨0,n⟩ ⟨gb,3,cap*3,none⟩,_,rfl,⟨AI (cL s l),?_,rfl⟩,T.trans (Step.stay S' (fun _ _=>rfl) (Nat.le_refl _) rfl rfl rfl (fun _ h=>h) (fun _ h=>.inl h) (fb jG)),S2,U.upd.next,Nat.le_succ _,.own _ _ _ _ _ _ (dY _ _ _) rfl hle (.inr (by simp)) (by simp) IV⟩
  unfold AI
  rw[if_neg Q7]
  have hg:(bt (fun _=>none) (⟨0,n⟩:Id) ⟨true,3,(cL s l).map ay⟩:Rows) ⟨0,n⟩=some ⟨true,3,(cL s l).map ay⟩:=by simp[bt]
  have:=fj (n:=5) hg rfl fun b=>uW _ 4 b
  simpa using this
end Go.Proofs.YtgoljkjaameagaaGreat.V

namespace Go.Proofs.YtgoljkjaameagaaGreat.V
open Go.RowKit
attribute [local irreducible] dI wpOps gy Call
attribute [local go_sem] aM fG eQ fZ fY cQ upd cC K.av cP AV.cells AV.cell rowOf rowsOf part ld rowAt bt cu dE ee ik bJ dh ew fX eX dp ej dd dc dQ dR bQ bf cW bP cY cX eh ek ei cV b4 de ef bK aP da cG ij bw cK bU aY dn bc dF AV.undef bF bI dS ec dM dK cH ev eA cF ep eo cZ db List.getD_cons_zero List.getD_cons_succ List.getD_nil List.all_cons List.all_nil Bool.and_true Bool.true_and Bool.and_self Bool.not_true Bool.not_false Option.map_some Option.map_none Option.bind_some Option.bind_none List.length_cons List.length_nil List.take_succ_cons List.take_zero List.take_nil List.drop_succ_cons List.drop_zero List.drop_nil List.head?_cons List.map_cons List.map_nil List.getElem?_cons_zero List.getElem?_cons_succ List.cons_append List.nil_append List.append_nil List.length_map List.set_cons_zero List.set_cons_succ Nat.reduceMul eq_self Int.toNat_natCast Int.natCast_nonneg and_self true_and and_true decide_true decide_false Bool.false_eq_true Nat.zero_add Nat.add_zero List.contains_cons List.contains_nil Bool.or_false Bool.false_or beq_self_eq_true Nat.reduceBEq ne_eq not_true_eq_false not_false_eq_true Id.mk.injEq false_and and_false Nat.reduceLT Int.reduceLE Int.reduceLT Int.reduceToNat Int.reduceNeg Int.reduceAdd Nat.le_refl List.length_append beq_true beq_false Bool.not_eq_eq_eq_not or_false false_or dJ ai aj aD bp bE cq aT bd aX bj cR bG
theorem Mn (lb:List ad) (hb:jL lb) (t:ad):aq Tryz.prog 243 [.agg (aa t),.di [.sl (lb.map aa)]] (.bool (!decide (gF lb t.aO=t.aV))):=by
 refine aq.body dX rfl fun hl n0=>?_
 clear hl
 have h:=TV lb t.aO hb.Hl (by have:=hb.rP;omega)
 (repeat(first|((repeat(revert hN;revert N;apply Pn.out));refine wk (tw @aa.eq_1 @ae.eq_1) ?_;(repeat(refine Pn.mk ?_;intro N hN)))|((try apply Or.inl);refine⟨_,aq.x (h) (sd (tw @aa.eq_1 @ae.eq_1)),?_⟩;refine hN _ _ ?_;clear hN N)))
 exact aW (b:= !decide (gF lb t.aO=t.aV)) (.inl rfl) (sd @Nat.zero_add) (by simp)
theorem Dh (la lb:List ad) (ha:jL la) (hb:jL lb):aq Tryz.prog 172 [.agg [.sl (la.map aa)],.agg [.sl (lb.map aa)]] (.bool (iT la lb)):=by
 refine aq.body dX rfl fun hl n0=>?_
 clear hl
 have h1:=s9 la
 have h2:=s9 lb
 rw[s7.2 ha]at h1
 rw[s7.2 hb]at h2
 have h3:aq Tryz.prog 201 [.sl (la.map aa),.fn 243 [.di [.sl (lb.map aa)]]] (.bool (la.any fun t=> !decide (gF lb t.aO=t.aV))):=
  kR wg (show me Tryz.prog 201=some (Aa 201 247) by kernel_rfl)
   (show me Tryz.prog 247=some (tj 247 3 true) by kernel_rfl) la (by have:=ha.rP;omega) _ _ _ rfl (fun g=>by rw[ai,aX,aj];rfl) (fun x _=>Mn lb hb x) fun g=>by rw[ai,aX,aj];rfl
 (repeat(first|((repeat(revert hN;revert N;apply Pn.out));refine wk @Nat.zero_add ?_;(repeat(refine Pn.mk ?_;intro N hN)))|((try apply Or.inl);refine⟨_,aq.x (h1) (sd @Nat.zero_add),?_⟩;refine hN _ _ ?_;clear hN N)|((try apply Or.inl);refine⟨_,aq.x (h2) (sd @Nat.zero_add),?_⟩;refine hN _ _ ?_;clear hN N)|((try apply Or.inl);refine⟨_,aq.x (h3) (sd @Nat.zero_add),?_⟩;refine hN _ _ ?_;clear hN N)))
 exact aW (b:= !(la.any fun t=> !decide (gF lb t.aO=t.aV))) (.inl rfl) (sd @Nat.zero_add) (by rw[E7];rfl)
theorem z6 (s:az) (l:List ad) (hn:fC s.aH) (hm:qi s) (hl:l.length<=1048576):aq Tryz.prog 82 [.agg (au s),.agg [.sl (l.map aa)]] (.int .i64 (if rD s l then 0 else 1)):=by
 refine aq.body dX rfl fun kp n0=>?_
 clear kp
 have h1:=xQ NV s hn hm.s.g hm.s.t hm.s.s hm.a
 have h2:=nH s.aH l hn hm.s.g hm.s.t hm.s.s hl
 cases b1:nC s
 ·rw[b1]at h1
  rw[au]at h1 ⊢
  (repeat(first|((repeat(revert hN;revert N;apply Pn.out));refine wk @Nat.zero_add ?_;(repeat(refine Pn.mk ?_;intro N hN)))|((try apply Or.inl);refine⟨_,aq.x (h1) (sd @Nat.zero_add),?_⟩;refine hN _ _ ?_;clear hN N)))
  exact bW (b:=1) (.inl rfl) (sd @Nat.zero_add) (by simp[rD,b1])
 have eE:rf s.aH=true:=mL.2 (xw.1 b1).set
 rw[b1]at h1
 rw[eE,Bool.true_and]at h2
 rw[au]at h1 ⊢
 rw[ab]at h2
 cases b2:qa s.aH l
 ·rw[b2]at h2
  (repeat(first|((repeat(revert hN;revert N;apply Pn.out));refine wk @Nat.zero_add ?_;(repeat(refine Pn.mk ?_;intro N hN)))|((try apply Or.inl);refine⟨_,aq.x (h1) (sd @Nat.zero_add),?_⟩;refine hN _ _ ?_;clear hN N)|((try apply Or.inl);refine⟨_,aq.x (h2) (sd @Nat.zero_add),?_⟩;refine hN _ _ ?_;clear hN N)))
  exact bW (b:=1) (.inl rfl) (sd @Nat.zero_add) (by simp[rD,b1,b2])
 ·rw[b2]at h2
  (repeat(first|((repeat(revert hN;revert N;apply Pn.out));refine wk @Nat.zero_add ?_;(repeat(refine Pn.mk ?_;intro N hN)))|((try apply Or.inl);refine⟨_,aq.x (h1) (sd @Nat.zero_add),?_⟩;refine hN _ _ ?_;clear hN N)|((try apply Or.inl);refine⟨_,aq.x (h2) (sd @Nat.zero_add),?_⟩;refine hN _ _ ?_;clear hN N)))
  exact bW (b:=0) (.inl rfl) (sd @Nat.zero_add) (by simp[rD,b1,b2])
theorem Ai (s:az) (l:List ad) (hn:fC s.aH) (hm:qi s) (hl:l.length<=1048576):aq Tryz.prog 115 [.agg (au s),.agg [.sl (l.map aa)]] (.int .i64 (jh s l)):=by
 refine aq.body dX rfl fun kp n0=>?_
 clear kp
 have h1:=z6 s l hn hm hl
 cases b:rD s l
 ·rw[b]at h1
  rw[au]at h1 ⊢
  (repeat(first|((repeat(revert hN;revert N;apply Pn.out));refine wk @Nat.zero_add ?_;(repeat(refine Pn.mk ?_;intro N hN)))|((try apply Or.inl);refine⟨_,aq.x (h1) (sd @Nat.zero_add),?_⟩;refine hN _ _ ?_;clear hN N)))
  exact bW (b:=1) (.inl rfl) (sd @Nat.zero_add) (by simp[jh,b])
 obtain⟨hP,hA⟩:=rE.1 b
 have h2:=Dh s.aZ.ah l hP.xn.1 hA.1
 rw[b]at h1
 rw[au]at h1 ⊢
 cases b2:iT s.aZ.ah l
 ·rw[b2]at h2
  (repeat(first|((repeat(revert hN;revert N;apply Pn.out));refine wk @Nat.zero_add ?_;(repeat(refine Pn.mk ?_;intro N hN)))|((try apply Or.inl);refine⟨_,aq.x (h1) (sd @Nat.zero_add),?_⟩;refine hN _ _ ?_;clear hN N)|((try apply Or.inl);refine⟨_,aq.x (h2) (sd @Nat.zero_add),?_⟩;refine hN _ _ ?_;clear hN N)))
  exact bW (b:=2) (.inl rfl) (sd @Nat.zero_add) (by simp[jh,b,b2])
 ·rw[b2]at h2
  (repeat(first|((repeat(revert hN;revert N;apply Pn.out));refine wk @Nat.zero_add ?_;(repeat(refine Pn.mk ?_;intro N hN)))|((try apply Or.inl);refine⟨_,aq.x (h1) (sd @Nat.zero_add),?_⟩;refine hN _ _ ?_;clear hN N)|((try apply Or.inl);refine⟨_,aq.x (h2) (sd @Nat.zero_add),?_⟩;refine hN _ _ ?_;clear hN N)))
  exact bW (b:=0) (.inl rfl) (sd @Nat.zero_add) (by simp[jh,b,b2])
noncomputable def je (s:az) (l:List ad):List ad×Int:=if jh s l=0 then(if (jc s l).2.length=l.length then((jc s l).1,0)else([],3))else([],jh s l)
theorem Cc {s:az} {l:List ad} (hA:jj s.aH l):∀(n:Nat) (st:iU),ow s l st->ow s l (wN s l n st)
 |0,st,h=>h
 |n+1,st,h=>by
  have h1:=(xE h hA l.length (Nat.le_refl _)).1
  rw[pJ]at h1
  rw[wN]
  split
  ·exact h1
  ·exact Cc hA n _ h1
theorem Cb {s:az} {l:List ad} (hP:F8 s) (hA:jj s.aH l) (hW:iT s.aZ.ah l=true):ow s l (jc s l):=Cc hA _ _ (tn hP hA hW)
theorem zE (s:az) (l:List ad) (hn:fC s.aH) (hg:s.aH.ax.length<=1048576) (ht:s.aH.ah.length<=1048576):∃w,gx aa (je s l).1 w/\jO Tryz.prog 88 [.agg (au s),.agg [.sl (l.map aa)]] (.gD [w,.int .i64 (je s l).2]):=by
 have h1:=GZ s l hn hg ht
 by_cases h0:jh s l=0
 ·obtain⟨hP,hA,hW⟩:=tx.1 h0
  have h2:=Cm s hP.w l hA hW
  rw[h0]at h1
  by_cases he:(jc s l).2.length=l.length
  ·have hr:je s l=((jc s l).1,0):=by rw[je,if_pos h0,if_pos he]
   rw[hr]
   refine⟨_,.inr rfl,?_⟩
   refine jO.body dX rfl fun kp σ=>?_
   clear kp
   generalize (jc s l).1=L at h2 ⊢
   have Fv:decide (((jc s l).2.length:Int)=(l.length:Int))=true:=decide_eq_true (by omega)
   rw[au]at h1 h2 ⊢
   (repeat(first|((repeat(revert hN;revert N;apply Pn.out));refine wk @Fv ?_;(repeat(refine Pn.mk ?_;intro N hN)))|((try apply Or.inl);refine⟨_,aq.x (h1) (sd @Fv),?_⟩;refine hN _ _ ?_;clear hN N)|((try apply Or.inl);refine⟨_,aq.x (h2) (sd @Fv),?_⟩;refine hN _ _ ?_;clear hN N)))
   exact uM (.inl rfl) (vs:=[.sl (L.map aa),.int .i64 0]) (sd @Nat.zero_add) (by simp only[fa,bG,ai,aj,cq,aD,Option.map_some])
  ·have hr:je s l=([],3):=by rw[je,if_pos h0,if_neg he]
   rw[hr]
   refine⟨.bl,.inl ⟨rfl,rfl⟩,?_⟩
   refine jO.body dX rfl fun kp σ=>?_
   clear kp
   generalize (jc s l).1=L at h2
   have Fv:decide (((jc s l).2.length:Int)=(l.length:Int))=false:=decide_eq_false (by omega)
   rw[au]at h1 h2 ⊢
   (repeat(first|((repeat(revert hN;revert N;apply Pn.out));refine wk @Fv ?_;(repeat(refine Pn.mk ?_;intro N hN)))|((try apply Or.inl);refine⟨_,aq.x (h1) (sd @Fv),?_⟩;refine hN _ _ ?_;clear hN N)|((try apply Or.inl);refine⟨_,aq.x (h2) (sd @Fv),?_⟩;refine hN _ _ ?_;clear hN N)))
   exact uM (.inl rfl) (vs:=[.bl,.int .i64 3]) (sd @Nat.zero_add) (by simp only[fa,bG,ai,aj,aT,aD,Option.map_some])
 ·have hr:je s l=([],jh s l):=by rw[je,if_neg h0]
  rw[hr]
  refine⟨.bl,.inl ⟨rfl,rfl⟩,?_⟩
  refine jO.body dX rfl fun kp σ=>?_
  clear kp
  have hd:decide (jh s l=0)=false:=decide_eq_false h0
  rw[au]at h1 ⊢
  (repeat(first|((repeat(revert hN;revert N;apply Pn.out));refine wk @hd ?_;(repeat(refine Pn.mk ?_;intro N hN)))|((try apply Or.inl);refine⟨_,aq.x (h1) (sd @hd),?_⟩;refine hN _ _ ?_;clear hN N)))
  exact uM (.inl rfl) (vs:=[.bl,.int .i64 (jh s l)]) (sd @Nat.zero_add) (by simp only[fa,bG,ai,aj,aT,aD,Option.map_some])
theorem zD (s:az) (l:List ad) (hn:fC s.aH) (hm:qi s) (hl:l.length<=1048576):zA Tryz.prog 89 [.agg (au s),.agg [.sl (l.map aa)]] aa 3 (je s l).1 (je s l).2:=by
 intro n0
 have h1:=Ai s l hn hm hl
 by_cases h0:jh s l=0
 ·obtain⟨hP,hA,hW⟩:=tx.1 h0
  have hc:=fun σ=>Jr s hP.w l hA hW σ
  have Tf:=(Cb hP.w hA hW).rP
  rw[h0]at h1
  by_cases he:(jc s l).2.length=l.length
  ·have hr:je s l=((jc s l).1,0):=by rw[je,if_pos h0,if_pos he]
   rw[hr]
   refine eL dX rfl fun kp=>?_
   clear kp
   rw[au]at h1 hc ⊢
   (repeat(first|((repeat(revert hN;revert N;apply Pn.out));refine wk @Nat.zero_add ?_;(repeat(refine Pn.mk ?_;intro N hN)))|((try apply Or.inl);refine⟨_,aq.x (h1) (sd @Nat.zero_add),?_⟩;refine hN _ _ ?_;clear hN N)))
   refine .inr (aC _ _ _ _ _ (fun r σ1 hq=>?_) (hc _))
   obtain⟨g1,x1⟩:=σ1
   obtain⟨v,o,rfl,hv,ho,Va,Vb,jG⟩:=hq
   (try dsimp only at hv ho Va Vb jG)
   have k3:=jG ⟨89000001,n0⟩ (by(try dsimp only);omega)
   simp only[go_sem, ↓reduceIte,Nat.reduceEqDiff,Nat.reduceAdd,Nat.reduceSub,Nat.reduceLeDiff,reduceCtorEq]at k3
   have Fv:¬((jc s l).2.length:Int)<(l.length:Int):=by omega
   refine hN _ _ ?_
   clear hN N
   (try((repeat(revert hN;revert N;apply Pn.out));refine wk (tw @k3 @Fv) ?_;(repeat(refine Pn.mk ?_;intro N hN))))
   refine e9 (.inl rfl) (vs:=[v,.int .i64 0]) (sd @Nat.zero_add) ?_
   rcases hv with⟨h2,rfl⟩|⟨u,rfl,h3,h4,h5,h6,h7⟩
   ·exact⟨_,[],rfl,.inl ⟨h2,rfl,rfl⟩,⟨List.nodup_nil,fun i hi=>by cases hi⟩⟩
   ·have vu:=dr h5
    exact⟨_,[u],rfl,.inr ⟨u,rfl,sd (tw @vu @h3),rfl,h7⟩,⟨List.nodup_cons.2 ⟨by simp,List.nodup_nil⟩,fun i hi=>by rw[List.mem_singleton.1 hi];(try dsimp only);omega⟩⟩
  ·have hr:je s l=([],3):=by rw[je,if_pos h0,if_neg he]
   rw[hr]
   refine eL dX rfl fun kp=>?_
   clear kp
   rw[au]at h1 hc ⊢
   (repeat(first|((repeat(revert hN;revert N;apply Pn.out));refine wk @Nat.zero_add ?_;(repeat(refine Pn.mk ?_;intro N hN)))|((try apply Or.inl);refine⟨_,aq.x (h1) (sd @Nat.zero_add),?_⟩;refine hN _ _ ?_;clear hN N)))
   refine .inr (aC _ _ _ _ _ (fun r σ1 hq=>?_) (hc _))
   obtain⟨g1,x1⟩:=σ1
   obtain⟨v,o,rfl,hv,ho,Va,Vb,jG⟩:=hq
   (try dsimp only at hv ho Va Vb jG)
   have k3:=jG ⟨89000001,n0⟩ (by(try dsimp only);omega)
   simp only[go_sem, ↓reduceIte,Nat.reduceEqDiff,Nat.reduceAdd,Nat.reduceSub,Nat.reduceLeDiff,reduceCtorEq]at k3
   have Fv:((jc s l).2.length:Int)<(l.length:Int):=by omega
   refine hN _ _ ?_
   clear hN N
   (try((repeat(revert hN;revert N;apply Pn.out));refine wk (tw @k3 @Fv) ?_;(repeat(refine Pn.mk ?_;intro N hN))))
   exact e9 (.inl rfl) (vs:=[.bl,.int .i64 3]) (sd @Nat.zero_add) ⟨.bl,[],rfl,.inl ⟨rfl,rfl,rfl⟩,⟨List.nodup_nil,fun i hi=>by cases hi⟩⟩
 ·have hd:decide (jh s l=0)=false:=decide_eq_false h0
  have hr:je s l=([],jh s l):=by rw[je,if_neg h0]
  rw[hr]
  refine eL dX rfl fun kp=>?_
  clear kp
  rw[au]at h1 ⊢
  (repeat(first|((repeat(revert hN;revert N;apply Pn.out));refine wk @hd ?_;(repeat(refine Pn.mk ?_;intro N hN)))|((try apply Or.inl);refine⟨_,aq.x (h1) (sd @hd),?_⟩;refine hN _ _ ?_;clear hN N)))
  exact e9 (.inl rfl) (vs:=[.bl,.int .i64 (jh s l)]) (sd @Nat.zero_add) ⟨.bl,[],rfl,.inl ⟨rfl,rfl,rfl⟩,⟨List.nodup_nil,fun i hi=>by cases hi⟩⟩
end Go.Proofs.YtgoljkjaameagaaGreat.V

namespace Go.Proofs.YtgoljkjaameagaaGreat.V
open Go.RowKit
attribute [local irreducible] dI wpOps gy Call
attribute [local go_sem] aM fG eQ fZ fY cQ upd cC K.av cP AV.cells AV.cell rowOf rowsOf part ld rowAt bt cu dE ee ik bJ dh ew fX eX dp ej dd dc dQ dR bQ bf cW bP cY cX eh ek ei cV b4 de ef bK aP da cG ij bw cK bU aY dn bc dF AV.undef bF bI dS ec dM dK cH ev eA cF ep eo cZ db List.getD_cons_zero List.getD_cons_succ List.getD_nil List.all_cons List.all_nil Bool.and_true Bool.true_and Bool.and_self Bool.not_true Bool.not_false Option.map_some Option.map_none Option.bind_some Option.bind_none List.length_cons List.length_nil List.take_succ_cons List.take_zero List.take_nil List.drop_succ_cons List.drop_zero List.drop_nil List.head?_cons List.map_cons List.map_nil List.getElem?_cons_zero List.getElem?_cons_succ List.cons_append List.nil_append List.append_nil List.length_map List.set_cons_zero List.set_cons_succ eq_self Int.toNat_natCast Int.natCast_nonneg and_self true_and and_true decide_true decide_false Bool.false_eq_true Nat.zero_add Nat.add_zero List.contains_cons List.contains_nil Bool.or_false Bool.false_or beq_self_eq_true ne_eq not_true_eq_false not_false_eq_true Id.mk.injEq false_and and_false Nat.le_refl List.length_append beq_true beq_false Bool.not_eq_eq_eq_not or_false false_or dJ ai aj aD bp bE cq aT bd aX bj cR bG
theorem gx.cell {α:Type} {e:α->List AV} {L:List α} {w:AV} (h:gx e L w):w.cells=[w]/\w.cell=true:=by
 rcases h with⟨rfl,rfl⟩|rfl<;>exact⟨rfl,rfl⟩
theorem nf.cell {α:Type} {e:α->List AV} {z:Nat} {g:Rows} {v:AV} {L:List α} {ids:List Id} (h:nf e z g v L ids):v.cells=[v]/\v.cell=true:=by
 rcases h with⟨_,rfl,_⟩|⟨o,rfl,_⟩<;>exact⟨rfl,rfl⟩
theorem gx.Of {α:Type} {e:α->List AV} {L:List α} {w:AV} (h:gx e L w) (g:Rows):V.fz g 5 w=some w:=by
 rcases h with⟨rfl,rfl⟩|rfl
 ·exact aT _ _
 ·exact cq _ _ _
theorem nf.Of {α:Type} {e:α->List AV} {z:Nat} {g:Rows} {v:AV} {L:List α} {ids:List Id} (h:nf e z g v L ids) (he:∀x g,cJ g 4 (e x)=some (e x)):∃w,V.fz (dJ g) 5 v=some w/\gx e L w:=by
 rcases h with⟨rfl,rfl,_⟩|⟨o,rfl,h2,_⟩
 ·exact⟨.bl,aT _ _,.inl ⟨rfl,rfl⟩⟩
 ·exact⟨_,fM (e:=e) (sz:=z) (by simp[dJ,h2]) rfl fun x=>he x _,.inr rfl⟩
theorem gx.SK {α:Type} {e:α->List AV} {L:List α} {w:AV} (h:gx e L w) (g:Rows) (n:Nat):V.fz g (n+1) w=some w:=by
 rcases h with⟨rfl,rfl⟩|rfl
 ·exact aT _ _
 ·exact cq _ _ _
end Go.Proofs.YtgoljkjaameagaaGreat.V

namespace Go.Proofs.YtgoljkjaameagaaGreat.V
open Go.RowKit
attribute [local irreducible] dI wpOps gy Call
attribute [local go_sem] aM fG eQ fZ fY cQ upd cC K.av cP AV.cells AV.cell rowOf rowsOf part ld rowAt bt cu dE ee ik bJ dh ew fX eX dp ej dd dc dQ dR bQ bf cW bP cY cX eh ek ei cV b4 de ef bK aP da cG ij bw cK bU aY dn bc dF AV.undef bF bI dS ec dM dK cH ev eA cF ep eo cZ db List.getD_cons_zero List.getD_cons_succ List.getD_nil List.all_cons List.all_nil Bool.and_true Bool.true_and Bool.and_self Bool.not_true Bool.not_false Option.map_some Option.map_none Option.bind_some Option.bind_none List.length_cons List.length_nil List.take_succ_cons List.take_zero List.take_nil List.drop_succ_cons List.drop_zero List.drop_nil List.head?_cons List.map_cons List.map_nil List.getElem?_cons_zero List.getElem?_cons_succ List.cons_append List.nil_append List.append_nil List.length_map List.set_cons_zero List.set_cons_succ Nat.reduceMul eq_self Int.toNat_natCast Int.natCast_nonneg and_self true_and and_true decide_true decide_false Bool.false_eq_true Nat.zero_add Nat.add_zero List.contains_cons List.contains_nil Bool.or_false Bool.false_or beq_self_eq_true Nat.reduceBEq ne_eq not_true_eq_false not_false_eq_true Id.mk.injEq false_and and_false Nat.reduceLT Int.reduceLE Int.reduceLT Int.reduceToNat Int.reduceNeg Int.reduceAdd Nat.le_refl List.length_append beq_true beq_false Bool.not_eq_eq_eq_not or_false false_or dJ ai aj aD bp bE cq aT bd aX bj cR bG
def QD (k:Int) (n:Nat):List Int:=(List.range n).map fun j:Nat=>k+(j:Int)
theorem pN (k:Int) (n:Nat):(QD k n).length=n:=by simp[QD]
theorem JI (k:Int) (σ:ar):Call Tryz.prog 24 [.bl,.int .i64 k] σ (fun r σ'=>r=.int .i64 k/\oq σ [] σ'.get σ'.next):=by
 refine eL dX rfl fun hl=>?_
 clear hl
 (try((repeat(revert hN;revert N;apply Pn.out));refine wk @Nat.zero_add ?_;(repeat(refine Pn.mk ?_;intro N hN))))
 refine aU (fun n env st=>(env 1=.int .i64 k/\env 5=.int .i64 0/\env 0=.bl)/\σ.next<=st.next/\∀x:Id,st.get x=σ.get x) 0 ⟨⟨sd @Nat.zero_add,sd @Nat.zero_add,sd @Nat.zero_add⟩,by(try dsimp only);omega,fun _=>rfl⟩ ?_
 rintro m e st ⟨⟨a1,a5,a0⟩,an,aF⟩ -
 have d0:decide ((0:Int)<((0:Nat):Int))=false:=rfl
 (try((repeat(revert hN;revert N;apply Pn.out));refine wk (tw @a0 (tw @a1 (tw @a5 @d0))) ?_;(repeat(refine Pn.mk ?_;intro N hN))))
 exact e9 (.inl rfl) (vs:=[.int .i64 k]) (sd @a1) ⟨rfl,⟨by(try dsimp only);omega,fun x hx hi=>aF x⟩⟩
theorem Pj (k:Int) {n j:Nat} (h:j<n):((QD k n).map bh)[j]? =some [.int .i64 (k+(j:Int))]:=by
 simp[QD,h,bh]
theorem LI (k:Int) (n:Nat) (h0:0<=k) (h1:k+n<=4611686018427387904):aq Tryz.prog 26 [.sl ((QD k n).map bh),.int .i64 k] (.int .i64 (k+n)):=by
 refine aq.body dX rfl fun hl n0=>?_
 clear hl
 obtain⟨m,hm⟩:∃m,n=m:=⟨_,rfl⟩
 rw[hm]at h1 ⊢
 (try((repeat(revert hN;revert N;apply Pn.out));refine wk @pN ?_;(repeat(refine Pn.mk ?_;intro N hN))))
 refine aU (fun n env st=>∃j:Nat,n=(m)-j/\j<=(m)/\env 5=.int .i64 (j:Int)/\env 1=.int .i64 (k+j)) (m) ⟨0,by omega,by omega,sl (tw @Int.add_zero (tw @Int.natCast_zero @pN)),sl (tw @Int.add_zero (tw @Int.natCast_zero @pN))⟩ ?_
 rintro n_a env_a st_a ⟨j,rfl,ale,a5,a1⟩ dC
 have a0:=dC 0 (by kernel_rfl)
 simp only[go_sem, ↓reduceIte,Nat.reduceEqDiff,Nat.reduceAdd,Nat.reduceSub,Nat.reduceLeDiff,reduceCtorEq,Int.add_zero,Int.natCast_zero,pN]at a0
 clear dC
 by_cases hj:(j:Int)<(m:Int)
 ·have cD:∀{e:Env},(e 5=.int .i64 (IntKind.i64.wrap ((j:Int)+1)))->(e 1=.int .i64 (k+(j+1)))->∃m0,m0<(m)-j/\∃j:Nat,m0=(m)-j/\j<=(m)/\e 5=.int .i64 (j:Int)/\e 1=.int .i64 (k+j):=fun x1 x2=>⟨_,by omega,j+1,rfl,by omega,(by rw[x1,aA (by omega)]),x2⟩
  have fc:=Pj k (n:=m) (j:=j) (by omega)
  have hw:IntKind.i64.wrap (k+(j:Int)+1)=k+((j:Int)+1):=by rw[bz (by omega)];omega
  have e1:decide (k+(j:Int)=k+(j:Int))=true:=decide_eq_true rfl
  (try((repeat(revert hN;revert N;apply Pn.out));refine wk (tw @a5 (tw @a1 (tw @a0 (tw @hj (tw @fc (tw @hw (tw @pN @e1))))))) ?_;(repeat(refine Pn.mk ?_;intro N hN))))
  refine cD ?_ ?_
  all_goals simp only[go_sem, ↓reduceIte,Nat.reduceEqDiff,Nat.reduceAdd,Nat.reduceSub,Nat.reduceLeDiff,reduceCtorEq,a5,a1,a0,hw]
 ·have iL:j=m:=by omega
  subst iL
  (try((repeat(revert hN;revert N;apply Pn.out));refine wk (tw @a5 (tw @a1 (tw @a0 (tw @hj @pN)))) ?_;(repeat(refine Pn.mk ?_;intro N hN))))
  exact bW (b:=k+(j:Int)) (.inl rfl) (sd (tw @a5 (tw @a1 @a0))) rfl
theorem I0 {w:AV} (k:Int) (n:Nat) (h0:0<=k) (h1:k+n<=4611686018427387904) (hw:gx bh (QD k n) w):aq Tryz.prog 26 [w,.int .i64 k] (.int .i64 (k+n)):=
 (LI k n h0 h1).cut mixed (hw.cut (.same _ .nil))
theorem N8 {L:List Int} {v w:AV} (hv:gx bh L v) (hw:gx bh L w):aq Tryz.prog 20 [v,w] (.bool true):=by
 have h:=BE L L
 rw[decide_eq_true rfl]at h
 exact h.cut mixed (hv.cut (hw.cut .nil))
def gu (K:Int) (v:AV):List AV:=[.int .i64 K,v,.bl,.bl,.bl]
def pd (c:Int):Int:=if c=0 then 1 else 0
theorem CJ {s:az} {l:List ad} (h:(je s l).2≠0):(je s l).1=[]:=by
 unfold je at h ⊢
 split
 ·rename_i h0
  rw[if_pos h0]at h
  split
  ·rename_i h1
   rw[if_pos h1]at h
   exact absurd rfl h
  ·rfl
 ·rfl
def pD (P:Program) (f:Nat) (args:List AV) (L:List ad) (c:Int):Prop:=
 ∀n:Nat,Call P f args ⟨fun _=>none,n⟩ (fun r σ'=>∃v ids,r=.gD [.agg (gu (pd c) v),.int .i64 c]/\nf aa 3 σ'.get v L ids/\fW n σ'.next ids)
theorem pD.new {P:Program} (hm:P.follows .mixedOrders=true) {f:Nat} {args eu:List AV} {σ:ar} {L:List ad} {c:Int} (h:pD P f eu L c) (hv:cJ (dJ σ.get) 6 args=some eu):
  Call P f args σ (fun r σ'=>∃v ids,r=.gD [.agg (gu (pd c) v),.int .i64 c]/\nf aa 3 σ'.get v L ids/\fW σ.next σ'.next ids/\Kept σ σ'):=by
 refine vK hm hv (aC _ _ _ _ _ (fun r σ' hq=>?_) (sR hm (h σ.next)))
 obtain⟨⟨v,ids,rfl,ho,hi⟩,hn⟩:=hq
 refine⟨ids,?_,?_,v,ids,rfl,?_,hi,hn,fun j hj=>mQ fun hc=>?_⟩
 ·rcases ho with⟨_,rfl,_⟩|⟨o,rfl,_⟩<;>rfl
 ·rcases ho with⟨_,_,rfl⟩|⟨o,_,h2,rfl,_⟩
  ·intro i hi;cases hi
  ·intro i hi
   rw[List.mem_singleton.1 hi]
   refine⟨_,h2,rfl,fun cs dt a ha=>?_⟩
   obtain⟨x,_,rfl⟩:=List.mem_map.1 dt
   simp[aa]at ha
   rcases ha with rfl|rfl|rfl<;>rfl
 ·exact ho.frame fun i hi=>pq hi
 ·have:=(hi.2 j hc).1;omega
theorem pD.s {P:Program} {f:Nat} {args:List AV} {L:List ad} {c:Int} (h:pD P f args L c):aq P f args (.gD [.agg (gu (pd c) (QF aa L)),.int .i64 c]):=fun n=>
 aC _ _ _ _ _ (fun r σ' hq=>by
  obtain⟨v,ids,rfl,ho,hi⟩:=hq
  rcases ho with⟨h0,rfl,_⟩|⟨o,rfl,h2,_,hp⟩
  ·exact⟨_,by simp only[gu,eS,bB,cw,uY,jw,eG,Option.map_some];rfl,by rw[h0];rfl⟩
  ·have:=fj (e:=aa) (n:=3) h2 rfl fun x=>by simp[aa,bB,cw,eG]
   exact⟨_,by simp only[gu,eS,bB,cw,uY,jw,this,eG,Option.map_some];rfl,by rw[QF,if_neg (by omega),gu]⟩) (h n)
theorem zC (s:az) (l:List ad) (hn:fC s.aH) (hg:s.aH.ax.length<=1048576) (ht:s.aH.ah.length<=1048576):∃w,gx aa (je s l).1 w/\jO Tryz.prog 30 [.agg (au s),.agg [.sl (l.map aa)]] (.gD [.agg (gu (pd (je s l).2) w),.int .i64 (je s l).2]):=by
 obtain⟨w,hw,h1⟩:=zE s l hn hg ht
 have qe:=@CJ s l
 obtain⟨L,hL⟩:∃L,(je s l).1=L:=⟨_,rfl⟩
 obtain⟨c,hc⟩:∃c,(je s l).2=c:=⟨_,rfl⟩
 rw[hL]at hw qe ⊢
 rw[hc]at h1 qe ⊢
 by_cases h0:c=0
 ·subst h0
  refine⟨w,hw,?_⟩
  refine jO.body dX rfl fun kp σ=>?_
  clear kp
  have jq:=hw.cell.1
  have jJ:=hw.cell.2
  have uJ:=hw.SK
  unfold AV.cells at jq
  unfold AV.cell at jJ
  rw[au]at h1 ⊢
  (repeat(first|((repeat(revert hN;revert N;apply Pn.out));refine wk (tw @jq @jJ) ?_;(repeat(refine Pn.mk ?_;intro N hN)))|((try apply Or.inl);refine⟨_,jO.x (h1) _,?_⟩;refine hN _ _ ?_;clear hN N)))
  exact uM (.inl rfl) (vs:=[.agg (gu 1 w),.int .i64 0]) (sd @gu.eq_1) (by simp only[fa,gu,pd,bG,bd,ai,aj,aT,aD,uJ,Option.map_some];rfl)
 ·have hd:decide (c=0)=false:=decide_eq_false h0
  have OC:=qe h0
  subst OC
  refine⟨.bl,.inl ⟨rfl,rfl⟩,?_⟩
  refine jO.body dX rfl fun kp σ=>?_
  clear kp
  rw[au]at h1 ⊢
  (repeat(first|((repeat(revert hN;revert N;apply Pn.out));refine wk @hd ?_;(repeat(refine Pn.mk ?_;intro N hN)))|((try apply Or.inl);refine⟨_,jO.x (h1) _,?_⟩;refine hN _ _ ?_;clear hN N)))
  exact uM (.inl rfl) (vs:=[.agg (gu 0 .bl),.int .i64 c]) (sd @gu.eq_1) (by simp only[fa,gu,pd,h0,if_false,bG,bd,ai,aj,aT,aD,Option.map_some])
theorem zB (s:az) (l:List ad) (hn:fC s.aH) (hm:qi s) (hl:l.length<=1048576):pD Tryz.prog 31 [.agg (au s),.agg [.sl (l.map aa)]] (je s l).1 (je s l).2:=by
 intro n0
 have h1:=zD s l hn hm hl
 have qe:=@CJ s l
 obtain⟨L,hL⟩:∃L,(je s l).1=L:=⟨_,rfl⟩
 obtain⟨c,hc⟩:∃c,(je s l).2=c:=⟨_,rfl⟩
 rw[hL,hc]at h1 qe ⊢
 refine eL dX rfl fun kp=>?_
 clear kp
 rw[au]at h1 ⊢
 (try((repeat(revert hN;revert N;apply Pn.out));refine wk @Nat.zero_add ?_;(repeat(refine Pn.mk ?_;intro N hN))))
 refine .inr (aC _ _ _ _ _ (fun r σ1 hq=>?_) (H3 mixed (fun _=>rfl) h1 (by simp only[ai,aj,bd,cq,aD,Option.map_some])))
 obtain⟨v,iZ,rfl,hZ,KV,Gx⟩:=hq
 obtain⟨g1,x1⟩:=σ1
 (try dsimp only at hZ KV Gx)
 have nZ:=Gx.1
 have bZ:=KV.2
 (try dsimp only at nZ bZ)
 have kC:=Gx.2 ⟨31000002,n0⟩ (by(try dsimp only);omega)
 simp only[go_sem, ↓reduceIte,Nat.reduceEqDiff,Nat.reduceAdd,Nat.reduceSub,Nat.reduceLeDiff,reduceCtorEq]at kC
 have jq:=hZ.cell.1
 have jJ:=hZ.cell.2
 unfold AV.cells at jq
 unfold AV.cell at jJ
 refine hN _ _ ?_
 clear hN N
 by_cases h0:c=0
 ·subst h0
  (try((repeat(revert hN;revert N;apply Pn.out));refine wk (tw @kC (tw @jq @jJ)) ?_;(repeat(refine Pn.mk ?_;intro N hN))))
  exact e9 (.inl rfl) (vs:=[.agg (gu 1 v),.int .i64 0]) (sd @gu.eq_1) ⟨v,iZ,rfl,hZ.frame fun i hi=>by
   have h7:=bZ i hi
   have h6:(i=(⟨31000002,n0⟩:Id))=False:=eq_false fun e=>by rw[e]at h7;(try dsimp only at h7);omega
   simp only[go_sem, ↓reduceIte,Nat.reduceEqDiff,Nat.reduceAdd,Nat.reduceSub,Nat.reduceLeDiff,reduceCtorEq,h6],⟨KV.1,fun i hi=>by have:=bZ i hi;(try dsimp only);omega⟩⟩
 ·have hd:decide (c=0)=false:=decide_eq_false h0
  have OC:=qe h0
  subst OC
  (try((repeat(revert hN;revert N;apply Pn.out));refine wk (tw @hd (tw @kC (tw @jq @jJ))) ?_;(repeat(refine Pn.mk ?_;intro N hN))))
  have hp:pd c=0:=if_neg h0
  exact e9 (.inl rfl) (vs:=[.agg (gu 0 .bl),.int .i64 c]) (sd @gu.eq_1) ⟨.bl,[],by rw[hp];rfl,.inl ⟨rfl,rfl,rfl⟩,⟨List.nodup_nil,fun i hi=>by cases hi⟩⟩
theorem N7:aq Tryz.prog 65 [.bl,.bl] (.bool true):=by
 refine aq.body dX rfl fun hl n0=>?_
 clear hl
 (try((repeat(revert hN;revert N;apply Pn.out));refine wk @Nat.zero_add ?_;(repeat(refine Pn.mk ?_;intro N hN))))
 refine aU (fun n env st=>env 5=.int .i64 0/\env 0=.bl) 0 ⟨sd @Nat.zero_add,sd @Nat.zero_add⟩ ?_
 rintro m e st ⟨a5,a0⟩ -
 have d0:decide ((0:Int)<((0:Nat):Int))=false:=rfl
 (try((repeat(revert hN;revert N;apply Pn.out));refine wk (tw @a5 (tw @a0 @d0)) ?_;(repeat(refine Pn.mk ?_;intro N hN))))
 exact aW (b:=true) (.inl rfl) (sd @Nat.zero_add) rfl
theorem N6:aq Tryz.prog 20 [.bl,.bl] (.bool true):=N8 (L:=[]) (.inl ⟨rfl,rfl⟩) (.inl ⟨rfl,rfl⟩)
theorem N9:aq Tryz.prog 48 [.bl,.bl] (.bool true):=yE (L:=[]) (.inl ⟨rfl,rfl⟩) (.inl ⟨rfl,rfl⟩)
theorem zT {L:List ad} {v w:AV} (K:Int) (hv:gx aa L v) (hw:gx aa L w):aq Tryz.prog 32 [.agg (gu K v),.agg (gu K w)] (.bool true):=by
 refine aq.body dX rfl fun hl n0=>?_
 clear hl
 have h1:=yE hv hw
 have h2:=N9
 have h3:=N6
 have h4:=N7
 have nP:=hv.cell.1
 have uI:=hv.cell.2
 have jq:=hw.cell.1
 have jJ:=hw.cell.2
 have K9:=hv.SK
 have uJ:=hw.SK
 unfold AV.cells at nP jq
 unfold AV.cell at uI jJ
 have e2:decide (K=K)=true:=decide_eq_true rfl
 (repeat(first|((repeat(revert hN;revert N;apply Pn.out));refine wk (tw @e2 (tw @nP (tw @uI (tw @jq (tw @jJ (tw @K9 (tw @uJ @gu.eq_1))))))) ?_;(repeat(refine Pn.mk ?_;intro N hN)))|((try apply Or.inl);refine⟨_,aq.x (h1) (sd (tw @e2 (tw @nP (tw @uI (tw @jq (tw @jJ (tw @K9 (tw @uJ @gu.eq_1)))))))),?_⟩;refine hN _ _ ?_;clear hN N)|((try apply Or.inl);refine⟨_,aq.x (h2) (sd (tw @e2 (tw @nP (tw @uI (tw @jq (tw @jJ (tw @K9 (tw @uJ @gu.eq_1)))))))),?_⟩;refine hN _ _ ?_;clear hN N)|((try apply Or.inl);refine⟨_,aq.x (h3) (sd (tw @e2 (tw @nP (tw @uI (tw @jq (tw @jJ (tw @K9 (tw @uJ @gu.eq_1)))))))),?_⟩;refine hN _ _ ?_;clear hN N)|((try apply Or.inl);refine⟨_,aq.x (h4) (sd (tw @e2 (tw @nP (tw @uI (tw @jq (tw @jJ (tw @K9 (tw @uJ @gu.eq_1)))))))),?_⟩;refine hN _ _ ?_;clear hN N)))
 exact aW (b:=true) (.inl rfl) (sd @Nat.zero_add) rfl
theorem G4 (k:Int) (σ:ar):Call Tryz.prog 68 [.bl,.int .i64 k] σ (fun r σ'=>r=.int .i64 k/\oq σ [] σ'.get σ'.next):=by
 refine eL dX rfl fun hl=>?_
 clear hl
 (try((repeat(revert hN;revert N;apply Pn.out));refine wk @Nat.zero_add ?_;(repeat(refine Pn.mk ?_;intro N hN))))
 refine aU (fun n env st=>(env 1=.int .i64 k/\env 5=.int .i64 0/\env 0=.bl)/\σ.next<=st.next/\∀x:Id,st.get x=σ.get x) 0 ⟨⟨sd @Nat.zero_add,sd @Nat.zero_add,sd @Nat.zero_add⟩,by(try dsimp only);omega,fun _=>rfl⟩ ?_
 rintro m e st ⟨⟨a1,a5,a0⟩,an,aF⟩ -
 have d0:decide ((0:Int)<((0:Nat):Int))=false:=rfl
 (try((repeat(revert hN;revert N;apply Pn.out));refine wk (tw @a0 (tw @a1 (tw @a5 @d0))) ?_;(repeat(refine Pn.mk ?_;intro N hN))))
 exact e9 (.inl rfl) (vs:=[.int .i64 k]) (sd @a1) ⟨rfl,⟨by(try dsimp only);omega,fun x hx hi=>aF x⟩⟩
theorem GB (k:Int):aq Tryz.prog 69 [.bl,.int .i64 k] (.int .i64 k):=by
 refine aq.body dX rfl fun hl n0=>?_
 clear hl
 (try((repeat(revert hN;revert N;apply Pn.out));refine wk @Nat.zero_add ?_;(repeat(refine Pn.mk ?_;intro N hN))))
 refine aU (fun n env st=>env 1=.int .i64 k/\env 5=.int .i64 0/\env 0=.bl) 0 ⟨sd @Nat.zero_add,sd @Nat.zero_add,sd @Nat.zero_add⟩ ?_
 rintro m e st ⟨a1,a5,a0⟩ -
 have d0:decide ((0:Int)<((0:Nat):Int))=false:=rfl
 (try((repeat(revert hN;revert N;apply Pn.out));refine wk (tw @a0 (tw @a1 (tw @a5 @d0))) ?_;(repeat(refine Pn.mk ?_;intro N hN))))
 exact bW (b:=k) (.inl rfl) (sd @a1) rfl
theorem G6 {v:AV} {L:List ad} {ids:List Id} (K k:Int) (h0:0<=k) (h1:k+3*L.length<=4611686018427387904) (σ:ar) (hv:∀i∈ids,i.ck<σ.next) (h:nf aa 3 σ.get v L ids):
  Call Tryz.prog 33 [.agg (gu K v),.int .i64 k] σ (fun r σ'=>r=.int .i64 (k+3*L.length)/\oq σ ids σ'.get σ'.next/\nf aa 3 σ'.get v (Au k L.length) ids):=by
 refine eL dX rfl fun hl=>?_
 clear hl
 have nP:=h.cell.1
 have uI:=h.cell.2
 unfold AV.cells at nP
 unfold AV.cell at uI
 (try((repeat(revert hN;revert N;apply Pn.out));refine wk (tw @nP (tw @uI @gu.eq_1)) ?_;(repeat(refine Pn.mk ?_;intro N hN))))
 refine .inr (aC _ _ _ _ _ (fun r σ1 hq=>?_) (Ef k h0 h1 _ (fun i hi=>by have:=hv i hi;(try dsimp only);omega) (h.frame fun i hi=>by
  have h5:=dr (hv i hi)
  simp only[go_sem, ↓reduceIte,Nat.reduceEqDiff,Nat.reduceAdd,Nat.reduceSub,Nat.reduceLeDiff,reduceCtorEq,h5])))
 obtain⟨rfl,hM,hO⟩:=hq
 obtain⟨g1,x1⟩:=σ1
 (try dsimp only at hM hO)
 have n1:=hM.1
 (try dsimp only at n1)
 have Qm:(⟨33000000,σ.next⟩:Id)∉ids:=fun hc=>by have:=hv _ hc;(try dsimp only at this);omega
 have k1:=hM.2 ⟨33000000,σ.next⟩ (by(try dsimp only);omega) Qm
 simp only[go_sem, ↓reduceIte,Nat.reduceEqDiff,Nat.reduceAdd,Nat.reduceSub,Nat.reduceLeDiff,reduceCtorEq]at k1
 refine hN _ _ ?_
 clear hN N
 (try((repeat(revert hN;revert N;apply Pn.out));refine wk @k1 ?_;(repeat(refine Pn.mk ?_;intro N hN))))
 refine .inr (aC _ _ _ _ _ (fun r σ2 hq=>?_) (wU _ _))
 obtain⟨rfl,SR⟩:=hq
 obtain⟨g2,x2⟩:=σ2
 (try dsimp only at SR)
 have n2:=SR.1
 (try dsimp only at n2)
 have k2:=(SR.2 ⟨33000000,σ.next⟩ (by(try dsimp only);omega) (by simp)).trans k1
 refine hN _ _ ?_
 clear hN N
 (try((repeat(revert hN;revert N;apply Pn.out));refine wk @k2 ?_;(repeat(refine Pn.mk ?_;intro N hN))))
 refine .inr (aC _ _ _ _ _ (fun r σ3 hq=>?_) (JI _ _))
 obtain⟨rfl,SS⟩:=hq
 obtain⟨g3,x3⟩:=σ3
 (try dsimp only at SS)
 have n3:=SS.1
 (try dsimp only at n3)
 have k3:=(SS.2 ⟨33000000,σ.next⟩ (by(try dsimp only);omega) (by simp)).trans k2
 refine hN _ _ ?_
 clear hN N
 (try((repeat(revert hN;revert N;apply Pn.out));refine wk @k3 ?_;(repeat(refine Pn.mk ?_;intro N hN))))
 refine .inr (aC _ _ _ _ _ (fun r σ4 hq=>?_) (G4 _ _))
 obtain⟨rfl,Up⟩:=hq
 obtain⟨g4,x4⟩:=σ4
 (try dsimp only at Up)
 have n4:=Up.1
 (try dsimp only at n4)
 refine hN _ _ ?_
 clear hN N
 (try((repeat(revert hN;revert N;apply Pn.out));refine wk @Nat.zero_add ?_;(repeat(refine Pn.mk ?_;intro N hN))))
 have dD:∀x:Id,x.ck<x1->g4 x=g1 x:=fun x hx=>((Up.2 x (by(try dsimp only);omega) (by simp)).trans (SS.2 x (by(try dsimp only);omega) (by simp))).trans (SR.2 x (by(try dsimp only);omega) (by simp))
 exact e9 (.inl rfl) (vs:=[.int .i64 (k+3*L.length)]) (sd @Nat.zero_add) ⟨rfl,⟨by(try dsimp only);omega,fun x hx hi=>by
  have h5:=dr hx
  have h6:=hM.2 x (by(try dsimp only);omega) hi
  simp only[go_sem, ↓reduceIte,Nat.reduceEqDiff,Nat.reduceAdd,Nat.reduceSub,Nat.reduceLeDiff,reduceCtorEq,h5]at h6
  exact(dD x (by omega)).trans h6⟩,hO.frame fun i hi=>dD i (by have:=hv i hi;omega)⟩
theorem yM {w:AV} (K k:Int) (n:Nat) (h0:0<=k) (h1:k+3*n<=4611686018427387904) (hw:gx aa (Au k n) w):aq Tryz.prog 34 [.agg (gu K w),.int .i64 k] (.int .i64 (k+3*n)):=by
 refine aq.body dX rfl fun hl n0=>?_
 clear hl
 have q1:=wG k n h0 h1 hw
 have q2:aq Tryz.prog 50 [.bl,.int .i64 (k+3*n)] (.int .i64 (k+3*n)):=by
  have h:=wG (w:=.bl) (k+3*n) 0 (by omega) (by omega) (.inl ⟨rfl,rfl⟩)
  simpa using h
 have q3:aq Tryz.prog 26 [.bl,.int .i64 (k+3*n)] (.int .i64 (k+3*n)):=by
  have h:=I0 (w:=.bl) (k+3*n) 0 (by omega) (by omega) (.inl ⟨rfl,rfl⟩)
  simpa using h
 have q4:=GB (k+3*n)
 have e1:decide (k+3*(n:Int)<0)=false:=decide_eq_false (by omega)
 have jq:=hw.cell.1
 have jJ:=hw.cell.2
 have uJ:=hw.SK
 unfold AV.cells at jq
 unfold AV.cell at jJ
 (repeat(first|((repeat(revert hN;revert N;apply Pn.out));refine wk (tw @e1 (tw @jq (tw @jJ (tw @uJ @gu.eq_1)))) ?_;(repeat(refine Pn.mk ?_;intro N hN)))|((try apply Or.inl);refine⟨_,aq.x (q1) (sd (tw @e1 (tw @jq (tw @jJ (tw @uJ @gu.eq_1))))),?_⟩;refine hN _ _ ?_;clear hN N)|((try apply Or.inl);refine⟨_,aq.x (q2) (sd (tw @e1 (tw @jq (tw @jJ (tw @uJ @gu.eq_1))))),?_⟩;refine hN _ _ ?_;clear hN N)|((try apply Or.inl);refine⟨_,aq.x (q3) (sd (tw @e1 (tw @jq (tw @jJ (tw @uJ @gu.eq_1))))),?_⟩;refine hN _ _ ?_;clear hN N)|((try apply Or.inl);refine⟨_,aq.x (q4) (sd (tw @e1 (tw @jq (tw @jJ (tw @uJ @gu.eq_1))))),?_⟩;refine hN _ _ ?_;clear hN N)))
 exact bW (b:=k+3*(n:Int)) (.inl rfl) (sd @Nat.zero_add) rfl
theorem nf.T8 {α:Type} {e:α->List AV} {z:Nat} {g:Rows} {v:AV} {L:List α} {ids:List Id} (h:nf e z g v L ids) (he:∀x g,cJ g 4 (e x)=some (e x)):∃w,gx e L w/\∀g':Rows,(∀i∈ids,g' i=g i)->V.fz (dJ g') 5 v=some w:=by
 rcases h with⟨rfl,rfl,_⟩|⟨o,rfl,h2,rfl,_⟩
 ·exact⟨.bl,.inl ⟨rfl,rfl⟩,fun _ _=>aT _ _⟩
 ·exact⟨_,.inr rfl,fun g' hg=>fM (e:=e) (sz:=z) (by simp[dJ,(hg o (by simp)).trans h2]) rfl fun x=>he x _⟩
theorem pe {g:Rows} {v w:AV} (K:Int) (h:fz g 5 v=some w):fz g 6 (.agg [.int .i64 K,v,.bl,.bl,.bl])=some (.agg (gu K w)):=by simp only[gu,bd,ai,aj,aT,aD,h,Option.map_some]
theorem Mc (NS:az->dP->List ad×Int)
  (RI:∀s a,fC s.aH->qi s->a.ah.length<=1048576->∃w,gx aa (NS s a).1 w/\jO Tryz.prog 30 [.agg (au s),.agg (aQ a)] (.gD [.agg (gu (pd (NS s a).2) w),.int .i64 (NS s a).2]))
  (Rt:∀s a,fC s.aH->qi s->a.ah.length<=1048576->pD Tryz.prog 31 [.agg (au s),.agg (aQ a)] (NS s a).1 (NS s a).2)
  (hlen:∀s a,qi s->a.ah.length<=1048576->(NS s a).1.length<=1152921504606846976)
  (s:az) (a:dP) (hn:fC s.aH):aq Tryz.prog 5 [.agg (au s),.agg (aQ a)] (.bool true):=by
 refine aq.body dX rfl fun hl n0=>?_
 clear hl
 have h1:=EM s 1048576 (by omega) (by omega) hn
 by_cases hf:(xH s:Int)<=1048576
 ·rw[iF hf]at h1
  have kI:¬(1048576:Int)-(xH s:Int)<0:=by omega
  have h2:=sw a (1048576-xH s) (by omega) (by omega)
  by_cases hg:(a.ah.length:Int)<=1048576-xH s
  ·rw[iF hg]at h2
   have Fw:¬(1048576:Int)-(xH s:Int)-(a.ah.length:Int)<0:=by omega
   have sm:=Hu (s:=s) (by omega)
   have am:a.ah.length<=1048576:=by omega
   have t1:=ET s sm
   have t2:=sE a am
   obtain⟨w,hw,r1⟩:=RI s a hn sm am
   have r2:=Rt s a hn sm am
   have q1:=Dw s
   have q2:=zS a
   have hL:=hlen s a sm am
   obtain⟨⟨L,c⟩,hRe⟩:∃R,NS s a=R:=⟨_,rfl⟩
   rw[hRe]at r1 r2 hw hL
   (try dsimp only at r1 r2 hw hL)
   rw[gu]at r1
   have jq:=hw.cell.1
   have jJ:=hw.cell.2
   unfold AV.cells at jq
   unfold AV.cell at jJ
   have Jp:=fun σ=>ES s sm σ
   have RV:=fun σ=>sD a am σ
   rw[au]at Jp
   rw[aQ]at RV
   have e2:decide (c=c)=true:=by simp
   rw[au]at h1
   rw[aQ]at h2
   (repeat(first|((repeat(revert hN;revert N;apply Pn.out));refine wk (tw @au.eq_1 (tw @aQ.eq_1 (tw @kI @Fw))) ?_;(repeat(refine Pn.mk ?_;intro N hN)))|((try apply Or.inl);refine⟨_,aq.x (h1) (sd (tw @au.eq_1 (tw @aQ.eq_1 (tw @kI @Fw)))),?_⟩;refine hN _ _ ?_;clear hN N)|((try apply Or.inl);refine⟨_,aq.x (h2) (sd (tw @au.eq_1 (tw @aQ.eq_1 (tw @kI @Fw)))),?_⟩;refine hN _ _ ?_;clear hN N)))
   refine⟨_,jO.x (by rw[au]at t1;exact t1) _,?_⟩
   refine hN _ _ ?_
   clear hN N
   (try((repeat(revert hN;revert N;apply Pn.out));refine wk @aQ.eq_1 ?_;(repeat(refine Pn.mk ?_;intro N hN))))
   refine⟨_,jO.x (by rw[aQ]at t2;exact t2) _,?_⟩
   refine hN _ _ ?_
   clear hN N
   (try((repeat(revert hN;revert N;apply Pn.out));refine wk @Nat.zero_add ?_;(repeat(refine Pn.mk ?_;intro N hN))))
   refine⟨_,jO.x (by rw[au,aQ]at r1;exact r1) _,?_⟩
   refine hN _ _ ?_
   clear hN N
   (try((repeat(revert hN;revert N;apply Pn.out));refine wk (tw @jq @jJ) ?_;(repeat(refine Pn.mk ?_;intro N hN))))
   refine .inr (aC _ _ _ _ _ (fun r σ1 hq=>?_) (Jp _))
   obtain⟨iX,hX,KU,Qg⟩:=hq
   obtain⟨g1,x1⟩:=σ1
   (try dsimp only at hX KU Qg)
   obtain⟨A,B,C,j1,j2,j3,rfl,hA,hB,hC,rfl⟩:=hX.ex
   obtain⟨oA,rfl⟩:=hA.kY
   obtain⟨oB,rfl⟩:=hB.kY
   obtain⟨oC,rfl⟩:=hC.kY
   clear hA hB hC
   have nX:=Qg.1
   have bX:=KU.2
   (try dsimp only at nX bX)
   have kA:=Qg.2 ⟨5000000,n0⟩ (by(try dsimp only);omega)
   have kB:=Qg.2 ⟨5000001,n0⟩ (by(try dsimp only);omega)
   have kW:=Qg.2 ⟨5008008,n0+1+1+1+1+1+1⟩ (by(try dsimp only);omega)
   simp only[go_sem, ↓reduceIte,Nat.reduceEqDiff,Nat.reduceAdd,Nat.reduceSub,Nat.reduceLeDiff,reduceCtorEq]at kA kB kW
   refine hN _ _ ?_
   clear hN N
   (try((repeat(revert hN;revert N;apply Pn.out));refine wk (tw @kA (tw @kB @kW)) ?_;(repeat(refine Pn.mk ?_;intro N hN))))
   refine .inr (aC _ _ _ _ _ (fun r σ2 hq=>?_) (RV _))
   obtain⟨iY,hY0,OA,M7⟩:=hq
   obtain⟨g2,x2⟩:=σ2
   (try dsimp only at hY0 OA M7)
   obtain⟨D,rfl,hD⟩:=hY0
   obtain⟨oD,rfl⟩:=hD.kY
   have hY:xN g2 (.agg [.own oD 0 a.ah.length]) a iY:=⟨_,rfl,hD⟩
   have nY:=M7.1
   have bY:=OA.2
   (try dsimp only at nY bY)
   have lA:=M7.2 ⟨5000000,n0⟩ (by(try dsimp only);omega)
   have lB:=M7.2 ⟨5000001,n0⟩ (by(try dsimp only);omega)
   have lW:=M7.2 ⟨5008008,n0+1+1+1+1+1+1⟩ (by(try dsimp only);omega)
   have lX:=M7.2 ⟨5009002,x1⟩ (by(try dsimp only);omega)
   have vA:=dr (i:=⟨5000000,n0⟩) (n:=x1) (by(try dsimp only);omega)
   have vB:=dr (i:=⟨5000001,n0⟩) (n:=x1) (by(try dsimp only);omega)
   have vW:=dr (i:=⟨5008008,n0+1+1+1+1+1+1⟩) (n:=x1) (by(try dsimp only);omega)
   simp only[go_sem, ↓reduceIte,Nat.reduceEqDiff,Nat.reduceAdd,Nat.reduceSub,Nat.reduceLeDiff,reduceCtorEq,kA,kB,kW,vA,vB,vW]at lA lB lW lX
   have Ux:=hX.frame (g':=g2) fun i hi=>by
    have h3:=bX i hi
    have h4:=M7.2 i (by(try dsimp only);omega)
    have h5:=dr (i:=i) (n:=x1) (by omega)
    simp only[go_sem, ↓reduceIte,Nat.reduceEqDiff,Nat.reduceAdd,Nat.reduceSub,Nat.reduceLeDiff,reduceCtorEq,h5]at h4
    exact h4
   clear hX Qg M7 hD kA kB kW
   refine hN _ _ ?_
   clear hN N
   have uX:=dr (i:=⟨5009002,x1⟩) (n:=x2) (by(try dsimp only);omega)
   (try((repeat(revert hN;revert N;apply Pn.out));refine wk (tw @lA (tw @lB (tw @lW (tw @lX @uX)))) ?_;(repeat(refine Pn.mk ?_;intro N hN))))
   refine .inr (aC _ _ _ _ _ (fun r σ3 hq=>?_) (r2.new mixed (Hv (Ux.frame fun i hi=>by
    have h5:=dr (i:=i) (n:=x2) (by have:=bX i hi;omega)
    simp only[go_sem, ↓reduceIte,Nat.reduceEqDiff,Nat.reduceAdd,Nat.reduceSub,Nat.reduceLeDiff,reduceCtorEq,h5]) (hY.frame fun i hi=>by
    have h5:=dr (i:=i) (n:=x2) (by have:=bY i hi;omega)
    simp only[go_sem, ↓reduceIte,Nat.reduceEqDiff,Nat.reduceAdd,Nat.reduceSub,Nat.reduceLeDiff,reduceCtorEq,h5]))))
   obtain⟨v,iZ,rfl,hZ,KV,Gx⟩:=hq
   obtain⟨g3,x3⟩:=σ3
   (try dsimp only at hZ KV Gx)
   have nZ:=Gx.1
   have bZ:=KV.2
   (try dsimp only at nZ bZ)
   have wA:=dr (i:=⟨5000000,n0⟩) (n:=x2) (by(try dsimp only);omega)
   have wB:=dr (i:=⟨5000001,n0⟩) (n:=x2) (by(try dsimp only);omega)
   have wW:=dr (i:=⟨5008008,n0+1+1+1+1+1+1⟩) (n:=x2) (by(try dsimp only);omega)
   have mA:=Gx.2 ⟨5000000,n0⟩ (by(try dsimp only);omega)
   have mB:=Gx.2 ⟨5000001,n0⟩ (by(try dsimp only);omega)
   have mW:=Gx.2 ⟨5008008,n0+1+1+1+1+1+1⟩ (by(try dsimp only);omega)
   have mX:=Gx.2 ⟨5009002,x1⟩ (by(try dsimp only);omega)
   have mY:=Gx.2 ⟨5010002,x2⟩ (by(try dsimp only);omega)
   simp only[go_sem, ↓reduceIte,Nat.reduceEqDiff,Nat.reduceAdd,Nat.reduceSub,Nat.reduceLeDiff,reduceCtorEq,lA,lB,lW,lX,wA,wB,wW,uX]at mA mB mW mX mY
   have fr3:∀i:Id,i.ck<x2->g3 i=g2 i:=fun i hi=>by
    have h4:=Gx.2 i (by(try dsimp only);omega)
    have h5:=dr (i:=i) (n:=x2) hi
    simp only[go_sem, ↓reduceIte,Nat.reduceEqDiff,Nat.reduceAdd,Nat.reduceSub,Nat.reduceLeDiff,reduceCtorEq,h5]at h4
    exact h4
   have Od:∀i:Id,i.ck<x3->(bt (bt g3 ⟨5011006,x3⟩ ⟨true,5,[[.int .i64 0,.bl,.bl,.bl,.bl]]⟩) ⟨5011006,x3⟩ ⟨true,5,[[.int .i64 (pd c),v,.bl,.bl,.bl]]⟩) i=g3 i:=fun i hi=>by
    have h5:=dr hi
    simp only[go_sem, ↓reduceIte,Nat.reduceEqDiff,Nat.reduceAdd,Nat.reduceSub,Nat.reduceLeDiff,reduceCtorEq,h5]
   have Uy:=Ux.frame fun i hi=>(Od i (by have:=bX i hi;omega)).trans (fr3 i (by have:=bX i hi;omega))
   have Uz:=hY.frame fun i hi=>(Od i (by have:=bY i hi;omega)).trans (fr3 i (by have:=bY i hi;omega))
   replace hZ:=hZ.frame fun i hi=>Od i (bZ i hi).2
   have mG:(bt (bt g3 ⟨5011006,x3⟩ ⟨true,5,[[.int .i64 0,.bl,.bl,.bl,.bl]]⟩) ⟨5011006,x3⟩ ⟨true,5,[[.int .i64 (pd c),v,.bl,.bl,.bl]]⟩) ⟨5011006,x3⟩=some ⟨true,5,[[.int .i64 (pd c),v,.bl,.bl,.bl]]⟩:=by simp only[go_sem, ↓reduceIte,Nat.reduceEqDiff,Nat.reduceAdd,Nat.reduceSub,Nat.reduceLeDiff,reduceCtorEq]
   clear Ux hY Gx lA lB lW lX
   obtain⟨wv,qR,OP⟩:=hZ.Of fun x g=>by simp[aa,ai,aj,aD]
   have nP:=hZ.cell.1
   have uI:=hZ.cell.2
   unfold AV.cells at nP
   unfold AV.cell at uI
   refine hN _ _ ?_
   clear hN N
   (try((repeat(revert hN;revert N;apply Pn.out));refine wk (tw @mA (tw @mB (tw @mW (tw @mX (tw @mY (tw @nP (tw @uI @gu.eq_1))))))) ?_;(repeat(refine Pn.mk ?_;intro N hN))))
   refine .inl ⟨_,aq.x (zT (pd c) OP hw) (tJ (pe _ qR) (pe _ (hw.Of _))),?_⟩
   refine hN _ _ ?_
   clear hN N
   (try((repeat(revert hN;revert N;apply Pn.out));refine wk (tw @mA (tw @mB (tw @mW (tw @mX (tw @mY (tw @e2 (tw @nP (tw @uI @gu.eq_1)))))))) ?_;(repeat(refine Pn.mk ?_;intro N hN))))
   refine⟨_,jO.x (by rw[au]at t1;exact t1) _,?_⟩
   refine hN _ _ ?_
   clear hN N
   (try((repeat(revert hN;revert N;apply Pn.out));refine wk (tw @mA (tw @mB (tw @mW (tw @mX (tw @mY (tw @e2 (tw @nP (tw @uI @gu.eq_1)))))))) ?_;(repeat(refine Pn.mk ?_;intro N hN))))
   refine⟨_,aq.x (by rw[au]at q1;exact q1) (by rw[<-au];exact MJ Uy (Ff _ _)),?_⟩
   refine hN _ _ ?_
   clear hN N
   (try((repeat(revert hN;revert N;apply Pn.out));refine wk (tw @mA (tw @mB (tw @mW (tw @mX (tw @mY (tw @e2 (tw @nP (tw @uI @gu.eq_1)))))))) ?_;(repeat(refine Pn.mk ?_;intro N hN))))
   refine⟨_,jO.x (by rw[aQ]at t2;exact t2) _,?_⟩
   refine hN _ _ ?_
   clear hN N
   (try((repeat(revert hN;revert N;apply Pn.out));refine wk (tw @mA (tw @mB (tw @mW (tw @mX (tw @mY (tw @e2 (tw @nP (tw @uI @gu.eq_1)))))))) ?_;(repeat(refine Pn.mk ?_;intro N hN))))
   refine⟨_,aq.x (by rw[aQ]at q2;exact q2) (by rw[<-aQ];exact Lj Uz (Fe _ _)),?_⟩
   refine hN _ _ ?_
   clear hN N
   (try((repeat(revert hN;revert N;apply Pn.out));refine wk (tw @mA (tw @mB (tw @mW (tw @mX (tw @mY (tw @e2 (tw @nP (tw @uI @gu.eq_1)))))))) ?_;(repeat(refine Pn.mk ?_;intro N hN))))
   have OR:=Mh s
   have hns:=KU.not (x:=⟨5000000,n0⟩) (by(try dsimp only);omega)
   have hnt:=KU.not (x:=⟨5000001,n0⟩) (by(try dsimp only);omega)
   refine .inr (aC _ _ _ _ _ (fun r σ4 hq=>?_) (G8 _ s _ 1 (by omega) sm.s.t (by omega) _ (fun i hi=>by have:=bX i hi;(try dsimp only);omega) KU.1 Uy))
   obtain⟨rfl,hM⟩:=hq
   obtain⟨g4,x4⟩:=σ4
   (try dsimp only at hM)
   have nM:=hM.1
   (try dsimp only at nM)
   have pA:=(hM.2 ⟨5000000,n0⟩ (by(try dsimp only);omega) hns).trans ((Od _ (by(try dsimp only);omega)).trans mA)
   have pB:=(hM.2 ⟨5000001,n0⟩ (by(try dsimp only);omega) hnt).trans ((Od _ (by(try dsimp only);omega)).trans mB)
   have pW:=(hM.2 ⟨5008008,n0+1+1+1+1+1+1⟩ (by(try dsimp only);omega) (KU.not (by(try dsimp only);omega))).trans ((Od _ (by(try dsimp only);omega)).trans mW)
   have pG:=(hM.2 ⟨5011006,x3⟩ (by(try dsimp only);omega) (KU.not (by(try dsimp only);omega))).trans mG
   have pY:=(hM.2 ⟨5010002,x2⟩ (by(try dsimp only);omega) (KU.not (by(try dsimp only);omega))).trans ((Od _ (by(try dsimp only);omega)).trans mY)
   have hY4:=Uz.frame (g':=g4) fun i hi=>hM.2 i (by have:=bY i hi;(try dsimp only);omega) (KU.not (by have:=bY i hi;omega))
   have hZ4:=hZ.frame (g':=g4) fun i hi=>hM.2 i (by have:=bZ i hi;(try dsimp only);omega) (KU.not (by have:=bZ i hi;omega))
   clear hM Uy Uz hZ mA mB mW mX mY mG qR
   refine hN _ _ ?_
   clear hN N
   (try((repeat(revert hN;revert N;apply Pn.out));refine wk (tw @pA (tw @pB (tw @pW (tw @pG @pY)))) ?_;(repeat(refine Pn.mk ?_;intro N hN))))
   refine .inr (aC _ _ _ _ _ (fun r σ5 hq=>?_) (y9 _ a _ (1+Cn s) (by omega) (by omega) _ (fun i hi=>by have:=bY i hi;(try dsimp only);omega) hY4))
   obtain⟨rfl,hM⟩:=hq
   obtain⟨g5,x5⟩:=σ5
   (try dsimp only at hM)
   have nN:=hM.1
   (try dsimp only at nN)
   have rA:=(hM.2 ⟨5000000,n0⟩ (by(try dsimp only);omega) (OA.not (by(try dsimp only);omega))).trans pA
   have rB:=(hM.2 ⟨5000001,n0⟩ (by(try dsimp only);omega) (OA.not (by(try dsimp only);omega))).trans pB
   have rW:=(hM.2 ⟨5008008,n0+1+1+1+1+1+1⟩ (by(try dsimp only);omega) (OA.not (by(try dsimp only);omega))).trans pW
   have rG:=(hM.2 ⟨5011006,x3⟩ (by(try dsimp only);omega) (OA.not (by(try dsimp only);omega))).trans pG
   have UA:=hZ4.frame (g':=g5) fun i hi=>hM.2 i (by have:=bZ i hi;(try dsimp only);omega) (OA.not (by have:=bZ i hi;omega))
   clear hM hY4 hZ4 pA pB pW pG pY
   obtain⟨wv5,qR,OP⟩:=UA.Of fun x g=>by simp[aa,ai,aj,aD]
   have e3:decide (1+(Cn s:Int)+3*(a.ah.length:Int)<0)=false:=decide_eq_false (by omega)
   refine hN _ _ ?_
   clear hN N
   (try((repeat(revert hN;revert N;apply Pn.out));refine wk (tw @rA (tw @rB (tw @rW (tw @rG @e3)))) ?_;(repeat(refine Pn.mk ?_;intro N hN))))
   refine .inl ⟨_,aq.x (zT (pd c) OP hw) (tJ (pe _ qR) (pe _ (hw.Of _))),?_⟩
   refine hN _ _ ?_
   clear hN N
   (try((repeat(revert hN;revert N;apply Pn.out));refine wk (tw @rA (tw @rB (tw @rW (tw @rG (tw @e2 @e3))))) ?_;(repeat(refine Pn.mk ?_;intro N hN))))
   refine .inr (aC _ _ _ _ _ (fun r σ6 hq=>?_) (G6 (pd c) 1 (by omega) (by omega) _ (fun i hi=>by have:=bZ i hi;(try dsimp only);omega) UA))
   obtain⟨rfl,hM,hZ6⟩:=hq
   obtain⟨g6,x6⟩:=σ6
   (try dsimp only at hM hZ6)
   have sA:=(hM.2 ⟨5000000,n0⟩ (by(try dsimp only);omega) (KV.not (by(try dsimp only);omega))).trans rA
   have sB:=(hM.2 ⟨5000001,n0⟩ (by(try dsimp only);omega) (KV.not (by(try dsimp only);omega))).trans rB
   have sG:=(hM.2 ⟨5011006,x3⟩ (by(try dsimp only);omega) (KV.not (by(try dsimp only);omega))).trans rG
   have sW:=(hM.2 ⟨5008008,n0+1+1+1+1+1+1⟩ (by(try dsimp only);omega) (KV.not (by(try dsimp only);omega))).trans rW
   have hM6:x5<=x6:=by have:=hM.1;(try dsimp only at this);omega
   clear hM UA rA rB rW rG qR OP
   obtain⟨wv6,OP,Qz⟩:=hZ6.T8 fun x g=>by simp[aa,ai,aj,aD]
   have qR:=Qz g6 fun _ _=>rfl
   have e4:decide (1+3*(L.length:Int)<0)=false:=decide_eq_false (by omega)
   have e5:decide (1+3*(L.length:Int)=1+3*(L.length:Int))=true:=decide_eq_true rfl
   refine hN _ _ ?_
   clear hN N
   (try((repeat(revert hN;revert N;apply Pn.out));refine wk (tw @sA (tw @sB (tw @sW @sG))) ?_;(repeat(refine Pn.mk ?_;intro N hN))))
   refine .inl ⟨_,aq.x (yM (pd c) 1 L.length (by omega) (by omega) OP) (tJ (pe _ qR) (aD _ _ _ _)),?_⟩
   refine hN _ _ ?_
   clear hN N
   (try((repeat(revert hN;revert N;apply Pn.out));refine wk (tw @sA (tw @sB (tw @sW (tw @sG (tw @e4 @e5))))) ?_;(repeat(refine Pn.mk ?_;intro N hN))))
   refine⟨_,jO.x (by rw[au]at t1;exact t1) _,?_⟩
   refine hN _ _ ?_
   clear hN N
   (try((repeat(revert hN;revert N;apply Pn.out));refine wk (tw @sA (tw @sB (tw @sW (tw @sG (tw @e4 @e5))))) ?_;(repeat(refine Pn.mk ?_;intro N hN))))
   refine⟨_,jO.x (by rw[aQ]at t2;exact t2) _,?_⟩
   refine hN _ _ ?_
   clear hN N
   (try((repeat(revert hN;revert N;apply Pn.out));refine wk (tw @sA (tw @sB (tw @sW (tw @sG (tw @e4 @e5))))) ?_;(repeat(refine Pn.mk ?_;intro N hN))))
   refine⟨_,aq.x (by have h:=r2.s;rw[au,aQ,gu]at h;exact h) (tJ (by rw[<-au];exact Ff _ _) (by rw[<-aQ];exact Fe _ _)),?_⟩
   refine hN _ _ ?_
   clear hN N
   have vh:=(sb (e:=aa) (L:=L)).cell.1
   have HS:=(sb (e:=aa) (L:=L)).cell.2
   unfold AV.cells at vh
   unfold AV.cell at HS
   (try((repeat(revert hN;revert N;apply Pn.out));refine wk (tw @sW (tw @sG (tw @e2 (tw @vh @HS)))) ?_;(repeat(refine Pn.mk ?_;intro N hN))))
   refine .inl ⟨_,aq.x (zT (pd c) sb hw) (tJ (pe _ (sb.Of _)) (pe _ (hw.Of _))),?_⟩
   refine hN _ _ ?_
   clear hN N
   (try((repeat(revert hN;revert N;apply Pn.out));refine wk (tw @e2 @sG) ?_;(repeat(refine Pn.mk ?_;intro N hN))))
   refine .inl ⟨_,aq.x (yM (pd c) 1 L.length (by omega) (by omega) OP) (tJ (pe _ (Qz _ fun i hi=>by
    have h5:=dr (i:=i) (n:=x6) (by have:=hM6;have:=bZ i hi;(try dsimp only at this);omega)
    simp only[go_sem, ↓reduceIte,Nat.reduceEqDiff,Nat.reduceAdd,Nat.reduceSub,Nat.reduceLeDiff,reduceCtorEq,h5])) (aD _ _ _ _)),?_⟩
   refine hN _ _ ?_
   clear hN N
   (try((repeat(revert hN;revert N;apply Pn.out));refine wk (tw @e4 (tw @e5 @sG)) ?_;(repeat(refine Pn.mk ?_;intro N hN))))
   exact aW (b:=true) (.inl rfl) (sd @Nat.zero_add) rfl
  ·rw[iK hg]at h2
   rw[au]at h1
   rw[aQ]at h2
   (repeat(first|((repeat(revert hN;revert N;apply Pn.out));refine wk (tw @au.eq_1 (tw @aQ.eq_1 @kI)) ?_;(repeat(refine Pn.mk ?_;intro N hN)))|((try apply Or.inl);refine⟨_,aq.x (h1) (sd (tw @au.eq_1 (tw @aQ.eq_1 @kI))),?_⟩;refine hN _ _ ?_;clear hN N)|((try apply Or.inl);refine⟨_,aq.x (h2) (sd (tw @au.eq_1 (tw @aQ.eq_1 @kI))),?_⟩;refine hN _ _ ?_;clear hN N)))
   exact aW (b:=true) (.inl rfl) (sd @Nat.zero_add) rfl
 ·rw[iK hf]at h1
  rw[au]at h1
  (repeat(first|((repeat(revert hN;revert N;apply Pn.out));refine wk (tw @au.eq_1 @aQ.eq_1) ?_;(repeat(refine Pn.mk ?_;intro N hN)))|((try apply Or.inl);refine⟨_,aq.x (h1) (sd (tw @au.eq_1 @aQ.eq_1)),?_⟩;refine hN _ _ ?_;clear hN N)))
  exact aW (b:=true) (.inl rfl) (sd @Nat.zero_add) rfl
end Go.Proofs.YtgoljkjaameagaaGreat.V

namespace Go.Proofs.YtgoljkjaameagaaGreat
open Go.ChangeShapes Go.WideShapes Go.ChangeAt Go.RowKit Go.Deep
section
variable {H:Type} {enc:TypeId×Value->H} {P:Program} {w:World}
theorem ni.R8 {α:Type} {rep:World->List Nat->List Value->α->Prop} {sz:Nat} {w:World} {b o len cap:Nat} (oL:Nat->List Value) (fs:Nat->List Nat) (ds:Nat->α) (hc:len<=cap) (hm:cap<=maxLen)
  (hl:∀i,i<len->(oL i).length=sz) (hr:∀i,i<len->rep w (fs i) (oL i) (ds i)) (Fs:∀i,i<len->∀j u,(oL i)[j]? =some u->w.cell? ⟨b,o+(i*sz+j),none⟩=some u):
  ni rep sz w ([b]++((List.range len).map fs).flatten) (.slice (some ⟨b,o,none⟩) len cap) ((List.range len).map ds):=by
 refine⟨(List.range len).map oL,(List.range len).map fs,[b],rfl,⟨some ⟨b,o,none⟩,cap,by simp,by simpa using hc,hm,.inr ⟨b,o,rfl,rfl,fun j u hj=>?_⟩⟩,by simp,by simp,fun i cs f d h1 h2 h3=>?_⟩
 ·have hlen:∀cs∈(List.range len).map oL,cs.length=sz:=fun cs dt=>by
   obtain⟨i,hi,rfl⟩:=List.mem_map.1 dt
   exact hl i (List.mem_range.1 hi)
  have ig:=(List.getElem?_eq_some_iff.1 hj).1
  have LJ:((List.range len).map oL).flatten.length=len*sz:=by
   rw[List.length_flatten,List.map_map]
   have:∀(l:List Nat),(∀i∈l,i<len)->(l.map (List.length∘oL)).sum=l.length*sz:=by
    intro l
    induction l with
    |nil=>intro _;simp
    |cons a l ih=>intro h;rw[List.map_cons,List.sum_cons,ih fun i hi=>h i (List.mem_cons_of_mem _ hi)];simp only[Function.comp,hl a (h a (by simp)),List.length_cons,Nat.add_mul];omega
   rw[this _ fun i hi=>List.mem_range.1 hi,List.length_range]
  rw[LJ]at ig
  have DW:0<sz:=by
   rcases Nat.eq_zero_or_pos sz with h|h
   ·subst h;simp at ig
   ·exact h
  have hi:j / sz<len:=(Nat.div_lt_iff_lt_mul DW).2 ig
  have HQ:j % sz<sz:=Nat.mod_lt _ DW
  have LN:j=(j / sz)*sz+j % sz:=by rw[Nat.mul_comm];exact(Nat.div_add_mod j sz).symm
  rw[LN,tX hlen (i:=j / sz) (cs:=oL (j / sz)) (by simp[hi]) HQ]at hj
  rw[LN]
  have:=Fs (j / sz) hi (j % sz) u hj
  rw[<-LN]at this ⊢
  exact this
 ·have hi:i<len:=by
   have:=(List.getElem?_eq_some_iff.1 h1).1
   simpa using this
  simp[hi]at h1 h2 h3
  subst h1 h2 h3
  exact⟨hr i hi,hl i hi⟩
theorem km (b o k:Nat):(⟨b,o,none⟩:Addr).add k=⟨b,o+k,none⟩:=by
 unfold Addr.add;split
 ·rename_i h;subst h;rfl
 ·rfl
theorem p7 {α:Type} {rep:World->List Nat->List Value->α->Prop} {Q:α->Prop} {t e:TypeId} {sz fuel:Nat} {cs:List Value} {x:DataW H×List MemPlace} (ht:P.underlying t=some (.slice e)) (hC:P.cellsOf e=sz) (DW:0<sz)
  (h:DataW.trod enc P w 0 (fun _=>true) true fuel t cs=some x) (hel:∀n qk y,qk.length=sz->DataW.trod enc P w 0 (fun _=>true) true n e qk=some y->∃f d,fI f 0 w.heap.size/\rep w f qk d/\Q d):
  ∃A n c f xs,cs=[.slice A n c]/\fI f 0 w.heap.size/\ni rep sz w f (.slice A n c) xs/\∀d∈xs,Q d:=by
 rcases open_slice ht h with⟨rfl,_⟩|⟨a,len,cap,m,n,D,Pl,rfl,_,hl,hm,OQ,_,hi⟩
 ·exact⟨none,0,0,[],[],rfl,fI.nil _ _,ni.nil _ _ _,fun d h=>by cases h⟩
 rw[hC]at hi
 simp only[if_true]at OQ
 by_cases h0:len=0
 ·subst h0
  exact⟨some a,0,cap,[],[],rfl,fI.nil _ _,⟨[],[],[],rfl,⟨some a,cap,rfl,Nat.zero_le _,hm,.inl ⟨rfl,rfl⟩⟩,rfl,rfl,fun i cs f d hc=>by simp at hc⟩,fun d h=>by cases h⟩
 obtain⟨b,o,sp⟩:=a
 have cell0:∃v,w.cell? ⟨b,o,sp⟩=some v:=by
  obtain⟨qk,hc,_⟩:=hi 0 (by omega)
  obtain⟨_,nq,Fs⟩:=World.cells?_some hc
  refine⟨qk[0]'(by omega),?_⟩
  have:=Fs 0 DW
  rw[List.getElem?_eq_getElem (by omega)]at this
  simpa[Addr.add]using this
 obtain⟨v0,sP⟩:=cell0
 have hb:b<w.heap.size:=World.block_lt_of_cell? w _ sP
 have O4:sp=none:=by
  unfold World.cell? at sP
  split at sP
  ·split at sP
   ·cases sP
   ·rename_i h;simpa using h
  ·cases sP
 subst O4
 have key:∀i,i<len->∃qk f d,qk.length=sz/\fI f 0 w.heap.size/\rep w f qk d/\Q d/\∀j u,qk[j]? =some u->w.cell? ⟨b,o+(i*sz+j),none⟩=some u:=fun i lK=>by
  obtain⟨qk,hc,htr⟩:=hi i (by omega)
  obtain⟨_,nq,Fs⟩:=World.cells?_some hc
  obtain⟨f,d,h1,h2,h3⟩:=hel n qk _ nq htr
  refine⟨qk,f,d,nq,h1,h2,h3,fun j u hj=>?_⟩
  have ig:=(List.getElem?_eq_some_iff.1 hj).1
  have:=Fs j (by omega)
  rw[hj]at this
  rw[<-this,Go.Deep.add_add,km]
 have:Nonempty α:=by
  obtain⟨_,_,d,_⟩:=key 0 (by omega)
  exact⟨d⟩
 let cf:Nat->List Value:=fun i=>if hi:i<len then(key i hi).choose else[]
 let ff:Nat->List Nat:=fun i=>if hi:i<len then(key i hi).choose_spec.choose else[]
 let df:Nat->α:=fun i=>if hi:i<len then(key i hi).choose_spec.choose_spec.choose else Classical.choice this
 have dD:∀i,i<len->(cf i).length=sz/\fI (ff i) 0 w.heap.size/\rep w (ff i) (cf i) (df i)/\Q (df i)/\∀j u,(cf i)[j]? =some u->w.cell? ⟨b,o+(i*sz+j),none⟩=some u:=fun i hi=>by
  have:=(key i hi).choose_spec.choose_spec.choose_spec
  simp only[cf,ff,df,dif_pos hi]
  exact this
 refine⟨some ⟨b,o,none⟩,len,cap,_,(List.range len).map df,rfl,?_,ni.R8 cf ff df hl hm (fun i hi=>(dD i hi).1) (fun i hi=>(dD i hi).2.2.1) (fun i hi=>(dD i hi).2.2.2.2),fun d hd=>?_⟩
 ·intro x hx
  rcases List.mem_append.1 hx with hx|hx
  ·simp at hx;subst hx;exact⟨Nat.zero_le _,hb⟩
  ·obtain⟨l,LP,Qx⟩:=List.mem_flatten.1 hx
   obtain⟨i,hi,rfl⟩:=List.mem_map.1 LP
   exact(dD i (List.mem_range.1 hi)).2.1 x Qx
 ·obtain⟨i,hi,rfl⟩:=List.mem_map.1 hd
  exact(dD i (List.mem_range.1 hi)).2.2.2.1
end
section
variable {H:Type} {enc:TypeId×Value->H} {w:World} {fuel:Nat} {cs:List Value} {x:DataW H×List MemPlace}
abbrev TT (enc:TypeId×Value->H) (w:World) (fuel t:Nat) (cs:List Value) (x:DataW H×List MemPlace):Prop:=DataW.trod enc Tryz.prog w 0 (fun _=>true) true fuel t cs=some x
theorem Po (h:TT enc w fuel 31 cs x):∃A n c f xs,cs=[.slice A n c]/\fI f 0 w.heap.size/\vN w f (.slice A n c) xs:=by
 obtain⟨A,n,c,f,xs,h1,h2,h3,_⟩:=p7 (rep:=E6) (Q:=fun _=>True) Tryz.underlying31 (sz:=1) (by kernel_rfl) (by omega) h fun n qk y hl hy=>by
  obtain⟨b,rfl,_⟩:=DataW.trod_int Tryz.underlying2 hy
  exact⟨[],b,fI.nil _ _,⟨rfl,rfl⟩,trivial⟩
 exact⟨A,n,c,f,xs,h1,h2,h3⟩
theorem ny {t:TypeId} {fs:Array Field} (ht:Tryz.prog.underlying t=some (.struct fs)) (h:TT enc w fuel t cs x):cs.length=Tryz.prog.cellsOf t/\∃n,∀(i:Nat) (f:Field),fs[i]? =some f->∃y,TT enc w n f.type ((cs.drop f.offset).take (Tryz.prog.cellsOf f.type)) y:=by
 obtain⟨xs,n,_,_,hl,Qx,hf⟩:=DataW.trod_struct ht h
 refine⟨hl,n,fun i f hi=>?_⟩
 have lK:i<xs.length:=by rw[Qx];exact(Array.getElem?_eq_some_iff.1 hi).1
 exact⟨xs[i],(hf i f hi).trans (List.getElem?_eq_getElem lK)⟩
theorem R4 {l:List Value} (h:l.length=2):∃a b,l=[a,b]:=by
 match l,h with
 |[a,b],_=>exact⟨a,b,rfl⟩
theorem Vz {l:List Value} (h:l.length=3):∃a b c,l=[a,b,c]:=by
 match l,h with
 |[a,b,c],_=>exact⟨a,b,c,rfl⟩
theorem Vy {l:List Value} (h:l.length=1):∃a,l=[a]:=by
 match l,h with
 |[a],_=>exact⟨a,rfl⟩
theorem VA {l:List Value} (h:l.length=4):∃a b c d,l=[a,b,c,d]:=by
 match l,h with
 |[a,b,c,d],_=>exact⟨a,b,c,d,rfl⟩
theorem Mo (h:TT enc w fuel 22 cs x):∃A n c f xs,cs=[.slice A n c]/\fI f 0 w.heap.size/\rq w f (.slice A n c) xs/\∀d∈xs,d.aE.size<=9223372036854775807:=by
 exact p7 (rep:=H8) (Q:=fun d=>d.aE.size<=9223372036854775807) Tryz.underlying22 (sz:=2) (by kernel_rfl) (by omega) h fun n qk y hl hy=>by
  obtain⟨_,m,hf⟩:=ny Tryz.underlying247 hy
  obtain⟨a,b,rfl⟩:=R4 hl
  ·skip
   obtain⟨y0,h0⟩:=hf 0 _ rfl
   obtain⟨y1,h1⟩:=hf 1 _ rfl
   rw[show Tryz.prog.cellsOf _=1 from by kernel_rfl]at h0 h1
   obtain⟨p,e0,_,ws⟩:=DataW.trod_string Tryz.underlying9 h0
   obtain⟨q,e1,_⟩:=DataW.trod_int Tryz.underlying2 h1
   simp at e0 e1
   subst e0 e1
   exact⟨[],⟨p,q⟩,fI.nil _ _,⟨rfl,rfl⟩,by simpa[maxLen]using ws⟩
theorem Mp (h:TT enc w fuel 23 cs x):∃A n c f xs,cs=[.slice A n c]/\fI f 0 w.heap.size/\rz w f (.slice A n c) xs/\∀d∈xs,d.aE.size<=9223372036854775807:=by
 exact p7 (rep:=H9) (Q:=fun d=>d.aE.size<=9223372036854775807) Tryz.underlying23 (sz:=2) (by kernel_rfl) (by omega) h fun n qk y hl hy=>by
  obtain⟨_,m,hf⟩:=ny Tryz.underlying250 hy
  obtain⟨a,b,rfl⟩:=R4 hl
  ·skip
   obtain⟨y0,h0⟩:=hf 0 _ rfl
   obtain⟨y1,h1⟩:=hf 1 _ rfl
   rw[show Tryz.prog.cellsOf _=1 from by kernel_rfl]at h0 h1
   obtain⟨p,e0,_,ws⟩:=DataW.trod_string Tryz.underlying9 h0
   obtain⟨A1,n1,c1,f1,Ss,e1,k1,s1⟩:=Po h1
   simp at e0 e1
   subst e0 e1
   exact⟨_,⟨p,Ss⟩,k1,⟨_,f1,rfl,rfl,s1⟩,by simpa[maxLen]using ws⟩
theorem Hc (h:TT enc w fuel 26 cs x):∃A n c f xs,cs=[.slice A n c]/\fI f 0 w.heap.size/\jf w f (.slice A n c) xs:=by
 obtain⟨A,n,c,f,xs,h1,h2,h3,_⟩:=p7 (rep:=Bi) (Q:=fun _=>True) Tryz.underlying26 (sz:=3) (by kernel_rfl) (by omega) h fun n qk y hl hy=>by
  obtain⟨_,m,hf⟩:=ny Tryz.underlying208 hy
  obtain⟨a,b,c,rfl⟩:=Vz hl
  ·skip
   obtain⟨y0,h0⟩:=hf 0 _ rfl
   obtain⟨y1,h1⟩:=hf 1 _ rfl
   rw[show Tryz.prog.cellsOf _=2 from by kernel_rfl]at h0
   rw[show Tryz.prog.cellsOf _=1 from by kernel_rfl]at h1
   obtain⟨_,m2,K0⟩:=ny Tryz.underlying163 h0
   obtain⟨z0,g0⟩:=K0 0 _ rfl
   obtain⟨z1,g1⟩:=K0 1 _ rfl
   rw[show Tryz.prog.cellsOf _=1 from by kernel_rfl]at g0 g1
   obtain⟨px,e0,_⟩:=DataW.trod_int Tryz.underlying2 g0
   obtain⟨py,e1,_⟩:=DataW.trod_int Tryz.underlying2 g1
   obtain⟨ti,e2,_⟩:=DataW.trod_int Tryz.underlying2 h1
   simp at e0 e1 e2
   subst e0 e1 e2
   exact⟨[],⟨⟨px,py⟩,ti⟩,fI.nil _ _,⟨rfl,rfl⟩,trivial⟩
 exact⟨A,n,c,f,xs,h1,h2,h3⟩
theorem w7 (h:TT enc w fuel 28 cs x):∃A n c f,∃d:dP,cs=[.slice A n c]/\fI f 0 w.heap.size/\jf w f (.slice A n c) d.ah:=by
 obtain⟨hl,m,hf⟩:=ny Tryz.underlying28 h
 rw[show Tryz.prog.cellsOf _=1 from by kernel_rfl]at hl
 obtain⟨a,rfl⟩:=Vy hl
 ·skip
  obtain⟨y0,h0⟩:=hf 0 _ rfl
  rw[show Tryz.prog.cellsOf _=1 from by kernel_rfl]at h0
  obtain⟨A1,n1,c1,f1,Ss,e1,k1,s1⟩:=Hc h0
  simp at e1
  subst e1
  exact⟨A1,n1,c1,f1,⟨Ss⟩,rfl,k1,s1⟩
theorem JP (h:TT enc w fuel 30 cs x):∃A0 n0 c0 f0 A1 n1 c1 f1 A2 n2 c2 f2,∃d:az,cs=[.slice A0 n0 c0,.slice A1 n1 c1,.slice A2 n2 c2,.int .i64 d.aB]/\fI f0 0 w.heap.size/\rq w f0 (.slice A0 n0 c0) d.aH.ax/\fI f1 0 w.heap.size/\rz w f1 (.slice A1 n1 c1) d.aH.ah/\fI f2 0 w.heap.size/\jf w f2 (.slice A2 n2 c2) d.aZ.ah/\(∀g∈d.aH.ax,g.aE.size<=9223372036854775807)/\∀t∈d.aH.ah,t.aE.size<=9223372036854775807:=by
 obtain⟨hl,m,hf⟩:=ny Tryz.underlying30 h
 rw[show Tryz.prog.cellsOf _=4 from by kernel_rfl]at hl
 obtain⟨a,b,c,d,rfl⟩:=VA hl
 ·skip
  obtain⟨y0,h0⟩:=hf 0 _ rfl
  obtain⟨y1,h1⟩:=hf 1 _ rfl
  obtain⟨y2,h2⟩:=hf 2 _ rfl
  rw[show Tryz.prog.cellsOf _=2 from by kernel_rfl]at h0
  rw[show Tryz.prog.cellsOf _=1 from by kernel_rfl]at h1 h2
  obtain⟨_,m2,K0⟩:=ny Tryz.underlying25 h0
  obtain⟨z0,g0⟩:=K0 0 _ rfl
  obtain⟨z1,g1⟩:=K0 1 _ rfl
  rw[show Tryz.prog.cellsOf _=1 from by kernel_rfl]at g0 g1
  obtain⟨A0,n0,c0,f0,xs0,e0,k0,s0,o0⟩:=Mo g0
  obtain⟨A1,n1,c1,f1,Ss,e1,k1,s1,o1⟩:=Mp g1
  obtain⟨A2,n2,c2,f2,d2,e2,k2,s2⟩:=w7 h1
  obtain⟨t,e3,_⟩:=DataW.trod_int Tryz.underlying2 h2
  simp at e0 e1 e2 e3
  subst e0 e1 e2 e3
  exact⟨A0,n0,c0,f0,A1,n1,c1,f1,A2,n2,c2,f2,⟨⟨xs0,Ss⟩,d2,t⟩,rfl,k0,s0,k1,s1,k2,s2,o0,o1⟩
end
end Go.Proofs.YtgoljkjaameagaaGreat

namespace Go.Proofs.YtgoljkjaameagaaGreat
open Go.ChangeShapes Go.WideShapes Go.ChangeAt Go.RowKit V
theorem Sc:ownKnob Tryz.prog.godebug=none:=by kernel_rfl
theorem JA:laidOutB Tryz.prog=true:=by kernel_rfl
theorem Kf {s:az} {l:List ad} (hl:l.length<=1048576):(je s l).1.length<=1152921504606846976:=by
 unfold je
 split
 ·rename_i h0
  obtain⟨hP,hA,hW⟩:=tx.1 h0
  have h:=Cb hP.w hA hW
  have h1:=h.rP
  have h2:=h.len
  split
  ·dsimp only;omega
  ·simp
 ·simp
theorem Mw (s:az) (a:dP) (hn:fC s.aH):aq Tryz.prog 5 [.agg (au s),.agg (aQ a)] (.bool true):=
 Mc (fun s a=>je s a.ah) (fun s a hn hm _=>zC s a.ah hn hm.s.g hm.s.t) (fun s a hn hm hl=>zB s a.ah hn hm hl) (fun s a hm hl=>Kf hl) s a hn
theorem Ep (os:Os) (started:os.Started) (H:Type) (enc:TypeId×Value->H):
  ReturnsInHanded {} Tryz.checked os 5 .any (Rows.fnExactProveGrownSpec.pre6 enc Tryz.prog Tryz.f5 Rows.fnExactProveGrownRow.domain false) (Rows.fnExactProveGrownSpec.post enc Tryz.prog Tryz.f5 false true false false):=by
 refine returnsInHanded_of_change (C:=Tryz.checked) Sc started (by kernel_rfl) Tryz.func5
  (ChangeSpec.witness6 (enc:=enc) (C:=Tryz.checked) false ⟨#[], #[.agg #[.slice none 0 0,.slice none 0 0,.slice none 0 0,.int .i64 0],.agg #[.slice none 0 0]],[]⟩ 8 (by kernel_rfl) (by kernel_rfl) (by kernel_rfl) (by kernel_rfl)) ?_
 intro W base args ds gs before Nr hW hcnd _
 have th:∀(j:Nat) t v,Tryz.f5.params[j]? =some t->args[j]? =some v->Value.okWide Tryz.prog W .any base t v:=Nr
 have hW':=hW
 obtain⟨p,q,hA0,hV,rfl,C5,mz⟩:=hW
 have hA:DataW.TrodAll enc Tryz.prog W 0 (fun _=>true) true Tryz.f5.params.toList args.toList ds p:=hA0
 rw[Tryz.params5]at hA th
 obtain⟨v0,vs0,d0,ds0,p0,q0,nO,rfl,rfl,h0,r0⟩:=trodAll_cons hA
 obtain⟨v1,vs1,d1,ds1,p1,q1,rfl,rfl,rfl,h1,r1⟩:=trodAll_cons r0
 obtain⟨rfl,rfl,rfl⟩:=trodAll_nil r1
 obtain rfl:args= #[v0,v1]:=by cases args;simp_all
 obtain⟨rfl,rfl⟩:=trodVars_none hV
 obtain⟨Qe,rfl,_⟩:=okWide_struct Tryz.underlying30 (th 0 30 v0 rfl rfl)
 obtain⟨TZ,rfl,_⟩:=okWide_struct Tryz.underlying28 (th 1 28 v1 rfl rfl)
 have k0:=h0
 have k1:=h1
 have lt0:∀x∈p0,x.block<W.heap.size:=by obtain⟨m,hm⟩:=k0;exact DataW.trod_lt m _ _ _ hm
 have QC:∀x∈p1,x.block<W.heap.size:=by obtain⟨m,hm⟩:=k1;exact DataW.trod_lt m _ _ _ hm
 obtain⟨A0,n0,c0,f0,A1,n1,c1,f1,A2,n2,c2,f2,s,dt,w0,s0,w1,s1,w2,s2,o0,o1⟩:∃A0 n0 c0 f0 A1 n1 c1 f1 A2 n2 c2 f2,∃d:az,(Value.agg Qe).cells.toList=[.slice A0 n0 c0,.slice A1 n1 c1,.slice A2 n2 c2,.int .i64 d.aB]/\fI f0 0 W.heap.size/\rq W f0 (.slice A0 n0 c0) d.aH.ax/\fI f1 0 W.heap.size/\rz W f1 (.slice A1 n1 c1) d.aH.ah/\fI f2 0 W.heap.size/\jf W f2 (.slice A2 n2 c2) d.aZ.ah/\(∀g∈d.aH.ax,g.aE.size<=9223372036854775807)/\∀t∈d.aH.ah,t.aE.size<=9223372036854775807:=by
  obtain⟨fuel,hf⟩:=h0
  exact JP hf
 obtain⟨A3,n3,c3,f3,a,Re,w3,s3⟩:∃A n c f,∃d:dP,(Value.agg TZ).cells.toList=[.slice A n c]/\fI f 0 W.heap.size/\jf W f (.slice A n c) d.ah:=by
  obtain⟨fuel,hf⟩:=h1
  exact w7 hf
 obtain rfl:Qe= #[.slice A0 n0 c0,.slice A1 n1 c1,.slice A2 n2 c2,.int .i64 s.aB]:=by
  cases Qe;simp[Value.cells]at dt;subst dt;rfl
 obtain rfl:TZ= #[.slice A3 n3 c3]:=by
  cases TZ;simp[Value.cells]at Re;subst Re;rfl
 clear hA0 Nr
 have gN:fm Tryz.prog W (fun b=>b<W.heap.size) (fun _=>none) [.agg (au s),.agg (aQ a)] #[.agg #[.slice A0 n0 c0,.slice A1 n1 c1,.slice A2 n2 c2,.int .i64 s.aB],.agg #[.slice A3 n3 c3]]:=by
  have h:=mJ (Dj s0 (fun b hb=>(w0 b hb).2) s1 (fun b hb=>(w1 b hb).2) s2 (fun b hb=>(w2 b hb).2)) (mJ (zz s3 (fun b hb=>(w3 b hb).2)) (⟨rfl,fun j b hj=>by cases j<;>cases hj⟩:fm Tryz.prog W (fun b=>b<W.heap.size) (fun _=>none) [] #[]))
  simpa using h
 have iu:=Pe mixed (Mw s a ⟨o0,o1⟩) gN
 clear s0 s1 s2 s3 w0 w1 w2 w3 gN
 refine(iu.mono fun e W' ⟨he,bel⟩=>?_)
 subst he
 exact⟨_,rfl,_,_,_,[],_,[],hW',trodAll_mk1 (shut_bool Tryz.underlying4 _),(trodAll_cons_mk (Below.trod JA (by kernel_rfl) (of_decide_eq_true (by kernel_rfl)) k0 bel lt0) (trodAll_cons_mk (Below.trod JA (by kernel_rfl) (of_decide_eq_true (by kernel_rfl)) k1 bel QC) trodAll_mk0)),rfl,bel.frame _,fun h=>by cases h⟩
end Go.Proofs.YtgoljkjaameagaaGreat

namespace Go.Proofs.YtgoljkjaameagaaGreat
open Go.ChangeShapes Go.WideShapes Go.ChangeAt Go.RowKit
theorem phN:Tryz.pinned.checked.prog.funcNamed Rows.fnExactProveGrownRow.func=some 5:=by kernel_rfl
theorem phJ:joinedFacts Tryz.pinned.checked.prog 5 Tryz.f5 Rows.fnExactProveGrownSpec Rows.fnExactProveGrownRow=true:=by
 unfold joinedFacts
 repeat(with_reducible refine Bool.and_eq_true_iff.2 ⟨?_,by as_aux_lemma=>kernel_rfl⟩)
 as_aux_lemma=>kernel_rfl
theorem phI:Tryz.f5.isInstance Tryz.pinned.checked.prog Rows.fnExactProveGrownRow.origin Rows.fnExactProveGrownRow.targs:=of_decide_eq_true (by kernel_rfl)
theorem phW:Tryz.f5.isWrapper Tryz.pinned.checked.prog Rows.fnExactProveGrownRow.wrapper Rows.fnExactProveGrownRow.mainSum:=by
 unfold Func.isWrapper;first|(rw[if_pos (by decide+kernel)];kernel_rfl)|(rw[if_neg (by decide+kernel)];exact⟨rfl,rfl⟩)
theorem JZ:Rows.fnExactProveGrownRow.holds Tryz.pinned (OpenSpec.ofChange Rows.fnExactProveGrownSpec):=
 OpenClaim.holds_of_wide 5 Tryz.f5 rfl rfl rfl rfl rfl rfl rfl ⟨rfl,rfl,rfl,rfl,rfl⟩ rfl rfl rfl rfl rfl phN Tryz.func5 phJ phI phW
  (fun os started H enc _=>Ep os started H enc)
theorem fnExactProveGrown_proved:Rows.FnExactProveGrownSaid:=JZ
end Go.Proofs.YtgoljkjaameagaaGreat
