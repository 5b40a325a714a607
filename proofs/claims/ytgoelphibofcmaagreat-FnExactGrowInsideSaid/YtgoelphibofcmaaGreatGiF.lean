/- Networks by matrices: one is made. -/
import Derived.Test.YtgoelphibofcmaaGreatGiE
import Derived.Test.YtgoelphibofcmaaGreatGiC
import Derived.RangeFuncCalls
import Derived.OrdersIn
import Derived.Test.YtgoelphibofcmaaGreatGiB
import Derived.Test.YtgoelphibofcmaaGreatChecked
import Derived.ProofKit
import Derived.Deep.Slices
import Derived.ChangeSame
import Derived.Test.YtgoelphibofcmaaGreatRows
import Derived.OpenShut
import Derived.ShutString
import Derived.ChangeOld
import Derived.Below
set_option linter.unusedVariables false
set_option linter.unusedSimpArgs false
set_option maxRecDepth 100000
set_option maxHeartbeats 16000000
namespace Go.Proofs.YtgoelphibofcmaaGreat.V
open Go.RowKit
attribute [local irreducible] dG wpOps gy Call
attribute [local go_sem] aM fF eP ga fW cQ upd cz K.av cR AV.cells AV.cell rowOf rowsOf part ld rowAt bq cu dD ee ik bJ dh ev fU eX dr ej dd dc dQ dR bQ bf cW bP cY cX eh ek ei cV cj de ef bK aO da cG ij bw cK bU aY dn aZ dE AV.undef bD bG dV ec dM dK cH eu ew cF ep eo cZ db List.getD_cons_zero List.getD_cons_succ List.getD_nil List.all_cons List.all_nil Bool.and_true Bool.true_and Bool.and_self Bool.not_true Bool.not_false Option.map_some Option.map_none Option.bind_some Option.bind_none List.length_cons List.length_nil List.take_succ_cons List.take_zero List.take_nil List.drop_succ_cons List.drop_zero List.drop_nil List.head?_cons List.map_cons List.map_nil List.getElem?_cons_zero List.getElem?_cons_succ List.cons_append List.nil_append List.append_nil List.length_map List.set_cons_zero List.set_cons_succ Nat.reduceMul eq_self Int.toNat_natCast Int.natCast_nonneg and_self true_and and_true decide_true decide_false Bool.false_eq_true Nat.zero_add Nat.add_zero List.contains_cons List.contains_nil Bool.or_false Bool.false_or beq_self_eq_true Nat.reduceBEq ne_eq not_true_eq_false not_false_eq_true Id.mk.injEq false_and and_false Nat.reduceLT Int.reduceLE Int.reduceLT Int.reduceToNat Int.reduceNeg Int.reduceAdd Nat.le_refl List.length_append beq_true beq_false Bool.not_eq_eq_eq_not or_false false_or dL ai aj aH bl bB cw aX bd aU bh cU bH
theorem Hi (n:Nat):List.replicate n [AV.int .i64 0]=dW (fun _=>0) n:=by
 refine List.ext_getElem? fun i=>?_
 by_cases h:i<n
 ·rw[dO h,List.getElem?_replicate,if_pos h];rfl
 ·rw[List.getElem?_eq_none (by simp;omega),List.getElem?_eq_none (by rw[dB];omega)]
theorem As {i j:Id} {s t:Nat} (hi:i.site=s) (hj:j.site=t) (h:(s==t)=false):(i=j)=False/\(j=i)=False:=by
 constructor<;>(simp only[eq_iff_iff,iff_false];rintro rfl;rw[hi]at hj;subst hj;simp at h)
theorem Cf (cnt:Nat) (uw:1<=cnt) (hn:cnt<=1048576) (bs:List PB) (hb:∀b∈bs,b.a<cnt/\b.b<cnt) (dF:∀b∈bs,0<=b.s/\b.s<=4) (qc:bs.length<=1048576) (σ:ar):
  Call Tryz.prog 245 [.int .i64 cnt,.sl (bs.map ay)] σ fun r σ'=>∃X o1 o2 R1 R2,r=.ptr X 0 0/\FO X o1 o2 R1 R2 cnt σ'.next/\σ.next<=σ'.next/\nI σ'.get X o1 o2 R1 R2 cnt (kZ bs) (fun _ _=>0)/\∀i:Id,i.ck<σ.next->σ'.get i=σ.get i:=by
 refine eU eC rfl fun hl=>?_
 clear hl
 (try((repeat(revert hN;revert N;apply Pn.out));refine wk @Nat.zero_add ?_;(repeat(refine Pn.mk ?_;intro N hN))))
 obtain⟨X,hX⟩:∃X:Id,X=⟨245001001,σ.next+1⟩:=⟨_,rfl⟩
 obtain⟨R1,TR⟩:∃R:Nat->Id,R=fun k=>⟨245004006,σ.next+3+4*k+1⟩:=⟨_,rfl⟩
 obtain⟨R2,QB⟩:∃R:Nat->Id,R=fun k=>⟨245005006,σ.next+3+4*k+2⟩:=⟨_,rfl⟩
 have sX:X.site=245001001:=by rw[hX]
 have vX:X.ck=σ.next+1:=by rw[hX]
 have s1:∀k,(R1 k).site=245004006:=fun k=>by rw[TR]
 have s2:∀k,(R2 k).site=245005006:=fun k=>by rw[QB]
 have v1:∀k,(R1 k).ck=σ.next+3+4*k+1:=fun k=>by rw[TR]
 have v2:∀k,(R2 k).ck=σ.next+3+4*k+2:=fun k=>by rw[QB]
 have jI:(0:Int)<=(cnt:Int):=by omega
 have qd:(cnt:Int)<=((16777216:Nat):Int):=by omega
 have hz:=Hi cnt
 have t1:k7 R1 cnt 0=[]:=rfl
 have t2:k7 R2 cnt 0=[]:=rfl
 refine aW (fun n env st=>∃k:Nat,n=(cnt)-k/\k<=(cnt)/\env 11=.int .i64 (k:Int)/\env 5=(.ptr X 0 0)/\(st.next=σ.next+3+4*k/\(∀i:Id,i.ck<σ.next->st.get i=σ.get i)/\∀j,j<k->st.get (R1 j)=some ⟨true,1,dW (fun _=>0) cnt⟩/\st.get (R2 j)=some ⟨true,1,dW (fun _=>0) cnt⟩)/\((k=0/\st.get X=some ⟨true,2,[[.cm,.cm]]⟩)∨∃o1 o2:Id,o1.site=245004008/\o2.site=245005008/\o1.ck<st.next/\o2.ck<st.next/\σ.next<=o1.ck/\σ.next<=o2.ck/\st.get X=some ⟨true,2,[[.own o1 0 k,.own o2 0 k]]⟩/\st.get o1=some ⟨true,1,k7 R1 cnt k⟩/\st.get o2=some ⟨true,1,k7 R2 cnt k⟩)) (cnt) ⟨0,by omega,by omega,sl @hX,sl @hX,⟨rfl,fun i hi=>by(have DF:=dp hi);simp only[go_sem, ↓reduceIte,Nat.reduceEqDiff,Nat.reduceAdd,Nat.reduceSub,Nat.reduceLeDiff,reduceCtorEq,DF],fun j hj=>absurd hj (Nat.not_lt_zero j)⟩,.inl ⟨rfl,by rw[hX];simp only[go_sem, ↓reduceIte,Nat.reduceEqDiff,Nat.reduceAdd,Nat.reduceSub,Nat.reduceLeDiff,reduceCtorEq]⟩⟩ ?_
 rintro n_a env_a st_a ⟨k,rfl,ale,a11,a5,mb,aI1⟩ dH
 have a0:=dH 0 (by kernel_rfl);have a1:=dH 1 (by kernel_rfl);have ya:=dH 10 (by kernel_rfl)
 simp only[go_sem, ↓reduceIte,Nat.reduceEqDiff,Nat.reduceAdd,Nat.reduceSub,Nat.reduceLeDiff,reduceCtorEq,hX]at a0 a1 ya
 clear dH
 obtain⟨anx,dH,aR⟩:=mb
 have wX:=dp (i:=X) (n:=st_a.next) (by omega)
 by_cases hk:(k:Int)<(cnt:Int)
 ·have cE:∀{e:Env} {gg:Rows} {nx:Nat},(e 11=.int .i64 (IntKind.i64.wrap ((k:Int)+1)))->(e 5=(.ptr X 0 0))->(nx=σ.next+3+4*(k+1)/\(∀i:Id,i.ck<σ.next->gg i=σ.get i)/\∀j,j<(k+1)->gg (R1 j)=some ⟨true,1,dW (fun _=>0) cnt⟩/\gg (R2 j)=some ⟨true,1,dW (fun _=>0) cnt⟩)->(((k+1)=0/\gg X=some ⟨true,2,[[.cm,.cm]]⟩)∨∃o1 o2:Id,o1.site=245004008/\o2.site=245005008/\o1.ck<nx/\o2.ck<nx/\σ.next<=o1.ck/\σ.next<=o2.ck/\gg X=some ⟨true,2,[[.own o1 0 (k+1),.own o2 0 (k+1)]]⟩/\gg o1=some ⟨true,1,k7 R1 cnt (k+1)⟩/\gg o2=some ⟨true,1,k7 R2 cnt (k+1)⟩)->∃m0,m0<(cnt)-k/\∃k:Nat,m0=(cnt)-k/\k<=(cnt)/\e 11=.int .i64 (k:Int)/\e 5=(.ptr X 0 0)/\(nx=σ.next+3+4*k/\(∀i:Id,i.ck<σ.next->gg i=σ.get i)/\∀j,j<k->gg (R1 j)=some ⟨true,1,dW (fun _=>0) cnt⟩/\gg (R2 j)=some ⟨true,1,dW (fun _=>0) cnt⟩)/\((k=0/\gg X=some ⟨true,2,[[.cm,.cm]]⟩)∨∃o1 o2:Id,o1.site=245004008/\o2.site=245005008/\o1.ck<nx/\o2.ck<nx/\σ.next<=o1.ck/\σ.next<=o2.ck/\gg X=some ⟨true,2,[[.own o1 0 k,.own o2 0 k]]⟩/\gg o1=some ⟨true,1,k7 R1 cnt k⟩/\gg o2=some ⟨true,1,k7 R2 cnt k⟩):=fun x1 x2 x3 x4=>⟨_,by omega,k+1,rfl,by omega,(by rw[x1,az (by omega)]),x2,x3,x4⟩
  have fA:k<cnt:=by omega
  have xC:R1 k=⟨245004006,st_a.next+1⟩:=by rw[TR,anx]
  have wi:R2 k=⟨245005006,st_a.next+1+1⟩:=by rw[QB,anx]
  have Fi:k7 R1 cnt (k+1)=k7 R1 cnt k++[[.own ⟨245004006,st_a.next+1⟩ 0 cnt]]:=by rw[tu,xC]
  have P0:k7 R2 cnt (k+1)=k7 R2 cnt k++[[.own ⟨245005006,st_a.next+1+1⟩ 0 cnt]]:=by rw[tu,wi]
  rcases aI1 with⟨rfl,Qk⟩|⟨o1,o2,so1,so2,vo1,RS,vn1,vn2,Qk,ag1,ag2⟩
  ·(try((repeat(revert hN;revert N;apply Pn.out));refine wk (tw @a11 (tw @a5 (tw @a0 (tw @a1 (tw @ya (tw @hk (tw @wX (tw @Qk (tw @jI (tw @qd (tw @Int.le_refl @hz))))))))))) ?_;(repeat(refine Pn.mk ?_;intro N hN))))
   refine cE ?_ ?_ (by
    (try dsimp only)
    refine⟨by omega,fun i hi=>?_,fun j hj=>?_⟩
    ·have q1:=dp (i:=i) (n:=st_a.next) (by omega)
     have q2:=cr (a:=i) (b:=X) (by omega)
     have:=dH i hi
     simp only[go_sem, ↓reduceIte,Nat.reduceEqDiff,Nat.reduceAdd,Nat.reduceSub,Nat.reduceLeDiff,reduceCtorEq,q1,q2,this]
    ·by_cases yC:j=0
     ·subst yC
      rw[xC,wi]
      have q1:=gU sX (b:=245004006) (v:=st_a.next+1) (by decide)
      have q2:=gU sX (b:=245005006) (v:=st_a.next+1+1) (by decide)
      simp only[go_sem, ↓reduceIte,Nat.reduceEqDiff,Nat.reduceAdd,Nat.reduceSub,Nat.reduceLeDiff,reduceCtorEq,q1,q2]
     ·obtain⟨r1,r2⟩:=aR j (by omega)
      have q1:=dp (i:=R1 j) (n:=st_a.next) (by rw[v1];omega)
      have q2:=dp (i:=R2 j) (n:=st_a.next) (by rw[v2];omega)
      have q3:=As (s1 j) sX (by decide)
      have q4:=As (s2 j) sX (by decide)
      constructor
      ·simp only[go_sem, ↓reduceIte,Nat.reduceEqDiff,Nat.reduceAdd,Nat.reduceSub,Nat.reduceLeDiff,reduceCtorEq,q1,q3,r1]
      ·simp only[go_sem, ↓reduceIte,Nat.reduceEqDiff,Nat.reduceAdd,Nat.reduceSub,Nat.reduceLeDiff,reduceCtorEq,q2,q4,r2]) (.inr ⟨⟨245004008,st_a.next+1⟩,⟨245005008,st_a.next+1+1⟩,rfl,rfl,by(try dsimp only);omega,by(try dsimp only);omega,by(try dsimp only);omega,by(try dsimp only);omega,sd @wX,by rw[Fi,t1];simp only[go_sem, ↓reduceIte,Nat.reduceEqDiff,Nat.reduceAdd,Nat.reduceSub,Nat.reduceLeDiff,reduceCtorEq,wX,List.nil_append],by rw[P0,t2];simp only[go_sem, ↓reduceIte,Nat.reduceEqDiff,Nat.reduceAdd,Nat.reduceSub,Nat.reduceLeDiff,reduceCtorEq,wX,List.nil_append]⟩)
   all_goals simp only[go_sem, ↓reduceIte,Nat.reduceEqDiff,Nat.reduceAdd,Nat.reduceSub,Nat.reduceLeDiff,reduceCtorEq,a11,a5,a0,a1,ya,wX]
  ·have l1:=ke R1 cnt k
   have l2:=ke R2 cnt k
   have e1:k+1<=16777216:=by omega
   have w1:=dp vo1
   have w2:=dp RS
   have x1:=As sX so1 (by decide)
   have x2:=As sX so2 (by decide)
   have x3:=As so1 so2 (by decide)
   (try((repeat(revert hN;revert N;apply Pn.out));refine wk (tw @a11 (tw @a5 (tw @a0 (tw @a1 (tw @ya (tw @hk (tw @wX (tw @Qk (tw @ag1 (tw @ag2 (tw @l1 (tw @l2 (tw @e1 (tw @w1 (tw @w2 (tw @x1 (tw @x2 (tw @x3 (tw @jI (tw @qd (tw @Int.le_refl @hz))))))))))))))))))))) ?_;(repeat(refine Pn.mk ?_;intro N hN))))
   refine cE ?_ ?_ (by
    (try dsimp only)
    refine⟨by omega,fun i hi=>?_,fun j hj=>?_⟩
    ·have q1:=dp (i:=i) (n:=st_a.next) (by omega)
     have q2:=cr (a:=i) (b:=X) (by omega)
     have q3:=cr (a:=i) (b:=o1) (by omega)
     have q4:=cr (a:=i) (b:=o2) (by omega)
     have:=dH i hi
     simp only[go_sem, ↓reduceIte,Nat.reduceEqDiff,Nat.reduceAdd,Nat.reduceSub,Nat.reduceLeDiff,reduceCtorEq,q1,q2,this,q3,q4]
    ·by_cases yC:j=k
     ·subst yC
      rw[xC,wi]
      have q1:=gU sX (b:=245004006) (v:=st_a.next+1) (by decide)
      have q2:=gU sX (b:=245005006) (v:=st_a.next+1+1) (by decide)
      simp only[go_sem, ↓reduceIte,Nat.reduceEqDiff,Nat.reduceAdd,Nat.reduceSub,Nat.reduceLeDiff,reduceCtorEq,q1,q2,w1,w2]
     ·obtain⟨r1,r2⟩:=aR j (by omega)
      have q1:=dp (i:=R1 j) (n:=st_a.next) (by rw[v1];omega)
      have q2:=dp (i:=R2 j) (n:=st_a.next) (by rw[v2];omega)
      have q3:=As (s1 j) sX (by decide)
      have q4:=As (s2 j) sX (by decide)
      have q5:=As (s1 j) so1 (by decide)
      have q6:=As (s1 j) so2 (by decide)
      have q7:=As (s2 j) so1 (by decide)
      have q8:=As (s2 j) so2 (by decide)
      constructor
      ·simp only[go_sem, ↓reduceIte,Nat.reduceEqDiff,Nat.reduceAdd,Nat.reduceSub,Nat.reduceLeDiff,reduceCtorEq,q1,q3,r1,q5,q6]
      ·simp only[go_sem, ↓reduceIte,Nat.reduceEqDiff,Nat.reduceAdd,Nat.reduceSub,Nat.reduceLeDiff,reduceCtorEq,q2,q4,r2,q7,q8]) (.inr ⟨⟨245004008,st_a.next+1⟩,⟨245005008,st_a.next+1+1⟩,rfl,rfl,by(try dsimp only);omega,by(try dsimp only);omega,by(try dsimp only);omega,by(try dsimp only);omega,sd @wX,by rw[Fi];simp only[go_sem, ↓reduceIte,Nat.reduceEqDiff,Nat.reduceAdd,Nat.reduceSub,Nat.reduceLeDiff,reduceCtorEq,wX,w1,w2],by rw[P0];simp only[go_sem, ↓reduceIte,Nat.reduceEqDiff,Nat.reduceAdd,Nat.reduceSub,Nat.reduceLeDiff,reduceCtorEq,wX,w1,w2]⟩)
   all_goals simp only[go_sem, ↓reduceIte,Nat.reduceEqDiff,Nat.reduceAdd,Nat.reduceSub,Nat.reduceLeDiff,reduceCtorEq,a11,a5,a0,a1,ya,wX,w1,w2,x1,x2,x3]
 have l7:cnt=k:=by omega
 subst l7
 rcases aI1 with⟨h0,_⟩|⟨o1,o2,so1,so2,vo1,RS,vn1,vn2,Qk,ag1,ag2⟩
 ·omega
 (try((repeat(revert hN;revert N;apply Pn.out));refine wk (tw @a11 (tw @a5 (tw @a0 (tw @a1 (tw @ya @hk))))) ?_;(repeat(refine Pn.mk ?_;intro N hN))))
 have I:FO X o1 o2 R1 R2 cnt st_a.next:=⟨sX,so1,so2,fun i _=>s1 i,fun i _=>s2 i,fun i j _ _ h=>by have:=v1 i;rw[h,v1]at this;omega,fun i j _ _ h=>by have:=v2 i;rw[h,v2]at this;omega,by omega,vo1,RS,fun i hi=>by rw[v1];omega,fun i hi=>by rw[v2];omega⟩
 refine aW (fun n env st=>∃i:Nat,n=(bs.length)-i/\i<=(bs.length)/\env 38=.int .i64 (i:Int)/\(st_a.next<=st.next/\(∀x:Id,x.ck<σ.next->st.get x=σ.get x)/\nI st.get X o1 o2 R1 R2 cnt (kZ (bs.take i)) (fun _ _=>0))) (bs.length) ⟨0,by omega,by omega,sl (tw @a11 (tw @a5 (tw @a0 (tw @a1 @ya)))),⟨by(try dsimp only);omega,dH,Qk,ag1,ag2,fun j hj=>(aR j hj).1,fun j hj=>(aR j hj).2⟩⟩ ?_
 rintro n_b env_b st_b ⟨i,rfl,ble,b38,bI0⟩ fY
 have b0:=fY 0 (by kernel_rfl);have b1:=fY 1 (by kernel_rfl);have b5:=fY 5 (by kernel_rfl);have PI:=fY 36 (by kernel_rfl);have PJ:=fY 37 (by kernel_rfl)
 simp only[go_sem, ↓reduceIte,Nat.reduceEqDiff,Nat.reduceAdd,Nat.reduceSub,Nat.reduceLeDiff,reduceCtorEq,a11,a5,a0,a1,ya]at b0 b1 b5 PI PJ
 clear fY
 obtain⟨bn,Nz,bM⟩:=bI0
 by_cases hi:(i:Int)<(bs.length:Int)
 ·have gj:∀{e:Env} {gg:Rows} {nx:Nat},(e 38=.int .i64 (IntKind.i64.wrap ((i:Int)+1)))->(st_a.next<=nx/\(∀x:Id,x.ck<σ.next->gg x=σ.get x)/\nI gg X o1 o2 R1 R2 cnt (kZ (bs.take (i+1))) (fun _ _=>0))->∃m0,m0<(bs.length)-i/\∃i:Nat,m0=(bs.length)-i/\i<=(bs.length)/\e 38=.int .i64 (i:Int)/\(st_a.next<=nx/\(∀x:Id,x.ck<σ.next->gg x=σ.get x)/\nI gg X o1 o2 R1 R2 cnt (kZ (bs.take i)) (fun _ _=>0)):=fun x1 x2=>⟨_,by omega,i+1,rfl,by omega,(by rw[x1,az (by omega)]),x2⟩
  have fh:i<bs.length:=by omega
  have j7:(bs.map ay)[i]? =some (ay bs[i]):=by simp[fh]
  have fP:=hb _ (List.getElem_mem fh)
  have hsi:=dF _ (List.getElem_mem fh)
  have s6:kZ (bs.take (i+1))=nL (kZ (bs.take i)) bs[i]:=by rw[List.take_succ_eq_append_getElem fh,Ec]
  have qE:=Ak (bs.take i) (fun _ _=>0) (fun b hb=>(dF b (List.mem_of_mem_take hb)).1) (fun _ _=>Int.le_refl _)
  have hle:=room_le (bs.take i) (fun _ _=>0) 0 (fun b hb=>(dF b (List.mem_of_mem_take hb)).2) (fun _ _=>Int.le_refl _) (Int.le_refl _)
  rw[List.length_take]at hle
  have fS:(bs.take i).foldl nL (fun _ _=>0)=kZ (bs.take i):=rfl
  rw[fS]at qE hle
  generalize kZ (bs.take i)=c at *
  generalize bs[i]=b at *
  obtain⟨ha,sV⟩:=fP
  have gA:=si (R:=R1) (n:=cnt) ha
  have gB:=si (R:=R1) (n:=cnt) sV
  have rA:=bM.r1 _ ha
  have rB:=bM.r1 _ sV
  have cA:=dO (f:=c b.a) sV
  have cB:=dO (f:=c b.b) ha
  have sA:=oE (f:=c) (a:=b.a) (d:=b.s) sV
  have gX:=bM.x
  have g1:=bM.t1
  have gK:(b.a:Int)<(cnt:Int):=by omega
  have fP:(b.b:Int)<(cnt:Int):=by omega
  have qX:=dp (i:=X) (n:=st_b.next) (by omega)
  have q1:=dp (i:=o1) (n:=st_b.next) (by omega)
  have qA:=dp (i:=R1 b.a) (n:=st_b.next) (by rw[v1];omega)
  have qB:=dp (i:=R1 b.b) (n:=st_b.next) (by rw[v1];omega)
  have xA:=As sX (s1 b.a) (by decide)
  have xB:=As sX (s1 b.b) (by decide)
  have yA:=As so1 (s1 b.a) (by decide)
  have yB:=As so1 (s1 b.b) (by decide)
  have l1:=ke R1 cnt cnt
  have lA:=dB (c b.a) cnt
  have lB:=dB (c b.b) cnt
  have hAB:=hle b.a b.b
  have hBA:=hle b.b b.a
  have gAB:=qE b.a b.b
  have gBA:=qE b.b b.a
  have wA:IntKind.i64.wrap (c b.a b.b+b.s)=c b.a b.b+b.s:=bF (by omega)
  by_cases qD:b.a=b.b
  ·obtain⟨ba,bb,s⟩:=b
   dsimp only at *
   subst qD
   have Oz:=oE (f:=bump c ba ba s) (a:=ba) (b:=ba) (d:=s) (n:=cnt) ha
   have T9:=dO (f:=bump c ba ba s ba) ha
   have hv:bump c ba ba s ba ba=c ba ba+s:=by simp[bump]
   have lC:=dB (bump c ba ba s ba) cnt
   have wB:IntKind.i64.wrap (c ba ba+s+s)=c ba ba+s+s:=bF (by omega)
   rw[hv]at Oz T9
   have sY:nL c ⟨ba,ba,s⟩ ba=bump (bump c ba ba s) ba ba s ba:=rfl
   rw[br]at cA sA Oz T9
   (try((repeat(revert hN;revert N;apply Pn.out));refine wk (tw @b38 (tw @b0 (tw @b1 (tw @b5 (tw @PI (tw @PJ (tw @hi (tw @j7 (tw @ay.eq_1 (tw @gA (tw @rA (tw @cA (tw @sA (tw @gX (tw @g1 (tw @gK (tw @qX (tw @q1 (tw @qA (tw @xA (tw @yA (tw @l1 (tw @lA (tw @wA (tw @Oz (tw @T9 (tw @lC @wB))))))))))))))))))))))))))) ?_;(repeat(refine Pn.mk ?_;intro N hN))))
   exact gj (sd (tw @b38 (tw @b0 (tw @b1 (tw @b5 (tw @PI @PJ)))))) (by
    (try dsimp only)
    refine⟨by omega,fun x hx=>?_,?_⟩
    ·have p1:=dp (i:=x) (n:=st_b.next) (by omega)
     have p2:=cr (a:=x) (b:=R1 ba) (by rw[v1];omega)
     have:=Nz x hx
     simp only[go_sem, ↓reduceIte,Nat.reduceEqDiff,Nat.reduceAdd,Nat.reduceSub,Nat.reduceLeDiff,reduceCtorEq,p1,p2,this]
    ·rw[s6]
     refine bM.add I ⟨ba,ba,s⟩ ha ha (fun h=>absurd rfl h) ?_ fun x hx h1 h2=>?_
     ·rw[sY]
      simp only[go_sem, ↓reduceIte,Nat.reduceEqDiff,Nat.reduceAdd,Nat.reduceSub,Nat.reduceLeDiff,reduceCtorEq]
     ·have p1:=dp (i:=x) (n:=st_b.next) (by omega)
      (try dsimp only at h2)
      simp only[go_sem, ↓reduceIte,Nat.reduceEqDiff,Nat.reduceAdd,Nat.reduceSub,Nat.reduceLeDiff,reduceCtorEq,p1,h2])
  ·have gW:(R1 b.a=R1 b.b)=False:=by simp only[eq_iff_iff,iff_false];exact fun h=>qD (I.i1 _ _ ha sV h)
   have IQ:(R1 b.b=R1 b.a)=False:=by simp only[eq_iff_iff,iff_false];exact fun h=>qD (I.i1 _ _ ha sV h.symm)
   have On:bump c b.a b.b b.s b.b=c b.b:=j0 fun h=>qD h.symm
   have Oz:=oE (f:=bump c b.a b.b b.s) (a:=b.b) (b:=b.a) (d:=b.s) (n:=cnt) ha
   rw[On]at Oz
   have wB:IntKind.i64.wrap (c b.b b.a+b.s)=c b.b b.a+b.s:=bF (by omega)
   have sY:nL c b b.b=bump (bump c b.a b.b b.s) b.b b.a b.s b.b:=rfl
   rw[br]at cA cB sA Oz
   (try((repeat(revert hN;revert N;apply Pn.out));refine wk (tw @b38 (tw @b0 (tw @b1 (tw @b5 (tw @PI (tw @PJ (tw @hi (tw @j7 (tw @ay.eq_1 (tw @gA (tw @gB (tw @rA (tw @rB (tw @cA (tw @cB (tw @sA (tw @gX (tw @g1 (tw @gK (tw @fP (tw @qX (tw @q1 (tw @qA (tw @qB (tw @xA (tw @xB (tw @yA (tw @yB (tw @l1 (tw @lA (tw @lB (tw @wA (tw @Oz (tw @wB (tw @gW @IQ))))))))))))))))))))))))))))))))))) ?_;(repeat(refine Pn.mk ?_;intro N hN))))
   exact gj (sd (tw @b38 (tw @b0 (tw @b1 (tw @b5 (tw @PI @PJ)))))) (by
    (try dsimp only)
    refine⟨by omega,fun x hx=>?_,?_⟩
    ·have p1:=dp (i:=x) (n:=st_b.next) (by omega)
     have p2:=cr (a:=x) (b:=R1 b.b) (by rw[v1];omega)
     have p3:=cr (a:=x) (b:=R1 b.a) (by rw[v1];omega)
     have:=Nz x hx
     simp only[go_sem, ↓reduceIte,Nat.reduceEqDiff,Nat.reduceAdd,Nat.reduceSub,Nat.reduceLeDiff,reduceCtorEq,p1,p2,p3,this]
    ·rw[s6]
     refine bM.add I b ha sV (fun h=>?_) ?_ fun x hx h1 h2=>?_
     ·simp only[go_sem, ↓reduceIte,Nat.reduceEqDiff,Nat.reduceAdd,Nat.reduceSub,Nat.reduceLeDiff,reduceCtorEq,gW]
     ·rw[sY]
      simp only[go_sem, ↓reduceIte,Nat.reduceEqDiff,Nat.reduceAdd,Nat.reduceSub,Nat.reduceLeDiff,reduceCtorEq,gW]
     ·have p1:=dp (i:=x) (n:=st_b.next) (by omega)
      simp only[go_sem, ↓reduceIte,Nat.reduceEqDiff,Nat.reduceAdd,Nat.reduceSub,Nat.reduceLeDiff,reduceCtorEq,p1,h1,h2])
 ·have lE:i=bs.length:=by omega
  subst lE
  rw[List.take_length]at bM
  (try((repeat(revert hN;revert N;apply Pn.out));refine wk (tw @b38 (tw @b0 (tw @b1 (tw @b5 (tw @PI (tw @PJ @hi)))))) ?_;(repeat(refine Pn.mk ?_;intro N hN))))
  exact fx (.inl rfl) (vs:=[.ptr X 0 0]) (sd @Nat.zero_add) ⟨X,o1,o2,R1,R2,rfl,⟨I.sx,I.s1,I.s2,I.S8,I.Nb,I.i1,I.i2,by have:=I.vx;(try dsimp only);omega,by have:=I.v1;(try dsimp only);omega,by have:=I.v2;(try dsimp only);omega,fun j hj=>by have:=I.Ta j hj;(try dsimp only);omega,fun j hj=>by have:=I.Qe j hj;(try dsimp only);omega⟩,by(try dsimp only);omega,bM,Nz⟩
end Go.Proofs.YtgoelphibofcmaaGreat.V

namespace Go.Proofs.YtgoelphibofcmaaGreat.V
structure Bq (n:Nat) (c f:Nat->Nat->Int) (x:Nat) (par:Nat->Int) (Q:List Nat) (i:Nat):Prop where
 nodup:Q.Nodup
 lt:∀v∈Q,v<n
 root:par x=(x:Int)
 mem:x∈Q
 iff:∀v,v<n->(0<=par v↔v∈Q)
 up:∀v∈Q,v≠x->∃u,u∈Q/\par v=(u:Int)/\Q.idxOf u<Q.idxOf v/\f u v<c u v
 done:∀j (_:j<i) (hl:j<Q.length) (v:Nat),v<n->f Q[j] v<c Q[j] v->v∈Q
 ile:i<=Q.length
section
variable {n:Nat} {c f:Nat->Nat->Int} {x:Nat} {par:Nat->Int} {Q:List Nat} {i:Nat}
theorem Bq.len (h:Bq n c f x par Q i):Q.length<=n:=oX n Q h.nodup h.lt
theorem Bq.start (hx:x<n):Bq n c f x (fun v=>if v=x then(x:Int)else -1) [x] 0:=by
 refine⟨by simp,fun v hv=>by simp at hv;omega,by simp,by simp,fun v hv=>?_,fun v hv gW=>absurd (by simpa using hv) gW,fun j hj=>by omega,by simp⟩
 by_cases h:v=x
 ·simp[h]
 ·simp[h]
theorem Bq.visit (h:Bq n c f x par Q i) (hi:i<Q.length) {v:Nat} (hv:v<n) (hp:par v<0) (hr:f Q[i] v<c Q[i] v):Bq n c f x (fun w=>if w=v then(Q[i]:Int)else par w) (Q++[v]) i:=by
 have UW:v∉Q:=fun hm=>by have:=(h.iff v hv).2 hm;omega
 have OI:x≠v:=fun e=>UW (e▸h.mem)
 have zP:∀u∈Q,(Q++[v]).idxOf u=Q.idxOf u:=fun u hu=>by rw[List.idxOf_append,if_pos hu]
 have wj:(Q++[v]).idxOf v=Q.length:=by rw[List.idxOf_append,if_neg UW];simp
 refine⟨?_,fun w hw=>?_,by simp only[if_neg OI];exact h.root,by simp[h.mem],fun w hw=>?_,fun w hw gW=>?_,fun j hj hl w hw IZ=>?_,by simp;omega⟩
 ·refine List.nodup_append.2 ⟨h.nodup,by simp,fun a ha b hb=>?_⟩
  rw[List.mem_singleton.1 hb]
  rintro rfl;exact UW ha
 ·rcases List.mem_append.1 hw with hw|hw
  ·exact h.lt w hw
  ·rw[List.mem_singleton.1 hw];exact hv
 ·by_cases Fk:w=v
  ·subst Fk;simp
  ·rw[if_neg Fk,h.iff w hw];simp[Fk]
 ·by_cases Fk:w=v
  ·subst Fk
   refine⟨Q[i],by simp,by simp,?_,hr⟩
   rw[zP _ (List.getElem_mem hi),wj]
   exact List.idxOf_lt_length_of_mem (List.getElem_mem hi)
  ·have hwQ:w∈Q:=by
    rcases List.mem_append.1 hw with hw|hw
    ·exact hw
    ·exact absurd (List.mem_singleton.1 hw) Fk
   obtain⟨u,h1,h2,h3,h4⟩:=h.up w hwQ gW
   exact⟨u,by simp[h1],by rw[if_neg Fk];exact h2,by rw[zP u h1,zP w hwQ];exact h3,h4⟩
 ·have gZ:j<Q.length:=by have:=h.ile;omega
  rw[List.getElem_append_left gZ]at IZ
  exact List.mem_append_left _ (h.done j hj gZ w hw IZ)
theorem Bq.next (h:Bq n c f x par Q i) (hi:i<Q.length) (dI:∀v,v<n->f Q[i] v<c Q[i] v->0<=par v):Bq n c f x par Q (i+1):=by
 refine⟨h.nodup,h.lt,h.root,h.mem,h.iff,h.up,fun j hj hl v hv hr=>?_,by omega⟩
 by_cases mN:j=i
 ·subst mN;exact(h.iff v hv).1 (dI v hv hr)
 ·exact h.done j (by omega) hl v hv hr
theorem Bq.cut (h:Bq n c f x par Q Q.length) {y:Nat} (hy:y<n) (hp:par y<0):∃S:Nat->Bool,S x=true/\S y=false/\∀u v,u<n->v<n->S u=true->S v=false->¬f u v<c u v:=by
 refine⟨fun v=>decide (v∈Q),by simp[h.mem],?_,fun u v hu hv h1 h2 hr=>?_⟩
 ·have:y∉Q:=fun hm=>by have:=(h.iff y hy).2 hm;omega
  simp[this]
 ·simp only[decide_eq_true_eq,decide_eq_false_iff_not]at h1 h2
  obtain⟨j,hj,rfl⟩:=List.getElem_of_mem h1
  exact h2 (h.done j hj hj v hv hr)
def u9 (c f:Nat->Nat->Int) (Q:List Nat) (y k:Nat) (out:List Nat):Prop:=∃rest,out.reverse=k::rest/\(k::rest).getLast (by simp)=y/\q9 f c (k::rest)/\(k::rest).Pairwise (fun a b=>Q.idxOf a<Q.idxOf b)/\∀v∈k::rest,v∈Q
theorem u9.start {y:Nat} (hy:y∈Q):u9 c f Q y y [y]:=⟨[],rfl,rfl,trivial,by simp,by simpa using hy⟩
theorem u9.step {y k u:Nat} {out:List Nat} (h:u9 c f Q y k out) (hu:u∈Q) (hi:Q.idxOf u<Q.idxOf k) (hr:f u k<c u k):u9 c f Q y u (out++[u]):=by
 obtain⟨rest,h1,h2,h3,h4,h5⟩:=h
 refine⟨k::rest,by rw[List.reverse_append,h1];rfl,by rw[List.getLast_cons (by simp)];exact h2,⟨hr,h3⟩,?_,?_⟩
 ·refine List.pairwise_cons.2 ⟨fun b hb=>?_,h4⟩
  rcases List.mem_cons.1 hb with rfl|hb
  ·exact hi
  ·have:=(List.pairwise_cons.1 h4).1 b hb;omega
 ·intro v hv
  rcases List.mem_cons.1 hv with rfl|hv
  ·exact hu
  ·exact h5 v hv
theorem u9.len {y k:Nat} {out:List Nat} (h:u9 c f Q y k out) (hq:∀v∈Q,v<n):out.length<=n:=by
 obtain⟨rest,h1,_,_,h4,h5⟩:=h
 rw[<-List.length_reverse,h1]
 refine oX n _ (h4.imp fun dS he=>?_) fun v hv=>hq v (h5 v hv)
 subst he;omega
structure Qj (n:Nat) (c f:Nat->Nat->Int) (x y:Nat) (p:List Nat):Prop where
 way:∃r,p=x::r/\(x::r).getLast (by simp)=y
 nodup:p.Nodup
 room:q9 f c p
 lt:∀v∈p,v<n
theorem u9.way {y:Nat} {out:List Nat} (h:u9 c f Q y x out) (hq:∀v∈Q,v<n):Qj n c f x y out.reverse:=by
 obtain⟨rest,h1,h2,h3,h4,h5⟩:=h
 rw[h1]
 exact⟨⟨rest,rfl,h2⟩,h4.imp fun dS he=>by subst he;omega,h3,fun v hv=>hq v (h5 v hv)⟩
end
end Go.Proofs.YtgoelphibofcmaaGreat.V

namespace Go.Proofs.YtgoelphibofcmaaGreat.V
open Go.RowKit
attribute [local irreducible] dG wpOps gy Call
attribute [local go_sem] aM fF eP ga fW cQ upd cz K.av cR AV.cells AV.cell rowOf rowsOf part ld rowAt bq cu dD ee ik bJ dh ev fU eX dr ej dd dc dQ dR bQ bf cW bP cY cX eh ek ei cV cj de ef bK aO da cG ij bw cK bU aY dn aZ dE AV.undef bD bG dV ec dM dK cH eu ew cF ep eo cZ db List.getD_cons_zero List.getD_cons_succ List.getD_nil List.all_cons List.all_nil Bool.and_true Bool.true_and Bool.and_self Bool.not_true Bool.not_false Option.map_some Option.map_none Option.bind_some Option.bind_none List.length_cons List.length_nil List.take_succ_cons List.take_zero List.take_nil List.drop_succ_cons List.drop_zero List.drop_nil List.head?_cons List.map_cons List.map_nil List.getElem?_cons_zero List.getElem?_cons_succ List.cons_append List.nil_append List.append_nil List.length_map List.set_cons_zero List.set_cons_succ Nat.reduceMul eq_self Int.toNat_natCast Int.natCast_nonneg and_self true_and and_true decide_true decide_false Bool.false_eq_true Nat.zero_add Nat.add_zero List.contains_cons List.contains_nil Bool.or_false Bool.false_or beq_self_eq_true Nat.reduceBEq ne_eq not_true_eq_false not_false_eq_true Id.mk.injEq false_and and_false Nat.reduceLT Int.reduceLE Int.reduceLT Int.reduceToNat Int.reduceNeg Int.reduceAdd Nat.le_refl List.length_append beq_true beq_false Bool.not_eq_eq_eq_not or_false false_or dL ai aj aH bl bB cw aX bd aU bh cU bH
def lY (l:List Nat) (i x:Nat):Nat:=if x<i∨l.length-i<=x then l.getD (l.length-1-x) 0 else l.getD x 0
theorem zf (l:List Nat):l.map eN=dC (fun x=>l.getD x 0) l.length:=by
 refine List.ext_getElem? fun i=>?_
 by_cases h:i<l.length
 ·rw[fo h,List.getElem?_map,List.getElem?_eq_getElem h];simp[List.getD_eq_getElem?_getD,h]
 ·rw[List.getElem?_eq_none (by simp;omega),List.getElem?_eq_none (by rw[gm];omega)]
theorem G1 (l:List Nat):dC (lY l 0) l.length=l.map eN:=by
 rw[zf]
 exact gY fun x hx=>by unfold lY;rw[if_neg (by omega)]
theorem JS (l:List Nat) {i:Nat} (h:l.length<=2*i+1) (hi:i<=l.length):dC (lY l i) l.length=l.reverse.map eN:=by
 rw[zf l.reverse,List.length_reverse]
 refine gY fun x hx=>?_
 have hr:l.reverse.getD x 0=l.getD (l.length-1-x) 0:=by
  rw[List.getD_eq_getElem?_getD,List.getElem?_reverse hx,List.getD_eq_getElem?_getD]
 rw[hr]
 unfold lY
 by_cases hc:x<i∨l.length-i<=x
 ·rw[if_pos hc]
 ·rw[if_neg hc]
  have:x=l.length-1-x:=by omega
  rw[<-this]
theorem G2 (l:List Nat) (hp:0<l.length) (hl:l.length<=1048576) (o:Id) (σ:ar) (ho:σ.get o=some ⟨true,1,l.map eN⟩) (uR:o.ck<σ.next):
  Call Tryz.prog 273 [.own o 0 l.length] σ fun r σ'=>σ'.get o=some ⟨true,1,l.reverse.map eN⟩/\σ.next<=σ'.next/\∀i:Id,i.ck<σ.next->(i=o)=False->σ'.get i=σ.get i:=by
 refine eU eC rfl fun ml=>?_
 clear ml
 rw[<-G1]at ho
 have SY:IntKind.i64.wrap ((l.length:Int)-1)=((l.length-1:Nat):Int):=by rw[bF (by omega)];omega
 (try((repeat(revert hN;revert N;apply Pn.out));refine wk @SY ?_;(repeat(refine Pn.mk ?_;intro N hN))))
 refine aW (fun m env st=>∃i:Nat,m=l.length-i/\2*i<=l.length+1/\i<=l.length/\env 2=.int .i64 (i:Int)/\env 3=.int .i64 ((l.length:Int)-1-i)/\st.get o=some ⟨true,1,dC (lY l i) l.length⟩/\σ.next<=st.next/\∀x:Id,x.ck<σ.next->(x=o)=False->st.get x=σ.get x) l.length ⟨0,rfl,by omega,by omega,by(simp only[go_sem, ↓reduceIte,Nat.reduceEqDiff,Nat.reduceAdd,Nat.reduceSub,Nat.reduceLeDiff,reduceCtorEq])<;>rfl,by(simp only[go_sem, ↓reduceIte,Nat.reduceEqDiff,Nat.reduceAdd,Nat.reduceSub,Nat.reduceLeDiff,reduceCtorEq,SY]);congr 1;omega,ho,by(try dsimp only);omega,fun x _ _=>rfl⟩ ?_
 rintro m env_b st_b ⟨i,rfl,yy,lE,b2,b3,bg,bn,fY⟩ bkp
 have b0:=bkp 0 (by kernel_rfl)
 simp only[go_sem, ↓reduceIte,Nat.reduceEqDiff,Nat.reduceAdd,Nat.reduceSub,Nat.reduceLeDiff,reduceCtorEq]at b0
 clear bkp
 have tl:=gm (lY l i) l.length
 have p4:=dp (i:=o) (n:=st_b.next) (by omega)
 by_cases hi:(i:Int)<(l.length:Int)-1-i
 ·have fh:i<l.length:=by omega
  obtain⟨j,hj⟩:∃j,j=l.length-1-i:=⟨_,rfl⟩
  have jB:j<l.length:=by omega
  have Ls:(l.length:Int)-1-i=(j:Int):=by omega
  rw[Ls]at b3 hi
  have g1:=fo (f:=lY l i) fh
  have g2:=fo (f:=lY l i) jB
  have e1:lY l i i=l.getD i 0:=by unfold lY;rw[if_neg (by omega)]
  have e2:lY l i j=l.getD j 0:=by unfold lY;rw[if_neg (by omega)]
  have MZ:(dC (lY l i) l.length).set i (eN (l.getD j 0))=dC (fun x=>if x=i then l.getD j 0 else lY l i x) l.length:=pO fh (if_pos rfl) fun x _ hx=>if_neg hx
  have I0:(dC (fun x=>if x=i then l.getD j 0 else lY l i x) l.length).set j (eN (l.getD i 0))=dC (lY l (i+1)) l.length:=pO jB (by unfold lY;rw[if_pos (by omega)];congr 1;omega) fun x hx P6=>by
   by_cases CQ:x=i
   ·rw[if_pos CQ];unfold lY;rw[if_pos (by omega)];congr 1;omega
   ·rw[if_neg CQ];unfold lY
    by_cases hc:x<i∨l.length-i<=x
    ·rw[if_pos hc,if_pos (by omega)]
    ·rw[if_neg hc,if_neg (by omega)]
  have S9:=gm (fun x=>if x=i then l.getD j 0 else lY l i x) l.length
  have g3:=fo (f:=fun x=>if x=i then l.getD j 0 else lY l i x) jB
  rw[e1]at g1
  rw[e2]at g2
  rw[if_neg (by omega),e2]at g3
  rw[eN]at g1 g2 g3 MZ I0
  have hii:(i:Int)<(l.length:Int):=by omega
  have mN:(j:Int)<(l.length:Int):=by omega
  have od:IntKind.i64.wrap ((i:Int)+1)=((i+1:Nat):Int):=az (by omega)
  have pr:IntKind.i64.wrap ((j:Int)-1)=(l.length:Int)-1-((i+1:Nat):Int):=by rw[bF (by omega)];omega
  (try((repeat(revert hN;revert N;apply Pn.out));refine wk (tw @b0 (tw @b2 (tw @b3 (tw @bg (tw @hi (tw @hii (tw @mN (tw @g1 (tw @g2 (tw @g3 (tw @MZ (tw @I0 (tw @tl (tw @S9 (tw @p4 (tw @od @pr)))))))))))))))) ?_;(repeat(refine Pn.mk ?_;intro N hN))))
  refine⟨_,?_,i+1,rfl,by omega,by omega,sd @od,sd @pr,sd @I0,by(try dsimp only);omega,fun x hx HB=>?_⟩
  ·omega
  ·have:=fY x hx HB
   simp only[go_sem, ↓reduceIte,Nat.reduceEqDiff,Nat.reduceAdd,Nat.reduceSub,Nat.reduceLeDiff,reduceCtorEq,HB,this]
 ·rw[JS l (by omega) lE]at bg
  (try((repeat(revert hN;revert N;apply Pn.out));refine wk (tw @b0 (tw @b2 (tw @b3 (tw @bg @hi)))) ?_;(repeat(refine Pn.mk ?_;intro N hN))))
  exact fx (.inr rfl) (vs:=[]) (by simp only[ft,go_sem, ↓reduceIte,Nat.reduceEqDiff,Nat.reduceAdd,Nat.reduceSub,Nat.reduceLeDiff,reduceCtorEq]) ⟨bg,by(try dsimp only);omega,fY⟩
end Go.Proofs.YtgoelphibofcmaaGreat.V

namespace Go.Proofs.YtgoelphibofcmaaGreat.V
open Go.RowKit
attribute [local irreducible] dG wpOps gy Call
attribute [local go_sem] aM fF eP ga fW cQ upd cz K.av cR AV.cells AV.cell rowOf rowsOf part ld rowAt bq cu dD ee ik bJ dh ev fU eX dr ej dd dc dQ dR bQ bf cW bP cY cX eh ek ei cV cj de ef bK aO da cG ij bw cK bU aY dn aZ dE AV.undef bD bG dV ec dM dK cH eu ew cF ep eo cZ db List.getD_cons_zero List.getD_cons_succ List.getD_nil List.all_cons List.all_nil Bool.and_true Bool.true_and Bool.and_self Bool.not_true Bool.not_false Option.map_some Option.map_none Option.bind_some Option.bind_none List.length_cons List.length_nil List.take_succ_cons List.take_zero List.take_nil List.drop_succ_cons List.drop_zero List.drop_nil List.head?_cons List.map_cons List.map_nil List.getElem?_cons_zero List.getElem?_cons_succ List.cons_append List.nil_append List.append_nil List.length_map List.set_cons_zero List.set_cons_succ Nat.reduceMul eq_self Int.toNat_natCast Int.natCast_nonneg and_self true_and and_true decide_true decide_false Bool.false_eq_true Nat.zero_add Nat.add_zero List.contains_cons List.contains_nil Bool.or_false Bool.false_or beq_self_eq_true Nat.reduceBEq ne_eq not_true_eq_false not_false_eq_true Id.mk.injEq false_and and_false Nat.reduceLT Int.reduceLE Int.reduceLT Int.reduceToNat Int.reduceNeg Int.reduceAdd Nat.le_refl List.length_append beq_true beq_false Bool.not_eq_eq_eq_not or_false false_or dL ai aj aH bl bB cw aX bd aU bh cU bH
theorem RU (cnt:Nat) (uw:1<=cnt) (hn:cnt<=1048576) (c f:Nat->Nat->Int) (x y:Nat) (hx:x<cnt) (hy:y<cnt):
  l9 Tryz.prog 266 [.di (lz cnt c f),.int .i64 x,.int .i64 y] fun r=>(r=.cm/\∃S:Nat->Bool,S x=true/\S y=false/\∀u v,u<cnt->v<cnt->S u=true->S v=false->¬f u v<c u v)∨∃p:List Nat,r=.sl (p.map eN)/\Qj cnt c f x y p:=by
 refine l9.body eC rfl fun hl n0=>?_
 clear hl
 have lM:=xl c cnt
 have jI:(0:Int)<=(cnt:Int):=by omega
 have CQ:(x:Int)<(cnt:Int):=by omega
 have S3:(y:Int)<(cnt:Int):=by omega
 (try((repeat(revert hN;revert N;apply Pn.out));refine wk (tw @lz.eq_1 @lM) ?_;(repeat(refine Pn.mk ?_;intro N hN))))
 refine .inr (aI _ _ _ _ _ (fun r σ1 hq=>?_) (JQ cnt uw hn (-1) ⟨266002000,n0+1+1⟩ _ (sd @Nat.zero_add) (by(try dsimp only);omega)))
 obtain⟨o,rfl,ho,Lz,LB,jA⟩:=hq
 (try dsimp only at ho Lz LB jA)
 refine hN _ _ ?_
 clear hN N
 have p4:=dp LB
 have qd:(cnt:Int)<=1048576:=by omega
 have QM:qu<qu+cnt:=by omega
 have gL:List.replicate cnt [AV.int .i64 (-1)]=dW (fun _=>-1) cnt:=by
  refine List.ext_getElem? fun i=>?_
  by_cases h:i<cnt
  ·rw[dO h,List.getElem?_replicate,if_pos h];rfl
  ·rw[List.getElem?_eq_none (by simp;omega),List.getElem?_eq_none (by rw[dB];omega)]
 rw[gL]at ho
 have BJ:(dW (fun _=>-1) cnt).set x (br (x:Int))=dW (fun v=>if v=x then(x:Int)else -1) cnt:=k8 hx (if_pos rfl) fun v _ hv=>if_neg hv
 have hg0:=dO (f:=fun _=>-1) hx
 have tl0:=dB (fun _=>-1) cnt
 rw[br]at BJ hg0
 (try((repeat(revert hN;revert N;apply Pn.out));refine wk (tw @lz.eq_1 (tw @lM (tw @jI (tw @qd @p4)))) ?_;(repeat(refine Pn.mk ?_;intro N hN))))
 refine Kp ?_
 simp only[go_sem, ↓reduceIte,Nat.reduceEqDiff,Nat.reduceAdd,Nat.reduceSub,Nat.reduceLeDiff,reduceCtorEq,QM]
 refine hN _ _ ?_
 clear hN N
 (try((repeat(revert hN;revert N;apply Pn.out));refine wk (tw @ho (tw @p4 (tw @BJ (tw @hg0 (tw @tl0 @CQ))))) ?_;(repeat(refine Pn.mk ?_;intro N hN))))
 obtain⟨C,hC⟩:∃C:Id,C=⟨266003001,σ1.next+1⟩:=⟨_,rfl⟩
 have Q6:=cr (a:=o) (b:=C) (by rw[hC];(try dsimp only);omega)
 have hCv:C.ck=σ1.next+1:=by rw[hC]
 refine aW (fun m env st=>∃(par:Nat->Int) (Q:List Nat) (i:Nat),m=cnt-i/\Bq cnt c f x par Q i/\st.get o=some ⟨true,1,dW par cnt⟩/\st.get C=some ⟨true,qu+cnt,(Q.drop i).map eN⟩/\σ1.next+1<st.next) cnt ⟨_,[x],0,rfl,Bq.start hx,sd @p4,by rw[hC];simp only[go_sem, ↓reduceIte,Nat.reduceEqDiff,Nat.reduceAdd,Nat.reduceSub,Nat.reduceLeDiff,reduceCtorEq,p4];rfl,by(try dsimp only);omega⟩ ?_
 rintro m env_b st_b ⟨par,Q,i,rfl,hB,bgo,bgC,bn⟩ bkp
 have b0:=bkp 0 (by kernel_rfl)
 have b1:=bkp 1 (by kernel_rfl)
 have b2:=bkp 2 (by kernel_rfl)
 have b7:=bkp 7 (by kernel_rfl)
 have b8:=bkp 8 (by kernel_rfl)
 have b9:=bkp 9 (by kernel_rfl)
 rw[<-hC]at b9
 simp only[go_sem, ↓reduceIte,Nat.reduceEqDiff,Nat.reduceAdd,Nat.reduceSub,Nat.reduceLeDiff,reduceCtorEq]at b0 b1 b2 b7 b8 b9
 clear bkp
 have hQn:=hB.len
 have lE:=hB.ile
 have SB:((Q.drop i).map eN).length=Q.length-i:=by simp
 by_cases hi:i<Q.length
 ·have jN:(0:Int)<((Q.length-i:Nat):Int):=by omega
  have sE:Q.drop i=Q[i]::Q.drop (i+1):=List.drop_eq_getElem_cons hi
  obtain⟨u,hu⟩:∃u,u=Q[i]:=⟨_,rfl⟩
  have hun:u<cnt:=by rw[hu];exact hB.lt _ (List.getElem_mem hi)
  rw[<-hu]at sE
  (try((repeat(revert hN;revert N;apply Pn.out));refine wk (tw @b0 (tw @b1 (tw @b2 (tw @b7 (tw @b8 (tw @b9 (tw @bgC (tw @SB @jN)))))))) ?_;(repeat(refine Pn.mk ?_;intro N hN))))
  refine Kp ?_
  rw[sE,List.map_cons,show eN u=[.int .i64 (u:Int)]from rfl]at bgC
  simp only[go_sem, ↓reduceIte,Nat.reduceEqDiff,Nat.reduceAdd,Nat.reduceSub,Nat.reduceLeDiff,reduceCtorEq,b9,bgC]
  refine hN _ _ ?_
  clear hN N
  (try((repeat(revert hN;revert N;apply Pn.out));refine wk @b7 ?_;(repeat(refine Pn.mk ?_;intro N hN))))
  refine aW (fun m env st=>∃(v:Nat) (par':Nat->Int) (Q':List Nat),m=cnt-v/\v<=cnt/\env 36=.int .i64 (v:Int)/\Bq cnt c f x par' Q' i/\(∃h:i<Q'.length,Q'[i]=u)/\st.get o=some ⟨true,1,dW par' cnt⟩/\st.get C=some ⟨true,qu+cnt,(Q'.drop (i+1)).map eN⟩/\σ1.next+1<st.next/\∀w,w<v->f u w<c u w->0<=par' w) cnt ⟨0,par,Q,rfl,Nat.zero_le _,by(simp only[go_sem, ↓reduceIte,Nat.reduceEqDiff,Nat.reduceAdd,Nat.reduceSub,Nat.reduceLeDiff,reduceCtorEq])<;>rfl,hB,⟨hi,hu.symm⟩,sd (tw @Q6 @bgo),sd @Q6,by(try dsimp only);omega,fun w hw=>absurd hw (Nat.not_lt_zero w)⟩ ?_
  rintro m env_c st_c ⟨v,par',Q',rfl,hvn,c36,dz,⟨qW,Fj⟩,yk,cgC,cn,dI⟩ ckp
  have c0:=ckp 0 (by kernel_rfl)
  have c1:=ckp 1 (by kernel_rfl)
  have c2:=ckp 2 (by kernel_rfl)
  have c7:=ckp 7 (by kernel_rfl)
  have c8:=ckp 8 (by kernel_rfl)
  have c9:=ckp 9 (by kernel_rfl)
  have jz:=ckp 10 (by kernel_rfl)
  have NC:=ckp 35 (by kernel_rfl)
  simp only[go_sem, ↓reduceIte,Nat.reduceEqDiff,Nat.reduceAdd,Nat.reduceSub,Nat.reduceLeDiff,reduceCtorEq,b0,b1,b2,b7,b8,b9]at c0 c1 c2 c7 c8 c9 jz NC
  clear ckp
  have tl:=dB par' cnt
  by_cases hv:(v:Int)<(cnt:Int)
  ·have DG:v<cnt:=by omega
   have Oe:=dO (f:=par') DG
   have jA:=NO cnt c f u v hun DG
   have hw:IntKind.i64.wrap ((v:Int)+1)=((v+1:Nat):Int):=az (by omega)
   rw[br]at Oe
   rw[lz]at jA
   by_cases j8:par' v<0
   ·by_cases hr:f u v<c u v
    ·rw[decide_eq_true hr]at jA
     have eJ:(dW par' cnt).set v (br (u:Int))=dW (fun w=>if w=v then(u:Int)else par' w) cnt:=k8 DG (if_pos rfl) fun w _ hw=>if_neg hw
     rw[br]at eJ
     have pV:=dz.visit qW DG j8 (by rw[Fj];exact hr)
     rw[Fj]at pV
     have hQ2:=pV.len
     rw[List.length_append]at hQ2
     simp only[List.length_singleton]at hQ2
     have fS:qu+(Q'.drop (i+1)).length<qu+cnt:=by rw[List.length_drop];omega
     (repeat(first|((repeat(revert hN;revert N;apply Pn.out));refine wk (tw @lz.eq_1 (tw @c0 (tw @c7 (tw @c8 (tw @c9 (tw @jz (tw @c36 (tw @NC (tw @hv (tw @yk (tw @Oe (tw @tl (tw @j8 @eJ))))))))))))) ?_;(repeat(refine Pn.mk ?_;intro N hN)))|((try apply Or.inl);refine⟨_,aq.x (jA) (sd (tw @lz.eq_1 (tw @c0 (tw @c7 (tw @c8 (tw @c9 (tw @jz (tw @c36 (tw @NC (tw @hv (tw @yk (tw @Oe (tw @tl (tw @j8 @eJ)))))))))))))),?_⟩;refine hN _ _ ?_;clear hN N)))
     refine Kp ?_
     have hq:(Q'.drop (i+1)).map eN++[[.int .i64 (v:Int)]]=((Q'++[v]).drop (i+1)).map eN:=by rw[List.drop_append_of_le_length (by omega),List.map_append];rfl
     simp only[go_sem, ↓reduceIte,Nat.reduceEqDiff,Nat.reduceAdd,Nat.reduceSub,Nat.reduceLeDiff,reduceCtorEq,c9,cgC,fS,Q6,hq]
     refine hN _ _ ?_
     clear hN N
     (try((repeat(revert hN;revert N;apply Pn.out));refine wk (tw @c36 @hw) ?_;(repeat(refine Pn.mk ?_;intro N hN))))
     refine⟨_,?_,v+1,_,_,rfl,DG,sd @hw,pV,⟨by rw[List.length_append];omega,by rw[List.getElem_append_left qW];exact Fj⟩,sd @Q6,sd @Q6,by(try dsimp only);omega,fun w hw IZ=>?_⟩
     ·omega
     ·by_cases Fk:w=v
      ·rw[if_pos Fk];omega
      ·rw[if_neg Fk];exact dI w (by omega) IZ
    ·rw[decide_eq_false hr]at jA
     (repeat(first|((repeat(revert hN;revert N;apply Pn.out));refine wk (tw @lz.eq_1 (tw @c0 (tw @c7 (tw @c8 (tw @c9 (tw @jz (tw @c36 (tw @NC (tw @hv (tw @yk (tw @Oe (tw @tl (tw @j8 @hw))))))))))))) ?_;(repeat(refine Pn.mk ?_;intro N hN)))|((try apply Or.inl);refine⟨_,aq.x (jA) (sd (tw @lz.eq_1 (tw @c0 (tw @c7 (tw @c8 (tw @c9 (tw @jz (tw @c36 (tw @NC (tw @hv (tw @yk (tw @Oe (tw @tl (tw @j8 @hw)))))))))))))),?_⟩;refine hN _ _ ?_;clear hN N)))
     refine⟨_,?_,v+1,par',Q',rfl,DG,sd @hw,dz,⟨qW,Fj⟩,sd @yk,sd @cgC,by(try dsimp only);omega,fun w hw IZ=>?_⟩
     ·omega
     ·by_cases Fk:w=v
      ·subst Fk;exact absurd IZ hr
      ·exact dI w (by omega) IZ
   ·(try((repeat(revert hN;revert N;apply Pn.out));refine wk (tw @lz.eq_1 (tw @c0 (tw @c7 (tw @c8 (tw @c9 (tw @jz (tw @c36 (tw @NC (tw @hv (tw @yk (tw @Oe (tw @tl (tw @j8 @hw))))))))))))) ?_;(repeat(refine Pn.mk ?_;intro N hN))))
    refine⟨_,?_,v+1,par',Q',rfl,DG,sd @hw,dz,⟨qW,Fj⟩,sd @yk,sd @cgC,by(try dsimp only);omega,fun w hw IZ=>?_⟩
    ·omega
    ·by_cases Fk:w=v
     ·subst Fk;omega
     ·exact dI w (by omega) IZ
  ·have hvc:v=cnt:=by omega
   subst hvc
   (try((repeat(revert hN;revert N;apply Pn.out));refine wk (tw @c36 (tw @NC @hv)) ?_;(repeat(refine Pn.mk ?_;intro N hN))))
   refine⟨_,?_,par',Q',i+1,rfl,dz.next qW fun w hw hr=>dI w hw (by rw[<-Fj];exact hr),sd @yk,sd @cgC,by(try dsimp only);omega⟩
   omega
 ·have hiQ:i=Q.length:=by omega
  subst hiQ
  have jN:¬(0:Int)<((Q.length-Q.length:Nat):Int):=by omega
  have Uo:=dO (f:=par) hy
  have tl:=dB par cnt
  rw[br]at Uo
  by_cases j8:par y<0
  ·(try((repeat(revert hN;revert N;apply Pn.out));refine wk (tw @b0 (tw @b1 (tw @b2 (tw @b7 (tw @b8 (tw @b9 (tw @bgC (tw @SB (tw @jN (tw @bgo (tw @Uo (tw @tl (tw @S3 @j8))))))))))))) ?_;(repeat(refine Pn.mk ?_;intro N hN))))
   exact⟨[.cm],sd @Nat.zero_add,.cm,j6 _ _,.inl ⟨rfl,hB.cut hy j8⟩⟩
  ·(try((repeat(revert hN;revert N;apply Pn.out));refine wk (tw @b0 (tw @b1 (tw @b2 (tw @b7 (tw @b8 (tw @b9 (tw @bgC (tw @SB (tw @jN (tw @bgo (tw @Uo (tw @tl (tw @S3 @j8))))))))))))) ?_;(repeat(refine Pn.mk ?_;intro N hN))))
   refine aW (fun m env st=>∃(k:Nat) (out:List Nat) (p:Id),m=Q.idxOf k/\env 13=.int .i64 (k:Int)/\env 12=.own p 0 out.length/\st.get p=some ⟨true,1,out.map eN⟩/\p.ck<st.next/\st_b.next<=p.ck/\k∈Q/\u9 c f Q y k out/\st.get o=some ⟨true,1,dW par cnt⟩) (Q.idxOf y) ⟨y,[y],⟨266017001,st_b.next+1+1⟩,rfl,by(simp only[go_sem, ↓reduceIte,Nat.reduceEqDiff,Nat.reduceAdd,Nat.reduceSub,Nat.reduceLeDiff,reduceCtorEq]),by(simp only[go_sem, ↓reduceIte,Nat.reduceEqDiff,Nat.reduceAdd,Nat.reduceSub,Nat.reduceLeDiff,reduceCtorEq])<;>rfl,by(simp only[go_sem, ↓reduceIte,Nat.reduceEqDiff,Nat.reduceAdd,Nat.reduceSub,Nat.reduceLeDiff,reduceCtorEq])<;>rfl,by(try dsimp only);omega,by(try dsimp only);omega,(hB.iff y hy).1 (by omega),u9.start ((hB.iff y hy).1 (by omega)),by(have UY:=dp (i:=o) (n:=st_b.next) (by omega));simp only[go_sem, ↓reduceIte,Nat.reduceEqDiff,Nat.reduceAdd,Nat.reduceSub,Nat.reduceLeDiff,reduceCtorEq,UY,bgo]⟩ ?_
   rintro m env_d st_d ⟨k,out,p,rfl,d13,d12,dgp,dpn,dpo,hkQ,uM,dgo⟩ dkp
   have d1:=dkp 1 (by kernel_rfl)
   have d8:=dkp 8 (by kernel_rfl)
   simp only[go_sem, ↓reduceIte,Nat.reduceEqDiff,Nat.reduceAdd,Nat.reduceSub,Nat.reduceLeDiff,reduceCtorEq,b1,b8]at d1 d8
   clear dkp
   have AQ:=dp dpn
   have BM:=dp (i:=o) (n:=st_d.next) (by omega)
   have eb:=cr (a:=o) (b:=p) (by omega)
   have Lw:=uM.len hB.lt
   have fA:=hB.lt k hkQ
   have lF:(out.map eN).length=out.length:=by simp
   by_cases SH:k=x
   ·have hd:decide ((k:Int)=(x:Int))=true:=decide_eq_true (by rw[SH])
    have UL:0<out.length:=by
     obtain⟨rest,h1,_⟩:=uM
     rw[<-List.length_reverse,h1];simp
    (try((repeat(revert hN;revert N;apply Pn.out));refine wk (tw @d1 (tw @d8 (tw @d12 (tw @d13 (tw @hd @Bool.not_true))))) ?_;(repeat(refine Pn.mk ?_;intro N hN))))
    refine .inr (aI _ _ _ _ _ (fun r σ2 hq=>?_) (G2 out UL (by omega) p _ dgp (by(try dsimp only);omega)))
    obtain⟨QU,nf,IJ⟩:=hq
    refine hN _ _ ?_
    clear hN N
    (try((repeat(revert hN;revert N;apply Pn.out));refine wk @d12 ?_;(repeat(refine Pn.mk ?_;intro N hN))))
    refine⟨[.own p 0 out.length],sd @d12,.sl (out.reverse.map eN),?_,.inr ⟨out.reverse,rfl,by subst SH;exact uM.way hB.lt⟩⟩
    exact fc (sz:=1) QU (by simp) fun a=>NP _ 4 a
   ·have hd:decide ((k:Int)=(x:Int))=false:=decide_eq_false fun h=>SH (by omega)
    obtain⟨u,huQ,hpu,zP,hr⟩:=hB.up k hkQ SH
    have eQ:=dO (f:=par) fA
    rw[br,hpu]at eQ
    have hki:(k:Int)<(cnt:Int):=by omega
    have e1:out.length+1<=16777216:=by omega
    (try((repeat(revert hN;revert N;apply Pn.out));refine wk (tw @d1 (tw @d8 (tw @d12 (tw @d13 (tw @hd (tw @Bool.not_false (tw @dgo (tw @dgp (tw @eQ (tw @tl (tw @hki (tw @AQ (tw @BM (tw @eb (tw @lF @e1))))))))))))))) ?_;(repeat(refine Pn.mk ?_;intro N hN))))
    refine⟨_,zP,u,out++[u],⟨266021003,st_d.next+1+1⟩,rfl,sd @Nat.zero_add,by rw[List.length_append];simp only[go_sem, ↓reduceIte,Nat.reduceEqDiff,Nat.reduceAdd,Nat.reduceSub,Nat.reduceLeDiff,reduceCtorEq,List.length_cons,List.length_nil],by rw[List.map_append,List.map_cons,List.map_nil];simp only[go_sem, ↓reduceIte,Nat.reduceEqDiff,Nat.reduceAdd,Nat.reduceSub,Nat.reduceLeDiff,reduceCtorEq,eN],by(try dsimp only);omega,by(try dsimp only);omega,huQ,uM.step huQ zP hr,sd (tw @BM (tw @eb @dgo))⟩
end Go.Proofs.YtgoelphibofcmaaGreat.V

namespace Go.Proofs.YtgoelphibofcmaaGreat.V
open Go.RowKit
attribute [local irreducible] dG wpOps gy Call
attribute [local go_sem] aM fF eP ga fW cQ upd cz K.av cR AV.cells AV.cell rowOf rowsOf part ld rowAt bq cu dD ee ik bJ dh ev fU eX dr ej dd dc dQ dR bQ bf cW bP cY cX eh ek ei cV cj de ef bK aO da cG ij bw cK bU aY dn aZ dE AV.undef bD bG dV ec dM dK cH eu ew cF ep eo cZ db List.getD_cons_zero List.getD_cons_succ List.getD_nil List.all_cons List.all_nil Bool.and_true Bool.true_and Bool.and_self Bool.not_true Bool.not_false Option.map_some Option.map_none Option.bind_some Option.bind_none List.length_cons List.length_nil List.take_succ_cons List.take_zero List.take_nil List.drop_succ_cons List.drop_zero List.drop_nil List.head?_cons List.map_cons List.map_nil List.getElem?_cons_zero List.getElem?_cons_succ List.cons_append List.nil_append List.append_nil List.length_map List.set_cons_zero List.set_cons_succ Nat.reduceMul eq_self Int.toNat_natCast Int.natCast_nonneg and_self true_and and_true decide_true decide_false Bool.false_eq_true Nat.zero_add Nat.add_zero List.contains_cons List.contains_nil Bool.or_false Bool.false_or beq_self_eq_true Nat.reduceBEq ne_eq not_true_eq_false not_false_eq_true Id.mk.injEq false_and and_false Nat.reduceLT Int.reduceLE Int.reduceLT Int.reduceToNat Int.reduceNeg Int.reduceAdd Nat.le_refl List.length_append beq_true beq_false Bool.not_eq_eq_eq_not or_false false_or dL ai aj aH bl bB cw aX bd aU bh cU bH
theorem A7 (b:Nat):∀(l:List Nat) (a:Nat) (f:Nat->Nat->Int),me f ((a::l)++[b])=kp (me f (a::l)) ((a::l).getLast (by simp)) b
 |[],a,f=>rfl
 |c::l,a,f=>by
  rw[List.cons_append,List.cons_append,me,<-List.cons_append,A7 b l c (kp f a c),me,List.getLast_cons_cons]
theorem FT {p:List Nat} {f:Nat->Nat->Int} {i:Nat} (h1:1<=i) (hi:i<p.length):me f (p.take (i+1))=kp (me f (p.take i)) (p[i-1]'(by omega)) p[i]:=by
 rw[List.take_succ_eq_append_getElem hi]
 have gW:p.take i≠[]:=by
  intro h
  have:(p.take i).length=0:=by rw[h];rfl
  rw[List.length_take]at this;omega
 obtain⟨a,l,Su⟩:∃a l,p.take i=a::l:=by
  cases h:p.take i with
  |nil=>exact absurd h gW
  |cons a l=>exact⟨a,l,rfl⟩
 have wj:(p.take i).getLast gW=p[i-1]'(by omega):=by
  rw[List.getLast_eq_getElem,List.getElem_take]
  congr 1
  rw[List.length_take];omega
 simp only[Su]at wj ⊢
 rw[A7,wj]
theorem GY (f:Nat->Nat->Int) (a b u v:Nat):kp f a b u v<=f u v+1/\f u v-1<=kp f a b u v:=by
 unfold kp bump
 split<;>split<;>constructor<;>omega
theorem mh:∀(p:List Nat) (f:Nat->Nat->Int) (u v:Nat),me f p u v<=f u v+p.length/\f u v-p.length<=me f p u v
 |[],f,u,v=>by simp[me]
 |[_],f,u,v=>by simp[me];omega
 |a::b::r,f,u,v=>by
  rw[me]
  have h1:=mh (b::r) (kp f a b) u v
  have h2:=GY f a b u v
  simp only[List.length_cons]at h1 ⊢
  omega
theorem nI.push {g g':Rows} {X o1 o2:Id} {R1 R2:Nat->Id} {n nb:Nat} {c f:Nat->Nat->Int} (I:FO X o1 o2 R1 R2 n nb) (h:nI g X o1 o2 R1 R2 n c f) {a b:Nat} (ha:a<n) (hb:b<n) (qD:a≠b) (hA:g' (R2 a)=some ⟨true,1,dW (bump f a b 1 a) n⟩) (hB:g' (R2 b)=some ⟨true,1,dW (bump (bump f a b 1) b a (-1) b) n⟩) (hf:∀i:Id,i.ck<nb->(i=R2 a)=False->(i=R2 b)=False->g' i=g i):nI g' X o1 o2 R1 R2 n c (kp f a b):=by
 have ne:∀{i:Id} {s:Nat},i.site=s->(s==245005006)=false->∀a,a<n->(i=R2 a)=False:=fun {i s} hi hs a ha=>by
  simp only[eq_iff_iff,iff_false]
  rintro rfl
  rw[I.Nb a ha]at hi
  subst hi
  simp at hs
 refine⟨(hf _ I.vx (ne I.sx (by decide) _ ha) (ne I.sx (by decide) _ hb)).trans h.x,(hf _ I.v1 (ne I.s1 (by decide) _ ha) (ne I.s1 (by decide) _ hb)).trans h.t1,(hf _ I.v2 (ne I.s2 (by decide) _ ha) (ne I.s2 (by decide) _ hb)).trans h.t2,fun i hi=>(hf _ (I.Ta i hi) (ne (I.S8 i hi) (by decide) _ ha) (ne (I.S8 i hi) (by decide) _ hb)).trans (h.r1 i hi),fun i hi=>?_⟩
 by_cases KH:i=b
 ·subst KH;exact hB
 ·by_cases Og:i=a
  ·subst Og
   rw[hA,kp,j0 KH]
  ·rw[kp,j0 KH,j0 Og,hf _ (I.Qe i hi) (by simp only[eq_iff_iff,iff_false];exact fun he=>Og (I.i2 i _ hi ha he)) (by simp only[eq_iff_iff,iff_false];exact fun he=>KH (I.i2 i _ hi hb he))]
   exact h.r2 i hi
theorem O3 (cnt:Nat) (uw:1<=cnt) (hn:cnt<=1048576) (c:Nat->Nat->Int) (hc:∀u v,u<cnt->v<cnt->0<=c u v/\c u v<=16777216) (x y:Nat) (hx:x<cnt) (hy:y<cnt) (Ro:x≠y) (t:Int) (ht:t<=1099511627776)
  (X o1 o2:Id) (R1 R2:Nat->Id) (nb:Nat) (I:FO X o1 o2 R1 R2 cnt nb) (σ:ar) (hM:nI σ.get X o1 o2 R1 R2 cnt c (fun _ _=>0)) (SL:nb<=σ.next):
  Call Tryz.prog 246 [.ptr X 0 0,.int .i64 x,.int .i64 y,.int .i64 t] σ fun r σ'=>∃val:Int,r=.int .i64 val/\(val<t↔∃S:Nat->Bool,S x=true/\S y=false/\mj cnt S c<t)/\σ.next<=σ'.next:=by
 refine eU eC rfl fun hl=>?_
 clear hl
 have hxS:(fun v=>decide (v=x)) x=true:=by simp
 have hyS:(fun v=>decide (v=x)) y=false:=by simp;exact fun h=>Ro h.symm
 obtain⟨top,UT⟩:∃top,top=mj cnt (fun v=>decide (v=x)) c:=⟨_,rfl⟩
 (try((repeat(revert hN;revert N;apply Pn.out));refine wk @Nat.zero_add ?_;(repeat(refine Pn.mk ?_;intro N hN))))
 refine aW (fun m env st=>∃(k:Nat) (f:Nat->Nat->Int),m=(top-k).toNat/\env 9=.int .i64 (k:Int)/\lu cnt c f x y k/\nI st.get X o1 o2 R1 R2 cnt c f/\σ.next<=st.next/\(0<k->(k:Int)<=t)/\∀u v,-((k:Int)*(cnt:Int))<=f u v) (top-0).toNat ⟨0,fun _ _=>0,rfl,by(simp only[go_sem, ↓reduceIte,Nat.reduceEqDiff,Nat.reduceAdd,Nat.reduceSub,Nat.reduceLeDiff,reduceCtorEq])<;>rfl,lu.zero fun u v hu hv=>(hc u v hu hv).1,hM,by(try dsimp only);omega,fun h=>absurd h (Nat.lt_irrefl 0),fun u v=>by simp⟩ ?_
 rintro m env_b st_b ⟨k,f,rfl,b9,hF,bM,bn,bk,blo⟩ bkp
 have b0:=bkp 0 (by kernel_rfl)
 have b1:=bkp 1 (by kernel_rfl)
 have b2:=bkp 2 (by kernel_rfl)
 have b3:=bkp 3 (by kernel_rfl)
 simp only[go_sem, ↓reduceIte,Nat.reduceEqDiff,Nat.reduceAdd,Nat.reduceSub,Nat.reduceLeDiff,reduceCtorEq]at b0 b1 b2 b3
 clear bkp
 have hz:cN (dL st_b.get) 6 [.ptr X 0 0,.int .i64 (x:Int),.int .i64 (y:Int)]=some [.di (lz cnt c f),.int .i64 x,.int .i64 y]:=by simp only[ai,aj,bM.fz,aH,Option.map_some]
 (try((repeat(revert hN;revert N;apply Pn.out));refine wk (tw @b0 (tw @b1 (tw @b2 (tw @b3 @b9)))) ?_;(repeat(refine Pn.mk ?_;intro N hN))))
 refine .inr (aI _ _ _ _ _ (fun r σ1 hq=>?_) ((RU cnt uw hn c f x y hx hy).x mixed hz))
 obtain⟨Ow,rfl⟩:=hq
 refine hN _ _ ?_
 clear hN N
 rcases Ow with⟨rfl,S,N6,N7,Sq⟩|⟨p,rfl,hW⟩
 ·(try((repeat(revert hN;revert N;apply Pn.out));refine wk (tw @b0 (tw @b1 (tw @b2 (tw @b3 (tw @b9 (tw @Bool.not_true @Bool.not_false)))))) ?_;(repeat(refine Pn.mk ?_;intro N hN))))
  refine fx (.inl rfl) (vs:=[.int .i64 (k:Int)]) (sd @Nat.zero_add) ⟨(k:Int),rfl,⟨fun h=>⟨S,N6,N7,by rw[<-hF.full N6 N7 Sq];exact h⟩,fun⟨S',h1,h2,h3⟩=>by have:=hF.bound h1 h2;omega⟩,by(try dsimp only);omega⟩
 ·obtain⟨⟨rs,rfl,wj⟩,mm,fS,hplt⟩:=hW
  by_cases Lt:t<=(k:Int)
  ·(try((repeat(revert hN;revert N;apply Pn.out));refine wk (tw @b0 (tw @b1 (tw @b2 (tw @b3 (tw @b9 (tw @Lt (tw @Bool.not_true @Bool.not_false))))))) ?_;(repeat(refine Pn.mk ?_;intro N hN))))
   refine fx (.inl rfl) (vs:=[.int .i64 (k:Int)]) (sd @Nat.zero_add) ⟨(k:Int),rfl,⟨fun h=>by omega,fun⟨S',h1,h2,h3⟩=>by have:=hF.bound h1 h2;omega⟩,by(try dsimp only);omega⟩
  ·(try((repeat(revert hN;revert N;apply Pn.out));refine wk (tw @b0 (tw @b1 (tw @b2 (tw @b3 (tw @b9 (tw @Lt (tw @Bool.not_true @Bool.not_false))))))) ?_;(repeat(refine Pn.mk ?_;intro N hN))))
   have l8:=oX cnt _ mm hplt
   have hkc:(k:Int)*(cnt:Int)<=1099511627776*1048576:=Int.mul_le_mul (by omega) (by omega) (by omega) (by omega)
   have hfb:=hF.bound (S:=fun v=>decide (v=x)) hxS hyS
   have hnear:=mh
   obtain⟨p,hp⟩:∃p,p=x::rs:=⟨_,rfl⟩
   have hmp:eN x::List.map eN rs=p.map eN:=by rw[hp];rfl
   rw[hmp]
   have Oq:1<=p.length:=by rw[hp];simp
   have Lh:=hF.aug wj mm fS hplt
   rw[<-hp]at Lh mm fS hplt l8
   have OD:p.take 1=[x]:=by rw[hp];rfl
   clear hmp wj
   refine aW (fun m env st=>∃i:Nat,m=p.length-i/\1<=i/\i<=p.length/\env 11=.int .i64 (i:Int)/\nI st.get X o1 o2 R1 R2 cnt c (me f (p.take i))/\st_b.next<=st.next) (p.length-1) ⟨1,rfl,Nat.le_refl _,Oq,by(simp only[go_sem, ↓reduceIte,Nat.reduceEqDiff,Nat.reduceAdd,Nat.reduceSub,Nat.reduceLeDiff,reduceCtorEq])<;>rfl,by rw[OD];exact bM,by(try dsimp only);omega⟩ ?_
   rintro m env_c st_c ⟨i,rfl,Lq,lE,nQ,cM,cn⟩ ckp
   have c0:=ckp 0 (by kernel_rfl)
   have c1:=ckp 1 (by kernel_rfl)
   have c2:=ckp 2 (by kernel_rfl)
   have c3:=ckp 3 (by kernel_rfl)
   have c9:=ckp 9 (by kernel_rfl)
   have jz:=ckp 10 (by kernel_rfl)
   simp only[go_sem, ↓reduceIte,Nat.reduceEqDiff,Nat.reduceAdd,Nat.reduceSub,Nat.reduceLeDiff,reduceCtorEq,b0,b1,b2,b3,b9]at c0 c1 c2 c3 c9 jz
   clear ckp
   have lF:(p.map eN).length=p.length:=by simp
   by_cases hi:(i:Int)<(p.length:Int)
   ·have fh:i<p.length:=by omega
    have xS:=FT (f:=f) Lq fh
    obtain⟨a,ha⟩:∃a,a=p[i-1]'(by omega):=⟨_,rfl⟩
    obtain⟨b,hb⟩:∃b,b=p[i]:=⟨_,rfl⟩
    have E5:a<cnt:=by rw[ha];exact hplt _ (List.getElem_mem _)
    have E7:b<cnt:=by rw[hb];exact hplt _ (List.getElem_mem _)
    have qD:a≠b:=by
     rw[ha,hb]
     exact List.pairwise_iff_getElem.1 mm (i-1) i (by omega) fh (by omega)
    have QV:(p.map eN)[i-1]? =some [.int .i64 (a:Int)]:=by rw[List.getElem?_map,List.getElem?_eq_getElem (by omega),ha];rfl
    have QW:(p.map eN)[i]? =some [.int .i64 (b:Int)]:=by rw[List.getElem?_map,List.getElem?_eq_getElem fh,hb];rfl
    rw[<-ha,<-hb]at xS
    have UB:=mh (p.take i) f a b
    have UC:=mh (p.take i) f b a
    rw[List.length_take]at UB UC
    have hl1:=blo b a
    have Ut:=blo a b
    have Ri:=hF.le a b E5 E7
    have hu2:=hF.le b a E7 E5
    have hca:=hc a b E5 E7
    have E8:=hc b a E7 E5
    generalize me f (p.take i)=fl at *
    have gA:=si (R:=R2) (n:=cnt) E5
    have gB:=si (R:=R2) (n:=cnt) E7
    have rA:=cM.r2 _ E5
    have rB:=cM.r2 _ E7
    have cA:=dO (f:=fl a) E7
    have cB:=dO (f:=fl b) E5
    have sA:=oE (f:=fl) (a:=a) (d:=1) E7
    have On:bump fl a b 1 b=fl b:=j0 fun h=>qD h.symm
    have sB:=oE (f:=bump fl a b 1) (a:=b) (b:=a) (d:=-1) (n:=cnt) E5
    rw[On]at sB
    have gX:=cM.x
    have g2:=cM.t2
    have gK:(a:Int)<(cnt:Int):=by omega
    have fP:(b:Int)<(cnt:Int):=by omega
    have SY:IntKind.i64.wrap ((i:Int)-1)=((i-1:Nat):Int):=by rw[bF (by omega)];omega
    have yy:((i-1:Nat):Int)<(p.length:Int):=by omega
    have wA:IntKind.i64.wrap (fl a b+1)=fl a b+1:=bF (by omega)
    have wB:IntKind.i64.wrap (fl b a-1)=fl b a+-1:=by rw[bF (by omega)];omega
    have Rm:IntKind.i64.wrap ((i:Int)+1)=((i+1:Nat):Int):=az (by omega)
    have l2:=ke R2 cnt cnt
    have lA:=dB (fl a) cnt
    have lB:=dB (fl b) cnt
    have gW:(R2 a=R2 b)=False:=by simp only[eq_iff_iff,iff_false];exact fun h=>qD (I.i2 _ _ E5 E7 h)
    have IQ:(R2 b=R2 a)=False:=by simp only[eq_iff_iff,iff_false];exact fun h=>qD (I.i2 _ _ E5 E7 h.symm)
    have xA:=As I.sx (I.Nb a E5) (by decide)
    have xB:=As I.sx (I.Nb b E7) (by decide)
    have yA:=As I.s2 (I.Nb a E5) (by decide)
    have yB:=As I.s2 (I.Nb b E7) (by decide)
    have qX:=dp (i:=X) (n:=st_c.next) (by have:=I.vx;omega)
    have q2:=dp (i:=o2) (n:=st_c.next) (by have:=I.v2;omega)
    have qA:=dp (i:=R2 a) (n:=st_c.next) (by have:=I.Qe a E5;omega)
    have qB:=dp (i:=R2 b) (n:=st_c.next) (by have:=I.Qe b E7;omega)
    rw[br]at cA cB sA sB
    (try((repeat(revert hN;revert N;apply Pn.out));refine wk (tw @c0 (tw @c9 (tw @jz (tw @nQ (tw @lF (tw @hi (tw @yy (tw @QV (tw @QW (tw @gA (tw @gB (tw @rA (tw @rB (tw @cA (tw @cB (tw @sA (tw @sB (tw @gX (tw @g2 (tw @gK (tw @fP (tw @SY (tw @wA (tw @wB (tw @Rm (tw @l2 (tw @lA (tw @lB (tw @gW (tw @IQ (tw @xA (tw @xB (tw @yA (tw @yB (tw @qX (tw @q2 (tw @qA @qB))))))))))))))))))))))))))))))))))))) ?_;(repeat(refine Pn.mk ?_;intro N hN))))
    refine⟨_,?_,i+1,rfl,by omega,by omega,sd @Rm,?_,by(try dsimp only);omega⟩
    ·omega
    ·rw[xS]
     refine cM.push I E5 E7 qD ?_ ?_ fun j hj h1 h2=>?_
     ·simp only[go_sem, ↓reduceIte,Nat.reduceEqDiff,Nat.reduceAdd,Nat.reduceSub,Nat.reduceLeDiff,reduceCtorEq,gW]
     ·simp only[go_sem, ↓reduceIte,Nat.reduceEqDiff,Nat.reduceAdd,Nat.reduceSub,Nat.reduceLeDiff,reduceCtorEq,gW]
     ·simp only[go_sem, ↓reduceIte,Nat.reduceEqDiff,Nat.reduceAdd,Nat.reduceSub,Nat.reduceLeDiff,reduceCtorEq,h1,h2]
   ·have Hw:i=p.length:=by omega
    subst Hw
    rw[List.take_length]at cM
    have OG:IntKind.i64.wrap ((k:Int)+1)=((k+1:Nat):Int):=az (by omega)
    have Ui:=Lh.bound (S:=fun v=>decide (v=x)) hxS hyS
    (try((repeat(revert hN;revert N;apply Pn.out));refine wk (tw @c0 (tw @c9 (tw @jz (tw @nQ (tw @lF (tw @hi @OG)))))) ?_;(repeat(refine Pn.mk ?_;intro N hN))))
    refine⟨_,?_,k+1,_,rfl,sd @OG,by rw[Int.natCast_add];exact Lh,cM,by(try dsimp only);omega,fun _=>by omega,fun u v=>?_⟩
    ·rw[<-UT]at Ui;omega
    ·have h1:=(mh p f u v).2
     have h2:=blo u v
     rw[Int.natCast_add,Int.add_mul]
     omega
end Go.Proofs.YtgoelphibofcmaaGreat.V

namespace Go.Proofs.YtgoelphibofcmaaGreat.V
open Go.RowKit
attribute [local irreducible] dG wpOps gy Call
attribute [local go_sem] aM fF eP ga fW cQ upd cz K.av cR AV.cells AV.cell rowOf rowsOf part ld rowAt bq cu dD ee ik bJ dh ev fU eX dr ej dd dc dQ dR bQ bf cW bP cY cX eh ek ei cV cj de ef bK aO da cG ij bw cK bU aY dn aZ dE AV.undef bD bG dV ec dM dK cH eu ew cF ep eo cZ db List.getD_cons_zero List.getD_cons_succ List.getD_nil List.all_cons List.all_nil Bool.and_true Bool.true_and Bool.and_self Bool.not_true Bool.not_false Option.map_some Option.map_none Option.bind_some Option.bind_none List.length_cons List.length_nil List.take_succ_cons List.take_zero List.take_nil List.drop_succ_cons List.drop_zero List.drop_nil List.head?_cons List.map_cons List.map_nil List.getElem?_cons_zero List.getElem?_cons_succ List.cons_append List.nil_append List.append_nil List.length_map List.set_cons_zero List.set_cons_succ Nat.reduceMul eq_self Int.toNat_natCast Int.natCast_nonneg and_self true_and and_true decide_true decide_false Bool.false_eq_true Nat.zero_add Nat.add_zero List.contains_cons List.contains_nil Bool.or_false Bool.false_or beq_self_eq_true Nat.reduceBEq ne_eq not_true_eq_false not_false_eq_true Id.mk.injEq false_and and_false Nat.reduceLT Int.reduceLE Int.reduceLT Int.reduceToNat Int.reduceNeg Int.reduceAdd Nat.le_refl List.length_append beq_true beq_false Bool.not_eq_eq_eq_not or_false false_or dL ai aj aH bl bB cw aX bd aU bh cU bH
noncomputable def tR (n:Nat) (bs:List PB) (t:Int):Bool:=@decide (kG n bs t) (Classical.propDecidable _)
theorem yD {n:Nat} {bs:List PB} {t:Int} (h:kG n bs t):true=tR n bs t:=by simp[tR,h]
theorem BG {n:Nat} {bs:List PB} {t:Int} (h:¬kG n bs t):false=tR n bs t:=by simp[tR,h]
theorem Lx (cnt:Nat) (hn:cnt<=1048576) (bs:List PB) (hb:∀b∈bs,b.a<cnt/\b.b<cnt) (dF:∀b∈bs,0<=b.s/\b.s<=4) (qc:bs.length<=1048576) (t:Int) (ht:t<=1099511627776):
  aq Tryz.prog 223 [.int .i64 cnt,.sl (bs.map ay),.int .i64 t] (.bool (tR cnt bs t)):=by
 refine aq.body eC rfl fun hl n0=>?_
 clear hl
 have qE:=Ak bs (fun _ _=>0) (fun b h=>(dF b h).1) (fun _ _=>Int.le_refl _)
 have hle:=room_le bs (fun _ _=>0) 0 (fun b h=>(dF b h).2) (fun _ _=>Int.le_refl _) (Int.le_refl _)
 have fS:bs.foldl nL (fun _ _=>0)=kZ bs:=rfl
 rw[fS]at qE hle
 (try((repeat(revert hN;revert N;apply Pn.out));refine wk @Nat.zero_add ?_;(repeat(refine Pn.mk ?_;intro N hN))))
 refine aW (fun m env st=>∃y:Nat,m=cnt+1-y/\1<=y/\env 7=.int .i64 (y:Int)/\y<=cnt+1/\∀z,1<=z->z<y->z<cnt->∀S:Nat->Bool,S 0=true->S z=false->t<=jf S bs) (cnt+1-1) ⟨1,rfl,Nat.le_refl _,by(simp only[go_sem, ↓reduceIte,Nat.reduceEqDiff,Nat.reduceAdd,Nat.reduceSub,Nat.reduceLeDiff,reduceCtorEq])<;>rfl,by omega,fun z h1 h2=>by omega⟩ ?_
 rintro m env_b st_b ⟨y,rfl,Rp,b7,hyl,dI⟩ bkp
 have b0:=bkp 0 (by kernel_rfl)
 have b1:=bkp 1 (by kernel_rfl)
 have b2:=bkp 2 (by kernel_rfl)
 simp only[go_sem, ↓reduceIte,Nat.reduceEqDiff,Nat.reduceAdd,Nat.reduceSub,Nat.reduceLeDiff,reduceCtorEq]at b0 b1 b2
 clear bkp
 by_cases hy:(y:Int)<(cnt:Int)
 ·have hyn:y<cnt:=by omega
  (try((repeat(revert hN;revert N;apply Pn.out));refine wk (tw @b0 (tw @b1 (tw @b2 (tw @b7 @hy)))) ?_;(repeat(refine Pn.mk ?_;intro N hN))))
  refine .inr (aI _ _ _ _ _ (fun r σ1 hq=>?_) (Cf cnt (by omega) hn bs hb dF qc _))
  obtain⟨X,o1,o2,R1,R2,rfl,I,Gp,hM,_⟩:=hq
  refine hN _ _ ?_
  clear hN N
  (try((repeat(revert hN;revert N;apply Pn.out));refine wk (tw @b0 (tw @b1 (tw @b2 @b7))) ?_;(repeat(refine Pn.mk ?_;intro N hN))))
  have Rc:=O3 cnt (by omega) hn (kZ bs) (fun u v _ _=>⟨qE u v,by have:=hle u v;omega⟩) 0 y (by omega) hyn (by omega) t ht X o1 o2 R1 R2 σ1.next I
  refine .inr (aI _ _ _ _ _ (fun r σ2 hq=>?_) (Rc _ hM (by(try dsimp only);omega)))
  obtain⟨val,rfl,s7,nf⟩:=hq
  refine hN _ _ ?_
  clear hN N
  by_cases dS:val<t
  ·(try((repeat(revert hN;revert N;apply Pn.out));refine wk (tw @b0 (tw @b1 (tw @b2 (tw @b7 @dS)))) ?_;(repeat(refine Pn.mk ?_;intro N hN))))
   obtain⟨S,h1,h2,h3⟩:=s7.1 dS
   rw[Bj hb]at h3
   exact aT (b:=false) (.inl rfl) (sd @Nat.zero_add) (BG fun h=>by have:=h S h1 ⟨y,hyn,h2⟩;omega)
  ·have hw:IntKind.i64.wrap ((y:Int)+1)=((y+1:Nat):Int):=az (by omega)
   (try((repeat(revert hN;revert N;apply Pn.out));refine wk (tw @b0 (tw @b1 (tw @b2 (tw @b7 (tw @dS @hw))))) ?_;(repeat(refine Pn.mk ?_;intro N hN))))
   refine⟨_,?_,y+1,rfl,by omega,sd (tw @b7 @hw),by omega,fun z h1 h2 h3 S N6 N7=>?_⟩
   ·omega
   ·by_cases hzy:z=y
    ·subst hzy
     rcases Int.lt_or_le (jf S bs) t with h|h
     ·exact absurd (s7.2 ⟨S,N6,N7,by rw[Bj hb];exact h⟩) dS
     ·exact h
    ·exact dI z h1 (by omega) h3 S N6 N7
 ·(try((repeat(revert hN;revert N;apply Pn.out));refine wk (tw @b0 (tw @b1 (tw @b2 (tw @b7 @hy)))) ?_;(repeat(refine Pn.mk ?_;intro N hN))))
  exact aT (b:=true) (.inl rfl) (sd @Nat.zero_add) (yD fun S h0 ⟨z,hz,hzf⟩=>by
   have:z≠0:=by rintro rfl;rw[h0]at hzf;cases hzf
   exact dI z (by omega) (by omega) hz S h0 hzf)
theorem IS (cnt:Nat) (hn:cnt<=1048576) (bs:List PB) (hb:∀b∈bs,b.a<cnt/\b.b<cnt) (dF:∀b∈bs,0<=b.s/\b.s<=4) (qc:bs.length<=1048576) (t:Int) (ht:t<=1099511627776):
  aq Tryz.prog 223 [.int .i64 cnt,Ap bs,.int .i64 t] (.bool (tR cnt bs t)):=by
 have h:=Lx cnt hn bs hb dF qc t ht
 cases bs with
 |nil=>exact h.cut mixed (.same _ (.cm (.same _ .nil)))
 |cons b r=>rw[Aq (by simp)];exact h
end Go.Proofs.YtgoelphibofcmaaGreat.V

namespace Go.Proofs.YtgoelphibofcmaaGreat.V
open Go.RowKit
attribute [local irreducible] dG wpOps gy Call
attribute [local go_sem] aM fF eP ga fW cQ upd cz K.av cR AV.cells AV.cell rowOf rowsOf part ld rowAt bq cu dD ee ik bJ dh ev fU eX dr ej dd dc dQ dR bQ bf cW bP cY cX eh ek ei cV cj de ef bK aO da cG ij bw cK bU aY dn aZ dE AV.undef bD bG dV ec dM dK cH eu ew cF ep eo cZ db List.getD_cons_zero List.getD_cons_succ List.getD_nil List.all_cons List.all_nil Bool.and_true Bool.true_and Bool.and_self Bool.not_true Bool.not_false Option.map_some Option.map_none Option.bind_some Option.bind_none List.length_cons List.length_nil List.take_succ_cons List.take_zero List.take_nil List.drop_succ_cons List.drop_zero List.drop_nil List.head?_cons List.map_cons List.map_nil List.getElem?_cons_zero List.getElem?_cons_succ List.cons_append List.nil_append List.append_nil List.length_map List.set_cons_zero List.set_cons_succ Nat.reduceMul eq_self Int.toNat_natCast Int.natCast_nonneg and_self true_and and_true decide_true decide_false Bool.false_eq_true Nat.zero_add Nat.add_zero List.contains_cons List.contains_nil Bool.or_false Bool.false_or beq_self_eq_true Nat.reduceBEq ne_eq not_true_eq_false not_false_eq_true Id.mk.injEq false_and and_false Nat.reduceLT Int.reduceLE Int.reduceLT Int.reduceToNat Int.reduceNeg Int.reduceAdd Nat.le_refl List.length_append beq_true beq_false Bool.not_eq_eq_eq_not or_false false_or dL ai aj aH bl bB cw aX bd aU bh cU bH
def CR:Prop:=∀(s:au) (l:List ad),iF s->jk s l->aq Tryz.prog 222 [.agg (ab s),.agg [.sl (l.map aa)]] (Ap (cJ s l))
noncomputable def uU (s:au) (l:List ad) (t:Int):Bool:=if 64<iu s l t then false else tR (iu s l t) (dt (eB (aL t (cJ s l))) (cJ s l)) t
theorem DJ (s:au) (l:List ad) (t:Int):uU s l t=nH s l t:=by
 letI:=Classical.propDecidable (pk l.length (cJ s l) t)
 unfold uU
 by_cases h:64<iu s l t
 ·rw[if_pos h]
  exact(mH (p:=False) ⟨False.elim,fun k=>by have:=k.1;unfold iu at h;omega⟩).symm.trans (by simp) |>.symm
 ·rw[if_neg h]
  by_cases hp:kG (iu s l t) (dt (eB (aL t (cJ s l))) (cJ s l)) t
  ·rw[<-yD hp]
   exact((mH (p:=True) ⟨fun _=>⟨by unfold iu at h;omega,hp⟩,fun _=>trivial⟩).symm.trans (by simp)).symm
  ·rw[<-BG hp]
   exact((mH (p:=False) ⟨False.elim,fun k=>hp k.2⟩).symm.trans (by simp)).symm
theorem JZ (TB:CR) (s:au) (l:List ad) (t:Int) (ht:t<=1099511627776) (h1:1<=l.length) (hS:iF s) (hA:jk s l):aq Tryz.prog 197 [.agg (ab s),.agg [.sl (l.map aa)],.int .i64 t] (.gJ [.bool (nH s l t),.bool (decide ¬64<iu s l t)]):=by
 rw[<-DJ]
 refine aq.body eC rfl fun hl n0=>?_
 clear hl
 have hb:=yg (l:=l) hS
 have qc:=qj (s:=s) hA.1
 have IH:=hA.1.sD
 have xx:=TB s l hS hA
 have QM:=zC l.length h1 (by omega) (cJ s l) (fun b h=>⟨(hb b h).1,(hb b h).2.1⟩) (by omega) t
 have hL:=tW (aL t (cJ s l))
 have fh:=Eg hL (fun b h=>⟨(hb b h).1,(hb b h).2.1⟩)
 have hlen:=(nr (eB (aL t (cJ s l))) (cJ s l)).1
 have nS:=jP l.length (eB (aL t (cJ s l)))
 have hho:=IS (iu s l t) (by unfold iu;omega) (dt (eB (aL t (cJ s l))) (cJ s l)) (fun b h=>⟨(fh b h).1,(fh b h).2.1⟩) (fun b h=>by
  obtain⟨_,_,_,c,hc,du⟩:=fh b h
  rw[du];have:=hb c hc;omega) (by omega) t ht
 have fQ:(l.map aa).length=l.length:=by simp
 have hzB:∀(g:Rows) (n:Nat) (bs:List PB),V.fz g (n+1) (Ap bs)=some (Ap bs):=fun g n bs=>by
  unfold Ap;split
  ·exact aX _ _
  ·exact cw _ _ _
 rw[ab]at xx
 rw[<-iu]at QM
 have yH:∀(g:Rows) (x:Int),cN (dL g) 6 [.int .i64 l.length,Ap (cJ s l),.int .i64 x]=some [.int .i64 l.length,Ap (cJ s l),.int .i64 x]:=fun g x=>by simp only[ai,aj,aH,hzB,Option.map_some]
 have hzh:∀(g:Rows) (x y:Int),cN (dL g) 6 [.int .i64 x,Ap (dt (eB (aL t (cJ s l))) (cJ s l)),.int .i64 y]=some [.int .i64 x,Ap (dt (eB (aL t (cJ s l))) (cJ s l)),.int .i64 y]:=fun g x y=>by simp only[ai,aj,aH,hzB,Option.map_some]
 generalize Ap (cJ s l)=B1 at *
 generalize Ap (dt (eB (aL t (cJ s l))) (cJ s l))=B2 at *
 by_cases ur:(64:Int)<(iu s l t:Int)
 ·have uu:64<iu s l t:=by omega
  (repeat(first|((repeat(revert hN;revert N;apply Pn.out));refine wk (tw @ab.eq_1 (tw @ur @fQ)) ?_;(repeat(refine Pn.mk ?_;intro N hN)))|((try apply Or.inl);refine⟨_,aq.x (xx) (sd (tw @ab.eq_1 (tw @ur @fQ))),?_⟩;refine hN _ _ ?_;clear hN N)))
  refine⟨_,aq.x QM (yH _ _),?_⟩
  refine hN _ _ ?_
  clear hN N
  (try((repeat(revert hN;revert N;apply Pn.out));refine wk @ur ?_;(repeat(refine Pn.mk ?_;intro N hN))))
  exact jw (.inl rfl) (r1:=.bool false) (r2:=.bool false) (sd @Nat.zero_add) (sd @Nat.zero_add) (by rw[uU,if_pos uu,decide_eq_false fun h=>h uu];simp only[eR,bz,cD,fJ,Option.map_some])
 ·have uu:¬64<iu s l t:=by omega
  (repeat(first|((repeat(revert hN;revert N;apply Pn.out));refine wk (tw @ab.eq_1 (tw @ur @fQ)) ?_;(repeat(refine Pn.mk ?_;intro N hN)))|((try apply Or.inl);refine⟨_,aq.x (xx) (sd (tw @ab.eq_1 (tw @ur @fQ))),?_⟩;refine hN _ _ ?_;clear hN N)))
  refine⟨_,aq.x QM (yH _ _),?_⟩
  refine hN _ _ ?_
  clear hN N
  (try((repeat(revert hN;revert N;apply Pn.out));refine wk @ur ?_;(repeat(refine Pn.mk ?_;intro N hN))))
  refine .inl ⟨_,aq.x hho (hzh _ _ _),?_⟩
  refine hN _ _ ?_
  clear hN N
  (try((repeat(revert hN;revert N;apply Pn.out));refine wk @Nat.zero_add ?_;(repeat(refine Pn.mk ?_;intro N hN))))
  exact jw (.inl rfl) (r1:=.bool (tR (iu s l t) (dt (eB (aL t (cJ s l))) (cJ s l)) t)) (r2:=.bool true) (sd @Nat.zero_add) (sd @Nat.zero_add) (by rw[uU,if_neg uu,decide_eq_true uu];simp only[eR,bz,cD,fJ,Option.map_some])
theorem uz (t:Int):aq Tryz.prog 196 [.int .i64 t] (.bool (jb t 1 16)):=by
 refine aq.body eC rfl fun hl n0=>?_
 clear hl
 have h:=k9 t 1 16
 (repeat(first|((repeat(revert hN;revert N;apply Pn.out));refine wk @Nat.zero_add ?_;(repeat(refine Pn.mk ?_;intro N hN)))|((try apply Or.inl);refine⟨_,aq.x (h) (sd @Nat.zero_add),?_⟩;refine hN _ _ ?_;clear hN N)))
 exact aT (b:=jb t 1 16) (.inl rfl) (sd @Nat.zero_add) rfl
theorem xG (TB:CR) (s:aA) (hn:fX s.aE) (hg:s.aE.ax.length<=1048576) (ht:s.aE.ah.length<=1048576) (hs:∀t∈s.aE.ah,t.bt.length<=1048576) (hl:s.bc.ah.length<=1048576):aq Tryz.prog 105 [.agg (aw s)] (.bool (nu s)):=by
 refine aq.body eC rfl fun ml n0=>?_
 clear ml
 by_cases h0:(s.bc.ah.length:Int)=0
 ·have hd:decide ((s.bc.ah.length:Int)=0)=true:=decide_eq_true h0
  (try((repeat(revert hN;revert N;apply Pn.out));refine wk (tw @aw.eq_1 @hd) ?_;(repeat(refine Pn.mk ?_;intro N hN))))
  exact aT (b:=false) (.inl rfl) (sd @Nat.zero_add) (jY fun h=>by have:=h.some;omega)
 have hd:decide ((s.bc.ah.length:Int)=0)=false:=decide_eq_false h0
 have N8:=nB s.aE s.bc.ah hn hg ht hs hl
 have QD:=uz s.aB
 have key:aq Tryz.prog 163 [.agg (ab s.aE),.agg [.sl (s.bc.ah.map aa)],.int .i64 s.aB] (.gJ [.bool (nu s),.int .i64 (if qT s.aE&&pT s.aE s.bc.ah then(if jb s.aB 1 16 then(if 64<iu s.aE s.bc.ah s.aB then 4 else 0)else 2)else 1)]):=by
  refine aq.body eC rfl fun ml n0=>?_
  clear ml
  rw[ab]at N8
  cases hA:qT s.aE&&pT s.aE s.bc.ah
  ·rw[hA]at N8
   have lk:nu s=false:=(jY fun h=>by rw[mE.2 h.set,mc.2 h.Al]at hA;cases hA).symm
   (repeat(first|((repeat(revert hN;revert N;apply Pn.out));refine wk @ab.eq_1 ?_;(repeat(refine Pn.mk ?_;intro N hN)))|((try apply Or.inl);refine⟨_,aq.x (N8) (sd @ab.eq_1),?_⟩;refine hN _ _ ?_;clear hN N)))
   exact jw (.inl rfl) (r1:=.bool false) (r2:=.int .i64 1) (sd @Nat.zero_add) (sd @Nat.zero_add) (by rw[lk];simp only[eR,bz,cD,fJ,eK,Option.map_some];rfl)
  rw[hA]at N8
  simp only[Bool.and_eq_true]at hA
  have hS:=mE.1 hA.1
  have hP:=mc.1 hA.2
  cases hT:jb s.aB 1 16
  ·rw[hT]at QD
   have lk:nu s=false:=(jY fun h=>by have:=h.Pb;rw[hT]at this;cases this).symm
   (repeat(first|((repeat(revert hN;revert N;apply Pn.out));refine wk @ab.eq_1 ?_;(repeat(refine Pn.mk ?_;intro N hN)))|((try apply Or.inl);refine⟨_,aq.x (N8) (sd @ab.eq_1),?_⟩;refine hN _ _ ?_;clear hN N)|((try apply Or.inl);refine⟨_,aq.x (QD) (sd @ab.eq_1),?_⟩;refine hN _ _ ?_;clear hN N)))
   exact jw (.inl rfl) (r1:=.bool false) (r2:=.int .i64 2) (sd @Nat.zero_add) (sd @Nat.zero_add) (by rw[lk];simp only[eR,bz,cD,fJ,eK,Option.map_some];rfl)
  have LG:=eA hT
  rw[hT]at QD
  have dF:=JZ TB s.aE s.bc.ah s.aB (by omega) (by omega) hS hP
  rw[ab]at dF
  have hsy:nu s=nH s.aE s.bc.ah s.aB:=by
   cases hB:nH s.aE s.bc.ah s.aB
   ·exact(jY fun h=>by have:=pM.2 h.holds;rw[hB]at this;cases this).symm
   ·exact(Cu ⟨hS,hP,by omega,hT,pM.1 hB⟩).symm
  by_cases ur:64<iu s.aE s.bc.ah s.aB
  ·rw[decide_eq_false fun h=>h ur]at dF
   have lk:nu s=false:=(jY fun h=>by have:=h.holds.1;unfold iu at ur;omega).symm
   (repeat(first|((repeat(revert hN;revert N;apply Pn.out));refine wk @ab.eq_1 ?_;(repeat(refine Pn.mk ?_;intro N hN)))|((try apply Or.inl);refine⟨_,aq.x (N8) (sd @ab.eq_1),?_⟩;refine hN _ _ ?_;clear hN N)|((try apply Or.inl);refine⟨_,aq.x (QD) (sd @ab.eq_1),?_⟩;refine hN _ _ ?_;clear hN N)|((try apply Or.inl);refine⟨_,aq.x (dF) (sd @ab.eq_1),?_⟩;refine hN _ _ ?_;clear hN N)))
   exact jw (.inl rfl) (r1:=.bool false) (r2:=.int .i64 4) (sd @Nat.zero_add) (sd @Nat.zero_add) (by rw[lk,if_pos ur];simp only[eR,bz,cD,fJ,eK,Option.map_some])
  ·rw[decide_eq_true ur,<-hsy]at dF
   (repeat(first|((repeat(revert hN;revert N;apply Pn.out));refine wk @ab.eq_1 ?_;(repeat(refine Pn.mk ?_;intro N hN)))|((try apply Or.inl);refine⟨_,aq.x (N8) (sd @ab.eq_1),?_⟩;refine hN _ _ ?_;clear hN N)|((try apply Or.inl);refine⟨_,aq.x (QD) (sd @ab.eq_1),?_⟩;refine hN _ _ ?_;clear hN N)|((try apply Or.inl);refine⟨_,aq.x (dF) (sd @ab.eq_1),?_⟩;refine hN _ _ ?_;clear hN N)))
   exact jw (.inl rfl) (r1:=.bool (nu s)) (r2:=.int .i64 0) (sd @Nat.zero_add) (sd @Nat.zero_add) (by rw[if_neg ur];simp only[eR,bz,cD,fJ,eK,Option.map_some])
 generalize hcode:(if qT s.aE&&pT s.aE s.bc.ah then(if jb s.aB 1 16 then(if 64<iu s.aE s.bc.ah s.aB then(4:Int)else 0)else 2)else 1)=code at key
 rw[ab]at key
 cases hB:nu s
 ·rw[hB]at key
  (repeat(first|((repeat(revert hN;revert N;apply Pn.out));refine wk (tw @aw.eq_1 @hd) ?_;(repeat(refine Pn.mk ?_;intro N hN)))|((try apply Or.inl);refine⟨_,aq.x (key) (sd (tw @aw.eq_1 @hd)),?_⟩;refine hN _ _ ?_;clear hN N)))
  exact aT (b:=false) (.inl rfl) (sd @Nat.zero_add) rfl
 ·rw[hB]at key
  have hP:=xj.1 hB
  have hc:code=0:=by
   rw[<-hcode,mE.2 hP.set,mc.2 hP.Al,hP.Pb]
   have:=hP.holds.1
   simp only[Bool.and_self,if_true]
   rw[if_neg (by unfold iu;omega)]
  rw[hc]at key
  (repeat(first|((repeat(revert hN;revert N;apply Pn.out));refine wk (tw @aw.eq_1 @hd) ?_;(repeat(refine Pn.mk ?_;intro N hN)))|((try apply Or.inl);refine⟨_,aq.x (key) (sd (tw @aw.eq_1 @hd)),?_⟩;refine hN _ _ ?_;clear hN N)))
  exact aT (b:=true) (.inl rfl) (sd @Nat.zero_add) rfl
end Go.Proofs.YtgoelphibofcmaaGreat.V

namespace Go.Proofs.YtgoelphibofcmaaGreat.V
open Go.RowKit
variable {P:Program} {hs:Nat}
theorem Hr {q n i:Nat} {ops:Array Oper} {Q:Exit->Act->World->Prop} {K K':Act->World->Prop} {a:Act} {w:World} (mm:∀(j:Nat) (o:Oper),ops[j]? =some o->∀c,o.op≠.defer c) (lk:¬LetsOut Q) (hK:∀a w,K a w->K' a w) (h:wpOp P ops Q i K a w):wpOpIn (Fence.wide.inRound q) n P ops Q i K' a w:=by
 unfold wpOp at h
 unfold wpOpIn
 split at h
 ·rename_i ho;simp only[ho];exact hK _ _ h
 ·rename_i o ho
  simp only[ho]
  split at h
  ·rename_i hw
   rw[if_pos hw]
   replace h:=h.resolve_right fun hc=>lk hc.2
   refine⟨fun _ _=>trivial,?_⟩
   rw[Oper.semAt_eq _ _ _ (mm i o ho)]
   unfold Oper.wp at h
   generalize (execOp a.eval o).run P w=r at *
   cases r with
   |ok m w'=>
    cases m<;>simp only[Oper.upon,Oper.uponIn]at h ⊢
    case value=>exact hK _ _ h
    case skip=>exact hK _ _ h
    case defer=>exact hK _ _ h
    case enter f args=>
     refine⟨fun h=>by simp[Fence.wide]at h,CallsIn.inRound q (callsIn_wide.2 (h.mono fun e KP he=>?_))⟩
     cases e with
     |returned v=>exact hK _ _ he
     |panicked c=>exact he
     |outgrown=>exact he
    case row r args=>exact⟨fun h=>by simp[Fence.wide]at h,fun c cs _=>let ⟨v,KP,h1,s⟩:=h c cs;⟨v,KP,hK _ _ h1,stepsIn_wide.2 s⟩⟩
   |halt x w'=>cases x<;>simp only[Oper.upon,Oper.uponIn]at h ⊢;exact h
  ·rename_i hw
   rw[if_neg hw]
   exact⟨fun _ _=>trivial,hK _ _ h⟩
theorem xu {q n:Nat} {md:Region.Mode} {ops:Array Oper} {Q:Exit->Act->World->Prop} (mm:∀(j:Nat) (o:Oper),ops[j]? =some o->∀c,o.op≠.defer c) (lk:¬LetsOut Q):∀(fuel:Nat) (listed:Array Bool) (a:Act) (w:World),wpAny P md ops Q fuel listed a w->wpAnyIn (Fence.wide.inRound q) n P md ops Q fuel listed a w
 |0,_,_,_,h=>h
 |fuel+1,listed,_,_,h=>⟨h.1,fun i hi=>Hr mm lk (fun a w=>xu mm lk fuel _ a w) (h.2 i hi)⟩
def Fq:Op->Bool
 | .defer _=>true
 |_=>false
theorem Jw {ops:Array Oper} (h:(ops.all fun o=> !Fq o.op)=true):∀(j:Nat) (o:Oper),ops[j]? =some o->∀c,o.op≠.defer c:=fun j o hj c hc=>by
 have:=Array.all_eq_true_iff_forall_mem.1 h o (Array.mem_of_getElem? hj)
 rw[hc]at this
 simp[Fq]at this
theorem Ah (hm:P.follows .mixedOrders=true) {nt site0 id q n:Nat} {ops:Array Oper} {vl:List bj} (h:rD P nt site0 ops true false=some vl) (mm:∀(j:Nat) (o:Oper),ops[j]? =some o->∀c,o.op≠.defer c)
  {K:Env->ar->Prop} {env:Env} {σ:ar} {a:Act} {w:World} {D:Nat->Prop} {ι:Names} {Q:Exit->Act->World->Prop} (hv:wpOps (Sound P) true vl K env σ) (dF:St P hs nt D ι env σ a w)
  (hK:∀iG σ' a' w' D' ι',K iG σ'->Step hs D ι w D' ι' w'->St P hs nt D' ι' iG σ' a' w'->a'.defers=a.defers->Q .normal a' w'):(Code.region id ops true).wpIn (Fence.wide.inRound q) n P Q a w:=by
 have dI:∃hidden tA,allM (kI P ops nt site0 true false (jC ops) hidden) ops.toList 0=some tA/\vl=tA/\oH ops tA (jC ops)=true:=by
  unfold rD at h
  simp only[if_true,Bool.not_true,Bool.false_or]at h
  split at h
  ·rename_i tA h'
   split at h
   ·rename_i wm;simp at h;exact⟨_,tA,h',h.symm,wm⟩
   ·cases h
  ·cases h
 obtain⟨hidden,tA,dI,rfl,wm⟩:=dI
 obtain⟨rN,T0⟩:=dF.drew
 obtain⟨hlen,_⟩:=oy dI
 have kO:vl.length=ops.size:=by rw[hlen];simp
 have Dp:=xr (X:=Sound P) (K:=K) (n:=σ.next) wm kO vl 0 (Array.replicate ops.size false) env σ.get (by simp) (by simp) (fun i hi=>by simp[hi]) (by simp[kO]) (fun k i h=>by
  exfalso
  rcases Nat.lt_or_ge k ops.size with hk|hk
  ·simp[hk]at h
  ·simp[Nat.not_lt.2 hk]at h) hv
 rw[kO]at Dp
 have hw:=yc (Q:=fun e a w=>e=.normal/\Q .normal a w) dI ops.size _ env σ.get a w.drew D ι (fun _=>False) Dp rN.tp rN.used (fun _ h=>h.elim) rN.env rN.size fun jg g1 a1 w1 D1 ι1 U1 hk T S1 Tk E1 AR hd=>⟨rfl,hK jg ⟨g1,σ.next+1⟩ a1 w1 D1 ι1 hk (T0.trans T) ⟨S1,Tk.next,E1,AR⟩ hd⟩
 have fh:=xu (q:=q) (n:=n) (Q:=fun e a w=>e=.normal/\Q .normal a w) mm (by rintro⟨_,_,hc,_⟩;cases hc) ops.size _ a w.drew hw
 refine wpIn_mono (wpIn_region_any (id:=id) hm fh) ?_
 rintro e a w ⟨rfl,h⟩
 exact h
end Go.Proofs.YtgoelphibofcmaaGreat.V

namespace Go.Proofs.YtgoelphibofcmaaGreat.V
open Go.RowKit Go.Shelf
attribute [local go_sem] Oper.semAt_some
def il (n₀:Nat) (W W':World):Prop:=W.heap.size<=W'.heap.size/\(∀(b:Nat) (cells:Array Value) (T:TypeId) (fr:Nat×Nat),W.heap[b]? =some (Obj.cells cells T fr)->T≠226->T≠246->W'.heap[b]? =W.heap[b]?)/\∀k,k<n₀->k<W.heap.size->W'.heap[k]? =W.heap[k]?
theorem il.trans {n₀:Nat} {A B C:World} (h:il n₀ A B) (k:il n₀ B C):il n₀ A C:=⟨Nat.le_trans h.1 k.1,fun b cells T fr hb h1 h2=>by
 have e:=h.2.1 b cells T fr hb h1 h2
 rw[<-e]at hb ⊢
 exact k.2.1 b cells T fr hb h1 h2,fun b hb hs=>(k.2.2 b hb (Nat.lt_of_lt_of_le hs h.1)).trans (h.2.2 b hb hs)⟩
theorem il.of {n₀:Nat} {W W':World} (h:Below W.heap.size W W'):il n₀ W W':=⟨h.size,fun b cells T fr hb _ _=>h.block b (Array.getElem?_eq_some_iff.1 hb).1,fun k _ hs=>h.block k hs⟩
theorem il.refl (n₀:Nat) (W:World):il n₀ W W:=⟨Nat.le_refl _,fun _ _ _ _ _ _ _=>rfl,fun _ _ _=>rfl⟩
theorem il.b {n₀ m:Nat} (hm:n₀<=m) (W:World) (l:Nat) (o o':Obj) (hl:m<=l) (h:W.heap[l]? =some o) (hc:o.isCells=false) (_:o.isWalk=false):il n₀ W (W.putObj l o'):=by
 refine⟨by simp,fun b cells T fr hb _ _=>?_,fun k hk _=>World.putObj_heap_other (by omega)⟩
 by_cases qc:b=l
 ·subst qc;rw[h]at hb;cases hb;cases hc
 ·exact World.putObj_heap_other qc
def KY (bs:List PB):List Value:=bs.flatMap fun b=>[.int .i64 b.a,.int .i64 b.b,.int .i64 b.s]
theorem HY (bs:List PB) (b:PB):KY (bs++[b])=KY bs++[.int .i64 b.a,.int .i64 b.b,.int .i64 b.s]:=by simp[KY]
def nP (s:au) (l:List ad) (pre:List (Np l)):List PB:=(pre.map (·.1)).flatMap (zw s l)
theorem yf (s:au) (l:List ad) (pre:List (Np l)) (x:Np l):nP s l (pre++[x])=nP s l pre++zw s l x.1:=by simp[nP]
theorem HX (s:au) (l:List ad) (x:Nat×Nat×Int):(zw s l x).length<=1:=by
 unfold zw;split<;>simp
theorem HZ (s:au) (l:List ad) (pre:List (Np l)):(nP s l pre).length<=pre.length:=by
 unfold nP
 induction pre with
 |nil=>simp
 |cons x r ih=>
  have:=HX s l x.1
  simp only[List.map_cons,List.flatMap_cons,List.length_append,List.length_cons]at ih ⊢
  omega
theorem yW (l:List ad) (i:Nat):∀m,(kT l i m).length<=m
 |0=>by simp[kT]
 |m+1=>by
  rw[nk,List.length_append]
  have:=yW l i m
  have:(Cd l i (1-(m:Int))).length<=1:=by unfold Cd;split<;>simp
  omega
theorem Ce (l:List ad):∀n,(lp l n).length<=n*2
 |0=>by simp[lp]
 |n+1=>by
  rw[mz,List.length_append]
  have:=Ce l n
  have:=yW l n 2
  omega
theorem BB {β:Type} (B:Nat) (c:Array Value) (t:TypeId) (fr:Nat×Nat):Own (fun(_:β) W=>W.heap[B]? =some (.cells c t fr)):=fun _ X _ row h hg hr=>(hg.block B (Array.getElem?_eq_some_iff.1 h).1 (fun e=>by
 obtain⟨o,ho,hc⟩:=hr B e.symm
 rw[h]at ho;cases ho;cases hc)).trans h
theorem il.app {n₀:Nat} {W w1:World} {B k:Nat} {v v':Value} {xs:List Value} {tmp:Obj} (hv:Boxed W B 226 v) (fQ:W.ownsRow n₀ 246 3 v k xs) (Fa:(W.alloc tmp).grownBy w1 v.ownBlock) (hb:Below n₀ W (w1.setCell ⟨B,0,none⟩ v')):il n₀ W (w1.setCell ⟨B,0,none⟩ v'):=by
 refine⟨hb.size,fun b cells T fr h h1 h2=>?_,fun k hk _=>hb.block k hk⟩
 have dS:=(Array.getElem?_eq_some_iff.1 h).1
 have hbB:b≠B:=by
  rintro rfl
  rw[show W.heap[b]? = _ from hv]at h
  cases h
  exact h1 rfl
 have Sw:some b≠v.ownBlock:=by
  rcases fQ.2 with⟨rfl,_⟩|⟨g,cap,cur,rfl,_,hg,_⟩
  ·simp[Value.ownBlock]
  ·intro e
   obtain rfl:b=g:=by simpa[Value.ownBlock]using e
   rw[hg]at h;cases h
   exact h2 rfl
 refine(Below.heap_setCell w1 ⟨B,0,none⟩ v' b hbB).trans ?_
 exact(Fa.block b (by simp;omega) Sw).trans (Below.heap_alloc W tmp b dS)
theorem Rv {w:World} {vS:Value} {l:List ad} (hP:pS w vS l):HJ (il w.heap.size) vS l where
 refl:=il.refl _
 trans:=il.trans
 of:=il.of
 size h:=h.1
 typed h:=h.2.1
 pl {W W'} h hp:=by
  obtain⟨A,c,rfl,hm,hc⟩:=hp.sl
  refine⟨A,c,rfl,hm,?_⟩
  by_cases hl:l=[]
  ·exact .inl hl
  have jN:0<l.length:=List.length_pos_iff.2 hl
  rcases hc with h0|⟨b,o,rfl,ko⟩
  ·exact absurd h0 hl
  obtain⟨A',c',e,_,kN⟩:=hP.sl
  cases e
  rcases kN with h0|⟨b',o',e,hcell'⟩
  ·exact absurd h0 hl
  cases e
  have hb:=uE (hcell' 0 jN).1
  have hk:=h.2.2 b hb (uE (ko 0 jN).1)
  refine .inr ⟨b,o,rfl,fun i hi=>?_⟩
  have zN:∀x,W'.cell? ⟨b,x,none⟩=W.cell? ⟨b,x,none⟩:=fun x=>World.cell?_of_block hk
  rw[zN,zN,zN]
  exact ko i hi
theorem rrE {P:Program} {nt site0:Nat} {ops:Array Oper} {vl:List bj} (_:zy P ops site0 false (jC ops) (rS P false ops.toList 0) ops.toList 0=some vl:=by(conv=>lhs;cbv)<;>exact rfl) (h:rD P nt site0 ops true false=some vl:=by kernel_rfl):rD P nt site0 ops true false=some vl:=h
theorem Jk (l:List Value) (d:Value):l=(List.range l.length).map fun i=>(⟨l⟩:Array Value).getD i d:=by
 refine List.ext_getElem (by simp) fun i h1 h2=>?_
 simp[h1]
theorem DZ {X:fG} {d:Bool} {ops:List bj} {K:Env->ar->Prop} {env:Env} {σ:ar} (h:dG X (.eH d ops) (fun _=>K) env σ):wpOps X d ops K env σ:=h
theorem vL (W:World) (T:TypeId) (x y z:Value):∀(j:Nat) (u:Value),[x,y,z][j]? =some u->(W.alloc (.cells #[x,y,z] T)).cell? ((⟨W.heap.size,0,none⟩:Addr).add j)=some u:=fun j u h=>by
 have hb:(W.alloc (.cells #[x,y,z] T)).heap[W.heap.size]? =some (.cells #[x,y,z] T (0,0)):=World.alloc_heap_new _ _
 have e:∀k,(W.alloc (.cells #[x,y,z] T)).cell? ⟨W.heap.size,k,none⟩=(#[x,y,z]:Array Value)[k]? :=fun k=>by
  unfold World.cell?
  rw[show(W.alloc (.cells #[x,y,z] T)).heap[(⟨W.heap.size,k,none⟩:Addr).block]? = _ from hb]
  rfl
 rw[show(⟨W.heap.size,0,none⟩:Addr).add j=⟨W.heap.size,j,none⟩ by simp[Addr.add];exact fun h=>h.symm,e]
 simpa using h
def H7 (n b:Nat):Names:=fun id=>if id=⟨1,0⟩then some ⟨n,2,2,none⟩else if id=⟨2,0⟩then some ⟨n+1,1,1,none⟩else if id=⟨3,0⟩then some ⟨n+1+1,1,1,none⟩else if id=⟨4,0⟩then some ⟨b,2,2,none⟩else if id=⟨5,0⟩then some ⟨n+1+1+1,1,1,none⟩else none
def MF (s:au) (l:List ad) (i k:Nat):Rows:=fun id=>if id=⟨1,0⟩then some ⟨false,2,[ab s]⟩else if id=⟨2,0⟩then some ⟨false,1,[[.sl (l.map aa)]]⟩else if id=⟨4,0⟩then some ⟨false,2,[[.int .i64 (i:Int),.int .i64 (k:Int)]]⟩else none
def NB (s:au) (l:List ad) (i k:Nat) (d:Int):Env:=cz [.agg (ab s),.agg [.sl (l.map aa)],.ptr ⟨1,0⟩ 0 0,.ptr ⟨2,0⟩ 0 0,.cm,.ptr ⟨3,0⟩ 0 0,.ptr ⟨4,0⟩ 0 0,.int .i64 d,.undef,.agg [.sl (l.map aa)],.fn 264 [.ptr ⟨5,0⟩ 0 0],.agg [.int .i64 (i:Int),.int .i64 (k:Int)],.int .i64 d]
theorem Ed {P:Program} {W:World} {D:Nat->Prop} {ι:Names} {B:sC} {cells:Array Value} {T:TypeId} {cs:List AV} (hk:B.k=none) (hb:W.heap[B.b]? =some (.cells cells T (0,0))) (hC:cells.size=B.C) (hz:B.sz=cs.length) (hl:cs.length=cells.size) (hf:∀a∈cs,a.cell=true) (hr:∀(j:Nat) (a:AV),cs[j]? =some a->∃v,cells[j]? =some v/\cI P W D ι a v):gM P W D ι B ⟨false,cs.length,[cs]⟩:=
 lv.obj ⟨hz,⟨cells,T,hb,hC⟩,by simp;omega,fun c hc=>by simp at hc;rw[hc],fun c hc=>by simp at hc;rw[hc];exact hf,fun i j c a hi hj=>by
  match i,hi with
  |0,hi=>
   simp at hi;subst hi
   obtain⟨v,h1,h2⟩:=hr j a hj
   exact⟨v,by simp[World.cell?,hb,h1],h2⟩
  |i+1,hi=>simp at hi⟩ hk
theorem I7:(Tryz.prog.info? 246).map (fun i=>(i.zero,i.size,i.bytes))=some (some (.agg #[.int .i64 0,.int .i64 0,.int .i64 0]),3,24):=by kernel_rfl
end Go.Proofs.YtgoelphibofcmaaGreat.V

namespace Go.Proofs.YtgoelphibofcmaaGreat.V
open Go.RowKit Go.Shelf
attribute [local go_sem] Oper.semAt_some
attribute [local irreducible] dG wpOps gy Call
attribute [local go_sem] aM fF eP ga fW cQ upd cz K.av cR AV.cells AV.cell rowOf rowsOf part ld rowAt bq cu dD ee ik bJ dh ev fU eX dr ej dd dc dQ dR bQ bf cW bP cY cX eh ek ei cV cj de ef bK aO da cG ij bw cK bU aY dn aZ dE AV.undef bD bG dV ec dM dK cH eu ew cF ep eo cZ db List.getD_cons_zero List.getD_cons_succ List.getD_nil List.all_cons List.all_nil Bool.and_true Bool.true_and Bool.and_self Bool.not_true Bool.not_false Option.map_some Option.map_none Option.bind_some Option.bind_none List.length_cons List.length_nil List.take_succ_cons List.take_zero List.take_nil List.drop_succ_cons List.drop_zero List.drop_nil List.head?_cons List.map_cons List.map_nil List.getElem?_cons_zero List.getElem?_cons_succ List.cons_append List.nil_append List.append_nil List.length_map List.set_cons_zero List.set_cons_succ Nat.reduceMul eq_self Int.toNat_natCast Int.natCast_nonneg and_self true_and and_true decide_true decide_false Bool.false_eq_true Nat.zero_add Nat.add_zero List.contains_cons List.contains_nil Bool.or_false Bool.false_or beq_self_eq_true Nat.reduceBEq ne_eq not_true_eq_false not_false_eq_true Id.mk.injEq false_and and_false Nat.reduceLT Int.reduceLE Int.reduceLT Int.reduceToNat Int.reduceNeg Int.reduceAdd Nat.le_refl List.length_append beq_true beq_false Bool.not_eq_eq_eq_not or_false false_or dL ai aj aH bl bB cw aX bd aU bh cU bH
theorem H5 (s:au) (l:List ad) (hF:kF s) (hA:jk s l) (w:World) (Ag At:Option Addr) (ng cg nt ct:Nat) (vS:Value) (hT:jF Tryz.prog w (fun b=>b<w.heap.size) (.agg (ab s)) (.agg #[.slice Ag ng cg,.slice At nt ct])) (hP:pS w vS l):
  CallsIn Fence.wide 5 Tryz.prog 222 #[.agg #[.slice Ag ng cg,.slice At nt ct],.agg #[vS]] w fun e W'=>∃v,e=.returned v/\W'.ownsRow w.heap.size 246 3 v (cJ s l).length (KY (cJ s l))/\(v=.slice none 0 0↔cJ s l=[])/\Below w.heap.size w W':=by
 obtain⟨A,cp,rfl,_,_⟩:=hP.sl
 obtain⟨i0,hi,HC,AR,lI⟩:=info_parts I7
 refine callsIn_of_wp_marks Tryz.func222 rfl trivial ?_ rfl
 simp only[Tryz.ntmps222,List.size_toArray,List.length_cons,List.length_nil,Nat.reduceAdd,Nat.reduceSub,Array.replicate_succ,Array.replicate_zero,List.push_toArray,List.append_toArray,List.nil_append,List.cons_append]
 gi_wp2_with (refine⟨trivial,?_⟩;gi_at_call 244;refine(Aa _ _ _).mono ?_;rintro e w' ⟨rfl,rfl⟩)
 have bT:((w.alloc (.cells #[.slice Ag ng cg,.slice At nt ct] 38)).heap[w.heap.size]?)=some (.cells #[.slice Ag ng cg,.slice At nt ct] 38 (0,0)):=World.alloc_heap_new _ _
 obtain⟨w1,od⟩:∃w1,w.alloc (.cells #[.slice Ag ng cg,.slice At nt ct] 38)=w1:=⟨_,rfl⟩
 have P9:w1.heap.size=w.heap.size+1:=by rw[<-od];simp
 have AN:Below w.heap.size w w1:=by rw[<-od];exact(Below.refl _ w).alloc (Nat.le_refl _) _
 rw[od]at bT ⊢
 clear od
 have bA:=Boxed.new w1 41 (.slice A l.length cp)
 have bO:=Boxed.new (w1.alloc (.cells #[.slice A l.length cp] 41)) 226 (.slice none 0 0)
 have bN:=Boxed.new ((w1.alloc (.cells #[.slice A l.length cp] 41)).alloc (.cells #[.slice none 0 0] 226)) 41 (.slice A l.length cp)
 replace bA:=(bA.alloc (.cells #[.slice none 0 0] 226)).alloc (.cells #[.slice A l.length cp] 41)
 replace bO:=bO.alloc (.cells #[.slice A l.length cp] 41)
 simp only[World.size_alloc,P9]at bA bO bN
 have pV:Below w1.heap.size w1 (((w1.alloc (.cells #[.slice A l.length cp] 41)).alloc (.cells #[.slice none 0 0] 226)).alloc (.cells #[.slice A l.length cp] 41)):=(((Below.refl _ w1).alloc (Nat.le_refl _) _).alloc (by simp) _).alloc (by simp;omega) _
 have fj:(((w1.alloc (.cells #[.slice A l.length cp] 41)).alloc (.cells #[.slice none 0 0] 226)).alloc (.cells #[.slice A l.length cp] 41)).heap.size=w.heap.size+4:=by simp;omega
 obtain⟨W0,hW0⟩:∃W0,((w1.alloc (.cells #[.slice A l.length cp] 41)).alloc (.cells #[.slice none 0 0] 226)).alloc (.cells #[.slice A l.length cp] 41)=W0:=⟨_,rfl⟩
 rw[hW0]at bA bO bN pV fj ⊢
 clear hW0
 have Bz:Below w.heap.size w W0:=AN.trans (pV.mono (by omega))
 replace bT:=(pV.block w.heap.size (by omega)).trans bT
 have hP0:pS W0 (.slice A l.length cp) l:=hP.below Bz
 have kl:=Rv hP
 have qc:=qj (s:=s) hA.1
 refine wpIn_rangeFunc_ownH (n:=5) rfl (by omega) (gf:=264) (lb:= #[.pointer (some ⟨w.heap.size+1+1+1,0,none⟩)]) rfl trivial (enters_of Tryz.func264 (by kernel_rfl) rfl)
  (Ju l hA.1 (w.heap.size+1+1+1) (5-1) (by omega) (.slice A l.length cp) (il w.heap.size) kl W0 bN hP0) il.trans (il.b (by omega)) (Below.refl _ _) (fun _=>rfl)
  (fun pre W=>((∃v,Boxed W (w.heap.size+1+1) 226 v/\W.ownsRow w.heap.size 246 3 v (nP s l pre).length (KY (nP s l pre))/\(v=.slice none 0 0↔nP s l pre=[]))/\(Boxed W (w.heap.size+1) 41 (.slice A l.length cp)/\W.heap[w.heap.size]? =some (.cells #[.slice Ag ng cg,.slice At nt ct] 38 (0,0))))/\Below w.heap.size w W)
  (fun _ _ _=>False)
  (OwnFrom.and (OwnFrom.and (Own.from (holdsRow_own w.heap.size (w.heap.size+1+1) 226 246 3 (fun pre=>(nP s l pre).length) (fun pre=>KY (nP s l pre)) (fun pre v=>v=.slice none 0 0↔nP s l pre=[])) _) (OwnFrom.and (Own.from (boxed_own _ _ _) _) (Own.from (BB _ _ _ _) _))) (ownFrom_below (Nat.le_refl _) (by omega)))
  (fun _ _ _ _ _ hs _ _=>hs)
  ⟨⟨⟨_,bO,World.ownsRow_nil _ _ _ _,by simp[nP]⟩,bA,bT⟩,Bz⟩
  (fun x a' W=>∃Bx,w.heap.size+1+1<Bx/\W.heap[Bx]? =some (.cells #[.int .i64 (x.1.1:Int),.int .i64 (x.1.2.1:Int)] 283 (0,0))/\a'={tmps:= #[.agg #[.slice Ag ng cg,.slice At nt ct],.agg #[.slice A l.length cp],.pointer (some ⟨w.heap.size,0,none⟩),.pointer (some ⟨w.heap.size+1,0,none⟩),.slice none 0 0,.pointer (some ⟨w.heap.size+1+1,0,none⟩),.pointer (some ⟨Bx,0,none⟩),.int .i64 x.1.2.2,undef,.agg #[.slice A l.length cp],.func (.func 264) #[] #[.pointer (some ⟨w.heap.size+1+1+1,0,none⟩)],.agg #[.int .i64 (x.1.1:Int),.int .i64 (x.1.2.1:Int)],.int .i64 x.1.2.2,undef,undef,undef,undef,undef,undef,undef,undef,undef,undef,undef,undef,undef,undef,undef,undef,undef,undef,undef,undef,undef,undef,undef,undef,undef,undef,undef,undef,undef],defers:=[]})
  (fun x a' _ X Y row hs hg hr=>by obtain⟨Bx,h1,h2,h3⟩:=hs;exact⟨Bx,h1,BB Bx _ _ _ () X Y row h2 hg (fun r e=>(hr r e).2),h3⟩)
  ?assign ?body ?done ?stop
 case assign=>
  rintro q pre ⟨⟨x0,x1,x2⟩,hx⟩ W K ⟨⟨⟨v,hv,fQ,hnil⟩,bA1,bT1⟩,hB⟩ hK
  simp only[EU]
  gi_wp2
  exact hK _ _ ((KeepsOthers.alloc _ _).from _) (il.of ((Below.refl _ W).alloc (Nat.le_refl _) _)) ⟨⟨⟨v,hv.alloc _,fQ.alloc _,hnil⟩,bA1.alloc _,(Below.heap_alloc _ _ _ (Array.getElem?_eq_some_iff.1 bT1).1).trans bT1⟩,hB.alloc hB.size _⟩ ⟨W.heap.size,hv.lt,World.alloc_heap_new _ _,rfl⟩
 case body=>
  rintro q pre ⟨⟨x0,x1,x2⟩,hx⟩ a' W hq hqr ⟨⟨⟨v,hv,fQ,hnil⟩,bA1,bT1⟩,hB⟩ ⟨Bx,hBx,bX,rfl⟩ dS
  obtain⟨CP,I6,yG⟩:=hx
  simp only at CP I6 yG bX
  obtain⟨A',c',e',_,hc⟩:=(hP.below hB).sl
  cases e'
  have du:∃b o,A=some ⟨b,o,none⟩/\W.cell? ⟨b,o+x0*3+2,none⟩=some (.int .i64 (aJ l x0).aV)/\W.cell? ⟨b,o+x1*3+2,none⟩=some (.int .i64 (aJ l x1).aV):=by
   rcases hc with rfl|⟨b,o,rfl,ko⟩
   ·simp at CP
   ·exact⟨b,o,rfl,by rw[Nat.add_assoc];exact(ko x0 CP).2.2,by rw[Nat.add_assoc];exact(ko x1 I6).2.2⟩
  obtain⟨b,o,rfl,cP0,cP1⟩:=du
  have cT0:W.cell? ⟨w.heap.size,0,none⟩=some (.slice Ag ng cg):=by simp[World.cell?,bT1]
  have cT1:W.cell? ⟨w.heap.size,1,none⟩=some (.slice At nt ct):=by simp[World.cell?,bT1]
  have cX0:W.cell? ⟨Bx,0,none⟩=some (.int .i64 (x0:Int)):=by simp[World.cell?,bX]
  have cX1:W.cell? ⟨Bx,1,none⟩=some (.int .i64 (x1:Int)):=by simp[World.cell?,bX]
  have cA:=bA1.cell
  have dP0:W.drew.cell? ⟨b,o+x0*3+2,none⟩=some (.int .i64 (aJ l x0).aV):=cP0
  have dP1:W.drew.cell? ⟨b,o+x1*3+2,none⟩=some (.int .i64 (aJ l x1).aV):=cP1
  have dT0:W.drew.cell? ⟨w.heap.size,0,none⟩=some (.slice Ag ng cg):=cT0
  have dT1:W.drew.cell? ⟨w.heap.size,1,none⟩=some (.slice At nt ct):=cT1
  have dX0:W.drew.cell? ⟨Bx,0,none⟩=some (.int .i64 (x0:Int)):=cX0
  have dX1:W.drew.cell? ⟨Bx,1,none⟩=some (.int .i64 (x1:Int)):=cX1
  have dA:W.drew.cell? ⟨w.heap.size+1,0,none⟩=some (.slice (some ⟨b,o,none⟩) l.length cp):=cA
  have s5:∀i,i<l.length->aJ l i∈l:=fun i hi=>by
   unfold aJ
   rw[List.getD_eq_getElem?_getD,List.getElem?_eq_getElem hi]
   exact List.getElem_mem hi
  have Uy:=mixed
  have hfw:=hA.1.sD
  have Sx:=H4 s hF (aJ l x0).aV x2 (aJ l x1).aV (hA.2 _ (s5 x0 CP)) (hA.2 _ (s5 x1 I6)) (kP (by omega))
  have hTW:jF Tryz.prog W (fun b=>b<w.heap.size) (.agg (ab s)) (.agg #[.slice Ag ng cg,.slice At nt ct]):=hT.frame (fun b hb=>hB.block b hb) (fun _ h=>h)
  have hAW:jF Tryz.prog W (fun b=>b<w.heap.size) (.sl (l.map aa)) (.slice (some ⟨b,o,none⟩) l.length cp):=hP.eM.frame (fun b hb=>hB.block b hb) (fun _ h=>h)
  obtain⟨fT,hT0,hT1⟩:∃f:Nat->Value,(∀j,j<(ab s).length->(#[Value.slice Ag ng cg,.slice At nt ct])[j]? =some (f j))/\∀j a,(ab s)[j]? =some a->jF Tryz.prog W (fun b=>b<w.heap.size) a (f j):=by
   cases hTW with
   |agg _ _ f _ _ h3 h4=>exact⟨f,h3,h4⟩
  have dF:St Tryz.prog W.heap.size 42 (fun b=>b<w.heap.size) (H7 w.heap.size Bx) (NB s l x0 x1 x2) ⟨MF s l x0 x1,1⟩ {tmps:= #[.agg #[.slice Ag ng cg,.slice At nt ct],.agg #[.slice (some ⟨b,o,none⟩) l.length cp],.pointer (some ⟨w.heap.size,0,none⟩),.pointer (some ⟨w.heap.size+1,0,none⟩),.slice none 0 0,.pointer (some ⟨w.heap.size+1+1,0,none⟩),.pointer (some ⟨Bx,0,none⟩),.int .i64 x2,undef,.agg #[.slice (some ⟨b,o,none⟩) l.length cp],.func (.func 264) #[] #[.pointer (some ⟨w.heap.size+1+1+1,0,none⟩)],.agg #[.int .i64 (x0:Int),.int .i64 (x1:Int)],.int .i64 x2,undef,undef,undef,undef,undef,undef,undef,undef,undef,undef,undef,undef,undef,undef,undef,undef,undef,undef,undef,undef,undef,undef,undef,undef,undef,undef,undef,undef,undef],defers:=[]} W:=by
   have n1:(H7 w.heap.size Bx) ⟨1,0⟩=some ⟨w.heap.size,2,2,none⟩:=rfl
   have n2:(H7 w.heap.size Bx) ⟨2,0⟩=some ⟨w.heap.size+1,1,1,none⟩:=rfl
   have n3:(H7 w.heap.size Bx) ⟨3,0⟩=some ⟨w.heap.size+1+1,1,1,none⟩:=rfl
   have n4:(H7 w.heap.size Bx) ⟨4,0⟩=some ⟨Bx,2,2,none⟩:=rfl
   have n5:(H7 w.heap.size Bx) ⟨5,0⟩=some ⟨w.heap.size+1+1+1,1,1,none⟩:=rfl
   have rp:∀(id:Id) (B:sC),(H7 w.heap.size Bx) id=some B->B.k=none->cI Tryz.prog W (fun b=>b<w.heap.size) (H7 w.heap.size Bx) (.ptr id 0 0) (.pointer (some ⟨B.b,0,none⟩)):=fun id B h hk=>by
    have:=cI.ptr (P:=Tryz.prog) (w:=W) (D:=fun b=>b<w.heap.size) id 0 0 B h hk
    simpa using this
   have ri:∀n:Int,cI Tryz.prog W (fun b=>b<w.heap.size) (H7 w.heap.size Bx) (.int .i64 n) (.int .i64 n):=fun n=>.eM _ _ (.int _ _)
   have hA1:jF Tryz.prog W (fun b=>b<w.heap.size) (.agg [.sl (l.map aa)]) (.agg #[.slice (some ⟨b,o,none⟩) l.length cp]):=.agg _ _ (fun _=>.slice (some ⟨b,o,none⟩) l.length cp) rfl (fun a ha=>by simp at ha;rw[ha];rfl) (fun j hj=>by match j,hj with|0,_=>rfl|j+1,hj=>simp at hj) (fun j a ha=>by match j,ha with|0,ha=>simp at ha;subst ha;exact hAW|j+1,ha=>simp at ha)
   refine⟨⟨Nat.le_refl _,fun b hb=>Nat.lt_of_lt_of_le hb hB.size,fun id r hg=>?_,fun id jW r r' B B' h _ hw=>?_⟩,fun id hid=>?_,fun t=>?_,rfl⟩
   ·replace hg:MF s l x0 x1 id=some r:=hg
    unfold MF at hg
    split at hg
    ·rename_i e;subst e;injection hg with hg;subst hg
     exact⟨_,n1,Ed (cs:=ab s) rfl bT1 rfl rfl rfl (fun a ha=>by simp[ab]at ha;rcases ha with rfl|rfl<;>rfl) (fun j a ha=>⟨_,hT0 j (List.getElem?_eq_some_iff.1 ha).1,.eM _ _ (hT1 j a ha)⟩),fun h=>(by cases h),fun h=>(by cases h)⟩
    ·split at hg
     ·rename_i e;subst e;injection hg with hg;subst hg
      exact⟨_,n2,Ed (cs:=[.sl (l.map aa)]) rfl bA1 rfl rfl rfl (fun a ha=>by simp at ha;rw[ha];rfl) (fun j a ha=>by match j,ha with|0,ha=>simp at ha;subst ha;exact⟨_,rfl,.eM _ _ hAW⟩|j+1,ha=>simp at ha),fun h=>(by cases h),fun h=>(by cases h)⟩
     ·split at hg
      ·rename_i e;subst e;injection hg with hg;subst hg
       exact⟨_,n4,Ed (cs:=[.int .i64 (x0:Int),.int .i64 (x1:Int)]) rfl bX rfl rfl rfl (fun a ha=>by simp at ha;rcases ha with rfl|rfl<;>rfl) (fun j a ha=>by match j,ha with|0,ha=>simp at ha;subst ha;exact⟨_,rfl,ri _⟩|1,ha=>simp at ha;subst ha;exact⟨_,rfl,ri _⟩|j+2,ha=>simp at ha),fun h=>(by cases h),fun h=>(by cases h)⟩
      ·cases hg
   ·exfalso
    replace h:MF s l x0 x1 id=some r:=h
    unfold MF at h
    split at h
    ·injection h with h;subst h;cases hw
    ·split at h
     ·injection h with h;subst h;cases hw
     ·split at h
      ·injection h with h;subst h;cases hw
      ·cases h
   ·left
    unfold H7 at hid
    repeat' (split at hid)
    all_goals first|(rename_i e;subst e;exact Nat.zero_lt_one)|exact absurd rfl hid
   ·match t with
    |0=>exact .eM _ _ hTW
    |1=>exact .eM _ _ hA1
    |2=>exact rp _ _ n1 rfl
    |3=>exact rp _ _ n2 rfl
    |4=>exact .eM _ _ .cm
    |5=>exact rp _ _ n3 rfl
    |6=>exact rp _ _ n4 rfl
    |7=>exact ri _
    |8=>exact cI.undef
    |9=>exact .eM _ _ hA1
    |10=>exact .fn _ _ _ (fun _=>.pointer (some ⟨w.heap.size+1+1+1,0,none⟩)) (by kernel_rfl) rfl (fun j hj=>by match j,hj with|0,_=>rfl|j+1,hj=>simp at hj) (fun j a ha=>by match j,ha with|0,ha=>simp at ha;subst ha;exact rp _ _ n5 rfl|j+1,ha=>simp at ha)
    |11=>exact .agg _ _ (fun j=>if j=0 then .int .i64 (x0:Int)else .int .i64 (x1:Int)) rfl (fun a ha=>by simp at ha;rcases ha with rfl|rfl<;>rfl) (fun j hj=>by match j,hj with|0,_=>rfl|1,_=>rfl|j+2,hj=>simp at hj;omega) (fun j a ha=>by match j,ha with|0,ha=>simp at ha;subst ha;exact ri _|1,ha=>simp at ha;subst ha;exact ri _|j+2,ha=>simp at ha)
    |12=>exact ri _
    |13=>exact cI.undef
    |14=>exact cI.undef
    |15=>exact cI.undef
    |16=>exact cI.undef
    |17=>exact cI.undef
    |18=>exact cI.undef
    |19=>exact cI.undef
    |20=>exact cI.undef
    |21=>exact cI.undef
    |22=>exact cI.undef
    |23=>exact cI.undef
    |24=>exact cI.undef
    |25=>exact cI.undef
    |26=>exact cI.undef
    |27=>exact cI.undef
    |28=>exact cI.undef
    |29=>exact cI.undef
    |30=>exact cI.undef
    |31=>exact cI.undef
    |32=>exact cI.undef
    |33=>exact cI.undef
    |34=>exact cI.undef
    |35=>exact cI.undef
    |36=>exact cI.undef
    |37=>exact cI.undef
    |38=>exact cI.undef
    |39=>exact cI.undef
    |40=>exact cI.undef
    |41=>exact cI.undef
    |t+42=>exact cI.undef
  have hV:wpOps (Call Tryz.prog) true ?vl (fun e _=>e 5=.ptr ⟨3,0⟩ 0 0/\e 6=.ptr ⟨4,0⟩ 0 0/\e 8=.int .i64 (gT s (aJ l x0).aV x2 (aJ l x1).aV)) (NB s l x0 x1 x2) ⟨MF s l x0 x1,1⟩:= ?hv
  gi_wp2
  refine Ah mixed (rrE (nt:=42) (site0:=222005000)) (Jw (by kernel_rfl)) (lf (fun _ _ _ _ h=>gq mixed h) kH (fun _ _ h=>h) _ _ _ hV) dF ?_
  rintro e1 σ1 ⟨tm,df⟩ w3 D1 ι1 ⟨h5,h6,h8⟩ T1 sJ Dr
  case hv=>
   refine DZ ?_
   have e0:=fw CP
   have e1:=fw I6
   (repeat(first|((repeat(revert hN;revert N;apply Pn.out));refine wk (tw @e0 (tw @e1 (tw @NB.eq_1 (tw @MF.eq_1 (tw @aa.eq_1 @ab.eq_1))))) ?_;(repeat(refine Pn.mk ?_;intro N hN)))|((try apply Or.inl);refine⟨_,aq.x (Sx) (sd (tw @e0 (tw @e1 (tw @NB.eq_1 (tw @MF.eq_1 (tw @aa.eq_1 @ab.eq_1)))))),?_⟩;refine hN _ _ ?_;clear hN N)))
   exact⟨sd @NB.eq_1,sd @NB.eq_1,sd @NB.eq_1⟩
  ·have BA:Below W.heap.size W w3:=T1.below
   have rM:∀id B,H7 w.heap.size Bx id=some B->ι1 id=some B:=T1.names
   have p5:tm.getD 5 undef=.pointer (some ⟨w.heap.size+1+1,0,none⟩):=by
    have g:=sJ.env 5
    rw[h5]at g
    obtain⟨B,e,hB,_⟩:=iA g
    have h:=rM ⟨3,0⟩ ⟨w.heap.size+1+1,1,1,none⟩ rfl
    rw[h]at hB;injection hB with hB;subst hB
    simpa using e
   have p6:tm.getD 6 undef=.pointer (some ⟨Bx,0,none⟩):=by
    have g:=sJ.env 6
    rw[h6]at g
    obtain⟨B,e,hB,_⟩:=iA g
    have h:=rM ⟨4,0⟩ ⟨Bx,2,2,none⟩ rfl
    rw[h]at hB;injection hB with hB;subst hB
    simpa using e
   have p8:tm.getD 8 undef=.int .i64 (gT s (aJ l x0).aV x2 (aJ l x1).aV):=by
    have g:=sJ.env 8
    rw[h8]at g
    exact dq g
   have fj:=sJ.size
   obtain⟨tl⟩:=tm
   obtain⟨f,OE,hf⟩:∃f:Nat->Value,tl=[f 0,f 1,f 2,f 3,f 4,f 5,f 6,f 7,f 8,f 9,f 10,f 11,f 12,f 13,f 14,f 15,f 16,f 17,f 18,f 19,f 20,f 21,f 22,f 23,f 24,f 25,f 26,f 27,f 28,f 29,f 30,f 31,f 32,f 33,f 34,f 35,f 36,f 37,f 38,f 39,f 40,f 41]/\∀i,f i=(⟨tl⟩:Array Value).getD i undef:=by
    refine⟨fun i=>(⟨tl⟩:Array Value).getD i undef,?_,fun _=>rfl⟩
    have h:=Jk tl undef
    rw[show tl.length=42 from fj]at h
    exact h
   rw[<-hf]at p5 p6 p8
   have Uf:df=[]:=Dr
   subst Uf
   clear hf sJ dF hV
   subst OE
   rw[p5,p6,p8]
   have SV:=hv.kept (grown_of BA) (by simp)
   have Fh:=fQ.kept (grown_of BA) (by rcases fQ.2 with⟨e,_⟩|⟨_,_,_,e,_⟩<;>rw[e]<;>simp[Value.ownBlock])
   have hc3:=SV.cell
   have hn3:w.heap.size<=w3.heap.size:=Nat.le_trans hB.size BA.size
   have eX0:w3.cell? ⟨Bx,0,none⟩=some (.int .i64 (x0:Int)):=(BA.cell (p:=⟨Bx,0,none⟩) (Array.getElem?_eq_some_iff.1 bX).1).trans cX0
   have eX1:w3.cell? ⟨Bx,1,none⟩=some (.int .i64 (x1:Int)):=(BA.cell (p:=⟨Bx,1,none⟩) (Array.getElem?_eq_some_iff.1 bX).1).trans cX1
   have l8:(nP s l pre).length<=2097152:=by
    have h1:=HZ s l pre
    have h2:=Ce l l.length
    omega
   have hKF:KeepsFrom (w.heap.size+4) W w3:=⟨BA.size,fun k o _ hk _=>(BA.block k (Array.getElem?_eq_some_iff.1 hk).1).trans hk⟩
   have hKT:il w.heap.size W w3:=il.of BA
   have Tp:w3.heap[w.heap.size+1]? = _:=(BA.block _ bA1.lt).trans bA1
   have Tq:=(BA.block _ (Array.getElem?_eq_some_iff.1 bT1).1).trans bT1
   by_cases jN:0<gT s (aJ l x0).aV x2 (aJ l x1).aV
   ·have xx:nP s l (pre++[⟨(x0,x1,x2),CP,I6,yG⟩])=nP s l pre++[⟨x0,x1,gT s (aJ l x0).aV x2 (aJ l x1).aV⟩]:=by
     rw[yf];simp only[zw,if_pos jN]
    gi_wp2_with (gi_at_builtin;refine wpListIn_append_own _ rfl _ _ 226 rfl w.heap.size 246 i0 (.agg #[.int .i64 0,.int .i64 0,.int .i64 0]) 3 24 (by kernel_rfl) hi HC AR lI rfl (by decide) _ _ _ rfl (Fh.alloc _) ⟨w3.heap.size,0,none⟩ 1 1 [.int .i64 (x0:Int),.int .i64 (x1:Int),.int .i64 (gT s (aJ l x0).aV x2 (aJ l x1).aV)] rfl rfl (vL _ _ _ _ _) (by simp[Value.oneCell']) (by unfold maxLen;omega) (by omega) (by simp;omega) ?_;intro v' w4 MV Fa _;obtain⟨g',cap',rfl⟩:=ownsRow_succ MV;obtain⟨wq,KO,Dz,wi,Gh⟩:=SV.appended (by decide) Fh hn3 (by omega) MV Fa;have Lt:=il.app SV Fh Fa Gh;have qd:=wq.cell;have hf1:=wq.frozen)
    exact⟨hKF.trans (wi.from _),hKT.trans Lt,⟨⟨_,KO,by rw[xx,HY,List.length_append];exact Dz,by rw[xx];simp⟩,(Lt.2.1 _ _ _ _ Tp (by decide) (by decide)).trans Tp,(Lt.2.1 _ _ _ _ Tq (by decide) (by decide)).trans Tq⟩,hB.trans ((BA.mono hB.size).trans Gh)⟩
   ·have xx:nP s l (pre++[⟨(x0,x1,x2),CP,I6,yG⟩])=nP s l pre:=by
     rw[yf];simp only[zw,if_neg jN,List.append_nil]
    gi_wp2
    exact⟨hKF,hKT,⟨⟨v,SV,by rw[xx];exact Fh,by rw[xx];exact hnil⟩,Tp,Tq⟩,hB.trans (BA.mono hB.size)⟩
 case done=>
  rintro D ys W hD Fm ⟨⟨⟨v,hv,fQ,hnil⟩,_⟩,hB⟩ hK
  have hc:=hv.cell
  have KD:nP s l ys=cJ s l:=by rw[H6,<-Fm];rfl
  rw[KD]at fQ hnil
  gi_wp2
  refine⟨by simp,.inl ⟨_,_,rfl,run_takeDeferred hK,?_⟩⟩
  exact⟨_,results_tmp rfl _ _ _,v,rfl,ownsRow_putObj fQ _ hK rfl,hnil,hB.trans (belowK_b (w:=w) (Nat.le_refl _) W D _ _ (by omega) hK rfl rfl)⟩
 case stop=>
  rintro D c pre W _ _ h _
  exact h.elim
end Go.Proofs.YtgoelphibofcmaaGreat.V

namespace Go.Proofs.YtgoelphibofcmaaGreat.V
open Go.RowKit Go.Shelf
theorem EM:∀{bs:List PB} {i j:Nat} {b:PB},bs[i]? =some b->j<3->(KY bs)[i*3+j]? =([.int .i64 b.a,.int .i64 b.b,.int .i64 b.s]:List Value)[j]?
 |c::bs,0,j,b,h,hj=>by
  simp at h;subst h
  simp only[KY,List.flatMap_cons,Nat.zero_mul,Nat.zero_add]
  rw[List.getElem?_append_left (by simpa using hj)]
 |c::bs,i+1,j,b,h,hj=>by
  simp only[List.getElem?_cons_succ]at h
  have:=EM (bs:=bs) (i:=i) (j:=j) h hj
  simp only[KY,List.flatMap_cons]at this ⊢
  rw[List.getElem?_append_right (by simp;omega),<-this]
  congr 1
  simp;omega
theorem rO {P:Program} {w:World} {D:Nat->Prop} {rows:List (List AV)} {v:Value} (h:jF P w D (.sl rows) v):∃A n c,v=.slice A n c:=by
 cases h with
 |AU a c _=>exact⟨_,_,_,rfl⟩
 |sl=>exact⟨_,_,_,rfl⟩
theorem qS {P:Program} {w:World} {D:Nat->Prop} {ι:Names} {rows:List (List AV)} {v:Value} (h:cI P w D ι (.sl rows) v):jF P w D (.sl rows) v:=by
 cases h with
 |eM _ _ h=>exact h
theorem Mb {P:Program} {w:World} {D:Nat->Prop} {l:List ad} {v:Value} (h:jF P w D (.sl (l.map aa)) v):pS w v l:=by
 generalize hr:l.map aa=rows at h
 cases h with
 |AU a c hc=>
  have:l=[]:=by simpa using hr
  subst this
  exact⟨a,c,rfl,⟨Nat.zero_le _,hc⟩,.inl rfl⟩
 |sl _ b o n c sz vs h1 h2 h3 h4 h5 h5' h6 h7=>
  have hn:n=l.length:=by rw[<-h1,<-hr];simp
  subst hn
  refine⟨some ⟨b,o,none⟩,c,rfl,⟨h2,h3⟩,?_⟩
  by_cases hl:l=[]
  ·exact .inl hl
  refine .inr ⟨b,o,rfl,fun i hi=>?_⟩
  have hg:rows[i]? =some (aa (aJ l i)):=by rw[<-hr];exact fw hi
  have fj:sz=3:=by rw[<-h5 _ (List.mem_of_getElem? hg)];rfl
  subst fj
  have k:∀(j:Nat) (x:Int),(aa (aJ l i))[j]? =some (.int .i64 x)->j<3->w.cell? ⟨b,o+(i*3+j),none⟩=some (.int .i64 x):=fun j x hj h3=>by
   have:=h7 i j _ _ hg hj
   rw[h6 i j hi h3,dq (.eM (ι:=fun _=>none) _ _ this)]
  exact⟨k 0 _ rfl (by omega),k 1 _ rfl (by omega),k 2 _ rfl (by omega)⟩
theorem NA:CR:=by
 intro s l hS hA n
 refine gN ?_
 intro hs D ι w vs S U A
 obtain⟨u0,SS,r0⟩:=A.2 0 _ rfl
 obtain⟨u1,Ri,r1⟩:=A.2 1 _ rfl
 have dS:∀b,D b->b<w.heap.size:=S.dead
 obtain⟨v0,f0,rfl,HC,_,SD,UR⟩:=iP r0
 obtain⟨v1,f1,rfl,AR,_,hf1,Ov⟩:=iP r1
 have g0:=qS (UR 0 _ rfl)
 have g1:=qS (UR 1 _ rfl)
 have a0:=qS (Ov 0 _ rfl)
 obtain⟨Ag,ng,cg,eg⟩:=rO g0
 obtain⟨At,nt,ct,et⟩:=rO g1
 have e0:v0= #[.slice Ag ng cg,.slice At nt ct]:=by
  obtain⟨vl⟩:=v0
  have q0:=SD 0 (by simp[ab])
  have q1:=SD 1 (by simp[ab])
  rw[eg]at q0;rw[et]at q1
  match vl,HC with
  |[a,b],_=>simp at q0 q1;rw[q0,q1]
 have e1:v1= #[f1 0]:=by
  obtain⟨vl⟩:=v1
  have q0:=hf1 0 (by simp)
  match vl,AR with
  |[a],_=>simp at q0;rw[q0]
 subst e0 e1
 have evs:vs= #[.agg #[.slice Ag ng cg,.slice At nt ct],.agg #[f1 0]]:=by
  obtain⟨vl⟩:=vs
  have hz:=A.1
  match vl,hz with
  |[a,b],_=>simp at SS Ri;rw[SS,Ri]
 subst evs
 have up:∀{a v},jF Tryz.prog w D a v->jF Tryz.prog w (fun b=>b<w.heap.size) a v:=fun h=>h.frame (fun _ _=>rfl) dS
 have hT:jF Tryz.prog w (fun b=>b<w.heap.size) (.agg (ab s)) (.agg #[.slice Ag ng cg,.slice At nt ct]):=
  .agg _ _ f0 HC (fun a ha=>by simp[ab]at ha;rcases ha with rfl|rfl<;>rfl) SD (fun j a ha=>by
   match j,ha with
   |0,ha=>simp[ab]at ha;subst ha;exact up g0
   |1,ha=>simp[ab]at ha;subst ha;exact up g1
   |j+2,ha=>simp[ab]at ha)
 refine(callsIn_wide.1 (H5 s l hS.form hA w Ag At ng cg nt ct (f1 0) hT (Mb a0))).mono ?_
 rintro e W' ⟨v,rfl,⟨hl,hown⟩,hnil,hB⟩
 have S':gw Tryz.prog hs D ι (fun _=>none) W':=S.stay (fun b hb=>hB.block b hb) hB.size (fun _ h=>h) (fun b hb=>Nat.lt_of_lt_of_le (dS b hb) hB.size) (fun _ h=>.inl h) (fun _ _ h=>h)
 have T:Step hs D ι w D ι W':=Step.stay S (fun b hb=>hB.block b hb) hB.size hB.os hB.tape hB.output (fun _ h=>h) (fun _ h=>.inl h) (fun _ _ h=>h)
 rcases hown with⟨rfl,h0⟩|⟨gb,cap,cur,rfl,QW,hblk,hle,IA,du,nV⟩
 ·have QF:cJ s l=[]:=hnil.1 rfl
  exact⟨.cm,_,n,D,ι,_,rfl,⟨.cm,j6 _ _,by rw[QF];rfl⟩,T,S',U,Nat.le_refl _,.eM _ _ .cm⟩
 ·have QF:cJ s l≠[]:=fun h=>by have:=hnil.2 h;cases this
  have jA:ι ⟨0,n⟩=none:=fresh U (fun h=>h)
  have gL:∀{a v},cI Tryz.prog W' D ι a v->cI Tryz.prog W' D (kE ι ⟨0,n⟩ ⟨gb,3,cap*3,none⟩) a v:=fun h=>h.frame (fun _ _=>rfl) (fun _ h=>h) (e9 jA)
  have hR:gM Tryz.prog W' D (kE ι ⟨0,n⟩ ⟨gb,3,cap*3,none⟩) ⟨gb,3,cap*3,none⟩ ⟨true,3,(cJ s l).map ay⟩:=by
   refine lv.obj ⟨rfl,⟨cur,_,hblk,du⟩,?_,fun cs hc=>?_,fun cs hc a ha=>?_,fun i j cs a hi hj=>?_⟩ rfl
   ·simp only[List.length_map];exact Nat.mul_le_mul_right 3 hle
   ·obtain⟨b,_,rfl⟩:=List.mem_map.1 hc;rfl
   ·obtain⟨b,_,rfl⟩:=List.mem_map.1 hc
    simp[ay]at ha
    rcases ha with rfl|rfl|rfl<;>rfl
   ·rw[List.getElem?_map]at hi
    simp only[Option.map_eq_some_iff]at hi
    obtain⟨b,hb,rfl⟩:=hi
    have hj3:j<3:=by have:=(List.getElem?_eq_some_iff.1 hj).1;simpa[ay]using this
    have lE:=(List.getElem?_eq_some_iff.1 hb).1
    have hg:=EM hb hj3
    rw[<-nV,List.getElem?_take,if_pos (by omega)]at hg
    have key:∀x:Value,([.int .i64 b.a,.int .i64 b.b,.int .i64 b.s]:List Value)[j]? =some x->W'.cell? ⟨gb,i*3+j,none⟩=some x:=fun x hx=>by
     rw[hx]at hg
     have e:W'.cell? ⟨gb,i*3+j,none⟩=cur[i*3+j]? :=by
      unfold World.cell?
      rw[show W'.heap[(⟨gb,i*3+j,none⟩:Addr).block]? = _ from hblk]
      rfl
     rw[e,<-Array.getElem?_toList];exact hg
    match j,hj with
    |0,hj=>simp[ay]at hj;subst hj;exact⟨_,key _ rfl,.eM _ _ (.int _ _)⟩
    |1,hj=>simp[ay]at hj;subst hj;exact⟨_,key _ rfl,.eM _ _ (.int _ _)⟩
    |2,hj=>simp[ay]at hj;subst hj;exact⟨_,key _ rfl,.eM _ _ (.int _ _)⟩
    |j+3,hj=>simp[ay]at hj
  have S2:=gw.add (r:=⟨true,3,(cJ s l).map ay⟩) S S' jA QW hR
  refine⟨.own ⟨0,n⟩ 0 (cJ s l).length,bq (fun _=>none) ⟨0,n⟩ ⟨true,3,(cJ s l).map ay⟩,n+1,D,kE ι ⟨0,n⟩ ⟨gb,3,cap*3,none⟩,_,rfl,⟨Ap (cJ s l),?_,rfl⟩,T.trans (Step.stay S' (fun _ _=>rfl) (Nat.le_refl _) rfl rfl rfl (fun _ h=>h) (fun _ h=>.inl h) (e9 jA)),S2,U.upd.next,Nat.le_succ _,.own _ _ _ _ _ _ (dX _ _ _) rfl hle (.inr (by simp)) (by simp) IA⟩
  unfold Ap
  rw[if_neg QF]
  have hg:(bq (fun _=>none) (⟨0,n⟩:Id) ⟨true,3,(cJ s l).map ay⟩:Rows) ⟨0,n⟩=some ⟨true,3,(cJ s l).map ay⟩:=by simp[bq]
  have:=fc (n:=5) hg rfl fun b=>uI _ 4 b
  simpa using this
end Go.Proofs.YtgoelphibofcmaaGreat.V

namespace Go.Proofs.YtgoelphibofcmaaGreat.V
open Go.RowKit
attribute [local irreducible] dG wpOps gy Call
attribute [local go_sem] aM fF eP ga fW cQ upd cz K.av cR AV.cells AV.cell rowOf rowsOf part ld rowAt bq cu dD ee ik bJ dh ev fU eX dr ej dd dc dQ dR bQ bf cW bP cY cX eh ek ei cV cj de ef bK aO da cG ij bw cK bU aY dn aZ dE AV.undef bD bG dV ec dM dK cH eu ew cF ep eo cZ db List.getD_cons_zero List.getD_cons_succ List.getD_nil List.all_cons List.all_nil Bool.and_true Bool.true_and Bool.and_self Bool.not_true Bool.not_false Option.map_some Option.map_none Option.bind_some Option.bind_none List.length_cons List.length_nil List.take_succ_cons List.take_zero List.take_nil List.drop_succ_cons List.drop_zero List.drop_nil List.head?_cons List.map_cons List.map_nil List.getElem?_cons_zero List.getElem?_cons_succ List.cons_append List.nil_append List.append_nil List.length_map List.set_cons_zero List.set_cons_succ Nat.reduceMul eq_self Int.toNat_natCast Int.natCast_nonneg and_self true_and and_true decide_true decide_false Bool.false_eq_true Nat.zero_add Nat.add_zero List.contains_cons List.contains_nil Bool.or_false Bool.false_or beq_self_eq_true Nat.reduceBEq ne_eq not_true_eq_false not_false_eq_true Id.mk.injEq false_and and_false Nat.reduceLT Int.reduceLE Int.reduceLT Int.reduceToNat Int.reduceNeg Int.reduceAdd Nat.le_refl List.length_append beq_true beq_false Bool.not_eq_eq_eq_not or_false false_or dL ai aj aH bl bB cw aX bd aU bh cU bH
theorem L3 (lb:List ad) (hb:jE lb) (t:ad):aq Tryz.prog 168 [.agg (aa t),.di [.sl (lb.map aa)]] (.bool (!decide (gC lb t.aQ=t.aV))):=by
 refine aq.body eC rfl fun hl n0=>?_
 clear hl
 have h:=To lb t.aQ hb.G3 (by have:=hb.sD;omega)
 (repeat(first|((repeat(revert hN;revert N;apply Pn.out));refine wk (tw @aa.eq_1 @ae.eq_1) ?_;(repeat(refine Pn.mk ?_;intro N hN)))|((try apply Or.inl);refine⟨_,aq.x (h) (sd (tw @aa.eq_1 @ae.eq_1)),?_⟩;refine hN _ _ ?_;clear hN N)))
 exact aT (b:= !decide (gC lb t.aQ=t.aV)) (.inl rfl) (sd @Nat.zero_add) (by simp)
theorem CX (la lb:List ad) (ha:jE la) (hb:jE lb):aq Tryz.prog 107 [.agg [.sl (la.map aa)],.agg [.sl (lb.map aa)]] (.bool (iR la lb)):=by
 refine aq.body eC rfl fun hl n0=>?_
 clear hl
 have h1:=sU la
 have h2:=sU lb
 rw[sR.2 ha]at h1
 rw[sR.2 hb]at h2
 have h3:aq Tryz.prog 166 [.sl (la.map aa),.fn 168 [.di [.sl (lb.map aa)]]] (.bool (la.any fun t=> !decide (gC lb t.aQ=t.aV))):=
  kJ vO (show mi Tryz.prog 166=some (zM 166 202) by kernel_rfl)
   (show mi Tryz.prog 202=some (s8 202 3 true) by kernel_rfl) la (by have:=ha.sD;omega) _ _ _ rfl (fun g=>by rw[ai,aU,aj];rfl) (fun x _=>L3 lb hb x) fun g=>by rw[ai,aU,aj];rfl
 (repeat(first|((repeat(revert hN;revert N;apply Pn.out));refine wk @Nat.zero_add ?_;(repeat(refine Pn.mk ?_;intro N hN)))|((try apply Or.inl);refine⟨_,aq.x (h1) (sd @Nat.zero_add),?_⟩;refine hN _ _ ?_;clear hN N)|((try apply Or.inl);refine⟨_,aq.x (h2) (sd @Nat.zero_add),?_⟩;refine hN _ _ ?_;clear hN N)|((try apply Or.inl);refine⟨_,aq.x (h3) (sd @Nat.zero_add),?_⟩;refine hN _ _ ?_;clear hN N)))
 exact aT (b:= !(la.any fun t=> !decide (gC lb t.aQ=t.aV))) (.inl rfl) (sd @Nat.zero_add) (by rw[EK];rfl)
theorem zJ (s:aA) (l:List ad) (hn:fX s.aE) (hm:rh s) (hl:l.length<=1048576):aq Tryz.prog 63 [.agg (aw s),.agg [.sl (l.map aa)]] (.int .i64 (if rl s l then 0 else 1)):=by
 refine aq.body eC rfl fun ml n0=>?_
 clear ml
 have h1:=xG NA s hn hm.s.g hm.s.t hm.s.s hm.a
 have h2:=nB s.aE l hn hm.s.g hm.s.t hm.s.s hl
 cases b1:nu s
 ·rw[b1]at h1
  rw[aw]at h1 ⊢
  (repeat(first|((repeat(revert hN;revert N;apply Pn.out));refine wk @Nat.zero_add ?_;(repeat(refine Pn.mk ?_;intro N hN)))|((try apply Or.inl);refine⟨_,aq.x (h1) (sd @Nat.zero_add),?_⟩;refine hN _ _ ?_;clear hN N)))
  exact b4 (b:=1) (.inl rfl) (sd @Nat.zero_add) (by simp[rl,b1])
 have eJ:qT s.aE=true:=mE.2 (xj.1 b1).set
 rw[b1]at h1
 rw[eJ,Bool.true_and]at h2
 rw[aw]at h1 ⊢
 rw[ab]at h2
 cases b2:pT s.aE l
 ·rw[b2]at h2
  (repeat(first|((repeat(revert hN;revert N;apply Pn.out));refine wk @Nat.zero_add ?_;(repeat(refine Pn.mk ?_;intro N hN)))|((try apply Or.inl);refine⟨_,aq.x (h1) (sd @Nat.zero_add),?_⟩;refine hN _ _ ?_;clear hN N)|((try apply Or.inl);refine⟨_,aq.x (h2) (sd @Nat.zero_add),?_⟩;refine hN _ _ ?_;clear hN N)))
  exact b4 (b:=1) (.inl rfl) (sd @Nat.zero_add) (by simp[rl,b1,b2])
 ·rw[b2]at h2
  (repeat(first|((repeat(revert hN;revert N;apply Pn.out));refine wk @Nat.zero_add ?_;(repeat(refine Pn.mk ?_;intro N hN)))|((try apply Or.inl);refine⟨_,aq.x (h1) (sd @Nat.zero_add),?_⟩;refine hN _ _ ?_;clear hN N)|((try apply Or.inl);refine⟨_,aq.x (h2) (sd @Nat.zero_add),?_⟩;refine hN _ _ ?_;clear hN N)))
  exact b4 (b:=0) (.inl rfl) (sd @Nat.zero_add) (by simp[rl,b1,b2])
theorem zT (s:aA) (l:List ad) (hn:fX s.aE) (hm:rh s) (hl:l.length<=1048576):aq Tryz.prog 69 [.agg (aw s),.agg [.sl (l.map aa)]] (.int .i64 (jd s l)):=by
 refine aq.body eC rfl fun ml n0=>?_
 clear ml
 have h1:=zJ s l hn hm hl
 cases b:rl s l
 ·rw[b]at h1
  rw[aw]at h1 ⊢
  (repeat(first|((repeat(revert hN;revert N;apply Pn.out));refine wk @Nat.zero_add ?_;(repeat(refine Pn.mk ?_;intro N hN)))|((try apply Or.inl);refine⟨_,aq.x (h1) (sd @Nat.zero_add),?_⟩;refine hN _ _ ?_;clear hN N)))
  exact b4 (b:=1) (.inl rfl) (sd @Nat.zero_add) (by simp[jd,b])
 obtain⟨hP,hA⟩:=rm.1 b
 have h2:=CX s.bc.ah l hP.Al.1 hA.1
 rw[b]at h1
 rw[aw]at h1 ⊢
 cases b2:iR s.bc.ah l
 ·rw[b2]at h2
  (repeat(first|((repeat(revert hN;revert N;apply Pn.out));refine wk @Nat.zero_add ?_;(repeat(refine Pn.mk ?_;intro N hN)))|((try apply Or.inl);refine⟨_,aq.x (h1) (sd @Nat.zero_add),?_⟩;refine hN _ _ ?_;clear hN N)|((try apply Or.inl);refine⟨_,aq.x (h2) (sd @Nat.zero_add),?_⟩;refine hN _ _ ?_;clear hN N)))
  exact b4 (b:=2) (.inl rfl) (sd @Nat.zero_add) (by simp[jd,b,b2])
 ·rw[b2]at h2
  (repeat(first|((repeat(revert hN;revert N;apply Pn.out));refine wk @Nat.zero_add ?_;(repeat(refine Pn.mk ?_;intro N hN)))|((try apply Or.inl);refine⟨_,aq.x (h1) (sd @Nat.zero_add),?_⟩;refine hN _ _ ?_;clear hN N)|((try apply Or.inl);refine⟨_,aq.x (h2) (sd @Nat.zero_add),?_⟩;refine hN _ _ ?_;clear hN N)))
  exact b4 (b:=0) (.inl rfl) (sd @Nat.zero_add) (by simp[jd,b,b2])
end Go.Proofs.YtgoelphibofcmaaGreat.V

namespace Go.Proofs.YtgoelphibofcmaaGreat.V
open Go.RowKit
attribute [local irreducible] dG wpOps gy Call
attribute [local go_sem] aM fF eP ga fW cQ upd cz K.av cR AV.cells AV.cell rowOf rowsOf part ld rowAt bq cu dD ee ik bJ dh ev fU eX dr ej dd dc dQ dR bQ bf cW bP cY cX eh ek ei cV cj de ef bK aO da cG ij bw cK bU aY dn aZ dE AV.undef bD bG dV ec dM dK cH eu ew cF ep eo cZ db List.getD_cons_zero List.getD_cons_succ List.getD_nil List.all_cons List.all_nil Bool.and_true Bool.true_and Bool.and_self Bool.not_true Bool.not_false Option.map_some Option.map_none Option.bind_some Option.bind_none List.length_cons List.length_nil List.take_succ_cons List.take_zero List.take_nil List.drop_succ_cons List.drop_zero List.drop_nil List.head?_cons List.map_cons List.map_nil List.getElem?_cons_zero List.getElem?_cons_succ List.cons_append List.nil_append List.append_nil List.length_map List.set_cons_zero List.set_cons_succ Nat.reduceMul eq_self Int.toNat_natCast Int.natCast_nonneg and_self true_and and_true decide_true decide_false Bool.false_eq_true Nat.zero_add Nat.add_zero List.contains_cons List.contains_nil Bool.or_false Bool.false_or beq_self_eq_true Nat.reduceBEq ne_eq not_true_eq_false not_false_eq_true Id.mk.injEq false_and and_false Nat.reduceLT Int.reduceLE Int.reduceLT Int.reduceToNat Int.reduceNeg Int.reduceAdd Nat.le_refl List.length_append beq_true beq_false Bool.not_eq_eq_eq_not or_false false_or dL ai aj aH bl bB cw aX bd aU bh cU bH
theorem BS {s:aA} {l:List ad} (hA:jk s.aE l):∀(n:Nat) (st:iS),oj s l st->oj s l (wz s l n st)
 |0,st,h=>h
 |n+1,st,h=>by
  have h1:=(xp h hA l.length (Nat.le_refl _)).1
  rw[pw]at h1
  rw[wz]
  split
  ·exact h1
  ·exact BS hA n _ h1
theorem BR {s:aA} {l:List ad} (hP:vn s) (hA:jk s.aE l) (hW:iR s.bc.ah l=true):oj s l (kb s l):=BS hA _ _ (ta hP hA hW)
end Go.Proofs.YtgoelphibofcmaaGreat.V

namespace Go.Proofs.YtgoelphibofcmaaGreat.V
open Go.RowKit
attribute [local irreducible] dG wpOps gy Call
attribute [local go_sem] aM fF eP ga fW cQ upd cz K.av cR AV.cells AV.cell rowOf rowsOf part ld rowAt bq cu dD ee ik bJ dh ev fU eX dr ej dd dc dQ dR bQ bf cW bP cY cX eh ek ei cV cj de ef bK aO da cG ij bw cK bU aY dn aZ dE AV.undef bD bG dV ec dM dK cH eu ew cF ep eo cZ db List.getD_cons_zero List.getD_cons_succ List.getD_nil List.all_cons List.all_nil Bool.and_true Bool.true_and Bool.and_self Bool.not_true Bool.not_false Option.map_some Option.map_none Option.bind_some Option.bind_none List.length_cons List.length_nil List.take_succ_cons List.take_zero List.take_nil List.drop_succ_cons List.drop_zero List.drop_nil List.head?_cons List.map_cons List.map_nil List.getElem?_cons_zero List.getElem?_cons_succ List.cons_append List.nil_append List.append_nil List.length_map List.set_cons_zero List.set_cons_succ Nat.reduceMul eq_self Int.toNat_natCast Int.natCast_nonneg and_self true_and and_true decide_true decide_false Bool.false_eq_true Nat.zero_add Nat.add_zero List.contains_cons List.contains_nil Bool.or_false Bool.false_or beq_self_eq_true Nat.reduceBEq ne_eq not_true_eq_false not_false_eq_true Id.mk.injEq false_and and_false Nat.reduceLT Int.reduceLE Int.reduceLT Int.reduceToNat Int.reduceNeg Int.reduceAdd Nat.le_refl List.length_append beq_true beq_false Bool.not_eq_eq_eq_not or_false false_or dL ai aj aH bl bB cw aX bd aU bh cU bH
noncomputable def kM (s:aA) (l:List ad):List ad×Int:=if jd s l=0 then((kb s l).2,0)else([],jd s l)
def vh (P:Program) (f:Nat) (args:List AV) (L:List ad) (c:Int):Prop:=
 ∀n:Nat,Call P f args ⟨fun _=>none,n⟩ (fun r σ'=>∃v ids,r=.gJ [.agg [v],.int .i64 c]/\pR aa 3 σ'.get v L ids/\gp n σ'.next ids)
theorem zm (s:aA) (l:List ad) (hn:fX s.aE) (hg:s.aE.ax.length<=1048576) (ht:s.aE.ah.length<=1048576):∃w,iJ aa (kM s l).1 w/\kn Tryz.prog 35 [.agg (aw s),.agg [.sl (l.map aa)]] (.gJ [.agg [w],.int .i64 (kM s l).2]):=by
 have h1:=GH s l hn hg ht
 by_cases h0:jd s l=0
 ·obtain⟨hP,hA,hW⟩:=th.1 h0
  have h2:=B5 s hP l hA hW
  have hr:kM s l=((kb s l).2,0):=by rw[kM,if_pos h0]
  rw[h0]at h1
  rw[hr]
  refine⟨_,.inr rfl,?_⟩
  refine kn.body eC rfl fun ml σ=>?_
  clear ml
  generalize (kb s l).1=L at h2
  generalize (kb s l).2=M at h2 ⊢
  rw[aw]at h1 h2 ⊢
  (repeat(first|((repeat(revert hN;revert N;apply Pn.out));refine wk @Nat.zero_add ?_;(repeat(refine Pn.mk ?_;intro N hN)))|((try apply Or.inl);refine⟨_,aq.x (h1) (sd @Nat.zero_add),?_⟩;refine hN _ _ ?_;clear hN N)|((try apply Or.inl);refine⟨_,aq.x (h2) (sd @Nat.zero_add),?_⟩;refine hN _ _ ?_;clear hN N)))
  exact Aj (.inl rfl) (vs:=[.agg [.sl (M.map aa)],.int .i64 0]) (sd @Nat.zero_add) (by simp only[fq,bH,bd,ai,aj,cw,aH,Option.map_some])
 ·have hr:kM s l=([],jd s l):=by rw[kM,if_neg h0]
  rw[hr]
  refine⟨.cm,.inl ⟨rfl,rfl⟩,?_⟩
  refine kn.body eC rfl fun ml σ=>?_
  clear ml
  have hd:decide (jd s l=0)=false:=decide_eq_false h0
  rw[aw]at h1 ⊢
  (repeat(first|((repeat(revert hN;revert N;apply Pn.out));refine wk @hd ?_;(repeat(refine Pn.mk ?_;intro N hN)))|((try apply Or.inl);refine⟨_,aq.x (h1) (sd @hd),?_⟩;refine hN _ _ ?_;clear hN N)))
  exact Aj (.inl rfl) (vs:=[.agg [.cm],.int .i64 (jd s l)]) (sd @Nat.zero_add) (by simp only[fq,bH,bd,ai,aj,aX,aH,Option.map_some])
theorem zl (s:aA) (l:List ad) (hn:fX s.aE) (hm:rh s) (hl:l.length<=1048576):vh Tryz.prog 36 [.agg (aw s),.agg [.sl (l.map aa)]] (kM s l).1 (kM s l).2:=by
 intro n0
 have h1:=zT s l hn hm hl
 by_cases h0:jd s l=0
 ·obtain⟨hP,hA,hW⟩:=th.1 h0
  have hc:=fun σ=>I8 s hP l hA hW σ
  have fh:=BR hP hA hW
  have jN:0<(kb s l).2.length:=by have:=fh.len;have:=hP.some;omega
  have hr:kM s l=((kb s l).2,0):=by rw[kM,if_pos h0]
  rw[h0]at h1
  rw[hr]
  refine eU eC rfl fun ml=>?_
  clear ml
  rw[aw]at h1 hc ⊢
  (repeat(first|((repeat(revert hN;revert N;apply Pn.out));refine wk @Nat.zero_add ?_;(repeat(refine Pn.mk ?_;intro N hN)))|((try apply Or.inl);refine⟨_,aq.x (h1) (sd @Nat.zero_add),?_⟩;refine hN _ _ ?_;clear hN N)))
  refine .inr (aI _ _ _ _ _ (fun r σ1 hq=>?_) (hc _))
  obtain⟨g1,x1⟩:=σ1
  obtain⟨v,o,rfl,hv,ho,ho2,ho3,jA⟩:=hq
  (try dsimp only at hv ho ho2 ho3 jA)
  have k4:=jA ⟨36000002,n0⟩ (by(try dsimp only);omega)
  simp only[go_sem, ↓reduceIte,Nat.reduceEqDiff,Nat.reduceAdd,Nat.reduceSub,Nat.reduceLeDiff,reduceCtorEq]at k4
  have vo:=dp ho3
  have v4:=dp (i:=⟨36000002,n0⟩) (n:=x1) (by(try dsimp only);omega)
  have o4:=cr (a:=⟨36000002,n0⟩) (b:=o) (by(try dsimp only);omega)
  refine hN _ _ ?_
  clear hN N
  (try((repeat(revert hN;revert N;apply Pn.out));refine wk (tw @k4 @v4) ?_;(repeat(refine Pn.mk ?_;intro N hN))))
  exact fx (.inl rfl) (vs:=[.agg [.own o 0 (kb s l).2.length],.int .i64 0]) (sd @v4) ⟨_,[o],rfl,.inr ⟨o,rfl,sd (tw @vo (tw @o4 @ho)),rfl,jN⟩,⟨List.nodup_cons.2 ⟨by simp,List.nodup_nil⟩,fun i hi=>by rw[List.mem_singleton.1 hi];(try dsimp only);omega⟩⟩
 ·have hd:decide (jd s l=0)=false:=decide_eq_false h0
  have hr:kM s l=([],jd s l):=by rw[kM,if_neg h0]
  rw[hr]
  refine eU eC rfl fun ml=>?_
  clear ml
  rw[aw]at h1 ⊢
  (repeat(first|((repeat(revert hN;revert N;apply Pn.out));refine wk @hd ?_;(repeat(refine Pn.mk ?_;intro N hN)))|((try apply Or.inl);refine⟨_,aq.x (h1) (sd @hd),?_⟩;refine hN _ _ ?_;clear hN N)))
  exact fx (.inl rfl) (vs:=[.agg [.cm],.int .i64 (jd s l)]) (sd @Nat.zero_add) ⟨.cm,[],rfl,.inl ⟨rfl,rfl,rfl⟩,⟨List.nodup_nil,fun i hi=>by cases hi⟩⟩
section
variable {P:Program} {L:List ad}
theorem FL (hm:P.follows .mixedOrders=true) {f:Nat} {args eE:List AV} {σ:ar} {c:Int} (h:vh P f eE L c) (hv:cN (dL σ.get) 6 args=some eE):
  Call P f args σ (fun r σ'=>∃v ids,r=.gJ [.agg [v],.int .i64 c]/\pR aa 3 σ'.get v L ids/\gp σ.next σ'.next ids/\Kept σ σ'):=by
 refine AW hm hv (aI _ _ _ _ _ (fun r σ' hq=>?_) (x7 hm (h σ.next)))
 obtain⟨⟨v,ids,rfl,ho,hi⟩,hn⟩:=hq
 refine⟨ids,?_,?_,v,ids,rfl,?_,hi,hn,fun j hj=>pP fun hc=>?_⟩
 ·rcases ho with⟨_,rfl,_⟩|⟨o,rfl,_⟩<;>rfl
 ·rcases ho with⟨_,_,rfl⟩|⟨o,_,h2,rfl,_⟩
  ·intro i hi;cases hi
  ·intro i hi
   rw[List.mem_singleton.1 hi]
   refine⟨_,h2,rfl,fun cs du a ha=>?_⟩
   obtain⟨x,_,rfl⟩:=List.mem_map.1 du
   simp[aa]at ha
   rcases ha with rfl|rfl|rfl<;>rfl
 ·exact ho.frame fun i hi=>sj hi
 ·have:=(hi.2 j hc).1;omega
theorem vh.s {f:Nat} {args:List AV} {c:Int} (h:vh P f args L c):aq P f args (.gJ [.agg [OP aa L],.int .i64 c]):=fun n=>
 aI _ _ _ _ _ (fun r σ' hq=>by
  obtain⟨v,ids,rfl,ho,hi⟩:=hq
  rcases ho with⟨rfl,rfl,_⟩|⟨o,rfl,h2,_,hp⟩
  ·exact⟨_,by simp only[eR,bz,cD,uJ,j6,eK,Option.map_some];rfl,rfl⟩
  ·have:=fc (e:=aa) (n:=3) h2 rfl fun x=>Iu _ 2 x
   exact⟨_,by simp only[eR,bz,cD,uJ,this,eK,Option.map_some];rfl,by rw[OP,if_neg (by omega)]⟩) (h n)
end
end Go.Proofs.YtgoelphibofcmaaGreat.V

namespace Go.Proofs.YtgoelphibofcmaaGreat.V
open Go.RowKit
attribute [local irreducible] dG wpOps gy Call
attribute [local go_sem] aM fF eP ga fW cQ upd cz K.av cR AV.cells AV.cell rowOf rowsOf part ld rowAt bq cu dD ee ik bJ dh ev fU eX dr ej dd dc dQ dR bQ bf cW bP cY cX eh ek ei cV cj de ef bK aO da cG ij bw cK bU aY dn aZ dE AV.undef bD bG dV ec dM dK cH eu ew cF ep eo cZ db List.getD_cons_zero List.getD_cons_succ List.getD_nil List.all_cons List.all_nil Bool.and_true Bool.true_and Bool.and_self Bool.not_true Bool.not_false Option.map_some Option.map_none Option.bind_some Option.bind_none List.length_cons List.length_nil List.take_succ_cons List.take_zero List.take_nil List.drop_succ_cons List.drop_zero List.drop_nil List.head?_cons List.map_cons List.map_nil List.getElem?_cons_zero List.getElem?_cons_succ List.cons_append List.nil_append List.append_nil List.length_map List.set_cons_zero List.set_cons_succ Nat.reduceMul eq_self Int.toNat_natCast Int.natCast_nonneg and_self true_and and_true decide_true decide_false Bool.false_eq_true Nat.zero_add Nat.add_zero List.contains_cons List.contains_nil Bool.or_false Bool.false_or beq_self_eq_true Nat.reduceBEq ne_eq not_true_eq_false not_false_eq_true Id.mk.injEq false_and and_false Nat.reduceLT Int.reduceLE Int.reduceLT Int.reduceToNat Int.reduceNeg Int.reduceAdd Nat.le_refl List.length_append beq_true beq_false Bool.not_eq_eq_eq_not or_false false_or dL ai aj aH bl bB cw aX bd aU bh cU bH
theorem iJ.cell {α:Type} {e:α->List AV} {L:List α} {w:AV} (h:iJ e L w):w.cells=[w]/\w.cell=true:=by
 rcases h with⟨rfl,rfl⟩|rfl<;>exact⟨rfl,rfl⟩
theorem pR.cell {α:Type} {e:α->List AV} {z:Nat} {g:Rows} {v:AV} {L:List α} {ids:List Id} (h:pR e z g v L ids):v.cells=[v]/\v.cell=true:=by
 rcases h with⟨_,rfl,_⟩|⟨o,rfl,_⟩<;>exact⟨rfl,rfl⟩
theorem lx {g:Rows} {v w:AV} (h:fz g 5 v=some w):fz g 6 (.agg [v])=some (.agg [w]):=by simp only[bd,ai,aj,h,Option.map_some]
theorem iJ.Ld {α:Type} {e:α->List AV} {L:List α} {w:AV} (h:iJ e L w) (g:Rows):V.fz g 5 w=some w:=by
 rcases h with⟨rfl,rfl⟩|rfl
 ·exact aX _ _
 ·exact cw _ _ _
theorem pR.Ld {α:Type} {e:α->List AV} {z:Nat} {g:Rows} {v:AV} {L:List α} {ids:List Id} (h:pR e z g v L ids) (he:∀x g,cN g 4 (e x)=some (e x)):∃w,V.fz (dL g) 5 v=some w/\iJ e L w:=by
 rcases h with⟨rfl,rfl,_⟩|⟨o,rfl,h2,_⟩
 ·exact⟨.cm,aX _ _,.inl ⟨rfl,rfl⟩⟩
 ·exact⟨_,gr (e:=e) (sz:=z) (by simp[dL,h2]) rfl fun x=>he x _,.inr rfl⟩
theorem Jh (Nx:aA->dP->List ad×Int)
  (Re:∀s a,fX s.aE->rh s->a.ah.length<=1048576->∃w,iJ aa (Nx s a).1 w/\kn Tryz.prog 35 [.agg (aw s),.agg (aP a)] (.gJ [.agg [w],.int .i64 (Nx s a).2]))
  (Q0:∀s a,fX s.aE->rh s->a.ah.length<=1048576->vh Tryz.prog 36 [.agg (aw s),.agg (aP a)] (Nx s a).1 (Nx s a).2)
  (hlen:∀s a,rh s->a.ah.length<=1048576->(Nx s a).1.length<=1152921504606846976)
  (s:aA) (a:dP) (hn:fX s.aE):aq Tryz.prog 7 [.agg (aw s),.agg (aP a)] (.bool true):=by
 refine aq.body eC rfl fun hl n0=>?_
 clear hl
 have h1:=Es s 1048576 (by omega) (by omega) hn
 by_cases hf:(xt s:Int)<=1048576
 ·rw[iC hf]at h1
  have kz:¬(1048576:Int)-(xt s:Int)<0:=by omega
  have h2:=sg a (1048576-xt s) (by omega) (by omega)
  by_cases hg:(a.ah.length:Int)<=1048576-xt s
  ·rw[iC hg]at h2
   have E9:¬(1048576:Int)-(xt s:Int)-(a.ah.length:Int)<0:=by omega
   have sm:=Hc (s:=s) (by omega)
   have am:a.ah.length<=1048576:=by omega
   have t1:=Ez s sm
   have t2:=sn a am
   obtain⟨w,hw,r1⟩:=Re s a hn sm am
   have r2:=Q0 s a hn sm am
   have q1:=Dc s
   have q2:=zD a
   have hL:=hlen s a sm am
   obtain⟨L,hLe⟩:∃L,(Nx s a).1=L:=⟨_,rfl⟩
   obtain⟨c,hc⟩:∃c,(Nx s a).2=c:=⟨_,rfl⟩
   rw[hc]at r1
   rw[hLe,hc]at r2
   rw[hLe]at hw hL
   have I6:=fun σ=>Ey s sm σ
   have Rp:=fun σ=>sk a am σ
   rw[aw]at I6
   rw[aP]at Rp
   have e2:decide (c=c)=true:=by simp
   rw[aw]at h1
   rw[aP]at h2
   (repeat(first|((repeat(revert hN;revert N;apply Pn.out));refine wk (tw @aw.eq_1 (tw @aP.eq_1 (tw @kz @E9))) ?_;(repeat(refine Pn.mk ?_;intro N hN)))|((try apply Or.inl);refine⟨_,aq.x (h1) (sd (tw @aw.eq_1 (tw @aP.eq_1 (tw @kz @E9)))),?_⟩;refine hN _ _ ?_;clear hN N)|((try apply Or.inl);refine⟨_,aq.x (h2) (sd (tw @aw.eq_1 (tw @aP.eq_1 (tw @kz @E9)))),?_⟩;refine hN _ _ ?_;clear hN N)))
   refine⟨_,kn.x (by rw[aw]at t1;exact t1) _,?_⟩
   refine hN _ _ ?_
   clear hN N
   (try((repeat(revert hN;revert N;apply Pn.out));refine wk @aP.eq_1 ?_;(repeat(refine Pn.mk ?_;intro N hN))))
   refine⟨_,kn.x (by rw[aP]at t2;exact t2) _,?_⟩
   refine hN _ _ ?_
   clear hN N
   (try((repeat(revert hN;revert N;apply Pn.out));refine wk @Nat.zero_add ?_;(repeat(refine Pn.mk ?_;intro N hN))))
   refine⟨_,kn.x (by rw[aw,aP]at r1;exact r1) _,?_⟩
   refine hN _ _ ?_
   clear hN N
   have od:=hw.cell.1
   have pr:=hw.cell.2
   unfold AV.cells at od
   unfold AV.cell at pr
   (try((repeat(revert hN;revert N;apply Pn.out));refine wk (tw @od @pr) ?_;(repeat(refine Pn.mk ?_;intro N hN))))
   refine .inr (aI _ _ _ _ _ (fun r σ1 hq=>?_) (I6 _))
   obtain⟨iX,hX,KB,PN⟩:=hq
   obtain⟨g1,x1⟩:=σ1
   (try dsimp only at hX KB PN)
   obtain⟨A,B,C,j1,j2,j3,rfl,hA,hB,hC,rfl⟩:=hX.ex
   obtain⟨oA,rfl⟩:=hA.kQ
   obtain⟨oB,rfl⟩:=hB.kQ
   obtain⟨oC,rfl⟩:=hC.kQ
   clear hA hB hC
   have nX:=PN.1
   have bX:=KB.2
   (try dsimp only at nX bX)
   have kA:=PN.2 ⟨7000000,n0⟩ (by(try dsimp only);omega)
   have kB:=PN.2 ⟨7000001,n0⟩ (by(try dsimp only);omega)
   have kW:=PN.2 ⟨7008008,n0+1+1+1+1+1+1⟩ (by(try dsimp only);omega)
   simp only[go_sem, ↓reduceIte,Nat.reduceEqDiff,Nat.reduceAdd,Nat.reduceSub,Nat.reduceLeDiff,reduceCtorEq]at kA kB kW
   refine hN _ _ ?_
   clear hN N
   (try((repeat(revert hN;revert N;apply Pn.out));refine wk (tw @kA (tw @kB @kW)) ?_;(repeat(refine Pn.mk ?_;intro N hN))))
   refine .inr (aI _ _ _ _ _ (fun r σ2 hq=>?_) (Rp _))
   obtain⟨iY,hY0,N4,MI⟩:=hq
   obtain⟨g2,x2⟩:=σ2
   (try dsimp only at hY0 N4 MI)
   obtain⟨D,rfl,hD⟩:=hY0
   obtain⟨oD,rfl⟩:=hD.kQ
   have hY:xD g2 (.agg [.own oD 0 a.ah.length]) a iY:=⟨_,rfl,hD⟩
   have nY:=MI.1
   have bY:=N4.2
   (try dsimp only at nY bY)
   have lA:=MI.2 ⟨7000000,n0⟩ (by(try dsimp only);omega)
   have lB:=MI.2 ⟨7000001,n0⟩ (by(try dsimp only);omega)
   have lX:=MI.2 ⟨7009002,x1⟩ (by(try dsimp only);omega)
   have vA:=dp (i:=⟨7000000,n0⟩) (n:=x1) (by(try dsimp only);omega)
   have vB:=dp (i:=⟨7000001,n0⟩) (n:=x1) (by(try dsimp only);omega)
   have lW:=MI.2 ⟨7008008,n0+1+1+1+1+1+1⟩ (by(try dsimp only);omega)
   have vW:=dp (i:=⟨7008008,n0+1+1+1+1+1+1⟩) (n:=x1) (by(try dsimp only);omega)
   simp only[go_sem, ↓reduceIte,Nat.reduceEqDiff,Nat.reduceAdd,Nat.reduceSub,Nat.reduceLeDiff,reduceCtorEq,kA,kB,kW,vA,vB,vW]at lA lB lX lW
   have TY:=hX.frame (g':=g2) fun i hi=>by
    have h3:=bX i hi
    have h4:=MI.2 i (by(try dsimp only);omega)
    have h5:=dp (i:=i) (n:=x1) (by omega)
    simp only[go_sem, ↓reduceIte,Nat.reduceEqDiff,Nat.reduceAdd,Nat.reduceSub,Nat.reduceLeDiff,reduceCtorEq,h5]at h4
    exact h4
   clear hX PN MI hD kA kB kW
   refine hN _ _ ?_
   clear hN N
   have uX:=dp (i:=⟨7009002,x1⟩) (n:=x2) (by(try dsimp only);omega)
   (try((repeat(revert hN;revert N;apply Pn.out));refine wk (tw @lA (tw @lB (tw @lX (tw @lW @uX)))) ?_;(repeat(refine Pn.mk ?_;intro N hN))))
   refine .inr (aI _ _ _ _ _ (fun r σ3 hq=>?_) (FL mixed r2 (Hd (TY.frame fun i hi=>by
    have h5:=dp (i:=i) (n:=x2) (by have:=bX i hi;omega)
    simp only[go_sem, ↓reduceIte,Nat.reduceEqDiff,Nat.reduceAdd,Nat.reduceSub,Nat.reduceLeDiff,reduceCtorEq,h5]) (hY.frame fun i hi=>by
    have h5:=dp (i:=i) (n:=x2) (by have:=bY i hi;omega)
    simp only[go_sem, ↓reduceIte,Nat.reduceEqDiff,Nat.reduceAdd,Nat.reduceSub,Nat.reduceLeDiff,reduceCtorEq,h5]))))
   obtain⟨v,iZ,rfl,hZ,PM,Lk⟩:=hq
   obtain⟨g3,x3⟩:=σ3
   (try dsimp only at hZ PM Lk)
   have nZ:=Lk.1
   have bZ:=PM.2
   (try dsimp only at nZ bZ)
   have wA:=dp (i:=⟨7000000,n0⟩) (n:=x2) (by(try dsimp only);omega)
   have wB:=dp (i:=⟨7000001,n0⟩) (n:=x2) (by(try dsimp only);omega)
   have mA:=Lk.2 ⟨7000000,n0⟩ (by(try dsimp only);omega)
   have mB:=Lk.2 ⟨7000001,n0⟩ (by(try dsimp only);omega)
   have mX:=Lk.2 ⟨7009002,x1⟩ (by(try dsimp only);omega)
   have mY:=Lk.2 ⟨7010002,x2⟩ (by(try dsimp only);omega)
   have mW:=Lk.2 ⟨7008008,n0+1+1+1+1+1+1⟩ (by(try dsimp only);omega)
   have wW:=dp (i:=⟨7008008,n0+1+1+1+1+1+1⟩) (n:=x2) (by(try dsimp only);omega)
   simp only[go_sem, ↓reduceIte,Nat.reduceEqDiff,Nat.reduceAdd,Nat.reduceSub,Nat.reduceLeDiff,reduceCtorEq,lA,lB,lX,lW,wA,wB,wW,uX]at mA mB mX mY mW
   have fr3:∀i:Id,i.ck<x2->g3 i=g2 i:=fun i hi=>by
    have h4:=Lk.2 i (by(try dsimp only);omega)
    have h5:=dp (i:=i) (n:=x2) hi
    simp only[go_sem, ↓reduceIte,Nat.reduceEqDiff,Nat.reduceAdd,Nat.reduceSub,Nat.reduceLeDiff,reduceCtorEq,h5]at h4
    exact h4
   have hX3:=TY.frame (g':=g3) fun i hi=>fr3 i (by have:=bX i hi;omega)
   have hY3:=hY.frame (g':=g3) fun i hi=>fr3 i (by have:=bY i hi;omega)
   clear TY hY Lk lA lB lX lW
   have wq:=hZ.cell.1
   have KO:=hZ.cell.2
   unfold AV.cells at wq
   unfold AV.cell at KO
   have Tw:∀i:Id,i.ck<x3->(bq (bq g3 ⟨7011006,x3⟩ ⟨true,1,[[.cm]]⟩) ⟨7011006,x3⟩ ⟨true,1,[[v]]⟩) i=g3 i:=fun i hi=>by
    have h5:=dp (i:=i) (n:=x3) hi
    simp only[go_sem, ↓reduceIte,Nat.reduceEqDiff,Nat.reduceAdd,Nat.reduceSub,Nat.reduceLeDiff,reduceCtorEq,h5]
   have T5:=hZ.frame (g':=(bq (bq g3 ⟨7011006,x3⟩ ⟨true,1,[[.cm]]⟩) ⟨7011006,x3⟩ ⟨true,1,[[v]]⟩)) fun i hi=>Tw i (bZ i hi).2
   have TZ:=hX3.frame (g':=(bq (bq g3 ⟨7011006,x3⟩ ⟨true,1,[[.cm]]⟩) ⟨7011006,x3⟩ ⟨true,1,[[v]]⟩)) fun i hi=>Tw i (by have:=bX i hi;omega)
   have N9:=hY3.frame (g':=(bq (bq g3 ⟨7011006,x3⟩ ⟨true,1,[[.cm]]⟩) ⟨7011006,x3⟩ ⟨true,1,[[v]]⟩)) fun i hi=>Tw i (by have:=bY i hi;omega)
   clear hZ hX3 hY3
   obtain⟨wv,qJ,PU⟩:=T5.Ld fun x g=>by simp[aa,ai,aj,aH]
   refine hN _ _ ?_
   clear hN N
   have m10:(bq (bq g3 ⟨7011006,x3⟩ ⟨true,1,[[.cm]]⟩) ⟨7011006,x3⟩ ⟨true,1,[[v]]⟩) ⟨7011006,x3⟩=some ⟨true,1,[[v]]⟩:=by simp only[go_sem, ↓reduceIte,Nat.reduceEqDiff,Nat.reduceAdd,Nat.reduceSub,Nat.reduceLeDiff,reduceCtorEq]
   (try((repeat(revert hN;revert N;apply Pn.out));refine wk (tw @mA (tw @mB (tw @mX (tw @mY (tw @mW (tw @wq @KO)))))) ?_;(repeat(refine Pn.mk ?_;intro N hN))))
   refine .inl ⟨_,aq.x (vP PU hw) (tx (lx qJ) (lx (hw.Ld _))),?_⟩
   refine hN _ _ ?_
   clear hN N
   (try((repeat(revert hN;revert N;apply Pn.out));refine wk (tw @mA (tw @mB (tw @mX (tw @mY (tw @mW @e2))))) ?_;(repeat(refine Pn.mk ?_;intro N hN))))
   refine⟨_,kn.x (by rw[aw]at t1;exact t1) _,?_⟩
   refine hN _ _ ?_
   clear hN N
   (try((repeat(revert hN;revert N;apply Pn.out));refine wk (tw @mA (tw @mB (tw @mX (tw @mY (tw @mW @e2))))) ?_;(repeat(refine Pn.mk ?_;intro N hN))))
   refine⟨_,aq.x (by rw[aw]at q1;exact q1) (by rw[<-aw];exact Mp TZ (ES _ _)),?_⟩
   refine hN _ _ ?_
   clear hN N
   (try((repeat(revert hN;revert N;apply Pn.out));refine wk (tw @mA (tw @mB (tw @mX (tw @mY (tw @mW @e2))))) ?_;(repeat(refine Pn.mk ?_;intro N hN))))
   refine⟨_,kn.x (by rw[aP]at t2;exact t2) _,?_⟩
   refine hN _ _ ?_
   clear hN N
   (try((repeat(revert hN;revert N;apply Pn.out));refine wk (tw @mA (tw @mB (tw @mX (tw @mY (tw @mW @e2))))) ?_;(repeat(refine Pn.mk ?_;intro N hN))))
   refine⟨_,aq.x (by rw[aP]at q2;exact q2) (by rw[<-aP];exact KW N9 (ER _ _)),?_⟩
   refine hN _ _ ?_
   clear hN N
   (try((repeat(revert hN;revert N;apply Pn.out));refine wk (tw @mA (tw @mB (tw @mX (tw @mY (tw @mW @e2))))) ?_;(repeat(refine Pn.mk ?_;intro N hN))))
   have Om:=LW s
   have hns:=KB.not (x:=⟨7000000,n0⟩) (by(try dsimp only);omega)
   have hnt:=KB.not (x:=⟨7000001,n0⟩) (by(try dsimp only);omega)
   refine .inr (aI _ _ _ _ _ (fun r σ4 hq=>?_) (GO _ s _ 1 (by omega) sm.s.t (by omega) _ (fun i hi=>by have:=bX i hi;(try dsimp only);omega) KB.1 TZ))
   obtain⟨rfl,hM⟩:=hq
   obtain⟨g4,x4⟩:=σ4
   (try dsimp only at hM)
   have nM:=hM.1
   (try dsimp only at nM)
   have pA:=hM.2 ⟨7000000,n0⟩ (by(try dsimp only);omega) hns
   have pB:=hM.2 ⟨7000001,n0⟩ (by(try dsimp only);omega) hnt
   have pY:=hM.2 ⟨7010002,x2⟩ (by(try dsimp only);omega) (KB.not (by(try dsimp only);omega))
   have pW:=hM.2 ⟨7008008,n0+1+1+1+1+1+1⟩ (by(try dsimp only);omega) (KB.not (by(try dsimp only);omega))
   have Va:=(hM.2 ⟨7011006,x3⟩ (by(try dsimp only);omega) (KB.not (by(try dsimp only);omega))).trans m10
   simp only[go_sem, ↓reduceIte,Nat.reduceEqDiff,Nat.reduceAdd,Nat.reduceSub,Nat.reduceLeDiff,reduceCtorEq,mA,mB,mY,mW]at pA pB pY pW
   have hY4:=N9.frame (g':=g4) fun i hi=>hM.2 i (by have:=bY i hi;(try dsimp only);omega) (KB.not (by have:=bY i hi;omega))
   have hZ4:=T5.frame (g':=g4) fun i hi=>hM.2 i (by have:=bZ i hi;(try dsimp only);omega) (KB.not (by have:=bZ i hi;omega))
   clear hM TZ N9 T5 mA mB mX mY mW m10 qJ
   refine hN _ _ ?_
   clear hN N
   (try((repeat(revert hN;revert N;apply Pn.out));refine wk (tw @pA (tw @pB (tw @pY (tw @pW @Va)))) ?_;(repeat(refine Pn.mk ?_;intro N hN))))
   refine .inr (aI _ _ _ _ _ (fun r σ5 hq=>?_) (yS _ a _ (1+B6 s) (by omega) (by omega) _ (fun i hi=>by have:=bY i hi;(try dsimp only);omega) hY4))
   obtain⟨rfl,hM⟩:=hq
   obtain⟨g5,x5⟩:=σ5
   (try dsimp only at hM)
   have nN:=hM.1
   (try dsimp only at nN)
   have rA:=(hM.2 ⟨7000000,n0⟩ (by(try dsimp only);omega) (N4.not (by(try dsimp only);omega))).trans pA
   have rB:=(hM.2 ⟨7000001,n0⟩ (by(try dsimp only);omega) (N4.not (by(try dsimp only);omega))).trans pB
   have rW:=(hM.2 ⟨7008008,n0+1+1+1+1+1+1⟩ (by(try dsimp only);omega) (N4.not (by(try dsimp only);omega))).trans pW
   have S6:=(hM.2 ⟨7011006,x3⟩ (by(try dsimp only);omega) (N4.not (by(try dsimp only);omega))).trans Va
   have T6:=hZ4.frame (g':=g5) fun i hi=>hM.2 i (by have:=bZ i hi;(try dsimp only);omega) (N4.not (by have:=bZ i hi;omega))
   clear hM hY4 hZ4 pA pB pY pW Va
   obtain⟨wv5,qJ,PU⟩:=T6.Ld fun x g=>by simp[aa,ai,aj,aH]
   have e3:decide (1+(B6 s:Int)+3*(a.ah.length:Int)<0)=false:=decide_eq_false (by omega)
   refine hN _ _ ?_
   clear hN N
   (try((repeat(revert hN;revert N;apply Pn.out));refine wk (tw @rA (tw @rB (tw @rW (tw @S6 @e3)))) ?_;(repeat(refine Pn.mk ?_;intro N hN))))
   refine .inl ⟨_,aq.x (vP PU hw) (tx (lx qJ) (lx (hw.Ld _))),?_⟩
   refine hN _ _ ?_
   clear hN N
   (try((repeat(revert hN;revert N;apply Pn.out));refine wk (tw @rA (tw @rB (tw @rW (tw @S6 (tw @e2 @e3))))) ?_;(repeat(refine Pn.mk ?_;intro N hN))))
   refine .inr (aI _ _ _ _ _ (fun r σ6 hq=>?_) (DR 1 (by omega) (by omega) _ (fun i hi=>by have:=bZ i hi;(try dsimp only);omega) T6))
   obtain⟨rfl,hM,T7⟩:=hq
   obtain⟨g6,x6⟩:=σ6
   (try dsimp only at hM T7)
   have sA:=(hM.2 ⟨7000000,n0⟩ (by(try dsimp only);omega) (PM.not (by(try dsimp only);omega))).trans rA
   have sB:=(hM.2 ⟨7000001,n0⟩ (by(try dsimp only);omega) (PM.not (by(try dsimp only);omega))).trans rB
   have sW:=(hM.2 ⟨7008008,n0+1+1+1+1+1+1⟩ (by(try dsimp only);omega) (PM.not (by(try dsimp only);omega))).trans rW
   have Qd:=(hM.2 ⟨7011006,x3⟩ (by(try dsimp only);omega) (PM.not (by(try dsimp only);omega))).trans S6
   have nO:=hM.1
   (try dsimp only at nO)
   clear hM T6 rA rB rW S6 qJ PU
   obtain⟨wv6,qJ,PU⟩:=T7.Ld fun x g=>by simp[aa,ai,aj,aH]
   have e4:decide (1+3*(L.length:Int)<0)=false:=decide_eq_false (by omega)
   have e5:decide (1+3*(L.length:Int)=1+3*(L.length:Int))=true:=decide_eq_true rfl
   refine hN _ _ ?_
   clear hN N
   (try((repeat(revert hN;revert N;apply Pn.out));refine wk (tw @sA (tw @sB (tw @sW @Qd))) ?_;(repeat(refine Pn.mk ?_;intro N hN))))
   refine .inl ⟨_,aq.x (wg 1 L.length (by omega) (by omega) PU) (tx (lx qJ) (aH _ _ _ _)),?_⟩
   refine hN _ _ ?_
   clear hN N
   (try((repeat(revert hN;revert N;apply Pn.out));refine wk (tw @sA (tw @sB (tw @sW (tw @Qd (tw @e4 @e5))))) ?_;(repeat(refine Pn.mk ?_;intro N hN))))
   refine⟨_,kn.x (by rw[aw]at t1;exact t1) _,?_⟩
   refine hN _ _ ?_
   clear hN N
   (try((repeat(revert hN;revert N;apply Pn.out));refine wk (tw @sA (tw @sB (tw @sW (tw @Qd (tw @e4 @e5))))) ?_;(repeat(refine Pn.mk ?_;intro N hN))))
   refine⟨_,kn.x (by rw[aP]at t2;exact t2) _,?_⟩
   refine hN _ _ ?_
   clear hN N
   (try((repeat(revert hN;revert N;apply Pn.out));refine wk (tw @sA (tw @sB (tw @sW (tw @Qd (tw @e4 @e5))))) ?_;(repeat(refine Pn.mk ?_;intro N hN))))
   refine⟨_,aq.x (by have h:=r2.s;rw[aw,aP]at h;exact h) (tx (by rw[<-aw];exact ES _ _) (by rw[<-aP];exact ER _ _)),?_⟩
   refine hN _ _ ?_
   clear hN N
   have uw:=(wN (e:=aa) (L:=L)).cell.1
   have Gq:=(wN (e:=aa) (L:=L)).cell.2
   unfold AV.cells at uw
   unfold AV.cell at Gq
   have ux:=wN (e:=aa) (L:=L)
   generalize OP aa L=w9 at uw Gq ux ⊢
   (try((repeat(revert hN;revert N;apply Pn.out));refine wk (tw @sA (tw @sB (tw @sW (tw @Qd (tw @e2 (tw @uw @Gq)))))) ?_;(repeat(refine Pn.mk ?_;intro N hN))))
   have hZ7:=T7.frame (g':=(bq (bq g6 ⟨7031008,x6+1+1+1+1+1⟩ ⟨true,1,[[.cm]]⟩) ⟨7031008,x6+1+1+1+1+1⟩ ⟨true,1,[[w9]]⟩)) fun i hi=>by
    have h5:=cr (a:=i) (b:=⟨7031008,x6+1+1+1+1+1⟩) (by have:=bZ i hi;(try dsimp only);omega)
    simp only[go_sem, ↓reduceIte,Nat.reduceEqDiff,Nat.reduceAdd,Nat.reduceSub,Nat.reduceLeDiff,reduceCtorEq,h5]
   obtain⟨wv7,U5,Ux⟩:=hZ7.Ld fun x g=>by simp[aa,ai,aj,aH]
   refine .inl ⟨_,aq.x (vP ux hw) (tx (lx (ux.Ld _)) (lx (hw.Ld _))),?_⟩
   refine hN _ _ ?_
   clear hN N
   (try((repeat(revert hN;revert N;apply Pn.out));refine wk (tw @sA (tw @sB (tw @sW (tw @Qd @e2)))) ?_;(repeat(refine Pn.mk ?_;intro N hN))))
   refine .inl ⟨_,aq.x (wg 1 L.length (by omega) (by omega) Ux) (tx (lx U5) (aH _ _ _ _)),?_⟩
   refine hN _ _ ?_
   clear hN N
   (try((repeat(revert hN;revert N;apply Pn.out));refine wk (tw @e4 @e5) ?_;(repeat(refine Pn.mk ?_;intro N hN))))
   exact aT (b:=true) (.inl rfl) (sd @Nat.zero_add) rfl
  ·rw[iI hg]at h2
   rw[aw]at h1
   rw[aP]at h2
   (repeat(first|((repeat(revert hN;revert N;apply Pn.out));refine wk (tw @aw.eq_1 (tw @aP.eq_1 @kz)) ?_;(repeat(refine Pn.mk ?_;intro N hN)))|((try apply Or.inl);refine⟨_,aq.x (h1) (sd (tw @aw.eq_1 (tw @aP.eq_1 @kz))),?_⟩;refine hN _ _ ?_;clear hN N)|((try apply Or.inl);refine⟨_,aq.x (h2) (sd (tw @aw.eq_1 (tw @aP.eq_1 @kz))),?_⟩;refine hN _ _ ?_;clear hN N)))
   exact aT (b:=true) (.inl rfl) (sd @Nat.zero_add) rfl
 ·rw[iI hf]at h1
  rw[aw]at h1
  (repeat(first|((repeat(revert hN;revert N;apply Pn.out));refine wk (tw @aw.eq_1 @aP.eq_1) ?_;(repeat(refine Pn.mk ?_;intro N hN)))|((try apply Or.inl);refine⟨_,aq.x (h1) (sd (tw @aw.eq_1 @aP.eq_1)),?_⟩;refine hN _ _ ?_;clear hN N)))
  exact aT (b:=true) (.inl rfl) (sd @Nat.zero_add) rfl
end Go.Proofs.YtgoelphibofcmaaGreat.V

namespace Go.Proofs.YtgoelphibofcmaaGreat
open Go.ChangeShapes Go.WideShapes Go.ChangeAt Go.RowKit Go.Deep
section
variable {H:Type} {enc:TypeId×Value->H} {P:Program} {w:World}
theorem mT.RA {α:Type} {rep:World->List Nat->List Value->α->Prop} {sz:Nat} {w:World} {b o len cap:Nat} (oG:Nat->List Value) (fs:Nat->List Nat) (ds:Nat->α) (hc:len<=cap) (hm:cap<=maxLen)
  (hl:∀i,i<len->(oG i).length=sz) (hr:∀i,i<len->rep w (fs i) (oG i) (ds i)) (E6:∀i,i<len->∀j u,(oG i)[j]? =some u->w.cell? ⟨b,o+(i*sz+j),none⟩=some u):
  mT rep sz w ([b]++((List.range len).map fs).flatten) (.slice (some ⟨b,o,none⟩) len cap) ((List.range len).map ds):=by
 refine⟨(List.range len).map oG,(List.range len).map fs,[b],rfl,⟨some ⟨b,o,none⟩,cap,by simp,by simpa using hc,hm,.inr ⟨b,o,rfl,rfl,fun j u hj=>?_⟩⟩,by simp,by simp,fun i cs f d h1 h2 h3=>?_⟩
 ·have hlen:∀cs∈(List.range len).map oG,cs.length=sz:=fun cs du=>by
   obtain⟨i,hi,rfl⟩:=List.mem_map.1 du
   exact hl i (List.mem_range.1 hi)
  have gZ:=(List.getElem?_eq_some_iff.1 hj).1
  have Ln:((List.range len).map oG).flatten.length=len*sz:=by
   rw[List.length_flatten,List.map_map]
   have:∀(l:List Nat),(∀i∈l,i<len)->(l.map (List.length∘oG)).sum=l.length*sz:=by
    intro l
    induction l with
    |nil=>intro _;simp
    |cons a l ih=>intro h;rw[List.map_cons,List.sum_cons,ih fun i hi=>h i (List.mem_cons_of_mem _ hi)];simp only[Function.comp,hl a (h a (by simp)),List.length_cons,Nat.add_mul];omega
   rw[this _ fun i hi=>List.mem_range.1 hi,List.length_range]
  rw[Ln]at gZ
  have DE:0<sz:=by
   rcases Nat.eq_zero_or_pos sz with h|h
   ·subst h;simp at gZ
   ·exact h
  have hi:j / sz<len:=(Nat.div_lt_iff_lt_mul DE).2 gZ
  have Hx:j % sz<sz:=Nat.mod_lt _ DE
  have Ls:j=(j / sz)*sz+j % sz:=by rw[Nat.mul_comm];exact(Nat.div_add_mod j sz).symm
  rw[Ls,tM hlen (i:=j / sz) (cs:=oG (j / sz)) (by simp[hi]) Hx]at hj
  rw[Ls]
  have:=E6 (j / sz) hi (j % sz) u hj
  rw[<-Ls]at this ⊢
  exact this
 ·have hi:i<len:=by
   have:=(List.getElem?_eq_some_iff.1 h1).1
   simpa using this
  simp[hi]at h1 h2 h3
  subst h1 h2 h3
  exact⟨hr i hi,hl i hi⟩
theorem kf (b o k:Nat):(⟨b,o,none⟩:Addr).add k=⟨b,o+k,none⟩:=by
 unfold Addr.add;split
 ·rename_i h;subst h;rfl
 ·rfl
theorem pQ {α:Type} {rep:World->List Nat->List Value->α->Prop} {Q:α->Prop} {t e:TypeId} {sz fuel:Nat} {cs:List Value} {x:DataW H×List MemPlace} (ht:P.underlying t=some (.slice e)) (hC:P.cellsOf e=sz) (DE:0<sz)
  (h:DataW.trod enc P w 0 (fun _=>true) true fuel t cs=some x) (hel:∀n qb y,qb.length=sz->DataW.trod enc P w 0 (fun _=>true) true n e qb=some y->∃f d,fH f 0 w.heap.size/\rep w f qb d/\Q d):
  ∃A n c f xs,cs=[.slice A n c]/\fH f 0 w.heap.size/\mT rep sz w f (.slice A n c) xs/\∀d∈xs,Q d:=by
 rcases open_slice ht h with⟨rfl,_⟩|⟨a,len,cap,m,n,D,Pl,rfl,_,hl,hm,Ol,_,hi⟩
 ·exact⟨none,0,0,[],[],rfl,fH.nil _ _,mT.nil _ _ _,fun d h=>by cases h⟩
 rw[hC]at hi
 simp only[if_true]at Ol
 by_cases h0:len=0
 ·subst h0
  exact⟨some a,0,cap,[],[],rfl,fH.nil _ _,⟨[],[],[],rfl,⟨some a,cap,rfl,Nat.zero_le _,hm,.inl ⟨rfl,rfl⟩⟩,rfl,rfl,fun i cs f d hc=>by simp at hc⟩,fun d h=>by cases h⟩
 obtain⟨b,o,sp⟩:=a
 have cell0:∃v,w.cell? ⟨b,o,sp⟩=some v:=by
  obtain⟨qb,hc,_⟩:=hi 0 (by omega)
  obtain⟨_,nS,E6⟩:=World.cells?_some hc
  refine⟨qb[0]'(by omega),?_⟩
  have:=E6 0 DE
  rw[List.getElem?_eq_getElem (by omega)]at this
  simpa[Addr.add]using this
 obtain⟨v0,sH⟩:=cell0
 have hb:b<w.heap.size:=World.block_lt_of_cell? w _ sH
 have OA:sp=none:=by
  unfold World.cell? at sH
  split at sH
  ·split at sH
   ·cases sH
   ·rename_i h;simpa using h
  ·cases sH
 subst OA
 have key:∀i,i<len->∃qb f d,qb.length=sz/\fH f 0 w.heap.size/\rep w f qb d/\Q d/\∀j u,qb[j]? =some u->w.cell? ⟨b,o+(i*sz+j),none⟩=some u:=fun i lE=>by
  obtain⟨qb,hc,htr⟩:=hi i (by omega)
  obtain⟨_,nS,E6⟩:=World.cells?_some hc
  obtain⟨f,d,h1,h2,h3⟩:=hel n qb _ nS htr
  refine⟨qb,f,d,nS,h1,h2,h3,fun j u hj=>?_⟩
  have gZ:=(List.getElem?_eq_some_iff.1 hj).1
  have:=E6 j (by omega)
  rw[hj]at this
  rw[<-this,Go.Deep.add_add,kf]
 have:Nonempty α:=by
  obtain⟨_,_,d,_⟩:=key 0 (by omega)
  exact⟨d⟩
 let cf:Nat->List Value:=fun i=>if hi:i<len then(key i hi).choose else[]
 let ff:Nat->List Nat:=fun i=>if hi:i<len then(key i hi).choose_spec.choose else[]
 let df:Nat->α:=fun i=>if hi:i<len then(key i hi).choose_spec.choose_spec.choose else Classical.choice this
 have dI:∀i,i<len->(cf i).length=sz/\fH (ff i) 0 w.heap.size/\rep w (ff i) (cf i) (df i)/\Q (df i)/\∀j u,(cf i)[j]? =some u->w.cell? ⟨b,o+(i*sz+j),none⟩=some u:=fun i hi=>by
  have:=(key i hi).choose_spec.choose_spec.choose_spec
  simp only[cf,ff,df,dif_pos hi]
  exact this
 refine⟨some ⟨b,o,none⟩,len,cap,_,(List.range len).map df,rfl,?_,mT.RA cf ff df hl hm (fun i hi=>(dI i hi).1) (fun i hi=>(dI i hi).2.2.1) (fun i hi=>(dI i hi).2.2.2.2),fun d hd=>?_⟩
 ·intro x hx
  rcases List.mem_append.1 hx with hx|hx
  ·simp at hx;subst hx;exact⟨Nat.zero_le _,hb⟩
  ·obtain⟨l,Lu,P7⟩:=List.mem_flatten.1 hx
   obtain⟨i,hi,rfl⟩:=List.mem_map.1 Lu
   exact(dI i (List.mem_range.1 hi)).2.1 x P7
 ·obtain⟨i,hi,rfl⟩:=List.mem_map.1 hd
  exact(dI i (List.mem_range.1 hi)).2.2.2.1
end
section
variable {H:Type} {enc:TypeId×Value->H} {w:World} {fuel:Nat} {cs:List Value} {x:DataW H×List MemPlace}
abbrev TT (enc:TypeId×Value->H) (w:World) (fuel t:Nat) (cs:List Value) (x:DataW H×List MemPlace):Prop:=DataW.trod enc Tryz.prog w 0 (fun _=>true) true fuel t cs=some x
theorem OQ (h:TT enc w fuel 56 cs x):∃A n c f xs,cs=[.slice A n c]/\fH f 0 w.heap.size/\vm w f (.slice A n c) xs:=by
 obtain⟨A,n,c,f,xs,h1,h2,h3,_⟩:=pQ (rep:=EJ) (Q:=fun _=>True) Tryz.underlying56 (sz:=1) (by kernel_rfl) (by omega) h fun n qb y hl hy=>by
  obtain⟨b,rfl,_⟩:=DataW.trod_int Tryz.underlying2 hy
  exact⟨[],b,fH.nil _ _,⟨rfl,rfl⟩,trivial⟩
 exact⟨A,n,c,f,xs,h1,h2,h3⟩
theorem np {t:TypeId} {fs:Array Field} (ht:Tryz.prog.underlying t=some (.struct fs)) (h:TT enc w fuel t cs x):cs.length=Tryz.prog.cellsOf t/\∃n,∀(i:Nat) (f:Field),fs[i]? =some f->∃y,TT enc w n f.type ((cs.drop f.offset).take (Tryz.prog.cellsOf f.type)) y:=by
 obtain⟨xs,n,_,_,hl,P7,hf⟩:=DataW.trod_struct ht h
 refine⟨hl,n,fun i f hi=>?_⟩
 have lE:i<xs.length:=by rw[P7];exact(Array.getElem?_eq_some_iff.1 hi).1
 exact⟨xs[i],(hf i f hi).trans (List.getElem?_eq_getElem lE)⟩
theorem Rw {l:List Value} (h:l.length=2):∃a b,l=[a,b]:=by
 match l,h with
 |[a,b],_=>exact⟨a,b,rfl⟩
theorem U8 {l:List Value} (h:l.length=3):∃a b c,l=[a,b,c]:=by
 match l,h with
 |[a,b,c],_=>exact⟨a,b,c,rfl⟩
theorem U7 {l:List Value} (h:l.length=1):∃a,l=[a]:=by
 match l,h with
 |[a],_=>exact⟨a,rfl⟩
theorem U9 {l:List Value} (h:l.length=4):∃a b c d,l=[a,b,c,d]:=by
 match l,h with
 |[a,b,c,d],_=>exact⟨a,b,c,d,rfl⟩
theorem L4 (h:TT enc w fuel 22 cs x):∃A n c f xs,cs=[.slice A n c]/\fH f 0 w.heap.size/\re w f (.slice A n c) xs/\∀d∈xs,d.aC.size<=9223372036854775807:=by
 exact pQ (rep:=HM) (Q:=fun d=>d.aC.size<=9223372036854775807) Tryz.underlying22 (sz:=2) (by kernel_rfl) (by omega) h fun n qb y hl hy=>by
  obtain⟨_,m,hf⟩:=np Tryz.underlying191 hy
  obtain⟨a,b,rfl⟩:=Rw hl
  ·skip
   obtain⟨y0,h0⟩:=hf 0 _ rfl
   obtain⟨y1,h1⟩:=hf 1 _ rfl
   rw[show Tryz.prog.cellsOf _=1 from by kernel_rfl]at h0 h1
   obtain⟨p,e0,_,ws⟩:=DataW.trod_string Tryz.underlying9 h0
   obtain⟨q,e1,_⟩:=DataW.trod_int Tryz.underlying2 h1
   simp at e0 e1
   subst e0 e1
   exact⟨[],⟨p,q⟩,fH.nil _ _,⟨rfl,rfl⟩,by simpa[maxLen]using ws⟩
theorem L5 (h:TT enc w fuel 23 cs x):∃A n c f xs,cs=[.slice A n c]/\fH f 0 w.heap.size/\rf w f (.slice A n c) xs/\∀d∈xs,d.aC.size<=9223372036854775807:=by
 exact pQ (rep:=HN) (Q:=fun d=>d.aC.size<=9223372036854775807) Tryz.underlying23 (sz:=2) (by kernel_rfl) (by omega) h fun n qb y hl hy=>by
  obtain⟨_,m,hf⟩:=np Tryz.underlying193 hy
  obtain⟨a,b,rfl⟩:=Rw hl
  ·skip
   obtain⟨y0,h0⟩:=hf 0 _ rfl
   obtain⟨y1,h1⟩:=hf 1 _ rfl
   rw[show Tryz.prog.cellsOf _=1 from by kernel_rfl]at h0 h1
   obtain⟨p,e0,_,ws⟩:=DataW.trod_string Tryz.underlying9 h0
   obtain⟨A1,n1,c1,f1,RW,e1,k1,s1⟩:=OQ h1
   simp at e0 e1
   subst e0 e1
   exact⟨_,⟨p,RW⟩,k1,⟨_,f1,rfl,rfl,s1⟩,by simpa[maxLen]using ws⟩
theorem GU (h:TT enc w fuel 26 cs x):∃A n c f xs,cs=[.slice A n c]/\fH f 0 w.heap.size/\ja w f (.slice A n c) xs:=by
 obtain⟨A,n,c,f,xs,h1,h2,h3,_⟩:=pQ (rep:=AY) (Q:=fun _=>True) Tryz.underlying26 (sz:=3) (by kernel_rfl) (by omega) h fun n qb y hl hy=>by
  obtain⟨_,m,hf⟩:=np Tryz.underlying143 hy
  obtain⟨a,b,c,rfl⟩:=U8 hl
  ·skip
   obtain⟨y0,h0⟩:=hf 0 _ rfl
   obtain⟨y1,h1⟩:=hf 1 _ rfl
   rw[show Tryz.prog.cellsOf _=2 from by kernel_rfl]at h0
   rw[show Tryz.prog.cellsOf _=1 from by kernel_rfl]at h1
   obtain⟨_,m2,KG⟩:=np Tryz.underlying66 h0
   obtain⟨z0,g0⟩:=KG 0 _ rfl
   obtain⟨z1,g1⟩:=KG 1 _ rfl
   rw[show Tryz.prog.cellsOf _=1 from by kernel_rfl]at g0 g1
   obtain⟨px,e0,_⟩:=DataW.trod_int Tryz.underlying2 g0
   obtain⟨py,e1,_⟩:=DataW.trod_int Tryz.underlying2 g1
   obtain⟨ti,e2,_⟩:=DataW.trod_int Tryz.underlying2 h1
   simp at e0 e1 e2
   subst e0 e1 e2
   exact⟨[],⟨⟨px,py⟩,ti⟩,fH.nil _ _,⟨rfl,rfl⟩,trivial⟩
 exact⟨A,n,c,f,xs,h1,h2,h3⟩
theorem wP (h:TT enc w fuel 28 cs x):∃A n c f,∃d:dP,cs=[.slice A n c]/\fH f 0 w.heap.size/\ja w f (.slice A n c) d.ah:=by
 obtain⟨hl,m,hf⟩:=np Tryz.underlying28 h
 rw[show Tryz.prog.cellsOf _=1 from by kernel_rfl]at hl
 obtain⟨a,rfl⟩:=U7 hl
 ·skip
  obtain⟨y0,h0⟩:=hf 0 _ rfl
  rw[show Tryz.prog.cellsOf _=1 from by kernel_rfl]at h0
  obtain⟨A1,n1,c1,f1,RW,e1,k1,s1⟩:=GU h0
  simp at e1
  subst e1
  exact⟨A1,n1,c1,f1,⟨RW⟩,rfl,k1,s1⟩
theorem Jz (h:TT enc w fuel 30 cs x):∃A0 n0 c0 f0 A1 n1 c1 f1 A2 n2 c2 f2,∃d:aA,cs=[.slice A0 n0 c0,.slice A1 n1 c1,.slice A2 n2 c2,.int .i64 d.aB]/\fH f0 0 w.heap.size/\re w f0 (.slice A0 n0 c0) d.aE.ax/\fH f1 0 w.heap.size/\rf w f1 (.slice A1 n1 c1) d.aE.ah/\fH f2 0 w.heap.size/\ja w f2 (.slice A2 n2 c2) d.bc.ah/\(∀g∈d.aE.ax,g.aC.size<=9223372036854775807)/\∀t∈d.aE.ah,t.aC.size<=9223372036854775807:=by
 obtain⟨hl,m,hf⟩:=np Tryz.underlying30 h
 rw[show Tryz.prog.cellsOf _=4 from by kernel_rfl]at hl
 obtain⟨a,b,c,d,rfl⟩:=U9 hl
 ·skip
  obtain⟨y0,h0⟩:=hf 0 _ rfl
  obtain⟨y1,h1⟩:=hf 1 _ rfl
  obtain⟨y2,h2⟩:=hf 2 _ rfl
  rw[show Tryz.prog.cellsOf _=2 from by kernel_rfl]at h0
  rw[show Tryz.prog.cellsOf _=1 from by kernel_rfl]at h1 h2
  obtain⟨_,m2,KG⟩:=np Tryz.underlying25 h0
  obtain⟨z0,g0⟩:=KG 0 _ rfl
  obtain⟨z1,g1⟩:=KG 1 _ rfl
  rw[show Tryz.prog.cellsOf _=1 from by kernel_rfl]at g0 g1
  obtain⟨A0,n0,c0,f0,xs0,e0,k0,s0,o0⟩:=L4 g0
  obtain⟨A1,n1,c1,f1,RW,e1,k1,s1,o1⟩:=L5 g1
  obtain⟨A2,n2,c2,f2,d2,e2,k2,s2⟩:=wP h1
  obtain⟨t,e3,_⟩:=DataW.trod_int Tryz.underlying2 h2
  simp at e0 e1 e2 e3
  subst e0 e1 e2 e3
  exact⟨A0,n0,c0,f0,A1,n1,c1,f1,A2,n2,c2,f2,⟨⟨xs0,RW⟩,d2,t⟩,rfl,k0,s0,k1,s1,k2,s2,o0,o1⟩
end
end Go.Proofs.YtgoelphibofcmaaGreat

namespace Go.Proofs.YtgoelphibofcmaaGreat
open Go.ChangeShapes Go.WideShapes Go.ChangeAt Go.RowKit V
theorem RG:ownKnob Tryz.prog.godebug=none:=by kernel_rfl
theorem Jg:laidOutB Tryz.prog=true:=by kernel_rfl
theorem Ge {s:aA} {l:List ad} (hl:l.length<=1048576):(kM s l).1.length<=1152921504606846976:=by
 unfold kM
 split
 ·rename_i h0
  obtain⟨hP,hA,hW⟩:=th.1 h0
  have h1:=(BR hP hA hW).sD
  dsimp only;omega
 ·simp
theorem Iv (s:aA) (a:dP) (hn:fX s.aE):aq Tryz.prog 7 [.agg (aw s),.agg (aP a)] (.bool true):=
 Jh (fun s a=>kM s a.ah) (fun s a hn hm _=>zm s a.ah hn hm.s.g hm.s.t) (fun s a hn hm hl=>zl s a.ah hn hm hl) (fun s a hm hl=>Ge hl) s a hn
theorem Bw (os:Os) (started:os.Started) (H:Type) (enc:TypeId×Value->H):
  ReturnsInHanded {} Tryz.checked os 7 .any (Rows.fnExactGrowInsideSpec.pre6 enc Tryz.prog Tryz.f7 Rows.fnExactGrowInsideRow.domain false) (Rows.fnExactGrowInsideSpec.post enc Tryz.prog Tryz.f7 false true false false):=by
 refine returnsInHanded_of_change (C:=Tryz.checked) RG started (by kernel_rfl) Tryz.func7
  (ChangeSpec.witness6 (enc:=enc) (C:=Tryz.checked) false ⟨#[], #[.agg #[.slice none 0 0,.slice none 0 0,.slice none 0 0,.int .i64 0],.agg #[.slice none 0 0]],[]⟩ 8 (by kernel_rfl) (by kernel_rfl) (by kernel_rfl) (by kernel_rfl)) ?_
 intro W base args ds gs before M3 hW hcnd _
 have s7:∀(j:Nat) t v,Tryz.f7.params[j]? =some t->args[j]? =some v->Value.okWide Tryz.prog W .any base t v:=M3
 have hW':=hW
 obtain⟨p,q,hA0,hV,rfl,CJ,mm⟩:=hW
 have hA:DataW.TrodAll enc Tryz.prog W 0 (fun _=>true) true Tryz.f7.params.toList args.toList ds p:=hA0
 rw[Tryz.params7]at hA s7
 obtain⟨v0,vs0,d0,ds0,p0,q0,nG,rfl,rfl,h0,r0⟩:=trodAll_cons hA
 obtain⟨v1,vs1,d1,ds1,p1,q1,rfl,rfl,rfl,h1,r1⟩:=trodAll_cons r0
 obtain⟨rfl,rfl,rfl⟩:=trodAll_nil r1
 obtain rfl:args= #[v0,v1]:=by cases args;simp_all
 obtain⟨rfl,rfl⟩:=trodVars_none hV
 obtain⟨PK,rfl,_⟩:=okWide_struct Tryz.underlying30 (s7 0 30 v0 rfl rfl)
 obtain⟨Ts,rfl,_⟩:=okWide_struct Tryz.underlying28 (s7 1 28 v1 rfl rfl)
 have k0:=h0
 have k1:=h1
 have lt0:∀x∈p0,x.block<W.heap.size:=by obtain⟨m,hm⟩:=k0;exact DataW.trod_lt m _ _ _ hm
 have Qb:∀x∈p1,x.block<W.heap.size:=by obtain⟨m,hm⟩:=k1;exact DataW.trod_lt m _ _ _ hm
 obtain⟨A0,n0,c0,f0,A1,n1,c1,f1,A2,n2,c2,f2,s,du,w0,s0,w1,s1,w2,s2,o0,o1⟩:∃A0 n0 c0 f0 A1 n1 c1 f1 A2 n2 c2 f2,∃d:aA,(Value.agg PK).cells.toList=[.slice A0 n0 c0,.slice A1 n1 c1,.slice A2 n2 c2,.int .i64 d.aB]/\fH f0 0 W.heap.size/\re W f0 (.slice A0 n0 c0) d.aE.ax/\fH f1 0 W.heap.size/\rf W f1 (.slice A1 n1 c1) d.aE.ah/\fH f2 0 W.heap.size/\ja W f2 (.slice A2 n2 c2) d.bc.ah/\(∀g∈d.aE.ax,g.aC.size<=9223372036854775807)/\∀t∈d.aE.ah,t.aC.size<=9223372036854775807:=by
  obtain⟨fuel,hf⟩:=h0
  exact Jz hf
 obtain⟨A3,n3,c3,f3,a,QL,w3,s3⟩:∃A n c f,∃d:dP,(Value.agg Ts).cells.toList=[.slice A n c]/\fH f 0 W.heap.size/\ja W f (.slice A n c) d.ah:=by
  obtain⟨fuel,hf⟩:=h1
  exact wP hf
 obtain rfl:PK= #[.slice A0 n0 c0,.slice A1 n1 c1,.slice A2 n2 c2,.int .i64 s.aB]:=by
  cases PK;simp[Value.cells]at du;subst du;rfl
 obtain rfl:Ts= #[.slice A3 n3 c3]:=by
  cases Ts;simp[Value.cells]at QL;subst QL;rfl
 clear hA0 M3
 have gL:fe Tryz.prog W (fun b=>b<W.heap.size) (fun _=>none) [.agg (aw s),.agg (aP a)] #[.agg #[.slice A0 n0 c0,.slice A1 n1 c1,.slice A2 n2 c2,.int .i64 s.aB],.agg #[.slice A3 n3 c3]]:=by
  have h:=mC (CZ s0 (fun b hb=>(w0 b hb).2) s1 (fun b hb=>(w1 b hb).2) s2 (fun b hb=>(w2 b hb).2)) (mC (zk s3 (fun b hb=>(w3 b hb).2)) (⟨rfl,fun j b hj=>by cases j<;>cases hj⟩:fe Tryz.prog W (fun b=>b<W.heap.size) (fun _=>none) [] #[]))
  simpa using h
 have im:=OK mixed (Iv s a ⟨o0,o1⟩) gL
 clear s0 s1 s2 s3 w0 w1 w2 w3 gL
 refine(im.mono fun e W' ⟨he,bel⟩=>?_)
 subst he
 exact⟨_,rfl,_,_,_,[],_,[],hW',trodAll_mk1 (shut_bool Tryz.underlying4 _),(trodAll_cons_mk (Below.trod Jg (by kernel_rfl) (of_decide_eq_true (by kernel_rfl)) k0 bel lt0) (trodAll_cons_mk (Below.trod Jg (by kernel_rfl) (of_decide_eq_true (by kernel_rfl)) k1 bel Qb) trodAll_mk0)),rfl,bel.frame _,fun h=>by cases h⟩
end Go.Proofs.YtgoelphibofcmaaGreat

namespace Go.Proofs.YtgoelphibofcmaaGreat
open Go.ChangeShapes Go.WideShapes Go.ChangeAt Go.RowKit
theorem giN:Tryz.pinned.checked.prog.funcNamed Rows.fnExactGrowInsideRow.func=some 7:=by kernel_rfl
theorem giJ:joinedFacts Tryz.pinned.checked.prog 7 Tryz.f7 Rows.fnExactGrowInsideSpec Rows.fnExactGrowInsideRow=true:=by
 unfold joinedFacts
 repeat(with_reducible refine Bool.and_eq_true_iff.2 ⟨?_,by as_aux_lemma=>kernel_rfl⟩)
 as_aux_lemma=>kernel_rfl
theorem giI:Tryz.f7.isInstance Tryz.pinned.checked.prog Rows.fnExactGrowInsideRow.origin Rows.fnExactGrowInsideRow.targs:=of_decide_eq_true (by kernel_rfl)
theorem giW:Tryz.f7.isWrapper Tryz.pinned.checked.prog Rows.fnExactGrowInsideRow.wrapper Rows.fnExactGrowInsideRow.mainSum:=by
 unfold Func.isWrapper;first|(rw[if_pos (by decide+kernel)];kernel_rfl)|(rw[if_neg (by decide+kernel)];exact⟨rfl,rfl⟩)
theorem Gf:Rows.fnExactGrowInsideRow.holds Tryz.pinned (OpenSpec.ofChange Rows.fnExactGrowInsideSpec):=
 OpenClaim.holds_of_wide 7 Tryz.f7 rfl rfl rfl rfl rfl rfl rfl ⟨rfl,rfl,rfl,rfl,rfl⟩ rfl rfl rfl rfl rfl giN Tryz.func7 giJ giI giW
  (fun os started H enc _=>Bw os started H enc)
theorem fnExactGrowInside_proved:Rows.FnExactGrowInsideSaid:=Gf
end Go.Proofs.YtgoelphibofcmaaGreat
