/- Networks by matrices: one is made. -/
import Derived.Test.YtgoelphibofcmaaGreatWkE
import Derived.Test.YtgoelphibofcmaaGreatWkC
import Derived.RangeFuncCalls
import Derived.OrdersIn
import Derived.Test.YtgoelphibofcmaaGreatWkB
import Derived.Test.YtgoelphibofcmaaGreatChecked
import Derived.ProofKit
import Derived.Deep.Slices
import Derived.ChangeSame
import Derived.Test.YtgoelphibofcmaaGreatRows
import Derived.OpenShut
import Derived.ShutString
import Derived.ChangeOld
import Derived.Below
set_option linter.unusedVariables false
set_option linter.unusedSimpArgs false
set_option maxRecDepth 100000
set_option maxHeartbeats 16000000
namespace Go.Proofs.YtgoelphibofcmaaGreat.V
open Go.RowKit
attribute [local irreducible] dG wpOps gz Call
attribute [local go_sem] aL fU eV gw gr cK upd cw K.av cU AV.cells AV.cell rowOf rowsOf part ld rowAt bJ cr dK ep iC bR dj eF gq fh dz ew dh de ec ee bV bh cX bU cZ cY eu ez ev cW cj di er bS aQ db cG iA bz cN bW aX dn aZ dL AV.undef bG bK ef eo dW ea cJ eE eH cD eB eA da dc List.getD_cons_zero List.getD_cons_succ List.getD_nil List.all_cons List.all_nil Bool.and_true Bool.true_and Bool.and_self Bool.not_true Bool.not_false Option.map_some Option.map_none Option.bind_some Option.bind_none List.length_cons List.length_nil List.take_succ_cons List.take_zero List.take_nil List.drop_succ_cons List.drop_zero List.drop_nil List.head?_cons List.map_cons List.map_nil List.getElem?_cons_zero List.getElem?_cons_succ List.cons_append List.nil_append List.append_nil List.length_map List.set_cons_zero List.set_cons_succ Nat.reduceMul eq_self Int.toNat_natCast Int.natCast_nonneg and_self true_and and_true decide_true decide_false Bool.false_eq_true Nat.zero_add Nat.add_zero List.contains_cons List.contains_nil Bool.or_false Bool.false_or beq_self_eq_true Nat.reduceBEq ne_eq not_true_eq_false not_false_eq_true Id.mk.injEq false_and and_false Nat.reduceLT Int.reduceLE Int.reduceLT Int.reduceToNat Int.reduceNeg Int.reduceAdd Nat.le_refl List.length_append beq_true beq_false Bool.not_eq_eq_eq_not or_false false_or dX ai aq aH bj bE cu aW br aU bp cV bP
theorem Hf (n:Nat):List.replicate n [AV.int .i64 0]=dQ (fun _=>0) n:=by
 refine List.ext_getElem? fun i=>?_
 by_cases h:i<n
 ·rw[dH h,List.getElem?_replicate,if_pos h];rfl
 ·rw[List.getElem?_eq_none (by simp;omega),List.getElem?_eq_none (by rw[dD];omega)]
theorem Ap {i j:Id} {s t:Nat} (hi:i.site=s) (hj:j.site=t) (h:(s==t)=false):(i=j)=False/\(j=i)=False:=by
 constructor<;>(simp only[eq_iff_iff,iff_false];rintro rfl;rw[hi]at hj;subst hj;simp at h)
theorem Ch (cnt:Nat) (zD:1<=cnt) (hn:cnt<=1048576) (bs:List PB) (hb:∀b∈bs,b.a<cnt/\b.b<cnt) (dB:∀b∈bs,0<=b.s/\b.s<=4) (oE:bs.length<=1048576) (σ:au):
  Call Tryz.prog 245 [.int .i64 cnt,.sl (bs.map aC)] σ fun r σ'=>∃X o1 o2 R1 R2,r=.ptr X 0 0/\FR X o1 o2 R1 R2 cnt σ'.next/\σ.next<=σ'.next/\nH σ'.get X o1 o2 R1 R2 cnt (k5 bs) (fun _ _=>0)/\∀i:Id,i.bq<σ.next->σ'.get i=σ.get i:=by
 refine eW ek rfl fun hl=>?_
 clear hl
 (try((repeat(revert hN;revert N;apply Pn.out));refine wk @Nat.zero_add ?_;(repeat(refine Pn.mk ?_;intro N hN))))
 obtain⟨X,hX⟩:∃X:Id,X=⟨245001001,σ.next+1⟩:=⟨_,rfl⟩
 obtain⟨R1,TD⟩:∃R:Nat->Id,R=fun k=>⟨245004006,σ.next+3+4*k+1⟩:=⟨_,rfl⟩
 obtain⟨R2,Qw⟩:∃R:Nat->Id,R=fun k=>⟨245005006,σ.next+3+4*k+2⟩:=⟨_,rfl⟩
 have sX:X.site=245001001:=by rw[hX]
 have vX:X.bq=σ.next+1:=by rw[hX]
 have s1:∀k,(R1 k).site=245004006:=fun k=>by rw[TD]
 have s2:∀k,(R2 k).site=245005006:=fun k=>by rw[Qw]
 have v1:∀k,(R1 k).bq=σ.next+3+4*k+1:=fun k=>by rw[TD]
 have v2:∀k,(R2 k).bq=σ.next+3+4*k+2:=fun k=>by rw[Qw]
 have jI:(0:Int)<=(cnt:Int):=by omega
 have pU:(cnt:Int)<=((16777216:Nat):Int):=by omega
 have hz:=Hf cnt
 have t1:k7 R1 cnt 0=[]:=rfl
 have t2:k7 R2 cnt 0=[]:=rfl
 refine aI (fun n env st=>∃k:Nat,n=(cnt)-k/\k<=(cnt)/\env 11=.int .i64 (k:Int)/\env 5=(.ptr X 0 0)/\(st.next=σ.next+3+4*k/\(∀i:Id,i.bq<σ.next->st.get i=σ.get i)/\∀j,j<k->st.get (R1 j)=some ⟨true,1,dQ (fun _=>0) cnt⟩/\st.get (R2 j)=some ⟨true,1,dQ (fun _=>0) cnt⟩)/\((k=0/\st.get X=some ⟨true,2,[[.cC,.cC]]⟩)∨∃o1 o2:Id,o1.site=245004008/\o2.site=245005008/\o1.bq<st.next/\o2.bq<st.next/\σ.next<=o1.bq/\σ.next<=o2.bq/\st.get X=some ⟨true,2,[[.own o1 0 k,.own o2 0 k]]⟩/\st.get o1=some ⟨true,1,k7 R1 cnt k⟩/\st.get o2=some ⟨true,1,k7 R2 cnt k⟩)) (cnt) ⟨0,by omega,by omega,sl @hX,sl @hX,⟨rfl,fun i hi=>by(have DM:=dq hi);simp only[go_sem, ↓reduceIte,Nat.reduceEqDiff,Nat.reduceAdd,Nat.reduceSub,Nat.reduceLeDiff,reduceCtorEq,DM],fun j hj=>absurd hj (Nat.not_lt_zero j)⟩,.inl ⟨rfl,by rw[hX];simp only[go_sem, ↓reduceIte,Nat.reduceEqDiff,Nat.reduceAdd,Nat.reduceSub,Nat.reduceLeDiff,reduceCtorEq]⟩⟩ ?_
 rintro n_a env_a st_a ⟨k,rfl,ale,C7,a5,j9,aI1⟩ dp
 have a0:=dp 0 (by kernel_rfl);have a1:=dp 1 (by kernel_rfl);have xQ:=dp 10 (by kernel_rfl)
 simp only[go_sem, ↓reduceIte,Nat.reduceEqDiff,Nat.reduceAdd,Nat.reduceSub,Nat.reduceLeDiff,reduceCtorEq,hX]at a0 a1 xQ
 clear dp
 obtain⟨anx,dp,aR⟩:=j9
 have wX:=dq (i:=X) (n:=st_a.next) (by omega)
 by_cases hk:(k:Int)<(cnt:Int)
 ·have ck:∀{e:Env} {gg:Rows} {nx:Nat},(e 11=.int .i64 (IntKind.i64.wrap ((k:Int)+1)))->(e 5=(.ptr X 0 0))->(nx=σ.next+3+4*(k+1)/\(∀i:Id,i.bq<σ.next->gg i=σ.get i)/\∀j,j<(k+1)->gg (R1 j)=some ⟨true,1,dQ (fun _=>0) cnt⟩/\gg (R2 j)=some ⟨true,1,dQ (fun _=>0) cnt⟩)->(((k+1)=0/\gg X=some ⟨true,2,[[.cC,.cC]]⟩)∨∃o1 o2:Id,o1.site=245004008/\o2.site=245005008/\o1.bq<nx/\o2.bq<nx/\σ.next<=o1.bq/\σ.next<=o2.bq/\gg X=some ⟨true,2,[[.own o1 0 (k+1),.own o2 0 (k+1)]]⟩/\gg o1=some ⟨true,1,k7 R1 cnt (k+1)⟩/\gg o2=some ⟨true,1,k7 R2 cnt (k+1)⟩)->∃m0,m0<(cnt)-k/\∃k:Nat,m0=(cnt)-k/\k<=(cnt)/\e 11=.int .i64 (k:Int)/\e 5=(.ptr X 0 0)/\(nx=σ.next+3+4*k/\(∀i:Id,i.bq<σ.next->gg i=σ.get i)/\∀j,j<k->gg (R1 j)=some ⟨true,1,dQ (fun _=>0) cnt⟩/\gg (R2 j)=some ⟨true,1,dQ (fun _=>0) cnt⟩)/\((k=0/\gg X=some ⟨true,2,[[.cC,.cC]]⟩)∨∃o1 o2:Id,o1.site=245004008/\o2.site=245005008/\o1.bq<nx/\o2.bq<nx/\σ.next<=o1.bq/\σ.next<=o2.bq/\gg X=some ⟨true,2,[[.own o1 0 k,.own o2 0 k]]⟩/\gg o1=some ⟨true,1,k7 R1 cnt k⟩/\gg o2=some ⟨true,1,k7 R2 cnt k⟩):=fun x1 x2 x3 x4=>⟨_,by omega,k+1,rfl,by omega,(by rw[x1,aA (by omega)]),x2,x3,x4⟩
  have eZ:k<cnt:=by omega
  have xd:R1 k=⟨245004006,st_a.next+1⟩:=by rw[TD,anx]
  have vM:R2 k=⟨245005006,st_a.next+1+1⟩:=by rw[Qw,anx]
  have Fm:k7 R1 cnt (k+1)=k7 R1 cnt k++[[.own ⟨245004006,st_a.next+1⟩ 0 cnt]]:=by rw[s6,xd]
  have PT:k7 R2 cnt (k+1)=k7 R2 cnt k++[[.own ⟨245005006,st_a.next+1+1⟩ 0 cnt]]:=by rw[s6,vM]
  rcases aI1 with⟨rfl,Qe⟩|⟨o1,o2,so1,so2,vo1,vo2,vn1,vn2,Qe,ag1,ag2⟩
  ·(try((repeat(revert hN;revert N;apply Pn.out));refine wk (tw @C7 (tw @a5 (tw @a0 (tw @a1 (tw @xQ (tw @hk (tw @wX (tw @Qe (tw @jI (tw @pU (tw @Int.le_refl @hz))))))))))) ?_;(repeat(refine Pn.mk ?_;intro N hN))))
   refine ck ?_ ?_ (by
    (try dsimp only)
    refine⟨by omega,fun i hi=>?_,fun j hj=>?_⟩
    ·have q1:=dq (i:=i) (n:=st_a.next) (by omega)
     have q2:=cP (a:=i) (b:=X) (by omega)
     have:=dp i hi
     simp only[go_sem, ↓reduceIte,Nat.reduceEqDiff,Nat.reduceAdd,Nat.reduceSub,Nat.reduceLeDiff,reduceCtorEq,q1,q2,this]
    ·by_cases yk:j=0
     ·subst yk
      rw[xd,vM]
      have q1:=gS sX (b:=245004006) (v:=st_a.next+1) (by decide)
      have q2:=gS sX (b:=245005006) (v:=st_a.next+1+1) (by decide)
      simp only[go_sem, ↓reduceIte,Nat.reduceEqDiff,Nat.reduceAdd,Nat.reduceSub,Nat.reduceLeDiff,reduceCtorEq,q1,q2]
     ·obtain⟨r1,r2⟩:=aR j (by omega)
      have q1:=dq (i:=R1 j) (n:=st_a.next) (by rw[v1];omega)
      have q2:=dq (i:=R2 j) (n:=st_a.next) (by rw[v2];omega)
      have q3:=Ap (s1 j) sX (by decide)
      have q4:=Ap (s2 j) sX (by decide)
      constructor
      ·simp only[go_sem, ↓reduceIte,Nat.reduceEqDiff,Nat.reduceAdd,Nat.reduceSub,Nat.reduceLeDiff,reduceCtorEq,q1,q3,r1]
      ·simp only[go_sem, ↓reduceIte,Nat.reduceEqDiff,Nat.reduceAdd,Nat.reduceSub,Nat.reduceLeDiff,reduceCtorEq,q2,q4,r2]) (.inr ⟨⟨245004008,st_a.next+1⟩,⟨245005008,st_a.next+1+1⟩,rfl,rfl,by(try dsimp only);omega,by(try dsimp only);omega,by(try dsimp only);omega,by(try dsimp only);omega,sd @wX,by rw[Fm,t1];simp only[go_sem, ↓reduceIte,Nat.reduceEqDiff,Nat.reduceAdd,Nat.reduceSub,Nat.reduceLeDiff,reduceCtorEq,wX,List.nil_append],by rw[PT,t2];simp only[go_sem, ↓reduceIte,Nat.reduceEqDiff,Nat.reduceAdd,Nat.reduceSub,Nat.reduceLeDiff,reduceCtorEq,wX,List.nil_append]⟩)
   all_goals simp only[go_sem, ↓reduceIte,Nat.reduceEqDiff,Nat.reduceAdd,Nat.reduceSub,Nat.reduceLeDiff,reduceCtorEq,C7,a5,a0,a1,xQ,wX]
  ·have l1:=j7 R1 cnt k
   have l2:=j7 R2 cnt k
   have e1:k+1<=16777216:=by omega
   have w1:=dq vo1
   have w2:=dq vo2
   have x1:=Ap sX so1 (by decide)
   have x2:=Ap sX so2 (by decide)
   have x3:=Ap so1 so2 (by decide)
   (try((repeat(revert hN;revert N;apply Pn.out));refine wk (tw @C7 (tw @a5 (tw @a0 (tw @a1 (tw @xQ (tw @hk (tw @wX (tw @Qe (tw @ag1 (tw @ag2 (tw @l1 (tw @l2 (tw @e1 (tw @w1 (tw @w2 (tw @x1 (tw @x2 (tw @x3 (tw @jI (tw @pU (tw @Int.le_refl @hz))))))))))))))))))))) ?_;(repeat(refine Pn.mk ?_;intro N hN))))
   refine ck ?_ ?_ (by
    (try dsimp only)
    refine⟨by omega,fun i hi=>?_,fun j hj=>?_⟩
    ·have q1:=dq (i:=i) (n:=st_a.next) (by omega)
     have q2:=cP (a:=i) (b:=X) (by omega)
     have q3:=cP (a:=i) (b:=o1) (by omega)
     have q4:=cP (a:=i) (b:=o2) (by omega)
     have:=dp i hi
     simp only[go_sem, ↓reduceIte,Nat.reduceEqDiff,Nat.reduceAdd,Nat.reduceSub,Nat.reduceLeDiff,reduceCtorEq,q1,q2,this,q3,q4]
    ·by_cases yk:j=k
     ·subst yk
      rw[xd,vM]
      have q1:=gS sX (b:=245004006) (v:=st_a.next+1) (by decide)
      have q2:=gS sX (b:=245005006) (v:=st_a.next+1+1) (by decide)
      simp only[go_sem, ↓reduceIte,Nat.reduceEqDiff,Nat.reduceAdd,Nat.reduceSub,Nat.reduceLeDiff,reduceCtorEq,q1,q2,w1,w2]
     ·obtain⟨r1,r2⟩:=aR j (by omega)
      have q1:=dq (i:=R1 j) (n:=st_a.next) (by rw[v1];omega)
      have q2:=dq (i:=R2 j) (n:=st_a.next) (by rw[v2];omega)
      have q3:=Ap (s1 j) sX (by decide)
      have q4:=Ap (s2 j) sX (by decide)
      have q5:=Ap (s1 j) so1 (by decide)
      have q6:=Ap (s1 j) so2 (by decide)
      have q7:=Ap (s2 j) so1 (by decide)
      have q8:=Ap (s2 j) so2 (by decide)
      constructor
      ·simp only[go_sem, ↓reduceIte,Nat.reduceEqDiff,Nat.reduceAdd,Nat.reduceSub,Nat.reduceLeDiff,reduceCtorEq,q1,q3,r1,q5,q6]
      ·simp only[go_sem, ↓reduceIte,Nat.reduceEqDiff,Nat.reduceAdd,Nat.reduceSub,Nat.reduceLeDiff,reduceCtorEq,q2,q4,r2,q7,q8]) (.inr ⟨⟨245004008,st_a.next+1⟩,⟨245005008,st_a.next+1+1⟩,rfl,rfl,by(try dsimp only);omega,by(try dsimp only);omega,by(try dsimp only);omega,by(try dsimp only);omega,sd @wX,by rw[Fm];simp only[go_sem, ↓reduceIte,Nat.reduceEqDiff,Nat.reduceAdd,Nat.reduceSub,Nat.reduceLeDiff,reduceCtorEq,wX,w1,w2],by rw[PT];simp only[go_sem, ↓reduceIte,Nat.reduceEqDiff,Nat.reduceAdd,Nat.reduceSub,Nat.reduceLeDiff,reduceCtorEq,wX,w1,w2]⟩)
   all_goals simp only[go_sem, ↓reduceIte,Nat.reduceEqDiff,Nat.reduceAdd,Nat.reduceSub,Nat.reduceLeDiff,reduceCtorEq,C7,a5,a0,a1,xQ,wX,w1,w2,x1,x2,x3]
 have lj:cnt=k:=by omega
 subst lj
 rcases aI1 with⟨h0,_⟩|⟨o1,o2,so1,so2,vo1,vo2,vn1,vn2,Qe,ag1,ag2⟩
 ·omega
 (try((repeat(revert hN;revert N;apply Pn.out));refine wk (tw @C7 (tw @a5 (tw @a0 (tw @a1 (tw @xQ @hk))))) ?_;(repeat(refine Pn.mk ?_;intro N hN))))
 have I:FR X o1 o2 R1 R2 cnt st_a.next:=⟨sX,so1,so2,fun i _=>s1 i,fun i _=>s2 i,fun i j _ _ h=>by have:=v1 i;rw[h,v1]at this;omega,fun i j _ _ h=>by have:=v2 i;rw[h,v2]at this;omega,by omega,vo1,vo2,fun i hi=>by rw[v1];omega,fun i hi=>by rw[v2];omega⟩
 refine aI (fun n env st=>∃i:Nat,n=(bs.length)-i/\i<=(bs.length)/\env 38=.int .i64 (i:Int)/\(st_a.next<=st.next/\(∀x:Id,x.bq<σ.next->st.get x=σ.get x)/\nH st.get X o1 o2 R1 R2 cnt (k5 (bs.take i)) (fun _ _=>0))) (bs.length) ⟨0,by omega,by omega,sl (tw @C7 (tw @a5 (tw @a0 (tw @a1 @xQ)))),⟨by(try dsimp only);omega,dp,Qe,ag1,ag2,fun j hj=>(aR j hj).1,fun j hj=>(aR j hj).2⟩⟩ ?_
 rintro n_b env_b st_b ⟨i,rfl,ble,b38,bI0⟩ eS
 have b0:=eS 0 (by kernel_rfl);have b1:=eS 1 (by kernel_rfl);have b5:=eS 5 (by kernel_rfl);have Pz:=eS 36 (by kernel_rfl);have PA:=eS 37 (by kernel_rfl)
 simp only[go_sem, ↓reduceIte,Nat.reduceEqDiff,Nat.reduceAdd,Nat.reduceSub,Nat.reduceLeDiff,reduceCtorEq,C7,a5,a0,a1,xQ]at b0 b1 b5 Pz PA
 clear eS
 obtain⟨bn,Nv,bM⟩:=bI0
 by_cases hi:(i:Int)<(bs.length:Int)
 ·have eR:∀{e:Env} {gg:Rows} {nx:Nat},(e 38=.int .i64 (IntKind.i64.wrap ((i:Int)+1)))->(st_a.next<=nx/\(∀x:Id,x.bq<σ.next->gg x=σ.get x)/\nH gg X o1 o2 R1 R2 cnt (k5 (bs.take (i+1))) (fun _ _=>0))->∃m0,m0<(bs.length)-i/\∃i:Nat,m0=(bs.length)-i/\i<=(bs.length)/\e 38=.int .i64 (i:Int)/\(st_a.next<=nx/\(∀x:Id,x.bq<σ.next->gg x=σ.get x)/\nH gg X o1 o2 R1 R2 cnt (k5 (bs.take i)) (fun _ _=>0)):=fun x1 x2=>⟨_,by omega,i+1,rfl,by omega,(by rw[x1,aA (by omega)]),x2⟩
  have fP:i<bs.length:=by omega
  have lh:(bs.map aC)[i]? =some (aC bs[i]):=by simp[fP]
  have fF:=hb _ (List.getElem_mem fP)
  have hsi:=dB _ (List.getElem_mem fP)
  have pM:k5 (bs.take (i+1))=nJ (k5 (bs.take i)) bs[i]:=by rw[List.take_succ_eq_append_getElem fP,Ek]
  have qq:=Ai (bs.take i) (fun _ _=>0) (fun b hb=>(dB b (List.mem_of_mem_take hb)).1) (fun _ _=>Int.le_refl _)
  have hle:=room_le (bs.take i) (fun _ _=>0) 0 (fun b hb=>(dB b (List.mem_of_mem_take hb)).2) (fun _ _=>Int.le_refl _) (Int.le_refl _)
  rw[List.length_take]at hle
  have fS:(bs.take i).foldl nJ (fun _ _=>0)=k5 (bs.take i):=rfl
  rw[fS]at qq hle
  generalize k5 (bs.take i)=c at *
  generalize bs[i]=b at *
  obtain⟨ha,sG⟩:=fF
  have gA:=rY (R:=R1) (n:=cnt) ha
  have gB:=rY (R:=R1) (n:=cnt) sG
  have rA:=bM.r1 _ ha
  have rB:=bM.r1 _ sG
  have cA:=dH (f:=c b.a) sG
  have cB:=dH (f:=c b.b) ha
  have sA:=om (f:=c) (a:=b.a) (d:=b.s) sG
  have gX:=bM.x
  have g1:=bM.t1
  have gG:(b.a:Int)<(cnt:Int):=by omega
  have fF:(b.b:Int)<(cnt:Int):=by omega
  have qX:=dq (i:=X) (n:=st_b.next) (by omega)
  have q1:=dq (i:=o1) (n:=st_b.next) (by omega)
  have qA:=dq (i:=R1 b.a) (n:=st_b.next) (by rw[v1];omega)
  have qB:=dq (i:=R1 b.b) (n:=st_b.next) (by rw[v1];omega)
  have xA:=Ap sX (s1 b.a) (by decide)
  have xB:=Ap sX (s1 b.b) (by decide)
  have yA:=Ap so1 (s1 b.a) (by decide)
  have yB:=Ap so1 (s1 b.b) (by decide)
  have l1:=j7 R1 cnt cnt
  have lA:=dD (c b.a) cnt
  have lB:=dD (c b.b) cnt
  have hAB:=hle b.a b.b
  have hBA:=hle b.b b.a
  have gAB:=qq b.a b.b
  have gBA:=qq b.b b.a
  have wA:IntKind.i64.wrap (c b.a b.b+b.s)=c b.a b.b+b.s:=aV (by omega)
  by_cases tz:b.a=b.b
  ·obtain⟨ba,bb,s⟩:=b
   dsimp only at *
   subst tz
   have Ov:=om (f:=bump c ba ba s) (a:=ba) (b:=ba) (d:=s) (n:=cnt) ha
   have TL:=dH (f:=bump c ba ba s ba) ha
   have hv:bump c ba ba s ba ba=c ba ba+s:=by simp[bump]
   have lC:=dD (bump c ba ba s ba) cnt
   have wB:IntKind.i64.wrap (c ba ba+s+s)=c ba ba+s+s:=aV (by omega)
   rw[hv]at Ov TL
   have sH:nJ c ⟨ba,ba,s⟩ ba=bump (bump c ba ba s) ba ba s ba:=rfl
   rw[bf]at cA sA Ov TL
   (try((repeat(revert hN;revert N;apply Pn.out));refine wk (tw @b38 (tw @b0 (tw @b1 (tw @b5 (tw @Pz (tw @PA (tw @hi (tw @lh (tw @aC.eq_1 (tw @gA (tw @rA (tw @cA (tw @sA (tw @gX (tw @g1 (tw @gG (tw @qX (tw @q1 (tw @qA (tw @xA (tw @yA (tw @l1 (tw @lA (tw @wA (tw @Ov (tw @TL (tw @lC @wB))))))))))))))))))))))))))) ?_;(repeat(refine Pn.mk ?_;intro N hN))))
   exact eR (sd (tw @b38 (tw @b0 (tw @b1 (tw @b5 (tw @Pz @PA)))))) (by
    (try dsimp only)
    refine⟨by omega,fun x hx=>?_,?_⟩
    ·have p1:=dq (i:=x) (n:=st_b.next) (by omega)
     have p2:=cP (a:=x) (b:=R1 ba) (by rw[v1];omega)
     have:=Nv x hx
     simp only[go_sem, ↓reduceIte,Nat.reduceEqDiff,Nat.reduceAdd,Nat.reduceSub,Nat.reduceLeDiff,reduceCtorEq,p1,p2,this]
    ·rw[pM]
     refine bM.add I ⟨ba,ba,s⟩ ha ha (fun h=>absurd rfl h) ?_ fun x hx h1 h2=>?_
     ·rw[sH]
      simp only[go_sem, ↓reduceIte,Nat.reduceEqDiff,Nat.reduceAdd,Nat.reduceSub,Nat.reduceLeDiff,reduceCtorEq]
     ·have p1:=dq (i:=x) (n:=st_b.next) (by omega)
      (try dsimp only at h2)
      simp only[go_sem, ↓reduceIte,Nat.reduceEqDiff,Nat.reduceAdd,Nat.reduceSub,Nat.reduceLeDiff,reduceCtorEq,p1,h2])
  ·have gU:(R1 b.a=R1 b.b)=False:=by simp only[eq_iff_iff,iff_false];exact fun h=>tz (I.i1 _ _ ha sG h)
   have IP:(R1 b.b=R1 b.a)=False:=by simp only[eq_iff_iff,iff_false];exact fun h=>tz (I.i1 _ _ ha sG h.symm)
   have Oj:bump c b.a b.b b.s b.b=c b.b:=jY fun h=>tz h.symm
   have Ov:=om (f:=bump c b.a b.b b.s) (a:=b.b) (b:=b.a) (d:=b.s) (n:=cnt) ha
   rw[Oj]at Ov
   have wB:IntKind.i64.wrap (c b.b b.a+b.s)=c b.b b.a+b.s:=aV (by omega)
   have sH:nJ c b b.b=bump (bump c b.a b.b b.s) b.b b.a b.s b.b:=rfl
   rw[bf]at cA cB sA Ov
   (try((repeat(revert hN;revert N;apply Pn.out));refine wk (tw @b38 (tw @b0 (tw @b1 (tw @b5 (tw @Pz (tw @PA (tw @hi (tw @lh (tw @aC.eq_1 (tw @gA (tw @gB (tw @rA (tw @rB (tw @cA (tw @cB (tw @sA (tw @gX (tw @g1 (tw @gG (tw @fF (tw @qX (tw @q1 (tw @qA (tw @qB (tw @xA (tw @xB (tw @yA (tw @yB (tw @l1 (tw @lA (tw @lB (tw @wA (tw @Ov (tw @wB (tw @gU @IP))))))))))))))))))))))))))))))))))) ?_;(repeat(refine Pn.mk ?_;intro N hN))))
   exact eR (sd (tw @b38 (tw @b0 (tw @b1 (tw @b5 (tw @Pz @PA)))))) (by
    (try dsimp only)
    refine⟨by omega,fun x hx=>?_,?_⟩
    ·have p1:=dq (i:=x) (n:=st_b.next) (by omega)
     have p2:=cP (a:=x) (b:=R1 b.b) (by rw[v1];omega)
     have p3:=cP (a:=x) (b:=R1 b.a) (by rw[v1];omega)
     have:=Nv x hx
     simp only[go_sem, ↓reduceIte,Nat.reduceEqDiff,Nat.reduceAdd,Nat.reduceSub,Nat.reduceLeDiff,reduceCtorEq,p1,p2,p3,this]
    ·rw[pM]
     refine bM.add I b ha sG (fun h=>?_) ?_ fun x hx h1 h2=>?_
     ·simp only[go_sem, ↓reduceIte,Nat.reduceEqDiff,Nat.reduceAdd,Nat.reduceSub,Nat.reduceLeDiff,reduceCtorEq,gU]
     ·rw[sH]
      simp only[go_sem, ↓reduceIte,Nat.reduceEqDiff,Nat.reduceAdd,Nat.reduceSub,Nat.reduceLeDiff,reduceCtorEq,gU]
     ·have p1:=dq (i:=x) (n:=st_b.next) (by omega)
      simp only[go_sem, ↓reduceIte,Nat.reduceEqDiff,Nat.reduceAdd,Nat.reduceSub,Nat.reduceLeDiff,reduceCtorEq,p1,h1,h2])
 ·have mb:i=bs.length:=by omega
  subst mb
  rw[List.take_length]at bM
  (try((repeat(revert hN;revert N;apply Pn.out));refine wk (tw @b38 (tw @b0 (tw @b1 (tw @b5 (tw @Pz (tw @PA @hi)))))) ?_;(repeat(refine Pn.mk ?_;intro N hN))))
  exact fc (.inl rfl) (vs:=[.ptr X 0 0]) (sd @Nat.zero_add) ⟨X,o1,o2,R1,R2,rfl,⟨I.sx,I.s1,I.s2,I.SS,I.Nb,I.i1,I.i2,by have:=I.vx;(try dsimp only);omega,by have:=I.v1;(try dsimp only);omega,by have:=I.v2;(try dsimp only);omega,fun j hj=>by have:=I.SV j hj;(try dsimp only);omega,fun j hj=>by have:=I.P8 j hj;(try dsimp only);omega⟩,by(try dsimp only);omega,bM,Nv⟩
end Go.Proofs.YtgoelphibofcmaaGreat.V

namespace Go.Proofs.YtgoelphibofcmaaGreat.V
structure Bq (n:Nat) (c f:Nat->Nat->Int) (x:Nat) (par:Nat->Int) (Q:List Nat) (i:Nat):Prop where
 nodup:Q.Nodup
 lt:∀v∈Q,v<n
 root:par x=(x:Int)
 mem:x∈Q
 iff:∀v,v<n->(0<=par v↔v∈Q)
 up:∀v∈Q,v≠x->∃u,u∈Q/\par v=(u:Int)/\Q.idxOf u<Q.idxOf v/\f u v<c u v
 done:∀j (_:j<i) (hl:j<Q.length) (v:Nat),v<n->f Q[j] v<c Q[j] v->v∈Q
 ile:i<=Q.length
section
variable {n:Nat} {c f:Nat->Nat->Int} {x:Nat} {par:Nat->Int} {Q:List Nat} {i:Nat}
theorem Bq.len (h:Bq n c f x par Q i):Q.length<=n:=oJ n Q h.nodup h.lt
theorem Bq.start (hx:x<n):Bq n c f x (fun v=>if v=x then(x:Int)else -1) [x] 0:=by
 refine⟨by simp,fun v hv=>by simp at hv;omega,by simp,by simp,fun v hv=>?_,fun v hv gU=>absurd (by simpa using hv) gU,fun j hj=>by omega,by simp⟩
 by_cases h:v=x
 ·simp[h]
 ·simp[h]
theorem Bq.visit (h:Bq n c f x par Q i) (hi:i<Q.length) {v:Nat} (hv:v<n) (hp:par v<0) (hr:f Q[i] v<c Q[i] v):Bq n c f x (fun w=>if w=v then(Q[i]:Int)else par w) (Q++[v]) i:=by
 have Uz:v∉Q:=fun hm=>by have:=(h.iff v hv).2 hm;omega
 have UE:x≠v:=fun e=>Uz (e▸h.mem)
 have zB:∀u∈Q,(Q++[v]).idxOf u=Q.idxOf u:=fun u hu=>by rw[List.idxOf_append,if_pos hu]
 have vN:(Q++[v]).idxOf v=Q.length:=by rw[List.idxOf_append,if_neg Uz];simp
 refine⟨?_,fun w hw=>?_,by simp only[if_neg UE];exact h.root,by simp[h.mem],fun w hw=>?_,fun w hw gU=>?_,fun j hj hl w hw IY=>?_,by simp;omega⟩
 ·refine List.nodup_append.2 ⟨h.nodup,by simp,fun a ha b hb=>?_⟩
  rw[List.mem_singleton.1 hb]
  rintro rfl;exact Uz ha
 ·rcases List.mem_append.1 hw with hw|hw
  ·exact h.lt w hw
  ·rw[List.mem_singleton.1 hw];exact hv
 ·by_cases Fp:w=v
  ·subst Fp;simp
  ·rw[if_neg Fp,h.iff w hw];simp[Fp]
 ·by_cases Fp:w=v
  ·subst Fp
   refine⟨Q[i],by simp,by simp,?_,hr⟩
   rw[zB _ (List.getElem_mem hi),vN]
   exact List.idxOf_lt_length_of_mem (List.getElem_mem hi)
  ·have hwQ:w∈Q:=by
    rcases List.mem_append.1 hw with hw|hw
    ·exact hw
    ·exact absurd (List.mem_singleton.1 hw) Fp
   obtain⟨u,h1,h2,h3,h4⟩:=h.up w hwQ gU
   exact⟨u,by simp[h1],by rw[if_neg Fp];exact h2,by rw[zB u h1,zB w hwQ];exact h3,h4⟩
 ·have gR:j<Q.length:=by have:=h.ile;omega
  rw[List.getElem_append_left gR]at IY
  exact List.mem_append_left _ (h.done j hj gR w hw IY)
theorem Bq.next (h:Bq n c f x par Q i) (hi:i<Q.length) (dJ:∀v,v<n->f Q[i] v<c Q[i] v->0<=par v):Bq n c f x par Q (i+1):=by
 refine⟨h.nodup,h.lt,h.root,h.mem,h.iff,h.up,fun j hj hl v hv hr=>?_,by omega⟩
 by_cases mE:j=i
 ·subst mE;exact(h.iff v hv).1 (dJ v hv hr)
 ·exact h.done j (by omega) hl v hv hr
theorem Bq.cut (h:Bq n c f x par Q Q.length) {y:Nat} (hy:y<n) (hp:par y<0):∃S:Nat->Bool,S x=true/\S y=false/\∀u v,u<n->v<n->S u=true->S v=false->¬f u v<c u v:=by
 refine⟨fun v=>decide (v∈Q),by simp[h.mem],?_,fun u v hu hv h1 h2 hr=>?_⟩
 ·have:y∉Q:=fun hm=>by have:=(h.iff y hy).2 hm;omega
  simp[this]
 ·simp only[decide_eq_true_eq,decide_eq_false_iff_not]at h1 h2
  obtain⟨j,hj,rfl⟩:=List.getElem_of_mem h1
  exact h2 (h.done j hj hj v hv hr)
def uJ (c f:Nat->Nat->Int) (Q:List Nat) (y k:Nat) (out:List Nat):Prop:=∃rest,out.reverse=k::rest/\(k::rest).getLast (by simp)=y/\qP f c (k::rest)/\(k::rest).Pairwise (fun a b=>Q.idxOf a<Q.idxOf b)/\∀v∈k::rest,v∈Q
theorem uJ.start {y:Nat} (hy:y∈Q):uJ c f Q y y [y]:=⟨[],rfl,rfl,trivial,by simp,by simpa using hy⟩
theorem uJ.step {y k u:Nat} {out:List Nat} (h:uJ c f Q y k out) (hu:u∈Q) (hi:Q.idxOf u<Q.idxOf k) (hr:f u k<c u k):uJ c f Q y u (out++[u]):=by
 obtain⟨rest,h1,h2,h3,h4,h5⟩:=h
 refine⟨k::rest,by rw[List.reverse_append,h1];rfl,by rw[List.getLast_cons (by simp)];exact h2,⟨hr,h3⟩,?_,?_⟩
 ·refine List.pairwise_cons.2 ⟨fun b hb=>?_,h4⟩
  rcases List.mem_cons.1 hb with rfl|hb
  ·exact hi
  ·have:=(List.pairwise_cons.1 h4).1 b hb;omega
 ·intro v hv
  rcases List.mem_cons.1 hv with rfl|hv
  ·exact hu
  ·exact h5 v hv
theorem uJ.len {y k:Nat} {out:List Nat} (h:uJ c f Q y k out) (hq:∀v∈Q,v<n):out.length<=n:=by
 obtain⟨rest,h1,_,_,h4,h5⟩:=h
 rw[<-List.length_reverse,h1]
 refine oJ n _ (h4.imp fun dM he=>?_) fun v hv=>hq v (h5 v hv)
 subst he;omega
structure Qd (n:Nat) (c f:Nat->Nat->Int) (x y:Nat) (p:List Nat):Prop where
 way:∃r,p=x::r/\(x::r).getLast (by simp)=y
 nodup:p.Nodup
 room:qP f c p
 lt:∀v∈p,v<n
theorem uJ.way {y:Nat} {out:List Nat} (h:uJ c f Q y x out) (hq:∀v∈Q,v<n):Qd n c f x y out.reverse:=by
 obtain⟨rest,h1,h2,h3,h4,h5⟩:=h
 rw[h1]
 exact⟨⟨rest,rfl,h2⟩,h4.imp fun dM he=>by subst he;omega,h3,fun v hv=>hq v (h5 v hv)⟩
end
end Go.Proofs.YtgoelphibofcmaaGreat.V

namespace Go.Proofs.YtgoelphibofcmaaGreat.V
open Go.RowKit
attribute [local irreducible] dG wpOps gz Call
attribute [local go_sem] aL fU eV gw gr cK upd cw K.av cU AV.cells AV.cell rowOf rowsOf part ld rowAt bJ cr dK ep iC bR dj eF gq fh dz ew dh de ec ee bV bh cX bU cZ cY eu ez ev cW cj di er bS aQ db cG iA bz cN bW aX dn aZ dL AV.undef bG bK ef eo dW ea cJ eE eH cD eB eA da dc List.getD_cons_zero List.getD_cons_succ List.getD_nil List.all_cons List.all_nil Bool.and_true Bool.true_and Bool.and_self Bool.not_true Bool.not_false Option.map_some Option.map_none Option.bind_some Option.bind_none List.length_cons List.length_nil List.take_succ_cons List.take_zero List.take_nil List.drop_succ_cons List.drop_zero List.drop_nil List.head?_cons List.map_cons List.map_nil List.getElem?_cons_zero List.getElem?_cons_succ List.cons_append List.nil_append List.append_nil List.length_map List.set_cons_zero List.set_cons_succ Nat.reduceMul eq_self Int.toNat_natCast Int.natCast_nonneg and_self true_and and_true decide_true decide_false Bool.false_eq_true Nat.zero_add Nat.add_zero List.contains_cons List.contains_nil Bool.or_false Bool.false_or beq_self_eq_true Nat.reduceBEq ne_eq not_true_eq_false not_false_eq_true Id.mk.injEq false_and and_false Nat.reduceLT Int.reduceLE Int.reduceLT Int.reduceToNat Int.reduceNeg Int.reduceAdd Nat.le_refl List.length_append beq_true beq_false Bool.not_eq_eq_eq_not or_false false_or dX ai aq aH bj bE cu aW br aU bp cV bP
def lR (l:List Nat) (i x:Nat):Nat:=if x<i∨l.length-i<=x then l.getD (l.length-1-x) 0 else l.getD x 0
theorem yU (l:List Nat):l.map eN=dE (fun x=>l.getD x 0) l.length:=by
 refine List.ext_getElem? fun i=>?_
 by_cases h:i<l.length
 ·rw[fw h,List.getElem?_map,List.getElem?_eq_getElem h];simp[List.getD_eq_getElem?_getD,h]
 ·rw[List.getElem?_eq_none (by simp;omega),List.getElem?_eq_none (by rw[gh];omega)]
theorem GZ (l:List Nat):dE (lR l 0) l.length=l.map eN:=by
 rw[yU]
 exact gV fun x hx=>by unfold lR;rw[if_neg (by omega)]
theorem JK (l:List Nat) {i:Nat} (h:l.length<=2*i+1) (hi:i<=l.length):dE (lR l i) l.length=l.reverse.map eN:=by
 rw[yU l.reverse,List.length_reverse]
 refine gV fun x hx=>?_
 have hr:l.reverse.getD x 0=l.getD (l.length-1-x) 0:=by
  rw[List.getD_eq_getElem?_getD,List.getElem?_reverse hx,List.getD_eq_getElem?_getD]
 rw[hr]
 unfold lR
 by_cases hc:x<i∨l.length-i<=x
 ·rw[if_pos hc]
 ·rw[if_neg hc]
  have:x=l.length-1-x:=by omega
  rw[<-this]
theorem G0 (l:List Nat) (hp:0<l.length) (hl:l.length<=1048576) (o:Id) (σ:au) (ho:σ.get o=some ⟨true,1,l.map eN⟩) (pK:o.bq<σ.next):
  Call Tryz.prog 273 [.own o 0 l.length] σ fun r σ'=>σ'.get o=some ⟨true,1,l.reverse.map eN⟩/\σ.next<=σ'.next/\∀i:Id,i.bq<σ.next->(i=o)=False->σ'.get i=σ.get i:=by
 refine eW ek rfl fun mV=>?_
 clear mV
 rw[<-GZ]at ho
 have SL:IntKind.i64.wrap ((l.length:Int)-1)=((l.length-1:Nat):Int):=by rw[aV (by omega)];omega
 (try((repeat(revert hN;revert N;apply Pn.out));refine wk @SL ?_;(repeat(refine Pn.mk ?_;intro N hN))))
 refine aI (fun m env st=>∃i:Nat,m=l.length-i/\2*i<=l.length+1/\i<=l.length/\env 2=.int .i64 (i:Int)/\env 3=.int .i64 ((l.length:Int)-1-i)/\st.get o=some ⟨true,1,dE (lR l i) l.length⟩/\σ.next<=st.next/\∀x:Id,x.bq<σ.next->(x=o)=False->st.get x=σ.get x) l.length ⟨0,rfl,by omega,by omega,by(simp only[go_sem, ↓reduceIte,Nat.reduceEqDiff,Nat.reduceAdd,Nat.reduceSub,Nat.reduceLeDiff,reduceCtorEq])<;>rfl,by(simp only[go_sem, ↓reduceIte,Nat.reduceEqDiff,Nat.reduceAdd,Nat.reduceSub,Nat.reduceLeDiff,reduceCtorEq,SL]);congr 1;omega,ho,by(try dsimp only);omega,fun x _ _=>rfl⟩ ?_
 rintro m env_b st_b ⟨i,rfl,yi,mb,b2,b3,bg,bn,eS⟩ bkp
 have b0:=bkp 0 (by kernel_rfl)
 simp only[go_sem, ↓reduceIte,Nat.reduceEqDiff,Nat.reduceAdd,Nat.reduceSub,Nat.reduceLeDiff,reduceCtorEq]at b0
 clear bkp
 have tl:=gh (lR l i) l.length
 have kG:=dq (i:=o) (n:=st_b.next) (by omega)
 by_cases hi:(i:Int)<(l.length:Int)-1-i
 ·have fP:i<l.length:=by omega
  obtain⟨j,hj⟩:∃j,j=l.length-1-i:=⟨_,rfl⟩
  have iO:j<l.length:=by omega
  have Li:(l.length:Int)-1-i=(j:Int):=by omega
  rw[Li]at b3 hi
  have g1:=fw (f:=lR l i) fP
  have g2:=fw (f:=lR l i) iO
  have e1:lR l i i=l.getD i 0:=by unfold lR;rw[if_neg (by omega)]
  have e2:lR l i j=l.getD j 0:=by unfold lR;rw[if_neg (by omega)]
  have MY:(dE (lR l i) l.length).set i (eN (l.getD j 0))=dE (fun x=>if x=i then l.getD j 0 else lR l i x) l.length:=pr fP (if_pos rfl) fun x _ hx=>if_neg hx
  have IZ:(dE (fun x=>if x=i then l.getD j 0 else lR l i x) l.length).set j (eN (l.getD i 0))=dE (lR l (i+1)) l.length:=pr iO (by unfold lR;rw[if_pos (by omega)];congr 1;omega) fun x hx PY=>by
   by_cases CX:x=i
   ·rw[if_pos CX];unfold lR;rw[if_pos (by omega)];congr 1;omega
   ·rw[if_neg CX];unfold lR
    by_cases hc:x<i∨l.length-i<=x
    ·rw[if_pos hc,if_pos (by omega)]
    ·rw[if_neg hc,if_neg (by omega)]
  have SU:=gh (fun x=>if x=i then l.getD j 0 else lR l i x) l.length
  have g3:=fw (f:=fun x=>if x=i then l.getD j 0 else lR l i x) iO
  rw[e1]at g1
  rw[e2]at g2
  rw[if_neg (by omega),e2]at g3
  rw[eN]at g1 g2 g3 MY IZ
  have hii:(i:Int)<(l.length:Int):=by omega
  have mE:(j:Int)<(l.length:Int):=by omega
  have mW:IntKind.i64.wrap ((i:Int)+1)=((i+1:Nat):Int):=aA (by omega)
  have oF:IntKind.i64.wrap ((j:Int)-1)=(l.length:Int)-1-((i+1:Nat):Int):=by rw[aV (by omega)];omega
  (try((repeat(revert hN;revert N;apply Pn.out));refine wk (tw @b0 (tw @b2 (tw @b3 (tw @bg (tw @hi (tw @hii (tw @mE (tw @g1 (tw @g2 (tw @g3 (tw @MY (tw @IZ (tw @tl (tw @SU (tw @kG (tw @mW @oF)))))))))))))))) ?_;(repeat(refine Pn.mk ?_;intro N hN))))
  refine⟨_,?_,i+1,rfl,by omega,by omega,sd @mW,sd @oF,sd @IZ,by(try dsimp only);omega,fun x hx AO=>?_⟩
  ·omega
  ·have:=eS x hx AO
   simp only[go_sem, ↓reduceIte,Nat.reduceEqDiff,Nat.reduceAdd,Nat.reduceSub,Nat.reduceLeDiff,reduceCtorEq,AO,this]
 ·rw[JK l (by omega) mb]at bg
  (try((repeat(revert hN;revert N;apply Pn.out));refine wk (tw @b0 (tw @b2 (tw @b3 (tw @bg @hi)))) ?_;(repeat(refine Pn.mk ?_;intro N hN))))
  exact fc (.inr rfl) (vs:=[]) (by simp only[fm,go_sem, ↓reduceIte,Nat.reduceEqDiff,Nat.reduceAdd,Nat.reduceSub,Nat.reduceLeDiff,reduceCtorEq]) ⟨bg,by(try dsimp only);omega,eS⟩
end Go.Proofs.YtgoelphibofcmaaGreat.V

namespace Go.Proofs.YtgoelphibofcmaaGreat.V
open Go.RowKit
attribute [local irreducible] dG wpOps gz Call
attribute [local go_sem] aL fU eV gw gr cK upd cw K.av cU AV.cells AV.cell rowOf rowsOf part ld rowAt bJ cr dK ep iC bR dj eF gq fh dz ew dh de ec ee bV bh cX bU cZ cY eu ez ev cW cj di er bS aQ db cG iA bz cN bW aX dn aZ dL AV.undef bG bK ef eo dW ea cJ eE eH cD eB eA da dc List.getD_cons_zero List.getD_cons_succ List.getD_nil List.all_cons List.all_nil Bool.and_true Bool.true_and Bool.and_self Bool.not_true Bool.not_false Option.map_some Option.map_none Option.bind_some Option.bind_none List.length_cons List.length_nil List.take_succ_cons List.take_zero List.take_nil List.drop_succ_cons List.drop_zero List.drop_nil List.head?_cons List.map_cons List.map_nil List.getElem?_cons_zero List.getElem?_cons_succ List.cons_append List.nil_append List.append_nil List.length_map List.set_cons_zero List.set_cons_succ Nat.reduceMul eq_self Int.toNat_natCast Int.natCast_nonneg and_self true_and and_true decide_true decide_false Bool.false_eq_true Nat.zero_add Nat.add_zero List.contains_cons List.contains_nil Bool.or_false Bool.false_or beq_self_eq_true Nat.reduceBEq ne_eq not_true_eq_false not_false_eq_true Id.mk.injEq false_and and_false Nat.reduceLT Int.reduceLE Int.reduceLT Int.reduceToNat Int.reduceNeg Int.reduceAdd Nat.le_refl List.length_append beq_true beq_false Bool.not_eq_eq_eq_not or_false false_or dX ai aq aH bj bE cu aW br aU bp cV bP
theorem RJ (cnt:Nat) (zD:1<=cnt) (hn:cnt<=1048576) (c f:Nat->Nat->Int) (x y:Nat) (hx:x<cnt) (hy:y<cnt):
  lW Tryz.prog 266 [.cQ (lD cnt c f),.int .i64 x,.int .i64 y] fun r=>(r=.cC/\∃S:Nat->Bool,S x=true/\S y=false/\∀u v,u<cnt->v<cnt->S u=true->S v=false->¬f u v<c u v)∨∃p:List Nat,r=.sl (p.map eN)/\Qd cnt c f x y p:=by
 refine lW.body ek rfl fun hl n0=>?_
 clear hl
 have lM:=wS c cnt
 have jI:(0:Int)<=(cnt:Int):=by omega
 have CX:(x:Int)<(cnt:Int):=by omega
 have SO:(y:Int)<(cnt:Int):=by omega
 (try((repeat(revert hN;revert N;apply Pn.out));refine wk (tw @lD.eq_1 @lM) ?_;(repeat(refine Pn.mk ?_;intro N hN))))
 refine .inr (aG _ _ _ _ _ (fun r σ1 hq=>?_) (JI cnt zD hn (-1) ⟨266002000,n0+1+1⟩ _ (sd @Nat.zero_add) (by(try dsimp only);omega)))
 obtain⟨o,rfl,ho,Lp,Lq,kq⟩:=hq
 (try dsimp only at ho Lp Lq kq)
 refine hN _ _ ?_
 clear hN N
 have kG:=dq Lq
 have pU:(cnt:Int)<=1048576:=by omega
 have QG:qj<qj+cnt:=by omega
 have gH:List.replicate cnt [AV.int .i64 (-1)]=dQ (fun _=>-1) cnt:=by
  refine List.ext_getElem? fun i=>?_
  by_cases h:i<cnt
  ·rw[dH h,List.getElem?_replicate,if_pos h];rfl
  ·rw[List.getElem?_eq_none (by simp;omega),List.getElem?_eq_none (by rw[dD];omega)]
 rw[gH]at ho
 have BH:(dQ (fun _=>-1) cnt).set x (bf (x:Int))=dQ (fun v=>if v=x then(x:Int)else -1) cnt:=k8 hx (if_pos rfl) fun v _ hv=>if_neg hv
 have hg0:=dH (f:=fun _=>-1) hx
 have tl0:=dD (fun _=>-1) cnt
 rw[bf]at BH hg0
 (try((repeat(revert hN;revert N;apply Pn.out));refine wk (tw @lD.eq_1 (tw @lM (tw @jI (tw @pU @kG)))) ?_;(repeat(refine Pn.mk ?_;intro N hN))))
 refine Kh ?_
 simp only[go_sem, ↓reduceIte,Nat.reduceEqDiff,Nat.reduceAdd,Nat.reduceSub,Nat.reduceLeDiff,reduceCtorEq,QG]
 refine hN _ _ ?_
 clear hN N
 (try((repeat(revert hN;revert N;apply Pn.out));refine wk (tw @ho (tw @kG (tw @BH (tw @hg0 (tw @tl0 @CX))))) ?_;(repeat(refine Pn.mk ?_;intro N hN))))
 obtain⟨C,hC⟩:∃C:Id,C=⟨266003001,σ1.next+1⟩:=⟨_,rfl⟩
 have Q1:=cP (a:=o) (b:=C) (by rw[hC];(try dsimp only);omega)
 have hCv:C.bq=σ1.next+1:=by rw[hC]
 refine aI (fun m env st=>∃(par:Nat->Int) (Q:List Nat) (i:Nat),m=cnt-i/\Bq cnt c f x par Q i/\st.get o=some ⟨true,1,dQ par cnt⟩/\st.get C=some ⟨true,qj+cnt,(Q.drop i).map eN⟩/\σ1.next+1<st.next) cnt ⟨_,[x],0,rfl,Bq.start hx,sd @kG,by rw[hC];simp only[go_sem, ↓reduceIte,Nat.reduceEqDiff,Nat.reduceAdd,Nat.reduceSub,Nat.reduceLeDiff,reduceCtorEq,kG];rfl,by(try dsimp only);omega⟩ ?_
 rintro m env_b st_b ⟨par,Q,i,rfl,hB,bgo,bgC,bn⟩ bkp
 have b0:=bkp 0 (by kernel_rfl)
 have b1:=bkp 1 (by kernel_rfl)
 have b2:=bkp 2 (by kernel_rfl)
 have b7:=bkp 7 (by kernel_rfl)
 have b8:=bkp 8 (by kernel_rfl)
 have b9:=bkp 9 (by kernel_rfl)
 rw[<-hC]at b9
 simp only[go_sem, ↓reduceIte,Nat.reduceEqDiff,Nat.reduceAdd,Nat.reduceSub,Nat.reduceLeDiff,reduceCtorEq]at b0 b1 b2 b7 b8 b9
 clear bkp
 have hQn:=hB.len
 have mb:=hB.ile
 have Sq:((Q.drop i).map eN).length=Q.length-i:=by simp
 by_cases hi:i<Q.length
 ·have lp:(0:Int)<((Q.length-i:Nat):Int):=by omega
  have sb:Q.drop i=Q[i]::Q.drop (i+1):=List.drop_eq_getElem_cons hi
  obtain⟨u,hu⟩:∃u,u=Q[i]:=⟨_,rfl⟩
  have hun:u<cnt:=by rw[hu];exact hB.lt _ (List.getElem_mem hi)
  rw[<-hu]at sb
  (try((repeat(revert hN;revert N;apply Pn.out));refine wk (tw @b0 (tw @b1 (tw @b2 (tw @b7 (tw @b8 (tw @b9 (tw @bgC (tw @Sq @lp)))))))) ?_;(repeat(refine Pn.mk ?_;intro N hN))))
  refine Kh ?_
  rw[sb,List.map_cons,show eN u=[.int .i64 (u:Int)]from rfl]at bgC
  simp only[go_sem, ↓reduceIte,Nat.reduceEqDiff,Nat.reduceAdd,Nat.reduceSub,Nat.reduceLeDiff,reduceCtorEq,b9,bgC]
  refine hN _ _ ?_
  clear hN N
  (try((repeat(revert hN;revert N;apply Pn.out));refine wk @b7 ?_;(repeat(refine Pn.mk ?_;intro N hN))))
  refine aI (fun m env st=>∃(v:Nat) (par':Nat->Int) (Q':List Nat),m=cnt-v/\v<=cnt/\env 36=.int .i64 (v:Int)/\Bq cnt c f x par' Q' i/\(∃h:i<Q'.length,Q'[i]=u)/\st.get o=some ⟨true,1,dQ par' cnt⟩/\st.get C=some ⟨true,qj+cnt,(Q'.drop (i+1)).map eN⟩/\σ1.next+1<st.next/\∀w,w<v->f u w<c u w->0<=par' w) cnt ⟨0,par,Q,rfl,Nat.zero_le _,by(simp only[go_sem, ↓reduceIte,Nat.reduceEqDiff,Nat.reduceAdd,Nat.reduceSub,Nat.reduceLeDiff,reduceCtorEq])<;>rfl,hB,⟨hi,hu.symm⟩,sd (tw @Q1 @bgo),sd @Q1,by(try dsimp only);omega,fun w hw=>absurd hw (Nat.not_lt_zero w)⟩ ?_
  rintro m env_c st_c ⟨v,par',Q',rfl,hvn,c36,dC,⟨qN,Fo⟩,x7,cgC,cn,dJ⟩ ckp
  have c0:=ckp 0 (by kernel_rfl)
  have c1:=ckp 1 (by kernel_rfl)
  have c2:=ckp 2 (by kernel_rfl)
  have c7:=ckp 7 (by kernel_rfl)
  have c8:=ckp 8 (by kernel_rfl)
  have c9:=ckp 9 (by kernel_rfl)
  have jB:=ckp 10 (by kernel_rfl)
  have Ny:=ckp 35 (by kernel_rfl)
  simp only[go_sem, ↓reduceIte,Nat.reduceEqDiff,Nat.reduceAdd,Nat.reduceSub,Nat.reduceLeDiff,reduceCtorEq,b0,b1,b2,b7,b8,b9]at c0 c1 c2 c7 c8 c9 jB Ny
  clear ckp
  have tl:=dD par' cnt
  by_cases hv:(v:Int)<(cnt:Int)
  ·have DN:v<cnt:=by omega
   have N9:=dH (f:=par') DN
   have kq:=NL cnt c f u v hun DN
   have hw:IntKind.i64.wrap ((v:Int)+1)=((v+1:Nat):Int):=aA (by omega)
   rw[bf]at N9
   rw[lD]at kq
   by_cases j0:par' v<0
   ·by_cases hr:f u v<c u v
    ·rw[decide_eq_true hr]at kq
     have dO:(dQ par' cnt).set v (bf (u:Int))=dQ (fun w=>if w=v then(u:Int)else par' w) cnt:=k8 DN (if_pos rfl) fun w _ hw=>if_neg hw
     rw[bf]at dO
     have pI:=dC.visit qN DN j0 (by rw[Fo];exact hr)
     rw[Fo]at pI
     have hQ2:=pI.len
     rw[List.length_append]at hQ2
     simp only[List.length_singleton]at hQ2
     have fS:qj+(Q'.drop (i+1)).length<qj+cnt:=by rw[List.length_drop];omega
     (repeat(first|((repeat(revert hN;revert N;apply Pn.out));refine wk (tw @lD.eq_1 (tw @c0 (tw @c7 (tw @c8 (tw @c9 (tw @jB (tw @c36 (tw @Ny (tw @hv (tw @x7 (tw @N9 (tw @tl (tw @j0 @dO))))))))))))) ?_;(repeat(refine Pn.mk ?_;intro N hN)))|((try apply Or.inl);refine⟨_,aj.x (kq) (sd (tw @lD.eq_1 (tw @c0 (tw @c7 (tw @c8 (tw @c9 (tw @jB (tw @c36 (tw @Ny (tw @hv (tw @x7 (tw @N9 (tw @tl (tw @j0 @dO)))))))))))))),?_⟩;refine hN _ _ ?_;clear hN N)))
     refine Kh ?_
     have hq:(Q'.drop (i+1)).map eN++[[.int .i64 (v:Int)]]=((Q'++[v]).drop (i+1)).map eN:=by rw[List.drop_append_of_le_length (by omega),List.map_append];rfl
     simp only[go_sem, ↓reduceIte,Nat.reduceEqDiff,Nat.reduceAdd,Nat.reduceSub,Nat.reduceLeDiff,reduceCtorEq,c9,cgC,fS,Q1,hq]
     refine hN _ _ ?_
     clear hN N
     (try((repeat(revert hN;revert N;apply Pn.out));refine wk (tw @c36 @hw) ?_;(repeat(refine Pn.mk ?_;intro N hN))))
     refine⟨_,?_,v+1,_,_,rfl,DN,sd @hw,pI,⟨by rw[List.length_append];omega,by rw[List.getElem_append_left qN];exact Fo⟩,sd @Q1,sd @Q1,by(try dsimp only);omega,fun w hw IY=>?_⟩
     ·omega
     ·by_cases Fp:w=v
      ·rw[if_pos Fp];omega
      ·rw[if_neg Fp];exact dJ w (by omega) IY
    ·rw[decide_eq_false hr]at kq
     (repeat(first|((repeat(revert hN;revert N;apply Pn.out));refine wk (tw @lD.eq_1 (tw @c0 (tw @c7 (tw @c8 (tw @c9 (tw @jB (tw @c36 (tw @Ny (tw @hv (tw @x7 (tw @N9 (tw @tl (tw @j0 @hw))))))))))))) ?_;(repeat(refine Pn.mk ?_;intro N hN)))|((try apply Or.inl);refine⟨_,aj.x (kq) (sd (tw @lD.eq_1 (tw @c0 (tw @c7 (tw @c8 (tw @c9 (tw @jB (tw @c36 (tw @Ny (tw @hv (tw @x7 (tw @N9 (tw @tl (tw @j0 @hw)))))))))))))),?_⟩;refine hN _ _ ?_;clear hN N)))
     refine⟨_,?_,v+1,par',Q',rfl,DN,sd @hw,dC,⟨qN,Fo⟩,sd @x7,sd @cgC,by(try dsimp only);omega,fun w hw IY=>?_⟩
     ·omega
     ·by_cases Fp:w=v
      ·subst Fp;exact absurd IY hr
      ·exact dJ w (by omega) IY
   ·(try((repeat(revert hN;revert N;apply Pn.out));refine wk (tw @lD.eq_1 (tw @c0 (tw @c7 (tw @c8 (tw @c9 (tw @jB (tw @c36 (tw @Ny (tw @hv (tw @x7 (tw @N9 (tw @tl (tw @j0 @hw))))))))))))) ?_;(repeat(refine Pn.mk ?_;intro N hN))))
    refine⟨_,?_,v+1,par',Q',rfl,DN,sd @hw,dC,⟨qN,Fo⟩,sd @x7,sd @cgC,by(try dsimp only);omega,fun w hw IY=>?_⟩
    ·omega
    ·by_cases Fp:w=v
     ·subst Fp;omega
     ·exact dJ w (by omega) IY
  ·have hvc:v=cnt:=by omega
   subst hvc
   (try((repeat(revert hN;revert N;apply Pn.out));refine wk (tw @c36 (tw @Ny @hv)) ?_;(repeat(refine Pn.mk ?_;intro N hN))))
   refine⟨_,?_,par',Q',i+1,rfl,dC.next qN fun w hw hr=>dJ w hw (by rw[<-Fo];exact hr),sd @x7,sd @cgC,by(try dsimp only);omega⟩
   omega
 ·have hiQ:i=Q.length:=by omega
  subst hiQ
  have lp:¬(0:Int)<((Q.length-Q.length:Nat):Int):=by omega
  have T7:=dH (f:=par) hy
  have tl:=dD par cnt
  rw[bf]at T7
  by_cases j0:par y<0
  ·(try((repeat(revert hN;revert N;apply Pn.out));refine wk (tw @b0 (tw @b1 (tw @b2 (tw @b7 (tw @b8 (tw @b9 (tw @bgC (tw @Sq (tw @lp (tw @bgo (tw @T7 (tw @tl (tw @SO @j0))))))))))))) ?_;(repeat(refine Pn.mk ?_;intro N hN))))
   exact⟨[.cC],sd @Nat.zero_add,.cC,kP _ _,.inl ⟨rfl,hB.cut hy j0⟩⟩
  ·(try((repeat(revert hN;revert N;apply Pn.out));refine wk (tw @b0 (tw @b1 (tw @b2 (tw @b7 (tw @b8 (tw @b9 (tw @bgC (tw @Sq (tw @lp (tw @bgo (tw @T7 (tw @tl (tw @SO @j0))))))))))))) ?_;(repeat(refine Pn.mk ?_;intro N hN))))
   refine aI (fun m env st=>∃(k:Nat) (out:List Nat) (p:Id),m=Q.idxOf k/\env 13=.int .i64 (k:Int)/\env 12=.own p 0 out.length/\st.get p=some ⟨true,1,out.map eN⟩/\p.bq<st.next/\st_b.next<=p.bq/\k∈Q/\uJ c f Q y k out/\st.get o=some ⟨true,1,dQ par cnt⟩) (Q.idxOf y) ⟨y,[y],⟨266017001,st_b.next+1+1⟩,rfl,by(simp only[go_sem, ↓reduceIte,Nat.reduceEqDiff,Nat.reduceAdd,Nat.reduceSub,Nat.reduceLeDiff,reduceCtorEq]),by(simp only[go_sem, ↓reduceIte,Nat.reduceEqDiff,Nat.reduceAdd,Nat.reduceSub,Nat.reduceLeDiff,reduceCtorEq])<;>rfl,by(simp only[go_sem, ↓reduceIte,Nat.reduceEqDiff,Nat.reduceAdd,Nat.reduceSub,Nat.reduceLeDiff,reduceCtorEq])<;>rfl,by(try dsimp only);omega,by(try dsimp only);omega,(hB.iff y hy).1 (by omega),uJ.start ((hB.iff y hy).1 (by omega)),by(have PV:=dq (i:=o) (n:=st_b.next) (by omega));simp only[go_sem, ↓reduceIte,Nat.reduceEqDiff,Nat.reduceAdd,Nat.reduceSub,Nat.reduceLeDiff,reduceCtorEq,PV,bgo]⟩ ?_
   rintro m env_d st_d ⟨k,out,p,rfl,d13,d12,dgp,dpn,dpo,hkQ,uy,dgo⟩ dkp
   have d1:=dkp 1 (by kernel_rfl)
   have d8:=dkp 8 (by kernel_rfl)
   simp only[go_sem, ↓reduceIte,Nat.reduceEqDiff,Nat.reduceAdd,Nat.reduceSub,Nat.reduceLeDiff,reduceCtorEq,b1,b8]at d1 d8
   clear dkp
   have si:=dq dpn
   have BL:=dq (i:=o) (n:=st_d.next) (by omega)
   have dY:=cP (a:=o) (b:=p) (by omega)
   have hol:=uy.len hB.lt
   have eZ:=hB.lt k hkQ
   have pa:(out.map eN).length=out.length:=by simp
   by_cases Sx:k=x
   ·have hd:decide ((k:Int)=(x:Int))=true:=decide_eq_true (by rw[Sx])
    have Uo:0<out.length:=by
     obtain⟨rest,h1,_⟩:=uy
     rw[<-List.length_reverse,h1];simp
    (try((repeat(revert hN;revert N;apply Pn.out));refine wk (tw @d1 (tw @d8 (tw @d12 (tw @d13 (tw @hd @Bool.not_true))))) ?_;(repeat(refine Pn.mk ?_;intro N hN))))
    refine .inr (aG _ _ _ _ _ (fun r σ2 hq=>?_) (G0 out Uo (by omega) p _ dgp (by(try dsimp only);omega)))
    obtain⟨QP,mU,Bz⟩:=hq
    refine hN _ _ ?_
    clear hN N
    (try((repeat(revert hN;revert N;apply Pn.out));refine wk @d12 ?_;(repeat(refine Pn.mk ?_;intro N hN))))
    refine⟨[.own p 0 out.length],sd @d12,.sl (out.reverse.map eN),?_,.inr ⟨out.reverse,rfl,by subst Sx;exact uy.way hB.lt⟩⟩
    exact fY (sz:=1) QP (by simp) fun a=>NM _ 4 a
   ·have hd:decide ((k:Int)=(x:Int))=false:=decide_eq_false fun h=>Sx (by omega)
    obtain⟨u,huQ,hpu,zB,hr⟩:=hB.up k hkQ Sx
    have eM:=dH (f:=par) eZ
    rw[bf,hpu]at eM
    have hki:(k:Int)<(cnt:Int):=by omega
    have e1:out.length+1<=16777216:=by omega
    (try((repeat(revert hN;revert N;apply Pn.out));refine wk (tw @d1 (tw @d8 (tw @d12 (tw @d13 (tw @hd (tw @Bool.not_false (tw @dgo (tw @dgp (tw @eM (tw @tl (tw @hki (tw @si (tw @BL (tw @dY (tw @pa @e1))))))))))))))) ?_;(repeat(refine Pn.mk ?_;intro N hN))))
    refine⟨_,zB,u,out++[u],⟨266021003,st_d.next+1+1⟩,rfl,sd @Nat.zero_add,by rw[List.length_append];simp only[go_sem, ↓reduceIte,Nat.reduceEqDiff,Nat.reduceAdd,Nat.reduceSub,Nat.reduceLeDiff,reduceCtorEq,List.length_cons,List.length_nil],by rw[List.map_append,List.map_cons,List.map_nil];simp only[go_sem, ↓reduceIte,Nat.reduceEqDiff,Nat.reduceAdd,Nat.reduceSub,Nat.reduceLeDiff,reduceCtorEq,eN],by(try dsimp only);omega,by(try dsimp only);omega,huQ,uy.step huQ zB hr,sd (tw @BL (tw @dY @dgo))⟩
end Go.Proofs.YtgoelphibofcmaaGreat.V

namespace Go.Proofs.YtgoelphibofcmaaGreat.V
open Go.RowKit
attribute [local irreducible] dG wpOps gz Call
attribute [local go_sem] aL fU eV gw gr cK upd cw K.av cU AV.cells AV.cell rowOf rowsOf part ld rowAt bJ cr dK ep iC bR dj eF gq fh dz ew dh de ec ee bV bh cX bU cZ cY eu ez ev cW cj di er bS aQ db cG iA bz cN bW aX dn aZ dL AV.undef bG bK ef eo dW ea cJ eE eH cD eB eA da dc List.getD_cons_zero List.getD_cons_succ List.getD_nil List.all_cons List.all_nil Bool.and_true Bool.true_and Bool.and_self Bool.not_true Bool.not_false Option.map_some Option.map_none Option.bind_some Option.bind_none List.length_cons List.length_nil List.take_succ_cons List.take_zero List.take_nil List.drop_succ_cons List.drop_zero List.drop_nil List.head?_cons List.map_cons List.map_nil List.getElem?_cons_zero List.getElem?_cons_succ List.cons_append List.nil_append List.append_nil List.length_map List.set_cons_zero List.set_cons_succ Nat.reduceMul eq_self Int.toNat_natCast Int.natCast_nonneg and_self true_and and_true decide_true decide_false Bool.false_eq_true Nat.zero_add Nat.add_zero List.contains_cons List.contains_nil Bool.or_false Bool.false_or beq_self_eq_true Nat.reduceBEq ne_eq not_true_eq_false not_false_eq_true Id.mk.injEq false_and and_false Nat.reduceLT Int.reduceLE Int.reduceLT Int.reduceToNat Int.reduceNeg Int.reduceAdd Nat.le_refl List.length_append beq_true beq_false Bool.not_eq_eq_eq_not or_false false_or dX ai aq aH bj bE cu aW br aU bp cV bP
theorem AX (b:Nat):∀(l:List Nat) (a:Nat) (f:Nat->Nat->Int),l7 f ((a::l)++[b])=ki (l7 f (a::l)) ((a::l).getLast (by simp)) b
 |[],a,f=>rfl
 |c::l,a,f=>by
  rw[List.cons_append,List.cons_append,l7,<-List.cons_append,AX b l c (ki f a c),l7,List.getLast_cons_cons]
theorem FX {p:List Nat} {f:Nat->Nat->Int} {i:Nat} (h1:1<=i) (hi:i<p.length):l7 f (p.take (i+1))=ki (l7 f (p.take i)) (p[i-1]'(by omega)) p[i]:=by
 rw[List.take_succ_eq_append_getElem hi]
 have gU:p.take i≠[]:=by
  intro h
  have:(p.take i).length=0:=by rw[h];rfl
  rw[List.length_take]at this;omega
 obtain⟨a,l,Ku⟩:∃a l,p.take i=a::l:=by
  cases h:p.take i with
  |nil=>exact absurd h gU
  |cons a l=>exact⟨a,l,rfl⟩
 have vN:(p.take i).getLast gU=p[i-1]'(by omega):=by
  rw[List.getLast_eq_getElem,List.getElem_take]
  congr 1
  rw[List.length_take];omega
 simp only[Ku]at vN ⊢
 rw[AX,vN]
theorem GV (f:Nat->Nat->Int) (a b u v:Nat):ki f a b u v<=f u v+1/\f u v-1<=ki f a b u v:=by
 unfold ki bump
 split<;>split<;>constructor<;>omega
theorem l8:∀(p:List Nat) (f:Nat->Nat->Int) (u v:Nat),l7 f p u v<=f u v+p.length/\f u v-p.length<=l7 f p u v
 |[],f,u,v=>by simp[l7]
 |[_],f,u,v=>by simp[l7];omega
 |a::b::r,f,u,v=>by
  rw[l7]
  have h1:=l8 (b::r) (ki f a b) u v
  have h2:=GV f a b u v
  simp only[List.length_cons]at h1 ⊢
  omega
theorem nH.push {g g':Rows} {X o1 o2:Id} {R1 R2:Nat->Id} {n nb:Nat} {c f:Nat->Nat->Int} (I:FR X o1 o2 R1 R2 n nb) (h:nH g X o1 o2 R1 R2 n c f) {a b:Nat} (ha:a<n) (hb:b<n) (tz:a≠b) (hA:g' (R2 a)=some ⟨true,1,dQ (bump f a b 1 a) n⟩) (hB:g' (R2 b)=some ⟨true,1,dQ (bump (bump f a b 1) b a (-1) b) n⟩) (hf:∀i:Id,i.bq<nb->(i=R2 a)=False->(i=R2 b)=False->g' i=g i):nH g' X o1 o2 R1 R2 n c (ki f a b):=by
 have ne:∀{i:Id} {s:Nat},i.site=s->(s==245005006)=false->∀a,a<n->(i=R2 a)=False:=fun {i s} hi hs a ha=>by
  simp only[eq_iff_iff,iff_false]
  rintro rfl
  rw[I.Nb a ha]at hi
  subst hi
  simp at hs
 refine⟨(hf _ I.vx (ne I.sx (by decide) _ ha) (ne I.sx (by decide) _ hb)).trans h.x,(hf _ I.v1 (ne I.s1 (by decide) _ ha) (ne I.s1 (by decide) _ hb)).trans h.t1,(hf _ I.v2 (ne I.s2 (by decide) _ ha) (ne I.s2 (by decide) _ hb)).trans h.t2,fun i hi=>(hf _ (I.SV i hi) (ne (I.SS i hi) (by decide) _ ha) (ne (I.SS i hi) (by decide) _ hb)).trans (h.r1 i hi),fun i hi=>?_⟩
 by_cases Kz:i=b
 ·subst Kz;exact hB
 ·by_cases Ky:i=a
  ·subst Ky
   rw[hA,ki,jY Kz]
  ·rw[ki,jY Kz,jY Ky,hf _ (I.P8 i hi) (by simp only[eq_iff_iff,iff_false];exact fun he=>Ky (I.i2 i _ hi ha he)) (by simp only[eq_iff_iff,iff_false];exact fun he=>Kz (I.i2 i _ hi hb he))]
   exact h.r2 i hi
theorem OX (cnt:Nat) (zD:1<=cnt) (hn:cnt<=1048576) (c:Nat->Nat->Int) (hc:∀u v,u<cnt->v<cnt->0<=c u v/\c u v<=16777216) (x y:Nat) (hx:x<cnt) (hy:y<cnt) (M3:x≠y) (t:Int) (ht:t<=1099511627776)
  (X o1 o2:Id) (R1 R2:Nat->Id) (nb:Nat) (I:FR X o1 o2 R1 R2 cnt nb) (σ:au) (hM:nH σ.get X o1 o2 R1 R2 cnt c (fun _ _=>0)) (SC:nb<=σ.next):
  Call Tryz.prog 246 [.ptr X 0 0,.int .i64 x,.int .i64 y,.int .i64 t] σ fun r σ'=>∃val:Int,r=.int .i64 val/\(val<t↔∃S:Nat->Bool,S x=true/\S y=false/\ma cnt S c<t)/\σ.next<=σ'.next:=by
 refine eW ek rfl fun hl=>?_
 clear hl
 have hxS:(fun v=>decide (v=x)) x=true:=by simp
 have hyS:(fun v=>decide (v=x)) y=false:=by simp;exact fun h=>M3 h.symm
 obtain⟨top,Ux⟩:∃top,top=ma cnt (fun v=>decide (v=x)) c:=⟨_,rfl⟩
 (try((repeat(revert hN;revert N;apply Pn.out));refine wk @Nat.zero_add ?_;(repeat(refine Pn.mk ?_;intro N hN))))
 refine aI (fun m env st=>∃(k:Nat) (f:Nat->Nat->Int),m=(top-k).toNat/\env 9=.int .i64 (k:Int)/\lx cnt c f x y k/\nH st.get X o1 o2 R1 R2 cnt c f/\σ.next<=st.next/\(0<k->(k:Int)<=t)/\∀u v,-((k:Int)*(cnt:Int))<=f u v) (top-0).toNat ⟨0,fun _ _=>0,rfl,by(simp only[go_sem, ↓reduceIte,Nat.reduceEqDiff,Nat.reduceAdd,Nat.reduceSub,Nat.reduceLeDiff,reduceCtorEq])<;>rfl,lx.zero fun u v hu hv=>(hc u v hu hv).1,hM,by(try dsimp only);omega,fun h=>absurd h (Nat.lt_irrefl 0),fun u v=>by simp⟩ ?_
 rintro m env_b st_b ⟨k,f,rfl,b9,hF,bM,bn,bk,blo⟩ bkp
 have b0:=bkp 0 (by kernel_rfl)
 have b1:=bkp 1 (by kernel_rfl)
 have b2:=bkp 2 (by kernel_rfl)
 have b3:=bkp 3 (by kernel_rfl)
 simp only[go_sem, ↓reduceIte,Nat.reduceEqDiff,Nat.reduceAdd,Nat.reduceSub,Nat.reduceLeDiff,reduceCtorEq]at b0 b1 b2 b3
 clear bkp
 have hz:cL (dX st_b.get) 6 [.ptr X 0 0,.int .i64 (x:Int),.int .i64 (y:Int)]=some [.cQ (lD cnt c f),.int .i64 x,.int .i64 y]:=by simp only[ai,aq,bM.fz,aH,Option.map_some]
 (try((repeat(revert hN;revert N;apply Pn.out));refine wk (tw @b0 (tw @b1 (tw @b2 (tw @b3 @b9)))) ?_;(repeat(refine Pn.mk ?_;intro N hN))))
 refine .inr (aG _ _ _ _ _ (fun r σ1 hq=>?_) ((RJ cnt zD hn c f x y hx hy).x mixed hz))
 obtain⟨Ot,rfl⟩:=hq
 refine hN _ _ ?_
 clear hN N
 rcases Ot with⟨rfl,S,N3,N4,Sg⟩|⟨p,rfl,hW⟩
 ·(try((repeat(revert hN;revert N;apply Pn.out));refine wk (tw @b0 (tw @b1 (tw @b2 (tw @b3 (tw @b9 (tw @Bool.not_true @Bool.not_false)))))) ?_;(repeat(refine Pn.mk ?_;intro N hN))))
  refine fc (.inl rfl) (vs:=[.int .i64 (k:Int)]) (sd @Nat.zero_add) ⟨(k:Int),rfl,⟨fun h=>⟨S,N3,N4,by rw[<-hF.full N3 N4 Sg];exact h⟩,fun⟨S',h1,h2,h3⟩=>by have:=hF.bound h1 h2;omega⟩,by(try dsimp only);omega⟩
 ·obtain⟨⟨rs,rfl,vN⟩,mc,fS,hplt⟩:=hW
  by_cases Lj:t<=(k:Int)
  ·(try((repeat(revert hN;revert N;apply Pn.out));refine wk (tw @b0 (tw @b1 (tw @b2 (tw @b3 (tw @b9 (tw @Lj (tw @Bool.not_true @Bool.not_false))))))) ?_;(repeat(refine Pn.mk ?_;intro N hN))))
   refine fc (.inl rfl) (vs:=[.int .i64 (k:Int)]) (sd @Nat.zero_add) ⟨(k:Int),rfl,⟨fun h=>by omega,fun⟨S',h1,h2,h3⟩=>by have:=hF.bound h1 h2;omega⟩,by(try dsimp only);omega⟩
  ·(try((repeat(revert hN;revert N;apply Pn.out));refine wk (tw @b0 (tw @b1 (tw @b2 (tw @b3 (tw @b9 (tw @Lj (tw @Bool.not_true @Bool.not_false))))))) ?_;(repeat(refine Pn.mk ?_;intro N hN))))
   have mH:=oJ cnt _ mc hplt
   have hkc:(k:Int)*(cnt:Int)<=1099511627776*1048576:=Int.mul_le_mul (by omega) (by omega) (by omega) (by omega)
   have hfb:=hF.bound (S:=fun v=>decide (v=x)) hxS hyS
   have hnear:=l8
   obtain⟨p,hp⟩:∃p,p=x::rs:=⟨_,rfl⟩
   have Og:eN x::List.map eN rs=p.map eN:=by rw[hp];rfl
   rw[Og]
   have On:1<=p.length:=by rw[hp];simp
   have Ts:=hF.aug vN mc fS hplt
   rw[<-hp]at Ts mc fS hplt mH
   have Oz:p.take 1=[x]:=by rw[hp];rfl
   clear Og vN
   refine aI (fun m env st=>∃i:Nat,m=p.length-i/\1<=i/\i<=p.length/\env 11=.int .i64 (i:Int)/\nH st.get X o1 o2 R1 R2 cnt c (l7 f (p.take i))/\st_b.next<=st.next) (p.length-1) ⟨1,rfl,Nat.le_refl _,On,by(simp only[go_sem, ↓reduceIte,Nat.reduceEqDiff,Nat.reduceAdd,Nat.reduceSub,Nat.reduceLeDiff,reduceCtorEq])<;>rfl,by rw[Oz];exact bM,by(try dsimp only);omega⟩ ?_
   rintro m env_c st_c ⟨i,rfl,Lg,mb,nL,cM,cn⟩ ckp
   have c0:=ckp 0 (by kernel_rfl)
   have c1:=ckp 1 (by kernel_rfl)
   have c2:=ckp 2 (by kernel_rfl)
   have c3:=ckp 3 (by kernel_rfl)
   have c9:=ckp 9 (by kernel_rfl)
   have jB:=ckp 10 (by kernel_rfl)
   simp only[go_sem, ↓reduceIte,Nat.reduceEqDiff,Nat.reduceAdd,Nat.reduceSub,Nat.reduceLeDiff,reduceCtorEq,b0,b1,b2,b3,b9]at c0 c1 c2 c3 c9 jB
   clear ckp
   have pa:(p.map eN).length=p.length:=by simp
   by_cases hi:(i:Int)<(p.length:Int)
   ·have fP:i<p.length:=by omega
    have xE:=FX (f:=f) Lg fP
    obtain⟨a,ha⟩:∃a,a=p[i-1]'(by omega):=⟨_,rfl⟩
    obtain⟨b,hb⟩:∃b,b=p[i]:=⟨_,rfl⟩
    have Fb:a<cnt:=by rw[ha];exact hplt _ (List.getElem_mem _)
    have Fe:b<cnt:=by rw[hb];exact hplt _ (List.getElem_mem _)
    have tz:a≠b:=by
     rw[ha,hb]
     exact List.pairwise_iff_getElem.1 mc (i-1) i (by omega) fP (by omega)
    have QQ:(p.map eN)[i-1]? =some [.int .i64 (a:Int)]:=by rw[List.getElem?_map,List.getElem?_eq_getElem (by omega),ha];rfl
    have QR:(p.map eN)[i]? =some [.int .i64 (b:Int)]:=by rw[List.getElem?_map,List.getElem?_eq_getElem fP,hb];rfl
    rw[<-ha,<-hb]at xE
    have Uh:=l8 (p.take i) f a b
    have Ui:=l8 (p.take i) f b a
    rw[List.length_take]at Uh Ui
    have hl1:=blo b a
    have QW:=blo a b
    have Ra:=hF.le a b Fb Fe
    have hu2:=hF.le b a Fe Fb
    have hca:=hc a b Fb Fe
    have Ff:=hc b a Fe Fb
    generalize l7 f (p.take i)=fl at *
    have gA:=rY (R:=R2) (n:=cnt) Fb
    have gB:=rY (R:=R2) (n:=cnt) Fe
    have rA:=cM.r2 _ Fb
    have rB:=cM.r2 _ Fe
    have cA:=dH (f:=fl a) Fe
    have cB:=dH (f:=fl b) Fb
    have sA:=om (f:=fl) (a:=a) (d:=1) Fe
    have Oj:bump fl a b 1 b=fl b:=jY fun h=>tz h.symm
    have sB:=om (f:=bump fl a b 1) (a:=b) (b:=a) (d:=-1) (n:=cnt) Fb
    rw[Oj]at sB
    have gX:=cM.x
    have g2:=cM.t2
    have gG:(a:Int)<(cnt:Int):=by omega
    have fF:(b:Int)<(cnt:Int):=by omega
    have SL:IntKind.i64.wrap ((i:Int)-1)=((i-1:Nat):Int):=by rw[aV (by omega)];omega
    have yi:((i-1:Nat):Int)<(p.length:Int):=by omega
    have wA:IntKind.i64.wrap (fl a b+1)=fl a b+1:=aV (by omega)
    have wB:IntKind.i64.wrap (fl b a-1)=fl b a+-1:=by rw[aV (by omega)];omega
    have Re:IntKind.i64.wrap ((i:Int)+1)=((i+1:Nat):Int):=aA (by omega)
    have l2:=j7 R2 cnt cnt
    have lA:=dD (fl a) cnt
    have lB:=dD (fl b) cnt
    have gU:(R2 a=R2 b)=False:=by simp only[eq_iff_iff,iff_false];exact fun h=>tz (I.i2 _ _ Fb Fe h)
    have IP:(R2 b=R2 a)=False:=by simp only[eq_iff_iff,iff_false];exact fun h=>tz (I.i2 _ _ Fb Fe h.symm)
    have xA:=Ap I.sx (I.Nb a Fb) (by decide)
    have xB:=Ap I.sx (I.Nb b Fe) (by decide)
    have yA:=Ap I.s2 (I.Nb a Fb) (by decide)
    have yB:=Ap I.s2 (I.Nb b Fe) (by decide)
    have qX:=dq (i:=X) (n:=st_c.next) (by have:=I.vx;omega)
    have q2:=dq (i:=o2) (n:=st_c.next) (by have:=I.v2;omega)
    have qA:=dq (i:=R2 a) (n:=st_c.next) (by have:=I.P8 a Fb;omega)
    have qB:=dq (i:=R2 b) (n:=st_c.next) (by have:=I.P8 b Fe;omega)
    rw[bf]at cA cB sA sB
    (try((repeat(revert hN;revert N;apply Pn.out));refine wk (tw @c0 (tw @c9 (tw @jB (tw @nL (tw @pa (tw @hi (tw @yi (tw @QQ (tw @QR (tw @gA (tw @gB (tw @rA (tw @rB (tw @cA (tw @cB (tw @sA (tw @sB (tw @gX (tw @g2 (tw @gG (tw @fF (tw @SL (tw @wA (tw @wB (tw @Re (tw @l2 (tw @lA (tw @lB (tw @gU (tw @IP (tw @xA (tw @xB (tw @yA (tw @yB (tw @qX (tw @q2 (tw @qA @qB))))))))))))))))))))))))))))))))))))) ?_;(repeat(refine Pn.mk ?_;intro N hN))))
    refine⟨_,?_,i+1,rfl,by omega,by omega,sd @Re,?_,by(try dsimp only);omega⟩
    ·omega
    ·rw[xE]
     refine cM.push I Fb Fe tz ?_ ?_ fun j hj h1 h2=>?_
     ·simp only[go_sem, ↓reduceIte,Nat.reduceEqDiff,Nat.reduceAdd,Nat.reduceSub,Nat.reduceLeDiff,reduceCtorEq,gU]
     ·simp only[go_sem, ↓reduceIte,Nat.reduceEqDiff,Nat.reduceAdd,Nat.reduceSub,Nat.reduceLeDiff,reduceCtorEq,gU]
     ·simp only[go_sem, ↓reduceIte,Nat.reduceEqDiff,Nat.reduceAdd,Nat.reduceSub,Nat.reduceLeDiff,reduceCtorEq,h1,h2]
   ·have Hz:i=p.length:=by omega
    subst Hz
    rw[List.take_length]at cM
    have OC:IntKind.i64.wrap ((k:Int)+1)=((k+1:Nat):Int):=aA (by omega)
    have TW:=Ts.bound (S:=fun v=>decide (v=x)) hxS hyS
    (try((repeat(revert hN;revert N;apply Pn.out));refine wk (tw @c0 (tw @c9 (tw @jB (tw @nL (tw @pa (tw @hi @OC)))))) ?_;(repeat(refine Pn.mk ?_;intro N hN))))
    refine⟨_,?_,k+1,_,rfl,sd @OC,by rw[Int.natCast_add];exact Ts,cM,by(try dsimp only);omega,fun _=>by omega,fun u v=>?_⟩
    ·rw[<-Ux]at TW;omega
    ·have h1:=(l8 p f u v).2
     have h2:=blo u v
     rw[Int.natCast_add,Int.add_mul]
     omega
end Go.Proofs.YtgoelphibofcmaaGreat.V

namespace Go.Proofs.YtgoelphibofcmaaGreat.V
open Go.RowKit
attribute [local irreducible] dG wpOps gz Call
attribute [local go_sem] aL fU eV gw gr cK upd cw K.av cU AV.cells AV.cell rowOf rowsOf part ld rowAt bJ cr dK ep iC bR dj eF gq fh dz ew dh de ec ee bV bh cX bU cZ cY eu ez ev cW cj di er bS aQ db cG iA bz cN bW aX dn aZ dL AV.undef bG bK ef eo dW ea cJ eE eH cD eB eA da dc List.getD_cons_zero List.getD_cons_succ List.getD_nil List.all_cons List.all_nil Bool.and_true Bool.true_and Bool.and_self Bool.not_true Bool.not_false Option.map_some Option.map_none Option.bind_some Option.bind_none List.length_cons List.length_nil List.take_succ_cons List.take_zero List.take_nil List.drop_succ_cons List.drop_zero List.drop_nil List.head?_cons List.map_cons List.map_nil List.getElem?_cons_zero List.getElem?_cons_succ List.cons_append List.nil_append List.append_nil List.length_map List.set_cons_zero List.set_cons_succ Nat.reduceMul eq_self Int.toNat_natCast Int.natCast_nonneg and_self true_and and_true decide_true decide_false Bool.false_eq_true Nat.zero_add Nat.add_zero List.contains_cons List.contains_nil Bool.or_false Bool.false_or beq_self_eq_true Nat.reduceBEq ne_eq not_true_eq_false not_false_eq_true Id.mk.injEq false_and and_false Nat.reduceLT Int.reduceLE Int.reduceLT Int.reduceToNat Int.reduceNeg Int.reduceAdd Nat.le_refl List.length_append beq_true beq_false Bool.not_eq_eq_eq_not or_false false_or dX ai aq aH bj bE cu aW br aU bp cV bP
noncomputable def tA (n:Nat) (bs:List PB) (t:Int):Bool:=@decide (kI n bs t) (Classical.propDecidable _)
theorem ym {n:Nat} {bs:List PB} {t:Int} (h:kI n bs t):true=tA n bs t:=by simp[tA,h]
theorem BE {n:Nat} {bs:List PB} {t:Int} (h:¬kI n bs t):false=tA n bs t:=by simp[tA,h]
theorem Ln (cnt:Nat) (hn:cnt<=1048576) (bs:List PB) (hb:∀b∈bs,b.a<cnt/\b.b<cnt) (dB:∀b∈bs,0<=b.s/\b.s<=4) (oE:bs.length<=1048576) (t:Int) (ht:t<=1099511627776):
  aj Tryz.prog 223 [.int .i64 cnt,.sl (bs.map aC),.int .i64 t] (.bool (tA cnt bs t)):=by
 refine aj.body ek rfl fun hl n0=>?_
 clear hl
 have qq:=Ai bs (fun _ _=>0) (fun b h=>(dB b h).1) (fun _ _=>Int.le_refl _)
 have hle:=room_le bs (fun _ _=>0) 0 (fun b h=>(dB b h).2) (fun _ _=>Int.le_refl _) (Int.le_refl _)
 have fS:bs.foldl nJ (fun _ _=>0)=k5 bs:=rfl
 rw[fS]at qq hle
 (try((repeat(revert hN;revert N;apply Pn.out));refine wk @Nat.zero_add ?_;(repeat(refine Pn.mk ?_;intro N hN))))
 refine aI (fun m env st=>∃y:Nat,m=cnt+1-y/\1<=y/\env 7=.int .i64 (y:Int)/\y<=cnt+1/\∀z,1<=z->z<y->z<cnt->∀S:Nat->Bool,S 0=true->S z=false->t<=jd S bs) (cnt+1-1) ⟨1,rfl,Nat.le_refl _,by(simp only[go_sem, ↓reduceIte,Nat.reduceEqDiff,Nat.reduceAdd,Nat.reduceSub,Nat.reduceLeDiff,reduceCtorEq])<;>rfl,by omega,fun z h1 h2=>by omega⟩ ?_
 rintro m env_b st_b ⟨y,rfl,Rg,b7,hyl,dJ⟩ bkp
 have b0:=bkp 0 (by kernel_rfl)
 have b1:=bkp 1 (by kernel_rfl)
 have b2:=bkp 2 (by kernel_rfl)
 simp only[go_sem, ↓reduceIte,Nat.reduceEqDiff,Nat.reduceAdd,Nat.reduceSub,Nat.reduceLeDiff,reduceCtorEq]at b0 b1 b2
 clear bkp
 by_cases hy:(y:Int)<(cnt:Int)
 ·have hyn:y<cnt:=by omega
  (try((repeat(revert hN;revert N;apply Pn.out));refine wk (tw @b0 (tw @b1 (tw @b2 (tw @b7 @hy)))) ?_;(repeat(refine Pn.mk ?_;intro N hN))))
  refine .inr (aG _ _ _ _ _ (fun r σ1 hq=>?_) (Ch cnt (by omega) hn bs hb dB oE _))
  obtain⟨X,o1,o2,R1,R2,rfl,I,Gk,hM,_⟩:=hq
  refine hN _ _ ?_
  clear hN N
  (try((repeat(revert hN;revert N;apply Pn.out));refine wk (tw @b0 (tw @b1 (tw @b2 @b7))) ?_;(repeat(refine Pn.mk ?_;intro N hN))))
  have hsd:=OX cnt (by omega) hn (k5 bs) (fun u v _ _=>⟨qq u v,by have:=hle u v;omega⟩) 0 y (by omega) hyn (by omega) t ht X o1 o2 R1 R2 σ1.next I
  refine .inr (aG _ _ _ _ _ (fun r σ2 hq=>?_) (hsd _ hM (by(try dsimp only);omega)))
  obtain⟨val,rfl,sK,mU⟩:=hq
  refine hN _ _ ?_
  clear hN N
  by_cases dM:val<t
  ·(try((repeat(revert hN;revert N;apply Pn.out));refine wk (tw @b0 (tw @b1 (tw @b2 (tw @b7 @dM)))) ?_;(repeat(refine Pn.mk ?_;intro N hN))))
   obtain⟨S,h1,h2,h3⟩:=sK.1 dM
   rw[Bd hb]at h3
   exact aP (b:=false) (.inl rfl) (sd @Nat.zero_add) (BE fun h=>by have:=h S h1 ⟨y,hyn,h2⟩;omega)
  ·have hw:IntKind.i64.wrap ((y:Int)+1)=((y+1:Nat):Int):=aA (by omega)
   (try((repeat(revert hN;revert N;apply Pn.out));refine wk (tw @b0 (tw @b1 (tw @b2 (tw @b7 (tw @dM @hw))))) ?_;(repeat(refine Pn.mk ?_;intro N hN))))
   refine⟨_,?_,y+1,rfl,by omega,sd (tw @b7 @hw),by omega,fun z h1 h2 h3 S N3 N4=>?_⟩
   ·omega
   ·by_cases hzy:z=y
    ·subst hzy
     rcases Int.lt_or_le (jd S bs) t with h|h
     ·exact absurd (sK.2 ⟨S,N3,N4,by rw[Bd hb];exact h⟩) dM
     ·exact h
    ·exact dJ z h1 (by omega) h3 S N3 N4
 ·(try((repeat(revert hN;revert N;apply Pn.out));refine wk (tw @b0 (tw @b1 (tw @b2 (tw @b7 @hy)))) ?_;(repeat(refine Pn.mk ?_;intro N hN))))
  exact aP (b:=true) (.inl rfl) (sd @Nat.zero_add) (ym fun S h0 ⟨z,hz,hzf⟩=>by
   have:z≠0:=by rintro rfl;rw[h0]at hzf;cases hzf
   exact dJ z (by omega) (by omega) hz S h0 hzf)
theorem IQ (cnt:Nat) (hn:cnt<=1048576) (bs:List PB) (hb:∀b∈bs,b.a<cnt/\b.b<cnt) (dB:∀b∈bs,0<=b.s/\b.s<=4) (oE:bs.length<=1048576) (t:Int) (ht:t<=1099511627776):
  aj Tryz.prog 223 [.int .i64 cnt,Am bs,.int .i64 t] (.bool (tA cnt bs t)):=by
 have h:=Ln cnt hn bs hb dB oE t ht
 cases bs with
 |nil=>exact h.cut mixed (.same _ (.cC (.same _ .nil)))
 |cons b r=>rw[An (by simp)];exact h
end Go.Proofs.YtgoelphibofcmaaGreat.V

namespace Go.Proofs.YtgoelphibofcmaaGreat.V
open Go.RowKit
attribute [local irreducible] dG wpOps gz Call
attribute [local go_sem] aL fU eV gw gr cK upd cw K.av cU AV.cells AV.cell rowOf rowsOf part ld rowAt bJ cr dK ep iC bR dj eF gq fh dz ew dh de ec ee bV bh cX bU cZ cY eu ez ev cW cj di er bS aQ db cG iA bz cN bW aX dn aZ dL AV.undef bG bK ef eo dW ea cJ eE eH cD eB eA da dc List.getD_cons_zero List.getD_cons_succ List.getD_nil List.all_cons List.all_nil Bool.and_true Bool.true_and Bool.and_self Bool.not_true Bool.not_false Option.map_some Option.map_none Option.bind_some Option.bind_none List.length_cons List.length_nil List.take_succ_cons List.take_zero List.take_nil List.drop_succ_cons List.drop_zero List.drop_nil List.head?_cons List.map_cons List.map_nil List.getElem?_cons_zero List.getElem?_cons_succ List.cons_append List.nil_append List.append_nil List.length_map List.set_cons_zero List.set_cons_succ Nat.reduceMul eq_self Int.toNat_natCast Int.natCast_nonneg and_self true_and and_true decide_true decide_false Bool.false_eq_true Nat.zero_add Nat.add_zero List.contains_cons List.contains_nil Bool.or_false Bool.false_or beq_self_eq_true Nat.reduceBEq ne_eq not_true_eq_false not_false_eq_true Id.mk.injEq false_and and_false Nat.reduceLT Int.reduceLE Int.reduceLT Int.reduceToNat Int.reduceNeg Int.reduceAdd Nat.le_refl List.length_append beq_true beq_false Bool.not_eq_eq_eq_not or_false false_or dX ai aq aH bj bE cu aW br aU bp cV bP
def CY:Prop:=∀(s:aw) (l:List ah),iF s->lN s l->aj Tryz.prog 222 [.agg (ab s),.agg [.sl (l.map ad)]] (Am (cF s l))
noncomputable def uC (s:aw) (l:List ah) (t:Int):Bool:=if 64<im s l t then false else tA (im s l t) (dt (ei (aE t (cF s l))) (cF s l)) t
theorem DQ (s:aw) (l:List ah) (t:Int):uC s l t=nG s l t:=by
 letI:=Classical.propDecidable (oZ l.length (cF s l) t)
 unfold uC
 by_cases h:64<im s l t
 ·rw[if_pos h]
  exact(mu (p:=False) ⟨False.elim,fun k=>by have:=k.1;unfold im at h;omega⟩).symm.trans (by simp) |>.symm
 ·rw[if_neg h]
  by_cases hp:kI (im s l t) (dt (ei (aE t (cF s l))) (cF s l)) t
  ·rw[<-ym hp]
   exact((mu (p:=True) ⟨fun _=>⟨by unfold im at h;omega,hp⟩,fun _=>trivial⟩).symm.trans (by simp)).symm
  ·rw[<-BE hp]
   exact((mu (p:=False) ⟨False.elim,fun k=>hp k.2⟩).symm.trans (by simp)).symm
theorem JR (Tm:CY) (s:aw) (l:List ah) (t:Int) (ht:t<=1099511627776) (h1:1<=l.length) (hS:iF s) (hA:lN s l):aj Tryz.prog 197 [.agg (ab s),.agg [.sl (l.map ad)],.int .i64 t] (.gP [.bool (nG s l t),.bool (decide ¬64<im s l t)]):=by
 rw[<-DQ]
 refine aj.body ek rfl fun hl n0=>?_
 clear hl
 have hb:=xW (l:=l) hS
 have oE:=qa (s:=s) hA.1
 have Bv:=hA.1.w8
 have w9:=Tm s l hS hA
 have QG:=zh l.length h1 (by omega) (cF s l) (fun b h=>⟨(hb b h).1,(hb b h).2.1⟩) (by omega) t
 have hL:=tF (aE t (cF s l))
 have fP:=Eo hL (fun b h=>⟨(hb b h).1,(hb b h).2.1⟩)
 have hlen:=(nq (ei (aE t (cF s l))) (cF s l)).1
 have mT:=jN l.length (ei (aE t (cF s l)))
 have hho:=IQ (im s l t) (by unfold im;omega) (dt (ei (aE t (cF s l))) (cF s l)) (fun b h=>⟨(fP b h).1,(fP b h).2.1⟩) (fun b h=>by
  obtain⟨_,_,_,c,hc,dw⟩:=fP b h
  rw[dw];have:=hb c hc;omega) (by omega) t ht
 have fy:(l.map ad).length=l.length:=by simp
 have hzB:∀(g:Rows) (n:Nat) (bs:List PB),V.fz g (n+1) (Am bs)=some (Am bs):=fun g n bs=>by
  unfold Am;split
  ·exact aW _ _
  ·exact cu _ _ _
 rw[ab]at w9
 rw[<-im]at QG
 have yu:∀(g:Rows) (x:Int),cL (dX g) 6 [.int .i64 l.length,Am (cF s l),.int .i64 x]=some [.int .i64 l.length,Am (cF s l),.int .i64 x]:=fun g x=>by simp only[ai,aq,aH,hzB,Option.map_some]
 have hzh:∀(g:Rows) (x y:Int),cL (dX g) 6 [.int .i64 x,Am (dt (ei (aE t (cF s l))) (cF s l)),.int .i64 y]=some [.int .i64 x,Am (dt (ei (aE t (cF s l))) (cF s l)),.int .i64 y]:=fun g x y=>by simp only[ai,aq,aH,hzB,Option.map_some]
 generalize Am (cF s l)=B1 at *
 generalize Am (dt (ei (aE t (cF s l))) (cF s l))=B2 at *
 by_cases tZ:(64:Int)<(im s l t:Int)
 ·have ua:64<im s l t:=by omega
  (repeat(first|((repeat(revert hN;revert N;apply Pn.out));refine wk (tw @ab.eq_1 (tw @tZ @fy)) ?_;(repeat(refine Pn.mk ?_;intro N hN)))|((try apply Or.inl);refine⟨_,aj.x (w9) (sd (tw @ab.eq_1 (tw @tZ @fy))),?_⟩;refine hN _ _ ?_;clear hN N)))
  refine⟨_,aj.x QG (yu _ _),?_⟩
  refine hN _ _ ?_
  clear hN N
  (try((repeat(revert hN;revert N;apply Pn.out));refine wk @tZ ?_;(repeat(refine Pn.mk ?_;intro N hN))))
  exact jy (.inl rfl) (r1:=.bool false) (r2:=.bool false) (sd @Nat.zero_add) (sd @Nat.zero_add) (by rw[uC,if_pos ua,decide_eq_false fun h=>h ua];simp only[fj,bB,cz,fK,Option.map_some])
 ·have ua:¬64<im s l t:=by omega
  (repeat(first|((repeat(revert hN;revert N;apply Pn.out));refine wk (tw @ab.eq_1 (tw @tZ @fy)) ?_;(repeat(refine Pn.mk ?_;intro N hN)))|((try apply Or.inl);refine⟨_,aj.x (w9) (sd (tw @ab.eq_1 (tw @tZ @fy))),?_⟩;refine hN _ _ ?_;clear hN N)))
  refine⟨_,aj.x QG (yu _ _),?_⟩
  refine hN _ _ ?_
  clear hN N
  (try((repeat(revert hN;revert N;apply Pn.out));refine wk @tZ ?_;(repeat(refine Pn.mk ?_;intro N hN))))
  refine .inl ⟨_,aj.x hho (hzh _ _ _),?_⟩
  refine hN _ _ ?_
  clear hN N
  (try((repeat(revert hN;revert N;apply Pn.out));refine wk @Nat.zero_add ?_;(repeat(refine Pn.mk ?_;intro N hN))))
  exact jy (.inl rfl) (r1:=.bool (tA (im s l t) (dt (ei (aE t (cF s l))) (cF s l)) t)) (r2:=.bool true) (sd @Nat.zero_add) (sd @Nat.zero_add) (by rw[uC,if_neg ua,decide_eq_true ua];simp only[fj,bB,cz,fK,Option.map_some])
theorem uf (t:Int):aj Tryz.prog 196 [.int .i64 t] (.bool (iH t 1 16)):=by
 refine aj.body ek rfl fun hl n0=>?_
 clear hl
 have h:=j8 t 1 16
 (repeat(first|((repeat(revert hN;revert N;apply Pn.out));refine wk @Nat.zero_add ?_;(repeat(refine Pn.mk ?_;intro N hN)))|((try apply Or.inl);refine⟨_,aj.x (h) (sd @Nat.zero_add),?_⟩;refine hN _ _ ?_;clear hN N)))
 exact aP (b:=iH t 1 16) (.inl rfl) (sd @Nat.zero_add) rfl
theorem xj (Tm:CY) (s:aM) (hn:fW s.ax) (hg:s.ax.aB.length<=1048576) (ht:s.ax.ae.length<=1048576) (hs:∀t∈s.ax.ae,t.bt.length<=1048576) (hl:s.bF.ae.length<=1048576):aj Tryz.prog 105 [.agg (ay s)] (.bool (ns s)):=by
 refine aj.body ek rfl fun mV n0=>?_
 clear mV
 by_cases h0:(s.bF.ae.length:Int)=0
 ·have hd:decide ((s.bF.ae.length:Int)=0)=true:=decide_eq_true h0
  (try((repeat(revert hN;revert N;apply Pn.out));refine wk (tw @ay.eq_1 @hd) ?_;(repeat(refine Pn.mk ?_;intro N hN))))
  exact aP (b:=false) (.inl rfl) (sd @Nat.zero_add) (jW fun h=>by have:=h.some;omega)
 have hd:decide ((s.bF.ae.length:Int)=0)=false:=decide_eq_false h0
 have N5:=nA s.ax s.bF.ae hn hg ht hs hl
 have Qx:=uf s.az
 have key:aj Tryz.prog 163 [.agg (ab s.ax),.agg [.sl (s.bF.ae.map ad)],.int .i64 s.az] (.gP [.bool (ns s),.int .i64 (if qK s.ax&&pD s.ax s.bF.ae then(if iH s.az 1 16 then(if 64<im s.ax s.bF.ae s.az then 4 else 0)else 2)else 1)]):=by
  refine aj.body ek rfl fun mV n0=>?_
  clear mV
  rw[ab]at N5
  cases hA:qK s.ax&&pD s.ax s.bF.ae
  ·rw[hA]at N5
   have ll:ns s=false:=(jW fun h=>by rw[mo.2 h.set,l6.2 h.G5]at hA;cases hA).symm
   (repeat(first|((repeat(revert hN;revert N;apply Pn.out));refine wk @ab.eq_1 ?_;(repeat(refine Pn.mk ?_;intro N hN)))|((try apply Or.inl);refine⟨_,aj.x (N5) (sd @ab.eq_1),?_⟩;refine hN _ _ ?_;clear hN N)))
   exact jy (.inl rfl) (r1:=.bool false) (r2:=.int .i64 1) (sd @Nat.zero_add) (sd @Nat.zero_add) (by rw[ll];simp only[fj,bB,cz,fK,eO,Option.map_some];rfl)
  rw[hA]at N5
  simp only[Bool.and_eq_true]at hA
  have hS:=mo.1 hA.1
  have hP:=l6.1 hA.2
  cases hT:iH s.az 1 16
  ·rw[hT]at Qx
   have ll:ns s=false:=(jW fun h=>by have:=h.J3;rw[hT]at this;cases this).symm
   (repeat(first|((repeat(revert hN;revert N;apply Pn.out));refine wk @ab.eq_1 ?_;(repeat(refine Pn.mk ?_;intro N hN)))|((try apply Or.inl);refine⟨_,aj.x (N5) (sd @ab.eq_1),?_⟩;refine hN _ _ ?_;clear hN N)|((try apply Or.inl);refine⟨_,aj.x (Qx) (sd @ab.eq_1),?_⟩;refine hN _ _ ?_;clear hN N)))
   exact jy (.inl rfl) (r1:=.bool false) (r2:=.int .i64 2) (sd @Nat.zero_add) (sd @Nat.zero_add) (by rw[ll];simp only[fj,bB,cz,fK,eO,Option.map_some];rfl)
  have Lv:=dZ hT
  rw[hT]at Qx
  have dB:=JR Tm s.ax s.bF.ae s.az (by omega) (by omega) hS hP
  rw[ab]at dB
  have hsy:ns s=nG s.ax s.bF.ae s.az:=by
   cases hB:nG s.ax s.bF.ae s.az
   ·exact(jW fun h=>by have:=po.2 h.holds;rw[hB]at this;cases this).symm
   ·exact(Cw ⟨hS,hP,by omega,hT,po.1 hB⟩).symm
  by_cases tZ:64<im s.ax s.bF.ae s.az
  ·rw[decide_eq_false fun h=>h tZ]at dB
   have ll:ns s=false:=(jW fun h=>by have:=h.holds.1;unfold im at tZ;omega).symm
   (repeat(first|((repeat(revert hN;revert N;apply Pn.out));refine wk @ab.eq_1 ?_;(repeat(refine Pn.mk ?_;intro N hN)))|((try apply Or.inl);refine⟨_,aj.x (N5) (sd @ab.eq_1),?_⟩;refine hN _ _ ?_;clear hN N)|((try apply Or.inl);refine⟨_,aj.x (Qx) (sd @ab.eq_1),?_⟩;refine hN _ _ ?_;clear hN N)|((try apply Or.inl);refine⟨_,aj.x (dB) (sd @ab.eq_1),?_⟩;refine hN _ _ ?_;clear hN N)))
   exact jy (.inl rfl) (r1:=.bool false) (r2:=.int .i64 4) (sd @Nat.zero_add) (sd @Nat.zero_add) (by rw[ll,if_pos tZ];simp only[fj,bB,cz,fK,eO,Option.map_some])
  ·rw[decide_eq_true tZ,<-hsy]at dB
   (repeat(first|((repeat(revert hN;revert N;apply Pn.out));refine wk @ab.eq_1 ?_;(repeat(refine Pn.mk ?_;intro N hN)))|((try apply Or.inl);refine⟨_,aj.x (N5) (sd @ab.eq_1),?_⟩;refine hN _ _ ?_;clear hN N)|((try apply Or.inl);refine⟨_,aj.x (Qx) (sd @ab.eq_1),?_⟩;refine hN _ _ ?_;clear hN N)|((try apply Or.inl);refine⟨_,aj.x (dB) (sd @ab.eq_1),?_⟩;refine hN _ _ ?_;clear hN N)))
   exact jy (.inl rfl) (r1:=.bool (ns s)) (r2:=.int .i64 0) (sd @Nat.zero_add) (sd @Nat.zero_add) (by rw[if_neg tZ];simp only[fj,bB,cz,fK,eO,Option.map_some])
 generalize hcode:(if qK s.ax&&pD s.ax s.bF.ae then(if iH s.az 1 16 then(if 64<im s.ax s.bF.ae s.az then(4:Int)else 0)else 2)else 1)=code at key
 rw[ab]at key
 cases hB:ns s
 ·rw[hB]at key
  (repeat(first|((repeat(revert hN;revert N;apply Pn.out));refine wk (tw @ay.eq_1 @hd) ?_;(repeat(refine Pn.mk ?_;intro N hN)))|((try apply Or.inl);refine⟨_,aj.x (key) (sd (tw @ay.eq_1 @hd)),?_⟩;refine hN _ _ ?_;clear hN N)))
  exact aP (b:=false) (.inl rfl) (sd @Nat.zero_add) rfl
 ·rw[hB]at key
  have hP:=wQ.1 hB
  have hc:code=0:=by
   rw[<-hcode,mo.2 hP.set,l6.2 hP.G5,hP.J3]
   have:=hP.holds.1
   simp only[Bool.and_self,if_true]
   rw[if_neg (by unfold im;omega)]
  rw[hc]at key
  (repeat(first|((repeat(revert hN;revert N;apply Pn.out));refine wk (tw @ay.eq_1 @hd) ?_;(repeat(refine Pn.mk ?_;intro N hN)))|((try apply Or.inl);refine⟨_,aj.x (key) (sd (tw @ay.eq_1 @hd)),?_⟩;refine hN _ _ ?_;clear hN N)))
  exact aP (b:=true) (.inl rfl) (sd @Nat.zero_add) rfl
end Go.Proofs.YtgoelphibofcmaaGreat.V

namespace Go.Proofs.YtgoelphibofcmaaGreat.V
open Go.RowKit
variable {P:Program} {hs:Nat}
theorem Ht {q n i:Nat} {ops:Array Oper} {Q:Exit->Act->World->Prop} {K K':Act->World->Prop} {a:Act} {w:World} (mc:∀(j:Nat) (o:Oper),ops[j]? =some o->∀c,o.op≠.defer c) (ll:¬LetsOut Q) (hK:∀a w,K a w->K' a w) (h:wpOp P ops Q i K a w):wpOpIn (Fence.wide.inRound q) n P ops Q i K' a w:=by
 unfold wpOp at h
 unfold wpOpIn
 split at h
 ·rename_i ho;simp only[ho];exact hK _ _ h
 ·rename_i o ho
  simp only[ho]
  split at h
  ·rename_i hw
   rw[if_pos hw]
   replace h:=h.resolve_right fun hc=>ll hc.2
   refine⟨fun _ _=>trivial,?_⟩
   rw[Oper.semAt_eq _ _ _ (mc i o ho)]
   unfold Oper.wp at h
   generalize (execOp a.eval o).run P w=r at *
   cases r with
   |ok m w'=>
    cases m<;>simp only[Oper.upon,Oper.uponIn]at h ⊢
    case value=>exact hK _ _ h
    case skip=>exact hK _ _ h
    case defer=>exact hK _ _ h
    case enter f args=>
     refine⟨fun h=>by simp[Fence.wide]at h,CallsIn.inRound q (callsIn_wide.2 (h.mono fun e KH he=>?_))⟩
     cases e with
     |returned v=>exact hK _ _ he
     |panicked c=>exact he
     |outgrown=>exact he
    case row r args=>exact⟨fun h=>by simp[Fence.wide]at h,fun c cs _=>let ⟨v,KH,h1,s⟩:=h c cs;⟨v,KH,hK _ _ h1,stepsIn_wide.2 s⟩⟩
   |halt x w'=>cases x<;>simp only[Oper.upon,Oper.uponIn]at h ⊢;exact h
  ·rename_i hw
   rw[if_neg hw]
   exact⟨fun _ _=>trivial,hK _ _ h⟩
theorem w6 {q n:Nat} {md:Region.Mode} {ops:Array Oper} {Q:Exit->Act->World->Prop} (mc:∀(j:Nat) (o:Oper),ops[j]? =some o->∀c,o.op≠.defer c) (ll:¬LetsOut Q):∀(fuel:Nat) (listed:Array Bool) (a:Act) (w:World),wpAny P md ops Q fuel listed a w->wpAnyIn (Fence.wide.inRound q) n P md ops Q fuel listed a w
 |0,_,_,_,h=>h
 |fuel+1,listed,_,_,h=>⟨h.1,fun i hi=>Ht mc ll (fun a w=>w6 mc ll fuel _ a w) (h.2 i hi)⟩
def Fu:Op->Bool
 | .defer _=>true
 |_=>false
theorem Js {ops:Array Oper} (h:(ops.all fun o=> !Fu o.op)=true):∀(j:Nat) (o:Oper),ops[j]? =some o->∀c,o.op≠.defer c:=fun j o hj c hc=>by
 have:=Array.all_eq_true_iff_forall_mem.1 h o (Array.mem_of_getElem? hj)
 rw[hc]at this
 simp[Fu]at this
theorem Ad (hm:P.follows .mixedOrders=true) {nt site0 id q n:Nat} {ops:Array Oper} {vl:List aY} (h:q9 P nt site0 ops true false=some vl) (mc:∀(j:Nat) (o:Oper),ops[j]? =some o->∀c,o.op≠.defer c)
  {K:Env->au->Prop} {env:Env} {σ:au} {a:Act} {w:World} {D:Nat->Prop} {ι:Names} {Q:Exit->Act->World->Prop} (hv:wpOps (Sound P) true vl K env σ) (dB:St P hs nt D ι env σ a w)
  (hK:∀iG σ' a' w' D' ι',K iG σ'->Step hs D ι w D' ι' w'->St P hs nt D' ι' iG σ' a' w'->a'.defers=a.defers->Q .normal a' w'):(Code.region id ops true).wpIn (Fence.wide.inRound q) n P Q a w:=by
 have dJ:∃hidden ta,allM (kN P ops nt site0 true false (jC ops) hidden) ops.toList 0=some ta/\vl=ta/\ou ops ta (jC ops)=true:=by
  unfold q9 at h
  simp only[if_true,Bool.not_true,Bool.false_or]at h
  split at h
  ·rename_i ta h'
   split at h
   ·rename_i vO;simp at h;exact⟨_,ta,h',h.symm,vO⟩
   ·cases h
  ·cases h
 obtain⟨hidden,ta,dJ,rfl,vO⟩:=dJ
 obtain⟨rq,T0⟩:=dB.drew
 obtain⟨hlen,_⟩:=oi dJ
 have kS:vl.length=ops.size:=by rw[hlen];simp
 have Dv:=wZ (X:=Sound P) (K:=K) (n:=σ.next) vO kS vl 0 (Array.replicate ops.size false) env σ.get (by simp) (by simp) (fun i hi=>by simp[hi]) (by simp[kS]) (fun k i h=>by
  exfalso
  rcases Nat.lt_or_ge k ops.size with hk|hk
  ·simp[hk]at h
  ·simp[Nat.not_lt.2 hk]at h) hv
 rw[kS]at Dv
 have hw:=xR (Q:=fun e a w=>e=.normal/\Q .normal a w) dJ ops.size _ env σ.get a w.drew D ι (fun _=>False) Dv rq.sY rq.used (fun _ h=>h.elim) rq.env rq.size fun je g1 a1 w1 D1 ι1 U1 hk T S1 S6 E1 xe hd=>⟨rfl,hK je ⟨g1,σ.next+1⟩ a1 w1 D1 ι1 hk (T0.trans T) ⟨S1,S6.next,E1,xe⟩ hd⟩
 have fP:=w6 (q:=q) (n:=n) (Q:=fun e a w=>e=.normal/\Q .normal a w) mc (by rintro⟨_,_,hc,_⟩;cases hc) ops.size _ a w.drew hw
 refine wpIn_mono (wpIn_region_any (id:=id) hm fP) ?_
 rintro e a w ⟨rfl,h⟩
 exact h
end Go.Proofs.YtgoelphibofcmaaGreat.V

namespace Go.Proofs.YtgoelphibofcmaaGreat.V
open Go.RowKit Go.Shelf
attribute [local go_sem] Oper.semAt_some
def ij (n₀:Nat) (W W':World):Prop:=W.heap.size<=W'.heap.size/\(∀(b:Nat) (cells:Array Value) (T:TypeId) (fr:Nat×Nat),W.heap[b]? =some (Obj.cells cells T fr)->T≠226->T≠246->W'.heap[b]? =W.heap[b]?)/\∀k,k<n₀->k<W.heap.size->W'.heap[k]? =W.heap[k]?
theorem ij.trans {n₀:Nat} {A B C:World} (h:ij n₀ A B) (k:ij n₀ B C):ij n₀ A C:=⟨Nat.le_trans h.1 k.1,fun b cells T fr hb h1 h2=>by
 have e:=h.2.1 b cells T fr hb h1 h2
 rw[<-e]at hb ⊢
 exact k.2.1 b cells T fr hb h1 h2,fun b hb hs=>(k.2.2 b hb (Nat.lt_of_lt_of_le hs h.1)).trans (h.2.2 b hb hs)⟩
theorem ij.of {n₀:Nat} {W W':World} (h:Below W.heap.size W W'):ij n₀ W W':=⟨h.size,fun b cells T fr hb _ _=>h.block b (Array.getElem?_eq_some_iff.1 hb).1,fun k _ hs=>h.block k hs⟩
theorem ij.refl (n₀:Nat) (W:World):ij n₀ W W:=⟨Nat.le_refl _,fun _ _ _ _ _ _ _=>rfl,fun _ _ _=>rfl⟩
theorem ij.b {n₀ m:Nat} (hm:n₀<=m) (W:World) (l:Nat) (o o':Obj) (hl:m<=l) (h:W.heap[l]? =some o) (hc:o.isCells=false) (_:o.isWalk=false):ij n₀ W (W.putObj l o'):=by
 refine⟨by simp,fun b cells T fr hb _ _=>?_,fun k hk _=>World.putObj_heap_other (by omega)⟩
 by_cases oE:b=l
 ·subst oE;rw[h]at hb;cases hb;cases hc
 ·exact World.putObj_heap_other oE
def KP (bs:List PB):List Value:=bs.flatMap fun b=>[.int .i64 b.a,.int .i64 b.b,.int .i64 b.s]
theorem H3 (bs:List PB) (b:PB):KP (bs++[b])=KP bs++[.int .i64 b.a,.int .i64 b.b,.int .i64 b.s]:=by simp[KP]
def nK (s:aw) (l:List ah) (pre:List (Nk l)):List PB:=(pre.map (·.1)).flatMap (za s l)
theorem xU (s:aw) (l:List ah) (pre:List (Nk l)) (x:Nk l):nK s l (pre++[x])=nK s l pre++za s l x.1:=by simp[nK]
theorem H0 (s:aw) (l:List ah) (x:Nat×Nat×Int):(za s l x).length<=1:=by
 unfold za;split<;>simp
theorem H4 (s:aw) (l:List ah) (pre:List (Nk l)):(nK s l pre).length<=pre.length:=by
 unfold nK
 induction pre with
 |nil=>simp
 |cons x r ih=>
  have:=H0 s l x.1
  simp only[List.map_cons,List.flatMap_cons,List.length_append,List.length_cons]at ih ⊢
  omega
theorem yK (l:List ah) (i:Nat):∀m,(kW l i m).length<=m
 |0=>by simp[kW]
 |m+1=>by
  rw[nh,List.length_append]
  have:=yK l i m
  have:(Ce l i (1-(m:Int))).length<=1:=by unfold Ce;split<;>simp
  omega
theorem Cf (l:List ah):∀n,(lr l n).length<=n*2
 |0=>by simp[lr]
 |n+1=>by
  rw[mj,List.length_append]
  have:=Cf l n
  have:=yK l n 2
  omega
theorem Bu {β:Type} (B:Nat) (c:Array Value) (t:TypeId) (fr:Nat×Nat):Own (fun(_:β) W=>W.heap[B]? =some (.cells c t fr)):=fun _ X _ row h hg hr=>(hg.block B (Array.getElem?_eq_some_iff.1 h).1 (fun e=>by
 obtain⟨o,ho,hc⟩:=hr B e.symm
 rw[h]at ho;cases ho;cases hc)).trans h
theorem ij.app {n₀:Nat} {W w1:World} {B k:Nat} {v v':Value} {xs:List Value} {tmp:Obj} (hv:Boxed W B 226 v) (fy:W.ownsRow n₀ 246 3 v k xs) (Fh:(W.alloc tmp).grownBy w1 v.ownBlock) (hb:Below n₀ W (w1.setCell ⟨B,0,none⟩ v')):ij n₀ W (w1.setCell ⟨B,0,none⟩ v'):=by
 refine⟨hb.size,fun b cells T fr h h1 h2=>?_,fun k hk _=>hb.block k hk⟩
 have dM:=(Array.getElem?_eq_some_iff.1 h).1
 have hbB:b≠B:=by
  rintro rfl
  rw[show W.heap[b]? = _ from hv]at h
  cases h
  exact h1 rfl
 have Sk:some b≠v.ownBlock:=by
  rcases fy.2 with⟨rfl,_⟩|⟨g,cap,cur,rfl,_,hg,_⟩
  ·simp[Value.ownBlock]
  ·intro e
   obtain rfl:b=g:=by simpa[Value.ownBlock]using e
   rw[hg]at h;cases h
   exact h2 rfl
 refine(Below.heap_setCell w1 ⟨B,0,none⟩ v' b hbB).trans ?_
 exact(Fh.block b (by simp;omega) Sk).trans (Below.heap_alloc W tmp b dM)
theorem Rl {w:World} {vS:Value} {l:List ah} (hP:pC w vS l):HN (ij w.heap.size) vS l where
 refl:=ij.refl _
 trans:=ij.trans
 of:=ij.of
 size h:=h.1
 typed h:=h.2.1
 pl {W W'} h hp:=by
  obtain⟨A,c,rfl,hm,hc⟩:=hp.sl
  refine⟨A,c,rfl,hm,?_⟩
  by_cases hl:l=[]
  ·exact .inl hl
  have lp:0<l.length:=List.length_pos_iff.2 hl
  rcases hc with h0|⟨b,o,rfl,kg⟩
  ·exact absurd h0 hl
  obtain⟨A',c',e,_,kR⟩:=hP.sl
  cases e
  rcases kR with h0|⟨b',o',e,hcell'⟩
  ·exact absurd h0 hl
  cases e
  have hb:=uq (hcell' 0 lp).1
  have hk:=h.2.2 b hb (uq (kg 0 lp).1)
  refine .inr ⟨b,o,rfl,fun i hi=>?_⟩
  have zz:∀x,W'.cell? ⟨b,x,none⟩=W.cell? ⟨b,x,none⟩:=fun x=>World.cell?_of_block hk
  rw[zz,zz,zz]
  exact kg i hi
theorem rrE {P:Program} {nt site0:Nat} {ops:Array Oper} {vl:List aY} (_:zd P ops site0 false (jC ops) (rF P false ops.toList 0) ops.toList 0=some vl:=by(conv=>lhs;cbv)<;>exact rfl) (h:q9 P nt site0 ops true false=some vl:=by kernel_rfl):q9 P nt site0 ops true false=some vl:=h
theorem Jj (l:List Value) (d:Value):l=(List.range l.length).map fun i=>(⟨l⟩:Array Value).getD i d:=by
 refine List.ext_getElem (by simp) fun i h1 h2=>?_
 simp[h1]
theorem Ed {X:fE} {d:Bool} {ops:List aY} {K:Env->au->Prop} {env:Env} {σ:au} (h:dG X (.ej d ops) (fun _=>K) env σ):wpOps X d ops K env σ:=h
theorem vg (W:World) (T:TypeId) (x y z:Value):∀(j:Nat) (u:Value),[x,y,z][j]? =some u->(W.alloc (.cells #[x,y,z] T)).cell? ((⟨W.heap.size,0,none⟩:Addr).add j)=some u:=fun j u h=>by
 have hb:(W.alloc (.cells #[x,y,z] T)).heap[W.heap.size]? =some (.cells #[x,y,z] T (0,0)):=World.alloc_heap_new _ _
 have e:∀k,(W.alloc (.cells #[x,y,z] T)).cell? ⟨W.heap.size,k,none⟩=(#[x,y,z]:Array Value)[k]? :=fun k=>by
  unfold World.cell?
  rw[show(W.alloc (.cells #[x,y,z] T)).heap[(⟨W.heap.size,k,none⟩:Addr).block]? = _ from hb]
  rfl
 rw[show(⟨W.heap.size,0,none⟩:Addr).add j=⟨W.heap.size,j,none⟩ by simp[Addr.add];exact fun h=>h.symm,e]
 simpa using h
def Ia (n b:Nat):Names:=fun id=>if id=⟨1,0⟩then some ⟨n,2,2,none⟩else if id=⟨2,0⟩then some ⟨n+1,1,1,none⟩else if id=⟨3,0⟩then some ⟨n+1+1,1,1,none⟩else if id=⟨4,0⟩then some ⟨b,2,2,none⟩else if id=⟨5,0⟩then some ⟨n+1+1+1,1,1,none⟩else none
def MD (s:aw) (l:List ah) (i k:Nat):Rows:=fun id=>if id=⟨1,0⟩then some ⟨false,2,[ab s]⟩else if id=⟨2,0⟩then some ⟨false,1,[[.sl (l.map ad)]]⟩else if id=⟨4,0⟩then some ⟨false,2,[[.int .i64 (i:Int),.int .i64 (k:Int)]]⟩else none
def Nx (s:aw) (l:List ah) (i k:Nat) (d:Int):Env:=cw [.agg (ab s),.agg [.sl (l.map ad)],.ptr ⟨1,0⟩ 0 0,.ptr ⟨2,0⟩ 0 0,.cC,.ptr ⟨3,0⟩ 0 0,.ptr ⟨4,0⟩ 0 0,.int .i64 d,.undef,.agg [.sl (l.map ad)],.fn 264 [.ptr ⟨5,0⟩ 0 0],.agg [.int .i64 (i:Int),.int .i64 (k:Int)],.int .i64 d]
theorem El {P:Program} {W:World} {D:Nat->Prop} {ι:Names} {B:sa} {cells:Array Value} {T:TypeId} {cs:List AV} (hk:B.k=none) (hb:W.heap[B.b]? =some (.cells cells T (0,0))) (hC:cells.size=B.C) (hz:B.sz=cs.length) (hl:cs.length=cells.size) (hf:∀a∈cs,a.cell=true) (hr:∀(j:Nat) (a:AV),cs[j]? =some a->∃v,cells[j]? =some v/\cE P W D ι a v):gI P W D ι B ⟨false,cs.length,[cs]⟩:=
 ly.obj ⟨hz,⟨cells,T,hb,hC⟩,by simp;omega,fun c hc=>by simp at hc;rw[hc],fun c hc=>by simp at hc;rw[hc];exact hf,fun i j c a hi hj=>by
  match i,hi with
  |0,hi=>
   simp at hi;subst hi
   obtain⟨v,h1,h2⟩:=hr j a hj
   exact⟨v,by simp[World.cell?,hb,h1],h2⟩
  |i+1,hi=>simp at hi⟩ hk
theorem I8:(Tryz.prog.info? 246).map (fun i=>(i.zero,i.size,i.bytes))=some (some (.agg #[.int .i64 0,.int .i64 0,.int .i64 0]),3,24):=by kernel_rfl
end Go.Proofs.YtgoelphibofcmaaGreat.V

namespace Go.Proofs.YtgoelphibofcmaaGreat.V
open Go.RowKit Go.Shelf
attribute [local go_sem] Oper.semAt_some
attribute [local irreducible] dG wpOps gz Call
attribute [local go_sem] aL fU eV gw gr cK upd cw K.av cU AV.cells AV.cell rowOf rowsOf part ld rowAt bJ cr dK ep iC bR dj eF gq fh dz ew dh de ec ee bV bh cX bU cZ cY eu ez ev cW cj di er bS aQ db cG iA bz cN bW aX dn aZ dL AV.undef bG bK ef eo dW ea cJ eE eH cD eB eA da dc List.getD_cons_zero List.getD_cons_succ List.getD_nil List.all_cons List.all_nil Bool.and_true Bool.true_and Bool.and_self Bool.not_true Bool.not_false Option.map_some Option.map_none Option.bind_some Option.bind_none List.length_cons List.length_nil List.take_succ_cons List.take_zero List.take_nil List.drop_succ_cons List.drop_zero List.drop_nil List.head?_cons List.map_cons List.map_nil List.getElem?_cons_zero List.getElem?_cons_succ List.cons_append List.nil_append List.append_nil List.length_map List.set_cons_zero List.set_cons_succ Nat.reduceMul eq_self Int.toNat_natCast Int.natCast_nonneg and_self true_and and_true decide_true decide_false Bool.false_eq_true Nat.zero_add Nat.add_zero List.contains_cons List.contains_nil Bool.or_false Bool.false_or beq_self_eq_true Nat.reduceBEq ne_eq not_true_eq_false not_false_eq_true Id.mk.injEq false_and and_false Nat.reduceLT Int.reduceLE Int.reduceLT Int.reduceToNat Int.reduceNeg Int.reduceAdd Nat.le_refl List.length_append beq_true beq_false Bool.not_eq_eq_eq_not or_false false_or dX ai aq aH bj bE cu aW br aU bp cV bP
theorem H8 (s:aw) (l:List ah) (hF:kE s) (hA:lN s l) (w:World) (Ag At:Option Addr) (ng cg nt ct:Nat) (vS:Value) (hT:jF Tryz.prog w (fun b=>b<w.heap.size) (.agg (ab s)) (.agg #[.slice Ag ng cg,.slice At nt ct])) (hP:pC w vS l):
  CallsIn Fence.wide 5 Tryz.prog 222 #[.agg #[.slice Ag ng cg,.slice At nt ct],.agg #[vS]] w fun e W'=>∃v,e=.returned v/\W'.ownsRow w.heap.size 246 3 v (cF s l).length (KP (cF s l))/\(v=.slice none 0 0↔cF s l=[])/\Below w.heap.size w W':=by
 obtain⟨A,cp,rfl,_,_⟩:=hP.sl
 obtain⟨i0,hi,HE,xe,kh⟩:=info_parts I8
 refine callsIn_of_wp_marks Tryz.func222 rfl trivial ?_ rfl
 simp only[Tryz.ntmps222,List.size_toArray,List.length_cons,List.length_nil,Nat.reduceAdd,Nat.reduceSub,Array.replicate_succ,Array.replicate_zero,List.push_toArray,List.append_toArray,List.nil_append,List.cons_append]
 gi_wp2_with (refine⟨trivial,?_⟩;gi_at_call 244;refine(zY _ _ _).mono ?_;rintro e w' ⟨rfl,rfl⟩)
 have bT:((w.alloc (.cells #[.slice Ag ng cg,.slice At nt ct] 38)).heap[w.heap.size]?)=some (.cells #[.slice Ag ng cg,.slice At nt ct] 38 (0,0)):=World.alloc_heap_new _ _
 obtain⟨w1,mW⟩:∃w1,w.alloc (.cells #[.slice Ag ng cg,.slice At nt ct] 38)=w1:=⟨_,rfl⟩
 have P3:w1.heap.size=w.heap.size+1:=by rw[<-mW];simp
 have AK:Below w.heap.size w w1:=by rw[<-mW];exact(Below.refl _ w).alloc (Nat.le_refl _) _
 rw[mW]at bT ⊢
 clear mW
 have bA:=Boxed.new w1 41 (.slice A l.length cp)
 have bO:=Boxed.new (w1.alloc (.cells #[.slice A l.length cp] 41)) 226 (.slice none 0 0)
 have bN:=Boxed.new ((w1.alloc (.cells #[.slice A l.length cp] 41)).alloc (.cells #[.slice none 0 0] 226)) 41 (.slice A l.length cp)
 replace bA:=(bA.alloc (.cells #[.slice none 0 0] 226)).alloc (.cells #[.slice A l.length cp] 41)
 replace bO:=bO.alloc (.cells #[.slice A l.length cp] 41)
 simp only[World.size_alloc,P3]at bA bO bN
 have pI:Below w1.heap.size w1 (((w1.alloc (.cells #[.slice A l.length cp] 41)).alloc (.cells #[.slice none 0 0] 226)).alloc (.cells #[.slice A l.length cp] 41)):=(((Below.refl _ w1).alloc (Nat.le_refl _) _).alloc (by simp) _).alloc (by simp;omega) _
 have ft:(((w1.alloc (.cells #[.slice A l.length cp] 41)).alloc (.cells #[.slice none 0 0] 226)).alloc (.cells #[.slice A l.length cp] 41)).heap.size=w.heap.size+4:=by simp;omega
 obtain⟨W0,hW0⟩:∃W0,((w1.alloc (.cells #[.slice A l.length cp] 41)).alloc (.cells #[.slice none 0 0] 226)).alloc (.cells #[.slice A l.length cp] 41)=W0:=⟨_,rfl⟩
 rw[hW0]at bA bO bN pI ft ⊢
 clear hW0
 have Bs:Below w.heap.size w W0:=AK.trans (pI.mono (by omega))
 replace bT:=(pI.block w.heap.size (by omega)).trans bT
 have hP0:pC W0 (.slice A l.length cp) l:=hP.below Bs
 have kl:=Rl hP
 have oE:=qa (s:=s) hA.1
 refine wpIn_rangeFunc_ownH (n:=5) rfl (by omega) (gf:=264) (lb:= #[.pointer (some ⟨w.heap.size+1+1+1,0,none⟩)]) rfl trivial (enters_of Tryz.func264 (by kernel_rfl) rfl)
  (Jq l hA.1 (w.heap.size+1+1+1) (5-1) (by omega) (.slice A l.length cp) (ij w.heap.size) kl W0 bN hP0) ij.trans (ij.b (by omega)) (Below.refl _ _) (fun _=>rfl)
  (fun pre W=>((∃v,Boxed W (w.heap.size+1+1) 226 v/\W.ownsRow w.heap.size 246 3 v (nK s l pre).length (KP (nK s l pre))/\(v=.slice none 0 0↔nK s l pre=[]))/\(Boxed W (w.heap.size+1) 41 (.slice A l.length cp)/\W.heap[w.heap.size]? =some (.cells #[.slice Ag ng cg,.slice At nt ct] 38 (0,0))))/\Below w.heap.size w W)
  (fun _ _ _=>False)
  (OwnFrom.and (OwnFrom.and (Own.from (holdsRow_own w.heap.size (w.heap.size+1+1) 226 246 3 (fun pre=>(nK s l pre).length) (fun pre=>KP (nK s l pre)) (fun pre v=>v=.slice none 0 0↔nK s l pre=[])) _) (OwnFrom.and (Own.from (boxed_own _ _ _) _) (Own.from (Bu _ _ _ _) _))) (ownFrom_below (Nat.le_refl _) (by omega)))
  (fun _ _ _ _ _ hs _ _=>hs)
  ⟨⟨⟨_,bO,World.ownsRow_nil _ _ _ _,by simp[nK]⟩,bA,bT⟩,Bs⟩
  (fun x a' W=>∃Bx,w.heap.size+1+1<Bx/\W.heap[Bx]? =some (.cells #[.int .i64 (x.1.1:Int),.int .i64 (x.1.2.1:Int)] 283 (0,0))/\a'={tmps:= #[.agg #[.slice Ag ng cg,.slice At nt ct],.agg #[.slice A l.length cp],.pointer (some ⟨w.heap.size,0,none⟩),.pointer (some ⟨w.heap.size+1,0,none⟩),.slice none 0 0,.pointer (some ⟨w.heap.size+1+1,0,none⟩),.pointer (some ⟨Bx,0,none⟩),.int .i64 x.1.2.2,undef,.agg #[.slice A l.length cp],.func (.func 264) #[] #[.pointer (some ⟨w.heap.size+1+1+1,0,none⟩)],.agg #[.int .i64 (x.1.1:Int),.int .i64 (x.1.2.1:Int)],.int .i64 x.1.2.2,undef,undef,undef,undef,undef,undef,undef,undef,undef,undef,undef,undef,undef,undef,undef,undef,undef,undef,undef,undef,undef,undef,undef,undef,undef,undef,undef,undef,undef],defers:=[]})
  (fun x a' _ X Y row hs hg hr=>by obtain⟨Bx,h1,h2,h3⟩:=hs;exact⟨Bx,h1,Bu Bx _ _ _ () X Y row h2 hg (fun r e=>(hr r e).2),h3⟩)
  ?assign ?body ?done ?stop
 case assign=>
  rintro q pre ⟨⟨x0,x1,x2⟩,hx⟩ W K ⟨⟨⟨v,hv,fy,hnil⟩,bA1,bT1⟩,hB⟩ hK
  simp only[E5]
  gi_wp2
  exact hK _ _ ((KeepsOthers.alloc _ _).from _) (ij.of ((Below.refl _ W).alloc (Nat.le_refl _) _)) ⟨⟨⟨v,hv.alloc _,fy.alloc _,hnil⟩,bA1.alloc _,(Below.heap_alloc _ _ _ (Array.getElem?_eq_some_iff.1 bT1).1).trans bT1⟩,hB.alloc hB.size _⟩ ⟨W.heap.size,hv.lt,World.alloc_heap_new _ _,rfl⟩
 case body=>
  rintro q pre ⟨⟨x0,x1,x2⟩,hx⟩ a' W hq hqr ⟨⟨⟨v,hv,fy,hnil⟩,bA1,bT1⟩,hB⟩ ⟨Bx,hBx,bX,rfl⟩ dM
  obtain⟨CW,I7,AN⟩:=hx
  simp only at CW I7 AN bX
  obtain⟨A',c',e',_,hc⟩:=(hP.below hB).sl
  cases e'
  have dw:∃b o,A=some ⟨b,o,none⟩/\W.cell? ⟨b,o+x0*3+2,none⟩=some (.int .i64 (aT l x0).bd)/\W.cell? ⟨b,o+x1*3+2,none⟩=some (.int .i64 (aT l x1).bd):=by
   rcases hc with rfl|⟨b,o,rfl,kg⟩
   ·simp at CW
   ·exact⟨b,o,rfl,by rw[Nat.add_assoc];exact(kg x0 CW).2.2,by rw[Nat.add_assoc];exact(kg x1 I7).2.2⟩
  obtain⟨b,o,rfl,cP0,cP1⟩:=dw
  have cT0:W.cell? ⟨w.heap.size,0,none⟩=some (.slice Ag ng cg):=by simp[World.cell?,bT1]
  have cT1:W.cell? ⟨w.heap.size,1,none⟩=some (.slice At nt ct):=by simp[World.cell?,bT1]
  have cX0:W.cell? ⟨Bx,0,none⟩=some (.int .i64 (x0:Int)):=by simp[World.cell?,bX]
  have cX1:W.cell? ⟨Bx,1,none⟩=some (.int .i64 (x1:Int)):=by simp[World.cell?,bX]
  have cA:=bA1.cell
  have dP0:W.drew.cell? ⟨b,o+x0*3+2,none⟩=some (.int .i64 (aT l x0).bd):=cP0
  have dP1:W.drew.cell? ⟨b,o+x1*3+2,none⟩=some (.int .i64 (aT l x1).bd):=cP1
  have dT0:W.drew.cell? ⟨w.heap.size,0,none⟩=some (.slice Ag ng cg):=cT0
  have dT1:W.drew.cell? ⟨w.heap.size,1,none⟩=some (.slice At nt ct):=cT1
  have dX0:W.drew.cell? ⟨Bx,0,none⟩=some (.int .i64 (x0:Int)):=cX0
  have dX1:W.drew.cell? ⟨Bx,1,none⟩=some (.int .i64 (x1:Int)):=cX1
  have dA:W.drew.cell? ⟨w.heap.size+1,0,none⟩=some (.slice (some ⟨b,o,none⟩) l.length cp):=cA
  have sJ:∀i,i<l.length->aT l i∈l:=fun i hi=>by
   unfold aT
   rw[List.getD_eq_getElem?_getD,List.getElem?_eq_getElem hi]
   exact List.getElem_mem hi
  have Ue:=mixed
  have hfw:=hA.1.w8
  have Sm:=H7 s hF (aT l x0).bd x2 (aT l x1).bd (hA.2 _ (sJ x0 CW)) (hA.2 _ (sJ x1 I7)) (js (by omega))
  have hTW:jF Tryz.prog W (fun b=>b<w.heap.size) (.agg (ab s)) (.agg #[.slice Ag ng cg,.slice At nt ct]):=hT.frame (fun b hb=>hB.block b hb) (fun _ h=>h)
  have hAW:jF Tryz.prog W (fun b=>b<w.heap.size) (.sl (l.map ad)) (.slice (some ⟨b,o,none⟩) l.length cp):=hP.eP.frame (fun b hb=>hB.block b hb) (fun _ h=>h)
  obtain⟨fT,hT0,hT1⟩:∃f:Nat->Value,(∀j,j<(ab s).length->(#[Value.slice Ag ng cg,.slice At nt ct])[j]? =some (f j))/\∀j a,(ab s)[j]? =some a->jF Tryz.prog W (fun b=>b<w.heap.size) a (f j):=by
   cases hTW with
   |agg _ _ f _ _ h3 h4=>exact⟨f,h3,h4⟩
  have dB:St Tryz.prog W.heap.size 42 (fun b=>b<w.heap.size) (Ia w.heap.size Bx) (Nx s l x0 x1 x2) ⟨MD s l x0 x1,1⟩ {tmps:= #[.agg #[.slice Ag ng cg,.slice At nt ct],.agg #[.slice (some ⟨b,o,none⟩) l.length cp],.pointer (some ⟨w.heap.size,0,none⟩),.pointer (some ⟨w.heap.size+1,0,none⟩),.slice none 0 0,.pointer (some ⟨w.heap.size+1+1,0,none⟩),.pointer (some ⟨Bx,0,none⟩),.int .i64 x2,undef,.agg #[.slice (some ⟨b,o,none⟩) l.length cp],.func (.func 264) #[] #[.pointer (some ⟨w.heap.size+1+1+1,0,none⟩)],.agg #[.int .i64 (x0:Int),.int .i64 (x1:Int)],.int .i64 x2,undef,undef,undef,undef,undef,undef,undef,undef,undef,undef,undef,undef,undef,undef,undef,undef,undef,undef,undef,undef,undef,undef,undef,undef,undef,undef,undef,undef,undef],defers:=[]} W:=by
   have n1:(Ia w.heap.size Bx) ⟨1,0⟩=some ⟨w.heap.size,2,2,none⟩:=rfl
   have n2:(Ia w.heap.size Bx) ⟨2,0⟩=some ⟨w.heap.size+1,1,1,none⟩:=rfl
   have n3:(Ia w.heap.size Bx) ⟨3,0⟩=some ⟨w.heap.size+1+1,1,1,none⟩:=rfl
   have n4:(Ia w.heap.size Bx) ⟨4,0⟩=some ⟨Bx,2,2,none⟩:=rfl
   have n5:(Ia w.heap.size Bx) ⟨5,0⟩=some ⟨w.heap.size+1+1+1,1,1,none⟩:=rfl
   have rp:∀(id:Id) (B:sa),(Ia w.heap.size Bx) id=some B->B.k=none->cE Tryz.prog W (fun b=>b<w.heap.size) (Ia w.heap.size Bx) (.ptr id 0 0) (.pointer (some ⟨B.b,0,none⟩)):=fun id B h hk=>by
    have:=cE.ptr (P:=Tryz.prog) (w:=W) (D:=fun b=>b<w.heap.size) id 0 0 B h hk
    simpa using this
   have ri:∀n:Int,cE Tryz.prog W (fun b=>b<w.heap.size) (Ia w.heap.size Bx) (.int .i64 n) (.int .i64 n):=fun n=>.eP _ _ (.int _ _)
   have hA1:jF Tryz.prog W (fun b=>b<w.heap.size) (.agg [.sl (l.map ad)]) (.agg #[.slice (some ⟨b,o,none⟩) l.length cp]):=.agg _ _ (fun _=>.slice (some ⟨b,o,none⟩) l.length cp) rfl (fun a ha=>by simp at ha;rw[ha];rfl) (fun j hj=>by match j,hj with|0,_=>rfl|j+1,hj=>simp at hj) (fun j a ha=>by match j,ha with|0,ha=>simp at ha;subst ha;exact hAW|j+1,ha=>simp at ha)
   refine⟨⟨Nat.le_refl _,fun b hb=>Nat.lt_of_lt_of_le hb hB.size,fun id r hg=>?_,fun id jU r r' B B' h _ hw=>?_⟩,fun id hid=>?_,fun t=>?_,rfl⟩
   ·replace hg:MD s l x0 x1 id=some r:=hg
    unfold MD at hg
    split at hg
    ·rename_i e;subst e;injection hg with hg;subst hg
     exact⟨_,n1,El (cs:=ab s) rfl bT1 rfl rfl rfl (fun a ha=>by simp[ab]at ha;rcases ha with rfl|rfl<;>rfl) (fun j a ha=>⟨_,hT0 j (List.getElem?_eq_some_iff.1 ha).1,.eP _ _ (hT1 j a ha)⟩),fun h=>(by cases h),fun h=>(by cases h)⟩
    ·split at hg
     ·rename_i e;subst e;injection hg with hg;subst hg
      exact⟨_,n2,El (cs:=[.sl (l.map ad)]) rfl bA1 rfl rfl rfl (fun a ha=>by simp at ha;rw[ha];rfl) (fun j a ha=>by match j,ha with|0,ha=>simp at ha;subst ha;exact⟨_,rfl,.eP _ _ hAW⟩|j+1,ha=>simp at ha),fun h=>(by cases h),fun h=>(by cases h)⟩
     ·split at hg
      ·rename_i e;subst e;injection hg with hg;subst hg
       exact⟨_,n4,El (cs:=[.int .i64 (x0:Int),.int .i64 (x1:Int)]) rfl bX rfl rfl rfl (fun a ha=>by simp at ha;rcases ha with rfl|rfl<;>rfl) (fun j a ha=>by match j,ha with|0,ha=>simp at ha;subst ha;exact⟨_,rfl,ri _⟩|1,ha=>simp at ha;subst ha;exact⟨_,rfl,ri _⟩|j+2,ha=>simp at ha),fun h=>(by cases h),fun h=>(by cases h)⟩
      ·cases hg
   ·exfalso
    replace h:MD s l x0 x1 id=some r:=h
    unfold MD at h
    split at h
    ·injection h with h;subst h;cases hw
    ·split at h
     ·injection h with h;subst h;cases hw
     ·split at h
      ·injection h with h;subst h;cases hw
      ·cases h
   ·left
    unfold Ia at hid
    repeat' (split at hid)
    all_goals first|(rename_i e;subst e;exact Nat.zero_lt_one)|exact absurd rfl hid
   ·match t with
    |0=>exact .eP _ _ hTW
    |1=>exact .eP _ _ hA1
    |2=>exact rp _ _ n1 rfl
    |3=>exact rp _ _ n2 rfl
    |4=>exact .eP _ _ .cC
    |5=>exact rp _ _ n3 rfl
    |6=>exact rp _ _ n4 rfl
    |7=>exact ri _
    |8=>exact cE.undef
    |9=>exact .eP _ _ hA1
    |10=>exact .fn _ _ _ (fun _=>.pointer (some ⟨w.heap.size+1+1+1,0,none⟩)) (by kernel_rfl) rfl (fun j hj=>by match j,hj with|0,_=>rfl|j+1,hj=>simp at hj) (fun j a ha=>by match j,ha with|0,ha=>simp at ha;subst ha;exact rp _ _ n5 rfl|j+1,ha=>simp at ha)
    |11=>exact .agg _ _ (fun j=>if j=0 then .int .i64 (x0:Int)else .int .i64 (x1:Int)) rfl (fun a ha=>by simp at ha;rcases ha with rfl|rfl<;>rfl) (fun j hj=>by match j,hj with|0,_=>rfl|1,_=>rfl|j+2,hj=>simp at hj;omega) (fun j a ha=>by match j,ha with|0,ha=>simp at ha;subst ha;exact ri _|1,ha=>simp at ha;subst ha;exact ri _|j+2,ha=>simp at ha)
    |12=>exact ri _
    |13=>exact cE.undef
    |14=>exact cE.undef
    |15=>exact cE.undef
    |16=>exact cE.undef
    |17=>exact cE.undef
    |18=>exact cE.undef
    |19=>exact cE.undef
    |20=>exact cE.undef
    |21=>exact cE.undef
    |22=>exact cE.undef
    |23=>exact cE.undef
    |24=>exact cE.undef
    |25=>exact cE.undef
    |26=>exact cE.undef
    |27=>exact cE.undef
    |28=>exact cE.undef
    |29=>exact cE.undef
    |30=>exact cE.undef
    |31=>exact cE.undef
    |32=>exact cE.undef
    |33=>exact cE.undef
    |34=>exact cE.undef
    |35=>exact cE.undef
    |36=>exact cE.undef
    |37=>exact cE.undef
    |38=>exact cE.undef
    |39=>exact cE.undef
    |40=>exact cE.undef
    |41=>exact cE.undef
    |t+42=>exact cE.undef
  have hV:wpOps (Call Tryz.prog) true ?vl (fun e _=>e 5=.ptr ⟨3,0⟩ 0 0/\e 6=.ptr ⟨4,0⟩ 0 0/\e 8=.int .i64 (gQ s (aT l x0).bd x2 (aT l x1).bd)) (Nx s l x0 x1 x2) ⟨MD s l x0 x1,1⟩:= ?hv
  gi_wp2
  refine Ad mixed (rrE (nt:=42) (site0:=222005000)) (Js (by kernel_rfl)) (lf (fun _ _ _ _ h=>gj mixed h) kJ (fun _ _ h=>h) _ _ _ hV) dB ?_
  rintro e1 σ1 ⟨tm,df⟩ w3 D1 ι1 ⟨h5,h6,h8⟩ T1 sj Dx
  case hv=>
   refine Ed ?_
   have e0:=fN CW
   have e1:=fN I7
   (repeat(first|((repeat(revert hN;revert N;apply Pn.out));refine wk (tw @e0 (tw @e1 (tw @Nx.eq_1 (tw @MD.eq_1 (tw @ad.eq_1 @ab.eq_1))))) ?_;(repeat(refine Pn.mk ?_;intro N hN)))|((try apply Or.inl);refine⟨_,aj.x (Sm) (sd (tw @e0 (tw @e1 (tw @Nx.eq_1 (tw @MD.eq_1 (tw @ad.eq_1 @ab.eq_1)))))),?_⟩;refine hN _ _ ?_;clear hN N)))
   exact⟨sd @Nx.eq_1,sd @Nx.eq_1,sd @Nx.eq_1⟩
  ·have Bt:Below W.heap.size W w3:=T1.below
   have yl:∀id B,Ia w.heap.size Bx id=some B->ι1 id=some B:=T1.names
   have p5:tm.getD 5 undef=.pointer (some ⟨w.heap.size+1+1,0,none⟩):=by
    have g:=sj.env 5
    rw[h5]at g
    obtain⟨B,e,hB,_⟩:=iy g
    have h:=yl ⟨3,0⟩ ⟨w.heap.size+1+1,1,1,none⟩ rfl
    rw[h]at hB;injection hB with hB;subst hB
    simpa using e
   have p6:tm.getD 6 undef=.pointer (some ⟨Bx,0,none⟩):=by
    have g:=sj.env 6
    rw[h6]at g
    obtain⟨B,e,hB,_⟩:=iy g
    have h:=yl ⟨4,0⟩ ⟨Bx,2,2,none⟩ rfl
    rw[h]at hB;injection hB with hB;subst hB
    simpa using e
   have p8:tm.getD 8 undef=.int .i64 (gQ s (aT l x0).bd x2 (aT l x1).bd):=by
    have g:=sj.env 8
    rw[h8]at g
    exact dr g
   have ft:=sj.size
   obtain⟨tl⟩:=tm
   obtain⟨f,I4,hf⟩:∃f:Nat->Value,tl=[f 0,f 1,f 2,f 3,f 4,f 5,f 6,f 7,f 8,f 9,f 10,f 11,f 12,f 13,f 14,f 15,f 16,f 17,f 18,f 19,f 20,f 21,f 22,f 23,f 24,f 25,f 26,f 27,f 28,f 29,f 30,f 31,f 32,f 33,f 34,f 35,f 36,f 37,f 38,f 39,f 40,f 41]/\∀i,f i=(⟨tl⟩:Array Value).getD i undef:=by
    refine⟨fun i=>(⟨tl⟩:Array Value).getD i undef,?_,fun _=>rfl⟩
    have h:=Jj tl undef
    rw[show tl.length=42 from ft]at h
    exact h
   rw[<-hf]at p5 p6 p8
   have TR:df=[]:=Dx
   subst TR
   clear hf sj dB hV
   subst I4
   rw[p5,p6,p8]
   have SJ:=hv.kept (grown_of Bt) (by simp)
   have Fk:=fy.kept (grown_of Bt) (by rcases fy.2 with⟨e,_⟩|⟨_,_,_,e,_⟩<;>rw[e]<;>simp[Value.ownBlock])
   have hc3:=SJ.cell
   have hn3:w.heap.size<=w3.heap.size:=Nat.le_trans hB.size Bt.size
   have eX0:w3.cell? ⟨Bx,0,none⟩=some (.int .i64 (x0:Int)):=(Bt.cell (p:=⟨Bx,0,none⟩) (Array.getElem?_eq_some_iff.1 bX).1).trans cX0
   have eX1:w3.cell? ⟨Bx,1,none⟩=some (.int .i64 (x1:Int)):=(Bt.cell (p:=⟨Bx,1,none⟩) (Array.getElem?_eq_some_iff.1 bX).1).trans cX1
   have mH:(nK s l pre).length<=2097152:=by
    have h1:=H4 s l pre
    have h2:=Cf l l.length
    omega
   have hKF:KeepsFrom (w.heap.size+4) W w3:=⟨Bt.size,fun k o _ hk _=>(Bt.block k (Array.getElem?_eq_some_iff.1 hk).1).trans hk⟩
   have hKT:ij w.heap.size W w3:=ij.of Bt
   have Tc:w3.heap[w.heap.size+1]? = _:=(Bt.block _ bA1.lt).trans bA1
   have Td:=(Bt.block _ (Array.getElem?_eq_some_iff.1 bT1).1).trans bT1
   by_cases lp:0<gQ s (aT l x0).bd x2 (aT l x1).bd
   ·have w9:nK s l (pre++[⟨(x0,x1,x2),CW,I7,AN⟩])=nK s l pre++[⟨x0,x1,gQ s (aT l x0).bd x2 (aT l x1).bd⟩]:=by
     rw[xU];simp only[za,if_pos lp]
    gi_wp2_with (gi_at_builtin;refine wpListIn_append_own _ rfl _ _ 226 rfl w.heap.size 246 i0 (.agg #[.int .i64 0,.int .i64 0,.int .i64 0]) 3 24 (by kernel_rfl) hi HE xe kh rfl (by decide) _ _ _ rfl (Fk.alloc _) ⟨w3.heap.size,0,none⟩ 1 1 [.int .i64 (x0:Int),.int .i64 (x1:Int),.int .i64 (gQ s (aT l x0).bd x2 (aT l x1).bd)] rfl rfl (vg _ _ _ _ _) (by simp[Value.oneCell']) (by unfold maxLen;omega) (by omega) (by simp;omega) ?_;intro v' w4 MT Fh _;obtain⟨g',cap',rfl⟩:=ownsRow_succ MT;obtain⟨yq,OB,DJ,vM,Gg⟩:=SJ.appended (by decide) Fk hn3 (by omega) MT Fh;have Lj:=ij.app SJ Fk Fh Gg;have pU:=yq.cell;have hf1:=yq.frozen)
    exact⟨hKF.trans (vM.from _),hKT.trans Lj,⟨⟨_,OB,by rw[w9,H3,List.length_append];exact DJ,by rw[w9];simp⟩,(Lj.2.1 _ _ _ _ Tc (by decide) (by decide)).trans Tc,(Lj.2.1 _ _ _ _ Td (by decide) (by decide)).trans Td⟩,hB.trans ((Bt.mono hB.size).trans Gg)⟩
   ·have w9:nK s l (pre++[⟨(x0,x1,x2),CW,I7,AN⟩])=nK s l pre:=by
     rw[xU];simp only[za,if_neg lp,List.append_nil]
    gi_wp2
    exact⟨hKF,hKT,⟨⟨v,SJ,by rw[w9];exact Fk,by rw[w9];exact hnil⟩,Tc,Td⟩,hB.trans (Bt.mono hB.size)⟩
 case done=>
  rintro D ys W hD Fq ⟨⟨⟨v,hv,fy,hnil⟩,_⟩,hB⟩ hK
  have hc:=hv.cell
  have Kw:nK s l ys=cF s l:=by rw[H9,<-Fq];rfl
  rw[Kw]at fy hnil
  gi_wp2
  refine⟨by simp,.inl ⟨_,_,rfl,run_takeDeferred hK,?_⟩⟩
  exact⟨_,results_tmp rfl _ _ _,v,rfl,ownsRow_putObj fy _ hK rfl,hnil,hB.trans (belowK_b (w:=w) (Nat.le_refl _) W D _ _ (by omega) hK rfl rfl)⟩
 case stop=>
  rintro D c pre W _ _ h _
  exact h.elim
end Go.Proofs.YtgoelphibofcmaaGreat.V

namespace Go.Proofs.YtgoelphibofcmaaGreat.V
open Go.RowKit Go.Shelf
theorem EV:∀{bs:List PB} {i j:Nat} {b:PB},bs[i]? =some b->j<3->(KP bs)[i*3+j]? =([.int .i64 b.a,.int .i64 b.b,.int .i64 b.s]:List Value)[j]?
 |c::bs,0,j,b,h,hj=>by
  simp at h;subst h
  simp only[KP,List.flatMap_cons,Nat.zero_mul,Nat.zero_add]
  rw[List.getElem?_append_left (by simpa using hj)]
 |c::bs,i+1,j,b,h,hj=>by
  simp only[List.getElem?_cons_succ]at h
  have:=EV (bs:=bs) (i:=i) (j:=j) h hj
  simp only[KP,List.flatMap_cons]at this ⊢
  rw[List.getElem?_append_right (by simp;omega),<-this]
  congr 1
  simp;omega
theorem rz {P:Program} {w:World} {D:Nat->Prop} {rows:List (List AV)} {v:Value} (h:jF P w D (.sl rows) v):∃A n c,v=.slice A n c:=by
 cases h with
 |AP a c _=>exact⟨_,_,_,rfl⟩
 |sl=>exact⟨_,_,_,rfl⟩
theorem qJ {P:Program} {w:World} {D:Nat->Prop} {ι:Names} {rows:List (List AV)} {v:Value} (h:cE P w D ι (.sl rows) v):jF P w D (.sl rows) v:=by
 cases h with
 |eP _ _ h=>exact h
theorem L3 {P:Program} {w:World} {D:Nat->Prop} {l:List ah} {v:Value} (h:jF P w D (.sl (l.map ad)) v):pC w v l:=by
 generalize hr:l.map ad=rows at h
 cases h with
 |AP a c hc=>
  have:l=[]:=by simpa using hr
  subst this
  exact⟨a,c,rfl,⟨Nat.zero_le _,hc⟩,.inl rfl⟩
 |sl _ b o n c sz vs h1 h2 h3 h4 h5 h5' h6 h7=>
  have hn:n=l.length:=by rw[<-h1,<-hr];simp
  subst hn
  refine⟨some ⟨b,o,none⟩,c,rfl,⟨h2,h3⟩,?_⟩
  by_cases hl:l=[]
  ·exact .inl hl
  refine .inr ⟨b,o,rfl,fun i hi=>?_⟩
  have hg:rows[i]? =some (ad (aT l i)):=by rw[<-hr];exact fN hi
  have ft:sz=3:=by rw[<-h5 _ (List.mem_of_getElem? hg)];rfl
  subst ft
  have k:∀(j:Nat) (x:Int),(ad (aT l i))[j]? =some (.int .i64 x)->j<3->w.cell? ⟨b,o+(i*3+j),none⟩=some (.int .i64 x):=fun j x hj h3=>by
   have:=h7 i j _ _ hg hj
   rw[h6 i j hi h3,dr (.eP (ι:=fun _=>none) _ _ this)]
  exact⟨k 0 _ rfl (by omega),k 1 _ rfl (by omega),k 2 _ rfl (by omega)⟩
theorem Nw:CY:=by
 intro s l hS hA n
 refine gJ ?_
 intro hs D ι w vs S U A
 obtain⟨u0,SI,r0⟩:=A.2 0 _ rfl
 obtain⟨u1,Ra,r1⟩:=A.2 1 _ rfl
 have dM:∀b,D b->b<w.heap.size:=S.dead
 obtain⟨v0,f0,rfl,HE,_,Ss,PS⟩:=iP r0
 obtain⟨v1,f1,rfl,xe,_,hf1,Gm⟩:=iP r1
 have g0:=qJ (PS 0 _ rfl)
 have g1:=qJ (PS 1 _ rfl)
 have a0:=qJ (Gm 0 _ rfl)
 obtain⟨Ag,ng,cg,eg⟩:=rz g0
 obtain⟨At,nt,ct,et⟩:=rz g1
 have e0:v0= #[.slice Ag ng cg,.slice At nt ct]:=by
  obtain⟨vl⟩:=v0
  have q0:=Ss 0 (by simp[ab])
  have q1:=Ss 1 (by simp[ab])
  rw[eg]at q0;rw[et]at q1
  match vl,HE with
  |[a,b],_=>simp at q0 q1;rw[q0,q1]
 have e1:v1= #[f1 0]:=by
  obtain⟨vl⟩:=v1
  have q0:=hf1 0 (by simp)
  match vl,xe with
  |[a],_=>simp at q0;rw[q0]
 subst e0 e1
 have evs:vs= #[.agg #[.slice Ag ng cg,.slice At nt ct],.agg #[f1 0]]:=by
  obtain⟨vl⟩:=vs
  have hz:=A.1
  match vl,hz with
  |[a,b],_=>simp at SI Ra;rw[SI,Ra]
 subst evs
 have up:∀{a v},jF Tryz.prog w D a v->jF Tryz.prog w (fun b=>b<w.heap.size) a v:=fun h=>h.frame (fun _ _=>rfl) dM
 have hT:jF Tryz.prog w (fun b=>b<w.heap.size) (.agg (ab s)) (.agg #[.slice Ag ng cg,.slice At nt ct]):=
  .agg _ _ f0 HE (fun a ha=>by simp[ab]at ha;rcases ha with rfl|rfl<;>rfl) Ss (fun j a ha=>by
   match j,ha with
   |0,ha=>simp[ab]at ha;subst ha;exact up g0
   |1,ha=>simp[ab]at ha;subst ha;exact up g1
   |j+2,ha=>simp[ab]at ha)
 refine(callsIn_wide.1 (H8 s l hS.form hA w Ag At ng cg nt ct (f1 0) hT (L3 a0))).mono ?_
 rintro e W' ⟨v,rfl,⟨hl,hown⟩,hnil,hB⟩
 have S':gn Tryz.prog hs D ι (fun _=>none) W':=S.stay (fun b hb=>hB.block b hb) hB.size (fun _ h=>h) (fun b hb=>Nat.lt_of_lt_of_le (dM b hb) hB.size) (fun _ h=>.inl h) (fun _ _ h=>h)
 have T:Step hs D ι w D ι W':=Step.stay S (fun b hb=>hB.block b hb) hB.size hB.os hB.tape hB.output (fun _ h=>h) (fun _ h=>.inl h) (fun _ _ h=>h)
 rcases hown with⟨rfl,h0⟩|⟨gb,cap,cur,rfl,QR,hblk,hle,IB,dw,pN⟩
 ·have Qz:cF s l=[]:=hnil.1 rfl
  exact⟨.cC,_,n,D,ι,_,rfl,⟨.cC,kP _ _,by rw[Qz];rfl⟩,T,S',U,Nat.le_refl _,.eP _ _ .cC⟩
 ·have Qz:cF s l≠[]:=fun h=>by have:=hnil.2 h;cases this
  have kq:ι ⟨0,n⟩=none:=fresh U (fun h=>h)
  have gH:∀{a v},cE Tryz.prog W' D ι a v->cE Tryz.prog W' D (kC ι ⟨0,n⟩ ⟨gb,3,cap*3,none⟩) a v:=fun h=>h.frame (fun _ _=>rfl) (fun _ h=>h) (fa kq)
  have hR:gI Tryz.prog W' D (kC ι ⟨0,n⟩ ⟨gb,3,cap*3,none⟩) ⟨gb,3,cap*3,none⟩ ⟨true,3,(cF s l).map aC⟩:=by
   refine ly.obj ⟨rfl,⟨cur,_,hblk,dw⟩,?_,fun cs hc=>?_,fun cs hc a ha=>?_,fun i j cs a hi hj=>?_⟩ rfl
   ·simp only[List.length_map];exact Nat.mul_le_mul_right 3 hle
   ·obtain⟨b,_,rfl⟩:=List.mem_map.1 hc;rfl
   ·obtain⟨b,_,rfl⟩:=List.mem_map.1 hc
    simp[aC]at ha
    rcases ha with rfl|rfl|rfl<;>rfl
   ·rw[List.getElem?_map]at hi
    simp only[Option.map_eq_some_iff]at hi
    obtain⟨b,hb,rfl⟩:=hi
    have hj3:j<3:=by have:=(List.getElem?_eq_some_iff.1 hj).1;simpa[aC]using this
    have mb:=(List.getElem?_eq_some_iff.1 hb).1
    have hg:=EV hb hj3
    rw[<-pN,List.getElem?_take,if_pos (by omega)]at hg
    have key:∀x:Value,([.int .i64 b.a,.int .i64 b.b,.int .i64 b.s]:List Value)[j]? =some x->W'.cell? ⟨gb,i*3+j,none⟩=some x:=fun x hx=>by
     rw[hx]at hg
     have e:W'.cell? ⟨gb,i*3+j,none⟩=cur[i*3+j]? :=by
      unfold World.cell?
      rw[show W'.heap[(⟨gb,i*3+j,none⟩:Addr).block]? = _ from hblk]
      rfl
     rw[e,<-Array.getElem?_toList];exact hg
    match j,hj with
    |0,hj=>simp[aC]at hj;subst hj;exact⟨_,key _ rfl,.eP _ _ (.int _ _)⟩
    |1,hj=>simp[aC]at hj;subst hj;exact⟨_,key _ rfl,.eP _ _ (.int _ _)⟩
    |2,hj=>simp[aC]at hj;subst hj;exact⟨_,key _ rfl,.eP _ _ (.int _ _)⟩
    |j+3,hj=>simp[aC]at hj
  have S2:=gn.add (r:=⟨true,3,(cF s l).map aC⟩) S S' kq QR hR
  refine⟨.own ⟨0,n⟩ 0 (cF s l).length,bJ (fun _=>none) ⟨0,n⟩ ⟨true,3,(cF s l).map aC⟩,n+1,D,kC ι ⟨0,n⟩ ⟨gb,3,cap*3,none⟩,_,rfl,⟨Am (cF s l),?_,rfl⟩,T.trans (Step.stay S' (fun _ _=>rfl) (Nat.le_refl _) rfl rfl rfl (fun _ h=>h) (fun _ h=>.inl h) (fa kq)),S2,U.upd.next,Nat.le_succ _,.own _ _ _ _ _ _ (dR _ _ _) rfl hle (.inr (by simp)) (by simp) IB⟩
  unfold Am
  rw[if_neg Qz]
  have hg:(bJ (fun _=>none) (⟨0,n⟩:Id) ⟨true,3,(cF s l).map aC⟩:Rows) ⟨0,n⟩=some ⟨true,3,(cF s l).map aC⟩:=by simp[bJ]
  have:=fY (n:=5) hg rfl fun b=>uu _ 4 b
  simpa using this
end Go.Proofs.YtgoelphibofcmaaGreat.V

namespace Go.Proofs.YtgoelphibofcmaaGreat.V
open Go.RowKit
attribute [local irreducible] dG wpOps gz Call
attribute [local go_sem] aL fU eV gw gr cK upd cw K.av cU AV.cells AV.cell rowOf rowsOf part ld rowAt bJ cr dK ep iC bR dj eF gq fh dz ew dh de ec ee bV bh cX bU cZ cY eu ez ev cW cj di er bS aQ db cG iA bz cN bW aX dn aZ dL AV.undef bG bK ef eo dW ea cJ eE eH cD eB eA da dc List.getD_cons_zero List.getD_cons_succ List.getD_nil List.all_cons List.all_nil Bool.and_true Bool.true_and Bool.and_self Bool.not_true Bool.not_false Option.map_some Option.map_none Option.bind_some Option.bind_none List.length_cons List.length_nil List.take_succ_cons List.take_zero List.take_nil List.drop_succ_cons List.drop_zero List.drop_nil List.head?_cons List.map_cons List.map_nil List.getElem?_cons_zero List.getElem?_cons_succ List.cons_append List.nil_append List.append_nil List.length_map List.set_cons_zero List.set_cons_succ Nat.reduceMul eq_self Int.toNat_natCast Int.natCast_nonneg and_self true_and and_true decide_true decide_false Bool.false_eq_true Nat.zero_add Nat.add_zero List.contains_cons List.contains_nil Bool.or_false Bool.false_or beq_self_eq_true Nat.reduceBEq ne_eq not_true_eq_false not_false_eq_true Id.mk.injEq false_and and_false Nat.reduceLT Int.reduceLE Int.reduceLT Int.reduceToNat Int.reduceNeg Int.reduceAdd Nat.le_refl List.length_append beq_true beq_false Bool.not_eq_eq_eq_not or_false false_or dX ai aq aH bj bE cu aW br aU bp cV bP
theorem LU (lb:List ah) (hb:iW lb) (t:ah):aj Tryz.prog 168 [.agg (ad t),.cQ [.sl (lb.map ad)]] (.bool (!decide (gW lb t.aO=t.bd))):=by
 refine aj.body ek rfl fun hl n0=>?_
 clear hl
 have h:=Tb lb t.aO hb.M9 (by have:=hb.w8;omega)
 (repeat(first|((repeat(revert hN;revert N;apply Pn.out));refine wk (tw @ad.eq_1 @aa.eq_1) ?_;(repeat(refine Pn.mk ?_;intro N hN)))|((try apply Or.inl);refine⟨_,aj.x (h) (sd (tw @ad.eq_1 @aa.eq_1)),?_⟩;refine hN _ _ ?_;clear hN N)))
 exact aP (b:= !decide (gW lb t.aO=t.bd)) (.inl rfl) (sd @Nat.zero_add) (by simp)
theorem C3 (la lb:List ah) (ha:iW la) (hb:iW lb):aj Tryz.prog 107 [.agg [.sl (la.map ad)],.agg [.sl (lb.map ad)]] (.bool (kD la lb)):=by
 refine aj.body ek rfl fun hl n0=>?_
 clear hl
 have h1:=sF la
 have h2:=sF lb
 rw[sD.2 ha]at h1
 rw[sD.2 hb]at h2
 have h3:aj Tryz.prog 166 [.sl (la.map ad),.fn 168 [.cQ [.sl (lb.map ad)]]] (.bool (la.any fun t=> !decide (gW lb t.aO=t.bd))):=
  kO vk (show lV Tryz.prog 166=some (zy 166 202) by kernel_rfl)
   (show lV Tryz.prog 202=some (sL 202 3 true) by kernel_rfl) la (by have:=ha.w8;omega) _ _ _ rfl (fun g=>by rw[ai,aU,aq];rfl) (fun x _=>LU lb hb x) fun g=>by rw[ai,aU,aq];rfl
 (repeat(first|((repeat(revert hN;revert N;apply Pn.out));refine wk @Nat.zero_add ?_;(repeat(refine Pn.mk ?_;intro N hN)))|((try apply Or.inl);refine⟨_,aj.x (h1) (sd @Nat.zero_add),?_⟩;refine hN _ _ ?_;clear hN N)|((try apply Or.inl);refine⟨_,aj.x (h2) (sd @Nat.zero_add),?_⟩;refine hN _ _ ?_;clear hN N)|((try apply Or.inl);refine⟨_,aj.x (h3) (sd @Nat.zero_add),?_⟩;refine hN _ _ ?_;clear hN N)))
 exact aP (b:= !(la.any fun t=> !decide (gW lb t.aO=t.bd))) (.inl rfl) (sd @Nat.zero_add) (by rw[ER];rfl)
theorem zu (s:aM) (l:List ah) (hn:fW s.ax) (hm:pQ s) (hl:l.length<=1048576):aj Tryz.prog 63 [.agg (ay s),.agg [.sl (l.map ad)]] (.int .i64 (if qT s l then 0 else 1)):=by
 refine aj.body ek rfl fun mV n0=>?_
 clear mV
 have h1:=xj Nw s hn hm.s.g hm.s.t hm.s.s hm.a
 have h2:=nA s.ax l hn hm.s.g hm.s.t hm.s.s hl
 cases b1:ns s
 ·rw[b1]at h1
  rw[ay]at h1 ⊢
  (repeat(first|((repeat(revert hN;revert N;apply Pn.out));refine wk @Nat.zero_add ?_;(repeat(refine Pn.mk ?_;intro N hN)))|((try apply Or.inl);refine⟨_,aj.x (h1) (sd @Nat.zero_add),?_⟩;refine hN _ _ ?_;clear hN N)))
  exact bL (b:=1) (.inl rfl) (sd @Nat.zero_add) (by simp[qT,b1])
 have dO:qK s.ax=true:=mo.2 (wQ.1 b1).set
 rw[b1]at h1
 rw[dO,Bool.true_and]at h2
 rw[ay]at h1 ⊢
 rw[ab]at h2
 cases b2:pD s.ax l
 ·rw[b2]at h2
  (repeat(first|((repeat(revert hN;revert N;apply Pn.out));refine wk @Nat.zero_add ?_;(repeat(refine Pn.mk ?_;intro N hN)))|((try apply Or.inl);refine⟨_,aj.x (h1) (sd @Nat.zero_add),?_⟩;refine hN _ _ ?_;clear hN N)|((try apply Or.inl);refine⟨_,aj.x (h2) (sd @Nat.zero_add),?_⟩;refine hN _ _ ?_;clear hN N)))
  exact bL (b:=1) (.inl rfl) (sd @Nat.zero_add) (by simp[qT,b1,b2])
 ·rw[b2]at h2
  (repeat(first|((repeat(revert hN;revert N;apply Pn.out));refine wk @Nat.zero_add ?_;(repeat(refine Pn.mk ?_;intro N hN)))|((try apply Or.inl);refine⟨_,aj.x (h1) (sd @Nat.zero_add),?_⟩;refine hN _ _ ?_;clear hN N)|((try apply Or.inl);refine⟨_,aj.x (h2) (sd @Nat.zero_add),?_⟩;refine hN _ _ ?_;clear hN N)))
  exact bL (b:=0) (.inl rfl) (sd @Nat.zero_add) (by simp[qT,b1,b2])
theorem zG (s:aM) (l:List ah) (hn:fW s.ax) (hm:pQ s) (hl:l.length<=1048576):aj Tryz.prog 69 [.agg (ay s),.agg [.sl (l.map ad)]] (.int .i64 (jb s l)):=by
 refine aj.body ek rfl fun mV n0=>?_
 clear mV
 have h1:=zu s l hn hm hl
 cases b:qT s l
 ·rw[b]at h1
  rw[ay]at h1 ⊢
  (repeat(first|((repeat(revert hN;revert N;apply Pn.out));refine wk @Nat.zero_add ?_;(repeat(refine Pn.mk ?_;intro N hN)))|((try apply Or.inl);refine⟨_,aj.x (h1) (sd @Nat.zero_add),?_⟩;refine hN _ _ ?_;clear hN N)))
  exact bL (b:=1) (.inl rfl) (sd @Nat.zero_add) (by simp[jb,b])
 obtain⟨hP,hA⟩:=qU.1 b
 have h2:=C3 s.bF.ae l hP.G5.1 hA.1
 rw[b]at h1
 rw[ay]at h1 ⊢
 cases b2:kD s.bF.ae l
 ·rw[b2]at h2
  (repeat(first|((repeat(revert hN;revert N;apply Pn.out));refine wk @Nat.zero_add ?_;(repeat(refine Pn.mk ?_;intro N hN)))|((try apply Or.inl);refine⟨_,aj.x (h1) (sd @Nat.zero_add),?_⟩;refine hN _ _ ?_;clear hN N)|((try apply Or.inl);refine⟨_,aj.x (h2) (sd @Nat.zero_add),?_⟩;refine hN _ _ ?_;clear hN N)))
  exact bL (b:=2) (.inl rfl) (sd @Nat.zero_add) (by simp[jb,b,b2])
 ·rw[b2]at h2
  (repeat(first|((repeat(revert hN;revert N;apply Pn.out));refine wk @Nat.zero_add ?_;(repeat(refine Pn.mk ?_;intro N hN)))|((try apply Or.inl);refine⟨_,aj.x (h1) (sd @Nat.zero_add),?_⟩;refine hN _ _ ?_;clear hN N)|((try apply Or.inl);refine⟨_,aj.x (h2) (sd @Nat.zero_add),?_⟩;refine hN _ _ ?_;clear hN N)))
  exact bL (b:=0) (.inl rfl) (sd @Nat.zero_add) (by simp[jb,b,b2])
theorem CK {s:aM} (hP:tU s) {l:List ah} (hW:kD s.bF.ae l=true):l≠[]:=by
 intro e
 subst e
 have h1:=hP.some
 unfold kD at hW
 rw[List.all_eq_true]at hW
 have h2:=hW _ (jx (l:=s.bF.ae) (i:=0) (by omega))
 have h3:=(dZ (hP.G5.2 _ (jx (l:=s.bF.ae) (i:=0) (by omega)))).1
 simp[gW,eL]at h2
 omega
end Go.Proofs.YtgoelphibofcmaaGreat.V

namespace Go.Proofs.YtgoelphibofcmaaGreat.V
open Go.RowKit
attribute [local irreducible] dG wpOps gz Call
attribute [local go_sem] aL fU eV gw gr cK upd cw K.av cU AV.cells AV.cell rowOf rowsOf part ld rowAt bJ cr dK ep iC bR dj eF gq fh dz ew dh de ec ee bV bh cX bU cZ cY eu ez ev cW cj di er bS aQ db cG iA bz cN bW aX dn aZ dL AV.undef bG bK ef eo dW ea cJ eE eH cD eB eA da dc List.getD_cons_zero List.getD_cons_succ List.getD_nil List.all_cons List.all_nil Bool.and_true Bool.true_and Bool.and_self Bool.not_true Bool.not_false Option.map_some Option.map_none Option.bind_some Option.bind_none List.length_cons List.length_nil List.take_succ_cons List.take_zero List.take_nil List.drop_succ_cons List.drop_zero List.drop_nil List.head?_cons List.map_cons List.map_nil List.getElem?_cons_zero List.getElem?_cons_succ List.cons_append List.nil_append List.append_nil List.length_map List.set_cons_zero List.set_cons_succ Nat.reduceMul eq_self Int.toNat_natCast Int.natCast_nonneg and_self true_and and_true decide_true decide_false Bool.false_eq_true Nat.zero_add Nat.add_zero List.contains_cons List.contains_nil Bool.or_false Bool.false_or beq_self_eq_true Nat.reduceBEq ne_eq not_true_eq_false not_false_eq_true Id.mk.injEq false_and and_false Nat.reduceLT Int.reduceLE Int.reduceLT Int.reduceToNat Int.reduceNeg Int.reduceAdd Nat.le_refl List.length_append beq_true beq_false Bool.not_eq_eq_eq_not or_false false_or dX ai aq aH bj bE cu aW br aU bp cV bP
theorem Jb {σ:au} {c T O:Id} {s:aM} {ts:List ah} (h:w7 σ.get σ.next c T O s ts) (hP:tU s) (hF:∀q,0<=gW ts q->eJ s.ax (gW ts q)=true) (p:ar) (t:Int) (ht:eJ s.ax t=true):
  Call Tryz.prog 84 [.ptr c 0 0,.agg (aa p),.int .i64 t] σ (fun r _=>r=.bool (dy s ts p t)):=by
 refine eW ek rfl fun mV=>?_
 clear mV
 have hS:=hP.set
 obtain⟨b,h1⟩:=h.row
 have v1:=dq h.cv
 have hw:=jj p
 have v2:=dq h.tv
 have Uv:IntKind.i64.wrap (s.az-1)=s.az-1:=aV (by have:=dZ hP.J3;omega)
 by_cases h0:qH p=true
 ·rw[h0]at hw
  obtain⟨hx,hy⟩:=nk h0
  by_cases h2:gW ts p<0
  ·have h5:=j8 (l9 s.ax (gW ts) p t) 1 (s.az-1)
   have e:dy s ts p t=iH (l9 s.ax (gW ts) p t) 1 (s.az-1):=by simp[dy,h0,h2]
   (repeat(first|((repeat(revert hN;revert N;apply Pn.out));refine wk (tw @h1 (tw @v1 (tw @h2 @aa.eq_1))) ?_;(repeat(refine Pn.mk ?_;intro N hN)))|((try apply Or.inl);refine⟨_,aj.x (hw) (sd (tw @h1 (tw @v1 (tw @h2 @aa.eq_1)))),?_⟩;refine hN _ _ ?_;clear hN N)))
   refine⟨_,HX (h.frame (by(try dsimp only);omega) (sd @v1) (sd @v2)) p,?_⟩
   refine hN _ _ ?_
   clear hN N
   (repeat(first|((repeat(revert hN;revert N;apply Pn.out));refine wk (tw @h1 (tw @v1 (tw @h2 (tw @aa.eq_1 @ab.eq_1)))) ?_;(repeat(refine Pn.mk ?_;intro N hN)))|((try apply Or.inl);refine⟨_,aj.x (hw) (sd (tw @h1 (tw @v1 (tw @h2 (tw @aa.eq_1 @ab.eq_1))))),?_⟩;refine hN _ _ ?_;clear hN N)))
   refine⟨_,xV (h.frame (by(try dsimp only);omega) (sd @v1) (sd @v2)) hS hF p hx hy t ht,?_⟩
   refine hN _ _ ?_
   clear hN N
   (repeat(first|((repeat(revert hN;revert N;apply Pn.out));refine wk (tw @h1 (tw @v1 (tw @h2 (tw @Uv (tw @aa.eq_1 @ab.eq_1))))) ?_;(repeat(refine Pn.mk ?_;intro N hN)))|((try apply Or.inl);refine⟨_,aj.x (hw) (sd (tw @h1 (tw @v1 (tw @h2 (tw @Uv (tw @aa.eq_1 @ab.eq_1)))))),?_⟩;refine hN _ _ ?_;clear hN N)|((try apply Or.inl);refine⟨_,aj.x (h5) (sd (tw @h1 (tw @v1 (tw @h2 (tw @Uv (tw @aa.eq_1 @ab.eq_1)))))),?_⟩;refine hN _ _ ?_;clear hN N)))
   exact fc (.inl rfl) (vs:=[.bool (iH (l9 s.ax (gW ts) p t) 1 (s.az-1))]) (sd @Nat.zero_add) (by rw[e];rfl)
  ·(repeat(first|((repeat(revert hN;revert N;apply Pn.out));refine wk (tw @h1 (tw @v1 (tw @h2 @aa.eq_1))) ?_;(repeat(refine Pn.mk ?_;intro N hN)))|((try apply Or.inl);refine⟨_,aj.x (hw) (sd (tw @h1 (tw @v1 (tw @h2 @aa.eq_1)))),?_⟩;refine hN _ _ ?_;clear hN N)))
   refine⟨_,HX (h.frame (by(try dsimp only);omega) (sd @v1) (sd @v2)) p,?_⟩
   refine hN _ _ ?_
   clear hN N
   (repeat(first|((repeat(revert hN;revert N;apply Pn.out));refine wk (tw @h1 (tw @v1 (tw @h2 @aa.eq_1))) ?_;(repeat(refine Pn.mk ?_;intro N hN)))|((try apply Or.inl);refine⟨_,aj.x (hw) (sd (tw @h1 (tw @v1 (tw @h2 @aa.eq_1)))),?_⟩;refine hN _ _ ?_;clear hN N)))
   exact fc (.inl rfl) (vs:=[.bool false]) (sd @Nat.zero_add) (by rw[show dy s ts p t=false by simp[dy,h2]];rfl)
 ·rw[Bool.not_eq_true]at h0
  rw[h0]at hw
  (repeat(first|((repeat(revert hN;revert N;apply Pn.out));refine wk (tw @h1 (tw @v1 @aa.eq_1)) ?_;(repeat(refine Pn.mk ?_;intro N hN)))|((try apply Or.inl);refine⟨_,aj.x (hw) (sd (tw @h1 (tw @v1 @aa.eq_1))),?_⟩;refine hN _ _ ?_;clear hN N)))
  exact fc (.inl rfl) (vs:=[.bool false]) (sd @Nat.zero_add) (by rw[show dy s ts p t=false by simp[dy,h0]];rfl)
theorem Jc {σ:au} {c T O:Id} {s:aM} {ts:List ah} (h:w7 σ.get σ.next c T O s ts) (hP:tU s) (hF:∀q,0<=gW ts q->eJ s.ax (gW ts q)=true) (p:ar) (t:Int) (ht:eJ s.ax t=true):
  gz (Call Tryz.prog) 84 [.ptr c 0 0,.agg (aa p),.int .i64 t] σ (fun r=>r=.bool (dy s ts p t)):=by
 unfold gz PC
 exact Or.inl (aG _ _ _ _ _ (fun r σ' hr=>⟨_,by rw[hr];exact bj _ _ _,rfl⟩) (Jb (σ:=⟨V.ro σ.get,σ.next⟩) h.ro hP hF p t ht))
theorem Cg {s:aM} {l:List ah} (hA:lN s.ax l) {qs:List ar} (hR:lZ qs) (hm:∀x,x∈qs↔x∈kK l):qs.filter (fun p=>decide (eL l p<0))=jv l:=by
 refine Ah (List.Pairwise.sublist List.filter_sublist hR) (qG l _) fun x=>?_
 rw[List.mem_filter,hm,rH,yH,HO,decide_eq_true_eq]
 constructor
 ·rintro⟨⟨t,ht,h⟩,h0⟩
  rcases h with rfl|⟨k,hk,h1,h2⟩
  ·exact absurd rfl (BN.1 h0 t ht)
  ·obtain⟨i,hi,rfl⟩:=List.getElem_of_mem ht
   exact⟨h2,h0,i,k,hi,hk,by rw[iw hi];exact h1⟩
 ·rintro⟨h1,h2,i,d,hi,hd,h3⟩
  exact⟨⟨aT l i,jx hi,.inr ⟨d,hd,h3,h1⟩⟩,h2⟩
theorem Hs {s:aM} {l:List ah} (hA:lN s.ax l) {qs:List ar} (hR:lZ qs) (hm:∀x,x∈qs↔x∈kK l) (m:Nat):kF (dy s l) m qs=kF (dy s l) m (jv l):=by
 rw[<-Cg hA hR hm]
 exact uS (fun p hp t=>by
  have:¬gW l p<0:=fun h=>by
   rw[decide_eq_false_iff_not]at hp
   exact hp ((C8 hA p).1 h)
  simp[dy,this]) m qs
theorem Pb {σ:au} {c T O:Id} {s:aM} {l:List ah} (h:p7 σ.get σ.next c T O s l) (hP:tU s) (hA:lN s.ax l) (h0:l≠[]):
  Call Tryz.prog 88 [.ptr c 0 0] σ (fun r σ'=>My σ.next (kF (dy s l) s.ax.ae.length (jv l)) r σ'.get σ'.next):=by
 obtain⟨qs,hR,hm,hqa⟩:=tM (kK l)
 have Bv:=hA.1.w8
 have SF:qs.length<=10000:=by have:=ui l;omega
 have HB:∀p∈qs,qH p=true:=fun p hp=>by
  obtain⟨t,ht,h⟩:=rH.1 ((hm p).1 hp)
  rcases h with rfl|⟨_,_,_,h⟩
  ·obtain⟨i,hi,rfl⟩:=List.getElem_of_mem ht
   have:=hA.1.pt hi
   rwa [iw hi]at this
  ·exact h
 rw[<-Hs hA hR hm]
 refine eW ek rfl fun mV=>?_
 clear mV
 (try((repeat(revert hN;revert N;apply Pn.out));refine wk @Nat.zero_add ?_;(repeat(refine Pn.mk ?_;intro N hN))))
 refine .inr (aG _ _ _ _ _ (fun r σ2 hq=>?_) (HW (σ:=⟨σ.get,σ.next+1+1⟩) (h.frame (by(try dsimp only);omega) fun x hx=>rfl) hA.1 h0 qs hR hm))
 obtain⟨g2,x2⟩:=σ2
 obtain⟨o,X,rfl,ho,pK,SE,Ll,Bz,hT2⟩:=hq
 (try dsimp only at ho pK SE Ll Bz hT2)
 have QC:=h.cv
 have hTn:=h.tv
 have hOn:=h.ov
 have gc:=(Bz c (by omega) h.cT).trans h.row
 refine hN _ _ ?_
 clear hN N
 (try((repeat(revert hN;revert N;apply Pn.out));refine wk @Nat.zero_add ?_;(repeat(refine Pn.mk ?_;intro N hN))))
 have xb:w7 g2 x2 c T O s l:=⟨⟨_,gc⟩,⟨_,hT2⟩,by omega,by omega,by omega⟩
 refine .inr (aG _ _ _ _ _ (fun r σ3 hq=>?_) (Hg (σ:=⟨g2,_⟩) (c:=c) (T:=T) (O:=O) (s:=s) (l:=l) (xb.frame (by(try dsimp only);omega) rfl rfl) hP.set (dy s l) 84 [.ptr c 0 0] (fun σ' hn hf p hx hy t ht=>Jc ((xb.frame (by(try dsimp only);omega) rfl rfl:w7 g2 _ c T O s l).frame hn (hf _ (by(try dsimp only);omega)) (hf _ (by(try dsimp only);omega))) hP (iF.MB hA) p t ht) qs (X.map aa) SF HB o (by(try dsimp only);omega) (by rw[<-List.map_append];exact ho)))
 obtain⟨g3,x3⟩:=σ3
 (try dsimp only at hq)
 refine hN _ _ ?_
 clear hN N
 (try((repeat(revert hN;revert N;apply Pn.out));refine wk @Nat.zero_add ?_;(repeat(refine Pn.mk ?_;intro N hN))))
 refine fc (.inl rfl) (vs:=[r]) (sd @Nat.zero_add) ?_
 (try dsimp only)
 rcases hq with⟨h2,h3⟩|⟨u,h2,h3,h4,h5,h6,h8⟩
 ·exact .inl ⟨h2,h3⟩
 ·exact .inr ⟨u,h2,h3,by omega,by omega,h6,h8⟩
end Go.Proofs.YtgoelphibofcmaaGreat.V

namespace Go.Proofs.YtgoelphibofcmaaGreat.V
open Go.RowKit
attribute [local irreducible] dG wpOps gz Call
attribute [local go_sem] aL fU eV gw gr cK upd cw K.av cU AV.cells AV.cell rowOf rowsOf part ld rowAt bJ cr dK ep iC bR dj eF gq fh dz ew dh de ec ee bV bh cX bU cZ cY eu ez ev cW cj di er bS aQ db cG iA bz cN bW aX dn aZ dL AV.undef bG bK ef eo dW ea cJ eE eH cD eB eA da dc List.getD_cons_zero List.getD_cons_succ List.getD_nil List.all_cons List.all_nil Bool.and_true Bool.true_and Bool.and_self Bool.not_true Bool.not_false Option.map_some Option.map_none Option.bind_some Option.bind_none List.length_cons List.length_nil List.take_succ_cons List.take_zero List.take_nil List.drop_succ_cons List.drop_zero List.drop_nil List.head?_cons List.map_cons List.map_nil List.getElem?_cons_zero List.getElem?_cons_succ List.cons_append List.nil_append List.append_nil List.length_map List.set_cons_zero List.set_cons_succ Nat.reduceMul eq_self Int.toNat_natCast Int.natCast_nonneg and_self true_and and_true decide_true decide_false Bool.false_eq_true Nat.zero_add Nat.add_zero List.contains_cons List.contains_nil Bool.or_false Bool.false_or beq_self_eq_true Nat.reduceBEq ne_eq not_true_eq_false not_false_eq_true Id.mk.injEq false_and and_false Nat.reduceLT Int.reduceLE Int.reduceLT Int.reduceToNat Int.reduceNeg Int.reduceAdd Nat.le_refl List.length_append beq_true beq_false Bool.not_eq_eq_eq_not or_false false_or dX ai aq aH bj bE cu aW br aU bp cV bP
noncomputable def k9 (s:aM) (l:List ah):List ah×Int:=if jb s l=0 then(kF (dy s l) s.ax.ae.length (jv l),0)else([],jb s l)
theorem xl (s:aM) (l:List ah) (hn:fW s.ax) (hg:s.ax.aB.length<=1048576) (ht:s.ax.ae.length<=1048576):km Tryz.prog 48 [.agg (ay s),.agg [.sl (l.map ad)]] (.gP [.sl ((k9 s l).1.map ad),.int .i64 (k9 s l).2]):=by
 refine km.body ek rfl fun mV σ=>?_
 clear mV
 have h1:=GF s l hn hg ht
 by_cases h0:jb s l=0
 ·obtain⟨hP,hA,hW⟩:=yO.1 h0
  have h2:=DV s hP l hA
  have hr:k9 s l=(kF (dy s l) s.ax.ae.length (jv l),0):=by rw[k9,if_pos h0]
  rw[h0]at h1
  rw[hr]
  generalize kF (dy s l) s.ax.ae.length (jv l)=L at h2 ⊢
  rw[ay]at h1 h2 ⊢
  (repeat(first|((repeat(revert hN;revert N;apply Pn.out));refine wk @Nat.zero_add ?_;(repeat(refine Pn.mk ?_;intro N hN)))|((try apply Or.inl);refine⟨_,aj.x (h1) (sd @Nat.zero_add),?_⟩;refine hN _ _ ?_;clear hN N)|((try apply Or.inl);refine⟨_,aj.x (h2) (sd @Nat.zero_add),?_⟩;refine hN _ _ ?_;clear hN N)))
  exact Af (.inl rfl) (vs:=[.sl (L.map ad),.int .i64 0]) (sd @Nat.zero_add) (by simp only[fA,bP,ai,aq,cu,aH,Option.map_some])
 ·have hd:decide (jb s l=0)=false:=decide_eq_false h0
  have hr:k9 s l=([],jb s l):=by rw[k9,if_neg h0]
  rw[hr]
  rw[ay]at h1 ⊢
  (repeat(first|((repeat(revert hN;revert N;apply Pn.out));refine wk @hd ?_;(repeat(refine Pn.mk ?_;intro N hN)))|((try apply Or.inl);refine⟨_,aj.x (h1) (sd @hd),?_⟩;refine hN _ _ ?_;clear hN N)))
  exact Af (.inl rfl) (vs:=[.own ⟨48003000,σ.next+1+1+1⟩ 0 0,.int .i64 (jb s l)]) (sd @Nat.zero_add) (by simp[fA,bP,ai,aq,aH,gZ,lE,bJ])
theorem xk (s:aM) (l:List ah) (hn:fW s.ax) (hm:pQ s) (hl:l.length<=1048576):uN Tryz.prog 49 [.agg (ay s),.agg [.sl (l.map ad)]] ad 3 (k9 s l).1 (k9 s l).2:=by
 intro n0
 refine eW ek rfl fun mV=>?_
 clear mV
 have h1:=zG s l hn hm hl
 by_cases h0:jb s l=0
 ·obtain⟨hP,hA,hW⟩:=yO.1 h0
  have hr:k9 s l=(kF (dy s l) s.ax.ae.length (jv l),0):=by rw[k9,if_pos h0]
  rw[h0]at h1
  rw[hr]
  have hc:=fun σ=>zZ s hP.set l hA σ
  rw[ay]at h1 hc ⊢
  (repeat(first|((repeat(revert hN;revert N;apply Pn.out));refine wk @Nat.zero_add ?_;(repeat(refine Pn.mk ?_;intro N hN)))|((try apply Or.inl);refine⟨_,aj.x (h1) (sd @Nat.zero_add),?_⟩;refine hN _ _ ?_;clear hN N)))
  refine .inr (aG _ _ _ _ _ (fun r σ1 hq=>?_) (hc _))
  obtain⟨g1,x1⟩:=σ1
  obtain⟨c,T,O,rfl,hC,Sn,Sh,hOv,jf,kq⟩:=hq
  (try dsimp only at hC Sn Sh hOv jf kq)
  refine hN _ _ ?_
  clear hN N
  (try((repeat(revert hN;revert N;apply Pn.out));refine wk @Nat.zero_add ?_;(repeat(refine Pn.mk ?_;intro N hN))))
  refine .inr (aG _ _ _ _ _ (fun r σ2 hq=>?_) (Pb (σ:=⟨g1,_⟩) (hC.frame (by(try dsimp only);omega) fun x hx=>rfl) hP hA (CK hP hW)))
  obtain⟨g2,x2⟩:=σ2
  (try dsimp only at hq)
  refine hN _ _ ?_
  clear hN N
  (try((repeat(revert hN;revert N;apply Pn.out));refine wk @Nat.zero_add ?_;(repeat(refine Pn.mk ?_;intro N hN))))
  refine fc (.inl rfl) (vs:=[r,.int .i64 0]) (sd @Nat.zero_add) ?_
  (try dsimp only)
  rcases hq with⟨h2,h3⟩|⟨u,h2,h3,h4,h5,h6,h8⟩
  ·exact⟨r,[],rfl,.inl ⟨h2,h3,rfl⟩,⟨List.nodup_nil,fun i hi=>by cases hi⟩⟩
  ·(try dsimp only at h3 h4 h5)
   exact⟨r,[u],rfl,.inr ⟨u,h2,h3,rfl,h6⟩,⟨List.nodup_cons.2 ⟨by simp,List.nodup_nil⟩,fun i hi=>by rw[List.mem_singleton.1 hi];(try dsimp only);omega⟩⟩
 ·have hd:decide (jb s l=0)=false:=decide_eq_false h0
  have hr:k9 s l=([],jb s l):=by rw[k9,if_neg h0]
  rw[hr]
  rw[ay]at h1 ⊢
  (repeat(first|((repeat(revert hN;revert N;apply Pn.out));refine wk @hd ?_;(repeat(refine Pn.mk ?_;intro N hN)))|((try apply Or.inl);refine⟨_,aj.x (h1) (sd @hd),?_⟩;refine hN _ _ ?_;clear hN N)))
  exact fc (.inl rfl) (vs:=[.cC,.int .i64 (jb s l)]) (sd @Nat.zero_add) ⟨.cC,[],rfl,.inl ⟨rfl,rfl,rfl⟩,⟨List.nodup_nil,fun i hi=>by cases hi⟩⟩
end Go.Proofs.YtgoelphibofcmaaGreat.V

namespace Go.Proofs.YtgoelphibofcmaaGreat
open Go.ChangeShapes Go.WideShapes Go.ChangeAt Go.RowKit Go.Deep
section
variable {H:Type} {enc:TypeId×Value->H} {P:Program} {w:World}
theorem mL.Rq {α:Type} {rep:World->List Nat->List Value->α->Prop} {sz:Nat} {w:World} {b o len cap:Nat} (ot:Nat->List Value) (fs:Nat->List Nat) (ds:Nat->α) (hc:len<=cap) (hm:cap<=maxLen)
  (hl:∀i,i<len->(ot i).length=sz) (hr:∀i,i<len->rep w (fs i) (ot i) (ds i)) (Fc:∀i,i<len->∀j u,(ot i)[j]? =some u->w.cell? ⟨b,o+(i*sz+j),none⟩=some u):
  mL rep sz w ([b]++((List.range len).map fs).flatten) (.slice (some ⟨b,o,none⟩) len cap) ((List.range len).map ds):=by
 refine⟨(List.range len).map ot,(List.range len).map fs,[b],rfl,⟨some ⟨b,o,none⟩,cap,by simp,by simpa using hc,hm,.inr ⟨b,o,rfl,rfl,fun j u hj=>?_⟩⟩,by simp,by simp,fun i cs f d h1 h2 h3=>?_⟩
 ·have hlen:∀cs∈(List.range len).map ot,cs.length=sz:=fun cs dw=>by
   obtain⟨i,hi,rfl⟩:=List.mem_map.1 dw
   exact hl i (List.mem_range.1 hi)
  have gR:=(List.getElem?_eq_some_iff.1 hj).1
  have Le:((List.range len).map ot).flatten.length=len*sz:=by
   rw[List.length_flatten,List.map_map]
   have:∀(l:List Nat),(∀i∈l,i<len)->(l.map (List.length∘ot)).sum=l.length*sz:=by
    intro l
    induction l with
    |nil=>intro _;simp
    |cons a l ih=>intro h;rw[List.map_cons,List.sum_cons,ih fun i hi=>h i (List.mem_cons_of_mem _ hi)];simp only[Function.comp,hl a (h a (by simp)),List.length_cons,Nat.add_mul];omega
   rw[this _ fun i hi=>List.mem_range.1 hi,List.length_range]
  rw[Le]at gR
  have MX:0<sz:=by
   rcases Nat.eq_zero_or_pos sz with h|h
   ·subst h;simp at gR
   ·exact h
  have hi:j / sz<len:=(Nat.div_lt_iff_lt_mul MX).2 gR
  have MS:j % sz<sz:=Nat.mod_lt _ MX
  have Li:j=(j / sz)*sz+j % sz:=by rw[Nat.mul_comm];exact(Nat.div_add_mod j sz).symm
  rw[Li,tq hlen (i:=j / sz) (cs:=ot (j / sz)) (by simp[hi]) MS]at hj
  rw[Li]
  have:=Fc (j / sz) hi (j % sz) u hj
  rw[<-Li]at this ⊢
  exact this
 ·have hi:i<len:=by
   have:=(List.getElem?_eq_some_iff.1 h1).1
   simpa using this
  simp[hi]at h1 h2 h3
  subst h1 h2 h3
  exact⟨hr i hi,hl i hi⟩
theorem kb (b o k:Nat):(⟨b,o,none⟩:Addr).add k=⟨b,o+k,none⟩:=by
 unfold Addr.add;split
 ·rename_i h;subst h;rfl
 ·rfl
theorem pw {α:Type} {rep:World->List Nat->List Value->α->Prop} {Q:α->Prop} {t e:TypeId} {sz fuel:Nat} {cs:List Value} {x:DataW H×List MemPlace} (ht:P.underlying t=some (.slice e)) (hC:P.cellsOf e=sz) (MX:0<sz)
  (h:DataW.trod enc P w 0 (fun _=>true) true fuel t cs=some x) (hel:∀n pT y,pT.length=sz->DataW.trod enc P w 0 (fun _=>true) true n e pT=some y->∃f d,fI f 0 w.heap.size/\rep w f pT d/\Q d):
  ∃A n c f xs,cs=[.slice A n c]/\fI f 0 w.heap.size/\mL rep sz w f (.slice A n c) xs/\∀d∈xs,Q d:=by
 rcases open_slice ht h with⟨rfl,_⟩|⟨a,len,cap,m,n,D,Pl,rfl,_,hl,hm,KD,_,hi⟩
 ·exact⟨none,0,0,[],[],rfl,fI.nil _ _,mL.nil _ _ _,fun d h=>by cases h⟩
 rw[hC]at hi
 simp only[if_true]at KD
 by_cases h0:len=0
 ·subst h0
  exact⟨some a,0,cap,[],[],rfl,fI.nil _ _,⟨[],[],[],rfl,⟨some a,cap,rfl,Nat.zero_le _,hm,.inl ⟨rfl,rfl⟩⟩,rfl,rfl,fun i cs f d hc=>by simp at hc⟩,fun d h=>by cases h⟩
 obtain⟨b,o,sp⟩:=a
 have cell0:∃v,w.cell? ⟨b,o,sp⟩=some v:=by
  obtain⟨pT,hc,_⟩:=hi 0 (by omega)
  obtain⟨_,mT,Fc⟩:=World.cells?_some hc
  refine⟨pT[0]'(by omega),?_⟩
  have:=Fc 0 MX
  rw[List.getElem?_eq_getElem (by omega)]at this
  simpa[Addr.add]using this
 obtain⟨v0,qv⟩:=cell0
 have hb:b<w.heap.size:=World.block_lt_of_cell? w _ qv
 have Ow:sp=none:=by
  unfold World.cell? at qv
  split at qv
  ·split at qv
   ·cases qv
   ·rename_i h;simpa using h
  ·cases qv
 subst Ow
 have key:∀i,i<len->∃pT f d,pT.length=sz/\fI f 0 w.heap.size/\rep w f pT d/\Q d/\∀j u,pT[j]? =some u->w.cell? ⟨b,o+(i*sz+j),none⟩=some u:=fun i mb=>by
  obtain⟨pT,hc,htr⟩:=hi i (by omega)
  obtain⟨_,mT,Fc⟩:=World.cells?_some hc
  obtain⟨f,d,h1,h2,h3⟩:=hel n pT _ mT htr
  refine⟨pT,f,d,mT,h1,h2,h3,fun j u hj=>?_⟩
  have gR:=(List.getElem?_eq_some_iff.1 hj).1
  have:=Fc j (by omega)
  rw[hj]at this
  rw[<-this,Go.Deep.add_add,kb]
 have:Nonempty α:=by
  obtain⟨_,_,d,_⟩:=key 0 (by omega)
  exact⟨d⟩
 let cf:Nat->List Value:=fun i=>if hi:i<len then(key i hi).choose else[]
 let ff:Nat->List Nat:=fun i=>if hi:i<len then(key i hi).choose_spec.choose else[]
 let df:Nat->α:=fun i=>if hi:i<len then(key i hi).choose_spec.choose_spec.choose else Classical.choice this
 have dJ:∀i,i<len->(cf i).length=sz/\fI (ff i) 0 w.heap.size/\rep w (ff i) (cf i) (df i)/\Q (df i)/\∀j u,(cf i)[j]? =some u->w.cell? ⟨b,o+(i*sz+j),none⟩=some u:=fun i hi=>by
  have:=(key i hi).choose_spec.choose_spec.choose_spec
  simp only[cf,ff,df,dif_pos hi]
  exact this
 refine⟨some ⟨b,o,none⟩,len,cap,_,(List.range len).map df,rfl,?_,mL.Rq cf ff df hl hm (fun i hi=>(dJ i hi).1) (fun i hi=>(dJ i hi).2.2.1) (fun i hi=>(dJ i hi).2.2.2.2),fun d hd=>?_⟩
 ·intro x hx
  rcases List.mem_append.1 hx with hx|hx
  ·simp at hx;subst hx;exact⟨Nat.zero_le _,hb⟩
  ·obtain⟨l,AM,PZ⟩:=List.mem_flatten.1 hx
   obtain⟨i,hi,rfl⟩:=List.mem_map.1 AM
   exact(dJ i (List.mem_range.1 hi)).2.1 x PZ
 ·obtain⟨i,hi,rfl⟩:=List.mem_map.1 hd
  exact(dJ i (List.mem_range.1 hi)).2.2.2.1
end
section
variable {H:Type} {enc:TypeId×Value->H} {w:World} {fuel:Nat} {cs:List Value} {x:DataW H×List MemPlace}
abbrev TT (enc:TypeId×Value->H) (w:World) (fuel t:Nat) (cs:List Value) (x:DataW H×List MemPlace):Prop:=DataW.trod enc Tryz.prog w 0 (fun _=>true) true fuel t cs=some x
theorem OL (h:TT enc w fuel 56 cs x):∃A n c f xs,cs=[.slice A n c]/\fI f 0 w.heap.size/\uP w f (.slice A n c) xs:=by
 obtain⟨A,n,c,f,xs,h1,h2,h3,_⟩:=pw (rep:=EP) (Q:=fun _=>True) Tryz.underlying56 (sz:=1) (by kernel_rfl) (by omega) h fun n pT y hl hy=>by
  obtain⟨b,rfl,_⟩:=DataW.trod_int Tryz.underlying2 hy
  exact⟨[],b,fI.nil _ _,⟨rfl,rfl⟩,trivial⟩
 exact⟨A,n,c,f,xs,h1,h2,h3⟩
theorem nj {t:TypeId} {fs:Array Field} (ht:Tryz.prog.underlying t=some (.struct fs)) (h:TT enc w fuel t cs x):cs.length=Tryz.prog.cellsOf t/\∃n,∀(i:Nat) (f:Field),fs[i]? =some f->∃y,TT enc w n f.type ((cs.drop f.offset).take (Tryz.prog.cellsOf f.type)) y:=by
 obtain⟨xs,n,_,_,hl,PZ,hf⟩:=DataW.trod_struct ht h
 refine⟨hl,n,fun i f hi=>?_⟩
 have mb:i<xs.length:=by rw[PZ];exact(Array.getElem?_eq_some_iff.1 hi).1
 exact⟨xs[i],(hf i f hi).trans (List.getElem?_eq_getElem mb)⟩
theorem Rm {l:List Value} (h:l.length=2):∃a b,l=[a,b]:=by
 match l,h with
 |[a,b],_=>exact⟨a,b,rfl⟩
theorem UI {l:List Value} (h:l.length=3):∃a b c,l=[a,b,c]:=by
 match l,h with
 |[a,b,c],_=>exact⟨a,b,c,rfl⟩
theorem UH {l:List Value} (h:l.length=1):∃a,l=[a]:=by
 match l,h with
 |[a],_=>exact⟨a,rfl⟩
theorem UJ {l:List Value} (h:l.length=4):∃a b c d,l=[a,b,c,d]:=by
 match l,h with
 |[a,b,c,d],_=>exact⟨a,b,c,d,rfl⟩
theorem LV (h:TT enc w fuel 22 cs x):∃A n c f xs,cs=[.slice A n c]/\fI f 0 w.heap.size/\qQ w f (.slice A n c) xs/\∀d∈xs,d.aD.size<=9223372036854775807:=by
 exact pw (rep:=HQ) (Q:=fun d=>d.aD.size<=9223372036854775807) Tryz.underlying22 (sz:=2) (by kernel_rfl) (by omega) h fun n pT y hl hy=>by
  obtain⟨_,m,hf⟩:=nj Tryz.underlying191 hy
  obtain⟨a,b,rfl⟩:=Rm hl
  ·skip
   obtain⟨y0,h0⟩:=hf 0 _ rfl
   obtain⟨y1,h1⟩:=hf 1 _ rfl
   rw[show Tryz.prog.cellsOf _=1 from by kernel_rfl]at h0 h1
   obtain⟨p,e0,_,ws⟩:=DataW.trod_string Tryz.underlying9 h0
   obtain⟨q,e1,_⟩:=DataW.trod_int Tryz.underlying2 h1
   simp at e0 e1
   subst e0 e1
   exact⟨[],⟨p,q⟩,fI.nil _ _,⟨rfl,rfl⟩,by simpa[maxLen]using ws⟩
theorem LW (h:TT enc w fuel 23 cs x):∃A n c f xs,cs=[.slice A n c]/\fI f 0 w.heap.size/\qR w f (.slice A n c) xs/\∀d∈xs,d.aD.size<=9223372036854775807:=by
 exact pw (rep:=HR) (Q:=fun d=>d.aD.size<=9223372036854775807) Tryz.underlying23 (sz:=2) (by kernel_rfl) (by omega) h fun n pT y hl hy=>by
  obtain⟨_,m,hf⟩:=nj Tryz.underlying193 hy
  obtain⟨a,b,rfl⟩:=Rm hl
  ·skip
   obtain⟨y0,h0⟩:=hf 0 _ rfl
   obtain⟨y1,h1⟩:=hf 1 _ rfl
   rw[show Tryz.prog.cellsOf _=1 from by kernel_rfl]at h0 h1
   obtain⟨p,e0,_,ws⟩:=DataW.trod_string Tryz.underlying9 h0
   obtain⟨A1,n1,c1,f1,RL,e1,k1,s1⟩:=OL h1
   simp at e0 e1
   subst e0 e1
   exact⟨_,⟨p,RL⟩,k1,⟨_,f1,rfl,rfl,s1⟩,by simpa[maxLen]using ws⟩
theorem GQ (h:TT enc w fuel 26 cs x):∃A n c f xs,cs=[.slice A n c]/\fI f 0 w.heap.size/\ja w f (.slice A n c) xs:=by
 obtain⟨A,n,c,f,xs,h1,h2,h3,_⟩:=pw (rep:=AR) (Q:=fun _=>True) Tryz.underlying26 (sz:=3) (by kernel_rfl) (by omega) h fun n pT y hl hy=>by
  obtain⟨_,m,hf⟩:=nj Tryz.underlying143 hy
  obtain⟨a,b,c,rfl⟩:=UI hl
  ·skip
   obtain⟨y0,h0⟩:=hf 0 _ rfl
   obtain⟨y1,h1⟩:=hf 1 _ rfl
   rw[show Tryz.prog.cellsOf _=2 from by kernel_rfl]at h0
   rw[show Tryz.prog.cellsOf _=1 from by kernel_rfl]at h1
   obtain⟨_,m2,QM⟩:=nj Tryz.underlying66 h0
   obtain⟨z0,g0⟩:=QM 0 _ rfl
   obtain⟨z1,g1⟩:=QM 1 _ rfl
   rw[show Tryz.prog.cellsOf _=1 from by kernel_rfl]at g0 g1
   obtain⟨px,e0,_⟩:=DataW.trod_int Tryz.underlying2 g0
   obtain⟨py,e1,_⟩:=DataW.trod_int Tryz.underlying2 g1
   obtain⟨ti,e2,_⟩:=DataW.trod_int Tryz.underlying2 h1
   simp at e0 e1 e2
   subst e0 e1 e2
   exact⟨[],⟨⟨px,py⟩,ti⟩,fI.nil _ _,⟨rfl,rfl⟩,trivial⟩
 exact⟨A,n,c,f,xs,h1,h2,h3⟩
theorem wi (h:TT enc w fuel 28 cs x):∃A n c f,∃d:dI,cs=[.slice A n c]/\fI f 0 w.heap.size/\ja w f (.slice A n c) d.ae:=by
 obtain⟨hl,m,hf⟩:=nj Tryz.underlying28 h
 rw[show Tryz.prog.cellsOf _=1 from by kernel_rfl]at hl
 obtain⟨a,rfl⟩:=UH hl
 ·skip
  obtain⟨y0,h0⟩:=hf 0 _ rfl
  rw[show Tryz.prog.cellsOf _=1 from by kernel_rfl]at h0
  obtain⟨A1,n1,c1,f1,RL,e1,k1,s1⟩:=GQ h0
  simp at e1
  subst e1
  exact⟨A1,n1,c1,f1,⟨RL⟩,rfl,k1,s1⟩
theorem Ju (h:TT enc w fuel 30 cs x):∃A0 n0 c0 f0 A1 n1 c1 f1 A2 n2 c2 f2,∃d:aM,cs=[.slice A0 n0 c0,.slice A1 n1 c1,.slice A2 n2 c2,.int .i64 d.az]/\fI f0 0 w.heap.size/\qQ w f0 (.slice A0 n0 c0) d.ax.aB/\fI f1 0 w.heap.size/\qR w f1 (.slice A1 n1 c1) d.ax.ae/\fI f2 0 w.heap.size/\ja w f2 (.slice A2 n2 c2) d.bF.ae/\(∀g∈d.ax.aB,g.aD.size<=9223372036854775807)/\∀t∈d.ax.ae,t.aD.size<=9223372036854775807:=by
 obtain⟨hl,m,hf⟩:=nj Tryz.underlying30 h
 rw[show Tryz.prog.cellsOf _=4 from by kernel_rfl]at hl
 obtain⟨a,b,c,d,rfl⟩:=UJ hl
 ·skip
  obtain⟨y0,h0⟩:=hf 0 _ rfl
  obtain⟨y1,h1⟩:=hf 1 _ rfl
  obtain⟨y2,h2⟩:=hf 2 _ rfl
  rw[show Tryz.prog.cellsOf _=2 from by kernel_rfl]at h0
  rw[show Tryz.prog.cellsOf _=1 from by kernel_rfl]at h1 h2
  obtain⟨_,m2,QM⟩:=nj Tryz.underlying25 h0
  obtain⟨z0,g0⟩:=QM 0 _ rfl
  obtain⟨z1,g1⟩:=QM 1 _ rfl
  rw[show Tryz.prog.cellsOf _=1 from by kernel_rfl]at g0 g1
  obtain⟨A0,n0,c0,f0,xs0,e0,k0,s0,o0⟩:=LV g0
  obtain⟨A1,n1,c1,f1,RL,e1,k1,s1,o1⟩:=LW g1
  obtain⟨A2,n2,c2,f2,d2,e2,k2,s2⟩:=wi h1
  obtain⟨t,e3,_⟩:=DataW.trod_int Tryz.underlying2 h2
  simp at e0 e1 e2 e3
  subst e0 e1 e2 e3
  exact⟨A0,n0,c0,f0,A1,n1,c1,f1,A2,n2,c2,f2,⟨⟨xs0,RL⟩,d2,t⟩,rfl,k0,s0,k1,s1,k2,s2,o0,o1⟩
end
end Go.Proofs.YtgoelphibofcmaaGreat

namespace Go.Proofs.YtgoelphibofcmaaGreat
open Go.ChangeShapes Go.WideShapes Go.ChangeAt Go.RowKit V
theorem Ru:ownKnob Tryz.prog.godebug=none:=by kernel_rfl
theorem Jf:laidOutB Tryz.prog=true:=by kernel_rfl
theorem Hq {s:aM} {l:List ah} (hm:pQ s) (hl:l.length<=1048576):(k9 s l).1.length<=1152921504606846976:=by
 unfold k9
 split
 ·dsimp only
  have h1:=uo (dy s l) s.ax.ae.length (jv l)
  have h2:(jv l).length<=l.length*4:=ni l l.length
  have h3:(jv l).length*s.ax.ae.length<=4194304*1048576:=Nat.mul_le_mul (by omega) hm.s.t
  omega
 ·simp
theorem Kj (s:aM) (a:dI) (hn:fW s.ax):aj Tryz.prog 11 [.agg (ay s),.agg (aJ a)] (.bool true):=
 Jg (fun s a=>k9 s a.ae) (fun s a hn hm _=>⟨_,.inr rfl,xl s a.ae hn hm.s.g hm.s.t⟩) (fun s a hn hm hl=>xk s a.ae hn hm hl) (fun s a hm hl=>Hq hm hl) s a hn
theorem CJ (os:Os) (started:os.Started) (H:Type) (enc:TypeId×Value->H):
  ReturnsInHanded {} Tryz.checked os 11 .any (Rows.fnExactWeakOptionsSpec.pre6 enc Tryz.prog Tryz.f11 Rows.fnExactWeakOptionsRow.domain false) (Rows.fnExactWeakOptionsSpec.post enc Tryz.prog Tryz.f11 false true false false):=by
 refine returnsInHanded_of_change (C:=Tryz.checked) Ru started (by kernel_rfl) Tryz.func11
  (ChangeSpec.witness6 (enc:=enc) (C:=Tryz.checked) false ⟨#[], #[.agg #[.slice none 0 0,.slice none 0 0,.slice none 0 0,.int .i64 0],.agg #[.slice none 0 0]],[]⟩ 8 (by kernel_rfl) (by kernel_rfl) (by kernel_rfl) (by kernel_rfl)) ?_
 intro W base args ds gs before M1 hW hcnd _
 have sK:∀(j:Nat) t v,Tryz.f11.params[j]? =some t->args[j]? =some v->Value.okWide Tryz.prog W .any base t v:=M1
 have hW':=hW
 obtain⟨p,q,hA0,hV,rfl,CQ,mc⟩:=hW
 have hA:DataW.TrodAll enc Tryz.prog W 0 (fun _=>true) true Tryz.f11.params.toList args.toList ds p:=hA0
 rw[Tryz.params11]at hA sK
 obtain⟨v0,vs0,d0,ds0,p0,q0,nF,rfl,rfl,h0,r0⟩:=trodAll_cons hA
 obtain⟨v1,vs1,d1,ds1,p1,q1,rfl,rfl,rfl,h1,r1⟩:=trodAll_cons r0
 obtain⟨rfl,rfl,rfl⟩:=trodAll_nil r1
 obtain rfl:args= #[v0,v1]:=by cases args;simp_all
 obtain⟨rfl,rfl⟩:=trodVars_none hV
 obtain⟨PD,rfl,_⟩:=okWide_struct Tryz.underlying30 (sK 0 30 v0 rfl rfl)
 obtain⟨Tf,rfl,_⟩:=okWide_struct Tryz.underlying28 (sK 1 28 v1 rfl rfl)
 have k0:=h0
 have k1:=h1
 have lt0:∀x∈p0,x.block<W.heap.size:=by obtain⟨m,hm⟩:=k0;exact DataW.trod_lt m _ _ _ hm
 have P5:∀x∈p1,x.block<W.heap.size:=by obtain⟨m,hm⟩:=k1;exact DataW.trod_lt m _ _ _ hm
 obtain⟨A0,n0,c0,f0,A1,n1,c1,f1,A2,n2,c2,f2,s,dw,w0,s0,w1,s1,w2,s2,o0,o1⟩:∃A0 n0 c0 f0 A1 n1 c1 f1 A2 n2 c2 f2,∃d:aM,(Value.agg PD).cells.toList=[.slice A0 n0 c0,.slice A1 n1 c1,.slice A2 n2 c2,.int .i64 d.az]/\fI f0 0 W.heap.size/\qQ W f0 (.slice A0 n0 c0) d.ax.aB/\fI f1 0 W.heap.size/\qR W f1 (.slice A1 n1 c1) d.ax.ae/\fI f2 0 W.heap.size/\ja W f2 (.slice A2 n2 c2) d.bF.ae/\(∀g∈d.ax.aB,g.aD.size<=9223372036854775807)/\∀t∈d.ax.ae,t.aD.size<=9223372036854775807:=by
  obtain⟨fuel,hf⟩:=h0
  exact Ju hf
 obtain⟨A3,n3,c3,f3,a,QF,w3,s3⟩:∃A n c f,∃d:dI,(Value.agg Tf).cells.toList=[.slice A n c]/\fI f 0 W.heap.size/\ja W f (.slice A n c) d.ae:=by
  obtain⟨fuel,hf⟩:=h1
  exact wi hf
 obtain rfl:PD= #[.slice A0 n0 c0,.slice A1 n1 c1,.slice A2 n2 c2,.int .i64 s.az]:=by
  cases PD;simp[Value.cells]at dw;subst dw;rfl
 obtain rfl:Tf= #[.slice A3 n3 c3]:=by
  cases Tf;simp[Value.cells]at QF;subst QF;rfl
 clear hA0 M1
 have gH:fo Tryz.prog W (fun b=>b<W.heap.size) (fun _=>none) [.agg (ay s),.agg (aJ a)] #[.agg #[.slice A0 n0 c0,.slice A1 n1 c1,.slice A2 n2 c2,.int .i64 s.az],.agg #[.slice A3 n3 c3]]:=by
  have h:=ml (C5 s0 (fun b hb=>(w0 b hb).2) s1 (fun b hb=>(w1 b hb).2) s2 (fun b hb=>(w2 b hb).2)) (ml (y4 s3 (fun b hb=>(w3 b hb).2)) (⟨rfl,fun j b hj=>by cases j<;>cases hj⟩:fo Tryz.prog W (fun b=>b<W.heap.size) (fun _=>none) [] #[]))
  simpa using h
 have il:=OF mixed (Kj s a ⟨o0,o1⟩) gH
 clear s0 s1 s2 s3 w0 w1 w2 w3 gH
 refine(il.mono fun e W' ⟨he,bel⟩=>?_)
 subst he
 exact⟨_,rfl,_,_,_,[],_,[],hW',trodAll_mk1 (shut_bool Tryz.underlying4 _),(trodAll_cons_mk (Below.trod Jf (by kernel_rfl) (of_decide_eq_true (by kernel_rfl)) k0 bel lt0) (trodAll_cons_mk (Below.trod Jf (by kernel_rfl) (of_decide_eq_true (by kernel_rfl)) k1 bel P5) trodAll_mk0)),rfl,bel.frame _,fun h=>by cases h⟩
end Go.Proofs.YtgoelphibofcmaaGreat

namespace Go.Proofs.YtgoelphibofcmaaGreat
open Go.ChangeShapes Go.WideShapes Go.ChangeAt Go.RowKit
theorem wkN:Tryz.pinned.checked.prog.funcNamed Rows.fnExactWeakOptionsRow.func=some 11:=by kernel_rfl
theorem wkJ:joinedFacts Tryz.pinned.checked.prog 11 Tryz.f11 Rows.fnExactWeakOptionsSpec Rows.fnExactWeakOptionsRow=true:=by
 unfold joinedFacts
 repeat(with_reducible refine Bool.and_eq_true_iff.2 ⟨?_,by as_aux_lemma=>kernel_rfl⟩)
 as_aux_lemma=>kernel_rfl
theorem wkI:Tryz.f11.isInstance Tryz.pinned.checked.prog Rows.fnExactWeakOptionsRow.origin Rows.fnExactWeakOptionsRow.targs:=of_decide_eq_true (by kernel_rfl)
theorem wkW:Tryz.f11.isWrapper Tryz.pinned.checked.prog Rows.fnExactWeakOptionsRow.wrapper Rows.fnExactWeakOptionsRow.mainSum:=by
 unfold Func.isWrapper;first|(rw[if_pos (by decide+kernel)];kernel_rfl)|(rw[if_neg (by decide+kernel)];exact⟨rfl,rfl⟩)
theorem Hr:Rows.fnExactWeakOptionsRow.holds Tryz.pinned (OpenSpec.ofChange Rows.fnExactWeakOptionsSpec):=
 OpenClaim.holds_of_wide 11 Tryz.f11 rfl rfl rfl rfl rfl rfl rfl ⟨rfl,rfl,rfl,rfl,rfl⟩ rfl rfl rfl rfl rfl wkN Tryz.func11 wkJ wkI wkW
  (fun os started H enc _=>CJ os started H enc)
theorem fnExactWeakOptions_proved:Rows.FnExactWeakOptionsSaid:=Hr
end Go.Proofs.YtgoelphibofcmaaGreat
