/- Networks by matrices: one is made. -/
import Derived.Test.YtgoelphibofcmaaGreatInE
import Derived.Test.YtgoelphibofcmaaGreatInC
import Derived.RangeFuncCalls
import Derived.OrdersIn
import Derived.Test.YtgoelphibofcmaaGreatInB
import Derived.Test.YtgoelphibofcmaaGreatChecked
import Derived.ProofKit
import Derived.Deep.Slices
import Derived.ChangeSame
import Derived.Test.YtgoelphibofcmaaGreatRows
import Derived.OpenShut
import Derived.ShutString
import Derived.ChangeOld
import Derived.Below
set_option linter.unusedVariables false
set_option linter.unusedSimpArgs false
set_option maxRecDepth 100000
set_option maxHeartbeats 16000000
namespace Go.Proofs.YtgoelphibofcmaaGreat.V
open Go.RowKit
attribute [local irreducible] dO wpOps gy Call
attribute [local go_sem] aT fK eS ga fZ dj upd cF K.av cP AV.cells AV.cell rowOf rowsOf part ld rowAt bL cD dG ef ik bV de ew fW fe dw ek dc db dU dV cj bl cU b4 cW cV ei eo ej cR cm dd eh bW aV cZ cI ij bx cK ck bd du bj dI AV.undef bH bS dW eb dQ dP cJ ev eE cH er ep cY da List.getD_cons_zero List.getD_cons_succ List.getD_nil List.all_cons List.all_nil Bool.and_true Bool.true_and Bool.and_self Bool.not_true Bool.not_false Option.map_some Option.map_none Option.bind_some Option.bind_none List.length_cons List.length_nil List.take_succ_cons List.take_zero List.take_nil List.drop_succ_cons List.drop_zero List.drop_nil List.head?_cons List.map_cons List.map_nil List.getElem?_cons_zero List.getElem?_cons_succ List.cons_append List.nil_append List.append_nil List.length_map List.set_cons_zero List.set_cons_succ Nat.reduceMul eq_self Int.toNat_natCast Int.natCast_nonneg and_self true_and and_true decide_true decide_false Bool.false_eq_true Nat.zero_add Nat.add_zero List.contains_cons List.contains_nil Bool.or_false Bool.false_or beq_self_eq_true Nat.reduceBEq ne_eq not_true_eq_false not_false_eq_true Id.mk.injEq false_and and_false Nat.reduceLT Int.reduceLE Int.reduceLT Int.reduceToNat Int.reduceNeg Int.reduceAdd Nat.le_refl List.length_append beq_true beq_false Bool.not_eq_eq_eq_not or_false false_or dR ae aj aI bq bG cC aY bh aW bp cQ bJ
theorem HK (n:Nat):List.replicate n [AV.int .i64 0]=ee (fun _=>0) n:=by
 refine List.ext_getElem? fun i=>?_
 by_cases h:i<n
 ·rw[dX h,List.getElem?_replicate,if_pos h];rfl
 ·rw[List.getElem?_eq_none (by simp;omega),List.getElem?_eq_none (by rw[dL];omega)]
theorem Ao {i j:Id} {s t:Nat} (hi:i.site=s) (hj:j.site=t) (h:(s==t)=false):(i=j)=False/\(j=i)=False:=by
 constructor<;>(simp only[eq_iff_iff,iff_false];rintro rfl;rw[hi]at hj;subst hj;simp at h)
theorem Co (cnt:Nat) (rN:1<=cnt) (hn:cnt<=1048576) (bs:List PB) (hb:∀b∈bs,b.a<cnt/\b.b<cnt) (dK:∀b∈bs,0<=b.s/\b.s<=4) (qe:bs.length<=1048576) (σ:ar):
  Call Tryz.prog 245 [.int .i64 cnt,.sl (bs.map aB)] σ fun r σ'=>∃X o1 o2 R1 R2,r=.ptr X 0 0/\Gh X o1 o2 R1 R2 cnt σ'.next/\σ.next<=σ'.next/\nL σ'.get X o1 o2 R1 R2 cnt (lg bs) (fun _ _=>0)/\∀i:Id,i.bQ<σ.next->σ'.get i=σ.get i:=by
 refine eQ eK rfl fun hl=>?_
 clear hl
 (try((repeat(revert hN;revert N;apply Pn.out));refine wk @Nat.zero_add ?_;(repeat(refine Pn.mk ?_;intro N hN))))
 obtain⟨X,hX⟩:∃X:Id,X=⟨245001001,σ.next+1⟩:=⟨_,rfl⟩
 obtain⟨R1,UB⟩:∃R:Nat->Id,R=fun k=>⟨245004006,σ.next+3+4*k+1⟩:=⟨_,rfl⟩
 obtain⟨R2,Rb⟩:∃R:Nat->Id,R=fun k=>⟨245005006,σ.next+3+4*k+2⟩:=⟨_,rfl⟩
 have sX:X.site=245001001:=by rw[hX]
 have vX:X.bQ=σ.next+1:=by rw[hX]
 have s1:∀k,(R1 k).site=245004006:=fun k=>by rw[UB]
 have s2:∀k,(R2 k).site=245005006:=fun k=>by rw[Rb]
 have v1:∀k,(R1 k).bQ=σ.next+3+4*k+1:=fun k=>by rw[UB]
 have v2:∀k,(R2 k).bQ=σ.next+3+4*k+2:=fun k=>by rw[Rb]
 have jN:(0:Int)<=(cnt:Int):=by omega
 have mN:(cnt:Int)<=((16777216:Nat):Int):=by omega
 have hz:=HK cnt
 have t1:lj R1 cnt 0=[]:=rfl
 have t2:lj R2 cnt 0=[]:=rfl
 refine aZ (fun n env st=>∃k:Nat,n=(cnt)-k/\k<=(cnt)/\env 11=.int .i64 (k:Int)/\env 5=(.ptr X 0 0)/\(st.next=σ.next+3+4*k/\(∀i:Id,i.bQ<σ.next->st.get i=σ.get i)/\∀j,j<k->st.get (R1 j)=some ⟨true,1,ee (fun _=>0) cnt⟩/\st.get (R2 j)=some ⟨true,1,ee (fun _=>0) cnt⟩)/\((k=0/\st.get X=some ⟨true,2,[[.bE,.bE]]⟩)∨∃o1 o2:Id,o1.site=245004008/\o2.site=245005008/\o1.bQ<st.next/\o2.bQ<st.next/\σ.next<=o1.bQ/\σ.next<=o2.bQ/\st.get X=some ⟨true,2,[[.own o1 0 k,.own o2 0 k]]⟩/\st.get o1=some ⟨true,1,lj R1 cnt k⟩/\st.get o2=some ⟨true,1,lj R2 cnt k⟩)) (cnt) ⟨0,by omega,by omega,sl @hX,sl @hX,⟨rfl,fun i hi=>by(have Ec:=dr hi);simp only[go_sem, ↓reduceIte,Nat.reduceEqDiff,Nat.reduceAdd,Nat.reduceSub,Nat.reduceLeDiff,reduceCtorEq,Ec],fun j hj=>absurd hj (Nat.not_lt_zero j)⟩,.inl ⟨rfl,by rw[hX];simp only[go_sem, ↓reduceIte,Nat.reduceEqDiff,Nat.reduceAdd,Nat.reduceSub,Nat.reduceLeDiff,reduceCtorEq]⟩⟩ ?_
 rintro n_a env_a st_a ⟨k,rfl,ale,Iy,a5,j4,aI1⟩ dx
 have a0:=dx 0 (by kernel_rfl);have a1:=dx 1 (by kernel_rfl);have l5:=dx 10 (by kernel_rfl)
 simp only[go_sem, ↓reduceIte,Nat.reduceEqDiff,Nat.reduceAdd,Nat.reduceSub,Nat.reduceLeDiff,reduceCtorEq,hX]at a0 a1 l5
 clear dx
 obtain⟨anx,dx,aR⟩:=j4
 have wX:=dr (i:=X) (n:=st_a.next) (by omega)
 by_cases hk:(k:Int)<(cnt:Int)
 ·have cz:∀{e:Env} {gg:Rows} {nx:Nat},(e 11=.int .i64 (IntKind.i64.wrap ((k:Int)+1)))->(e 5=(.ptr X 0 0))->(nx=σ.next+3+4*(k+1)/\(∀i:Id,i.bQ<σ.next->gg i=σ.get i)/\∀j,j<(k+1)->gg (R1 j)=some ⟨true,1,ee (fun _=>0) cnt⟩/\gg (R2 j)=some ⟨true,1,ee (fun _=>0) cnt⟩)->(((k+1)=0/\gg X=some ⟨true,2,[[.bE,.bE]]⟩)∨∃o1 o2:Id,o1.site=245004008/\o2.site=245005008/\o1.bQ<nx/\o2.bQ<nx/\σ.next<=o1.bQ/\σ.next<=o2.bQ/\gg X=some ⟨true,2,[[.own o1 0 (k+1),.own o2 0 (k+1)]]⟩/\gg o1=some ⟨true,1,lj R1 cnt (k+1)⟩/\gg o2=some ⟨true,1,lj R2 cnt (k+1)⟩)->∃m0,m0<(cnt)-k/\∃k:Nat,m0=(cnt)-k/\k<=(cnt)/\e 11=.int .i64 (k:Int)/\e 5=(.ptr X 0 0)/\(nx=σ.next+3+4*k/\(∀i:Id,i.bQ<σ.next->gg i=σ.get i)/\∀j,j<k->gg (R1 j)=some ⟨true,1,ee (fun _=>0) cnt⟩/\gg (R2 j)=some ⟨true,1,ee (fun _=>0) cnt⟩)/\((k=0/\gg X=some ⟨true,2,[[.bE,.bE]]⟩)∨∃o1 o2:Id,o1.site=245004008/\o2.site=245005008/\o1.bQ<nx/\o2.bQ<nx/\σ.next<=o1.bQ/\σ.next<=o2.bQ/\gg X=some ⟨true,2,[[.own o1 0 k,.own o2 0 k]]⟩/\gg o1=some ⟨true,1,lj R1 cnt k⟩/\gg o2=some ⟨true,1,lj R2 cnt k⟩):=fun x1 x2 x3 x4=>⟨_,by omega,k+1,rfl,by omega,(by rw[x1,aA (by omega)]),x2,x3,x4⟩
  have fM:k<cnt:=by omega
  have xC:R1 k=⟨245004006,st_a.next+1⟩:=by rw[UB,anx]
  have wI:R2 k=⟨245005006,st_a.next+1+1⟩:=by rw[Rb,anx]
  have FJ:lj R1 cnt (k+1)=lj R1 cnt k++[[.own ⟨245004006,st_a.next+1⟩ 0 cnt]]:=by rw[tE,xC]
  have QB:lj R2 cnt (k+1)=lj R2 cnt k++[[.own ⟨245005006,st_a.next+1+1⟩ 0 cnt]]:=by rw[tE,wI]
  rcases aI1 with⟨rfl,QS⟩|⟨o1,o2,so1,so2,vo1,vo2,vn1,vn2,QS,ag1,ag2⟩
  ·(try((repeat(revert hN;revert N;apply Pn.out));refine wk (tw @Iy (tw @a5 (tw @a0 (tw @a1 (tw @l5 (tw @hk (tw @wX (tw @QS (tw @jN (tw @mN (tw @Int.le_refl @hz))))))))))) ?_;(repeat(refine Pn.mk ?_;intro N hN))))
   refine cz ?_ ?_ (by
    (try dsimp only)
    refine⟨by omega,fun i hi=>?_,fun j hj=>?_⟩
    ·have q1:=dr (i:=i) (n:=st_a.next) (by omega)
     have q2:=bU (a:=i) (b:=X) (by omega)
     have:=dx i hi
     simp only[go_sem, ↓reduceIte,Nat.reduceEqDiff,Nat.reduceAdd,Nat.reduceSub,Nat.reduceLeDiff,reduceCtorEq,q1,q2,this]
    ·by_cases yD:j=0
     ·subst yD
      rw[xC,wI]
      have q1:=ig sX (b:=245004006) (v:=st_a.next+1) (by decide)
      have q2:=ig sX (b:=245005006) (v:=st_a.next+1+1) (by decide)
      simp only[go_sem, ↓reduceIte,Nat.reduceEqDiff,Nat.reduceAdd,Nat.reduceSub,Nat.reduceLeDiff,reduceCtorEq,q1,q2]
     ·obtain⟨r1,r2⟩:=aR j (by omega)
      have q1:=dr (i:=R1 j) (n:=st_a.next) (by rw[v1];omega)
      have q2:=dr (i:=R2 j) (n:=st_a.next) (by rw[v2];omega)
      have q3:=Ao (s1 j) sX (by decide)
      have q4:=Ao (s2 j) sX (by decide)
      constructor
      ·simp only[go_sem, ↓reduceIte,Nat.reduceEqDiff,Nat.reduceAdd,Nat.reduceSub,Nat.reduceLeDiff,reduceCtorEq,q1,q3,r1]
      ·simp only[go_sem, ↓reduceIte,Nat.reduceEqDiff,Nat.reduceAdd,Nat.reduceSub,Nat.reduceLeDiff,reduceCtorEq,q2,q4,r2]) (.inr ⟨⟨245004008,st_a.next+1⟩,⟨245005008,st_a.next+1+1⟩,rfl,rfl,by(try dsimp only);omega,by(try dsimp only);omega,by(try dsimp only);omega,by(try dsimp only);omega,sd @wX,by rw[FJ,t1];simp only[go_sem, ↓reduceIte,Nat.reduceEqDiff,Nat.reduceAdd,Nat.reduceSub,Nat.reduceLeDiff,reduceCtorEq,wX,List.nil_append],by rw[QB,t2];simp only[go_sem, ↓reduceIte,Nat.reduceEqDiff,Nat.reduceAdd,Nat.reduceSub,Nat.reduceLeDiff,reduceCtorEq,wX,List.nil_append]⟩)
   all_goals simp only[go_sem, ↓reduceIte,Nat.reduceEqDiff,Nat.reduceAdd,Nat.reduceSub,Nat.reduceLeDiff,reduceCtorEq,Iy,a5,a0,a1,l5,wX]
  ·have l1:=km R1 cnt k
   have l2:=km R2 cnt k
   have e1:k+1<=16777216:=by omega
   have w1:=dr vo1
   have w2:=dr vo2
   have x1:=Ao sX so1 (by decide)
   have x2:=Ao sX so2 (by decide)
   have x3:=Ao so1 so2 (by decide)
   (try((repeat(revert hN;revert N;apply Pn.out));refine wk (tw @Iy (tw @a5 (tw @a0 (tw @a1 (tw @l5 (tw @hk (tw @wX (tw @QS (tw @ag1 (tw @ag2 (tw @l1 (tw @l2 (tw @e1 (tw @w1 (tw @w2 (tw @x1 (tw @x2 (tw @x3 (tw @jN (tw @mN (tw @Int.le_refl @hz))))))))))))))))))))) ?_;(repeat(refine Pn.mk ?_;intro N hN))))
   refine cz ?_ ?_ (by
    (try dsimp only)
    refine⟨by omega,fun i hi=>?_,fun j hj=>?_⟩
    ·have q1:=dr (i:=i) (n:=st_a.next) (by omega)
     have q2:=bU (a:=i) (b:=X) (by omega)
     have q3:=bU (a:=i) (b:=o1) (by omega)
     have q4:=bU (a:=i) (b:=o2) (by omega)
     have:=dx i hi
     simp only[go_sem, ↓reduceIte,Nat.reduceEqDiff,Nat.reduceAdd,Nat.reduceSub,Nat.reduceLeDiff,reduceCtorEq,q1,q2,this,q3,q4]
    ·by_cases yD:j=k
     ·subst yD
      rw[xC,wI]
      have q1:=ig sX (b:=245004006) (v:=st_a.next+1) (by decide)
      have q2:=ig sX (b:=245005006) (v:=st_a.next+1+1) (by decide)
      simp only[go_sem, ↓reduceIte,Nat.reduceEqDiff,Nat.reduceAdd,Nat.reduceSub,Nat.reduceLeDiff,reduceCtorEq,q1,q2,w1,w2]
     ·obtain⟨r1,r2⟩:=aR j (by omega)
      have q1:=dr (i:=R1 j) (n:=st_a.next) (by rw[v1];omega)
      have q2:=dr (i:=R2 j) (n:=st_a.next) (by rw[v2];omega)
      have q3:=Ao (s1 j) sX (by decide)
      have q4:=Ao (s2 j) sX (by decide)
      have q5:=Ao (s1 j) so1 (by decide)
      have q6:=Ao (s1 j) so2 (by decide)
      have q7:=Ao (s2 j) so1 (by decide)
      have q8:=Ao (s2 j) so2 (by decide)
      constructor
      ·simp only[go_sem, ↓reduceIte,Nat.reduceEqDiff,Nat.reduceAdd,Nat.reduceSub,Nat.reduceLeDiff,reduceCtorEq,q1,q3,r1,q5,q6]
      ·simp only[go_sem, ↓reduceIte,Nat.reduceEqDiff,Nat.reduceAdd,Nat.reduceSub,Nat.reduceLeDiff,reduceCtorEq,q2,q4,r2,q7,q8]) (.inr ⟨⟨245004008,st_a.next+1⟩,⟨245005008,st_a.next+1+1⟩,rfl,rfl,by(try dsimp only);omega,by(try dsimp only);omega,by(try dsimp only);omega,by(try dsimp only);omega,sd @wX,by rw[FJ];simp only[go_sem, ↓reduceIte,Nat.reduceEqDiff,Nat.reduceAdd,Nat.reduceSub,Nat.reduceLeDiff,reduceCtorEq,wX,w1,w2],by rw[QB];simp only[go_sem, ↓reduceIte,Nat.reduceEqDiff,Nat.reduceAdd,Nat.reduceSub,Nat.reduceLeDiff,reduceCtorEq,wX,w1,w2]⟩)
   all_goals simp only[go_sem, ↓reduceIte,Nat.reduceEqDiff,Nat.reduceAdd,Nat.reduceSub,Nat.reduceLeDiff,reduceCtorEq,Iy,a5,a0,a1,l5,wX,w1,w2,x1,x2,x3]
 have l6:cnt=k:=by omega
 subst l6
 rcases aI1 with⟨h0,_⟩|⟨o1,o2,so1,so2,vo1,vo2,vn1,vn2,QS,ag1,ag2⟩
 ·omega
 (try((repeat(revert hN;revert N;apply Pn.out));refine wk (tw @Iy (tw @a5 (tw @a0 (tw @a1 (tw @l5 @hk))))) ?_;(repeat(refine Pn.mk ?_;intro N hN))))
 have I:Gh X o1 o2 R1 R2 cnt st_a.next:=⟨sX,so1,so2,fun i _=>s1 i,fun i _=>s2 i,fun i j _ _ h=>by have:=v1 i;rw[h,v1]at this;omega,fun i j _ _ h=>by have:=v2 i;rw[h,v2]at this;omega,by omega,vo1,vo2,fun i hi=>by rw[v1];omega,fun i hi=>by rw[v2];omega⟩
 refine aZ (fun n env st=>∃i:Nat,n=(bs.length)-i/\i<=(bs.length)/\env 38=.int .i64 (i:Int)/\(st_a.next<=st.next/\(∀x:Id,x.bQ<σ.next->st.get x=σ.get x)/\nL st.get X o1 o2 R1 R2 cnt (lg (bs.take i)) (fun _ _=>0))) (bs.length) ⟨0,by omega,by omega,sl (tw @Iy (tw @a5 (tw @a0 (tw @a1 @l5)))),⟨by(try dsimp only);omega,dx,QS,ag1,ag2,fun j hj=>(aR j hj).1,fun j hj=>(aR j hj).2⟩⟩ ?_
 rintro n_b env_b st_b ⟨i,rfl,ble,vP,bI0⟩ fU
 have b0:=fU 0 (by kernel_rfl);have b1:=fU 1 (by kernel_rfl);have b5:=fU 5 (by kernel_rfl);have Qg:=fU 36 (by kernel_rfl);have uJ:=fU 37 (by kernel_rfl)
 simp only[go_sem, ↓reduceIte,Nat.reduceEqDiff,Nat.reduceAdd,Nat.reduceSub,Nat.reduceLeDiff,reduceCtorEq,Iy,a5,a0,a1,l5]at b0 b1 b5 Qg uJ
 clear fU
 obtain⟨bn,NX,bM⟩:=bI0
 by_cases hi:(i:Int)<(bs.length:Int)
 ·have gj:∀{e:Env} {gg:Rows} {nx:Nat},(e 38=.int .i64 (IntKind.i64.wrap ((i:Int)+1)))->(st_a.next<=nx/\(∀x:Id,x.bQ<σ.next->gg x=σ.get x)/\nL gg X o1 o2 R1 R2 cnt (lg (bs.take (i+1))) (fun _ _=>0))->∃m0,m0<(bs.length)-i/\∃i:Nat,m0=(bs.length)-i/\i<=(bs.length)/\e 38=.int .i64 (i:Int)/\(st_a.next<=nx/\(∀x:Id,x.bQ<σ.next->gg x=σ.get x)/\nL gg X o1 o2 R1 R2 cnt (lg (bs.take i)) (fun _ _=>0)):=fun x1 x2=>⟨_,by omega,i+1,rfl,by omega,(by rw[x1,aA (by omega)]),x2⟩
  have fh:i<bs.length:=by omega
  have jl:(bs.map aB)[i]? =some (aB bs[i]):=by simp[fh]
  have fX:=hb _ (List.getElem_mem fh)
  have hsi:=dK _ (List.getElem_mem fh)
  have ta:lg (bs.take (i+1))=nP (lg (bs.take i)) bs[i]:=by rw[List.take_succ_eq_append_getElem fh,EJ]
  have qH:=Ah (bs.take i) (fun _ _=>0) (fun b hb=>(dK b (List.mem_of_mem_take hb)).1) (fun _ _=>Int.le_refl _)
  have hle:=room_le (bs.take i) (fun _ _=>0) 0 (fun b hb=>(dK b (List.mem_of_mem_take hb)).2) (fun _ _=>Int.le_refl _) (Int.le_refl _)
  rw[List.length_take]at hle
  have gi:(bs.take i).foldl nP (fun _ _=>0)=lg (bs.take i):=rfl
  rw[gi]at qH hle
  generalize lg (bs.take i)=c at *
  generalize bs[i]=b at *
  obtain⟨ha,s4⟩:=fX
  have gA:=su (R:=R1) (n:=cnt) ha
  have gB:=su (R:=R1) (n:=cnt) s4
  have rA:=bM.r1 _ ha
  have rB:=bM.r1 _ s4
  have cA:=dX (f:=c b.a) s4
  have cB:=dX (f:=c b.b) ha
  have sA:=oy (f:=c) (a:=b.a) (d:=b.s) s4
  have gX:=bM.x
  have g1:=bM.t1
  have gR:(b.a:Int)<(cnt:Int):=by omega
  have fX:(b.b:Int)<(cnt:Int):=by omega
  have qX:=dr (i:=X) (n:=st_b.next) (by omega)
  have q1:=dr (i:=o1) (n:=st_b.next) (by omega)
  have qA:=dr (i:=R1 b.a) (n:=st_b.next) (by rw[v1];omega)
  have qB:=dr (i:=R1 b.b) (n:=st_b.next) (by rw[v1];omega)
  have xA:=Ao sX (s1 b.a) (by decide)
  have xB:=Ao sX (s1 b.b) (by decide)
  have yA:=Ao so1 (s1 b.a) (by decide)
  have yB:=Ao so1 (s1 b.b) (by decide)
  have l1:=km R1 cnt cnt
  have lA:=dL (c b.a) cnt
  have lB:=dL (c b.b) cnt
  have hAB:=hle b.a b.b
  have hBA:=hle b.b b.a
  have gAB:=qH b.a b.b
  have gBA:=qH b.b b.a
  have wA:IntKind.i64.wrap (c b.a b.b+b.s)=c b.a b.b+b.s:=bI (by omega)
  by_cases qF:b.a=b.b
  ·obtain⟨ba,bb,s⟩:=b
   dsimp only at *
   subst qF
   have O3:=oy (f:=bump c ba ba s) (a:=ba) (b:=ba) (d:=s) (n:=cnt) ha
   have UJ:=dX (f:=bump c ba ba s ba) ha
   have hv:bump c ba ba s ba ba=c ba ba+s:=by simp[bump]
   have lC:=dL (bump c ba ba s ba) cnt
   have wB:IntKind.i64.wrap (c ba ba+s+s)=c ba ba+s+s:=bI (by omega)
   rw[hv]at O3 UJ
   have s6:nP c ⟨ba,ba,s⟩ ba=bump (bump c ba ba s) ba ba s ba:=rfl
   rw[aE]at cA sA O3 UJ
   (try((repeat(revert hN;revert N;apply Pn.out));refine wk (tw @vP (tw @b0 (tw @b1 (tw @b5 (tw @Qg (tw @uJ (tw @hi (tw @jl (tw @aB.eq_1 (tw @gA (tw @rA (tw @cA (tw @sA (tw @gX (tw @g1 (tw @gR (tw @qX (tw @q1 (tw @qA (tw @xA (tw @yA (tw @l1 (tw @lA (tw @wA (tw @O3 (tw @UJ (tw @lC @wB))))))))))))))))))))))))))) ?_;(repeat(refine Pn.mk ?_;intro N hN))))
   exact gj (sd (tw @vP (tw @b0 (tw @b1 (tw @b5 (tw @Qg @uJ)))))) (by
    (try dsimp only)
    refine⟨by omega,fun x hx=>?_,?_⟩
    ·have p1:=dr (i:=x) (n:=st_b.next) (by omega)
     have p2:=bU (a:=x) (b:=R1 ba) (by rw[v1];omega)
     have:=NX x hx
     simp only[go_sem, ↓reduceIte,Nat.reduceEqDiff,Nat.reduceAdd,Nat.reduceSub,Nat.reduceLeDiff,reduceCtorEq,p1,p2,this]
    ·rw[ta]
     refine bM.add I ⟨ba,ba,s⟩ ha ha (fun h=>absurd rfl h) ?_ fun x hx h1 h2=>?_
     ·rw[s6]
      simp only[go_sem, ↓reduceIte,Nat.reduceEqDiff,Nat.reduceAdd,Nat.reduceSub,Nat.reduceLeDiff,reduceCtorEq]
     ·have p1:=dr (i:=x) (n:=st_b.next) (by omega)
      (try dsimp only at h2)
      simp only[go_sem, ↓reduceIte,Nat.reduceEqDiff,Nat.reduceAdd,Nat.reduceSub,Nat.reduceLeDiff,reduceCtorEq,p1,h2])
  ·have gP:(R1 b.a=R1 b.b)=False:=by simp only[eq_iff_iff,iff_false];exact fun h=>qF (I.i1 _ _ ha s4 h)
   have Jn:(R1 b.b=R1 b.a)=False:=by simp only[eq_iff_iff,iff_false];exact fun h=>qF (I.i1 _ _ ha s4 h.symm)
   have OR:bump c b.a b.b b.s b.b=c b.b:=kb fun h=>qF h.symm
   have O3:=oy (f:=bump c b.a b.b b.s) (a:=b.b) (b:=b.a) (d:=b.s) (n:=cnt) ha
   rw[OR]at O3
   have wB:IntKind.i64.wrap (c b.b b.a+b.s)=c b.b b.a+b.s:=bI (by omega)
   have s6:nP c b b.b=bump (bump c b.a b.b b.s) b.b b.a b.s b.b:=rfl
   rw[aE]at cA cB sA O3
   (try((repeat(revert hN;revert N;apply Pn.out));refine wk (tw @vP (tw @b0 (tw @b1 (tw @b5 (tw @Qg (tw @uJ (tw @hi (tw @jl (tw @aB.eq_1 (tw @gA (tw @gB (tw @rA (tw @rB (tw @cA (tw @cB (tw @sA (tw @gX (tw @g1 (tw @gR (tw @fX (tw @qX (tw @q1 (tw @qA (tw @qB (tw @xA (tw @xB (tw @yA (tw @yB (tw @l1 (tw @lA (tw @lB (tw @wA (tw @O3 (tw @wB (tw @gP @Jn))))))))))))))))))))))))))))))))))) ?_;(repeat(refine Pn.mk ?_;intro N hN))))
   exact gj (sd (tw @vP (tw @b0 (tw @b1 (tw @b5 (tw @Qg @uJ)))))) (by
    (try dsimp only)
    refine⟨by omega,fun x hx=>?_,?_⟩
    ·have p1:=dr (i:=x) (n:=st_b.next) (by omega)
     have p2:=bU (a:=x) (b:=R1 b.b) (by rw[v1];omega)
     have p3:=bU (a:=x) (b:=R1 b.a) (by rw[v1];omega)
     have:=NX x hx
     simp only[go_sem, ↓reduceIte,Nat.reduceEqDiff,Nat.reduceAdd,Nat.reduceSub,Nat.reduceLeDiff,reduceCtorEq,p1,p2,p3,this]
    ·rw[ta]
     refine bM.add I b ha s4 (fun h=>?_) ?_ fun x hx h1 h2=>?_
     ·simp only[go_sem, ↓reduceIte,Nat.reduceEqDiff,Nat.reduceAdd,Nat.reduceSub,Nat.reduceLeDiff,reduceCtorEq,gP]
     ·rw[s6]
      simp only[go_sem, ↓reduceIte,Nat.reduceEqDiff,Nat.reduceAdd,Nat.reduceSub,Nat.reduceLeDiff,reduceCtorEq,gP]
     ·have p1:=dr (i:=x) (n:=st_b.next) (by omega)
      simp only[go_sem, ↓reduceIte,Nat.reduceEqDiff,Nat.reduceAdd,Nat.reduceSub,Nat.reduceLeDiff,reduceCtorEq,p1,h1,h2])
 ·have kN:i=bs.length:=by omega
  subst kN
  rw[List.take_length]at bM
  (try((repeat(revert hN;revert N;apply Pn.out));refine wk (tw @vP (tw @b0 (tw @b1 (tw @b5 (tw @Qg (tw @uJ @hi)))))) ?_;(repeat(refine Pn.mk ?_;intro N hN))))
  exact eX (.inl rfl) (vs:=[.ptr X 0 0]) (sd @Nat.zero_add) ⟨X,o1,o2,R1,R2,rfl,⟨I.sx,I.s1,I.s2,I.TI,I.NF,I.i1,I.i2,by have:=I.vx;(try dsimp only);omega,by have:=I.v1;(try dsimp only);omega,by have:=I.v2;(try dsimp only);omega,fun j hj=>by have:=I.TK j hj;(try dsimp only);omega,fun j hj=>by have:=I.QM j hj;(try dsimp only);omega⟩,by(try dsimp only);omega,bM,NX⟩
end Go.Proofs.YtgoelphibofcmaaGreat.V

namespace Go.Proofs.YtgoelphibofcmaaGreat.V
structure Bq (n:Nat) (c f:Nat->Nat->Int) (x:Nat) (par:Nat->Int) (Q:List Nat) (i:Nat):Prop where
 nodup:Q.Nodup
 lt:∀v∈Q,v<n
 root:par x=(x:Int)
 mem:x∈Q
 iff:∀v,v<n->(0<=par v↔v∈Q)
 up:∀v∈Q,v≠x->∃u,u∈Q/\par v=(u:Int)/\Q.idxOf u<Q.idxOf v/\f u v<c u v
 done:∀j (_:j<i) (hl:j<Q.length) (v:Nat),v<n->f Q[j] v<c Q[j] v->v∈Q
 ile:i<=Q.length
section
variable {n:Nat} {c f:Nat->Nat->Int} {x:Nat} {par:Nat->Int} {Q:List Nat} {i:Nat}
theorem Bq.len (h:Bq n c f x par Q i):Q.length<=n:=oR n Q h.nodup h.lt
theorem Bq.start (hx:x<n):Bq n c f x (fun v=>if v=x then(x:Int)else -1) [x] 0:=by
 refine⟨by simp,fun v hv=>by simp at hv;omega,by simp,by simp,fun v hv=>?_,fun v hv gP=>absurd (by simpa using hv) gP,fun j hj=>by omega,by simp⟩
 by_cases h:v=x
 ·simp[h]
 ·simp[h]
theorem Bq.visit (h:Bq n c f x par Q i) (hi:i<Q.length) {v:Nat} (hv:v<n) (hp:par v<0) (hr:f Q[i] v<c Q[i] v):Bq n c f x (fun w=>if w=v then(Q[i]:Int)else par w) (Q++[v]) i:=by
 have Vw:v∉Q:=fun hm=>by have:=(h.iff v hv).2 hm;omega
 have Pd:x≠v:=fun e=>Vw (e▸h.mem)
 have zN:∀u∈Q,(Q++[v]).idxOf u=Q.idxOf u:=fun u hu=>by rw[List.idxOf_append,if_pos hu]
 have wJ:(Q++[v]).idxOf v=Q.length:=by rw[List.idxOf_append,if_neg Vw];simp
 refine⟨?_,fun w hw=>?_,by simp only[if_neg Pd];exact h.root,by simp[h.mem],fun w hw=>?_,fun w hw gP=>?_,fun j hj hl w hw C1=>?_,by simp;omega⟩
 ·refine List.nodup_append.2 ⟨h.nodup,by simp,fun a ha b hb=>?_⟩
  rw[List.mem_singleton.1 hb]
  rintro rfl;exact Vw ha
 ·rcases List.mem_append.1 hw with hw|hw
  ·exact h.lt w hw
  ·rw[List.mem_singleton.1 hw];exact hv
 ·by_cases FM:w=v
  ·subst FM;simp
  ·rw[if_neg FM,h.iff w hw];simp[FM]
 ·by_cases FM:w=v
  ·subst FM
   refine⟨Q[i],by simp,by simp,?_,hr⟩
   rw[zN _ (List.getElem_mem hi),wJ]
   exact List.idxOf_lt_length_of_mem (List.getElem_mem hi)
  ·have hwQ:w∈Q:=by
    rcases List.mem_append.1 hw with hw|hw
    ·exact hw
    ·exact absurd (List.mem_singleton.1 hw) FM
   obtain⟨u,h1,h2,h3,h4⟩:=h.up w hwQ gP
   exact⟨u,by simp[h1],by rw[if_neg FM];exact h2,by rw[zN u h1,zN w hwQ];exact h3,h4⟩
 ·have iq:j<Q.length:=by have:=h.ile;omega
  rw[List.getElem_append_left iq]at C1
  exact List.mem_append_left _ (h.done j hj iq w hw C1)
theorem Bq.next (h:Bq n c f x par Q i) (hi:i<Q.length) (dC:∀v,v<n->f Q[i] v<c Q[i] v->0<=par v):Bq n c f x par Q (i+1):=by
 refine⟨h.nodup,h.lt,h.root,h.mem,h.iff,h.up,fun j hj hl v hv hr=>?_,by omega⟩
 by_cases mO:j=i
 ·subst mO;exact(h.iff v hv).1 (dC v hv hr)
 ·exact h.done j (by omega) hl v hv hr
theorem Bq.cut (h:Bq n c f x par Q Q.length) {y:Nat} (hy:y<n) (hp:par y<0):∃S:Nat->Bool,S x=true/\S y=false/\∀u v,u<n->v<n->S u=true->S v=false->¬f u v<c u v:=by
 refine⟨fun v=>decide (v∈Q),by simp[h.mem],?_,fun u v hu hv h1 h2 hr=>?_⟩
 ·have:y∉Q:=fun hm=>by have:=(h.iff y hy).2 hm;omega
  simp[this]
 ·simp only[decide_eq_true_eq,decide_eq_false_iff_not]at h1 h2
  obtain⟨j,hj,rfl⟩:=List.getElem_of_mem h1
  exact h2 (h.done j hj hj v hv hr)
def vm (c f:Nat->Nat->Int) (Q:List Nat) (y k:Nat) (out:List Nat):Prop:=∃rest,out.reverse=k::rest/\(k::rest).getLast (by simp)=y/\rf f c (k::rest)/\(k::rest).Pairwise (fun a b=>Q.idxOf a<Q.idxOf b)/\∀v∈k::rest,v∈Q
theorem vm.start {y:Nat} (hy:y∈Q):vm c f Q y y [y]:=⟨[],rfl,rfl,trivial,by simp,by simpa using hy⟩
theorem vm.step {y k u:Nat} {out:List Nat} (h:vm c f Q y k out) (hu:u∈Q) (hi:Q.idxOf u<Q.idxOf k) (hr:f u k<c u k):vm c f Q y u (out++[u]):=by
 obtain⟨rest,h1,h2,h3,h4,h5⟩:=h
 refine⟨k::rest,by rw[List.reverse_append,h1];rfl,by rw[List.getLast_cons (by simp)];exact h2,⟨hr,h3⟩,?_,?_⟩
 ·refine List.pairwise_cons.2 ⟨fun b hb=>?_,h4⟩
  rcases List.mem_cons.1 hb with rfl|hb
  ·exact hi
  ·have:=(List.pairwise_cons.1 h4).1 b hb;omega
 ·intro v hv
  rcases List.mem_cons.1 hv with rfl|hv
  ·exact hu
  ·exact h5 v hv
theorem vm.len {y k:Nat} {out:List Nat} (h:vm c f Q y k out) (hq:∀v∈Q,v<n):out.length<=n:=by
 obtain⟨rest,h1,_,_,h4,h5⟩:=h
 rw[<-List.length_reverse,h1]
 refine oR n _ (h4.imp fun dZ he=>?_) fun v hv=>hq v (h5 v hv)
 subst he;omega
structure QR (n:Nat) (c f:Nat->Nat->Int) (x y:Nat) (p:List Nat):Prop where
 way:∃r,p=x::r/\(x::r).getLast (by simp)=y
 nodup:p.Nodup
 room:rf f c p
 lt:∀v∈p,v<n
theorem vm.way {y:Nat} {out:List Nat} (h:vm c f Q y x out) (hq:∀v∈Q,v<n):QR n c f x y out.reverse:=by
 obtain⟨rest,h1,h2,h3,h4,h5⟩:=h
 rw[h1]
 exact⟨⟨rest,rfl,h2⟩,h4.imp fun dZ he=>by subst he;omega,h3,fun v hv=>hq v (h5 v hv)⟩
end
end Go.Proofs.YtgoelphibofcmaaGreat.V

namespace Go.Proofs.YtgoelphibofcmaaGreat.V
open Go.RowKit
attribute [local irreducible] dO wpOps gy Call
attribute [local go_sem] aT fK eS ga fZ dj upd cF K.av cP AV.cells AV.cell rowOf rowsOf part ld rowAt bL cD dG ef ik bV de ew fW fe dw ek dc db dU dV cj bl cU b4 cW cV ei eo ej cR cm dd eh bW aV cZ cI ij bx cK ck bd du bj dI AV.undef bH bS dW eb dQ dP cJ ev eE cH er ep cY da List.getD_cons_zero List.getD_cons_succ List.getD_nil List.all_cons List.all_nil Bool.and_true Bool.true_and Bool.and_self Bool.not_true Bool.not_false Option.map_some Option.map_none Option.bind_some Option.bind_none List.length_cons List.length_nil List.take_succ_cons List.take_zero List.take_nil List.drop_succ_cons List.drop_zero List.drop_nil List.head?_cons List.map_cons List.map_nil List.getElem?_cons_zero List.getElem?_cons_succ List.cons_append List.nil_append List.append_nil List.length_map List.set_cons_zero List.set_cons_succ Nat.reduceMul eq_self Int.toNat_natCast Int.natCast_nonneg and_self true_and and_true decide_true decide_false Bool.false_eq_true Nat.zero_add Nat.add_zero List.contains_cons List.contains_nil Bool.or_false Bool.false_or beq_self_eq_true Nat.reduceBEq ne_eq not_true_eq_false not_false_eq_true Id.mk.injEq false_and and_false Nat.reduceLT Int.reduceLE Int.reduceLT Int.reduceToNat Int.reduceNeg Int.reduceAdd Nat.le_refl List.length_append beq_true beq_false Bool.not_eq_eq_eq_not or_false false_or dR ae aj aI bq bG cC aY bh aW bp cQ bJ
def lW (l:List Nat) (i x:Nat):Nat:=if x<i∨l.length-i<=x then l.getD (l.length-1-x) 0 else l.getD x 0
theorem zf (l:List Nat):l.map eN=dM (fun x=>l.getD x 0) l.length:=by
 refine List.ext_getElem? fun i=>?_
 by_cases h:i<l.length
 ·rw[fC h,List.getElem?_map,List.getElem?_eq_getElem h];simp[List.getD_eq_getElem?_getD,h]
 ·rw[List.getElem?_eq_none (by simp;omega),List.getElem?_eq_none (by rw[gw];omega)]
theorem Ht (l:List Nat):dM (lW l 0) l.length=l.map eN:=by
 rw[zf]
 exact im fun x hx=>by unfold lW;rw[if_neg (by omega)]
theorem Kk (l:List Nat) {i:Nat} (h:l.length<=2*i+1) (hi:i<=l.length):dM (lW l i) l.length=l.reverse.map eN:=by
 rw[zf l.reverse,List.length_reverse]
 refine im fun x hx=>?_
 have hr:l.reverse.getD x 0=l.getD (l.length-1-x) 0:=by
  rw[List.getD_eq_getElem?_getD,List.getElem?_reverse hx,List.getD_eq_getElem?_getD]
 rw[hr]
 unfold lW
 by_cases hc:x<i∨l.length-i<=x
 ·rw[if_pos hc]
 ·rw[if_neg hc]
  have:x=l.length-1-x:=by omega
  rw[<-this]
theorem Hu (l:List Nat) (hp:0<l.length) (hl:l.length<=1048576) (o:Id) (σ:ar) (ho:σ.get o=some ⟨true,1,l.map eN⟩) (uC:o.bQ<σ.next):
  Call Tryz.prog 273 [.own o 0 l.length] σ fun r σ'=>σ'.get o=some ⟨true,1,l.reverse.map eN⟩/\σ.next<=σ'.next/\∀i:Id,i.bQ<σ.next->(i=o)=False->σ'.get i=σ.get i:=by
 refine eQ eK rfl fun kd=>?_
 clear kd
 rw[<-Ht]at ho
 have TA:IntKind.i64.wrap ((l.length:Int)-1)=((l.length-1:Nat):Int):=by rw[bI (by omega)];omega
 (try((repeat(revert hN;revert N;apply Pn.out));refine wk @TA ?_;(repeat(refine Pn.mk ?_;intro N hN))))
 refine aZ (fun m env st=>∃i:Nat,m=l.length-i/\2*i<=l.length+1/\i<=l.length/\env 2=.int .i64 (i:Int)/\env 3=.int .i64 ((l.length:Int)-1-i)/\st.get o=some ⟨true,1,dM (lW l i) l.length⟩/\σ.next<=st.next/\∀x:Id,x.bQ<σ.next->(x=o)=False->st.get x=σ.get x) l.length ⟨0,rfl,by omega,by omega,by(simp only[go_sem, ↓reduceIte,Nat.reduceEqDiff,Nat.reduceAdd,Nat.reduceSub,Nat.reduceLeDiff,reduceCtorEq])<;>rfl,by(simp only[go_sem, ↓reduceIte,Nat.reduceEqDiff,Nat.reduceAdd,Nat.reduceSub,Nat.reduceLeDiff,reduceCtorEq,TA]);congr 1;omega,ho,by(try dsimp only);omega,fun x _ _=>rfl⟩ ?_
 rintro m env_b st_b ⟨i,rfl,uW,kN,b2,b3,bg,bn,fU⟩ bkp
 have b0:=bkp 0 (by kernel_rfl)
 simp only[go_sem, ↓reduceIte,Nat.reduceEqDiff,Nat.reduceAdd,Nat.reduceSub,Nat.reduceLeDiff,reduceCtorEq]at b0
 clear bkp
 have tl:=gw (lW l i) l.length
 have pW:=dr (i:=o) (n:=st_b.next) (by omega)
 by_cases hi:(i:Int)<(l.length:Int)-1-i
 ·have fh:i<l.length:=by omega
  obtain⟨j,hj⟩:∃j,j=l.length-1-i:=⟨_,rfl⟩
  have iH:j<l.length:=by omega
  have LQ:(l.length:Int)-1-i=(j:Int):=by omega
  rw[LQ]at b3 hi
  have g1:=fC (f:=lW l i) fh
  have g2:=fC (f:=lW l i) iH
  have e1:lW l i i=l.getD i 0:=by unfold lW;rw[if_neg (by omega)]
  have e2:lW l i j=l.getD j 0:=by unfold lW;rw[if_neg (by omega)]
  have Nr:(dM (lW l i) l.length).set i (eN (l.getD j 0))=dM (fun x=>if x=i then l.getD j 0 else lW l i x) l.length:=pO fh (if_pos rfl) fun x _ hx=>if_neg hx
  have Jw:(dM (fun x=>if x=i then l.getD j 0 else lW l i x) l.length).set j (eN (l.getD i 0))=dM (lW l (i+1)) l.length:=pO iH (by unfold lW;rw[if_pos (by omega)];congr 1;omega) fun x hx QF=>by
   by_cases C4:x=i
   ·rw[if_pos C4];unfold lW;rw[if_pos (by omega)];congr 1;omega
   ·rw[if_neg C4];unfold lW
    by_cases hc:x<i∨l.length-i<=x
    ·rw[if_pos hc,if_pos (by omega)]
    ·rw[if_neg hc,if_neg (by omega)]
  have TJ:=gw (fun x=>if x=i then l.getD j 0 else lW l i x) l.length
  have g3:=fC (f:=fun x=>if x=i then l.getD j 0 else lW l i x) iH
  rw[e1]at g1
  rw[e2]at g2
  rw[if_neg (by omega),e2]at g3
  rw[eN]at g1 g2 g3 Nr Jw
  have hii:(i:Int)<(l.length:Int):=by omega
  have mO:(j:Int)<(l.length:Int):=by omega
  have nH:IntKind.i64.wrap ((i:Int)+1)=((i+1:Nat):Int):=aA (by omega)
  have qL:IntKind.i64.wrap ((j:Int)-1)=(l.length:Int)-1-((i+1:Nat):Int):=by rw[bI (by omega)];omega
  (try((repeat(revert hN;revert N;apply Pn.out));refine wk (tw @b0 (tw @b2 (tw @b3 (tw @bg (tw @hi (tw @hii (tw @mO (tw @g1 (tw @g2 (tw @g3 (tw @Nr (tw @Jw (tw @tl (tw @TJ (tw @pW (tw @nH @qL)))))))))))))))) ?_;(repeat(refine Pn.mk ?_;intro N hN))))
  refine⟨_,?_,i+1,rfl,by omega,by omega,sd @nH,sd @qL,sd @Jw,by(try dsimp only);omega,fun x hx H7=>?_⟩
  ·omega
  ·have:=fU x hx H7
   simp only[go_sem, ↓reduceIte,Nat.reduceEqDiff,Nat.reduceAdd,Nat.reduceSub,Nat.reduceLeDiff,reduceCtorEq,H7,this]
 ·rw[Kk l (by omega) kN]at bg
  (try((repeat(revert hN;revert N;apply Pn.out));refine wk (tw @b0 (tw @b2 (tw @b3 (tw @bg @hi)))) ?_;(repeat(refine Pn.mk ?_;intro N hN))))
  exact eX (.inr rfl) (vs:=[]) (by simp only[fx,go_sem, ↓reduceIte,Nat.reduceEqDiff,Nat.reduceAdd,Nat.reduceSub,Nat.reduceLeDiff,reduceCtorEq]) ⟨bg,by(try dsimp only);omega,fU⟩
end Go.Proofs.YtgoelphibofcmaaGreat.V

namespace Go.Proofs.YtgoelphibofcmaaGreat.V
open Go.RowKit
attribute [local irreducible] dO wpOps gy Call
attribute [local go_sem] aT fK eS ga fZ dj upd cF K.av cP AV.cells AV.cell rowOf rowsOf part ld rowAt bL cD dG ef ik bV de ew fW fe dw ek dc db dU dV cj bl cU b4 cW cV ei eo ej cR cm dd eh bW aV cZ cI ij bx cK ck bd du bj dI AV.undef bH bS dW eb dQ dP cJ ev eE cH er ep cY da List.getD_cons_zero List.getD_cons_succ List.getD_nil List.all_cons List.all_nil Bool.and_true Bool.true_and Bool.and_self Bool.not_true Bool.not_false Option.map_some Option.map_none Option.bind_some Option.bind_none List.length_cons List.length_nil List.take_succ_cons List.take_zero List.take_nil List.drop_succ_cons List.drop_zero List.drop_nil List.head?_cons List.map_cons List.map_nil List.getElem?_cons_zero List.getElem?_cons_succ List.cons_append List.nil_append List.append_nil List.length_map List.set_cons_zero List.set_cons_succ Nat.reduceMul eq_self Int.toNat_natCast Int.natCast_nonneg and_self true_and and_true decide_true decide_false Bool.false_eq_true Nat.zero_add Nat.add_zero List.contains_cons List.contains_nil Bool.or_false Bool.false_or beq_self_eq_true Nat.reduceBEq ne_eq not_true_eq_false not_false_eq_true Id.mk.injEq false_and and_false Nat.reduceLT Int.reduceLE Int.reduceLT Int.reduceToNat Int.reduceNeg Int.reduceAdd Nat.le_refl List.length_append beq_true beq_false Bool.not_eq_eq_eq_not or_false false_or dR ae aj aI bq bG cC aY bh aW bp cQ bJ
theorem Sw (cnt:Nat) (rN:1<=cnt) (hn:cnt<=1048576) (c f:Nat->Nat->Int) (x y:Nat) (hx:x<cnt) (hy:y<cnt):
  l7 Tryz.prog 266 [.dq (lG cnt c f),.int .i64 x,.int .i64 y] fun r=>(r=.bE/\∃S:Nat->Bool,S x=true/\S y=false/\∀u v,u<cnt->v<cnt->S u=true->S v=false->¬f u v<c u v)∨∃p:List Nat,r=.sl (p.map eN)/\QR cnt c f x y p:=by
 refine l7.body eK rfl fun hl n0=>?_
 clear hl
 have lM:=xo c cnt
 have jN:(0:Int)<=(cnt:Int):=by omega
 have C4:(x:Int)<(cnt:Int):=by omega
 have TD:(y:Int)<(cnt:Int):=by omega
 (try((repeat(revert hN;revert N;apply Pn.out));refine wk (tw @lG.eq_1 @lM) ?_;(repeat(refine Pn.mk ?_;intro N hN))))
 refine .inr (aJ _ _ _ _ _ (fun r σ1 hq=>?_) (Ki cnt rN hn (-1) ⟨266002000,n0+1+1⟩ _ (sd @Nat.zero_add) (by(try dsimp only);omega)))
 obtain⟨o,rfl,ho,LX,Jp,jz⟩:=hq
 (try dsimp only at ho LX Jp jz)
 refine hN _ _ ?_
 clear hN N
 have pW:=dr Jp
 have mN:(cnt:Int)<=1048576:=by omega
 have Rm:qw<qw+cnt:=by omega
 have gS:List.replicate cnt [AV.int .i64 (-1)]=ee (fun _=>-1) cnt:=by
  refine List.ext_getElem? fun i=>?_
  by_cases h:i<cnt
  ·rw[dX h,List.getElem?_replicate,if_pos h];rfl
  ·rw[List.getElem?_eq_none (by simp;omega),List.getElem?_eq_none (by rw[dL];omega)]
 rw[gS]at ho
 have BP:(ee (fun _=>-1) cnt).set x (aE (x:Int))=ee (fun v=>if v=x then(x:Int)else -1) cnt:=lk hx (if_pos rfl) fun v _ hv=>if_neg hv
 have hg0:=dX (f:=fun _=>-1) hx
 have tl0:=dL (fun _=>-1) cnt
 rw[aE]at BP hg0
 (try((repeat(revert hN;revert N;apply Pn.out));refine wk (tw @lG.eq_1 (tw @lM (tw @jN (tw @mN @pW)))) ?_;(repeat(refine Pn.mk ?_;intro N hN))))
 refine KR ?_
 simp only[go_sem, ↓reduceIte,Nat.reduceEqDiff,Nat.reduceAdd,Nat.reduceSub,Nat.reduceLeDiff,reduceCtorEq,Rm]
 refine hN _ _ ?_
 clear hN N
 (try((repeat(revert hN;revert N;apply Pn.out));refine wk (tw @ho (tw @pW (tw @BP (tw @hg0 (tw @tl0 @C4))))) ?_;(repeat(refine Pn.mk ?_;intro N hN))))
 obtain⟨C,hC⟩:∃C:Id,C=⟨266003001,σ1.next+1⟩:=⟨_,rfl⟩
 have RG:=bU (a:=o) (b:=C) (by rw[hC];(try dsimp only);omega)
 have hCv:C.bQ=σ1.next+1:=by rw[hC]
 refine aZ (fun m env st=>∃(par:Nat->Int) (Q:List Nat) (i:Nat),m=cnt-i/\Bq cnt c f x par Q i/\st.get o=some ⟨true,1,ee par cnt⟩/\st.get C=some ⟨true,qw+cnt,(Q.drop i).map eN⟩/\σ1.next+1<st.next) cnt ⟨_,[x],0,rfl,Bq.start hx,sd @pW,by rw[hC];simp only[go_sem, ↓reduceIte,Nat.reduceEqDiff,Nat.reduceAdd,Nat.reduceSub,Nat.reduceLeDiff,reduceCtorEq,pW];rfl,by(try dsimp only);omega⟩ ?_
 rintro m env_b st_b ⟨par,Q,i,rfl,hB,bgo,bgC,bn⟩ bkp
 have b0:=bkp 0 (by kernel_rfl)
 have b1:=bkp 1 (by kernel_rfl)
 have b2:=bkp 2 (by kernel_rfl)
 have b7:=bkp 7 (by kernel_rfl)
 have b8:=bkp 8 (by kernel_rfl)
 have b9:=bkp 9 (by kernel_rfl)
 rw[<-hC]at b9
 simp only[go_sem, ↓reduceIte,Nat.reduceEqDiff,Nat.reduceAdd,Nat.reduceSub,Nat.reduceLeDiff,reduceCtorEq]at b0 b1 b2 b7 b8 b9
 clear bkp
 have hQn:=hB.len
 have kN:=hB.ile
 have Td:((Q.drop i).map eN).length=Q.length-i:=by simp
 by_cases hi:i<Q.length
 ·have kz:(0:Int)<((Q.length-i:Nat):Int):=by omega
  have sH:Q.drop i=Q[i]::Q.drop (i+1):=List.drop_eq_getElem_cons hi
  obtain⟨u,hu⟩:∃u,u=Q[i]:=⟨_,rfl⟩
  have hun:u<cnt:=by rw[hu];exact hB.lt _ (List.getElem_mem hi)
  rw[<-hu]at sH
  (try((repeat(revert hN;revert N;apply Pn.out));refine wk (tw @b0 (tw @b1 (tw @b2 (tw @b7 (tw @b8 (tw @b9 (tw @bgC (tw @Td @kz)))))))) ?_;(repeat(refine Pn.mk ?_;intro N hN))))
  refine KR ?_
  rw[sH,List.map_cons,show eN u=[.int .i64 (u:Int)]from rfl]at bgC
  simp only[go_sem, ↓reduceIte,Nat.reduceEqDiff,Nat.reduceAdd,Nat.reduceSub,Nat.reduceLeDiff,reduceCtorEq,b9,bgC]
  refine hN _ _ ?_
  clear hN N
  (try((repeat(revert hN;revert N;apply Pn.out));refine wk @b7 ?_;(repeat(refine Pn.mk ?_;intro N hN))))
  refine aZ (fun m env st=>∃(v:Nat) (par':Nat->Int) (Q':List Nat),m=cnt-v/\v<=cnt/\env 36=.int .i64 (v:Int)/\Bq cnt c f x par' Q' i/\(∃h:i<Q'.length,Q'[i]=u)/\st.get o=some ⟨true,1,ee par' cnt⟩/\st.get C=some ⟨true,qw+cnt,(Q'.drop (i+1)).map eN⟩/\σ1.next+1<st.next/\∀w,w<v->f u w<c u w->0<=par' w) cnt ⟨0,par,Q,rfl,Nat.zero_le _,by(simp only[go_sem, ↓reduceIte,Nat.reduceEqDiff,Nat.reduceAdd,Nat.reduceSub,Nat.reduceLeDiff,reduceCtorEq])<;>rfl,hB,⟨hi,hu.symm⟩,sd (tw @RG @bgo),sd @RG,by(try dsimp only);omega,fun w hw=>absurd hw (Nat.not_lt_zero w)⟩ ?_
  rintro m env_c st_c ⟨v,par',Q',rfl,hvn,c36,dH,⟨qZ,FL⟩,ym,cgC,cn,dC⟩ ckp
  have c0:=ckp 0 (by kernel_rfl)
  have c1:=ckp 1 (by kernel_rfl)
  have c2:=ckp 2 (by kernel_rfl)
  have c7:=ckp 7 (by kernel_rfl)
  have c8:=ckp 8 (by kernel_rfl)
  have c9:=ckp 9 (by kernel_rfl)
  have jG:=ckp 10 (by kernel_rfl)
  have N0:=ckp 35 (by kernel_rfl)
  simp only[go_sem, ↓reduceIte,Nat.reduceEqDiff,Nat.reduceAdd,Nat.reduceSub,Nat.reduceLeDiff,reduceCtorEq,b0,b1,b2,b7,b8,b9]at c0 c1 c2 c7 c8 c9 jG N0
  clear ckp
  have tl:=dL par' cnt
  by_cases hv:(v:Int)<(cnt:Int)
  ·have Ed:v<cnt:=by omega
   have OH:=dX (f:=par') Ed
   have jz:=Ob cnt c f u v hun Ed
   have hw:IntKind.i64.wrap ((v:Int)+1)=((v+1:Nat):Int):=aA (by omega)
   rw[aE]at OH
   rw[lG]at jz
   by_cases kf:par' v<0
   ·by_cases hr:f u v<c u v
    ·rw[decide_eq_true hr]at jz
     have eH:(ee par' cnt).set v (aE (u:Int))=ee (fun w=>if w=v then(u:Int)else par' w) cnt:=lk Ed (if_pos rfl) fun w _ hw=>if_neg hw
     rw[aE]at eH
     have pU:=dH.visit qZ Ed kf (by rw[FL];exact hr)
     rw[FL]at pU
     have hQ2:=pU.len
     rw[List.length_append]at hQ2
     simp only[List.length_singleton]at hQ2
     have gi:qw+(Q'.drop (i+1)).length<qw+cnt:=by rw[List.length_drop];omega
     (repeat(first|((repeat(revert hN;revert N;apply Pn.out));refine wk (tw @lG.eq_1 (tw @c0 (tw @c7 (tw @c8 (tw @c9 (tw @jG (tw @c36 (tw @N0 (tw @hv (tw @ym (tw @OH (tw @tl (tw @kf @eH))))))))))))) ?_;(repeat(refine Pn.mk ?_;intro N hN)))|((try apply Or.inl);refine⟨_,aq.x (jz) (sd (tw @lG.eq_1 (tw @c0 (tw @c7 (tw @c8 (tw @c9 (tw @jG (tw @c36 (tw @N0 (tw @hv (tw @ym (tw @OH (tw @tl (tw @kf @eH)))))))))))))),?_⟩;refine hN _ _ ?_;clear hN N)))
     refine KR ?_
     have hq:(Q'.drop (i+1)).map eN++[[.int .i64 (v:Int)]]=((Q'++[v]).drop (i+1)).map eN:=by rw[List.drop_append_of_le_length (by omega),List.map_append];rfl
     simp only[go_sem, ↓reduceIte,Nat.reduceEqDiff,Nat.reduceAdd,Nat.reduceSub,Nat.reduceLeDiff,reduceCtorEq,c9,cgC,gi,RG,hq]
     refine hN _ _ ?_
     clear hN N
     (try((repeat(revert hN;revert N;apply Pn.out));refine wk (tw @c36 @hw) ?_;(repeat(refine Pn.mk ?_;intro N hN))))
     refine⟨_,?_,v+1,_,_,rfl,Ed,sd @hw,pU,⟨by rw[List.length_append];omega,by rw[List.getElem_append_left qZ];exact FL⟩,sd @RG,sd @RG,by(try dsimp only);omega,fun w hw C1=>?_⟩
     ·omega
     ·by_cases FM:w=v
      ·rw[if_pos FM];omega
      ·rw[if_neg FM];exact dC w (by omega) C1
    ·rw[decide_eq_false hr]at jz
     (repeat(first|((repeat(revert hN;revert N;apply Pn.out));refine wk (tw @lG.eq_1 (tw @c0 (tw @c7 (tw @c8 (tw @c9 (tw @jG (tw @c36 (tw @N0 (tw @hv (tw @ym (tw @OH (tw @tl (tw @kf @hw))))))))))))) ?_;(repeat(refine Pn.mk ?_;intro N hN)))|((try apply Or.inl);refine⟨_,aq.x (jz) (sd (tw @lG.eq_1 (tw @c0 (tw @c7 (tw @c8 (tw @c9 (tw @jG (tw @c36 (tw @N0 (tw @hv (tw @ym (tw @OH (tw @tl (tw @kf @hw)))))))))))))),?_⟩;refine hN _ _ ?_;clear hN N)))
     refine⟨_,?_,v+1,par',Q',rfl,Ed,sd @hw,dH,⟨qZ,FL⟩,sd @ym,sd @cgC,by(try dsimp only);omega,fun w hw C1=>?_⟩
     ·omega
     ·by_cases FM:w=v
      ·subst FM;exact absurd C1 hr
      ·exact dC w (by omega) C1
   ·(try((repeat(revert hN;revert N;apply Pn.out));refine wk (tw @lG.eq_1 (tw @c0 (tw @c7 (tw @c8 (tw @c9 (tw @jG (tw @c36 (tw @N0 (tw @hv (tw @ym (tw @OH (tw @tl (tw @kf @hw))))))))))))) ?_;(repeat(refine Pn.mk ?_;intro N hN))))
    refine⟨_,?_,v+1,par',Q',rfl,Ed,sd @hw,dH,⟨qZ,FL⟩,sd @ym,sd @cgC,by(try dsimp only);omega,fun w hw C1=>?_⟩
    ·omega
    ·by_cases FM:w=v
     ·subst FM;omega
     ·exact dC w (by omega) C1
  ·have hvc:v=cnt:=by omega
   subst hvc
   (try((repeat(revert hN;revert N;apply Pn.out));refine wk (tw @c36 (tw @N0 @hv)) ?_;(repeat(refine Pn.mk ?_;intro N hN))))
   refine⟨_,?_,par',Q',i+1,rfl,dH.next qZ fun w hw hr=>dC w hw (by rw[<-FL];exact hr),sd @ym,sd @cgC,by(try dsimp only);omega⟩
   omega
 ·have hiQ:i=Q.length:=by omega
  subst hiQ
  have kz:¬(0:Int)<((Q.length-Q.length:Nat):Int):=by omega
  have U0:=dX (f:=par) hy
  have tl:=dL par cnt
  rw[aE]at U0
  by_cases kf:par y<0
  ·(try((repeat(revert hN;revert N;apply Pn.out));refine wk (tw @b0 (tw @b1 (tw @b2 (tw @b7 (tw @b8 (tw @b9 (tw @bgC (tw @Td (tw @kz (tw @bgo (tw @U0 (tw @tl (tw @TD @kf))))))))))))) ?_;(repeat(refine Pn.mk ?_;intro N hN))))
   exact⟨[.bE],sd @Nat.zero_add,.bE,jw _ _,.inl ⟨rfl,hB.cut hy kf⟩⟩
  ·(try((repeat(revert hN;revert N;apply Pn.out));refine wk (tw @b0 (tw @b1 (tw @b2 (tw @b7 (tw @b8 (tw @b9 (tw @bgC (tw @Td (tw @kz (tw @bgo (tw @U0 (tw @tl (tw @TD @kf))))))))))))) ?_;(repeat(refine Pn.mk ?_;intro N hN))))
   refine aZ (fun m env st=>∃(k:Nat) (out:List Nat) (p:Id),m=Q.idxOf k/\env 13=.int .i64 (k:Int)/\env 12=.own p 0 out.length/\st.get p=some ⟨true,1,out.map eN⟩/\p.bQ<st.next/\st_b.next<=p.bQ/\k∈Q/\vm c f Q y k out/\st.get o=some ⟨true,1,ee par cnt⟩) (Q.idxOf y) ⟨y,[y],⟨266017001,st_b.next+1+1⟩,rfl,by(simp only[go_sem, ↓reduceIte,Nat.reduceEqDiff,Nat.reduceAdd,Nat.reduceSub,Nat.reduceLeDiff,reduceCtorEq]),by(simp only[go_sem, ↓reduceIte,Nat.reduceEqDiff,Nat.reduceAdd,Nat.reduceSub,Nat.reduceLeDiff,reduceCtorEq])<;>rfl,by(simp only[go_sem, ↓reduceIte,Nat.reduceEqDiff,Nat.reduceAdd,Nat.reduceSub,Nat.reduceLeDiff,reduceCtorEq])<;>rfl,by(try dsimp only);omega,by(try dsimp only);omega,(hB.iff y hy).1 (by omega),vm.start ((hB.iff y hy).1 (by omega)),by(have Vy:=dr (i:=o) (n:=st_b.next) (by omega));simp only[go_sem, ↓reduceIte,Nat.reduceEqDiff,Nat.reduceAdd,Nat.reduceSub,Nat.reduceLeDiff,reduceCtorEq,Vy,bgo]⟩ ?_
   rintro m env_d st_d ⟨k,out,p,rfl,d13,d12,dgp,dpn,dpo,hkQ,uT,dgo⟩ dkp
   have d1:=dkp 1 (by kernel_rfl)
   have d8:=dkp 8 (by kernel_rfl)
   simp only[go_sem, ↓reduceIte,Nat.reduceEqDiff,Nat.reduceAdd,Nat.reduceSub,Nat.reduceLeDiff,reduceCtorEq,b1,b8]at d1 d8
   clear dkp
   have AP:=dr dpn
   have BR:=dr (i:=o) (n:=st_d.next) (by omega)
   have eF:=bU (a:=o) (b:=p) (by omega)
   have LU:=uT.len hB.lt
   have fM:=hB.lt k hkQ
   have ke:(out.map eN).length=out.length:=by simp
   by_cases Tk:k=x
   ·have hd:decide ((k:Int)=(x:Int))=true:=decide_eq_true (by rw[Tk])
    have Vn:0<out.length:=by
     obtain⟨rest,h1,_⟩:=uT
     rw[<-List.length_reverse,h1];simp
    (try((repeat(revert hN;revert N;apply Pn.out));refine wk (tw @d1 (tw @d8 (tw @d12 (tw @d13 (tw @hd @Bool.not_true))))) ?_;(repeat(refine Pn.mk ?_;intro N hN))))
    refine .inr (aJ _ _ _ _ _ (fun r σ2 hq=>?_) (Hu out Vn (by omega) p _ dgp (by(try dsimp only);omega)))
    obtain⟨Rs,nh,DR⟩:=hq
    refine hN _ _ ?_
    clear hN N
    (try((repeat(revert hN;revert N;apply Pn.out));refine wk @d12 ?_;(repeat(refine Pn.mk ?_;intro N hN))))
    refine⟨[.own p 0 out.length],sd @d12,.sl (out.reverse.map eN),?_,.inr ⟨out.reverse,rfl,by subst Tk;exact uT.way hB.lt⟩⟩
    exact fw (sz:=1) Rs (by simp) fun a=>Od _ 4 a
   ·have hd:decide ((k:Int)=(x:Int))=false:=decide_eq_false fun h=>Tk (by omega)
    obtain⟨u,huQ,hpu,zN,hr⟩:=hB.up k hkQ Tk
    have e9:=dX (f:=par) fM
    rw[aE,hpu]at e9
    have hki:(k:Int)<(cnt:Int):=by omega
    have e1:out.length+1<=16777216:=by omega
    (try((repeat(revert hN;revert N;apply Pn.out));refine wk (tw @d1 (tw @d8 (tw @d12 (tw @d13 (tw @hd (tw @Bool.not_false (tw @dgo (tw @dgp (tw @e9 (tw @tl (tw @hki (tw @AP (tw @BR (tw @eF (tw @ke @e1))))))))))))))) ?_;(repeat(refine Pn.mk ?_;intro N hN))))
    refine⟨_,zN,u,out++[u],⟨266021003,st_d.next+1+1⟩,rfl,sd @Nat.zero_add,by rw[List.length_append];simp only[go_sem, ↓reduceIte,Nat.reduceEqDiff,Nat.reduceAdd,Nat.reduceSub,Nat.reduceLeDiff,reduceCtorEq,List.length_cons,List.length_nil],by rw[List.map_append,List.map_cons,List.map_nil];simp only[go_sem, ↓reduceIte,Nat.reduceEqDiff,Nat.reduceAdd,Nat.reduceSub,Nat.reduceLeDiff,reduceCtorEq,eN],by(try dsimp only);omega,by(try dsimp only);omega,huQ,uT.step huQ zN hr,sd (tw @BR (tw @eF @dgo))⟩
end Go.Proofs.YtgoelphibofcmaaGreat.V

namespace Go.Proofs.YtgoelphibofcmaaGreat.V
open Go.RowKit
attribute [local irreducible] dO wpOps gy Call
attribute [local go_sem] aT fK eS ga fZ dj upd cF K.av cP AV.cells AV.cell rowOf rowsOf part ld rowAt bL cD dG ef ik bV de ew fW fe dw ek dc db dU dV cj bl cU b4 cW cV ei eo ej cR cm dd eh bW aV cZ cI ij bx cK ck bd du bj dI AV.undef bH bS dW eb dQ dP cJ ev eE cH er ep cY da List.getD_cons_zero List.getD_cons_succ List.getD_nil List.all_cons List.all_nil Bool.and_true Bool.true_and Bool.and_self Bool.not_true Bool.not_false Option.map_some Option.map_none Option.bind_some Option.bind_none List.length_cons List.length_nil List.take_succ_cons List.take_zero List.take_nil List.drop_succ_cons List.drop_zero List.drop_nil List.head?_cons List.map_cons List.map_nil List.getElem?_cons_zero List.getElem?_cons_succ List.cons_append List.nil_append List.append_nil List.length_map List.set_cons_zero List.set_cons_succ Nat.reduceMul eq_self Int.toNat_natCast Int.natCast_nonneg and_self true_and and_true decide_true decide_false Bool.false_eq_true Nat.zero_add Nat.add_zero List.contains_cons List.contains_nil Bool.or_false Bool.false_or beq_self_eq_true Nat.reduceBEq ne_eq not_true_eq_false not_false_eq_true Id.mk.injEq false_and and_false Nat.reduceLT Int.reduceLE Int.reduceLT Int.reduceToNat Int.reduceNeg Int.reduceAdd Nat.le_refl List.length_append beq_true beq_false Bool.not_eq_eq_eq_not or_false false_or dR ae aj aI bq bG cC aY bh aW bp cQ bJ
theorem A5 (b:Nat):∀(l:List Nat) (a:Nat) (f:Nat->Nat->Int),ma f ((a::l)++[b])=kD (ma f (a::l)) ((a::l).getLast (by simp)) b
 |[],a,f=>rfl
 |c::l,a,f=>by
  rw[List.cons_append,List.cons_append,ma,<-List.cons_append,A5 b l c (kD f a c),ma,List.getLast_cons_cons]
theorem Gl {p:List Nat} {f:Nat->Nat->Int} {i:Nat} (h1:1<=i) (hi:i<p.length):ma f (p.take (i+1))=kD (ma f (p.take i)) (p[i-1]'(by omega)) p[i]:=by
 rw[List.take_succ_eq_append_getElem hi]
 have gP:p.take i≠[]:=by
  intro h
  have:(p.take i).length=0:=by rw[h];rfl
  rw[List.length_take]at this;omega
 obtain⟨a,l,S6⟩:∃a l,p.take i=a::l:=by
  cases h:p.take i with
  |nil=>exact absurd h gP
  |cons a l=>exact⟨a,l,rfl⟩
 have wJ:(p.take i).getLast gP=p[i-1]'(by omega):=by
  rw[List.getLast_eq_getElem,List.getElem_take]
  congr 1
  rw[List.length_take];omega
 simp only[S6]at wJ ⊢
 rw[A5,wJ]
theorem Hr (f:Nat->Nat->Int) (a b u v:Nat):kD f a b u v<=f u v+1/\f u v-1<=kD f a b u v:=by
 unfold kD bump
 split<;>split<;>constructor<;>omega
theorem mb:∀(p:List Nat) (f:Nat->Nat->Int) (u v:Nat),ma f p u v<=f u v+p.length/\f u v-p.length<=ma f p u v
 |[],f,u,v=>by simp[ma]
 |[_],f,u,v=>by simp[ma];omega
 |a::b::r,f,u,v=>by
  rw[ma]
  have h1:=mb (b::r) (kD f a b) u v
  have h2:=Hr f a b u v
  simp only[List.length_cons]at h1 ⊢
  omega
theorem nL.push {g g':Rows} {X o1 o2:Id} {R1 R2:Nat->Id} {n nb:Nat} {c f:Nat->Nat->Int} (I:Gh X o1 o2 R1 R2 n nb) (h:nL g X o1 o2 R1 R2 n c f) {a b:Nat} (ha:a<n) (hb:b<n) (qF:a≠b) (hA:g' (R2 a)=some ⟨true,1,ee (bump f a b 1 a) n⟩) (hB:g' (R2 b)=some ⟨true,1,ee (bump (bump f a b 1) b a (-1) b) n⟩) (hf:∀i:Id,i.bQ<nb->(i=R2 a)=False->(i=R2 b)=False->g' i=g i):nL g' X o1 o2 R1 R2 n c (kD f a b):=by
 have ne:∀{i:Id} {s:Nat},i.site=s->(s==245005006)=false->∀a,a<n->(i=R2 a)=False:=fun {i s} hi hs a ha=>by
  simp only[eq_iff_iff,iff_false]
  rintro rfl
  rw[I.NF a ha]at hi
  subst hi
  simp at hs
 refine⟨(hf _ I.vx (ne I.sx (by decide) _ ha) (ne I.sx (by decide) _ hb)).trans h.x,(hf _ I.v1 (ne I.s1 (by decide) _ ha) (ne I.s1 (by decide) _ hb)).trans h.t1,(hf _ I.v2 (ne I.s2 (by decide) _ ha) (ne I.s2 (by decide) _ hb)).trans h.t2,fun i hi=>(hf _ (I.TK i hi) (ne (I.TI i hi) (by decide) _ ha) (ne (I.TI i hi) (by decide) _ hb)).trans (h.r1 i hi),fun i hi=>?_⟩
 by_cases K6:i=b
 ·subst K6;exact hB
 ·by_cases OJ:i=a
  ·subst OJ
   rw[hA,kD,kb K6]
  ·rw[kD,kb K6,kb OJ,hf _ (I.QM i hi) (by simp only[eq_iff_iff,iff_false];exact fun he=>OJ (I.i2 i _ hi ha he)) (by simp only[eq_iff_iff,iff_false];exact fun he=>K6 (I.i2 i _ hi hb he))]
   exact h.r2 i hi
theorem PA (cnt:Nat) (rN:1<=cnt) (hn:cnt<=1048576) (c:Nat->Nat->Int) (hc:∀u v,u<cnt->v<cnt->0<=c u v/\c u v<=16777216) (x y:Nat) (hx:x<cnt) (hy:y<cnt) (R0:x≠y) (t:Int) (ht:t<=1099511627776)
  (X o1 o2:Id) (R1 R2:Nat->Id) (nb:Nat) (I:Gh X o1 o2 R1 R2 cnt nb) (σ:ar) (hM:nL σ.get X o1 o2 R1 R2 cnt c (fun _ _=>0)) (Tn:nb<=σ.next):
  Call Tryz.prog 246 [.ptr X 0 0,.int .i64 x,.int .i64 y,.int .i64 t] σ fun r σ'=>∃val:Int,r=.int .i64 val/\(val<t↔∃S:Nat->Bool,S x=true/\S y=false/\mc cnt S c<t)/\σ.next<=σ'.next:=by
 refine eQ eK rfl fun hl=>?_
 clear hl
 have hxS:(fun v=>decide (v=x)) x=true:=by simp
 have hyS:(fun v=>decide (v=x)) y=false:=by simp;exact fun h=>R0 h.symm
 obtain⟨top,Vv⟩:∃top,top=mc cnt (fun v=>decide (v=x)) c:=⟨_,rfl⟩
 (try((repeat(revert hN;revert N;apply Pn.out));refine wk @Nat.zero_add ?_;(repeat(refine Pn.mk ?_;intro N hN))))
 refine aZ (fun m env st=>∃(k:Nat) (f:Nat->Nat->Int),m=(top-k).toNat/\env 9=.int .i64 (k:Int)/\lD cnt c f x y k/\nL st.get X o1 o2 R1 R2 cnt c f/\σ.next<=st.next/\(0<k->(k:Int)<=t)/\∀u v,-((k:Int)*(cnt:Int))<=f u v) (top-0).toNat ⟨0,fun _ _=>0,rfl,by(simp only[go_sem, ↓reduceIte,Nat.reduceEqDiff,Nat.reduceAdd,Nat.reduceSub,Nat.reduceLeDiff,reduceCtorEq])<;>rfl,lD.zero fun u v hu hv=>(hc u v hu hv).1,hM,by(try dsimp only);omega,fun h=>absurd h (Nat.lt_irrefl 0),fun u v=>by simp⟩ ?_
 rintro m env_b st_b ⟨k,f,rfl,b9,hF,bM,bn,bk,blo⟩ bkp
 have b0:=bkp 0 (by kernel_rfl)
 have b1:=bkp 1 (by kernel_rfl)
 have b2:=bkp 2 (by kernel_rfl)
 have b3:=bkp 3 (by kernel_rfl)
 simp only[go_sem, ↓reduceIte,Nat.reduceEqDiff,Nat.reduceAdd,Nat.reduceSub,Nat.reduceLeDiff,reduceCtorEq]at b0 b1 b2 b3
 clear bkp
 have hz:dn (dR st_b.get) 6 [.ptr X 0 0,.int .i64 (x:Int),.int .i64 (y:Int)]=some [.dq (lG cnt c f),.int .i64 x,.int .i64 y]:=by simp only[ae,aj,bM.fz,aI,Option.map_some]
 (try((repeat(revert hN;revert N;apply Pn.out));refine wk (tw @b0 (tw @b1 (tw @b2 (tw @b3 @b9)))) ?_;(repeat(refine Pn.mk ?_;intro N hN))))
 refine .inr (aJ _ _ _ _ _ (fun r σ1 hq=>?_) ((Sw cnt rN hn c f x y hx hy).x mixed hz))
 obtain⟨O1,rfl⟩:=hq
 refine hN _ _ ?_
 clear hN N
 rcases O1 with⟨rfl,S,Oz,OA,S4⟩|⟨p,rfl,hW⟩
 ·(try((repeat(revert hN;revert N;apply Pn.out));refine wk (tw @b0 (tw @b1 (tw @b2 (tw @b3 (tw @b9 (tw @Bool.not_true @Bool.not_false)))))) ?_;(repeat(refine Pn.mk ?_;intro N hN))))
  refine eX (.inl rfl) (vs:=[.int .i64 (k:Int)]) (sd @Nat.zero_add) ⟨(k:Int),rfl,⟨fun h=>⟨S,Oz,OA,by rw[<-hF.full Oz OA S4];exact h⟩,fun⟨S',h1,h2,h3⟩=>by have:=hF.bound h1 h2;omega⟩,by(try dsimp only);omega⟩
 ·obtain⟨⟨rs,rfl,wJ⟩,mh,gi,hplt⟩:=hW
  by_cases LR:t<=(k:Int)
  ·(try((repeat(revert hN;revert N;apply Pn.out));refine wk (tw @b0 (tw @b1 (tw @b2 (tw @b3 (tw @b9 (tw @LR (tw @Bool.not_true @Bool.not_false))))))) ?_;(repeat(refine Pn.mk ?_;intro N hN))))
   refine eX (.inl rfl) (vs:=[.int .i64 (k:Int)]) (sd @Nat.zero_add) ⟨(k:Int),rfl,⟨fun h=>by omega,fun⟨S',h1,h2,h3⟩=>by have:=hF.bound h1 h2;omega⟩,by(try dsimp only);omega⟩
  ·(try((repeat(revert hN;revert N;apply Pn.out));refine wk (tw @b0 (tw @b1 (tw @b2 (tw @b3 (tw @b9 (tw @LR (tw @Bool.not_true @Bool.not_false))))))) ?_;(repeat(refine Pn.mk ?_;intro N hN))))
   have lS:=oR cnt _ mh hplt
   have hkc:(k:Int)*(cnt:Int)<=1099511627776*1048576:=Int.mul_le_mul (by omega) (by omega) (by omega) (by omega)
   have hfb:=hF.bound (S:=fun v=>decide (v=x)) hxS hyS
   have hnear:=mb
   obtain⟨p,hp⟩:∃p,p=x::rs:=⟨_,rfl⟩
   have hmp:eN x::List.map eN rs=p.map eN:=by rw[hp];rfl
   rw[hmp]
   have OU:1<=p.length:=by rw[hp];simp
   have Q7:=hF.aug wJ mh gi hplt
   rw[<-hp]at Q7 mh gi hplt lS
   have O7:p.take 1=[x]:=by rw[hp];rfl
   clear hmp wJ
   refine aZ (fun m env st=>∃i:Nat,m=p.length-i/\1<=i/\i<=p.length/\env 11=.int .i64 (i:Int)/\nL st.get X o1 o2 R1 R2 cnt c (ma f (p.take i))/\st_b.next<=st.next) (p.length-1) ⟨1,rfl,Nat.le_refl _,OU,by(simp only[go_sem, ↓reduceIte,Nat.reduceEqDiff,Nat.reduceAdd,Nat.reduceSub,Nat.reduceLeDiff,reduceCtorEq])<;>rfl,by rw[O7];exact bM,by(try dsimp only);omega⟩ ?_
   rintro m env_c st_c ⟨i,rfl,LO,kN,nR,cM,cn⟩ ckp
   have c0:=ckp 0 (by kernel_rfl)
   have c1:=ckp 1 (by kernel_rfl)
   have c2:=ckp 2 (by kernel_rfl)
   have c3:=ckp 3 (by kernel_rfl)
   have c9:=ckp 9 (by kernel_rfl)
   have jG:=ckp 10 (by kernel_rfl)
   simp only[go_sem, ↓reduceIte,Nat.reduceEqDiff,Nat.reduceAdd,Nat.reduceSub,Nat.reduceLeDiff,reduceCtorEq,b0,b1,b2,b3,b9]at c0 c1 c2 c3 c9 jG
   clear ckp
   have ke:(p.map eN).length=p.length:=by simp
   by_cases hi:(i:Int)<(p.length:Int)
   ·have fh:i<p.length:=by omega
    have xV:=Gl (f:=f) LO fh
    obtain⟨a,ha⟩:∃a,a=p[i-1]'(by omega):=⟨_,rfl⟩
    obtain⟨b,hb⟩:∃b,b=p[i]:=⟨_,rfl⟩
    have FA:a<cnt:=by rw[ha];exact hplt _ (List.getElem_mem _)
    have CV:b<cnt:=by rw[hb];exact hplt _ (List.getElem_mem _)
    have qF:a≠b:=by
     rw[ha,hb]
     exact List.pairwise_iff_getElem.1 mh (i-1) i (by omega) fh (by omega)
    have Rt:(p.map eN)[i-1]? =some [.int .i64 (a:Int)]:=by rw[List.getElem?_map,List.getElem?_eq_getElem (by omega),ha];rfl
    have Ru:(p.map eN)[i]? =some [.int .i64 (b:Int)]:=by rw[List.getElem?_map,List.getElem?_eq_getElem fh,hb];rfl
    rw[<-ha,<-hb]at xV
    have Vd:=mb (p.take i) f a b
    have Ve:=mb (p.take i) f b a
    rw[List.length_take]at Vd Ve
    have hl1:=blo b a
    have U6:=blo a b
    have RT:=hF.le a b FA CV
    have hu2:=hF.le b a CV FA
    have hca:=hc a b FA CV
    have FB:=hc b a CV FA
    generalize ma f (p.take i)=fl at *
    have gA:=su (R:=R2) (n:=cnt) FA
    have gB:=su (R:=R2) (n:=cnt) CV
    have rA:=cM.r2 _ FA
    have rB:=cM.r2 _ CV
    have cA:=dX (f:=fl a) CV
    have cB:=dX (f:=fl b) FA
    have sA:=oy (f:=fl) (a:=a) (d:=1) CV
    have OR:bump fl a b 1 b=fl b:=kb fun h=>qF h.symm
    have sB:=oy (f:=bump fl a b 1) (a:=b) (b:=a) (d:=-1) (n:=cnt) FA
    rw[OR]at sB
    have gX:=cM.x
    have g2:=cM.t2
    have gR:(a:Int)<(cnt:Int):=by omega
    have fX:(b:Int)<(cnt:Int):=by omega
    have TA:IntKind.i64.wrap ((i:Int)-1)=((i-1:Nat):Int):=by rw[bI (by omega)];omega
    have uW:((i-1:Nat):Int)<(p.length:Int):=by omega
    have wA:IntKind.i64.wrap (fl a b+1)=fl a b+1:=bI (by omega)
    have wB:IntKind.i64.wrap (fl b a-1)=fl b a+-1:=by rw[bI (by omega)];omega
    have RY:IntKind.i64.wrap ((i:Int)+1)=((i+1:Nat):Int):=aA (by omega)
    have l2:=km R2 cnt cnt
    have lA:=dL (fl a) cnt
    have lB:=dL (fl b) cnt
    have gP:(R2 a=R2 b)=False:=by simp only[eq_iff_iff,iff_false];exact fun h=>qF (I.i2 _ _ FA CV h)
    have Jn:(R2 b=R2 a)=False:=by simp only[eq_iff_iff,iff_false];exact fun h=>qF (I.i2 _ _ FA CV h.symm)
    have xA:=Ao I.sx (I.NF a FA) (by decide)
    have xB:=Ao I.sx (I.NF b CV) (by decide)
    have yA:=Ao I.s2 (I.NF a FA) (by decide)
    have yB:=Ao I.s2 (I.NF b CV) (by decide)
    have qX:=dr (i:=X) (n:=st_c.next) (by have:=I.vx;omega)
    have q2:=dr (i:=o2) (n:=st_c.next) (by have:=I.v2;omega)
    have qA:=dr (i:=R2 a) (n:=st_c.next) (by have:=I.QM a FA;omega)
    have qB:=dr (i:=R2 b) (n:=st_c.next) (by have:=I.QM b CV;omega)
    rw[aE]at cA cB sA sB
    (try((repeat(revert hN;revert N;apply Pn.out));refine wk (tw @c0 (tw @c9 (tw @jG (tw @nR (tw @ke (tw @hi (tw @uW (tw @Rt (tw @Ru (tw @gA (tw @gB (tw @rA (tw @rB (tw @cA (tw @cB (tw @sA (tw @sB (tw @gX (tw @g2 (tw @gR (tw @fX (tw @TA (tw @wA (tw @wB (tw @RY (tw @l2 (tw @lA (tw @lB (tw @gP (tw @Jn (tw @xA (tw @xB (tw @yA (tw @yB (tw @qX (tw @q2 (tw @qA @qB))))))))))))))))))))))))))))))))))))) ?_;(repeat(refine Pn.mk ?_;intro N hN))))
    refine⟨_,?_,i+1,rfl,by omega,by omega,sd @RY,?_,by(try dsimp only);omega⟩
    ·omega
    ·rw[xV]
     refine cM.push I FA CV qF ?_ ?_ fun j hj h1 h2=>?_
     ·simp only[go_sem, ↓reduceIte,Nat.reduceEqDiff,Nat.reduceAdd,Nat.reduceSub,Nat.reduceLeDiff,reduceCtorEq,gP]
     ·simp only[go_sem, ↓reduceIte,Nat.reduceEqDiff,Nat.reduceAdd,Nat.reduceSub,Nat.reduceLeDiff,reduceCtorEq,gP]
     ·simp only[go_sem, ↓reduceIte,Nat.reduceEqDiff,Nat.reduceAdd,Nat.reduceSub,Nat.reduceLeDiff,reduceCtorEq,h1,h2]
   ·have H0:i=p.length:=by omega
    subst H0
    rw[List.take_length]at cM
    have Pb:IntKind.i64.wrap ((k:Int)+1)=((k+1:Nat):Int):=aA (by omega)
    have US:=Q7.bound (S:=fun v=>decide (v=x)) hxS hyS
    (try((repeat(revert hN;revert N;apply Pn.out));refine wk (tw @c0 (tw @c9 (tw @jG (tw @nR (tw @ke (tw @hi @Pb)))))) ?_;(repeat(refine Pn.mk ?_;intro N hN))))
    refine⟨_,?_,k+1,_,rfl,sd @Pb,by rw[Int.natCast_add];exact Q7,cM,by(try dsimp only);omega,fun _=>by omega,fun u v=>?_⟩
    ·rw[<-Vv]at US;omega
    ·have h1:=(mb p f u v).2
     have h2:=blo u v
     rw[Int.natCast_add,Int.add_mul]
     omega
end Go.Proofs.YtgoelphibofcmaaGreat.V

namespace Go.Proofs.YtgoelphibofcmaaGreat.V
open Go.RowKit
attribute [local irreducible] dO wpOps gy Call
attribute [local go_sem] aT fK eS ga fZ dj upd cF K.av cP AV.cells AV.cell rowOf rowsOf part ld rowAt bL cD dG ef ik bV de ew fW fe dw ek dc db dU dV cj bl cU b4 cW cV ei eo ej cR cm dd eh bW aV cZ cI ij bx cK ck bd du bj dI AV.undef bH bS dW eb dQ dP cJ ev eE cH er ep cY da List.getD_cons_zero List.getD_cons_succ List.getD_nil List.all_cons List.all_nil Bool.and_true Bool.true_and Bool.and_self Bool.not_true Bool.not_false Option.map_some Option.map_none Option.bind_some Option.bind_none List.length_cons List.length_nil List.take_succ_cons List.take_zero List.take_nil List.drop_succ_cons List.drop_zero List.drop_nil List.head?_cons List.map_cons List.map_nil List.getElem?_cons_zero List.getElem?_cons_succ List.cons_append List.nil_append List.append_nil List.length_map List.set_cons_zero List.set_cons_succ Nat.reduceMul eq_self Int.toNat_natCast Int.natCast_nonneg and_self true_and and_true decide_true decide_false Bool.false_eq_true Nat.zero_add Nat.add_zero List.contains_cons List.contains_nil Bool.or_false Bool.false_or beq_self_eq_true Nat.reduceBEq ne_eq not_true_eq_false not_false_eq_true Id.mk.injEq false_and and_false Nat.reduceLT Int.reduceLE Int.reduceLT Int.reduceToNat Int.reduceNeg Int.reduceAdd Nat.le_refl List.length_append beq_true beq_false Bool.not_eq_eq_eq_not or_false false_or dR ae aj aI bq bG cC aY bh aW bp cQ bJ
noncomputable def tY (n:Nat) (bs:List PB) (t:Int):Bool:=@decide (kR n bs t) (Classical.propDecidable _)
theorem yF {n:Nat} {bs:List PB} {t:Int} (h:kR n bs t):true=tY n bs t:=by simp[tY,h]
theorem BM {n:Nat} {bs:List PB} {t:Int} (h:¬kR n bs t):false=tY n bs t:=by simp[tY,h]
theorem LV (cnt:Nat) (hn:cnt<=1048576) (bs:List PB) (hb:∀b∈bs,b.a<cnt/\b.b<cnt) (dK:∀b∈bs,0<=b.s/\b.s<=4) (qe:bs.length<=1048576) (t:Int) (ht:t<=1099511627776):
  aq Tryz.prog 223 [.int .i64 cnt,.sl (bs.map aB),.int .i64 t] (.bool (tY cnt bs t)):=by
 refine aq.body eK rfl fun hl n0=>?_
 clear hl
 have qH:=Ah bs (fun _ _=>0) (fun b h=>(dK b h).1) (fun _ _=>Int.le_refl _)
 have hle:=room_le bs (fun _ _=>0) 0 (fun b h=>(dK b h).2) (fun _ _=>Int.le_refl _) (Int.le_refl _)
 have gi:bs.foldl nP (fun _ _=>0)=lg bs:=rfl
 rw[gi]at qH hle
 (try((repeat(revert hN;revert N;apply Pn.out));refine wk @Nat.zero_add ?_;(repeat(refine Pn.mk ?_;intro N hN))))
 refine aZ (fun m env st=>∃y:Nat,m=cnt+1-y/\1<=y/\env 7=.int .i64 (y:Int)/\y<=cnt+1/\∀z,1<=z->z<y->z<cnt->∀S:Nat->Bool,S 0=true->S z=false->t<=jj S bs) (cnt+1-1) ⟨1,rfl,Nat.le_refl _,by(simp only[go_sem, ↓reduceIte,Nat.reduceEqDiff,Nat.reduceAdd,Nat.reduceSub,Nat.reduceLeDiff,reduceCtorEq])<;>rfl,by omega,fun z h1 h2=>by omega⟩ ?_
 rintro m env_b st_b ⟨y,rfl,TC,b7,hyl,dC⟩ bkp
 have b0:=bkp 0 (by kernel_rfl)
 have b1:=bkp 1 (by kernel_rfl)
 have b2:=bkp 2 (by kernel_rfl)
 simp only[go_sem, ↓reduceIte,Nat.reduceEqDiff,Nat.reduceAdd,Nat.reduceSub,Nat.reduceLeDiff,reduceCtorEq]at b0 b1 b2
 clear bkp
 by_cases hy:(y:Int)<(cnt:Int)
 ·have hyn:y<cnt:=by omega
  (try((repeat(revert hN;revert N;apply Pn.out));refine wk (tw @b0 (tw @b1 (tw @b2 (tw @b7 @hy)))) ?_;(repeat(refine Pn.mk ?_;intro N hN))))
  refine .inr (aJ _ _ _ _ _ (fun r σ1 hq=>?_) (Co cnt (by omega) hn bs hb dK qe _))
  obtain⟨X,o1,o2,R1,R2,rfl,I,GO,hM,_⟩:=hq
  refine hN _ _ ?_
  clear hN N
  (try((repeat(revert hN;revert N;apply Pn.out));refine wk (tw @b0 (tw @b1 (tw @b2 @b7))) ?_;(repeat(refine Pn.mk ?_;intro N hN))))
  have RM:=PA cnt (by omega) hn (lg bs) (fun u v _ _=>⟨qH u v,by have:=hle u v;omega⟩) 0 y (by omega) hyn (by omega) t ht X o1 o2 R1 R2 σ1.next I
  refine .inr (aJ _ _ _ _ _ (fun r σ2 hq=>?_) (RM _ hM (by(try dsimp only);omega)))
  obtain⟨val,rfl,tb,nh⟩:=hq
  refine hN _ _ ?_
  clear hN N
  by_cases dZ:val<t
  ·(try((repeat(revert hN;revert N;apply Pn.out));refine wk (tw @b0 (tw @b1 (tw @b2 (tw @b7 @dZ)))) ?_;(repeat(refine Pn.mk ?_;intro N hN))))
   obtain⟨S,h1,h2,h3⟩:=tb.1 dZ
   rw[Bi hb]at h3
   exact bc (b:=false) (.inl rfl) (sd @Nat.zero_add) (BM fun h=>by have:=h S h1 ⟨y,hyn,h2⟩;omega)
  ·have hw:IntKind.i64.wrap ((y:Int)+1)=((y+1:Nat):Int):=aA (by omega)
   (try((repeat(revert hN;revert N;apply Pn.out));refine wk (tw @b0 (tw @b1 (tw @b2 (tw @b7 (tw @dZ @hw))))) ?_;(repeat(refine Pn.mk ?_;intro N hN))))
   refine⟨_,?_,y+1,rfl,by omega,sd (tw @b7 @hw),by omega,fun z h1 h2 h3 S Oz OA=>?_⟩
   ·omega
   ·by_cases hzy:z=y
    ·subst hzy
     rcases Int.lt_or_le (jj S bs) t with h|h
     ·exact absurd (tb.2 ⟨S,Oz,OA,by rw[Bi hb];exact h⟩) dZ
     ·exact h
    ·exact dC z h1 (by omega) h3 S Oz OA
 ·(try((repeat(revert hN;revert N;apply Pn.out));refine wk (tw @b0 (tw @b1 (tw @b2 (tw @b7 @hy)))) ?_;(repeat(refine Pn.mk ?_;intro N hN))))
  exact bc (b:=true) (.inl rfl) (sd @Nat.zero_add) (yF fun S h0 ⟨z,hz,hzf⟩=>by
   have:z≠0:=by rintro rfl;rw[h0]at hzf;cases hzf
   exact dC z (by omega) (by omega) hz S h0 hzf)
theorem Jo (cnt:Nat) (hn:cnt<=1048576) (bs:List PB) (hb:∀b∈bs,b.a<cnt/\b.b<cnt) (dK:∀b∈bs,0<=b.s/\b.s<=4) (qe:bs.length<=1048576) (t:Int) (ht:t<=1099511627776):
  aq Tryz.prog 223 [.int .i64 cnt,Al bs,.int .i64 t] (.bool (tY cnt bs t)):=by
 have h:=LV cnt hn bs hb dK qe t ht
 cases bs with
 |nil=>exact h.cut mixed (.same _ (.bE (.same _ .nil)))
 |cons b r=>rw[Am (by simp)];exact h
end Go.Proofs.YtgoelphibofcmaaGreat.V

namespace Go.Proofs.YtgoelphibofcmaaGreat.V
open Go.RowKit
attribute [local irreducible] dO wpOps gy Call
attribute [local go_sem] aT fK eS ga fZ dj upd cF K.av cP AV.cells AV.cell rowOf rowsOf part ld rowAt bL cD dG ef ik bV de ew fW fe dw ek dc db dU dV cj bl cU b4 cW cV ei eo ej cR cm dd eh bW aV cZ cI ij bx cK ck bd du bj dI AV.undef bH bS dW eb dQ dP cJ ev eE cH er ep cY da List.getD_cons_zero List.getD_cons_succ List.getD_nil List.all_cons List.all_nil Bool.and_true Bool.true_and Bool.and_self Bool.not_true Bool.not_false Option.map_some Option.map_none Option.bind_some Option.bind_none List.length_cons List.length_nil List.take_succ_cons List.take_zero List.take_nil List.drop_succ_cons List.drop_zero List.drop_nil List.head?_cons List.map_cons List.map_nil List.getElem?_cons_zero List.getElem?_cons_succ List.cons_append List.nil_append List.append_nil List.length_map List.set_cons_zero List.set_cons_succ Nat.reduceMul eq_self Int.toNat_natCast Int.natCast_nonneg and_self true_and and_true decide_true decide_false Bool.false_eq_true Nat.zero_add Nat.add_zero List.contains_cons List.contains_nil Bool.or_false Bool.false_or beq_self_eq_true Nat.reduceBEq ne_eq not_true_eq_false not_false_eq_true Id.mk.injEq false_and and_false Nat.reduceLT Int.reduceLE Int.reduceLT Int.reduceToNat Int.reduceNeg Int.reduceAdd Nat.le_refl List.length_append beq_true beq_false Bool.not_eq_eq_eq_not or_false false_or dR ae aj aI bq bG cC aY bh aW bp cQ bJ
def C6:Prop:=∀(s:aw) (l:List ad),iy s->lu s l->aq Tryz.prog 222 [.agg (ab s),.agg [.sl (l.map aa)]] (Al (dh s l))
noncomputable def uZ (s:aw) (l:List ad) (t:Int):Bool:=if 64<iE s l t then false else tY (iE s l t) (dB (eJ (aU t (dh s l))) (dh s l)) t
theorem Eg (s:aw) (l:List ad) (t:Int):uZ s l t=nJ s l t:=by
 letI:=Classical.propDecidable (po l.length (dh s l) t)
 unfold uZ
 by_cases h:64<iE s l t
 ·rw[if_pos h]
  exact(mD (p:=False) ⟨False.elim,fun k=>by have:=k.1;unfold iE at h;omega⟩).symm.trans (by simp) |>.symm
 ·rw[if_neg h]
  by_cases hp:kR (iE s l t) (dB (eJ (aU t (dh s l))) (dh s l)) t
  ·rw[<-yF hp]
   exact((mD (p:=True) ⟨fun _=>⟨by unfold iE at h;omega,hp⟩,fun _=>trivial⟩).symm.trans (by simp)).symm
  ·rw[<-BM hp]
   exact((mD (p:=False) ⟨False.elim,fun k=>hp k.2⟩).symm.trans (by simp)).symm
theorem Ks (Uh:C6) (s:aw) (l:List ad) (t:Int) (ht:t<=1099511627776) (h1:1<=l.length) (hS:iy s) (hA:lu s l):aq Tryz.prog 197 [.agg (ab s),.agg [.sl (l.map aa)],.int .i64 t] (.gE [.bool (nJ s l t),.bool (decide ¬64<iE s l t)]):=by
 rw[<-Eg]
 refine aq.body eK rfl fun hl n0=>?_
 clear hl
 have hb:=yj (l:=l) hS
 have qe:=ql (s:=s) hA.1
 have OF:=hA.1.xx
 have rK:=Uh s l hS hA
 have Rm:=zC l.length h1 (by omega) (dh s l) (fun b h=>⟨(hb b h).1,(hb b h).2.1⟩) (by omega) t
 have hL:=uc (aU t (dh s l))
 have fh:=EN hL (fun b h=>⟨(hb b h).1,(hb b h).2.1⟩)
 have hlen:=(nr (eJ (aU t (dh s l))) (dh s l)).1
 have nf:=jU l.length (eJ (aU t (dh s l)))
 have hho:=Jo (iE s l t) (by unfold iE;omega) (dB (eJ (aU t (dh s l))) (dh s l)) (fun b h=>⟨(fh b h).1,(fh b h).2.1⟩) (fun b h=>by
  obtain⟨_,_,_,c,hc,dy⟩:=fh b h
  rw[dy];have:=hb c hc;omega) (by omega) t ht
 have fY:(l.map aa).length=l.length:=by simp
 have hzB:∀(g:Rows) (n:Nat) (bs:List PB),V.fz g (n+1) (Al bs)=some (Al bs):=fun g n bs=>by
  unfold Al;split
  ·exact aY _ _
  ·exact cC _ _ _
 rw[ab]at rK
 rw[<-iE]at Rm
 have yI:∀(g:Rows) (x:Int),dn (dR g) 6 [.int .i64 l.length,Al (dh s l),.int .i64 x]=some [.int .i64 l.length,Al (dh s l),.int .i64 x]:=fun g x=>by simp only[ae,aj,aI,hzB,Option.map_some]
 have hzh:∀(g:Rows) (x y:Int),dn (dR g) 6 [.int .i64 x,Al (dB (eJ (aU t (dh s l))) (dh s l)),.int .i64 y]=some [.int .i64 x,Al (dB (eJ (aU t (dh s l))) (dh s l)),.int .i64 y]:=fun g x y=>by simp only[ae,aj,aI,hzB,Option.map_some]
 generalize Al (dh s l)=B1 at *
 generalize Al (dB (eJ (aU t (dh s l))) (dh s l))=B2 at *
 by_cases uz:(64:Int)<(iE s l t:Int)
 ·have uA:64<iE s l t:=by omega
  (repeat(first|((repeat(revert hN;revert N;apply Pn.out));refine wk (tw @ab.eq_1 (tw @uz @fY)) ?_;(repeat(refine Pn.mk ?_;intro N hN)))|((try apply Or.inl);refine⟨_,aq.x (rK) (sd (tw @ab.eq_1 (tw @uz @fY))),?_⟩;refine hN _ _ ?_;clear hN N)))
  refine⟨_,aq.x Rm (yI _ _),?_⟩
  refine hN _ _ ?_
  clear hN N
  (try((repeat(revert hN;revert N;apply Pn.out));refine wk @uz ?_;(repeat(refine Pn.mk ?_;intro N hN))))
  exact jD (.inl rfl) (r1:=.bool false) (r2:=.bool false) (sd @Nat.zero_add) (sd @Nat.zero_add) (by rw[uZ,if_pos uA,decide_eq_false fun h=>h uA];simp only[eU,bw,cr,fR,Option.map_some])
 ·have uA:¬64<iE s l t:=by omega
  (repeat(first|((repeat(revert hN;revert N;apply Pn.out));refine wk (tw @ab.eq_1 (tw @uz @fY)) ?_;(repeat(refine Pn.mk ?_;intro N hN)))|((try apply Or.inl);refine⟨_,aq.x (rK) (sd (tw @ab.eq_1 (tw @uz @fY))),?_⟩;refine hN _ _ ?_;clear hN N)))
  refine⟨_,aq.x Rm (yI _ _),?_⟩
  refine hN _ _ ?_
  clear hN N
  (try((repeat(revert hN;revert N;apply Pn.out));refine wk @uz ?_;(repeat(refine Pn.mk ?_;intro N hN))))
  refine .inl ⟨_,aq.x hho (hzh _ _ _),?_⟩
  refine hN _ _ ?_
  clear hN N
  (try((repeat(revert hN;revert N;apply Pn.out));refine wk @Nat.zero_add ?_;(repeat(refine Pn.mk ?_;intro N hN))))
  exact jD (.inl rfl) (r1:=.bool (tY (iE s l t) (dB (eJ (aU t (dh s l))) (dh s l)) t)) (r2:=.bool true) (sd @Nat.zero_add) (sd @Nat.zero_add) (by rw[uZ,if_neg uA,decide_eq_true uA];simp only[eU,bw,cr,fR,Option.map_some])
theorem uF (t:Int):aq Tryz.prog 196 [.int .i64 t] (.bool (jc t 1 16)):=by
 refine aq.body eK rfl fun hl n0=>?_
 clear hl
 have h:=ll t 1 16
 (repeat(first|((repeat(revert hN;revert N;apply Pn.out));refine wk @Nat.zero_add ?_;(repeat(refine Pn.mk ?_;intro N hN)))|((try apply Or.inl);refine⟨_,aq.x (h) (sd @Nat.zero_add),?_⟩;refine hN _ _ ?_;clear hN N)))
 exact bc (b:=jc t 1 16) (.inl rfl) (sd @Nat.zero_add) rfl
theorem xH (Uh:C6) (s:az) (hn:gn s.aH) (hg:s.aH.ax.length<=1048576) (ht:s.aH.ai.length<=1048576) (hs:∀t∈s.aH.ai,t.bD.length<=1048576) (hl:s.bf.ai.length<=1048576):aq Tryz.prog 105 [.agg (au s)] (.bool (nu s)):=by
 refine aq.body eK rfl fun kd n0=>?_
 clear kd
 by_cases h0:(s.bf.ai.length:Int)=0
 ·have hd:decide ((s.bf.ai.length:Int)=0)=true:=decide_eq_true h0
  (try((repeat(revert hN;revert N;apply Pn.out));refine wk (tw @au.eq_1 @hd) ?_;(repeat(refine Pn.mk ?_;intro N hN))))
  exact bc (b:=false) (.inl rfl) (sd @Nat.zero_add) (j7 fun h=>by have:=h.some;omega)
 have hd:decide ((s.bf.ai.length:Int)=0)=false:=decide_eq_false h0
 have OB:=uq s.aH s.bf.ai hn hg ht hs hl
 have Rc:=uF s.ay
 have key:aq Tryz.prog 163 [.agg (ab s.aH),.agg [.sl (s.bf.ai.map aa)],.int .i64 s.ay] (.gE [.bool (nu s),.int .i64 (if sj s.aH&&sQ s.aH s.bf.ai then(if jc s.ay 1 16 then(if 64<iE s.aH s.bf.ai s.ay then 4 else 0)else 2)else 1)]):=by
  refine aq.body eK rfl fun kd n0=>?_
  clear kd
  rw[ab]at OB
  cases hA:sj s.aH&&sQ s.aH s.bf.ai
  ·rw[hA]at OB
   have kg:nu s=false:=(j7 fun h=>by rw[pb.2 h.set,ox.2 h.x9]at hA;cases hA).symm
   (repeat(first|((repeat(revert hN;revert N;apply Pn.out));refine wk @ab.eq_1 ?_;(repeat(refine Pn.mk ?_;intro N hN)))|((try apply Or.inl);refine⟨_,aq.x (OB) (sd @ab.eq_1),?_⟩;refine hN _ _ ?_;clear hN N)))
   exact jD (.inl rfl) (r1:=.bool false) (r2:=.int .i64 1) (sd @Nat.zero_add) (sd @Nat.zero_add) (by rw[kg];simp only[eU,bw,cr,fR,eu,Option.map_some];rfl)
  rw[hA]at OB
  simp only[Bool.and_eq_true]at hA
  have hS:=pb.1 hA.1
  have hP:=ox.1 hA.2
  cases hT:jc s.ay 1 16
  ·rw[hT]at Rc
   have kg:nu s=false:=(j7 fun h=>by have:=h.PK;rw[hT]at this;cases this).symm
   (repeat(first|((repeat(revert hN;revert N;apply Pn.out));refine wk @ab.eq_1 ?_;(repeat(refine Pn.mk ?_;intro N hN)))|((try apply Or.inl);refine⟨_,aq.x (OB) (sd @ab.eq_1),?_⟩;refine hN _ _ ?_;clear hN N)|((try apply Or.inl);refine⟨_,aq.x (Rc) (sd @ab.eq_1),?_⟩;refine hN _ _ ?_;clear hN N)))
   exact jD (.inl rfl) (r1:=.bool false) (r2:=.int .i64 2) (sd @Nat.zero_add) (sd @Nat.zero_add) (by rw[kg];simp only[eU,bw,cr,fR,eu,Option.map_some];rfl)
  have Eb:=eI hT
  rw[hT]at Rc
  have dK:=Ks Uh s.aH s.bf.ai s.ay (by omega) (by omega) hS hP
  rw[ab]at dK
  have hsy:nu s=nJ s.aH s.bf.ai s.ay:=by
   cases hB:nJ s.aH s.bf.ai s.ay
   ·exact(j7 fun h=>by have:=pM.2 h.holds;rw[hB]at this;cases this).symm
   ·exact(CF ⟨hS,hP,by omega,hT,pM.1 hB⟩).symm
  by_cases uz:64<iE s.aH s.bf.ai s.ay
  ·rw[decide_eq_false fun h=>h uz]at dK
   have kg:nu s=false:=(j7 fun h=>by have:=h.holds.1;unfold iE at uz;omega).symm
   (repeat(first|((repeat(revert hN;revert N;apply Pn.out));refine wk @ab.eq_1 ?_;(repeat(refine Pn.mk ?_;intro N hN)))|((try apply Or.inl);refine⟨_,aq.x (OB) (sd @ab.eq_1),?_⟩;refine hN _ _ ?_;clear hN N)|((try apply Or.inl);refine⟨_,aq.x (Rc) (sd @ab.eq_1),?_⟩;refine hN _ _ ?_;clear hN N)|((try apply Or.inl);refine⟨_,aq.x (dK) (sd @ab.eq_1),?_⟩;refine hN _ _ ?_;clear hN N)))
   exact jD (.inl rfl) (r1:=.bool false) (r2:=.int .i64 4) (sd @Nat.zero_add) (sd @Nat.zero_add) (by rw[kg,if_pos uz];simp only[eU,bw,cr,fR,eu,Option.map_some])
  ·rw[decide_eq_true uz,<-hsy]at dK
   (repeat(first|((repeat(revert hN;revert N;apply Pn.out));refine wk @ab.eq_1 ?_;(repeat(refine Pn.mk ?_;intro N hN)))|((try apply Or.inl);refine⟨_,aq.x (OB) (sd @ab.eq_1),?_⟩;refine hN _ _ ?_;clear hN N)|((try apply Or.inl);refine⟨_,aq.x (Rc) (sd @ab.eq_1),?_⟩;refine hN _ _ ?_;clear hN N)|((try apply Or.inl);refine⟨_,aq.x (dK) (sd @ab.eq_1),?_⟩;refine hN _ _ ?_;clear hN N)))
   exact jD (.inl rfl) (r1:=.bool (nu s)) (r2:=.int .i64 0) (sd @Nat.zero_add) (sd @Nat.zero_add) (by rw[if_neg uz];simp only[eU,bw,cr,fR,eu,Option.map_some])
 generalize hcode:(if sj s.aH&&sQ s.aH s.bf.ai then(if jc s.ay 1 16 then(if 64<iE s.aH s.bf.ai s.ay then(4:Int)else 0)else 2)else 1)=code at key
 rw[ab]at key
 cases hB:nu s
 ·rw[hB]at key
  (repeat(first|((repeat(revert hN;revert N;apply Pn.out));refine wk (tw @au.eq_1 @hd) ?_;(repeat(refine Pn.mk ?_;intro N hN)))|((try apply Or.inl);refine⟨_,aq.x (key) (sd (tw @au.eq_1 @hd)),?_⟩;refine hN _ _ ?_;clear hN N)))
  exact bc (b:=false) (.inl rfl) (sd @Nat.zero_add) rfl
 ·rw[hB]at key
  have hP:=sr.1 hB
  have hc:code=0:=by
   rw[<-hcode,pb.2 hP.set,ox.2 hP.x9,hP.PK]
   have:=hP.holds.1
   simp only[Bool.and_self,if_true]
   rw[if_neg (by unfold iE;omega)]
  rw[hc]at key
  (repeat(first|((repeat(revert hN;revert N;apply Pn.out));refine wk (tw @au.eq_1 @hd) ?_;(repeat(refine Pn.mk ?_;intro N hN)))|((try apply Or.inl);refine⟨_,aq.x (key) (sd (tw @au.eq_1 @hd)),?_⟩;refine hN _ _ ?_;clear hN N)))
  exact bc (b:=true) (.inl rfl) (sd @Nat.zero_add) rfl
end Go.Proofs.YtgoelphibofcmaaGreat.V

namespace Go.Proofs.YtgoelphibofcmaaGreat.V
open Go.RowKit
variable {P:Program} {hs:Nat}
theorem HT {q n i:Nat} {ops:Array Oper} {Q:Exit->Act->World->Prop} {K K':Act->World->Prop} {a:Act} {w:World} (mh:∀(j:Nat) (o:Oper),ops[j]? =some o->∀c,o.op≠.defer c) (kg:¬LetsOut Q) (hK:∀a w,K a w->K' a w) (h:wpOp P ops Q i K a w):wpOpIn (Fence.wide.inRound q) n P ops Q i K' a w:=by
 unfold wpOp at h
 unfold wpOpIn
 split at h
 ·rename_i ho;simp only[ho];exact hK _ _ h
 ·rename_i o ho
  simp only[ho]
  split at h
  ·rename_i hw
   rw[if_pos hw]
   replace h:=h.resolve_right fun hc=>kg hc.2
   refine⟨fun _ _=>trivial,?_⟩
   rw[Oper.semAt_eq _ _ _ (mh i o ho)]
   unfold Oper.wp at h
   generalize (execOp a.eval o).run P w=r at *
   cases r with
   |ok m w'=>
    cases m<;>simp only[Oper.upon,Oper.uponIn]at h ⊢
    case value=>exact hK _ _ h
    case skip=>exact hK _ _ h
    case defer=>exact hK _ _ h
    case enter f args=>
     refine⟨fun h=>by simp[Fence.wide]at h,CallsIn.inRound q (callsIn_wide.2 (h.mono fun e Lf he=>?_))⟩
     cases e with
     |returned v=>exact hK _ _ he
     |panicked c=>exact he
     |outgrown=>exact he
    case row r args=>exact⟨fun h=>by simp[Fence.wide]at h,fun c cs _=>let ⟨v,Lf,h1,s⟩:=h c cs;⟨v,Lf,hK _ _ h1,stepsIn_wide.2 s⟩⟩
   |halt x w'=>cases x<;>simp only[Oper.upon,Oper.uponIn]at h ⊢;exact h
  ·rename_i hw
   rw[if_neg hw]
   exact⟨fun _ _=>trivial,hK _ _ h⟩
theorem xw {q n:Nat} {md:Region.Mode} {ops:Array Oper} {Q:Exit->Act->World->Prop} (mh:∀(j:Nat) (o:Oper),ops[j]? =some o->∀c,o.op≠.defer c) (kg:¬LetsOut Q):∀(fuel:Nat) (listed:Array Bool) (a:Act) (w:World),wpAny P md ops Q fuel listed a w->wpAnyIn (Fence.wide.inRound q) n P md ops Q fuel listed a w
 |0,_,_,_,h=>h
 |fuel+1,listed,_,_,h=>⟨h.1,fun i hi=>HT mh kg (fun a w=>xw mh kg fuel _ a w) (h.2 i hi)⟩
def FR:Op->Bool
 | .defer _=>true
 |_=>false
theorem JY {ops:Array Oper} (h:(ops.all fun o=> !FR o.op)=true):∀(j:Nat) (o:Oper),ops[j]? =some o->∀c,o.op≠.defer c:=fun j o hj c hc=>by
 have:=Array.all_eq_true_iff_forall_mem.1 h o (Array.mem_of_getElem? hj)
 rw[hc]at this
 simp[FR]at this
theorem Ae (hm:P.follows .mixedOrders=true) {nt site0 id q n:Nat} {ops:Array Oper} {vl:List br} (h:rE P nt site0 ops true false=some vl) (mh:∀(j:Nat) (o:Oper),ops[j]? =some o->∀c,o.op≠.defer c)
  {K:Env->ar->Prop} {env:Env} {σ:ar} {a:Act} {w:World} {D:Nat->Prop} {ι:Names} {Q:Exit->Act->World->Prop} (hv:wpOps (Sound P) true vl K env σ) (dK:St P hs nt D ι env σ a w)
  (hK:∀iM σ' a' w' D' ι',K iM σ'->Step hs D ι w D' ι' w'->St P hs nt D' ι' iM σ' a' w'->a'.defers=a.defers->Q .normal a' w'):(Code.region id ops true).wpIn (Fence.wide.inRound q) n P Q a w:=by
 have dC:∃hidden tH,allM (kT P ops nt site0 true false (jI ops) hidden) ops.toList 0=some tH/\vl=tH/\oG ops tH (jI ops)=true:=by
  unfold rE at h
  simp only[if_true,Bool.not_true,Bool.false_or]at h
  split at h
  ·rename_i tH h'
   split at h
   ·rename_i wK;simp at h;exact⟨_,tH,h',h.symm,wK⟩
   ·cases h
  ·cases h
 obtain⟨hidden,tH,dC,rfl,wK⟩:=dC
 obtain⟨rO,T0⟩:=dK.drew
 obtain⟨hlen,_⟩:=ou dC
 have kW:vl.length=ops.size:=by rw[hlen];simp
 have DM:=xt (X:=Sound P) (K:=K) (n:=σ.next) wK kW vl 0 (Array.replicate ops.size false) env σ.get (by simp) (by simp) (fun i hi=>by simp[hi]) (by simp[kW]) (fun k i h=>by
  exfalso
  rcases Nat.lt_or_ge k ops.size with hk|hk
  ·simp[hk]at h
  ·simp[Nat.not_lt.2 hk]at h) hv
 rw[kW]at DM
 have hw:=yf (Q:=fun e a w=>e=.normal/\Q .normal a w) dC ops.size _ env σ.get a w.drew D ι (fun _=>False) DM rO.tz rO.used (fun _ h=>h.elim) rO.env rO.size fun jk g1 a1 w1 D1 ι1 U1 hk T S1 TZ E1 AQ hd=>⟨rfl,hK jk ⟨g1,σ.next+1⟩ a1 w1 D1 ι1 hk (T0.trans T) ⟨S1,TZ.next,E1,AQ⟩ hd⟩
 have fh:=xw (q:=q) (n:=n) (Q:=fun e a w=>e=.normal/\Q .normal a w) mh (by rintro⟨_,_,hc,_⟩;cases hc) ops.size _ a w.drew hw
 refine wpIn_mono (wpIn_region_any (id:=id) hm fh) ?_
 rintro e a w ⟨rfl,h⟩
 exact h
end Go.Proofs.YtgoelphibofcmaaGreat.V

namespace Go.Proofs.YtgoelphibofcmaaGreat.V
open Go.RowKit Go.Shelf
attribute [local go_sem] Oper.semAt_some
def iA (n₀:Nat) (W W':World):Prop:=W.heap.size<=W'.heap.size/\(∀(b:Nat) (cells:Array Value) (T:TypeId) (fr:Nat×Nat),W.heap[b]? =some (Obj.cells cells T fr)->T≠226->T≠246->W'.heap[b]? =W.heap[b]?)/\∀k,k<n₀->k<W.heap.size->W'.heap[k]? =W.heap[k]?
theorem iA.trans {n₀:Nat} {A B C:World} (h:iA n₀ A B) (k:iA n₀ B C):iA n₀ A C:=⟨Nat.le_trans h.1 k.1,fun b cells T fr hb h1 h2=>by
 have e:=h.2.1 b cells T fr hb h1 h2
 rw[<-e]at hb ⊢
 exact k.2.1 b cells T fr hb h1 h2,fun b hb hs=>(k.2.2 b hb (Nat.lt_of_lt_of_le hs h.1)).trans (h.2.2 b hb hs)⟩
theorem iA.of {n₀:Nat} {W W':World} (h:Below W.heap.size W W'):iA n₀ W W':=⟨h.size,fun b cells T fr hb _ _=>h.block b (Array.getElem?_eq_some_iff.1 hb).1,fun k _ hs=>h.block k hs⟩
theorem iA.refl (n₀:Nat) (W:World):iA n₀ W W:=⟨Nat.le_refl _,fun _ _ _ _ _ _ _=>rfl,fun _ _ _=>rfl⟩
theorem iA.b {n₀ m:Nat} (hm:n₀<=m) (W:World) (l:Nat) (o o':Obj) (hl:m<=l) (h:W.heap[l]? =some o) (hc:o.isCells=false) (_:o.isWalk=false):iA n₀ W (W.putObj l o'):=by
 refine⟨by simp,fun b cells T fr hb _ _=>?_,fun k hk _=>World.putObj_heap_other (by omega)⟩
 by_cases qe:b=l
 ·subst qe;rw[h]at hb;cases hb;cases hc
 ·exact World.putObj_heap_other qe
def Lp (bs:List PB):List Value:=bs.flatMap fun b=>[.int .i64 b.a,.int .i64 b.b,.int .i64 b.s]
theorem ID (bs:List PB) (b:PB):Lp (bs++[b])=Lp bs++[.int .i64 b.a,.int .i64 b.b,.int .i64 b.s]:=by simp[Lp]
def nQ (s:aw) (l:List ad) (pre:List (NO l)):List PB:=(pre.map (·.1)).flatMap (zw s l)
theorem yi (s:aw) (l:List ad) (pre:List (NO l)) (x:NO l):nQ s l (pre++[x])=nQ s l pre++zw s l x.1:=by simp[nQ]
theorem IC (s:aw) (l:List ad) (x:Nat×Nat×Int):(zw s l x).length<=1:=by
 unfold zw;split<;>simp
theorem IE (s:aw) (l:List ad) (pre:List (NO l)):(nQ s l pre).length<=pre.length:=by
 unfold nQ
 induction pre with
 |nil=>simp
 |cons x r ih=>
  have:=IC s l x.1
  simp only[List.map_cons,List.flatMap_cons,List.length_append,List.length_cons]at ih ⊢
  omega
theorem yU (l:List ad) (i:Nat):∀m,(k7 l i m).length<=m
 |0=>by simp[k7]
 |m+1=>by
  rw[np,List.length_append]
  have:=yU l i m
  have:(Cm l i (1-(m:Int))).length<=1:=by unfold Cm;split<;>simp
  omega
theorem Cn (l:List ad):∀n,(ly l n).length<=n*2
 |0=>by simp[ly]
 |n+1=>by
  rw[mm,List.length_append]
  have:=Cn l n
  have:=yU l n 2
  omega
theorem BE {β:Type} (B:Nat) (c:Array Value) (t:TypeId) (fr:Nat×Nat):Own (fun(_:β) W=>W.heap[B]? =some (.cells c t fr)):=fun _ X _ row h hg hr=>(hg.block B (Array.getElem?_eq_some_iff.1 h).1 (fun e=>by
 obtain⟨o,ho,hc⟩:=hr B e.symm
 rw[h]at ho;cases ho;cases hc)).trans h
theorem iA.app {n₀:Nat} {W w1:World} {B k:Nat} {v v':Value} {xs:List Value} {tmp:Obj} (hv:Boxed W B 226 v) (fY:W.ownsRow n₀ 246 3 v k xs) (FD:(W.alloc tmp).grownBy w1 v.ownBlock) (hb:Below n₀ W (w1.setCell ⟨B,0,none⟩ v')):iA n₀ W (w1.setCell ⟨B,0,none⟩ v'):=by
 refine⟨hb.size,fun b cells T fr h h1 h2=>?_,fun k hk _=>hb.block k hk⟩
 have dZ:=(Array.getElem?_eq_some_iff.1 h).1
 have hbB:b≠B:=by
  rintro rfl
  rw[show W.heap[b]? = _ from hv]at h
  cases h
  exact h1 rfl
 have S8:some b≠v.ownBlock:=by
  rcases fY.2 with⟨rfl,_⟩|⟨g,cap,cur,rfl,_,hg,_⟩
  ·simp[Value.ownBlock]
  ·intro e
   obtain rfl:b=g:=by simpa[Value.ownBlock]using e
   rw[hg]at h;cases h
   exact h2 rfl
 refine(Below.heap_setCell w1 ⟨B,0,none⟩ v' b hbB).trans ?_
 exact(FD.block b (by simp;omega) S8).trans (Below.heap_alloc W tmp b dZ)
theorem R8 {w:World} {vS:Value} {l:List ad} (hP:pQ w vS l):Il (iA w.heap.size) vS l where
 refl:=iA.refl _
 trans:=iA.trans
 of:=iA.of
 size h:=h.1
 typed h:=h.2.1
 pl {W W'} h hp:=by
  obtain⟨A,c,rfl,hm,hc⟩:=hp.sl
  refine⟨A,c,rfl,hm,?_⟩
  by_cases hl:l=[]
  ·exact .inl hl
  have kz:0<l.length:=List.length_pos_iff.2 hl
  rcases hc with h0|⟨b,o,rfl,kC⟩
  ·exact absurd h0 hl
  obtain⟨A',c',e,_,kV⟩:=hP.sl
  cases e
  rcases kV with h0|⟨b',o',e,hcell'⟩
  ·exact absurd h0 hl
  cases e
  have hb:=uL (hcell' 0 kz).1
  have hk:=h.2.2 b hb (uL (kC 0 kz).1)
  refine .inr ⟨b,o,rfl,fun i hi=>?_⟩
  have zL:∀x,W'.cell? ⟨b,x,none⟩=W.cell? ⟨b,x,none⟩:=fun x=>World.cell?_of_block hk
  rw[zL,zL,zL]
  exact kC i hi
theorem rrE {P:Program} {nt site0:Nat} {ops:Array Oper} {vl:List br} (_:zy P ops site0 false (jI ops) (rX P false ops.toList 0) ops.toList 0=some vl:=by(conv=>lhs;cbv)<;>exact rfl) (h:rE P nt site0 ops true false=some vl:=by kernel_rfl):rE P nt site0 ops true false=some vl:=h
theorem JM (l:List Value) (d:Value):l=(List.range l.length).map fun i=>(⟨l⟩:Array Value).getD i d:=by
 refine List.ext_getElem (by simp) fun i h1 h2=>?_
 simp[h1]
theorem EB {X:fP} {d:Bool} {ops:List br} {K:Env->ar->Prop} {env:Env} {σ:ar} (h:dO X (.eO d ops) (fun _=>K) env σ):wpOps X d ops K env σ:=h
theorem v8 (W:World) (T:TypeId) (x y z:Value):∀(j:Nat) (u:Value),[x,y,z][j]? =some u->(W.alloc (.cells #[x,y,z] T)).cell? ((⟨W.heap.size,0,none⟩:Addr).add j)=some u:=fun j u h=>by
 have hb:(W.alloc (.cells #[x,y,z] T)).heap[W.heap.size]? =some (.cells #[x,y,z] T (0,0)):=World.alloc_heap_new _ _
 have e:∀k,(W.alloc (.cells #[x,y,z] T)).cell? ⟨W.heap.size,k,none⟩=(#[x,y,z]:Array Value)[k]? :=fun k=>by
  unfold World.cell?
  rw[show(W.alloc (.cells #[x,y,z] T)).heap[(⟨W.heap.size,k,none⟩:Addr).block]? = _ from hb]
  rfl
 rw[show(⟨W.heap.size,0,none⟩:Addr).add j=⟨W.heap.size,j,none⟩ by simp[Addr.add];exact fun h=>h.symm,e]
 simpa using h
def IJ (n b:Nat):Names:=fun id=>if id=⟨1,0⟩then some ⟨n,2,2,none⟩else if id=⟨2,0⟩then some ⟨n+1,1,1,none⟩else if id=⟨3,0⟩then some ⟨n+1+1,1,1,none⟩else if id=⟨4,0⟩then some ⟨b,2,2,none⟩else if id=⟨5,0⟩then some ⟨n+1+1+1,1,1,none⟩else none
def M5 (s:aw) (l:List ad) (i k:Nat):Rows:=fun id=>if id=⟨1,0⟩then some ⟨false,2,[ab s]⟩else if id=⟨2,0⟩then some ⟨false,1,[[.sl (l.map aa)]]⟩else if id=⟨4,0⟩then some ⟨false,2,[[.int .i64 (i:Int),.int .i64 (k:Int)]]⟩else none
def NZ (s:aw) (l:List ad) (i k:Nat) (d:Int):Env:=cF [.agg (ab s),.agg [.sl (l.map aa)],.ptr ⟨1,0⟩ 0 0,.ptr ⟨2,0⟩ 0 0,.bE,.ptr ⟨3,0⟩ 0 0,.ptr ⟨4,0⟩ 0 0,.int .i64 d,.undef,.agg [.sl (l.map aa)],.fn 264 [.ptr ⟨5,0⟩ 0 0],.agg [.int .i64 (i:Int),.int .i64 (k:Int)],.int .i64 d]
theorem EK {P:Program} {W:World} {D:Nat->Prop} {ι:Names} {B:sG} {cells:Array Value} {T:TypeId} {cs:List AV} (hk:B.k=none) (hb:W.heap[B.b]? =some (.cells cells T (0,0))) (hC:cells.size=B.C) (hz:B.sz=cs.length) (hl:cs.length=cells.size) (hf:∀a∈cs,a.cell=true) (hr:∀(j:Nat) (a:AV),cs[j]? =some a->∃v,cells[j]? =some v/\cL P W D ι a v):gT P W D ι B ⟨false,cs.length,[cs]⟩:=
 lE.obj ⟨hz,⟨cells,T,hb,hC⟩,by simp;omega,fun c hc=>by simp at hc;rw[hc],fun c hc=>by simp at hc;rw[hc];exact hf,fun i j c a hi hj=>by
  match i,hi with
  |0,hi=>
   simp at hi;subst hi
   obtain⟨v,h1,h2⟩:=hr j a hj
   exact⟨v,by simp[World.cell?,hb,h1],h2⟩
  |i+1,hi=>simp at hi⟩ hk
theorem JC:(Tryz.prog.info? 246).map (fun i=>(i.zero,i.size,i.bytes))=some (some (.agg #[.int .i64 0,.int .i64 0,.int .i64 0]),3,24):=by kernel_rfl
end Go.Proofs.YtgoelphibofcmaaGreat.V

namespace Go.Proofs.YtgoelphibofcmaaGreat.V
open Go.RowKit Go.Shelf
attribute [local go_sem] Oper.semAt_some
attribute [local irreducible] dO wpOps gy Call
attribute [local go_sem] aT fK eS ga fZ dj upd cF K.av cP AV.cells AV.cell rowOf rowsOf part ld rowAt bL cD dG ef ik bV de ew fW fe dw ek dc db dU dV cj bl cU b4 cW cV ei eo ej cR cm dd eh bW aV cZ cI ij bx cK ck bd du bj dI AV.undef bH bS dW eb dQ dP cJ ev eE cH er ep cY da List.getD_cons_zero List.getD_cons_succ List.getD_nil List.all_cons List.all_nil Bool.and_true Bool.true_and Bool.and_self Bool.not_true Bool.not_false Option.map_some Option.map_none Option.bind_some Option.bind_none List.length_cons List.length_nil List.take_succ_cons List.take_zero List.take_nil List.drop_succ_cons List.drop_zero List.drop_nil List.head?_cons List.map_cons List.map_nil List.getElem?_cons_zero List.getElem?_cons_succ List.cons_append List.nil_append List.append_nil List.length_map List.set_cons_zero List.set_cons_succ Nat.reduceMul eq_self Int.toNat_natCast Int.natCast_nonneg and_self true_and and_true decide_true decide_false Bool.false_eq_true Nat.zero_add Nat.add_zero List.contains_cons List.contains_nil Bool.or_false Bool.false_or beq_self_eq_true Nat.reduceBEq ne_eq not_true_eq_false not_false_eq_true Id.mk.injEq false_and and_false Nat.reduceLT Int.reduceLE Int.reduceLT Int.reduceToNat Int.reduceNeg Int.reduceAdd Nat.le_refl List.length_append beq_true beq_false Bool.not_eq_eq_eq_not or_false false_or dR ae aj aI bq bG cC aY bh aW bp cQ bJ
theorem IH (s:aw) (l:List ad) (hF:kM s) (hA:lu s l) (w:World) (Ag At:Option Addr) (ng cg nt ct:Nat) (vS:Value) (hT:jQ Tryz.prog w (fun b=>b<w.heap.size) (.agg (ab s)) (.agg #[.slice Ag ng cg,.slice At nt ct])) (hP:pQ w vS l):
  CallsIn Fence.wide 5 Tryz.prog 222 #[.agg #[.slice Ag ng cg,.slice At nt ct],.agg #[vS]] w fun e W'=>∃v,e=.returned v/\W'.ownsRow w.heap.size 246 3 v (dh s l).length (Lp (dh s l))/\(v=.slice none 0 0↔dh s l=[])/\Below w.heap.size w W':=by
 obtain⟨A,cp,rfl,_,_⟩:=hP.sl
 obtain⟨i0,hi,H8,AQ,kO⟩:=info_parts JC
 refine callsIn_of_wp_marks Tryz.func222 rfl trivial ?_ rfl
 simp only[Tryz.ntmps222,List.size_toArray,List.length_cons,List.length_nil,Nat.reduceAdd,Nat.reduceSub,Array.replicate_succ,Array.replicate_zero,List.push_toArray,List.append_toArray,List.nil_append,List.cons_append]
 gi_wp2_with (refine⟨trivial,?_⟩;gi_at_call 244;refine(z6 _ _ _).mono ?_;rintro e w' ⟨rfl,rfl⟩)
 have bT:((w.alloc (.cells #[.slice Ag ng cg,.slice At nt ct] 38)).heap[w.heap.size]?)=some (.cells #[.slice Ag ng cg,.slice At nt ct] 38 (0,0)):=World.alloc_heap_new _ _
 obtain⟨w1,nH⟩:∃w1,w.alloc (.cells #[.slice Ag ng cg,.slice At nt ct] 38)=w1:=⟨_,rfl⟩
 have QI:w1.heap.size=w.heap.size+1:=by rw[<-nH];simp
 have AN:Below w.heap.size w w1:=by rw[<-nH];exact(Below.refl _ w).alloc (Nat.le_refl _) _
 rw[nH]at bT ⊢
 clear nH
 have bA:=Boxed.new w1 41 (.slice A l.length cp)
 have bO:=Boxed.new (w1.alloc (.cells #[.slice A l.length cp] 41)) 226 (.slice none 0 0)
 have bN:=Boxed.new ((w1.alloc (.cells #[.slice A l.length cp] 41)).alloc (.cells #[.slice none 0 0] 226)) 41 (.slice A l.length cp)
 replace bA:=(bA.alloc (.cells #[.slice none 0 0] 226)).alloc (.cells #[.slice A l.length cp] 41)
 replace bO:=bO.alloc (.cells #[.slice A l.length cp] 41)
 simp only[World.size_alloc,QI]at bA bO bN
 have pU:Below w1.heap.size w1 (((w1.alloc (.cells #[.slice A l.length cp] 41)).alloc (.cells #[.slice none 0 0] 226)).alloc (.cells #[.slice A l.length cp] 41)):=(((Below.refl _ w1).alloc (Nat.le_refl _) _).alloc (by simp) _).alloc (by simp;omega) _
 have fA:(((w1.alloc (.cells #[.slice A l.length cp] 41)).alloc (.cells #[.slice none 0 0] 226)).alloc (.cells #[.slice A l.length cp] 41)).heap.size=w.heap.size+4:=by simp;omega
 obtain⟨W0,hW0⟩:∃W0,((w1.alloc (.cells #[.slice A l.length cp] 41)).alloc (.cells #[.slice none 0 0] 226)).alloc (.cells #[.slice A l.length cp] 41)=W0:=⟨_,rfl⟩
 rw[hW0]at bA bO bN pU fA ⊢
 clear hW0
 have BC:Below w.heap.size w W0:=AN.trans (pU.mono (by omega))
 replace bT:=(pU.block w.heap.size (by omega)).trans bT
 have hP0:pQ W0 (.slice A l.length cp) l:=hP.below BC
 have kl:=R8 hP
 have qe:=ql (s:=s) hA.1
 refine wpIn_rangeFunc_ownH (n:=5) rfl (by omega) (gf:=264) (lb:= #[.pointer (some ⟨w.heap.size+1+1+1,0,none⟩)]) rfl trivial (enters_of Tryz.func264 (by kernel_rfl) rfl)
  (JW l hA.1 (w.heap.size+1+1+1) (5-1) (by omega) (.slice A l.length cp) (iA w.heap.size) kl W0 bN hP0) iA.trans (iA.b (by omega)) (Below.refl _ _) (fun _=>rfl)
  (fun pre W=>((∃v,Boxed W (w.heap.size+1+1) 226 v/\W.ownsRow w.heap.size 246 3 v (nQ s l pre).length (Lp (nQ s l pre))/\(v=.slice none 0 0↔nQ s l pre=[]))/\(Boxed W (w.heap.size+1) 41 (.slice A l.length cp)/\W.heap[w.heap.size]? =some (.cells #[.slice Ag ng cg,.slice At nt ct] 38 (0,0))))/\Below w.heap.size w W)
  (fun _ _ _=>False)
  (OwnFrom.and (OwnFrom.and (Own.from (holdsRow_own w.heap.size (w.heap.size+1+1) 226 246 3 (fun pre=>(nQ s l pre).length) (fun pre=>Lp (nQ s l pre)) (fun pre v=>v=.slice none 0 0↔nQ s l pre=[])) _) (OwnFrom.and (Own.from (boxed_own _ _ _) _) (Own.from (BE _ _ _ _) _))) (ownFrom_below (Nat.le_refl _) (by omega)))
  (fun _ _ _ _ _ hs _ _=>hs)
  ⟨⟨⟨_,bO,World.ownsRow_nil _ _ _ _,by simp[nQ]⟩,bA,bT⟩,BC⟩
  (fun x a' W=>∃Bx,w.heap.size+1+1<Bx/\W.heap[Bx]? =some (.cells #[.int .i64 (x.1.1:Int),.int .i64 (x.1.2.1:Int)] 283 (0,0))/\a'={tmps:= #[.agg #[.slice Ag ng cg,.slice At nt ct],.agg #[.slice A l.length cp],.pointer (some ⟨w.heap.size,0,none⟩),.pointer (some ⟨w.heap.size+1,0,none⟩),.slice none 0 0,.pointer (some ⟨w.heap.size+1+1,0,none⟩),.pointer (some ⟨Bx,0,none⟩),.int .i64 x.1.2.2,undef,.agg #[.slice A l.length cp],.func (.func 264) #[] #[.pointer (some ⟨w.heap.size+1+1+1,0,none⟩)],.agg #[.int .i64 (x.1.1:Int),.int .i64 (x.1.2.1:Int)],.int .i64 x.1.2.2,undef,undef,undef,undef,undef,undef,undef,undef,undef,undef,undef,undef,undef,undef,undef,undef,undef,undef,undef,undef,undef,undef,undef,undef,undef,undef,undef,undef,undef],defers:=[]})
  (fun x a' _ X Y row hs hg hr=>by obtain⟨Bx,h1,h2,h3⟩:=hs;exact⟨Bx,h1,BE Bx _ _ _ () X Y row h2 hg (fun r e=>(hr r e).2),h3⟩)
  ?assign ?body ?done ?stop
 case assign=>
  rintro q pre ⟨⟨x0,x1,x2⟩,hx⟩ W K ⟨⟨⟨v,hv,fY,hnil⟩,bA1,bT1⟩,hB⟩ hK
  simp only[Fu]
  gi_wp2
  exact hK _ _ ((KeepsOthers.alloc _ _).from _) (iA.of ((Below.refl _ W).alloc (Nat.le_refl _) _)) ⟨⟨⟨v,hv.alloc _,fY.alloc _,hnil⟩,bA1.alloc _,(Below.heap_alloc _ _ _ (Array.getElem?_eq_some_iff.1 bT1).1).trans bT1⟩,hB.alloc hB.size _⟩ ⟨W.heap.size,hv.lt,World.alloc_heap_new _ _,rfl⟩
 case body=>
  rintro q pre ⟨⟨x0,x1,x2⟩,hx⟩ a' W hq hqr ⟨⟨⟨v,hv,fY,hnil⟩,bA1,bT1⟩,hB⟩ ⟨Bx,hBx,bX,rfl⟩ dZ
  obtain⟨C3,JB,uE⟩:=hx
  simp only at C3 JB uE bX
  obtain⟨A',c',e',_,hc⟩:=(hP.below hB).sl
  cases e'
  have dy:∃b o,A=some ⟨b,o,none⟩/\W.cell? ⟨b,o+x0*3+2,none⟩=some (.int .i64 (aD l x0).aO)/\W.cell? ⟨b,o+x1*3+2,none⟩=some (.int .i64 (aD l x1).aO):=by
   rcases hc with rfl|⟨b,o,rfl,kC⟩
   ·simp at C3
   ·exact⟨b,o,rfl,by rw[Nat.add_assoc];exact(kC x0 C3).2.2,by rw[Nat.add_assoc];exact(kC x1 JB).2.2⟩
  obtain⟨b,o,rfl,cP0,cP1⟩:=dy
  have cT0:W.cell? ⟨w.heap.size,0,none⟩=some (.slice Ag ng cg):=by simp[World.cell?,bT1]
  have cT1:W.cell? ⟨w.heap.size,1,none⟩=some (.slice At nt ct):=by simp[World.cell?,bT1]
  have cX0:W.cell? ⟨Bx,0,none⟩=some (.int .i64 (x0:Int)):=by simp[World.cell?,bX]
  have cX1:W.cell? ⟨Bx,1,none⟩=some (.int .i64 (x1:Int)):=by simp[World.cell?,bX]
  have cA:=bA1.cell
  have dP0:W.drew.cell? ⟨b,o+x0*3+2,none⟩=some (.int .i64 (aD l x0).aO):=cP0
  have dP1:W.drew.cell? ⟨b,o+x1*3+2,none⟩=some (.int .i64 (aD l x1).aO):=cP1
  have dT0:W.drew.cell? ⟨w.heap.size,0,none⟩=some (.slice Ag ng cg):=cT0
  have dT1:W.drew.cell? ⟨w.heap.size,1,none⟩=some (.slice At nt ct):=cT1
  have dX0:W.drew.cell? ⟨Bx,0,none⟩=some (.int .i64 (x0:Int)):=cX0
  have dX1:W.drew.cell? ⟨Bx,1,none⟩=some (.int .i64 (x1:Int)):=cX1
  have dA:W.drew.cell? ⟨w.heap.size+1,0,none⟩=some (.slice (some ⟨b,o,none⟩) l.length cp):=cA
  have s8:∀i,i<l.length->aD l i∈l:=fun i hi=>by
   unfold aD
   rw[List.getD_eq_getElem?_getD,List.getElem?_eq_getElem hi]
   exact List.getElem_mem hi
  have Va:=mixed
  have hfw:=hA.1.xx
  have S9:=Dn s hF (aD l x0).aO x2 (aD l x1).aO (hA.2 _ (s8 x0 C3)) (hA.2 _ (s8 x1 JB)) (iN (by omega))
  have hTW:jQ Tryz.prog W (fun b=>b<w.heap.size) (.agg (ab s)) (.agg #[.slice Ag ng cg,.slice At nt ct]):=hT.frame (fun b hb=>hB.block b hb) (fun _ h=>h)
  have hAW:jQ Tryz.prog W (fun b=>b<w.heap.size) (.sl (l.map aa)) (.slice (some ⟨b,o,none⟩) l.length cp):=hP.eT.frame (fun b hb=>hB.block b hb) (fun _ h=>h)
  obtain⟨fT,hT0,hT1⟩:∃f:Nat->Value,(∀j,j<(ab s).length->(#[Value.slice Ag ng cg,.slice At nt ct])[j]? =some (f j))/\∀j a,(ab s)[j]? =some a->jQ Tryz.prog W (fun b=>b<w.heap.size) a (f j):=by
   cases hTW with
   |agg _ _ f _ _ h3 h4=>exact⟨f,h3,h4⟩
  have dK:St Tryz.prog W.heap.size 42 (fun b=>b<w.heap.size) (IJ w.heap.size Bx) (NZ s l x0 x1 x2) ⟨M5 s l x0 x1,1⟩ {tmps:= #[.agg #[.slice Ag ng cg,.slice At nt ct],.agg #[.slice (some ⟨b,o,none⟩) l.length cp],.pointer (some ⟨w.heap.size,0,none⟩),.pointer (some ⟨w.heap.size+1,0,none⟩),.slice none 0 0,.pointer (some ⟨w.heap.size+1+1,0,none⟩),.pointer (some ⟨Bx,0,none⟩),.int .i64 x2,undef,.agg #[.slice (some ⟨b,o,none⟩) l.length cp],.func (.func 264) #[] #[.pointer (some ⟨w.heap.size+1+1+1,0,none⟩)],.agg #[.int .i64 (x0:Int),.int .i64 (x1:Int)],.int .i64 x2,undef,undef,undef,undef,undef,undef,undef,undef,undef,undef,undef,undef,undef,undef,undef,undef,undef,undef,undef,undef,undef,undef,undef,undef,undef,undef,undef,undef,undef],defers:=[]} W:=by
   have n1:(IJ w.heap.size Bx) ⟨1,0⟩=some ⟨w.heap.size,2,2,none⟩:=rfl
   have n2:(IJ w.heap.size Bx) ⟨2,0⟩=some ⟨w.heap.size+1,1,1,none⟩:=rfl
   have n3:(IJ w.heap.size Bx) ⟨3,0⟩=some ⟨w.heap.size+1+1,1,1,none⟩:=rfl
   have n4:(IJ w.heap.size Bx) ⟨4,0⟩=some ⟨Bx,2,2,none⟩:=rfl
   have n5:(IJ w.heap.size Bx) ⟨5,0⟩=some ⟨w.heap.size+1+1+1,1,1,none⟩:=rfl
   have rp:∀(id:Id) (B:sG),(IJ w.heap.size Bx) id=some B->B.k=none->cL Tryz.prog W (fun b=>b<w.heap.size) (IJ w.heap.size Bx) (.ptr id 0 0) (.pointer (some ⟨B.b,0,none⟩)):=fun id B h hk=>by
    have:=cL.ptr (P:=Tryz.prog) (w:=W) (D:=fun b=>b<w.heap.size) id 0 0 B h hk
    simpa using this
   have ri:∀n:Int,cL Tryz.prog W (fun b=>b<w.heap.size) (IJ w.heap.size Bx) (.int .i64 n) (.int .i64 n):=fun n=>.eT _ _ (.int _ _)
   have hA1:jQ Tryz.prog W (fun b=>b<w.heap.size) (.agg [.sl (l.map aa)]) (.agg #[.slice (some ⟨b,o,none⟩) l.length cp]):=.agg _ _ (fun _=>.slice (some ⟨b,o,none⟩) l.length cp) rfl (fun a ha=>by simp at ha;rw[ha];rfl) (fun j hj=>by match j,hj with|0,_=>rfl|j+1,hj=>simp at hj) (fun j a ha=>by match j,ha with|0,ha=>simp at ha;subst ha;exact hAW|j+1,ha=>simp at ha)
   refine⟨⟨Nat.le_refl _,fun b hb=>Nat.lt_of_lt_of_le hb hB.size,fun id r hg=>?_,fun id j5 r r' B B' h _ hw=>?_⟩,fun id hid=>?_,fun t=>?_,rfl⟩
   ·replace hg:M5 s l x0 x1 id=some r:=hg
    unfold M5 at hg
    split at hg
    ·rename_i e;subst e;injection hg with hg;subst hg
     exact⟨_,n1,EK (cs:=ab s) rfl bT1 rfl rfl rfl (fun a ha=>by simp[ab]at ha;rcases ha with rfl|rfl<;>rfl) (fun j a ha=>⟨_,hT0 j (List.getElem?_eq_some_iff.1 ha).1,.eT _ _ (hT1 j a ha)⟩),fun h=>(by cases h),fun h=>(by cases h)⟩
    ·split at hg
     ·rename_i e;subst e;injection hg with hg;subst hg
      exact⟨_,n2,EK (cs:=[.sl (l.map aa)]) rfl bA1 rfl rfl rfl (fun a ha=>by simp at ha;rw[ha];rfl) (fun j a ha=>by match j,ha with|0,ha=>simp at ha;subst ha;exact⟨_,rfl,.eT _ _ hAW⟩|j+1,ha=>simp at ha),fun h=>(by cases h),fun h=>(by cases h)⟩
     ·split at hg
      ·rename_i e;subst e;injection hg with hg;subst hg
       exact⟨_,n4,EK (cs:=[.int .i64 (x0:Int),.int .i64 (x1:Int)]) rfl bX rfl rfl rfl (fun a ha=>by simp at ha;rcases ha with rfl|rfl<;>rfl) (fun j a ha=>by match j,ha with|0,ha=>simp at ha;subst ha;exact⟨_,rfl,ri _⟩|1,ha=>simp at ha;subst ha;exact⟨_,rfl,ri _⟩|j+2,ha=>simp at ha),fun h=>(by cases h),fun h=>(by cases h)⟩
      ·cases hg
   ·exfalso
    replace h:M5 s l x0 x1 id=some r:=h
    unfold M5 at h
    split at h
    ·injection h with h;subst h;cases hw
    ·split at h
     ·injection h with h;subst h;cases hw
     ·split at h
      ·injection h with h;subst h;cases hw
      ·cases h
   ·left
    unfold IJ at hid
    repeat' (split at hid)
    all_goals first|(rename_i e;subst e;exact Nat.zero_lt_one)|exact absurd rfl hid
   ·match t with
    |0=>exact .eT _ _ hTW
    |1=>exact .eT _ _ hA1
    |2=>exact rp _ _ n1 rfl
    |3=>exact rp _ _ n2 rfl
    |4=>exact .eT _ _ .bE
    |5=>exact rp _ _ n3 rfl
    |6=>exact rp _ _ n4 rfl
    |7=>exact ri _
    |8=>exact cL.undef
    |9=>exact .eT _ _ hA1
    |10=>exact .fn _ _ _ (fun _=>.pointer (some ⟨w.heap.size+1+1+1,0,none⟩)) (by kernel_rfl) rfl (fun j hj=>by match j,hj with|0,_=>rfl|j+1,hj=>simp at hj) (fun j a ha=>by match j,ha with|0,ha=>simp at ha;subst ha;exact rp _ _ n5 rfl|j+1,ha=>simp at ha)
    |11=>exact .agg _ _ (fun j=>if j=0 then .int .i64 (x0:Int)else .int .i64 (x1:Int)) rfl (fun a ha=>by simp at ha;rcases ha with rfl|rfl<;>rfl) (fun j hj=>by match j,hj with|0,_=>rfl|1,_=>rfl|j+2,hj=>simp at hj;omega) (fun j a ha=>by match j,ha with|0,ha=>simp at ha;subst ha;exact ri _|1,ha=>simp at ha;subst ha;exact ri _|j+2,ha=>simp at ha)
    |12=>exact ri _
    |13=>exact cL.undef
    |14=>exact cL.undef
    |15=>exact cL.undef
    |16=>exact cL.undef
    |17=>exact cL.undef
    |18=>exact cL.undef
    |19=>exact cL.undef
    |20=>exact cL.undef
    |21=>exact cL.undef
    |22=>exact cL.undef
    |23=>exact cL.undef
    |24=>exact cL.undef
    |25=>exact cL.undef
    |26=>exact cL.undef
    |27=>exact cL.undef
    |28=>exact cL.undef
    |29=>exact cL.undef
    |30=>exact cL.undef
    |31=>exact cL.undef
    |32=>exact cL.undef
    |33=>exact cL.undef
    |34=>exact cL.undef
    |35=>exact cL.undef
    |36=>exact cL.undef
    |37=>exact cL.undef
    |38=>exact cL.undef
    |39=>exact cL.undef
    |40=>exact cL.undef
    |41=>exact cL.undef
    |t+42=>exact cL.undef
  have hV:wpOps (Call Tryz.prog) true ?vl (fun e _=>e 5=.ptr ⟨3,0⟩ 0 0/\e 6=.ptr ⟨4,0⟩ 0 0/\e 8=.int .i64 (gp s (aD l x0).aO x2 (aD l x1).aO)) (NZ s l x0 x1 x2) ⟨M5 s l x0 x1,1⟩:= ?hv
  gi_wp2
  refine Ae mixed (rrE (nt:=42) (site0:=222005000)) (JY (by kernel_rfl)) (lp (fun _ _ _ _ h=>gC mixed h) kS (fun _ _ h=>h) _ _ _ hV) dK ?_
  rintro e1 σ1 ⟨tm,df⟩ w3 D1 ι1 ⟨h5,h6,h8⟩ T1 sO DQ
  case hv=>
   refine EB ?_
   have e0:=fE C3
   have e1:=fE JB
   (repeat(first|((repeat(revert hN;revert N;apply Pn.out));refine wk (tw @e0 (tw @e1 (tw @NZ.eq_1 (tw @M5.eq_1 (tw @aa.eq_1 @ab.eq_1))))) ?_;(repeat(refine Pn.mk ?_;intro N hN)))|((try apply Or.inl);refine⟨_,aq.x (S9) (sd (tw @e0 (tw @e1 (tw @NZ.eq_1 (tw @M5.eq_1 (tw @aa.eq_1 @ab.eq_1)))))),?_⟩;refine hN _ _ ?_;clear hN N)))
   exact⟨sd @NZ.eq_1,sd @NZ.eq_1,sd @NZ.eq_1⟩
  ·have BD:Below W.heap.size W w3:=T1.below
   have uY:∀id B,IJ w.heap.size Bx id=some B->ι1 id=some B:=T1.names
   have p5:tm.getD 5 undef=.pointer (some ⟨w.heap.size+1+1,0,none⟩):=by
    have g:=sO.env 5
    rw[h5]at g
    obtain⟨B,e,hB,_⟩:=iJ g
    have h:=uY ⟨3,0⟩ ⟨w.heap.size+1+1,1,1,none⟩ rfl
    rw[h]at hB;injection hB with hB;subst hB
    simpa using e
   have p6:tm.getD 6 undef=.pointer (some ⟨Bx,0,none⟩):=by
    have g:=sO.env 6
    rw[h6]at g
    obtain⟨B,e,hB,_⟩:=iJ g
    have h:=uY ⟨4,0⟩ ⟨Bx,2,2,none⟩ rfl
    rw[h]at hB;injection hB with hB;subst hB
    simpa using e
   have p8:tm.getD 8 undef=.int .i64 (gp s (aD l x0).aO x2 (aD l x1).aO):=by
    have g:=sO.env 8
    rw[h8]at g
    exact dz g
   have fA:=sO.size
   obtain⟨tl⟩:=tm
   obtain⟨f,FK,hf⟩:∃f:Nat->Value,tl=[f 0,f 1,f 2,f 3,f 4,f 5,f 6,f 7,f 8,f 9,f 10,f 11,f 12,f 13,f 14,f 15,f 16,f 17,f 18,f 19,f 20,f 21,f 22,f 23,f 24,f 25,f 26,f 27,f 28,f 29,f 30,f 31,f 32,f 33,f 34,f 35,f 36,f 37,f 38,f 39,f 40,f 41]/\∀i,f i=(⟨tl⟩:Array Value).getD i undef:=by
    refine⟨fun i=>(⟨tl⟩:Array Value).getD i undef,?_,fun _=>rfl⟩
    have h:=JM tl undef
    rw[show tl.length=42 from fA]at h
    exact h
   rw[<-hf]at p5 p6 p8
   have UP:df=[]:=DQ
   subst UP
   clear hf sO dK hV
   subst FK
   rw[p5,p6,p8]
   have Ty:=hv.kept (grown_of BD) (by simp)
   have FI:=fY.kept (grown_of BD) (by rcases fY.2 with⟨e,_⟩|⟨_,_,_,e,_⟩<;>rw[e]<;>simp[Value.ownBlock])
   have hc3:=Ty.cell
   have hn3:w.heap.size<=w3.heap.size:=Nat.le_trans hB.size BD.size
   have eX0:w3.cell? ⟨Bx,0,none⟩=some (.int .i64 (x0:Int)):=(BD.cell (p:=⟨Bx,0,none⟩) (Array.getElem?_eq_some_iff.1 bX).1).trans cX0
   have eX1:w3.cell? ⟨Bx,1,none⟩=some (.int .i64 (x1:Int)):=(BD.cell (p:=⟨Bx,1,none⟩) (Array.getElem?_eq_some_iff.1 bX).1).trans cX1
   have lS:(nQ s l pre).length<=2097152:=by
    have h1:=IE s l pre
    have h2:=Cn l l.length
    omega
   have hKF:KeepsFrom (w.heap.size+4) W w3:=⟨BD.size,fun k o _ hk _=>(BD.block k (Array.getElem?_eq_some_iff.1 hk).1).trans hk⟩
   have hKT:iA w.heap.size W w3:=iA.of BD
   have T8:w3.heap[w.heap.size+1]? = _:=(BD.block _ bA1.lt).trans bA1
   have T9:=(BD.block _ (Array.getElem?_eq_some_iff.1 bT1).1).trans bT1
   by_cases kz:0<gp s (aD l x0).aO x2 (aD l x1).aO
   ·have rK:nQ s l (pre++[⟨(x0,x1,x2),C3,JB,uE⟩])=nQ s l pre++[⟨x0,x1,gp s (aD l x0).aO x2 (aD l x1).aO⟩]:=by
     rw[yi];simp only[zw,if_pos kz]
    gi_wp2_with (gi_at_builtin;refine wpListIn_append_own _ rfl _ _ 226 rfl w.heap.size 246 i0 (.agg #[.int .i64 0,.int .i64 0,.int .i64 0]) 3 24 (by kernel_rfl) hi H8 AQ kO rfl (by decide) _ _ _ rfl (FI.alloc _) ⟨w3.heap.size,0,none⟩ 1 1 [.int .i64 (x0:Int),.int .i64 (x1:Int),.int .i64 (gp s (aD l x0).aO x2 (aD l x1).aO)] rfl rfl (v8 _ _ _ _ _) (by simp[Value.oneCell']) (by unfold maxLen;omega) (by omega) (by simp;omega) ?_;intro v' w4 Nl FD _;obtain⟨g',cap',rfl⟩:=ownsRow_succ Nl;obtain⟨yH,O9,D8,wI,GJ⟩:=Ty.appended (by decide) FI hn3 (by omega) Nl FD;have LR:=iA.app Ty FI FD GJ;have mN:=yH.cell;have hf1:=yH.frozen)
    exact⟨hKF.trans (wI.from _),hKT.trans LR,⟨⟨_,O9,by rw[rK,ID,List.length_append];exact D8,by rw[rK];simp⟩,(LR.2.1 _ _ _ _ T8 (by decide) (by decide)).trans T8,(LR.2.1 _ _ _ _ T9 (by decide) (by decide)).trans T9⟩,hB.trans ((BD.mono hB.size).trans GJ)⟩
   ·have rK:nQ s l (pre++[⟨(x0,x1,x2),C3,JB,uE⟩])=nQ s l pre:=by
     rw[yi];simp only[zw,if_neg kz,List.append_nil]
    gi_wp2
    exact⟨hKF,hKT,⟨⟨v,Ty,by rw[rK];exact FI,by rw[rK];exact hnil⟩,T8,T9⟩,hB.trans (BD.mono hB.size)⟩
 case done=>
  rintro D ys W hD FN ⟨⟨⟨v,hv,fY,hnil⟩,_⟩,hB⟩ hK
  have hc:=hv.cell
  have K3:nQ s l ys=dh s l:=by rw[II,<-FN];rfl
  rw[K3]at fY hnil
  gi_wp2
  refine⟨by simp,.inl ⟨_,_,rfl,run_takeDeferred hK,?_⟩⟩
  exact⟨_,results_tmp rfl _ _ _,v,rfl,ownsRow_putObj fY _ hK rfl,hnil,hB.trans (belowK_b (w:=w) (Nat.le_refl _) W D _ _ (by omega) hK rfl rfl)⟩
 case stop=>
  rintro D c pre W _ _ h _
  exact h.elim
end Go.Proofs.YtgoelphibofcmaaGreat.V

namespace Go.Proofs.YtgoelphibofcmaaGreat.V
open Go.RowKit Go.Shelf
theorem Fm:∀{bs:List PB} {i j:Nat} {b:PB},bs[i]? =some b->j<3->(Lp bs)[i*3+j]? =([.int .i64 b.a,.int .i64 b.b,.int .i64 b.s]:List Value)[j]?
 |c::bs,0,j,b,h,hj=>by
  simp at h;subst h
  simp only[Lp,List.flatMap_cons,Nat.zero_mul,Nat.zero_add]
  rw[List.getElem?_append_left (by simpa using hj)]
 |c::bs,i+1,j,b,h,hj=>by
  simp only[List.getElem?_cons_succ]at h
  have:=Fm (bs:=bs) (i:=i) (j:=j) h hj
  simp only[Lp,List.flatMap_cons]at this ⊢
  rw[List.getElem?_append_right (by simp;omega),<-this]
  congr 1
  simp;omega
theorem rP {P:Program} {w:World} {D:Nat->Prop} {rows:List (List AV)} {v:Value} (h:jQ P w D (.sl rows) v):∃A n c,v=.slice A n c:=by
 cases h with
 |AR a c _=>exact⟨_,_,_,rfl⟩
 |sl=>exact⟨_,_,_,rfl⟩
theorem qV {P:Program} {w:World} {D:Nat->Prop} {ι:Names} {rows:List (List AV)} {v:Value} (h:cL P w D ι (.sl rows) v):jQ P w D (.sl rows) v:=by
 cases h with
 |eT _ _ h=>exact h
theorem My {P:Program} {w:World} {D:Nat->Prop} {l:List ad} {v:Value} (h:jQ P w D (.sl (l.map aa)) v):pQ w v l:=by
 generalize hr:l.map aa=rows at h
 cases h with
 |AR a c hc=>
  have:l=[]:=by simpa using hr
  subst this
  exact⟨a,c,rfl,⟨Nat.zero_le _,hc⟩,.inl rfl⟩
 |sl _ b o n c sz vs h1 h2 h3 h4 h5 h5' h6 h7=>
  have hn:n=l.length:=by rw[<-h1,<-hr];simp
  subst hn
  refine⟨some ⟨b,o,none⟩,c,rfl,⟨h2,h3⟩,?_⟩
  by_cases hl:l=[]
  ·exact .inl hl
  refine .inr ⟨b,o,rfl,fun i hi=>?_⟩
  have hg:rows[i]? =some (aa (aD l i)):=by rw[<-hr];exact fE hi
  have fA:sz=3:=by rw[<-h5 _ (List.mem_of_getElem? hg)];rfl
  subst fA
  have k:∀(j:Nat) (x:Int),(aa (aD l i))[j]? =some (.int .i64 x)->j<3->w.cell? ⟨b,o+(i*3+j),none⟩=some (.int .i64 x):=fun j x hj h3=>by
   have:=h7 i j _ _ hg hj
   rw[h6 i j hi h3,dz (.eT (ι:=fun _=>none) _ _ this)]
  exact⟨k 0 _ rfl (by omega),k 1 _ rfl (by omega),k 2 _ rfl (by omega)⟩
theorem NY:C6:=by
 intro s l hS hA n
 refine gU ?_
 intro hs D ι w vs S U A
 obtain⟨u0,Tx,r0⟩:=A.2 0 _ rfl
 obtain⟨u1,RT,r1⟩:=A.2 1 _ rfl
 have dZ:∀b,D b->b<w.heap.size:=S.dead
 obtain⟨v0,f0,rfl,H8,_,Tf,Vt⟩:=iV r0
 obtain⟨v1,f1,rfl,AQ,_,hf1,O0⟩:=iV r1
 have g0:=qV (Vt 0 _ rfl)
 have g1:=qV (Vt 1 _ rfl)
 have a0:=qV (O0 0 _ rfl)
 obtain⟨Ag,ng,cg,eg⟩:=rP g0
 obtain⟨At,nt,ct,et⟩:=rP g1
 have e0:v0= #[.slice Ag ng cg,.slice At nt ct]:=by
  obtain⟨vl⟩:=v0
  have q0:=Tf 0 (by simp[ab])
  have q1:=Tf 1 (by simp[ab])
  rw[eg]at q0;rw[et]at q1
  match vl,H8 with
  |[a,b],_=>simp at q0 q1;rw[q0,q1]
 have e1:v1= #[f1 0]:=by
  obtain⟨vl⟩:=v1
  have q0:=hf1 0 (by simp)
  match vl,AQ with
  |[a],_=>simp at q0;rw[q0]
 subst e0 e1
 have evs:vs= #[.agg #[.slice Ag ng cg,.slice At nt ct],.agg #[f1 0]]:=by
  obtain⟨vl⟩:=vs
  have hz:=A.1
  match vl,hz with
  |[a,b],_=>simp at Tx RT;rw[Tx,RT]
 subst evs
 have up:∀{a v},jQ Tryz.prog w D a v->jQ Tryz.prog w (fun b=>b<w.heap.size) a v:=fun h=>h.frame (fun _ _=>rfl) dZ
 have hT:jQ Tryz.prog w (fun b=>b<w.heap.size) (.agg (ab s)) (.agg #[.slice Ag ng cg,.slice At nt ct]):=
  .agg _ _ f0 H8 (fun a ha=>by simp[ab]at ha;rcases ha with rfl|rfl<;>rfl) Tf (fun j a ha=>by
   match j,ha with
   |0,ha=>simp[ab]at ha;subst ha;exact up g0
   |1,ha=>simp[ab]at ha;subst ha;exact up g1
   |j+2,ha=>simp[ab]at ha)
 refine(callsIn_wide.1 (IH s l hS.form hA w Ag At ng cg nt ct (f1 0) hT (My a0))).mono ?_
 rintro e W' ⟨v,rfl,⟨hl,hown⟩,hnil,hB⟩
 have S':gF Tryz.prog hs D ι (fun _=>none) W':=S.stay (fun b hb=>hB.block b hb) hB.size (fun _ h=>h) (fun b hb=>Nat.lt_of_lt_of_le (dZ b hb) hB.size) (fun _ h=>.inl h) (fun _ _ h=>h)
 have T:Step hs D ι w D ι W':=Step.stay S (fun b hb=>hB.block b hb) hB.size hB.os hB.tape hB.output (fun _ h=>h) (fun _ h=>.inl h) (fun _ _ h=>h)
 rcases hown with⟨rfl,h0⟩|⟨gb,cap,cur,rfl,Ru,hblk,hle,Jc,dy,nU⟩
 ·have Rg:dh s l=[]:=hnil.1 rfl
  exact⟨.bE,_,n,D,ι,_,rfl,⟨.bE,jw _ _,by rw[Rg];rfl⟩,T,S',U,Nat.le_refl _,.eT _ _ .bE⟩
 ·have Rg:dh s l≠[]:=fun h=>by have:=hnil.2 h;cases this
  have jz:ι ⟨0,n⟩=none:=fresh U (fun h=>h)
  have gS:∀{a v},cL Tryz.prog W' D ι a v->cL Tryz.prog W' D (kK ι ⟨0,n⟩ ⟨gb,3,cap*3,none⟩) a v:=fun h=>h.frame (fun _ _=>rfl) (fun _ h=>h) (fo jz)
  have hR:gT Tryz.prog W' D (kK ι ⟨0,n⟩ ⟨gb,3,cap*3,none⟩) ⟨gb,3,cap*3,none⟩ ⟨true,3,(dh s l).map aB⟩:=by
   refine lE.obj ⟨rfl,⟨cur,_,hblk,dy⟩,?_,fun cs hc=>?_,fun cs hc a ha=>?_,fun i j cs a hi hj=>?_⟩ rfl
   ·simp only[List.length_map];exact Nat.mul_le_mul_right 3 hle
   ·obtain⟨b,_,rfl⟩:=List.mem_map.1 hc;rfl
   ·obtain⟨b,_,rfl⟩:=List.mem_map.1 hc
    simp[aB]at ha
    rcases ha with rfl|rfl|rfl<;>rfl
   ·rw[List.getElem?_map]at hi
    simp only[Option.map_eq_some_iff]at hi
    obtain⟨b,hb,rfl⟩:=hi
    have hj3:j<3:=by have:=(List.getElem?_eq_some_iff.1 hj).1;simpa[aB]using this
    have kN:=(List.getElem?_eq_some_iff.1 hb).1
    have hg:=Fm hb hj3
    rw[<-nU,List.getElem?_take,if_pos (by omega)]at hg
    have key:∀x:Value,([.int .i64 b.a,.int .i64 b.b,.int .i64 b.s]:List Value)[j]? =some x->W'.cell? ⟨gb,i*3+j,none⟩=some x:=fun x hx=>by
     rw[hx]at hg
     have e:W'.cell? ⟨gb,i*3+j,none⟩=cur[i*3+j]? :=by
      unfold World.cell?
      rw[show W'.heap[(⟨gb,i*3+j,none⟩:Addr).block]? = _ from hblk]
      rfl
     rw[e,<-Array.getElem?_toList];exact hg
    match j,hj with
    |0,hj=>simp[aB]at hj;subst hj;exact⟨_,key _ rfl,.eT _ _ (.int _ _)⟩
    |1,hj=>simp[aB]at hj;subst hj;exact⟨_,key _ rfl,.eT _ _ (.int _ _)⟩
    |2,hj=>simp[aB]at hj;subst hj;exact⟨_,key _ rfl,.eT _ _ (.int _ _)⟩
    |j+3,hj=>simp[aB]at hj
  have S2:=gF.add (r:=⟨true,3,(dh s l).map aB⟩) S S' jz Ru hR
  refine⟨.own ⟨0,n⟩ 0 (dh s l).length,bL (fun _=>none) ⟨0,n⟩ ⟨true,3,(dh s l).map aB⟩,n+1,D,kK ι ⟨0,n⟩ ⟨gb,3,cap*3,none⟩,_,rfl,⟨Al (dh s l),?_,rfl⟩,T.trans (Step.stay S' (fun _ _=>rfl) (Nat.le_refl _) rfl rfl rfl (fun _ h=>h) (fun _ h=>.inl h) (fo jz)),S2,U.upd.next,Nat.le_succ _,.own _ _ _ _ _ _ (ez _ _ _) rfl hle (.inr (by simp)) (by simp) Jc⟩
  unfold Al
  rw[if_neg Rg]
  have hg:(bL (fun _=>none) (⟨0,n⟩:Id) ⟨true,3,(dh s l).map aB⟩:Rows) ⟨0,n⟩=some ⟨true,3,(dh s l).map aB⟩:=by simp[bL]
  have:=fw (n:=5) hg rfl fun b=>uP _ 4 b
  simpa using this
end Go.Proofs.YtgoelphibofcmaaGreat.V

namespace Go.Proofs.YtgoelphibofcmaaGreat.V
open Go.RowKit
attribute [local irreducible] dO wpOps gy Call
attribute [local go_sem] aT fK eS ga fZ dj upd cF K.av cP AV.cells AV.cell rowOf rowsOf part ld rowAt bL cD dG ef ik bV de ew fW fe dw ek dc db dU dV cj bl cU b4 cW cV ei eo ej cR cm dd eh bW aV cZ cI ij bx cK ck bd du bj dI AV.undef bH bS dW eb dQ dP cJ ev eE cH er ep cY da List.getD_cons_zero List.getD_cons_succ List.getD_nil List.all_cons List.all_nil Bool.and_true Bool.true_and Bool.and_self Bool.not_true Bool.not_false Option.map_some Option.map_none Option.bind_some Option.bind_none List.length_cons List.length_nil List.take_succ_cons List.take_zero List.take_nil List.drop_succ_cons List.drop_zero List.drop_nil List.head?_cons List.map_cons List.map_nil List.getElem?_cons_zero List.getElem?_cons_succ List.cons_append List.nil_append List.append_nil List.length_map List.set_cons_zero List.set_cons_succ Nat.reduceMul eq_self Int.toNat_natCast Int.natCast_nonneg and_self true_and and_true decide_true decide_false Bool.false_eq_true Nat.zero_add Nat.add_zero List.contains_cons List.contains_nil Bool.or_false Bool.false_or beq_self_eq_true Nat.reduceBEq ne_eq not_true_eq_false not_false_eq_true Id.mk.injEq false_and and_false Nat.reduceLT Int.reduceLE Int.reduceLT Int.reduceToNat Int.reduceNeg Int.reduceAdd Nat.le_refl List.length_append beq_true beq_false Bool.not_eq_eq_eq_not or_false false_or dR ae aj aI bq bG cC aY bh aW bp cQ bJ
end Go.Proofs.YtgoelphibofcmaaGreat.V

namespace Go.Proofs.YtgoelphibofcmaaGreat.V
open Go.RowKit
attribute [local irreducible] dO wpOps gy Call
attribute [local go_sem] aT fK eS ga fZ dj upd cF K.av cP AV.cells AV.cell rowOf rowsOf part ld rowAt bL cD dG ef ik bV de ew fW fe dw ek dc db dU dV cj bl cU b4 cW cV ei eo ej cR cm dd eh bW aV cZ cI ij bx cK ck bd du bj dI AV.undef bH bS dW eb dQ dP cJ ev eE cH er ep cY da List.getD_cons_zero List.getD_cons_succ List.getD_nil List.all_cons List.all_nil Bool.and_true Bool.true_and Bool.and_self Bool.not_true Bool.not_false Option.map_some Option.map_none Option.bind_some Option.bind_none List.length_cons List.length_nil List.take_succ_cons List.take_zero List.take_nil List.drop_succ_cons List.drop_zero List.drop_nil List.head?_cons List.map_cons List.map_nil List.getElem?_cons_zero List.getElem?_cons_succ List.cons_append List.nil_append List.append_nil List.length_map List.set_cons_zero List.set_cons_succ Nat.reduceMul eq_self Int.toNat_natCast Int.natCast_nonneg and_self true_and and_true decide_true decide_false Bool.false_eq_true Nat.zero_add Nat.add_zero List.contains_cons List.contains_nil Bool.or_false Bool.false_or beq_self_eq_true Nat.reduceBEq ne_eq not_true_eq_false not_false_eq_true Id.mk.injEq false_and and_false Nat.reduceLT Int.reduceLE Int.reduceLT Int.reduceToNat Int.reduceNeg Int.reduceAdd Nat.le_refl List.length_append beq_true beq_false Bool.not_eq_eq_eq_not or_false false_or dR ae aj aI bq bG cC aY bh aW bp cQ bJ
theorem tp {s:az} {es:List ad} {i:Nat} (hA:lu s.aH (ec s es i)) (hf:iC s (ec s es i) (aD es i).aQ (aD es i).aO=true):eR (ec s es i) (aD es i).aQ<0:=
 (zr hA _).1 (by simp[iC]at hf;exact hf.1.2)
theorem tq {s:az} (hP:vL s) {es:List ad}:∀i,i<=es.length->(∀j,j<i->ft s es j=true)->tN s (es.take i,ec s es i)
 |0,_,_=>⟨fun q=>by simp[ec],by simp[ec]⟩
 |i+1,hi,h=>by
  have ih:=tq hP (es:=es) i (by omega) fun j hj=>h j (by omega)
  have hg:=h i (by omega)
  rw[ft,Bool.and_eq_true,Ho,Bool.and_eq_true]at hg
  have hA:=mo hP (es:=es) i (by omega) fun j hj=>h j (by omega)
  have:=ih.put (x:=aD es i) (tp hA hg.1.2)
  rw[pE s es (by omega),mJ (by omega)]
  exact this
def Df (s:az) (es:List ad) (σ:ar) (r:AV) (σ':ar):Prop:=
 ∃v,r=.gE [.agg [v],.int .i64 (nI s es).1,.int .i64 (nI s es).2]/\(((nI s es).2≠0/\v=.bE)∨((nI s es).2=0/\∃o:Id,v=.own o 0 (ec s es es.length).length/\σ'.get o=some ⟨true,3,(ec s es es.length).map aa⟩/\σ.next<=o.bQ/\o.bQ<σ'.next))/\Kept σ σ'
theorem vH (s:az) (es:List ad) (hn:gn s.aH) (hm:rl s) (hl:es.length<=1048576) (σ:ar):Call Tryz.prog 148 [.agg (au s),.sl (es.map aa)] σ (Df s es σ):=by
 have h1:=xH NY s hn hm.s.g hm.s.t hm.s.s hm.a
 refine eQ eK rfl fun kd=>?_
 clear kd
 cases h0:nu s
 ·have hr:nI s es=(0,1):=by rw[nI,h0];rfl
  rw[h0]at h1
  rw[au]at h1 ⊢
  (repeat(first|((repeat(revert hN;revert N;apply Pn.out));refine wk @Nat.zero_add ?_;(repeat(refine Pn.mk ?_;intro N hN)))|((try apply Or.inl);refine⟨_,aq.x (h1) (sd @Nat.zero_add),?_⟩;refine hN _ _ ?_;clear hN N)))
  exact eX (.inl rfl) (vs:=[.agg [.bE],.int .i64 0,.int .i64 1]) (sd @Nat.zero_add) (by
   rw[Df,hr]
   exact⟨.bE,rfl,.inl ⟨by decide,rfl⟩,by(try dsimp only);omega,fun x hx=>by have h:=dr hx;simp only[go_sem, ↓reduceIte,Nat.reduceEqDiff,Nat.reduceAdd,Nat.reduceSub,Nat.reduceLeDiff,reduceCtorEq,h]⟩)
 rw[h0]at h1
 have hP:=sr.1 h0
 by_cases h5:es.length<=500
 ·have hr:nI s es=Hp s es:=by rw[nI,h0,if_pos rfl,if_pos h5]
  have hd:decide ((500:Int)<(es.length:Int))=false:=decide_eq_false (by omega)
  have RM:=hP.x9.1.xx
  have hso:=hP.some
  have hc:=fun σ=>r6 s hP.set s.bf.ai hP.x9 σ
  rw[au]at h1 hc ⊢
  (repeat(first|((repeat(revert hN;revert N;apply Pn.out));refine wk @hd ?_;(repeat(refine Pn.mk ?_;intro N hN)))|((try apply Or.inl);refine⟨_,aq.x (h1) (sd @hd),?_⟩;refine hN _ _ ?_;clear hN N)))
  refine .inr (aJ _ _ _ _ _ (fun r σ1 hq=>?_) (hc _))
  obtain⟨g1,x1⟩:=σ1
  obtain⟨c,T,O,rfl,hC,Qp,Qo,Uy,s9,jz⟩:=hq
  (try dsimp only at hC Qp Qo Uy s9 jz)
  have k2:=jz ⟨148000000,σ.next⟩ (by(try dsimp only);omega)
  have k4:=jz ⟨148000001,σ.next⟩ (by(try dsimp only);omega)
  simp only[go_sem, ↓reduceIte,Nat.reduceEqDiff,Nat.reduceAdd,Nat.reduceSub,Nat.reduceLeDiff,reduceCtorEq]at k2 k4
  have hcx:=hC.cv
  have hTx:=hC.tv
  have hOx:=hC.ov
  have UW:∀x:Id,x.bQ<σ.next->g1 x=σ.get x:=fun x hx=>by
   have h2:=jz x (by(try dsimp only);omega)
   have h3:=dr hx
   simp only[go_sem, ↓reduceIte,Nat.reduceEqDiff,Nat.reduceAdd,Nat.reduceSub,Nat.reduceLeDiff,reduceCtorEq,h3]at h2
   exact h2
  clear hc jz
  refine hN _ _ ?_
  clear hN N
  (try((repeat(revert hN;revert N;apply Pn.out));refine wk (tw @k2 @k4) ?_;(repeat(refine Pn.mk ?_;intro N hN))))
  refine aZ (fun n env st=>∃i:Nat,n=(es.length)-i/\i<=(es.length)/\env 26=.int .i64 (i:Int)/\st.get ⟨148000000,σ.next⟩=some ⟨true,4,[[.sl (s.aH.ax.map bR),.sl (s.aH.ai.map bB),.sl (s.bf.ai.map aa),.int .i64 s.ay]]⟩/\st.get ⟨148000001,σ.next⟩=some ⟨true,1,[[.bE]]⟩/\(∀j:Nat,j<i->ft s es j=true)/\(x1<=st.next/\jH st.get st.next c T O s (s.bf.ai++es.take i)/\∀x:Id,x.bQ<σ.next->st.get x=σ.get x)) (es.length) ⟨0,by omega,by omega,sl (tw @k2 @k4),sl (tw @k2 @k4),sl (tw @k2 @k4),fun _ h=>absurd h (Nat.not_lt_zero _),by(try dsimp only);exact⟨by omega,by
   have:=hC.frame (g':=g1) (n':=x1+1+1) (by omega) fun x hx=>rfl
   simp only[go_sem, ↓reduceIte,Nat.reduceEqDiff,Nat.reduceAdd,Nat.reduceSub,Nat.reduceLeDiff,reduceCtorEq]
   simpa using this,fun x hx=>by have h2:=UW x hx;simp only[go_sem, ↓reduceIte,Nat.reduceEqDiff,Nat.reduceAdd,Nat.reduceSub,Nat.reduceLeDiff,reduceCtorEq,h2]⟩⟩ ?_
  rintro n_a env_a st_a ⟨i,rfl,ale,a26,ag0,ag1,j9,j4⟩ dx
  have a1:=dx 1 (by kernel_rfl);have a2:=dx 2 (by kernel_rfl);have a4:=dx 4 (by kernel_rfl);have a7:=dx 7 (by kernel_rfl);have a24:=dx 24 (by kernel_rfl);have a25:=dx 25 (by kernel_rfl)
  simp only[go_sem, ↓reduceIte,Nat.reduceEqDiff,Nat.reduceAdd,Nat.reduceSub,Nat.reduceLeDiff,reduceCtorEq,k2,k4]at a1 a2 a4 a7 a24 a25
  clear dx
  obtain⟨an,aC,aK⟩:=j4
  have BB:=mo hP (es:=es) i (by omega) j9
  have LJ:=tq hP (es:=es) i (by omega) j9
  have BG:=BB.1.xx
  have lS:=LJ.perm.length_eq
  have acv:=aC.cv
  have Ln:=aC.tv
  have zo:=aC.ov
  have nv:∀{x y:Id},x.bQ<y.bQ->x≠y:=fun h e=>by rw[e]at h;omega
  by_cases hi:(i:Int)<(es.length:Int)
  ·have cz:∀{e:Env} {gg:Rows} {nx:Nat},(e 26=.int .i64 (IntKind.i64.wrap ((i:Int)+1)))->(gg ⟨148000000,σ.next⟩=some ⟨true,4,[[.sl (s.aH.ax.map bR),.sl (s.aH.ai.map bB),.sl (s.bf.ai.map aa),.int .i64 s.ay]]⟩)->(gg ⟨148000001,σ.next⟩=some ⟨true,1,[[.bE]]⟩)->(ft s es i=true)->(x1<=nx/\jH gg nx c T O s (s.bf.ai++es.take (i+1))/\∀x:Id,x.bQ<σ.next->gg x=σ.get x)->∃m0,m0<(es.length)-i/\∃i:Nat,m0=(es.length)-i/\i<=(es.length)/\e 26=.int .i64 (i:Int)/\gg ⟨148000000,σ.next⟩=some ⟨true,4,[[.sl (s.aH.ax.map bR),.sl (s.aH.ai.map bB),.sl (s.bf.ai.map aa),.int .i64 s.ay]]⟩/\gg ⟨148000001,σ.next⟩=some ⟨true,1,[[.bE]]⟩/\(∀j:Nat,j<i->ft s es j=true)/\(x1<=nx/\jH gg nx c T O s (s.bf.ai++es.take i)/\∀x:Id,x.bQ<σ.next->gg x=σ.get x):=fun x1 x2 x3 x4 x5=>⟨_,by omega,i+1,rfl,by omega,(by rw[x1,aA (by omega)]),x2,x3,(all_succ j9 x4),x5⟩
   have fh:i<es.length:=by omega
   have jl:=fE fh
   have ke:(es.map aa).length=es.length:=by simp
   have Eb:=BY s.aH (aD es i).aO
   rw[ab]at Eb
   cases ht:dY s.aH (aD es i).aO
   ·rw[ht]at Eb
    have hB:Ho s es i=false:=by rw[Ho,ht];rfl
    have mQ:=oY fh j9 (by rw[ft,hB];rfl)
    rw[hB]at mQ
    (repeat(first|((repeat(revert hN;revert N;apply Pn.out));refine wk (tw @a26 (tw @ag0 (tw @ag1 (tw @a1 (tw @a2 (tw @a4 (tw @a7 (tw @a24 (tw @a25 (tw @hi (tw @jl (tw @ke @aa.eq_1)))))))))))) ?_;(repeat(refine Pn.mk ?_;intro N hN)))|((try apply Or.inl);refine⟨_,aq.x (Eb) (sd (tw @a26 (tw @ag0 (tw @ag1 (tw @a1 (tw @a2 (tw @a4 (tw @a7 (tw @a24 (tw @a25 (tw @hi (tw @jl (tw @ke @aa.eq_1))))))))))))),?_⟩;refine hN _ _ ?_;clear hN N)))
    exact eX (.inl rfl) (vs:=[.agg [.bE],.int .i64 (i:Int),.int .i64 5]) (sd (tw @a26 (tw @ag0 (tw @ag1 (tw @a1 (tw @a2 (tw @a4 (tw @a7 (tw @a24 @a25))))))))) (by
     rw[Df,hr,mQ]
     exact⟨.bE,rfl,.inl ⟨by simp,rfl⟩,by(try dsimp only);omega,fun x hx=>by
      have h:=dr (i:=x) (n:=st_a.next) (by omega)
      have h2:=dr hx
      have h3:=aK x hx
      simp only[go_sem, ↓reduceIte,Nat.reduceEqDiff,Nat.reduceAdd,Nat.reduceSub,Nat.reduceLeDiff,reduceCtorEq,h,h2,h3]⟩)
   ·rw[ht]at Eb
    have Qj:∀y,0<=gQ (s.bf.ai++es.take i) y->dY s.aH (gQ (s.bf.ai++es.take i) y)=true:=fun y hy=>by
     rw[LJ.at_]at hy ⊢
     exact iy.A4 BB y hy
    (repeat(first|((repeat(revert hN;revert N;apply Pn.out));refine wk (tw @a26 (tw @ag0 (tw @ag1 (tw @a1 (tw @a2 (tw @a4 (tw @a7 (tw @a24 (tw @a25 (tw @hi (tw @jl (tw @ke @aa.eq_1)))))))))))) ?_;(repeat(refine Pn.mk ?_;intro N hN)))|((try apply Or.inl);refine⟨_,aq.x (Eb) (sd (tw @a26 (tw @ag0 (tw @ag1 (tw @a1 (tw @a2 (tw @a4 (tw @a7 (tw @a24 (tw @a25 (tw @hi (tw @jl (tw @ke @aa.eq_1))))))))))))),?_⟩;refine hN _ _ ?_;clear hN N)))
    have qG:=LJ.fit (aD es i).aQ (aD es i).aO
    (try dsimp only at qG)
    refine .inl ⟨_,I3 (aC.Dt.frame (by(try dsimp only);omega) (by(have:=dr aC.cv);simp only[go_sem, ↓reduceIte,Nat.reduceEqDiff,Nat.reduceAdd,Nat.reduceSub,Nat.reduceLeDiff,reduceCtorEq,this]) (by(have:=dr aC.tv);simp only[go_sem, ↓reduceIte,Nat.reduceEqDiff,Nat.reduceAdd,Nat.reduceSub,Nat.reduceLeDiff,reduceCtorEq,this])) hP.set Qj (aD es i).aQ (aD es i).aO ht,?_⟩
    refine hN _ _ ?_
    clear hN N
    have D7:Ho s es i=iC s (ec s es i) (aD es i).aQ (aD es i).aO:=by rw[Ho,ht,Bool.true_and]
    cases hf:iC s (ec s es i) (aD es i).aQ (aD es i).aO
    ·rw[hf]at qG D7
     have mQ:=oY fh j9 (by rw[ft,D7];rfl)
     rw[D7]at mQ
     (try((repeat(revert hN;revert N;apply Pn.out));refine wk (tw @a26 (tw @ag0 (tw @ag1 (tw @a1 (tw @a2 (tw @a4 (tw @a7 (tw @a24 (tw @a25 (tw @qG @jl)))))))))) ?_;(repeat(refine Pn.mk ?_;intro N hN))))
     exact eX (.inl rfl) (vs:=[.agg [.bE],.int .i64 (i:Int),.int .i64 5]) (sd (tw @a26 (tw @ag0 (tw @ag1 (tw @a1 (tw @a2 (tw @a4 (tw @a7 (tw @a24 @a25))))))))) (by
      rw[Df,hr,mQ]
      exact⟨.bE,rfl,.inl ⟨by simp,rfl⟩,by(try dsimp only);omega,fun x hx=>by
       have h:=dr (i:=x) (n:=st_a.next) (by omega)
       have h2:=dr hx
       have h3:=aK x hx
       simp only[go_sem, ↓reduceIte,Nat.reduceEqDiff,Nat.reduceAdd,Nat.reduceSub,Nat.reduceLeDiff,reduceCtorEq,h,h2,h3]⟩)
    ·rw[hf]at qG D7
     obtain⟨rws,C1⟩:∃rws,s.bf.ai++es.take i=rws:=⟨_,rfl⟩
     have qI:(rws.map aa).length=(ec s es i).length:=by rw[List.length_map,<-C1];exact lS
     rw[C1]at aC Qj
     have rC:=aC.row
     have rT:=aC.tl
     have vC:=dr (i:=c) (n:=st_a.next) (by omega)
     have vT:=dr (i:=T) (n:=st_a.next) (by omega)
     have v0:=dr (i:=⟨148000000,σ.next⟩) (n:=st_a.next) (by(try dsimp only);omega)
     have v1:=dr (i:=⟨148000001,σ.next⟩) (n:=st_a.next) (by(try dsimp only);omega)
     by_cases h6:500<=(ec s es i).length
     ·have mQ:=oY fh j9 (by rw[ft,D7,Bool.true_and];exact decide_eq_false (by omega))
      rw[D7]at mQ
      have OD:(500:Int)<=((ec s es i).length:Int):=by omega
      (try((repeat(revert hN;revert N;apply Pn.out));refine wk (tw @a26 (tw @ag0 (tw @ag1 (tw @a1 (tw @a2 (tw @a4 (tw @a7 (tw @a24 (tw @a25 (tw @qG (tw @jl (tw @rC (tw @rT (tw @vC (tw @vT (tw @qI @OD)))))))))))))))) ?_;(repeat(refine Pn.mk ?_;intro N hN))))
      exact eX (.inl rfl) (vs:=[.agg [.bE],.int .i64 0,.int .i64 4]) (sd (tw @a26 (tw @ag0 (tw @ag1 (tw @a1 (tw @a2 (tw @a4 (tw @a7 (tw @a24 @a25))))))))) (by
       rw[Df,hr,mQ]
       exact⟨.bE,rfl,.inl ⟨by simp,rfl⟩,by(try dsimp only);omega,fun x hx=>by
        have h:=dr (i:=x) (n:=st_a.next) (by omega)
        have h2:=dr hx
        have h3:=aK x hx
        simp only[go_sem, ↓reduceIte,Nat.reduceEqDiff,Nat.reduceAdd,Nat.reduceSub,Nat.reduceLeDiff,reduceCtorEq,h,h2,h3]⟩)
     ·have OD:¬(500:Int)<=((ec s es i).length:Int):=by omega
      have sI:ft s es i=true:=by rw[ft,D7,Bool.true_and];exact decide_eq_true (by omega)
      (try((repeat(revert hN;revert N;apply Pn.out));refine wk (tw @a26 (tw @ag0 (tw @ag1 (tw @a1 (tw @a2 (tw @a4 (tw @a7 (tw @a24 (tw @a25 (tw @qG (tw @jl (tw @rC (tw @rT (tw @vC (tw @vT (tw @qI @OD)))))))))))))))) ?_;(repeat(refine Pn.mk ?_;intro N hN))))
      have LY:x7 (aD es i).aQ=true:=by simp[iC]at hf;exact hf.1.1
      have kg:=LJ.no (tp BB hf)
      (try dsimp only at kg)
      rw[C1]at kg
      refine .inr (aJ _ _ _ _ _ (fun r σ2 hq=>?_) (Kb (σ:=⟨bL (bL st_a.get ⟨148008003,st_a.next+1⟩ ⟨true,3,[[.int .i64 0,.int .i64 0,.int .i64 0]]⟩) ⟨148008003,st_a.next+1⟩ ⟨true,3,[[.int .i64 (aD es i).aQ.fb,.int .i64 (aD es i).aQ.eV,.int .i64 (aD es i).aO]]⟩,st_a.next+1+1+1+1+1⟩) (aC.frame (by(try dsimp only);omega) fun x hx=>by
       have h9:=dr hx
       simp only[go_sem, ↓reduceIte,Nat.reduceEqDiff,Nat.reduceAdd,Nat.reduceSub,Nat.reduceLeDiff,reduceCtorEq,h9]) hP.set Qj (aD es i).aQ LY (aD es i).aO ht kg))
      obtain⟨g2,x2⟩:=σ2
      obtain⟨rfl,DN,DZ,s5⟩:=hq
      (try dsimp only at DN DZ s5)
      have m0:=s5 ⟨148000000,σ.next⟩ (by(try dsimp only);omega) (nv (by(try dsimp only);omega)) (nv (by(try dsimp only);omega))
      have m1:=s5 ⟨148000001,σ.next⟩ (by(try dsimp only);omega) (nv (by(try dsimp only);omega)) (nv (by(try dsimp only);omega))
      simp only[go_sem, ↓reduceIte,Nat.reduceEqDiff,Nat.reduceAdd,Nat.reduceSub,Nat.reduceLeDiff,reduceCtorEq,v0,v1,a26,ag0,ag1,a1,a2,a4,a7,a24,a25]at m0 m1
      have uE:(⟨(aD es i).aQ,(aD es i).aO⟩:ad)=aD es i:=rfl
      rw[uE,<-C1,List.append_assoc,<-mJ fh]at DN
      have Q9:∀y:Id,y.bQ<σ.next->g2 y=σ.get y:=fun y hy=>by
       have h3:=s5 y (by omega) (nv (by omega)) (nv (by omega))
       have h4:=dr (i:=y) (n:=st_a.next) (by omega)
       have h5:=aK y hy
       simp only[go_sem, ↓reduceIte,Nat.reduceEqDiff,Nat.reduceAdd,Nat.reduceSub,Nat.reduceLeDiff,reduceCtorEq,h4,h5]at h3
       exact h3
      refine hN _ _ ?_
      clear hN N
      (try((repeat(revert hN;revert N;apply Pn.out));refine wk (tw @a26 (tw @ag0 (tw @ag1 (tw @a1 (tw @a2 (tw @a4 (tw @a7 (tw @a24 @a25)))))))) ?_;(repeat(refine Pn.mk ?_;intro N hN))))
      refine cz ?_ ?_ ?_ (sI) (by(try dsimp only);exact⟨by omega,DN.frame (by(try dsimp only);omega) fun x hx=>rfl,fun x hx=>Q9 x hx⟩)
      all_goals simp only[go_sem, ↓reduceIte,Nat.reduceEqDiff,Nat.reduceAdd,Nat.reduceSub,Nat.reduceLeDiff,reduceCtorEq,a26,ag0,ag1,a1,a2,a4,a7,a24,a25,m0,m1]
  ·have kN:i=es.length:=by omega
   subst kN
   have mQ:=F1 j9
   have M9:s.bf.ai++es.take es.length≠[]:=fun e=>by have:=congrArg List.length e;rw[List.length_append,List.length_nil]at this;omega
   (try((repeat(revert hN;revert N;apply Pn.out));refine wk (tw @a26 (tw @ag0 (tw @ag1 (tw @a1 (tw @a2 (tw @a4 (tw @a7 (tw @a24 (tw @a25 @hi))))))))) ?_;(repeat(refine Pn.mk ?_;intro N hN))))
   refine .inr (aJ _ _ _ _ _ (fun r σ2 hq=>?_) (Di (σ:=⟨st_a.get,_⟩) (L:=ec s es es.length) (aC.frame (by(try dsimp only);omega) fun x _=>rfl) (by have:=lS;(try dsimp only at this);omega) M9 BB.1.Kl LJ.perm))
   obtain⟨g2,x2⟩:=σ2
   obtain⟨o,rfl,q1,q2,q3,q4,q5⟩:=hq
   (try dsimp only at q1 q2 q3 q4 q5)
   have m1:=(q5 ⟨148000001,σ.next⟩ (by(try dsimp only);omega) (nv (by(try dsimp only);omega))).trans ag1
   refine hN _ _ ?_
   clear hN N
   (try((repeat(revert hN;revert N;apply Pn.out));refine wk (tw @a26 (tw @ag0 (tw @ag1 (tw @a1 (tw @a2 (tw @a4 (tw @a7 (tw @a24 (tw @a25 @m1))))))))) ?_;(repeat(refine Pn.mk ?_;intro N hN))))
   have vo:(o=(⟨148000001,σ.next⟩:Id))=False:=eq_false fun e=>by rw[e]at q2;(try dsimp only at q2);omega
   exact eX (.inl rfl) (vs:=[.agg [.own o 0 (ec s es es.length).length],.int .i64 0,.int .i64 0]) (sd (tw @a26 (tw @ag0 (tw @ag1 (tw @a1 (tw @a2 (tw @a4 (tw @a7 (tw @a24 @a25))))))))) (by
    rw[Df,hr,mQ]
    exact⟨_,rfl,.inr ⟨rfl,o,rfl,sd (tw @vo @q1),by omega,by(try dsimp only);omega⟩,by(try dsimp only);omega,fun x hx=>by
     have h2:=dr hx
     have h3:=(q5 x (by(try dsimp only);omega) (nv (by omega))).trans (aK x hx)
     simp only[go_sem, ↓reduceIte,Nat.reduceEqDiff,Nat.reduceAdd,Nat.reduceSub,Nat.reduceLeDiff,reduceCtorEq,h2,h3]⟩)
 ·have hr:nI s es=(0,2):=by rw[nI,h0,if_pos rfl,if_neg h5]
  have hd:decide ((500:Int)<(es.length:Int))=true:=decide_eq_true (by omega)
  rw[au]at h1 ⊢
  (repeat(first|((repeat(revert hN;revert N;apply Pn.out));refine wk @hd ?_;(repeat(refine Pn.mk ?_;intro N hN)))|((try apply Or.inl);refine⟨_,aq.x (h1) (sd @hd),?_⟩;refine hN _ _ ?_;clear hN N)))
  exact eX (.inl rfl) (vs:=[.agg [.bE],.int .i64 0,.int .i64 2]) (sd @Nat.zero_add) (by
   rw[Df,hr]
   exact⟨.bE,rfl,.inl ⟨by decide,rfl⟩,by(try dsimp only);omega,fun x hx=>by have h:=dr hx;simp only[go_sem, ↓reduceIte,Nat.reduceEqDiff,Nat.reduceAdd,Nat.reduceSub,Nat.reduceLeDiff,reduceCtorEq,h]⟩)
end Go.Proofs.YtgoelphibofcmaaGreat.V

namespace Go.Proofs.YtgoelphibofcmaaGreat.V
open Go.RowKit
attribute [local irreducible] dO wpOps gy Call
attribute [local go_sem] aT fK eS ga fZ dj upd cF K.av cP AV.cells AV.cell rowOf rowsOf part ld rowAt bL cD dG ef ik bV de ew fW fe dw ek dc db dU dV cj bl cU b4 cW cV ei eo ej cR cm dd eh bW aV cZ cI ij bx cK ck bd du bj dI AV.undef bH bS dW eb dQ dP cJ ev eE cH er ep cY da List.getD_cons_zero List.getD_cons_succ List.getD_nil List.all_cons List.all_nil Bool.and_true Bool.true_and Bool.and_self Bool.not_true Bool.not_false Option.map_some Option.map_none Option.bind_some Option.bind_none List.length_cons List.length_nil List.take_succ_cons List.take_zero List.take_nil List.drop_succ_cons List.drop_zero List.drop_nil List.head?_cons List.map_cons List.map_nil List.getElem?_cons_zero List.getElem?_cons_succ List.cons_append List.nil_append List.append_nil List.length_map List.set_cons_zero List.set_cons_succ Nat.reduceMul eq_self Int.toNat_natCast Int.natCast_nonneg and_self true_and and_true decide_true decide_false Bool.false_eq_true Nat.zero_add Nat.add_zero List.contains_cons List.contains_nil Bool.or_false Bool.false_or beq_self_eq_true Nat.reduceBEq ne_eq not_true_eq_false not_false_eq_true Id.mk.injEq false_and and_false Nat.reduceLT Int.reduceLE Int.reduceLT Int.reduceToNat Int.reduceNeg Int.reduceAdd Nat.le_refl List.length_append beq_true beq_false Bool.not_eq_eq_eq_not or_false false_or dR ae aj aI bq bG cC aY bh aW bp cQ bJ
theorem J9 {s:az} {es:List ad} (h:(nI s es).2=0):vL s/\es.length<=500/\∀j,j<es.length->ft s es j=true:=by
 unfold nI at h
 split at h
 ·rename_i h0
  split at h
  ·rename_i h5
   refine⟨sr.1 h0,h5,fun j hj=>?_⟩
   unfold Hp at h
   split at h
   ·rename_i hfind
    have:=List.find?_eq_none.1 hfind j (List.mem_range.2 hj)
    simpa using this
   ·split at h<;>simp at h
  ·simp at h
 ·simp at h
noncomputable def Eh (s:az) (es:List ad):List Int×Int:=if (nI s es).2=0 then(n9 s es es.length,0)else([],(nI s es).2)
theorem Db (s:az) (es:List ad) (hn:gn s.aH) (hg:s.aH.ax.length<=1048576) (ht:s.aH.ai.length<=1048576):∃w,l9 aE (Eh s es).1 w/\jq Tryz.prog 51 [.agg (au s),.sl (es.map aa)] (.gE [w,.int .i64 (Eh s es).2]):=by
 have h1:=Em s es hn hg ht
 by_cases h0:(nI s es).2=0
 ·obtain⟨hP,h5,dC⟩:=J9 h0
  have h2:=Cb s hP es dC h5
  have hr:Eh s es=(n9 s es es.length,0):=by rw[Eh,if_pos h0]
  rw[hr]
  refine⟨_,.inr rfl,?_⟩
  rw[h0]at h1
  refine jq.body eK rfl fun kd σ=>?_
  clear kd
  rw[au]at h1 h2 ⊢
  (repeat(first|((repeat(revert hN;revert N;apply Pn.out));refine wk @Nat.zero_add ?_;(repeat(refine Pn.mk ?_;intro N hN)))|((try apply Or.inl);refine⟨_,aq.x (h1) (sd @Nat.zero_add),?_⟩;refine hN _ _ ?_;clear hN N)|((try apply Or.inl);refine⟨_,aq.x (h2) (sd @Nat.zero_add),?_⟩;refine hN _ _ ?_;clear hN N)))
  exact tt (.inl rfl) (vs:=[.sl ((n9 s es es.length).map aE),.int .i64 0]) (sd @Nat.zero_add) (by simp only[eY,bJ,ae,aj,cC,aI,Option.map_some])
 ·have hr:Eh s es=([],(nI s es).2):=by rw[Eh,if_neg h0]
  rw[hr]
  refine⟨.bE,.inl ⟨rfl,rfl⟩,?_⟩
  have hd:decide ((nI s es).2=0)=false:=decide_eq_false h0
  refine jq.body eK rfl fun kd σ=>?_
  clear kd
  rw[au]at h1 ⊢
  (repeat(first|((repeat(revert hN;revert N;apply Pn.out));refine wk @hd ?_;(repeat(refine Pn.mk ?_;intro N hN)))|((try apply Or.inl);refine⟨_,aq.x (h1) (sd @hd),?_⟩;refine hN _ _ ?_;clear hN N)))
  exact tt (.inl rfl) (vs:=[.bE,.int .i64 (nI s es).2]) (sd @Nat.zero_add) (by simp only[eY,bJ,ae,aj,aY,aI,Option.map_some])
theorem Si {m:Int} {d:Nat} (hd:d<4) (h0:0<=m) (h1:m<p2 d):dG .or .i64 m (p2 d)=some (.int .i64 (m+p2 d)):=by
 have:d=0∨d=1∨d=2∨d=3:=by omega
 rcases this with rfl|rfl|rfl|rfl
 ·have:m=0:=by have h:p2 0=1:=rfl;omega
  subst this;rfl
 ·have h:p2 1=2:=rfl
  have:m=0∨m=1:=by omega
  rcases this with rfl|rfl<;>rfl
 ·have h:p2 2=4:=rfl
  have:m=0∨m=1∨m=2∨m=3:=by omega
  rcases this with rfl|rfl|rfl|rfl<;>rfl
 ·have h:p2 3=8:=rfl
  have:m=0∨m=1∨m=2∨m=3∨m=4∨m=5∨m=6∨m=7:=by omega
  rcases this with rfl|rfl|rfl|rfl|rfl|rfl|rfl|rfl<;>rfl
def Ad (s:az) (es:List ad) (ve vi vs:AV):Row:=⟨true,8,[[.sl (s.aH.ax.map bR),.sl (s.aH.ai.map bB),.sl (s.bf.ai.map aa),.int .i64 s.ay,.sl (es.map aa),ve,vi,vs]]⟩
def Qd (s:az) (es:List ad) (ve:AV) (m:Nat) (X:Id) (i:Nat) (g:Rows) (n:Nat):Prop:=∃vi vs:AV,g X=some (Ad s es ve vi vs)/\((i=0/\vi=.bE/\vs=.bE)∨∃(u v:Id) (L:List Int),vi=.own u 0 i/\vs=.own v 0 i/\g u=some ⟨true,1,(n9 s es i).map aE⟩/\g v=some ⟨true,1,L.map aE⟩/\L.length=i/\0<i/\m<=u.bQ/\m<=v.bQ/\u.bQ<n/\v.bQ<n/\u≠v)
theorem Qd.frame {s:az} {es:List ad} {ve:AV} {m:Nat} {X:Id} {i:Nat} {g g':Rows} {n n':Nat} (h:Qd s es ve m X i g n) (hX:X.bQ<n) (hn:n<=n') (hf:∀x:Id,x.bQ<n->g' x=g x):Qd s es ve m X i g' n':=by
 obtain⟨vi,vs,h1,h2⟩:=h
 refine⟨vi,vs,(hf X hX).trans h1,?_⟩
 rcases h2 with h2|⟨u,v,L,a1,a2,a3,a4,a5,a6,a7,a8,a9,l5,Iy⟩
 ·exact .inl h2
 ·exact .inr ⟨u,v,L,a1,a2,(hf u a9).trans a3,(hf v l5).trans a4,a5,a6,a7,a8,by omega,by omega,Iy⟩
def TW (s:az) (es:List ad) (σ:ar) (r:AV) (σ':ar):Prop:=
 (((nI s es).2≠0/\r=.gE [.gN,.int .i64 (nI s es).2])∨((nI s es).2=0/\∃(X:Id) (ve vi vs:AV),r=.gE [.ptr X 0 0,.int .i64 0]/\σ'.get X=some (Ad s es ve vi vs)/\σ.next<=X.bQ/\X.bQ<σ'.next/\((es.length=0/\vi=.bE)∨∃u:Id,0<es.length/\vi=.own u 0 es.length/\σ'.get u=some ⟨true,1,(n9 s es es.length).map aE⟩/\σ.next<=u.bQ/\u.bQ<σ'.next)))/\Kept σ σ'
theorem Ps (s:az) (es:List ad) (hn:gn s.aH) (hm:rl s) (hl:es.length<=1048576) (σ:ar):Call Tryz.prog 91 [.agg (au s),.sl (es.map aa)] σ (TW s es σ):=by
 have hc:=fun σ=>vH s es hn hm hl σ
 refine eQ eK rfl fun kd=>?_
 clear kd
 rw[au]at hc ⊢
 (try((repeat(revert hN;revert N;apply Pn.out));refine wk @Nat.zero_add ?_;(repeat(refine Pn.mk ?_;intro N hN))))
 refine .inr (aJ _ _ _ _ _ (fun r σ1 hq=>?_) (hc _))
 obtain⟨g1,x1⟩:=σ1
 obtain⟨v,rfl,hv,hK⟩:=hq
 (try dsimp only at hv hK)
 have rN:=hK.1
 have k2:=hK.2 ⟨91000000,σ.next⟩ (by(try dsimp only);omega)
 (try dsimp only at rN)
 simp only[go_sem, ↓reduceIte,Nat.reduceEqDiff,Nat.reduceAdd,Nat.reduceSub,Nat.reduceLeDiff,reduceCtorEq]at k2
 have GL:∀x:Id,x.bQ<σ.next->g1 x=σ.get x:=fun x hx=>by
  have h2:=hK.2 x (by(try dsimp only);omega)
  have h3:=dr hx
  simp only[go_sem, ↓reduceIte,Nat.reduceEqDiff,Nat.reduceAdd,Nat.reduceSub,Nat.reduceLeDiff,reduceCtorEq,h3]at h2
  exact h2
 clear hc hK
 refine hN _ _ ?_
 clear hN N
 rcases hv with⟨gP,rfl⟩|⟨M9,o,rfl,ho,uC,Jp⟩
 ·have hd:decide ((nI s es).2=0)=false:=decide_eq_false gP
  (try((repeat(revert hN;revert N;apply Pn.out));refine wk (tw @k2 @hd) ?_;(repeat(refine Pn.mk ?_;intro N hN))))
  exact eX (.inl rfl) (vs:=[.gN,.int .i64 (nI s es).2]) (sd @Nat.zero_add) ⟨.inl ⟨gP,rfl⟩,by(try dsimp only);omega,fun x hx=>by
   have h1:=dr (i:=x) (n:=x1) (by omega)
   have h2:=GL x hx
   simp only[go_sem, ↓reduceIte,Nat.reduceEqDiff,Nat.reduceAdd,Nat.reduceSub,Nat.reduceLeDiff,reduceCtorEq,h1,h2]⟩
 obtain⟨hP,h5,dC⟩:=J9 M9
 have RM:=hP.x9.1.xx
 have hso:=hP.some
 have Rl:=fun σ=>r6 s hP.set s.bf.ai hP.x9 σ
 rw[au]at Rl
 have v2:=dr (i:=⟨91000000,σ.next⟩) (n:=x1) (by(try dsimp only);omega)
 (try((repeat(revert hN;revert N;apply Pn.out));refine wk (tw @k2 (tw @M9 @v2)) ?_;(repeat(refine Pn.mk ?_;intro N hN))))
 refine .inr (aJ _ _ _ _ _ (fun r σ2 hq=>?_) (Rl _))
 obtain⟨g2,x2⟩:=σ2
 obtain⟨c,T,O,rfl,hC,Qp,Qo,Uy,s9,jz⟩:=hq
 (try dsimp only at hC Qp Qo Uy s9 jz)
 have kX:=jz ⟨91004004,x1+1+1⟩ (by(try dsimp only);omega)
 have kt:=jz ⟨91000000,σ.next⟩ (by(try dsimp only);omega)
 simp only[go_sem, ↓reduceIte,Nat.reduceEqDiff,Nat.reduceAdd,Nat.reduceSub,Nat.reduceLeDiff,reduceCtorEq,k2,v2]at kX kt
 have hcx:=hC.cv
 have hTx:=hC.tv
 have hOx:=hC.ov
 have DR:∀x:Id,x.bQ<σ.next->g2 x=σ.get x:=fun x hx=>by
  have h2:=jz x (by(try dsimp only);omega)
  have h3:=dr (i:=x) (n:=x1) (by omega)
  have h4:=dr (i:=x) (n:=x1+1+1) (by omega)
  have h5:=GL x hx
  simp only[go_sem, ↓reduceIte,Nat.reduceEqDiff,Nat.reduceAdd,Nat.reduceSub,Nat.reduceLeDiff,reduceCtorEq,h3,h4,h5]at h2
  exact h2
 clear Rl jz k2 v2 GL
 refine hN _ _ ?_
 clear hN N
 obtain⟨ve,hve⟩:∃ve:AV,AV.own o 0 (ec s es es.length).length=ve:=⟨_,rfl⟩
 rw[hve]at kX
 (try((repeat(revert hN;revert N;apply Pn.out));refine wk (tw @kt @kX) ?_;(repeat(refine Pn.mk ?_;intro N hN))))
 refine aZ (fun n env st=>∃i:Nat,n=(es.length)-i/\i<=(es.length)/\env 39=.int .i64 (i:Int)/\st.get ⟨91000000,σ.next⟩=some ⟨true,4,[[.sl (s.aH.ax.map bR),.sl (s.aH.ai.map bB),.sl (s.bf.ai.map aa),.int .i64 s.ay]]⟩/\(x2<=st.next/\jH st.get st.next c T O s (s.bf.ai++es.take i)/\Qd s es ve x2 ⟨91004004,x1+1+1⟩ i st.get st.next/\∀x:Id,x.bQ<σ.next->st.get x=σ.get x)) (es.length) ⟨0,by omega,by omega,sl (tw @kt @kX),sl (tw @kt @kX),by(try dsimp only);exact⟨by omega,by
   have:=hC.frame (g':=g2) (n':=x2+1+1) (by omega) fun x hx=>rfl
   simp only[go_sem, ↓reduceIte,Nat.reduceEqDiff,Nat.reduceAdd,Nat.reduceSub,Nat.reduceLeDiff,reduceCtorEq]
   simpa using this,⟨.bE,.bE,by simp only[go_sem, ↓reduceIte,Nat.reduceEqDiff,Nat.reduceAdd,Nat.reduceSub,Nat.reduceLeDiff,reduceCtorEq,kX];rfl,.inl ⟨rfl,rfl,rfl⟩⟩,fun x hx=>by have h2:=DR x hx;simp only[go_sem, ↓reduceIte,Nat.reduceEqDiff,Nat.reduceAdd,Nat.reduceSub,Nat.reduceLeDiff,reduceCtorEq,h2]⟩⟩ ?_
 rintro n_a env_a st_a ⟨i,rfl,ale,a39,ag0,j4⟩ dx
 have a1:=dx 1 (by kernel_rfl);have a2:=dx 2 (by kernel_rfl);have a9:=dx 9 (by kernel_rfl);have l5:=dx 10 (by kernel_rfl);have a37:=dx 37 (by kernel_rfl);have HV:=dx 38 (by kernel_rfl)
 simp only[go_sem, ↓reduceIte,Nat.reduceEqDiff,Nat.reduceAdd,Nat.reduceSub,Nat.reduceLeDiff,reduceCtorEq,kt,kX]at a1 a2 a9 l5 a37 HV
 clear dx
 obtain⟨an,aC,aP,aK⟩:=j4
 have BB:=mo hP (es:=es) i (by omega) fun j hj=>dC j (by omega)
 have LJ:=tq hP (es:=es) i (by omega) fun j hj=>dC j (by omega)
 have BG:=BB.1.xx
 have acv:=aC.cv
 have Ln:=aC.tv
 have zo:=aC.ov
 have nv:∀{x y:Id},x.bQ<y.bQ->x≠y:=fun h e=>by rw[e]at h;omega
 by_cases hi:(i:Int)<(es.length:Int)
 ·have cz:∀{e:Env} {gg:Rows} {nx:Nat},(e 39=.int .i64 (IntKind.i64.wrap ((i:Int)+1)))->(gg ⟨91000000,σ.next⟩=some ⟨true,4,[[.sl (s.aH.ax.map bR),.sl (s.aH.ai.map bB),.sl (s.bf.ai.map aa),.int .i64 s.ay]]⟩)->(x2<=nx/\jH gg nx c T O s (s.bf.ai++es.take (i+1))/\Qd s es ve x2 ⟨91004004,x1+1+1⟩ (i+1) gg nx/\∀x:Id,x.bQ<σ.next->gg x=σ.get x)->∃m0,m0<(es.length)-i/\∃i:Nat,m0=(es.length)-i/\i<=(es.length)/\e 39=.int .i64 (i:Int)/\gg ⟨91000000,σ.next⟩=some ⟨true,4,[[.sl (s.aH.ax.map bR),.sl (s.aH.ai.map bB),.sl (s.bf.ai.map aa),.int .i64 s.ay]]⟩/\(x2<=nx/\jH gg nx c T O s (s.bf.ai++es.take i)/\Qd s es ve x2 ⟨91004004,x1+1+1⟩ i gg nx/\∀x:Id,x.bQ<σ.next->gg x=σ.get x):=fun x1 x2 x3=>⟨_,by omega,i+1,rfl,by omega,(by rw[x1,aA (by omega)]),x2,x3⟩
  have fh:i<es.length:=by omega
  have hg:=dC i fh
  rw[ft,Bool.and_eq_true,Ho,Bool.and_eq_true]at hg
  obtain⟨⟨FK,Qr⟩,Ji⟩:=hg
  have RI:x7 (aD es i).aQ=true:=by simp[iC]at Qr;exact Qr.1.1
  obtain⟨hx,hy⟩:=oZ RI
  have jl:=fE fh
  have ke:(es.map aa).length=es.length:=by simp
  (try((repeat(revert hN;revert N;apply Pn.out));refine wk (tw @a39 (tw @ag0 (tw @a1 (tw @a2 (tw @a9 (tw @l5 (tw @a37 (tw @HV (tw @hi (tw @jl (tw @ke @aa.eq_1))))))))))) ?_;(repeat(refine Pn.mk ?_;intro N hN))))
  refine aZ (fun n env st=>∃d:Nat,n=(4)-d/\d<=(4)/\env 43=.int .i64 (d:Int)/\env 13=.int .i64 (iI s (ec s es i) (aD es i) d)/\st.get ⟨91008002,st_a.next+1⟩=some ⟨true,3,[[.int .i64 (aD es i).aQ.fb,.int .i64 (aD es i).aQ.eV,.int .i64 (aD es i).aO]]⟩/\((∃z:Int,env 14=.int .i64 z)/\st_a.next+2<=st.next/\∀x:Id,x.bQ<st_a.next->st.get x=st_a.get x)) (4) ⟨0,by omega,by omega,sl (tw @a39 (tw @ag0 (tw @a1 (tw @a2 (tw @a9 (tw @l5 (tw @a37 @HV))))))),sl (tw @a39 (tw @ag0 (tw @a1 (tw @a2 (tw @a9 (tw @l5 (tw @a37 @HV))))))),sl (tw @a39 (tw @ag0 (tw @a1 (tw @a2 (tw @a9 (tw @l5 (tw @a37 @HV))))))),by(try dsimp only);exact⟨⟨0,sd @Nat.zero_add⟩,by omega,fun x hx=>by
   have h1:=dr hx
   simp only[go_sem, ↓reduceIte,Nat.reduceEqDiff,Nat.reduceAdd,Nat.reduceSub,Nat.reduceLeDiff,reduceCtorEq,h1]⟩⟩ ?_
  rintro n_b env_b st_b ⟨d,rfl,ble,b43,b13,bg0,bI0⟩ fU
  have b1:=fU 1 (by kernel_rfl);have b2:=fU 2 (by kernel_rfl);have b9:=fU 9 (by kernel_rfl);have nB:=fU 10 (by kernel_rfl);have qa:=fU 12 (by kernel_rfl);have uJ:=fU 37 (by kernel_rfl);have vP:=fU 38 (by kernel_rfl);have A7:=fU 39 (by kernel_rfl)
  simp only[go_sem, ↓reduceIte,Nat.reduceEqDiff,Nat.reduceAdd,Nat.reduceSub,Nat.reduceLeDiff,reduceCtorEq,a39,ag0,a1,a2,a9,l5,a37,HV]at b1 b2 b9 nB qa uJ vP A7
  clear fU
  obtain⟨⟨z,bz⟩,bn,bF⟩:=bI0
  have bC:jH st_b.get st_b.next c T O s (s.bf.ai++es.take i):=aC.frame (by omega) bF
  have b0:=(bF ⟨91000000,σ.next⟩ (by(try dsimp only);omega)).trans ag0
  by_cases hd:(d:Int)<4
  ·have gj:∀{e:Env} {gg:Rows} {nx:Nat},(e 43=.int .i64 (IntKind.i64.wrap ((d:Int)+1)))->(e 13=.int .i64 (iI s (ec s es i) (aD es i) (d+1)))->(gg ⟨91008002,st_a.next+1⟩=some ⟨true,3,[[.int .i64 (aD es i).aQ.fb,.int .i64 (aD es i).aQ.eV,.int .i64 (aD es i).aO]]⟩)->((∃z:Int,e 14=.int .i64 z)/\st_a.next+2<=nx/\∀x:Id,x.bQ<st_a.next->gg x=st_a.get x)->∃m0,m0<(4)-d/\∃d:Nat,m0=(4)-d/\d<=(4)/\e 43=.int .i64 (d:Int)/\e 13=.int .i64 (iI s (ec s es i) (aD es i) d)/\gg ⟨91008002,st_a.next+1⟩=some ⟨true,3,[[.int .i64 (aD es i).aQ.fb,.int .i64 (aD es i).aQ.eV,.int .i64 (aD es i).aO]]⟩/\((∃z:Int,e 14=.int .i64 z)/\st_a.next+2<=nx/\∀x:Id,x.bQ<st_a.next->gg x=st_a.get x):=fun x1 x2 x3 x4=>⟨_,by omega,d+1,rfl,by omega,(by rw[x1,aA (by omega)]),x2,x3,x4⟩
   have CW:d<4:=by omega
   have dK:=Ap (aD es i).aQ d (iN (by omega)) hx hy
   rw[ah,ah]at dK
   have hm:=zZ s (ec s es i) (aD es i) d
   have hp:=NB CW
   have C2:=ND CW
   have hor:=Si CW hm.1 hm.2
   simp only[go_sem, ↓reduceIte,Nat.reduceEqDiff,Nat.reduceAdd,Nat.reduceSub,Nat.reduceLeDiff,reduceCtorEq,Option.some.injEq,AV.int.injEq,true_and]at hor
   (repeat(first|((repeat(revert hN;revert N;apply Pn.out));refine wk (tw @b43 (tw @b13 (tw @bg0 (tw @b1 (tw @b2 (tw @b9 (tw @nB (tw @qa (tw @uJ (tw @vP (tw @A7 (tw @hd @b0)))))))))))) ?_;(repeat(refine Pn.mk ?_;intro N hN)))|((try apply Or.inl);refine⟨_,aq.x (dK) (sd (tw @b43 (tw @b13 (tw @bg0 (tw @b1 (tw @b2 (tw @b9 (tw @nB (tw @qa (tw @uJ (tw @vP (tw @A7 (tw @hd @b0))))))))))))),?_⟩;refine hN _ _ ?_;clear hN N)))
   have wE:=LJ.at_ (dp (aD es i).aQ d)
   (try dsimp only at wE)
   refine .inl ⟨_,Lm (σ:=⟨st_b.get,st_b.next+1+1+1⟩) (AS.frame bC.Dt (by(try dsimp only);omega) rfl rfl) (dp (aD es i).aQ d),?_⟩
   refine hN _ _ ?_
   clear hN N
   by_cases h0:0<=gQ (ec s es i) (dp (aD es i).aQ d)
   ·have rK:=Dn s.aH hP.set.form (aD es i).aO d (gQ (ec s es i) (dp (aD es i).aQ d)) FK (iy.A4 BB _ h0) (iN (by omega))
    rw[ab]at rK
    by_cases hb:0<gp s.aH (aD es i).aO d (gQ (ec s es i) (dp (aD es i).aQ d))
    ·have yE:iI s (ec s es i) (aD es i) (d+1)=iI s (ec s es i) (aD es i) d+p2 d:=by rw[iI,if_pos ⟨h0,hb⟩]
     (repeat(first|((repeat(revert hN;revert N;apply Pn.out));refine wk (tw @b43 (tw @b13 (tw @bg0 (tw @b1 (tw @b2 (tw @b9 (tw @nB (tw @qa (tw @uJ (tw @vP (tw @A7 (tw @wE (tw @h0 (tw @hb (tw @C2 (tw @bz @b0)))))))))))))))) ?_;(repeat(refine Pn.mk ?_;intro N hN)))|((try apply Or.inl);refine⟨_,aq.x (rK) (sd (tw @b43 (tw @b13 (tw @bg0 (tw @b1 (tw @b2 (tw @b9 (tw @nB (tw @qa (tw @uJ (tw @vP (tw @A7 (tw @wE (tw @h0 (tw @hb (tw @C2 (tw @bz @b0))))))))))))))))),?_⟩;refine hN _ _ ?_;clear hN N)))
     refine gj ?_ ?_ ?_ (by(try dsimp only);exact⟨⟨IntKind.i64.wrap (z+gp s.aH (aD es i).aO d (gQ (ec s es i) (dp (aD es i).aQ d))),sd @Nat.zero_add⟩,by omega,fun x hx=>bF x hx⟩)
     all_goals simp only[go_sem, ↓reduceIte,Nat.reduceEqDiff,Nat.reduceAdd,Nat.reduceSub,Nat.reduceLeDiff,reduceCtorEq,b43,b13,bg0,b1,b2,b9,nB,qa,uJ,vP,A7,hor,yE]
    ·have yE:iI s (ec s es i) (aD es i) (d+1)=iI s (ec s es i) (aD es i) d:=by rw[iI,if_neg (fun h=>hb h.2)]
     (repeat(first|((repeat(revert hN;revert N;apply Pn.out));refine wk (tw @b43 (tw @b13 (tw @bg0 (tw @b1 (tw @b2 (tw @b9 (tw @nB (tw @qa (tw @uJ (tw @vP (tw @A7 (tw @wE (tw @h0 (tw @hb (tw @bz @b0))))))))))))))) ?_;(repeat(refine Pn.mk ?_;intro N hN)))|((try apply Or.inl);refine⟨_,aq.x (rK) (sd (tw @b43 (tw @b13 (tw @bg0 (tw @b1 (tw @b2 (tw @b9 (tw @nB (tw @qa (tw @uJ (tw @vP (tw @A7 (tw @wE (tw @h0 (tw @hb (tw @bz @b0)))))))))))))))),?_⟩;refine hN _ _ ?_;clear hN N)))
     refine gj ?_ ?_ ?_ (by(try dsimp only);exact⟨⟨z,sd @bz⟩,by omega,fun x hx=>bF x hx⟩)
     all_goals simp only[go_sem, ↓reduceIte,Nat.reduceEqDiff,Nat.reduceAdd,Nat.reduceSub,Nat.reduceLeDiff,reduceCtorEq,b43,b13,bg0,b1,b2,b9,nB,qa,uJ,vP,A7,yE]
   ·have yE:iI s (ec s es i) (aD es i) (d+1)=iI s (ec s es i) (aD es i) d:=by rw[iI,if_neg (fun h=>h0 h.1)]
    (try((repeat(revert hN;revert N;apply Pn.out));refine wk (tw @b43 (tw @b13 (tw @bg0 (tw @b1 (tw @b2 (tw @b9 (tw @nB (tw @qa (tw @uJ (tw @vP (tw @A7 (tw @wE (tw @h0 @b0))))))))))))) ?_;(repeat(refine Pn.mk ?_;intro N hN))))
    refine gj ?_ ?_ ?_ (by(try dsimp only);exact⟨⟨z,sd @bz⟩,by omega,fun x hx=>bF x hx⟩)
    all_goals simp only[go_sem, ↓reduceIte,Nat.reduceEqDiff,Nat.reduceAdd,Nat.reduceSub,Nat.reduceLeDiff,reduceCtorEq,b43,b13,bg0,b1,b2,b9,nB,qa,uJ,vP,A7,yE]
  ·have CW:d=4:=by omega
   subst CW
   obtain⟨vi,vs,UF,dy⟩:=aP
   have bX:=(bF ⟨91004004,x1+1+1⟩ (by(try dsimp only);omega)).trans UF
   unfold Ad at bX
   have vX:=dr (i:=⟨91004004,x1+1+1⟩) (n:=st_b.next) (by(try dsimp only);omega)
   have vt:=dr (i:=⟨91008002,st_a.next+1⟩) (n:=st_b.next) (by(try dsimp only);omega)
   have v0:=dr (i:=⟨91000000,σ.next⟩) (n:=st_b.next) (by(try dsimp only);omega)
   have vc:=dr (i:=c) (n:=st_b.next) (by omega)
   have vT:=dr (i:=T) (n:=st_b.next) (by omega)
   have vO:=dr (i:=O) (n:=st_b.next) (by omega)
   have cX:=bU (a:=⟨91004004,x1+1+1⟩) (b:=c) (by(try dsimp only);omega)
   have TX:=bU (a:=⟨91004004,x1+1+1⟩) (b:=T) (by(try dsimp only);omega)
   have OX:=bU (a:=⟨91004004,x1+1+1⟩) (b:=O) (by(try dsimp only);omega)
   have Qj:∀y,0<=gQ (s.bf.ai++es.take i) y->dY s.aH (gQ (s.bf.ai++es.take i) y)=true:=fun y hy=>by
    rw[LJ.at_]at hy ⊢
    exact iy.A4 BB y hy
   have kg:=LJ.no (tp BB Qr)
   (try dsimp only at kg)
   have uE:(⟨(aD es i).aQ,(aD es i).aO⟩:ad)=aD es i:=rfl
   have Qv:=yS s es i
   have DX:((n9 s es i).map aE).length=i:=by rw[List.length_map,ml]
   rcases dy with⟨BI,rfl,rfl⟩|⟨u,v,L,rfl,rfl,p3,p4,p5,p6,p7,p8,p9,p10,p11⟩
   ·(try((repeat(revert hN;revert N;apply Pn.out));refine wk (tw @b43 (tw @b13 (tw @bg0 (tw @b1 (tw @b2 (tw @b9 (tw @nB (tw @qa (tw @uJ (tw @vP (tw @A7 (tw @hd (tw @bX (tw @vX @bz)))))))))))))) ?_;(repeat(refine Pn.mk ?_;intro N hN))))
    refine .inr (aJ _ _ _ _ _ (fun r σ3 hq=>?_) (Kb (by
     refine bC.three (by(try dsimp only);omega) ?_ ?_ ?_
     ·simp only[go_sem, ↓reduceIte,Nat.reduceEqDiff,Nat.reduceAdd,Nat.reduceSub,Nat.reduceLeDiff,reduceCtorEq,vc,cX]
     ·simp only[go_sem, ↓reduceIte,Nat.reduceEqDiff,Nat.reduceAdd,Nat.reduceSub,Nat.reduceLeDiff,reduceCtorEq,vT,TX]
     ·simp only[go_sem, ↓reduceIte,Nat.reduceEqDiff,Nat.reduceAdd,Nat.reduceSub,Nat.reduceLeDiff,reduceCtorEq,vO,OX]) hP.set Qj (aD es i).aQ RI (aD es i).aO FK kg))
    obtain⟨g3,x3⟩:=σ3
    obtain⟨rfl,DN,DZ,s5⟩:=hq
    (try dsimp only at DN DZ s5)
    have m0:=s5 ⟨91000000,σ.next⟩ (by(try dsimp only);omega) (nv (by(try dsimp only);omega)) (nv (by(try dsimp only);omega))
    have mX:=s5 ⟨91004004,x1+1+1⟩ (by(try dsimp only);omega) (nv (by(try dsimp only);omega)) (nv (by(try dsimp only);omega))
    have mu:=s5 ⟨91020007,st_b.next+1⟩ (by(try dsimp only);omega) (fun e=>by rw[<-e]at Ln;(try dsimp only at Ln);omega) (fun e=>by rw[<-e]at zo;(try dsimp only at zo);omega)
    have mv:=s5 ⟨91021007,st_b.next+1+1⟩ (by(try dsimp only);omega) (fun e=>by rw[<-e]at Ln;(try dsimp only at Ln);omega) (fun e=>by rw[<-e]at zo;(try dsimp only at zo);omega)
    simp only[go_sem, ↓reduceIte,Nat.reduceEqDiff,Nat.reduceAdd,Nat.reduceSub,Nat.reduceLeDiff,reduceCtorEq,v0,vX,b0]at m0 mX mu mv
    rw[uE,List.append_assoc,<-mJ fh]at DN
    have Q9:∀y:Id,y.bQ<σ.next->g3 y=σ.get y:=fun y hy=>by
     have h3:=s5 y (by omega) (nv (by omega)) (nv (by omega))
     have h4:=dr (i:=y) (n:=st_b.next) (by omega)
     have h6:=bU (a:=y) (b:=⟨91004004,x1+1+1⟩) (by(try dsimp only);omega)
     have h5:=(bF y (by omega)).trans (aK y hy)
     simp only[go_sem, ↓reduceIte,Nat.reduceEqDiff,Nat.reduceAdd,Nat.reduceSub,Nat.reduceLeDiff,reduceCtorEq,h4,h5,h6]at h3
     exact h3
    refine hN _ _ ?_
    clear hN N
    (try((repeat(revert hN;revert N;apply Pn.out));refine wk (tw @a39 (tw @ag0 (tw @a1 (tw @a2 (tw @a9 (tw @l5 (tw @a37 (tw @HV (tw @b43 (tw @b13 (tw @bg0 (tw @b1 (tw @b2 (tw @b9 (tw @nB (tw @qa (tw @uJ (tw @vP @A7)))))))))))))))))) ?_;(repeat(refine Pn.mk ?_;intro N hN))))
    refine cz ?_ ?_ (by(try dsimp only);exact⟨by(try dsimp only);omega,DN.frame (by(try dsimp only);omega) fun x hx=>rfl,⟨_,_,mX,.inr ⟨_,_,[z],by rw[BI],by rw[BI],by rw[mu,Qv,BI];rfl,mv,by rw[BI];rfl,by omega,by(try dsimp only);omega,by(try dsimp only);omega,by(try dsimp only);omega,by(try dsimp only);omega,by simp⟩⟩,fun x hx=>Q9 x hx⟩)
    all_goals simp only[go_sem, ↓reduceIte,Nat.reduceEqDiff,Nat.reduceAdd,Nat.reduceSub,Nat.reduceLeDiff,reduceCtorEq,a39,ag0,a1,a2,a9,l5,a37,HV,b43,b13,bg0,b1,b2,b9,nB,qa,uJ,vP,A7,m0]
   ·have bu:=(bF u (by omega)).trans p3
    have bv:=(bF v (by omega)).trans p4
    have vu:=dr (i:=u) (n:=st_b.next) (by omega)
    have vv:=dr (i:=v) (n:=st_b.next) (by omega)
    have I9:(L.map aE).length=i:=by rw[List.length_map];exact p5
    have Ti:i<=16777215:=by omega
    have e1:=eq_false p11
    have e2:=eq_false (Ne.symm p11)
    have Xu:=bU (a:=⟨91004004,x1+1+1⟩) (b:=u) (by(try dsimp only);omega)
    have Xv:=bU (a:=⟨91004004,x1+1+1⟩) (b:=v) (by(try dsimp only);omega)
    have cu:=bU (a:=c) (b:=u) (by omega)
    have cv:=bU (a:=c) (b:=v) (by omega)
    have Tu:=bU (a:=T) (b:=u) (by omega)
    have Tv:=bU (a:=T) (b:=v) (by omega)
    have Ou:=bU (a:=O) (b:=u) (by omega)
    have Ov:=bU (a:=O) (b:=v) (by omega)
    have zu:=bU (a:=⟨91000000,σ.next⟩) (b:=u) (by(try dsimp only);omega)
    have zv:=bU (a:=⟨91000000,σ.next⟩) (b:=v) (by(try dsimp only);omega)
    have ub:=bU (a:=u) (b:=⟨91008002,st_a.next+1⟩) (by(try dsimp only);omega)
    have vb:=bU (a:=v) (b:=⟨91008002,st_a.next+1⟩) (by(try dsimp only);omega)
    generalize hML:(n9 s es i).map aE=ML at bu Qv DX
    generalize hSL:L.map aE=SL at bv I9
    (try((repeat(revert hN;revert N;apply Pn.out));refine wk (tw @b43 (tw @b13 (tw @bg0 (tw @b1 (tw @b2 (tw @b9 (tw @nB (tw @qa (tw @uJ (tw @vP (tw @A7 (tw @hd (tw @bX (tw @vX (tw @vt (tw @bz (tw @bu (tw @bv (tw @vu (tw @vv (tw @DX (tw @I9 (tw @Ti (tw @e1 (tw @e2 (tw @Xu (tw @Xv (tw @ub @vb)))))))))))))))))))))))))))) ?_;(repeat(refine Pn.mk ?_;intro N hN))))
    refine .inr (aJ _ _ _ _ _ (fun r σ3 hq=>?_) (Kb (by
     refine bC.three (by(try dsimp only);omega) ?_ ?_ ?_
     ·simp only[go_sem, ↓reduceIte,Nat.reduceEqDiff,Nat.reduceAdd,Nat.reduceSub,Nat.reduceLeDiff,reduceCtorEq,vc,cX,cu,cv]
     ·simp only[go_sem, ↓reduceIte,Nat.reduceEqDiff,Nat.reduceAdd,Nat.reduceSub,Nat.reduceLeDiff,reduceCtorEq,vT,TX,Tu,Tv]
     ·simp only[go_sem, ↓reduceIte,Nat.reduceEqDiff,Nat.reduceAdd,Nat.reduceSub,Nat.reduceLeDiff,reduceCtorEq,vO,OX,Ou,Ov]) hP.set Qj (aD es i).aQ RI (aD es i).aO FK kg))
    obtain⟨g3,x3⟩:=σ3
    obtain⟨rfl,DN,DZ,s5⟩:=hq
    (try dsimp only at DN DZ s5)
    have m0:=s5 ⟨91000000,σ.next⟩ (by(try dsimp only);omega) (nv (by(try dsimp only);omega)) (nv (by(try dsimp only);omega))
    have mX:=s5 ⟨91004004,x1+1+1⟩ (by(try dsimp only);omega) (nv (by(try dsimp only);omega)) (nv (by(try dsimp only);omega))
    have mu:=s5 ⟨91020007,st_b.next+1⟩ (by(try dsimp only);omega) (fun e=>by rw[<-e]at Ln;(try dsimp only at Ln);omega) (fun e=>by rw[<-e]at zo;(try dsimp only at zo);omega)
    have mv:=s5 ⟨91021007,st_b.next+1+1⟩ (by(try dsimp only);omega) (fun e=>by rw[<-e]at Ln;(try dsimp only at Ln);omega) (fun e=>by rw[<-e]at zo;(try dsimp only at zo);omega)
    have VJ:((⟨91020007,st_b.next+1⟩:Id)=v)=False:=eq_false fun e=>by rw[<-e]at p10;(try dsimp only at p10);omega
    have v16:((⟨91021007,st_b.next+1+1⟩:Id)=u)=False:=eq_false fun e=>by rw[<-e]at p9;(try dsimp only at p9);omega
    have v17:((⟨91020007,st_b.next+1⟩:Id)=u)=False:=eq_false fun e=>by rw[<-e]at p9;(try dsimp only at p9);omega
    have v18:((⟨91021007,st_b.next+1+1⟩:Id)=v)=False:=eq_false fun e=>by rw[<-e]at p10;(try dsimp only at p10);omega
    simp only[go_sem, ↓reduceIte,Nat.reduceEqDiff,Nat.reduceAdd,Nat.reduceSub,Nat.reduceLeDiff,reduceCtorEq,v0,vX,b0,zu,zv,Xu,Xv,VJ,v16,v17,v18]at m0 mX mu mv
    rw[uE,List.append_assoc,<-mJ fh]at DN
    have Q9:∀y:Id,y.bQ<σ.next->g3 y=σ.get y:=fun y hy=>by
     have h3:=s5 y (by omega) (nv (by omega)) (nv (by omega))
     have h4:=dr (i:=y) (n:=st_b.next) (by omega)
     have h6:=bU (a:=y) (b:=⟨91004004,x1+1+1⟩) (by(try dsimp only);omega)
     have h7:=bU (a:=y) (b:=u) (by omega)
     have h8:=bU (a:=y) (b:=v) (by omega)
     have h5:=(bF y (by omega)).trans (aK y hy)
     simp only[go_sem, ↓reduceIte,Nat.reduceEqDiff,Nat.reduceAdd,Nat.reduceSub,Nat.reduceLeDiff,reduceCtorEq,h4,h5,h6,h7,h8]at h3
     exact h3
    have hSn:(L++[z]).map aE=SL++[[.int .i64 z]]:=by rw[List.map_append,hSL];rfl
    refine hN _ _ ?_
    clear hN N
    (try((repeat(revert hN;revert N;apply Pn.out));refine wk (tw @a39 (tw @ag0 (tw @a1 (tw @a2 (tw @a9 (tw @l5 (tw @a37 (tw @HV (tw @b43 (tw @b13 (tw @bg0 (tw @b1 (tw @b2 (tw @b9 (tw @nB (tw @qa (tw @uJ (tw @vP @A7)))))))))))))))))) ?_;(repeat(refine Pn.mk ?_;intro N hN))))
    refine cz ?_ ?_ (by(try dsimp only);exact⟨by omega,DN.frame (by(try dsimp only);omega) fun x hx=>rfl,⟨_,_,mX,.inr ⟨_,_,L++[z],rfl,rfl,by rw[mu,Qv],by rw[mv,hSn],by rw[List.length_append,p5];rfl,by omega,by(try dsimp only);omega,by(try dsimp only);omega,by(try dsimp only);omega,by(try dsimp only);omega,by simp⟩⟩,fun x hx=>Q9 x hx⟩)
    all_goals simp only[go_sem, ↓reduceIte,Nat.reduceEqDiff,Nat.reduceAdd,Nat.reduceSub,Nat.reduceLeDiff,reduceCtorEq,a39,ag0,a1,a2,a9,l5,a37,HV,b43,b13,bg0,b1,b2,b9,nB,qa,uJ,vP,A7,m0]
 ·have kN:i=es.length:=by omega
  subst kN
  obtain⟨vi,vs,UF,dy⟩:=aP
  (try((repeat(revert hN;revert N;apply Pn.out));refine wk (tw @a39 (tw @ag0 (tw @a1 (tw @a2 (tw @a9 (tw @l5 (tw @a37 (tw @HV @hi)))))))) ?_;(repeat(refine Pn.mk ?_;intro N hN))))
  exact eX (.inl rfl) (vs:=[.ptr ⟨91004004,x1+1+1⟩ 0 0,.int .i64 0]) (sd (tw @a39 (tw @ag0 (tw @a1 (tw @a2 (tw @a9 (tw @l5 (tw @a37 @HV)))))))) ⟨.inr ⟨M9,⟨91004004,x1+1+1⟩,ve,vi,vs,rfl,sd @UF,by(try dsimp only);omega,by(try dsimp only);omega,by
   rcases dy with⟨q1,q2,_⟩|⟨u,v,L,q1,_,q3,_,_,q6,q7,_,q9,_⟩
   ·exact .inl ⟨q1,q2⟩
   ·exact .inr ⟨u,q6,q1,sd @q3,by omega,by(try dsimp only);omega⟩⟩,by(try dsimp only);omega,fun x hx=>by
   have h2:=aK x hx
   simp only[go_sem, ↓reduceIte,Nat.reduceEqDiff,Nat.reduceAdd,Nat.reduceSub,Nat.reduceLeDiff,reduceCtorEq,h2]⟩
end Go.Proofs.YtgoelphibofcmaaGreat.V

namespace Go.Proofs.YtgoelphibofcmaaGreat.V
open Go.RowKit
attribute [local irreducible] dO wpOps gy Call
attribute [local go_sem] aT fK eS ga fZ dj upd cF K.av cP AV.cells AV.cell rowOf rowsOf part ld rowAt bL cD dG ef ik bV de ew fW fe dw ek dc db dU dV cj bl cU b4 cW cV ei eo ej cR cm dd eh bW aV cZ cI ij bx cK ck bd du bj dI AV.undef bH bS dW eb dQ dP cJ ev eE cH er ep cY da List.getD_cons_zero List.getD_cons_succ List.getD_nil List.all_cons List.all_nil Bool.and_true Bool.true_and Bool.and_self Bool.not_true Bool.not_false Option.map_some Option.map_none Option.bind_some Option.bind_none List.length_cons List.length_nil List.take_succ_cons List.take_zero List.take_nil List.drop_succ_cons List.drop_zero List.drop_nil List.head?_cons List.map_cons List.map_nil List.getElem?_cons_zero List.getElem?_cons_succ List.cons_append List.nil_append List.append_nil List.length_map List.set_cons_zero List.set_cons_succ Nat.reduceMul eq_self Int.toNat_natCast Int.natCast_nonneg and_self true_and and_true decide_true decide_false Bool.false_eq_true Nat.zero_add Nat.add_zero List.contains_cons List.contains_nil Bool.or_false Bool.false_or beq_self_eq_true Nat.reduceBEq ne_eq not_true_eq_false not_false_eq_true Id.mk.injEq false_and and_false Nat.reduceLT Int.reduceLE Int.reduceLT Int.reduceToNat Int.reduceNeg Int.reduceAdd Nat.le_refl List.length_append beq_true beq_false Bool.not_eq_eq_eq_not or_false false_or dR ae aj aI bq bG cC aY bh aW bp cQ bJ
theorem Da (s:az) (es:List ad) (hn:gn s.aH) (hm:rl s) (hl:es.length<=1048576):vD Tryz.prog 53 [.agg (au s),.sl (es.map aa)] aE 1 (Eh s es).1 (Eh s es).2:=by
 intro n0
 have hc:=fun σ=>Ps s es hn hm hl σ
 by_cases h0:(nI s es).2=0
 ·have hr:Eh s es=(n9 s es es.length,0):=by rw[Eh,if_pos h0]
  rw[hr]
  refine eQ eK rfl fun kd=>?_
  clear kd
  rw[au]at hc ⊢
  (try((repeat(revert hN;revert N;apply Pn.out));refine wk @Nat.zero_add ?_;(repeat(refine Pn.mk ?_;intro N hN))))
  refine .inr (aJ _ _ _ _ _ (fun r σ1 hq=>?_) (hc _))
  obtain⟨g1,x1⟩:=σ1
  obtain⟨hq,hK⟩:=hq
  (try dsimp only at hq hK)
  have rN:=hK.1
  (try dsimp only at rN)
  clear hc hK
  refine hN _ _ ?_
  clear hN N
  rcases hq with⟨gP,rfl⟩|⟨M9,X,ve,vi,vs,rfl,hX,hX1,Rf,dy⟩
  ·exact absurd h0 gP
  unfold Ad at hX
  have vX:=dr (i:=X) (n:=x1) Rf
  rcases dy with⟨q1,rfl⟩|⟨u,q1,rfl,q3,q4,q5⟩
  ·(try((repeat(revert hN;revert N;apply Pn.out));refine wk (tw @hX @vX) ?_;(repeat(refine Pn.mk ?_;intro N hN))))
   exact eX (.inl rfl) (vs:=[.bE,.int .i64 0]) (sd @Nat.zero_add) ⟨.bE,[],rfl,.inl ⟨by rw[q1];rfl,rfl,rfl⟩,⟨List.nodup_nil,fun i hi=>by cases hi⟩⟩
  ·(try((repeat(revert hN;revert N;apply Pn.out));refine wk (tw @hX @vX) ?_;(repeat(refine Pn.mk ?_;intro N hN))))
   exact eX (.inl rfl) (vs:=[.own u 0 es.length,.int .i64 0]) (sd @Nat.zero_add) ⟨.own u 0 es.length,[u],rfl,.inr ⟨u,by rw[ml],q3,rfl,by rw[ml];exact q1⟩,⟨List.nodup_cons.2 ⟨by simp,List.nodup_nil⟩,fun i hi=>by rw[List.mem_singleton.1 hi];(try dsimp only);omega⟩⟩
 ·have hr:Eh s es=([],(nI s es).2):=by rw[Eh,if_neg h0]
  rw[hr]
  have hd:decide ((nI s es).2=0)=false:=decide_eq_false h0
  refine eQ eK rfl fun kd=>?_
  clear kd
  rw[au]at hc ⊢
  (try((repeat(revert hN;revert N;apply Pn.out));refine wk @Nat.zero_add ?_;(repeat(refine Pn.mk ?_;intro N hN))))
  refine .inr (aJ _ _ _ _ _ (fun r σ1 hq=>?_) (hc _))
  obtain⟨g1,x1⟩:=σ1
  obtain⟨hq,hK⟩:=hq
  (try dsimp only at hq hK)
  have rN:=hK.1
  (try dsimp only at rN)
  clear hc hK
  refine hN _ _ ?_
  clear hN N
  rcases hq with⟨gP,rfl⟩|⟨M9,_⟩
  ·(try((repeat(revert hN;revert N;apply Pn.out));refine wk @hd ?_;(repeat(refine Pn.mk ?_;intro N hN))))
   exact eX (.inl rfl) (vs:=[.bE,.int .i64 (nI s es).2]) (sd @Nat.zero_add) ⟨.bE,[],rfl,.inl ⟨rfl,rfl,rfl⟩,⟨List.nodup_nil,fun i hi=>by cases hi⟩⟩
  ·exact absurd M9 h0
end Go.Proofs.YtgoelphibofcmaaGreat.V

namespace Go.Proofs.YtgoelphibofcmaaGreat
open Go.ChangeShapes Go.WideShapes Go.ChangeAt Go.RowKit Go.Deep
section
variable {H:Type} {enc:TypeId×Value->H} {P:Program} {w:World}
theorem mV.Se {α:Type} {rep:World->List Nat->List Value->α->Prop} {sz:Nat} {w:World} {b o len cap:Nat} (oF:Nat->List Value) (fs:Nat->List Nat) (ds:Nat->α) (hc:len<=cap) (hm:cap<=maxLen)
  (hl:∀i,i<len->(oF i).length=sz) (hr:∀i,i<len->rep w (fs i) (oF i) (ds i)) (wE:∀i,i<len->∀j u,(oF i)[j]? =some u->w.cell? ⟨b,o+(i*sz+j),none⟩=some u):
  mV rep sz w ([b]++((List.range len).map fs).flatten) (.slice (some ⟨b,o,none⟩) len cap) ((List.range len).map ds):=by
 refine⟨(List.range len).map oF,(List.range len).map fs,[b],rfl,⟨some ⟨b,o,none⟩,cap,by simp,by simpa using hc,hm,.inr ⟨b,o,rfl,rfl,fun j u hj=>?_⟩⟩,by simp,by simp,fun i cs f d h1 h2 h3=>?_⟩
 ·have hlen:∀cs∈(List.range len).map oF,cs.length=sz:=fun cs dy=>by
   obtain⟨i,hi,rfl⟩:=List.mem_map.1 dy
   exact hl i (List.mem_range.1 hi)
  have iq:=(List.getElem?_eq_some_iff.1 hj).1
  have Ji:((List.range len).map oF).flatten.length=len*sz:=by
   rw[List.length_flatten,List.map_map]
   have:∀(l:List Nat),(∀i∈l,i<len)->(l.map (List.length∘oF)).sum=l.length*sz:=by
    intro l
    induction l with
    |nil=>intro _;simp
    |cons a l ih=>intro h;rw[List.map_cons,List.sum_cons,ih fun i hi=>h i (List.mem_cons_of_mem _ hi)];simp only[Function.comp,hl a (h a (by simp)),List.length_cons,Nat.add_mul];omega
   rw[this _ fun i hi=>List.mem_range.1 hi,List.length_range]
  rw[Ji]at iq
  have Nq:0<sz:=by
   rcases Nat.eq_zero_or_pos sz with h|h
   ·subst h;simp at iq
   ·exact h
  have hi:j / sz<len:=(Nat.div_lt_iff_lt_mul Nq).2 iq
  have yE:j % sz<sz:=Nat.mod_lt _ Nq
  have LQ:j=(j / sz)*sz+j % sz:=by rw[Nat.mul_comm];exact(Nat.div_add_mod j sz).symm
  rw[LQ,tT hlen (i:=j / sz) (cs:=oF (j / sz)) (by simp[hi]) yE]at hj
  rw[LQ]
  have:=wE (j / sz) hi (j % sz) u hj
  rw[<-LQ]at this ⊢
  exact this
 ·have hi:i<len:=by
   have:=(List.getElem?_eq_some_iff.1 h1).1
   simpa using this
  simp[hi]at h1 h2 h3
  subst h1 h2 h3
  exact⟨hr i hi,hl i hi⟩
theorem kn (b o k:Nat):(⟨b,o,none⟩:Addr).add k=⟨b,o+k,none⟩:=by
 unfold Addr.add;split
 ·rename_i h;subst h;rfl
 ·rfl
theorem mK {α:Type} {rep:World->List Nat->List Value->α->Prop} {Q:α->Prop} {t e:TypeId} {sz fuel:Nat} {cs:List Value} {x:DataW H×List MemPlace} (ht:P.underlying t=some (.slice e)) (hC:P.cellsOf e=sz) (Nq:0<sz)
  (h:DataW.trod enc P w 0 (fun _=>true) true fuel t cs=some x) (hel:∀n pS y,pS.length=sz->DataW.trod enc P w 0 (fun _=>true) true n e pS=some y->∃f d,fD f 0 w.heap.size/\rep w f pS d/\Q d):
  ∃A n c f xs,cs=[.slice A n c]/\fD f 0 w.heap.size/\mV rep sz w f (.slice A n c) xs/\∀d∈xs,Q d:=by
 rcases open_slice ht h with⟨rfl,_⟩|⟨a,len,cap,m,n,D,Pl,rfl,_,hl,hm,OP,_,hi⟩
 ·exact⟨none,0,0,[],[],rfl,fD.nil _ _,mV.nil _ _ _,fun d h=>by cases h⟩
 rw[hC]at hi
 simp only[if_true]at OP
 by_cases h0:len=0
 ·subst h0
  exact⟨some a,0,cap,[],[],rfl,fD.nil _ _,⟨[],[],[],rfl,⟨some a,cap,rfl,Nat.zero_le _,hm,.inl ⟨rfl,rfl⟩⟩,rfl,rfl,fun i cs f d hc=>by simp at hc⟩,fun d h=>by cases h⟩
 obtain⟨b,o,sp⟩:=a
 have cell0:∃v,w.cell? ⟨b,o,sp⟩=some v:=by
  obtain⟨pS,hc,_⟩:=hi 0 (by omega)
  obtain⟨_,nf,wE⟩:=World.cells?_some hc
  refine⟨pS[0]'(by omega),?_⟩
  have:=wE 0 Nq
  rw[List.getElem?_eq_getElem (by omega)]at this
  simpa[Addr.add]using this
 obtain⟨v0,sK⟩:=cell0
 have hb:b<w.heap.size:=World.block_lt_of_cell? w _ sK
 have O4:sp=none:=by
  unfold World.cell? at sK
  split at sK
  ·split at sK
   ·cases sK
   ·rename_i h;simpa using h
  ·cases sK
 subst O4
 have key:∀i,i<len->∃pS f d,pS.length=sz/\fD f 0 w.heap.size/\rep w f pS d/\Q d/\∀j u,pS[j]? =some u->w.cell? ⟨b,o+(i*sz+j),none⟩=some u:=fun i kN=>by
  obtain⟨pS,hc,htr⟩:=hi i (by omega)
  obtain⟨_,nf,wE⟩:=World.cells?_some hc
  obtain⟨f,d,h1,h2,h3⟩:=hel n pS _ nf htr
  refine⟨pS,f,d,nf,h1,h2,h3,fun j u hj=>?_⟩
  have iq:=(List.getElem?_eq_some_iff.1 hj).1
  have:=wE j (by omega)
  rw[hj]at this
  rw[<-this,Go.Deep.add_add,kn]
 have:Nonempty α:=by
  obtain⟨_,_,d,_⟩:=key 0 (by omega)
  exact⟨d⟩
 let cf:Nat->List Value:=fun i=>if hi:i<len then(key i hi).choose else[]
 let ff:Nat->List Nat:=fun i=>if hi:i<len then(key i hi).choose_spec.choose else[]
 let df:Nat->α:=fun i=>if hi:i<len then(key i hi).choose_spec.choose_spec.choose else Classical.choice this
 have dC:∀i,i<len->(cf i).length=sz/\fD (ff i) 0 w.heap.size/\rep w (ff i) (cf i) (df i)/\Q (df i)/\∀j u,(cf i)[j]? =some u->w.cell? ⟨b,o+(i*sz+j),none⟩=some u:=fun i hi=>by
  have:=(key i hi).choose_spec.choose_spec.choose_spec
  simp only[cf,ff,df,dif_pos hi]
  exact this
 refine⟨some ⟨b,o,none⟩,len,cap,_,(List.range len).map df,rfl,?_,mV.Se cf ff df hl hm (fun i hi=>(dC i hi).1) (fun i hi=>(dC i hi).2.2.1) (fun i hi=>(dC i hi).2.2.2.2),fun d hd=>?_⟩
 ·intro x hx
  rcases List.mem_append.1 hx with hx|hx
  ·simp at hx;subst hx;exact⟨Nat.zero_le _,hb⟩
  ·obtain⟨l,DX,QG⟩:=List.mem_flatten.1 hx
   obtain⟨i,hi,rfl⟩:=List.mem_map.1 DX
   exact(dC i (List.mem_range.1 hi)).2.1 x QG
 ·obtain⟨i,hi,rfl⟩:=List.mem_map.1 hd
  exact(dC i (List.mem_range.1 hi)).2.2.2.1
end
section
variable {H:Type} {enc:TypeId×Value->H} {w:World} {fuel:Nat} {cs:List Value} {x:DataW H×List MemPlace}
abbrev TT (enc:TypeId×Value->H) (w:World) (fuel t:Nat) (cs:List Value) (x:DataW H×List MemPlace):Prop:=DataW.trod enc Tryz.prog w 0 (fun _=>true) true fuel t cs=some x
theorem Po (h:TT enc w fuel 56 cs x):∃A n c f xs,cs=[.slice A n c]/\fD f 0 w.heap.size/\vK w f (.slice A n c) xs:=by
 obtain⟨A,n,c,f,xs,h1,h2,h3,_⟩:=mK (rep:=Fj) (Q:=fun _=>True) Tryz.underlying56 (sz:=1) (by kernel_rfl) (by omega) h fun n pS y hl hy=>by
  obtain⟨b,rfl,_⟩:=DataW.trod_int Tryz.underlying2 hy
  exact⟨[],b,fD.nil _ _,⟨rfl,rfl⟩,trivial⟩
 exact⟨A,n,c,f,xs,h1,h2,h3⟩
theorem kH {t:TypeId} {fs:Array Field} (ht:Tryz.prog.underlying t=some (.struct fs)) (h:TT enc w fuel t cs x):cs.length=Tryz.prog.cellsOf t/\∃n,∀(i:Nat) (f:Field),fs[i]? =some f->∃y,TT enc w n f.type ((cs.drop f.offset).take (Tryz.prog.cellsOf f.type)) y:=by
 obtain⟨xs,n,_,_,hl,QG,hf⟩:=DataW.trod_struct ht h
 refine⟨hl,n,fun i f hi=>?_⟩
 have kN:i<xs.length:=by rw[QG];exact(Array.getElem?_eq_some_iff.1 hi).1
 exact⟨xs[i],(hf i f hi).trans (List.getElem?_eq_getElem kN)⟩
theorem R9 {l:List Value} (h:l.length=2):∃a b,l=[a,b]:=by
 match l,h with
 |[a,b],_=>exact⟨a,b,rfl⟩
theorem Sa {l:List Value} (h:l.length=3):∃a b c,l=[a,b,c]:=by
 match l,h with
 |[a,b,c],_=>exact⟨a,b,c,rfl⟩
theorem VF {l:List Value} (h:l.length=1):∃a,l=[a]:=by
 match l,h with
 |[a],_=>exact⟨a,rfl⟩
theorem VG {l:List Value} (h:l.length=4):∃a b c d,l=[a,b,c,d]:=by
 match l,h with
 |[a,b,c,d],_=>exact⟨a,b,c,d,rfl⟩
theorem Mq (h:TT enc w fuel 22 cs x):∃A n c f xs,cs=[.slice A n c]/\fD f 0 w.heap.size/\rh w f (.slice A n c) xs/\∀d∈xs,d.aM.size<=9223372036854775807:=by
 exact mK (rep:=Iq) (Q:=fun d=>d.aM.size<=9223372036854775807) Tryz.underlying22 (sz:=2) (by kernel_rfl) (by omega) h fun n pS y hl hy=>by
  obtain⟨_,m,hf⟩:=kH Tryz.underlying191 hy
  obtain⟨a,b,rfl⟩:=R9 hl
  ·skip
   obtain⟨y0,h0⟩:=hf 0 _ rfl
   obtain⟨y1,h1⟩:=hf 1 _ rfl
   rw[show Tryz.prog.cellsOf _=1 from by kernel_rfl]at h0 h1
   obtain⟨p,e0,_,ws⟩:=DataW.trod_string Tryz.underlying9 h0
   obtain⟨q,e1,_⟩:=DataW.trod_int Tryz.underlying2 h1
   simp at e0 e1
   subst e0 e1
   exact⟨[],⟨p,q⟩,fD.nil _ _,⟨rfl,rfl⟩,by simpa[maxLen]using ws⟩
theorem Mr (h:TT enc w fuel 23 cs x):∃A n c f xs,cs=[.slice A n c]/\fD f 0 w.heap.size/\rj w f (.slice A n c) xs/\∀d∈xs,d.aM.size<=9223372036854775807:=by
 exact mK (rep:=Ir) (Q:=fun d=>d.aM.size<=9223372036854775807) Tryz.underlying23 (sz:=2) (by kernel_rfl) (by omega) h fun n pS y hl hy=>by
  obtain⟨_,m,hf⟩:=kH Tryz.underlying193 hy
  obtain⟨a,b,rfl⟩:=R9 hl
  ·skip
   obtain⟨y0,h0⟩:=hf 0 _ rfl
   obtain⟨y1,h1⟩:=hf 1 _ rfl
   rw[show Tryz.prog.cellsOf _=1 from by kernel_rfl]at h0 h1
   obtain⟨p,e0,_,ws⟩:=DataW.trod_string Tryz.underlying9 h0
   obtain⟨A1,n1,c1,f1,Sy,e1,k1,s1⟩:=Po h1
   simp at e0 e1
   subst e0 e1
   exact⟨_,⟨p,Sy⟩,k1,⟨_,f1,rfl,rfl,s1⟩,by simpa[maxLen]using ws⟩
theorem Hl (h:TT enc w fuel 26 cs x):∃A n c f xs,cs=[.slice A n c]/\fD f 0 w.heap.size/\jg w f (.slice A n c) xs:=by
 obtain⟨A,n,c,f,xs,h1,h2,h3,_⟩:=mK (rep:=vJ) (Q:=fun _=>True) Tryz.underlying26 (sz:=3) (by kernel_rfl) (by omega) h fun n pS y hl hy=>by
  obtain⟨_,m,hf⟩:=kH Tryz.underlying143 hy
  obtain⟨a,b,c,rfl⟩:=Sa hl
  ·skip
   obtain⟨y0,h0⟩:=hf 0 _ rfl
   obtain⟨y1,h1⟩:=hf 1 _ rfl
   rw[show Tryz.prog.cellsOf _=2 from by kernel_rfl]at h0
   rw[show Tryz.prog.cellsOf _=1 from by kernel_rfl]at h1
   obtain⟨_,m2,s5⟩:=kH Tryz.underlying66 h0
   obtain⟨z0,g0⟩:=s5 0 _ rfl
   obtain⟨z1,g1⟩:=s5 1 _ rfl
   rw[show Tryz.prog.cellsOf _=1 from by kernel_rfl]at g0 g1
   obtain⟨px,e0,_⟩:=DataW.trod_int Tryz.underlying2 g0
   obtain⟨py,e1,_⟩:=DataW.trod_int Tryz.underlying2 g1
   obtain⟨ti,e2,_⟩:=DataW.trod_int Tryz.underlying2 h1
   simp at e0 e1 e2
   subst e0 e1 e2
   exact⟨[],⟨⟨px,py⟩,ti⟩,fD.nil _ _,⟨rfl,rfl⟩,trivial⟩
 exact⟨A,n,c,f,xs,h1,h2,h3⟩
theorem Ew (h:TT enc w fuel 28 cs x):∃A n c f,∃d:gz,cs=[.slice A n c]/\fD f 0 w.heap.size/\jg w f (.slice A n c) d.ai:=by
 obtain⟨hl,m,hf⟩:=kH Tryz.underlying28 h
 rw[show Tryz.prog.cellsOf _=1 from by kernel_rfl]at hl
 obtain⟨a,rfl⟩:=VF hl
 ·skip
  obtain⟨y0,h0⟩:=hf 0 _ rfl
  rw[show Tryz.prog.cellsOf _=1 from by kernel_rfl]at h0
  obtain⟨A1,n1,c1,f1,Sy,e1,k1,s1⟩:=Hl h0
  simp at e1
  subst e1
  exact⟨A1,n1,c1,f1,⟨Sy⟩,rfl,k1,s1⟩
theorem J0 (h:TT enc w fuel 30 cs x):∃A0 n0 c0 f0 A1 n1 c1 f1 A2 n2 c2 f2,∃d:az,cs=[.slice A0 n0 c0,.slice A1 n1 c1,.slice A2 n2 c2,.int .i64 d.ay]/\fD f0 0 w.heap.size/\rh w f0 (.slice A0 n0 c0) d.aH.ax/\fD f1 0 w.heap.size/\rj w f1 (.slice A1 n1 c1) d.aH.ai/\fD f2 0 w.heap.size/\jg w f2 (.slice A2 n2 c2) d.bf.ai/\(∀g∈d.aH.ax,g.aM.size<=9223372036854775807)/\∀t∈d.aH.ai,t.aM.size<=9223372036854775807:=by
 obtain⟨hl,m,hf⟩:=kH Tryz.underlying30 h
 rw[show Tryz.prog.cellsOf _=4 from by kernel_rfl]at hl
 obtain⟨a,b,c,d,rfl⟩:=VG hl
 ·skip
  obtain⟨y0,h0⟩:=hf 0 _ rfl
  obtain⟨y1,h1⟩:=hf 1 _ rfl
  obtain⟨y2,h2⟩:=hf 2 _ rfl
  rw[show Tryz.prog.cellsOf _=2 from by kernel_rfl]at h0
  rw[show Tryz.prog.cellsOf _=1 from by kernel_rfl]at h1 h2
  obtain⟨_,m2,s5⟩:=kH Tryz.underlying25 h0
  obtain⟨z0,g0⟩:=s5 0 _ rfl
  obtain⟨z1,g1⟩:=s5 1 _ rfl
  rw[show Tryz.prog.cellsOf _=1 from by kernel_rfl]at g0 g1
  obtain⟨A0,n0,c0,f0,xs0,e0,k0,s0,o0⟩:=Mq g0
  obtain⟨A1,n1,c1,f1,Sy,e1,k1,s1,o1⟩:=Mr g1
  obtain⟨A2,n2,c2,f2,d2,e2,k2,s2⟩:=Ew h1
  obtain⟨t,e3,_⟩:=DataW.trod_int Tryz.underlying2 h2
  simp at e0 e1 e2 e3
  subst e0 e1 e2 e3
  exact⟨A0,n0,c0,f0,A1,n1,c1,f1,A2,n2,c2,f2,⟨⟨xs0,Sy⟩,d2,t⟩,rfl,k0,s0,k1,s1,k2,s2,o0,o1⟩
end
end Go.Proofs.YtgoelphibofcmaaGreat

namespace Go.Proofs.YtgoelphibofcmaaGreat
open Go.ChangeShapes Go.WideShapes Go.ChangeAt Go.RowKit V
theorem Sj:ownKnob Tryz.prog.godebug=none:=by kernel_rfl
theorem JJ:laidOutB Tryz.prog=true:=by kernel_rfl
namespace V
theorem Hk {H:Type} {enc:TypeId×Value->H} {w:World} {fuel:Nat} {cs:List Value} {x:DataW H×List MemPlace} (h:TT enc w fuel 77 cs x):∃A n c f xs,cs=[.slice A n c]/\fD f 0 w.heap.size/\jg w f (.slice A n c) xs:=by
 obtain⟨A,n,c,f,xs,h1,h2,h3,_⟩:=mK (rep:=vJ) (Q:=fun _=>True) Tryz.underlying77 (sz:=3) (by kernel_rfl) (by omega) h fun n pS y hl hy=>by
  obtain⟨_,m,hf⟩:=kH Tryz.underlying68 hy
  obtain⟨a,b,c,rfl⟩:=Sa hl
  ·skip
   obtain⟨y0,h0⟩:=hf 0 _ rfl
   obtain⟨y1,h1⟩:=hf 1 _ rfl
   rw[show Tryz.prog.cellsOf _=2 from by kernel_rfl]at h0
   rw[show Tryz.prog.cellsOf _=1 from by kernel_rfl]at h1
   obtain⟨_,m2,s5⟩:=kH Tryz.underlying66 h0
   obtain⟨z0,g0⟩:=s5 0 _ rfl
   obtain⟨z1,g1⟩:=s5 1 _ rfl
   rw[show Tryz.prog.cellsOf _=1 from by kernel_rfl]at g0 g1
   obtain⟨px,e0,_⟩:=DataW.trod_int Tryz.underlying2 g0
   obtain⟨py,e1,_⟩:=DataW.trod_int Tryz.underlying2 g1
   obtain⟨ti,e2,_⟩:=DataW.trod_int Tryz.underlying2 h1
   simp at e0 e1 e2
   subst e0 e1 e2
   exact⟨[],⟨⟨px,py⟩,ti⟩,fD.nil _ _,⟨rfl,rfl⟩,trivial⟩
 exact⟨A,n,c,f,xs,h1,h2,h3⟩
end V
theorem L6 {s:az} {es:List ad} (hl:es.length<=1048576):(Eh s es).1.length<=1152921504606846976:=by
 unfold Eh
 split
 ·rw[ml];omega
 ·simp
theorem L7 (s:az) (a:List ad) (hn:gn s.aH):aq Tryz.prog 12 [.agg (au s),.sl (a.map aa)] (.bool true):=
 Me Eh (fun s a hn hm _=>Db s a hn hm.s.g hm.s.t) (fun s a hn hm hl=>Da s a hn hm hl) (fun s a hm hl=>L6 hl) s a hn
theorem Ei (os:Os) (started:os.Started) (H:Type) (enc:TypeId×Value->H):
  ReturnsInHanded {} Tryz.checked os 12 .any (Rows.fnExactInputsOfSpec.pre6 enc Tryz.prog Tryz.f12 Rows.fnExactInputsOfRow.domain false) (Rows.fnExactInputsOfSpec.post enc Tryz.prog Tryz.f12 false true false false):=by
 refine returnsInHanded_of_change (C:=Tryz.checked) Sj started (by kernel_rfl) Tryz.func12
  (ChangeSpec.witness6 (enc:=enc) (C:=Tryz.checked) false ⟨#[], #[.agg #[.slice none 0 0,.slice none 0 0,.slice none 0 0,.int .i64 0],.slice none 0 0],[]⟩ 8 (by kernel_rfl) (by kernel_rfl) (by kernel_rfl) (by kernel_rfl)) ?_
 intro W base args ds gs before Nu hW hcnd _
 have tb:∀(j:Nat) t v,Tryz.f12.params[j]? =some t->args[j]? =some v->Value.okWide Tryz.prog W .any base t v:=Nu
 have hW':=hW
 obtain⟨p,q,hA0,hV,rfl,CX,mh⟩:=hW
 have hA:DataW.TrodAll enc Tryz.prog W 0 (fun _=>true) true Tryz.f12.params.toList args.toList ds p:=hA0
 rw[Tryz.params12]at hA tb
 obtain⟨v0,vs0,d0,ds0,p0,q0,nG,rfl,rfl,h0,r0⟩:=trodAll_cons hA
 obtain⟨v1,vs1,d1,ds1,p1,q1,rfl,rfl,rfl,h1,r1⟩:=trodAll_cons r0
 obtain⟨rfl,rfl,rfl⟩:=trodAll_nil r1
 obtain rfl:args= #[v0,v1]:=by cases args;simp_all
 obtain⟨rfl,rfl⟩:=trodVars_none hV
 obtain⟨Qh,rfl,_⟩:=okWide_struct Tryz.underlying30 (tb 0 30 v0 rfl rfl)
 obtain⟨A3,n3,c3,rfl⟩:=okWide_slice Tryz.underlying77 (tb 1 77 v1 rfl rfl)
 have k0:=h0
 have k1:=h1
 have lt0:∀x∈p0,x.block<W.heap.size:=by obtain⟨m,hm⟩:=k0;exact DataW.trod_lt m _ _ _ hm
 have QK:∀x∈p1,x.block<W.heap.size:=by obtain⟨m,hm⟩:=k1;exact DataW.trod_lt m _ _ _ hm
 obtain⟨A0,n0,c0,f0,A1,n1,c1,f1,A2,n2,c2,f2,s,dy,w0,s0,w1,s1,w2,s2,o0,o1⟩:∃A0 n0 c0 f0 A1 n1 c1 f1 A2 n2 c2 f2,∃d:az,(Value.agg Qh).cells.toList=[.slice A0 n0 c0,.slice A1 n1 c1,.slice A2 n2 c2,.int .i64 d.ay]/\fD f0 0 W.heap.size/\rh W f0 (.slice A0 n0 c0) d.aH.ax/\fD f1 0 W.heap.size/\rj W f1 (.slice A1 n1 c1) d.aH.ai/\fD f2 0 W.heap.size/\jg W f2 (.slice A2 n2 c2) d.bf.ai/\(∀g∈d.aH.ax,g.aM.size<=9223372036854775807)/\∀t∈d.aH.ai,t.aM.size<=9223372036854775807:=by
  obtain⟨fuel,hf⟩:=h0
  exact J0 hf
 obtain⟨f3,a,w3,s3⟩:∃f,∃d:List ad,fD f 0 W.heap.size/\jg W f (.slice A3 n3 c3) d:=by
  obtain⟨fuel,hf⟩:=h1
  obtain⟨A,n,c,f,xs,e,w,z⟩:=Hk hf
  simp[Value.cells]at e
  obtain⟨rfl,rfl,rfl⟩:=e
  exact⟨f,xs,w,z⟩
 obtain rfl:Qh= #[.slice A0 n0 c0,.slice A1 n1 c1,.slice A2 n2 c2,.int .i64 s.ay]:=by
  cases Qh;simp[Value.cells]at dy;subst dy;rfl
 clear hA0 Nu
 have gS:fy Tryz.prog W (fun b=>b<W.heap.size) (fun _=>none) [.agg (au s),.sl (a.map aa)] #[.agg #[.slice A0 n0 c0,.slice A1 n1 c1,.slice A2 n2 c2,.int .i64 s.ay],.slice A3 n3 c3]:=by
  have h:=mz (Dg s0 (fun b hb=>(w0 b hb).2) s1 (fun b hb=>(w1 b hb).2) s2 (fun b hb=>(w2 b hb).2)) (mz (tL s3 (fun b hb=>(w3 b hb).2)) (⟨rfl,fun j b hj=>by cases j<;>cases hj⟩:fy Tryz.prog W (fun b=>b<W.heap.size) (fun _=>none) [] #[]))
  simpa using h
 have iD:=Pf mixed (L7 s a ⟨o0,o1⟩) gS
 clear s0 s1 s2 s3 w0 w1 w2 w3 gS
 refine(iD.mono fun e W' ⟨he,bel⟩=>?_)
 subst he
 exact⟨_,rfl,_,_,_,[],_,[],hW',trodAll_mk1 (shut_bool Tryz.underlying4 _),(trodAll_cons_mk (Below.trod JJ (by kernel_rfl) (of_decide_eq_true (by kernel_rfl)) k0 bel lt0) (trodAll_cons_mk (Below.trod JJ (by kernel_rfl) (of_decide_eq_true (by kernel_rfl)) k1 bel QK) trodAll_mk0)),rfl,bel.frame _,fun h=>by cases h⟩
end Go.Proofs.YtgoelphibofcmaaGreat

namespace Go.Proofs.YtgoelphibofcmaaGreat
open Go.ChangeShapes Go.WideShapes Go.ChangeAt Go.RowKit
theorem inN:Tryz.pinned.checked.prog.funcNamed Rows.fnExactInputsOfRow.func=some 12:=by kernel_rfl
theorem inJ:joinedFacts Tryz.pinned.checked.prog 12 Tryz.f12 Rows.fnExactInputsOfSpec Rows.fnExactInputsOfRow=true:=by
 unfold joinedFacts
 repeat(with_reducible refine Bool.and_eq_true_iff.2 ⟨?_,by as_aux_lemma=>kernel_rfl⟩)
 as_aux_lemma=>kernel_rfl
theorem inI:Tryz.f12.isInstance Tryz.pinned.checked.prog Rows.fnExactInputsOfRow.origin Rows.fnExactInputsOfRow.targs:=of_decide_eq_true (by kernel_rfl)
theorem inW:Tryz.f12.isWrapper Tryz.pinned.checked.prog Rows.fnExactInputsOfRow.wrapper Rows.fnExactInputsOfRow.mainSum:=by
 unfold Func.isWrapper;first|(rw[if_pos (by decide+kernel)];kernel_rfl)|(rw[if_neg (by decide+kernel)];exact⟨rfl,rfl⟩)
theorem JD:Rows.fnExactInputsOfRow.holds Tryz.pinned (OpenSpec.ofChange Rows.fnExactInputsOfSpec):=
 OpenClaim.holds_of_wide 12 Tryz.f12 rfl rfl rfl rfl rfl rfl rfl ⟨rfl,rfl,rfl,rfl,rfl⟩ rfl rfl rfl rfl rfl inN Tryz.func12 inJ inI inW
  (fun os started H enc _=>Ei os started H enc)
theorem fnExactInputsOf_proved:Rows.FnExactInputsOfSaid:=JD
end Go.Proofs.YtgoelphibofcmaaGreat
