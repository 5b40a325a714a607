/- A wild system, by the reference. -/
import Derived.Test.YtiabgllilcfheaaGreatMoF
import Derived.Test.YtiabgllilcfheaaGreatMoD
import Derived.Test.YtiabgllilcfheaaGreatMoB
import Derived.Test.YtiabgllilcfheaaGreatMoC
import Derived.Test.YtiabgllilcfheaaGreatChecked
import Derived.ProofKit
import Derived.Deep.Slices
import Derived.ChangeSame
import Derived.Test.YtiabgllilcfheaaGreatRows
import Derived.Test.YtiabgllilcfheaaGreatMoE
import Derived.OpenShut
import Derived.ShutString
import Derived.ChangeOld
import Derived.Below
set_option linter.unusedVariables false
set_option linter.unusedSimpArgs false
set_option maxRecDepth 100000
set_option maxHeartbeats 16000000
namespace Go.Proofs.YtiabgllilcfheaaGreat.V
open Go.RowKit
attribute [local irreducible] eC wpOps gi Call
attribute [local go_sem] aM fP fa fX fW du upd cz K.av cP AV.cells AV.cell rowOf rowsOf part ld rowAt bL cu dK eb gK bP de eu fS fq dx ef db da dR dS bU bf cU bR cW cV dW eh ee cR bW dd ec bQ aL cY cH gJ bF cL bV aY dr bq dL AV.undef bJ bK dV dY dQ dU cK er ez cF ej ei cX cZ List.getD_cons_zero List.getD_cons_succ List.getD_nil List.all_cons List.all_nil Bool.and_true Bool.true_and Bool.and_self Bool.not_true Bool.not_false Option.map_some Option.map_none Option.bind_some Option.bind_none List.length_cons List.length_nil List.take_succ_cons List.take_zero List.take_nil List.drop_succ_cons List.drop_zero List.drop_nil List.head?_cons List.map_cons List.map_nil List.getElem?_cons_zero List.getElem?_cons_succ List.cons_append List.nil_append List.append_nil List.length_map List.set_cons_zero List.set_cons_succ Nat.reduceMul eq_self Int.toNat_natCast Int.natCast_nonneg and_self true_and and_true decide_true decide_false Bool.false_eq_true Nat.zero_add Nat.add_zero List.contains_cons List.contains_nil Bool.or_false Bool.false_or beq_self_eq_true Nat.reduceBEq ne_eq not_true_eq_false not_false_eq_true Id.mk.injEq false_and and_false Nat.reduceLT Int.reduceLE Int.reduceLT Int.reduceToNat Int.reduceNeg Int.reduceAdd Nat.le_refl List.length_append beq_true beq_false Bool.not_eq_eq_eq_not or_false false_or eL ar ax aW bp bZ cw aV bH aU bh cQ bI
theorem nZZ {X i:Id} {n:Nat} (h:X.bj<n) (k:n<=i.bj:=by (try dsimp only);omega):i≠X:=fun e=>by rw[e]at k;omega
def B4 (X:Id) (bs:List Int) (A:Nat) (σ:az) (r:AV) (σ':az):Prop:=nM σ.next σ'.get σ'.next r/\e9 σ'.get X bs (A+1000)/\lp X σ σ'
theorem Kd (bs:List Int) (hb:∀b∈bs,0<=b/\b<=255) (iD:bs.length<=4096) (X:Id) (A:Nat) (ha:A<=900000) (σ:az) (h:e9 σ.get X bs A) (hX:X.bj<σ.next):
  Call Tryz.prog 80 [.ptr X 0 0] σ (B4 X bs A σ):=by
 refine qd Wi rfl fun gZ=>?_
 simp only[KS,UR,UT,QP,QQ,N6,QR,UU,UW,UX]
 try simp only[q]
 clear gZ
 have vX:=dh hX
 (try((repeat(revert N;apply Pn.out));refine wk @Nat.zero_add ?_;(repeat(apply Pn.mk;intro N Z))))
 refine .inr (aE _ _ _ _ _ (fun r σ1 hq=>?_) (gP bs hb iD X 4 A ah _ (by
  obtain⟨a,z,q1,q2⟩:=h
  exact⟨a,z,q1,by simp only[go_sem, ↓reduceIte,Nat.reduceEqDiff,Nat.reduceAdd,Nat.reduceSub,Nat.reduceLeDiff,reduceCtorEq,vX]<;>exact q2⟩)))
 obtain⟨v,rfl,v0,v1,h1,hK⟩:=hq
 obtain⟨g1,x1⟩:=σ1
 (try dsimp only at h1)
 have F9:=hK.1
 (try dsimp only at F9)
 have lg:=hK.2 ⟨80000000,σ.next⟩ (nZZ hX) aQ
 have uk:∀i:Id,i≠X->i.bj<σ.next->g1 i=σ.get i:=fun i hi hv=>(hK.2 i hi aQ).trans (by have hv:=dh hv;simp only[go_sem, ↓reduceIte,Nat.reduceEqDiff,Nat.reduceAdd,Nat.reduceSub,Nat.reduceLeDiff,reduceCtorEq,hv])
 simp only[go_sem, ↓reduceIte,Nat.reduceEqDiff,Nat.reduceAdd,Nat.reduceSub,Nat.reduceLeDiff,reduceCtorEq]at lg
 clear hK h
 obtain⟨m,hm⟩:∃m:Nat,IntKind.i64.wrap (2+v)=(m:Int):=⟨(2+v).toNat,by rw[cm ah];omega⟩
 have hmb:2<=m/\m<=5:=by
  rw[cm ah]at hm
  omega
 apply Z
 clear Z N
 (try((repeat(revert N;apply Pn.out));refine wk @hm ?_;(repeat(apply Pn.mk;intro N Z))))
 refine .inr (aE _ _ _ _ _ (fun r σ2 hq=>?_) (J4 bs hb iD X m ah (A+2) ah _ h1 aQ))
 obtain⟨vg,vt,kg,rfl,hG,hT,x7,hk5,h2,hK⟩:=hq
 obtain⟨g2,x2⟩:=σ2
 (try dsimp only at h2 hG hT)
 have sJ:=hK.1
 (try dsimp only at sJ)
 have me:=(hK.2 ⟨80000000,σ.next⟩ (nZZ hX) aQ).trans lg
 have JB:∀i:Id,i≠X->i.bj<σ.next->g2 i=σ.get i:=fun i hi hv=>(hK.2 i hi aQ).trans (uk i hi hv)
 (try dsimp only at me)
 clear hK h1
 obtain⟨c1,c2⟩:=hG.cell
 obtain⟨c3,c4⟩:=hT.cell
 have XB:dW vt=some m:=by
  rcases hT with⟨h,_⟩|⟨_,o,rows,rfl,_⟩
  ·omega
  ·rfl
 unfold AV.cells at c1 c3
 unfold AV.cell at c2 c4
 unfold dW at XB
 apply Z
 clear Z N
 (try((repeat(revert N;apply Pn.out));refine wk (tw @c1 (tw @c2 (tw @c3 (tw @c4 @XB)))) ?_;(repeat(apply Pn.mk;intro N Z))))
 have Qw:=dh (i:=X) (n:=x2) ah
 refine mH (fun e st=>∃(o:Id) (p:aa) (z:Int),st.get ⟨80000000,σ.next⟩=some ⟨true,4,[[vg,vt,.own o 0 1,.int .i64 z]]⟩/\e 2=.ptr ⟨80000000,σ.next⟩ 0 0/\st.get o=some ⟨true,3,[ai p]⟩/\x2<=o.bj/\o.bj<st.next/\e9 st.get X bs (A+1000)/\(∀u:Id,u≠X->u.bj<x2->u≠⟨80000000,σ.next⟩->st.get u=g2 u)/\x2<=st.next) ?_ ?_
 ·rintro e st ⟨o,p,z,d1,d2,d3,d4,d5,d6,d7,d8⟩
  apply Z
  clear Z N
  (try((repeat(revert N;apply Pn.out));refine wk (tw @d1 @d2) ?_;(repeat(apply Pn.mk;intro N Z))))
  have q1:=hG.frame (g':=st.get) (n':=st.next) d8 fun u h1 h2=>d7 u (fun e=>by rw[e]at h1;omega) h2 (fun e=>by rw[e]at h1;(try dsimp only at h1);omega)
  have q2:=hT.frame (g':=st.get) (n':=st.next) d8 fun u h1 h2=>d7 u (fun e=>by rw[e]at h1;omega) h2 (fun e=>by rw[e]at h1;(try dsimp only at h1);omega)
  exact fV (.inl rfl) (vs:=[.agg [vg,vt,.own o 0 1,.int .i64 z]]) (sd (tw @d1 @d2)) ⟨⟨nR,vg,vt,kg,m,o,p,z,rfl,q1.since aQ,q2.since aQ,x7,ah,ah,ah,d3,ah,ah⟩,d6,ah,fun u h1 h2=>(d7 u h1 ah (fun e=>by rw[e]at h2;(try dsimp only at h2);omega)).trans (JB u h1 h2)⟩
 ·intro N Z
  have A8:∀i x,e9 (bL (bL g2 ⟨80001005,x2⟩ i) ⟨80001005,x2⟩ x) X bs (A+2+400):=fun i x=>by
   obtain⟨za,zz,hz,gX⟩:=h2
   exact⟨za,zz,hz,by simp only[go_sem, ↓reduceIte,Nat.reduceEqDiff,Nat.reduceAdd,Nat.reduceSub,Nat.reduceLeDiff,reduceCtorEq,Qw]<;>exact gX⟩
  refine dv ?_ ?_<;>(try((repeat(revert N;apply Pn.out));refine wk (tw @c1 (tw @c2 (tw @c3 @c4))) ?_;(repeat(apply Pn.mk;intro N Z))))
  all_goals
   refine .inr (aE _ _ _ _ _ (fun r σ3 hq=>?_) (gP bs hb iD X (m:Int) (A+2+400) ah _ (A8 _ _)))
   obtain⟨u,rfl,u0,u1,h3,hK⟩:=hq
   obtain⟨g3,x3⟩:=σ3
   (try dsimp only at h3)
   have JX:=hK.1
   (try dsimp only at JX)
   have JD:=hK.2 ⟨80001005,x2⟩ (nZZ hX) aQ
   have JC:=hK.2 ⟨80000000,σ.next⟩ (nZZ hX) aQ
   simp only[go_sem, ↓reduceIte,Nat.reduceEqDiff,Nat.reduceAdd,Nat.reduceSub,Nat.reduceLeDiff,reduceCtorEq,me]at JD JC
   have Io:∀i:Id,i≠X->i.bj<x2->g3 i=g2 i:=fun i hi hv=>(hK.2 i hi aQ).trans (by have h8:=dh hv;simp only[go_sem, ↓reduceIte,Nat.reduceEqDiff,Nat.reduceAdd,Nat.reduceSub,Nat.reduceLeDiff,reduceCtorEq,h8])
   clear hK
   apply Z
   clear Z N
   (try((repeat(revert N;apply Pn.out));refine wk (tw @c1 (tw @c2 (tw @c3 (tw @c4 (tw @JD @JC))))) ?_;(repeat(apply Pn.mk;intro N Z))))
   refine dv ?_ ?_<;>(try((repeat(revert N;apply Pn.out));refine wk (tw @c1 (tw @c2 (tw @c3 (tw @c4 (tw @JD @JC))))) ?_;(repeat(apply Pn.mk;intro N Z))))<;>(try refine dv ?_ ?_)<;>(try((repeat(revert N;apply Pn.out));refine wk (tw @c1 (tw @c2 (tw @c3 (tw @c4 (tw @JD @JC))))) ?_;(repeat(apply Pn.mk;intro N Z))))<;>(try refine dv ?_ ?_)<;>(try((repeat(revert N;apply Pn.out));refine wk (tw @c1 (tw @c2 (tw @c3 (tw @c4 (tw @JD @JC))))) ?_;(repeat(apply Pn.mk;intro N Z))))
  all_goals
   have FQ:=dh (i:=X) (n:=x3) ah
   refine .inr (aE _ _ _ _ _ (fun r σ4 hq=>?_) (gP bs hb iD X 2 (A+404) ah _ (by
    obtain⟨za,zz,hz,gX⟩:=h3
    exact⟨za,zz,hz,by first|exact gX|(simp only[go_sem, ↓reduceIte,Nat.reduceEqDiff,Nat.reduceAdd,Nat.reduceSub,Nat.reduceLeDiff,reduceCtorEq,FQ];exact gX)⟩)))
   obtain⟨w,rfl,w0,w1,h4,hK⟩:=hq
   obtain⟨g4,x4⟩:=σ4
   (try dsimp only at h4)
   have PI:=hK.1
   (try dsimp only at PI)
   have Wu:=hK.2 ⟨80001005,x2⟩ (nZZ hX) aQ
   have Wt:=hK.2 ⟨80000000,σ.next⟩ (nZZ hX) aQ
   have O7:=hK.2 ⟨80002007,x3⟩ (nZZ hX) aQ
   simp only[go_sem, ↓reduceIte,Nat.reduceEqDiff,Nat.reduceAdd,Nat.reduceSub,Nat.reduceLeDiff,reduceCtorEq,JD,JC]at Wu Wt O7
   have GK:∀i:Id,i≠X->i.bj<x2->g4 i=g2 i:=fun i hi hv=>(hK.2 i hi aQ).trans (by
    have h8:=dh (i:=i) (n:=x3) ah
    have h9:=Io i hi hv
    simp only[go_sem, ↓reduceIte,Nat.reduceEqDiff,Nat.reduceAdd,Nat.reduceSub,Nat.reduceLeDiff,reduceCtorEq,h8,h9])
   clear hK
   apply Z
   clear Z N
   (try((repeat(revert N;apply Pn.out));refine wk (tw @c1 (tw @c2 (tw @c3 (tw @c4 (tw @Wu (tw @Wt @O7)))))) ?_;(repeat(apply Pn.mk;intro N Z))))
   obtain⟨za,zz,hz,gX⟩:=h4
   have Qx:=dh (i:=X) (n:=x4) ah
  ·exact⟨⟨80002007,x3⟩,⟨⟨0,0⟩,u⟩,IntKind.i64.wrap (2+w),sl @Nat.zero_add,sd @Nat.zero_add,sl @O7,aQ,aQ,⟨za,zz,ah,by simp only[go_sem, ↓reduceIte,Nat.reduceEqDiff,Nat.reduceAdd,Nat.reduceSub,Nat.reduceLeDiff,reduceCtorEq,Qx,vX]<;>exact gX⟩,fun y h1 h2 h3=>(by
   have h8:=dh (i:=y) (n:=x4) ah
   have h9:=eq_false h3
   simp only[go_sem, ↓reduceIte,Nat.reduceEqDiff,Nat.reduceAdd,Nat.reduceSub,Nat.reduceLeDiff,reduceCtorEq,h8,h9]<;>exact GK y h1 h2),aQ⟩
  ·exact⟨⟨80002007,x4⟩,⟨⟨0,0⟩,u⟩,IntKind.i64.wrap (2+w),sl @Nat.zero_add,sd @Nat.zero_add,sl @O7,aQ,aQ,⟨za,zz,ah,by simp only[go_sem, ↓reduceIte,Nat.reduceEqDiff,Nat.reduceAdd,Nat.reduceSub,Nat.reduceLeDiff,reduceCtorEq,Qx,vX]<;>exact gX⟩,fun y h1 h2 h3=>(by
   have h8:=dh (i:=y) (n:=x4) ah
   have h9:=eq_false h3
   simp only[go_sem, ↓reduceIte,Nat.reduceEqDiff,Nat.reduceAdd,Nat.reduceSub,Nat.reduceLeDiff,reduceCtorEq,h8,h9]<;>exact GK y h1 h2),aQ⟩
  ·exact⟨⟨80002007,x3⟩,⟨⟨0,0⟩,u⟩,IntKind.i64.wrap (2+w),sl @Nat.zero_add,sd @Nat.zero_add,sl @O7,aQ,aQ,⟨za,zz,ah,by simp only[go_sem, ↓reduceIte,Nat.reduceEqDiff,Nat.reduceAdd,Nat.reduceSub,Nat.reduceLeDiff,reduceCtorEq,Qx,vX]<;>exact gX⟩,fun y h1 h2 h3=>(by
   have h8:=dh (i:=y) (n:=x4) ah
   have h9:=eq_false h3
   simp only[go_sem, ↓reduceIte,Nat.reduceEqDiff,Nat.reduceAdd,Nat.reduceSub,Nat.reduceLeDiff,reduceCtorEq,h8,h9]<;>exact GK y h1 h2),aQ⟩
  ·exact⟨⟨80002007,x4⟩,⟨⟨0,0⟩,u⟩,IntKind.i64.wrap (2+w),sl @Nat.zero_add,sd @Nat.zero_add,sl @O7,aQ,aQ,⟨za,zz,ah,by simp only[go_sem, ↓reduceIte,Nat.reduceEqDiff,Nat.reduceAdd,Nat.reduceSub,Nat.reduceLeDiff,reduceCtorEq,Qx,vX]<;>exact gX⟩,fun y h1 h2 h3=>(by
   have h8:=dh (i:=y) (n:=x4) ah
   have h9:=eq_false h3
   simp only[go_sem, ↓reduceIte,Nat.reduceEqDiff,Nat.reduceAdd,Nat.reduceSub,Nat.reduceLeDiff,reduceCtorEq,h8,h9]<;>exact GK y h1 h2),aQ⟩
  ·exact⟨⟨80002007,x3⟩,⟨⟨0,0⟩,u⟩,IntKind.i64.wrap (2+w),sl @Nat.zero_add,sd @Nat.zero_add,sl @O7,aQ,aQ,⟨za,zz,ah,by simp only[go_sem, ↓reduceIte,Nat.reduceEqDiff,Nat.reduceAdd,Nat.reduceSub,Nat.reduceLeDiff,reduceCtorEq,Qx,vX]<;>exact gX⟩,fun y h1 h2 h3=>(by
   have h8:=dh (i:=y) (n:=x4) ah
   have h9:=eq_false h3
   simp only[go_sem, ↓reduceIte,Nat.reduceEqDiff,Nat.reduceAdd,Nat.reduceSub,Nat.reduceLeDiff,reduceCtorEq,h8,h9]<;>exact GK y h1 h2),aQ⟩
  ·exact⟨⟨80002007,x3⟩,⟨⟨0,0⟩,u⟩,IntKind.i64.wrap (2+w),sl @Nat.zero_add,sd @Nat.zero_add,sl @O7,aQ,aQ,⟨za,zz,ah,by simp only[go_sem, ↓reduceIte,Nat.reduceEqDiff,Nat.reduceAdd,Nat.reduceSub,Nat.reduceLeDiff,reduceCtorEq,Qx,vX]<;>exact gX⟩,fun y h1 h2 h3=>(by
   have h8:=dh (i:=y) (n:=x4) ah
   have h9:=eq_false h3
   simp only[go_sem, ↓reduceIte,Nat.reduceEqDiff,Nat.reduceAdd,Nat.reduceSub,Nat.reduceLeDiff,reduceCtorEq,h8,h9]<;>exact GK y h1 h2),aQ⟩
  ·exact⟨⟨80002007,x4⟩,⟨⟨0,0⟩,u⟩,IntKind.i64.wrap (2+w),sl @Nat.zero_add,sd @Nat.zero_add,sl @O7,aQ,aQ,⟨za,zz,ah,by simp only[go_sem, ↓reduceIte,Nat.reduceEqDiff,Nat.reduceAdd,Nat.reduceSub,Nat.reduceLeDiff,reduceCtorEq,Qx,vX]<;>exact gX⟩,fun y h1 h2 h3=>(by
   have h8:=dh (i:=y) (n:=x4) ah
   have h9:=eq_false h3
   simp only[go_sem, ↓reduceIte,Nat.reduceEqDiff,Nat.reduceAdd,Nat.reduceSub,Nat.reduceLeDiff,reduceCtorEq,h8,h9]<;>exact GK y h1 h2),aQ⟩
def gr (s:Nat):Prop:=s=23008006
def vH (v:AV) (s:Nat):Prop:=∀(o:Id) (c:Nat),v=.own o 0 c->o.site=s
theorem y8 (bs:List Int) (hb:∀b∈bs,0<=b/\b<=255) (iD:bs.length<=4096) (X:Id) (A:Nat) (ha:A<=900000) (σ:az) (h:e9 σ.get X bs A) (hX:X.bj<σ.next):
  Call Tryz.prog 23 [.ptr X 0 0] σ (B4 X bs A σ):=by
 refine qd Wf rfl fun gZ=>?_
 simp only[FX,UY,UZ,U0,U3,U4,U5]
 try simp only[q]
 clear gZ
 have vX:=dh hX
 (try((repeat(revert N;apply Pn.out));refine wk @Nat.zero_add ?_;(repeat(apply Pn.mk;intro N Z))))
 refine .inr (aE _ _ _ _ _ (fun r σ1 hq=>?_) (gP bs hb iD X 2 A ah _ (by
  obtain⟨a,z,q1,q2⟩:=h
  exact⟨a,z,q1,by simp only[go_sem, ↓reduceIte,Nat.reduceEqDiff,Nat.reduceAdd,Nat.reduceSub,Nat.reduceLeDiff,reduceCtorEq,vX]<;>exact q2⟩)))
 obtain⟨v,rfl,v0,v1,h1,hK⟩:=hq
 obtain⟨g1,x1⟩:=σ1
 (try dsimp only at h1)
 have F9:=hK.1
 (try dsimp only at F9)
 have lg:=hK.2 ⟨23000000,σ.next⟩ (nZZ hX) aQ
 have uk:∀i:Id,i≠X->i.bj<σ.next->g1 i=σ.get i:=fun i hi hv=>(hK.2 i hi aQ).trans (by have hv:=dh hv;simp only[go_sem, ↓reduceIte,Nat.reduceEqDiff,Nat.reduceAdd,Nat.reduceSub,Nat.reduceLeDiff,reduceCtorEq,hv])
 simp only[go_sem, ↓reduceIte,Nat.reduceEqDiff,Nat.reduceAdd,Nat.reduceSub,Nat.reduceLeDiff,reduceCtorEq]at lg
 clear hK h
 generalize hz:IntKind.i64.wrap (1+v)=z
 apply Z
 clear Z N
 (try((repeat(revert N;apply Pn.out));refine wk @hz ?_;(repeat(apply Pn.mk;intro N Z))))
 have vX1:=dh (i:=X) (n:=x1) ah
 refine .inr (aE _ _ _ _ _ (fun r σ2 hq=>?_) (gP bs hb iD X 6 (A+2) ah _ (by
  obtain⟨a,z,q1,q2⟩:=h1
  exact⟨a,z,q1,by simp only[go_sem, ↓reduceIte,Nat.reduceEqDiff,Nat.reduceAdd,Nat.reduceSub,Nat.reduceLeDiff,reduceCtorEq,vX1]<;>exact q2⟩)))
 obtain⟨y,rfl,y0,y1,h2,hK⟩:=hq
 obtain⟨g2,x2⟩:=σ2
 (try dsimp only at h2)
 have sJ:=hK.1
 (try dsimp only at sJ)
 have me:=hK.2 ⟨23000000,σ.next⟩ (nZZ hX) aQ
 have Ws:=hK.2 ⟨23002001,x1+1⟩ (nZZ hX) aQ
 have JB:∀i:Id,i≠X->i.bj<σ.next->g2 i=σ.get i:=fun i hi hv=>(hK.2 i hi aQ).trans (by have h8:=dh (i:=i) (n:=x1) ah;have h9:=uk i hi hv;simp only[go_sem, ↓reduceIte,Nat.reduceEqDiff,Nat.reduceAdd,Nat.reduceSub,Nat.reduceLeDiff,reduceCtorEq,h8,h9])
 simp only[go_sem, ↓reduceIte,Nat.reduceEqDiff,Nat.reduceAdd,Nat.reduceSub,Nat.reduceLeDiff,reduceCtorEq,lg]at me Ws
 clear hK h1 uk lg
 obtain⟨m,hm⟩:∃m:Nat,IntKind.i64.wrap (2+y)=(m:Int):=⟨(2+y).toNat,by rw[cm ah];omega⟩
 have hmb:2<=m/\m<=7:=by
  rw[cm ah]at hm
  omega
 apply Z
 clear Z N
 (try((repeat(revert N;apply Pn.out));refine wk @hm ?_;(repeat(apply Pn.mk;intro N Z))))
 refine bz (fun n env st=>∃k:Nat,n=(m)-k/\k<=(m)/\env 6=.int .i64 (k:Int)/\((e9 st.get X bs (A+10+8*k)/\x2<=st.next/\(∀i:Id,i≠X->i≠⟨23002001,x1+1⟩->i.bj<x2->st.get i=g2 i)/\∃vg vt,st.get ⟨23002001,x1+1⟩=some ⟨true,2,[[vg,vt]]⟩/\gq x2 st.get st.next vg k/\gy gr x2 st.get st.next vt k/\vH vg 23007008/\vH vt 23013004))) (m) ⟨0,ah,ah,sl (tw @hz @hm),by(try dsimp only);exact⟨h2.mono ah,ah,fun i _ _ _=>rfl,.br,.br,Ws,.inl ⟨rfl,rfl⟩,.inl ⟨rfl,rfl⟩,(fun o c e=>by cases e),(fun o c e=>by cases e)⟩⟩ ?_
 rintro n_a env_a st_a ⟨k,rfl,ale,a6,nh⟩ eE
 have a0:=eE 0 (by kernel_rfl);have a2:=eE 2 (by kernel_rfl);have a3:=eE 3 (by kernel_rfl);have a4:=eE 4 (by kernel_rfl);have a5:=eE 5 (by kernel_rfl)
 simp only[go_sem, ↓reduceIte,Nat.reduceEqDiff,Nat.reduceAdd,Nat.reduceSub,Nat.reduceLeDiff,reduceCtorEq,hz,hm]at a0 a2 a3 a4 a5
 clear eE
 obtain⟨aS,aN,aO,vg,vt,Gl,aG,aT,aGs,aTs⟩:=nh
 by_cases hk:(k:Int)<(m:Int)
 ·have dD:∀{e:Env} {gg:Rows} {nx:Nat},(e 6=.int .i64 (IntKind.i64.wrap ((k:Int)+1)))->((e9 gg X bs (A+10+8*(k+1))/\x2<=nx/\(∀i:Id,i≠X->i≠⟨23002001,x1+1⟩->i.bj<x2->gg i=g2 i)/\∃vg vt,gg ⟨23002001,x1+1⟩=some ⟨true,2,[[vg,vt]]⟩/\gq x2 gg nx vg (k+1)/\gy gr x2 gg nx vt (k+1)/\vH vg 23007008/\vH vt 23013004))->∃m0,m0<(m)-k/\∃k:Nat,m0=(m)-k/\k<=(m)/\e 6=.int .i64 (k:Int)/\((e9 gg X bs (A+10+8*k)/\x2<=nx/\(∀i:Id,i≠X->i≠⟨23002001,x1+1⟩->i.bj<x2->gg i=g2 i)/\∃vg vt,gg ⟨23002001,x1+1⟩=some ⟨true,2,[[vg,vt]]⟩/\gq x2 gg nx vg k/\gy gr x2 gg nx vt k/\vH vg 23007008/\vH vt 23013004)):=fun x1 x2=>⟨_,ah,k+1,rfl,ah,(by rw[x1,aK ah]),x2⟩
  have qG:=lZ (k:Int) ah ah
  have Eu:=js (k:Int) ah
  have iO:k<=16777215:=ah
  generalize ji (k:Int)=dt at qG Eu
  have eQ:(#[103]:Array UInt8).size+dt.size<=9223372036854775807:=by
   have:(#[103]:Array UInt8).size=1:=rfl
   omega
  have iG:(#[116]:Array UInt8).size+dt.size<=9223372036854775807:=by
   have:(#[116]:Array UInt8).size=1:=rfl
   omega
  have lV:((⟨#[103]⟩:ByteArray)++dt).size<=64:=by
   rw[iw]
   have:(⟨#[103]⟩:ByteArray).size=1:=rfl
   omega
  have EF:((⟨#[116]⟩:ByteArray)++dt).size<=64:=by
   rw[iw]
   have:(⟨#[116]⟩:ByteArray).size=1:=rfl
   omega
  obtain⟨ga,na⟩:=st_a
  (try dsimp only at aS aN aO Gl aG aT)
  have VX:=dh (i:=X) (n:=na) ah
  have Vr:k=0->(AV.own ⟨23007008,na+1⟩ 0 1)=.own ⟨23007008,na+1⟩ 0 (k+1):=fun h=>by rw[h]
  rcases aG with⟨k0,rfl⟩|⟨k0,o,L,rfl,hL,go,hs,j5,pJ⟩
  (have zF:=tw @a6 (tw @a0 (tw @a2 (tw @a3 (tw @a4 (tw @a5 (tw @hk (tw @Gl (tw @eQ @iG))))))));(repeat(first|((repeat(revert N;apply Pn.out));refine wk zF ?_;(repeat(apply Pn.mk;intro N Z)))|((try apply Or.inl);refine⟨_,ay.x (qG) (sd zF),?_⟩;apply Z;clear Z N)));try clear zF)
  refine .inr (aE _ _ _ _ _ (fun r σ3 hq=>?_) (BD bs hb iD X 4 (A+10+8*k) ah _ (by
   obtain⟨za,zz,As,gX⟩:=aS
   exact⟨za,zz,As,by simp only[go_sem, ↓reduceIte,Nat.reduceEqDiff,Nat.reduceAdd,Nat.reduceSub,Nat.reduceLeDiff,reduceCtorEq,VX,vX1]<;>exact gX⟩)))
  obtain⟨b,rfl,h3,hK⟩:=hq
  obtain⟨g3,x3⟩:=σ3
  (try dsimp only at h3)
  have JX:=hK.1
  (try dsimp only at JX)
  have c4:=hK.2 ⟨23002001,x1+1⟩ (nZZ hX) aQ
  have c7:=hK.2 ⟨23008008,na+1+1⟩ (nZZ hX) aQ
  have cE:=hK.2 ⟨23008006,na+1+1⟩ (nZZ hX) aQ
  have cG:=hK.2 ⟨23007008,na+1⟩ (nZZ hX) aQ
  simp only[go_sem, ↓reduceIte,Nat.reduceEqDiff,Nat.reduceAdd,Nat.reduceSub,Nat.reduceLeDiff,reduceCtorEq]at c4 c7 cE cG
  replace cE:∃l:List Int,l.length=4/\g3 ⟨23008006,na+1+1⟩=some ⟨true,1,l.map aJ⟩:=⟨[0,IntKind.i64.wrap ((k:Int)+1),0,(k:Int)],rfl,cE⟩
  replace cG:∃L:List kJ,L.length=k+1/\g3 ⟨23007008,na+1⟩=some ⟨true,2,L.map ek⟩/\∀x∈L,x.cI.size<=64:=⟨[⟨(⟨#[103]⟩:ByteArray)++dt,z⟩],by rw[k0];rfl,cG,fun x hx=>by rw[List.mem_singleton.1 hx];exact lV⟩
  have cO:∀i:Id,i≠X->i≠⟨23002001,x1+1⟩->i.bj<na->(i.site≠23007008∨i.bj<x2)->g3 i=ga i:=fun i h1 h2 h3 h4=>(hK.2 i h1 aQ).trans (by
   have h8:=dh h3
   have h9:=eq_false h2
   simp only[go_sem, ↓reduceIte,Nat.reduceEqDiff,Nat.reduceAdd,Nat.reduceSub,Nat.reduceLeDiff,reduceCtorEq,h8,h9])
  clear hK
  rw[Vr k0]at c4
  clear k0 Vr
  apply Z
  clear Z N
  rotate_left 1
  have vo:=dh pJ
  have oB:∀s,(o=⟨s,x1+1⟩)=False/\((⟨s,x1+1⟩:Id)=o)=False:=fun s=>⟨eq_false fun e=>by rw[e]at j5;(try dsimp only at j5);omega,eq_false fun e=>by rw[<-e]at j5;(try dsimp only at j5);omega⟩
  have kO:(L.map ek).length=k:=by rw[List.length_map,hL]
  have nX:(X=o)=False:=eq_false fun h=>by rw[<-h]at j5;omega
  (have zF:=tw @a6 (tw @a0 (tw @a2 (tw @a3 (tw @a4 (tw @a5 (tw @hk (tw @Gl (tw @eQ (tw @iG (tw @go (tw @vo (tw @oB (tw @iO @kO)))))))))))));(repeat(first|((repeat(revert N;apply Pn.out));refine wk zF ?_;(repeat(apply Pn.mk;intro N Z)))|((try apply Or.inl);refine⟨_,ay.x (qG) (sd zF),?_⟩;apply Z;clear Z N)));try clear zF)
  refine .inr (aE _ _ _ _ _ (fun r σ3 hq=>?_) (BD bs hb iD X 4 (A+10+8*k) ah _ (by
   obtain⟨za,zz,As,gX⟩:=aS
   exact⟨za,zz,As,by simp only[go_sem, ↓reduceIte,Nat.reduceEqDiff,Nat.reduceAdd,Nat.reduceSub,Nat.reduceLeDiff,reduceCtorEq,VX,vX1,nX]<;>exact gX⟩)))
  obtain⟨b,rfl,h3,hK⟩:=hq
  obtain⟨g3,x3⟩:=σ3
  (try dsimp only at h3)
  have JX:=hK.1
  (try dsimp only at JX)
  have c4:=hK.2 ⟨23002001,x1+1⟩ (nZZ hX) aQ
  have c7:=hK.2 ⟨23008008,na+1+1⟩ (nZZ hX) aQ
  have cE:=hK.2 ⟨23008006,na+1+1⟩ (nZZ hX) aQ
  have cG:=hK.2 ⟨23007008,na+1⟩ (nZZ hX) aQ
  simp only[go_sem, ↓reduceIte,Nat.reduceEqDiff,Nat.reduceAdd,Nat.reduceSub,Nat.reduceLeDiff,reduceCtorEq,oB]at c4 c7 cE cG
  replace cE:∃l:List Int,l.length=4/\g3 ⟨23008006,na+1+1⟩=some ⟨true,1,l.map aJ⟩:=⟨[0,IntKind.i64.wrap ((k:Int)+1),0,(k:Int)],rfl,cE⟩
  replace cG:∃L:List kJ,L.length=k+1/\g3 ⟨23007008,na+1⟩=some ⟨true,2,L.map ek⟩/\∀x∈L,x.cI.size<=64:=⟨L++[⟨(⟨#[103]⟩:ByteArray)++dt,z⟩],by simp[hL],by rw[List.map_append];exact cG,fun x hx=>by
   rcases List.mem_append.1 hx with h9|h9
   ·exact hs x h9
   ·rw[List.mem_singleton.1 h9];exact lV⟩
  have cO:∀i:Id,i≠X->i≠⟨23002001,x1+1⟩->i.bj<na->(i.site≠23007008∨i.bj<x2)->g3 i=ga i:=fun i h1 h2 h3 h4=>(hK.2 i h1 aQ).trans (by
   have h8:=dh h3
   have h9:=eq_false h2
   have h7:(i=o)=False:=eq_false fun e=>by rw[e]at h4;rcases h4 with h|h;exact h (aGs o _ rfl);omega
   simp only[go_sem, ↓reduceIte,Nat.reduceEqDiff,Nat.reduceAdd,Nat.reduceSub,Nat.reduceLeDiff,reduceCtorEq,h8,h9,h7])
  clear hK
  clear k0 Vr
  apply Z
  clear Z N
  all_goals
   (try((repeat(revert N;apply Pn.out));refine wk (tw @a6 (tw @a0 (tw @a2 (tw @a3 (tw @a4 @a5))))) ?_;(repeat(apply Pn.mk;intro N Z))))
   refine mH (fun e st=>e 0=.ptr X 0 0/\e 2=.ptr ⟨23000000,σ.next⟩ 0 0/\e 3=.int .i64 z/\e 4=.ptr ⟨23002001,x1+1⟩ 0 0/\e 5=.int .i64 (m:Int)/\e 6=.int .i64 (k:Int)/\e 7=.ptr ⟨23008008,na+1+1⟩ 0 0/\e9 st.get X bs (A+10+8*k+4)/\x3<=st.next/\(∀i:Id,i≠X->i≠⟨23008006,na+1+1⟩->i.bj<x3->st.get i=g3 i)/\∃l:List Int,l.length=4/\st.get ⟨23008006,na+1+1⟩=some ⟨true,1,l.map aJ⟩) ?_ ?_
   ·rintro e st ⟨b0,b2,b3,b4,b5,b6,b7,bS,bN,bO,bE⟩
    obtain⟨gb,nb⟩:=st
    (try dsimp only at bS bN bO bE)
    have b8:=(bO ⟨23008008,na+1+1⟩ (nZZ hX) (fun e=>by injection e with e1 _;revert e1;decide) aQ).trans c7
    apply Z
    clear Z N
    (try((repeat(revert N;apply Pn.out));refine wk (tw @b0 (tw @b2 (tw @b3 (tw @b4 (tw @b5 (tw @b6 @b7)))))) ?_;(repeat(apply Pn.mk;intro N Z))))
    refine .inr (aE _ _ _ _ _ (fun r σ5 hq=>?_) (BD bs hb iD X 4 _ ah _ bS))
    clear b
    obtain⟨b,rfl,h5,hK⟩:=hq
    obtain⟨g5,x5⟩:=σ5
    (try dsimp only at h5)
    have XD:=hK.1
    (try dsimp only at XD)
    have p4:=(hK.2 ⟨23002001,x1+1⟩ (nZZ hX) aQ).trans ((bO ⟨23002001,x1+1⟩ (nZZ hX) (fun e=>by injection e with e1 _;revert e1;decide) aQ).trans c4)
    have p7:=(hK.2 ⟨23008008,na+1+1⟩ (nZZ hX) aQ).trans b8
    have pE:∃l:List Int,l.length=4/\g5 ⟨23008006,na+1+1⟩=some ⟨true,1,l.map aJ⟩:=by
     obtain⟨l,hl,gE⟩:=bE
     exact⟨l,hl,(hK.2 ⟨23008006,na+1+1⟩ (nZZ hX) aQ).trans gE⟩
    have pO:∀i:Id,i≠X->i≠⟨23008006,na+1+1⟩->i.bj<x3->g5 i=g3 i:=fun i h1 h2 h3=>(hK.2 i h1 aQ).trans (bO i h1 h2 h3)
    (try dsimp only at p4 p7)
    clear hK
    apply Z
    clear Z N
    (try((repeat(revert N;apply Pn.out));refine wk @b0 ?_;(repeat(apply Pn.mk;intro N Z))))
    refine mH (fun e st=>e 0=.ptr X 0 0/\e 2=.ptr ⟨23000000,σ.next⟩ 0 0/\e 3=.int .i64 z/\e 4=.ptr ⟨23002001,x1+1⟩ 0 0/\e 5=.int .i64 (m:Int)/\e 6=.int .i64 (k:Int)/\e 7=.ptr ⟨23008008,na+1+1⟩ 0 0/\e9 st.get X bs (A+10+8*k+8)/\x5<=st.next/\(∀i:Id,i≠X->i≠⟨23008006,na+1+1⟩->i.bj<x5->st.get i=g5 i)/\∃l:List Int,l.length=4/\st.get ⟨23008006,na+1+1⟩=some ⟨true,1,l.map aJ⟩) ?_ ?_
    ·rintro e st ⟨r0,r2,r3,r4,r5,r6,r7,rS,rN,rO,rE⟩
     obtain⟨gc,nc⟩:=st
     (try dsimp only at rS rN rO rE)
     have s4:=(rO ⟨23002001,x1+1⟩ (nZZ hX) (fun e=>by injection e with e1 _;revert e1;decide) aQ).trans p4
     have s7:=(rO ⟨23008008,na+1+1⟩ (nZZ hX) (fun e=>by injection e with e1 _;revert e1;decide) aQ).trans p7
     (try dsimp only at s4 s7)
     have WO:∀i:Id,i≠X->i≠⟨23008006,na+1+1⟩->i.bj<x3->gc i=g3 i:=fun i h1 h2 h3=>(rO i h1 h2 ah).trans (pO i h1 h2 h3)
     have YM:∀i:Id,i≠X->i≠⟨23002001,x1+1⟩->i.bj<na->(i.site≠23007008∨i.bj<x2)->gc i=ga i:=fun i h1 h2 h3 h4=>(WO i h1 (fun e=>by rw[e]at h3;(try dsimp only at h3);omega) ah).trans (cO i h1 h2 h3 h4)
     obtain⟨L,YF,hL2,hL3⟩:=cG
     have rG:=(WO ⟨23007008,na+1⟩ (nZZ hX) (fun e=>by injection e with e1 _;revert e1;decide) aQ).trans hL2
     obtain⟨l,hl,gE⟩:=rE
     have RK:=dh (i:=X) (n:=nc) ah
     have VV:∀s,(X=⟨s,x1+1⟩)=False:=fun s=>eq_false fun e=>by rw[e]at hX;(try dsimp only at hX);omega
     apply Z
     clear Z N
     rcases aT with⟨k0,rfl⟩|⟨k0,o,rows,rfl,hr,go,hT,hs,j5,pJ⟩
     ·(try((repeat(revert N;apply Pn.out));refine wk (tw @r0 (tw @r2 (tw @r3 (tw @r4 (tw @r5 (tw @r6 (tw @r7 (tw @s4 @s7)))))))) ?_;(repeat(apply Pn.mk;intro N Z))))
      obtain⟨za,zz,As,gX⟩:=rS
      have nG:(⟨23007008,na+1⟩:Id).bj<nc:=aQ
      exact dD (sd (tw @a6 (tw @a0 (tw @a2 (tw @a3 (tw @a4 (tw @a5 @r6))))))) (by(try dsimp only);exact⟨⟨za,zz,ah,by simp only[go_sem, ↓reduceIte,Nat.reduceEqDiff,Nat.reduceAdd,Nat.reduceSub,Nat.reduceLeDiff,reduceCtorEq,RK,VV]<;>exact gX⟩,ah,fun i h1 h2 h3=>(by
       have h8:=dh (i:=i) (n:=nc) ah
       have h9:=eq_false h2
       simp only[go_sem, ↓reduceIte,Nat.reduceEqDiff,Nat.reduceAdd,Nat.reduceSub,Nat.reduceLeDiff,reduceCtorEq,h8,h9]<;>exact(YM i h1 h2 ah (.inr h3)).trans (aO i h1 h2 h3)),.own ⟨23007008,na+1⟩ 0 (k+1),.own ⟨23013004,nc⟩ 0 1,sl @Nat.zero_add,.inr ⟨ah,⟨23007008,na+1⟩,L,rfl,YF,by simp only[go_sem, ↓reduceIte,Nat.reduceEqDiff,Nat.reduceAdd,Nat.reduceSub,Nat.reduceLeDiff,reduceCtorEq]<;>exact rG,hL3,aQ,aQ⟩,.inr ⟨ah,⟨23013004,nc⟩,[[.str ((⟨#[116]⟩:ByteArray)++dt),.own ⟨23008006,na+1+1⟩ 0 4]],by rw[k0],by rw[k0];rfl,sl @Nat.zero_add,fun row fy=>⟨_,⟨23008006,na+1+1⟩,List.mem_singleton.1 fy,EF,rfl,aQ,aQ,l,hl,by simp only[go_sem, ↓reduceIte,Nat.reduceEqDiff,Nat.reduceAdd,Nat.reduceSub,Nat.reduceLeDiff,reduceCtorEq]<;>exact gE⟩,by simp[gr],aQ,aQ⟩,fun o c h=>by cases h;rfl,fun o c h=>by cases h;rfl⟩)
     ·have Z0:=(YM o (fun h=>by rw[h]at j5;omega) (fun h=>by rw[h]at j5;(try dsimp only at j5);omega) pJ (.inl (by rw[aTs o _ rfl];decide))).trans go
      have vo:=dh (i:=o) (n:=nc) ah
      have o5:∀s,(o=⟨s,x1+1⟩)=False/\((⟨s,x1+1⟩:Id)=o)=False:=fun s=>⟨eq_false fun e=>by rw[e]at j5;(try dsimp only at j5);omega,eq_false fun e=>by rw[<-e]at j5;(try dsimp only at j5);omega⟩
      (try((repeat(revert N;apply Pn.out));refine wk (tw @r0 (tw @r2 (tw @r3 (tw @r4 (tw @r5 (tw @r6 (tw @r7 (tw @s4 (tw @s7 (tw @Z0 (tw @vo (tw @o5 (tw @hr @iO))))))))))))) ?_;(repeat(apply Pn.mk;intro N Z))))
      obtain⟨za,zz,As,gX⟩:=rS
      have nG:(⟨23007008,na+1⟩:Id).bj<nc:=aQ
      have nGo:((⟨23007008,na+1⟩:Id)=o)=False:=eq_false fun h=>by rw[<-h]at pJ;(try dsimp only at pJ);omega
      have nEo:((⟨23008006,na+1+1⟩:Id)=o)=False:=eq_false fun h=>by rw[<-h]at pJ;(try dsimp only at pJ);omega
      have P7:(X=o)=False:=eq_false fun h=>by rw[<-h]at j5;omega
      have hT2:=hT.frame (g':=gc) (n':=na) (Nat.le_refl _) fun u h1 h2 h3=>YM u (fun h=>by rw[h]at h2;omega) (fun h=>by rw[h]at h2;(try dsimp only at h2);omega) h3 (.inl (fun h=>by rw[gr,h]at h1;revert h1;decide))
      exact dD (sd (tw @a6 (tw @a0 (tw @a2 (tw @a3 (tw @a4 (tw @a5 @r6))))))) (by(try dsimp only);exact⟨⟨za,zz,ah,by simp only[go_sem, ↓reduceIte,Nat.reduceEqDiff,Nat.reduceAdd,Nat.reduceSub,Nat.reduceLeDiff,reduceCtorEq,RK,VV,P7]<;>exact gX⟩,ah,fun i h1 h2 h3=>(by
       have h8:=dh (i:=i) (n:=nc) ah
       have h9:=eq_false h2
       have h7:(i=o)=False:=eq_false fun h=>by rw[h]at h3;omega
       simp only[go_sem, ↓reduceIte,Nat.reduceEqDiff,Nat.reduceAdd,Nat.reduceSub,Nat.reduceLeDiff,reduceCtorEq,h8,h9,h7]<;>exact(YM i h1 h2 ah (.inr h3)).trans (aO i h1 h2 h3)),.own ⟨23007008,na+1⟩ 0 (k+1),.own ⟨23013004,nc⟩ 0 (k+1),sl @Nat.zero_add,.inr ⟨ah,⟨23007008,na+1⟩,L,rfl,YF,by simp only[go_sem, ↓reduceIte,Nat.reduceEqDiff,Nat.reduceAdd,Nat.reduceSub,Nat.reduceLeDiff,reduceCtorEq,nGo]<;>exact rG,hL3,aQ,aQ⟩,.inr ⟨ah,⟨23013004,nc⟩,rows++[[.str ((⟨#[116]⟩:ByteArray)++dt),.own ⟨23008006,na+1+1⟩ 0 4]],rfl,by simp[hr],sl @Nat.zero_add,(hT2.frame (n':=nc+1+1) ah fun u h1 h2 h3=>(by
       have h8:=dh (i:=u) (n:=nc) ah
       have h9:∀s,(u=⟨s,x1+1⟩)=False:=fun s=>eq_false fun h=>by rw[h]at h2;(try dsimp only at h2);omega
       have h7:(u=o)=False:=eq_false fun h=>hs (by rw[<-h];exact h1)
       simp only[go_sem, ↓reduceIte,Nat.reduceEqDiff,Nat.reduceAdd,Nat.reduceSub,Nat.reduceLeDiff,reduceCtorEq,h8,h9,h7])).snoc (e:=⟨23008006,na+1+1⟩) EF ⟨by simp[gr],aQ,aQ,l,hl,by simp only[go_sem, ↓reduceIte,Nat.reduceEqDiff,Nat.reduceAdd,Nat.reduceSub,Nat.reduceLeDiff,reduceCtorEq,nEo]<;>exact gE⟩,by simp[gr],aQ,aQ⟩,fun o c h=>by cases h;rfl,fun o c h=>by cases h;rfl⟩)
    ·intro N Z
     obtain⟨l,hl,gE⟩:=pE
     cases b
     ·(try((repeat(revert N;apply Pn.out));refine wk (tw @b0 (tw @b2 (tw @b3 (tw @b4 (tw @b5 (tw @b6 @b7)))))) ?_;(repeat(apply Pn.mk;intro N Z))))
      exact⟨sd (tw @b0 (tw @b2 (tw @b3 (tw @b4 (tw @b5 (tw @b6 @b7)))))),sd (tw @b0 (tw @b2 (tw @b3 (tw @b4 (tw @b5 (tw @b6 @b7)))))),sd (tw @b0 (tw @b2 (tw @b3 (tw @b4 (tw @b5 (tw @b6 @b7)))))),sd (tw @b0 (tw @b2 (tw @b3 (tw @b4 (tw @b5 (tw @b6 @b7)))))),sd (tw @b0 (tw @b2 (tw @b3 (tw @b4 (tw @b5 (tw @b6 @b7)))))),sd (tw @b0 (tw @b2 (tw @b3 (tw @b4 (tw @b5 (tw @b6 @b7)))))),sd (tw @b0 (tw @b2 (tw @b3 (tw @b4 (tw @b5 (tw @b6 @b7)))))),h5.mono ah,aQ,fun i _ _ _=>rfl,l,hl,gE⟩
     ·(try((repeat(revert N;apply Pn.out));refine wk (tw @b0 (tw @b2 (tw @b3 (tw @b4 (tw @b5 (tw @b6 @b7)))))) ?_;(repeat(apply Pn.mk;intro N Z))))
      refine dv ?_ ?_<;>(try((repeat(revert N;apply Pn.out));refine wk (tw @b0 (tw @b2 (tw @b3 (tw @b4 (tw @b5 (tw @b6 (tw @b7 @p7))))))) ?_;(repeat(apply Pn.mk;intro N Z))))
      all_goals
       refine .inr (aE _ _ _ _ _ (fun r σ4 hq=>?_) (gP bs hb iD X (m:Int) _ ah _ h5))
       obtain⟨y,rfl,y0,y1,h4,hK⟩:=hq
       obtain⟨g4,x4⟩:=σ4
       (try dsimp only at h4)
       have PI:=hK.1
       (try dsimp only at PI)
       have d7:=(hK.2 ⟨23008008,na+1+1⟩ (nZZ hX) aQ).trans p7
       have dE:=(hK.2 ⟨23008006,na+1+1⟩ (nZZ hX) aQ).trans gE
       have dO:∀i:Id,i≠X->i.bj<x5->g4 i=g5 i:=fun i h1 h2=>hK.2 i h1 aQ
       (try dsimp only at d7 dE)
       clear hK
       have gU:(l.map aJ).length=4:=by rw[List.length_map,hl]
       have fx:∀w:Int,(l.map aJ).set 2 [.int .i64 w]=(l.set 2 w).map aJ:=fun w=>by rw[List.map_set];rfl
       apply Z
       clear Z N
       have lx:(l.map aJ)[2]? =some [.int .i64 (l.getD 2 0)]:=getD_map aJ ah
       (try((repeat(revert N;apply Pn.out));refine wk (tw @b0 (tw @b2 (tw @b3 (tw @b4 (tw @b5 (tw @b6 (tw @b7 (tw @d7 (tw @dE (tw @gU (tw @fx @lx))))))))))) ?_;(repeat(apply Pn.mk;intro N Z))))
       obtain⟨za,zz,As,gX⟩:=h4
       have VV:∀s,(X=⟨s,na+1+1⟩)=False:=fun s=>eq_false fun e=>by rw[e]at hX;(try dsimp only at hX);omega
       exact⟨sd (tw @b0 (tw @b2 (tw @b3 (tw @b4 (tw @b5 (tw @b6 @b7)))))),sd (tw @b0 (tw @b2 (tw @b3 (tw @b4 (tw @b5 (tw @b6 @b7)))))),sd (tw @b0 (tw @b2 (tw @b3 (tw @b4 (tw @b5 (tw @b6 @b7)))))),sd (tw @b0 (tw @b2 (tw @b3 (tw @b4 (tw @b5 (tw @b6 @b7)))))),sd (tw @b0 (tw @b2 (tw @b3 (tw @b4 (tw @b5 (tw @b6 @b7)))))),sd (tw @b0 (tw @b2 (tw @b3 (tw @b4 (tw @b5 (tw @b6 @b7)))))),sd (tw @b0 (tw @b2 (tw @b3 (tw @b4 (tw @b5 (tw @b6 @b7)))))),⟨za,zz,ah,by simp only[go_sem, ↓reduceIte,Nat.reduceEqDiff,Nat.reduceAdd,Nat.reduceSub,Nat.reduceLeDiff,reduceCtorEq,VV]<;>exact gX⟩,aQ,fun i h1 h2 h3=>(by
        have h9:=eq_false h2
        simp only[go_sem, ↓reduceIte,Nat.reduceEqDiff,Nat.reduceAdd,Nat.reduceSub,Nat.reduceLeDiff,reduceCtorEq,h9]<;>exact dO i h1 h3),l.set 2 (IntKind.i64.wrap (1+y)),by rw[List.length_set,hl],sl @Nat.zero_add⟩
   ·intro N Z
    obtain⟨l,hl,gE⟩:=cE
    cases b
    ·(try((repeat(revert N;apply Pn.out));refine wk (tw @a6 (tw @a0 (tw @a2 (tw @a3 (tw @a4 @a5))))) ?_;(repeat(apply Pn.mk;intro N Z))))
     exact⟨sd (tw @a6 (tw @a0 (tw @a2 (tw @a3 (tw @a4 @a5))))),sd (tw @a6 (tw @a0 (tw @a2 (tw @a3 (tw @a4 @a5))))),sd (tw @a6 (tw @a0 (tw @a2 (tw @a3 (tw @a4 @a5))))),sd (tw @a6 (tw @a0 (tw @a2 (tw @a3 (tw @a4 @a5))))),sd (tw @a6 (tw @a0 (tw @a2 (tw @a3 (tw @a4 @a5))))),sd (tw @a6 (tw @a0 (tw @a2 (tw @a3 (tw @a4 @a5))))),sd (tw @a6 (tw @a0 (tw @a2 (tw @a3 (tw @a4 @a5))))),h3.mono ah,aQ,fun i _ _ _=>rfl,l,hl,gE⟩
    ·(try((repeat(revert N;apply Pn.out));refine wk (tw @a6 (tw @a0 (tw @a2 (tw @a3 (tw @a4 @a5))))) ?_;(repeat(apply Pn.mk;intro N Z))))
     refine dv ?_ ?_<;>(try((repeat(revert N;apply Pn.out));refine wk (tw @a6 (tw @a0 (tw @a2 (tw @a3 (tw @a4 (tw @a5 @c7)))))) ?_;(repeat(apply Pn.mk;intro N Z))))
     all_goals
      refine .inr (aE _ _ _ _ _ (fun r σ4 hq=>?_) (gP bs hb iD X (m:Int) _ ah _ h3))
      obtain⟨y,rfl,y0,y1,h4,hK⟩:=hq
      obtain⟨g4,x4⟩:=σ4
      (try dsimp only at h4)
      have PI:=hK.1
      (try dsimp only at PI)
      have d7:=(hK.2 ⟨23008008,na+1+1⟩ (nZZ hX) aQ).trans c7
      have dE:=(hK.2 ⟨23008006,na+1+1⟩ (nZZ hX) aQ).trans gE
      have dO:∀i:Id,i≠X->i.bj<x3->g4 i=g3 i:=fun i h1 h2=>hK.2 i h1 aQ
      (try dsimp only at d7 dE)
      clear hK
      have gU:(l.map aJ).length=4:=by rw[List.length_map,hl]
      have fx:∀w:Int,(l.map aJ).set 0 [.int .i64 w]=(l.set 0 w).map aJ:=fun w=>by rw[List.map_set];rfl
      apply Z
      clear Z N
      have lx:(l.map aJ)[0]? =some [.int .i64 (l.getD 0 0)]:=getD_map aJ ah
      (try((repeat(revert N;apply Pn.out));refine wk (tw @a6 (tw @a0 (tw @a2 (tw @a3 (tw @a4 (tw @a5 (tw @d7 (tw @dE (tw @gU (tw @fx @lx)))))))))) ?_;(repeat(apply Pn.mk;intro N Z))))
      obtain⟨za,zz,As,gX⟩:=h4
      have VV:∀s,(X=⟨s,na+1+1⟩)=False:=fun s=>eq_false fun e=>by rw[e]at hX;(try dsimp only at hX);omega
      exact⟨sd (tw @a6 (tw @a0 (tw @a2 (tw @a3 (tw @a4 @a5))))),sd (tw @a6 (tw @a0 (tw @a2 (tw @a3 (tw @a4 @a5))))),sd (tw @a6 (tw @a0 (tw @a2 (tw @a3 (tw @a4 @a5))))),sd (tw @a6 (tw @a0 (tw @a2 (tw @a3 (tw @a4 @a5))))),sd (tw @a6 (tw @a0 (tw @a2 (tw @a3 (tw @a4 @a5))))),sd (tw @a6 (tw @a0 (tw @a2 (tw @a3 (tw @a4 @a5))))),sd (tw @a6 (tw @a0 (tw @a2 (tw @a3 (tw @a4 @a5))))),⟨za,zz,ah,by simp only[go_sem, ↓reduceIte,Nat.reduceEqDiff,Nat.reduceAdd,Nat.reduceSub,Nat.reduceLeDiff,reduceCtorEq,VV]<;>exact gX⟩,aQ,fun i h1 h2 h3=>(by
       have h9:=eq_false h2
       simp only[go_sem, ↓reduceIte,Nat.reduceEqDiff,Nat.reduceAdd,Nat.reduceSub,Nat.reduceLeDiff,reduceCtorEq,h9]<;>exact dO i h1 h3),l.set 0 (IntKind.i64.wrap (1+y)),by rw[List.length_set,hl],sl @Nat.zero_add⟩
 ·have hke:k=m:=ah
  subst hke
  (try((repeat(revert N;apply Pn.out));refine wk (tw @a6 (tw @a0 (tw @a2 (tw @a3 (tw @a4 (tw @a5 @hk)))))) ?_;(repeat(apply Pn.mk;intro N Z))))
  obtain⟨ga,na⟩:=st_a
  (try dsimp only at aS aN aO Gl aG aT)
  have XB:dW vt=some k:=by
   rcases aT with⟨h,_⟩|⟨_,o,rows,rfl,_⟩
   ·omega
   ·rfl
  rcases aT with⟨h,_⟩|⟨k0,o,rows,rfl,hr,go,hT,hs,j5,pJ⟩
  ·omega
  refine bz (fun n env st=>∃j:Nat,n=(k)-j/\j<=(k)/\env 8=.int .i64 (j:Int)/\((na<=st.next/\(∀i:Id,(i.bj<x2∨¬gr i.site)->i.bj<na->st.get i=ga i)/\iT gr x2 st.get na rows))) (k) ⟨0,ah,ah,sl (tw @a6 (tw @a0 (tw @a2 (tw @a3 (tw @a4 @a5))))),by(try dsimp only);exact⟨ah,fun i _ _=>rfl,hT⟩⟩ ?_
  rintro n_b env_b st_b ⟨j,rfl,ble,b8,bI0⟩ fo
  have b0:=fo 0 (by kernel_rfl);have b2:=fo 2 (by kernel_rfl);have b3:=fo 3 (by kernel_rfl);have b4:=fo 4 (by kernel_rfl);have b5:=fo 5 (by kernel_rfl)
  simp only[go_sem, ↓reduceIte,Nat.reduceEqDiff,Nat.reduceAdd,Nat.reduceSub,Nat.reduceLeDiff,reduceCtorEq,a6,a0,a2,a3,a4,a5]at b0 b2 b3 b4 b5
  clear fo
  obtain⟨bN,bO,bT⟩:=bI0
  have b4':=(bO ⟨23002001,x1+1⟩ (.inl aQ) aQ).trans Gl
  have bo:=(bO o (.inr hs) pJ).trans go
  by_cases hj:(j:Int)<(k:Int)
  ·have fN:∀{e:Env} {gg:Rows} {nx:Nat},(e 8=.int .i64 (IntKind.i64.wrap ((j:Int)+1)))->((na<=nx/\(∀i:Id,(i.bj<x2∨¬gr i.site)->i.bj<na->gg i=ga i)/\iT gr x2 gg na rows))->∃m0,m0<(k)-j/\∃j:Nat,m0=(k)-j/\j<=(k)/\e 8=.int .i64 (j:Int)/\((na<=nx/\(∀i:Id,(i.bj<x2∨¬gr i.site)->i.bj<na->gg i=ga i)/\iT gr x2 gg na rows)):=fun x1 x2=>⟨_,ah,j+1,rfl,ah,(by rw[x1,aK ah]),x2⟩
   (try((repeat(revert N;apply Pn.out));refine wk (tw @b8 (tw @b0 (tw @b2 (tw @b3 (tw @b4 (tw @b5 (tw @hj (tw @b4' @XB)))))))) ?_;(repeat(apply Pn.mk;intro N Z))))
   refine bz (fun n env st=>∃d:Nat,n=(4)-d/\d<=(4)/\env 9=.int .i64 (d:Int)/\((na<=st.next/\(∀i:Id,(i.bj<x2∨¬gr i.site)->i.bj<na->st.get i=ga i)/\iT gr x2 st.get na rows))) (4) ⟨0,ah,ah,sl (tw @b8 (tw @b0 (tw @b2 (tw @b3 (tw @b4 @b5))))),by(try dsimp only);exact⟨ah,bO,bT⟩⟩ ?_
   rintro n_c env_c st_c ⟨d,rfl,cle,c9,cI0⟩ il
   have c0:=il 0 (by kernel_rfl);have c2:=il 2 (by kernel_rfl);have c3:=il 3 (by kernel_rfl);have c4:=il 4 (by kernel_rfl);have c5:=il 5 (by kernel_rfl);have c8:=il 8 (by kernel_rfl)
   simp only[go_sem, ↓reduceIte,Nat.reduceEqDiff,Nat.reduceAdd,Nat.reduceSub,Nat.reduceLeDiff,reduceCtorEq,b8,b0,b2,b3,b4,b5]at c0 c2 c3 c4 c5 c8
   clear il
   obtain⟨cN,cO,cT⟩:=cI0
   by_cases hd:(d:Int)<4
   ·have fJ:∀{e:Env} {gg:Rows} {nx:Nat},(e 9=.int .i64 (IntKind.i64.wrap ((d:Int)+1)))->((na<=nx/\(∀i:Id,(i.bj<x2∨¬gr i.site)->i.bj<na->gg i=ga i)/\iT gr x2 gg na rows))->∃m0,m0<(4)-d/\∃d:Nat,m0=(4)-d/\d<=(4)/\e 9=.int .i64 (d:Int)/\((na<=nx/\(∀i:Id,(i.bj<x2∨¬gr i.site)->i.bj<na->gg i=ga i)/\iT gr x2 gg na rows)):=fun x1 x2=>⟨_,ah,d+1,rfl,ah,(by rw[x1,aK ah]),x2⟩
    have Vr:=(cO ⟨23002001,x1+1⟩ (.inl aQ) aQ).trans Gl
    have co:=(cO o (.inr hs) pJ).trans go
    obtain⟨nm,e,fy,f1,f2,f3,l,hl,gE⟩:=cT.get (k:=j) ah
    have gU:(l.map aJ).length=4:=by rw[List.length_map,hl]
    have lx:(l.map aJ)[d]? =some [.int .i64 (l.getD d 0)]:=getD_map aJ ah
    have fx:∀w:Int,(l.map aJ).set d [.int .i64 w]=(l.set d w).map aJ:=fun w=>by rw[List.map_set];rfl
    have Om:(d:Int)<((4:Nat):Int):=ah
    by_cases hx:(k:Int)<l.getD d 0
    ·generalize l.getD d 0=w at lx hx
     (try((repeat(revert N;apply Pn.out));refine wk (tw @c9 (tw @c0 (tw @c2 (tw @c3 (tw @c4 (tw @c5 (tw @c8 (tw @hd (tw @hj (tw @Vr (tw @co (tw @fy (tw @gE (tw @lx (tw @gU (tw @fx (tw @hx @Om))))))))))))))))) ?_;(repeat(apply Pn.mk;intro N Z))))
     exact fJ (sd (tw @c9 (tw @c0 (tw @c2 (tw @c3 (tw @c4 (tw @c5 @c8))))))) (by(try dsimp only);exact⟨ah,fun i h1 h2=>(by
      have h7:(i=e)=False:=eq_false fun h=>by rw[h]at h1;rcases h1 with h|h;omega;exact h f1
      simp only[go_sem, ↓reduceIte,Nat.reduceEqDiff,Nat.reduceAdd,Nat.reduceSub,Nat.reduceLeDiff,reduceCtorEq,h7]<;>exact cO i h1 h2),cT.write (by rw[List.length_set,hl])⟩)
    ·generalize l.getD d 0=w at lx hx
     (try((repeat(revert N;apply Pn.out));refine wk (tw @c9 (tw @c0 (tw @c2 (tw @c3 (tw @c4 (tw @c5 (tw @c8 (tw @hd (tw @hj (tw @Vr (tw @co (tw @fy (tw @gE (tw @lx (tw @gU (tw @hx @Om)))))))))))))))) ?_;(repeat(apply Pn.mk;intro N Z))))
     exact fJ (sd (tw @c9 (tw @c0 (tw @c2 (tw @c3 (tw @c4 (tw @c5 @c8))))))) (by(try dsimp only);exact⟨ah,cO,cT⟩)
   ·(try((repeat(revert N;apply Pn.out));refine wk (tw @c9 (tw @c0 (tw @c2 (tw @c3 (tw @c4 (tw @c5 (tw @c8 @hd))))))) ?_;(repeat(apply Pn.mk;intro N Z))))
    exact fN (sd (tw @b8 (tw @b0 (tw @b2 (tw @b3 (tw @b4 (tw @b5 (tw @c9 (tw @c0 (tw @c2 (tw @c3 (tw @c4 (tw @c5 @c8))))))))))))) (by(try dsimp only);exact⟨ah,cO,cT⟩)
  ·(try((repeat(revert N;apply Pn.out));refine wk (tw @b8 (tw @b0 (tw @b2 (tw @b3 (tw @b4 (tw @b5 (tw @hj (tw @b4' @XB)))))))) ?_;(repeat(apply Pn.mk;intro N Z))))
   have bS:e9 st_b.get X bs (A+10+8*k):=by
    obtain⟨za,zz,As,gX⟩:=aS
    exact⟨za,zz,As,(bO X (.inl ah) ah).trans gX⟩
   refine .inr (aE _ _ _ _ _ (fun r σ5 hq=>?_) (BD bs hb iD X 2 _ ah _ bS))
   obtain⟨b,rfl,h5,hK⟩:=hq
   obtain⟨g5,x5⟩:=σ5
   (try dsimp only at h5)
   have XD:=hK.1
   (try dsimp only at XD)
   have pO:∀i:Id,i≠X->(i.bj<x2∨¬gr i.site)->i.bj<na->g5 i=ga i:=fun i h1 h2 h3=>(hK.2 i h1 aQ).trans (bO i h2 h3)
   have pT:iT gr x2 g5 na rows:=bT.frame (Nat.le_refl _) fun u h1 h2 h3=>hK.2 u (fun h=>by rw[h]at h2;omega) aQ
   clear hK bS
   have p4:=(pO ⟨23002001,x1+1⟩ (nZZ hX) (.inl aQ) aQ).trans Gl
   have po:=(pO o (fun h=>by rw[h]at j5;omega) (.inr hs) pJ).trans go
   apply Z
   clear Z N
   (try((repeat(revert N;apply Pn.out));refine wk (tw @b8 (tw @b0 (tw @b2 (tw @b3 (tw @b4 @b5))))) ?_;(repeat(apply Pn.mk;intro N Z))))
   refine mH (fun e st=>e 2=.ptr ⟨23000000,σ.next⟩ 0 0/\e 3=.int .i64 z/\e 4=.ptr ⟨23002001,x1+1⟩ 0 0/\na<=st.next/\(∀i:Id,i≠X->(i.bj<x2∨¬gr i.site)->i.bj<na->st.get i=ga i)/\iT gr x2 st.get na rows/\e9 st.get X bs (A+500)) ?_ ?_
   ·rintro e st ⟨r2,r3,r4,rN,rO,rT,rS⟩
    obtain⟨gc,nc⟩:=st
    (try dsimp only at rN rO rT rS)
    have s4:=(rO ⟨23002001,x1+1⟩ (nZZ hX) (.inl aQ) aQ).trans Gl
    have s2:=(rO ⟨23000000,σ.next⟩ (nZZ hX) (.inl aQ) aQ).trans ((aO ⟨23000000,σ.next⟩ (nZZ hX) (fun e=>by injection e with e1 _;revert e1;decide) aQ).trans me)
    rcases aG with⟨h,_⟩|⟨_,og,L,rfl,hL,nz,uj,gv0,gv1⟩
    ·omega
    apply Z
    clear Z N
    (try((repeat(revert N;apply Pn.out));refine wk (tw @r2 (tw @r3 (tw @r4 (tw @s4 @s2)))) ?_;(repeat(apply Pn.mk;intro N Z))))
    obtain⟨za,zz,As,gX⟩:=rS
    have RK:=dh (i:=X) (n:=nc) ah
    have hG:gq x2 gc nc (.own og 0 k) k:=.inr ⟨ah,og,L,rfl,hL,(rO og (fun h=>by rw[h]at gv0;omega) (.inr (by rw[aGs og _ rfl];simp[gr])) gv1).trans nz,uj,ah,ah⟩
    have WD:gy gr x2 gc nc (.own o 0 k) k:=.inr ⟨ah,o,rows,rfl,hr,(rO o (fun h=>by rw[h]at j5;omega) (.inr hs) pJ).trans go,rT.frame rN fun _ _ _ _=>rfl,hs,ah,ah⟩
    have jP:∀u:Id,x2<=u.bj->u.bj<nc->∀r1 r2,(bL (bL gc ⟨23024002,nc⟩ r1) ⟨23000000,σ.next⟩ r2) u=gc u:=fun u h1 h2 r1 r2=>(by
     have h8:=dh h2
     have h9:∀s,(u=⟨s,σ.next⟩)=False:=fun s=>eq_false fun h=>by rw[h]at h1;(try dsimp only at h1);omega
     simp only[go_sem, ↓reduceIte,Nat.reduceEqDiff,Nat.reduceAdd,Nat.reduceSub,Nat.reduceLeDiff,reduceCtorEq,h8,h9])
    exact fV (.inl rfl) (vs:=[.agg [.own og 0 k,.own o 0 k,.own ⟨23024002,nc⟩ 0 1,.int .i64 z]]) (sd @r2) ⟨⟨gr,.own og 0 k,.own o 0 k,k,k,⟨23024002,nc⟩,⟨⟨0,0⟩,0⟩,z,rfl,(hG.frame aQ fun u h1 h2=>jP u h1 h2 _ _).since aQ,(WD.frame aQ fun u h1 h2=>jP u h1 h2 _ _).since aQ,ah,ah,ah,ah,sl @Nat.zero_add,aQ,aQ⟩,⟨za,zz,ah,by simp only[go_sem, ↓reduceIte,Nat.reduceEqDiff,Nat.reduceAdd,Nat.reduceSub,Nat.reduceLeDiff,reduceCtorEq,RK,vX]<;>exact gX⟩,aQ,fun u h1 h2=>(by
     have h7:=dh h2
     have h8:=dh (i:=u) (n:=nc) ah
     simp only[go_sem, ↓reduceIte,Nat.reduceEqDiff,Nat.reduceAdd,Nat.reduceSub,Nat.reduceLeDiff,reduceCtorEq,h7,h8]<;>exact(rO u h1 (.inl ah) ah).trans ((aO u h1 (fun h=>by rw[h]at h2;(try dsimp only at h2);omega) ah).trans (JB u h1 h2)))⟩
   ·intro N Z
    cases b
    ·(try((repeat(revert N;apply Pn.out));refine wk (tw @b8 (tw @b0 (tw @b2 (tw @b3 (tw @b4 @b5))))) ?_;(repeat(apply Pn.mk;intro N Z))))
     exact⟨sd (tw @b8 (tw @b0 (tw @b2 (tw @b3 (tw @b4 @b5))))),sd (tw @b8 (tw @b0 (tw @b2 (tw @b3 (tw @b4 @b5))))),sd (tw @b8 (tw @b0 (tw @b2 (tw @b3 (tw @b4 @b5))))),aQ,pO,pT,h5.mono ah⟩
    ·obtain⟨nm,e,fy,f1,f2,f3,l,hl,gE⟩:=pT.get (k:=k-1) ah
     have gU:(l.map aJ).length=4:=by rw[List.length_map,hl]
     have lx:(l.map aJ)[1]? =some [.int .i64 (l.getD 1 0)]:=getD_map aJ ah
     have fx:∀w:Int,(l.map aJ).set 1 [.int .i64 w]=(l.set 1 w).map aJ:=fun w=>by rw[List.map_set];rfl
     have oP:IntKind.i64.wrap ((k:Int)-1)=((k-1:Nat):Int):=(cm ah).trans ah
     have K6:((k-1:Nat):Int)<(k:Int):=ah
     generalize k-1=kk at fy oP K6
     (try((repeat(revert N;apply Pn.out));refine wk (tw @b8 (tw @b0 (tw @b2 (tw @b3 (tw @b4 (tw @b5 (tw @p4 (tw @po (tw @oP (tw @K6 (tw @fy (tw @gE (tw @lx (tw @gU @fx)))))))))))))) ?_;(repeat(apply Pn.mk;intro N Z))))
     obtain⟨za,zz,As,gX⟩:=h5
     have nXe:(X=e)=False:=eq_false fun h=>by rw[<-h]at f2;omega
     exact⟨sd (tw @b8 (tw @b0 (tw @b2 (tw @b3 (tw @b4 @b5))))),sd (tw @b8 (tw @b0 (tw @b2 (tw @b3 (tw @b4 @b5))))),sd (tw @b8 (tw @b0 (tw @b2 (tw @b3 (tw @b4 @b5))))),aQ,fun i h0 h1 h2=>(by
      have h7:(i=e)=False:=eq_false fun h=>by rw[h]at h1;rcases h1 with h|h;omega;exact h f1
      simp only[go_sem, ↓reduceIte,Nat.reduceEqDiff,Nat.reduceAdd,Nat.reduceSub,Nat.reduceLeDiff,reduceCtorEq,h7]<;>exact pO i h0 h1 h2),pT.write (by rw[List.length_set,hl]),⟨za,zz,ah,by simp only[go_sem, ↓reduceIte,Nat.reduceEqDiff,Nat.reduceAdd,Nat.reduceSub,Nat.reduceLeDiff,reduceCtorEq,nXe]<;>exact gX⟩⟩
def B5 (f:Nat):Prop:=∀(bs:List Int),(∀b∈bs,0<=b/\b<=255)->bs.length<=4096->∀(X:Id) (A:Nat),A<=900000->∀σ:az,e9 σ.get X bs A->X.bj<σ.next->Call Tryz.prog f [.ptr X 0 0] σ (B4 X bs A σ)
theorem nM.parts {n0:Nat} {g:Rows} {n:Nat} {r:AV} (h:nM n0 g n r):∃(vg vt:AV) (o:Id) (m:Int),r=.agg [vg,vt,.own o 0 1,.int .i64 m]/\(vg.cells=[vg]/\vg.cell=true)/\vt.cells=[vt]/\vt.cell=true:=by
 obtain⟨E,vg,vt,kg,kt,o,p,m,h1,h2,h3,_⟩:=h
 exact⟨vg,vt,o,m,h1,h2.cell,h3.cell⟩
theorem Fe (hC:B5 25) (bs:List Int) (hb:∀b∈bs,0<=b/\b<=255) (iD:bs.length<=4096) (X:Id) (A:Nat) (ha:A<=800000) (σ:az) (h:e9 σ.get X bs A) (hX:X.bj<σ.next):
  Call Tryz.prog 46 [.ptr X 0 0] σ fun r σ'=>nM σ.next σ'.get σ'.next r/\lp X σ σ':=by
 refine hZ fR rfl fun gZ=>?_
 clear gZ
 have vX:=dh hX
 (try((repeat(revert N;apply Pn.out));refine wk @Nat.zero_add ?_;(repeat(apply Pn.mk;intro N Z))))
 refine .inr (aE _ _ _ _ _ (fun r σ1 hq=>?_) (gP bs hb iD X 7 A ah _ (by
  obtain⟨a,z,q1,q2⟩:=h
  exact⟨a,z,q1,by simp only[go_sem, ↓reduceIte,Nat.reduceEqDiff,Nat.reduceAdd,Nat.reduceSub,Nat.reduceLeDiff,reduceCtorEq,vX]<;>exact q2⟩)))
 obtain⟨v,rfl,v0,v1,h1,hK⟩:=hq
 obtain⟨g1,x1⟩:=σ1
 (try dsimp only at h1)
 have F9:=hK.1
 (try dsimp only at F9)
 have lg:=hK.2 ⟨46000000,σ.next⟩ (nZZ hX) aQ
 simp only[go_sem, ↓reduceIte,Nat.reduceEqDiff,Nat.reduceAdd,Nat.reduceSub,Nat.reduceLeDiff,reduceCtorEq]at lg
 have uk:∀i:Id,i≠X->i.bj<σ.next->g1 i=σ.get i:=fun i hi hv=>(hK.2 i hi aQ).trans (by have hv:=dh hv;simp only[go_sem, ↓reduceIte,Nat.reduceEqDiff,Nat.reduceAdd,Nat.reduceSub,Nat.reduceLeDiff,reduceCtorEq,hv])
 clear hK h
 apply Z
 clear Z N
 by_cases e0:v=0
 ·subst e0
  (try((repeat(revert N;apply Pn.out));refine wk @Nat.zero_add ?_;(repeat(apply Pn.mk;intro N Z))))
  refine .inr (aE _ _ _ _ _ (fun r σ2 hq=>?_) (Kd bs hb iD X _ ah _ h1 aQ))
  obtain⟨hS,_,hK⟩:=hq
  obtain⟨g2,x2⟩:=σ2
  (try dsimp only at hS)
  have sJ:=hK.1
  (try dsimp only at sJ)
  have me:=(hK.2 ⟨46000000,σ.next⟩ (nZZ hX) aQ).trans lg
  have JB:∀i:Id,i≠X->i.bj<σ.next->g2 i=σ.get i:=fun i hi hv=>(hK.2 i hi aQ).trans (uk i hi hv)
  (try dsimp only at me)
  clear hK
  obtain⟨vg,vt,o,m,rfl,⟨c1,c2⟩,c3,c4⟩:=hS.parts
  unfold AV.cells at c1 c3
  unfold AV.cell at c2 c4
  apply Z
  clear Z N
  (try((repeat(revert N;apply Pn.out));refine wk (tw @c1 (tw @c2 (tw @c3 (tw @c4 @me)))) ?_;(repeat(apply Pn.mk;intro N Z))))
  exact fV (.inl rfl) (vs:=[.agg [vg,vt,.own o 0 1,.int .i64 m]]) (sd (tw @c1 (tw @c2 (tw @c3 @c4)))) ⟨(hS.frame aQ fun u h1 h2=>(by
   have h9:∀s,(u=⟨s,σ.next⟩)=False:=fun s=>eq_false fun h=>by rw[h]at h1;(try dsimp only at h1);omega
   simp only[go_sem, ↓reduceIte,Nat.reduceEqDiff,Nat.reduceAdd,Nat.reduceSub,Nat.reduceLeDiff,reduceCtorEq,h9])).since aQ,aQ,fun u h1 h2=>(by
   have h9:=dh h2
   simp only[go_sem, ↓reduceIte,Nat.reduceEqDiff,Nat.reduceAdd,Nat.reduceSub,Nat.reduceLeDiff,reduceCtorEq,h9]<;>exact JB u h1 h2)⟩
 by_cases e1:v=1
 ·subst e1
  (try((repeat(revert N;apply Pn.out));refine wk @Nat.zero_add ?_;(repeat(apply Pn.mk;intro N Z))))
  refine .inr (aE _ _ _ _ _ (fun r σ2 hq=>?_) (y8 bs hb iD X _ ah _ h1 aQ))
  obtain⟨hS,_,hK⟩:=hq
  obtain⟨g2,x2⟩:=σ2
  (try dsimp only at hS)
  have sJ:=hK.1
  (try dsimp only at sJ)
  have me:=(hK.2 ⟨46000000,σ.next⟩ (nZZ hX) aQ).trans lg
  have JB:∀i:Id,i≠X->i.bj<σ.next->g2 i=σ.get i:=fun i hi hv=>(hK.2 i hi aQ).trans (uk i hi hv)
  (try dsimp only at me)
  clear hK
  obtain⟨vg,vt,o,m,rfl,⟨c1,c2⟩,c3,c4⟩:=hS.parts
  unfold AV.cells at c1 c3
  unfold AV.cell at c2 c4
  apply Z
  clear Z N
  (try((repeat(revert N;apply Pn.out));refine wk (tw @c1 (tw @c2 (tw @c3 (tw @c4 @me)))) ?_;(repeat(apply Pn.mk;intro N Z))))
  exact fV (.inl rfl) (vs:=[.agg [vg,vt,.own o 0 1,.int .i64 m]]) (sd (tw @c1 (tw @c2 (tw @c3 @c4)))) ⟨(hS.frame aQ fun u h1 h2=>(by
   have h9:∀s,(u=⟨s,σ.next⟩)=False:=fun s=>eq_false fun h=>by rw[h]at h1;(try dsimp only at h1);omega
   simp only[go_sem, ↓reduceIte,Nat.reduceEqDiff,Nat.reduceAdd,Nat.reduceSub,Nat.reduceLeDiff,reduceCtorEq,h9])).since aQ,aQ,fun u h1 h2=>(by
   have h9:=dh h2
   simp only[go_sem, ↓reduceIte,Nat.reduceEqDiff,Nat.reduceAdd,Nat.reduceSub,Nat.reduceLeDiff,reduceCtorEq,h9]<;>exact JB u h1 h2)⟩
 by_cases e2:v=2
 ·subst e2
  (try((repeat(revert N;apply Pn.out));refine wk @Nat.zero_add ?_;(repeat(apply Pn.mk;intro N Z))))
  refine .inr (aE _ _ _ _ _ (fun r σ2 hq=>?_) (y8 bs hb iD X _ ah _ h1 aQ))
  obtain⟨hS,_,hK⟩:=hq
  obtain⟨g2,x2⟩:=σ2
  (try dsimp only at hS)
  have sJ:=hK.1
  (try dsimp only at sJ)
  have me:=(hK.2 ⟨46000000,σ.next⟩ (nZZ hX) aQ).trans lg
  have JB:∀i:Id,i≠X->i.bj<σ.next->g2 i=σ.get i:=fun i hi hv=>(hK.2 i hi aQ).trans (uk i hi hv)
  (try dsimp only at me)
  clear hK
  obtain⟨vg,vt,o,m,rfl,⟨c1,c2⟩,c3,c4⟩:=hS.parts
  unfold AV.cells at c1 c3
  unfold AV.cell at c2 c4
  apply Z
  clear Z N
  (try((repeat(revert N;apply Pn.out));refine wk (tw @c1 (tw @c2 (tw @c3 (tw @c4 @me)))) ?_;(repeat(apply Pn.mk;intro N Z))))
  exact fV (.inl rfl) (vs:=[.agg [vg,vt,.own o 0 1,.int .i64 m]]) (sd (tw @c1 (tw @c2 (tw @c3 @c4)))) ⟨(hS.frame aQ fun u h1 h2=>(by
   have h9:∀s,(u=⟨s,σ.next⟩)=False:=fun s=>eq_false fun h=>by rw[h]at h1;(try dsimp only at h1);omega
   simp only[go_sem, ↓reduceIte,Nat.reduceEqDiff,Nat.reduceAdd,Nat.reduceSub,Nat.reduceLeDiff,reduceCtorEq,h9])).since aQ,aQ,fun u h1 h2=>(by
   have h9:=dh h2
   simp only[go_sem, ↓reduceIte,Nat.reduceEqDiff,Nat.reduceAdd,Nat.reduceSub,Nat.reduceLeDiff,reduceCtorEq,h9]<;>exact JB u h1 h2)⟩
 ·have f0:=decide_eq_false e0
  have f1:=decide_eq_false e1
  have f2:=decide_eq_false e2
  (try((repeat(revert N;apply Pn.out));refine wk (tw @f0 (tw @f1 @f2)) ?_;(repeat(apply Pn.mk;intro N Z))))
  refine .inr (aE _ _ _ _ _ (fun r σ2 hq=>?_) (hC bs hb iD X _ ah _ h1 aQ))
  obtain⟨hS,_,hK⟩:=hq
  obtain⟨g2,x2⟩:=σ2
  (try dsimp only at hS)
  have sJ:=hK.1
  (try dsimp only at sJ)
  have me:=(hK.2 ⟨46000000,σ.next⟩ (nZZ hX) aQ).trans lg
  have JB:∀i:Id,i≠X->i.bj<σ.next->g2 i=σ.get i:=fun i hi hv=>(hK.2 i hi aQ).trans (uk i hi hv)
  (try dsimp only at me)
  clear hK
  obtain⟨vg,vt,o,m,rfl,⟨c1,c2⟩,c3,c4⟩:=hS.parts
  unfold AV.cells at c1 c3
  unfold AV.cell at c2 c4
  apply Z
  clear Z N
  (try((repeat(revert N;apply Pn.out));refine wk (tw @c1 (tw @c2 (tw @c3 (tw @c4 @me)))) ?_;(repeat(apply Pn.mk;intro N Z))))
  exact fV (.inl rfl) (vs:=[.agg [vg,vt,.own o 0 1,.int .i64 m]]) (sd (tw @c1 (tw @c2 (tw @c3 @c4)))) ⟨(hS.frame aQ fun u h1 h2=>(by
   have h9:∀s,(u=⟨s,σ.next⟩)=False:=fun s=>eq_false fun h=>by rw[h]at h1;(try dsimp only at h1);omega
   simp only[go_sem, ↓reduceIte,Nat.reduceEqDiff,Nat.reduceAdd,Nat.reduceSub,Nat.reduceLeDiff,reduceCtorEq,h9])).since aQ,aQ,fun u h1 h2=>(by
   have h9:=dh h2
   simp only[go_sem, ↓reduceIte,Nat.reduceEqDiff,Nat.reduceAdd,Nat.reduceSub,Nat.reduceLeDiff,reduceCtorEq,h9]<;>exact JB u h1 h2)⟩
theorem DH (hC:B5 25) (bs:List Int) (hb:∀b∈bs,0<=b/\b<=255) (iD:bs.length<=4096):
  ja Tryz.prog 14 [.sl (bs.map lr)] fun r=>∃s:aA,V3 s/\r=.agg (bt s):=by
 refine ja.body fR rfl fun gZ n0=>?_
 clear gZ
 (try((repeat(revert N;apply Pn.out));refine wk @Nat.zero_add ?_;(repeat(apply Pn.mk;intro N Z))))
 refine .inr (aE _ _ _ _ _ (fun r σ1 hq=>?_) (Bn bs _))
 obtain⟨X,rfl,x0,x1,hs,hK⟩:=hq
 obtain⟨g1,n1⟩:=σ1
 (try dsimp only at x0 x1 hs)
 apply Z
 clear Z N
 have lg:=hK ⟨14000000,n0⟩ aQ
 simp only[go_sem, ↓reduceIte,Nat.reduceEqDiff,Nat.reduceAdd,Nat.reduceSub,Nat.reduceLeDiff,reduceCtorEq]at lg
 (try dsimp only at lg)
 clear hK
 (try((repeat(revert N;apply Pn.out));refine wk @Nat.zero_add ?_;(repeat(apply Pn.mk;intro N Z))))
 refine .inr (aE _ _ _ _ _ (fun r σ2 hq=>?_) (Fe hC bs hb iD X 0 ah _ hs aQ))
 obtain⟨hS,hK⟩:=hq
 obtain⟨g2,x2⟩:=σ2
 (try dsimp only at hS)
 have sJ:=hK.1
 (try dsimp only at sJ)
 have me:=(hK.2 ⟨14000000,n0⟩ (fun e=>by rw[<-e]at x0;(try dsimp only at x0);omega) aQ).trans lg
 (try dsimp only at me)
 clear hK
 obtain⟨vg,vt,o,m,rfl,⟨c1,c2⟩,c3,c4⟩:=hS.parts
 unfold AV.cells at c1 c3
 unfold AV.cell at c2 c4
 apply Z
 clear Z N
 (try((repeat(revert N;apply Pn.out));refine wk (tw @c1 (tw @c2 (tw @c3 (tw @c4 @me)))) ?_;(repeat(apply Pn.mk;intro N Z))))
 have hF:nM (n1+1) (bL g2 ⟨14000000,n0⟩ ⟨true,4,[[vg,vt,.own o 0 1,.int .i64 m]]⟩) x2 (.agg [vg,vt,.own o 0 1,.int .i64 m]):=hS.frame (Nat.le_refl _) fun u h1 h2=>(by
  have h9:∀s,(u=⟨s,n0⟩)=False:=fun s=>eq_false fun h=>by rw[h]at h1;(try dsimp only at h1);omega
  simp only[go_sem, ↓reduceIte,Nat.reduceEqDiff,Nat.reduceAdd,Nat.reduceSub,Nat.reduceLeDiff,reduceCtorEq,h9])
 obtain⟨s,Du,K8⟩:=hF.fz
 exact⟨[.agg [vg,vt,.own o 0 1,.int .i64 m]],sd (tw @c1 (tw @c2 (tw @c3 @c4))),_,K8,s,Du,rfl⟩
noncomputable def Lc (s:aA) (es:List aa):Int×Int:=if kC s then(if es.length<=500 then M5 s es else(0,2))else(0,1)
noncomputable def CU (s:aA) (es:List aa):AV:=if (Lc s es).2=0 then .sl ((eG s es es.length).map ai)else .br
theorem qk (s:aA) (es:List aa) (hn:jh s.aI) (hg:s.aI.bd.length<=1048576) (ht:s.aI.au.length<=1048576):AI Tryz.prog 15 [.agg (bt s),.sl (es.map ai)] (.gM [.agg [CU s es],.int .i64 (Lc s es).1,.int .i64 (Lc s es).2]):=by
 have h1:=CG s hn hg ht
 cases h0:kC s
 ·have hr:Lc s es=(0,1):=by rw[Lc,h0];rfl
  have hw:CU s es=.br:=by rw[CU,hr];rfl
  rw[hr,hw]
  rw[h0]at h1
  refine AI.body fR rfl fun gZ σ=>?_
  clear gZ
  rw[bt]at h1 ⊢
  (repeat(first|((repeat(revert N;apply Pn.out));refine wk @Nat.zero_add ?_;(repeat(apply Pn.mk;intro N Z)))|((try apply Or.inl);refine⟨_,ay.x (h1) (sd @Nat.zero_add),?_⟩;apply Z;clear Z N)))
  exact Nl (.inl rfl) (vs:=[.agg [.br],.int .i64 0,.int .i64 1]) (sd @Nat.zero_add) (by simp only[fw,bI,bH,ar,ax,aV,aW,Option.map_some])
 ·rw[h0]at h1
  have hP:=oc.1 h0
  by_cases h5:es.length<=500
  ·have hr:Lc s es=M5 s es:=by rw[Lc,h0,if_pos rfl,if_pos h5]
   have hw:CU s es=OF s es:=by rw[CU,hr];rfl
   have h2:=Kc s hP es h5
   rw[hr,hw]
   have hd:decide ((500:Int)<(es.length:Int))=false:=decide_eq_false ah
   obtain⟨w,hwd⟩:∃w,OF s es=w:=⟨_,rfl⟩
   rw[hwd]at h2 ⊢
   have oP:w.cells=[w]/\w.cell=true/\∀g,fz g 5 w=some w/\fz g 4 w=some w:=by
    rw[<-hwd];unfold OF
    split
    ·exact⟨rfl,rfl,fun g=>⟨cw _ _ _,cw _ _ _⟩⟩
    ·exact⟨rfl,rfl,fun g=>⟨aV _ _,aV _ _⟩⟩
   obtain⟨pI,A9,WO⟩:=oP
   unfold AV.cells at pI
   unfold AV.cell at A9
   have hc4:=fun g=>(WO g).2
   refine AI.body fR rfl fun gZ σ=>?_
   clear gZ
   rw[bt]at h1 h2 ⊢
   (repeat(first|((repeat(revert N;apply Pn.out));refine wk (tw @hd (tw @pI @A9)) ?_;(repeat(apply Pn.mk;intro N Z)))|((try apply Or.inl);refine⟨_,ay.x (h1) (sd (tw @hd (tw @pI @A9))),?_⟩;apply Z;clear Z N)|((try apply Or.inl);refine⟨_,ay.x (h2) (sd (tw @hd (tw @pI @A9))),?_⟩;apply Z;clear Z N)))
   exact Nl (.inl rfl) (vs:=[.agg [w],.int .i64 (M5 s es).1,.int .i64 (M5 s es).2]) (sd @Nat.zero_add) (by simp only[fw,bI,bH,ar,ax,hc4,aW,Option.map_some])
  ·have hr:Lc s es=(0,2):=by rw[Lc,h0,if_pos rfl,if_neg h5]
   have hw:CU s es=.br:=by rw[CU,hr];rfl
   rw[hr,hw]
   have hd:decide ((500:Int)<(es.length:Int))=true:=decide_eq_true ah
   refine AI.body fR rfl fun gZ σ=>?_
   clear gZ
   rw[bt]at h1 ⊢
   (repeat(first|((repeat(revert N;apply Pn.out));refine wk @hd ?_;(repeat(apply Pn.mk;intro N Z)))|((try apply Or.inl);refine⟨_,ay.x (h1) (sd @hd),?_⟩;apply Z;clear Z N)))
   exact Nl (.inl rfl) (vs:=[.agg [.br],.int .i64 0,.int .i64 2]) (sd @Nat.zero_add) (by simp only[fw,bI,bH,ar,ax,aV,aW,Option.map_some])
def p2 (d:Nat):Int:=2 ^ d
noncomputable def TG (s:aA) (l:List aa) (x:aa):Nat->Int
 |0=>0
 |d+1=>if 0<=fQ l (cj x.bD d)/\0<iL s.aI x.ck d (fQ l (cj x.bD d))then TG s l x d+p2 d else TG s l x d
noncomputable def mskL (s:aA) (es:List aa) (i:Nat):List Int:=(List.range i).map fun j=>TG s (eG s es j) (bw es j) 4
noncomputable def sumL (s:aA) (es:List aa) (i:Nat):List Int:=(List.range i).map fun j=>mb s.aI (fQ (eG s es j)) (bw es j).bD (bw es j).ck
def PyL (s:aA) (es:List aa) (i:Nat) (X:Id) (e7 e8:AV) (g:Rows) (n:Nat):Prop:=∃o u v:Id,g X=some ⟨true,1,[[.own o 0 (eG s es i).length]]⟩/\g o=some ⟨true,3,(eG s es i).map ai⟩/\e7=.own u 0 i/\g u=some ⟨true,1,(mskL s es i).map aJ⟩/\e8=.own v 0 i/\g v=some ⟨true,1,(sumL s es i).map aJ⟩/\X.bj<n/\o.bj<n/\u.bj<n/\v.bj<n/\o≠X/\u≠X/\v≠X/\o≠u/\o≠v/\u≠v
section
variable {P:Program} {α:Type} {e:α->List AV} {z:Nat} {g g':Rows} {v:AV} {L:List α} {ids:List Id}
def OutT (e:α->List AV) (z:Nat) (g:Rows) (v:AV) (L:List α) (ids:List Id):Prop:=(L=[]/\v=.br/\ids=[])∨∃(o:Id) (J:List α),v=.own o 0 L.length/\g o=some ⟨true,z,(L++J).map e⟩/\ids=[o]/\0<L.length
def seenN (e:α->List AV) (v:AV) (L:List α):AV:=match v with| .br=>.br|_=>.sl (L.map e)
theorem Q9 {n:Nat} {o:Id} {J:List α} (h2:g o=some ⟨true,z,(L++J).map e⟩) (he:∀x g,eI g n (e x)=some (e x)):V.fz (eL g) (n+1) (.own o 0 L.length)=some (.sl (L.map e)):=by
 rw[ju]
 have:eL g o=some ⟨true,z,(L++J).map e⟩:=by simp[eL,h2]
 simp only[this,if_true]
 have h4:((L++J).map e).take L.length=L.map e:=by rw[<-List.map_take,List.take_append_of_le_length (Nat.le_refl _),List.take_length]
 rw[if_pos (by simp),List.drop_zero,h4,oH fun x=>he x _];rfl
end
theorem Wr {g:Rows} {u u':AV} (h0:V.fz g 6 u=some u'):eI g 6 [u]=some [u']:=by simp only[ar,ax,h0,Option.map_some]
theorem ZX {g:Rows} {u v u' v':AV} (h0:V.fz g 6 u=some u') (h1:V.fz g 6 v=some v'):eI g 6 [u,v]=some [u',v']:=by simp only[ar,ax,h0,h1,Option.map_some]
theorem ZY {g:Rows} {u v w x u' v' w' x':AV} (h0:V.fz g 6 u=some u') (h1:V.fz g 6 v=some v') (h2:V.fz g 6 w=some w') (h3:V.fz g 6 x=some x'):eI g 6 [u,v,w,x]=some [u',v',w',x']:=by simp only[ar,ax,h0,h1,h2,h3,Option.map_some]
theorem Sq (x:aa) (g:Rows):fm g 4 (ai x)=some (ai x):=by simp[ai,bc,bY,dG]
theorem IW {gp:List Int} {k:Nat} (h:k<gp.length):(gp.map aJ)[k]? =some [.int .i64 (gp.getD k 0)]:=getD_map aJ h
theorem zS (a b:Nat):(a:Int).tmod (b:Int)=((a % b:Nat):Int):=by rw[Int.tmod_eq_emod_of_nonneg ah];rfl
noncomputable def Eo (s:aA) (gp:List Int) (steps:Nat) (b:Bool):AV:=match Em s gp steps with
 |some es=>.gM [.sl (es.map ai),.agg [.sl ((eG s es es.length).map ai)],.bool b,.int .i64 0]
 |none=>.gM [.br,.agg [.br],.bool b,.int .i64 4]
theorem Ka (s:aA) (hP:ql s) (gp:List Int) (hs:∀x∈gp,0<=x/\x<=1000) (z6:gp.length<=200) (steps:Nat) (eA:steps<=500):
  ja Tryz.prog 29 [.dF (bt s),.dF [.sl (s.dm.au.map ai)],.sl (gp.map aJ),.int .i64 (steps:Int)] fun r=>∃b,r=Eo s gp steps b:=by
 refine ja.body fR rfl fun gZ n0=>?_
 clear gZ
 have hsd:=hP.FH.1.wQ
 have gU:(gp.map aJ).length=gp.length:=by simp
 (try((repeat(revert N;apply Pn.out));refine wk @bt.eq_1 ?_;(repeat(apply Pn.mk;intro N Z))))
 refine .inr (aE _ _ _ _ _ (fun r σ1 F5=>?_) (QZ.val (fun n=>E6 s.dm.au ah n) (by simp only[ar,ax,aU,Option.map_some])))
 obtain⟨⟨o,rfl,q1,q2,q3⟩,hK⟩:=F5
 obtain⟨g1,x1⟩:=σ1
 (try dsimp only at q1 q2 q3 hK)
 have we:=hK.1
 (try dsimp only at we)
 have k4:=hK.2 ⟨29000001,n0⟩ aQ
 simp only[go_sem, ↓reduceIte,Nat.reduceEqDiff,Nat.reduceAdd,Nat.reduceSub,Nat.reduceLeDiff,reduceCtorEq]at k4
 apply Z
 clear Z N
 (try((repeat(revert N;apply Pn.out));refine wk (tw @k4 @bt.eq_1) ?_;(repeat(apply Pn.mk;intro N Z))))
 have Xq:=BH s []
 obtain⟨X,hX⟩:∃X:Id,X=⟨29001002,x1⟩:=⟨_,rfl⟩
 obtain⟨Y,hY⟩:∃Y:Id,Y=⟨29000001,n0⟩:=⟨_,rfl⟩
 have hXY:X≠Y:=by rw[hX,hY];intro e;injection e with e1 e2;revert e1;decide
 have vo0:=dh (i:=o) (n:=x1) q3
 refine bz (fun m env st=>∃(es:List aa) (f:Nat),m=f/\GM s gp steps f es=Em s gp steps/\l8 s es/\es.length<=steps/\501<=f+(eG s es es.length).length/\(∃o w:Id,env 13=.own w 0 es.length/\st.get w=some ⟨true,3,es.map ai⟩/\st.get X=some ⟨true,1,[[.own o 0 (eG s es es.length).length]]⟩/\st.get o=some ⟨true,3,(eG s es es.length).map ai⟩/\o≠w/\o≠X/\o≠Y/\o.bj<st.next/\w.bj<st.next/\(w.site=29002000∨w.site=29015006))/\st.get Y=some ⟨true,1,[[.br]]⟩/\x1<st.next) 501 ⟨[],501,rfl,rfl,l8.nil s,by simp,ah,⟨o,⟨29002000,x1+1⟩,sl @Nat.zero_add,sl @Nat.zero_add,by rw[hX];simp only[go_sem, ↓reduceIte,Nat.reduceEqDiff,Nat.reduceAdd,Nat.reduceSub,Nat.reduceLeDiff,reduceCtorEq]<;>rfl,sl (tw @vo0 @q1),fun e=>by rw[e]at q3;(try dsimp only at q3);omega,fun e=>by rw[e,hX]at q3;(try dsimp only at q3);omega,fun e=>by rw[e,hY]at q2;(try dsimp only at q2);omega,aQ,aQ,.inl rfl⟩,by rw[hY];simp only[go_sem, ↓reduceIte,Nat.reduceEqDiff,Nat.reduceAdd,Nat.reduceSub,Nat.reduceLeDiff,reduceCtorEq,k4],aQ⟩ ?_
 rintro m env_b st_b ⟨es,f,rfl,hgro,hgood,hes,hfu,⟨o,w,yv,gw,gX,go,n1,n2,n3,vo,vw,sw⟩,gY,bn⟩ fo
 have b0:=fo 0 (by kernel_rfl)
 have b2:=fo 2 (by kernel_rfl)
 have b3:=fo 3 (by kernel_rfl)
 have b9:=fo 9 (by kernel_rfl)
 have FY:=fo 12 (by kernel_rfl)
 rw[<-hX]at FY
 rw[<-hY]at b9
 simp only[go_sem, ↓reduceIte,Nat.reduceEqDiff,Nat.reduceAdd,Nat.reduceSub,Nat.reduceLeDiff,reduceCtorEq,bt]at b0 b2 b3 b9 FY
 clear fo
 have hA:=nW hP (es:=es) es.length (Nat.le_refl _) hgood
 have YT:=hA.1.wQ
 obtain⟨f,rfl⟩:∃f,m=f+1:=⟨m-1,ah⟩
 rw[GM]at hgro
 have eS:=uG s hP _ hA
 rw[show oj (dX s (eG s es es.length)) s.aI.au.length (gx (eG s es es.length))=uN s (eG s es es.length)from rfl]at eS
 obtain⟨L,hL⟩:∃L,uN s (eG s es es.length)=L:=⟨_,rfl⟩
 rw[hL]at hgro eS
 have kO:(L.map ai).length=L.length:=by simp
 have hptr:=CX gX go
 have xv:X.bj<st_b.next:=by rw[hX];exact bn
 have vX:=dh xv
 have vY:=dh (i:=Y) (n:=st_b.next) (by rw[hY];(try dsimp only);omega)
 have vO:=dh vo
 have vW:=dh vw
 have e1:(o=w)=False/\(w=o)=False:=⟨eq_false n1,eq_false fun e=>n1 e.symm⟩
 have e2:(o=X)=False/\(X=o)=False:=⟨eq_false n2,eq_false fun e=>n2 e.symm⟩
 have e3:(o=Y)=False/\(Y=o)=False:=⟨eq_false n3,eq_false fun e=>n3 e.symm⟩
 have e4:(X=Y)=False/\(Y=X)=False:=⟨eq_false hXY,eq_false fun e=>hXY e.symm⟩
 have e5:(X=w)=False/\(w=X)=False:=by
  have:X≠w:=fun e=>by rw[<-e,hX]at sw;(try dsimp only at sw);revert sw;decide
  exact⟨eq_false this,eq_false fun e=>this e.symm⟩
 have e6:(Y=w)=False/\(w=Y)=False:=by
  have:Y≠w:=fun e=>by rw[<-e,hY]at sw;(try dsimp only at sw);revert sw;decide
  exact⟨eq_false this,eq_false fun e=>this e.symm⟩
 have fzW:∀g:Rows,g w=some ⟨true,3,es.map ai⟩->iq g 5 (.own w 0 es.length)=some (.sl (es.map ai)):=fun g h=>eP (e:=ai) h rfl fun x=>by simp[ai,bc,bY,dG]
 have fzO:∀g:Rows,g o=some ⟨true,3,(eG s es es.length).map ai⟩->iq g 4 (.own o 0 (eG s es es.length).length)=some (.sl ((eG s es es.length).map ai)):=fun g h=>eP (e:=ai) h rfl fun x=>by simp[ai,bc,bY,dG]
 have hmw:(es.map ai).length=es.length:=by simp
 (try((repeat(revert N;apply Pn.out));refine wk (tw @b0 (tw @FY @vX)) ?_;(repeat(apply Pn.mk;intro N Z))))
 refine .inl ⟨_,ay.x eS (ZX (by simp only[bt,aU]) hptr),?_⟩
 apply Z
 clear Z N
 have VF:(eG s es es.length).length<=500:=YT
 have hgW:=fzW (bL st_b.get Y ⟨true,1,[[.own o 0 (eG s es es.length).length]]⟩) (sd (tw @e6 @gw))
 have YU:=fzO (bL st_b.get Y ⟨true,1,[[.own o 0 (eG s es es.length).length]]⟩) (sd (tw @e3 @go))
 by_cases Oi:L.length=0
 ·rw[if_pos Oi]at hgro
  have hd:decide ((L.length:Int)=0)=true:=decide_eq_true ah
  have nA:decide (L.length=0)=true:=decide_eq_true Oi
  (try((repeat(revert N;apply Pn.out));refine wk (tw @b0 (tw @b2 (tw @b3 (tw @b9 (tw @FY (tw @yv (tw @gX (tw @gY (tw @kO (tw @hd (tw @nA (tw @vX (tw @vY @e4))))))))))))) ?_;(repeat(apply Pn.mk;intro N Z))))
  exact⟨[.own w 0 es.length,.agg [.own o 0 (eG s es es.length).length],.bool true,.int .i64 0],sd @b9,_,by simp only[fw,eR,bc,bY,jL,hgW,YU,fM,dG,Option.map_some]<;>rfl,true,by rw[Eo,<-hgro]⟩
 have JL:decide ((L.length:Int)=0)=false:=decide_eq_false ah
 have WY:decide (L.length=0)=false:=decide_eq_false Oi
 rw[if_neg Oi]at hgro
 by_cases Ri:(steps:Int)<=(es.length:Int)
 ·rw[if_pos ah]at hgro
  (try((repeat(revert N;apply Pn.out));refine wk (tw @b0 (tw @b2 (tw @b3 (tw @b9 (tw @FY (tw @yv (tw @gX (tw @gY (tw @kO (tw @JL (tw @WY (tw @Ri (tw @vX (tw @vY @e4)))))))))))))) ?_;(repeat(apply Pn.mk;intro N Z))))
  exact⟨[.own w 0 es.length,.agg [.own o 0 (eG s es es.length).length],.bool false,.int .i64 0],sd @b9,_,by simp only[fw,eR,bc,bY,jL,hgW,YU,fM,dG,Option.map_some]<;>rfl,false,by rw[Eo,<-hgro]⟩
 rw[if_neg ah]at hgro
 obtain⟨j,hj⟩:∃j,KB gp es.length L.length=j:=⟨_,rfl⟩
 have iH:j<L.length:=by rw[<-hj];exact IX ah
 rw[hj]at hgro
 (try((repeat(revert N;apply Pn.out));refine wk (tw @b0 (tw @b2 (tw @b3 (tw @b9 (tw @FY (tw @yv (tw @gX (tw @gY (tw @kO (tw @JL (tw @WY (tw @Ri @gU)))))))))))) ?_;(repeat(apply Pn.mk;intro N Z))))
 refine mH (fun e st=>∃n,st=⟨st_b.get,n⟩/\st_b.next<=n/\e 0=.dF (bt s)/\e 2=.sl (gp.map aJ)/\e 3=.int .i64 (steps:Int)/\e 9=.ptr Y 0 0/\e 12=.ptr X 0 0/\e 13=.own w 0 es.length/\e 14=.sl (L.map ai)/\e 15=.int .i64 (j:Int)) ?_ ?_
 ·rintro e st ⟨n,rfl,hn,c0,c2,c3,c9,qt,rj,c14,c15⟩
  apply Z
  clear Z N
  have lx:=gI iH
  have nC:(j:Int)<(L.length:Int):=ah
  have OE:bw L j∈uN s (eG s es es.length):=by rw[hL];exact jc iH
  have tf:=fun σ h1 h2=>DS (X:=X) (o:=o) (l:=eG s es es.length) (σ:=σ) ah (bw L j) h1 h2
  obtain⟨x,hx⟩:∃x,bw L j=x:=⟨_,rfl⟩
  rw[hx]at lx hgro OE tf
  rw[ai]at lx tf
  (try((repeat(revert N;apply Pn.out));refine wk (tw @c0 (tw @c2 (tw @c3 (tw @c9 (tw @qt (tw @rj (tw @c14 (tw @c15 (tw @lx (tw @kO @nC)))))))))) ?_;(repeat(apply Pn.mk;intro N Z))))
  refine .inr (aE _ _ _ _ _ (fun r σ2 JR=>?_) (tf _ (sd @gX) (sd @go)))
  obtain⟨tf,hK⟩:=JR
  obtain⟨g2,x2⟩:=σ2
  (try dsimp only at tf hK)
  have Pt:=hK.1
  (try dsimp only at Pt)
  have kX:=(hK.2 X aQ).trans gX
  have kY:=(hK.2 Y (by rw[hY];(try dsimp only);omega)).trans gY
  have kW:=(hK.2 w aQ).trans gw
  (try dsimp only at kX kY kW)
  have wX:=dh (i:=X) (n:=x2) ah
  have wY:=dh (i:=Y) (n:=x2) (by rw[hY];(try dsimp only);omega)
  have wW:=dh (i:=w) (n:=x2) ah
  apply Z
  clear Z N
  rcases tf with⟨h5,rfl⟩|⟨h5,o2,rfl,p1,p2,p3⟩
  ·rw[if_pos h5]at hgro
   (try((repeat(revert N;apply Pn.out));refine wk (tw @c0 (tw @c2 (tw @c3 (tw @c9 (tw @qt (tw @rj (tw @kY (tw @wX (tw @wY @wW))))))))) ?_;(repeat(apply Pn.mk;intro N Z))))
   exact⟨[.br,.agg [.br],.bool false,.int .i64 4],sd @c9,_,by simp only[fw,eR,bc,bY,jL,iN,fM,dG,Option.map_some]<;>rfl,false,by rw[Eo,<-hgro]⟩
  ·rw[if_neg ah]at hgro
   (try dsimp only at p1 p2 p3)
   have wo:=dh (i:=o2) (n:=x2) p3
   have oX:=dP (a:=X) (b:=o2) ah
   have oY:=dP (a:=Y) (b:=o2) (by rw[hY];(try dsimp only);omega)
   have oW:=dP (a:=w) (b:=o2) ah
   have uA:=M6 s es x
   have z6:=mm x (eG s es es.length)
   have S4:(es++[x]).length=es.length+1:=by simp
   have rz:=hgood.add OE h5
   have hes1:es.length<=16777215:=ah
   have W4:(es++[x]).map ai=es.map ai++[ai x]:=by simp
   rw[ai]at W4
   (try((repeat(revert N;apply Pn.out));refine wk (tw @c0 (tw @c2 (tw @c3 (tw @c9 (tw @qt (tw @rj (tw @kX (tw @kY (tw @kW (tw @wX (tw @wY (tw @wW (tw @wo (tw @oX (tw @oY (tw @oW (tw @e4 (tw @e5 (tw @e6 (tw @lx (tw @kO (tw @nC (tw @c14 (tw @c15 (tw @hmw @hes1))))))))))))))))))))))))) ?_;(repeat(apply Pn.mk;intro N Z))))
   refine⟨f,ah,es++[x],f,rfl,hgro,rz,by rw[S4];omega,by rw[S4,uA,z6];omega,⟨o2,⟨29015006,x2+1+1+1⟩,by rw[S4];simp only[go_sem, ↓reduceIte,Nat.reduceEqDiff,Nat.reduceAdd,Nat.reduceSub,Nat.reduceLeDiff,reduceCtorEq]<;>rfl,by rw[W4];simp only[go_sem, ↓reduceIte,Nat.reduceEqDiff,Nat.reduceAdd,Nat.reduceSub,Nat.reduceLeDiff,reduceCtorEq]<;>rfl,by rw[S4,uA];simp only[go_sem, ↓reduceIte,Nat.reduceEqDiff,Nat.reduceAdd,Nat.reduceSub,Nat.reduceLeDiff,reduceCtorEq,wX,e5]<;>rfl,by rw[S4,uA];simp only[go_sem, ↓reduceIte,Nat.reduceEqDiff,Nat.reduceAdd,Nat.reduceSub,Nat.reduceLeDiff,reduceCtorEq,wo,oX,oW,p1],fun e=>by rw[e]at p3;(try dsimp only at p3);omega,fun e=>by rw[e]at p2;omega,fun e=>by rw[e,hY]at p2;(try dsimp only at p2);omega,aQ,aQ,.inr rfl⟩,sd (tw @wY (tw @e4 (tw @e6 @kY))),aQ⟩
 ·intro N Z
  by_cases Th:gp.length=0
  ·have Rn:j=0:=by rw[<-hj,KB,if_pos Th]
   have hsn:¬(0:Int)<(gp.length:Int):=ah
   subst Rn
   (try((repeat(revert N;apply Pn.out));refine wk (tw @b0 (tw @b2 (tw @b3 (tw @b9 (tw @FY (tw @yv (tw @gU @hsn))))))) ?_;(repeat(apply Pn.mk;intro N Z))))
   exact⟨_,rfl,aQ,sd (tw @b0 @bt.eq_1),sd @b2,sd @b3,sd @b9,sd @FY,sd @yv,sd @Nat.zero_add,sl @Nat.zero_add⟩
  ·have hsn:(0:Int)<(gp.length:Int):=ah
   have hsn0:((gp.length:Int)=0)=False:=eq_false ah
   have hLn0:((L.length:Int)=0)=False:=eq_false ah
   have w7:=zS es.length gp.length
   have F1:es.length % gp.length<gp.length:=Nat.mod_lt _ ah
   have hdi:((es.length % gp.length:Nat):Int)<(gp.length:Int):=ah
   have On:=IW F1
   have Xh:=(hs (gp.getD (es.length % gp.length) 0) (by rw[List.getD_eq_getElem?_getD,List.getElem?_eq_getElem F1];exact List.getElem_mem F1)).1
   have hj1:(gp.getD (es.length % gp.length) 0).tmod (L.length:Int)=(j:Int):=by
    rw[<-hj,KB,if_neg Th]
    have h9:=zS (gp.getD (es.length % gp.length) 0).toNat L.length
    rwa [Int.toNat_of_nonneg Xh]at h9
   generalize gp.getD (es.length % gp.length) 0=z at *
   generalize es.length % gp.length=d at *
   (try((repeat(revert N;apply Pn.out));refine wk (tw @b0 (tw @b2 (tw @b3 (tw @b9 (tw @FY (tw @yv (tw @gU (tw @hsn (tw @hsn0 (tw @hLn0 (tw @kO (tw @w7 (tw @hdi (tw @On @hj1)))))))))))))) ?_;(repeat(apply Pn.mk;intro N Z))))
   exact⟨_,rfl,aQ,sd (tw @b0 @bt.eq_1),sd @b2,sd @b3,sd @b9,sd @FY,sd @yv,sd @Nat.zero_add,sd @hj1⟩
theorem ja.cut {P:Program} (hm:P.follows .mixedOrders=true) {f:Nat} {args args':List AV} {R:AV->Prop} (hc:tN args args') (h:ja P f args' R):ja P f args R:=fun n=>(h n).cut hm hc
theorem Ax (gp:List Int) (hs:∀x∈gp,0<=x/\x<=1000) (hl:gp.length<=200):ay Tryz.prog 27 [.sl (gp.map aJ)] (.bool true):=by
 refine ay.body fR rfl fun gZ n0=>?_
 clear gZ
 have gU:(gp.map aJ).length=gp.length:=by simp
 have hd:decide ((200:Int)<(gp.length:Int))=false:=decide_eq_false ah
 (try((repeat(revert N;apply Pn.out));refine wk (tw @gU @hd) ?_;(repeat(apply Pn.mk;intro N Z))))
 refine bz (fun n env st=>∃k:Nat,n=(gp.length)-k/\k<=(gp.length)/\env 3=.int .i64 (k:Int)) (gp.length) ⟨0,ah,ah,sl @Nat.zero_add⟩ ?_
 rintro n_a env_a st_a ⟨k,rfl,ale,a3⟩ eE
 have a0:=eE 0 (by kernel_rfl)
 simp only[go_sem, ↓reduceIte,Nat.reduceEqDiff,Nat.reduceAdd,Nat.reduceSub,Nat.reduceLeDiff,reduceCtorEq]at a0
 clear eE
 by_cases hk:(k:Int)<(gp.length:Int)
 ·have dD:∀{e:Env},(e 3=.int .i64 (IntKind.i64.wrap ((k:Int)+1)))->∃m0,m0<(gp.length)-k/\∃k:Nat,m0=(gp.length)-k/\k<=(gp.length)/\e 3=.int .i64 (k:Int):=fun x1=>⟨_,ah,k+1,rfl,ah,(by rw[x1,aK ah])⟩
  have iO:k<gp.length:=ah
  have hg:=IW iO
  have hr:=hs (gp.getD k 0) (by rw[List.getD_eq_getElem?_getD,List.getElem?_eq_getElem iO];exact List.getElem_mem iO)
  have h3:=lj (gp.getD k 0) 0 1000
  generalize gp.getD k 0=z at *
  rw[show jm z 0 1000=true by simp[jm,hr.1,hr.2]]at h3
  (have zF:=tw @a3 (tw @a0 (tw @hk (tw @hg @gU)));(repeat(first|((repeat(revert N;apply Pn.out));refine wk zF ?_;(repeat(apply Pn.mk;intro N Z)))|((try apply Or.inl);refine⟨_,ay.x (h3) (sd zF),?_⟩;apply Z;clear Z N)));try clear zF)
  exact dD (sd (tw @a3 @a0))
 ·(try((repeat(revert N;apply Pn.out));refine wk (tw @a3 (tw @a0 (tw @hk @gU))) ?_;(repeat(apply Pn.mk;intro N Z))))
  exact cD (b:=true) (.inl rfl) (sd @Nat.zero_add) rfl
noncomputable def GL (s:aA) (gp:List Int) (steps:Nat):AV:=if kC s then(match Em s gp steps with
 |some es=>.gM [.sl (es.map ai),.agg [.sl ((eG s es es.length).map ai)],.int .i64 0]
 |none=>.gM [.br,.agg [.br],.int .i64 4])else .gM [.br,.agg [.br],.int .i64 1]
theorem Ip {s:aA} {gp:List Int} {steps:Nat} (h:kC s=false):GL s gp steps=.gM [.br,.agg [.br],.int .i64 1]:=by
 unfold GL;rw[h];rfl
theorem A5 {s:aA} {gp:List Int} {steps:Nat} (h:kC s=true) (h2:Em s gp steps=none):GL s gp steps=.gM [.br,.agg [.br],.int .i64 4]/\∀b,Eo s gp steps b=.gM [.br,.agg [.br],.bool b,.int .i64 4]:=by
 unfold GL Eo;rw[h,h2];exact⟨rfl,fun b=>rfl⟩
theorem A6 {s:aA} {gp:List Int} {steps:Nat} (h:kC s=true) {es:List aa} (h2:Em s gp steps=some es):GL s gp steps=.gM [.sl (es.map ai),.agg [.sl ((eG s es es.length).map ai)],.int .i64 0]/\∀b,Eo s gp steps b=.gM [.sl (es.map ai),.agg [.sl ((eG s es es.length).map ai)],.bool b,.int .i64 0]:=by
 unfold GL Eo;rw[h,h2];exact⟨rfl,fun b=>rfl⟩
theorem DG (s:aA) (hn:jh s.aI) (hg:s.aI.bd.length<=1048576) (ht:s.aI.au.length<=1048576) (gp:List Int) (hs:∀x∈gp,0<=x/\x<=1000) (z6:gp.length<=200) (steps:Nat) (eA:steps<=500):
  pj Tryz.prog 7 [.agg (bt s),.sl (gp.map aJ),.int .i64 (steps:Int)] fun r=>r=GL s gp steps:=by
 have h1:=CG s hn hg ht
 have h2:=Ax gp hs z6
 have h3:=lj (steps:Int) 0 500
 rw[show jm (steps:Int) 0 500=true by simp[jm];omega]at h3
 cases h0:kC s
 ·rw[Ip h0]
  rw[h0]at h1
  refine pj.body fR rfl fun gZ σ=>?_
  clear gZ
  rw[bt]at h1 ⊢
  (repeat(first|((repeat(revert N;apply Pn.out));refine wk @Nat.zero_add ?_;(repeat(apply Pn.mk;intro N Z)))|((try apply Or.inl);refine⟨_,ay.x (h1) (sd @Nat.zero_add),?_⟩;apply Z;clear Z N)))
  exact⟨[.br,.agg [.br],.int .i64 1],sd @Nat.zero_add,_,by simp only[fw,bI,bH,ar,ax,cw,aV,aW,Option.map_some]<;>rfl,rfl⟩
 ·have hP:=oc.1 h0
  rw[h0]at h1
  have h4:=ja.cut mixed (.same _ (.ptr _ [.int .i64 s.aD] (.same _ (.same _ .nil)))) (Ka s hP gp hs z6 steps eA)
  simp only[List.cons_append,List.nil_append]at h4
  refine pj.body fR rfl fun gZ σ=>?_
  clear gZ
  simp only[bt]at h1 h4 ⊢
  (repeat(first|((repeat(revert N;apply Pn.out));refine wk @Nat.zero_add ?_;(repeat(apply Pn.mk;intro N Z)))|((try apply Or.inl);refine⟨_,ay.x (h1) (sd @Nat.zero_add),?_⟩;apply Z;clear Z N)|((try apply Or.inl);refine⟨_,ay.x (h2) (sd @Nat.zero_add),?_⟩;apply Z;clear Z N)|((try apply Or.inl);refine⟨_,ay.x (h3) (sd @Nat.zero_add),?_⟩;apply Z;clear Z N)))
  refine .inr (aE _ _ _ _ _ (fun r σ2 hq=>?_) (ja.x mixed h4 (ZY (s9 (rows:=[[.sl (s.aI.bd.map ek),.sl (s.aI.au.map dw),.sl (s.dm.au.map ai),.int .i64 s.aD]]) (by simp only[eL,go_sem, ↓reduceIte,Nat.reduceEqDiff,Nat.reduceAdd,Nat.reduceSub,Nat.reduceLeDiff,reduceCtorEq,Option.map_some]<;>rfl) rfl (by simp only[ar,ax,List.drop,cw,aW,Option.map_some])) (s9 (rows:=[[.sl (s.aI.bd.map ek),.sl (s.aI.au.map dw),.sl (s.dm.au.map ai),.int .i64 s.aD]]) (by simp only[eL,go_sem, ↓reduceIte,Nat.reduceEqDiff,Nat.reduceAdd,Nat.reduceSub,Nat.reduceLeDiff,reduceCtorEq,Option.map_some]<;>rfl) rfl (by simp only[ar,ax,List.drop,cw,aW,Option.map_some])) (cw _ _ _) (aW _ _ _ _))))
  obtain⟨⟨b,rfl⟩,rfl⟩:=hq
  apply Z
  clear Z N
  cases hg:Em s gp steps with
  |none=>
   obtain⟨e1,e2⟩:=A5 h0 hg
   rw[e2]
   (try((repeat(revert N;apply Pn.out));refine wk @Nat.zero_add ?_;(repeat(apply Pn.mk;intro N Z))))
   exact⟨[.br,.agg [.br],.int .i64 4],sd @Nat.zero_add,_,by simp only[fw,bI,bH,ar,ax,cw,aV,aW,Option.map_some]<;>rfl,e1.symm⟩
  |some es=>
   obtain⟨e1,e2⟩:=A6 h0 hg
   rw[e2]
   (try((repeat(revert N;apply Pn.out));refine wk @Nat.zero_add ?_;(repeat(apply Pn.mk;intro N Z))))
   exact⟨[.sl (es.map ai),.agg [.sl ((eG s es es.length).map ai)],.int .i64 0],sd @Nat.zero_add,_,by simp only[fw,bI,bH,ar,ax,cw,aV,aW,Option.map_some]<;>rfl,e1.symm⟩
theorem Mw (a b:Int):ay Tryz.prog 54 [.int .i64 a,.int .i64 b] (.int .i64 (max a b)):=by
 refine ay.body fR rfl fun hl n0=>?_
 clear hl
 by_cases h:b<a
 ·(try((repeat(revert N;apply Pn.out));refine wk @h ?_;(repeat(apply Pn.mk;intro N Z))))
  exact uQ (.inl rfl) (sl @Nat.zero_add) (by rw[dG];congr 2;omega)
 ·(try((repeat(revert N;apply Pn.out));refine wk @h ?_;(repeat(apply Pn.mk;intro N Z))))
  exact uQ (.inl rfl) (sl @Nat.zero_add) (by rw[dG];congr 2;omega)
theorem Ii (bs:List Int):ay Tryz.prog 5 [.sl (bs.map lr)] (.bool (decide (4096<bs.length))):=by
 refine ay.body fR rfl fun hl n0=>?_
 clear hl
 have gU:(bs.map lr).length=bs.length:=by simp
 (try((repeat(revert N;apply Pn.out));refine wk @gU ?_;(repeat(apply Pn.mk;intro N Z))))
 exact cD (b:=decide ((4096:Int)<(bs.length:Int))) (.inl rfl) (sd @Nat.zero_add) (by apply decide_eq_decide.2;omega)
theorem Lm (l:List aa) (p:aq) (hf:pG l=true) (hR:ny l) (hl:l.length<=1048576):ay Tryz.prog 19 [.agg [.sl (l.map ai)],.agg (ae p)] (.gM [.int .i64 (max (fQ l p) 0),.bool (decide (0<=fQ l p))]):=by
 have h1:=Bp l
 rw[hf]at h1
 have h2:=CD l p hR hl
 have h3:=Mw (fQ l p) 0
 refine ay.body fR rfl fun gZ n0=>?_
 clear gZ
 generalize fQ l p=a at h2 h3 ⊢
 rw[ae]at h2 ⊢
 (repeat(first|((repeat(revert N;apply Pn.out));refine wk @Nat.zero_add ?_;(repeat(apply Pn.mk;intro N Z)))|((try apply Or.inl);refine⟨_,ay.x (h1) (sd @Nat.zero_add),?_⟩;apply Z;clear Z N)|((try apply Or.inl);refine⟨_,ay.x (h2) (sd @Nat.zero_add),?_⟩;apply Z;clear Z N)|((try apply Or.inl);refine⟨_,ay.x (h3) (sd @Nat.zero_add),?_⟩;apply Z;clear Z N)))
 exact jX (.inl rfl) (vs:=[.int .i64 (max a 0),.bool (decide (0<=a))]) (sd @Nat.zero_add) (by simp only[fw,eR,bc,bY,dG,fM,Option.map_some])
theorem BI {s:aA} (h0:kC s=true) {es:List aa} (hG:l8 s es) (hl:es.length<=500):Lc s es=(0,0)/\CU s es=.sl ((eG s es es.length).map ai):=by
 have h:Lc s es=(0,0):=by rw[Lc,h0,if_pos rfl,if_pos hl,IS hG]
 exact⟨h,by rw[CU,h,if_pos rfl]⟩
theorem MD (hC:B5 25) (code more:List Int) (hc:∀b∈code,0<=b/\b<=255) (hm:∀b∈more,0<=b/\b<=255):ay Tryz.prog 4 [.sl (code.map lr),.sl (more.map lr)] (.bool true):=by
 refine ay.body fR rfl fun gZ n0=>?_
 clear gZ
 have h1:=Ii code
 have h2:=Ii more
 by_cases c1:4096<code.length
 ·rw[decide_eq_true c1]at h1
  (repeat(first|((repeat(revert N;apply Pn.out));refine wk @Nat.zero_add ?_;(repeat(apply Pn.mk;intro N Z)))|((try apply Or.inl);refine⟨_,ay.x (h1) (sd @Nat.zero_add),?_⟩;apply Z;clear Z N)))
  exact cD (b:=true) (.inl rfl) (sd @Nat.zero_add) rfl
 rw[decide_eq_false c1]at h1
 by_cases c2:4096<more.length
 ·rw[decide_eq_true c2]at h2
  (repeat(first|((repeat(revert N;apply Pn.out));refine wk @Nat.zero_add ?_;(repeat(apply Pn.mk;intro N Z)))|((try apply Or.inl);refine⟨_,ay.x (h1) (sd @Nat.zero_add),?_⟩;apply Z;clear Z N)|((try apply Or.inl);refine⟨_,ay.x (h2) (sd @Nat.zero_add),?_⟩;apply Z;clear Z N)))
  exact cD (b:=true) (.inl rfl) (sd @Nat.zero_add) rfl
 rw[decide_eq_false c2]at h2
 (repeat(first|((repeat(revert N;apply Pn.out));refine wk @Nat.zero_add ?_;(repeat(apply Pn.mk;intro N Z)))|((try apply Or.inl);refine⟨_,ay.x (h1) (sd @Nat.zero_add),?_⟩;apply Z;clear Z N)|((try apply Or.inl);refine⟨_,ay.x (h2) (sd @Nat.zero_add),?_⟩;apply Z;clear Z N)))
 refine .inr (aE _ _ _ _ _ (fun r σ1 hq=>?_) (ja.x mixed (DH hC code hc ah) (Wr (cw _ _ _))))
 obtain⟨⟨s,⟨sn,sg,st,ss⟩,rfl⟩,rfl⟩:=hq
 apply Z
 clear Z N
 rw[bt]
 (try((repeat(revert N;apply Pn.out));refine wk @Nat.zero_add ?_;(repeat(apply Pn.mk;intro N Z))))
 refine .inr (aE _ _ _ _ _ (fun r σ1 hq=>?_) (ja.x mixed (Ab more hm ah) (Wr (cw _ _ _))))
 obtain⟨⟨gp,rfl,Du,K8⟩,rfl⟩:=hq
 apply Z
 clear Z N
 have Oo:=DG s sn sg st gp (fun x hx=>by have:=Du x hx;omega) ah 12 ah
 rw[bt]at Oo
 (try((repeat(revert N;apply Pn.out));refine wk @Nat.zero_add ?_;(repeat(apply Pn.mk;intro N Z))))
 refine .inr (aE _ _ _ _ _ (fun r σ1 hq=>?_) (pj.x mixed Oo))
 obtain⟨rfl,rfl⟩:=hq
 apply Z
 clear Z N Oo
 cases h0:kC s
 ·rw[Ip h0]
  (try((repeat(revert N;apply Pn.out));refine wk @Nat.zero_add ?_;(repeat(apply Pn.mk;intro N Z))))
  exact cD (b:=true) (.inl rfl) (sd @Nat.zero_add) rfl
 have hP:=oc.1 h0
 cases hg:Em s gp 12 with
 |none=>
  rw[(A5 h0 hg).1]
  (try((repeat(revert N;apply Pn.out));refine wk @Nat.zero_add ?_;(repeat(apply Pn.mk;intro N Z))))
  exact cD (b:=true) (.inl rfl) (sd @Nat.zero_add) rfl
 |some es=>
  rw[(A6 h0 hg).1]
  obtain⟨hG,hel⟩:=JG hg
  have p2:=qk s es sn sg st
  obtain⟨e1,e2⟩:=BI h0 hG ah
  rw[e1,e2]at p2
  obtain⟨hh,hhe⟩:∃h,es.length / 2=h:=⟨_,rfl⟩
  have hhl:hh<=es.length:=ah
  have p1:=qk s (es.take hh) sn sg st
  obtain⟨e3,e4⟩:=BI h0 (JF hG hh) (by simp;omega)
  rw[e3,e4,List.length_take,Nat.min_eq_left hhl,Kp]at p1
  rw[bt]at p1 p2
  (try dsimp only at p1 p2)
  have Pm:IntKind.i64.wrap (((es.length:Nat):Int).tdiv 2)=(hh:Int):=by
   rw[Int.tdiv_eq_ediv_of_nonneg ah,cm ah]
   omega
  have gU:(es.map ai).length=es.length:=by simp
  have Iv:(es.map ai).take hh=(es.take hh).map ai:=by rw[List.map_take]
  have w8:(hh:Int)<=(es.length:Int):=ah
  have eV:∀c,c∈es.map ai->c.length=3:=fun c hc=>by
   obtain⟨x,_,rfl⟩:=List.mem_map.1 hc
   rfl
  have um:(∀c:List AV,c∈es.map ai->c.length=3)=True:=eq_true eV
  have Sy:=nW hP (es:=es) hh hhl fun j hj=>hG j ah
  have Vv:=nW hP (es:=es) es.length (Nat.le_refl _) hG
  have JT:DM s:=⟨⟨sg,st,fun t ht=>by unfold Lo;rw[hP.set.form.qV t ht];omega⟩,ah⟩
  have YS:=Sy.1.wQ
  have K2:=Vv.1.wQ
  have Xf:=fun x=>MN hP ss hG hel hhl (x:=x)
  have o1:=(DJ s (eG s es hh) sn JT ah).s Sq
  obtain⟨ow,Ro,o2⟩:=DK s (eG s es hh) sn sg st
  have o3:=B3 s (eG s es hh) sn JT ah hP Sy
  have hr:uO s (eG s es hh)=(uN s (eG s es hh),0):=by rw[uO,if_pos (yu.2 ⟨hP,Sy⟩)];rfl
  rw[hr]at o1 o2 Ro
  rw[show oj (dX s (eG s es hh)) s.aI.au.length (gx (eG s es hh))=uN s (eG s es hh)from rfl]at o3
  have Mg:=MV hP.set Sy
  rw[bt]at o1 o2 o3
  (try dsimp only at o1 o2 o3 Ro)
  generalize hO:uN s (eG s es hh)=OL at o1 o2 o3 Ro Mg Xf
  by_cases hz:OL.length=0
  ·obtain rfl:OL=[]:=List.length_eq_zero_iff.1 hz
   rw[show Zm ai ([]:List aa)=.br from rfl]at o1
   rw[decide_eq_true (rfl:([]:List aa)=[])]at o3
   have how2:ow=.br∨ow=.sl []:=by
    rcases Ro with⟨h,_⟩|h
    ·exact .inl h
    ·exact .inr h
   have d1:¬((0:Nat):Int)<((0:Nat):Int):=ah
   have Dx:decide (((0:Nat):Int)=0)=true:=rfl
   have K7:([]:List (List AV)).length=0:=rfl
   rcases how2 with rfl|rfl
   ·(have zF:=tw @gU (tw @Pm (tw @Iv (tw @w8 (tw @um (tw @Nat.sub_zero (tw @Dx @K7))))));(repeat(first|((repeat(revert N;apply Pn.out));refine wk zF ?_;(repeat(apply Pn.mk;intro N Z)))|((try apply Or.inl);refine⟨_,AI.x (p1) _,?_⟩;apply Z;clear Z N)|((try apply Or.inl);refine⟨_,AI.x (p2) _,?_⟩;apply Z;clear Z N)|((try apply Or.inl);refine⟨_,ay.x (o1) (sd zF),?_⟩;apply Z;clear Z N)|((try apply Or.inl);refine⟨_,AI.x (o2) _,?_⟩;apply Z;clear Z N)|((try apply Or.inl);refine⟨_,ay.x (o3) (sd zF),?_⟩;apply Z;clear Z N)));try clear zF)
    refine bz (fun n env st=>∃i:Nat,n=(0)-i/\i<=(0)/\env 22=.int .i64 (i:Int)) (0) ⟨0,ah,ah,sl @Nat.zero_add⟩ ?_
    rintro n_a env_a st_a ⟨i,rfl,ale,a22⟩ eE
    have Q2:=eE 18 (by kernel_rfl)
    simp only[go_sem, ↓reduceIte,Nat.reduceEqDiff,Nat.reduceAdd,Nat.reduceSub,Nat.reduceLeDiff,reduceCtorEq]at Q2
    clear eE
    have zZ:i=0:=ah
    subst zZ
    (try((repeat(revert N;apply Pn.out));refine wk (tw @a22 (tw @Q2 (tw @d1 @K7))) ?_;(repeat(apply Pn.mk;intro N Z))))
    exact cD (b:=true) (.inl rfl) (sd @Nat.zero_add) rfl
   ·(have zF:=tw @gU (tw @Pm (tw @Iv (tw @w8 (tw @um (tw @Nat.sub_zero (tw @Dx @K7))))));(repeat(first|((repeat(revert N;apply Pn.out));refine wk zF ?_;(repeat(apply Pn.mk;intro N Z)))|((try apply Or.inl);refine⟨_,AI.x (p1) _,?_⟩;apply Z;clear Z N)|((try apply Or.inl);refine⟨_,AI.x (p2) _,?_⟩;apply Z;clear Z N)|((try apply Or.inl);refine⟨_,ay.x (o1) (sd zF),?_⟩;apply Z;clear Z N)|((try apply Or.inl);refine⟨_,AI.x (o2) _,?_⟩;apply Z;clear Z N)|((try apply Or.inl);refine⟨_,ay.x (o3) (sd zF),?_⟩;apply Z;clear Z N)));try clear zF)
    refine bz (fun n env st=>∃i:Nat,n=(0)-i/\i<=(0)/\env 22=.int .i64 (i:Int)) (0) ⟨0,ah,ah,sl @Nat.zero_add⟩ ?_
    rintro n_b env_b st_b ⟨i,rfl,ble,b22⟩ fo
    have b18:=fo 18 (by kernel_rfl)
    simp only[go_sem, ↓reduceIte,Nat.reduceEqDiff,Nat.reduceAdd,Nat.reduceSub,Nat.reduceLeDiff,reduceCtorEq]at b18
    clear fo
    have zZ:i=0:=ah
    subst zZ
    (try((repeat(revert N;apply Pn.out));refine wk (tw @b22 (tw @b18 (tw @d1 @K7))) ?_;(repeat(apply Pn.mk;intro N Z))))
    exact cD (b:=true) (.inl rfl) (sd @Nat.zero_add) rfl
  ·rw[Zm,if_neg hz]at o1
   have ig:decide (OL=[])=false:=decide_eq_false fun e=>hz (by rw[e];rfl)
   rw[ig]at o3
   obtain rfl:ow=.sl (OL.map ai):=by
    rcases Ro with⟨_,h⟩|h
    ·exact absurd (by rw[h];rfl) hz
    ·exact h
   have F4:(OL.map ai).length=OL.length:=by simp
   have hzi:decide (((OL.length:Nat):Int)=0)=false:=decide_eq_false ah
   (have zF:=tw @gU (tw @Pm (tw @Iv (tw @w8 (tw @um (tw @Nat.sub_zero (tw @F4 @hzi))))));(repeat(first|((repeat(revert N;apply Pn.out));refine wk zF ?_;(repeat(apply Pn.mk;intro N Z)))|((try apply Or.inl);refine⟨_,AI.x (p1) _,?_⟩;apply Z;clear Z N)|((try apply Or.inl);refine⟨_,AI.x (p2) _,?_⟩;apply Z;clear Z N)|((try apply Or.inl);refine⟨_,ay.x (o1) (sd zF),?_⟩;apply Z;clear Z N)|((try apply Or.inl);refine⟨_,AI.x (o2) _,?_⟩;apply Z;clear Z N)|((try apply Or.inl);refine⟨_,ay.x (o3) (sd zF),?_⟩;apply Z;clear Z N)));try clear zF)
   refine bz (fun n env st=>∃i:Nat,n=(OL.length)-i/\i<=(OL.length)/\env 22=.int .i64 (i:Int)/\st.get ⟨4003002,n0+1+1+1⟩=some ⟨true,4,[[.sl (s.aI.bd.map ek),.sl (s.aI.au.map dw),.sl (s.dm.au.map ai),.int .i64 s.aD]]⟩/\st.get ⟨4009007,n0+1+1+1+1+1+1+1+1+1+1⟩=some ⟨true,1,[[.sl ((eG s es es.length).map ai)]]⟩) (OL.length) ⟨0,ah,ah,sl @Nat.zero_add,sl @Nat.zero_add,sl @Nat.zero_add⟩ ?_
   rintro n_c env_c st_c ⟨i,rfl,cle,c22,cg0,cg1⟩ il
   have c5:=il 5 (by kernel_rfl);have rj:=il 13 (by kernel_rfl);have Dm:=il 16 (by kernel_rfl);have Dn:=il 18 (by kernel_rfl)
   simp only[go_sem, ↓reduceIte,Nat.reduceEqDiff,Nat.reduceAdd,Nat.reduceSub,Nat.reduceLeDiff,reduceCtorEq]at c5 rj Dm Dn
   clear il
   by_cases hi:(i:Int)<(OL.length:Int)
   ·have fJ:∀{e:Env} {gg:Rows},(e 22=.int .i64 (IntKind.i64.wrap ((i:Int)+1)))->(gg ⟨4003002,n0+1+1+1⟩=some ⟨true,4,[[.sl (s.aI.bd.map ek),.sl (s.aI.au.map dw),.sl (s.dm.au.map ai),.int .i64 s.aD]]⟩)->(gg ⟨4009007,n0+1+1+1+1+1+1+1+1+1+1⟩=some ⟨true,1,[[.sl ((eG s es es.length).map ai)]]⟩)->∃m0,m0<(OL.length)-i/\∃i:Nat,m0=(OL.length)-i/\i<=(OL.length)/\e 22=.int .i64 (i:Int)/\gg ⟨4003002,n0+1+1+1⟩=some ⟨true,4,[[.sl (s.aI.bd.map ek),.sl (s.aI.au.map dw),.sl (s.dm.au.map ai),.int .i64 s.aD]]⟩/\gg ⟨4009007,n0+1+1+1+1+1+1+1+1+1+1⟩=some ⟨true,1,[[.sl ((eG s es es.length).map ai)]]⟩:=fun x1 x2 x3=>⟨_,ah,i+1,rfl,ah,(by rw[x1,aK ah]),x2,x3⟩
    have fZ:i<OL.length:=ah
    have iZ:=gI fZ
    have Mc:=Xf (bw OL i) (jc fZ)
    have t1:=Lm (eG s es es.length) (bw OL i).bD (AX.2 Vv.1) Vv.1.Kw ah
    have t2:=Le s (eG s es es.length) (bw OL i) sn JT hP Vv (fun e=>by have:=zt s es es.length (Nat.le_refl _);rw[e]at this;simp at this;omega)
    have hs:bt s=[.sl (s.aI.bd.map ek),.sl (s.aI.au.map dw),.sl (s.dm.au.map ai),.int .i64 s.aD]:=rfl
    rw[hs]at t2
    have haw:xw s (eG s es es.length) (bw OL i)=.br∨∃L,xw s (eG s es es.length) (bw OL i)=.sl L:=by unfold xw;split;exact .inr ⟨_,rfl⟩;exact .inl rfl
    generalize xw s (eG s es es.length) (bw OL i)=aw at t2 haw
    generalize sa s (eG s es es.length) (bw OL i)=ac at t2 Mc
    generalize fQ (eG s es es.length) (bw OL i).bD=ta at t1 Mc
    rw[ai]at iZ t2
    rw[ae]at t1
    by_cases Za:0<=ta
    ·have JI:decide (ac=0)=false:=decide_eq_false fun e=>Mc.1 e Za
     rw[decide_eq_true Za]at t1
     rcases haw with rfl|⟨L,rfl⟩
     ·(have zF:=tw @c22 (tw @cg0 (tw @cg1 (tw @c5 (tw @rj (tw @Dm (tw @Dn (tw @hi (tw @F4 (tw @iZ @JI)))))))));(repeat(first|((repeat(revert N;apply Pn.out));refine wk zF ?_;(repeat(apply Pn.mk;intro N Z)))|((try apply Or.inl);refine⟨_,ay.x (t1) (sd zF),?_⟩;apply Z;clear Z N)|((try apply Or.inl);refine⟨_,ay.x (t2) (sd zF),?_⟩;apply Z;clear Z N)));try clear zF)
      refine fJ ?_ ?_ ?_
      all_goals simp only[go_sem, ↓reduceIte,Nat.reduceEqDiff,Nat.reduceAdd,Nat.reduceSub,Nat.reduceLeDiff,reduceCtorEq,c22,cg0,cg1,c5,rj,Dm,Dn]
     ·(have zF:=tw @c22 (tw @cg0 (tw @cg1 (tw @c5 (tw @rj (tw @Dm (tw @Dn (tw @hi (tw @F4 (tw @iZ @JI)))))))));(repeat(first|((repeat(revert N;apply Pn.out));refine wk zF ?_;(repeat(apply Pn.mk;intro N Z)))|((try apply Or.inl);refine⟨_,ay.x (t1) (sd zF),?_⟩;apply Z;clear Z N)|((try apply Or.inl);refine⟨_,ay.x (t2) (sd zF),?_⟩;apply Z;clear Z N)));try clear zF)
      refine fJ ?_ ?_ ?_
      all_goals simp only[go_sem, ↓reduceIte,Nat.reduceEqDiff,Nat.reduceAdd,Nat.reduceSub,Nat.reduceLeDiff,reduceCtorEq,c22,cg0,cg1,c5,rj,Dm,Dn]
    ·have JI:decide (ac=0)=true:=decide_eq_true (Mc.2 Za)
     rw[decide_eq_false Za]at t1
     rcases haw with rfl|⟨L,rfl⟩
     ·(have zF:=tw @c22 (tw @cg0 (tw @cg1 (tw @c5 (tw @rj (tw @Dm (tw @Dn (tw @hi (tw @F4 (tw @iZ @JI)))))))));(repeat(first|((repeat(revert N;apply Pn.out));refine wk zF ?_;(repeat(apply Pn.mk;intro N Z)))|((try apply Or.inl);refine⟨_,ay.x (t1) (sd zF),?_⟩;apply Z;clear Z N)|((try apply Or.inl);refine⟨_,ay.x (t2) (sd zF),?_⟩;apply Z;clear Z N)));try clear zF)
      refine fJ ?_ ?_ ?_
      all_goals simp only[go_sem, ↓reduceIte,Nat.reduceEqDiff,Nat.reduceAdd,Nat.reduceSub,Nat.reduceLeDiff,reduceCtorEq,c22,cg0,cg1,c5,rj,Dm,Dn]
     ·(have zF:=tw @c22 (tw @cg0 (tw @cg1 (tw @c5 (tw @rj (tw @Dm (tw @Dn (tw @hi (tw @F4 (tw @iZ @JI)))))))));(repeat(first|((repeat(revert N;apply Pn.out));refine wk zF ?_;(repeat(apply Pn.mk;intro N Z)))|((try apply Or.inl);refine⟨_,ay.x (t1) (sd zF),?_⟩;apply Z;clear Z N)|((try apply Or.inl);refine⟨_,ay.x (t2) (sd zF),?_⟩;apply Z;clear Z N)));try clear zF)
      refine fJ ?_ ?_ ?_
      all_goals simp only[go_sem, ↓reduceIte,Nat.reduceEqDiff,Nat.reduceAdd,Nat.reduceSub,Nat.reduceLeDiff,reduceCtorEq,c22,cg0,cg1,c5,rj,Dm,Dn]
   ·(try((repeat(revert N;apply Pn.out));refine wk (tw @c22 (tw @cg0 (tw @cg1 (tw @c5 (tw @rj (tw @Dm (tw @Dn (tw @hi @F4)))))))) ?_;(repeat(apply Pn.mk;intro N Z))))
    exact cD (b:=true) (.inl rfl) (sd @Nat.zero_add) rfl
def jK (s:Nat):Prop:=s=25005000∨s=25013011∨s=25021011∨s=25027015∨s=25029008
def oG (s:Nat):Prop:=s=25004002∨s=25011007∨s=25019007
def rm (s:Nat):Prop:=s=25006001∨s=25013014∨s=25021014∨s=25027018∨s=25029011
def zc (m j:Nat):Nat:=if j=0 then 0 else m+j
def l7 (n0:Nat) (g:Rows) (n:Nat) (B:Id) (a b:Nat):Prop:=∃(og o:Id) (L:List kJ) (rows:List (List AV)),g B=some ⟨true,2,[[.own og 0 a,.own o 0 b]]⟩/\L.length=a/\g og=some ⟨true,2,L.map ek⟩/\(∀x∈L,x.cI.size<=64)/\(oG og.site/\n0<=og.bj/\og.bj<n)/\rows.length=b/\g o=some ⟨true,2,rows⟩/\iT jK n0 g n rows/\rm o.site/\n0<=o.bj/\o.bj<n
theorem l7.later {n0:Nat} {g:Rows} {n n':Nat} {B:Id} {a b:Nat} (h:l7 n0 g n B a b) (hn:n<=n'):l7 n0 g n' B a b:=by
 obtain⟨og,o,L,rows,h1,h2,h3,h4,⟨h5,h6,h7⟩,h8,h9,Er,Wv,h12,h13⟩:=h
 exact⟨og,o,L,rows,h1,h2,h3,h4,⟨h5,h6,ah⟩,h8,h9,Er.frame hn fun _ _ _ _=>rfl,Wv,h12,ah⟩
theorem Cj {a b:Id} (h:oG a.site) (k:rm b.site):(a=b)=False/\(b=a)=False:=by
 have:a≠b:=fun e=>by rw[e]at h;unfold oG at h;unfold rm at k;omega
 exact⟨eq_false this,eq_false fun e=>this e.symm⟩
theorem Ci {a b:Id} (h:jK a.site) (k:oG b.site):(a=b)=False/\(b=a)=False:=by
 have:a≠b:=fun e=>by rw[e]at h;unfold jK at h;unfold oG at k;omega
 exact⟨eq_false this,eq_false fun e=>this e.symm⟩
theorem sZ {a b:Id} (h:jK a.site) (k:rm b.site):(a=b)=False/\(b=a)=False:=by
 have:a≠b:=fun e=>by rw[e]at h;unfold jK at h;unfold rm at k;omega
 exact⟨eq_false this,eq_false fun e=>this e.symm⟩
theorem l7.only {n0:Nat} {g:Rows} {n n':Nat} {B X:Id} {a b:Nat} (h:l7 n0 g n B a b) {σ':az} (hK:lp X ⟨g,n'⟩ σ') (hn:n<=n') (hX:X.bj<n0) (hB:B≠X) (Yy:B.bj<n'):l7 n0 σ'.get σ'.next B a b:=by
 obtain⟨og,o,L,rows,h1,h2,h3,h4,⟨h5,h6,h7⟩,h8,h9,Er,Wv,h12,h13⟩:=h
 have hx:=hK.1
 (try dsimp only at hx)
 have k:∀i:Id,n0<=i.bj->i.bj<n->σ'.get i=g i:=fun i h1 h2=>hK.2 i (fun e=>by rw[e]at h1;omega) aQ
 exact⟨og,o,L,rows,(hK.2 B hB Yy).trans h1,h2,(k og h6 h7).trans h3,h4,⟨h5,h6,ah⟩,h8,(k o h12 h13).trans h9,Er.frame ah fun i _ h1 h2=>k i h1 h2,Wv,h12,ah⟩
theorem l7.put {n0:Nat} {g g':Rows} {n n':Nat} {B og u e:Id} {a b:Nat} {L:List kJ} {rows:List (List AV)} {nm:ByteArray} {l:List Int} (hL:L.length=a) (nz:g og=some ⟨true,2,L.map ek⟩) (uj:∀x∈L,x.cI.size<=64) (sg:oG og.site/\n0<=og.bj/\og.bj<n) (hr:rows.length=b) (hT:iT jK n0 g n rows) (lV:nm.size<=64) (hl:l.length=4)
  (hn:n<=n') (hB:g' B=some ⟨true,2,[[.own og 0 a,.own u 0 (b+1)]]⟩) (hu:g' u=some ⟨true,2,rows++[[.str nm,.own e 0 4]]⟩) (su:rm u.site/\n0<=u.bj/\u.bj<n') (he:g' e=some ⟨true,1,l.map aJ⟩) (se:jK e.site/\n0<=e.bj/\e.bj<n') (hf:∀i:Id,(jK i.site∨oG i.site)->n0<=i.bj->i.bj<n->g' i=g i):l7 n0 g' n' B a (b+1):=
 ⟨og,u,L,rows++[[.str nm,.own e 0 4]],hB,hL,(hf og (.inr sg.1) sg.2.1 sg.2.2).trans nz,uj,⟨sg.1,sg.2.1,ah⟩,by simp[hr],hu,(hT.frame hn fun i h1 h2 h3=>hf i (.inl h1) h2 h3).snoc lV ⟨se.1,se.2.1,se.2.2,l,hl,he⟩,su.1,su.2.1,su.2.2⟩
theorem Fc (bs:List Int) (hb:∀b∈bs,0<=b/\b<=255) (iD:bs.length<=4096) (X:Id) (A:Nat) (ha:A<=900000) (σ:az) (h:e9 σ.get X bs A) (hX:X.bj<σ.next):
  Call Tryz.prog 25 [.ptr X 0 0] σ (B4 X bs A σ):=by
 refine qd Wg rfl fun gZ=>?_
 simp only[HT,xL,HU,N7,N8,N9,U6,KT,KU,U7,U8,U9,Va,QS,Vb,Vc,Vd,HV,xM,HW,Oa,Ob,Oc,Ve,KV,KW,Vf,Vg,Vh,Vi,QT,Vj,Vk,Vl,sE,Ja,NS,NT,NU,NV,NW,NX,vk,Jb,NY,NZ,N0,N1,N2,N3]
 try simp only[q]
 clear gZ
 have vX:=dh hX
 (try((repeat(revert N;apply Pn.out));refine wk @Nat.zero_add ?_;(repeat(apply Pn.mk;intro N Z))))
 refine .inr (aE _ _ _ _ _ (fun r σ1 hq=>?_) (gP bs hb iD X 4 A ah _ (by
  obtain⟨a,z,q1,q2⟩:=h
  exact⟨a,z,q1,by simp only[go_sem, ↓reduceIte,Nat.reduceEqDiff,Nat.reduceAdd,Nat.reduceSub,Nat.reduceLeDiff,reduceCtorEq,vX]<;>exact q2⟩)))
 obtain⟨v,rfl,v0,v1,h1,hK⟩:=hq
 obtain⟨g1,x1⟩:=σ1
 (try dsimp only at h1)
 have F9:=hK.1
 (try dsimp only at F9)
 have lg:=hK.2 ⟨25000000,σ.next⟩ (nZZ hX) aQ
 have uk:∀i:Id,i≠X->i.bj<σ.next->g1 i=σ.get i:=fun i hi hv=>(hK.2 i hi aQ).trans (by have hv:=dh hv;simp only[go_sem, ↓reduceIte,Nat.reduceEqDiff,Nat.reduceAdd,Nat.reduceSub,Nat.reduceLeDiff,reduceCtorEq,hv])
 simp only[go_sem, ↓reduceIte,Nat.reduceEqDiff,Nat.reduceAdd,Nat.reduceSub,Nat.reduceLeDiff,reduceCtorEq]at lg
 clear hK h
 obtain⟨m1,Me⟩:∃m:Nat,IntKind.i64.wrap (1+v)=(m:Int):=⟨(1+v).toNat,by rw[cm ah];omega⟩
 have hmb1:1<=m1/\m1<=4:=by
  rw[cm ah]at Me
  omega
 apply Z
 clear Z N
 (try((repeat(revert N;apply Pn.out));refine wk @Me ?_;(repeat(apply Pn.mk;intro N Z))))
 refine .inr (aE _ _ _ _ _ (fun r σ2 hq=>?_) (gP bs hb iD X 4 (A+2) ah _ h1))
 obtain⟨y,rfl,y0,y1,h2,hK⟩:=hq
 obtain⟨g2,x2⟩:=σ2
 (try dsimp only at h2)
 have sJ:=hK.1
 (try dsimp only at sJ)
 have me:=(hK.2 ⟨25000000,σ.next⟩ (nZZ hX) aQ).trans lg
 have JB:∀i:Id,i≠X->i.bj<σ.next->g2 i=σ.get i:=fun i hi hv=>(hK.2 i hi aQ).trans (uk i hi hv)
 (try dsimp only at me)
 clear hK h1 uk lg
 obtain⟨m2,Ao⟩:∃m:Nat,IntKind.i64.wrap (1+y)=(m:Int):=⟨(1+y).toNat,by rw[cm ah];omega⟩
 have hmb2:1<=m2/\m2<=4:=by
  rw[cm ah]at Ao
  omega
 apply Z
 clear Z N
 (try((repeat(revert N;apply Pn.out));refine wk @Ao ?_;(repeat(apply Pn.mk;intro N Z))))
 have Qw:=dh (i:=X) (n:=x2) ah
 refine bz (fun n env st=>∃k:Nat,n=(m1)-k/\k<=(m1)/\env 8=.int .i64 (k:Int)/\env 7=.int .i64 (k:Int)/\((e9 st.get X bs (A+4+2*k)/\x2+3<=st.next/\(∀i:Id,i≠X->i.bj<x2->st.get i=g2 i)/\l7 (x2+2) st.get st.next ⟨25003001,x2+1⟩ (k+2) (k+1)))) (m1) ⟨0,ah,ah,sl (tw @Me @Ao),sl (tw @Me @Ao),by(try dsimp only);exact⟨(by
  obtain⟨za,zz,As,gX⟩:=h2
  exact⟨za,zz,ah,by simp only[go_sem, ↓reduceIte,Nat.reduceEqDiff,Nat.reduceAdd,Nat.reduceSub,Nat.reduceLeDiff,reduceCtorEq,Qw]<;>exact gX⟩),ah,fun i _ hi=>(by
   have h8:=dh hi
   simp only[go_sem, ↓reduceIte,Nat.reduceEqDiff,Nat.reduceAdd,Nat.reduceSub,Nat.reduceLeDiff,reduceCtorEq,h8]),⟨25004002,x2+1+1⟩,⟨25006001,x2+1+1+1+1⟩,[⟨⟨#[122,101,114,111]⟩,1⟩,⟨⟨#[111,110,101]⟩,1⟩],_,sl @Nat.zero_add,rfl,sl @Nat.zero_add,fun x hx=>(by rcases List.mem_cons.1 hx with h|h;rw[h];decide;rw[List.mem_singleton.1 h];decide),⟨.inl rfl,aQ,aQ⟩,rfl,sl @Nat.zero_add,(fun row fy=>⟨_,⟨25005000,x2+1+1+1⟩,List.mem_singleton.1 fy,by decide,.inl rfl,aQ,aQ,[0,0,0,0],rfl,sl @Nat.zero_add⟩:iT jK (x2+2) _ _ [[.str ⟨#[115,101,101,100]⟩,.own ⟨25005000,x2+1+1+1⟩ 0 4]]),.inl rfl,aQ,aQ⟩⟩ ?_
 rintro n_a env_a st_a ⟨k,rfl,ale,a8,a7,nh⟩ eE
 have a0:=eE 0 (by kernel_rfl);have a2:=eE 2 (by kernel_rfl);have a3:=eE 3 (by kernel_rfl);have a4:=eE 4 (by kernel_rfl);have a5:=eE 5 (by kernel_rfl);have a6:=eE 6 (by kernel_rfl)
 simp only[go_sem, ↓reduceIte,Nat.reduceEqDiff,Nat.reduceAdd,Nat.reduceSub,Nat.reduceLeDiff,reduceCtorEq,Me,Ao]at a0 a2 a3 a4 a5 a6
 clear eE
 have aC:=nh.2.2.2
 obtain⟨aS,aN,aO,og,o,L,rows,aB,hL,nz,uj,⟨sg,P9,Qa⟩,hr,go,hT,so,j5,pJ⟩:=nh
 by_cases hk:(k:Int)<(m1:Int)
 ·have dD:∀{e:Env} {gg:Rows} {nx:Nat},(e 8=.int .i64 (IntKind.i64.wrap ((k:Int)+1)))->(e 7=.int .i64 ((k+1):Int))->((e9 gg X bs (A+4+2*(k+1))/\x2+3<=nx/\(∀i:Id,i≠X->i.bj<x2->gg i=g2 i)/\l7 (x2+2) gg nx ⟨25003001,x2+1⟩ ((k+1)+2) ((k+1)+1)))->∃m0,m0<(m1)-k/\∃k:Nat,m0=(m1)-k/\k<=(m1)/\e 8=.int .i64 (k:Int)/\e 7=.int .i64 (k:Int)/\((e9 gg X bs (A+4+2*k)/\x2+3<=nx/\(∀i:Id,i≠X->i.bj<x2->gg i=g2 i)/\l7 (x2+2) gg nx ⟨25003001,x2+1⟩ (k+2) (k+1))):=fun x1 x2 x3=>⟨_,ah,k+1,rfl,ah,(by rw[x1,aK ah]),x2,x3⟩
  have qG:=lZ (k:Int) ah ah
  have Eu:=js (k:Int) ah
  generalize ji (k:Int)=dt at qG Eu
  have eQ:(#[120]:Array UInt8).size+dt.size<=9223372036854775807:=by
   have:(#[120]:Array UInt8).size=1:=rfl
   omega
  have iG:(#[101]:Array UInt8).size+dt.size<=9223372036854775807:=by
   have:(#[101]:Array UInt8).size=1:=rfl
   omega
  have lV:((⟨#[120]⟩:ByteArray)++dt).size<=64:=by
   rw[iw]
   have:(⟨#[120]⟩:ByteArray).size=1:=rfl
   omega
  have EF:((⟨#[101]⟩:ByteArray)++dt).size<=64:=by
   rw[iw]
   have:(⟨#[101]⟩:ByteArray).size=1:=rfl
   omega
  obtain⟨ga,na⟩:=st_a
  (try dsimp only at aS aN aO aB nz Qa go hT pJ)
  obtain⟨nm,u,fy,f1,f2,f3,l,hl,gE⟩:=hT.get (k:=k) ah
  have u7:=dh Qa
  have vo:=dh pJ
  have vu:=dh f3
  have tu:=Cj sg so
  have tr:=Ci f1 sg
  have tt:=sZ f1 so
  have nB:∀i:Id,x2+2<=i.bj->∀s,(i=⟨s,x2+1⟩)=False/\((⟨s,x2+1⟩:Id)=i)=False:=fun i hi s=>⟨eq_false fun e=>by rw[e]at hi;(try dsimp only at hi);omega,eq_false fun e=>by rw[<-e]at hi;(try dsimp only at hi);omega⟩
  have qL:=nB og P9
  have om:=nB o j5
  have qM:=nB u f2
  have kO:(L.map ek).length=k+2:=by rw[List.length_map,hL]
  have sk:k<=16777213:=ah
  have K6:(k:Int)<((k+1:Nat):Int):=ah
  have gU:(l.map aJ).length=4:=by rw[List.length_map,hl]
  have lx:(l.map aJ)[1]? =some [.int .i64 (l.getD 1 0)]:=getD_map aJ ah
  have fx:∀w:Int,(l.map aJ).set 1 [.int .i64 w]=(l.set 1 w).map aJ:=fun w=>by rw[List.map_set];rfl
  (have zF:=tw @a8 (tw @a7 (tw @a0 (tw @a2 (tw @a3 (tw @a4 (tw @a5 (tw @a6 (tw @hk (tw @aB (tw @eQ (tw @iG (tw @nz (tw @go (tw @u7 (tw @vo (tw @vu (tw @tu (tw @tr (tw @tt (tw @qL (tw @om (tw @qM (tw @kO (tw @sk (tw @K6 (tw @fy (tw @gE (tw @lx (tw @gU (tw @fx @hr))))))))))))))))))))))))))))));(repeat(first|((repeat(revert N;apply Pn.out));refine wk zF ?_;(repeat(apply Pn.mk;intro N Z)))|((try apply Or.inl);refine⟨_,ay.x (qG) (sd zF),?_⟩;apply Z;clear Z N)));try clear zF)
  refine mH (fun e st=>e 0=.ptr X 0 0/\e 2=env_a 2/\e 3=env_a 3/\e 4=env_a 4/\e 5=env_a 5/\e 6=env_a 6/\e 8=.int .i64 (k:Int)/\e9 st.get X bs (A+4+2*(k+1))/\x2+3<=st.next/\(∀i:Id,i≠X->i.bj<x2->st.get i=g2 i)/\l7 (x2+2) st.get st.next ⟨25003001,x2+1⟩ (k+3) (k+2)) ?_ ?_
  ·rintro e st ⟨r0,r2,r3,r4,r5,r6,r8,rS,rN,rO,rC⟩
   obtain⟨gc,nc⟩:=st
   (try dsimp only at rS rN rO rC)
   obtain⟨qg,qo,L',rows',rB,_⟩:=id rC
   rw[a2]at r2
   rw[a3]at r3
   rw[a4]at r4
   rw[a5]at r5
   rw[a6]at r6
   apply Z
   clear Z N
   have w9:IntKind.i64.wrap (((k+2:Nat):Int)-1)=(k:Int)+1:=(cm ah).trans ah
   (try((repeat(revert N;apply Pn.out));refine wk (tw @r0 (tw @r2 (tw @r3 (tw @r4 (tw @r5 (tw @r6 (tw @r8 (tw @rB @w9)))))))) ?_;(repeat(apply Pn.mk;intro N Z))))
   refine dD ?_ ?_ (by(try dsimp only);exact⟨rS,ah,rO,rC.later ah⟩)
   all_goals simp only[go_sem, ↓reduceIte,Nat.reduceEqDiff,Nat.reduceAdd,Nat.reduceSub,Nat.reduceLeDiff,reduceCtorEq,a8,a7,a0,a2,a3,a4,a5,a6,r8]
  ·intro N Z
   have nXu:(X=u)=False:=eq_false fun h=>by rw[<-h]at f2;omega
   have nXg:(X=og)=False:=eq_false fun h=>by rw[<-h]at P9;omega
   have VX:=dh (i:=X) (n:=na) ah
   refine dv ?_ ?_<;>(have zF:=tw @a8 (tw @a7 (tw @a0 (tw @a2 (tw @a3 (tw @a4 (tw @a5 (tw @a6 (tw @aB (tw @eQ (tw @iG (tw @nz (tw @go (tw @u7 (tw @vo (tw @vu (tw @tu (tw @tr (tw @tt (tw @qL (tw @om (tw @qM (tw @kO @hr))))))))))))))))))))));(repeat(first|((repeat(revert N;apply Pn.out));refine wk zF ?_;(repeat(apply Pn.mk;intro N Z)))|((try apply Or.inl);refine⟨_,ay.x (qG) (sd zF),?_⟩;apply Z;clear Z N)));try clear zF)<;>(try refine dv ?_ ?_)<;>(have zF:=tw @a8 (tw @a7 (tw @a0 (tw @a2 (tw @a3 (tw @a4 (tw @a5 (tw @a6 (tw @aB (tw @eQ (tw @iG (tw @nz (tw @go (tw @u7 (tw @vo (tw @vu (tw @tu (tw @tr (tw @tt (tw @qL (tw @om (tw @qM (tw @kO @hr))))))))))))))))))))));(repeat(first|((repeat(revert N;apply Pn.out));refine wk zF ?_;(repeat(apply Pn.mk;intro N Z)))|((try apply Or.inl);refine⟨_,ay.x (qG) (sd zF),?_⟩;apply Z;clear Z N)));try clear zF)<;>(try refine dv ?_ ?_)<;>(have zF:=tw @a8 (tw @a7 (tw @a0 (tw @a2 (tw @a3 (tw @a4 (tw @a5 (tw @a6 (tw @aB (tw @eQ (tw @iG (tw @nz (tw @go (tw @u7 (tw @vo (tw @vu (tw @tu (tw @tr (tw @tt (tw @qL (tw @om (tw @qM (tw @kO @hr))))))))))))))))))))));(repeat(first|((repeat(revert N;apply Pn.out));refine wk zF ?_;(repeat(apply Pn.mk;intro N Z)))|((try apply Or.inl);refine⟨_,ay.x (qG) (sd zF),?_⟩;apply Z;clear Z N)));try clear zF)<;>(try refine dv ?_ ?_)<;>(have zF:=tw @a8 (tw @a7 (tw @a0 (tw @a2 (tw @a3 (tw @a4 (tw @a5 (tw @a6 (tw @aB (tw @eQ (tw @iG (tw @nz (tw @go (tw @u7 (tw @vo (tw @vu (tw @tu (tw @tr (tw @tt (tw @qL (tw @om (tw @qM (tw @kO @hr))))))))))))))))))))));(repeat(first|((repeat(revert N;apply Pn.out));refine wk zF ?_;(repeat(apply Pn.mk;intro N Z)))|((try apply Or.inl);refine⟨_,ay.x (qG) (sd zF),?_⟩;apply Z;clear Z N)));try clear zF)<;>(try refine dv ?_ ?_)<;>(have zF:=tw @a8 (tw @a7 (tw @a0 (tw @a2 (tw @a3 (tw @a4 (tw @a5 (tw @a6 (tw @aB (tw @eQ (tw @iG (tw @nz (tw @go (tw @u7 (tw @vo (tw @vu (tw @tu (tw @tr (tw @tt (tw @qL (tw @om (tw @qM (tw @kO @hr))))))))))))))))))))));(repeat(first|((repeat(revert N;apply Pn.out));refine wk zF ?_;(repeat(apply Pn.mk;intro N Z)))|((try apply Or.inl);refine⟨_,ay.x (qG) (sd zF),?_⟩;apply Z;clear Z N)));try clear zF)<;>(try refine dv ?_ ?_)<;>(have zF:=tw @a8 (tw @a7 (tw @a0 (tw @a2 (tw @a3 (tw @a4 (tw @a5 (tw @a6 (tw @aB (tw @eQ (tw @iG (tw @nz (tw @go (tw @u7 (tw @vo (tw @vu (tw @tu (tw @tr (tw @tt (tw @qL (tw @om (tw @qM (tw @kO @hr))))))))))))))))))))));(repeat(first|((repeat(revert N;apply Pn.out));refine wk zF ?_;(repeat(apply Pn.mk;intro N Z)))|((try apply Or.inl);refine⟨_,ay.x (qG) (sd zF),?_⟩;apply Z;clear Z N)));try clear zF)
   all_goals
    refine .inr (aE _ _ _ _ _ (fun r σ3 hq=>?_) (gP bs hb iD X 2 (A+4+2*k) ah _ (by
     obtain⟨za,zz,As,gX⟩:=aS
     exact⟨za,zz,As,by simp only[go_sem, ↓reduceIte,Nat.reduceEqDiff,Nat.reduceAdd,Nat.reduceSub,Nat.reduceLeDiff,reduceCtorEq,VX,Qw,nXu,nXg]<;>exact gX⟩)))
    obtain⟨w,rfl,w0,w1,h3,hK⟩:=hq
    obtain⟨g3,x3⟩:=σ3
    (try dsimp only at h3)
    have JX:=hK.1
    (try dsimp only at JX)
    have c5:=hK.2 ⟨25003001,x2+1⟩ (nZZ hX) aQ
    have cG:=hK.2 ⟨25011007,na+1⟩ (nZZ hX) aQ
    have co:=hK.2 o (fun h=>by rw[h]at j5;omega) aQ
    simp only[go_sem, ↓reduceIte,Nat.reduceEqDiff,Nat.reduceAdd,Nat.reduceSub,Nat.reduceLeDiff,reduceCtorEq,go,vo,vu,tu,tr,tt,qL,om,qM]at c5 cG co
    apply Z
    clear Z N
    have Ds:k<=16777214:=ah
    have T7:=dh (i:=o) (n:=x3) ah
    (have zF:=tw @a8 (tw @a7 (tw @a0 (tw @a2 (tw @a3 (tw @a4 (tw @a5 (tw @a6 (tw @c5 (tw @cG (tw @co (tw @hr (tw @iG (tw @Ds (tw @qL (tw @om (tw @qM @T7))))))))))))))));(repeat(first|((repeat(revert N;apply Pn.out));refine wk zF ?_;(repeat(apply Pn.mk;intro N Z)))|((try apply Or.inl);refine⟨_,ay.x (qG) (sd zF),?_⟩;apply Z;clear Z N)));try clear zF)
    obtain⟨za,zz,As,gX⟩:=h3
    have FQ:=dh (i:=X) (n:=x3) ah
    have P7:(X=o)=False:=eq_false fun h=>by rw[<-h]at j5;omega
    have WD:=(hT.write (e:=u) (l:=l.set 1 ((k+2+1:Nat):Int)) (by rw[List.length_set,hl])).frame (g':=g3) (n':=x3) ah fun i h1 h2 h4=>(hK.2 i (fun h=>by rw[h]at h2;omega) aQ).trans (by
     have q1:=dh h4
     have q2:=Ci h1 sg
     have q3:=nB i h2
     simp only[go_sem, ↓reduceIte,Nat.reduceEqDiff,Nat.reduceAdd,Nat.reduceSub,Nat.reduceLeDiff,reduceCtorEq,q1,q2,q3])
    have Io:∀i:Id,i≠X->i.bj<x2->g3 i=g2 i:=fun i h1 h2=>(hK.2 i h1 aQ).trans (by
     have q1:=dh (i:=i) (n:=na) ah
     have q2:=dh h2
     have q3:(i=og)=False:=eq_false fun h=>by rw[h]at h2;omega
     have q4:(i=u)=False:=eq_false fun h=>by rw[h]at h2;omega
     simp only[go_sem, ↓reduceIte,Nat.reduceEqDiff,Nat.reduceAdd,Nat.reduceSub,Nat.reduceLeDiff,reduceCtorEq,q1,q2,q3,q4]<;>exact aO i h1 h2)
    exact⟨sd (tw @a8 (tw @a7 (tw @a0 (tw @a2 (tw @a3 (tw @a4 (tw @a5 @a6))))))),sd (tw @a8 (tw @a7 (tw @a0 (tw @a2 (tw @a3 (tw @a4 (tw @a5 @a6))))))),sd (tw @a8 (tw @a7 (tw @a0 (tw @a2 (tw @a3 (tw @a4 (tw @a5 @a6))))))),sd (tw @a8 (tw @a7 (tw @a0 (tw @a2 (tw @a3 (tw @a4 (tw @a5 @a6))))))),sd (tw @a8 (tw @a7 (tw @a0 (tw @a2 (tw @a3 (tw @a4 (tw @a5 @a6))))))),sd (tw @a8 (tw @a7 (tw @a0 (tw @a2 (tw @a3 (tw @a4 (tw @a5 @a6))))))),sd (tw @a8 (tw @a7 (tw @a0 (tw @a2 (tw @a3 (tw @a4 (tw @a5 @a6))))))),⟨za,zz,ah,by simp only[go_sem, ↓reduceIte,Nat.reduceEqDiff,Nat.reduceAdd,Nat.reduceSub,Nat.reduceLeDiff,reduceCtorEq,FQ,Qw,P7]<;>exact gX⟩,aQ,fun i h1 h2=>(by
     have q1:=dh (i:=i) (n:=x3) ah
     have q2:=dh h2
     have q3:(i=o)=False:=eq_false fun h=>by rw[h]at h2;omega
     simp only[go_sem, ↓reduceIte,Nat.reduceEqDiff,Nat.reduceAdd,Nat.reduceSub,Nat.reduceLeDiff,reduceCtorEq,q1,q2,q3]<;>exact Io i h1 h2),⟨25011007,na+1⟩,⟨25013014,x3⟩,L++[⟨(⟨#[120]⟩:ByteArray)++dt,2⟩],rows++[[.str ((⟨#[101]⟩:ByteArray)++dt),.own ⟨25013011,x3⟩ 0 4]],sl @Nat.zero_add,by simp[hL],by
      have q1:((⟨25011007,na+1⟩:Id)=o)=False:=eq_false fun h=>by rw[<-h]at pJ;(try dsimp only at pJ);omega
      rw[List.map_append];simp only[go_sem, ↓reduceIte,Nat.reduceEqDiff,Nat.reduceAdd,Nat.reduceSub,Nat.reduceLeDiff,reduceCtorEq,q1]<;>exact cG,fun x hx=>(by
      rcases List.mem_append.1 hx with h9|h9
      ·exact uj x h9
      ·rw[List.mem_singleton.1 h9];exact lV),⟨.inr (.inl rfl),aQ,aQ⟩,by simp[hr],sl @Nat.zero_add,(WD.frame aQ fun i h1 h2 h4=>(by
       have q1:=dh h4
       have q2:=sZ h1 so
       have q3:=nB i h2
       simp only[go_sem, ↓reduceIte,Nat.reduceEqDiff,Nat.reduceAdd,Nat.reduceSub,Nat.reduceLeDiff,reduceCtorEq,q1,q2,q3])).snoc (e:=⟨25013011,x3⟩) EF ⟨.inr (.inl rfl),aQ,aQ,[IntKind.i64.wrap (1+w),0,0,((k+2+1:Nat):Int)],rfl,by
       have q1:((⟨25013011,x3⟩:Id)=o)=False:=eq_false fun h=>by rw[<-h]at pJ;(try dsimp only at pJ);omega
       simp only[go_sem, ↓reduceIte,Nat.reduceEqDiff,Nat.reduceAdd,Nat.reduceSub,Nat.reduceLeDiff,reduceCtorEq,q1]<;>rfl⟩,.inr (.inl rfl),aQ,aQ⟩
 ·have hkm:k=m1:=ah
  subst hkm
  clear aB hL nz uj sg P9 Qa hr go hT so j5 pJ
  obtain⟨ga,na⟩:=st_a
  (try dsimp only at aS aN aO aC)
  (try((repeat(revert N;apply Pn.out));refine wk (tw @a8 (tw @a7 (tw @a0 (tw @a2 (tw @a3 (tw @a4 (tw @a5 (tw @a6 @hk)))))))) ?_;(repeat(apply Pn.mk;intro N Z))))
  refine bz (fun n env st=>∃j:Nat,n=(m2)-j/\j<=(m2)/\env 9=.int .i64 (j:Int)/\env 7=.int .i64 (zc k j:Int)/\((e9 st.get X bs (A+4+2*k+2*j)/\x2+3<=st.next/\(∀i:Id,i≠X->i.bj<x2->st.get i=g2 i)/\l7 (x2+2) st.get st.next ⟨25003001,x2+1⟩ (k+2+j) (k+1+j)))) (m2) ⟨0,ah,ah,sl (tw @a8 (tw @a7 (tw @a0 (tw @a2 (tw @a3 (tw @a4 (tw @a5 (tw @a6 @Ao)))))))),sl (tw @a8 (tw @a7 (tw @a0 (tw @a2 (tw @a3 (tw @a4 (tw @a5 (tw @a6 @Ao)))))))),by(try dsimp only);exact⟨by(try simp only[go_sem, ↓reduceIte,Nat.reduceEqDiff,Nat.reduceAdd,Nat.reduceSub,Nat.reduceLeDiff,reduceCtorEq]);exact aS,ah,aO,aC.later ah⟩⟩ ?_
  rintro n_b env_b st_b ⟨j,rfl,ble,b9,b7,bI0⟩ fo
  have b0:=fo 0 (by kernel_rfl);have b2:=fo 2 (by kernel_rfl);have b4:=fo 4 (by kernel_rfl);have b5:=fo 5 (by kernel_rfl)
  simp only[go_sem, ↓reduceIte,Nat.reduceEqDiff,Nat.reduceAdd,Nat.reduceSub,Nat.reduceLeDiff,reduceCtorEq,a8,a7,a0,a2,a3,a4,a5,a6,Ao]at b0 b2 b4 b5
  clear fo
  have bC:=bI0.2.2.2
  obtain⟨bS,bN,bO,og,o,L,rows,bB,hL,nz,uj,⟨sg,P9,Qa⟩,hr,go,hT,so,j5,pJ⟩:=bI0
  by_cases hj:(j:Int)<(m2:Int)
  ·have fN:∀{e:Env} {gg:Rows} {nx:Nat},(e 9=.int .i64 (IntKind.i64.wrap ((j:Int)+1)))->(e 7=.int .i64 (zc k (j+1):Int))->((e9 gg X bs (A+4+2*k+2*(j+1))/\x2+3<=nx/\(∀i:Id,i≠X->i.bj<x2->gg i=g2 i)/\l7 (x2+2) gg nx ⟨25003001,x2+1⟩ (k+2+(j+1)) (k+1+(j+1))))->∃m0,m0<(m2)-j/\∃j:Nat,m0=(m2)-j/\j<=(m2)/\e 9=.int .i64 (j:Int)/\e 7=.int .i64 (zc k j:Int)/\((e9 gg X bs (A+4+2*k+2*j)/\x2+3<=nx/\(∀i:Id,i≠X->i.bj<x2->gg i=g2 i)/\l7 (x2+2) gg nx ⟨25003001,x2+1⟩ (k+2+j) (k+1+j))):=fun x1 x2 x3=>⟨_,ah,j+1,rfl,ah,(by rw[x1,aK ah]),x2,x3⟩
   obtain⟨G,hG⟩:∃G,k+2+j=G:=⟨_,rfl⟩
   obtain⟨TT,WE⟩:∃T,k+1+j=T:=⟨_,rfl⟩
   obtain⟨z,hz⟩:∃z,zc k j=z:=⟨_,rfl⟩
   rw[hG]at bB hL
   rw[WE]at bB hr
   rw[hz]at b7
   have hzT:z<TT:=by rw[<-hz,<-WE];unfold zc;split<;>omega
   have qG:=lZ (j:Int) ah ah
   have Eu:=js (j:Int) ah
   generalize ji (j:Int)=dt at qG Eu
   have eQ:(#[121]:Array UInt8).size+dt.size<=9223372036854775807:=by
    have:(#[121]:Array UInt8).size=1:=rfl
    omega
   have iG:(#[110]:Array UInt8).size+dt.size<=9223372036854775807:=by
    have:(#[110]:Array UInt8).size=1:=rfl
    omega
   have lV:((⟨#[121]⟩:ByteArray)++dt).size<=64:=by
    rw[iw]
    have:(⟨#[121]⟩:ByteArray).size=1:=rfl
    omega
   have EF:((⟨#[110]⟩:ByteArray)++dt).size<=64:=by
    rw[iw]
    have:(⟨#[110]⟩:ByteArray).size=1:=rfl
    omega
   obtain⟨gb,nb⟩:=st_b
   (try dsimp only at bS bN bO bB nz Qa go hT pJ)
   obtain⟨nm,u,fy,f1,f2,f3,l,hl,gE⟩:=hT.get (k:=z) ah
   have u7:=dh Qa
   have vo:=dh pJ
   have vu:=dh f3
   have tu:=Cj sg so
   have tr:=Ci f1 sg
   have tt:=sZ f1 so
   have nB:∀i:Id,x2+2<=i.bj->∀s,(i=⟨s,x2+1⟩)=False/\((⟨s,x2+1⟩:Id)=i)=False:=fun i hi s=>⟨eq_false fun e=>by rw[e]at hi;(try dsimp only at hi);omega,eq_false fun e=>by rw[<-e]at hi;(try dsimp only at hi);omega⟩
   have qL:=nB og P9
   have om:=nB o j5
   have qM:=nB u f2
   have kO:(L.map ek).length=G:=by rw[List.length_map,hL]
   have sk:G<=16777215:=ah
   have K6:(z:Int)<(TT:Int):=ah
   have Dx:(0:Int)<=(z:Int):=ah
   have gU:(l.map aJ).length=4:=by rw[List.length_map,hl]
   have lx:(l.map aJ)[0]? =some [.int .i64 (l.getD 0 0)]:=getD_map aJ ah
   have fx:∀w:Int,(l.map aJ).set 0 [.int .i64 w]=(l.set 0 w).map aJ:=fun w=>by rw[List.map_set];rfl
   (have zF:=tw @b9 (tw @b7 (tw @b0 (tw @b2 (tw @b4 (tw @b5 (tw @hj (tw @bB (tw @eQ (tw @iG (tw @nz (tw @go (tw @u7 (tw @vo (tw @vu (tw @tu (tw @tr (tw @tt (tw @qL (tw @om (tw @qM (tw @kO (tw @sk (tw @K6 (tw @fy (tw @gE (tw @lx (tw @gU (tw @fx @hr))))))))))))))))))))))))))));(repeat(first|((repeat(revert N;apply Pn.out));refine wk zF ?_;(repeat(apply Pn.mk;intro N Z)))|((try apply Or.inl);refine⟨_,ay.x (qG) (sd zF),?_⟩;apply Z;clear Z N)));try clear zF)
   refine mH (fun e st=>e 0=.ptr X 0 0/\e 2=env_b 2/\e 4=env_b 4/\e 5=env_b 5/\e 9=.int .i64 (j:Int)/\e9 st.get X bs (A+4+2*k+2*(j+1))/\x2+3<=st.next/\(∀i:Id,i≠X->i.bj<x2->st.get i=g2 i)/\l7 (x2+2) st.get st.next ⟨25003001,x2+1⟩ (G+1) (TT+1)) ?_ ?_
   ·rintro e st ⟨r0,r2,r4,r5,r9,rS,rN,rO,rC⟩
    obtain⟨gc,nc⟩:=st
    (try dsimp only at rS rN rO rC)
    obtain⟨qg,qo,L',rows',rB,_⟩:=id rC
    rw[b2]at r2
    rw[b4]at r4
    rw[b5]at r5
    apply Z
    clear Z N
    have w9:IntKind.i64.wrap (((TT+1:Nat):Int)-1)=(TT:Int):=(cm ah).trans ah
    have hl9:zc k (j+1)=TT:=by rw[<-WE];unfold zc;rw[if_neg ah];omega
    (try((repeat(revert N;apply Pn.out));refine wk (tw @r0 (tw @r2 (tw @r4 (tw @r5 (tw @r9 (tw @rB @w9)))))) ?_;(repeat(apply Pn.mk;intro N Z))))
    refine fN ?_ ?_ (by(try dsimp only);rw[show k+2+(j+1)=G+1 by omega,show k+1+(j+1)=TT+1 by omega];exact⟨rS,ah,rO,rC.later ah⟩)
    all_goals simp only[go_sem, ↓reduceIte,Nat.reduceEqDiff,Nat.reduceAdd,Nat.reduceSub,Nat.reduceLeDiff,reduceCtorEq,b9,b7,b0,b2,b4,b5,r9,hl9]
   ·intro N Z
    have nXu:(X=u)=False:=eq_false fun h=>by rw[<-h]at f2;omega
    have nXg:(X=og)=False:=eq_false fun h=>by rw[<-h]at P9;omega
    have VX:=dh (i:=X) (n:=nb) ah
    refine dv ?_ ?_<;>(have zF:=tw @b9 (tw @b7 (tw @b0 (tw @b2 (tw @b4 (tw @b5 (tw @bB (tw @eQ (tw @iG (tw @nz (tw @go (tw @u7 (tw @vo (tw @vu (tw @tu (tw @tr (tw @tt (tw @qL (tw @om (tw @qM (tw @kO @hr))))))))))))))))))));(repeat(first|((repeat(revert N;apply Pn.out));refine wk zF ?_;(repeat(apply Pn.mk;intro N Z)))|((try apply Or.inl);refine⟨_,ay.x (qG) (sd zF),?_⟩;apply Z;clear Z N)));try clear zF)<;>(try refine dv ?_ ?_)<;>(have zF:=tw @b9 (tw @b7 (tw @b0 (tw @b2 (tw @b4 (tw @b5 (tw @bB (tw @eQ (tw @iG (tw @nz (tw @go (tw @u7 (tw @vo (tw @vu (tw @tu (tw @tr (tw @tt (tw @qL (tw @om (tw @qM (tw @kO @hr))))))))))))))))))));(repeat(first|((repeat(revert N;apply Pn.out));refine wk zF ?_;(repeat(apply Pn.mk;intro N Z)))|((try apply Or.inl);refine⟨_,ay.x (qG) (sd zF),?_⟩;apply Z;clear Z N)));try clear zF)<;>(try refine dv ?_ ?_)<;>(have zF:=tw @b9 (tw @b7 (tw @b0 (tw @b2 (tw @b4 (tw @b5 (tw @bB (tw @eQ (tw @iG (tw @nz (tw @go (tw @u7 (tw @vo (tw @vu (tw @tu (tw @tr (tw @tt (tw @qL (tw @om (tw @qM (tw @kO @hr))))))))))))))))))));(repeat(first|((repeat(revert N;apply Pn.out));refine wk zF ?_;(repeat(apply Pn.mk;intro N Z)))|((try apply Or.inl);refine⟨_,ay.x (qG) (sd zF),?_⟩;apply Z;clear Z N)));try clear zF)<;>(try refine dv ?_ ?_)<;>(have zF:=tw @b9 (tw @b7 (tw @b0 (tw @b2 (tw @b4 (tw @b5 (tw @bB (tw @eQ (tw @iG (tw @nz (tw @go (tw @u7 (tw @vo (tw @vu (tw @tu (tw @tr (tw @tt (tw @qL (tw @om (tw @qM (tw @kO @hr))))))))))))))))))));(repeat(first|((repeat(revert N;apply Pn.out));refine wk zF ?_;(repeat(apply Pn.mk;intro N Z)))|((try apply Or.inl);refine⟨_,ay.x (qG) (sd zF),?_⟩;apply Z;clear Z N)));try clear zF)<;>(try refine dv ?_ ?_)<;>(have zF:=tw @b9 (tw @b7 (tw @b0 (tw @b2 (tw @b4 (tw @b5 (tw @bB (tw @eQ (tw @iG (tw @nz (tw @go (tw @u7 (tw @vo (tw @vu (tw @tu (tw @tr (tw @tt (tw @qL (tw @om (tw @qM (tw @kO @hr))))))))))))))))))));(repeat(first|((repeat(revert N;apply Pn.out));refine wk zF ?_;(repeat(apply Pn.mk;intro N Z)))|((try apply Or.inl);refine⟨_,ay.x (qG) (sd zF),?_⟩;apply Z;clear Z N)));try clear zF)<;>(try refine dv ?_ ?_)<;>(have zF:=tw @b9 (tw @b7 (tw @b0 (tw @b2 (tw @b4 (tw @b5 (tw @bB (tw @eQ (tw @iG (tw @nz (tw @go (tw @u7 (tw @vo (tw @vu (tw @tu (tw @tr (tw @tt (tw @qL (tw @om (tw @qM (tw @kO @hr))))))))))))))))))));(repeat(first|((repeat(revert N;apply Pn.out));refine wk zF ?_;(repeat(apply Pn.mk;intro N Z)))|((try apply Or.inl);refine⟨_,ay.x (qG) (sd zF),?_⟩;apply Z;clear Z N)));try clear zF)
    all_goals
     refine .inr (aE _ _ _ _ _ (fun r σ3 hq=>?_) (gP bs hb iD X 2 (A+4+2*k+2*j) ah _ (by
      obtain⟨za,zz,As,gX⟩:=bS
      exact⟨za,zz,As,by simp only[go_sem, ↓reduceIte,Nat.reduceEqDiff,Nat.reduceAdd,Nat.reduceSub,Nat.reduceLeDiff,reduceCtorEq,VX,Qw,nXu,nXg]<;>exact gX⟩)))
     obtain⟨w,rfl,w0,w1,h3,hK⟩:=hq
     obtain⟨g3,x3⟩:=σ3
     (try dsimp only at h3)
     have JX:=hK.1
     (try dsimp only at JX)
     have c5:=hK.2 ⟨25003001,x2+1⟩ (nZZ hX) aQ
     have cG:=hK.2 ⟨25019007,nb+1⟩ (nZZ hX) aQ
     have co:=hK.2 o (fun h=>by rw[h]at j5;omega) aQ
     simp only[go_sem, ↓reduceIte,Nat.reduceEqDiff,Nat.reduceAdd,Nat.reduceSub,Nat.reduceLeDiff,reduceCtorEq,go,vo,vu,tu,tr,tt,qL,om,qM]at c5 cG co
     apply Z
     clear Z N
     have Ds:TT<=16777215:=ah
     have T7:=dh (i:=o) (n:=x3) ah
     (have zF:=tw @b9 (tw @b7 (tw @b0 (tw @b2 (tw @b4 (tw @b5 (tw @c5 (tw @cG (tw @co (tw @hr (tw @iG (tw @Ds (tw @qL (tw @om (tw @qM @T7))))))))))))));(repeat(first|((repeat(revert N;apply Pn.out));refine wk zF ?_;(repeat(apply Pn.mk;intro N Z)))|((try apply Or.inl);refine⟨_,ay.x (qG) (sd zF),?_⟩;apply Z;clear Z N)));try clear zF)
     obtain⟨za,zz,As,gX⟩:=h3
     have FQ:=dh (i:=X) (n:=x3) ah
     have P7:(X=o)=False:=eq_false fun h=>by rw[<-h]at j5;omega
     have WD:=(hT.write (e:=u) (l:=l.set 0 ((G+1:Nat):Int)) (by rw[List.length_set,hl])).frame (g':=g3) (n':=x3) ah fun i h1 h2 h4=>(hK.2 i (fun h=>by rw[h]at h2;omega) aQ).trans (by
      have q1:=dh h4
      have q2:=Ci h1 sg
      have q3:=nB i h2
      simp only[go_sem, ↓reduceIte,Nat.reduceEqDiff,Nat.reduceAdd,Nat.reduceSub,Nat.reduceLeDiff,reduceCtorEq,q1,q2,q3])
     have Io:∀i:Id,i≠X->i.bj<x2->g3 i=g2 i:=fun i h1 h2=>(hK.2 i h1 aQ).trans (by
      have q1:=dh (i:=i) (n:=nb) ah
      have q2:=dh h2
      have q3:(i=og)=False:=eq_false fun h=>by rw[h]at h2;omega
      have q4:(i=u)=False:=eq_false fun h=>by rw[h]at h2;omega
      simp only[go_sem, ↓reduceIte,Nat.reduceEqDiff,Nat.reduceAdd,Nat.reduceSub,Nat.reduceLeDiff,reduceCtorEq,q1,q2,q3,q4]<;>exact bO i h1 h2)
     exact⟨sd (tw @b9 (tw @b7 (tw @b0 (tw @b2 (tw @b4 @b5))))),sd (tw @b9 (tw @b7 (tw @b0 (tw @b2 (tw @b4 @b5))))),sd (tw @b9 (tw @b7 (tw @b0 (tw @b2 (tw @b4 @b5))))),sd (tw @b9 (tw @b7 (tw @b0 (tw @b2 (tw @b4 @b5))))),sd (tw @b9 (tw @b7 (tw @b0 (tw @b2 (tw @b4 @b5))))),⟨za,zz,ah,by simp only[go_sem, ↓reduceIte,Nat.reduceEqDiff,Nat.reduceAdd,Nat.reduceSub,Nat.reduceLeDiff,reduceCtorEq,FQ,Qw,P7]<;>exact gX⟩,aQ,fun i h1 h2=>(by
      have q1:=dh (i:=i) (n:=x3) ah
      have q2:=dh h2
      have q3:(i=o)=False:=eq_false fun h=>by rw[h]at h2;omega
      simp only[go_sem, ↓reduceIte,Nat.reduceEqDiff,Nat.reduceAdd,Nat.reduceSub,Nat.reduceLeDiff,reduceCtorEq,q1,q2,q3]<;>exact Io i h1 h2),⟨25019007,nb+1⟩,⟨25021014,x3⟩,L++[⟨(⟨#[121]⟩:ByteArray)++dt,2⟩],rows++[[.str ((⟨#[110]⟩:ByteArray)++dt),.own ⟨25021011,x3⟩ 0 4]],sl @Nat.zero_add,by simp[hL],by
       have q1:((⟨25019007,nb+1⟩:Id)=o)=False:=eq_false fun h=>by rw[<-h]at pJ;(try dsimp only at pJ);omega
       rw[List.map_append];simp only[go_sem, ↓reduceIte,Nat.reduceEqDiff,Nat.reduceAdd,Nat.reduceSub,Nat.reduceLeDiff,reduceCtorEq,q1]<;>exact cG,fun x hx=>(by
       rcases List.mem_append.1 hx with h9|h9
       ·exact uj x h9
       ·rw[List.mem_singleton.1 h9];exact lV),⟨.inr (.inr rfl),aQ,aQ⟩,by simp[hr],sl @Nat.zero_add,(WD.frame aQ fun i h1 h2 h4=>(by
        have q1:=dh h4
        have q2:=sZ h1 so
        have q3:=nB i h2
        simp only[go_sem, ↓reduceIte,Nat.reduceEqDiff,Nat.reduceAdd,Nat.reduceSub,Nat.reduceLeDiff,reduceCtorEq,q1,q2,q3])).snoc (e:=⟨25021011,x3⟩) EF ⟨.inr (.inr (.inl rfl)),aQ,aQ,[0,IntKind.i64.wrap (1+w),((G+1:Nat):Int),0],rfl,by
        have q1:((⟨25021011,x3⟩:Id)=o)=False:=eq_false fun h=>by rw[<-h]at pJ;(try dsimp only at pJ);omega
        simp only[go_sem, ↓reduceIte,Nat.reduceEqDiff,Nat.reduceAdd,Nat.reduceSub,Nat.reduceLeDiff,reduceCtorEq,q1]<;>rfl⟩,.inr (.inr (.inl rfl)),aQ,aQ⟩
  ·have hjm:j=m2:=ah
   subst hjm
   clear bB hL nz uj sg P9 Qa hr go hT so j5 pJ
   obtain⟨gb,nb⟩:=st_b
   (try dsimp only at bS bN bO bC)
   have SB:(⟨25003001,x2+1⟩:Id)≠X:=fun e=>by rw[<-e]at hX;(try dsimp only at hX);omega
   obtain⟨G,hG⟩:∃G,k+2+j=G:=⟨_,rfl⟩
   obtain⟨TT,WE⟩:∃T,k+1+j=T:=⟨_,rfl⟩
   rw[hG,WE]at bC
   obtain⟨A2,Vv⟩:∃A2,A+4+2*k+2*j=A2:=⟨_,rfl⟩
   rw[Vv]at bS
   (try((repeat(revert N;apply Pn.out));refine wk (tw @b9 (tw @b7 (tw @b0 (tw @b2 (tw @b4 (tw @b5 @hj)))))) ?_;(repeat(apply Pn.mk;intro N Z))))
   refine bz (fun n env st=>∃i:Nat,n=(4)-i/\i<=(4)/\env 10=.int .i64 (i:Int)/\((e9 st.get X bs (A2+4*i)/\x2+3<=st.next/\(∀u:Id,u≠X->u.bj<x2->st.get u=g2 u)/\l7 (x2+2) st.get st.next ⟨25003001,x2+1⟩ G (TT+i)))) (4) ⟨0,ah,ah,sl (tw @b9 (tw @b7 (tw @b0 (tw @b2 (tw @b4 @b5))))),by(try dsimp only);exact⟨bS,ah,bO,bC.later ah⟩⟩ ?_
   rintro n_c env_c st_c ⟨i,rfl,cle,gz,cI0⟩ il
   have c0:=il 0 (by kernel_rfl);have c2:=il 2 (by kernel_rfl);have c5:=il 5 (by kernel_rfl)
   simp only[go_sem, ↓reduceIte,Nat.reduceEqDiff,Nat.reduceAdd,Nat.reduceSub,Nat.reduceLeDiff,reduceCtorEq,b9,b7,b0,b2,b4,b5]at c0 c2 c5
   clear il
   obtain⟨cS,cN,cO,cC⟩:=cI0
   by_cases hi:(i:Int)<4
   ·have fJ:∀{e:Env} {gg:Rows} {nx:Nat},(e 10=.int .i64 (IntKind.i64.wrap ((i:Int)+1)))->((e9 gg X bs (A2+4*(i+1))/\x2+3<=nx/\(∀u:Id,u≠X->u.bj<x2->gg u=g2 u)/\l7 (x2+2) gg nx ⟨25003001,x2+1⟩ G (TT+(i+1))))->∃m0,m0<(4)-i/\∃i:Nat,m0=(4)-i/\i<=(4)/\e 10=.int .i64 (i:Int)/\((e9 gg X bs (A2+4*i)/\x2+3<=nx/\(∀u:Id,u≠X->u.bj<x2->gg u=g2 u)/\l7 (x2+2) gg nx ⟨25003001,x2+1⟩ G (TT+i))):=fun x1 x2=>⟨_,ah,i+1,rfl,ah,(by rw[x1,aK ah]),x2⟩
    have qG:=lZ (i:Int) ah ah
    have Eu:=js (i:Int) ah
    generalize ji (i:Int)=dt at qG Eu
    have eQ:(#[114]:Array UInt8).size+dt.size<=9223372036854775807:=by
     have:(#[114]:Array UInt8).size=1:=rfl
     omega
    have lV:((⟨#[114]⟩:ByteArray)++dt).size<=64:=by
     rw[iw]
     have:(⟨#[114]⟩:ByteArray).size=1:=rfl
     omega
    obtain⟨gc,nc⟩:=st_c
    (try dsimp only at cS cN cO cC)
    (try((repeat(revert N;apply Pn.out));refine wk (tw @gz (tw @c0 (tw @c2 (tw @c5 @hi)))) ?_;(repeat(apply Pn.mk;intro N Z))))
    refine .inr (aE _ _ _ _ _ (fun r σ3 hq=>?_) (gP bs hb iD X 2 (A2+4*i) ah _ cS))
    obtain⟨w,rfl,w0,w1,h3,hK⟩:=hq
    have dC:=cC.only hK aQ ah SB aQ
    have JX:=hK.1
    have dO:∀i:Id,i≠X->i.bj<x2->σ3.get i=g2 i:=fun i h1 h2=>(hK.2 i h1 aQ).trans (cO i h1 h2)
    obtain⟨g3,x3⟩:=σ3
    (try dsimp only at h3 dC JX dO)
    clear hK cS cC cO
    apply Z
    clear Z N
    have OB:((i:Nat):Int).tmod 2=((i:Nat):Int).tmod 2:=rfl
    (try((repeat(revert N;apply Pn.out));refine wk (tw @gz (tw @c0 (tw @c2 @c5))) ?_;(repeat(apply Pn.mk;intro N Z))))
    refine Di (fun e st=>e 0=.ptr X 0 0/\e 2=env_c 2/\e 5=env_c 5/\e 10=.int .i64 (i:Int)/\e9 st.get X bs (A2+4*(i+1))/\x2+3<=st.next/\(∀i:Id,i≠X->i.bj<x2->st.get i=g2 i)/\l7 (x2+2) st.get st.next ⟨25003001,x2+1⟩ G (TT+i+1)) ?_ ?_
    ·rintro e st ⟨r0,r2,r5,r10,rS,rN,rO,rC⟩
     obtain⟨gd,nd⟩:=st
     (try dsimp only at rS rN rO rC)
     rw[c2]at r2
     rw[c5]at r5
     apply Z
     clear Z N
     (try((repeat(revert N;apply Pn.out));refine wk (tw @r0 (tw @r2 (tw @r5 @r10))) ?_;(repeat(apply Pn.mk;intro N Z))))
     exact fJ (sd (tw @gz (tw @c0 (tw @c2 (tw @c5 @r10))))) (by(try dsimp only);exact⟨rS,ah,rO,rC.later ah⟩)
    ·intro N Z
     obtain⟨og,o,L,rows,dB,hL,nz,uj,sg,hr,go,hT,so,j5,pJ⟩:=id dC
     have om:∀s,(o=⟨s,x2+1⟩)=False/\((⟨s,x2+1⟩:Id)=o)=False:=fun s=>⟨eq_false fun e=>by rw[e]at j5;(try dsimp only at j5);omega,eq_false fun e=>by rw[<-e]at j5;(try dsimp only at j5);omega⟩
     have Ds:TT+i<=16777215:=ah
     refine dv ?_ ?_<;>(have zF:=tw @gz (tw @c0 (tw @c2 (tw @c5 (tw @dB @eQ))));(repeat(first|((repeat(revert N;apply Pn.out));refine wk zF ?_;(repeat(apply Pn.mk;intro N Z)))|((try apply Or.inl);refine⟨_,ay.x (qG) (sd zF),?_⟩;apply Z;clear Z N)));try clear zF)<;>(try refine dv ?_ ?_)<;>(have zF:=tw @gz (tw @c0 (tw @c2 (tw @c5 (tw @dB @eQ))));(repeat(first|((repeat(revert N;apply Pn.out));refine wk zF ?_;(repeat(apply Pn.mk;intro N Z)))|((try apply Or.inl);refine⟨_,ay.x (qG) (sd zF),?_⟩;apply Z;clear Z N)));try clear zF)
     all_goals
      refine .inr (aE _ _ _ _ _ (fun r σ4 hq=>?_) (gP bs hb iD X 2 (A2+4*i+2) ah _ h3))
      obtain⟨w',rfl,w0',w1',h4,hK⟩:=hq
      obtain⟨g4,x4⟩:=σ4
      (try dsimp only at h4)
      have PI:=hK.1
      (try dsimp only at PI)
      have Q6:=(hK.2 ⟨25003001,x2+1⟩ SB aQ).trans dB
      have Vu:=(hK.2 o (fun h=>by rw[h]at j5;omega) aQ).trans go
      have ZZ:∀u:Id,x2+2<=u.bj->u.bj<x3->g4 u=g3 u:=fun u h1 h2=>hK.2 u (fun h=>by rw[h]at h1;omega) aQ
      have GK:∀u:Id,u≠X->u.bj<x2->g4 u=g2 u:=fun u h1 h2=>(hK.2 u h1 aQ).trans (dO u h1 h2)
      (try dsimp only at Q6 Vu)
      clear hK
      apply Z
      clear Z N
      have vo4:=dh (i:=o) (n:=x4) ah
      (have zF:=tw @gz (tw @c0 (tw @c2 (tw @c5 (tw @Q6 (tw @Vu (tw @hr (tw @eQ (tw @Ds (tw @om @vo4)))))))));(repeat(first|((repeat(revert N;apply Pn.out));refine wk zF ?_;(repeat(apply Pn.mk;intro N Z)))|((try apply Or.inl);refine⟨_,ay.x (qG) (sd zF),?_⟩;apply Z;clear Z N)));try clear zF)
      obtain⟨za,zz,As,gX⟩:=h4
      have Qx:=dh (i:=X) (n:=x4) ah
      have P7:(X=o)=False:=eq_false fun h=>by rw[<-h]at j5;omega
      exact⟨sd (tw @gz (tw @c0 (tw @c2 @c5))),sd (tw @gz (tw @c0 (tw @c2 @c5))),sd (tw @gz (tw @c0 (tw @c2 @c5))),sd (tw @gz (tw @c0 (tw @c2 @c5))),⟨za,zz,ah,by simp only[go_sem, ↓reduceIte,Nat.reduceEqDiff,Nat.reduceAdd,Nat.reduceSub,Nat.reduceLeDiff,reduceCtorEq,Qx,Qw,P7]<;>exact gX⟩,aQ,fun u h1 h2=>(by
       have q1:=dh (i:=u) (n:=x4) ah
       have q2:=dh h2
       have q3:(u=o)=False:=eq_false fun h=>by rw[h]at h2;omega
       simp only[go_sem, ↓reduceIte,Nat.reduceEqDiff,Nat.reduceAdd,Nat.reduceSub,Nat.reduceLeDiff,reduceCtorEq,q1,q2,q3]<;>exact GK u h1 h2),l7.put (u:=⟨25027018,x4⟩) (e:=⟨25027015,x4⟩) (l:=[IntKind.i64.wrap (1+w),IntKind.i64.wrap (1+w'),IntKind.i64.wrap (1+(i:Int).tmod 2),IntKind.i64.wrap (1+IntKind.i64.wrap ((i:Int).tdiv 2))]) hL nz uj sg hr hT lV rfl aQ (sl @Nat.zero_add) (sl @Nat.zero_add) ⟨.inr (.inr (.inr (.inl rfl))),aQ,aQ⟩ (by
        have q1:((⟨25027015,x4⟩:Id)=o)=False:=eq_false fun h=>by rw[<-h]at pJ;(try dsimp only at pJ);omega
        simp only[go_sem, ↓reduceIte,Nat.reduceEqDiff,Nat.reduceAdd,Nat.reduceSub,Nat.reduceLeDiff,reduceCtorEq,q1]<;>rfl) ⟨.inr (.inr (.inr (.inl rfl))),aQ,aQ⟩ fun u hs h1 h2=>(by
        have q1:=dh (i:=u) (n:=x4) ah
        have q2:(u=o)=False:=by rcases hs with hs|hs;exact(sZ hs so).1;exact(Cj hs so).1
        have q3:∀s,(u=⟨s,x2+1⟩)=False:=fun s=>eq_false fun e=>by rw[e]at h1;(try dsimp only at h1);omega
        simp only[go_sem, ↓reduceIte,Nat.reduceEqDiff,Nat.reduceAdd,Nat.reduceSub,Nat.reduceLeDiff,reduceCtorEq,q1,q2,q3]<;>exact ZZ u h1 h2)⟩
   ·have YW:i=4:=ah
    subst YW
    obtain⟨gc,nc⟩:=st_c
    (try dsimp only at cS cN cO cC)
    (try((repeat(revert N;apply Pn.out));refine wk (tw @gz (tw @c0 (tw @c2 (tw @c5 @hi)))) ?_;(repeat(apply Pn.mk;intro N Z))))
    refine .inr (aE _ _ _ _ _ (fun r σ3 hq=>?_) (BD bs hb iD X 3 (A2+4*4) ah _ cS))
    obtain⟨b,rfl,h3,hK⟩:=hq
    have dC:=cC.only hK aQ ah SB aQ
    have JX:=hK.1
    have dO:∀i:Id,i≠X->i.bj<x2->σ3.get i=g2 i:=fun i h1 h2=>(hK.2 i h1 aQ).trans (cO i h1 h2)
    obtain⟨g3,x3⟩:=σ3
    (try dsimp only at h3 dC JX dO)
    clear hK cS cC cO
    apply Z
    clear Z N
    (try((repeat(revert N;apply Pn.out));refine wk (tw @gz (tw @c0 (tw @c2 @c5))) ?_;(repeat(apply Pn.mk;intro N Z))))
    refine mH (fun e st=>e 0=.ptr X 0 0/\e 2=env_c 2/\e 5=env_c 5/\e9 st.get X bs (A2+30)/\x2+3<=st.next/\(∀u:Id,u≠X->u.bj<x2->st.get u=g2 u)/\∃T2,0<T2/\T2<=100/\l7 (x2+2) st.get st.next ⟨25003001,x2+1⟩ G T2) ?_ ?_
    ·rintro e st ⟨r0,r2,r5,rS,rN,rO,T2,t0,t1,rC⟩
     obtain⟨gd,nd⟩:=st
     (try dsimp only at rS rN rO rC)
     rw[c2]at r2
     rw[c5]at r5
     obtain⟨og,o,L,rows,sB,hL,nz,uj,⟨sg,P9,Qa⟩,hr,go,hT,so,j5,pJ⟩:=id rC
     have s2:=(rO ⟨25000000,σ.next⟩ (nZZ hX) aQ).trans me
     apply Z
     clear Z N
     (try((repeat(revert N;apply Pn.out));refine wk (tw @r0 (tw @r2 (tw @r5 (tw @sB @s2)))) ?_;(repeat(apply Pn.mk;intro N Z))))
     have hnE:¬jK o.site:=fun h=>by have:=(sZ h so).1;simp at this
     have hGl:gq (x2+2) gd nd (.own og 0 G) G:=.inr ⟨ah,og,L,rfl,hL,nz,uj,P9,Qa⟩
     have WG:gy jK (x2+2) gd nd (.own o 0 T2) T2:=.inr ⟨t0,o,rows,rfl,hr,go,hT,hnE,j5,pJ⟩
     obtain⟨za,zz,As,gX⟩:=rS
     have vXd:=dh (i:=X) (n:=nd) ah
     have jP:∀u:Id,x2+2<=u.bj->u.bj<nd->∀r1 r2,(bL (bL gd ⟨25030002,nd⟩ r1) ⟨25000000,σ.next⟩ r2) u=gd u:=fun u h1 h2 r1 r2=>(by
      have h8:=dh h2
      have h9:∀s,(u=⟨s,σ.next⟩)=False:=fun s=>eq_false fun h=>by rw[h]at h1;(try dsimp only at h1);omega
      simp only[go_sem, ↓reduceIte,Nat.reduceEqDiff,Nat.reduceAdd,Nat.reduceSub,Nat.reduceLeDiff,reduceCtorEq,h8,h9])
     exact fV (.inl rfl) (vs:=[.agg [.own og 0 G,.own o 0 T2,.own ⟨25030002,nd⟩ 0 1,.int .i64 2]]) (sd @r2) ⟨⟨jK,.own og 0 G,.own o 0 T2,G,T2,⟨25030002,nd⟩,⟨⟨0,0⟩,0⟩,2,rfl,(hGl.frame aQ fun u h1 h2=>jP u h1 h2 _ _).since aQ,(WG.frame aQ fun u h1 h2=>jP u h1 h2 _ _).since aQ,ah,ah,ah,ah,sl @Nat.zero_add,aQ,aQ⟩,⟨za,zz,ah,by simp only[go_sem, ↓reduceIte,Nat.reduceEqDiff,Nat.reduceAdd,Nat.reduceSub,Nat.reduceLeDiff,reduceCtorEq,vXd,vX]<;>exact gX⟩,aQ,fun u h1 h2=>(by
      have h7:=dh h2
      have h8:=dh (i:=u) (n:=nd) ah
      simp only[go_sem, ↓reduceIte,Nat.reduceEqDiff,Nat.reduceAdd,Nat.reduceSub,Nat.reduceLeDiff,reduceCtorEq,h7,h8]<;>exact(rO u h1 ah).trans (JB u h1 h2))⟩
    ·intro N Z
     cases b
     ·(try((repeat(revert N;apply Pn.out));refine wk (tw @gz (tw @c0 (tw @c2 @c5))) ?_;(repeat(apply Pn.mk;intro N Z))))
      exact⟨sd (tw @gz (tw @c0 (tw @c2 @c5))),sd (tw @gz (tw @c0 (tw @c2 @c5))),sd (tw @gz (tw @c0 (tw @c2 @c5))),h3.mono ah,aQ,dO,TT+4,ah,ah,dC.later aQ⟩
     ·obtain⟨og,o,L,rows,dB,hL,nz,uj,sg,hr,go,hT,so,j5,pJ⟩:=id dC
      have om:∀s,(o=⟨s,x2+1⟩)=False/\((⟨s,x2+1⟩:Id)=o)=False:=fun s=>⟨eq_false fun e=>by rw[e]at j5;(try dsimp only at j5);omega,eq_false fun e=>by rw[<-e]at j5;(try dsimp only at j5);omega⟩
      have Ds:TT<=16777211:=ah
      (try((repeat(revert N;apply Pn.out));refine wk (tw @gz (tw @c0 (tw @c2 (tw @c5 @dB)))) ?_;(repeat(apply Pn.mk;intro N Z))))
      refine dv ?_ ?_<;>(try((repeat(revert N;apply Pn.out));refine wk (tw @gz (tw @c0 (tw @c2 (tw @c5 @dB)))) ?_;(repeat(apply Pn.mk;intro N Z))))
      all_goals
       refine .inr (aE _ _ _ _ _ (fun r σ4 hq=>?_) (gP bs hb iD X 2 (A2+4*4+2) ah _ h3))
       obtain⟨w,rfl,w0,w1,h4,hK⟩:=hq
       obtain⟨g4,x4⟩:=σ4
       (try dsimp only at h4)
       have PI:=hK.1
       (try dsimp only at PI)
       have Q6:=(hK.2 ⟨25003001,x2+1⟩ SB aQ).trans dB
       have Vu:=(hK.2 o (fun h=>by rw[h]at j5;omega) aQ).trans go
       have ZZ:∀u:Id,x2+2<=u.bj->u.bj<x3->g4 u=g3 u:=fun u h1 h2=>hK.2 u (fun h=>by rw[h]at h1;omega) aQ
       have GK:∀u:Id,u≠X->u.bj<x2->g4 u=g2 u:=fun u h1 h2=>(hK.2 u h1 aQ).trans (dO u h1 h2)
       (try dsimp only at Q6 Vu)
       clear hK
       apply Z
       clear Z N
       (try((repeat(revert N;apply Pn.out));refine wk (tw @gz (tw @c0 (tw @c2 (tw @c5 @Q6)))) ?_;(repeat(apply Pn.mk;intro N Z))))
       (try refine dv ?_ ?_)<;>(try((repeat(revert N;apply Pn.out));refine wk (tw @gz (tw @c0 (tw @c2 (tw @c5 @Q6)))) ?_;(repeat(apply Pn.mk;intro N Z))))
       all_goals
        refine .inr (aE _ _ _ _ _ (fun r σ5 hq=>?_) (gP bs hb iD X 2 (A2+4*4+2+2) ah _ h4))
        obtain⟨w',rfl,w0',w1',h5,hK⟩:=hq
        obtain⟨g5,x5⟩:=σ5
        (try dsimp only at h5)
        have XD:=hK.1
        (try dsimp only at XD)
        have dB5:=(hK.2 ⟨25003001,x2+1⟩ SB aQ).trans Q6
        have go5:=(hK.2 o (fun h=>by rw[h]at j5;omega) aQ).trans Vu
        have gT5:∀u:Id,x2+2<=u.bj->u.bj<x3->g5 u=g3 u:=fun u h1 h2=>(hK.2 u (fun h=>by rw[h]at h1;omega) aQ).trans (ZZ u h1 h2)
        have g5O:∀u:Id,u≠X->u.bj<x2->g5 u=g2 u:=fun u h1 h2=>(hK.2 u h1 aQ).trans (GK u h1 h2)
        (try dsimp only at dB5 go5)
        clear hK
        apply Z
        clear Z N
        have vo5:=dh (i:=o) (n:=x5) ah
        (try((repeat(revert N;apply Pn.out));refine wk (tw @gz (tw @c0 (tw @c2 (tw @c5 (tw @dB5 (tw @go5 (tw @hr (tw @Ds (tw @om @vo5))))))))) ?_;(repeat(apply Pn.mk;intro N Z))))
        obtain⟨za,zz,As,gX⟩:=h5
        have vX5:=dh (i:=X) (n:=x5) ah
        have P7:(X=o)=False:=eq_false fun h=>by rw[<-h]at j5;omega
        exact⟨sd (tw @gz (tw @c0 (tw @c2 @c5))),sd (tw @gz (tw @c0 (tw @c2 @c5))),sd (tw @gz (tw @c0 (tw @c2 @c5))),⟨za,zz,ah,by simp only[go_sem, ↓reduceIte,Nat.reduceEqDiff,Nat.reduceAdd,Nat.reduceSub,Nat.reduceLeDiff,reduceCtorEq,vX5,Qw,P7]<;>exact gX⟩,aQ,fun u h1 h2=>(by
         have q1:=dh (i:=u) (n:=x5) ah
         have q2:=dh h2
         have q3:(u=o)=False:=eq_false fun h=>by rw[h]at h2;omega
         simp only[go_sem, ↓reduceIte,Nat.reduceEqDiff,Nat.reduceAdd,Nat.reduceSub,Nat.reduceLeDiff,reduceCtorEq,q1,q2,q3]<;>exact g5O u h1 h2),TT+4+1,ah,ah,l7.put (u:=⟨25029011,x5⟩) (e:=⟨25029008,x5⟩) (nm:=⟨#[114,52]⟩) (l:=[1,2,IntKind.i64.wrap (1+w),IntKind.i64.wrap (1+w')]) hL nz uj sg hr hT (by decide) rfl aQ (sl @Nat.zero_add) (sl @Nat.zero_add) ⟨.inr (.inr (.inr (.inr rfl))),aQ,aQ⟩ (by
          have q1:((⟨25029008,x5⟩:Id)=o)=False:=eq_false fun h=>by rw[<-h]at pJ;(try dsimp only at pJ);omega
          simp only[go_sem, ↓reduceIte,Nat.reduceEqDiff,Nat.reduceAdd,Nat.reduceSub,Nat.reduceLeDiff,reduceCtorEq,q1]<;>rfl) ⟨.inr (.inr (.inr (.inr rfl))),aQ,aQ⟩ fun u hs h1 h2=>(by
          have q1:=dh (i:=u) (n:=x5) ah
          have q2:(u=o)=False:=by rcases hs with hs|hs;exact(sZ hs so).1;exact(Cj hs so).1
          have q3:∀s,(u=⟨s,x2+1⟩)=False:=fun s=>eq_false fun e=>by rw[e]at h1;(try dsimp only at h1);omega
          simp only[go_sem, ↓reduceIte,Nat.reduceEqDiff,Nat.reduceAdd,Nat.reduceSub,Nat.reduceLeDiff,reduceCtorEq,q1,q2,q3]<;>exact gT5 u h1 h2)⟩
end Go.Proofs.YtiabgllilcfheaaGreat.V

namespace Go.Proofs.YtiabgllilcfheaaGreat
open Go.ChangeShapes Go.WideShapes Go.ChangeAt Go.RowKit Go.Deep
section
variable {H:Type} {enc:TypeId×Value->H} {P:Program} {w:World}
theorem oy.XP {α:Type} {rep:World->List Nat->List Value->α->Prop} {sz:Nat} {w:World} {b o len cap:Nat} (qw:Nat->List Value) (fs:Nat->List Nat) (ds:Nat->α) (hc:len<=cap) (hm:cap<=maxLen)
  (hl:∀i,i<len->(qw i).length=sz) (hr:∀i,i<len->rep w (fs i) (qw i) (ds i)) (tf:∀i,i<len->∀j u,(qw i)[j]? =some u->w.cell? ⟨b,o+(i*sz+j),none⟩=some u):
  oy rep sz w ([b]++((List.range len).map fs).flatten) (.slice (some ⟨b,o,none⟩) len cap) ((List.range len).map ds):=by
 refine⟨(List.range len).map qw,(List.range len).map fs,[b],rfl,⟨some ⟨b,o,none⟩,cap,by simp,by simpa using hc,hm,.inr ⟨b,o,rfl,rfl,fun j u hj=>?_⟩⟩,by simp,by simp,fun i cs f d h1 h2 h3=>?_⟩
 ·have hlen:∀cs∈(List.range len).map qw,cs.length=sz:=fun cs eD=>by
   obtain⟨i,hi,rfl⟩:=List.mem_map.1 eD
   exact hl i (List.mem_range.1 hi)
  have iH:=(List.getElem?_eq_some_iff.1 hj).1
  have Ez:((List.range len).map qw).flatten.length=len*sz:=by
   rw[List.length_flatten,List.map_map]
   have:∀(l:List Nat),(∀i∈l,i<len)->(l.map (List.length∘qw)).sum=l.length*sz:=by
    intro l
    induction l with
    |nil=>intro _;simp
    |cons a l ih=>intro h;rw[List.map_cons,List.sum_cons,ih fun i hi=>h i (List.mem_cons_of_mem _ hi)];simp only[Function.comp,hl a (h a (by simp)),List.length_cons,Nat.add_mul];omega
   rw[this _ fun i hi=>List.mem_range.1 hi,List.length_range]
  rw[Ez]at iH
  have Th:0<sz:=by
   rcases Nat.eq_zero_or_pos sz with h|h
   ·subst h;simp at iH
   ·exact h
  have hi:j / sz<len:=(Nat.div_lt_iff_lt_mul Th).2 iH
  have Ao:j % sz<sz:=Nat.mod_lt _ Th
  have Pq:j=(j / sz)*sz+j % sz:=by rw[Nat.mul_comm];exact(Nat.div_add_mod j sz).symm
  rw[Pq,wS hlen (i:=j / sz) (cs:=qw (j / sz)) (by simp[hi]) Ao]at hj
  rw[Pq]
  have:=tf (j / sz) hi (j % sz) u hj
  rw[<-Pq]at this ⊢
  exact this
 ·have hi:i<len:=by
   have:=(List.getElem?_eq_some_iff.1 h1).1
   simpa using this
  simp[hi]at h1 h2 h3
  subst h1 h2 h3
  exact⟨hr i hi,hl i hi⟩
theorem lJ (b o k:Nat):(⟨b,o,none⟩:Addr).add k=⟨b,o+k,none⟩:=by
 unfold Addr.add;split
 ·rename_i h;subst h;rfl
 ·rfl
theorem KK {α:Type} {rep:World->List Nat->List Value->α->Prop} {Q:α->Prop} {t e:TypeId} {sz fuel:Nat} {cs:List Value} {x:DataW H×List MemPlace} (ht:P.underlying t=some (.slice e)) (hC:P.cellsOf e=sz) (Th:0<sz)
  (h:DataW.trod enc P w 0 (fun _=>true) true fuel t cs=some x) (hel:∀n ub y,ub.length=sz->DataW.trod enc P w 0 (fun _=>true) true n e ub=some y->∃f d,lI f 0 w.heap.size/\rep w f ub d/\Q d):
  ∃A n c f xs,cs=[.slice A n c]/\lI f 0 w.heap.size/\oy rep sz w f (.slice A n c) xs/\∀d∈xs,Q d:=by
 rcases open_slice ht h with⟨rfl,_⟩|⟨a,len,cap,m,n,D,Pl,rfl,_,hl,hm,S7,_,hi⟩
 ·exact⟨none,0,0,[],[],rfl,lI.nil _ _,oy.nil _ _ _,fun d h=>by cases h⟩
 rw[hC]at hi
 simp only[if_true]at S7
 by_cases h0:len=0
 ·subst h0
  exact⟨some a,0,cap,[],[],rfl,lI.nil _ _,⟨[],[],[],rfl,⟨some a,cap,rfl,Nat.zero_le _,hm,.inl ⟨rfl,rfl⟩⟩,rfl,rfl,fun i cs f d hc=>by simp at hc⟩,fun d h=>by cases h⟩
 obtain⟨b,o,sp⟩:=a
 have cell0:∃v,w.cell? ⟨b,o,sp⟩=some v:=by
  obtain⟨ub,hc,_⟩:=hi 0 (by omega)
  obtain⟨_,oK,tf⟩:=World.cells?_some hc
  refine⟨ub[0]'(by omega),?_⟩
  have:=tf 0 Th
  rw[List.getElem?_eq_getElem (by omega)]at this
  simpa[Addr.add]using this
 obtain⟨v0,tj⟩:=cell0
 have hb:b<w.heap.size:=World.block_lt_of_cell? w _ tj
 have Mq:sp=none:=by
  unfold World.cell? at tj
  split at tj
  ·split at tj
   ·cases tj
   ·rename_i h;simpa using h
  ·cases tj
 subst Mq
 have key:∀i,i<len->∃ub f d,ub.length=sz/\lI f 0 w.heap.size/\rep w f ub d/\Q d/\∀j u,ub[j]? =some u->w.cell? ⟨b,o+(i*sz+j),none⟩=some u:=fun i lU=>by
  obtain⟨ub,hc,htr⟩:=hi i (by omega)
  obtain⟨_,oK,tf⟩:=World.cells?_some hc
  obtain⟨f,d,h1,h2,h3⟩:=hel n ub _ oK htr
  refine⟨ub,f,d,oK,h1,h2,h3,fun j u hj=>?_⟩
  have iH:=(List.getElem?_eq_some_iff.1 hj).1
  have:=tf j (by omega)
  rw[hj]at this
  rw[<-this,Go.Deep.add_add,lJ]
 have:Nonempty α:=by
  obtain⟨_,_,d,_⟩:=key 0 (by omega)
  exact⟨d⟩
 let cf:Nat->List Value:=fun i=>if hi:i<len then(key i hi).choose else[]
 let ff:Nat->List Nat:=fun i=>if hi:i<len then(key i hi).choose_spec.choose else[]
 let df:Nat->α:=fun i=>if hi:i<len then(key i hi).choose_spec.choose_spec.choose else Classical.choice this
 have eV:∀i,i<len->(cf i).length=sz/\lI (ff i) 0 w.heap.size/\rep w (ff i) (cf i) (df i)/\Q (df i)/\∀j u,(cf i)[j]? =some u->w.cell? ⟨b,o+(i*sz+j),none⟩=some u:=fun i hi=>by
  have:=(key i hi).choose_spec.choose_spec.choose_spec
  simp only[cf,ff,df,dif_pos hi]
  exact this
 refine⟨some ⟨b,o,none⟩,len,cap,_,(List.range len).map df,rfl,?_,oy.XP cf ff df hl hm (fun i hi=>(eV i hi).1) (fun i hi=>(eV i hi).2.2.1) (fun i hi=>(eV i hi).2.2.2.2),fun d hd=>?_⟩
 ·intro x hx
  rcases List.mem_append.1 hx with hx|hx
  ·simp at hx;subst hx;exact⟨Nat.zero_le _,hb⟩
  ·obtain⟨l,Dt,Zg⟩:=List.mem_flatten.1 hx
   obtain⟨i,hi,rfl⟩:=List.mem_map.1 Dt
   exact(eV i (List.mem_range.1 hi)).2.1 x Zg
 ·obtain⟨i,hi,rfl⟩:=List.mem_map.1 hd
  exact(eV i (List.mem_range.1 hi)).2.2.2.1
end
section
variable {H:Type} {enc:TypeId×Value->H} {w:World} {fuel:Nat} {cs:List Value} {x:DataW H×List MemPlace}
abbrev TT (enc:TypeId×Value->H) (w:World) (fuel t:Nat) (cs:List Value) (x:DataW H×List MemPlace):Prop:=DataW.trod enc Tryz.prog w 0 (fun _=>true) true fuel t cs=some x
end
end Go.Proofs.YtiabgllilcfheaaGreat

namespace Go.Proofs.YtiabgllilcfheaaGreat
open Go.ChangeShapes Go.WideShapes Go.ChangeAt Go.RowKit V
def yn:=Flat (fun b:Int=>[Value.int .u8 b])
theorem Dz {P:Program} {w:World} {D:Nat->Prop} {f:List Nat} {v:Value} {xs:List Int} (h:oy yn 1 w f v xs) (hD:∀b∈f,D b):lH P w D (.sl (xs.map lr)) v:=
 Nu h hD (fun _ _=>rfl) (fun x _ a ha=>by simp[lr]at ha;rcases ha with rfl<;>rfl) fun x _ f' cs hr hf=>by
  obtain⟨_,rfl⟩:=hr
  intro j a ha
  match j,ha with
  |0,ha=>simp[lr]at ha;subst ha;exact⟨_,rfl,.int _ _⟩
  |j+1,ha=>simp[lr]at ha
theorem IP {H:Type} {enc:TypeId×Value->H} {w:World} {fuel:Nat} {cs:List Value} {x:DataW H×List MemPlace} (h:TT enc w fuel 22 cs x):∃A n c f xs,cs=[.slice A n c]/\lI f 0 w.heap.size/\oy yn 1 w f (.slice A n c) xs/\∀b∈xs,0<=b/\b<=255:=
 KK (rep:=yn) (Q:=fun b=>0<=b/\b<=255) Tryz.underlying22 (sz:=1) (by kernel_rfl) (by omega) h fun n ub y hl hy=>by
  obtain⟨b,rfl,_,hw⟩:=DataW.trod_int Tryz.underlying5 hy
  exact⟨[],b,lI.nil _ _,⟨rfl,rfl⟩,by simpa[Lit.wf,IntKind.min,IntKind.max,IntKind.signed,IntKind.bits]using hw⟩
theorem XU:ownKnob Tryz.prog.godebug=none:=by kernel_rfl
theorem MC:laidOutB Tryz.prog=true:=by kernel_rfl
theorem D9:B5 25:=fun bs hb iD X A ha σ h hX=>Fc bs hb iD X A ha σ h hX
theorem Ki (os:Os) (started:os.Started) (H:Type) (enc:TypeId×Value->H):
  ReturnsInHanded {} Tryz.checked os 4 .any (Rows.fnMonotoneSpec.pre6 enc Tryz.prog Tryz.f4 Rows.fnMonotoneRow.domain false) (Rows.fnMonotoneSpec.post enc Tryz.prog Tryz.f4 false true false false):=by
 refine returnsInHanded_of_change (C:=Tryz.checked) XU started (by kernel_rfl) Tryz.func4
  (ChangeSpec.witness6 (enc:=enc) (C:=Tryz.checked) false ⟨#[], #[.slice none 0 0,.slice none 0 0],[]⟩ 8 (by kernel_rfl) (by kernel_rfl) (by kernel_rfl) (by kernel_rfl)) ?_
 intro W base args ds gs before Rt hW hcnd _
 have wg:∀(j:Nat) t v,Tryz.f4.params[j]? =some t->args[j]? =some v->Value.okWide Tryz.prog W .any base t v:=Rt
 have hW':=hW
 obtain⟨p,q,hA0,hV,rfl,K3,pU⟩:=hW
 have hA:DataW.TrodAll enc Tryz.prog W 0 (fun _=>true) true Tryz.f4.params.toList args.toList ds p:=hA0
 rw[Tryz.params4]at hA wg
 obtain⟨v0,vs0,d0,ds0,p0,q0,pH,rfl,rfl,h0,r0⟩:=trodAll_cons hA
 obtain⟨v1,vs1,d1,ds1,p1,q1,rfl,rfl,rfl,h1,r1⟩:=trodAll_cons r0
 obtain⟨rfl,rfl,rfl⟩:=trodAll_nil r1
 obtain rfl:args= #[v0,v1]:=by cases args;simp_all
 obtain⟨rfl,rfl⟩:=trodVars_none hV
 obtain⟨A0,n0,c0,rfl⟩:=okWide_slice Tryz.underlying22 (wg 0 22 v0 rfl rfl)
 obtain⟨A1,n1,c1,rfl⟩:=okWide_slice Tryz.underlying22 (wg 1 22 v1 rfl rfl)
 have k0:=h0
 have k1:=h1
 have lt0:∀x∈p0,x.block<W.heap.size:=by obtain⟨m,hm⟩:=k0;exact DataW.trod_lt m _ _ _ hm
 have VT:∀x∈p1,x.block<W.heap.size:=by obtain⟨m,hm⟩:=k1;exact DataW.trod_lt m _ _ _ hm
 obtain⟨f0,xs,w0,s0,b0⟩:∃f,∃d:List Int,lI f 0 W.heap.size/\oy yn 1 W f (.slice A0 n0 c0) d/\∀b∈d,0<=b/\b<=255:=by
  obtain⟨fuel,hf⟩:=h0
  obtain⟨A,n,c,f,xs,e,w,z,hb⟩:=IP hf
  simp[Value.cells]at e
  obtain⟨rfl,rfl,rfl⟩:=e
  exact⟨f,xs,w,z,hb⟩
 obtain⟨f1,ys,w1,s1,b1⟩:∃f,∃d:List Int,lI f 0 W.heap.size/\oy yn 1 W f (.slice A1 n1 c1) d/\∀b∈d,0<=b/\b<=255:=by
  obtain⟨fuel,hf⟩:=h1
  obtain⟨A,n,c,f,xs,e,w,z,hb⟩:=IP hf
  simp[Value.cells]at e
  obtain⟨rfl,rfl,rfl⟩:=e
  exact⟨f,xs,w,z,hb⟩
 clear hA0 Rt
 have iF:fK Tryz.prog W (fun b=>b<W.heap.size) (fun _=>none) [.sl (xs.map lr),.sl (ys.map lr)] #[.slice A0 n0 c0,.slice A1 n1 c1]:=by
  have h:=nY (Dz s0 (fun b hb=>(w0 b hb).2)) (nY (Dz s1 (fun b hb=>(w1 b hb).2)) (⟨rfl,fun j b hj=>by cases j<;>cases hj⟩:fK Tryz.prog W (fun b=>b<W.heap.size) (fun _=>none) [] #[]))
  simpa using h
 have WQ:=Ty mixed (MD D9 xs ys b0 b1) iF
 clear s0 s1 w0 w1 iF
 refine(WQ.mono fun e W' ⟨he,bel⟩=>?_)
 subst he
 exact⟨_,rfl,_,_,_,[],_,[],hW',trodAll_mk1 (shut_bool Tryz.underlying4 _),(trodAll_cons_mk (Below.trod MC (by kernel_rfl) (of_decide_eq_true (by kernel_rfl)) k0 bel lt0) (trodAll_cons_mk (Below.trod MC (by kernel_rfl) (of_decide_eq_true (by kernel_rfl)) k1 bel VT) trodAll_mk0)),rfl,bel.frame _,fun h=>by cases h⟩
end Go.Proofs.YtiabgllilcfheaaGreat

namespace Go.Proofs.YtiabgllilcfheaaGreat
open Go.ChangeShapes Go.WideShapes Go.ChangeAt Go.RowKit
theorem moN:Tryz.pinned.checked.prog.funcNamed Rows.fnMonotoneRow.func=some 4:=by kernel_rfl
theorem moJ:joinedFacts Tryz.pinned.checked.prog 4 Tryz.f4 Rows.fnMonotoneSpec Rows.fnMonotoneRow=true:=by
 unfold joinedFacts
 repeat(with_reducible refine Bool.and_eq_true_iff.2 ⟨?_,by as_aux_lemma=>kernel_rfl⟩)
 as_aux_lemma=>kernel_rfl
theorem moI:Tryz.f4.isInstance Tryz.pinned.checked.prog Rows.fnMonotoneRow.origin Rows.fnMonotoneRow.targs:=of_decide_eq_true (by kernel_rfl)
theorem moW:Tryz.f4.isWrapper Tryz.pinned.checked.prog Rows.fnMonotoneRow.wrapper Rows.fnMonotoneRow.mainSum:=by
 unfold Func.isWrapper;first|(rw[if_pos (by decide+kernel)];kernel_rfl)|(rw[if_neg (by decide+kernel)];exact⟨rfl,rfl⟩)
theorem P5:Rows.fnMonotoneRow.holds Tryz.pinned (OpenSpec.ofChange Rows.fnMonotoneSpec):=
 OpenClaim.holds_of_wide 4 Tryz.f4 rfl rfl rfl rfl rfl rfl rfl ⟨rfl,rfl,rfl,rfl,rfl⟩ rfl rfl rfl rfl rfl moN Tryz.func4 moJ moI moW
  (fun os started H enc _=>Ki os started H enc)
theorem uf:Rows.FnMonotoneSaid:=P5
#print axioms uf
end Go.Proofs.YtiabgllilcfheaaGreat
