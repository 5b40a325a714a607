/- A system of a corner with drawn tiles in it, by the reference. -/
import Derived.Test.YtiabgllilcfheaaGreatCmF
import Derived.Test.YtiabgllilcfheaaGreatCmD
import Derived.Test.YtiabgllilcfheaaGreatCmB
import Derived.Test.YtiabgllilcfheaaGreatCmC
import Derived.Test.YtiabgllilcfheaaGreatChecked
import Derived.ProofKit
import Derived.Deep.Slices
import Derived.ChangeSame
import Derived.Test.YtiabgllilcfheaaGreatRows
import Derived.Test.YtiabgllilcfheaaGreatCmE
import Derived.OpenShut
import Derived.ShutString
import Derived.ChangeOld
import Derived.Below
set_option linter.unusedVariables false
set_option linter.unusedSimpArgs false
set_option maxRecDepth 100000
set_option maxHeartbeats 16000000
namespace Go.Proofs.YtiabgllilcfheaaGreat.V
open Go.RowKit
attribute [local irreducible] er wpOps fY Call
attribute [local go_sem] aF fC eR fN fK du upd cw K.av cQ AV.cells AV.cell rowOf rowsOf part ld rowAt bK cq dH dX gG bP dd eh fJ fa dw ea db da dM dP bV bd cU bU cW cV dV eb dZ cR bY dc dY bQ aD cY cF gF bD cL bW aY dn bj dI AV.undef bH bJ dQ dW dL dK cK ef eo cz ee ec cX cZ List.getD_cons_zero List.getD_cons_succ List.getD_nil List.all_cons List.all_nil Bool.and_true Bool.true_and Bool.and_self Bool.not_true Bool.not_false Option.map_some Option.map_none Option.bind_some Option.bind_none List.length_cons List.length_nil List.take_succ_cons List.take_zero List.take_nil List.drop_succ_cons List.drop_zero List.drop_nil List.head?_cons List.map_cons List.map_nil List.getElem?_cons_zero List.getElem?_cons_succ List.cons_append List.nil_append List.append_nil List.length_map List.set_cons_zero List.set_cons_succ Nat.reduceMul eq_self Int.toNat_natCast Int.natCast_nonneg and_self true_and and_true decide_true decide_false Bool.false_eq_true Nat.zero_add Nat.add_zero List.contains_cons List.contains_nil Bool.or_false Bool.false_or beq_self_eq_true Nat.reduceBEq ne_eq not_true_eq_false not_false_eq_true Id.mk.injEq false_and and_false Nat.reduceLT Int.reduceLE Int.reduceLT Int.reduceToNat Int.reduceNeg Int.reduceAdd Nat.le_refl List.length_append beq_true beq_false Bool.not_eq_eq_eq_not or_false false_or eu ai aj aP bh bZ cm aW bx aK bf cP bI
def CZ (s:Nat):Prop:=ir s∨s=24013020
def Fj (s:Nat):Prop:=s=24004000∨s=24009008∨s=24013023
theorem QI {a b:Id} (h:CZ a.site) (k:Fj b.site):(a=b)=False/\(b=a)=False:=by
 have:a≠b:=fun e=>by rw[e]at h;unfold CZ ir at h;unfold Fj at k;omega
 exact⟨eq_false this,eq_false fun e=>this e.symm⟩
theorem Va (a b c d:Int) {g:Rows} {e:Id} (h:g e=some ⟨true,1,[[.int .i64 a],[.int .i64 b],[.int .i64 c],[.int .i64 d]]⟩):∃l:List Int,l.length=4/\g e=some ⟨true,1,l.map aJ⟩:=⟨[a,b,c,d],rfl,h⟩
theorem LV (bs:List Int) (hb:∀b∈bs,0<=b/\b<=255) (iK:bs.length<=4096) (X:Id) (A:Nat) (ha:A<=900000) (σ:ax) (h:fM σ.get X bs A) (hX:X.bt<σ.next):
  Call Tryz.prog 24 [.ptr X 0 0] σ (x8 X bs A σ):=by
 refine ij fF rfl fun jc=>?_
 clear jc
 have vX:=dj hX
 (try((repeat(revert hN;revert N;apply Pn.out));refine wk @Nat.zero_add ?_;(repeat(refine Pn.mk ?_;intro N hN))))
 refine .inr (aA _ _ _ _ _ (fun r σ1 hq=>?_) (wO bs hb iK X A ae _ (by
  obtain⟨a,z,q1,q2⟩:=h
  exact⟨a,z,q1,by simp only[go_sem, ↓reduceIte,Nat.reduceEqDiff,Nat.reduceAdd,Nat.reduceSub,Nat.reduceLeDiff,reduceCtorEq,vX]<;>exact q2⟩) aU))
 obtain⟨og,ot,XL,G,T2,p,rfl,hG,hT,⟨k0,k1,k2,k3⟩,gsd,⟨sv0,sv1⟩,h1,hK⟩:=hq
 obtain⟨g1,x1⟩:=σ1
 (try dsimp only at hG hT gsd sv0 sv1 h1)
 have Ko:=hK.1
 (try dsimp only at Ko)
 have lP:=hK.2 ⟨24000000,σ.next⟩ (fun e=>by rw[<-e]at hX;(try dsimp only at hX);omega) aU
 have F5:∀i:Id,i≠X->i.bt<σ.next->g1 i=σ.get i:=fun i hi hv=>(hK.2 i hi aU).trans (by have hv:=dj hv;simp only[go_sem, ↓reduceIte,Nat.reduceEqDiff,Nat.reduceAdd,Nat.reduceSub,Nat.reduceLeDiff,reduceCtorEq,hv])
 simp only[go_sem, ↓reduceIte,Nat.reduceEqDiff,Nat.reduceAdd,Nat.reduceSub,Nat.reduceLeDiff,reduceCtorEq]at lP
 clear hK h
 rcases hG with⟨h0,_⟩|⟨_,og',L,e1,hL,mD,zJ,gv0,gv1⟩
 ·omega
 cases e1
 rcases hT with⟨h0,_⟩|⟨_,ot',rows,e2,hr,gt,hR,hE,tv0,tv1⟩
 ·omega
 cases e2
 refine hN _ _ ?_
 clear hN N
 (try((repeat(revert hN;revert N;apply Pn.out));refine wk @Nat.zero_add ?_;(repeat(refine Pn.mk ?_;intro N hN))))
 have Wy:=dj (i:=X) (n:=x1) ae
 have voT:=dj tv1
 have voG:=dj gv1
 refine .inr (aA _ _ _ _ _ (fun r σ2 hq=>?_) (jq bs hb iK X 16 (A+100) ae _ (by
  obtain⟨za,zz,xM,gX⟩:=h1
  exact⟨za,zz,xM,by simp only[go_sem, ↓reduceIte,Nat.reduceEqDiff,Nat.reduceAdd,Nat.reduceSub,Nat.reduceLeDiff,reduceCtorEq,Wy,vX]<;>exact gX⟩)))
 obtain⟨f0,rfl,f1,f2,h2,hK⟩:=hq
 obtain⟨g2,x2⟩:=σ2
 (try dsimp only at h2)
 have wL:=hK.1
 (try dsimp only at wL)
 have c2:=hK.2 ⟨24000000,σ.next⟩ (fun e=>by rw[<-e]at hX;(try dsimp only at hX);omega) aU
 have c3:=hK.2 ⟨24001002,x1⟩ (fun e=>by rw[<-e]at hX;(try dsimp only at hX);omega) aU
 have cO:∀u:Id,u≠X->u.bt<x1->g2 u=g1 u:=fun u h1 h2=>(hK.2 u h1 aU).trans (by have h8:=dj h2;simp only[go_sem, ↓reduceIte,Nat.reduceEqDiff,Nat.reduceAdd,Nat.reduceSub,Nat.reduceLeDiff,reduceCtorEq,h8])
 simp only[go_sem, ↓reduceIte,Nat.reduceEqDiff,Nat.reduceAdd,Nat.reduceSub,Nat.reduceLeDiff,reduceCtorEq,lP]at c2 c3
 clear hK
 refine hN _ _ ?_
 clear hN N
 (try((repeat(revert hN;revert N;apply Pn.out));refine wk @Nat.zero_add ?_;(repeat(refine Pn.mk ?_;intro N hN))))
 refine .inr (aA _ _ _ _ _ (fun r σ3 hq=>?_) (jq bs hb iK X 16 (A+102) ae _ h2))
 obtain⟨e0,rfl,e1,e2,h3,hK⟩:=hq
 obtain⟨g3,x3⟩:=σ3
 (try dsimp only at h3)
 have Gk:=hK.1
 (try dsimp only at Gk)
 have d2:=(hK.2 ⟨24000000,σ.next⟩ (fun e=>by rw[<-e]at hX;(try dsimp only at hX);omega) aU).trans c2
 have d3:=(hK.2 ⟨24001002,x1⟩ (fun e=>by rw[<-e]at hX;(try dsimp only at hX);omega) aU).trans c3
 have dO:∀u:Id,u≠X->u.bt<x1->g3 u=g1 u:=fun u h1 h2=>(hK.2 u h1 aU).trans (cO u h1 h2)
 (try dsimp only at d2 d3)
 clear hK c2 c3 cO
 refine hN _ _ ?_
 clear hN N
 (try((repeat(revert hN;revert N;apply Pn.out));refine wk @Nat.zero_add ?_;(repeat(refine Pn.mk ?_;intro N hN))))
 have nXT:X≠ot:=fun h=>by rw[<-h]at tv0;(try dsimp only at tv0);omega
 have dT:=(dO ot (fun h=>nXT h.symm) tv1).trans gt
 have dR:gI ir (σ.next+1+1) g3 x1 rows:=hR.frame (Nat.le_refl _) fun u _ h1 h2=>dO u (fun h=>by rw[h]at h1;(try dsimp only at h1);omega) h2
 refine bz (fun n env st=>∃i:Nat,n=(T2)-i/\i<=(T2)/\env 7=.int .i64 (i:Int)/\((x3+3<=st.next/\(∀u:Id,u.bt<x3+1->st.get u=g3 u)/\∃(o:Id) (rs:List (List AV)) (c:Nat),env 6=.own o 0 c/\rs.length=c/\st.get o=some ⟨true,2,rs⟩/\(Fj o.site/\x3+1<=o.bt/\o.bt<st.next)/\c<=i/\∀r∈rs,r∈rows))) (T2) ⟨0,ae,ae,sl @Nat.zero_add,by(try dsimp only);exact⟨ae,fun u h1=>(by have h8:=dj h1;simp only[go_sem, ↓reduceIte,Nat.reduceEqDiff,Nat.reduceAdd,Nat.reduceSub,Nat.reduceLeDiff,reduceCtorEq,h8]),⟨24004000,x3+1⟩,[],0,sd @Nat.zero_add,rfl,sl @Nat.zero_add,⟨.inl rfl,aU,aU⟩,ae,fun r h=>by cases h⟩⟩ ?_
 rintro n_a env_a st_a ⟨i,rfl,ale,a7,oh⟩ eJ
 have a0:=eJ 0 (by kernel_rfl);have a2:=eJ 2 (by kernel_rfl);have a3:=eJ 3 (by kernel_rfl);have a4:=eJ 4 (by kernel_rfl);have a5:=eJ 5 (by kernel_rfl)
 simp only[go_sem, ↓reduceIte,Nat.reduceEqDiff,Nat.reduceAdd,Nat.reduceSub,Nat.reduceLeDiff,reduceCtorEq]at a0 a2 a3 a4 a5
 clear eJ
 obtain⟨aN,aO,o,rs,c,aE,aL,aG,⟨aS,Yh,av1⟩,aC,aM⟩:=oh
 have Yc:=(aO ⟨24001002,x1⟩ aU).trans d3
 have Yd:=(aO ot ae).trans dT
 by_cases hi:(i:Int)<(T2:Int)
 ·have dx:∀{e:Env} {gg:Rows} {nx:Nat},(e 7=.int .i64 (IntKind.i64.wrap ((i:Int)+1)))->((x3+3<=nx/\(∀u:Id,u.bt<x3+1->gg u=g3 u)/\∃(o:Id) (rs:List (List AV)) (c:Nat),e 6=.own o 0 c/\rs.length=c/\gg o=some ⟨true,2,rs⟩/\(Fj o.site/\x3+1<=o.bt/\o.bt<nx)/\c<=(i+1)/\∀r∈rs,r∈rows))->∃m0,m0<(T2)-i/\∃i:Nat,m0=(T2)-i/\i<=(T2)/\e 7=.int .i64 (i:Int)/\((x3+3<=nx/\(∀u:Id,u.bt<x3+1->gg u=g3 u)/\∃(o:Id) (rs:List (List AV)) (c:Nat),e 6=.own o 0 c/\rs.length=c/\gg o=some ⟨true,2,rs⟩/\(Fj o.site/\x3+1<=o.bt/\o.bt<nx)/\c<=i/\∀r∈rs,r∈rows)):=fun x1 x2=>⟨_,ae,i+1,rfl,ae,(by rw[x1,az ae]),x2⟩
  obtain⟨nm,e,fI,l6,hEe⟩:=hR.name (k:=i) ae
  have sZ:[.str nm,.own e 0 4]∈rows:=List.mem_of_getElem? fI
  obtain⟨b0,Ki⟩:∃b0,nm[0]? =some b0:=⟨nm[0]'ae,by simp[getElem?_pos,show 0<nm.size by omega]⟩
  have vo:=dj av1
  have hc:c<=16777215:=ae
  obtain⟨bq,XA⟩:∃bq,(!decide ((b0.toNat:Int)=114))=bq:=⟨_,rfl⟩
  cases bq
  ·(try((repeat(revert hN;revert N;apply Pn.out));refine wk (tw @a7 (tw @a0 (tw @a2 (tw @a3 (tw @a4 (tw @a5 (tw @hi (tw @Yc (tw @Yd (tw @fI (tw @Ki @XA))))))))))) ?_;(repeat(refine Pn.mk ?_;intro N hN))))
   exact dx (sd (tw @a7 (tw @a0 (tw @a2 (tw @a3 (tw @a4 (tw @a5 @XA))))))) (by(try dsimp only);exact⟨ae,aO,o,rs,c,sd @aE,aL,aG,⟨aS,Yh,ae⟩,ae,aM⟩)
  ·(try((repeat(revert hN;revert N;apply Pn.out));refine wk (tw @a7 (tw @a0 (tw @a2 (tw @a3 (tw @a4 (tw @a5 (tw @hi (tw @Yc (tw @Yd (tw @fI (tw @Ki (tw @XA (tw @aE (tw @aG (tw @aL (tw @vo @hc)))))))))))))))) ?_;(repeat(refine Pn.mk ?_;intro N hN))))
   exact dx (sd (tw @a7 (tw @a0 (tw @a2 (tw @a3 (tw @a4 (tw @a5 @XA))))))) (by(try dsimp only);exact⟨ae,fun u h1=>(by
    have h8:=dj (i:=u) (n:=st_a.next) ae
    have h9:(u=o)=False:=eq_false fun h=>by rw[h]at h1;omega
    simp only[go_sem, ↓reduceIte,Nat.reduceEqDiff,Nat.reduceAdd,Nat.reduceSub,Nat.reduceLeDiff,reduceCtorEq,h8,h9]<;>exact aO u h1),⟨24009008,st_a.next+1+1⟩,rs++[[.str nm,.own e 0 4]],c+1,sd @Nat.zero_add,by simp[aL],sl @vo,⟨.inr (.inl rfl),aU,aU⟩,ae,fun r h=>(by
    rcases List.mem_append.1 h with h|h
    ·exact aM r h
    ·rw[List.mem_singleton.1 h];exact sZ)⟩)
 ·have C8:i=T2:=ae
  subst C8
  have hTX:gI CZ (σ.next+1+1) st_a.get st_a.next rs:=fun r hr=>(by
   obtain⟨nm,e,q1,q2,q3,q4,q5,l,q6,q7⟩:=dR r (aM r hr)
   exact⟨nm,e,q1,q2,.inl q3,q4,ae,l,q6,(aO e ae).trans q7⟩)
  (try((repeat(revert hN;revert N;apply Pn.out));refine wk (tw @a7 (tw @a0 (tw @a2 (tw @a3 (tw @a4 (tw @a5 (tw @hi (tw @Yc @Yd)))))))) ?_;(repeat(refine Pn.mk ?_;intro N hN))))
  clear aM
  refine bz (fun n env st=>∃k:Nat,n=(4)-k/\k<=(4)/\env 8=.int .i64 (k:Int)/\((x3+3<=st.next/\(∀u:Id,u.bt<x3+1->st.get u=g3 u)/\∃(o:Id) (rs:List (List AV)) (c:Nat),env 6=.own o 0 c/\rs.length=c/\st.get o=some ⟨true,2,rs⟩/\(Fj o.site/\x3+1<=o.bt/\o.bt<st.next)/\(k<=c/\c<=100+k)/\gI CZ (σ.next+1+1) st.get st.next rs))) (4) ⟨0,ae,ae,sl (tw @a7 (tw @a0 (tw @a2 (tw @a3 (tw @a4 @a5))))),by(try dsimp only);exact⟨ae,aO,o,rs,c,sd @aE,aL,aG,⟨aS,Yh,ae⟩,⟨ae,ae⟩,hTX.frame ae fun _ _ _ _=>rfl⟩⟩ ?_
  rintro n_b env_b st_b ⟨k,rfl,ble,b8,bI0⟩ eW
  have b0:=eW 0 (by kernel_rfl);have b2:=eW 2 (by kernel_rfl);have b3:=eW 3 (by kernel_rfl);have b4:=eW 4 (by kernel_rfl);have b5:=eW 5 (by kernel_rfl)
  simp only[go_sem, ↓reduceIte,Nat.reduceEqDiff,Nat.reduceAdd,Nat.reduceSub,Nat.reduceLeDiff,reduceCtorEq,a7,a0,a2,a3,a4,a5]at b0 b2 b3 b4 b5
  clear eW
  clear hTX aN aO aE aL aG aS Yh av1 aC o rs c
  obtain⟨bN,bO,o,rs,c,bE,bL,bG,⟨bS,bv0,bv1⟩,⟨bC0,bC1⟩,bT⟩:=bI0
  have vo:=dj bv1
  by_cases hk:(k:Int)<4
  ·have fh:∀{e:Env} {gg:Rows} {nx:Nat},(e 8=.int .i64 (IntKind.i64.wrap ((k:Int)+1)))->((x3+3<=nx/\(∀u:Id,u.bt<x3+1->gg u=g3 u)/\∃(o:Id) (rs:List (List AV)) (c:Nat),e 6=.own o 0 c/\rs.length=c/\gg o=some ⟨true,2,rs⟩/\(Fj o.site/\x3+1<=o.bt/\o.bt<nx)/\((k+1)<=c/\c<=100+(k+1))/\gI CZ (σ.next+1+1) gg nx rs))->∃m0,m0<(4)-k/\∃k:Nat,m0=(4)-k/\k<=(4)/\e 8=.int .i64 (k:Int)/\((x3+3<=nx/\(∀u:Id,u.bt<x3+1->gg u=g3 u)/\∃(o:Id) (rs:List (List AV)) (c:Nat),e 6=.own o 0 c/\rs.length=c/\gg o=some ⟨true,2,rs⟩/\(Fj o.site/\x3+1<=o.bt/\o.bt<nx)/\(k<=c/\c<=100+k)/\gI CZ (σ.next+1+1) gg nx rs)):=fun x1 x2=>⟨_,ae,k+1,rfl,ae,(by rw[x1,az ae]),x2⟩
   have sY:=nN (k:Int) ae ae
   have F7:=kc (k:Int) ae
   have hc:c<=16777215:=ae
   generalize jv (k:Int)=dt at sY F7
   have e9:(#[114]:Array UInt8).size+dt.size<=9223372036854775807:=by
    have:(#[114]:Array UInt8).size=1:=rfl
    omega
   have l6:((⟨#[114]⟩:ByteArray)++dt).size<=64:=by
    rw[im]
    have:(⟨#[114]⟩:ByteArray).size=1:=rfl
    omega
   have xk:((k:Int)<0)=False:=eq_false ae
   (repeat(first|((repeat(revert hN;revert N;apply Pn.out));refine wk (tw @b8 (tw @b0 (tw @b2 (tw @b3 (tw @b4 (tw @b5 (tw @hk (tw @xk (tw @bE (tw @bG (tw @bL (tw @vo (tw @hc @e9))))))))))))) ?_;(repeat(refine Pn.mk ?_;intro N hN)))|((try apply Or.inl);refine⟨_,au.x (sY) (sd (tw @b8 (tw @b0 (tw @b2 (tw @b3 (tw @b4 (tw @b5 (tw @hk (tw @xk (tw @bE (tw @bG (tw @bL (tw @vo (tw @hc @e9)))))))))))))),?_⟩;refine hN _ _ ?_;clear hN N)))
   exact fh (sd (tw @b8 (tw @b0 (tw @b2 (tw @b3 (tw @b4 @b5)))))) (by(try dsimp only);exact⟨ae,fun u h1=>(by
    have h8:=dj (i:=u) (n:=st_b.next) ae
    have h9:(u=o)=False:=eq_false fun h=>by rw[h]at h1;omega
    simp only[go_sem, ↓reduceIte,Nat.reduceEqDiff,Nat.reduceAdd,Nat.reduceSub,Nat.reduceLeDiff,reduceCtorEq,h8,h9]<;>exact bO u h1),⟨24013023,st_b.next+1⟩,rs++[[.str ((⟨#[114]⟩:ByteArray)++dt),.own ⟨24013020,st_b.next+1⟩ 0 4]],c+1,sd @Nat.zero_add,by simp[bL],sl @vo,⟨.inr (.inr rfl),aU,aU⟩,⟨ae,ae⟩,(bT.frame (n':=st_b.next+1+1+1) ae fun u h1 h2 h3=>(by
    have h8:=dj h3
    have h7:=(QI h1 bS).1
    simp only[go_sem, ↓reduceIte,Nat.reduceEqDiff,Nat.reduceAdd,Nat.reduceSub,Nat.reduceLeDiff,reduceCtorEq,h8,h7])).snoc (e:=⟨24013020,st_b.next+1⟩) ⟨l6,vM _ _⟩ ⟨.inr rfl,aU,aU,Va _ _ _ _ (sl @vo)⟩⟩)
  ·have bB2:=(bO ⟨24000000,σ.next⟩ aU).trans d2
   have bB3:=(bO ⟨24001002,x1⟩ aU).trans d3
   have bk:k=4:=ae
   (try((repeat(revert hN;revert N;apply Pn.out));refine wk (tw @b8 (tw @b0 (tw @b2 (tw @b3 (tw @b4 (tw @b5 (tw @hk (tw @bE (tw @bB2 @bB3))))))))) ?_;(repeat(refine Pn.mk ?_;intro N hN))))
   obtain⟨gb,nb⟩:=st_b
   (try dsimp only at bN bO bG bv0 bv1 bT)
   have gO1:∀u:Id,u≠X->u.bt<x1->gb u=g1 u:=fun u h1 h2=>(bO u ae).trans (dO u h1 h2)
   have nX1:∀s,(X=⟨s,x1⟩)=False:=fun s=>eq_false fun h=>by rw[h]at hX;(try dsimp only at hX);omega
   obtain⟨za,zz,xM,gX⟩:=h3
   have YD:gZ (σ.next+1+1) gb x1 (.own og 0 G) G:=.inr ⟨ae,og,L,rfl,hL,(gO1 og (fun h=>by rw[h]at gv0;omega) gv1).trans mD,zJ,gv0,gv1⟩
   have jn:∀u:Id,σ.next+1+1<=u.bt->(u.bt≠x1∨u.site≠24001002)->∀r1 r2,(bK (bK gb ⟨24001002,x1⟩ r1) ⟨24000000,σ.next⟩ r2) u=gb u:=fun u h1 h2 r1 r2=>(by
    have h8:(u=⟨24001002,x1⟩)=False:=eq_false fun h=>by rw[h]at h2;rcases h2 with h2|h2<;>exact h2 rfl
    have h9:∀s,(u=⟨s,σ.next⟩)=False:=fun s=>eq_false fun h=>by rw[h]at h1;(try dsimp only at h1);omega
    simp only[go_sem, ↓reduceIte,Nat.reduceEqDiff,Nat.reduceAdd,Nat.reduceSub,Nat.reduceLeDiff,reduceCtorEq,h8,h9])
   have Lg:∀r1 r2 n',nb<=n'->hZ CZ (σ.next+1+1) (bK (bK gb ⟨24001002,x1⟩ r1) ⟨24000000,σ.next⟩ r2) n' (.own o 0 c) c:=fun r1 r2 n' hn=>.inr ⟨ae,o,rs,rfl,bL,(jn o ae (.inl ae) _ _).trans bG,bT.frame hn fun u h1 h2 h3=>jn u h2 (.inr (fun h=>by rw[h]at h1;revert h1;simp[CZ,ir])) _ _,fun h=>by have:=(QI h bS).1;simp at this,ae,ae⟩
   exact gN (.inl rfl) (vs:=[.agg [.own og 0 G,.own o 0 c,.own XL 0 1,.int .i64 2]]) (sd (tw @b8 (tw @b0 (tw @b2 (tw @b3 (tw @b4 @b5)))))) ⟨⟨CZ,.own og 0 G,.own o 0 c,G,c,XL,p,2,rfl,(YD.frame aU fun u h1 h2=>jn u h1 (.inl ae) _ _).since aU,(Lg _ _ _ aU).since aU,ae,ae,ae,ae,(jn XL sv0 (.inl ae) _ _).trans ((gO1 XL (fun h=>by rw[h]at sv0;omega) sv1).trans gsd),aU,aU⟩,⟨za,zz,ae,by simp only[go_sem, ↓reduceIte,Nat.reduceEqDiff,Nat.reduceAdd,Nat.reduceSub,Nat.reduceLeDiff,reduceCtorEq,nX1,vX]<;>exact(bO X ae).trans gX⟩,aU,fun u h1 h2=>(by
    have h7:=dj h2
    have h8:=dj (i:=u) (n:=x1) ae
    simp only[go_sem, ↓reduceIte,Nat.reduceEqDiff,Nat.reduceAdd,Nat.reduceSub,Nat.reduceLeDiff,reduceCtorEq,h7,h8]<;>exact(bO u ae).trans ((dO u h1 ae).trans (F5 u h1 h2)))⟩
def p2 (d:Nat):Int:=2 ^ d
noncomputable def Si (s:aw) (l:List aa) (x:aa):Nat->Int
 |0=>0
 |d+1=>if 0<=fe l (dq x.aV d)/\0<iI s.aZ x.bp d (fe l (dq x.aV d))then Si s l x d+p2 d else Si s l x d
noncomputable def ZS (s:aw) (es:List aa) (i:Nat):List Int:=(List.range i).map fun j=>Si s (gL s es j) (aQ es j) 4
noncomputable def ZX (s:aw) (es:List aa) (i:Nat):List Int:=(List.range i).map fun j=>nL s.aZ (fe (gL s es j)) (aQ es j).aV (aQ es j).bp
def PyL (s:aw) (es:List aa) (i:Nat) (X:Id) (e7 e8:AV) (g:Rows) (n:Nat):Prop:=∃o u v:Id,g X=some ⟨true,1,[[.own o 0 (gL s es i).length]]⟩/\g o=some ⟨true,3,(gL s es i).map ab⟩/\e7=.own u 0 i/\g u=some ⟨true,1,(ZS s es i).map aJ⟩/\e8=.own v 0 i/\g v=some ⟨true,1,(ZX s es i).map aJ⟩/\X.bt<n/\o.bt<n/\u.bt<n/\v.bt<n/\o≠X/\u≠X/\v≠X/\o≠u/\o≠v/\u≠v
section
variable {P:Program} {α:Type} {e:α->List AV} {z:Nat} {g g':Rows} {v:AV} {L:List α} {ids:List Id}
def OutT (e:α->List AV) (z:Nat) (g:Rows) (v:AV) (L:List α) (ids:List Id):Prop:=(L=[]/\v=.ck/\ids=[])∨∃(o:Id) (J:List α),v=.own o 0 L.length/\g o=some ⟨true,z,(L++J).map e⟩/\ids=[o]/\0<L.length
end
theorem Rh {g:Rows} {u u':AV} (h0:V.fz g 6 u=some u'):eC g 6 [u]=some [u']:=by simp only[ai,aj,h0,Option.map_some]
theorem Yp {g:Rows} {u v u' v':AV} (h0:V.fz g 6 u=some u') (h1:V.fz g 6 v=some v'):eC g 6 [u,v]=some [u',v']:=by simp only[ai,aj,h0,h1,Option.map_some]
theorem Yq {g:Rows} {u v w x u' v' w' x':AV} (h0:V.fz g 6 u=some u') (h1:V.fz g 6 v=some v') (h2:V.fz g 6 w=some w') (h3:V.fz g 6 x=some x'):eC g 6 [u,v,w,x]=some [u',v',w',x']:=by simp only[ai,aj,h0,h1,h2,h3,Option.map_some]
theorem H9 {fV:List Int} {k:Nat} (h:k<fV.length):(fV.map aJ)[k]? =some [.int .i64 (fV.getD k 0)]:=getD_map aJ h
theorem zE (a b:Nat):(a:Int).tmod (b:Int)=((a % b:Nat):Int):=by rw[Int.tmod_eq_emod_of_nonneg ae];rfl
noncomputable def DU (s:aw) (fV:List Int) (steps:Nat) (b:Bool):AV:=match DT s fV steps with
 |some es=>.ib [.sl (es.map ab),.agg [.sl ((gL s es es.length).map ab)],.bool b,.int .i64 0]
 |none=>.ib [.ck,.agg [.ck],.bool b,.int .i64 4]
theorem Jv (s:aw) (hP:np s) (fV:List Int) (hs:∀x∈fV,0<=x/\x<=1000) (yK:fV.length<=200) (steps:Nat) (ev:steps<=500):
  iQ Tryz.prog 29 [.dv (aH s),.dv [.sl (s.cj.aq.map ab)],.sl (fV.map aJ),.int .i64 (steps:Int)] fun r=>∃b,r=DU s fV steps b:=by
 refine iQ.body fF rfl fun jc n0=>?_
 clear jc
 have Qo:=hP.kQ.1.nO
 have gp:(fV.map aJ).length=fV.length:=by simp
 (try((repeat(revert hN;revert N;apply Pn.out));refine wk @aH.eq_1 ?_;(repeat(refine Pn.mk ?_;intro N hN))))
 refine .inr (aA _ _ _ _ _ (fun r σ1 Fv=>?_) (NS.val (fun n=>Ey s.cj.aq ae n) (by simp only[ai,aj,aK,Option.map_some])))
 obtain⟨⟨o,rfl,q1,q2,q3⟩,hK⟩:=Fv
 obtain⟨g1,x1⟩:=σ1
 (try dsimp only at q1 q2 q3 hK)
 have vG:=hK.1
 (try dsimp only at vG)
 have k4:=hK.2 ⟨29000001,n0⟩ aU
 simp only[go_sem, ↓reduceIte,Nat.reduceEqDiff,Nat.reduceAdd,Nat.reduceSub,Nat.reduceLeDiff,reduceCtorEq]at k4
 refine hN _ _ ?_
 clear hN N
 (try((repeat(revert hN;revert N;apply Pn.out));refine wk (tw @k4 @aH.eq_1) ?_;(repeat(refine Pn.mk ?_;intro N hN))))
 have VU:=JL s []
 obtain⟨X,hX⟩:∃X:Id,X=⟨29001002,x1⟩:=⟨_,rfl⟩
 obtain⟨Y,hY⟩:∃Y:Id,Y=⟨29000001,n0⟩:=⟨_,rfl⟩
 have hXY:X≠Y:=by rw[hX,hY];intro e;injection e with e1 e2;revert e1;decide
 have vo0:=dj (i:=o) (n:=x1) q3
 refine bz (fun m env st=>∃(es:List aa) (f:Nat),m=f/\F0 s fV steps f es=DT s fV steps/\pc s es/\es.length<=steps/\501<=f+(gL s es es.length).length/\(∃o w:Id,env 13=.own w 0 es.length/\st.get w=some ⟨true,3,es.map ab⟩/\st.get X=some ⟨true,1,[[.own o 0 (gL s es es.length).length]]⟩/\st.get o=some ⟨true,3,(gL s es es.length).map ab⟩/\o≠w/\o≠X/\o≠Y/\o.bt<st.next/\w.bt<st.next/\(w.site=29002000∨w.site=29015006))/\st.get Y=some ⟨true,1,[[.ck]]⟩/\x1<st.next) 501 ⟨[],501,rfl,rfl,pc.nil s,by simp,ae,⟨o,⟨29002000,x1+1⟩,sl @Nat.zero_add,sl @Nat.zero_add,by rw[hX];simp only[go_sem, ↓reduceIte,Nat.reduceEqDiff,Nat.reduceAdd,Nat.reduceSub,Nat.reduceLeDiff,reduceCtorEq]<;>rfl,sl (tw @vo0 @q1),fun e=>by rw[e]at q3;(try dsimp only at q3);omega,fun e=>by rw[e,hX]at q3;(try dsimp only at q3);omega,fun e=>by rw[e,hY]at q2;(try dsimp only at q2);omega,aU,aU,.inl rfl⟩,by rw[hY];simp only[go_sem, ↓reduceIte,Nat.reduceEqDiff,Nat.reduceAdd,Nat.reduceSub,Nat.reduceLeDiff,reduceCtorEq,k4],aU⟩ ?_
 rintro m env_b st_b ⟨es,f,rfl,hgro,hgood,YZ,hfu,⟨o,w,b13,gw,gX,go,n1,n2,n3,vo,vw,sw⟩,gY,bn⟩ eW
 have b0:=eW 0 (by kernel_rfl)
 have b2:=eW 2 (by kernel_rfl)
 have b3:=eW 3 (by kernel_rfl)
 have b9:=eW 9 (by kernel_rfl)
 have Fp:=eW 12 (by kernel_rfl)
 rw[<-hX]at Fp
 rw[<-hY]at b9
 simp only[go_sem, ↓reduceIte,Nat.reduceEqDiff,Nat.reduceAdd,Nat.reduceSub,Nat.reduceLeDiff,reduceCtorEq,aH]at b0 b2 b3 b9 Fp
 clear eW
 have hA:=zd hP (es:=es) es.length (Nat.le_refl _) hgood
 have Xo:=hA.1.nO
 obtain⟨f,rfl⟩:∃f,m=f+1:=⟨m-1,ae⟩
 rw[F0]at hgro
 have eS:=Cl s hP _ hA
 rw[show BN (fW s (gL s es es.length)) s.aZ.aq.length (qH (gL s es es.length))=ET s (gL s es es.length)from rfl]at eS
 obtain⟨L,hL⟩:∃L,ET s (gL s es es.length)=L:=⟨_,rfl⟩
 rw[hL]at hgro eS
 have kU:(L.map ab).length=L.length:=by simp
 have Zy:=xR gX go
 have xv:X.bt<st_b.next:=by rw[hX];exact bn
 have vX:=dj xv
 have vY:=dj (i:=Y) (n:=st_b.next) (by rw[hY];(try dsimp only);omega)
 have vO:=dj vo
 have vW:=dj vw
 have e1:(o=w)=False/\(w=o)=False:=⟨eq_false n1,eq_false fun e=>n1 e.symm⟩
 have e2:(o=X)=False/\(X=o)=False:=⟨eq_false n2,eq_false fun e=>n2 e.symm⟩
 have e3:(o=Y)=False/\(Y=o)=False:=⟨eq_false n3,eq_false fun e=>n3 e.symm⟩
 have e4:(X=Y)=False/\(Y=X)=False:=⟨eq_false hXY,eq_false fun e=>hXY e.symm⟩
 have e5:(X=w)=False/\(w=X)=False:=by
  have:X≠w:=fun e=>by rw[<-e,hX]at sw;(try dsimp only at sw);revert sw;decide
  exact⟨eq_false this,eq_false fun e=>this e.symm⟩
 have e6:(Y=w)=False/\(w=Y)=False:=by
  have:Y≠w:=fun e=>by rw[<-e,hY]at sw;(try dsimp only at sw);revert sw;decide
  exact⟨eq_false this,eq_false fun e=>this e.symm⟩
 have fzW:∀g:Rows,g w=some ⟨true,3,es.map ab⟩->gU g 5 (.own w 0 es.length)=some (.sl (es.map ab)):=fun g h=>eE (e:=ab) h rfl fun x=>by simp[ab,bF,cH,eK]
 have fzO:∀g:Rows,g o=some ⟨true,3,(gL s es es.length).map ab⟩->gU g 4 (.own o 0 (gL s es es.length).length)=some (.sl ((gL s es es.length).map ab)):=fun g h=>eE (e:=ab) h rfl fun x=>by simp[ab,bF,cH,eK]
 have hmw:(es.map ab).length=es.length:=by simp
 (try((repeat(revert hN;revert N;apply Pn.out));refine wk (tw @b0 (tw @Fp @vX)) ?_;(repeat(refine Pn.mk ?_;intro N hN))))
 refine .inl ⟨_,au.x eS (Yp (by simp only[aH,aK]) Zy),?_⟩
 refine hN _ _ ?_
 clear hN N
 have Uu:(gL s es es.length).length<=500:=Xo
 have hgW:=fzW (bK st_b.get Y ⟨true,1,[[.own o 0 (gL s es es.length).length]]⟩) (sd (tw @e6 @gw))
 have hgO:=fzO (bK st_b.get Y ⟨true,1,[[.own o 0 (gL s es es.length).length]]⟩) (sd (tw @e3 @go))
 by_cases P9:L.length=0
 ·rw[if_pos P9]at hgro
  have hd:decide ((L.length:Int)=0)=true:=decide_eq_true ae
  have nr:decide (L.length=0)=true:=decide_eq_true P9
  (try((repeat(revert hN;revert N;apply Pn.out));refine wk (tw @b0 (tw @b2 (tw @b3 (tw @b9 (tw @Fp (tw @b13 (tw @gX (tw @gY (tw @kU (tw @hd (tw @nr (tw @vX (tw @vY @e4))))))))))))) ?_;(repeat(refine Pn.mk ?_;intro N hN))))
  exact⟨[.own w 0 es.length,.agg [.own o 0 (gL s es es.length).length],.bool true,.int .i64 0],sd @b9,_,by simp only[gx,fu,bF,cH,oG,hgW,hgO,fD,eK,Option.map_some]<;>rfl,true,by rw[DU,<-hgro]⟩
 have I6:decide ((L.length:Int)=0)=false:=decide_eq_false ae
 have VB:decide (L.length=0)=false:=decide_eq_false P9
 rw[if_neg P9]at hgro
 by_cases Qd:(steps:Int)<=(es.length:Int)
 ·rw[if_pos ae]at hgro
  (try((repeat(revert hN;revert N;apply Pn.out));refine wk (tw @b0 (tw @b2 (tw @b3 (tw @b9 (tw @Fp (tw @b13 (tw @gX (tw @gY (tw @kU (tw @I6 (tw @VB (tw @Qd (tw @vX (tw @vY @e4)))))))))))))) ?_;(repeat(refine Pn.mk ?_;intro N hN))))
  exact⟨[.own w 0 es.length,.agg [.own o 0 (gL s es es.length).length],.bool false,.int .i64 0],sd @b9,_,by simp only[gx,fu,bF,cH,oG,hgW,hgO,fD,eK,Option.map_some]<;>rfl,false,by rw[DU,<-hgro]⟩
 rw[if_neg ae]at hgro
 obtain⟨j,hj⟩:∃j,JX fV es.length L.length=j:=⟨_,rfl⟩
 have iv:j<L.length:=by rw[<-hj];exact Ia ae
 rw[hj]at hgro
 (try((repeat(revert hN;revert N;apply Pn.out));refine wk (tw @b0 (tw @b2 (tw @b3 (tw @b9 (tw @Fp (tw @b13 (tw @gX (tw @gY (tw @kU (tw @I6 (tw @VB (tw @Qd @gp)))))))))))) ?_;(repeat(refine Pn.mk ?_;intro N hN))))
 refine lJ (fun e st=>∃n,st=⟨st_b.get,n⟩/\st_b.next<=n/\e 0=.dv (aH s)/\e 2=.sl (fV.map aJ)/\e 3=.int .i64 (steps:Int)/\e 9=.ptr Y 0 0/\e 12=.ptr X 0 0/\e 13=.own w 0 es.length/\e 14=.sl (L.map ab)/\e 15=.int .i64 (j:Int)) ?_ ?_
 ·rintro e st ⟨n,rfl,hn,c0,c2,c3,c9,qi,FJ,c14,c15⟩
  refine hN _ _ ?_
  clear hN N
  have kC:=fR iv
  have ns:(j:Int)<(L.length:Int):=ae
  have NN:aQ L j∈ET s (gL s es es.length):=by rw[hL];exact fQ iv
  have pI:=fun σ h1 h2=>KG (X:=X) (o:=o) (l:=gL s es es.length) (σ:=σ) ae (aQ L j) h1 h2
  obtain⟨x,hx⟩:∃x,aQ L j=x:=⟨_,rfl⟩
  rw[hx]at kC hgro NN pI
  rw[ab]at kC pI
  (try((repeat(revert hN;revert N;apply Pn.out));refine wk (tw @c0 (tw @c2 (tw @c3 (tw @c9 (tw @qi (tw @FJ (tw @c14 (tw @c15 (tw @kC (tw @kU @ns)))))))))) ?_;(repeat(refine Pn.mk ?_;intro N hN))))
  refine .inr (aA _ _ _ _ _ (fun r σ2 Jc=>?_) (pI _ (sd @gX) (sd @go)))
  obtain⟨pI,hK⟩:=Jc
  obtain⟨g2,x2⟩:=σ2
  (try dsimp only at pI hK)
  have OD:=hK.1
  (try dsimp only at OD)
  have kX:=(hK.2 X aU).trans gX
  have kY:=(hK.2 Y (by rw[hY];(try dsimp only);omega)).trans gY
  have kW:=(hK.2 w aU).trans gw
  (try dsimp only at kX kY kW)
  have wX:=dj (i:=X) (n:=x2) ae
  have wY:=dj (i:=Y) (n:=x2) (by rw[hY];(try dsimp only);omega)
  have wW:=dj (i:=w) (n:=x2) ae
  refine hN _ _ ?_
  clear hN N
  rcases pI with⟨h5,rfl⟩|⟨h5,o2,rfl,p1,p2,p3⟩
  ·rw[if_pos h5]at hgro
   (try((repeat(revert hN;revert N;apply Pn.out));refine wk (tw @c0 (tw @c2 (tw @c3 (tw @c9 (tw @qi (tw @FJ (tw @kY (tw @wX (tw @wY @wW))))))))) ?_;(repeat(refine Pn.mk ?_;intro N hN))))
   exact⟨[.ck,.agg [.ck],.bool false,.int .i64 4],sd @c9,_,by simp only[gx,fu,bF,cH,oG,lk,fD,eK,Option.map_some]<;>rfl,false,by rw[DU,<-hgro]⟩
  ·rw[if_neg ae]at hgro
   (try dsimp only at p1 p2 p3)
   have wo:=dj (i:=o2) (n:=x2) p3
   have oX:=dp (a:=X) (b:=o2) ae
   have oY:=dp (a:=Y) (b:=o2) (by rw[hY];(try dsimp only);omega)
   have oW:=dp (a:=w) (b:=o2) ae
   have rf:=Mr s es x
   have yK:=ma x (gL s es es.length)
   have RP:(es++[x]).length=es.length+1:=by simp
   have tz:=hgood.add NN h5
   have Y0:es.length<=16777215:=ae
   have VE:(es++[x]).map ab=es.map ab++[ab x]:=by simp
   rw[ab]at VE
   (try((repeat(revert hN;revert N;apply Pn.out));refine wk (tw @c0 (tw @c2 (tw @c3 (tw @c9 (tw @qi (tw @FJ (tw @kX (tw @kY (tw @kW (tw @wX (tw @wY (tw @wW (tw @wo (tw @oX (tw @oY (tw @oW (tw @e4 (tw @e5 (tw @e6 (tw @kC (tw @kU (tw @ns (tw @c14 (tw @c15 (tw @hmw @Y0))))))))))))))))))))))))) ?_;(repeat(refine Pn.mk ?_;intro N hN))))
   refine⟨f,ae,es++[x],f,rfl,hgro,tz,by rw[RP];omega,by rw[RP,rf,yK];omega,⟨o2,⟨29015006,x2+1+1+1⟩,by rw[RP];simp only[go_sem, ↓reduceIte,Nat.reduceEqDiff,Nat.reduceAdd,Nat.reduceSub,Nat.reduceLeDiff,reduceCtorEq]<;>rfl,by rw[VE];simp only[go_sem, ↓reduceIte,Nat.reduceEqDiff,Nat.reduceAdd,Nat.reduceSub,Nat.reduceLeDiff,reduceCtorEq]<;>rfl,by rw[RP,rf];simp only[go_sem, ↓reduceIte,Nat.reduceEqDiff,Nat.reduceAdd,Nat.reduceSub,Nat.reduceLeDiff,reduceCtorEq,wX,e5]<;>rfl,by rw[RP,rf];simp only[go_sem, ↓reduceIte,Nat.reduceEqDiff,Nat.reduceAdd,Nat.reduceSub,Nat.reduceLeDiff,reduceCtorEq,wo,oX,oW,p1],fun e=>by rw[e]at p3;(try dsimp only at p3);omega,fun e=>by rw[e]at p2;omega,fun e=>by rw[e,hY]at p2;(try dsimp only at p2);omega,aU,aU,.inr rfl⟩,sd (tw @wY (tw @e4 (tw @e6 @kY))),aU⟩
 ·intro N hN
  by_cases HL:fV.length=0
  ·have Xr:j=0:=by rw[<-hj,JX,if_pos HL]
   have ZF:¬(0:Int)<(fV.length:Int):=ae
   subst Xr
   (try((repeat(revert hN;revert N;apply Pn.out));refine wk (tw @b0 (tw @b2 (tw @b3 (tw @b9 (tw @Fp (tw @b13 (tw @gp @ZF))))))) ?_;(repeat(refine Pn.mk ?_;intro N hN))))
   exact⟨_,rfl,aU,sd (tw @b0 @aH.eq_1),sd @b2,sd @b3,sd @b9,sd @Fp,sd @b13,sd @Nat.zero_add,sl @Nat.zero_add⟩
  ·have ZF:(0:Int)<(fV.length:Int):=ae
   have ZG:((fV.length:Int)=0)=False:=eq_false ae
   have YK:((L.length:Int)=0)=False:=eq_false ae
   have wI:=zE es.length fV.length
   have Qc:es.length % fV.length<fV.length:=Nat.mod_lt _ ae
   have hdi:((es.length % fV.length:Nat):Int)<(fV.length:Int):=ae
   have Ny:=H9 Qc
   have Zh:=(hs (fV.getD (es.length % fV.length) 0) (by rw[List.getD_eq_getElem?_getD,List.getElem?_eq_getElem Qc];exact List.getElem_mem Qc)).1
   have Za:(fV.getD (es.length % fV.length) 0).tmod (L.length:Int)=(j:Int):=by
    rw[<-hj,JX,if_neg HL]
    have h9:=zE (fV.getD (es.length % fV.length) 0).toNat L.length
    rwa [Int.toNat_of_nonneg Zh]at h9
   generalize fV.getD (es.length % fV.length) 0=z at *
   generalize es.length % fV.length=d at *
   (try((repeat(revert hN;revert N;apply Pn.out));refine wk (tw @b0 (tw @b2 (tw @b3 (tw @b9 (tw @Fp (tw @b13 (tw @gp (tw @ZF (tw @ZG (tw @YK (tw @kU (tw @wI (tw @hdi (tw @Ny @Za)))))))))))))) ?_;(repeat(refine Pn.mk ?_;intro N hN))))
   exact⟨_,rfl,aU,sd (tw @b0 @aH.eq_1),sd @b2,sd @b3,sd @b9,sd @Fp,sd @b13,sd @Nat.zero_add,sd @Za⟩
theorem iQ.cut {P:Program} (hm:P.follows .mixedOrders=true) {f:Nat} {args args':List AV} {R:AV->Prop} (hc:tF args args') (h:iQ P f args' R):iQ P f args R:=fun n=>(h n).cut hm hc
theorem Ad (fV:List Int) (hs:∀x∈fV,0<=x/\x<=1000) (hl:fV.length<=200):au Tryz.prog 27 [.sl (fV.map aJ)] (.bool true):=by
 refine au.body fF rfl fun jc n0=>?_
 clear jc
 have gp:(fV.map aJ).length=fV.length:=by simp
 have hd:decide ((200:Int)<(fV.length:Int))=false:=decide_eq_false ae
 (try((repeat(revert hN;revert N;apply Pn.out));refine wk (tw @gp @hd) ?_;(repeat(refine Pn.mk ?_;intro N hN))))
 refine bz (fun n env st=>∃k:Nat,n=(fV.length)-k/\k<=(fV.length)/\env 3=.int .i64 (k:Int)) (fV.length) ⟨0,ae,ae,sl @Nat.zero_add⟩ ?_
 rintro n_a env_a st_a ⟨k,rfl,ale,a3⟩ eJ
 have a0:=eJ 0 (by kernel_rfl)
 simp only[go_sem, ↓reduceIte,Nat.reduceEqDiff,Nat.reduceAdd,Nat.reduceSub,Nat.reduceLeDiff,reduceCtorEq]at a0
 clear eJ
 by_cases hk:(k:Int)<(fV.length:Int)
 ·have dx:∀{e:Env},(e 3=.int .i64 (IntKind.i64.wrap ((k:Int)+1)))->∃m0,m0<(fV.length)-k/\∃k:Nat,m0=(fV.length)-k/\k<=(fV.length)/\e 3=.int .i64 (k:Int):=fun x1=>⟨_,ae,k+1,rfl,ae,(by rw[x1,az ae])⟩
  have iR:k<fV.length:=ae
  have hg:=H9 iR
  have hr:=hs (fV.getD k 0) (by rw[List.getD_eq_getElem?_getD,List.getElem?_eq_getElem iR];exact List.getElem_mem iR)
  have h3:=k6 (fV.getD k 0) 0 1000
  generalize fV.getD k 0=z at *
  rw[show js z 0 1000=true by simp[js,hr.1,hr.2]]at h3
  (repeat(first|((repeat(revert hN;revert N;apply Pn.out));refine wk (tw @a3 (tw @a0 (tw @hk (tw @hg @gp)))) ?_;(repeat(refine Pn.mk ?_;intro N hN)))|((try apply Or.inl);refine⟨_,au.x (h3) (sd (tw @a3 (tw @a0 (tw @hk (tw @hg @gp))))),?_⟩;refine hN _ _ ?_;clear hN N)))
  exact dx (sd (tw @a3 @a0))
 ·(try((repeat(revert hN;revert N;apply Pn.out));refine wk (tw @a3 (tw @a0 (tw @hk @gp))) ?_;(repeat(refine Pn.mk ?_;intro N hN))))
  exact cu (b:=true) (.inl rfl) (sd @Nat.zero_add) rfl
noncomputable def DS (s:aw) (fV:List Int) (steps:Nat):AV:=if lI s then(match DT s fV steps with
 |some es=>.ib [.sl (es.map ab),.agg [.sl ((gL s es es.length).map ab)],.int .i64 0]
 |none=>.ib [.ck,.agg [.ck],.int .i64 4])else .ib [.ck,.agg [.ck],.int .i64 1]
theorem HB {s:aw} {fV:List Int} {steps:Nat} (h:lI s=false):DS s fV steps=.ib [.ck,.agg [.ck],.int .i64 1]:=by
 unfold DS;rw[h];rfl
theorem AI {s:aw} {fV:List Int} {steps:Nat} (h:lI s=true) (h2:DT s fV steps=none):DS s fV steps=.ib [.ck,.agg [.ck],.int .i64 4]/\∀b,DU s fV steps b=.ib [.ck,.agg [.ck],.bool b,.int .i64 4]:=by
 unfold DS DU;rw[h,h2];exact⟨rfl,fun b=>rfl⟩
theorem AJ {s:aw} {fV:List Int} {steps:Nat} (h:lI s=true) {es:List aa} (h2:DT s fV steps=some es):DS s fV steps=.ib [.sl (es.map ab),.agg [.sl ((gL s es es.length).map ab)],.int .i64 0]/\∀b,DU s fV steps b=.ib [.sl (es.map ab),.agg [.sl ((gL s es es.length).map ab)],.bool b,.int .i64 0]:=by
 unfold DS DU;rw[h,h2];exact⟨rfl,fun b=>rfl⟩
theorem Df (s:aw) (hn:jj s.aZ) (hg:s.aZ.br.length<=1048576) (ht:s.aZ.aq.length<=1048576) (fV:List Int) (hs:∀x∈fV,0<=x/\x<=1000) (yK:fV.length<=200) (steps:Nat) (ev:steps<=500):
  nF Tryz.prog 7 [.agg (aH s),.sl (fV.map aJ),.int .i64 (steps:Int)] fun r=>r=DS s fV steps:=by
 have h1:=HW s hn hg ht
 have h2:=Ad fV hs yK
 have h3:=k6 (steps:Int) 0 500
 rw[show js (steps:Int) 0 500=true by simp[js];omega]at h3
 cases h0:lI s
 ·rw[HB h0]
  rw[h0]at h1
  refine nF.body fF rfl fun jc σ=>?_
  clear jc
  rw[aH]at h1 ⊢
  (repeat(first|((repeat(revert hN;revert N;apply Pn.out));refine wk @Nat.zero_add ?_;(repeat(refine Pn.mk ?_;intro N hN)))|((try apply Or.inl);refine⟨_,au.x (h1) (sd @Nat.zero_add),?_⟩;refine hN _ _ ?_;clear hN N)))
  exact⟨[.ck,.agg [.ck],.int .i64 1],sd @Nat.zero_add,_,by simp only[gx,bI,bx,ai,aj,cm,aW,aP,Option.map_some]<;>rfl,rfl⟩
 ·have hP:=qR.1 h0
  rw[h0]at h1
  have h4:=iQ.cut mixed (.same _ (.ptr _ [.int .i64 s.aX] (.same _ (.same _ .nil)))) (Jv s hP fV hs yK steps ev)
  simp only[List.cons_append,List.nil_append]at h4
  refine nF.body fF rfl fun jc σ=>?_
  clear jc
  simp only[aH]at h1 h4 ⊢
  (repeat(first|((repeat(revert hN;revert N;apply Pn.out));refine wk @Nat.zero_add ?_;(repeat(refine Pn.mk ?_;intro N hN)))|((try apply Or.inl);refine⟨_,au.x (h1) (sd @Nat.zero_add),?_⟩;refine hN _ _ ?_;clear hN N)|((try apply Or.inl);refine⟨_,au.x (h2) (sd @Nat.zero_add),?_⟩;refine hN _ _ ?_;clear hN N)|((try apply Or.inl);refine⟨_,au.x (h3) (sd @Nat.zero_add),?_⟩;refine hN _ _ ?_;clear hN N)))
  refine .inr (aA _ _ _ _ _ (fun r σ2 hq=>?_) (iQ.x mixed h4 (Yq (nq (rows:=[[.sl (s.aZ.br.map ez),.sl (s.aZ.aq.map dD),.sl (s.cj.aq.map ab),.int .i64 s.aX]]) (by simp only[eu,go_sem, ↓reduceIte,Nat.reduceEqDiff,Nat.reduceAdd,Nat.reduceSub,Nat.reduceLeDiff,reduceCtorEq,Option.map_some]<;>rfl) rfl (by simp only[ai,aj,List.drop,cm,aP,Option.map_some])) (nq (rows:=[[.sl (s.aZ.br.map ez),.sl (s.aZ.aq.map dD),.sl (s.cj.aq.map ab),.int .i64 s.aX]]) (by simp only[eu,go_sem, ↓reduceIte,Nat.reduceEqDiff,Nat.reduceAdd,Nat.reduceSub,Nat.reduceLeDiff,reduceCtorEq,Option.map_some]<;>rfl) rfl (by simp only[ai,aj,List.drop,cm,aP,Option.map_some])) (cm _ _ _) (aP _ _ _ _))))
  obtain⟨⟨b,rfl⟩,rfl⟩:=hq
  refine hN _ _ ?_
  clear hN N
  cases hg:DT s fV steps with
  |none=>
   obtain⟨e1,e2⟩:=AI h0 hg
   rw[e2]
   (try((repeat(revert hN;revert N;apply Pn.out));refine wk @Nat.zero_add ?_;(repeat(refine Pn.mk ?_;intro N hN))))
   exact⟨[.ck,.agg [.ck],.int .i64 4],sd @Nat.zero_add,_,by simp only[gx,bI,bx,ai,aj,cm,aW,aP,Option.map_some]<;>rfl,e1.symm⟩
  |some es=>
   obtain⟨e1,e2⟩:=AJ h0 hg
   rw[e2]
   (try((repeat(revert hN;revert N;apply Pn.out));refine wk @Nat.zero_add ?_;(repeat(refine Pn.mk ?_;intro N hN))))
   exact⟨[.sl (es.map ab),.agg [.sl ((gL s es es.length).map ab)],.int .i64 0],sd @Nat.zero_add,_,by simp only[gx,bI,bx,ai,aj,cm,aW,aP,Option.map_some]<;>rfl,e1.symm⟩
theorem Hw (bs:List Int):au Tryz.prog 5 [.sl (bs.map kA)] (.bool (decide (4096<bs.length))):=by
 refine au.body fF rfl fun hl n0=>?_
 clear hl
 have gp:(bs.map kA).length=bs.length:=by simp
 (try((repeat(revert hN;revert N;apply Pn.out));refine wk @gp ?_;(repeat(refine Pn.mk ?_;intro N hN))))
 exact cu (b:=decide ((4096:Int)<(bs.length:Int))) (.inl rfl) (sd @Nat.zero_add) (by apply decide_eq_decide.2;omega)
def QM (s:aw) (B:AV) (c:Int):Prop:=(B=.ck∨∃L,B=.sl L)/\(c=0->np s/\∃l:List aa,lg s l/\B=.sl (l.map ab))
theorem P7 (s:aw) (fV:List Int) (k:Nat):∃A B c,DS s fV k=.ib [A,.agg [B],.int .i64 c]/\QM s B c:=by
 cases h0:lI s
 ·exact⟨_,_,_,HB h0,.inl rfl,fun h=>by cases h⟩
 have hP:=qR.1 h0
 cases hg:DT s fV k with
 |none=>exact⟨_,_,_,(AI h0 hg).1,.inl rfl,fun h=>by cases h⟩
 |some es=>exact⟨_,_,_,(AJ h0 hg).1,.inr ⟨_,rfl⟩,fun _=>⟨hP,_,JC hP (IY hg).1,rfl⟩⟩
theorem O3 (hC:uU 25) (hXor:uU 24) (code more:List Int) (hc:∀b∈code,0<=b/\b<=255) (hm:∀b∈more,0<=b/\b<=255):au Tryz.prog 3 [.sl (code.map kA),.sl (more.map kA)] (.bool true):=by
 intro n0
 refine xX Ym rfl fun jc=>?_
 simp only[Ni,Nj,TP,TQ,TR,TU,TV,Nk,TW,PV,TX,TY,Nl,Nn,TZ,T5,T6,T7,M7,Fk,M8,Iq,M9,Na]
 try simp only[q]
 clear jc
 have h1:=Hw code
 have h2:=Hw more
 by_cases c1:4096<code.length
 ·rw[decide_eq_true c1]at h1
  (repeat(first|((repeat(revert hN;revert N;apply Pn.out));refine wk @Nat.zero_add ?_;(repeat(refine Pn.mk ?_;intro N hN)))|((try apply Or.inl);refine⟨_,au.x (h1) (sd @Nat.zero_add),?_⟩;refine hN _ _ ?_;clear hN N)))
  exact cu (b:=true) (.inl rfl) (sd @Nat.zero_add) rfl
 rw[decide_eq_false c1]at h1
 by_cases c2:4096<more.length
 ·rw[decide_eq_true c2]at h2
  (repeat(first|((repeat(revert hN;revert N;apply Pn.out));refine wk @Nat.zero_add ?_;(repeat(refine Pn.mk ?_;intro N hN)))|((try apply Or.inl);refine⟨_,au.x (h1) (sd @Nat.zero_add),?_⟩;refine hN _ _ ?_;clear hN N)|((try apply Or.inl);refine⟨_,au.x (h2) (sd @Nat.zero_add),?_⟩;refine hN _ _ ?_;clear hN N)))
  exact cu (b:=true) (.inl rfl) (sd @Nat.zero_add) rfl
 rw[decide_eq_false c2]at h2
 (repeat(first|((repeat(revert hN;revert N;apply Pn.out));refine wk @Nat.zero_add ?_;(repeat(refine Pn.mk ?_;intro N hN)))|((try apply Or.inl);refine⟨_,au.x (h1) (sd @Nat.zero_add),?_⟩;refine hN _ _ ?_;clear hN N)|((try apply Or.inl);refine⟨_,au.x (h2) (sd @Nat.zero_add),?_⟩;refine hN _ _ ?_;clear hN N)))
 refine .inr (aA _ _ _ _ _ (fun r σ1 hq=>?_) (iQ.x mixed (FB hC hXor code hc ae) (Rh (cm _ _ _))))
 obtain⟨⟨s,⟨sn,sg,st,ss⟩,rfl⟩,rfl⟩:=hq
 refine hN _ _ ?_
 clear hN N
 rw[aH]
 (try((repeat(revert hN;revert N;apply Pn.out));refine wk @Nat.zero_add ?_;(repeat(refine Pn.mk ?_;intro N hN))))
 have Nz:=fun fV h1 h2=>Df s sn sg st fV h1 h2 9 ae
 rw[aH]at Nz
 refine lJ (fun e st=>e 5=.ptr ⟨3003002,n0+1+1+1⟩ 0 0/\st.get ⟨3003002,n0+1+1+1⟩=some ⟨true,4,[aH s]⟩/\n0+4<=st.next/\e 1=.sl (more.map kA)/\∃v B c,e 7=.ptr ⟨3004008,v⟩ 0 0/\e 8=.int .i64 c/\st.get ⟨3004008,v⟩=some ⟨true,1,[[B]]⟩/\QM s B c/\n0+4<=v/\v<st.next) ?_ ?_
 rotate_left 1
 ·intro N hN
  refine dS ?_ ?_<;>(try((repeat(revert hN;revert N;apply Pn.out));refine wk @Nat.zero_add ?_;(repeat(refine Pn.mk ?_;intro N hN))))<;>refine dS ?_ ?_<;>(try((repeat(revert hN;revert N;apply Pn.out));refine wk @Nat.zero_add ?_;(repeat(refine Pn.mk ?_;intro N hN))))<;>(try refine dS ?_ ?_<;>(try((repeat(revert hN;revert N;apply Pn.out));refine wk @Nat.zero_add ?_;(repeat(refine Pn.mk ?_;intro N hN)))))
  all_goals
   refine .inr (aA _ _ _ _ _ (fun r σ1 hq=>?_) (iQ.x mixed (sj code hc ae) (Rh (cm _ _ _))))
   obtain⟨⟨fV,rfl,xL,Ef⟩,rfl⟩:=hq
   refine hN _ _ ?_
   clear hN N
   have Lr:=Nz fV (fun x hx=>by have:=xL x hx;omega) ae
   obtain⟨A0,B,c,AL,Vk⟩:=P7 s fV 9
   (try((repeat(revert hN;revert N;apply Pn.out));refine wk @Nat.zero_add ?_;(repeat(refine Pn.mk ?_;intro N hN))))<;>(try refine dS ?_ ?_)<;>(try((repeat(revert hN;revert N;apply Pn.out));refine wk @Nat.zero_add ?_;(repeat(refine Pn.mk ?_;intro N hN))))
   all_goals
    refine .inr (aA _ _ _ _ _ (fun r σ1 hq=>?_) (nF.x mixed Lr))
    obtain⟨rfl,rfl⟩:=hq
    refine hN _ _ ?_
    clear hN N Lr
    rw[AL]
    rcases Vk.1 with rfl|⟨L,rfl⟩<;>(try((repeat(revert hN;revert N;apply Pn.out));refine wk @Nat.zero_add ?_;(repeat(refine Pn.mk ?_;intro N hN))))
    all_goals
     exact⟨sd @Nat.zero_add,sd @aH.eq_1,aU,sd @Nat.zero_add,_,_,_,sl @Nat.zero_add,sl @Nat.zero_add,sl @Nat.zero_add,Vk,aU,aU⟩
 ·rintro e st ⟨r5,rB,rN,r1,v1,B1,d1,r7,r8,g7,hG1,vv0,vv1⟩
  obtain⟨gd,nd⟩:=st
  (try dsimp only at rB rN g7 vv1)
  refine hN _ _ ?_
  clear hN N
  rw[aH]at rB
  (try((repeat(revert hN;revert N;apply Pn.out));refine wk (tw @r1 (tw @r5 (tw @r7 @r8))) ?_;(repeat(refine Pn.mk ?_;intro N hN))))
  refine lJ (fun e st=>e 5=.ptr ⟨3003002,n0+1+1+1⟩ 0 0/\e 7=.ptr ⟨3004008,v1⟩ 0 0/\e 8=.int .i64 d1/\st.get ⟨3003002,n0+1+1+1⟩=some ⟨true,4,[aH s]⟩/\st.get ⟨3004008,v1⟩=some ⟨true,1,[[B1]]⟩/\n0+4<=st.next/\∃v B c,e 10=.ptr ⟨3005008,v⟩ 0 0/\e 11=.int .i64 c/\st.get ⟨3005008,v⟩=some ⟨true,1,[[B]]⟩/\QM s B c) ?_ ?_
  rotate_left 1
  ·intro N hN
   refine dS ?_ ?_<;>(try((repeat(revert hN;revert N;apply Pn.out));refine wk (tw @r5 @rB) ?_;(repeat(refine Pn.mk ?_;intro N hN))))<;>refine dS ?_ ?_<;>(try((repeat(revert hN;revert N;apply Pn.out));refine wk (tw @r5 @rB) ?_;(repeat(refine Pn.mk ?_;intro N hN))))<;>(try refine dS ?_ ?_<;>(try((repeat(revert hN;revert N;apply Pn.out));refine wk (tw @r5 @rB) ?_;(repeat(refine Pn.mk ?_;intro N hN)))))
   all_goals
    refine .inr (aA _ _ _ _ _ (fun r σ1 hq=>?_) (iQ.x mixed (sj more hm ae) (Rh (cm _ _ _))))
    obtain⟨⟨fV,rfl,xL,Ef⟩,rfl⟩:=hq
    refine hN _ _ ?_
    clear hN N
    have Lr:=Nz fV (fun x hx=>by have:=xL x hx;omega) ae
    obtain⟨A0,B,c,AL,Vk⟩:=P7 s fV 9
    (try((repeat(revert hN;revert N;apply Pn.out));refine wk (tw @r5 @rB) ?_;(repeat(refine Pn.mk ?_;intro N hN))))<;>(try refine dS ?_ ?_)<;>(try((repeat(revert hN;revert N;apply Pn.out));refine wk (tw @r5 @rB) ?_;(repeat(refine Pn.mk ?_;intro N hN))))
    all_goals
     refine .inr (aA _ _ _ _ _ (fun r σ1 hq=>?_) (nF.x mixed Lr))
     obtain⟨rfl,rfl⟩:=hq
     refine hN _ _ ?_
     clear hN N Lr
     rw[AL]
     rcases Vk.1 with rfl|⟨L,rfl⟩<;>(try((repeat(revert hN;revert N;apply Pn.out));refine wk (tw @r5 @rB) ?_;(repeat(refine Pn.mk ?_;intro N hN))))
     all_goals
      exact⟨sd @r5,sd @r7,sd @r8,sd (tw @aH.eq_1 @rB),sd @g7,aU,_,_,_,sl @Nat.zero_add,sl @Nat.zero_add,sl @Nat.zero_add,Vk⟩
  ·clear r5 rB rN r1 r7 r8 g7 vv0 vv1
   rintro e st ⟨r5,r7,r8,rB,g7,rN,v2,B2,d2,r10,r11,g10,YB⟩
   obtain⟨ge,ne⟩:=st
   (try dsimp only at rB rN g7 g10)
   refine hN _ _ ?_
   clear hN N
   rw[aH]at rB
   by_cases z1:d1=0
   ·have y1:decide (d1=0)=true:=decide_eq_true z1
    by_cases z2:d2=0
    ·have y2:decide (d2=0)=true:=decide_eq_true z2
     obtain⟨hP,l,hA,rfl⟩:=hG1.2 z1
     obtain⟨_,m,hB,rfl⟩:=YB.2 z2
     have Je:Di s:=⟨⟨sg,st,fun t ht=>by unfold KB;rw[hP.set.form.qP t ht];omega⟩,ae⟩
     have o1:=tE s sn Je hP l m hA hB
     have o2:=BB s sn sg st hP l m hA hB
     have o3:=tE s sn Je hP l l hA hA
     have hM:=yp hP hA hB
     have hMf:=hM.1.nO
     have hlf:=hA.rR.1.nO
     have o4:=BC s (qk s l m) sn Je ae
     rw[IE hA]at o3
     rw[ID hP hA hB]at o4
     have o5:=p9 (qk s l m) ae
     have o6:=p9 l ae
     have o7:=ow (qk s l m) l hM.1 hA.rR.1
     have o8:=ow (qk s l m) m hM.1 hB.rR.1
     rw[(Hp hP hA hB).1]at o7
     rw[(Hp hP hA hB).2]at o8
     rw[aH]at o1 o2 o3 o4
     generalize qk s l m=M at o1 o2 o4 o5 o7 o8
     have w0:decide ((0:Int)=0)=true:=rfl
     (repeat(first|((repeat(revert hN;revert N;apply Pn.out));refine wk (tw @r5 (tw @r7 (tw @r8 (tw @r10 (tw @r11 (tw @y1 (tw @y2 (tw @rB (tw @g7 (tw @g10 @w0)))))))))) ?_;(repeat(refine Pn.mk ?_;intro N hN)))|((try apply Or.inl);refine⟨_,Kw.x (o1) _,?_⟩;refine hN _ _ ?_;clear hN N)|((try apply Or.inl);refine⟨_,Kw.x (o2) _,?_⟩;refine hN _ _ ?_;clear hN N)|((try apply Or.inl);refine⟨_,Kw.x (o3) _,?_⟩;refine hN _ _ ?_;clear hN N)|((try apply Or.inl);refine⟨_,au.x (o4) (sd (tw @r5 (tw @r7 (tw @r8 (tw @r10 (tw @r11 (tw @y1 (tw @y2 (tw @rB (tw @g7 (tw @g10 @w0))))))))))),?_⟩;refine hN _ _ ?_;clear hN N)|((try apply Or.inl);refine⟨_,au.x (o5) (sd (tw @r5 (tw @r7 (tw @r8 (tw @r10 (tw @r11 (tw @y1 (tw @y2 (tw @rB (tw @g7 (tw @g10 @w0))))))))))),?_⟩;refine hN _ _ ?_;clear hN N)|((try apply Or.inl);refine⟨_,au.x (o6) (sd (tw @r5 (tw @r7 (tw @r8 (tw @r10 (tw @r11 (tw @y1 (tw @y2 (tw @rB (tw @g7 (tw @g10 @w0))))))))))),?_⟩;refine hN _ _ ?_;clear hN N)|((try apply Or.inl);refine⟨_,au.x (o7) (sd (tw @r5 (tw @r7 (tw @r8 (tw @r10 (tw @r11 (tw @y1 (tw @y2 (tw @rB (tw @g7 (tw @g10 @w0))))))))))),?_⟩;refine hN _ _ ?_;clear hN N)|((try apply Or.inl);refine⟨_,au.x (o8) (sd (tw @r5 (tw @r7 (tw @r8 (tw @r10 (tw @r11 (tw @y1 (tw @y2 (tw @rB (tw @g7 (tw @g10 @w0))))))))))),?_⟩;refine hN _ _ ?_;clear hN N)))
     exact cu (b:=true) (.inl rfl) (sd @Nat.zero_add) rfl
    ·have y2:decide (d2=0)=false:=decide_eq_false z2
     (try((repeat(revert hN;revert N;apply Pn.out));refine wk (tw @r5 (tw @r7 (tw @r8 (tw @r10 (tw @r11 (tw @y1 (tw @y2 (tw @rB (tw @g7 @g10))))))))) ?_;(repeat(refine Pn.mk ?_;intro N hN))))
     exact cu (b:=true) (.inl rfl) (sd @Nat.zero_add) rfl
   ·have y1:decide (d1=0)=false:=decide_eq_false z1
    (try((repeat(revert hN;revert N;apply Pn.out));refine wk (tw @r5 (tw @r7 (tw @r8 (tw @r10 (tw @r11 (tw @y1 (tw @rB (tw @g7 @g10)))))))) ?_;(repeat(refine Pn.mk ?_;intro N hN))))
    exact cu (b:=true) (.inl rfl) (sd @Nat.zero_add) rfl
end Go.Proofs.YtiabgllilcfheaaGreat.V

namespace Go.Proofs.YtiabgllilcfheaaGreat
open Go.ChangeShapes Go.WideShapes Go.ChangeAt Go.RowKit Go.Deep
section
variable {H:Type} {enc:TypeId×Value->H} {P:Program} {w:World}
theorem oy.Wh {α:Type} {rep:World->List Nat->List Value->α->Prop} {sz:Nat} {w:World} {b o len cap:Nat} (ql:Nat->List Value) (fs:Nat->List Nat) (ds:Nat->α) (hc:len<=cap) (hm:cap<=maxLen)
  (hl:∀i,i<len->(ql i).length=sz) (hr:∀i,i<len->rep w (fs i) (ql i) (ds i)) (pI:∀i,i<len->∀j u,(ql i)[j]? =some u->w.cell? ⟨b,o+(i*sz+j),none⟩=some u):
  oy rep sz w ([b]++((List.range len).map fs).flatten) (.slice (some ⟨b,o,none⟩) len cap) ((List.range len).map ds):=by
 refine⟨(List.range len).map ql,(List.range len).map fs,[b],rfl,⟨some ⟨b,o,none⟩,cap,by simp,by simpa using hc,hm,.inr ⟨b,o,rfl,rfl,fun j u hj=>?_⟩⟩,by simp,by simp,fun i cs f d h1 h2 h3=>?_⟩
 ·have hlen:∀cs∈(List.range len).map ql,cs.length=sz:=fun cs eD=>by
   obtain⟨i,hi,rfl⟩:=List.mem_map.1 eD
   exact hl i (List.mem_range.1 hi)
  have iv:=(List.getElem?_eq_some_iff.1 hj).1
  have Lo:((List.range len).map ql).flatten.length=len*sz:=by
   rw[List.length_flatten,List.map_map]
   have:∀(l:List Nat),(∀i∈l,i<len)->(l.map (List.length∘ql)).sum=l.length*sz:=by
    intro l
    induction l with
    |nil=>intro _;simp
    |cons a l ih=>intro h;rw[List.map_cons,List.sum_cons,ih fun i hi=>h i (List.mem_cons_of_mem _ hi)];simp only[Function.comp,hl a (h a (by simp)),List.length_cons,Nat.add_mul];omega
   rw[this _ fun i hi=>List.mem_range.1 hi,List.length_range]
  rw[Lo]at iv
  have HL:0<sz:=by
   rcases Nat.eq_zero_or_pos sz with h|h
   ·subst h;simp at iv
   ·exact h
  have hi:j / sz<len:=(Nat.div_lt_iff_lt_mul HL).2 iv
  have Ce:j % sz<sz:=Nat.mod_lt _ HL
  have OA:j=(j / sz)*sz+j % sz:=by rw[Nat.mul_comm];exact(Nat.div_add_mod j sz).symm
  rw[OA,wz hlen (i:=j / sz) (cs:=ql (j / sz)) (by simp[hi]) Ce]at hj
  rw[OA]
  have:=pI (j / sz) hi (j % sz) u hj
  rw[<-OA]at this ⊢
  exact this
 ·have hi:i<len:=by
   have:=(List.getElem?_eq_some_iff.1 h1).1
   simpa using this
  simp[hi]at h1 h2 h3
  subst h1 h2 h3
  exact⟨hr i hi,hl i hi⟩
theorem lE (b o k:Nat):(⟨b,o,none⟩:Addr).add k=⟨b,o+k,none⟩:=by
 unfold Addr.add;split
 ·rename_i h;subst h;rfl
 ·rfl
theorem J5 {α:Type} {rep:World->List Nat->List Value->α->Prop} {Q:α->Prop} {t e:TypeId} {sz fuel:Nat} {cs:List Value} {x:DataW H×List MemPlace} (ht:P.underlying t=some (.slice e)) (hC:P.cellsOf e=sz) (HL:0<sz)
  (h:DataW.trod enc P w 0 (fun _=>true) true fuel t cs=some x) (hel:∀n tU y,tU.length=sz->DataW.trod enc P w 0 (fun _=>true) true n e tU=some y->∃f d,lD f 0 w.heap.size/\rep w f tU d/\Q d):
  ∃A n c f xs,cs=[.slice A n c]/\lD f 0 w.heap.size/\oy rep sz w f (.slice A n c) xs/\∀d∈xs,Q d:=by
 rcases open_slice ht h with⟨rfl,_⟩|⟨a,len,cap,m,n,D,Pl,rfl,_,hl,hm,RS,_,hi⟩
 ·exact⟨none,0,0,[],[],rfl,lD.nil _ _,oy.nil _ _ _,fun d h=>by cases h⟩
 rw[hC]at hi
 simp only[if_true]at RS
 by_cases h0:len=0
 ·subst h0
  exact⟨some a,0,cap,[],[],rfl,lD.nil _ _,⟨[],[],[],rfl,⟨some a,cap,rfl,Nat.zero_le _,hm,.inl ⟨rfl,rfl⟩⟩,rfl,rfl,fun i cs f d hc=>by simp at hc⟩,fun d h=>by cases h⟩
 obtain⟨b,o,sp⟩:=a
 have cell0:∃v,w.cell? ⟨b,o,sp⟩=some v:=by
  obtain⟨tU,hc,_⟩:=hi 0 (by omega)
  obtain⟨_,pJ,pI⟩:=World.cells?_some hc
  refine⟨tU[0]'(by omega),?_⟩
  have:=pI 0 HL
  rw[List.getElem?_eq_getElem (by omega)]at this
  simpa[Addr.add]using this
 obtain⟨v0,s8⟩:=cell0
 have hb:b<w.heap.size:=World.block_lt_of_cell? w _ s8
 have R3:sp=none:=by
  unfold World.cell? at s8
  split at s8
  ·split at s8
   ·cases s8
   ·rename_i h;simpa using h
  ·cases s8
 subst R3
 have key:∀i,i<len->∃tU f d,tU.length=sz/\lD f 0 w.heap.size/\rep w f tU d/\Q d/\∀j u,tU[j]? =some u->w.cell? ⟨b,o+(i*sz+j),none⟩=some u:=fun i l5=>by
  obtain⟨tU,hc,htr⟩:=hi i (by omega)
  obtain⟨_,pJ,pI⟩:=World.cells?_some hc
  obtain⟨f,d,h1,h2,h3⟩:=hel n tU _ pJ htr
  refine⟨tU,f,d,pJ,h1,h2,h3,fun j u hj=>?_⟩
  have iv:=(List.getElem?_eq_some_iff.1 hj).1
  have:=pI j (by omega)
  rw[hj]at this
  rw[<-this,Go.Deep.add_add,lE]
 have:Nonempty α:=by
  obtain⟨_,_,d,_⟩:=key 0 (by omega)
  exact⟨d⟩
 let cf:Nat->List Value:=fun i=>if hi:i<len then(key i hi).choose else[]
 let ff:Nat->List Nat:=fun i=>if hi:i<len then(key i hi).choose_spec.choose else[]
 let df:Nat->α:=fun i=>if hi:i<len then(key i hi).choose_spec.choose_spec.choose else Classical.choice this
 have eP:∀i,i<len->(cf i).length=sz/\lD (ff i) 0 w.heap.size/\rep w (ff i) (cf i) (df i)/\Q (df i)/\∀j u,(cf i)[j]? =some u->w.cell? ⟨b,o+(i*sz+j),none⟩=some u:=fun i hi=>by
  have:=(key i hi).choose_spec.choose_spec.choose_spec
  simp only[cf,ff,df,dif_pos hi]
  exact this
 refine⟨some ⟨b,o,none⟩,len,cap,_,(List.range len).map df,rfl,?_,oy.Wh cf ff df hl hm (fun i hi=>(eP i hi).1) (fun i hi=>(eP i hi).2.2.1) (fun i hi=>(eP i hi).2.2.2.2),fun d hd=>?_⟩
 ·intro x hx
  rcases List.mem_append.1 hx with hx|hx
  ·simp at hx;subst hx;exact⟨Nat.zero_le _,hb⟩
  ·obtain⟨l,Ft,XI⟩:=List.mem_flatten.1 hx
   obtain⟨i,hi,rfl⟩:=List.mem_map.1 Ft
   exact(eP i (List.mem_range.1 hi)).2.1 x XI
 ·obtain⟨i,hi,rfl⟩:=List.mem_map.1 hd
  exact(eP i (List.mem_range.1 hi)).2.2.2.1
end
section
variable {H:Type} {enc:TypeId×Value->H} {w:World} {fuel:Nat} {cs:List Value} {x:DataW H×List MemPlace}
abbrev TT (enc:TypeId×Value->H) (w:World) (fuel t:Nat) (cs:List Value) (x:DataW H×List MemPlace):Prop:=DataW.trod enc Tryz.prog w 0 (fun _=>true) true fuel t cs=some x
end
end Go.Proofs.YtiabgllilcfheaaGreat

namespace Go.Proofs.YtiabgllilcfheaaGreat
open Go.ChangeShapes Go.WideShapes Go.ChangeAt Go.RowKit V
def yc:=Flat (fun b:Int=>[Value.int .u8 b])
theorem Dc {P:Program} {w:World} {D:Nat->Prop} {f:List Nat} {v:Value} {xs:List Int} (h:oy yc 1 w f v xs) (hD:∀b∈f,D b):ly P w D (.sl (xs.map kA)) v:=
 MI h hD (fun _ _=>rfl) (fun x _ a ha=>by simp[kA]at ha;rcases ha with rfl<;>rfl) fun x _ f' cs hr hf=>by
  obtain⟨_,rfl⟩:=hr
  intro j a ha
  match j,ha with
  |0,ha=>simp[kA]at ha;subst ha;exact⟨_,rfl,.int _ _⟩
  |j+1,ha=>simp[kA]at ha
theorem H0 {H:Type} {enc:TypeId×Value->H} {w:World} {fuel:Nat} {cs:List Value} {x:DataW H×List MemPlace} (h:TT enc w fuel 22 cs x):∃A n c f xs,cs=[.slice A n c]/\lD f 0 w.heap.size/\oy yc 1 w f (.slice A n c) xs/\∀b∈xs,0<=b/\b<=255:=
 J5 (rep:=yc) (Q:=fun b=>0<=b/\b<=255) Tryz.underlying22 (sz:=1) (by kernel_rfl) (by omega) h fun n tU y hl hy=>by
  obtain⟨b,rfl,_,hw⟩:=DataW.trod_int Tryz.underlying5 hy
  exact⟨[],b,lD.nil _ _,⟨rfl,rfl⟩,by simpa[Lit.wf,IntKind.min,IntKind.max,IntKind.signed,IntKind.bits]using hw⟩
theorem Wm:ownKnob Tryz.prog.godebug=none:=by kernel_rfl
theorem LW:laidOutB Tryz.prog=true:=by kernel_rfl
theorem Dz:uU 25:=fun bs hb iK X A ha σ h hX=>EG bs hb iK X A ha σ h hX
theorem M3:uU 24:=fun bs hb iK X A ha σ h hX=>LV bs hb iK X A ha σ h hX
theorem IA (os:Os) (started:os.Started) (H:Type) (enc:TypeId×Value->H):
  ReturnsInHanded {} Tryz.checked os 3 .any (Rows.fnCommonSpec.pre6 enc Tryz.prog Tryz.f3 Rows.fnCommonRow.domain false) (Rows.fnCommonSpec.post enc Tryz.prog Tryz.f3 false true false false):=by
 refine returnsInHanded_of_change (C:=Tryz.checked) Wm started (by kernel_rfl) Tryz.func3
  (ChangeSpec.witness6 (enc:=enc) (C:=Tryz.checked) false ⟨#[], #[.slice none 0 0,.slice none 0 0],[]⟩ 8 (by kernel_rfl) (by kernel_rfl) (by kernel_rfl) (by kernel_rfl)) ?_
 intro W base args ds gs before Qt hW hcnd _
 have vH:∀(j:Nat) t v,Tryz.f3.params[j]? =some t->args[j]? =some v->Value.okWide Tryz.prog W .any base t v:=Qt
 have hW':=hW
 obtain⟨p,q,hA0,hV,rfl,Ou,re⟩:=hW
 have hA:DataW.TrodAll enc Tryz.prog W 0 (fun _=>true) true Tryz.f3.params.toList args.toList ds p:=hA0
 rw[Tryz.params3]at hA vH
 obtain⟨v0,vs0,d0,ds0,p0,q0,pq,rfl,rfl,h0,r0⟩:=trodAll_cons hA
 obtain⟨v1,vs1,d1,ds1,p1,q1,rfl,rfl,rfl,h1,r1⟩:=trodAll_cons r0
 obtain⟨rfl,rfl,rfl⟩:=trodAll_nil r1
 obtain rfl:args= #[v0,v1]:=by cases args;simp_all
 obtain⟨rfl,rfl⟩:=trodVars_none hV
 obtain⟨A0,n0,c0,rfl⟩:=okWide_slice Tryz.underlying22 (vH 0 22 v0 rfl rfl)
 obtain⟨A1,n1,c1,rfl⟩:=okWide_slice Tryz.underlying22 (vH 1 22 v1 rfl rfl)
 have k0:=h0
 have k1:=h1
 have lt0:∀x∈p0,x.block<W.heap.size:=by obtain⟨m,hm⟩:=k0;exact DataW.trod_lt m _ _ _ hm
 have UI:∀x∈p1,x.block<W.heap.size:=by obtain⟨m,hm⟩:=k1;exact DataW.trod_lt m _ _ _ hm
 obtain⟨f0,xs,w0,s0,b0⟩:∃f,∃d:List Int,lD f 0 W.heap.size/\oy yc 1 W f (.slice A0 n0 c0) d/\∀b∈d,0<=b/\b<=255:=by
  obtain⟨fuel,hf⟩:=h0
  obtain⟨A,n,c,f,xs,e,w,z,hb⟩:=H0 hf
  simp[Value.cells]at e
  obtain⟨rfl,rfl,rfl⟩:=e
  exact⟨f,xs,w,z,hb⟩
 obtain⟨f1,ys,w1,s1,b1⟩:∃f,∃d:List Int,lD f 0 W.heap.size/\oy yc 1 W f (.slice A1 n1 c1) d/\∀b∈d,0<=b/\b<=255:=by
  obtain⟨fuel,hf⟩:=h1
  obtain⟨A,n,c,f,xs,e,w,z,hb⟩:=H0 hf
  simp[Value.cells]at e
  obtain⟨rfl,rfl,rfl⟩:=e
  exact⟨f,xs,w,z,hb⟩
 clear hA0 Qt
 have iP:gy Tryz.prog W (fun b=>b<W.heap.size) (fun _=>none) [.sl (xs.map kA),.sl (ys.map kA)] #[.slice A0 n0 c0,.slice A1 n1 c1]:=by
  have h:=nU (Dc s0 (fun b hb=>(w0 b hb).2)) (nU (Dc s1 (fun b hb=>(w1 b hb).2)) (⟨rfl,fun j b hj=>by cases j<;>cases hj⟩:gy Tryz.prog W (fun b=>b<W.heap.size) (fun _=>none) [] #[]))
  simpa using h
 have Vv:=Sd mixed (O3 Dz M3 xs ys b0 b1) iP
 clear s0 s1 w0 w1 iP
 refine(Vv.mono fun e W' ⟨he,bel⟩=>?_)
 subst he
 exact⟨_,rfl,_,_,_,[],_,[],hW',trodAll_mk1 (shut_bool Tryz.underlying4 _),(trodAll_cons_mk (Below.trod LW (by kernel_rfl) (of_decide_eq_true (by kernel_rfl)) k0 bel lt0) (trodAll_cons_mk (Below.trod LW (by kernel_rfl) (of_decide_eq_true (by kernel_rfl)) k1 bel UI) trodAll_mk0)),rfl,bel.frame _,fun h=>by cases h⟩
end Go.Proofs.YtiabgllilcfheaaGreat

namespace Go.Proofs.YtiabgllilcfheaaGreat
open Go.ChangeShapes Go.WideShapes Go.ChangeAt Go.RowKit
theorem cmN:Tryz.pinned.checked.prog.funcNamed Rows.fnCommonRow.func=some 3:=by kernel_rfl
theorem cmJ:joinedFacts Tryz.pinned.checked.prog 3 Tryz.f3 Rows.fnCommonSpec Rows.fnCommonRow=true:=by
 unfold joinedFacts
 repeat(with_reducible refine Bool.and_eq_true_iff.2 ⟨?_,by as_aux_lemma=>kernel_rfl⟩)
 as_aux_lemma=>kernel_rfl
theorem cmI:Tryz.f3.isInstance Tryz.pinned.checked.prog Rows.fnCommonRow.origin Rows.fnCommonRow.targs:=of_decide_eq_true (by kernel_rfl)
theorem cmW:Tryz.f3.isWrapper Tryz.pinned.checked.prog Rows.fnCommonRow.wrapper Rows.fnCommonRow.mainSum:=by
 unfold Func.isWrapper;first|(rw[if_pos (by decide+kernel)];kernel_rfl)|(rw[if_neg (by decide+kernel)];exact⟨rfl,rfl⟩)
theorem N6:Rows.fnCommonRow.holds Tryz.pinned (OpenSpec.ofChange Rows.fnCommonSpec):=
 OpenClaim.holds_of_wide 3 Tryz.f3 rfl rfl rfl rfl rfl rfl rfl ⟨rfl,rfl,rfl,rfl,rfl⟩ rfl rfl rfl rfl rfl cmN Tryz.func3 cmJ cmI cmW
  (fun os started H enc _=>IA os started H enc)
theorem xf:Rows.FnCommonSaid:=N6
#print axioms xf
end Go.Proofs.YtiabgllilcfheaaGreat
