/- Growth of a crystal by a schedule. -/
import Derived.Test.YtainmfbpilopaaaGreatDoorSqF
import Derived.Test.YtainmfbpilopaaaGreatDoorSqD
import Derived.Test.YtainmfbpilopaaaGreatDoorSqB
import Derived.Test.YtainmfbpilopaaaGreatDoorSqE
import Derived.Test.YtainmfbpilopaaaGreatDoorChecked
import Derived.ProofKit
import Derived.Deep.Slices
import Derived.ChangeSame
import Derived.Test.YtainmfbpilopaaaGreatDoorRows
import Derived.OpenShut
import Derived.ShutString
import Derived.ChangeOld
import Derived.Below
import Derived.Lay
import Derived.Handed
import Derived.MakeChecks
set_option linter.unusedVariables false
set_option linter.unusedSimpArgs false
set_option maxRecDepth 100000
set_option maxHeartbeats 16000000
namespace Go.Proofs.YtainmfbpilopaaaGreatDoor.V
open Go.RowKit
attribute [local irreducible] dW wpOps fu Call
theorem Fu (dj:List Int) (σ:aw):Call Tryz.prog 164 [.sl (dj.map aC)] σ (fun r σ'=>∃B:Id,r=.fn 209 [.ptr B 0 0]/\σ'.get B=some ⟨true,1,[[.sl (dj.map aC)]]⟩/\σ.next<=B.bG/\B.bG<σ'.next/\∀x:Id,x.bG<σ.next->σ'.get x=σ.get x):=by
 refine eB eI rfl fun iD=>?_
 clear iD
 (try((repeat(revert N;apply Pn.out));refine wk @Nat.zero_add ?_;(repeat(apply Pn.mk;intro N hN))))
 exact er (.inl rfl) (vs:=[.fn 209 [.ptr ⟨164000000,σ.next⟩ 0 0]]) (sd @Nat.zero_add) ⟨_,rfl,sd @Nat.zero_add,bc,bc,fun x hx=>by
  have h1:=db hx
  simp only[go_sem, ↓reduceIte,Nat.reduceEqDiff,Nat.reduceAdd,Nat.reduceSub,Nat.reduceLeDiff,reduceCtorEq,h1]⟩
def V4 (σ:aw) (c T O:Id) (s:ax) (dj:List Int) (steps:Nat) (r:AV) (σ':aw):Prop:=
 σ.next<=σ'.next/\(∀x:Id,x.bG<σ.next->x≠T->x≠O->σ'.get x=σ.get x)/\
 ((nG s dj steps=none/\r=.fD [.bU,.bool false])∨∃(es:List aa) (v:AV),nG s dj steps=some es/\jW s es/\rK σ'.get σ'.next c T O s (s.bH.aj++es)/\r=.fD [v,.bool true]/\HY 96008003 σ.next es v σ'.get σ'.next)
theorem tW {s:ax} {dj:List Int} {steps f:Nat} {es:List aa} (h:(kh s (ee s es es.length)).length=0∨steps<=es.length):oh s dj steps f es=some es:=by
 cases f with
 |zero=>rfl
 |succ f=>
  rw[oh]
  by_cases h0:(kh s (ee s es es.length)).length=0
  ·rw[if_pos h0]
  ·rw[if_neg h0,if_pos ah]
theorem S7 {σ:aw} {c T O:Id} {s:ax} (hP:rN s) (h:rK σ.get σ.next c T O s s.bH.aj) (hE:eU σ.get) (GG:1<=T.bG) (JO:1<=O.bG)
  {dj:List Int} (hs:∀x∈dj,0<=x/\x<=1000) (qw:dj.length<=200) (steps:Nat) (dZ:steps<=501):
  Call Tryz.prog 96 [.ptr c 0 0,.sl (dj.map aC),.int .i64 (steps:Int)] σ (V4 σ c T O s dj steps):=by
 refine eB eI rfl fun iD=>?_
 clear iD
 have hT0:=h.o.tv
 have hO0:=h.o.ov
 (try((repeat(revert N;apply Pn.out));refine wk @Nat.zero_add ?_;(repeat(apply Pn.mk;intro N hN))))
 refine .inr (az _ _ _ _ _ (fun r σ1 hq=>?_) (Fu dj _))
 obtain⟨g1,x1⟩:=σ1
 obtain⟨B,rfl,hB,Iq,Yt,hf⟩:=hq
 (try dsimp only at hB Iq Yt hf)
 apply hN
 clear hN N
 (try((repeat(revert N;apply Pn.out));refine wk @Nat.zero_add ?_;(repeat(apply Pn.mk;intro N hN))))
 have base:∀x:Id,x.bG<σ.next->g1 x=σ.get x:=fun x hx=>hf x bc
 have Tg:eU g1:=hE.frame (n:=1) (Nat.le_refl _) fun x hx _=>base x ah
 have Lk:rK g1 x1 c T O s s.bH.aj:=h.frame (by(try dsimp only at Iq);omega) base
 have Xq:=hP.some
 have fin:∀(es:List aa) (v:AV) (g:Rows) (n:Nat),nG s dj steps=some es->jW s es->rK g n c T O s (s.bH.aj++es)->HY 96008003 x1 es v g n->(∀x:Id,x.bG<x1->x≠T->x≠O->g x=g1 x)->x1<=n->V4 σ c T O s dj steps (.fD [v,.bool true]) ⟨g,n⟩:=fun es v g n h1 h2 h3 h4 h5 h6=>⟨by(try dsimp only at Iq ⊢);omega,fun x hx hT hO=>(h5 x ah hT hO).trans (base x hx),.inr ⟨es,v,h1,h2,h3,rfl,by
  rcases h4 with h4|⟨u,k1,k2,k3,k4⟩
  ·exact .inl h4
  ·exact .inr ⟨u,k1,k2,ah,k4⟩⟩⟩
 refine bf (fun m env st=>∃(es:List aa) (f:Nat),m=f/\oh s dj steps f es=nG s dj steps/\jW s es/\es.length<=steps/\f+es.length=501/\rK st.get st.next c T O s (s.bH.aj++es)/\HY 96008003 x1 es (env 9) st.get st.next/\(∀x:Id,x.bG<x1->x≠T->x≠O->st.get x=g1 x)/\x1<=st.next) 501 ⟨[],501,rfl,rfl,jW.nil s,Nat.zero_le _,rfl,by rw[List.append_nil];exact Lk.frame bc fun x hx=>sd @Nat.zero_add,.inl ⟨rfl,sd @Nat.zero_add⟩,fun x hx _ _=>sd @Nat.zero_add,bc⟩ ?_
 rintro m env_b st_b ⟨es,f,rfl,hgro,hgood,hes,WZ,hC,hu,jy,hn⟩ fh
 have b0:=fh 0 (by kernel_rfl)
 have b1:=fh 1 (by kernel_rfl)
 have b2:=fh 2 (by kernel_rfl)
 have b8:=fh 8 (by kernel_rfl)
 simp only[go_sem, ↓reduceIte,Nat.reduceEqDiff,Nat.reduceAdd,Nat.reduceSub,Nat.reduceLeDiff,reduceCtorEq]at b0 b1 b2 b8
 clear fh
 have hA:=ju hP (es:=es) es.length (Nat.le_refl _) hgood
 have vG:=hA.1.xD
 have lY:=oy s es es.length (Nat.le_refl _)
 obtain⟨f,rfl⟩:∃f,m=f+1:=⟨m-1,ah⟩
 have Yu:eU st_b.get:=Tg.frame (n:=1) (Nat.le_refl _) fun x hx _=>jy x ah (fun e=>by rw[e]at hx;omega) (fun e=>by rw[e]at hx;omega)
 have hBb:=(jy B Yt (fun e=>by rw[e]at Iq;omega) (fun e=>by rw[e]at Iq;omega)).trans hB
 rcases hu with⟨rfl,e9⟩|⟨u,e9,gu,u1,u2,u3,u4⟩
 ·by_cases hd:((0:Nat):Int)<(steps:Int)
  ·(try((repeat(revert N;apply Pn.out));refine wk (tw @b0 (tw @b1 (tw @b2 (tw @b8 (tw @e9 @hd))))) ?_;(repeat(apply Pn.mk;intro N hN))))
   refine .inr (az _ _ _ _ _ (fun r σ2 hq=>?_) (NA (σ:=⟨st_b.get,st_b.next+1+1⟩) (c:=c) (T:=T) (O:=O) (B:=B) (es:=[]) hP hgood (hC.frame bc fun x hx=>rfl) Yu bc hs qw hBb bc))
   obtain⟨g2,x2⟩:=σ2
   obtain⟨n2,f2,hq⟩:=hq
   (try dsimp only at n2 f2 hq)
   apply hN
   clear hN N
   have Vz:eU g2:=Yu.frame (n:=1) (Nat.le_refl _) fun x hx _=>f2 x ah (fun e=>by rw[e]at hx;omega) (fun e=>by rw[e]at hx;omega)
   obtain⟨⟨b3,k0⟩,b4,k1⟩:=Vz
   have w0:=db (i:=qt 0) (n:=x2) (by rw[jx];omega)
   have w1:=db (i:=qt 1) (n:=x2) (by rw[jx];omega)
   have p0:(qt 0).site=999000000:=rfl
   have p1:(qt 1).site=999000001:=rfl
   rcases hq with⟨hO,rfl,yV⟩|⟨hO,tZ,rfl⟩|⟨hO,fW,rfl,yV⟩
   ·(try((repeat(revert N;apply Pn.out));refine wk (tw @b0 (tw @b1 (tw @b2 (tw @b8 (tw @e9 (tw @k0 (tw @k1 (tw @w0 (tw @w1 (tw @p0 @p1)))))))))) ?_;(repeat(apply Pn.mk;intro N hN))))
    refine .inr (az _ _ _ _ _ (fun r σ3 hq=>?_) (xN 0 sT))
    obtain⟨rfl,rfl⟩:=hq
    apply hN
    clear hN N
    (try((repeat(revert N;apply Pn.out));refine wk (tw @b0 (tw @b1 (tw @b2 (tw @b8 (tw @e9 (tw @k0 (tw @k1 (tw @w0 (tw @w1 (tw @p0 @p1)))))))))) ?_;(repeat(apply Pn.mk;intro N hN))))
    exact er (.inl rfl) (vs:=[.bU,.bool true]) (sd @e9) (fin [] _ _ _ (by rw[<-hgro];exact tW (.inl (by rw[hO];rfl))) hgood (yV.frame bc fun x hx=>by
     have z1:=db hx
     simp only[go_sem, ↓reduceIte,Nat.reduceEqDiff,Nat.reduceAdd,Nat.reduceSub,Nat.reduceLeDiff,reduceCtorEq,z1]) (.inl ⟨rfl,rfl⟩) (fun x hx hT hO=>by
     have z1:=db (i:=x) (n:=x2) ah
     have z2:=f2 x bc hT hO
     have z3:=jy x hx hT hO
     simp only[go_sem, ↓reduceIte,Nat.reduceEqDiff,Nat.reduceAdd,Nat.reduceSub,Nat.reduceLeDiff,reduceCtorEq,z1]
     exact z2.trans z3) bc)
   ·(try((repeat(revert N;apply Pn.out));refine wk (tw @b0 (tw @b1 (tw @b2 (tw @b8 (tw @e9 (tw @k0 (tw @k1 (tw @w0 (tw @w1 (tw @p0 @p1)))))))))) ?_;(repeat(apply Pn.mk;intro N hN))))
    refine .inr (az _ _ _ _ _ (fun r σ3 hq=>?_) (Dr 1 0 sN sT fun e=>sTN e.symm))
    obtain⟨rfl,rfl⟩:=hq
    apply hN
    clear hN N
    (try((repeat(revert N;apply Pn.out));refine wk (tw @b0 (tw @b1 (tw @b2 (tw @b8 (tw @e9 (tw @k0 (tw @k1 (tw @w0 (tw @w1 (tw @p0 @p1)))))))))) ?_;(repeat(apply Pn.mk;intro N hN))))
    refine .inr (az _ _ _ _ _ (fun r σ3 hq=>?_) (xN 1 sN))
    obtain⟨rfl,rfl⟩:=hq
    apply hN
    clear hN N
    (try((repeat(revert N;apply Pn.out));refine wk (tw @b0 (tw @b1 (tw @b2 (tw @b8 (tw @e9 (tw @k0 (tw @k1 (tw @w0 (tw @w1 (tw @p0 @p1)))))))))) ?_;(repeat(apply Pn.mk;intro N hN))))
    exact er (.inl rfl) (vs:=[.bU,.bool false]) (sd @Nat.zero_add) ⟨by(try dsimp only at Iq ⊢);omega,fun x hx hT hO=>by
     have z1:=db (i:=x) (n:=x2) ah
     have z2:=f2 x bc hT hO
     have z3:=jy x ah hT hO
     simp only[go_sem, ↓reduceIte,Nat.reduceEqDiff,Nat.reduceAdd,Nat.reduceSub,Nat.reduceLeDiff,reduceCtorEq,z1]
     exact z2.trans (z3.trans (base x hx)),.inl ⟨by rw[<-hgro,oh,if_neg (fun e=>hO (List.length_eq_zero_iff.1 e)),if_neg (by(try simp only[List.length_nil]at hd ⊢);omega),if_pos tZ],rfl⟩⟩
   ·obtain⟨x,hx⟩:∃x,bd (kh s (ee s [] ([]:List aa).length)) (s9 dj ([]:List aa).length (kh s (ee s [] ([]:List aa).length)).length)=x:=⟨_,rfl⟩
    rw[hx]at yV ⊢
    have ED:x∈kh s (ee s [] ([]:List aa).length):=by rw[<-hx];exact gI (rD (List.length_pos_iff.2 hO))
    have qW:=hgood.add ED fW
    have ML:oh s dj steps f (([]:List aa)++[x])=nG s dj steps:=by rw[<-hgro,oh,if_neg (fun e=>hO (List.length_eq_zero_iff.1 e)),if_neg (by(try simp only[List.length_nil]at hd ⊢);omega),if_neg ah,hx]
    have Ix:([]:List aa).length<=16777215:=by(try simp only[List.length_nil]);omega
    rw[ab]
    (try((repeat(revert N;apply Pn.out));refine wk (tw @b0 (tw @b1 (tw @b2 (tw @b8 (tw @e9 (tw @k0 (tw @k1 (tw @w0 (tw @w1 (tw @p0 @p1)))))))))) ?_;(repeat(apply Pn.mk;intro N hN))))
    refine .inr (az _ _ _ _ _ (fun r σ3 hq=>?_) (BS 0 sT))
    obtain⟨rfl,rfl⟩:=hq
    apply hN
    clear hN N
    (try((repeat(revert N;apply Pn.out));refine wk (tw @b0 (tw @b1 (tw @b2 (tw @b8 (tw @e9 (tw @k0 (tw @k1 (tw @w0 (tw @w1 (tw @p0 @p1)))))))))) ?_;(repeat(apply Pn.mk;intro N hN))))
    refine .inr (az _ _ _ _ _ (fun r σ3 hq=>?_) (BS 1 sN))
    obtain⟨rfl,rfl⟩:=hq
    apply hN
    clear hN N
    (try((repeat(revert N;apply Pn.out));refine wk (tw @b0 (tw @b1 (tw @b2 (tw @b8 (tw @e9 (tw @k0 (tw @k1 (tw @w0 (tw @w1 (tw @p0 @p1)))))))))) ?_;(repeat(apply Pn.mk;intro N hN))))
    have Em:(([]:List aa)++[x]).map ab=([]:List aa).map ab++[ab x]:=by simp
    have Lq:(([]:List aa)++[x]).length=([]:List aa).length+1:=by simp
    rw[ab]at Em
    have Tw:=h.o.cv
    refine⟨f,ah,([]:List aa)++[x],f,rfl,ML,qW,by rw[Lq];(try simp only[List.length_nil]at hd ⊢);omega,by rw[Lq];(try simp only[List.length_nil]at WZ ⊢);omega,?_,.inr ⟨⟨96008003,x2+1+1+1+1+1⟩,by rw[Lq];simp only[go_sem, ↓reduceIte,Nat.reduceEqDiff,Nat.reduceAdd,Nat.reduceSub,Nat.reduceLeDiff,reduceCtorEq]<;>rfl,by rw[Em];simp only[go_sem, ↓reduceIte,Nat.reduceEqDiff,Nat.reduceAdd,Nat.reduceSub,Nat.reduceLeDiff,reduceCtorEq]<;>rfl,bc,bc,by rw[Lq];omega,rfl⟩,fun y hy hT hO=>?_,bc⟩
    ·have zc:=db yV.o.cv
     have zT:=db yV.o.tv
     have zO:=db yV.o.ov
     obtain⟨en,a1,a2⟩:=yV.op
     refine⟨yV.o.three bc (sd @zc) (sd @zT) (sd @zO),en,sd (tw @zO @a1),a2.frame bc fun y hy ⟨k,r,hk⟩=>?_⟩
     have zy:=db hy
     simp only[go_sem, ↓reduceIte,Nat.reduceEqDiff,Nat.reduceAdd,Nat.reduceSub,Nat.reduceLeDiff,reduceCtorEq,zy]
    ·have zy:=db (i:=y) (n:=x2) ah
     simp only[go_sem, ↓reduceIte,Nat.reduceEqDiff,Nat.reduceAdd,Nat.reduceSub,Nat.reduceLeDiff,reduceCtorEq,zy]
     exact(f2 y bc hT hO).trans (jy y hy hT hO)
  ·(try((repeat(revert N;apply Pn.out));refine wk (tw @b0 (tw @b1 (tw @b2 (tw @b8 (tw @e9 @hd))))) ?_;(repeat(apply Pn.mk;intro N hN))))
   exact er (.inl rfl) (vs:=[.bU,.bool true]) (sd @e9) (fin [] _ _ _ (by rw[<-hgro];exact tW (.inr (by(try simp only[List.length_nil]at hd ⊢);omega))) hgood (hC.frame bc fun x hx=>sd @Nat.zero_add) (.inl ⟨rfl,rfl⟩) (fun x hx hT hO=>by
    have z3:=jy x hx hT hO
    simp only[go_sem, ↓reduceIte,Nat.reduceEqDiff,Nat.reduceAdd,Nat.reduceSub,Nat.reduceLeDiff,reduceCtorEq,z3]) bc)
 ·by_cases hd:(es.length:Int)<(steps:Int)
  ·(try((repeat(revert N;apply Pn.out));refine wk (tw @b0 (tw @b1 (tw @b2 (tw @b8 (tw @e9 (tw @gu @hd)))))) ?_;(repeat(apply Pn.mk;intro N hN))))
   refine .inr (az _ _ _ _ _ (fun r σ2 hq=>?_) (NA (σ:=⟨st_b.get,st_b.next+1+1⟩) (c:=c) (T:=T) (O:=O) (B:=B) (es:=es) hP hgood (hC.frame bc fun x hx=>rfl) Yu bc hs qw hBb bc))
   obtain⟨g2,x2⟩:=σ2
   obtain⟨n2,f2,hq⟩:=hq
   (try dsimp only at n2 f2 hq)
   apply hN
   clear hN N
   have Vz:eU g2:=Yu.frame (n:=1) (Nat.le_refl _) fun x hx _=>f2 x ah (fun e=>by rw[e]at hx;omega) (fun e=>by rw[e]at hx;omega)
   obtain⟨⟨b3,k0⟩,b4,k1⟩:=Vz
   have w0:=db (i:=qt 0) (n:=x2) (by rw[jx];omega)
   have w1:=db (i:=qt 1) (n:=x2) (by rw[jx];omega)
   have p0:(qt 0).site=999000000:=rfl
   have p1:(qt 1).site=999000001:=rfl
   have ku:=(f2 u bc (fun e=>by rw[e]at u1;omega) (fun e=>by rw[e]at u1;omega)).trans gu
   have wu:=db (i:=u) (n:=x2) ah
   rcases hq with⟨hO,rfl,yV⟩|⟨hO,tZ,rfl⟩|⟨hO,fW,rfl,yV⟩
   ·(try((repeat(revert N;apply Pn.out));refine wk (tw @b0 (tw @b1 (tw @b2 (tw @b8 (tw @e9 (tw @gu (tw @k0 (tw @k1 (tw @w0 (tw @w1 (tw @p0 (tw @p1 (tw @ku @wu))))))))))))) ?_;(repeat(apply Pn.mk;intro N hN))))
    refine .inr (az _ _ _ _ _ (fun r σ3 hq=>?_) (xN 0 sT))
    obtain⟨rfl,rfl⟩:=hq
    apply hN
    clear hN N
    (try((repeat(revert N;apply Pn.out));refine wk (tw @b0 (tw @b1 (tw @b2 (tw @b8 (tw @e9 (tw @gu (tw @k0 (tw @k1 (tw @w0 (tw @w1 (tw @p0 (tw @p1 (tw @ku @wu))))))))))))) ?_;(repeat(apply Pn.mk;intro N hN))))
    exact er (.inl rfl) (vs:=[.own u 0 es.length,.bool true]) (sd @e9) (fin es _ _ _ (by rw[<-hgro];exact tW (.inl (by rw[hO];rfl))) hgood (yV.frame bc fun x hx=>by
     have z1:=db hx
     simp only[go_sem, ↓reduceIte,Nat.reduceEqDiff,Nat.reduceAdd,Nat.reduceSub,Nat.reduceLeDiff,reduceCtorEq,z1]) (.inr ⟨u,rfl,sd (tw @wu @ku),u1,bc,u3,u4⟩) (fun x hx hT hO=>by
     have z1:=db (i:=x) (n:=x2) ah
     have z2:=f2 x bc hT hO
     have z3:=jy x hx hT hO
     simp only[go_sem, ↓reduceIte,Nat.reduceEqDiff,Nat.reduceAdd,Nat.reduceSub,Nat.reduceLeDiff,reduceCtorEq,z1]
     exact z2.trans z3) bc)
   ·(try((repeat(revert N;apply Pn.out));refine wk (tw @b0 (tw @b1 (tw @b2 (tw @b8 (tw @e9 (tw @gu (tw @k0 (tw @k1 (tw @w0 (tw @w1 (tw @p0 (tw @p1 (tw @ku @wu))))))))))))) ?_;(repeat(apply Pn.mk;intro N hN))))
    refine .inr (az _ _ _ _ _ (fun r σ3 hq=>?_) (Dr 1 0 sN sT fun e=>sTN e.symm))
    obtain⟨rfl,rfl⟩:=hq
    apply hN
    clear hN N
    (try((repeat(revert N;apply Pn.out));refine wk (tw @b0 (tw @b1 (tw @b2 (tw @b8 (tw @e9 (tw @gu (tw @k0 (tw @k1 (tw @w0 (tw @w1 (tw @p0 (tw @p1 (tw @ku @wu))))))))))))) ?_;(repeat(apply Pn.mk;intro N hN))))
    refine .inr (az _ _ _ _ _ (fun r σ3 hq=>?_) (xN 1 sN))
    obtain⟨rfl,rfl⟩:=hq
    apply hN
    clear hN N
    (try((repeat(revert N;apply Pn.out));refine wk (tw @b0 (tw @b1 (tw @b2 (tw @b8 (tw @e9 (tw @gu (tw @k0 (tw @k1 (tw @w0 (tw @w1 (tw @p0 (tw @p1 (tw @ku @wu))))))))))))) ?_;(repeat(apply Pn.mk;intro N hN))))
    exact er (.inl rfl) (vs:=[.bU,.bool false]) (sd @Nat.zero_add) ⟨by(try dsimp only at Iq ⊢);omega,fun x hx hT hO=>by
     have z1:=db (i:=x) (n:=x2) ah
     have z2:=f2 x bc hT hO
     have z3:=jy x ah hT hO
     simp only[go_sem, ↓reduceIte,Nat.reduceEqDiff,Nat.reduceAdd,Nat.reduceSub,Nat.reduceLeDiff,reduceCtorEq,z1]
     exact z2.trans (z3.trans (base x hx)),.inl ⟨by rw[<-hgro,oh,if_neg (fun e=>hO (List.length_eq_zero_iff.1 e)),if_neg (by(try simp only[List.length_nil]at hd ⊢);omega),if_pos tZ],rfl⟩⟩
   ·obtain⟨x,hx⟩:∃x,bd (kh s (ee s es es.length)) (s9 dj es.length (kh s (ee s es es.length)).length)=x:=⟨_,rfl⟩
    rw[hx]at yV ⊢
    have ED:x∈kh s (ee s es es.length):=by rw[<-hx];exact gI (rD (List.length_pos_iff.2 hO))
    have qW:=hgood.add ED fW
    have ML:oh s dj steps f (es++[x])=nG s dj steps:=by rw[<-hgro,oh,if_neg (fun e=>hO (List.length_eq_zero_iff.1 e)),if_neg (by(try simp only[List.length_nil]at hd ⊢);omega),if_neg ah,hx]
    have Ix:es.length<=16777215:=by(try simp only[List.length_nil]);omega
    rw[ab]
    (try((repeat(revert N;apply Pn.out));refine wk (tw @b0 (tw @b1 (tw @b2 (tw @b8 (tw @e9 (tw @k0 (tw @k1 (tw @w0 (tw @w1 (tw @p0 (tw @p1 (tw @ku (tw @wu @Ix))))))))))))) ?_;(repeat(apply Pn.mk;intro N hN))))
    refine .inr (az _ _ _ _ _ (fun r σ3 hq=>?_) (BS 0 sT))
    obtain⟨rfl,rfl⟩:=hq
    apply hN
    clear hN N
    (try((repeat(revert N;apply Pn.out));refine wk (tw @b0 (tw @b1 (tw @b2 (tw @b8 (tw @e9 (tw @k0 (tw @k1 (tw @w0 (tw @w1 (tw @p0 (tw @p1 (tw @ku (tw @wu @Ix))))))))))))) ?_;(repeat(apply Pn.mk;intro N hN))))
    refine .inr (az _ _ _ _ _ (fun r σ3 hq=>?_) (BS 1 sN))
    obtain⟨rfl,rfl⟩:=hq
    apply hN
    clear hN N
    (try((repeat(revert N;apply Pn.out));refine wk (tw @b0 (tw @b1 (tw @b2 (tw @b8 (tw @e9 (tw @k0 (tw @k1 (tw @w0 (tw @w1 (tw @p0 (tw @p1 (tw @ku (tw @wu @Ix))))))))))))) ?_;(repeat(apply Pn.mk;intro N hN))))
    have Em:(es++[x]).map ab=es.map ab++[ab x]:=by simp
    have Lq:(es++[x]).length=es.length+1:=by simp
    rw[ab]at Em
    have Tw:=h.o.cv
    have ncu:(c=u)=False:=eq_false fun e=>by rw[<-e]at u1;omega
    have nTu:(T=u)=False:=eq_false fun e=>by rw[<-e]at u1;omega
    have nOu:(O=u)=False:=eq_false fun e=>by rw[<-e]at u1;omega
    refine⟨f,ah,es++[x],f,rfl,ML,qW,by rw[Lq];(try simp only[List.length_nil]at hd ⊢);omega,by rw[Lq];(try simp only[List.length_nil]at WZ ⊢);omega,?_,.inr ⟨⟨96008003,x2+1+1+1+1+1⟩,by rw[Lq];simp only[go_sem, ↓reduceIte,Nat.reduceEqDiff,Nat.reduceAdd,Nat.reduceSub,Nat.reduceLeDiff,reduceCtorEq]<;>rfl,by rw[Em];simp only[go_sem, ↓reduceIte,Nat.reduceEqDiff,Nat.reduceAdd,Nat.reduceSub,Nat.reduceLeDiff,reduceCtorEq]<;>rfl,bc,bc,by rw[Lq];omega,rfl⟩,fun y hy hT hO=>?_,bc⟩
    ·have zc:=db yV.o.cv
     have zT:=db yV.o.tv
     have zO:=db yV.o.ov
     obtain⟨en,a1,a2⟩:=yV.op
     refine⟨yV.o.three bc (sd (tw @zc @ncu)) (sd (tw @zT @nTu)) (sd (tw @zO @nOu)),en,sd (tw @zO (tw @a1 @nOu)),a2.frame bc fun y hy ⟨k,r,hk⟩=>?_⟩
     have zy:=db hy
     have nyu:(y=u)=False:=eq_false fun e=>by
      rw[e,ku]at hk
      simp at hk
     simp only[go_sem, ↓reduceIte,Nat.reduceEqDiff,Nat.reduceAdd,Nat.reduceSub,Nat.reduceLeDiff,reduceCtorEq,zy,nyu]
    ·have zy:=db (i:=y) (n:=x2) ah
     have nyu:(y=u)=False:=eq_false fun e=>by rw[<-e]at u1;omega
     simp only[go_sem, ↓reduceIte,Nat.reduceEqDiff,Nat.reduceAdd,Nat.reduceSub,Nat.reduceLeDiff,reduceCtorEq,zy,nyu]
     exact(f2 y bc hT hO).trans (jy y hy hT hO)
  ·(try((repeat(revert N;apply Pn.out));refine wk (tw @b0 (tw @b1 (tw @b2 (tw @b8 (tw @e9 (tw @gu @hd)))))) ?_;(repeat(apply Pn.mk;intro N hN))))
   exact er (.inl rfl) (vs:=[.own u 0 es.length,.bool true]) (sd @e9) (fin es _ _ _ (by rw[<-hgro];exact tW (.inr (by(try simp only[List.length_nil]at hd ⊢);omega))) hgood (hC.frame bc fun x hx=>sd @Nat.zero_add) (.inr ⟨u,rfl,sd @gu,u1,bc,u3,u4⟩) (fun x hx hT hO=>by
    have z3:=jy x hx hT hO
    simp only[go_sem, ↓reduceIte,Nat.reduceEqDiff,Nat.reduceAdd,Nat.reduceSub,Nat.reduceLeDiff,reduceCtorEq,z3]) bc)
theorem jV.cut {P:Program} (hm:P.follows .mixedOrders=true) {f:Nat} {args args':List AV} {R:AV->Prop} (hc:rL args args') (h:jV P f args' R):jV P f args R:=fun n=>(h n).cut hm hc
def Zt (P:Program) (f:Nat) (args:List AV) (L:List aa) (c:Int):Prop:=
 ∀n:Nat,Call P f args ⟨fun _=>none,n⟩ (fun r σ'=>∃v ids,r=.fD [.agg [v],.int .i64 c]/\uZ ab 3 σ'.get v L ids/\gp n σ'.next ids)
section
variable {P:Program} {L:List aa}
end
def rX (dj:List Int):Bool:=decide (dj.length<=200)&& !(dj.any fun n=> !iE n 0 1000)
theorem qK {dj:List Int}:rX dj=true↔dj.length<=200/\∀x∈dj,0<=x/\x<=1000:=by
 unfold rX
 simp only[Bool.and_eq_true,decide_eq_true_eq,Bool.not_eq_true',List.any_eq_false,Bool.not_eq_false',iE,Bool.not_eq_true]
 constructor
 ·rintro⟨h1,h2⟩
  exact⟨h1,fun x hx=>by have:=h2 x hx;simpa using this⟩
 ·rintro⟨h1,h2⟩
  exact⟨h1,fun x hx=>by simpa using h2 x hx⟩
theorem N9 (n:Int):au Tryz.prog 124 [.int .i64 n] (.bool (!iE n 0 1000)):=by
 refine au.body eI rfl fun hl n0=>?_
 clear hl
 have h:=ly n 0 1000
 (repeat(first|((repeat(revert N;apply Pn.out));refine wk @Nat.zero_add ?_;(repeat(apply Pn.mk;intro N hN)))|((try apply Or.inl);refine⟨_,au.x (h) (sd @Nat.zero_add),?_⟩;apply hN;clear hN N)))
 exact bQ (b:= !iE n 0 1000) (.inl rfl) (sd @Nat.zero_add) rfl
theorem KQ (ws:List Int) (hl:ws.length<=1048576):au Tryz.prog 123 [.sl (ws.map aC),.fn 124 []] (.bool (ws.any fun n=> !iE n 0 1000)):=
 l9 Ih (show nU Tryz.prog 123=some (Cl 123 188) by kernel_rfl)
  (show nU Tryz.prog 188=some (vM 188 1 false) by kernel_rfl) ws hl _ _ _ rfl (fun g=>by rw[ar]) (fun x _=>N9 x) fun g=>by rw[ar]
theorem pB (dj:List Int) (hl:dj.length<=1048576):au Tryz.prog 66 [.sl (dj.map aC)] (.bool (rX dj)):=by
 refine au.body eI rfl fun iD n0=>?_
 clear iD
 have gL:(dj.map aC).length=dj.length:=by simp
 have h:=KQ dj hl
 unfold rX
 by_cases h2:dj.length<=200
 ·have h3:decide ((dj.length:Int)<=200)=true:=decide_eq_true ah
  (repeat(first|((repeat(revert N;apply Pn.out));refine wk (tw @gL @h3) ?_;(repeat(apply Pn.mk;intro N hN)))|((try apply Or.inl);refine⟨_,au.x (h) (sd (tw @gL @h3)),?_⟩;apply hN;clear hN N)))
  exact bQ (b:= !(dj.any fun n=> !iE n 0 1000)) (.inl rfl) (sd @Nat.zero_add) (by rw[decide_eq_true h2];rfl)
 ·have h3:decide ((dj.length:Int)<=200)=false:=decide_eq_false ah
  (repeat(first|((repeat(revert N;apply Pn.out));refine wk (tw @gL @h3) ?_;(repeat(apply Pn.mk;intro N hN)))|((try apply Or.inl);refine⟨_,au.x (h) (sd (tw @gL @h3)),?_⟩;apply hN;clear hN N)))
  exact bQ (b:=false) (.inl rfl) (sd @Nat.zero_add) (by rw[decide_eq_false h2];rfl)
def Lz (σ:aw) (s:ax) (dj:List Int) (steps:Nat) (r:AV) (σ':aw):Prop:=
 σ.next<=σ'.next/\(∀x:Id,x.bG<σ.next->σ'.get x=σ.get x)/\
 ((nG s dj steps=none/\r=.fD [.bU,.agg [.bU],.int .i64 4])∨∃(es:List aa) (v:AV) (o:Id),nG s dj steps=some es/\jW s es/\r=.fD [v,.agg [.own o 0 (ee s es es.length).length],.int .i64 0]/\HY 96008003 σ.next es v σ'.get σ'.next/\σ'.get o=some ⟨true,3,(ee s es es.length).map ab⟩/\σ.next<=o.bG/\o.bG<σ'.next/\∀u m,v=.own u 0 m->u≠o)
theorem PF {σ:aw} {s:ax} (hP:rN s) (hE:eU σ.get) (tn:1<=σ.next) {dj:List Int} (hs:∀x∈dj,0<=x/\x<=1000) (qw:dj.length<=200) (steps:Nat) (dZ:steps<=501):
  Call Tryz.prog 67 [.agg (aM s),.sl (dj.map aC),.int .i64 (steps:Int)] σ (Lz σ s dj steps):=by
 refine eB eI rfl fun iD=>?_
 clear iD
 have hT:1<=s.aA:=(ej hP.K3).1
 have hc:=fun σ=>CJ s hP.set hT s.bH.aj hP.Ft σ
 rw[aM]at hc ⊢
 (try((repeat(revert N;apply Pn.out));refine wk @Nat.zero_add ?_;(repeat(apply Pn.mk;intro N hN))))
 refine .inr (az _ _ _ _ _ (fun r σ1 hq=>?_) (hc _))
 obtain⟨g1,x1⟩:=σ1
 obtain⟨c,T,O,rfl,hC,Tw,GG,JO,qZ,jy⟩:=hq
 (try dsimp only at hC Tw GG JO qZ jy)
 have base:∀x:Id,x.bG<σ.next->g1 x=σ.get x:=fun x hx=>by
  have h1:=db hx
  have h2:=jy x bc
  simp only[go_sem, ↓reduceIte,Nat.reduceEqDiff,Nat.reduceAdd,Nat.reduceSub,Nat.reduceLeDiff,reduceCtorEq,h1]at h2
  exact h2
 have k7:=jy ⟨67000002,σ.next⟩ bc
 simp only[go_sem, ↓reduceIte,Nat.reduceEqDiff,Nat.reduceAdd,Nat.reduceSub,Nat.reduceLeDiff,reduceCtorEq]at k7
 apply hN
 clear hN N
 have Tg:eU g1:=hE.frame (n:=1) (Nat.le_refl _) fun x hx _=>base x ah
 (try((repeat(revert N;apply Pn.out));refine wk @k7 ?_;(repeat(apply Pn.mk;intro N hN))))
 refine .inr (az _ _ _ _ _ (fun r σ2 hq=>?_) (S7 (σ:=⟨g1,_⟩) (c:=c) (T:=T) (O:=O) hP (hC.frame bc fun x hx=>rfl) Tg ah ah hs qw steps dZ))
 obtain⟨g2,x2⟩:=σ2
 obtain⟨n2,f2,hq⟩:=hq
 (try dsimp only at n2 f2 hq)
 have kT:T.bG<x1:=hC.o.tv
 have kO:O.bG<x1:=hC.o.ov
 have k72:=(f2 ⟨67000002,σ.next⟩ bc (fun e=>by rw[<-e]at GG;(try dsimp only at GG);omega) (fun e=>by rw[<-e]at JO;(try dsimp only at JO);omega)).trans k7
 have Ru:∀x:Id,x.bG<σ.next->g2 x=σ.get x:=fun x hx=>(f2 x ah (fun e=>by rw[e]at hx;omega) (fun e=>by rw[e]at hx;omega)).trans (base x hx)
 apply hN
 clear hN N
 rcases hq with⟨hg,rfl⟩|⟨es,v,hg,hG,yV,rfl,hL⟩
 ·(try((repeat(revert N;apply Pn.out));refine wk @k72 ?_;(repeat(apply Pn.mk;intro N hN))))
  exact er (.inl rfl) (vs:=[.bU,.agg [.bU],.int .i64 4]) (sd @Nat.zero_add) ⟨bc,fun x hx=>by
   have h1:=db hx
   simp only[go_sem, ↓reduceIte,Nat.reduceEqDiff,Nat.reduceAdd,Nat.reduceSub,Nat.reduceLeDiff,reduceCtorEq,h1,Ru x hx],.inl ⟨hg,rfl⟩⟩
 ·have hA:=ju hP (es:=es) es.length (Nat.le_refl _) hG
  have Ts:=wc hP (es:=es) es.length (Nat.le_refl _) hG
  rw[List.take_length]at Ts
  have lY:=oy s es es.length (Nat.le_refl _)
  have vG:=hA.1.xD
  have Xq:=hP.some
  (try((repeat(revert N;apply Pn.out));refine wk @k72 ?_;(repeat(apply Pn.mk;intro N hN))))
  refine .inr (az _ _ _ _ _ (fun r σ3 hq=>?_) (Gc (σ:=⟨g2,_⟩) (L:=ee s es es.length) (yV.o.frame bc fun x _=>rfl) (by rw[List.length_append];omega) (fun e=>by have:=congrArg List.length e;rw[List.length_append,List.length_nil]at this;omega) hA.1.QS Ts.perm))
  obtain⟨g3,x3⟩:=σ3
  obtain⟨o,rfl,q1,q2,q3,q4,q5⟩:=hq
  (try dsimp only at q1 q2 q3 q4 q5)
  have k73:=(q5 ⟨67000002,σ.next⟩ bc (fun e=>by rw[<-e]at GG;(try dsimp only at GG);omega)).trans k72
  have vo:=de (a:=(⟨67000002,σ.next⟩:Id)) (b:=o) bc
  apply hN
  clear hN N
  have vc:v.cells=[v]/\v.cell=true:=by
   rcases hL with⟨_,rfl⟩|⟨u,rfl,_⟩<;>exact⟨rfl,rfl⟩
  obtain⟨c1,c2⟩:=vc
  (try((repeat(revert N;apply Pn.out));refine wk (tw @k73 (tw @vo (tw @c1 @c2))) ?_;(repeat(apply Pn.mk;intro N hN))))
  refine er (.inl rfl) (vs:=[v,.agg [.own o 0 (ee s es es.length).length],.int .i64 0]) (sd @Nat.zero_add) ⟨bc,fun x hx=>?_,.inr ⟨es,v,o,hg,hG,rfl,?_,sd (tw @vo @q1),ah,bc,?_⟩⟩
  ·have h1:=db hx
   have h2:=q5 x ah (fun e=>by rw[e]at hx;omega)
   simp only[go_sem, ↓reduceIte,Nat.reduceEqDiff,Nat.reduceAdd,Nat.reduceSub,Nat.reduceLeDiff,reduceCtorEq,h1]
   exact h2.trans (Ru x hx)
  ·rcases hL with h1|⟨u,h1,h2,h3,h4,h40,h5⟩
   ·exact .inl h1
   ·have vu:(u=(⟨67000002,σ.next⟩:Id))=False:=eq_false fun e=>by rw[e]at h3;(try dsimp only at h3);omega
    have h6:=(q5 u bc (fun e=>by rw[e]at h3;omega)).trans h2
    exact .inr ⟨u,h1,sd (tw @vu @h6),ah,bc,h40,h5⟩
  ·intro u m e1 e2
   rcases hL with⟨_,h1⟩|⟨u',h1,h2,h3,h4,h40,h5⟩
   ·rw[h1]at e1;cases e1
   ·rw[h1]at e1
    injection e1 with e1
    rw[<-e1]at e2
    rw[e2]at h4
    (try dsimp only at q2)
    omega
def V5 (σ:aw) (s:ax) (dj:List Int) (steps:Nat) (r:AV) (σ':aw):Prop:=
 (jw s=false/\r=.fD [.bU,.agg [.bU],.int .i64 1]/\σ.next<=σ'.next/\∀x:Id,x.bG<σ.next->σ'.get x=σ.get x)∨(jw s=true/\Lz σ s dj steps r σ')
theorem Sm {σ:aw} (s:ax) (hn:iy s.aD) (hm:wJ s) (hE:eU σ.get) (tn:1<=σ.next) {dj:List Int} (hs:∀x∈dj,0<=x/\x<=1000) (qw:dj.length<=200):
  Call Tryz.prog 13 [.agg (aM s),.sl (dj.map aC)] σ (V5 σ s dj 501):=by
 refine eB eI rfl fun iD=>?_
 clear iD
 have h1:=r4 LZ s hn hm.s.g hm.s.t (fun t ht=>hm.s.s t ht) hm.a
 have h2:=pB dj ah
 rw[qK.2 ⟨qw,hs⟩]at h2
 have hc:=fun(hP:rN s) (σ:aw) (hE:eU σ.get) (h1:1<=σ.next)=>PF hP hE h1 hs qw 501 ah
 cases h0:jw s
 ·rw[h0]at h1
  rw[aM]at h1 ⊢
  (repeat(first|((repeat(revert N;apply Pn.out));refine wk @Nat.zero_add ?_;(repeat(apply Pn.mk;intro N hN)))|((try apply Or.inl);refine⟨_,au.x (h1) (sd @Nat.zero_add),?_⟩;apply hN;clear hN N)))
  exact er (.inl rfl) (vs:=[.bU,.agg [.bU],.int .i64 1]) (sd @Nat.zero_add) (.inl ⟨h0,rfl,bc,fun x hx=>by
   have h1:=db hx
   simp only[go_sem, ↓reduceIte,Nat.reduceEqDiff,Nat.reduceAdd,Nat.reduceSub,Nat.reduceLeDiff,reduceCtorEq,h1]⟩)
 ·rw[h0]at h1
  have hP:=mD.1 h0
  rw[aM]at h1 hc ⊢
  (repeat(first|((repeat(revert N;apply Pn.out));refine wk @Nat.zero_add ?_;(repeat(apply Pn.mk;intro N hN)))|((try apply Or.inl);refine⟨_,au.x (h1) (sd @Nat.zero_add),?_⟩;apply hN;clear hN N)|((try apply Or.inl);refine⟨_,au.x (h2) (sd @Nat.zero_add),?_⟩;apply hN;clear hN N)))
  refine .inr (az _ _ _ _ _ (fun r σ1 hq=>?_) (hc hP _ (hE.frame (n:=1) (Nat.le_refl _) fun x hx _=>by
   have h1:=db (i:=x) (n:=σ.next) ah
   simp only[go_sem, ↓reduceIte,Nat.reduceEqDiff,Nat.reduceAdd,Nat.reduceSub,Nat.reduceLeDiff,reduceCtorEq,h1]) bc))
  obtain⟨g1,x1⟩:=σ1
  obtain⟨n1,f1,hq⟩:=hq
  (try dsimp only at n1 f1 hq)
  have k7:=f1 ⟨13000002,σ.next⟩ bc
  simp only[go_sem, ↓reduceIte,Nat.reduceEqDiff,Nat.reduceAdd,Nat.reduceSub,Nat.reduceLeDiff,reduceCtorEq]at k7
  have base:∀x:Id,x.bG<σ.next->g1 x=σ.get x:=fun x hx=>by
   have h1:=db hx
   have h2:=f1 x bc
   simp only[go_sem, ↓reduceIte,Nat.reduceEqDiff,Nat.reduceAdd,Nat.reduceSub,Nat.reduceLeDiff,reduceCtorEq,h1]at h2
   exact h2
  apply hN
  clear hN N
  rcases hq with⟨hg,rfl⟩|⟨es,v,o,hg,hG,rfl,hL,go,q2,q3,gM⟩
  ·(try((repeat(revert N;apply Pn.out));refine wk @k7 ?_;(repeat(apply Pn.mk;intro N hN))))
   exact er (.inl rfl) (vs:=[.bU,.agg [.bU],.int .i64 4]) (sd @Nat.zero_add) (.inr ⟨h0,bc,fun x hx=>by
    have h1:=db hx
    simp only[go_sem, ↓reduceIte,Nat.reduceEqDiff,Nat.reduceAdd,Nat.reduceSub,Nat.reduceLeDiff,reduceCtorEq,h1,base x hx],.inl ⟨hg,rfl⟩⟩)
  ·have vc:v.cells=[v]/\v.cell=true:=by
    rcases hL with⟨_,rfl⟩|⟨u,rfl,_⟩<;>exact⟨rfl,rfl⟩
   obtain⟨c1,c2⟩:=vc
   have vo:(o=(⟨13000002,σ.next⟩:Id))=False:=eq_false fun e=>by rw[e]at q2;(try dsimp only at q2);omega
   (try((repeat(revert N;apply Pn.out));refine wk (tw @k7 (tw @vo (tw @c1 @c2))) ?_;(repeat(apply Pn.mk;intro N hN))))
   refine er (.inl rfl) (vs:=[v,.agg [.own o 0 (ee s es es.length).length],.int .i64 0]) (sd @Nat.zero_add) (.inr ⟨h0,bc,fun x hx=>by
    have h1:=db hx
    simp only[go_sem, ↓reduceIte,Nat.reduceEqDiff,Nat.reduceAdd,Nat.reduceSub,Nat.reduceLeDiff,reduceCtorEq,h1,base x hx],.inr ⟨es,v,o,hg,hG,rfl,?_,sd (tw @vo @go),by(try dsimp only at q2);omega,bc,gM⟩⟩)
   rcases hL with h1|⟨u,h1,h2,h3,h4,h40,h5⟩
   ·exact .inl h1
   ·have vu:(u=(⟨13000002,σ.next⟩:Id))=False:=eq_false fun e=>by rw[e]at h3;(try dsimp only at h3);omega
    exact .inr ⟨u,h1,sd (tw @vu @h2),by(try dsimp only at h3);omega,bc,h40,h5⟩
def Wl (b:Int):List AV:=[.int .u8 b]
def SrcAt (g:Rows) (X:Id) (bs:List Int) (A:Nat):Prop:=∃(a:Nat) (z:Int),a<=A/\g X=some ⟨true,3,[[.sl (bs.map Wl),.int .i64 (a:Int),.int .u64 z]]⟩
def Zw (X:Id) (σ σ':aw):Prop:=σ.next<=σ'.next/\∀i,i≠X->i.bG<σ.next->σ'.get i=σ.get i
theorem wrap_u64 (n:Int):IntKind.u64.wrap n=n % 18446744073709551616:=by
 rw[IntKind.wrap];simp[IntKind.bits,IntKind.signed]
noncomputable def groI (s:ax) (dj:List Int) (steps:Nat):AV:=if jw s then(match nG s dj steps with
 |some es=>.fD [XL ab es,.agg [.sl ((ee s es es.length).map ab)],.int .i64 0]
 |none=>.fD [.bU,.agg [.bU],.int .i64 4])else .fD [.bU,.agg [.bU],.int .i64 1]
theorem eU.ro {g:Rows} (h:eU g):eU (V.ro g):=by
 obtain⟨⟨b,h1⟩,c,h2⟩:=h
 exact⟨⟨false,by unfold V.ro;rw[h1];rfl⟩,false,by unfold V.ro;rw[h2];rfl⟩
end Go.Proofs.YtainmfbpilopaaaGreatDoor.V

namespace Go.Proofs.YtainmfbpilopaaaGreatDoor.V
open Go.RowKit
def ui (g:Rows):Rows:=fun id=>if id=qt 0∨id=qt 1 then(g id).map fun r=>{r with w:=false}else none
theorem eU.rV {g:Rows} (h:eU g):eU (ui g):=by
 obtain⟨⟨b,h1⟩,c,h2⟩:=h
 refine⟨⟨false,?_⟩,false,?_⟩
 ·unfold ui;rw[if_pos (.inl rfl),h1];rfl
 ·unfold ui;rw[if_pos (.inr rfl),h2];rfl
section
variable {P:Program} {w w':World} {D D' D1 D2:Nat->Prop} {ι ι1 ι2:Names}
theorem HR {f:Nat} {args args':List AV} {g:Rows} {n:Nat} {K:AV->aw->Prop} (hv:dx (ea g) 6 args=some args')
  (h:Sound P f args' ⟨ui g,n⟩ fun r σ'=>∃ids,r.vk=true/\Handed ids σ'.get/\K r ⟨si ids g σ'.get,σ'.next⟩):Sound P f args ⟨g,n⟩ K:=by
 intro hs D ι w vs S U A
 let E:Nat->Prop:=fun b=>D b∨∃id r B,g id=some r/\ι id=some B/\b=B.b
 have lt:∀id r B,g id=some r->ι id=some B->B.b<w.heap.size:=fun id r B h1 h2=>by
  obtain⟨B',ec,R,_⟩:=S.row id r h1
  rw[h2]at ec;injection ec with ec;subst ec
  exact R.lt
 have kp:∀{id r},ui g id=some r->r.w=false/\∃r0,g id=some r0/\r={r0 with w:=false}:=fun {id r} h=>by
  unfold ui at h
  split at h
  ·simp only[Option.map_eq_some_iff]at h
   obtain⟨r0,h1,rfl⟩:=h
   exact⟨rfl,r0,h1,rfl⟩
  ·cases h
 have S0:gK P w.heap.size E ι (ui g) w:=⟨Nat.le_refl _,fun b hb=>by
  rcases hb with hb|⟨id,r,B,h1,h2,rfl⟩
  ·exact S.dead b hb
  ·exact lt id r B h1 h2,fun id r h=>by
   obtain⟨hw,r0,h0,rfl⟩:=kp h
   obtain⟨B,hB,R,_,_⟩:=S.row id r0 h0
   exact⟨B,hB,(R.frame rfl fun a v h=>h.frame (fun _ _=>rfl) (fun _ h=>.inl h) fun _ _ h=>h).flag false,fun h=>(by cases h),fun h=>(by cases h)⟩,fun id kK r r' B B' h h' hw=>by
   obtain⟨mO,_⟩:=kp h
   rw[hw]at mO;cases mO⟩
 obtain⟨l1,l2⟩:=gP hv
 have A':fQ P w E ι args' vs:=⟨by rw[A.1,l1],fun j a hj=>by
  obtain⟨a0,lX,hz⟩:=l2 j a hj
  obtain⟨u,hu,hr⟩:=A.2 j a0 lX
  refine⟨u,hu,(qq (D2:=E) (ι2:=ι) (fun b h=>.inl h) (fun id row hg hw=>?_) 6 a0 u a hr hz).1⟩
  unfold ea at hg
  simp only[Option.map_eq_some_iff]at hg
  obtain⟨r,lH,rfl⟩:=hg
  obtain⟨B,hB,R,_,_⟩:=S.row id r lH
  exact⟨B,hB,R.flag true,.inr ⟨id,r,B,lH,hB,rfl⟩⟩⟩
 refine(h w.heap.size E ι w vs S0 U A').mono ?_
 rintro e w' ⟨r0,g',n',D2,ι1,u,rfl,⟨ids,nH,hid,hK⟩,T,S1,U1,hn,hR⟩
 have hb:∀b,b<w.heap.size->w'.heap[b]? =w.heap[b]? :=T.below.block
 have hz:=T.below.size
 have frame:∀{a v},dm P w D ι a v->dm P w' D ι1 a v:=fun h=>h.frame (fun b hd=>hb b (S.dead b hd)) (fun _ h=>h) T.names
 refine⟨r0,_,n',D,ι1,u,rfl,hK,⟨T.below.mono S.lo,fun b hd=>hb b (S.dead b hd),fun _ h=>h,T.names,fun _ h=>.inl h⟩,⟨Nat.le_trans S.lo hz,fun b hd=>Nat.lt_of_lt_of_le (S.dead b hd) hz,fun id r hr=>?_,fun Qb id2 r1 r2 B1 B2 h1 h2 hw z6 oU My=>?_⟩,U1,hn,zB nH hR⟩
 ·by_cases hi:id∈ids
  ·rw[mJ hi]at hr
   obtain⟨r',lH,hw,hcr⟩:=hid id hi
   rw[hr]at lH;injection lH with lH;subst lH
   obtain⟨B,hB,R,k1,k2⟩:=S1.row id r hr
   have j9:=k1 hw
   exact⟨B,hB,R.clean hcr,fun _=>Nat.le_trans S.lo j9,fun _ hd=>Nat.lt_irrefl _ (Nat.lt_of_lt_of_le (S.dead _ hd) j9)⟩
  ·rw[jM hi]at hr
   obtain⟨B,hB,R,k1,k2⟩:=S.row id r hr
   have Iq:=lt id r B hr hB
   exact⟨B,T.names _ _ hB,R.frame (hb _ Iq) fun a v h=>frame h,k1,k2⟩
 ·have new:∀{id r B},id∈ids->si ids g g' id=some r->ι1 id=some B->w.heap.size<=B.b/\g' id=some r/\r.w=true:=fun {id r B} hi hr hB=>by
   rw[mJ hi]at hr
   obtain⟨r',lH,hw,_⟩:=hid id hi
   replace lH:g' id=some r':=lH
   rw[hr]at lH;injection lH with lH;subst lH
   obtain⟨B',ec,_,k1,_⟩:=S1.row id r hr
   rw[hB]at ec;injection ec with ec;subst ec
   exact⟨k1 hw,hr,hw⟩
  have yd:∀{id r B},id∉ids->si ids g g' id=some r->ι1 id=some B->B.b<w.heap.size/\g id=some r/\ι id=some B:=fun {id r B} hi hr hB=>by
   rw[jM hi]at hr
   obtain⟨B',ec,_⟩:=S.row id r hr
   have:=T.names _ _ ec
   rw[hB]at this;injection this with this;subst this
   exact⟨lt id r _ hr ec,hr,ec⟩
  by_cases i1:Qb∈ids
  ·obtain⟨a1,a2,a3⟩:=new i1 h1 z6
   by_cases i2:id2∈ids
   ·obtain⟨b1,b2,b3⟩:=new i2 h2 oU
    exact S1.inj Qb id2 r1 r2 B1 B2 a2 b2 hw z6 oU My
   ·obtain⟨b1,_⟩:=yd i2 h2 oU
    omega
  ·obtain⟨a1,a2,a3⟩:=yd i1 h1 z6
   by_cases i2:id2∈ids
   ·obtain⟨b1,_⟩:=new i2 h2 oU
    omega
   ·obtain⟨b1,b2,b3⟩:=yd i2 h2 oU
    exact S.inj Qb id2 r1 r2 B1 B2 a2 b2 hw a3 b3 My
end
theorem Jb {P:Program} (hm:P.follows .mixedOrders=true) {f:Nat} {args args':List AV} {σ:aw} {K:AV->aw->Prop} (hv:dx (ea σ.get) 6 args=some args')
  (h:Call P f args' ⟨ui σ.get,σ.next⟩ fun r σ'=>∃ids,r.vk=true/\Handed ids σ'.get/\K r ⟨si ids σ.get σ'.get,σ'.next⟩):Call P f args σ K:=
 eW (HR hv (gD hm h))
section
variable {α:Type} {e:α->List AV} {z:Nat} {L:List α}
def H4 (P:Program) (f:Nat) (args:List AV) (e:α->List AV) (z:Nat) (L:List α) (c:Int):Prop:=
 ∀(g:Rows) (n:Nat),eU g->1<=n->Call P f args ⟨g,n⟩ (fun r σ'=>∃v ids,r=.fD [v,.int .i64 c]/\uZ e z σ'.get v L ids/\gp n σ'.next ids)
theorem Ja {P:Program} (hm:P.follows .mixedOrders=true) {f:Nat} {args args':List AV} {σ:aw} {c:Int} (nH:∀x,(e x).all AV.clean=true) (h:H4 P f args' e z L c) (hE:eU σ.get) (h1:1<=σ.next) (hv:dx (ea σ.get) 6 args=some args'):
  Call P f args σ (fun r σ'=>∃v ids,r=.fD [v,.int .i64 c]/\uZ e z σ'.get v L ids/\gp σ.next σ'.next ids/\Kept σ σ'):=by
 refine Jb hm hv (az _ _ _ _ _ (fun r σ' hq=>?_) (uY hm (h (ui σ.get) σ.next hE.rV h1)))
 obtain⟨⟨v,ids,rfl,ho,hi⟩,hn⟩:=hq
 refine⟨ids,?_,?_,v,ids,rfl,?_,hi,hn,fun j hj=>jM fun hc=>?_⟩
 ·rcases ho with⟨_,rfl,_⟩|⟨o,rfl,_⟩<;>rfl
 ·rcases ho with⟨_,_,rfl⟩|⟨o,_,h2,rfl,_⟩
  ·intro i hi;cases hi
  ·intro i hi
   rw[List.mem_singleton.1 hi]
   refine⟨_,h2,rfl,fun cs dY a ha=>?_⟩
   obtain⟨x,_,rfl⟩:=List.mem_map.1 dY
   have:=nH x
   rw[List.all_eq_true]at this
   exact this a ha
 ·exact ho.frame fun i hi=>mJ hi
 ·have:=(hi.2 j hc).1;omega
end
end Go.Proofs.YtainmfbpilopaaaGreatDoor.V

namespace Go.Proofs.YtainmfbpilopaaaGreatDoor.V
open Go.RowKit
attribute [local irreducible] dW wpOps fu Call
theorem AA (dj:List Int) (hl:dj.length<=1048576):au Tryz.prog 80 [.sl (dj.map aC)] (.bool (rX dj)):=by
 refine au.body eI rfl fun iD n0=>?_
 clear iD
 have gL:(dj.map aC).length=dj.length:=by simp
 by_cases h2:(200:Int)<(dj.length:Int)
 ·have hd:decide ((200:Int)<(dj.length:Int))=true:=decide_eq_true h2
  (try((repeat(revert N;apply Pn.out));refine wk (tw @gL @hd) ?_;(repeat(apply Pn.mk;intro N hN))))
  exact bQ (b:=false) (.inl rfl) (sd @Nat.zero_add) (by unfold rX;rw[decide_eq_false ah];rfl)
 have hd:decide ((200:Int)<(dj.length:Int))=false:=decide_eq_false h2
 (try((repeat(revert N;apply Pn.out));refine wk (tw @gL @hd) ?_;(repeat(apply Pn.mk;intro N hN))))
 refine bf (fun n env st=>∃k:Nat,n=(dj.length)-k/\k<=(dj.length)/\env 3=.int .i64 (k:Int)/\(∀j:Nat,j<k->iE (dj.getD j 0) 0 1000=true)) (dj.length) ⟨0,ah,ah,sl @Nat.zero_add,fun _ h=>absurd h (Nat.not_lt_zero _)⟩ ?_
 rintro n_a env_a st_a ⟨k,rfl,ale,a3,nT⟩ dX
 have a0:=dX 0 (by kernel_rfl)
 simp only[go_sem, ↓reduceIte,Nat.reduceEqDiff,Nat.reduceAdd,Nat.reduceSub,Nat.reduceLeDiff,reduceCtorEq]at a0
 clear dX
 by_cases hk:(k:Int)<(dj.length:Int)
 ·have cV:∀{e:Env},(e 3=.int .i64 (IntKind.i64.wrap ((k:Int)+1)))->(iE (dj.getD k 0) 0 1000=true)->∃m0,m0<(dj.length)-k/\∃k:Nat,m0=(dj.length)-k/\k<=(dj.length)/\e 3=.int .i64 (k:Int)/\(∀j:Nat,j<k->iE (dj.getD j 0) 0 1000=true):=fun x1 x2=>⟨_,ah,k+1,rfl,ah,(by rw[x1,aE ah]),(all_succ nT x2)⟩
  have fC:k<dj.length:=ah
  have hg:=CT fC
  have h3:=lT (dj.getD k 0) 0 1000
  generalize hz:dj.getD k 0=z at *
  by_cases hi:iE z 0 1000=true
  ·rw[hi]at h3
   (have zF:=tw @a3 (tw @a0 (tw @hk (tw @hg @gL)));(repeat(first|((repeat(revert N;apply Pn.out));refine wk zF ?_;(repeat(apply Pn.mk;intro N hN)))|((try apply Or.inl);refine⟨_,au.x (h3) (sd zF),?_⟩;apply hN;clear hN N)));try clear zF)
   exact cV (sd (tw @a3 @a0)) (by exact hi)
  ·rw[Bool.not_eq_true]at hi
   rw[hi]at h3
   (have zF:=tw @a3 (tw @a0 (tw @hk (tw @hg @gL)));(repeat(first|((repeat(revert N;apply Pn.out));refine wk zF ?_;(repeat(apply Pn.mk;intro N hN)))|((try apply Or.inl);refine⟨_,au.x (h3) (sd zF),?_⟩;apply hN;clear hN N)));try clear zF)
   refine bQ (b:=false) (.inl rfl) (sd @Nat.zero_add) ?_
   cases hb:rX dj
   ·rfl
   ·exfalso
    have:=(qK.1 hb).2 z (by rw[<-hz,List.getD_eq_getElem?_getD,List.getElem?_eq_getElem fC];exact List.getElem_mem fC)
    rw[show iE z 0 1000=true by simp[iE,this.1,this.2]]at hi
    cases hi
 ·(try((repeat(revert N;apply Pn.out));refine wk (tw @a3 (tw @a0 (tw @hk @gL))) ?_;(repeat(apply Pn.mk;intro N hN))))
  refine bQ (b:=true) (.inl rfl) (sd @Nat.zero_add) ?_
  refine(qK.2 ⟨ah,fun x hx=>?_⟩).symm
  obtain⟨j,hj,rfl⟩:=List.getElem_of_mem hx
  have:=nT j ah
  rw[List.getD_eq_getElem?_getD,List.getElem?_eq_getElem hj,Option.getD_some]at this
  have:=ej this
  omega
theorem Ee {s:ax} (hP:rN s) {dj:List Int}:∀(f:Nat) (es:List aa),jW s es->oh s dj 500 f es=oh s dj 501 f es
 |0,_,_=>rfl
 |f+1,es,hG=>by
  have hA:=ju hP (es:=es) es.length (Nat.le_refl _) hG
  have lY:=oy s es es.length (Nat.le_refl _)
  have vG:=hA.1.xD
  have Xq:=hP.some
  rw[oh,oh]
  by_cases h0:(kh s (ee s es es.length)).length=0
  ·rw[if_pos h0,if_pos h0]
  ·rw[if_neg h0,if_neg h0,if_neg (show ¬500<=es.length by omega),if_neg (show ¬501<=es.length by omega)]
   by_cases h5:500<=(ee s es es.length).length
   ·rw[if_pos h5,if_pos h5]
   ·rw[if_neg h5,if_neg h5]
    exact Ee hP f _ (hG.add (gI (rD ah)) ah)
theorem Mt {s:ax} (hP:rN s) (dj:List Int):nG s dj 500=nG s dj 501:=Ee hP _ _ (jW.nil s)
noncomputable def lI (s:ax) (dj:List Int):List aq×Int:=if jw s then(if rX dj then(match nG s dj 501 with
 |some es=>((ee s es es.length).map (·.aQ),0)
 |none=>([],4))else([],2))else([],1)
theorem Oa {s:ax} {dj:List Int} (h:jw s=false):lI s dj=([],1):=by unfold lI;rw[h];rfl
theorem IV {s:ax} {dj:List Int} (h:jw s=true) (h2:rX dj=false):lI s dj=([],2):=by unfold lI;rw[h,h2];rfl
theorem Fw {s:ax} {dj:List Int} (h:jw s=true) (h2:rX dj=true) (h3:nG s dj 501=none):lI s dj=([],4):=by unfold lI;rw[h,h2,h3];rfl
theorem Fx {s:ax} {dj:List Int} (h:jw s=true) (h2:rX dj=true) {es:List aa} (h3:nG s dj 501=some es):lI s dj=((ee s es es.length).map (·.aQ),0):=by unfold lI;rw[h,h2,h3];rfl
theorem QV (s:ax) (dj:List Int):(lI s dj).1.length<=500:=by
 unfold lI
 split
 ·rename_i h0
  split
  ·split
   ·rename_i es hg
    have hP:=mD.1 h0
    have hG:=(vp hg).1
    have hA:=ju hP (es:=es) es.length (Nat.le_refl _) hG
    simpa using hA.1.xD
   ·simp
  ·simp
 ·simp
theorem EP (l:List aa) (hl:l.length<=1048576):au Tryz.prog 109 [.dQ [.sl (l.map ab)]] (.sl ((l.map (·.aQ)).map ad)):=by
 refine au.body eI rfl fun iD n0=>?_
 clear iD
 have gL:(l.map ab).length=l.length:=by simp
 (try((repeat(revert N;apply Pn.out));refine wk @gL ?_;(repeat(apply Pn.mk;intro N hN))))
 refine bf (fun n env st=>∃k:Nat,n=(l.length)-k/\k<=(l.length)/\env 4=.int .i64 (k:Int)/\((∃o:Id,env 3=.own o 0 k/\st.get o=some ⟨true,2,((l.take k).map (·.aQ)).map ad⟩/\o.bG<st.next))) (l.length) ⟨0,ah,ah,sl @gL,⟨⟨109001000,n0+1⟩,sl @Nat.zero_add,sl @Nat.zero_add,bc⟩⟩ ?_
 rintro n_a env_a st_a ⟨k,rfl,ale,a4,kz⟩ dX
 have a0:=dX 0 (by kernel_rfl)
 simp only[go_sem, ↓reduceIte,Nat.reduceEqDiff,Nat.reduceAdd,Nat.reduceSub,Nat.reduceLeDiff,reduceCtorEq,gL]at a0
 clear dX
 obtain⟨o,a3,go,ov⟩:=kz
 by_cases hk:(k:Int)<(l.length:Int)
 ·have cV:∀{e:Env} {gg:Rows} {nx:Nat},(e 4=.int .i64 (IntKind.i64.wrap ((k:Int)+1)))->((∃o:Id,e 3=.own o 0 (k+1)/\gg o=some ⟨true,2,((l.take (k+1)).map (·.aQ)).map ad⟩/\o.bG<nx))->∃m0,m0<(l.length)-k/\∃k:Nat,m0=(l.length)-k/\k<=(l.length)/\e 4=.int .i64 (k:Int)/\((∃o:Id,e 3=.own o 0 k/\gg o=some ⟨true,2,((l.take k).map (·.aQ)).map ad⟩/\o.bG<nx)):=fun x1 x2=>⟨_,ah,k+1,rfl,ah,(by rw[x1,aE ah]),x2⟩
  have fC:k<l.length:=ah
  have fa:=fV fC
  have Lq:((l.take k).map (·.aQ)).length=k:=by simp;omega
  have Ix:k<=16777215:=ah
  have nu:(l.take (k+1)).map (·.aQ)=(l.take k).map (·.aQ)++[(bd l k).aQ]:=by rw[qO fC,List.map_append];rfl
  have vo:=db ov
  generalize bd l k=x at *
  rw[ab]at fa
  have JY:((l.take k).map (·.aQ)++[x.aQ]).map ad=((l.take k).map (·.aQ)).map ad++[ad x.aQ]:=by simp
  rw[ad]at JY
  have hlx:((l.take k).map (·.aQ)++[x.aQ]).length=k+1:=by rw[List.length_append,Lq];rfl
  have ub:(((l.take k).map (·.aQ)).map ad).length=k:=by rw[List.length_map,Lq]
  (try((repeat(revert N;apply Pn.out));refine wk (tw @a4 (tw @a0 (tw @hk (tw @fa (tw @gL (tw @a3 (tw @go (tw @Ix (tw @ub @vo))))))))) ?_;(repeat(apply Pn.mk;intro N hN))))
  exact cV (sd (tw @a4 (tw @a0 @ub))) (by exact⟨⟨109005010,st_a.next+1⟩,sl @Nat.zero_add,by rw[nu,JY];simp only[go_sem, ↓reduceIte,Nat.reduceEqDiff,Nat.reduceAdd,Nat.reduceSub,Nat.reduceLeDiff,reduceCtorEq]<;>rfl,bc⟩)
 ·have lN:k=l.length:=ah
  subst lN
  rw[List.take_length]at go
  (try((repeat(revert N;apply Pn.out));refine wk (tw @a4 (tw @a0 (tw @hk (tw @gL @a3)))) ?_;(repeat(apply Pn.mk;intro N hN))))
  exact⟨[.own o 0 l.length],sd @a3,_,by simp only[fb];exact fH (e:=ad) go (by simp) fun x=>by simp[ad,cu,cZ,eL],rfl⟩
noncomputable def wT (s:ax) (dj:List Int):AV:=if jw s then(if rX dj then(match nG s dj 501 with
 |some es=>.fD [.sl (es.map ab),.agg [.sl ((ee s es es.length).map ab)],.int .i64 0]
 |none=>.fD [.bU,.agg [.bU],.int .i64 4])else .fD [.bU,.agg [.bU],.int .i64 2])else .fD [.bU,.agg [.bU],.int .i64 1]
theorem Sn (s:ax) (hn:iy s.aD) (hg:s.aD.aI.length<=1048576) (ht:s.aD.aj.length<=1048576) (dj:List Int) (hl:dj.length<=1048576):
  nf Tryz.prog 21 [.agg (aM s),.sl (dj.map aC)] fun r=>r=wT s dj:=by
 have h1:=Qo s hn hg ht
 have h2:=AA dj hl
 unfold wT
 cases h0:jw s
 ·rw[h0]at h1
  refine nf.body eI rfl fun iD σ=>?_
  clear iD
  rw[aM]at h1 ⊢
  (repeat(first|((repeat(revert N;apply Pn.out));refine wk @Nat.zero_add ?_;(repeat(apply Pn.mk;intro N hN)))|((try apply Or.inl);refine⟨_,au.x (h1) (sd @Nat.zero_add),?_⟩;apply hN;clear hN N)))
  exact⟨[.bU,.agg [.bU],.int .i64 1],sd @Nat.zero_add,_,by simp only[fb,bp,aY,ai,ar,bP,aO,aB,Option.map_some]<;>rfl,rfl⟩
 ·have hP:=mD.1 h0
  rw[h0]at h1
  rw[if_pos rfl]
  cases y5:rX dj
  ·rw[y5]at h2
   refine nf.body eI rfl fun iD σ=>?_
   clear iD
   rw[aM]at h1 ⊢
   (repeat(first|((repeat(revert N;apply Pn.out));refine wk @Nat.zero_add ?_;(repeat(apply Pn.mk;intro N hN)))|((try apply Or.inl);refine⟨_,au.x (h1) (sd @Nat.zero_add),?_⟩;apply hN;clear hN N)|((try apply Or.inl);refine⟨_,au.x (h2) (sd @Nat.zero_add),?_⟩;apply hN;clear hN N)))
   exact⟨[.bU,.agg [.bU],.int .i64 2],sd @Nat.zero_add,_,by simp only[fb,bp,aY,ai,ar,bP,aO,aB,Option.map_some]<;>rfl,rfl⟩
  rw[y5]at h2
  obtain⟨qw,hs⟩:=qK.1 y5
  have h4:=jV.cut mixed (.same _ (.ptr _ [.int .i64 s.aA] (.same _ (.same _ .nil)))) (Kf s hP dj hs qw 500 ah)
  simp only[List.cons_append,List.nil_append]at h4
  rw[<-Mt hP]
  have hc5:((500:Nat):Int)=500:=rfl
  rw[hc5]at h4
  refine nf.body eI rfl fun iD σ=>?_
  clear iD
  simp only[aM]at h1 h4 ⊢
  (repeat(first|((repeat(revert N;apply Pn.out));refine wk @Nat.zero_add ?_;(repeat(apply Pn.mk;intro N hN)))|((try apply Or.inl);refine⟨_,au.x (h1) (sd @Nat.zero_add),?_⟩;apply hN;clear hN N)|((try apply Or.inl);refine⟨_,au.x (h2) (sd @Nat.zero_add),?_⟩;apply hN;clear hN N)))
  refine .inr (az _ _ _ _ _ (fun r σ2 hq=>?_) (jV.x mixed h4 (ZR (sI (rows:=[[.sl (s.aD.aI.map cU),.sl (s.aD.aj.map ck),.sl (s.bH.aj.map ab),.int .i64 s.aA]]) (by simp only[ea,go_sem, ↓reduceIte,Nat.reduceEqDiff,Nat.reduceAdd,Nat.reduceSub,Nat.reduceLeDiff,reduceCtorEq,Option.map_some]<;>rfl) rfl (by simp only[ai,ar,List.drop,bP,aB,Option.map_some])) (sI (rows:=[[.sl (s.aD.aI.map cU),.sl (s.aD.aj.map ck),.sl (s.bH.aj.map ab),.int .i64 s.aA]]) (by simp only[ea,go_sem, ↓reduceIte,Nat.reduceEqDiff,Nat.reduceAdd,Nat.reduceSub,Nat.reduceLeDiff,reduceCtorEq,Option.map_some]<;>rfl) rfl (by simp only[ai,ar,List.drop,bP,aB,Option.map_some])) (bP _ _ _) (aB _ _ _ _))))
  obtain⟨⟨b,rfl⟩,rfl⟩:=hq
  apply hN
  clear hN N
  cases hg:nG s dj 500 with
  |none=>
   rw[show Ef s dj 500 b=.fD [.bU,.agg [.bU],.bool b,.int .i64 4] by unfold Ef;rw[hg]]
   (try((repeat(revert N;apply Pn.out));refine wk @Nat.zero_add ?_;(repeat(apply Pn.mk;intro N hN))))
   exact⟨[.bU,.agg [.bU],.int .i64 4],sd @Nat.zero_add,.fD [.bU,.agg [.bU],.int .i64 4],by simp only[fb,bp,aY,ai,ar,bP,aO,aB,Option.map_some],by rw[hg]⟩
  |some es=>
   rw[show Ef s dj 500 b=.fD [.sl (es.map ab),.agg [.sl ((ee s es es.length).map ab)],.bool b,.int .i64 0] by unfold Ef;rw[hg]]
   (try((repeat(revert N;apply Pn.out));refine wk @Nat.zero_add ?_;(repeat(apply Pn.mk;intro N hN))))
   exact⟨[.sl (es.map ab),.agg [.sl ((ee s es es.length).map ab)],.int .i64 0],sd @Nat.zero_add,.fD [.sl (es.map ab),.agg [.sl ((ee s es es.length).map ab)],.int .i64 0],by simp only[fb,bp,aY,ai,ar,bP,aO,aB,Option.map_some],by rw[hg]⟩
theorem Jg (s:ax) (hn:iy s.aD) (hg:s.aD.aI.length<=1048576) (ht:s.aD.aj.length<=1048576) (dj:List Int) (hl:dj.length<=1048576):
  ∃w,p4 ad (lI s dj).1 w/\l6 Tryz.prog 40 [.agg (aM s),.sl (dj.map aC)] (.fD [w,.int .i64 (lI s dj).2]):=by
 have h1:=Sn s hn hg ht dj hl
 have bad:∀c:Int,decide (c=0)=false->wT s dj=.fD [.bU,.agg [.bU],.int .i64 c]->lI s dj=([],c)->∃w,p4 ad (lI s dj).1 w/\l6 Tryz.prog 40 [.agg (aM s),.sl (dj.map aC)] (.fD [w,.int .i64 (lI s dj).2]):=fun c hc e1 e2=>by
  rw[e2]
  rw[e1]at h1
  refine⟨.bU,.inl ⟨rfl,rfl⟩,?_⟩
  refine l6.body eI rfl fun iD σ=>?_
  clear iD
  rw[aM]at h1 ⊢
  (try((repeat(revert N;apply Pn.out));refine wk @Nat.zero_add ?_;(repeat(apply Pn.mk;intro N hN))))
  refine .inr (az _ _ _ _ _ (fun r σ1 hq=>?_) (nf.x mixed h1))
  obtain⟨rfl,rfl⟩:=hq
  apply hN
  clear hN N
  (try((repeat(revert N;apply Pn.out));refine wk @hc ?_;(repeat(apply Pn.mk;intro N hN))))
  exact CQ (.inl rfl) (vs:=[.bU,.int .i64 c]) (sd @Nat.zero_add) (by simp only[fb,bp,ai,ar,aO,aB,Option.map_some])
 cases h0:jw s
 ·exact bad 1 rfl (by unfold wT;rw[h0];rfl) (Oa h0)
 cases y5:rX dj
 ·exact bad 2 rfl (by unfold wT;rw[h0,y5];rfl) (IV h0 y5)
 cases hg:nG s dj 501 with
 |none=>exact bad 4 rfl (by unfold wT;rw[h0,y5,hg];rfl) (Fw h0 y5 hg)
 |some es=>
  have hP:=mD.1 h0
  have hG:=(vp hg).1
  have hA:=ju hP (es:=es) es.length (Nat.le_refl _) hG
  have vG:=hA.1.xD
  rw[Fx h0 y5 hg]
  rw[show wT s dj=.fD [.sl (es.map ab),.agg [.sl ((ee s es es.length).map ab)],.int .i64 0] by unfold wT;rw[h0,y5,hg];rfl]at h1
  have h2:=EP (ee s es es.length) ah
  generalize ee s es es.length=L at *
  have hz:decide ((0:Int)=0)=true:=rfl
  refine⟨.sl ((L.map (·.aQ)).map ad),.inr rfl,?_⟩
  refine l6.body eI rfl fun iD σ=>?_
  clear iD
  rw[aM]at h1 ⊢
  (try((repeat(revert N;apply Pn.out));refine wk @Nat.zero_add ?_;(repeat(apply Pn.mk;intro N hN))))
  refine .inr (az _ _ _ _ _ (fun r σ1 hq=>?_) (nf.x mixed h1))
  obtain⟨rfl,rfl⟩:=hq
  apply hN
  clear hN N
  (repeat(first|((repeat(revert N;apply Pn.out));refine wk @hz ?_;(repeat(apply Pn.mk;intro N hN)))|((try apply Or.inl);refine⟨_,au.x (h2) (sd @hz),?_⟩;apply hN;clear hN N)))
  exact CQ (.inl rfl) (vs:=[.sl ((L.map (·.aQ)).map ad),.int .i64 0]) (sd @Nat.zero_add) (by simp only[fb,bp,ai,ar,bP,aB,Option.map_some])
theorem NR (l:List aa) (h0:l≠[]) (hl:l.length<=1048576) (o:Id) (σ:aw) (hv:o.bG<σ.next) (hg:σ.get o=some ⟨true,3,l.map ab⟩):
  Call Tryz.prog 72 [.agg [.own o 0 l.length]] σ (fun r σ'=>∃u:Id,r=.own u 0 l.length/\σ'.get u=some ⟨true,2,(l.map (·.aQ)).map ad⟩/\σ.next<=u.bG/\u.bG<σ'.next/\σ.next<=σ'.next/\∀x:Id,x.bG<σ.next->σ'.get x=σ.get x):=by
 refine eB eI rfl fun iD=>?_
 clear iD
 have gL:(l.map ab).length=l.length:=by simp
 have hlp:0<l.length:=List.length_pos_iff.2 h0
 have v1:=db hv
 (try((repeat(revert N;apply Pn.out));refine wk @Nat.zero_add ?_;(repeat(apply Pn.mk;intro N hN))))
 refine bf (fun n env st=>∃k:Nat,n=(l.length)-k/\k<=(l.length)/\env 9=.int .i64 (k:Int)/\(((k=0/\env 3=.bU)∨∃u:Id,env 3=.own u 0 k/\st.get u=some ⟨true,2,((l.take k).map (·.aQ)).map ad⟩/\σ.next<=u.bG/\u.bG<st.next/\0<k)/\(∀x:Id,x.bG<σ.next->st.get x=σ.get x)/\σ.next<=st.next)) (l.length) ⟨0,ah,ah,sl (tw @gL (tw @hg @v1)),by exact⟨.inl ⟨rfl,sd @Nat.zero_add⟩,fun x hx=>(by have h1:=db hx;simp only[go_sem, ↓reduceIte,Nat.reduceEqDiff,Nat.reduceAdd,Nat.reduceSub,Nat.reduceLeDiff,reduceCtorEq,h1]),bc⟩⟩ ?_
 rintro n_a env_a st_a ⟨k,rfl,ale,a9,kz⟩ dX
 have a7:=dX 7 (by kernel_rfl);have a8:=dX 8 (by kernel_rfl)
 simp only[go_sem, ↓reduceIte,Nat.reduceEqDiff,Nat.reduceAdd,Nat.reduceSub,Nat.reduceLeDiff,reduceCtorEq,gL,hg,v1]at a7 a8
 clear dX
 obtain⟨hu,hf,hn⟩:=kz
 have go:=(hf o hv).trans hg
 by_cases hk:(k:Int)<(l.length:Int)
 ·have cV:∀{e:Env} {gg:Rows} {nx:Nat},(e 9=.int .i64 (IntKind.i64.wrap ((k:Int)+1)))->((((k+1)=0/\e 3=.bU)∨∃u:Id,e 3=.own u 0 (k+1)/\gg u=some ⟨true,2,((l.take (k+1)).map (·.aQ)).map ad⟩/\σ.next<=u.bG/\u.bG<nx/\0<(k+1))/\(∀x:Id,x.bG<σ.next->gg x=σ.get x)/\σ.next<=nx)->∃m0,m0<(l.length)-k/\∃k:Nat,m0=(l.length)-k/\k<=(l.length)/\e 9=.int .i64 (k:Int)/\(((k=0/\e 3=.bU)∨∃u:Id,e 3=.own u 0 k/\gg u=some ⟨true,2,((l.take k).map (·.aQ)).map ad⟩/\σ.next<=u.bG/\u.bG<nx/\0<k)/\(∀x:Id,x.bG<σ.next->gg x=σ.get x)/\σ.next<=nx):=fun x1 x2=>⟨_,ah,k+1,rfl,ah,(by rw[x1,aE ah]),x2⟩
  have fC:k<l.length:=ah
  have fa:=fV fC
  have Ix:k<=16777215:=ah
  have nu:(l.take (k+1)).map (·.aQ)=(l.take k).map (·.aQ)++[(bd l k).aQ]:=by rw[qO fC,List.map_append];rfl
  have ub:(((l.take k).map (·.aQ)).map ad).length=k:=by simp;omega
  have vo:=db (i:=o) (n:=st_a.next) ah
  generalize bd l k=x at *
  rw[ab]at fa
  have JY:((l.take k).map (·.aQ)++[x.aQ]).map ad=((l.take k).map (·.aQ)).map ad++[ad x.aQ]:=by simp
  rw[ad]at JY
  rcases hu with⟨rfl,a3⟩|⟨u,a3,gu,u1,u2,u3⟩
  ·(try((repeat(revert N;apply Pn.out));refine wk (tw @a9 (tw @a7 (tw @a8 (tw @hk (tw @fa (tw @gL (tw @a3 (tw @go (tw @vo @Ix))))))))) ?_;(repeat(apply Pn.mk;intro N hN))))
   exact cV (sd (tw @a9 (tw @a7 @a8))) (by exact⟨.inr ⟨⟨72005004,st_a.next+1+1⟩,sl @Nat.zero_add,by rw[nu,JY];simp only[go_sem, ↓reduceIte,Nat.reduceEqDiff,Nat.reduceAdd,Nat.reduceSub,Nat.reduceLeDiff,reduceCtorEq]<;>rfl,bc,bc,ah⟩,fun y hy=>by
    have z1:=db (i:=y) (n:=st_a.next) ah
    have z2:=hf y hy
    simp only[go_sem, ↓reduceIte,Nat.reduceEqDiff,Nat.reduceAdd,Nat.reduceSub,Nat.reduceLeDiff,reduceCtorEq,z1,z2],bc⟩)
  ·have vu:=db u2
   (try((repeat(revert N;apply Pn.out));refine wk (tw @a9 (tw @a7 (tw @a8 (tw @hk (tw @fa (tw @gL (tw @a3 (tw @go (tw @vo (tw @gu (tw @vu (tw @Ix @ub)))))))))))) ?_;(repeat(apply Pn.mk;intro N hN))))
   exact cV (sd (tw @a9 (tw @a7 (tw @a8 @ub)))) (by exact⟨.inr ⟨⟨72005004,st_a.next+1+1⟩,sl @Nat.zero_add,by rw[nu,JY];simp only[go_sem, ↓reduceIte,Nat.reduceEqDiff,Nat.reduceAdd,Nat.reduceSub,Nat.reduceLeDiff,reduceCtorEq]<;>rfl,bc,bc,ah⟩,fun y hy=>by
    have z1:=db (i:=y) (n:=st_a.next) ah
    have z2:=hf y hy
    have z3:(y=u)=False:=eq_false fun e=>by rw[e]at hy;omega
    simp only[go_sem, ↓reduceIte,Nat.reduceEqDiff,Nat.reduceAdd,Nat.reduceSub,Nat.reduceLeDiff,reduceCtorEq,z1,z2,z3],bc⟩)
 ·have lN:k=l.length:=ah
  subst lN
  rw[List.take_length]at hu
  rcases hu with⟨h,_⟩|⟨u,a3,gu,u1,u2,u3⟩
  ·omega
  ·(try((repeat(revert N;apply Pn.out));refine wk (tw @a9 (tw @a7 (tw @a8 (tw @hk (tw @gL @a3))))) ?_;(repeat(apply Pn.mk;intro N hN))))
   exact er (.inl rfl) (vs:=[.own u 0 l.length]) (sd @a3) ⟨u,rfl,sd @gu,u1,bc,bc,fun x hx=>by
    have h:=hf x hx
    simp only[go_sem, ↓reduceIte,Nat.reduceEqDiff,Nat.reduceAdd,Nat.reduceSub,Nat.reduceLeDiff,reduceCtorEq,h]⟩
theorem HZ {σ:aw} (s:ax) (hn:iy s.aD) (hm:wJ s) {dj:List Int} (hl:dj.length<=1048576) {c:Int} (hc:jw s=false/\c=1∨jw s=true/\rX dj=false/\c=2):
  Call Tryz.prog 13 [.agg (aM s),.sl (dj.map aC)] σ (fun r σ'=>r=.fD [.bU,.agg [.bU],.int .i64 c]/\σ.next<=σ'.next/\∀x:Id,x.bG<σ.next->σ'.get x=σ.get x):=by
 refine eB eI rfl fun iD=>?_
 clear iD
 have h1:=r4 LZ s hn hm.s.g hm.s.t (fun t ht=>hm.s.s t ht) hm.a
 have h2:=pB dj hl
 rcases hc with⟨h0,rfl⟩|⟨h0,h3,rfl⟩
 ·rw[h0]at h1
  rw[aM]at h1 ⊢
  (repeat(first|((repeat(revert N;apply Pn.out));refine wk @Nat.zero_add ?_;(repeat(apply Pn.mk;intro N hN)))|((try apply Or.inl);refine⟨_,au.x (h1) (sd @Nat.zero_add),?_⟩;apply hN;clear hN N)))
  exact er (.inl rfl) (vs:=[.bU,.agg [.bU],.int .i64 1]) (sd @Nat.zero_add) ⟨rfl,bc,fun x hx=>by
   have h1:=db hx
   simp only[go_sem, ↓reduceIte,Nat.reduceEqDiff,Nat.reduceAdd,Nat.reduceSub,Nat.reduceLeDiff,reduceCtorEq,h1]⟩
 ·rw[h0]at h1
  rw[h3]at h2
  rw[aM]at h1 ⊢
  (repeat(first|((repeat(revert N;apply Pn.out));refine wk @Nat.zero_add ?_;(repeat(apply Pn.mk;intro N hN)))|((try apply Or.inl);refine⟨_,au.x (h1) (sd @Nat.zero_add),?_⟩;apply hN;clear hN N)|((try apply Or.inl);refine⟨_,au.x (h2) (sd @Nat.zero_add),?_⟩;apply hN;clear hN N)))
  exact er (.inl rfl) (vs:=[.bU,.agg [.bU],.int .i64 2]) (sd @Nat.zero_add) ⟨rfl,bc,fun x hx=>by
   have h1:=db hx
   simp only[go_sem, ↓reduceIte,Nat.reduceEqDiff,Nat.reduceAdd,Nat.reduceSub,Nat.reduceLeDiff,reduceCtorEq,h1]⟩
theorem AK {σ:aw} (s:ax) (hn:iy s.aD) (hm:wJ s) (hE:eU σ.get) (tn:1<=σ.next) (dj:List Int) (hl:dj.length<=1048576):
  Call Tryz.prog 43 [.agg (aM s),.sl (dj.map aC)] σ (fun r σ'=>∃v ids,r=.fD [v,.int .i64 (lI s dj).2]/\uZ ad 2 σ'.get v (lI s dj).1 ids/\gp σ.next σ'.next ids):=by
 have bad:∀c:Int,decide (c=0)=false->(∀σ:aw,eU σ.get->1<=σ.next->Call Tryz.prog 13 [.agg (aM s),.sl (dj.map aC)] σ (fun r σ'=>r=.fD [.bU,.agg [.bU],.int .i64 c]/\σ.next<=σ'.next/\∀x:Id,x.bG<σ.next->σ'.get x=σ.get x))->lI s dj=([],c)->
   Call Tryz.prog 43 [.agg (aM s),.sl (dj.map aC)] σ (fun r σ'=>∃v ids,r=.fD [v,.int .i64 (lI s dj).2]/\uZ ad 2 σ'.get v (lI s dj).1 ids/\gp σ.next σ'.next ids):=fun c hc h1 e1=>by
  rw[e1]
  refine eB eI rfl fun iD=>?_
  clear iD
  rw[aM]at h1 ⊢
  (try((repeat(revert N;apply Pn.out));refine wk @Nat.zero_add ?_;(repeat(apply Pn.mk;intro N hN))))
  refine .inr (az _ _ _ _ _ (fun r σ1 hq=>?_) (h1 _ (hE.frame (n:=1) (Nat.le_refl _) fun x hx _=>by
   have h1:=db (i:=x) (n:=σ.next) ah
   simp only[go_sem, ↓reduceIte,Nat.reduceEqDiff,Nat.reduceAdd,Nat.reduceSub,Nat.reduceLeDiff,reduceCtorEq,h1]) bc))
  obtain⟨rfl,n1,f1⟩:=hq
  obtain⟨g1,x1⟩:=σ1
  (try dsimp only at n1 f1)
  have k7:=f1 ⟨43000000,σ.next⟩ bc
  simp only[go_sem, ↓reduceIte,Nat.reduceEqDiff,Nat.reduceAdd,Nat.reduceSub,Nat.reduceLeDiff,reduceCtorEq]at k7
  apply hN
  clear hN N
  (try((repeat(revert N;apply Pn.out));refine wk (tw @k7 @hc) ?_;(repeat(apply Pn.mk;intro N hN))))
  exact er (.inl rfl) (vs:=[.bU,.int .i64 c]) (sd @Nat.zero_add) ⟨.bU,[],rfl,.inl ⟨rfl,rfl,rfl⟩,List.nodup_nil,fun i hi=>by cases hi⟩
 cases h0:jw s
 ·exact bad 1 rfl (fun σ _ _=>HZ s hn hm hl (.inl ⟨h0,rfl⟩)) (Oa h0)
 cases y5:rX dj
 ·exact bad 2 rfl (fun σ _ _=>HZ s hn hm hl (.inr ⟨h0,y5,rfl⟩)) (IV h0 y5)
 obtain⟨qw,hs⟩:=qK.1 y5
 have hP:=mD.1 h0
 have hG:=fun(σ:aw) (hE:eU σ.get) (h1:1<=σ.next)=>Sm (σ:=σ) s hn hm hE h1 hs qw
 cases hg:nG s dj 501 with
 |none=>
  refine bad 4 rfl (fun σ e1 e2=>?_) (Fw h0 y5 hg)
  refine az _ _ _ _ _ (fun r σ1 hq=>?_) (hG σ e1 e2)
  rcases hq with⟨h,_⟩|⟨_,n1,f1,⟨_,rfl⟩|⟨es,v,o,h,_⟩⟩
  ·rw[h0]at h;cases h
  ·exact⟨rfl,n1,f1⟩
  ·rw[hg]at h;cases h
 |some es=>
  rw[Fx h0 y5 hg]
  have hA:=ju hP (es:=es) es.length (Nat.le_refl _) (vp hg).1
  have vG:=hA.1.xD
  have TQ:ee s es es.length≠[]:=fun hc=>by
   have h2:=oy s es es.length (Nat.le_refl _)
   have h3:=hP.some
   rw[hc]at h2
   simp at h2
   omega
  have hp:=fun(o:Id) (σ:aw)=>NR (ee s es es.length) TQ ah o σ
  obtain⟨L,YA⟩:∃L,ee s es es.length=L:=⟨_,rfl⟩
  rw[YA]at vG TQ hp
  rw[YA]
  clear hA
  refine eB eI rfl fun iD=>?_
  clear iD
  rw[aM]at hG ⊢
  (try((repeat(revert N;apply Pn.out));refine wk @Nat.zero_add ?_;(repeat(apply Pn.mk;intro N hN))))
  refine .inr (az _ _ _ _ _ (fun r σ1 hq=>?_) (hG _ (hE.frame (n:=1) (Nat.le_refl _) fun x hx _=>by
   have h1:=db (i:=x) (n:=σ.next) ah
   simp only[go_sem, ↓reduceIte,Nat.reduceEqDiff,Nat.reduceAdd,Nat.reduceSub,Nat.reduceLeDiff,reduceCtorEq,h1]) bc))
  obtain⟨g1,x1⟩:=σ1
  rcases hq with⟨h,_⟩|⟨_,n1,f1,⟨h,_⟩|⟨Lj,v,o,h,Wy,rfl,hL,go,q2,q3,gM⟩⟩
  ·rw[h0]at h;cases h
  ·rw[hg]at h;cases h
  obtain rfl:es=Lj:=by rw[hg]at h;exact Option.some.inj h
  rw[YA]at go
  rw[YA]
  (try dsimp only at n1 f1 go q2 q3)
  have k7:=f1 ⟨43000000,σ.next⟩ bc
  simp only[go_sem, ↓reduceIte,Nat.reduceEqDiff,Nat.reduceAdd,Nat.reduceSub,Nat.reduceLeDiff,reduceCtorEq]at k7
  have vc:v.cells=[v]/\v.cell=true:=by
   rcases hL with⟨_,rfl⟩|⟨u,rfl,_⟩<;>exact⟨rfl,rfl⟩
  obtain⟨c1,c2⟩:=vc
  have vo:=db (i:=o) (n:=x1) ah
  have hz:decide ((0:Int)=0)=true:=rfl
  apply hN
  clear hN N
  (try((repeat(revert N;apply Pn.out));refine wk (tw @k7 (tw @c1 (tw @c2 @hz))) ?_;(repeat(apply Pn.mk;intro N hN))))
  refine .inr (az _ _ _ _ _ (fun r σ2 hq=>?_) (hp o _ bc (sd (tw @vo @go))))
  obtain⟨u,rfl,gu,u1,u2,n2,f2⟩:=hq
  obtain⟨g2,x2⟩:=σ2
  (try dsimp only at gu u1 u2 n2 f2)
  apply hN
  clear hN N
  (try((repeat(revert N;apply Pn.out));refine wk @Nat.zero_add ?_;(repeat(apply Pn.mk;intro N hN))))
  have hlL:(L.map (·.aQ)).length=L.length:=by simp
  refine er (.inl rfl) (vs:=[.own u 0 L.length,.int .i64 0]) (sd @Nat.zero_add) ⟨.own u 0 L.length,[u],rfl,.inr ⟨u,by rw[hlL],gu,rfl,by rw[hlL];exact List.length_pos_iff.2 TQ⟩,by simp,fun i hi=>?_⟩
  rw[List.mem_singleton.1 hi]
  constructor<;>(try dsimp only)<;>omega
theorem Jf (s:ax) (hn:iy s.aD) (hm:wJ s) (dj:List Int) (hl:dj.length<=1048576):H4 Tryz.prog 43 [.agg (aM s),.sl (dj.map aC)] ad 2 (lI s dj).1 (lI s dj).2:=
 fun g n hE h1=>AK (σ:=⟨g,n⟩) s hn hm hE h1 dj hl
def Ux (k:Int) (n:Nat):List Int:=(List.range n).map fun j:Nat=>k+(j:Int)
theorem yc (k:Int) (n:Nat):(Ux k n).length=n:=by simp[Ux]
def ke (k:Int) (l:List Int) (j:Nat):List Int:=Ux k j++l.drop j
theorem Bu {k:Int} {l:List Int} {j:Nat} (h:j<=l.length):(ke k l j).length=l.length:=by simp[ke,yc];omega
theorem Nu {k:Int} {l:List Int} {j:Nat} (h:j<l.length):((ke k l j).map aC)[j]? =some [.int .i64 l[j]]:=by
 have h2:j<(ke k l j).length:=by rw[Bu ah];exact h
 have h3:(ke k l j)[j]'h2=l[j]:=by simp[ke,List.getElem_append,yc]
 rw[DT h2,h3]
theorem Kt {k:Int} {l:List Int} {j:Nat} (h:j<l.length):((ke k l j).map aC).set j [.int .i64 (k+(j:Int))]=(ke k l (j+1)).map aC:=by
 have h1:(ke k l j).set j (k+(j:Int))=ke k l (j+1):=by
  unfold ke
  rw[List.set_append_right _ _ (by rw[yc];omega),yc,Nat.sub_self]
  have h2:l.drop j=l[j]::l.drop (j+1):=List.drop_eq_getElem_cons h
  rw[h2,List.set_cons_zero]
  simp[Ux,List.range_succ]
 rw[<-h1,List.map_set];rfl
theorem Qu (i:Id) (l:List Int) (k:Int) (h0:0<=k) (h1:k+l.length<=4611686018427387904) (σ:aw) (hv:i.bG<σ.next) (hg:σ.get i=some ⟨true,1,l.map aC⟩):
  Call Tryz.prog 48 [.own i 0 l.length,.int .i64 k] σ (fun r σ'=>r=.int .i64 (k+l.length)/\tq σ [i] σ'.get σ'.next/\σ'.get i=some ⟨true,1,(Ux k l.length).map aC⟩):=by
 refine eB eI rfl fun hl=>?_
 clear hl
 have hz:ke k l 0=l:=by simp[ke,Ux]
 (try((repeat(revert N;apply Pn.out));refine wk @Nat.zero_add ?_;(repeat(apply Pn.mk;intro N hN))))
 refine bf (fun n env st=>∃j:Nat,n=(l.length)-j/\j<=(l.length)/\env 5=.int .i64 (j:Int)/\env 1=.int .i64 (k+j)/\st.get i=some ⟨true,1,(ke k l j).map aC⟩/\(tq σ [i] st.get st.next)) (l.length) ⟨0,ah,ah,sl (tw @Int.add_zero (tw @Int.natCast_zero (tw @hz @hg))),sl (tw @Int.add_zero (tw @Int.natCast_zero (tw @hz @hg))),sl (tw @Int.add_zero (tw @Int.natCast_zero (tw @hz @hg))),by(try dsimp only);exact⟨bc,fun x _ _=>rfl⟩⟩ ?_
 rintro n_a env_a st_a ⟨j,rfl,ale,a5,a1,ag0,kz⟩ dX
 have a0:=dX 0 (by kernel_rfl)
 simp only[go_sem, ↓reduceIte,Nat.reduceEqDiff,Nat.reduceAdd,Nat.reduceSub,Nat.reduceLeDiff,reduceCtorEq,Int.add_zero,Int.natCast_zero,hz,hg]at a0
 clear dX
 obtain⟨an,aF⟩:=kz
 by_cases hj:(j:Int)<(l.length:Int)
 ·have cV:∀{e:Env} {gg:Rows} {nx:Nat},(e 5=.int .i64 (IntKind.i64.wrap ((j:Int)+1)))->(e 1=.int .i64 (k+(j+1)))->(gg i=some ⟨true,1,(ke k l (j+1)).map aC⟩)->(tq σ [i] gg nx)->∃m0,m0<(l.length)-j/\∃j:Nat,m0=(l.length)-j/\j<=(l.length)/\e 5=.int .i64 (j:Int)/\e 1=.int .i64 (k+j)/\gg i=some ⟨true,1,(ke k l j).map aC⟩/\(tq σ [i] gg nx):=fun x1 x2 x3 x4=>⟨_,ah,j+1,rfl,ah,(by rw[x1,aE ah]),x2,x3,x4⟩
  have iN:j<l.length:=ah
  have fE:=Nu (k:=k) iN
  have ew:=Kt (k:=k) iN
  have hw:IntKind.i64.wrap (k+(j:Int)+1)=k+((j:Int)+1):=by rw[cq ah];omega
  have hlen:((ke k l j).map aC).length=l.length:=by rw[List.length_map,Bu ah]
  (try((repeat(revert N;apply Pn.out));refine wk (tw @a5 (tw @a1 (tw @ag0 (tw @a0 (tw @hj (tw @fE (tw @ew (tw @hw @hlen)))))))) ?_;(repeat(apply Pn.mk;intro N hN))))
  refine cV ?_ ?_ ?_ (by(try dsimp only);exact⟨bc,fun x hx hi=>by
   have h2:=aF x hx hi
   have h3:(x=i)=False:=eq_false fun e=>hi (by simp[e])
   simp only[go_sem, ↓reduceIte,Nat.reduceEqDiff,Nat.reduceAdd,Nat.reduceSub,Nat.reduceLeDiff,reduceCtorEq,h2,h3]⟩)
  all_goals simp only[go_sem, ↓reduceIte,Nat.reduceEqDiff,Nat.reduceAdd,Nat.reduceSub,Nat.reduceLeDiff,reduceCtorEq,a5,a1,ag0,a0,hw,ew]
 ·have iN:j=l.length:=ah
  subst iN
  (try((repeat(revert N;apply Pn.out));refine wk (tw @a5 (tw @a1 (tw @ag0 (tw @a0 @hj)))) ?_;(repeat(apply Pn.mk;intro N hN))))
  have kJ:ke k l l.length=Ux k l.length:=by simp[ke]
  rw[kJ]at ag0
  exact er (.inl rfl) (vs:=[.int .i64 (k+l.length)]) (sd (tw @a5 (tw @a1 (tw @ag0 @a0)))) ⟨rfl,⟨bc,fun x hx hi=>aF x hx hi⟩,ag0⟩
def uu (k:Int) (n:Nat):List aq:=(List.range n).map fun j:Nat=>⟨k+2*(j:Int),k+2*(j:Int)+1⟩
theorem ij (k:Int) (n:Nat):(uu k n).length=n:=by simp[uu]
theorem Kv (k:Int) (n:Nat):uu k (n+1)=uu k n++[⟨k+2*(n:Int),k+2*(n:Int)+1⟩]:=by simp[uu,List.range_succ]
def iG (k:Int) (l:List aq) (j:Nat):List aq:=uu k j++l.drop j
theorem Hb {k:Int} {l:List aq} {j:Nat} (h:j<=l.length):(iG k l j).length=l.length:=by simp[iG,ij];omega
theorem Ku {k:Int} {l:List aq} {j:Nat} (h:j<l.length):((iG k l j).map ad)[j]? =some [.int .i64 l[j].eS,.int .i64 l[j].eM]:=by
 rw[List.getElem?_map,iG,List.getElem?_append_right (by rw[ij];omega),ij,Nat.sub_self,List.getElem?_drop,Nat.add_zero,List.getElem?_eq_getElem h];rfl
theorem Hc {k:Int} {l:List aq} {j:Nat} (h:j<l.length):((iG k l j).map ad).set j [.int .i64 (k+2*(j:Int)),.int .i64 (k+2*(j:Int)+1)]=(iG k l (j+1)).map ad:=by
 have:(iG k l j).set j ⟨k+2*(j:Int),k+2*(j:Int)+1⟩=iG k l (j+1):=by
  rw[iG,List.set_append_right _ _ (by rw[ij];omega),ij,Nat.sub_self,List.drop_eq_getElem_cons h,List.set_cons_zero,iG,Kv,List.append_assoc];rfl
 rw[<-this,List.map_set];rfl
theorem Ns (i:Id) (l:List aq) (k:Int) (h0:0<=k) (h1:k+2*l.length<=4611686018427387904) (σ:aw) (hv:i.bG<σ.next) (hg:σ.get i=some ⟨true,2,l.map ad⟩):
  Call Tryz.prog 49 [.own i 0 l.length,.int .i64 k] σ (fun r σ'=>r=.int .i64 (k+2*l.length)/\tq σ [i] σ'.get σ'.next/\σ'.get i=some ⟨true,2,(uu k l.length).map ad⟩):=by
 refine eB eI rfl fun hl=>?_
 clear hl
 have hz:iG k l 0=l:=by simp[iG,uu]
 (try((repeat(revert N;apply Pn.out));refine wk @Nat.zero_add ?_;(repeat(apply Pn.mk;intro N hN))))
 refine bf (fun n env st=>∃j:Nat,n=(l.length)-j/\j<=(l.length)/\env 5=.int .i64 (j:Int)/\env 1=.int .i64 (k+2*j)/\st.get i=some ⟨true,2,(iG k l j).map ad⟩/\(tq σ [i] st.get st.next)) (l.length) ⟨0,ah,ah,sl (tw @Int.add_zero (tw @Int.natCast_zero (tw @Int.mul_zero (tw @hz @hg)))),sl (tw @Int.add_zero (tw @Int.natCast_zero (tw @Int.mul_zero (tw @hz @hg)))),sl (tw @Int.add_zero (tw @Int.natCast_zero (tw @Int.mul_zero (tw @hz @hg)))),by(try dsimp only);exact⟨bc,fun x _ _=>rfl⟩⟩ ?_
 rintro n_a env_a st_a ⟨j,rfl,ale,a5,a1,ag0,kz⟩ dX
 have a0:=dX 0 (by kernel_rfl)
 simp only[go_sem, ↓reduceIte,Nat.reduceEqDiff,Nat.reduceAdd,Nat.reduceSub,Nat.reduceLeDiff,reduceCtorEq,Int.add_zero,Int.natCast_zero,Int.mul_zero,hz,hg]at a0
 clear dX
 obtain⟨an,aF⟩:=kz
 by_cases hj:(j:Int)<(l.length:Int)
 ·have cV:∀{e:Env} {gg:Rows} {nx:Nat},(e 5=.int .i64 (IntKind.i64.wrap ((j:Int)+1)))->(e 1=.int .i64 (k+2*(j+1)))->(gg i=some ⟨true,2,(iG k l (j+1)).map ad⟩)->(tq σ [i] gg nx)->∃m0,m0<(l.length)-j/\∃j:Nat,m0=(l.length)-j/\j<=(l.length)/\e 5=.int .i64 (j:Int)/\e 1=.int .i64 (k+2*j)/\gg i=some ⟨true,2,(iG k l j).map ad⟩/\(tq σ [i] gg nx):=fun x1 x2 x3 x4=>⟨_,ah,j+1,rfl,ah,(by rw[x1,aE ah]),x2,x3,x4⟩
  have iN:j<l.length:=ah
  have fE:=Ku (k:=k) iN
  have ew:=Hc (k:=k) iN
  have nv:IntKind.i64.wrap (k+2*(j:Int)+1)=k+2*(j:Int)+1:=cq ah
  have mO:IntKind.i64.wrap (k+2*(j:Int)+1+1)=k+2*((j:Int)+1):=by rw[cq ah];omega
  have hlen:((iG k l j).map ad).length=l.length:=by rw[List.length_map,Hb ah]
  have JW:∀c:List AV,(((iG k l j).map ad).set j c)[j]? =some c:=fun c=>by rw[List.getElem?_set_self (by rw[hlen];exact iN)]
  (try((repeat(revert N;apply Pn.out));refine wk (tw @a5 (tw @a1 (tw @ag0 (tw @a0 (tw @hj (tw @fE (tw @JW (tw @ew (tw @nv (tw @mO (tw @hlen @uI))))))))))) ?_;(repeat(apply Pn.mk;intro N hN))))
  refine cV ?_ ?_ ?_ (by(try dsimp only);exact⟨bc,fun x hx hi=>by
   have h2:=aF x hx hi
   have h3:(x=i)=False:=eq_false fun e=>hi (by simp[e])
   simp only[go_sem, ↓reduceIte,Nat.reduceEqDiff,Nat.reduceAdd,Nat.reduceSub,Nat.reduceLeDiff,reduceCtorEq,h2,h3]⟩)
  all_goals simp only[go_sem, ↓reduceIte,Nat.reduceEqDiff,Nat.reduceAdd,Nat.reduceSub,Nat.reduceLeDiff,reduceCtorEq,a5,a1,ag0,a0,mO,ew]
 ·have iN:j=l.length:=ah
  subst iN
  (try((repeat(revert N;apply Pn.out));refine wk (tw @a5 (tw @a1 (tw @ag0 (tw @a0 @hj)))) ?_;(repeat(apply Pn.mk;intro N hN))))
  have kJ:iG k l l.length=uu k l.length:=by simp[iG]
  rw[kJ]at ag0
  exact er (.inl rfl) (vs:=[.int .i64 (k+2*l.length)]) (sd (tw @a5 (tw @a1 (tw @ag0 @a0)))) ⟨rfl,⟨bc,fun x hx hi=>aF x hx hi⟩,ag0⟩
theorem Qw (k:Int) {n j:Nat} (h:j<n):((uu k n).map ad)[j]? =some [.int .i64 (k+2*(j:Int)),.int .i64 (k+2*(j:Int)+1)]:=by
 simp[uu,h,ad]
theorem MF (k:Int) (n:Nat) (h0:0<=k) (h1:k+2*n<=4611686018427387904):au Tryz.prog 50 [.sl ((uu k n).map ad),.int .i64 k] (.int .i64 (k+2*n)):=by
 refine au.body eI rfl fun hl n0=>?_
 clear hl
 obtain⟨m,hm⟩:∃m,n=m:=⟨_,rfl⟩
 rw[hm]at h1 ⊢
 (try((repeat(revert N;apply Pn.out));refine wk @ij ?_;(repeat(apply Pn.mk;intro N hN))))
 refine bf (fun n env st=>∃j:Nat,n=(m)-j/\j<=(m)/\env 5=.int .i64 (j:Int)/\env 1=.int .i64 (k+2*j)) (m) ⟨0,ah,ah,sl (tw @Int.add_zero (tw @Int.natCast_zero (tw @Int.mul_zero @ij))),sl (tw @Int.add_zero (tw @Int.natCast_zero (tw @Int.mul_zero @ij)))⟩ ?_
 rintro n_a env_a st_a ⟨j,rfl,ale,a5,a1⟩ dX
 have a0:=dX 0 (by kernel_rfl)
 simp only[go_sem, ↓reduceIte,Nat.reduceEqDiff,Nat.reduceAdd,Nat.reduceSub,Nat.reduceLeDiff,reduceCtorEq,Int.add_zero,Int.natCast_zero,Int.mul_zero,ij]at a0
 clear dX
 by_cases hj:(j:Int)<(m:Int)
 ·have cV:∀{e:Env},(e 5=.int .i64 (IntKind.i64.wrap ((j:Int)+1)))->(e 1=.int .i64 (k+2*(j+1)))->∃m0,m0<(m)-j/\∃j:Nat,m0=(m)-j/\j<=(m)/\e 5=.int .i64 (j:Int)/\e 1=.int .i64 (k+2*j):=fun x1 x2=>⟨_,ah,j+1,rfl,ah,(by rw[x1,aE ah]),x2⟩
  have fE:=Qw k (n:=m) (j:=j) ah
  have nv:IntKind.i64.wrap (k+2*(j:Int)+1)=k+2*(j:Int)+1:=cq ah
  have mO:IntKind.i64.wrap (k+2*(j:Int)+1+1)=k+2*((j:Int)+1):=by rw[cq ah];omega
  have e1:decide (k+2*(j:Int)=k+2*(j:Int))=true:=decide_eq_true rfl
  have e2:decide (k+2*(j:Int)+1=k+2*(j:Int)+1)=true:=decide_eq_true rfl
  (try((repeat(revert N;apply Pn.out));refine wk (tw @a5 (tw @a1 (tw @a0 (tw @hj (tw @fE (tw @nv (tw @mO (tw @ij (tw @e1 @e2))))))))) ?_;(repeat(apply Pn.mk;intro N hN))))
  refine cV ?_ ?_
  all_goals simp only[go_sem, ↓reduceIte,Nat.reduceEqDiff,Nat.reduceAdd,Nat.reduceSub,Nat.reduceLeDiff,reduceCtorEq,a5,a1,a0,mO]
 ·have iN:j=m:=ah
  subst iN
  (try((repeat(revert N;apply Pn.out));refine wk (tw @a5 (tw @a1 (tw @a0 (tw @hj @ij)))) ?_;(repeat(apply Pn.mk;intro N hN))))
  exact dq (b:=k+2*(j:Int)) (.inl rfl) (sd (tw @a5 (tw @a1 @a0))) rfl
theorem Kp (k:Int) (σ:aw):Call Tryz.prog 49 [.bU,.int .i64 k] σ (fun r σ'=>r=.int .i64 k/\tq σ [] σ'.get σ'.next):=by
 refine eB eI rfl fun hl=>?_
 clear hl
 (try((repeat(revert N;apply Pn.out));refine wk @Nat.zero_add ?_;(repeat(apply Pn.mk;intro N hN))))
 refine bf (fun n env st=>(env 1=.int .i64 k/\env 5=.int .i64 0/\env 0=.bU)/\σ.next<=st.next/\∀x:Id,st.get x=σ.get x) 0 ⟨⟨sd @Nat.zero_add,sd @Nat.zero_add,sd @Nat.zero_add⟩,bc,fun _=>rfl⟩ ?_
 rintro m e st ⟨⟨a1,a5,a0⟩,an,aF⟩ -
 have d0:decide ((0:Int)<((0:Nat):Int))=false:=rfl
 (try((repeat(revert N;apply Pn.out));refine wk (tw @a0 (tw @a1 (tw @a5 @d0))) ?_;(repeat(apply Pn.mk;intro N hN))))
 exact er (.inl rfl) (vs:=[.int .i64 k]) (sd @a1) ⟨rfl,⟨bc,fun x hx hi=>aF x⟩⟩
theorem Kq {v:AV} {L:List aq} {ids:List Id} (k:Int) (h0:0<=k) (h1:k+2*L.length<=4611686018427387904) (σ:aw) (hv:∀i∈ids,i.bG<σ.next) (h:uZ ad 2 σ.get v L ids):
  Call Tryz.prog 49 [v,.int .i64 k] σ (fun r σ'=>r=.int .i64 (k+2*L.length)/\tq σ ids σ'.get σ'.next/\uZ ad 2 σ'.get v (uu k L.length) ids):=by
 rcases h with⟨rfl,rfl,rfl⟩|⟨o,rfl,h2,rfl,hp⟩
 ·refine az _ _ _ _ _ (fun r σ' hq=>?_) (Kp k σ)
  obtain⟨rfl,hB⟩:=hq
  exact⟨by simp,hB,.inl ⟨rfl,rfl,rfl⟩⟩
 ·refine az _ _ _ _ _ (fun r σ' hq=>?_) (Ns o L k h0 h1 σ (hv o (by simp)) h2)
  obtain⟨rfl,hB,hg⟩:=hq
  exact⟨rfl,hB,.inr ⟨o,by rw[ij],hg,rfl,by rw[ij];exact hp⟩⟩
theorem Bc {w:AV} (k:Int) (n:Nat) (h0:0<=k) (h1:k+2*n<=4611686018427387904) (hw:p4 ad (uu k n) w):au Tryz.prog 50 [w,.int .i64 k] (.int .i64 (k+2*n)):=
 (MF k n h0 h1).cut mixed (hw.cut (.same _ .nil))
theorem Pz (xs:List aq):au Tryz.prog 44 [.sl (xs.map ad),.sl (xs.map ad)] (.bool true):=by
 have h:=Cc (show nU Tryz.prog 44=some (DX 44 112 2) by kernel_rfl) (e:=ad) (fun _=>rfl) (fun x g=>by simp[ad,ai,ar,aY,aB]) xs xs AY
 rwa [decide_eq_true rfl]at h
theorem yM {L:List aq} {v w:AV} (hv:p4 ad L v) (hw:p4 ad L w):au Tryz.prog 44 [v,w] (.bool true):=(Pz L).cut mixed (hv.cut (hw.cut .nil))
theorem IH {g:Rows} {i:Id} {ws:List Int} (h:g i=some ⟨true,1,ws.map aC⟩) (n:Nat):V.fz (ea g) (n+2) (.own i 0 ws.length)=some (.sl (ws.map aC)):=
 gF (e:=aC) (sz:=1) (n:=n+1) (by simp[ea,h]) rfl fun x=>by simp[aC,ai,ar,aB]
theorem Jh {σ:aw} (s:ax) (hn:iy s.aD) (hm:wJ s) (hE:eU σ.get) (tn:1<=σ.next) (dj:List Int) (hl:dj.length<=1048576):
  fu (Call Tryz.prog) 43 [.agg (aM s),.sl (dj.map aC)] σ (fun r=>r=.fD [XL ad (lI s dj).1,.int .i64 (lI s dj).2]):=by
 unfold fu PC
 refine Or.inl (az _ _ _ _ _ (fun r σ' hq=>?_) (AK (σ:=⟨V.ro σ.get,σ.next⟩) s hn hm hE.ro tn dj hl))
 obtain⟨v,ids,rfl,ho,_⟩:=hq
 refine⟨_,?_,rfl⟩
 rcases ho with⟨hL,rfl,_⟩|⟨o,rfl,h2,_,hp⟩
 ·rw[hL]
  simp only[bp,ai,ar,aO,aB,Option.map_some]
  rfl
 ·have h3:=gF (e:=ad) (n:=4) h2 rfl fun x=>by simp[ad,ai,ar,aB]
  simp only[bp,ai,ar,h3,aB,Option.map_some]
  rw[XL,if_neg ah]
theorem EW (s:ax) (ws:List Int) (hn:iy s.aD) (σ:aw) (hE:eU σ.get) (tn:1<=σ.next):Call Tryz.prog 7 [.agg (aM s),.sl (ws.map aC)] σ fun r _=>r=.bool true:=by
 refine eB eI rfl fun iD=>?_
 clear iD
 have gL:(ws.map aC).length=ws.length:=by simp
 by_cases hb:(1048576:Int)<(ws.length:Int)
 ·(try((repeat(revert N;apply Pn.out));refine wk (tw @aM.eq_1 (tw @gL @hb)) ?_;(repeat(apply Pn.mk;intro N hN))))
  exact er (.inl rfl) (vs:=[.bool true]) (sd @Nat.zero_add) rfl
 have h1:=HJ s 1048576 ah ah hn
 by_cases hf:(FN s:Int)<=1048576
 ·rw[jz hf]at h1
  have mU:¬(1048576:Int)-(FN s:Int)<0:=ah
  have sm:=KX (s:=s) ah
  have wm:ws.length<=1048576:=ah
  have t1:=HO s sm
  have t3:=FF ws wm
  obtain⟨w,hw,r1⟩:=Jg s hn sm.s.g sm.s.t ws wm
  have r2:=Jf s hn sm ws wm
  have r3:=fun(σ:aw) (hE:eU σ.get) (h1:1<=σ.next)=>Jh (σ:=σ) s hn sm hE h1 ws wm
  have q1:=Gq s
  have q3:=DU ws ws
  rw[decide_eq_true rfl]at q3
  have hL:=QV s ws
  obtain⟨⟨L,c⟩,hRe⟩:∃R,lI s ws=R:=⟨_,rfl⟩
  rw[hRe]at r1 r2 r3 hw hL
  (try dsimp only at r1 r3 hw hL)
  have P8:=fun σ=>HN s sm σ
  have MM:=fun σ=>FE ws wm σ
  rw[aM]at P8
  have e2:decide (c=c)=true:=by simp
  rw[aM]at h1
  (have zF:=tw @aM.eq_1 (tw @gL (tw @hb @mU));(repeat(first|((repeat(revert N;apply Pn.out));refine wk zF ?_;(repeat(apply Pn.mk;intro N hN)))|((try apply Or.inl);refine⟨_,au.x (h1) (sd zF),?_⟩;apply hN;clear hN N)));try clear zF)
  refine .inl ⟨_,l6.x (by rw[aM]at t1;exact t1) _,?_⟩
  apply hN
  clear hN N
  (try((repeat(revert N;apply Pn.out));refine wk @Nat.zero_add ?_;(repeat(apply Pn.mk;intro N hN))))
  refine .inl ⟨_,l6.x (t3) _,?_⟩
  apply hN
  clear hN N
  (try((repeat(revert N;apply Pn.out));refine wk @Nat.zero_add ?_;(repeat(apply Pn.mk;intro N hN))))
  refine .inl ⟨_,l6.x (by rw[aM]at r1;exact r1) _,?_⟩
  apply hN
  clear hN N
  (try((repeat(revert N;apply Pn.out));refine wk @Nat.zero_add ?_;(repeat(apply Pn.mk;intro N hN))))
  refine .inr (az _ _ _ _ _ (fun r σ1 hq=>?_) (P8 _))
  obtain⟨iX,hX,To,WC⟩:=hq
  obtain⟨g1,x1⟩:=σ1
  (try dsimp only at hX To WC)
  obtain⟨A,B,C,j1,j2,j3,rfl,hA,hB,hC,rfl⟩:=hX.ex
  obtain⟨oA,rfl⟩:=hA.nL
  obtain⟨oB,rfl⟩:=hB.nL
  obtain⟨oC,rfl⟩:=hC.nL
  clear hA hB hC
  have nX:=WC.1
  have bX:=To.2
  (try dsimp only at nX bX)
  have kA:=WC.2 ⟨7000000,σ.next⟩ bc
  simp only[go_sem, ↓reduceIte,Nat.reduceEqDiff,Nat.reduceAdd,Nat.reduceSub,Nat.reduceLeDiff,reduceCtorEq]at kA
  have Tg:eU g1:=hE.frame (n:=1) (Nat.le_refl _) fun x hx _=>by
   have z1:=db (i:=x) (n:=σ.next) ah
   have z2:=WC.2 x bc
   simp only[go_sem, ↓reduceIte,Nat.reduceEqDiff,Nat.reduceAdd,Nat.reduceSub,Nat.reduceLeDiff,reduceCtorEq,z1]at z2
   exact z2
  apply hN
  clear hN N
  (try((repeat(revert N;apply Pn.out));refine wk @kA ?_;(repeat(apply Pn.mk;intro N hN))))
  refine .inr (az _ _ _ _ _ (fun r σ2 hq=>?_) (MM _))
  obtain⟨iI,rfl,Tn,WA,Tq⟩:=hq
  obtain⟨g2,x2⟩:=σ2
  (try dsimp only at Tn WA Tq)
  have nI:=Tq.1
  have bI:=WA.2 iI (by simp)
  (try dsimp only at nI bI)
  have jA:=Tq.2 ⟨7000000,σ.next⟩ bc
  have jX:=Tq.2 ⟨7008002,x1⟩ bc
  have vA0:=db (i:=⟨7000000,σ.next⟩) (n:=x1) bc
  simp only[go_sem, ↓reduceIte,Nat.reduceEqDiff,Nat.reduceAdd,Nat.reduceSub,Nat.reduceLeDiff,reduceCtorEq,kA,vA0]at jA jX
  have hX1:=hX.frame (g':=g2) fun i hi=>by
   have h3:=bX i hi
   have h4:=Tq.2 i bc
   have h5:=db (i:=i) (n:=x1) ah
   simp only[go_sem, ↓reduceIte,Nat.reduceEqDiff,Nat.reduceAdd,Nat.reduceSub,Nat.reduceLeDiff,reduceCtorEq,h5]at h4
   exact h4
  have Vz:eU g2:=Tg.frame (n:=1) (Nat.le_refl _) fun x hx _=>by
   have z1:=db (i:=x) (n:=x1) ah
   have z2:=Tq.2 x bc
   simp only[go_sem, ↓reduceIte,Nat.reduceEqDiff,Nat.reduceAdd,Nat.reduceSub,Nat.reduceLeDiff,reduceCtorEq,z1]at z2
   exact z2
  clear hX WC Tq kA
  apply hN
  clear hN N
  (try((repeat(revert N;apply Pn.out));refine wk (tw @jA @jX) ?_;(repeat(apply Pn.mk;intro N hN))))
  refine .inr (az _ _ _ _ _ (fun r σ4 hq=>?_) (Ja mixed (fun x=>by simp[ad,AV.clean]) r2 Vz bc (tf (hX1.fz 1) (IH Tn 4))))
  obtain⟨v,iZ,rfl,hZ,Yy,RD⟩:=hq
  obtain⟨g4,x4⟩:=σ4
  (try dsimp only at hZ Yy RD)
  have nZ:=RD.1
  have bZ:=Yy.2
  (try dsimp only at nZ bZ)
  have mA:=(RD.2 ⟨7000000,σ.next⟩ bc).trans jA
  have mX:=(RD.2 ⟨7008002,x1⟩ bc).trans jX
  have mI:=(RD.2 iI bc).trans Tn
  (try dsimp only at mA mX mI)
  have hX3:=hX1.frame (g':=g4) fun i hi=>RD.2 i (by have:=bX i hi;(try dsimp only);omega)
  have hE4:eU g4:=Vz.frame (n:=1) (Nat.le_refl _) fun x hx _=>RD.2 x bc
  clear hX1 RD jA jX
  obtain⟨wv,r9,TK⟩:=hZ.fz fun x g=>by simp[ad,ai,ar,aB]
  apply hN
  clear hN N
  (try((repeat(revert N;apply Pn.out));refine wk (tw @mA @mX) ?_;(repeat(apply Pn.mk;intro N hN))))
  refine .inl ⟨_,au.x (yM TK hw) (tf r9 (hw.fz _)),?_⟩
  apply hN
  clear hN N
  (try((repeat(revert N;apply Pn.out));refine wk (tw @mA (tw @mX @e2)) ?_;(repeat(apply Pn.mk;intro N hN))))
  refine⟨_,l6.x (by rw[aM]at t1;exact t1) _,?_⟩
  apply hN
  clear hN N
  (try((repeat(revert N;apply Pn.out));refine wk (tw @mA (tw @mX @e2)) ?_;(repeat(apply Pn.mk;intro N hN))))
  refine⟨_,au.x (by rw[aM]at q1;exact q1) (by rw[<-aM];exact Q2 hX3 (Pv _ _)),?_⟩
  apply hN
  clear hN N
  (try((repeat(revert N;apply Pn.out));refine wk (tw @mA (tw @mX @e2)) ?_;(repeat(apply Pn.mk;intro N hN))))
  refine .inl ⟨_,l6.x (t3) _,?_⟩
  apply hN
  clear hN N
  (try((repeat(revert N;apply Pn.out));refine wk (tw @mA (tw @mX @e2)) ?_;(repeat(apply Pn.mk;intro N hN))))
  refine .inl ⟨_,au.x q3 (tf (IH mI 4) (bP _ _ _)),?_⟩
  apply hN
  clear hN N
  (try((repeat(revert N;apply Pn.out));refine wk (tw @mA (tw @mX @e2)) ?_;(repeat(apply Pn.mk;intro N hN))))
  have TN:=Qt s
  have hns:=To.not (x:=⟨7000000,σ.next⟩) bc
  refine .inr (az _ _ _ _ _ (fun r σ5 hq=>?_) (Ks _ s _ 1 ah sm.s.t ah _ (fun i hi=>by have:=bX i hi;(try dsimp only);omega) To.1 hX3))
  obtain⟨rfl,hM⟩:=hq
  obtain⟨g5,x5⟩:=σ5
  (try dsimp only at hM)
  have nM:=hM.1
  (try dsimp only at nM)
  have pA:=(hM.2 ⟨7000000,σ.next⟩ bc hns).trans mA
  have pI:=(hM.2 iI bc (To.not bc)).trans mI
  have hE5:eU g5:=hE4.frame (n:=1) (Nat.le_refl _) fun x hx _=>hM.2 x bc (To.not bc)
  have hZ4:=hZ.frame (g':=g5) fun i hi=>hM.2 i (by have:=bZ i hi;(try dsimp only);omega) (To.not (by have:=bZ i hi;omega))
  clear hM hX3 hZ mA mX mI r9
  apply hN
  clear hN N
  (try((repeat(revert N;apply Pn.out));refine wk @pA ?_;(repeat(apply Pn.mk;intro N hN))))
  refine .inr (az _ _ _ _ _ (fun r σ6 hq=>?_) (Qu iI ws (1+EY s) ah ah _ bc pI))
  obtain⟨rfl,hM,_⟩:=hq
  obtain⟨g6,x6⟩:=σ6
  (try dsimp only at hM)
  have nO:=hM.1
  (try dsimp only at nO)
  have rA:=(hM.2 ⟨7000000,σ.next⟩ bc (WA.not bc)).trans pA
  have hE6:eU g6:=hE5.frame (n:=1) (Nat.le_refl _) fun x hx _=>hM.2 x bc (WA.not bc)
  have hZ6:=hZ4.frame (g':=g6) fun i hi=>hM.2 i (by have:=bZ i hi;(try dsimp only);omega) (WA.not (by have:=bZ i hi;omega))
  clear hM hZ4 pA pI
  obtain⟨wv5,r9,TK⟩:=hZ6.fz fun x g=>by simp[ad,ai,ar,aB]
  have e3:decide (1+(EY s:Int)+(ws.length:Int)<0)=false:=decide_eq_false ah
  apply hN
  clear hN N
  (try((repeat(revert N;apply Pn.out));refine wk (tw @rA @e3) ?_;(repeat(apply Pn.mk;intro N hN))))
  refine .inl ⟨_,au.x (yM TK hw) (tf r9 (hw.fz _)),?_⟩
  apply hN
  clear hN N
  (try((repeat(revert N;apply Pn.out));refine wk (tw @rA (tw @e2 @e3)) ?_;(repeat(apply Pn.mk;intro N hN))))
  refine .inr (az _ _ _ _ _ (fun r σ8 hq=>?_) (Kq 1 ah ah _ (fun i hi=>by have:=bZ i hi;(try dsimp only);omega) hZ6))
  obtain⟨rfl,hM,hZ7⟩:=hq
  obtain⟨g8,x8⟩:=σ8
  (try dsimp only at hM hZ7)
  have nP:=hM.1
  (try dsimp only at nP)
  have sA:=(hM.2 ⟨7000000,σ.next⟩ bc (Yy.not bc)).trans rA
  have hE8:eU g8:=hE6.frame (n:=1) (Nat.le_refl _) fun x hx _=>hM.2 x bc (Yy.not bc)
  clear hM hZ6 rA r9 TK
  obtain⟨wv6,r9,TK⟩:=hZ7.fz fun x g=>by simp[ad,ai,ar,aB]
  have e4:decide (1+2*(L.length:Int)<0)=false:=decide_eq_false ah
  have e5:decide (1+2*(L.length:Int)=1+2*(L.length:Int))=true:=decide_eq_true rfl
  apply hN
  clear hN N
  (try((repeat(revert N;apply Pn.out));refine wk @sA ?_;(repeat(apply Pn.mk;intro N hN))))
  refine .inl ⟨_,au.x (Bc 1 L.length ah ah TK) (tf r9 (aB _ _ _ _)),?_⟩
  apply hN
  clear hN N
  (try((repeat(revert N;apply Pn.out));refine wk (tw @sA (tw @e4 @e5)) ?_;(repeat(apply Pn.mk;intro N hN))))
  refine .inl ⟨_,l6.x (by rw[aM]at t1;exact t1) _,?_⟩
  apply hN
  clear hN N
  (try((repeat(revert N;apply Pn.out));refine wk (tw @sA (tw @e4 @e5)) ?_;(repeat(apply Pn.mk;intro N hN))))
  refine .inl ⟨_,l6.x (t3) _,?_⟩
  apply hN
  clear hN N
  (try((repeat(revert N;apply Pn.out));refine wk (tw @sA (tw @e4 @e5)) ?_;(repeat(apply Pn.mk;intro N hN))))
  refine .inl ⟨_,r3 _ hE8 bc,?_⟩
  apply hN
  clear hN N
  (try((repeat(revert N;apply Pn.out));refine wk @e2 ?_;(repeat(apply Pn.mk;intro N hN))))
  refine .inl ⟨_,au.x (yM Fe hw) (tf (Fe.fz _) (hw.fz _)),?_⟩
  apply hN
  clear hN N
  (try((repeat(revert N;apply Pn.out));refine wk @e2 ?_;(repeat(apply Pn.mk;intro N hN))))
  refine .inl ⟨_,au.x (Bc 1 L.length ah ah TK) (tf r9 (aB _ _ _ _)),?_⟩
  apply hN
  clear hN N
  (try((repeat(revert N;apply Pn.out));refine wk (tw @e4 @e5) ?_;(repeat(apply Pn.mk;intro N hN))))
  exact er (.inl rfl) (vs:=[.bool true]) (sd @Nat.zero_add) rfl
 ·rw[jG hf]at h1
  rw[aM]at h1
  (have zF:=tw @aM.eq_1 (tw @gL @hb);(repeat(first|((repeat(revert N;apply Pn.out));refine wk zF ?_;(repeat(apply Pn.mk;intro N hN)))|((try apply Or.inl);refine⟨_,au.x (h1) (sd zF),?_⟩;apply hN;clear hN N)));try clear zF)
  exact er (.inl rfl) (vs:=[.bool true]) (sd @Nat.zero_add) rfl
end Go.Proofs.YtainmfbpilopaaaGreatDoor.V

namespace Go.Proofs.YtainmfbpilopaaaGreatDoor
open Go.ChangeShapes Go.WideShapes Go.ChangeAt Go.RowKit Go.Deep
section
variable {H:Type} {enc:TypeId×Value->H} {P:Program} {w:World}
theorem oN.XI {α:Type} {rep:World->List Nat->List Value->α->Prop} {sz:Nat} {w:World} {b o len cap:Nat} (qj:Nat->List Value) (fs:Nat->List Nat) (ds:Nat->α) (hc:len<=cap) (hm:cap<=maxLen)
  (hl:∀i,i<len->(qj i).length=sz) (hr:∀i,i<len->rep w (fs i) (qj i) (ds i)) (tX:∀i,i<len->∀j u,(qj i)[j]? =some u->w.cell? ⟨b,o+(i*sz+j),none⟩=some u):
  oN rep sz w ([b]++((List.range len).map fs).flatten) (.slice (some ⟨b,o,none⟩) len cap) ((List.range len).map ds):=by
 refine⟨(List.range len).map qj,(List.range len).map fs,[b],rfl,⟨some ⟨b,o,none⟩,cap,by simp,by simpa using hc,hm,.inr ⟨b,o,rfl,rfl,fun j u hj=>?_⟩⟩,by simp,by simp,fun i cs f d h1 h2 h3=>?_⟩
 ·have hlen:∀cs∈(List.range len).map qj,cs.length=sz:=fun cs dY=>by
   obtain⟨i,hi,rfl⟩:=List.mem_map.1 dY
   exact hl i (List.mem_range.1 hi)
  have gZ:=(List.getElem?_eq_some_iff.1 hj).1
  have JV:((List.range len).map qj).flatten.length=len*sz:=by
   rw[List.length_flatten,List.map_map]
   have:∀(l:List Nat),(∀i∈l,i<len)->(l.map (List.length∘qj)).sum=l.length*sz:=by
    intro l
    induction l with
    |nil=>intro _;simp
    |cons a l ih=>intro h;rw[List.map_cons,List.sum_cons,ih fun i hi=>h i (List.mem_cons_of_mem _ hi)];simp only[Function.comp,hl a (h a (by simp)),List.length_cons,Nat.add_mul];omega
   rw[this _ fun i hi=>List.mem_range.1 hi,List.length_range]
  rw[JV]at gZ
  have FY:0<sz:=by
   rcases Nat.eq_zero_or_pos sz with h|h
   ·subst h;simp at gZ
   ·exact h
  have hi:j / sz<len:=(Nat.div_lt_iff_lt_mul FY).2 gZ
  have RP:j % sz<sz:=Nat.mod_lt _ FY
  have PQ:j=(j / sz)*sz+j % sz:=by rw[Nat.mul_comm];exact(Nat.div_add_mod j sz).symm
  rw[PQ,wO hlen (i:=j / sz) (cs:=qj (j / sz)) (by simp[hi]) RP]at hj
  rw[PQ]
  have:=tX (j / sz) hi (j % sz) u hj
  rw[<-PQ]at this ⊢
  exact this
 ·have hi:i<len:=by
   have:=(List.getElem?_eq_some_iff.1 h1).1
   simpa using this
  simp[hi]at h1 h2 h3
  subst h1 h2 h3
  exact⟨hr i hi,hl i hi⟩
theorem lz (b o k:Nat):(⟨b,o,none⟩:Addr).add k=⟨b,o+k,none⟩:=by
 unfold Addr.add;split
 ·rename_i h;subst h;rfl
 ·rfl
theorem rI {α:Type} {rep:World->List Nat->List Value->α->Prop} {Q:α->Prop} {t e:TypeId} {sz fuel:Nat} {cs:List Value} {x:DataW H×List MemPlace} (ht:P.underlying t=some (.slice e)) (hC:P.cellsOf e=sz) (FY:0<sz)
  (h:DataW.trod enc P w 0 (fun _=>true) true fuel t cs=some x) (hel:∀n r7 y,r7.length=sz->DataW.trod enc P w 0 (fun _=>true) true n e r7=some y->∃f d,gC f 0 w.heap.size/\rep w f r7 d/\Q d):
  ∃A n c f xs,cs=[.slice A n c]/\gC f 0 w.heap.size/\oN rep sz w f (.slice A n c) xs/\∀d∈xs,Q d:=by
 rcases open_slice ht h with⟨rfl,_⟩|⟨a,len,cap,m,n,D,Pl,rfl,_,hl,hm,TM,_,hi⟩
 ·exact⟨none,0,0,[],[],rfl,gC.nil _ _,oN.nil _ _ _,fun d h=>by cases h⟩
 rw[hC]at hi
 simp only[if_true]at TM
 by_cases h0:len=0
 ·subst h0
  exact⟨some a,0,cap,[],[],rfl,gC.nil _ _,⟨[],[],[],rfl,⟨some a,cap,rfl,Nat.zero_le _,hm,.inl ⟨rfl,rfl⟩⟩,rfl,rfl,fun i cs f d hc=>by simp at hc⟩,fun d h=>by cases h⟩
 obtain⟨b,o,sp⟩:=a
 have cell0:∃v,w.cell? ⟨b,o,sp⟩=some v:=by
  obtain⟨r7,hc,_⟩:=hi 0 (by omega)
  obtain⟨_,nH,tX⟩:=World.cells?_some hc
  refine⟨r7[0]'(by omega),?_⟩
  have:=tX 0 FY
  rw[List.getElem?_eq_getElem (by omega)]at this
  simpa[Addr.add]using this
 obtain⟨v0,pK⟩:=cell0
 have hb:b<w.heap.size:=World.block_lt_of_cell? w _ pK
 have T8:sp=none:=by
  unfold World.cell? at pK
  split at pK
  ·split at pK
   ·cases pK
   ·rename_i h;simpa using h
  ·cases pK
 subst T8
 have key:∀i,i<len->∃r7 f d,r7.length=sz/\gC f 0 w.heap.size/\rep w f r7 d/\Q d/\∀j u,r7[j]? =some u->w.cell? ⟨b,o+(i*sz+j),none⟩=some u:=fun i mL=>by
  obtain⟨r7,hc,htr⟩:=hi i (by omega)
  obtain⟨_,nH,tX⟩:=World.cells?_some hc
  obtain⟨f,d,h1,h2,h3⟩:=hel n r7 _ nH htr
  refine⟨r7,f,d,nH,h1,h2,h3,fun j u hj=>?_⟩
  have gZ:=(List.getElem?_eq_some_iff.1 hj).1
  have:=tX j (by omega)
  rw[hj]at this
  rw[<-this,Go.Deep.add_add,lz]
 have:Nonempty α:=by
  obtain⟨_,_,d,_⟩:=key 0 (by omega)
  exact⟨d⟩
 let cf:Nat->List Value:=fun i=>if hi:i<len then(key i hi).choose else[]
 let ff:Nat->List Nat:=fun i=>if hi:i<len then(key i hi).choose_spec.choose else[]
 let df:Nat->α:=fun i=>if hi:i<len then(key i hi).choose_spec.choose_spec.choose else Classical.choice this
 have ep:∀i,i<len->(cf i).length=sz/\gC (ff i) 0 w.heap.size/\rep w (ff i) (cf i) (df i)/\Q (df i)/\∀j u,(cf i)[j]? =some u->w.cell? ⟨b,o+(i*sz+j),none⟩=some u:=fun i hi=>by
  have:=(key i hi).choose_spec.choose_spec.choose_spec
  simp only[cf,ff,df,dif_pos hi]
  exact this
 refine⟨some ⟨b,o,none⟩,len,cap,_,(List.range len).map df,rfl,?_,oN.XI cf ff df hl hm (fun i hi=>(ep i hi).1) (fun i hi=>(ep i hi).2.2.1) (fun i hi=>(ep i hi).2.2.2.2),fun d hd=>?_⟩
 ·intro x hx
  rcases List.mem_append.1 hx with hx|hx
  ·simp at hx;subst hx;exact⟨Nat.zero_le _,hb⟩
  ·obtain⟨l,ub,VV⟩:=List.mem_flatten.1 hx
   obtain⟨i,hi,rfl⟩:=List.mem_map.1 ub
   exact(ep i (List.mem_range.1 hi)).2.1 x VV
 ·obtain⟨i,hi,rfl⟩:=List.mem_map.1 hd
  exact(ep i (List.mem_range.1 hi)).2.2.2.1
end
section
variable {H:Type} {enc:TypeId×Value->H} {w:World} {fuel:Nat} {cs:List Value} {x:DataW H×List MemPlace}
abbrev TT (enc:TypeId×Value->H) (w:World) (fuel t:Nat) (cs:List Value) (x:DataW H×List MemPlace):Prop:=DataW.trod enc Tryz.prog w 0 (fun _=>true) true fuel t cs=some x
theorem NF (h:TT enc w fuel 40 cs x):∃A n c f xs,cs=[.slice A n c]/\gC f 0 w.heap.size/\tx w f (.slice A n c) xs:=by
 obtain⟨A,n,c,f,xs,h1,h2,h3,_⟩:=rI (rep:=H5) (Q:=fun _=>True) Tryz.underlying40 (sz:=1) (by kernel_rfl) (by omega) h fun n r7 y hl hy=>by
  obtain⟨b,rfl,_⟩:=DataW.trod_int Tryz.underlying2 hy
  exact⟨[],b,gC.nil _ _,⟨rfl,rfl⟩,trivial⟩
 exact⟨A,n,c,f,xs,h1,h2,h3⟩
theorem pb {t:TypeId} {fs:Array Field} (ht:Tryz.prog.underlying t=some (.struct fs)) (h:TT enc w fuel t cs x):cs.length=Tryz.prog.cellsOf t/\∃n,∀(i:Nat) (f:Field),fs[i]? =some f->∃y,TT enc w n f.type ((cs.drop f.offset).take (Tryz.prog.cellsOf f.type)) y:=by
 obtain⟨xs,n,_,_,hl,VV,hf⟩:=DataW.trod_struct ht h
 refine⟨hl,n,fun i f hi=>?_⟩
 have mL:i<xs.length:=by rw[VV];exact(Array.getElem?_eq_some_iff.1 hi).1
 exact⟨xs[i],(hf i f hi).trans (List.getElem?_eq_getElem mL)⟩
theorem XE {l:List Value} (h:l.length=2):∃a b,l=[a,b]:=by
 match l,h with
 |[a,b],_=>exact⟨a,b,rfl⟩
theorem len3 {l:List Value} (h:l.length=3):∃a b c,l=[a,b,c]:=by
 match l,h with
 |[a,b,c],_=>exact⟨a,b,c,rfl⟩
theorem len1 {l:List Value} (h:l.length=1):∃a,l=[a]:=by
 match l,h with
 |[a],_=>exact⟨a,rfl⟩
theorem len4 {l:List Value} (h:l.length=4):∃a b c d,l=[a,b,c,d]:=by
 match l,h with
 |[a,b,c,d],_=>exact⟨a,b,c,d,rfl⟩
theorem QC (h:TT enc w fuel 73 cs x):∃A n c f xs,cs=[.slice A n c]/\gC f 0 w.heap.size/\tu w f (.slice A n c) xs/\∀d∈xs,d.aZ.size<=9223372036854775807:=by
 exact rI (rep:=LD) (Q:=fun d=>d.aZ.size<=9223372036854775807) Tryz.underlying73 (sz:=2) (by kernel_rfl) (by omega) h fun n r7 y hl hy=>by
  obtain⟨_,m,hf⟩:=pb Tryz.underlying277 hy
  obtain⟨a,b,rfl⟩:=XE hl
  ·skip
   obtain⟨y0,h0⟩:=hf 0 _ rfl
   obtain⟨y1,h1⟩:=hf 1 _ rfl
   rw[show Tryz.prog.cellsOf _=1 from by kernel_rfl]at h0 h1
   obtain⟨p,e0,_,ws⟩:=DataW.trod_string Tryz.underlying9 h0
   obtain⟨q,e1,_⟩:=DataW.trod_int Tryz.underlying2 h1
   simp at e0 e1
   subst e0 e1
   exact⟨[],⟨p,q⟩,gC.nil _ _,⟨rfl,rfl⟩,by simpa[maxLen]using ws⟩
theorem QD (h:TT enc w fuel 74 cs x):∃A n c f xs,cs=[.slice A n c]/\gC f 0 w.heap.size/\tz w f (.slice A n c) xs/\∀d∈xs,d.aZ.size<=9223372036854775807:=by
 exact rI (rep:=LF) (Q:=fun d=>d.aZ.size<=9223372036854775807) Tryz.underlying74 (sz:=2) (by kernel_rfl) (by omega) h fun n r7 y hl hy=>by
  obtain⟨_,m,hf⟩:=pb Tryz.underlying279 hy
  obtain⟨a,b,rfl⟩:=XE hl
  ·skip
   obtain⟨y0,h0⟩:=hf 0 _ rfl
   obtain⟨y1,h1⟩:=hf 1 _ rfl
   rw[show Tryz.prog.cellsOf _=1 from by kernel_rfl]at h0 h1
   obtain⟨p,e0,_,ws⟩:=DataW.trod_string Tryz.underlying9 h0
   obtain⟨A1,n1,c1,f1,Yb,e1,k1,s1⟩:=NF h1
   simp at e0 e1
   subst e0 e1
   exact⟨_,⟨p,Yb⟩,k1,⟨_,f1,rfl,rfl,s1⟩,by simpa[maxLen]using ws⟩
theorem KB (h:TT enc w fuel 77 cs x):∃A n c f xs,cs=[.slice A n c]/\gC f 0 w.heap.size/\lV w f (.slice A n c) xs:=by
 obtain⟨A,n,c,f,xs,h1,h2,h3,_⟩:=rI (rep:=Dv) (Q:=fun _=>True) Tryz.underlying77 (sz:=3) (by kernel_rfl) (by omega) h fun n r7 y hl hy=>by
  obtain⟨_,m,hf⟩:=pb Tryz.underlying285 hy
  obtain⟨a,b,c,rfl⟩:=len3 hl
  ·skip
   obtain⟨y0,h0⟩:=hf 0 _ rfl
   obtain⟨y1,h1⟩:=hf 1 _ rfl
   rw[show Tryz.prog.cellsOf _=2 from by kernel_rfl]at h0
   rw[show Tryz.prog.cellsOf _=1 from by kernel_rfl]at h1
   obtain⟨_,m2,MG⟩:=pb Tryz.underlying283 h0
   obtain⟨z0,g0⟩:=MG 0 _ rfl
   obtain⟨z1,g1⟩:=MG 1 _ rfl
   rw[show Tryz.prog.cellsOf _=1 from by kernel_rfl]at g0 g1
   obtain⟨px,e0,_⟩:=DataW.trod_int Tryz.underlying2 g0
   obtain⟨py,e1,_⟩:=DataW.trod_int Tryz.underlying2 g1
   obtain⟨ti,e2,_⟩:=DataW.trod_int Tryz.underlying2 h1
   simp at e0 e1 e2
   subst e0 e1 e2
   exact⟨[],⟨⟨px,py⟩,ti⟩,gC.nil _ _,⟨rfl,rfl⟩,trivial⟩
 exact⟨A,n,c,f,xs,h1,h2,h3⟩
theorem Hh (h:TT enc w fuel 79 cs x):∃A n c f,∃d:iS,cs=[.slice A n c]/\gC f 0 w.heap.size/\lV w f (.slice A n c) d.aj:=by
 obtain⟨hl,m,hf⟩:=pb Tryz.underlying79 h
 rw[show Tryz.prog.cellsOf _=1 from by kernel_rfl]at hl
 obtain⟨a,rfl⟩:=len1 hl
 ·skip
  obtain⟨y0,h0⟩:=hf 0 _ rfl
  rw[show Tryz.prog.cellsOf _=1 from by kernel_rfl]at h0
  obtain⟨A1,n1,c1,f1,Yb,e1,k1,s1⟩:=KB h0
  simp at e1
  subst e1
  exact⟨A1,n1,c1,f1,⟨Yb⟩,rfl,k1,s1⟩
theorem NG (h:TT enc w fuel 81 cs x):∃A0 n0 c0 f0 A1 n1 c1 f1 A2 n2 c2 f2,∃d:ax,cs=[.slice A0 n0 c0,.slice A1 n1 c1,.slice A2 n2 c2,.int .i64 d.aA]/\gC f0 0 w.heap.size/\tu w f0 (.slice A0 n0 c0) d.aD.aI/\gC f1 0 w.heap.size/\tz w f1 (.slice A1 n1 c1) d.aD.aj/\gC f2 0 w.heap.size/\lV w f2 (.slice A2 n2 c2) d.bH.aj/\(∀g∈d.aD.aI,g.aZ.size<=9223372036854775807)/\∀t∈d.aD.aj,t.aZ.size<=9223372036854775807:=by
 obtain⟨hl,m,hf⟩:=pb Tryz.underlying81 h
 rw[show Tryz.prog.cellsOf _=4 from by kernel_rfl]at hl
 obtain⟨a,b,c,d,rfl⟩:=len4 hl
 ·skip
  obtain⟨y0,h0⟩:=hf 0 _ rfl
  obtain⟨y1,h1⟩:=hf 1 _ rfl
  obtain⟨y2,h2⟩:=hf 2 _ rfl
  rw[show Tryz.prog.cellsOf _=2 from by kernel_rfl]at h0
  rw[show Tryz.prog.cellsOf _=1 from by kernel_rfl]at h1 h2
  obtain⟨_,m2,MG⟩:=pb Tryz.underlying76 h0
  obtain⟨z0,g0⟩:=MG 0 _ rfl
  obtain⟨z1,g1⟩:=MG 1 _ rfl
  rw[show Tryz.prog.cellsOf _=1 from by kernel_rfl]at g0 g1
  obtain⟨A0,n0,c0,f0,xs0,e0,k0,s0,o0⟩:=QC g0
  obtain⟨A1,n1,c1,f1,Yb,e1,k1,s1,o1⟩:=QD g1
  obtain⟨A2,n2,c2,f2,d2,e2,k2,s2⟩:=Hh h1
  obtain⟨t,e3,_⟩:=DataW.trod_int Tryz.underlying2 h2
  simp at e0 e1 e2 e3
  subst e0 e1 e2 e3
  exact⟨A0,n0,c0,f0,A1,n1,c1,f1,A2,n2,c2,f2,⟨⟨xs0,Yb⟩,d2,t⟩,rfl,k0,s0,k1,s1,k2,s2,o0,o1⟩
end
end Go.Proofs.YtainmfbpilopaaaGreatDoor

namespace Go.Proofs.YtainmfbpilopaaaGreatDoor
open Go.ChangeShapes Go.WideShapes Go.ChangeAt Go.RowKit V
theorem XP:ownKnob Tryz.prog.godebug=none:=by kernel_rfl
theorem Nj:laidOutB Tryz.prog=true:=by kernel_rfl
theorem Mg:eU (Ao 0 1 tE sT sN):=⟨⟨_,SS 0 1 tE sT sN⟩,_,SU (by decide) tE sT sN⟩
theorem KU (os:Os) (started:os.Started) (H:Type) (enc:TypeId×Value->H):
  ReturnsInHanded {} Tryz.checked os 7 .any (fun w args=>(Rows.fnExactShapeOfSpec.pre enc Tryz.prog Tryz.f7 [] false w args/\laidMetH Tryz.prog Rows.fnExactShapeOfRow.laid w)/\sizedMet enc Tryz.prog Tryz.f7 (OpenSpec.ofChange Rows.fnExactShapeOfSpec) false w args) (Rows.fnExactShapeOfSpec.post enc Tryz.prog Tryz.f7 false true false false):=by
 refine returnsInHanded_of_change_and (C:=Tryz.checked) (X:=fun w _=>laidMetH Tryz.prog Rows.fnExactShapeOfRow.laid w) (fun _ _ _ hh h=>h.of_heap hh) XP started (by kernel_rfl) Tryz.func7
  (ChangeSpec.witness_shaped (enc:=enc) (C:=Tryz.checked) (os:=os) (X:=fun w _=>laidMetH Tryz.prog Rows.fnExactShapeOfRow.laid w) false (World.laidAll Tryz.prog os Rows.fnExactShapeOfRow.laid) #[.agg #[.slice none 0 0,.slice none 0 0,.slice none 0 0,.int .i64 0],.slice none 0 0] 8 (World.laidAll_os _ _ _)
   (World.shaped_of_ZipB (by kernel_rfl) (by kernel_rfl)) (by kernel_rfl) (by kernel_rfl) (by kernel_rfl)
   (by rw[MakeChecks.laidMetH_plain _ _ _ (by kernel_rfl)];exact laidMet_laidAll _ (by kernel_rfl) (by kernel_rfl))) ?_
 intro W base args ds gs before RZ hW hcnd _ hL _
 have vL:∀(j:Nat) t v,Tryz.f7.params[j]? =some t->args[j]? =some v->Value.okWide Tryz.prog W .any base t v:=RZ
 have hW':=hW
 obtain⟨p,q,hA0,hV0,rfl,Di,mV⟩:=hW
 have hA:DataW.TrodAll enc Tryz.prog W 0 (fun _=>true) true Tryz.f7.params.toList args.toList ds p:=hA0
 have hV:DataW.TrodVars enc Tryz.prog W (fun _=>true) ["loop.example/g01081/impl.errTerminal", "loop.example/g01081/impl.errNoSpace"] gs q:=hV0
 rw[Tryz.params7]at hA vL
 obtain⟨v0,vs0,d0,ds0,p0,q0,pJ,rfl,rfl,h0,r0⟩:=trodAll_cons hA
 obtain⟨v1,vs1,d1,ds1,p1,q1,rfl,rfl,rfl,h1,r1⟩:=trodAll_cons r0
 obtain⟨rfl,rfl,rfl⟩:=trodAll_nil r1
 obtain rfl:args= #[v0,v1]:=by cases args;simp_all
 rw[MakeChecks.laidMetH_plain _ _ _ (by kernel_rfl)]at hL
 obtain⟨a0,a1,pK,sP,hT,hN⟩:=Ki hL
 have vr:∀{X:World},X.var? Tryz.prog "loop.example/g01081/impl.errTerminal" =some #[.iface tE (.pointer (some a0))]->X.var? Tryz.prog "loop.example/g01081/impl.errNoSpace" =some #[.iface tE (.pointer (some a1))]->∀sp:Nat->Bool,
   DataW.TrodVars enc Tryz.prog X sp ["loop.example/g01081/impl.errTerminal", "loop.example/g01081/impl.errNoSpace"] [tok enc (.iface tE (.pointer (some a0))),tok enc (.iface tE (.pointer (some a1)))] [.cell gT 0,.cell gN 0]:=
  fun x0 x1 sp=>vars_read2 enc Mr RB Tryz.underlying208 x0 trivial Mq RA Tryz.underlying208 x1 trivial sp
 obtain⟨rfl,rfl⟩:=hV.unique (vr pK sP _)
 obtain⟨Rx,rfl,_⟩:=okWide_struct Tryz.underlying81 (vL 0 81 v0 rfl rfl)
 obtain⟨A4,n4,c4,rfl⟩:=okWide_slice Tryz.underlying40 (vL 1 40 v1 rfl rfl)
 have k0:=h0
 have k1:=h1
 have lt0:∀x∈p0,x.block<W.heap.size:=by obtain⟨m,hm⟩:=k0;exact DataW.trod_lt m _ _ _ hm
 have VZ:∀x∈p1,x.block<W.heap.size:=by obtain⟨m,hm⟩:=k1;exact DataW.trod_lt m _ _ _ hm
 obtain⟨A0,n0,c0,f0,A1,n1,c1,f1,A2,n2,c2,f2,s,dY,w0,s0,w1,s1,w2,s2,o0,o1⟩:∃A0 n0 c0 f0 A1 n1 c1 f1 A2 n2 c2 f2,∃d:ax,(Value.agg Rx).cells.toList=[.slice A0 n0 c0,.slice A1 n1 c1,.slice A2 n2 c2,.int .i64 d.aA]/\gC f0 0 W.heap.size/\tu W f0 (.slice A0 n0 c0) d.aD.aI/\gC f1 0 W.heap.size/\tz W f1 (.slice A1 n1 c1) d.aD.aj/\gC f2 0 W.heap.size/\lV W f2 (.slice A2 n2 c2) d.bH.aj/\(∀g∈d.aD.aI,g.aZ.size<=9223372036854775807)/\∀t∈d.aD.aj,t.aZ.size<=9223372036854775807:=by
  obtain⟨fuel,hf⟩:=h0
  exact NG hf
 obtain⟨f4,ws,w4,s4⟩:∃f,∃d:List Int,gC f 0 W.heap.size/\tx W f (.slice A4 n4 c4) d:=by
  obtain⟨fuel,hf⟩:=h1
  obtain⟨A,n,c,f,xs,e,w,z⟩:=NF hf
  simp[Value.cells]at e
  obtain⟨rfl,rfl,rfl⟩:=e
  exact⟨f,xs,w,z⟩
 obtain rfl:Rx= #[.slice A0 n0 c0,.slice A1 n1 c1,.slice A2 n2 c2,.int .i64 s.aA]:=by
  cases Rx;simp[Value.cells]at dY;subst dY;rfl
 clear hA0 hV0 RZ
 have iu:fQ Tryz.prog W (fun b=>b<W.heap.size) (fun _=>none) [.agg (aM s),.sl (ws.map aC)] #[.agg #[.slice A0 n0 c0,.slice A1 n1 c1,.slice A2 n2 c2,.int .i64 s.aA],.slice A4 n4 c4]:=by
  have h:=oD (F9 s0 (fun b hb=>(w0 b hb).2) s1 (fun b hb=>(w1 b hb).2) s2 (fun b hb=>(w2 b hb).2)) (oD (ym s4 (fun b hb=>(w4 b hb).2)) (⟨rfl,fun j b hj=>by cases j<;>cases hj⟩:fQ Tryz.prog W (fun b=>b<W.heap.size) (fun _=>none) [] #[]))
  simpa using h
 have iU:=Qp (x:=0) (y:=1) (t:=tE) (s:=sT) (u:=sN) mixed (by decide) (EW s ws ⟨o0,o1⟩ ⟨Ao 0 1 tE sT sN,1⟩ Mg (Nat.le_refl _)) hT hN iu
 clear s0 s1 s2 s4 w0 w1 w2 w4 iu
 refine(iU.mono fun e W' ⟨he,bel⟩=>?_)
 subst he
 exact⟨_,rfl,_,_,_,[],_,_,hW',trodAll_mk1 (shut_bool Tryz.underlying4 _),(trodAll_cons_mk (Below.trod Nj (by kernel_rfl) (of_decide_eq_true (by kernel_rfl)) k0 bel lt0) (trodAll_cons_mk (Below.trod Nj (by kernel_rfl) (of_decide_eq_true (by kernel_rfl)) k1 bel VZ) trodAll_mk0)),vr (V.var?_below Mr pK bel) (V.var?_below Mq sP bel) _,bel.frame _,fun h=>by cases h⟩
end Go.Proofs.YtainmfbpilopaaaGreatDoor

