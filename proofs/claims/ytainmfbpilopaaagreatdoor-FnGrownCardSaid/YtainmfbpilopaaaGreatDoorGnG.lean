/- A system of lines, by the reference. -/
import Derived.Test.YtainmfbpilopaaaGreatDoorGnF
import Derived.Test.YtainmfbpilopaaaGreatDoorGnC
import Derived.Test.YtainmfbpilopaaaGreatDoorGnB
import Derived.Test.YtainmfbpilopaaaGreatDoorChecked
import Derived.ProofKit
import Derived.Deep.Slices
import Derived.ChangeSame
import Derived.Test.YtainmfbpilopaaaGreatDoorRows
import Derived.Test.YtainmfbpilopaaaGreatDoorGnD
import Derived.OpenShut
import Derived.ShutString
import Derived.ChangeOld
import Derived.Below
import Derived.Lay
import Derived.Handed
import Derived.MakeChecks
set_option linter.unusedVariables false
set_option linter.unusedSimpArgs false
set_option maxRecDepth 100000
set_option maxHeartbeats 16000000
namespace Go.Proofs.YtainmfbpilopaaaGreatDoor.V
open Go.RowKit
attribute [local irreducible] ea wpOps fB Call
def gm (s:Nat):Prop:=s=133008006
def vG (v:AV) (s:Nat):Prop:=∀(o:Id) (c:Nat),v=.own o 0 c->o.site=s
theorem zi (bs:List Int) (hb:∀b∈bs,0<=b/\b<=255) (iz:bs.length<=4096) (X:Id) (A:Nat) (ha:A<=900000) (σ:ax) (h:eL σ.get X bs A) (hX:X.bq<σ.next):
  Call Tryz.prog 133 [.ptr X 0 0] σ (ye X bs A σ):=by
 refine vD (cfM [(10,2),(12,2)]) rfl fun fD=>?_
 clear fD
 have vX:=bZ hX
 (try((repeat(revert N;apply Pn.out));refine wk @Nat.zero_add ?_;(repeat(apply Pn.mk;intro N hN))))
 refine .inr (ay _ _ _ _ _ (fun r σ1 hq=>?_) (gS bs hb iz X 2 A ae _ (by
  obtain⟨a,z,q1,q2⟩:=h
  exact⟨a,z,q1,by simp only[go_sem, ↓reduceIte,Nat.reduceEqDiff,Nat.reduceAdd,Nat.reduceSub,Nat.reduceLeDiff,reduceCtorEq,vX]<;>exact q2⟩)))
 obtain⟨v,rfl,v0,v1,h1,hK⟩:=hq
 obtain⟨g1,x1⟩:=σ1
 (try dsimp only at h1)
 have GC:=hK.1
 (try dsimp only at GC)
 have lx:=hK.2 ⟨133000000,σ.next⟩ (fun e=>by rw[<-e]at hX;(try dsimp only at hX);omega) aH
 have uj:∀i:Id,i≠X->i.bq<σ.next->g1 i=σ.get i:=fun i hi hv=>(hK.2 i hi aH).trans (by have hv:=bZ hv;simp only[go_sem, ↓reduceIte,Nat.reduceEqDiff,Nat.reduceAdd,Nat.reduceSub,Nat.reduceLeDiff,reduceCtorEq,hv])
 simp only[go_sem, ↓reduceIte,Nat.reduceEqDiff,Nat.reduceAdd,Nat.reduceSub,Nat.reduceLeDiff,reduceCtorEq]at lx
 clear hK h
 generalize hz:IntKind.i64.wrap (1+v)=z
 apply hN
 clear hN N
 (try((repeat(revert N;apply Pn.out));refine wk @hz ?_;(repeat(apply Pn.mk;intro N hN))))
 have vX1:=bZ (i:=X) (n:=x1) ae
 refine .inr (ay _ _ _ _ _ (fun r σ2 hq=>?_) (gS bs hb iz X 6 (A+2) ae _ (by
  obtain⟨a,z,q1,q2⟩:=h1
  exact⟨a,z,q1,by simp only[go_sem, ↓reduceIte,Nat.reduceEqDiff,Nat.reduceAdd,Nat.reduceSub,Nat.reduceLeDiff,reduceCtorEq,vX1]<;>exact q2⟩)))
 obtain⟨y,rfl,y0,y1,h2,hK⟩:=hq
 obtain⟨g2,x2⟩:=σ2
 (try dsimp only at h2)
 have pU:=hK.1
 (try dsimp only at pU)
 have mo:=hK.2 ⟨133000000,σ.next⟩ (fun e=>by rw[<-e]at hX;(try dsimp only at hX);omega) aH
 have WA:=hK.2 ⟨133002001,x1+1⟩ (fun e=>by rw[<-e]at hX;(try dsimp only at hX);omega) aH
 have J8:∀i:Id,i≠X->i.bq<σ.next->g2 i=σ.get i:=fun i hi hv=>(hK.2 i hi aH).trans (by have h8:=bZ (i:=i) (n:=x1) ae;have h9:=uj i hi hv;simp only[go_sem, ↓reduceIte,Nat.reduceEqDiff,Nat.reduceAdd,Nat.reduceSub,Nat.reduceLeDiff,reduceCtorEq,h8,h9])
 simp only[go_sem, ↓reduceIte,Nat.reduceEqDiff,Nat.reduceAdd,Nat.reduceSub,Nat.reduceLeDiff,reduceCtorEq,lx]at mo WA
 clear hK h1 uj lx
 obtain⟨m,hm⟩:∃m:Nat,IntKind.i64.wrap (2+y)=(m:Int):=⟨(2+y).toNat,by rw[db ae];omega⟩
 have hmb:2<=m/\m<=7:=by
  rw[db ae]at hm
  omega
 apply hN
 clear hN N
 (try((repeat(revert N;apply Pn.out));refine wk @hm ?_;(repeat(apply Pn.mk;intro N hN))))
 refine cm (fun n env st=>∃k:Nat,n=(m)-k/\k<=(m)/\env 6=.int .i64 (k:Int)/\((eL st.get X bs (A+10+8*k)/\x2<=st.next/\(∀i:Id,i≠X->i≠⟨133002001,x1+1⟩->i.bq<x2->st.get i=g2 i)/\∃vg vt,st.get ⟨133002001,x1+1⟩=some ⟨true,2,[[vg,vt]]⟩/\fN x2 st.get st.next vg k/\fZ gm x2 st.get st.next vt k/\vG vg 133007008/\vG vt 133013004))) (m) ⟨0,ae,ae,sl (tw @hz @hm),by(try dsimp only);exact⟨h2.mono ae,ae,fun i _ _ _=>rfl,.bj,.bj,WA,.inl ⟨rfl,rfl⟩,.inl ⟨rfl,rfl⟩,(fun o c e=>by cases e),(fun o c e=>by cases e)⟩⟩ ?_
 rintro n_a env_a st_a ⟨k,rfl,ale,a6,qN⟩ eF
 have a0:=eF 0 (by kernel_rfl);have a2:=eF 2 (by kernel_rfl);have a3:=eF 3 (by kernel_rfl);have a4:=eF 4 (by kernel_rfl);have a5:=eF 5 (by kernel_rfl)
 simp only[go_sem, ↓reduceIte,Nat.reduceEqDiff,Nat.reduceAdd,Nat.reduceSub,Nat.reduceLeDiff,reduceCtorEq,hz,hm]at a0 a2 a3 a4 a5
 clear eF
 obtain⟨aS,aN,aO,vg,vt,GR,aG,aT,aGs,aTs⟩:=qN
 by_cases hk:(k:Int)<(m:Int)
 ·have eh:∀{e:Env} {gg:Rows} {nx:Nat},(e 6=.int .i64 (IntKind.i64.wrap ((k:Int)+1)))->((eL gg X bs (A+10+8*(k+1))/\x2<=nx/\(∀i:Id,i≠X->i≠⟨133002001,x1+1⟩->i.bq<x2->gg i=g2 i)/\∃vg vt,gg ⟨133002001,x1+1⟩=some ⟨true,2,[[vg,vt]]⟩/\fN x2 gg nx vg (k+1)/\fZ gm x2 gg nx vt (k+1)/\vG vg 133007008/\vG vt 133013004))->∃m0,m0<(m)-k/\∃k:Nat,m0=(m)-k/\k<=(m)/\e 6=.int .i64 (k:Int)/\((eL gg X bs (A+10+8*k)/\x2<=nx/\(∀i:Id,i≠X->i≠⟨133002001,x1+1⟩->i.bq<x2->gg i=g2 i)/\∃vg vt,gg ⟨133002001,x1+1⟩=some ⟨true,2,[[vg,vt]]⟩/\fN x2 gg nx vg k/\fZ gm x2 gg nx vt k/\vG vg 133007008/\vG vt 133013004)):=fun x1 x2=>⟨_,ae,k+1,rfl,ae,(by rw[x1,bf ae]),x2⟩
  have qu:=ma (k:Int) ae ae
  have y3:=jm (k:Int) ae
  have jg:k<=16777215:=ae
  generalize iY (k:Int)=dt at qu y3
  have ew:(#[103]:Array UInt8).size+dt.size<=9223372036854775807:=by
   have:(#[103]:Array UInt8).size=1:=rfl
   omega
  have gW:(#[116]:Array UInt8).size+dt.size<=9223372036854775807:=by
   have:(#[116]:Array UInt8).size=1:=rfl
   omega
  have ly:((⟨#[103]⟩:ByteArray)++dt).size<=64:=by
   rw[gM]
   have:(⟨#[103]⟩:ByteArray).size=1:=rfl
   omega
  have E9:((⟨#[116]⟩:ByteArray)++dt).size<=64:=by
   rw[gM]
   have:(⟨#[116]⟩:ByteArray).size=1:=rfl
   omega
  obtain⟨ga,na⟩:=st_a
  (try dsimp only at aS aN aO GR aG aT)
  have Wc:=bZ (i:=X) (n:=na) ae
  have VI:k=0->(AV.own ⟨133007008,na+1⟩ 0 1)=.own ⟨133007008,na+1⟩ 0 (k+1):=fun h=>by rw[h]
  rcases aG with⟨k0,rfl⟩|⟨k0,o,L,rfl,hL,go,hs,j7,pB⟩
  (have zF:=tw @a6 (tw @a0 (tw @a2 (tw @a3 (tw @a4 (tw @a5 (tw @hk (tw @GR (tw @ew @gW))))))));(repeat(first|((repeat(revert N;apply Pn.out));refine wk zF ?_;(repeat(apply Pn.mk;intro N hN)))|((try apply Or.inl);refine⟨_,aw.x (qu) (sd zF),?_⟩;apply hN;clear hN N)));try clear zF)
  refine .inr (ay _ _ _ _ _ (fun r σ3 hq=>?_) (BU bs hb iz X 4 (A+10+8*k) ae _ (by
   obtain⟨za,zz,AS,gX⟩:=aS
   exact⟨za,zz,AS,by simp only[go_sem, ↓reduceIte,Nat.reduceEqDiff,Nat.reduceAdd,Nat.reduceSub,Nat.reduceLeDiff,reduceCtorEq,Wc,vX1]<;>exact gX⟩)))
  obtain⟨b,rfl,h3,hK⟩:=hq
  obtain⟨g3,x3⟩:=σ3
  (try dsimp only at h3)
  have Kt:=hK.1
  (try dsimp only at Kt)
  have c4:=hK.2 ⟨133002001,x1+1⟩ (fun e=>by rw[<-e]at hX;(try dsimp only at hX);omega) aH
  have c7:=hK.2 ⟨133008008,na+1+1⟩ (fun e=>by rw[<-e]at hX;(try dsimp only at hX);omega) aH
  have cE:=hK.2 ⟨133008006,na+1+1⟩ (fun e=>by rw[<-e]at hX;(try dsimp only at hX);omega) aH
  have cG:=hK.2 ⟨133007008,na+1⟩ (fun e=>by rw[<-e]at hX;(try dsimp only at hX);omega) aH
  simp only[go_sem, ↓reduceIte,Nat.reduceEqDiff,Nat.reduceAdd,Nat.reduceSub,Nat.reduceLeDiff,reduceCtorEq]at c4 c7 cE cG
  replace cE:∃l:List Int,l.length=4/\g3 ⟨133008006,na+1+1⟩=some ⟨true,1,l.map aM⟩:=⟨[0,IntKind.i64.wrap ((k:Int)+1),0,(k:Int)],rfl,cE⟩
  replace cG:∃L:List kU,L.length=k+1/\g3 ⟨133007008,na+1⟩=some ⟨true,2,L.map dZ⟩/\∀x∈L,x.cZ.size<=64:=⟨[⟨(⟨#[103]⟩:ByteArray)++dt,z⟩],by rw[k0];rfl,cG,fun x hx=>by rw[List.mem_singleton.1 hx];exact ly⟩
  have cO:∀i:Id,i≠X->i≠⟨133002001,x1+1⟩->i.bq<na->(i.site≠133007008∨i.bq<x2)->g3 i=ga i:=fun i h1 h2 h3 h4=>(hK.2 i h1 aH).trans (by
   have h8:=bZ h3
   have h9:=eq_false h2
   simp only[go_sem, ↓reduceIte,Nat.reduceEqDiff,Nat.reduceAdd,Nat.reduceSub,Nat.reduceLeDiff,reduceCtorEq,h8,h9])
  clear hK
  rw[VI k0]at c4
  clear k0 VI
  apply hN
  clear hN N
  rotate_left 1
  have vo:=bZ pB
  have oB:∀s,(o=⟨s,x1+1⟩)=False/\((⟨s,x1+1⟩:Id)=o)=False:=fun s=>⟨eq_false fun e=>by rw[e]at j7;(try dsimp only at j7);omega,eq_false fun e=>by rw[<-e]at j7;(try dsimp only at j7);omega⟩
  have kD:(L.map dZ).length=k:=by rw[List.length_map,hL]
  have nX:(X=o)=False:=eq_false fun h=>by rw[<-h]at j7;omega
  (have zF:=tw @a6 (tw @a0 (tw @a2 (tw @a3 (tw @a4 (tw @a5 (tw @hk (tw @GR (tw @ew (tw @gW (tw @go (tw @vo (tw @oB (tw @jg @kD)))))))))))));(repeat(first|((repeat(revert N;apply Pn.out));refine wk zF ?_;(repeat(apply Pn.mk;intro N hN)))|((try apply Or.inl);refine⟨_,aw.x (qu) (sd zF),?_⟩;apply hN;clear hN N)));try clear zF)
  refine .inr (ay _ _ _ _ _ (fun r σ3 hq=>?_) (BU bs hb iz X 4 (A+10+8*k) ae _ (by
   obtain⟨za,zz,AS,gX⟩:=aS
   exact⟨za,zz,AS,by simp only[go_sem, ↓reduceIte,Nat.reduceEqDiff,Nat.reduceAdd,Nat.reduceSub,Nat.reduceLeDiff,reduceCtorEq,Wc,vX1,nX]<;>exact gX⟩)))
  obtain⟨b,rfl,h3,hK⟩:=hq
  obtain⟨g3,x3⟩:=σ3
  (try dsimp only at h3)
  have Kt:=hK.1
  (try dsimp only at Kt)
  have c4:=hK.2 ⟨133002001,x1+1⟩ (fun e=>by rw[<-e]at hX;(try dsimp only at hX);omega) aH
  have c7:=hK.2 ⟨133008008,na+1+1⟩ (fun e=>by rw[<-e]at hX;(try dsimp only at hX);omega) aH
  have cE:=hK.2 ⟨133008006,na+1+1⟩ (fun e=>by rw[<-e]at hX;(try dsimp only at hX);omega) aH
  have cG:=hK.2 ⟨133007008,na+1⟩ (fun e=>by rw[<-e]at hX;(try dsimp only at hX);omega) aH
  simp only[go_sem, ↓reduceIte,Nat.reduceEqDiff,Nat.reduceAdd,Nat.reduceSub,Nat.reduceLeDiff,reduceCtorEq,oB]at c4 c7 cE cG
  replace cE:∃l:List Int,l.length=4/\g3 ⟨133008006,na+1+1⟩=some ⟨true,1,l.map aM⟩:=⟨[0,IntKind.i64.wrap ((k:Int)+1),0,(k:Int)],rfl,cE⟩
  replace cG:∃L:List kU,L.length=k+1/\g3 ⟨133007008,na+1⟩=some ⟨true,2,L.map dZ⟩/\∀x∈L,x.cZ.size<=64:=⟨L++[⟨(⟨#[103]⟩:ByteArray)++dt,z⟩],by simp[hL],by rw[List.map_append];exact cG,fun x hx=>by
   rcases List.mem_append.1 hx with h9|h9
   ·exact hs x h9
   ·rw[List.mem_singleton.1 h9];exact ly⟩
  have cO:∀i:Id,i≠X->i≠⟨133002001,x1+1⟩->i.bq<na->(i.site≠133007008∨i.bq<x2)->g3 i=ga i:=fun i h1 h2 h3 h4=>(hK.2 i h1 aH).trans (by
   have h8:=bZ h3
   have h9:=eq_false h2
   have h7:(i=o)=False:=eq_false fun e=>by rw[e]at h4;rcases h4 with h|h;exact h (aGs o _ rfl);omega
   simp only[go_sem, ↓reduceIte,Nat.reduceEqDiff,Nat.reduceAdd,Nat.reduceSub,Nat.reduceLeDiff,reduceCtorEq,h8,h9,h7])
  clear hK
  clear k0 VI
  apply hN
  clear hN N
  all_goals
   (try((repeat(revert N;apply Pn.out));refine wk (tw @a6 (tw @a0 (tw @a2 (tw @a3 (tw @a4 @a5))))) ?_;(repeat(apply Pn.mk;intro N hN))))
   refine nH (fun e st=>e 0=.ptr X 0 0/\e 2=.ptr ⟨133000000,σ.next⟩ 0 0/\e 3=.int .i64 z/\e 4=.ptr ⟨133002001,x1+1⟩ 0 0/\e 5=.int .i64 (m:Int)/\e 6=.int .i64 (k:Int)/\e 7=.ptr ⟨133008008,na+1+1⟩ 0 0/\eL st.get X bs (A+10+8*k+4)/\x3<=st.next/\(∀i:Id,i≠X->i≠⟨133008006,na+1+1⟩->i.bq<x3->st.get i=g3 i)/\∃l:List Int,l.length=4/\st.get ⟨133008006,na+1+1⟩=some ⟨true,1,l.map aM⟩) ?_ ?_
   ·rintro e st ⟨b0,b2,b3,b4,b5,b6,b7,bS,bN,bO,bE⟩
    obtain⟨gb,nb⟩:=st
    (try dsimp only at bS bN bO bE)
    have b8:=(bO ⟨133008008,na+1+1⟩ (fun e=>by rw[<-e]at hX;(try dsimp only at hX);omega) (fun e=>by injection e with e1 _;revert e1;decide) aH).trans c7
    apply hN
    clear hN N
    (try((repeat(revert N;apply Pn.out));refine wk (tw @b0 (tw @b2 (tw @b3 (tw @b4 (tw @b5 (tw @b6 @b7)))))) ?_;(repeat(apply Pn.mk;intro N hN))))
    refine .inr (ay _ _ _ _ _ (fun r σ5 hq=>?_) (BU bs hb iz X 4 _ ae _ bS))
    clear b
    obtain⟨b,rfl,h5,hK⟩:=hq
    obtain⟨g5,x5⟩:=σ5
    (try dsimp only at h5)
    have XH:=hK.1
    (try dsimp only at XH)
    have p4:=(hK.2 ⟨133002001,x1+1⟩ (fun e=>by rw[<-e]at hX;(try dsimp only at hX);omega) aH).trans ((bO ⟨133002001,x1+1⟩ (fun e=>by rw[<-e]at hX;(try dsimp only at hX);omega) (fun e=>by injection e with e1 _;revert e1;decide) aH).trans c4)
    have p7:=(hK.2 ⟨133008008,na+1+1⟩ (fun e=>by rw[<-e]at hX;(try dsimp only at hX);omega) aH).trans b8
    have pE:∃l:List Int,l.length=4/\g5 ⟨133008006,na+1+1⟩=some ⟨true,1,l.map aM⟩:=by
     obtain⟨l,hl,gE⟩:=bE
     exact⟨l,hl,(hK.2 ⟨133008006,na+1+1⟩ (fun e=>by rw[<-e]at hX;(try dsimp only at hX);omega) aH).trans gE⟩
    have pO:∀i:Id,i≠X->i≠⟨133008006,na+1+1⟩->i.bq<x3->g5 i=g3 i:=fun i h1 h2 h3=>(hK.2 i h1 aH).trans (bO i h1 h2 h3)
    (try dsimp only at p4 p7)
    clear hK
    apply hN
    clear hN N
    (try((repeat(revert N;apply Pn.out));refine wk @b0 ?_;(repeat(apply Pn.mk;intro N hN))))
    refine nH (fun e st=>e 0=.ptr X 0 0/\e 2=.ptr ⟨133000000,σ.next⟩ 0 0/\e 3=.int .i64 z/\e 4=.ptr ⟨133002001,x1+1⟩ 0 0/\e 5=.int .i64 (m:Int)/\e 6=.int .i64 (k:Int)/\e 7=.ptr ⟨133008008,na+1+1⟩ 0 0/\eL st.get X bs (A+10+8*k+8)/\x5<=st.next/\(∀i:Id,i≠X->i≠⟨133008006,na+1+1⟩->i.bq<x5->st.get i=g5 i)/\∃l:List Int,l.length=4/\st.get ⟨133008006,na+1+1⟩=some ⟨true,1,l.map aM⟩) ?_ ?_
    ·rintro e st ⟨r0,r2,r3,r4,r5,r6,r7,rS,rN,rO,rE⟩
     obtain⟨gc,nc⟩:=st
     (try dsimp only at rS rN rO rE)
     have s4:=(rO ⟨133002001,x1+1⟩ (fun e=>by rw[<-e]at hX;(try dsimp only at hX);omega) (fun e=>by injection e with e1 _;revert e1;decide) aH).trans p4
     have s7:=(rO ⟨133008008,na+1+1⟩ (fun e=>by rw[<-e]at hX;(try dsimp only at hX);omega) (fun e=>by injection e with e1 _;revert e1;decide) aH).trans p7
     (try dsimp only at s4 s7)
     have hc3:∀i:Id,i≠X->i≠⟨133008006,na+1+1⟩->i.bq<x3->gc i=g3 i:=fun i h1 h2 h3=>(rO i h1 h2 ae).trans (pO i h1 h2 h3)
     have YP:∀i:Id,i≠X->i≠⟨133002001,x1+1⟩->i.bq<na->(i.site≠133007008∨i.bq<x2)->gc i=ga i:=fun i h1 h2 h3 h4=>(hc3 i h1 (fun e=>by rw[e]at h3;(try dsimp only at h3);omega) ae).trans (cO i h1 h2 h3 h4)
     obtain⟨L,YL,hL2,hL3⟩:=cG
     have rG:=(hc3 ⟨133007008,na+1⟩ (fun e=>by rw[<-e]at hX;(try dsimp only at hX);omega) (fun e=>by injection e with e1 _;revert e1;decide) aH).trans hL2
     obtain⟨l,hl,gE⟩:=rE
     have Si:=bZ (i:=X) (n:=nc) ae
     have V9:∀s,(X=⟨s,x1+1⟩)=False:=fun s=>eq_false fun e=>by rw[e]at hX;(try dsimp only at hX);omega
     apply hN
     clear hN N
     rcases aT with⟨k0,rfl⟩|⟨k0,o,rows,rfl,hr,go,hT,hs,j7,pB⟩
     ·(try((repeat(revert N;apply Pn.out));refine wk (tw @r0 (tw @r2 (tw @r3 (tw @r4 (tw @r5 (tw @r6 (tw @r7 (tw @s4 @s7)))))))) ?_;(repeat(apply Pn.mk;intro N hN))))
      obtain⟨za,zz,AS,gX⟩:=rS
      have nG:(⟨133007008,na+1⟩:Id).bq<nc:=aH
      exact eh (sd (tw @a6 (tw @a0 (tw @a2 (tw @a3 (tw @a4 (tw @a5 @r6))))))) (by(try dsimp only);exact⟨⟨za,zz,ae,by simp only[go_sem, ↓reduceIte,Nat.reduceEqDiff,Nat.reduceAdd,Nat.reduceSub,Nat.reduceLeDiff,reduceCtorEq,Si,V9]<;>exact gX⟩,ae,fun i h1 h2 h3=>(by
       have h8:=bZ (i:=i) (n:=nc) ae
       have h9:=eq_false h2
       simp only[go_sem, ↓reduceIte,Nat.reduceEqDiff,Nat.reduceAdd,Nat.reduceSub,Nat.reduceLeDiff,reduceCtorEq,h8,h9]<;>exact(YP i h1 h2 ae (.inr h3)).trans (aO i h1 h2 h3)),.own ⟨133007008,na+1⟩ 0 (k+1),.own ⟨133013004,nc⟩ 0 1,sl @Nat.zero_add,.inr ⟨ae,⟨133007008,na+1⟩,L,rfl,YL,by simp only[go_sem, ↓reduceIte,Nat.reduceEqDiff,Nat.reduceAdd,Nat.reduceSub,Nat.reduceLeDiff,reduceCtorEq]<;>exact rG,hL3,aH,aH⟩,.inr ⟨ae,⟨133013004,nc⟩,[[.str ((⟨#[116]⟩:ByteArray)++dt),.own ⟨133008006,na+1+1⟩ 0 4]],by rw[k0],by rw[k0];rfl,sl @Nat.zero_add,fun row fE=>⟨_,⟨133008006,na+1+1⟩,List.mem_singleton.1 fE,⟨E9,tC _ _⟩,rfl,aH,aH,l,hl,by simp only[go_sem, ↓reduceIte,Nat.reduceEqDiff,Nat.reduceAdd,Nat.reduceSub,Nat.reduceLeDiff,reduceCtorEq]<;>exact gE⟩,by simp[gm],aH,aH⟩,fun o c h=>by cases h;rfl,fun o c h=>by cases h;rfl⟩)
     ·have Z2:=(YP o (fun h=>by rw[h]at j7;omega) (fun h=>by rw[h]at j7;(try dsimp only at j7);omega) pB (.inl (by rw[aTs o _ rfl];decide))).trans go
      have vo:=bZ (i:=o) (n:=nc) ae
      have o5:∀s,(o=⟨s,x1+1⟩)=False/\((⟨s,x1+1⟩:Id)=o)=False:=fun s=>⟨eq_false fun e=>by rw[e]at j7;(try dsimp only at j7);omega,eq_false fun e=>by rw[<-e]at j7;(try dsimp only at j7);omega⟩
      (try((repeat(revert N;apply Pn.out));refine wk (tw @r0 (tw @r2 (tw @r3 (tw @r4 (tw @r5 (tw @r6 (tw @r7 (tw @s4 (tw @s7 (tw @Z2 (tw @vo (tw @o5 (tw @hr @jg))))))))))))) ?_;(repeat(apply Pn.mk;intro N hN))))
      obtain⟨za,zz,AS,gX⟩:=rS
      have nG:(⟨133007008,na+1⟩:Id).bq<nc:=aH
      have nGo:((⟨133007008,na+1⟩:Id)=o)=False:=eq_false fun h=>by rw[<-h]at pB;(try dsimp only at pB);omega
      have nEo:((⟨133008006,na+1+1⟩:Id)=o)=False:=eq_false fun h=>by rw[<-h]at pB;(try dsimp only at pB);omega
      have Qy:(X=o)=False:=eq_false fun h=>by rw[<-h]at j7;omega
      have hT2:=hT.frame (g':=gc) (n':=na) (Nat.le_refl _) fun u h1 h2 h3=>YP u (fun h=>by rw[h]at h2;omega) (fun h=>by rw[h]at h2;(try dsimp only at h2);omega) h3 (.inl (fun h=>by rw[gm,h]at h1;revert h1;decide))
      exact eh (sd (tw @a6 (tw @a0 (tw @a2 (tw @a3 (tw @a4 (tw @a5 @r6))))))) (by(try dsimp only);exact⟨⟨za,zz,ae,by simp only[go_sem, ↓reduceIte,Nat.reduceEqDiff,Nat.reduceAdd,Nat.reduceSub,Nat.reduceLeDiff,reduceCtorEq,Si,V9,Qy]<;>exact gX⟩,ae,fun i h1 h2 h3=>(by
       have h8:=bZ (i:=i) (n:=nc) ae
       have h9:=eq_false h2
       have h7:(i=o)=False:=eq_false fun h=>by rw[h]at h3;omega
       simp only[go_sem, ↓reduceIte,Nat.reduceEqDiff,Nat.reduceAdd,Nat.reduceSub,Nat.reduceLeDiff,reduceCtorEq,h8,h9,h7]<;>exact(YP i h1 h2 ae (.inr h3)).trans (aO i h1 h2 h3)),.own ⟨133007008,na+1⟩ 0 (k+1),.own ⟨133013004,nc⟩ 0 (k+1),sl @Nat.zero_add,.inr ⟨ae,⟨133007008,na+1⟩,L,rfl,YL,by simp only[go_sem, ↓reduceIte,Nat.reduceEqDiff,Nat.reduceAdd,Nat.reduceSub,Nat.reduceLeDiff,reduceCtorEq,nGo]<;>exact rG,hL3,aH,aH⟩,.inr ⟨ae,⟨133013004,nc⟩,rows++[[.str ((⟨#[116]⟩:ByteArray)++dt),.own ⟨133008006,na+1+1⟩ 0 4]],rfl,by simp[hr],sl @Nat.zero_add,(hT2.frame (n':=nc+1+1) ae fun u h1 h2 h3=>(by
       have h8:=bZ (i:=u) (n:=nc) ae
       have h9:∀s,(u=⟨s,x1+1⟩)=False:=fun s=>eq_false fun h=>by rw[h]at h2;(try dsimp only at h2);omega
       have h7:(u=o)=False:=eq_false fun h=>hs (by rw[<-h];exact h1)
       simp only[go_sem, ↓reduceIte,Nat.reduceEqDiff,Nat.reduceAdd,Nat.reduceSub,Nat.reduceLeDiff,reduceCtorEq,h8,h9,h7])).snoc (e:=⟨133008006,na+1+1⟩) ⟨E9,tC _ _⟩ ⟨by simp[gm],aH,aH,l,hl,by simp only[go_sem, ↓reduceIte,Nat.reduceEqDiff,Nat.reduceAdd,Nat.reduceSub,Nat.reduceLeDiff,reduceCtorEq,nEo]<;>exact gE⟩,by simp[gm],aH,aH⟩,fun o c h=>by cases h;rfl,fun o c h=>by cases h;rfl⟩)
    ·intro N hN
     obtain⟨l,hl,gE⟩:=pE
     cases b
     ·(try((repeat(revert N;apply Pn.out));refine wk (tw @b0 (tw @b2 (tw @b3 (tw @b4 (tw @b5 (tw @b6 @b7)))))) ?_;(repeat(apply Pn.mk;intro N hN))))
      exact⟨sd (tw @b0 (tw @b2 (tw @b3 (tw @b4 (tw @b5 (tw @b6 @b7)))))),sd (tw @b0 (tw @b2 (tw @b3 (tw @b4 (tw @b5 (tw @b6 @b7)))))),sd (tw @b0 (tw @b2 (tw @b3 (tw @b4 (tw @b5 (tw @b6 @b7)))))),sd (tw @b0 (tw @b2 (tw @b3 (tw @b4 (tw @b5 (tw @b6 @b7)))))),sd (tw @b0 (tw @b2 (tw @b3 (tw @b4 (tw @b5 (tw @b6 @b7)))))),sd (tw @b0 (tw @b2 (tw @b3 (tw @b4 (tw @b5 (tw @b6 @b7)))))),sd (tw @b0 (tw @b2 (tw @b3 (tw @b4 (tw @b5 (tw @b6 @b7)))))),h5.mono ae,aH,fun i _ _ _=>rfl,l,hl,gE⟩
     ·(try((repeat(revert N;apply Pn.out));refine wk (tw @b0 (tw @b2 (tw @b3 (tw @b4 (tw @b5 (tw @b6 @b7)))))) ?_;(repeat(apply Pn.mk;intro N hN))))
      refine fm ?_ ?_<;>(try((repeat(revert N;apply Pn.out));refine wk (tw @b0 (tw @b2 (tw @b3 (tw @b4 (tw @b5 (tw @b6 (tw @b7 @p7))))))) ?_;(repeat(apply Pn.mk;intro N hN))))
      all_goals
       refine .inr (ay _ _ _ _ _ (fun r σ4 hq=>?_) (gS bs hb iz X (m:Int) _ ae _ h5))
       obtain⟨y,rfl,y0,y1,h4,hK⟩:=hq
       obtain⟨g4,x4⟩:=σ4
       (try dsimp only at h4)
       have Qb:=hK.1
       (try dsimp only at Qb)
       have d7:=(hK.2 ⟨133008008,na+1+1⟩ (fun e=>by rw[<-e]at hX;(try dsimp only at hX);omega) aH).trans p7
       have dE:=(hK.2 ⟨133008006,na+1+1⟩ (fun e=>by rw[<-e]at hX;(try dsimp only at hX);omega) aH).trans gE
       have dO:∀i:Id,i≠X->i.bq<x5->g4 i=g5 i:=fun i h1 h2=>hK.2 i h1 aH
       (try dsimp only at d7 dE)
       clear hK
       have fc:(l.map aM).length=4:=by rw[List.length_map,hl]
       have gF:∀w:Int,(l.map aM).set 2 [.int .i64 w]=(l.set 2 w).map aM:=fun w=>by rw[List.map_set];rfl
       apply hN
       clear hN N
       have l7:(l.map aM)[2]? =some [.int .i64 (l.getD 2 0)]:=getD_map aM ae
       (try((repeat(revert N;apply Pn.out));refine wk (tw @b0 (tw @b2 (tw @b3 (tw @b4 (tw @b5 (tw @b6 (tw @b7 (tw @d7 (tw @dE (tw @fc (tw @gF @l7))))))))))) ?_;(repeat(apply Pn.mk;intro N hN))))
       obtain⟨za,zz,AS,gX⟩:=h4
       have V9:∀s,(X=⟨s,na+1+1⟩)=False:=fun s=>eq_false fun e=>by rw[e]at hX;(try dsimp only at hX);omega
       exact⟨sd (tw @b0 (tw @b2 (tw @b3 (tw @b4 (tw @b5 (tw @b6 @b7)))))),sd (tw @b0 (tw @b2 (tw @b3 (tw @b4 (tw @b5 (tw @b6 @b7)))))),sd (tw @b0 (tw @b2 (tw @b3 (tw @b4 (tw @b5 (tw @b6 @b7)))))),sd (tw @b0 (tw @b2 (tw @b3 (tw @b4 (tw @b5 (tw @b6 @b7)))))),sd (tw @b0 (tw @b2 (tw @b3 (tw @b4 (tw @b5 (tw @b6 @b7)))))),sd (tw @b0 (tw @b2 (tw @b3 (tw @b4 (tw @b5 (tw @b6 @b7)))))),sd (tw @b0 (tw @b2 (tw @b3 (tw @b4 (tw @b5 (tw @b6 @b7)))))),⟨za,zz,ae,by simp only[go_sem, ↓reduceIte,Nat.reduceEqDiff,Nat.reduceAdd,Nat.reduceSub,Nat.reduceLeDiff,reduceCtorEq,V9]<;>exact gX⟩,aH,fun i h1 h2 h3=>(by
        have h9:=eq_false h2
        simp only[go_sem, ↓reduceIte,Nat.reduceEqDiff,Nat.reduceAdd,Nat.reduceSub,Nat.reduceLeDiff,reduceCtorEq,h9]<;>exact dO i h1 h3),l.set 2 (IntKind.i64.wrap (1+y)),by rw[List.length_set,hl],sl @Nat.zero_add⟩
   ·intro N hN
    obtain⟨l,hl,gE⟩:=cE
    cases b
    ·(try((repeat(revert N;apply Pn.out));refine wk (tw @a6 (tw @a0 (tw @a2 (tw @a3 (tw @a4 @a5))))) ?_;(repeat(apply Pn.mk;intro N hN))))
     exact⟨sd (tw @a6 (tw @a0 (tw @a2 (tw @a3 (tw @a4 @a5))))),sd (tw @a6 (tw @a0 (tw @a2 (tw @a3 (tw @a4 @a5))))),sd (tw @a6 (tw @a0 (tw @a2 (tw @a3 (tw @a4 @a5))))),sd (tw @a6 (tw @a0 (tw @a2 (tw @a3 (tw @a4 @a5))))),sd (tw @a6 (tw @a0 (tw @a2 (tw @a3 (tw @a4 @a5))))),sd (tw @a6 (tw @a0 (tw @a2 (tw @a3 (tw @a4 @a5))))),sd (tw @a6 (tw @a0 (tw @a2 (tw @a3 (tw @a4 @a5))))),h3.mono ae,aH,fun i _ _ _=>rfl,l,hl,gE⟩
    ·(try((repeat(revert N;apply Pn.out));refine wk (tw @a6 (tw @a0 (tw @a2 (tw @a3 (tw @a4 @a5))))) ?_;(repeat(apply Pn.mk;intro N hN))))
     refine fm ?_ ?_<;>(try((repeat(revert N;apply Pn.out));refine wk (tw @a6 (tw @a0 (tw @a2 (tw @a3 (tw @a4 (tw @a5 @c7)))))) ?_;(repeat(apply Pn.mk;intro N hN))))
     all_goals
      refine .inr (ay _ _ _ _ _ (fun r σ4 hq=>?_) (gS bs hb iz X (m:Int) _ ae _ h3))
      obtain⟨y,rfl,y0,y1,h4,hK⟩:=hq
      obtain⟨g4,x4⟩:=σ4
      (try dsimp only at h4)
      have Qb:=hK.1
      (try dsimp only at Qb)
      have d7:=(hK.2 ⟨133008008,na+1+1⟩ (fun e=>by rw[<-e]at hX;(try dsimp only at hX);omega) aH).trans c7
      have dE:=(hK.2 ⟨133008006,na+1+1⟩ (fun e=>by rw[<-e]at hX;(try dsimp only at hX);omega) aH).trans gE
      have dO:∀i:Id,i≠X->i.bq<x3->g4 i=g3 i:=fun i h1 h2=>hK.2 i h1 aH
      (try dsimp only at d7 dE)
      clear hK
      have fc:(l.map aM).length=4:=by rw[List.length_map,hl]
      have gF:∀w:Int,(l.map aM).set 0 [.int .i64 w]=(l.set 0 w).map aM:=fun w=>by rw[List.map_set];rfl
      apply hN
      clear hN N
      have l7:(l.map aM)[0]? =some [.int .i64 (l.getD 0 0)]:=getD_map aM ae
      (try((repeat(revert N;apply Pn.out));refine wk (tw @a6 (tw @a0 (tw @a2 (tw @a3 (tw @a4 (tw @a5 (tw @d7 (tw @dE (tw @fc (tw @gF @l7)))))))))) ?_;(repeat(apply Pn.mk;intro N hN))))
      obtain⟨za,zz,AS,gX⟩:=h4
      have V9:∀s,(X=⟨s,na+1+1⟩)=False:=fun s=>eq_false fun e=>by rw[e]at hX;(try dsimp only at hX);omega
      exact⟨sd (tw @a6 (tw @a0 (tw @a2 (tw @a3 (tw @a4 @a5))))),sd (tw @a6 (tw @a0 (tw @a2 (tw @a3 (tw @a4 @a5))))),sd (tw @a6 (tw @a0 (tw @a2 (tw @a3 (tw @a4 @a5))))),sd (tw @a6 (tw @a0 (tw @a2 (tw @a3 (tw @a4 @a5))))),sd (tw @a6 (tw @a0 (tw @a2 (tw @a3 (tw @a4 @a5))))),sd (tw @a6 (tw @a0 (tw @a2 (tw @a3 (tw @a4 @a5))))),sd (tw @a6 (tw @a0 (tw @a2 (tw @a3 (tw @a4 @a5))))),⟨za,zz,ae,by simp only[go_sem, ↓reduceIte,Nat.reduceEqDiff,Nat.reduceAdd,Nat.reduceSub,Nat.reduceLeDiff,reduceCtorEq,V9]<;>exact gX⟩,aH,fun i h1 h2 h3=>(by
       have h9:=eq_false h2
       simp only[go_sem, ↓reduceIte,Nat.reduceEqDiff,Nat.reduceAdd,Nat.reduceSub,Nat.reduceLeDiff,reduceCtorEq,h9]<;>exact dO i h1 h3),l.set 0 (IntKind.i64.wrap (1+y)),by rw[List.length_set,hl],sl @Nat.zero_add⟩
 ·have hke:k=m:=ae
  subst hke
  (try((repeat(revert N;apply Pn.out));refine wk (tw @a6 (tw @a0 (tw @a2 (tw @a3 (tw @a4 (tw @a5 @hk)))))) ?_;(repeat(apply Pn.mk;intro N hN))))
  obtain⟨ga,na⟩:=st_a
  (try dsimp only at aS aN aO GR aG aT)
  have XF:dF vt=some k:=by
   rcases aT with⟨h,_⟩|⟨_,o,rows,rfl,_⟩
   ·omega
   ·rfl
  rcases aT with⟨h,_⟩|⟨k0,o,rows,rfl,hr,go,hT,hs,j7,pB⟩
  ·omega
  refine cm (fun n env st=>∃j:Nat,n=(k)-j/\j<=(k)/\env 8=.int .i64 (j:Int)/\((na<=st.next/\(∀i:Id,(i.bq<x2∨¬gm i.site)->i.bq<na->st.get i=ga i)/\iN gm x2 st.get na rows))) (k) ⟨0,ae,ae,sl (tw @a6 (tw @a0 (tw @a2 (tw @a3 (tw @a4 @a5))))),by(try dsimp only);exact⟨ae,fun i _ _=>rfl,hT⟩⟩ ?_
  rintro n_b env_b st_b ⟨j,rfl,ble,b8,bI0⟩ eS
  have b0:=eS 0 (by kernel_rfl);have b2:=eS 2 (by kernel_rfl);have b3:=eS 3 (by kernel_rfl);have b4:=eS 4 (by kernel_rfl);have b5:=eS 5 (by kernel_rfl)
  simp only[go_sem, ↓reduceIte,Nat.reduceEqDiff,Nat.reduceAdd,Nat.reduceSub,Nat.reduceLeDiff,reduceCtorEq,a6,a0,a2,a3,a4,a5]at b0 b2 b3 b4 b5
  clear eS
  obtain⟨bN,bO,bT⟩:=bI0
  have b4':=(bO ⟨133002001,x1+1⟩ (.inl aH) aH).trans GR
  have bo:=(bO o (.inr hs) pB).trans go
  by_cases hj:(j:Int)<(k:Int)
  ·have fb:∀{e:Env} {gg:Rows} {nx:Nat},(e 8=.int .i64 (IntKind.i64.wrap ((j:Int)+1)))->((na<=nx/\(∀i:Id,(i.bq<x2∨¬gm i.site)->i.bq<na->gg i=ga i)/\iN gm x2 gg na rows))->∃m0,m0<(k)-j/\∃j:Nat,m0=(k)-j/\j<=(k)/\e 8=.int .i64 (j:Int)/\((na<=nx/\(∀i:Id,(i.bq<x2∨¬gm i.site)->i.bq<na->gg i=ga i)/\iN gm x2 gg na rows)):=fun x1 x2=>⟨_,ae,j+1,rfl,ae,(by rw[x1,bf ae]),x2⟩
   (try((repeat(revert N;apply Pn.out));refine wk (tw @b8 (tw @b0 (tw @b2 (tw @b3 (tw @b4 (tw @b5 (tw @hj (tw @b4' @XF)))))))) ?_;(repeat(apply Pn.mk;intro N hN))))
   refine cm (fun n env st=>∃d:Nat,n=(4)-d/\d<=(4)/\env 9=.int .i64 (d:Int)/\((na<=st.next/\(∀i:Id,(i.bq<x2∨¬gm i.site)->i.bq<na->st.get i=ga i)/\iN gm x2 st.get na rows))) (4) ⟨0,ae,ae,sl (tw @b8 (tw @b0 (tw @b2 (tw @b3 (tw @b4 @b5))))),by(try dsimp only);exact⟨ae,bO,bT⟩⟩ ?_
   rintro n_c env_c st_c ⟨d,rfl,cle,c9,cI0⟩ kE
   have c0:=kE 0 (by kernel_rfl);have c2:=kE 2 (by kernel_rfl);have c3:=kE 3 (by kernel_rfl);have c4:=kE 4 (by kernel_rfl);have c5:=kE 5 (by kernel_rfl);have c8:=kE 8 (by kernel_rfl)
   simp only[go_sem, ↓reduceIte,Nat.reduceEqDiff,Nat.reduceAdd,Nat.reduceSub,Nat.reduceLeDiff,reduceCtorEq,b8,b0,b2,b3,b4,b5]at c0 c2 c3 c4 c5 c8
   clear kE
   obtain⟨cN,cO,cT⟩:=cI0
   by_cases hd:(d:Int)<4
   ·have jv:∀{e:Env} {gg:Rows} {nx:Nat},(e 9=.int .i64 (IntKind.i64.wrap ((d:Int)+1)))->((na<=nx/\(∀i:Id,(i.bq<x2∨¬gm i.site)->i.bq<na->gg i=ga i)/\iN gm x2 gg na rows))->∃m0,m0<(4)-d/\∃d:Nat,m0=(4)-d/\d<=(4)/\e 9=.int .i64 (d:Int)/\((na<=nx/\(∀i:Id,(i.bq<x2∨¬gm i.site)->i.bq<na->gg i=ga i)/\iN gm x2 gg na rows)):=fun x1 x2=>⟨_,ae,d+1,rfl,ae,(by rw[x1,bf ae]),x2⟩
    have VI:=(cO ⟨133002001,x1+1⟩ (.inl aH) aH).trans GR
    have co:=(cO o (.inr hs) pB).trans go
    obtain⟨nm,e,fE,f1,f2,f3,l,hl,gE⟩:=cT.get (k:=j) ae
    have fc:(l.map aM).length=4:=by rw[List.length_map,hl]
    have l7:(l.map aM)[d]? =some [.int .i64 (l.getD d 0)]:=getD_map aM ae
    have gF:∀w:Int,(l.map aM).set d [.int .i64 w]=(l.set d w).map aM:=fun w=>by rw[List.map_set];rfl
    have VQ:(d:Int)<((4:Nat):Int):=ae
    by_cases hx:(k:Int)<l.getD d 0
    ·generalize l.getD d 0=w at l7 hx
     (try((repeat(revert N;apply Pn.out));refine wk (tw @c9 (tw @c0 (tw @c2 (tw @c3 (tw @c4 (tw @c5 (tw @c8 (tw @hd (tw @hj (tw @VI (tw @co (tw @fE (tw @gE (tw @l7 (tw @fc (tw @gF (tw @hx @VQ))))))))))))))))) ?_;(repeat(apply Pn.mk;intro N hN))))
     exact jv (sd (tw @c9 (tw @c0 (tw @c2 (tw @c3 (tw @c4 (tw @c5 @c8))))))) (by(try dsimp only);exact⟨ae,fun i h1 h2=>(by
      have h7:(i=e)=False:=eq_false fun h=>by rw[h]at h1;rcases h1 with h|h;omega;exact h f1
      simp only[go_sem, ↓reduceIte,Nat.reduceEqDiff,Nat.reduceAdd,Nat.reduceSub,Nat.reduceLeDiff,reduceCtorEq,h7]<;>exact cO i h1 h2),cT.write (by rw[List.length_set,hl])⟩)
    ·generalize l.getD d 0=w at l7 hx
     (try((repeat(revert N;apply Pn.out));refine wk (tw @c9 (tw @c0 (tw @c2 (tw @c3 (tw @c4 (tw @c5 (tw @c8 (tw @hd (tw @hj (tw @VI (tw @co (tw @fE (tw @gE (tw @l7 (tw @fc (tw @hx @VQ)))))))))))))))) ?_;(repeat(apply Pn.mk;intro N hN))))
     exact jv (sd (tw @c9 (tw @c0 (tw @c2 (tw @c3 (tw @c4 (tw @c5 @c8))))))) (by(try dsimp only);exact⟨ae,cO,cT⟩)
   ·(try((repeat(revert N;apply Pn.out));refine wk (tw @c9 (tw @c0 (tw @c2 (tw @c3 (tw @c4 (tw @c5 (tw @c8 @hd))))))) ?_;(repeat(apply Pn.mk;intro N hN))))
    exact fb (sd (tw @b8 (tw @b0 (tw @b2 (tw @b3 (tw @b4 (tw @b5 (tw @c9 (tw @c0 (tw @c2 (tw @c3 (tw @c4 (tw @c5 @c8))))))))))))) (by(try dsimp only);exact⟨ae,cO,cT⟩)
  ·(try((repeat(revert N;apply Pn.out));refine wk (tw @b8 (tw @b0 (tw @b2 (tw @b3 (tw @b4 (tw @b5 (tw @hj (tw @b4' @XF)))))))) ?_;(repeat(apply Pn.mk;intro N hN))))
   have bS:eL st_b.get X bs (A+10+8*k):=by
    obtain⟨za,zz,AS,gX⟩:=aS
    exact⟨za,zz,AS,(bO X (.inl ae) ae).trans gX⟩
   refine .inr (ay _ _ _ _ _ (fun r σ5 hq=>?_) (BU bs hb iz X 2 _ ae _ bS))
   obtain⟨b,rfl,h5,hK⟩:=hq
   obtain⟨g5,x5⟩:=σ5
   (try dsimp only at h5)
   have XH:=hK.1
   (try dsimp only at XH)
   have pO:∀i:Id,i≠X->(i.bq<x2∨¬gm i.site)->i.bq<na->g5 i=ga i:=fun i h1 h2 h3=>(hK.2 i h1 aH).trans (bO i h2 h3)
   have pT:iN gm x2 g5 na rows:=bT.frame (Nat.le_refl _) fun u h1 h2 h3=>hK.2 u (fun h=>by rw[h]at h2;omega) aH
   clear hK bS
   have p4:=(pO ⟨133002001,x1+1⟩ (fun e=>by rw[<-e]at hX;(try dsimp only at hX);omega) (.inl aH) aH).trans GR
   have po:=(pO o (fun h=>by rw[h]at j7;omega) (.inr hs) pB).trans go
   apply hN
   clear hN N
   (try((repeat(revert N;apply Pn.out));refine wk (tw @b8 (tw @b0 (tw @b2 (tw @b3 (tw @b4 @b5))))) ?_;(repeat(apply Pn.mk;intro N hN))))
   refine nH (fun e st=>e 2=.ptr ⟨133000000,σ.next⟩ 0 0/\e 3=.int .i64 z/\e 4=.ptr ⟨133002001,x1+1⟩ 0 0/\na<=st.next/\(∀i:Id,i≠X->(i.bq<x2∨¬gm i.site)->i.bq<na->st.get i=ga i)/\iN gm x2 st.get na rows/\eL st.get X bs (A+500)) ?_ ?_
   ·rintro e st ⟨r2,r3,r4,rN,rO,rT,rS⟩
    obtain⟨gc,nc⟩:=st
    (try dsimp only at rN rO rT rS)
    have s4:=(rO ⟨133002001,x1+1⟩ (fun e=>by rw[<-e]at hX;(try dsimp only at hX);omega) (.inl aH) aH).trans GR
    have s2:=(rO ⟨133000000,σ.next⟩ (fun e=>by rw[<-e]at hX;(try dsimp only at hX);omega) (.inl aH) aH).trans ((aO ⟨133000000,σ.next⟩ (fun e=>by rw[<-e]at hX;(try dsimp only at hX);omega) (fun e=>by injection e with e1 _;revert e1;decide) aH).trans mo)
    rcases aG with⟨h,_⟩|⟨_,og,L,rfl,hL,nw,ui,gv0,gv1⟩
    ·omega
    apply hN
    clear hN N
    (try((repeat(revert N;apply Pn.out));refine wk (tw @r2 (tw @r3 (tw @r4 (tw @s4 @s2)))) ?_;(repeat(apply Pn.mk;intro N hN))))
    obtain⟨za,zz,AS,gX⟩:=rS
    have Si:=bZ (i:=X) (n:=nc) ae
    have hG:fN x2 gc nc (.own og 0 k) k:=.inr ⟨ae,og,L,rfl,hL,(rO og (fun h=>by rw[h]at gv0;omega) (.inr (by rw[aGs og _ rfl];simp[gm])) gv1).trans nw,ui,ae,ae⟩
    have WO:fZ gm x2 gc nc (.own o 0 k) k:=.inr ⟨ae,o,rows,rfl,hr,(rO o (fun h=>by rw[h]at j7;omega) (.inr hs) pB).trans go,rT.frame rN fun _ _ _ _=>rfl,hs,ae,ae⟩
    have iO:∀u:Id,x2<=u.bq->u.bq<nc->∀r1 r2,(bI (bI gc ⟨133024002,nc⟩ r1) ⟨133000000,σ.next⟩ r2) u=gc u:=fun u h1 h2 r1 r2=>(by
     have h8:=bZ h2
     have h9:∀s,(u=⟨s,σ.next⟩)=False:=fun s=>eq_false fun h=>by rw[h]at h1;(try dsimp only at h1);omega
     simp only[go_sem, ↓reduceIte,Nat.reduceEqDiff,Nat.reduceAdd,Nat.reduceSub,Nat.reduceLeDiff,reduceCtorEq,h8,h9])
    exact eo (.inl rfl) (vs:=[.agg [.own og 0 k,.own o 0 k,.own ⟨133024002,nc⟩ 0 1,.int .i64 z]]) (sd @r2) ⟨⟨gm,.own og 0 k,.own o 0 k,k,k,⟨133024002,nc⟩,⟨⟨0,0⟩,0⟩,z,rfl,(hG.frame aH fun u h1 h2=>iO u h1 h2 _ _).since aH,(WO.frame aH fun u h1 h2=>iO u h1 h2 _ _).since aH,ae,ae,ae,ae,sl @Nat.zero_add,aH,aH⟩,⟨za,zz,ae,by simp only[go_sem, ↓reduceIte,Nat.reduceEqDiff,Nat.reduceAdd,Nat.reduceSub,Nat.reduceLeDiff,reduceCtorEq,Si,vX]<;>exact gX⟩,aH,fun u h1 h2=>(by
     have h7:=bZ h2
     have h8:=bZ (i:=u) (n:=nc) ae
     simp only[go_sem, ↓reduceIte,Nat.reduceEqDiff,Nat.reduceAdd,Nat.reduceSub,Nat.reduceLeDiff,reduceCtorEq,h7,h8]<;>exact(rO u h1 (.inl ae) ae).trans ((aO u h1 (fun h=>by rw[h]at h2;(try dsimp only at h2);omega) ae).trans (J8 u h1 h2)))⟩
   ·intro N hN
    cases b
    ·(try((repeat(revert N;apply Pn.out));refine wk (tw @b8 (tw @b0 (tw @b2 (tw @b3 (tw @b4 @b5))))) ?_;(repeat(apply Pn.mk;intro N hN))))
     exact⟨sd (tw @b8 (tw @b0 (tw @b2 (tw @b3 (tw @b4 @b5))))),sd (tw @b8 (tw @b0 (tw @b2 (tw @b3 (tw @b4 @b5))))),sd (tw @b8 (tw @b0 (tw @b2 (tw @b3 (tw @b4 @b5))))),aH,pO,pT,h5.mono ae⟩
    ·obtain⟨nm,e,fE,f1,f2,f3,l,hl,gE⟩:=pT.get (k:=k-1) ae
     have fc:(l.map aM).length=4:=by rw[List.length_map,hl]
     have l7:(l.map aM)[1]? =some [.int .i64 (l.getD 1 0)]:=getD_map aM ae
     have gF:∀w:Int,(l.map aM).set 1 [.int .i64 w]=(l.set 1 w).map aM:=fun w=>by rw[List.map_set];rfl
     have zb:IntKind.i64.wrap ((k:Int)-1)=((k-1:Nat):Int):=(db ae).trans ae
     have PZ:((k-1:Nat):Int)<(k:Int):=ae
     generalize k-1=kk at fE zb PZ
     (try((repeat(revert N;apply Pn.out));refine wk (tw @b8 (tw @b0 (tw @b2 (tw @b3 (tw @b4 (tw @b5 (tw @p4 (tw @po (tw @zb (tw @PZ (tw @fE (tw @gE (tw @l7 (tw @fc @gF)))))))))))))) ?_;(repeat(apply Pn.mk;intro N hN))))
     obtain⟨za,zz,AS,gX⟩:=h5
     have nXe:(X=e)=False:=eq_false fun h=>by rw[<-h]at f2;omega
     exact⟨sd (tw @b8 (tw @b0 (tw @b2 (tw @b3 (tw @b4 @b5))))),sd (tw @b8 (tw @b0 (tw @b2 (tw @b3 (tw @b4 @b5))))),sd (tw @b8 (tw @b0 (tw @b2 (tw @b3 (tw @b4 @b5))))),aH,fun i h0 h1 h2=>(by
      have h7:(i=e)=False:=eq_false fun h=>by rw[h]at h1;rcases h1 with h|h;omega;exact h f1
      simp only[go_sem, ↓reduceIte,Nat.reduceEqDiff,Nat.reduceAdd,Nat.reduceSub,Nat.reduceLeDiff,reduceCtorEq,h7]<;>exact pO i h0 h1 h2),pT.write (by rw[List.length_set,hl]),⟨za,zz,ae,by simp only[go_sem, ↓reduceIte,Nat.reduceEqDiff,Nat.reduceAdd,Nat.reduceSub,Nat.reduceLeDiff,reduceCtorEq,nXe]<;>exact gX⟩⟩
def Cm (f:Nat):Prop:=∀(bs:List Int),(∀b∈bs,0<=b/\b<=255)->bs.length<=4096->∀(X:Id) (A:Nat),A<=900000->∀σ:ax,eL σ.get X bs A->X.bq<σ.next->Call Tryz.prog f [.ptr X 0 0] σ (ye X bs A σ)
theorem nI.parts {n0:Nat} {g:Rows} {n:Nat} {r:AV} (h:nI n0 g n r):∃(vg vt:AV) (o:Id) (m:Int),r=.agg [vg,vt,.own o 0 1,.int .i64 m]/\(vg.cells=[vg]/\vg.cell=true)/\vt.cells=[vt]/\vt.cell=true:=by
 obtain⟨E,vg,vt,kg,kt,o,p,m,h1,h2,h3,_⟩:=h
 exact⟨vg,vt,o,m,h1,h2.cell,h3.cell⟩
theorem FH (hC:Cm 134) (bs:List Int) (hb:∀b∈bs,0<=b/\b<=255) (iz:bs.length<=4096) (X:Id) (A:Nat) (ha:A<=800000) (σ:ax) (h:eL σ.get X bs A) (hX:X.bq<σ.next):
  Call Tryz.prog 76 [.ptr X 0 0] σ fun r σ'=>nI σ.next σ'.get σ'.next r/\jD X σ σ':=by
 refine eZ fx rfl fun fD=>?_
 clear fD
 have vX:=bZ hX
 (try((repeat(revert N;apply Pn.out));refine wk @Nat.zero_add ?_;(repeat(apply Pn.mk;intro N hN))))
 refine .inr (ay _ _ _ _ _ (fun r σ1 hq=>?_) (gS bs hb iz X 7 A ae _ (by
  obtain⟨a,z,q1,q2⟩:=h
  exact⟨a,z,q1,by simp only[go_sem, ↓reduceIte,Nat.reduceEqDiff,Nat.reduceAdd,Nat.reduceSub,Nat.reduceLeDiff,reduceCtorEq,vX]<;>exact q2⟩)))
 obtain⟨v,rfl,v0,v1,h1,hK⟩:=hq
 obtain⟨g1,x1⟩:=σ1
 (try dsimp only at h1)
 have GC:=hK.1
 (try dsimp only at GC)
 have lx:=hK.2 ⟨76000000,σ.next⟩ (fun e=>by rw[<-e]at hX;(try dsimp only at hX);omega) aH
 simp only[go_sem, ↓reduceIte,Nat.reduceEqDiff,Nat.reduceAdd,Nat.reduceSub,Nat.reduceLeDiff,reduceCtorEq]at lx
 have uj:∀i:Id,i≠X->i.bq<σ.next->g1 i=σ.get i:=fun i hi hv=>(hK.2 i hi aH).trans (by have hv:=bZ hv;simp only[go_sem, ↓reduceIte,Nat.reduceEqDiff,Nat.reduceAdd,Nat.reduceSub,Nat.reduceLeDiff,reduceCtorEq,hv])
 clear hK h
 apply hN
 clear hN N
 by_cases e0:v=0
 ·subst e0
  (try((repeat(revert N;apply Pn.out));refine wk @Nat.zero_add ?_;(repeat(apply Pn.mk;intro N hN))))
  refine .inr (ay _ _ _ _ _ (fun r σ2 hq=>?_) (KI bs hb iz X _ ae _ h1 aH))
  obtain⟨hS,_,hK⟩:=hq
  obtain⟨g2,x2⟩:=σ2
  (try dsimp only at hS)
  have pU:=hK.1
  (try dsimp only at pU)
  have mo:=(hK.2 ⟨76000000,σ.next⟩ (fun e=>by rw[<-e]at hX;(try dsimp only at hX);omega) aH).trans lx
  have J8:∀i:Id,i≠X->i.bq<σ.next->g2 i=σ.get i:=fun i hi hv=>(hK.2 i hi aH).trans (uj i hi hv)
  (try dsimp only at mo)
  clear hK
  obtain⟨vg,vt,o,m,rfl,⟨c1,c2⟩,c3,c4⟩:=hS.parts
  unfold AV.cells at c1 c3
  unfold AV.cell at c2 c4
  apply hN
  clear hN N
  (try((repeat(revert N;apply Pn.out));refine wk (tw @c1 (tw @c2 (tw @c3 (tw @c4 @mo)))) ?_;(repeat(apply Pn.mk;intro N hN))))
  exact eo (.inl rfl) (vs:=[.agg [vg,vt,.own o 0 1,.int .i64 m]]) (sd (tw @c1 (tw @c2 (tw @c3 @c4)))) ⟨(hS.frame aH fun u h1 h2=>(by
   have h9:∀s,(u=⟨s,σ.next⟩)=False:=fun s=>eq_false fun h=>by rw[h]at h1;(try dsimp only at h1);omega
   simp only[go_sem, ↓reduceIte,Nat.reduceEqDiff,Nat.reduceAdd,Nat.reduceSub,Nat.reduceLeDiff,reduceCtorEq,h9])).since aH,aH,fun u h1 h2=>(by
   have h9:=bZ h2
   simp only[go_sem, ↓reduceIte,Nat.reduceEqDiff,Nat.reduceAdd,Nat.reduceSub,Nat.reduceLeDiff,reduceCtorEq,h9]<;>exact J8 u h1 h2)⟩
 by_cases e1:v=1
 ·subst e1
  (try((repeat(revert N;apply Pn.out));refine wk @Nat.zero_add ?_;(repeat(apply Pn.mk;intro N hN))))
  refine .inr (ay _ _ _ _ _ (fun r σ2 hq=>?_) (zi bs hb iz X _ ae _ h1 aH))
  obtain⟨hS,_,hK⟩:=hq
  obtain⟨g2,x2⟩:=σ2
  (try dsimp only at hS)
  have pU:=hK.1
  (try dsimp only at pU)
  have mo:=(hK.2 ⟨76000000,σ.next⟩ (fun e=>by rw[<-e]at hX;(try dsimp only at hX);omega) aH).trans lx
  have J8:∀i:Id,i≠X->i.bq<σ.next->g2 i=σ.get i:=fun i hi hv=>(hK.2 i hi aH).trans (uj i hi hv)
  (try dsimp only at mo)
  clear hK
  obtain⟨vg,vt,o,m,rfl,⟨c1,c2⟩,c3,c4⟩:=hS.parts
  unfold AV.cells at c1 c3
  unfold AV.cell at c2 c4
  apply hN
  clear hN N
  (try((repeat(revert N;apply Pn.out));refine wk (tw @c1 (tw @c2 (tw @c3 (tw @c4 @mo)))) ?_;(repeat(apply Pn.mk;intro N hN))))
  exact eo (.inl rfl) (vs:=[.agg [vg,vt,.own o 0 1,.int .i64 m]]) (sd (tw @c1 (tw @c2 (tw @c3 @c4)))) ⟨(hS.frame aH fun u h1 h2=>(by
   have h9:∀s,(u=⟨s,σ.next⟩)=False:=fun s=>eq_false fun h=>by rw[h]at h1;(try dsimp only at h1);omega
   simp only[go_sem, ↓reduceIte,Nat.reduceEqDiff,Nat.reduceAdd,Nat.reduceSub,Nat.reduceLeDiff,reduceCtorEq,h9])).since aH,aH,fun u h1 h2=>(by
   have h9:=bZ h2
   simp only[go_sem, ↓reduceIte,Nat.reduceEqDiff,Nat.reduceAdd,Nat.reduceSub,Nat.reduceLeDiff,reduceCtorEq,h9]<;>exact J8 u h1 h2)⟩
 by_cases e2:v=2
 ·subst e2
  (try((repeat(revert N;apply Pn.out));refine wk @Nat.zero_add ?_;(repeat(apply Pn.mk;intro N hN))))
  refine .inr (ay _ _ _ _ _ (fun r σ2 hq=>?_) (zi bs hb iz X _ ae _ h1 aH))
  obtain⟨hS,_,hK⟩:=hq
  obtain⟨g2,x2⟩:=σ2
  (try dsimp only at hS)
  have pU:=hK.1
  (try dsimp only at pU)
  have mo:=(hK.2 ⟨76000000,σ.next⟩ (fun e=>by rw[<-e]at hX;(try dsimp only at hX);omega) aH).trans lx
  have J8:∀i:Id,i≠X->i.bq<σ.next->g2 i=σ.get i:=fun i hi hv=>(hK.2 i hi aH).trans (uj i hi hv)
  (try dsimp only at mo)
  clear hK
  obtain⟨vg,vt,o,m,rfl,⟨c1,c2⟩,c3,c4⟩:=hS.parts
  unfold AV.cells at c1 c3
  unfold AV.cell at c2 c4
  apply hN
  clear hN N
  (try((repeat(revert N;apply Pn.out));refine wk (tw @c1 (tw @c2 (tw @c3 (tw @c4 @mo)))) ?_;(repeat(apply Pn.mk;intro N hN))))
  exact eo (.inl rfl) (vs:=[.agg [vg,vt,.own o 0 1,.int .i64 m]]) (sd (tw @c1 (tw @c2 (tw @c3 @c4)))) ⟨(hS.frame aH fun u h1 h2=>(by
   have h9:∀s,(u=⟨s,σ.next⟩)=False:=fun s=>eq_false fun h=>by rw[h]at h1;(try dsimp only at h1);omega
   simp only[go_sem, ↓reduceIte,Nat.reduceEqDiff,Nat.reduceAdd,Nat.reduceSub,Nat.reduceLeDiff,reduceCtorEq,h9])).since aH,aH,fun u h1 h2=>(by
   have h9:=bZ h2
   simp only[go_sem, ↓reduceIte,Nat.reduceEqDiff,Nat.reduceAdd,Nat.reduceSub,Nat.reduceLeDiff,reduceCtorEq,h9]<;>exact J8 u h1 h2)⟩
 ·have f0:=decide_eq_false e0
  have f1:=decide_eq_false e1
  have f2:=decide_eq_false e2
  (try((repeat(revert N;apply Pn.out));refine wk (tw @f0 (tw @f1 @f2)) ?_;(repeat(apply Pn.mk;intro N hN))))
  refine .inr (ay _ _ _ _ _ (fun r σ2 hq=>?_) (hC bs hb iz X _ ae _ h1 aH))
  obtain⟨hS,_,hK⟩:=hq
  obtain⟨g2,x2⟩:=σ2
  (try dsimp only at hS)
  have pU:=hK.1
  (try dsimp only at pU)
  have mo:=(hK.2 ⟨76000000,σ.next⟩ (fun e=>by rw[<-e]at hX;(try dsimp only at hX);omega) aH).trans lx
  have J8:∀i:Id,i≠X->i.bq<σ.next->g2 i=σ.get i:=fun i hi hv=>(hK.2 i hi aH).trans (uj i hi hv)
  (try dsimp only at mo)
  clear hK
  obtain⟨vg,vt,o,m,rfl,⟨c1,c2⟩,c3,c4⟩:=hS.parts
  unfold AV.cells at c1 c3
  unfold AV.cell at c2 c4
  apply hN
  clear hN N
  (try((repeat(revert N;apply Pn.out));refine wk (tw @c1 (tw @c2 (tw @c3 (tw @c4 @mo)))) ?_;(repeat(apply Pn.mk;intro N hN))))
  exact eo (.inl rfl) (vs:=[.agg [vg,vt,.own o 0 1,.int .i64 m]]) (sd (tw @c1 (tw @c2 (tw @c3 @c4)))) ⟨(hS.frame aH fun u h1 h2=>(by
   have h9:∀s,(u=⟨s,σ.next⟩)=False:=fun s=>eq_false fun h=>by rw[h]at h1;(try dsimp only at h1);omega
   simp only[go_sem, ↓reduceIte,Nat.reduceEqDiff,Nat.reduceAdd,Nat.reduceSub,Nat.reduceLeDiff,reduceCtorEq,h9])).since aH,aH,fun u h1 h2=>(by
   have h9:=bZ h2
   simp only[go_sem, ↓reduceIte,Nat.reduceEqDiff,Nat.reduceAdd,Nat.reduceSub,Nat.reduceLeDiff,reduceCtorEq,h9]<;>exact J8 u h1 h2)⟩
theorem Ed (hC:Cm 134) (bs:List Int) (hb:∀b∈bs,0<=b/\b<=255) (iz:bs.length<=4096):
  kb Tryz.prog 32 [.sl (bs.map jf)] fun r=>∃s:au,Wj s/\r=.agg (ck s):=by
 refine kb.body fx rfl fun fD n0=>?_
 clear fD
 (try((repeat(revert N;apply Pn.out));refine wk @Nat.zero_add ?_;(repeat(apply Pn.mk;intro N hN))))
 refine .inr (ay _ _ _ _ _ (fun r σ1 hq=>?_) (BJ bs _))
 obtain⟨X,rfl,x0,x1,hs,hK⟩:=hq
 obtain⟨g1,n1⟩:=σ1
 (try dsimp only at x0 x1 hs)
 apply hN
 clear hN N
 have lx:=hK ⟨32000000,n0⟩ aH
 simp only[go_sem, ↓reduceIte,Nat.reduceEqDiff,Nat.reduceAdd,Nat.reduceSub,Nat.reduceLeDiff,reduceCtorEq]at lx
 (try dsimp only at lx)
 clear hK
 (try((repeat(revert N;apply Pn.out));refine wk @Nat.zero_add ?_;(repeat(apply Pn.mk;intro N hN))))
 refine .inr (ay _ _ _ _ _ (fun r σ2 hq=>?_) (FH hC bs hb iz X 0 ae _ hs aH))
 obtain⟨hS,hK⟩:=hq
 obtain⟨g2,x2⟩:=σ2
 (try dsimp only at hS)
 have pU:=hK.1
 (try dsimp only at pU)
 have mo:=(hK.2 ⟨32000000,n0⟩ (fun e=>by rw[<-e]at x0;(try dsimp only at x0);omega) aH).trans lx
 (try dsimp only at mo)
 clear hK
 obtain⟨vg,vt,o,m,rfl,⟨c1,c2⟩,c3,c4⟩:=hS.parts
 unfold AV.cells at c1 c3
 unfold AV.cell at c2 c4
 apply hN
 clear hN N
 (try((repeat(revert N;apply Pn.out));refine wk (tw @c1 (tw @c2 (tw @c3 (tw @c4 @mo)))) ?_;(repeat(apply Pn.mk;intro N hN))))
 have hF:nI (n1+1) (bI g2 ⟨32000000,n0⟩ ⟨true,4,[[vg,vt,.own o 0 1,.int .i64 m]]⟩) x2 (.agg [vg,vt,.own o 0 1,.int .i64 m]):=hS.frame (Nat.le_refl _) fun u h1 h2=>(by
  have h9:∀s,(u=⟨s,n0⟩)=False:=fun s=>eq_false fun h=>by rw[h]at h1;(try dsimp only at h1);omega
  simp only[go_sem, ↓reduceIte,Nat.reduceEqDiff,Nat.reduceAdd,Nat.reduceSub,Nat.reduceLeDiff,reduceCtorEq,h9])
 obtain⟨s,Ay,LL⟩:=hF.fz
 exact⟨[.agg [vg,vt,.own o 0 1,.int .i64 m]],sd (tw @c1 (tw @c2 (tw @c3 @c4))),_,LL,s,Ay,rfl⟩
theorem IM (bs:List Int):aw Tryz.prog 8 [.sl (bs.map jf)] (.bool (decide (4096<bs.length))):=by
 refine aw.body fx rfl fun hl n0=>?_
 clear hl
 have fc:(bs.map jf).length=bs.length:=by simp
 (try((repeat(revert N;apply Pn.out));refine wk @fc ?_;(repeat(apply Pn.mk;intro N hN))))
 exact da (b:=decide ((4096:Int)<(bs.length:Int))) (.inl rfl) (sd @Nat.zero_add) (by apply decide_eq_decide.2;omega)
end Go.Proofs.YtainmfbpilopaaaGreatDoor.V

namespace Go.Proofs.YtainmfbpilopaaaGreatDoor.V
open Go.RowKit
theorem iW {X:gq} {c:VC} {Q:Ex->Env->ax->Prop} {env:Env} {σ:ax} (k:Nat) (h:zq (ea X c) Q k env σ):ea X (.loop c) Q env σ:=⟨k,h⟩
theorem jO {X:gq} {c:VC} {Q:Ex->Env->ax->Prop} {env:Env} {σ:ax} {n:Nat} (h:ea X c (de (zq (ea X c) Q n) Q) env σ):zq (ea X c) Q (n+1) env σ:=h
attribute [local irreducible] ea wpOps fB Call
theorem FB:aw Tryz.prog 236 [.int .i64 1,.sl []] (.sl [[.sl [[.int .i64 0]]]]):=by
 refine aw.body fx rfl fun fD n0=>?_
 clear fD
 have d1:(0:Int)<1:=by decide
 have d2:¬(1:Int)<1:=by decide
 have d3:¬(0:Int)<((0:Nat):Int):=by decide
 have hw:IntKind.i64.wrap (0+1)=1:=by decide
 have oP:IntKind.i64.wrap 1=1:=by decide
 have v7:([]:List (List AV)).length=0:=rfl
 have he:decide ((0:Int)=0)=true:=rfl
 have iI:decide (¬(0:Int)=0)=false:=rfl
 (try((repeat(revert N;apply Pn.out));refine wk @Nat.zero_add ?_;(repeat(apply Pn.mk;intro N hN))))
 refine iW 2 (jO ?_)
 (try((repeat(revert N;apply Pn.out));refine wk (tw @d1 (tw @d2 (tw @hw @oP))) ?_;(repeat(apply Pn.mk;intro N hN))))
 refine iW 1 (jO ?_)
 (try((repeat(revert N;apply Pn.out));refine wk (tw @d1 (tw @d2 (tw @d3 (tw @hw (tw @oP @v7))))) ?_;(repeat(apply Pn.mk;intro N hN))))
 refine iW 2 (jO ?_)
 (try((repeat(revert N;apply Pn.out));refine wk (tw @d1 (tw @d2 (tw @d3 (tw @hw (tw @oP (tw @v7 (tw @he @iI))))))) ?_;(repeat(apply Pn.mk;intro N hN))))
 refine iW 2 (jO ?_)
 (try((repeat(revert N;apply Pn.out));refine wk (tw @d1 (tw @d2 (tw @d3 (tw @hw (tw @oP (tw @v7 (tw @he @iI))))))) ?_;(repeat(apply Pn.mk;intro N hN))))
 refine⟨[.own ⟨236027003,_⟩ 0 1],by simp only[gU,jj,go_sem, ↓reduceIte,Nat.reduceEqDiff,Nat.reduceAdd,Nat.reduceSub,Nat.reduceLeDiff,reduceCtorEq]<;>rfl,_,?_,rfl⟩
 simp only[hZ]
 refine qU (sz:=1) (rows:=[[.own ⟨236026003,_⟩ 0 1]]) (sl @Nat.zero_add) (Nat.le_refl _) ?_
 have h:∀(g:Rows) (i:Id),g i=some ⟨true,1,[[.int .i64 0]]⟩->iu g 5 (.own i 0 1)=some (.sl [[.int .i64 0]]):=fun g i h=>eT (n:=4) (e:=aM) (l:=[0]) h rfl fun x=>S4 _ _ _
 rw[List.drop_zero]
 simp only[List.take,gI,bx,cw]
 rw[h _ _ (sl @Nat.zero_add)]
 rfl
theorem FC (t:Int):aw Tryz.prog 192 [.int .i64 1,.sl [],.int .i64 t] (.fP [.int .i64 1,.sl []]):=by
 refine aw.body fx rfl fun fD n0=>?_
 clear fD
 have d1:(0:Int)<1:=by decide
 have d2:¬(1:Int)<1:=by decide
 have d3:¬(0:Int)<((0:Nat):Int):=by decide
 have d4:(0:Int)<((1:Nat):Int):=by decide
 have d5:¬(1:Int)<((1:Nat):Int):=by decide
 have hw:IntKind.i64.wrap (0+1)=1:=by decide
 have oP:IntKind.i64.wrap 1=1:=by decide
 have h1:=FB
 (try((repeat(revert N;apply Pn.out));refine wk @d3 ?_;(repeat(apply Pn.mk;intro N hN))))
 refine iW 1 (jO ?_)
 (try((repeat(revert N;apply Pn.out));refine wk (tw @d1 (tw @d2 (tw @d3 (tw @d4 (tw @d5 (tw @hw @oP)))))) ?_;(repeat(apply Pn.mk;intro N hN))))
 refine .inl ⟨_,aw.x h1 (S5 (aV _ _ _ _) (jT (sz:=3) (e:=di) (l:=[]) (by simp only[eD,go_sem, ↓reduceIte,Nat.reduceEqDiff,Nat.reduceAdd,Nat.reduceSub,Nat.reduceLeDiff,reduceCtorEq,Option.map_some]<;>rfl) rfl fun x=>CP _ _ _)),?_⟩
 apply hN
 clear hN N
 (try((repeat(revert N;apply Pn.out));refine wk (tw @d1 (tw @d2 (tw @d3 (tw @d4 (tw @d5 (tw @hw @oP)))))) ?_;(repeat(apply Pn.mk;intro N hN))))
 refine iW 2 (jO ?_)
 (try((repeat(revert N;apply Pn.out));refine wk (tw @d1 (tw @d2 (tw @d3 (tw @d4 (tw @d5 (tw @hw @oP)))))) ?_;(repeat(apply Pn.mk;intro N hN))))
 refine iW 2 (jO ?_)
 (try((repeat(revert N;apply Pn.out));refine wk (tw @d1 (tw @d2 (tw @d3 (tw @d4 (tw @d5 (tw @hw @oP)))))) ?_;(repeat(apply Pn.mk;intro N hN))))
 refine iW 1 (jO ?_)
 (try((repeat(revert N;apply Pn.out));refine wk (tw @d1 (tw @d2 (tw @d3 (tw @d4 (tw @d5 (tw @hw @oP)))))) ?_;(repeat(apply Pn.mk;intro N hN))))
 refine⟨[.int .i64 ((1:Nat):Int),.own ⟨192016000,_⟩ 0 0],by simp only[gU,jj,go_sem, ↓reduceIte,Nat.reduceEqDiff,Nat.reduceAdd,Nat.reduceSub,Nat.reduceLeDiff,reduceCtorEq]<;>rfl,_,?_,rfl⟩
 simp only[hZ,fo,bx,cw,ej]
 have hz:∀(g:Rows) (i:Id),g i=some ⟨true,3,[]⟩->iu g 5 (.own i 0 0)=some (.sl []):=fun g i h=>qU h (Nat.le_refl _) (by rw[show(([]:List (List AV)).drop 0).take 0=[]from rfl,gI])
 rw[hz _ _ (sl @Nat.zero_add)]
 rfl
theorem Pw (s:az) (p:aa):dg s [p]=[]:=by
 have h:∀d:Int,ik d 0 3=true->gi s [p] 0 d=[]:=fun d hd=>by
  unfold gi
  rw[if_neg]
  intro⟨h,_⟩
  obtain⟨h1,h2⟩:=iC h
  have h3:(dm [p] (bc (aA [p] 0).aI d)).toNat=0:=by simpa using h1
  rw[h3]at h2
  have tc:=dY hd
  have e1:=congrArg ai.eV h2
  have e2:=congrArg ai.eQ h2
  have:d=0∨d=1∨d=2∨d=3:=ae
  rcases this with rfl|rfl|rfl|rfl<;>simp[bc]at e1 e2<;>omega
 show(List.range 1).flatMap (fun i=>gQ s [p] i 2)=[]
 have e:gQ s [p] 0 2=[]:=by
  rw[jF,jF,h _ rfl,h _ rfl];rfl
 simp[List.range_succ,e]
theorem Oj (p:aa) (s:az) (t:Int):lu [p].length (dg s [p]) t:=by
 rw[Pw]
 have h1:=nV 1 (fe (bW t []))
 exact⟨Nat.le_trans h1 (by decide),Ko (Nat.lt_of_le_of_lt h1 (by decide))⟩
theorem HF (s:az) (p:aa) (hA:gx s [p]):aw Tryz.prog 193 [.ef (ah s),.ef [.sl ([p].map ab)]] (.sl []):=by
 have hn:∀d:Int,ik d 0 3=true->dm [p] (bc (aA [p] 0).aI d)= -1:=fun d hd=>by
  have h1:=(zg [p] (bc (aA [p] 0).aI d)).1
  by_cases h:0<=dm [p] (bc (aA [p] 0).aI d)
  ·obtain⟨h1,h2⟩:=iC h
   have h3:(dm [p] (bc (aA [p] 0).aI d)).toNat=0:=by simpa using h1
   rw[h3]at h2
   exact absurd h2.symm (fun e=>by
    have tc:=dY hd
    have e1:=congrArg ai.eV e
    have e2:=congrArg ai.eQ e
    have:d=0∨d=1∨d=2∨d=3:=ae
    rcases this with rfl|rfl|rfl|rfl<;>simp[bc]at e1 e2<;>omega)
  ·omega
 have n1:=sF [p] hA.1 0 1 (Nat.zero_lt_one) rfl
 have n0':=sF [p] hA.1 0 0 (Nat.zero_lt_one) rfl
 rw[hn 1 rfl]at n1
 rw[hn 0 rfl]at n0'
 rw[show(((0:Nat)):Int)=0 from rfl,show[p].map ab=[ab p]from rfl]at n1 n0'
 have d1:(0:Int)<1:=by decide
 have d2:¬(1:Int)<1:=by decide
 have d3:(0:Int)<=1:=by decide
 have d4:(0:Int)<=0:=by decide
 have d5:¬(0:Int)<=-1:=by decide
 have d6:(-1:Int)<0:=by decide
 have hw:IntKind.i64.wrap (0+1)=1:=by decide
 have oP:IntKind.i64.wrap 1=1:=by decide
 have hw3:IntKind.i64.wrap (1-1)=0:=by decide
 have hw4:IntKind.i64.wrap (0-1)= -1:=by decide
 have v7:((1:Nat):Int)=1:=rfl
 have LJ:([p].map ab).length=1:=rfl
 refine aw.body fx rfl fun fD n0=>?_
 clear fD
 (try((repeat(revert N;apply Pn.out));refine wk @Nat.zero_add ?_;(repeat(apply Pn.mk;intro N hN))))
 refine iW 2 (jO ?_)
 (try((repeat(revert N;apply Pn.out));refine wk (tw @d1 (tw @LJ @v7)) ?_;(repeat(apply Pn.mk;intro N hN))))
 refine iW 3 (jO ?_)
 (have zF:=tw @d1 (tw @d2 (tw @d3 (tw @d4 (tw @d5 (tw @d6 (tw @hw (tw @oP (tw @hw3 (tw @hw4 (tw @LJ @v7))))))))));(repeat(first|((repeat(revert N;apply Pn.out));refine wk zF ?_;(repeat(apply Pn.mk;intro N hN)))|((try apply Or.inl);refine⟨_,aw.x (n1) (sd zF),?_⟩;apply hN;clear hN N)|((try apply Or.inl);refine⟨_,aw.x (n0') (sd zF),?_⟩;apply hN;clear hN N)));try clear zF)
 refine⟨[.own ⟨193001000,_⟩ 0 0],by simp only[gU,jj,go_sem, ↓reduceIte,Nat.reduceEqDiff,Nat.reduceAdd,Nat.reduceSub,Nat.reduceLeDiff,reduceCtorEq]<;>rfl,_,?_,rfl⟩
 simp only[hZ]
 exact qU (sz:=3) (rows:=[]) (sl @Nat.zero_add) (Nat.le_refl _) (by rw[show(([]:List (List AV)).drop 0).take 0=[]from rfl,gI])
theorem FD (s:az) (p:aa) (t:Int) (hS:gy s) (hA:gx s [p]):aw Tryz.prog 140 [.ef (ah s),.ef [.sl ([p].map ab)],.int .i64 t] (.fP [.bool true,.int .i64 0]):=by
 have IY:=HF s p hA
 have hsh:=FC t
 have d1:¬(64:Int)<1:=by decide
 have d2:(1:Int)<2:=by decide
 have v7:([p].map ab).length=1:=rfl
 have hc:((1:Nat):Int)=1:=rfl
 refine aw.body fx rfl fun hl n0=>?_
 clear hl
 (have zF:=tw @ah.eq_1 (tw @d1 (tw @d2 (tw @v7 @hc)));(repeat(first|((repeat(revert N;apply Pn.out));refine wk zF ?_;(repeat(apply Pn.mk;intro N hN)))|((try apply Or.inl);refine⟨_,aw.x (IY) (sd zF),?_⟩;apply hN;clear hN N)|((try apply Or.inl);refine⟨_,aw.x (hsh) (sd zF),?_⟩;apply hN;clear hN N)));try clear zF)
 exact lY (.inl rfl) (r1:=.bool true) (r2:=.int .i64 0) (sd @Nat.zero_add) (sd @Nat.zero_add) (by simp only[fo,bx,cw,gj,ej,Option.map_some])
theorem Qr (s:au) (hn:im s.aD) (hg:s.aD.bh.length<=1048576) (ht:s.aD.aj.length<=1048576) (Nb:s.bH.aj.length=1):aw Tryz.prog 79 [.ef (ck s)] (.bool (j8 s)):=by
 obtain⟨p,hp⟩:=List.length_eq_one_iff.1 Nb
 refine aw.body fx rfl fun hl n0=>?_
 clear hl
 have h1:=(Qn s.aD hn hg ht).cut mixed (.ptr _ [.sl (s.bH.aj.map ab),.int .i64 s.aE] .nil)
 by_cases hS:gy s.aD
 ·rw[mM.2 hS]at h1
  have h2:=(Qp s.aD s.bH.aj).cut mixed (.ptr _ [.sl (s.bH.aj.map ab),.int .i64 s.aE] (.ptr _ [.int .i64 s.aE] .nil))
  by_cases hA:gx s.aD s.bH.aj
  ·rw[ml.2 hA]at h2
   have hd:decide ((s.bH.aj.length:Int)=0)=false:=decide_eq_false ae
   have h3:=wh s.aE
   cases hT:ik s.aE 1 16
   ·rw[hT]at h3
    (have zF:=tw @ck.eq_1 (tw @ah.eq_1 @hd);(repeat(first|((repeat(revert N;apply Pn.out));refine wk zF ?_;(repeat(apply Pn.mk;intro N hN)))|((try apply Or.inl);refine⟨_,aw.x (h1) (sd zF),?_⟩;apply hN;clear hN N)|((try apply Or.inl);refine⟨_,aw.x (h2) (sd zF),?_⟩;apply hN;clear hN N)|((try apply Or.inl);refine⟨_,aw.x (h3) (sd zF),?_⟩;apply hN;clear hN N)));try clear zF)
    exact da (b:=false) (.inl rfl) (sd @Nat.zero_add) (np fun h=>by have:=h.Gj;rw[hT]at this;cases this)
   ·rw[hT]at h3
    have h4:=FD s.aD p s.aE hS (by rw[<-hp];exact hA)
    rw[<-hp]at h4
    replace h4:=h4.cut mixed (.ptr _ [.sl (s.bH.aj.map ab),.int .i64 s.aE] (.ptr _ [.int .i64 s.aE] (.same _ .nil)))
    have hP:lu s.bH.aj.length (dg s.aD s.bH.aj) s.aE:=by rw[hp];exact Oj p _ _
    (have zF:=tw @ck.eq_1 (tw @ah.eq_1 @hd);(repeat(first|((repeat(revert N;apply Pn.out));refine wk zF ?_;(repeat(apply Pn.mk;intro N hN)))|((try apply Or.inl);refine⟨_,aw.x (h1) (sd zF),?_⟩;apply hN;clear hN N)|((try apply Or.inl);refine⟨_,aw.x (h2) (sd zF),?_⟩;apply hN;clear hN N)|((try apply Or.inl);refine⟨_,aw.x (h3) (sd zF),?_⟩;apply hN;clear hN N)|((try apply Or.inl);refine⟨_,aw.x (h4) (sd zF),?_⟩;apply hN;clear hN N)));try clear zF)
    exact da (b:=true) (.inl rfl) (sd @Nat.zero_add) (Gf ⟨hS,hA,ae,hT,hP⟩)
  ·have hb:sL s.aD s.bH.aj=false:=Bool.eq_false_iff.2 fun h=>hA (ml.1 h)
   rw[hb]at h2
   (repeat(first|((repeat(revert N;apply Pn.out));refine wk (tw @ck.eq_1 @ah.eq_1) ?_;(repeat(apply Pn.mk;intro N hN)))|((try apply Or.inl);refine⟨_,aw.x (h1) (sd (tw @ck.eq_1 @ah.eq_1)),?_⟩;apply hN;clear hN N)|((try apply Or.inl);refine⟨_,aw.x (h2) (sd (tw @ck.eq_1 @ah.eq_1)),?_⟩;apply hN;clear hN N)))
   exact da (b:=false) (.inl rfl) (sd @Nat.zero_add) (np fun h=>hA h.o8)
 ·have hb:rZ s.aD=false:=Bool.eq_false_iff.2 fun h=>hS (mM.1 h)
  rw[hb]at h1
  (repeat(first|((repeat(revert N;apply Pn.out));refine wk (tw @ck.eq_1 @ah.eq_1) ?_;(repeat(apply Pn.mk;intro N hN)))|((try apply Or.inl);refine⟨_,aw.x (h1) (sd (tw @ck.eq_1 @ah.eq_1)),?_⟩;apply hN;clear hN N)))
  exact da (b:=false) (.inl rfl) (sd @Nat.zero_add) (np fun h=>hS h.set)
end Go.Proofs.YtainmfbpilopaaaGreatDoor.V

namespace Go.Proofs.YtainmfbpilopaaaGreatDoor.V
open Go.RowKit
attribute [local irreducible] ea wpOps fB Call
theorem Ea (s:au) (hn:im s.aD) (hg:s.aD.bh.length<=1048576) (ht:s.aD.aj.length<=1048576) (Nb:s.bH.aj.length=1) (dX:List Int) (hs:∀x∈dX,0<=x/\x<=1000) (qZ:dX.length<=200) (steps:Nat) (ed:steps<=500):
  A6 Tryz.prog 34 [.agg (ck s),.sl (dX.map aM),.int .i64 (steps:Int)] fun r=>r=Hk s dX steps:=by
 have h1:=Qr s hn hg ht Nb
 have h2:=AX dX hs qZ
 have h3:=lz (steps:Int) 0 500
 rw[show ik (steps:Int) 0 500=true by simp[ik];omega]at h3
 cases h0:j8 s
 ·rw[IW h0]
  rw[h0]at h1
  refine A6.body fx rfl fun fD σ=>?_
  clear fD
  rw[ck]at h1 ⊢
  (repeat(first|((repeat(revert N;apply Pn.out));refine wk @Nat.zero_add ?_;(repeat(apply Pn.mk;intro N hN)))|((try apply Or.inl);refine⟨_,aw.x (h1) (sd @Nat.zero_add),?_⟩;apply hN;clear hN N)))
  exact⟨[.bj,.agg [.bj],.int .i64 1],sd @Nat.zero_add,_,by simp only[hZ,bz,bp,aq,ar,cz,aQ,aV,Option.map_some]<;>rfl,rfl⟩
 ·have hP:=mN.1 h0
  rw[h0]at h1
  have h4:=kb.cut mixed (.same _ (.ptr _ [.int .i64 s.aE] (.same _ (.same _ .nil)))) (KG s hP dX hs qZ steps ed)
  simp only[List.cons_append,List.nil_append]at h4
  refine A6.body fx rfl fun fD σ=>?_
  clear fD
  simp only[ck]at h1 h4 ⊢
  (repeat(first|((repeat(revert N;apply Pn.out));refine wk @Nat.zero_add ?_;(repeat(apply Pn.mk;intro N hN)))|((try apply Or.inl);refine⟨_,aw.x (h1) (sd @Nat.zero_add),?_⟩;apply hN;clear hN N)|((try apply Or.inl);refine⟨_,aw.x (h2) (sd @Nat.zero_add),?_⟩;apply hN;clear hN N)|((try apply Or.inl);refine⟨_,aw.x (h3) (sd @Nat.zero_add),?_⟩;apply hN;clear hN N)))
  refine .inr (ay _ _ _ _ _ (fun r σ2 hq=>?_) (kb.x mixed h4 (Z0 (s5 (rows:=[[.sl (s.aD.bh.map dZ),.sl (s.aD.aj.map dx),.sl (s.bH.aj.map ab),.int .i64 s.aE]]) (by simp only[eD,go_sem, ↓reduceIte,Nat.reduceEqDiff,Nat.reduceAdd,Nat.reduceSub,Nat.reduceLeDiff,reduceCtorEq,Option.map_some]<;>rfl) rfl (by simp only[aq,ar,List.drop,cz,aV,Option.map_some])) (s5 (rows:=[[.sl (s.aD.bh.map dZ),.sl (s.aD.aj.map dx),.sl (s.bH.aj.map ab),.int .i64 s.aE]]) (by simp only[eD,go_sem, ↓reduceIte,Nat.reduceEqDiff,Nat.reduceAdd,Nat.reduceSub,Nat.reduceLeDiff,reduceCtorEq,Option.map_some]<;>rfl) rfl (by simp only[aq,ar,List.drop,cz,aV,Option.map_some])) (cz _ _ _) (aV _ _ _ _))))
  obtain⟨⟨b,rfl⟩,rfl⟩:=hq
  apply hN
  clear hN N
  cases hg:qt s dX steps with
  |none=>
   obtain⟨e1,e2⟩:=Bw h0 hg
   rw[e2]
   (try((repeat(revert N;apply Pn.out));refine wk @Nat.zero_add ?_;(repeat(apply Pn.mk;intro N hN))))
   exact⟨[.bj,.agg [.bj],.int .i64 4],sd @Nat.zero_add,_,by simp only[hZ,bz,bp,aq,ar,cz,aQ,aV,Option.map_some]<;>rfl,e1.symm⟩
  |some es=>
   obtain⟨e1,e2⟩:=By h0 hg
   rw[e2]
   (try((repeat(revert N;apply Pn.out));refine wk @Nat.zero_add ?_;(repeat(apply Pn.mk;intro N hN))))
   exact⟨[.sl (es.map ab),.agg [.sl ((dn s es es.length).map ab)],.int .i64 0],sd @Nat.zero_add,_,by simp only[hZ,bz,bp,aq,ar,cz,aQ,aV,Option.map_some]<;>rfl,e1.symm⟩
theorem FA:aw Tryz.prog 64 [.ef [.bj],.ef [.bj]] (.bool true):=by
 refine aw.body fx rfl fun hl n0=>?_
 clear hl
 have hd:∀x:Int,decide (x=x)=true:=fun x=>decide_eq_true rfl
 (try((repeat(revert N;apply Pn.out));refine wk @hd ?_;(repeat(apply Pn.mk;intro N hN))))
 refine cm (fun n env st=>∃k:Nat,n=(0)-k/\k<=(0)/\env 5=.int .i64 (k:Int)) (0) ⟨0,ae,ae,sl @hd⟩ ?_
 rintro n_b env_b st_b ⟨k,rfl,ble,b5⟩ eS
 have b0:=eS 0 (by kernel_rfl);have b1:=eS 1 (by kernel_rfl)
 simp only[go_sem, ↓reduceIte,Nat.reduceEqDiff,Nat.reduceAdd,Nat.reduceSub,Nat.reduceLeDiff,reduceCtorEq,hd]at b0 b1
 clear eS
 obtain rfl:k=0:=ae
 have hk:¬((0:Nat):Int)<((0:Nat):Int):=ae
 (try((repeat(revert N;apply Pn.out));refine wk (tw @b5 (tw @b0 (tw @b1 @hk))) ?_;(repeat(apply Pn.mk;intro N hN))))
 exact da (b:=true) (.inl rfl) (sd @Nat.zero_add) rfl
theorem vF:aw Tryz.prog 29 [.agg [.bj],.agg [.bj]] (.bool true):=by
 refine aw.body fx rfl fun hl n0=>?_
 clear hl
 have h1:=FA
 (repeat(first|((repeat(revert N;apply Pn.out));refine wk @Nat.zero_add ?_;(repeat(apply Pn.mk;intro N hN)))|((try apply Or.inl);refine⟨_,aw.x (h1) (sd @Nat.zero_add),?_⟩;apply hN;clear hN N)))
 exact da (b:=true) (.inl rfl) (sd @Nat.zero_add) rfl
theorem zL {s:au} (h0:j8 s=true) {es:List aa} (hG:iS s es) (hl:es.length<=500):D5 s es=(0,0)/\KZ s es=.sl ((dn s es es.length).map ab):=by
 have h:D5 s es=(0,0):=by rw[D5,h0,if_pos rfl,if_pos hl,Jj hG]
 exact⟨h,by rw[KZ,h,if_pos rfl]⟩
theorem yi (s:au) (es:List aa) (hn:im s.aD) (hm:sf s) (hl:es.length<=1048576):aw Tryz.prog 35 [.agg (ck s),AY ab es] (.fP [.agg [KZ s es],.int .i64 (D5 s es).1,.int .i64 (D5 s es).2]):=by
 have h:=pY s es hn hm hl
 by_cases h0:es.length=0
 ·obtain rfl:=List.length_eq_zero_iff.1 h0
  rw[AY,if_pos h0]
  exact aw.cut mixed (.same _ (.bj .nil)) h
 ·rw[AY,if_neg h0];exact h
theorem KL (hC:Cm 134) (code more:List Int) (hc:∀b∈code,0<=b/\b<=255) (hm:∀b∈more,0<=b/\b<=255) (σ:ax) (hE:ib σ.get) (sC:1<=σ.next):Call Tryz.prog 6 [.sl (code.map jf),.sl (more.map jf)] σ fun r _=>r=.bool true:=by
 refine eZ fx rfl fun fD=>?_
 clear fD
 have h1:=IM code
 have h2:=IM more
 by_cases c1:4096<code.length
 ·rw[decide_eq_true c1]at h1
  (repeat(first|((repeat(revert N;apply Pn.out));refine wk @Nat.zero_add ?_;(repeat(apply Pn.mk;intro N hN)))|((try apply Or.inl);refine⟨_,aw.x (h1) (sd @Nat.zero_add),?_⟩;apply hN;clear hN N)))
  exact eo (.inl rfl) (vs:=[.bool true]) (sd @Nat.zero_add) rfl
 rw[decide_eq_false c1]at h1
 by_cases c2:4096<more.length
 ·rw[decide_eq_true c2]at h2
  (repeat(first|((repeat(revert N;apply Pn.out));refine wk @Nat.zero_add ?_;(repeat(apply Pn.mk;intro N hN)))|((try apply Or.inl);refine⟨_,aw.x (h1) (sd @Nat.zero_add),?_⟩;apply hN;clear hN N)|((try apply Or.inl);refine⟨_,aw.x (h2) (sd @Nat.zero_add),?_⟩;apply hN;clear hN N)))
  exact eo (.inl rfl) (vs:=[.bool true]) (sd @Nat.zero_add) rfl
 rw[decide_eq_false c2]at h2
 (repeat(first|((repeat(revert N;apply Pn.out));refine wk @Nat.zero_add ?_;(repeat(apply Pn.mk;intro N hN)))|((try apply Or.inl);refine⟨_,aw.x (h1) (sd @Nat.zero_add),?_⟩;apply hN;clear hN N)|((try apply Or.inl);refine⟨_,aw.x (h2) (sd @Nat.zero_add),?_⟩;apply hN;clear hN N)))
 refine .inr (ay _ _ _ _ _ (fun r σ1 hq=>?_) (kb.x mixed (Ed hC code hc ae) (ZZ (cz _ _ _))))
 obtain⟨⟨s,⟨sn,sg,st,ss,sd4⟩,rfl⟩,rfl⟩:=hq
 apply hN
 clear hN N
 rw[ck]
 (try((repeat(revert N;apply Pn.out));refine wk @Nat.zero_add ?_;(repeat(apply Pn.mk;intro N hN))))
 refine .inr (ay _ _ _ _ _ (fun r σ1 hq=>?_) (kb.x mixed (JD more hm ae 30 ae) (S5 (cz _ _ _) (aV _ _ _ _))))
 obtain⟨⟨k,rfl,hk⟩,rfl⟩:=hq
 apply hN
 clear hN N
 obtain⟨dX,C7,Ay,LL⟩:=AA more hm ae
 have Za:∀x∈dX,0<=x/\x<=1000:=fun x hx=>by have:=Ay x hx;omega
 have Kl:=Ea s sn sg st ss dX Za ae k ae
 have ew:sf s:=⟨⟨sg,st,fun t ht=>by unfold L8;rw[sd4 t ht];omega⟩,ae⟩
 have hd:∀x:Int,decide (x=x)=true:=fun x=>decide_eq_true rfl
 have hsa:=vF
 have pcx:∀{a b:AV} {f:Nat} {l:List AV} (h:A6 Tryz.prog f l fun r=>r=a) (σ:ax),fB (Call Tryz.prog) f l σ (fun r=>r=a):=fun h σ=>by unfold fB PC;exact Or.inl (h σ)
 cases h0:j8 s
 ·have jt:CV s dX k=.fP [.bj,.agg [.bj],.int .i64 1]:=by rw[CV,h0];rfl
  rw[IW h0]at Kl
  have Au:=fun(σ:ax) (hE:ib σ.get) (h1:1<=σ.next)=>pW s sn ew hE h1 Za ae k ae
  have E4:=fun σ=>pcx (b:=.bj) Kl σ
  rw[jt]at Au
  rw[ck]at Au E4
  (repeat(first|((repeat(revert N;apply Pn.out));refine wk @hd ?_;(repeat(apply Pn.mk;intro N hN)))|((try apply Or.inl);refine⟨_,aw.x (C7) (sd @hd),?_⟩;apply hN;clear hN N)))
  first|refine .inl ⟨_,Au _ ?_ ?_,?_⟩|refine⟨_,Au _ ?_ ?_,?_⟩
  ·exact hE.frame (n:=1) (Nat.le_refl _) fun x hx hs=>by
    have z1:=bZ (i:=x) (n:=σ.next) ae
    rcases hs with h|h<;>simp only[go_sem, ↓reduceIte,Nat.reduceEqDiff,Nat.reduceAdd,Nat.reduceSub,Nat.reduceLeDiff,reduceCtorEq,z1,h]
  ·(try dsimp only);omega
  apply hN
  clear hN N
  (repeat(first|((repeat(revert N;apply Pn.out));refine wk @hd ?_;(repeat(apply Pn.mk;intro N hN)))|((try apply Or.inl);refine⟨_,aw.x (C7) (sd @hd),?_⟩;apply hN;clear hN N)))
  first|refine .inl ⟨_,E4 _,?_⟩|refine⟨_,E4 _,?_⟩
  apply hN
  clear hN N
  (repeat(first|((repeat(revert N;apply Pn.out));refine wk @hd ?_;(repeat(apply Pn.mk;intro N hN)))|((try apply Or.inl);refine⟨_,aw.x (hsa) (sd @hd),?_⟩;apply hN;clear hN N)))
  exact eo (.inl rfl) (vs:=[.bool true]) (sd @Nat.zero_add) rfl
 have hP:=mN.1 h0
 cases hg:qt s dX k with
 |none=>
  have jt:CV s dX k=.fP [.bj,.agg [.bj],.int .i64 4]:=by rw[CV,h0,hg];rfl
  rw[(Bw h0 hg).1]at Kl
  have Au:=fun(σ:ax) (hE:ib σ.get) (h1:1<=σ.next)=>pW s sn ew hE h1 Za ae k ae
  have E4:=fun σ=>pcx (b:=.bj) Kl σ
  rw[jt]at Au
  rw[ck]at Au E4
  (repeat(first|((repeat(revert N;apply Pn.out));refine wk @hd ?_;(repeat(apply Pn.mk;intro N hN)))|((try apply Or.inl);refine⟨_,aw.x (C7) (sd @hd),?_⟩;apply hN;clear hN N)))
  first|refine .inl ⟨_,Au _ ?_ ?_,?_⟩|refine⟨_,Au _ ?_ ?_,?_⟩
  ·exact hE.frame (n:=1) (Nat.le_refl _) fun x hx hs=>by
    have z1:=bZ (i:=x) (n:=σ.next) ae
    rcases hs with h|h<;>simp only[go_sem, ↓reduceIte,Nat.reduceEqDiff,Nat.reduceAdd,Nat.reduceSub,Nat.reduceLeDiff,reduceCtorEq,z1,h]
  ·(try dsimp only);omega
  apply hN
  clear hN N
  (repeat(first|((repeat(revert N;apply Pn.out));refine wk @hd ?_;(repeat(apply Pn.mk;intro N hN)))|((try apply Or.inl);refine⟨_,aw.x (C7) (sd @hd),?_⟩;apply hN;clear hN N)))
  first|refine .inl ⟨_,E4 _,?_⟩|refine⟨_,E4 _,?_⟩
  apply hN
  clear hN N
  (repeat(first|((repeat(revert N;apply Pn.out));refine wk @hd ?_;(repeat(apply Pn.mk;intro N hN)))|((try apply Or.inl);refine⟨_,aw.x (hsa) (sd @hd),?_⟩;apply hN;clear hN N)))
  exact eo (.inl rfl) (vs:=[.bool true]) (sd @Nat.zero_add) rfl
 |some es=>
  have jt:CV s dX k=.fP [AY ab es,.agg [.sl ((dn s es es.length).map ab)],.int .i64 0]:=by rw[CV,h0,hg];rfl
  rw[(By h0 hg).1]at Kl
  obtain⟨hG,hel⟩:=Kd hg
  have hA:=jL hP (es:=es) es.length (Nat.le_refl _) hG
  have lU:=oc s es es.length (Nat.le_refl _)
  have AM:=hA.1.pL
  obtain⟨os,vk,M4,oG,oAt⟩:=Ke hP hG
  have Kp:=(BP hP hG).over hP
  have p1:=pY s es sn ew ae
  obtain⟨e1,e2⟩:=zL h0 hG ae
  rw[e1,e2]at p1
  have p2:=yi s os sn ew ae
  obtain⟨e3,e4⟩:=zL h0 oG ae
  rw[e3,e4,oAt]at p2
  have p3:=GJ s.aD (dn s es es.length) s.aE sn ew.s ae hP.set hA ae hP.Gj
  have p4:=(Co s (dn s es es.length) sn ew ae).s S3
  rw[show A4 s (dn s es es.length)=(os,0) by rw[A4,if_pos Kp,vk,if_pos rfl]]at p4
  have p5:=(Ck s (dn s es es.length) sn ew ae).s
  rw[show w5 s (dn s es es.length)=(dn s es es.length,0) by rw[w5,if_pos Kp,vk]]at p5
  rw[show AY ab (dn s es es.length)=.sl ((dn s es es.length).map ab) by rw[AY,if_neg ae]]at p5
  have p6:=yk (dn s es es.length) ae
  have ed:=CW hP hG
  have Au:=fun(σ:ax) (hE:ib σ.get) (h1:1<=σ.next)=>pW s sn ew hE h1 Za ae k ae
  have E4:=fun σ=>pcx (b:=.bj) Kl σ
  rw[jt]at Au
  rw[ck]at Au E4 p1 p2 p4 p5
  rw[ah]at p3
  (try dsimp only at p4 p5)
  generalize hpL:dn s es es.length=L at *
  have n1:decide ((0:Int)=4)=false:=rfl
  have n2:decide ((4:Int)=4)=true:=rfl
  have fc:(es.map ab).length=es.length:=by simp
  have Aw:(os.map ab).length=es.length:=by simp[M4]
  by_cases hz:es.length=0
  ·have rV:os.length=0:=ae
   rw[show AY ab es=.bj by rw[AY,if_pos hz]]at Au
   rw[show AY ab os=.bj by rw[AY,if_pos rV]]at p2 p4
   rw[hz]at fc
   by_cases s9:64<lZ s.aD L s.aE
   ·rw[if_pos s9,if_pos s9]at p3
    (have zF:=tw @hd (tw @fc (tw @n1 @n2));(repeat(first|((repeat(revert N;apply Pn.out));refine wk zF ?_;(repeat(apply Pn.mk;intro N hN)))|((try apply Or.inl);refine⟨_,aw.x (C7) (sd zF),?_⟩;apply hN;clear hN N)));try clear zF)
    first|refine .inl ⟨_,Au _ ?_ ?_,?_⟩|refine⟨_,Au _ ?_ ?_,?_⟩
    ·exact hE.frame (n:=1) (Nat.le_refl _) fun x hx hs=>by
      have z1:=bZ (i:=x) (n:=σ.next) ae
      rcases hs with h|h<;>simp only[go_sem, ↓reduceIte,Nat.reduceEqDiff,Nat.reduceAdd,Nat.reduceSub,Nat.reduceLeDiff,reduceCtorEq,z1,h]
    ·(try dsimp only);omega
    apply hN
    clear hN N
    (have zF:=tw @hd (tw @fc (tw @n1 @n2));(repeat(first|((repeat(revert N;apply Pn.out));refine wk zF ?_;(repeat(apply Pn.mk;intro N hN)))|((try apply Or.inl);refine⟨_,aw.x (C7) (sd zF),?_⟩;apply hN;clear hN N)));try clear zF)
    first|refine .inl ⟨_,E4 _,?_⟩|refine⟨_,E4 _,?_⟩
    apply hN
    clear hN N
    (have zF:=tw @hd (tw @fc (tw @n1 @n2));(repeat(first|((repeat(revert N;apply Pn.out));refine wk zF ?_;(repeat(apply Pn.mk;intro N hN)))|((try apply Or.inl);refine⟨_,aw.x (p6) (sd zF),?_⟩;apply hN;clear hN N)|((try apply Or.inl);refine⟨_,aw.x (p1) (sd zF),?_⟩;apply hN;clear hN N)|((try apply Or.inl);refine⟨_,aw.x (p3) (sd zF),?_⟩;apply hN;clear hN N)|((try apply Or.inl);refine⟨_,aw.x (p4) (sd zF),?_⟩;apply hN;clear hN N)|((try apply Or.inl);refine⟨_,aw.x (p2) (sd zF),?_⟩;apply hN;clear hN N)|((try apply Or.inl);refine⟨_,aw.x (p5) (sd zF),?_⟩;apply hN;clear hN N)));try clear zF)
    exact eo (.inl rfl) (vs:=[.bool true]) (sd @Nat.zero_add) rfl
   ·rw[if_neg s9,if_neg s9,rF.2 (ed.resolve_left s9)]at p3
    (have zF:=tw @hd (tw @fc (tw @n1 @n2));(repeat(first|((repeat(revert N;apply Pn.out));refine wk zF ?_;(repeat(apply Pn.mk;intro N hN)))|((try apply Or.inl);refine⟨_,aw.x (C7) (sd zF),?_⟩;apply hN;clear hN N)));try clear zF)
    first|refine .inl ⟨_,Au _ ?_ ?_,?_⟩|refine⟨_,Au _ ?_ ?_,?_⟩
    ·exact hE.frame (n:=1) (Nat.le_refl _) fun x hx hs=>by
      have z1:=bZ (i:=x) (n:=σ.next) ae
      rcases hs with h|h<;>simp only[go_sem, ↓reduceIte,Nat.reduceEqDiff,Nat.reduceAdd,Nat.reduceSub,Nat.reduceLeDiff,reduceCtorEq,z1,h]
    ·(try dsimp only);omega
    apply hN
    clear hN N
    (have zF:=tw @hd (tw @fc (tw @n1 @n2));(repeat(first|((repeat(revert N;apply Pn.out));refine wk zF ?_;(repeat(apply Pn.mk;intro N hN)))|((try apply Or.inl);refine⟨_,aw.x (C7) (sd zF),?_⟩;apply hN;clear hN N)));try clear zF)
    first|refine .inl ⟨_,E4 _,?_⟩|refine⟨_,E4 _,?_⟩
    apply hN
    clear hN N
    (have zF:=tw @hd (tw @fc (tw @n1 @n2));(repeat(first|((repeat(revert N;apply Pn.out));refine wk zF ?_;(repeat(apply Pn.mk;intro N hN)))|((try apply Or.inl);refine⟨_,aw.x (p6) (sd zF),?_⟩;apply hN;clear hN N)|((try apply Or.inl);refine⟨_,aw.x (p1) (sd zF),?_⟩;apply hN;clear hN N)|((try apply Or.inl);refine⟨_,aw.x (p3) (sd zF),?_⟩;apply hN;clear hN N)|((try apply Or.inl);refine⟨_,aw.x (p4) (sd zF),?_⟩;apply hN;clear hN N)|((try apply Or.inl);refine⟨_,aw.x (p2) (sd zF),?_⟩;apply hN;clear hN N)|((try apply Or.inl);refine⟨_,aw.x (p5) (sd zF),?_⟩;apply hN;clear hN N)));try clear zF)
    exact eo (.inl rfl) (vs:=[.bool true]) (sd @Nat.zero_add) rfl
  ·have rV:¬os.length=0:=ae
   rw[show AY ab es=.sl (es.map ab) by rw[AY,if_neg hz]]at Au
   rw[show AY ab os=.sl (os.map ab) by rw[AY,if_neg rV]]at p2 p4
   by_cases s9:64<lZ s.aD L s.aE
   ·rw[if_pos s9,if_pos s9]at p3
    (have zF:=tw @hd (tw @fc (tw @Aw (tw @n1 @n2)));(repeat(first|((repeat(revert N;apply Pn.out));refine wk zF ?_;(repeat(apply Pn.mk;intro N hN)))|((try apply Or.inl);refine⟨_,aw.x (C7) (sd zF),?_⟩;apply hN;clear hN N)));try clear zF)
    first|refine .inl ⟨_,Au _ ?_ ?_,?_⟩|refine⟨_,Au _ ?_ ?_,?_⟩
    ·exact hE.frame (n:=1) (Nat.le_refl _) fun x hx hs=>by
      have z1:=bZ (i:=x) (n:=σ.next) ae
      rcases hs with h|h<;>simp only[go_sem, ↓reduceIte,Nat.reduceEqDiff,Nat.reduceAdd,Nat.reduceSub,Nat.reduceLeDiff,reduceCtorEq,z1,h]
    ·(try dsimp only);omega
    apply hN
    clear hN N
    (have zF:=tw @hd (tw @fc (tw @Aw (tw @n1 @n2)));(repeat(first|((repeat(revert N;apply Pn.out));refine wk zF ?_;(repeat(apply Pn.mk;intro N hN)))|((try apply Or.inl);refine⟨_,aw.x (C7) (sd zF),?_⟩;apply hN;clear hN N)));try clear zF)
    first|refine .inl ⟨_,E4 _,?_⟩|refine⟨_,E4 _,?_⟩
    apply hN
    clear hN N
    (have zF:=tw @hd (tw @fc (tw @Aw (tw @n1 @n2)));(repeat(first|((repeat(revert N;apply Pn.out));refine wk zF ?_;(repeat(apply Pn.mk;intro N hN)))|((try apply Or.inl);refine⟨_,aw.x (p6) (sd zF),?_⟩;apply hN;clear hN N)|((try apply Or.inl);refine⟨_,aw.x (p1) (sd zF),?_⟩;apply hN;clear hN N)|((try apply Or.inl);refine⟨_,aw.x (p3) (sd zF),?_⟩;apply hN;clear hN N)|((try apply Or.inl);refine⟨_,aw.x (p4) (sd zF),?_⟩;apply hN;clear hN N)|((try apply Or.inl);refine⟨_,aw.x (p2) (sd zF),?_⟩;apply hN;clear hN N)|((try apply Or.inl);refine⟨_,aw.x (p5) (sd zF),?_⟩;apply hN;clear hN N)));try clear zF)
    exact eo (.inl rfl) (vs:=[.bool true]) (sd @Nat.zero_add) rfl
   ·rw[if_neg s9,if_neg s9,rF.2 (ed.resolve_left s9)]at p3
    (have zF:=tw @hd (tw @fc (tw @Aw (tw @n1 @n2)));(repeat(first|((repeat(revert N;apply Pn.out));refine wk zF ?_;(repeat(apply Pn.mk;intro N hN)))|((try apply Or.inl);refine⟨_,aw.x (C7) (sd zF),?_⟩;apply hN;clear hN N)));try clear zF)
    first|refine .inl ⟨_,Au _ ?_ ?_,?_⟩|refine⟨_,Au _ ?_ ?_,?_⟩
    ·exact hE.frame (n:=1) (Nat.le_refl _) fun x hx hs=>by
      have z1:=bZ (i:=x) (n:=σ.next) ae
      rcases hs with h|h<;>simp only[go_sem, ↓reduceIte,Nat.reduceEqDiff,Nat.reduceAdd,Nat.reduceSub,Nat.reduceLeDiff,reduceCtorEq,z1,h]
    ·(try dsimp only);omega
    apply hN
    clear hN N
    (have zF:=tw @hd (tw @fc (tw @Aw (tw @n1 @n2)));(repeat(first|((repeat(revert N;apply Pn.out));refine wk zF ?_;(repeat(apply Pn.mk;intro N hN)))|((try apply Or.inl);refine⟨_,aw.x (C7) (sd zF),?_⟩;apply hN;clear hN N)));try clear zF)
    first|refine .inl ⟨_,E4 _,?_⟩|refine⟨_,E4 _,?_⟩
    apply hN
    clear hN N
    (have zF:=tw @hd (tw @fc (tw @Aw (tw @n1 @n2)));(repeat(first|((repeat(revert N;apply Pn.out));refine wk zF ?_;(repeat(apply Pn.mk;intro N hN)))|((try apply Or.inl);refine⟨_,aw.x (p6) (sd zF),?_⟩;apply hN;clear hN N)|((try apply Or.inl);refine⟨_,aw.x (p1) (sd zF),?_⟩;apply hN;clear hN N)|((try apply Or.inl);refine⟨_,aw.x (p3) (sd zF),?_⟩;apply hN;clear hN N)|((try apply Or.inl);refine⟨_,aw.x (p4) (sd zF),?_⟩;apply hN;clear hN N)|((try apply Or.inl);refine⟨_,aw.x (p2) (sd zF),?_⟩;apply hN;clear hN N)|((try apply Or.inl);refine⟨_,aw.x (p5) (sd zF),?_⟩;apply hN;clear hN N)));try clear zF)
    exact eo (.inl rfl) (vs:=[.bool true]) (sd @Nat.zero_add) rfl
def jl (s:Nat):Prop:=s=134005000∨s=134013011∨s=134021011∨s=134027015∨s=134029008
def oJ (s:Nat):Prop:=s=134004002∨s=134011007∨s=134019007
def qR (s:Nat):Prop:=s=134006001∨s=134013014∨s=134021014∨s=134027018∨s=134029011
def zl (m j:Nat):Nat:=if j=0 then 0 else m+j
def mh (n0:Nat) (g:Rows) (n:Nat) (B:Id) (a b:Nat):Prop:=∃(og o:Id) (L:List kU) (rows:List (List AV)),g B=some ⟨true,2,[[.own og 0 a,.own o 0 b]]⟩/\L.length=a/\g og=some ⟨true,2,L.map dZ⟩/\(∀x∈L,x.cZ.size<=64)/\(oJ og.site/\n0<=og.bq/\og.bq<n)/\rows.length=b/\g o=some ⟨true,2,rows⟩/\iN jl n0 g n rows/\qR o.site/\n0<=o.bq/\o.bq<n
theorem mh.later {n0:Nat} {g:Rows} {n n':Nat} {B:Id} {a b:Nat} (h:mh n0 g n B a b) (hn:n<=n'):mh n0 g n' B a b:=by
 obtain⟨og,o,L,rows,h1,h2,h3,h4,⟨h5,h6,h7⟩,h8,h9,CY,Tb,h12,h13⟩:=h
 exact⟨og,o,L,rows,h1,h2,h3,h4,⟨h5,h6,ae⟩,h8,h9,CY.frame hn fun _ _ _ _=>rfl,Tb,h12,ae⟩
theorem CJ {a b:Id} (h:oJ a.site) (k:qR b.site):(a=b)=False/\(b=a)=False:=by
 have:a≠b:=fun e=>by rw[e]at h;unfold oJ at h;unfold qR at k;omega
 exact⟨eq_false this,eq_false fun e=>this e.symm⟩
theorem CI {a b:Id} (h:jl a.site) (k:oJ b.site):(a=b)=False/\(b=a)=False:=by
 have:a≠b:=fun e=>by rw[e]at h;unfold jl at h;unfold oJ at k;omega
 exact⟨eq_false this,eq_false fun e=>this e.symm⟩
theorem sU {a b:Id} (h:jl a.site) (k:qR b.site):(a=b)=False/\(b=a)=False:=by
 have:a≠b:=fun e=>by rw[e]at h;unfold jl at h;unfold qR at k;omega
 exact⟨eq_false this,eq_false fun e=>this e.symm⟩
theorem mh.only {n0:Nat} {g:Rows} {n n':Nat} {B X:Id} {a b:Nat} (h:mh n0 g n B a b) {σ':ax} (hK:jD X ⟨g,n'⟩ σ') (hn:n<=n') (hX:X.bq<n0) (hB:B≠X) (VN:B.bq<n'):mh n0 σ'.get σ'.next B a b:=by
 obtain⟨og,o,L,rows,h1,h2,h3,h4,⟨h5,h6,h7⟩,h8,h9,CY,Tb,h12,h13⟩:=h
 have hx:=hK.1
 (try dsimp only at hx)
 have k:∀i:Id,n0<=i.bq->i.bq<n->σ'.get i=g i:=fun i h1 h2=>hK.2 i (fun e=>by rw[e]at h1;omega) aH
 exact⟨og,o,L,rows,(hK.2 B hB VN).trans h1,h2,(k og h6 h7).trans h3,h4,⟨h5,h6,ae⟩,h8,(k o h12 h13).trans h9,CY.frame ae fun i _ h1 h2=>k i h1 h2,Tb,h12,ae⟩
theorem mh.put {n0:Nat} {g g':Rows} {n n':Nat} {B og u e:Id} {a b:Nat} {L:List kU} {rows:List (List AV)} {nm:ByteArray} {l:List Int} (hL:L.length=a) (nw:g og=some ⟨true,2,L.map dZ⟩) (ui:∀x∈L,x.cZ.size<=64) (sg:oJ og.site/\n0<=og.bq/\og.bq<n) (hr:rows.length=b) (hT:iN jl n0 g n rows) (ly:nm.size<=64/\1<=nm.size) (hl:l.length=4)
  (hn:n<=n') (hB:g' B=some ⟨true,2,[[.own og 0 a,.own u 0 (b+1)]]⟩) (hu:g' u=some ⟨true,2,rows++[[.str nm,.own e 0 4]]⟩) (su:qR u.site/\n0<=u.bq/\u.bq<n') (he:g' e=some ⟨true,1,l.map aM⟩) (se:jl e.site/\n0<=e.bq/\e.bq<n') (hf:∀i:Id,(jl i.site∨oJ i.site)->n0<=i.bq->i.bq<n->g' i=g i):mh n0 g' n' B a (b+1):=
 ⟨og,u,L,rows++[[.str nm,.own e 0 4]],hB,hL,(hf og (.inr sg.1) sg.2.1 sg.2.2).trans nw,ui,⟨sg.1,sg.2.1,ae⟩,by simp[hr],hu,(hT.frame hn fun i h1 h2 h3=>hf i (.inl h1) h2 h3).snoc ly ⟨se.1,se.2.1,se.2.2,l,hl,he⟩,su.1,su.2.1,su.2.2⟩
def yc (X:Id) (bs:List Int) (A:Nat) (σ:ax) (r:AV) (σ':ax):Prop:=∃(og o sd:Id) (G T2:Nat) (p:aa),r=.agg [.own og 0 G,.own o 0 T2,.own sd 0 1,.int .i64 2]/\fN σ.next σ'.get σ'.next (.own og 0 G) G/\fZ jl σ.next σ'.get σ'.next (.own o 0 T2) T2/\(0<G/\0<T2/\G<=100/\T2<=100)/\σ'.get sd=some ⟨true,3,[ab p]⟩/\(σ.next<=sd.bq/\sd.bq<σ'.next)/\eL σ'.get X bs (A+100)/\jD X σ σ'
theorem yc.made {X:Id} {bs:List Int} {A:Nat} {σ:ax} {r:AV} {σ':ax} (h:yc X bs A σ r σ'):ye X bs A σ r σ':=by
 obtain⟨og,o,sd,G,T2,p,rfl,h1,h2,⟨h3,h4,h5,h6⟩,h7,⟨h8,h9⟩,CY,Tb⟩:=h
 exact⟨⟨jl,.own og 0 G,.own o 0 T2,G,T2,sd,p,2,rfl,h1,h2,h3,h4,ae,ae,h7,h8,h9⟩,CY.mono ae,Tb⟩
theorem FF (bs:List Int) (hb:∀b∈bs,0<=b/\b<=255) (iz:bs.length<=4096) (X:Id) (A:Nat) (ha:A<=900000) (σ:ax) (h:eL σ.get X bs A) (hX:X.bq<σ.next):
  Call Tryz.prog 134 [.ptr X 0 0] σ (yc X bs A σ):=by
 refine vD SK rfl fun fD=>?_
 simp only[Io,xH,Ip,OH,OI,OJ,Vd,Lu,Lv,Ve,Vf,Vg,Vh,Rg,Vi,Vj,Vk,Iq,xI,Ir,OK,OL,OM,Vl,Lw,Lx,Vm,Vn,Vo,Vp,Rh,Vq,Vr,Vs,sa,Ri,Vt,Vu,Vv,Vw,Vx,Vy,DP,Rj,Vz,VA,VB,VD,VE,VF]
 try simp only[q]
 clear fD
 have vX:=bZ hX
 (try((repeat(revert N;apply Pn.out));refine wk @Nat.zero_add ?_;(repeat(apply Pn.mk;intro N hN))))
 refine .inr (ay _ _ _ _ _ (fun r σ1 hq=>?_) (gS bs hb iz X 4 A ae _ (by
  obtain⟨a,z,q1,q2⟩:=h
  exact⟨a,z,q1,by simp only[go_sem, ↓reduceIte,Nat.reduceEqDiff,Nat.reduceAdd,Nat.reduceSub,Nat.reduceLeDiff,reduceCtorEq,vX]<;>exact q2⟩)))
 obtain⟨v,rfl,v0,v1,h1,hK⟩:=hq
 obtain⟨g1,x1⟩:=σ1
 (try dsimp only at h1)
 have GC:=hK.1
 (try dsimp only at GC)
 have lx:=hK.2 ⟨134000000,σ.next⟩ (fun e=>by rw[<-e]at hX;(try dsimp only at hX);omega) aH
 have uj:∀i:Id,i≠X->i.bq<σ.next->g1 i=σ.get i:=fun i hi hv=>(hK.2 i hi aH).trans (by have hv:=bZ hv;simp only[go_sem, ↓reduceIte,Nat.reduceEqDiff,Nat.reduceAdd,Nat.reduceSub,Nat.reduceLeDiff,reduceCtorEq,hv])
 simp only[go_sem, ↓reduceIte,Nat.reduceEqDiff,Nat.reduceAdd,Nat.reduceSub,Nat.reduceLeDiff,reduceCtorEq]at lx
 clear hK h
 obtain⟨m1,RK⟩:∃m:Nat,IntKind.i64.wrap (1+v)=(m:Int):=⟨(1+v).toNat,by rw[db ae];omega⟩
 have hmb1:1<=m1/\m1<=4:=by
  rw[db ae]at RK
  omega
 apply hN
 clear hN N
 (try((repeat(revert N;apply Pn.out));refine wk @RK ?_;(repeat(apply Pn.mk;intro N hN))))
 refine .inr (ay _ _ _ _ _ (fun r σ2 hq=>?_) (gS bs hb iz X 4 (A+2) ae _ h1))
 obtain⟨y,rfl,y0,y1,h2,hK⟩:=hq
 obtain⟨g2,x2⟩:=σ2
 (try dsimp only at h2)
 have pU:=hK.1
 (try dsimp only at pU)
 have mo:=(hK.2 ⟨134000000,σ.next⟩ (fun e=>by rw[<-e]at hX;(try dsimp only at hX);omega) aH).trans lx
 have J8:∀i:Id,i≠X->i.bq<σ.next->g2 i=σ.get i:=fun i hi hv=>(hK.2 i hi aH).trans (uj i hi hv)
 (try dsimp only at mo)
 clear hK h1 uj lx
 obtain⟨m2,Hw⟩:∃m:Nat,IntKind.i64.wrap (1+y)=(m:Int):=⟨(1+y).toNat,by rw[db ae];omega⟩
 have hmb2:1<=m2/\m2<=4:=by
  rw[db ae]at Hw
  omega
 apply hN
 clear hN N
 (try((repeat(revert N;apply Pn.out));refine wk @Hw ?_;(repeat(apply Pn.mk;intro N hN))))
 have Q2:=bZ (i:=X) (n:=x2) ae
 refine cm (fun n env st=>∃k:Nat,n=(m1)-k/\k<=(m1)/\env 8=.int .i64 (k:Int)/\env 7=.int .i64 (k:Int)/\((eL st.get X bs (A+4+2*k)/\x2+3<=st.next/\(∀i:Id,i≠X->i.bq<x2->st.get i=g2 i)/\mh (x2+2) st.get st.next ⟨134003001,x2+1⟩ (k+2) (k+1)))) (m1) ⟨0,ae,ae,sl (tw @RK @Hw),sl (tw @RK @Hw),by(try dsimp only);exact⟨(by
  obtain⟨za,zz,AS,gX⟩:=h2
  exact⟨za,zz,ae,by simp only[go_sem, ↓reduceIte,Nat.reduceEqDiff,Nat.reduceAdd,Nat.reduceSub,Nat.reduceLeDiff,reduceCtorEq,Q2]<;>exact gX⟩),ae,fun i _ hi=>(by
   have h8:=bZ hi
   simp only[go_sem, ↓reduceIte,Nat.reduceEqDiff,Nat.reduceAdd,Nat.reduceSub,Nat.reduceLeDiff,reduceCtorEq,h8]),⟨134004002,x2+1+1⟩,⟨134006001,x2+1+1+1+1⟩,[⟨⟨#[122,101,114,111]⟩,1⟩,⟨⟨#[111,110,101]⟩,1⟩],_,sl @Nat.zero_add,rfl,sl @Nat.zero_add,fun x hx=>(by rcases List.mem_cons.1 hx with h|h;rw[h];decide;rw[List.mem_singleton.1 h];decide),⟨.inl rfl,aH,aH⟩,rfl,sl @Nat.zero_add,(fun row fE=>⟨_,⟨134005000,x2+1+1+1⟩,List.mem_singleton.1 fE,⟨by decide,by decide⟩,.inl rfl,aH,aH,[0,0,0,0],rfl,sl @Nat.zero_add⟩:iN jl (x2+2) _ _ [[.str ⟨#[115,101,101,100]⟩,.own ⟨134005000,x2+1+1+1⟩ 0 4]]),.inl rfl,aH,aH⟩⟩ ?_
 rintro n_a env_a st_a ⟨k,rfl,ale,a8,a7,qN⟩ eF
 have a0:=eF 0 (by kernel_rfl);have a2:=eF 2 (by kernel_rfl);have a3:=eF 3 (by kernel_rfl);have a4:=eF 4 (by kernel_rfl);have a5:=eF 5 (by kernel_rfl);have a6:=eF 6 (by kernel_rfl)
 simp only[go_sem, ↓reduceIte,Nat.reduceEqDiff,Nat.reduceAdd,Nat.reduceSub,Nat.reduceLeDiff,reduceCtorEq,RK,Hw]at a0 a2 a3 a4 a5 a6
 clear eF
 have aC:=qN.2.2.2
 obtain⟨aS,aN,aO,og,o,L,rows,aB,hL,nw,ui,⟨sg,QB,QC⟩,hr,go,hT,so,j7,pB⟩:=qN
 by_cases hk:(k:Int)<(m1:Int)
 ·have eh:∀{e:Env} {gg:Rows} {nx:Nat},(e 8=.int .i64 (IntKind.i64.wrap ((k:Int)+1)))->(e 7=.int .i64 ((k+1):Int))->((eL gg X bs (A+4+2*(k+1))/\x2+3<=nx/\(∀i:Id,i≠X->i.bq<x2->gg i=g2 i)/\mh (x2+2) gg nx ⟨134003001,x2+1⟩ ((k+1)+2) ((k+1)+1)))->∃m0,m0<(m1)-k/\∃k:Nat,m0=(m1)-k/\k<=(m1)/\e 8=.int .i64 (k:Int)/\e 7=.int .i64 (k:Int)/\((eL gg X bs (A+4+2*k)/\x2+3<=nx/\(∀i:Id,i≠X->i.bq<x2->gg i=g2 i)/\mh (x2+2) gg nx ⟨134003001,x2+1⟩ (k+2) (k+1))):=fun x1 x2 x3=>⟨_,ae,k+1,rfl,ae,(by rw[x1,bf ae]),x2,x3⟩
  have qu:=ma (k:Int) ae ae
  have y3:=jm (k:Int) ae
  generalize iY (k:Int)=dt at qu y3
  have ew:(#[120]:Array UInt8).size+dt.size<=9223372036854775807:=by
   have:(#[120]:Array UInt8).size=1:=rfl
   omega
  have gW:(#[101]:Array UInt8).size+dt.size<=9223372036854775807:=by
   have:(#[101]:Array UInt8).size=1:=rfl
   omega
  have ly:((⟨#[120]⟩:ByteArray)++dt).size<=64:=by
   rw[gM]
   have:(⟨#[120]⟩:ByteArray).size=1:=rfl
   omega
  have E9:((⟨#[101]⟩:ByteArray)++dt).size<=64:=by
   rw[gM]
   have:(⟨#[101]⟩:ByteArray).size=1:=rfl
   omega
  obtain⟨ga,na⟩:=st_a
  (try dsimp only at aS aN aO aB nw QC go hT pB)
  obtain⟨nm,u,fE,f1,f2,f3,l,hl,gE⟩:=hT.get (k:=k) ae
  have uY:=bZ QC
  have vo:=bZ pB
  have vu:=bZ f3
  have tu:=CJ sg so
  have tr:=CI f1 sg
  have tt:=sU f1 so
  have nB:∀i:Id,x2+2<=i.bq->∀s,(i=⟨s,x2+1⟩)=False/\((⟨s,x2+1⟩:Id)=i)=False:=fun i hi s=>⟨eq_false fun e=>by rw[e]at hi;(try dsimp only at hi);omega,eq_false fun e=>by rw[<-e]at hi;(try dsimp only at hi);omega⟩
  have qx:=nB og QB
  have oz:=nB o j7
  have qy:=nB u f2
  have kD:(L.map dZ).length=k+2:=by rw[List.length_map,hL]
  have sr:k<=16777213:=ae
  have PZ:(k:Int)<((k+1:Nat):Int):=ae
  have fc:(l.map aM).length=4:=by rw[List.length_map,hl]
  have l7:(l.map aM)[1]? =some [.int .i64 (l.getD 1 0)]:=getD_map aM ae
  have gF:∀w:Int,(l.map aM).set 1 [.int .i64 w]=(l.set 1 w).map aM:=fun w=>by rw[List.map_set];rfl
  (have zF:=tw @a8 (tw @a7 (tw @a0 (tw @a2 (tw @a3 (tw @a4 (tw @a5 (tw @a6 (tw @hk (tw @aB (tw @ew (tw @gW (tw @nw (tw @go (tw @uY (tw @vo (tw @vu (tw @tu (tw @tr (tw @tt (tw @qx (tw @oz (tw @qy (tw @kD (tw @sr (tw @PZ (tw @fE (tw @gE (tw @l7 (tw @fc (tw @gF @hr))))))))))))))))))))))))))))));(repeat(first|((repeat(revert N;apply Pn.out));refine wk zF ?_;(repeat(apply Pn.mk;intro N hN)))|((try apply Or.inl);refine⟨_,aw.x (qu) (sd zF),?_⟩;apply hN;clear hN N)));try clear zF)
  refine nH (fun e st=>e 0=.ptr X 0 0/\e 2=env_a 2/\e 3=env_a 3/\e 4=env_a 4/\e 5=env_a 5/\e 6=env_a 6/\e 8=.int .i64 (k:Int)/\eL st.get X bs (A+4+2*(k+1))/\x2+3<=st.next/\(∀i:Id,i≠X->i.bq<x2->st.get i=g2 i)/\mh (x2+2) st.get st.next ⟨134003001,x2+1⟩ (k+3) (k+2)) ?_ ?_
  ·rintro e st ⟨r0,r2,r3,r4,r5,r6,r8,rS,rN,rO,rC⟩
   obtain⟨gc,nc⟩:=st
   (try dsimp only at rS rN rO rC)
   obtain⟨qg,qo,L',rows',rB,_⟩:=id rC
   rw[a2]at r2
   rw[a3]at r3
   rw[a4]at r4
   rw[a5]at r5
   rw[a6]at r6
   apply hN
   clear hN N
   have w9:IntKind.i64.wrap (((k+2:Nat):Int)-1)=(k:Int)+1:=(db ae).trans ae
   (try((repeat(revert N;apply Pn.out));refine wk (tw @r0 (tw @r2 (tw @r3 (tw @r4 (tw @r5 (tw @r6 (tw @r8 (tw @rB @w9)))))))) ?_;(repeat(apply Pn.mk;intro N hN))))
   refine eh ?_ ?_ (by(try dsimp only);exact⟨rS,ae,rO,rC.later ae⟩)
   all_goals simp only[go_sem, ↓reduceIte,Nat.reduceEqDiff,Nat.reduceAdd,Nat.reduceSub,Nat.reduceLeDiff,reduceCtorEq,a8,a7,a0,a2,a3,a4,a5,a6,r8]
  ·intro N hN
   have nXu:(X=u)=False:=eq_false fun h=>by rw[<-h]at f2;omega
   have nXg:(X=og)=False:=eq_false fun h=>by rw[<-h]at QB;omega
   have Wc:=bZ (i:=X) (n:=na) ae
   refine fm ?_ ?_<;>(have zF:=tw @a8 (tw @a7 (tw @a0 (tw @a2 (tw @a3 (tw @a4 (tw @a5 (tw @a6 (tw @aB (tw @ew (tw @gW (tw @nw (tw @go (tw @uY (tw @vo (tw @vu (tw @tu (tw @tr (tw @tt (tw @qx (tw @oz (tw @qy (tw @kD @hr))))))))))))))))))))));(repeat(first|((repeat(revert N;apply Pn.out));refine wk zF ?_;(repeat(apply Pn.mk;intro N hN)))|((try apply Or.inl);refine⟨_,aw.x (qu) (sd zF),?_⟩;apply hN;clear hN N)));try clear zF)<;>(try refine fm ?_ ?_)<;>(have zF:=tw @a8 (tw @a7 (tw @a0 (tw @a2 (tw @a3 (tw @a4 (tw @a5 (tw @a6 (tw @aB (tw @ew (tw @gW (tw @nw (tw @go (tw @uY (tw @vo (tw @vu (tw @tu (tw @tr (tw @tt (tw @qx (tw @oz (tw @qy (tw @kD @hr))))))))))))))))))))));(repeat(first|((repeat(revert N;apply Pn.out));refine wk zF ?_;(repeat(apply Pn.mk;intro N hN)))|((try apply Or.inl);refine⟨_,aw.x (qu) (sd zF),?_⟩;apply hN;clear hN N)));try clear zF)<;>(try refine fm ?_ ?_)<;>(have zF:=tw @a8 (tw @a7 (tw @a0 (tw @a2 (tw @a3 (tw @a4 (tw @a5 (tw @a6 (tw @aB (tw @ew (tw @gW (tw @nw (tw @go (tw @uY (tw @vo (tw @vu (tw @tu (tw @tr (tw @tt (tw @qx (tw @oz (tw @qy (tw @kD @hr))))))))))))))))))))));(repeat(first|((repeat(revert N;apply Pn.out));refine wk zF ?_;(repeat(apply Pn.mk;intro N hN)))|((try apply Or.inl);refine⟨_,aw.x (qu) (sd zF),?_⟩;apply hN;clear hN N)));try clear zF)<;>(try refine fm ?_ ?_)<;>(have zF:=tw @a8 (tw @a7 (tw @a0 (tw @a2 (tw @a3 (tw @a4 (tw @a5 (tw @a6 (tw @aB (tw @ew (tw @gW (tw @nw (tw @go (tw @uY (tw @vo (tw @vu (tw @tu (tw @tr (tw @tt (tw @qx (tw @oz (tw @qy (tw @kD @hr))))))))))))))))))))));(repeat(first|((repeat(revert N;apply Pn.out));refine wk zF ?_;(repeat(apply Pn.mk;intro N hN)))|((try apply Or.inl);refine⟨_,aw.x (qu) (sd zF),?_⟩;apply hN;clear hN N)));try clear zF)<;>(try refine fm ?_ ?_)<;>(have zF:=tw @a8 (tw @a7 (tw @a0 (tw @a2 (tw @a3 (tw @a4 (tw @a5 (tw @a6 (tw @aB (tw @ew (tw @gW (tw @nw (tw @go (tw @uY (tw @vo (tw @vu (tw @tu (tw @tr (tw @tt (tw @qx (tw @oz (tw @qy (tw @kD @hr))))))))))))))))))))));(repeat(first|((repeat(revert N;apply Pn.out));refine wk zF ?_;(repeat(apply Pn.mk;intro N hN)))|((try apply Or.inl);refine⟨_,aw.x (qu) (sd zF),?_⟩;apply hN;clear hN N)));try clear zF)<;>(try refine fm ?_ ?_)<;>(have zF:=tw @a8 (tw @a7 (tw @a0 (tw @a2 (tw @a3 (tw @a4 (tw @a5 (tw @a6 (tw @aB (tw @ew (tw @gW (tw @nw (tw @go (tw @uY (tw @vo (tw @vu (tw @tu (tw @tr (tw @tt (tw @qx (tw @oz (tw @qy (tw @kD @hr))))))))))))))))))))));(repeat(first|((repeat(revert N;apply Pn.out));refine wk zF ?_;(repeat(apply Pn.mk;intro N hN)))|((try apply Or.inl);refine⟨_,aw.x (qu) (sd zF),?_⟩;apply hN;clear hN N)));try clear zF)
   all_goals
    refine .inr (ay _ _ _ _ _ (fun r σ3 hq=>?_) (gS bs hb iz X 2 (A+4+2*k) ae _ (by
     obtain⟨za,zz,AS,gX⟩:=aS
     exact⟨za,zz,AS,by simp only[go_sem, ↓reduceIte,Nat.reduceEqDiff,Nat.reduceAdd,Nat.reduceSub,Nat.reduceLeDiff,reduceCtorEq,Wc,Q2,nXu,nXg]<;>exact gX⟩)))
    obtain⟨w,rfl,w0,w1,h3,hK⟩:=hq
    obtain⟨g3,x3⟩:=σ3
    (try dsimp only at h3)
    have Kt:=hK.1
    (try dsimp only at Kt)
    have c5:=hK.2 ⟨134003001,x2+1⟩ (fun e=>by rw[<-e]at hX;(try dsimp only at hX);omega) aH
    have cG:=hK.2 ⟨134011007,na+1⟩ (fun e=>by rw[<-e]at hX;(try dsimp only at hX);omega) aH
    have co:=hK.2 o (fun h=>by rw[h]at j7;omega) aH
    simp only[go_sem, ↓reduceIte,Nat.reduceEqDiff,Nat.reduceAdd,Nat.reduceSub,Nat.reduceLeDiff,reduceCtorEq,go,vo,vu,tu,tr,tt,qx,oz,qy]at c5 cG co
    apply hN
    clear hN N
    have AO:k<=16777214:=ae
    have UI:=bZ (i:=o) (n:=x3) ae
    (have zF:=tw @a8 (tw @a7 (tw @a0 (tw @a2 (tw @a3 (tw @a4 (tw @a5 (tw @a6 (tw @c5 (tw @cG (tw @co (tw @hr (tw @gW (tw @AO (tw @qx (tw @oz (tw @qy @UI))))))))))))))));(repeat(first|((repeat(revert N;apply Pn.out));refine wk zF ?_;(repeat(apply Pn.mk;intro N hN)))|((try apply Or.inl);refine⟨_,aw.x (qu) (sd zF),?_⟩;apply hN;clear hN N)));try clear zF)
    obtain⟨za,zz,AS,gX⟩:=h3
    have Gk:=bZ (i:=X) (n:=x3) ae
    have Qy:(X=o)=False:=eq_false fun h=>by rw[<-h]at j7;omega
    have WO:=(hT.write (e:=u) (l:=l.set 1 ((k+2+1:Nat):Int)) (by rw[List.length_set,hl])).frame (g':=g3) (n':=x3) ae fun i h1 h2 h4=>(hK.2 i (fun h=>by rw[h]at h2;omega) aH).trans (by
     have q1:=bZ h4
     have q2:=CI h1 sg
     have q3:=nB i h2
     simp only[go_sem, ↓reduceIte,Nat.reduceEqDiff,Nat.reduceAdd,Nat.reduceSub,Nat.reduceLeDiff,reduceCtorEq,q1,q2,q3])
    have IU:∀i:Id,i≠X->i.bq<x2->g3 i=g2 i:=fun i h1 h2=>(hK.2 i h1 aH).trans (by
     have q1:=bZ (i:=i) (n:=na) ae
     have q2:=bZ h2
     have q3:(i=og)=False:=eq_false fun h=>by rw[h]at h2;omega
     have q4:(i=u)=False:=eq_false fun h=>by rw[h]at h2;omega
     simp only[go_sem, ↓reduceIte,Nat.reduceEqDiff,Nat.reduceAdd,Nat.reduceSub,Nat.reduceLeDiff,reduceCtorEq,q1,q2,q3,q4]<;>exact aO i h1 h2)
    exact⟨sd (tw @a8 (tw @a7 (tw @a0 (tw @a2 (tw @a3 (tw @a4 (tw @a5 @a6))))))),sd (tw @a8 (tw @a7 (tw @a0 (tw @a2 (tw @a3 (tw @a4 (tw @a5 @a6))))))),sd (tw @a8 (tw @a7 (tw @a0 (tw @a2 (tw @a3 (tw @a4 (tw @a5 @a6))))))),sd (tw @a8 (tw @a7 (tw @a0 (tw @a2 (tw @a3 (tw @a4 (tw @a5 @a6))))))),sd (tw @a8 (tw @a7 (tw @a0 (tw @a2 (tw @a3 (tw @a4 (tw @a5 @a6))))))),sd (tw @a8 (tw @a7 (tw @a0 (tw @a2 (tw @a3 (tw @a4 (tw @a5 @a6))))))),sd (tw @a8 (tw @a7 (tw @a0 (tw @a2 (tw @a3 (tw @a4 (tw @a5 @a6))))))),⟨za,zz,ae,by simp only[go_sem, ↓reduceIte,Nat.reduceEqDiff,Nat.reduceAdd,Nat.reduceSub,Nat.reduceLeDiff,reduceCtorEq,Gk,Q2,Qy]<;>exact gX⟩,aH,fun i h1 h2=>(by
     have q1:=bZ (i:=i) (n:=x3) ae
     have q2:=bZ h2
     have q3:(i=o)=False:=eq_false fun h=>by rw[h]at h2;omega
     simp only[go_sem, ↓reduceIte,Nat.reduceEqDiff,Nat.reduceAdd,Nat.reduceSub,Nat.reduceLeDiff,reduceCtorEq,q1,q2,q3]<;>exact IU i h1 h2),⟨134011007,na+1⟩,⟨134013014,x3⟩,L++[⟨(⟨#[120]⟩:ByteArray)++dt,2⟩],rows++[[.str ((⟨#[101]⟩:ByteArray)++dt),.own ⟨134013011,x3⟩ 0 4]],sl @Nat.zero_add,by simp[hL],by
      have q1:((⟨134011007,na+1⟩:Id)=o)=False:=eq_false fun h=>by rw[<-h]at pB;(try dsimp only at pB);omega
      rw[List.map_append];simp only[go_sem, ↓reduceIte,Nat.reduceEqDiff,Nat.reduceAdd,Nat.reduceSub,Nat.reduceLeDiff,reduceCtorEq,q1]<;>exact cG,fun x hx=>(by
      rcases List.mem_append.1 hx with h9|h9
      ·exact ui x h9
      ·rw[List.mem_singleton.1 h9];exact ly),⟨.inr (.inl rfl),aH,aH⟩,by simp[hr],sl @Nat.zero_add,(WO.frame aH fun i h1 h2 h4=>(by
       have q1:=bZ h4
       have q2:=sU h1 so
       have q3:=nB i h2
       simp only[go_sem, ↓reduceIte,Nat.reduceEqDiff,Nat.reduceAdd,Nat.reduceSub,Nat.reduceLeDiff,reduceCtorEq,q1,q2,q3])).snoc (e:=⟨134013011,x3⟩) ⟨E9,tC _ _⟩ ⟨.inr (.inl rfl),aH,aH,[IntKind.i64.wrap (1+w),0,0,((k+2+1:Nat):Int)],rfl,by
       have q1:((⟨134013011,x3⟩:Id)=o)=False:=eq_false fun h=>by rw[<-h]at pB;(try dsimp only at pB);omega
       simp only[go_sem, ↓reduceIte,Nat.reduceEqDiff,Nat.reduceAdd,Nat.reduceSub,Nat.reduceLeDiff,reduceCtorEq,q1]<;>rfl⟩,.inr (.inl rfl),aH,aH⟩
 ·have hkm:k=m1:=ae
  subst hkm
  clear aB hL nw ui sg QB QC hr go hT so j7 pB
  obtain⟨ga,na⟩:=st_a
  (try dsimp only at aS aN aO aC)
  (try((repeat(revert N;apply Pn.out));refine wk (tw @a8 (tw @a7 (tw @a0 (tw @a2 (tw @a3 (tw @a4 (tw @a5 (tw @a6 @hk)))))))) ?_;(repeat(apply Pn.mk;intro N hN))))
  refine cm (fun n env st=>∃j:Nat,n=(m2)-j/\j<=(m2)/\env 9=.int .i64 (j:Int)/\env 7=.int .i64 (zl k j:Int)/\((eL st.get X bs (A+4+2*k+2*j)/\x2+3<=st.next/\(∀i:Id,i≠X->i.bq<x2->st.get i=g2 i)/\mh (x2+2) st.get st.next ⟨134003001,x2+1⟩ (k+2+j) (k+1+j)))) (m2) ⟨0,ae,ae,sl (tw @a8 (tw @a7 (tw @a0 (tw @a2 (tw @a3 (tw @a4 (tw @a5 (tw @a6 @Hw)))))))),sl (tw @a8 (tw @a7 (tw @a0 (tw @a2 (tw @a3 (tw @a4 (tw @a5 (tw @a6 @Hw)))))))),by(try dsimp only);exact⟨by(try simp only[go_sem, ↓reduceIte,Nat.reduceEqDiff,Nat.reduceAdd,Nat.reduceSub,Nat.reduceLeDiff,reduceCtorEq]);exact aS,ae,aO,aC.later ae⟩⟩ ?_
  rintro n_b env_b st_b ⟨j,rfl,ble,b9,b7,bI0⟩ eS
  have b0:=eS 0 (by kernel_rfl);have b2:=eS 2 (by kernel_rfl);have b4:=eS 4 (by kernel_rfl);have b5:=eS 5 (by kernel_rfl)
  simp only[go_sem, ↓reduceIte,Nat.reduceEqDiff,Nat.reduceAdd,Nat.reduceSub,Nat.reduceLeDiff,reduceCtorEq,a8,a7,a0,a2,a3,a4,a5,a6,Hw]at b0 b2 b4 b5
  clear eS
  have bC:=bI0.2.2.2
  obtain⟨bS,bN,bO,og,o,L,rows,bB,hL,nw,ui,⟨sg,QB,QC⟩,hr,go,hT,so,j7,pB⟩:=bI0
  by_cases hj:(j:Int)<(m2:Int)
  ·have fb:∀{e:Env} {gg:Rows} {nx:Nat},(e 9=.int .i64 (IntKind.i64.wrap ((j:Int)+1)))->(e 7=.int .i64 (zl k (j+1):Int))->((eL gg X bs (A+4+2*k+2*(j+1))/\x2+3<=nx/\(∀i:Id,i≠X->i.bq<x2->gg i=g2 i)/\mh (x2+2) gg nx ⟨134003001,x2+1⟩ (k+2+(j+1)) (k+1+(j+1))))->∃m0,m0<(m2)-j/\∃j:Nat,m0=(m2)-j/\j<=(m2)/\e 9=.int .i64 (j:Int)/\e 7=.int .i64 (zl k j:Int)/\((eL gg X bs (A+4+2*k+2*j)/\x2+3<=nx/\(∀i:Id,i≠X->i.bq<x2->gg i=g2 i)/\mh (x2+2) gg nx ⟨134003001,x2+1⟩ (k+2+j) (k+1+j))):=fun x1 x2 x3=>⟨_,ae,j+1,rfl,ae,(by rw[x1,bf ae]),x2,x3⟩
   obtain⟨G,hG⟩:∃G,k+2+j=G:=⟨_,rfl⟩
   obtain⟨TT,WQ⟩:∃T,k+1+j=T:=⟨_,rfl⟩
   obtain⟨z,hz⟩:∃z,zl k j=z:=⟨_,rfl⟩
   rw[hG]at bB hL
   rw[WQ]at bB hr
   rw[hz]at b7
   have hzT:z<TT:=by rw[<-hz,<-WQ];unfold zl;split<;>omega
   have qu:=ma (j:Int) ae ae
   have y3:=jm (j:Int) ae
   generalize iY (j:Int)=dt at qu y3
   have ew:(#[121]:Array UInt8).size+dt.size<=9223372036854775807:=by
    have:(#[121]:Array UInt8).size=1:=rfl
    omega
   have gW:(#[110]:Array UInt8).size+dt.size<=9223372036854775807:=by
    have:(#[110]:Array UInt8).size=1:=rfl
    omega
   have ly:((⟨#[121]⟩:ByteArray)++dt).size<=64:=by
    rw[gM]
    have:(⟨#[121]⟩:ByteArray).size=1:=rfl
    omega
   have E9:((⟨#[110]⟩:ByteArray)++dt).size<=64:=by
    rw[gM]
    have:(⟨#[110]⟩:ByteArray).size=1:=rfl
    omega
   obtain⟨gb,nb⟩:=st_b
   (try dsimp only at bS bN bO bB nw QC go hT pB)
   obtain⟨nm,u,fE,f1,f2,f3,l,hl,gE⟩:=hT.get (k:=z) ae
   have uY:=bZ QC
   have vo:=bZ pB
   have vu:=bZ f3
   have tu:=CJ sg so
   have tr:=CI f1 sg
   have tt:=sU f1 so
   have nB:∀i:Id,x2+2<=i.bq->∀s,(i=⟨s,x2+1⟩)=False/\((⟨s,x2+1⟩:Id)=i)=False:=fun i hi s=>⟨eq_false fun e=>by rw[e]at hi;(try dsimp only at hi);omega,eq_false fun e=>by rw[<-e]at hi;(try dsimp only at hi);omega⟩
   have qx:=nB og QB
   have oz:=nB o j7
   have qy:=nB u f2
   have kD:(L.map dZ).length=G:=by rw[List.length_map,hL]
   have sr:G<=16777215:=ae
   have PZ:(z:Int)<(TT:Int):=ae
   have Pe:(0:Int)<=(z:Int):=ae
   have fc:(l.map aM).length=4:=by rw[List.length_map,hl]
   have l7:(l.map aM)[0]? =some [.int .i64 (l.getD 0 0)]:=getD_map aM ae
   have gF:∀w:Int,(l.map aM).set 0 [.int .i64 w]=(l.set 0 w).map aM:=fun w=>by rw[List.map_set];rfl
   (have zF:=tw @b9 (tw @b7 (tw @b0 (tw @b2 (tw @b4 (tw @b5 (tw @hj (tw @bB (tw @ew (tw @gW (tw @nw (tw @go (tw @uY (tw @vo (tw @vu (tw @tu (tw @tr (tw @tt (tw @qx (tw @oz (tw @qy (tw @kD (tw @sr (tw @PZ (tw @fE (tw @gE (tw @l7 (tw @fc (tw @gF @hr))))))))))))))))))))))))))));(repeat(first|((repeat(revert N;apply Pn.out));refine wk zF ?_;(repeat(apply Pn.mk;intro N hN)))|((try apply Or.inl);refine⟨_,aw.x (qu) (sd zF),?_⟩;apply hN;clear hN N)));try clear zF)
   refine nH (fun e st=>e 0=.ptr X 0 0/\e 2=env_b 2/\e 4=env_b 4/\e 5=env_b 5/\e 9=.int .i64 (j:Int)/\eL st.get X bs (A+4+2*k+2*(j+1))/\x2+3<=st.next/\(∀i:Id,i≠X->i.bq<x2->st.get i=g2 i)/\mh (x2+2) st.get st.next ⟨134003001,x2+1⟩ (G+1) (TT+1)) ?_ ?_
   ·rintro e st ⟨r0,r2,r4,r5,r9,rS,rN,rO,rC⟩
    obtain⟨gc,nc⟩:=st
    (try dsimp only at rS rN rO rC)
    obtain⟨qg,qo,L',rows',rB,_⟩:=id rC
    rw[b2]at r2
    rw[b4]at r4
    rw[b5]at r5
    apply hN
    clear hN N
    have w9:IntKind.i64.wrap (((TT+1:Nat):Int)-1)=(TT:Int):=(db ae).trans ae
    have hl9:zl k (j+1)=TT:=by rw[<-WQ];unfold zl;rw[if_neg ae];omega
    (try((repeat(revert N;apply Pn.out));refine wk (tw @r0 (tw @r2 (tw @r4 (tw @r5 (tw @r9 (tw @rB @w9)))))) ?_;(repeat(apply Pn.mk;intro N hN))))
    refine fb ?_ ?_ (by(try dsimp only);rw[show k+2+(j+1)=G+1 by omega,show k+1+(j+1)=TT+1 by omega];exact⟨rS,ae,rO,rC.later ae⟩)
    all_goals simp only[go_sem, ↓reduceIte,Nat.reduceEqDiff,Nat.reduceAdd,Nat.reduceSub,Nat.reduceLeDiff,reduceCtorEq,b9,b7,b0,b2,b4,b5,r9,hl9]
   ·intro N hN
    have nXu:(X=u)=False:=eq_false fun h=>by rw[<-h]at f2;omega
    have nXg:(X=og)=False:=eq_false fun h=>by rw[<-h]at QB;omega
    have Wc:=bZ (i:=X) (n:=nb) ae
    refine fm ?_ ?_<;>(have zF:=tw @b9 (tw @b7 (tw @b0 (tw @b2 (tw @b4 (tw @b5 (tw @bB (tw @ew (tw @gW (tw @nw (tw @go (tw @uY (tw @vo (tw @vu (tw @tu (tw @tr (tw @tt (tw @qx (tw @oz (tw @qy (tw @kD @hr))))))))))))))))))));(repeat(first|((repeat(revert N;apply Pn.out));refine wk zF ?_;(repeat(apply Pn.mk;intro N hN)))|((try apply Or.inl);refine⟨_,aw.x (qu) (sd zF),?_⟩;apply hN;clear hN N)));try clear zF)<;>(try refine fm ?_ ?_)<;>(have zF:=tw @b9 (tw @b7 (tw @b0 (tw @b2 (tw @b4 (tw @b5 (tw @bB (tw @ew (tw @gW (tw @nw (tw @go (tw @uY (tw @vo (tw @vu (tw @tu (tw @tr (tw @tt (tw @qx (tw @oz (tw @qy (tw @kD @hr))))))))))))))))))));(repeat(first|((repeat(revert N;apply Pn.out));refine wk zF ?_;(repeat(apply Pn.mk;intro N hN)))|((try apply Or.inl);refine⟨_,aw.x (qu) (sd zF),?_⟩;apply hN;clear hN N)));try clear zF)<;>(try refine fm ?_ ?_)<;>(have zF:=tw @b9 (tw @b7 (tw @b0 (tw @b2 (tw @b4 (tw @b5 (tw @bB (tw @ew (tw @gW (tw @nw (tw @go (tw @uY (tw @vo (tw @vu (tw @tu (tw @tr (tw @tt (tw @qx (tw @oz (tw @qy (tw @kD @hr))))))))))))))))))));(repeat(first|((repeat(revert N;apply Pn.out));refine wk zF ?_;(repeat(apply Pn.mk;intro N hN)))|((try apply Or.inl);refine⟨_,aw.x (qu) (sd zF),?_⟩;apply hN;clear hN N)));try clear zF)<;>(try refine fm ?_ ?_)<;>(have zF:=tw @b9 (tw @b7 (tw @b0 (tw @b2 (tw @b4 (tw @b5 (tw @bB (tw @ew (tw @gW (tw @nw (tw @go (tw @uY (tw @vo (tw @vu (tw @tu (tw @tr (tw @tt (tw @qx (tw @oz (tw @qy (tw @kD @hr))))))))))))))))))));(repeat(first|((repeat(revert N;apply Pn.out));refine wk zF ?_;(repeat(apply Pn.mk;intro N hN)))|((try apply Or.inl);refine⟨_,aw.x (qu) (sd zF),?_⟩;apply hN;clear hN N)));try clear zF)<;>(try refine fm ?_ ?_)<;>(have zF:=tw @b9 (tw @b7 (tw @b0 (tw @b2 (tw @b4 (tw @b5 (tw @bB (tw @ew (tw @gW (tw @nw (tw @go (tw @uY (tw @vo (tw @vu (tw @tu (tw @tr (tw @tt (tw @qx (tw @oz (tw @qy (tw @kD @hr))))))))))))))))))));(repeat(first|((repeat(revert N;apply Pn.out));refine wk zF ?_;(repeat(apply Pn.mk;intro N hN)))|((try apply Or.inl);refine⟨_,aw.x (qu) (sd zF),?_⟩;apply hN;clear hN N)));try clear zF)<;>(try refine fm ?_ ?_)<;>(have zF:=tw @b9 (tw @b7 (tw @b0 (tw @b2 (tw @b4 (tw @b5 (tw @bB (tw @ew (tw @gW (tw @nw (tw @go (tw @uY (tw @vo (tw @vu (tw @tu (tw @tr (tw @tt (tw @qx (tw @oz (tw @qy (tw @kD @hr))))))))))))))))))));(repeat(first|((repeat(revert N;apply Pn.out));refine wk zF ?_;(repeat(apply Pn.mk;intro N hN)))|((try apply Or.inl);refine⟨_,aw.x (qu) (sd zF),?_⟩;apply hN;clear hN N)));try clear zF)
    all_goals
     refine .inr (ay _ _ _ _ _ (fun r σ3 hq=>?_) (gS bs hb iz X 2 (A+4+2*k+2*j) ae _ (by
      obtain⟨za,zz,AS,gX⟩:=bS
      exact⟨za,zz,AS,by simp only[go_sem, ↓reduceIte,Nat.reduceEqDiff,Nat.reduceAdd,Nat.reduceSub,Nat.reduceLeDiff,reduceCtorEq,Wc,Q2,nXu,nXg]<;>exact gX⟩)))
     obtain⟨w,rfl,w0,w1,h3,hK⟩:=hq
     obtain⟨g3,x3⟩:=σ3
     (try dsimp only at h3)
     have Kt:=hK.1
     (try dsimp only at Kt)
     have c5:=hK.2 ⟨134003001,x2+1⟩ (fun e=>by rw[<-e]at hX;(try dsimp only at hX);omega) aH
     have cG:=hK.2 ⟨134019007,nb+1⟩ (fun e=>by rw[<-e]at hX;(try dsimp only at hX);omega) aH
     have co:=hK.2 o (fun h=>by rw[h]at j7;omega) aH
     simp only[go_sem, ↓reduceIte,Nat.reduceEqDiff,Nat.reduceAdd,Nat.reduceSub,Nat.reduceLeDiff,reduceCtorEq,go,vo,vu,tu,tr,tt,qx,oz,qy]at c5 cG co
     apply hN
     clear hN N
     have AO:TT<=16777215:=ae
     have UI:=bZ (i:=o) (n:=x3) ae
     (have zF:=tw @b9 (tw @b7 (tw @b0 (tw @b2 (tw @b4 (tw @b5 (tw @c5 (tw @cG (tw @co (tw @hr (tw @gW (tw @AO (tw @qx (tw @oz (tw @qy @UI))))))))))))));(repeat(first|((repeat(revert N;apply Pn.out));refine wk zF ?_;(repeat(apply Pn.mk;intro N hN)))|((try apply Or.inl);refine⟨_,aw.x (qu) (sd zF),?_⟩;apply hN;clear hN N)));try clear zF)
     obtain⟨za,zz,AS,gX⟩:=h3
     have Gk:=bZ (i:=X) (n:=x3) ae
     have Qy:(X=o)=False:=eq_false fun h=>by rw[<-h]at j7;omega
     have WO:=(hT.write (e:=u) (l:=l.set 0 ((G+1:Nat):Int)) (by rw[List.length_set,hl])).frame (g':=g3) (n':=x3) ae fun i h1 h2 h4=>(hK.2 i (fun h=>by rw[h]at h2;omega) aH).trans (by
      have q1:=bZ h4
      have q2:=CI h1 sg
      have q3:=nB i h2
      simp only[go_sem, ↓reduceIte,Nat.reduceEqDiff,Nat.reduceAdd,Nat.reduceSub,Nat.reduceLeDiff,reduceCtorEq,q1,q2,q3])
     have IU:∀i:Id,i≠X->i.bq<x2->g3 i=g2 i:=fun i h1 h2=>(hK.2 i h1 aH).trans (by
      have q1:=bZ (i:=i) (n:=nb) ae
      have q2:=bZ h2
      have q3:(i=og)=False:=eq_false fun h=>by rw[h]at h2;omega
      have q4:(i=u)=False:=eq_false fun h=>by rw[h]at h2;omega
      simp only[go_sem, ↓reduceIte,Nat.reduceEqDiff,Nat.reduceAdd,Nat.reduceSub,Nat.reduceLeDiff,reduceCtorEq,q1,q2,q3,q4]<;>exact bO i h1 h2)
     exact⟨sd (tw @b9 (tw @b7 (tw @b0 (tw @b2 (tw @b4 @b5))))),sd (tw @b9 (tw @b7 (tw @b0 (tw @b2 (tw @b4 @b5))))),sd (tw @b9 (tw @b7 (tw @b0 (tw @b2 (tw @b4 @b5))))),sd (tw @b9 (tw @b7 (tw @b0 (tw @b2 (tw @b4 @b5))))),sd (tw @b9 (tw @b7 (tw @b0 (tw @b2 (tw @b4 @b5))))),⟨za,zz,ae,by simp only[go_sem, ↓reduceIte,Nat.reduceEqDiff,Nat.reduceAdd,Nat.reduceSub,Nat.reduceLeDiff,reduceCtorEq,Gk,Q2,Qy]<;>exact gX⟩,aH,fun i h1 h2=>(by
      have q1:=bZ (i:=i) (n:=x3) ae
      have q2:=bZ h2
      have q3:(i=o)=False:=eq_false fun h=>by rw[h]at h2;omega
      simp only[go_sem, ↓reduceIte,Nat.reduceEqDiff,Nat.reduceAdd,Nat.reduceSub,Nat.reduceLeDiff,reduceCtorEq,q1,q2,q3]<;>exact IU i h1 h2),⟨134019007,nb+1⟩,⟨134021014,x3⟩,L++[⟨(⟨#[121]⟩:ByteArray)++dt,2⟩],rows++[[.str ((⟨#[110]⟩:ByteArray)++dt),.own ⟨134021011,x3⟩ 0 4]],sl @Nat.zero_add,by simp[hL],by
       have q1:((⟨134019007,nb+1⟩:Id)=o)=False:=eq_false fun h=>by rw[<-h]at pB;(try dsimp only at pB);omega
       rw[List.map_append];simp only[go_sem, ↓reduceIte,Nat.reduceEqDiff,Nat.reduceAdd,Nat.reduceSub,Nat.reduceLeDiff,reduceCtorEq,q1]<;>exact cG,fun x hx=>(by
       rcases List.mem_append.1 hx with h9|h9
       ·exact ui x h9
       ·rw[List.mem_singleton.1 h9];exact ly),⟨.inr (.inr rfl),aH,aH⟩,by simp[hr],sl @Nat.zero_add,(WO.frame aH fun i h1 h2 h4=>(by
        have q1:=bZ h4
        have q2:=sU h1 so
        have q3:=nB i h2
        simp only[go_sem, ↓reduceIte,Nat.reduceEqDiff,Nat.reduceAdd,Nat.reduceSub,Nat.reduceLeDiff,reduceCtorEq,q1,q2,q3])).snoc (e:=⟨134021011,x3⟩) ⟨E9,tC _ _⟩ ⟨.inr (.inr (.inl rfl)),aH,aH,[0,IntKind.i64.wrap (1+w),((G+1:Nat):Int),0],rfl,by
        have q1:((⟨134021011,x3⟩:Id)=o)=False:=eq_false fun h=>by rw[<-h]at pB;(try dsimp only at pB);omega
        simp only[go_sem, ↓reduceIte,Nat.reduceEqDiff,Nat.reduceAdd,Nat.reduceSub,Nat.reduceLeDiff,reduceCtorEq,q1]<;>rfl⟩,.inr (.inr (.inl rfl)),aH,aH⟩
  ·have hjm:j=m2:=ae
   subst hjm
   clear bB hL nw ui sg QB QC hr go hT so j7 pB
   obtain⟨gb,nb⟩:=st_b
   (try dsimp only at bS bN bO bC)
   have Te:(⟨134003001,x2+1⟩:Id)≠X:=fun e=>by rw[<-e]at hX;(try dsimp only at hX);omega
   obtain⟨G,hG⟩:∃G,k+2+j=G:=⟨_,rfl⟩
   obtain⟨TT,WQ⟩:∃T,k+1+j=T:=⟨_,rfl⟩
   rw[hG,WQ]at bC
   obtain⟨A2,hA2⟩:∃A2,A+4+2*k+2*j=A2:=⟨_,rfl⟩
   rw[hA2]at bS
   (try((repeat(revert N;apply Pn.out));refine wk (tw @b9 (tw @b7 (tw @b0 (tw @b2 (tw @b4 (tw @b5 @hj)))))) ?_;(repeat(apply Pn.mk;intro N hN))))
   refine cm (fun n env st=>∃i:Nat,n=(4)-i/\i<=(4)/\env 10=.int .i64 (i:Int)/\((eL st.get X bs (A2+4*i)/\x2+3<=st.next/\(∀u:Id,u≠X->u.bq<x2->st.get u=g2 u)/\mh (x2+2) st.get st.next ⟨134003001,x2+1⟩ G (TT+i)))) (4) ⟨0,ae,ae,sl (tw @b9 (tw @b7 (tw @b0 (tw @b2 (tw @b4 @b5))))),by(try dsimp only);exact⟨bS,ae,bO,bC.later ae⟩⟩ ?_
   rintro n_c env_c st_c ⟨i,rfl,cle,kN,cI0⟩ kE
   have c0:=kE 0 (by kernel_rfl);have c2:=kE 2 (by kernel_rfl);have c5:=kE 5 (by kernel_rfl)
   simp only[go_sem, ↓reduceIte,Nat.reduceEqDiff,Nat.reduceAdd,Nat.reduceSub,Nat.reduceLeDiff,reduceCtorEq,b9,b7,b0,b2,b4,b5]at c0 c2 c5
   clear kE
   obtain⟨cS,cN,cO,cC⟩:=cI0
   by_cases hi:(i:Int)<4
   ·have jv:∀{e:Env} {gg:Rows} {nx:Nat},(e 10=.int .i64 (IntKind.i64.wrap ((i:Int)+1)))->((eL gg X bs (A2+4*(i+1))/\x2+3<=nx/\(∀u:Id,u≠X->u.bq<x2->gg u=g2 u)/\mh (x2+2) gg nx ⟨134003001,x2+1⟩ G (TT+(i+1))))->∃m0,m0<(4)-i/\∃i:Nat,m0=(4)-i/\i<=(4)/\e 10=.int .i64 (i:Int)/\((eL gg X bs (A2+4*i)/\x2+3<=nx/\(∀u:Id,u≠X->u.bq<x2->gg u=g2 u)/\mh (x2+2) gg nx ⟨134003001,x2+1⟩ G (TT+i))):=fun x1 x2=>⟨_,ae,i+1,rfl,ae,(by rw[x1,bf ae]),x2⟩
    have qu:=ma (i:Int) ae ae
    have y3:=jm (i:Int) ae
    generalize iY (i:Int)=dt at qu y3
    have ew:(#[114]:Array UInt8).size+dt.size<=9223372036854775807:=by
     have:(#[114]:Array UInt8).size=1:=rfl
     omega
    have ly:((⟨#[114]⟩:ByteArray)++dt).size<=64:=by
     rw[gM]
     have:(⟨#[114]⟩:ByteArray).size=1:=rfl
     omega
    obtain⟨gc,nc⟩:=st_c
    (try dsimp only at cS cN cO cC)
    (try((repeat(revert N;apply Pn.out));refine wk (tw @kN (tw @c0 (tw @c2 (tw @c5 @hi)))) ?_;(repeat(apply Pn.mk;intro N hN))))
    refine .inr (ay _ _ _ _ _ (fun r σ3 hq=>?_) (gS bs hb iz X 2 (A2+4*i) ae _ cS))
    obtain⟨w,rfl,w0,w1,h3,hK⟩:=hq
    have dC:=cC.only hK aH ae Te aH
    have Kt:=hK.1
    have dO:∀i:Id,i≠X->i.bq<x2->σ3.get i=g2 i:=fun i h1 h2=>(hK.2 i h1 aH).trans (cO i h1 h2)
    obtain⟨g3,x3⟩:=σ3
    (try dsimp only at h3 dC Kt dO)
    clear hK cS cC cO
    apply hN
    clear hN N
    have hrm:((i:Nat):Int).tmod 2=((i:Nat):Int).tmod 2:=rfl
    (try((repeat(revert N;apply Pn.out));refine wk (tw @kN (tw @c0 (tw @c2 @c5))) ?_;(repeat(apply Pn.mk;intro N hN))))
    refine DN (fun e st=>e 0=.ptr X 0 0/\e 2=env_c 2/\e 5=env_c 5/\e 10=.int .i64 (i:Int)/\eL st.get X bs (A2+4*(i+1))/\x2+3<=st.next/\(∀i:Id,i≠X->i.bq<x2->st.get i=g2 i)/\mh (x2+2) st.get st.next ⟨134003001,x2+1⟩ G (TT+i+1)) ?_ ?_
    ·rintro e st ⟨r0,r2,r5,r10,rS,rN,rO,rC⟩
     obtain⟨gd,nd⟩:=st
     (try dsimp only at rS rN rO rC)
     rw[c2]at r2
     rw[c5]at r5
     apply hN
     clear hN N
     (try((repeat(revert N;apply Pn.out));refine wk (tw @r0 (tw @r2 (tw @r5 @r10))) ?_;(repeat(apply Pn.mk;intro N hN))))
     exact jv (sd (tw @kN (tw @c0 (tw @c2 (tw @c5 @r10))))) (by(try dsimp only);exact⟨rS,ae,rO,rC.later ae⟩)
    ·intro N hN
     obtain⟨og,o,L,rows,dB,hL,nw,ui,sg,hr,go,hT,so,j7,pB⟩:=id dC
     have oz:∀s,(o=⟨s,x2+1⟩)=False/\((⟨s,x2+1⟩:Id)=o)=False:=fun s=>⟨eq_false fun e=>by rw[e]at j7;(try dsimp only at j7);omega,eq_false fun e=>by rw[<-e]at j7;(try dsimp only at j7);omega⟩
     have AO:TT+i<=16777215:=ae
     refine fm ?_ ?_<;>(have zF:=tw @kN (tw @c0 (tw @c2 (tw @c5 (tw @dB @ew))));(repeat(first|((repeat(revert N;apply Pn.out));refine wk zF ?_;(repeat(apply Pn.mk;intro N hN)))|((try apply Or.inl);refine⟨_,aw.x (qu) (sd zF),?_⟩;apply hN;clear hN N)));try clear zF)<;>(try refine fm ?_ ?_)<;>(have zF:=tw @kN (tw @c0 (tw @c2 (tw @c5 (tw @dB @ew))));(repeat(first|((repeat(revert N;apply Pn.out));refine wk zF ?_;(repeat(apply Pn.mk;intro N hN)))|((try apply Or.inl);refine⟨_,aw.x (qu) (sd zF),?_⟩;apply hN;clear hN N)));try clear zF)
     all_goals
      refine .inr (ay _ _ _ _ _ (fun r σ4 hq=>?_) (gS bs hb iz X 2 (A2+4*i+2) ae _ h3))
      obtain⟨w',rfl,w0',w1',h4,hK⟩:=hq
      obtain⟨g4,x4⟩:=σ4
      (try dsimp only at h4)
      have Qb:=hK.1
      (try dsimp only at Qb)
      have Rv:=(hK.2 ⟨134003001,x2+1⟩ Te aH).trans dB
      have VM:=(hK.2 o (fun h=>by rw[h]at j7;omega) aH).trans go
      have Z1:∀u:Id,x2+2<=u.bq->u.bq<x3->g4 u=g3 u:=fun u h1 h2=>hK.2 u (fun h=>by rw[h]at h1;omega) aH
      have Hj:∀u:Id,u≠X->u.bq<x2->g4 u=g2 u:=fun u h1 h2=>(hK.2 u h1 aH).trans (dO u h1 h2)
      (try dsimp only at Rv VM)
      clear hK
      apply hN
      clear hN N
      have vo4:=bZ (i:=o) (n:=x4) ae
      (have zF:=tw @kN (tw @c0 (tw @c2 (tw @c5 (tw @Rv (tw @VM (tw @hr (tw @ew (tw @AO (tw @oz @vo4)))))))));(repeat(first|((repeat(revert N;apply Pn.out));refine wk zF ?_;(repeat(apply Pn.mk;intro N hN)))|((try apply Or.inl);refine⟨_,aw.x (qu) (sd zF),?_⟩;apply hN;clear hN N)));try clear zF)
      obtain⟨za,zz,AS,gX⟩:=h4
      have Q3:=bZ (i:=X) (n:=x4) ae
      have Qy:(X=o)=False:=eq_false fun h=>by rw[<-h]at j7;omega
      exact⟨sd (tw @kN (tw @c0 (tw @c2 @c5))),sd (tw @kN (tw @c0 (tw @c2 @c5))),sd (tw @kN (tw @c0 (tw @c2 @c5))),sd (tw @kN (tw @c0 (tw @c2 @c5))),⟨za,zz,ae,by simp only[go_sem, ↓reduceIte,Nat.reduceEqDiff,Nat.reduceAdd,Nat.reduceSub,Nat.reduceLeDiff,reduceCtorEq,Q3,Q2,Qy]<;>exact gX⟩,aH,fun u h1 h2=>(by
       have q1:=bZ (i:=u) (n:=x4) ae
       have q2:=bZ h2
       have q3:(u=o)=False:=eq_false fun h=>by rw[h]at h2;omega
       simp only[go_sem, ↓reduceIte,Nat.reduceEqDiff,Nat.reduceAdd,Nat.reduceSub,Nat.reduceLeDiff,reduceCtorEq,q1,q2,q3]<;>exact Hj u h1 h2),mh.put (u:=⟨134027018,x4⟩) (e:=⟨134027015,x4⟩) (l:=[IntKind.i64.wrap (1+w),IntKind.i64.wrap (1+w'),IntKind.i64.wrap (1+(i:Int).tmod 2),IntKind.i64.wrap (1+IntKind.i64.wrap ((i:Int).tdiv 2))]) hL nw ui sg hr hT ⟨ly,tC _ _⟩ rfl aH (sl @Nat.zero_add) (sl @Nat.zero_add) ⟨.inr (.inr (.inr (.inl rfl))),aH,aH⟩ (by
        have q1:((⟨134027015,x4⟩:Id)=o)=False:=eq_false fun h=>by rw[<-h]at pB;(try dsimp only at pB);omega
        simp only[go_sem, ↓reduceIte,Nat.reduceEqDiff,Nat.reduceAdd,Nat.reduceSub,Nat.reduceLeDiff,reduceCtorEq,q1]<;>rfl) ⟨.inr (.inr (.inr (.inl rfl))),aH,aH⟩ fun u hs h1 h2=>(by
        have q1:=bZ (i:=u) (n:=x4) ae
        have q2:(u=o)=False:=by rcases hs with hs|hs;exact(sU hs so).1;exact(CJ hs so).1
        have q3:∀s,(u=⟨s,x2+1⟩)=False:=fun s=>eq_false fun e=>by rw[e]at h1;(try dsimp only at h1);omega
        simp only[go_sem, ↓reduceIte,Nat.reduceEqDiff,Nat.reduceAdd,Nat.reduceSub,Nat.reduceLeDiff,reduceCtorEq,q1,q2,q3]<;>exact Z1 u h1 h2)⟩
   ·have YW:i=4:=ae
    subst YW
    obtain⟨gc,nc⟩:=st_c
    (try dsimp only at cS cN cO cC)
    (try((repeat(revert N;apply Pn.out));refine wk (tw @kN (tw @c0 (tw @c2 (tw @c5 @hi)))) ?_;(repeat(apply Pn.mk;intro N hN))))
    refine .inr (ay _ _ _ _ _ (fun r σ3 hq=>?_) (BU bs hb iz X 3 (A2+4*4) ae _ cS))
    obtain⟨b,rfl,h3,hK⟩:=hq
    have dC:=cC.only hK aH ae Te aH
    have Kt:=hK.1
    have dO:∀i:Id,i≠X->i.bq<x2->σ3.get i=g2 i:=fun i h1 h2=>(hK.2 i h1 aH).trans (cO i h1 h2)
    obtain⟨g3,x3⟩:=σ3
    (try dsimp only at h3 dC Kt dO)
    clear hK cS cC cO
    apply hN
    clear hN N
    (try((repeat(revert N;apply Pn.out));refine wk (tw @kN (tw @c0 (tw @c2 @c5))) ?_;(repeat(apply Pn.mk;intro N hN))))
    refine nH (fun e st=>e 0=.ptr X 0 0/\e 2=env_c 2/\e 5=env_c 5/\eL st.get X bs (A2+30)/\x2+3<=st.next/\(∀u:Id,u≠X->u.bq<x2->st.get u=g2 u)/\∃T2,0<T2/\T2<=100/\mh (x2+2) st.get st.next ⟨134003001,x2+1⟩ G T2) ?_ ?_
    ·rintro e st ⟨r0,r2,r5,rS,rN,rO,T2,t0,t1,rC⟩
     obtain⟨gd,nd⟩:=st
     (try dsimp only at rS rN rO rC)
     rw[c2]at r2
     rw[c5]at r5
     obtain⟨og,o,L,rows,sB,hL,nw,ui,⟨sg,QB,QC⟩,hr,go,hT,so,j7,pB⟩:=id rC
     have s2:=(rO ⟨134000000,σ.next⟩ (fun e=>by rw[<-e]at hX;(try dsimp only at hX);omega) aH).trans mo
     apply hN
     clear hN N
     (try((repeat(revert N;apply Pn.out));refine wk (tw @r0 (tw @r2 (tw @r5 (tw @sB @s2)))) ?_;(repeat(apply Pn.mk;intro N hN))))
     have hnE:¬jl o.site:=fun h=>by have:=(sU h so).1;simp at this
     have hGl:fN (x2+2) gd nd (.own og 0 G) G:=.inr ⟨ae,og,L,rfl,hL,nw,ui,QB,QC⟩
     have Tp:fZ jl (x2+2) gd nd (.own o 0 T2) T2:=.inr ⟨t0,o,rows,rfl,hr,go,hT,hnE,j7,pB⟩
     obtain⟨za,zz,AS,gX⟩:=rS
     have vXd:=bZ (i:=X) (n:=nd) ae
     have iO:∀u:Id,x2+2<=u.bq->u.bq<nd->∀r1 r2,(bI (bI gd ⟨134030002,nd⟩ r1) ⟨134000000,σ.next⟩ r2) u=gd u:=fun u h1 h2 r1 r2=>(by
      have h8:=bZ h2
      have h9:∀s,(u=⟨s,σ.next⟩)=False:=fun s=>eq_false fun h=>by rw[h]at h1;(try dsimp only at h1);omega
      simp only[go_sem, ↓reduceIte,Nat.reduceEqDiff,Nat.reduceAdd,Nat.reduceSub,Nat.reduceLeDiff,reduceCtorEq,h8,h9])
     exact eo (.inl rfl) (vs:=[.agg [.own og 0 G,.own o 0 T2,.own ⟨134030002,nd⟩ 0 1,.int .i64 2]]) (sd @r2) ⟨og,o,⟨134030002,nd⟩,G,T2,⟨⟨0,0⟩,0⟩,rfl,(hGl.frame aH fun u h1 h2=>iO u h1 h2 _ _).since aH,(Tp.frame aH fun u h1 h2=>iO u h1 h2 _ _).since aH,⟨ae,ae,ae,ae⟩,sl @Nat.zero_add,⟨aH,aH⟩,⟨za,zz,ae,by simp only[go_sem, ↓reduceIte,Nat.reduceEqDiff,Nat.reduceAdd,Nat.reduceSub,Nat.reduceLeDiff,reduceCtorEq,vXd,vX]<;>exact gX⟩,aH,fun u h1 h2=>(by
      have h7:=bZ h2
      have h8:=bZ (i:=u) (n:=nd) ae
      simp only[go_sem, ↓reduceIte,Nat.reduceEqDiff,Nat.reduceAdd,Nat.reduceSub,Nat.reduceLeDiff,reduceCtorEq,h7,h8]<;>exact(rO u h1 ae).trans (J8 u h1 h2))⟩
    ·intro N hN
     cases b
     ·(try((repeat(revert N;apply Pn.out));refine wk (tw @kN (tw @c0 (tw @c2 @c5))) ?_;(repeat(apply Pn.mk;intro N hN))))
      exact⟨sd (tw @kN (tw @c0 (tw @c2 @c5))),sd (tw @kN (tw @c0 (tw @c2 @c5))),sd (tw @kN (tw @c0 (tw @c2 @c5))),h3.mono ae,aH,dO,TT+4,ae,ae,dC.later aH⟩
     ·obtain⟨og,o,L,rows,dB,hL,nw,ui,sg,hr,go,hT,so,j7,pB⟩:=id dC
      have oz:∀s,(o=⟨s,x2+1⟩)=False/\((⟨s,x2+1⟩:Id)=o)=False:=fun s=>⟨eq_false fun e=>by rw[e]at j7;(try dsimp only at j7);omega,eq_false fun e=>by rw[<-e]at j7;(try dsimp only at j7);omega⟩
      have AO:TT<=16777211:=ae
      (try((repeat(revert N;apply Pn.out));refine wk (tw @kN (tw @c0 (tw @c2 (tw @c5 @dB)))) ?_;(repeat(apply Pn.mk;intro N hN))))
      refine fm ?_ ?_<;>(try((repeat(revert N;apply Pn.out));refine wk (tw @kN (tw @c0 (tw @c2 (tw @c5 @dB)))) ?_;(repeat(apply Pn.mk;intro N hN))))
      all_goals
       refine .inr (ay _ _ _ _ _ (fun r σ4 hq=>?_) (gS bs hb iz X 2 (A2+4*4+2) ae _ h3))
       obtain⟨w,rfl,w0,w1,h4,hK⟩:=hq
       obtain⟨g4,x4⟩:=σ4
       (try dsimp only at h4)
       have Qb:=hK.1
       (try dsimp only at Qb)
       have Rv:=(hK.2 ⟨134003001,x2+1⟩ Te aH).trans dB
       have VM:=(hK.2 o (fun h=>by rw[h]at j7;omega) aH).trans go
       have Z1:∀u:Id,x2+2<=u.bq->u.bq<x3->g4 u=g3 u:=fun u h1 h2=>hK.2 u (fun h=>by rw[h]at h1;omega) aH
       have Hj:∀u:Id,u≠X->u.bq<x2->g4 u=g2 u:=fun u h1 h2=>(hK.2 u h1 aH).trans (dO u h1 h2)
       (try dsimp only at Rv VM)
       clear hK
       apply hN
       clear hN N
       (try((repeat(revert N;apply Pn.out));refine wk (tw @kN (tw @c0 (tw @c2 (tw @c5 @Rv)))) ?_;(repeat(apply Pn.mk;intro N hN))))
       (try refine fm ?_ ?_)<;>(try((repeat(revert N;apply Pn.out));refine wk (tw @kN (tw @c0 (tw @c2 (tw @c5 @Rv)))) ?_;(repeat(apply Pn.mk;intro N hN))))
       all_goals
        refine .inr (ay _ _ _ _ _ (fun r σ5 hq=>?_) (gS bs hb iz X 2 (A2+4*4+2+2) ae _ h4))
        obtain⟨w',rfl,w0',w1',h5,hK⟩:=hq
        obtain⟨g5,x5⟩:=σ5
        (try dsimp only at h5)
        have XH:=hK.1
        (try dsimp only at XH)
        have dB5:=(hK.2 ⟨134003001,x2+1⟩ Te aH).trans Rv
        have go5:=(hK.2 o (fun h=>by rw[h]at j7;omega) aH).trans VM
        have gT5:∀u:Id,x2+2<=u.bq->u.bq<x3->g5 u=g3 u:=fun u h1 h2=>(hK.2 u (fun h=>by rw[h]at h1;omega) aH).trans (Z1 u h1 h2)
        have g5O:∀u:Id,u≠X->u.bq<x2->g5 u=g2 u:=fun u h1 h2=>(hK.2 u h1 aH).trans (Hj u h1 h2)
        (try dsimp only at dB5 go5)
        clear hK
        apply hN
        clear hN N
        have vo5:=bZ (i:=o) (n:=x5) ae
        (try((repeat(revert N;apply Pn.out));refine wk (tw @kN (tw @c0 (tw @c2 (tw @c5 (tw @dB5 (tw @go5 (tw @hr (tw @AO (tw @oz @vo5))))))))) ?_;(repeat(apply Pn.mk;intro N hN))))
        obtain⟨za,zz,AS,gX⟩:=h5
        have vX5:=bZ (i:=X) (n:=x5) ae
        have Qy:(X=o)=False:=eq_false fun h=>by rw[<-h]at j7;omega
        exact⟨sd (tw @kN (tw @c0 (tw @c2 @c5))),sd (tw @kN (tw @c0 (tw @c2 @c5))),sd (tw @kN (tw @c0 (tw @c2 @c5))),⟨za,zz,ae,by simp only[go_sem, ↓reduceIte,Nat.reduceEqDiff,Nat.reduceAdd,Nat.reduceSub,Nat.reduceLeDiff,reduceCtorEq,vX5,Q2,Qy]<;>exact gX⟩,aH,fun u h1 h2=>(by
         have q1:=bZ (i:=u) (n:=x5) ae
         have q2:=bZ h2
         have q3:(u=o)=False:=eq_false fun h=>by rw[h]at h2;omega
         simp only[go_sem, ↓reduceIte,Nat.reduceEqDiff,Nat.reduceAdd,Nat.reduceSub,Nat.reduceLeDiff,reduceCtorEq,q1,q2,q3]<;>exact g5O u h1 h2),TT+4+1,ae,ae,mh.put (u:=⟨134029011,x5⟩) (e:=⟨134029008,x5⟩) (nm:=⟨#[114,52]⟩) (l:=[1,2,IntKind.i64.wrap (1+w),IntKind.i64.wrap (1+w')]) hL nw ui sg hr hT ⟨by decide,by decide⟩ rfl aH (sl @Nat.zero_add) (sl @Nat.zero_add) ⟨.inr (.inr (.inr (.inr rfl))),aH,aH⟩ (by
          have q1:((⟨134029008,x5⟩:Id)=o)=False:=eq_false fun h=>by rw[<-h]at pB;(try dsimp only at pB);omega
          simp only[go_sem, ↓reduceIte,Nat.reduceEqDiff,Nat.reduceAdd,Nat.reduceSub,Nat.reduceLeDiff,reduceCtorEq,q1]<;>rfl) ⟨.inr (.inr (.inr (.inr rfl))),aH,aH⟩ fun u hs h1 h2=>(by
          have q1:=bZ (i:=u) (n:=x5) ae
          have q2:(u=o)=False:=by rcases hs with hs|hs;exact(sU hs so).1;exact(CJ hs so).1
          have q3:∀s,(u=⟨s,x2+1⟩)=False:=fun s=>eq_false fun e=>by rw[e]at h1;(try dsimp only at h1);omega
          simp only[go_sem, ↓reduceIte,Nat.reduceEqDiff,Nat.reduceAdd,Nat.reduceSub,Nat.reduceLeDiff,reduceCtorEq,q1,q2,q3]<;>exact gT5 u h1 h2)⟩
theorem FG (bs:List Int) (hb:∀b∈bs,0<=b/\b<=255) (iz:bs.length<=4096) (X:Id) (A:Nat) (ha:A<=900000) (σ:ax) (h:eL σ.get X bs A) (hX:X.bq<σ.next):
  Call Tryz.prog 134 [.ptr X 0 0] σ (ye X bs A σ):=
 ay _ _ _ _ _ (fun _ _ hq=>hq.made) (FF bs hb iz X A ha σ h hX)
end Go.Proofs.YtainmfbpilopaaaGreatDoor.V

namespace Go.Proofs.YtainmfbpilopaaaGreatDoor
open Go.ChangeShapes Go.WideShapes Go.ChangeAt Go.RowKit Go.Deep
section
variable {H:Type} {enc:TypeId×Value->H} {P:Program} {w:World}
theorem oH.XT {α:Type} {rep:World->List Nat->List Value->α->Prop} {sz:Nat} {w:World} {b o len cap:Nat} (qi:Nat->List Value) (fs:Nat->List Nat) (ds:Nat->α) (hc:len<=cap) (hm:cap<=maxLen)
  (hl:∀i,i<len->(qi i).length=sz) (hr:∀i,i<len->rep w (fs i) (qi i) (ds i)) (pw:∀i,i<len->∀j u,(qi i)[j]? =some u->w.cell? ⟨b,o+(i*sz+j),none⟩=some u):
  oH rep sz w ([b]++((List.range len).map fs).flatten) (.slice (some ⟨b,o,none⟩) len cap) ((List.range len).map ds):=by
 refine⟨(List.range len).map qi,(List.range len).map fs,[b],rfl,⟨some ⟨b,o,none⟩,cap,by simp,by simpa using hc,hm,.inr ⟨b,o,rfl,rfl,fun j u hj=>?_⟩⟩,by simp,by simp,fun i cs f d h1 h2 h3=>?_⟩
 ·have hlen:∀cs∈(List.range len).map qi,cs.length=sz:=fun cs ek=>by
   obtain⟨i,hi,rfl⟩:=List.mem_map.1 ek
   exact hl i (List.mem_range.1 hi)
  have iX:=(List.getElem?_eq_some_iff.1 hj).1
  have Kj:((List.range len).map qi).flatten.length=len*sz:=by
   rw[List.length_flatten,List.map_map]
   have:∀(l:List Nat),(∀i∈l,i<len)->(l.map (List.length∘qi)).sum=l.length*sz:=by
    intro l
    induction l with
    |nil=>intro _;simp
    |cons a l ih=>intro h;rw[List.map_cons,List.sum_cons,ih fun i hi=>h i (List.mem_cons_of_mem _ hi)];simp only[Function.comp,hl a (h a (by simp)),List.length_cons,Nat.add_mul];omega
   rw[this _ fun i hi=>List.mem_range.1 hi,List.length_range]
  rw[Kj]at iX
  have GA:0<sz:=by
   rcases Nat.eq_zero_or_pos sz with h|h
   ·subst h;simp at iX
   ·exact h
  have hi:j / sz<len:=(Nat.div_lt_iff_lt_mul GA).2 iX
  have Hw:j % sz<sz:=Nat.mod_lt _ GA
  have Xk:j=(j / sz)*sz+j % sz:=by rw[Nat.mul_comm];exact(Nat.div_add_mod j sz).symm
  rw[Xk,wU hlen (i:=j / sz) (cs:=qi (j / sz)) (by simp[hi]) Hw]at hj
  rw[Xk]
  have:=pw (j / sz) hi (j % sz) u hj
  rw[<-Xk]at this ⊢
  exact this
 ·have hi:i<len:=by
   have:=(List.getElem?_eq_some_iff.1 h1).1
   simpa using this
  simp[hi]at h1 h2 h3
  subst h1 h2 h3
  exact⟨hr i hi,hl i hi⟩
theorem lO (b o k:Nat):(⟨b,o,none⟩:Addr).add k=⟨b,o+k,none⟩:=by
 unfold Addr.add;split
 ·rename_i h;subst h;rfl
 ·rfl
theorem Ll {α:Type} {rep:World->List Nat->List Value->α->Prop} {Q:α->Prop} {t e:TypeId} {sz fuel:Nat} {cs:List Value} {x:DataW H×List MemPlace} (ht:P.underlying t=some (.slice e)) (hC:P.cellsOf e=sz) (GA:0<sz)
  (h:DataW.trod enc P w 0 (fun _=>true) true fuel t cs=some x) (hel:∀n tZ y,tZ.length=sz->DataW.trod enc P w 0 (fun _=>true) true n e tZ=some y->∃f d,lN f 0 w.heap.size/\rep w f tZ d/\Q d):
  ∃A n c f xs,cs=[.slice A n c]/\lN f 0 w.heap.size/\oH rep sz w f (.slice A n c) xs/\∀d∈xs,Q d:=by
 rcases open_slice ht h with⟨rfl,_⟩|⟨a,len,cap,m,n,D,Pl,rfl,_,hl,hm,Xn,_,hi⟩
 ·exact⟨none,0,0,[],[],rfl,lN.nil _ _,oH.nil _ _ _,fun d h=>by cases h⟩
 rw[hC]at hi
 simp only[if_true]at Xn
 by_cases h0:len=0
 ·subst h0
  exact⟨some a,0,cap,[],[],rfl,lN.nil _ _,⟨[],[],[],rfl,⟨some a,cap,rfl,Nat.zero_le _,hm,.inl ⟨rfl,rfl⟩⟩,rfl,rfl,fun i cs f d hc=>by simp at hc⟩,fun d h=>by cases h⟩
 obtain⟨b,o,sp⟩:=a
 have cell0:∃v,w.cell? ⟨b,o,sp⟩=some v:=by
  obtain⟨tZ,hc,_⟩:=hi 0 (by omega)
  obtain⟨_,pP,pw⟩:=World.cells?_some hc
  refine⟨tZ[0]'(by omega),?_⟩
  have:=pw 0 GA
  rw[List.getElem?_eq_getElem (by omega)]at this
  simpa[Addr.add]using this
 obtain⟨v0,y8⟩:=cell0
 have hb:b<w.heap.size:=World.block_lt_of_cell? w _ y8
 have Y9:sp=none:=by
  unfold World.cell? at y8
  split at y8
  ·split at y8
   ·cases y8
   ·rename_i h;simpa using h
  ·cases y8
 subst Y9
 have key:∀i,i<len->∃tZ f d,tZ.length=sz/\lN f 0 w.heap.size/\rep w f tZ d/\Q d/\∀j u,tZ[j]? =some u->w.cell? ⟨b,o+(i*sz+j),none⟩=some u:=fun i nR=>by
  obtain⟨tZ,hc,htr⟩:=hi i (by omega)
  obtain⟨_,pP,pw⟩:=World.cells?_some hc
  obtain⟨f,d,h1,h2,h3⟩:=hel n tZ _ pP htr
  refine⟨tZ,f,d,pP,h1,h2,h3,fun j u hj=>?_⟩
  have iX:=(List.getElem?_eq_some_iff.1 hj).1
  have:=pw j (by omega)
  rw[hj]at this
  rw[<-this,Go.Deep.add_add,lO]
 have:Nonempty α:=by
  obtain⟨_,_,d,_⟩:=key 0 (by omega)
  exact⟨d⟩
 let cf:Nat->List Value:=fun i=>if hi:i<len then(key i hi).choose else[]
 let ff:Nat->List Nat:=fun i=>if hi:i<len then(key i hi).choose_spec.choose else[]
 let df:Nat->α:=fun i=>if hi:i<len then(key i hi).choose_spec.choose_spec.choose else Classical.choice this
 have eJ:∀i,i<len->(cf i).length=sz/\lN (ff i) 0 w.heap.size/\rep w (ff i) (cf i) (df i)/\Q (df i)/\∀j u,(cf i)[j]? =some u->w.cell? ⟨b,o+(i*sz+j),none⟩=some u:=fun i hi=>by
  have:=(key i hi).choose_spec.choose_spec.choose_spec
  simp only[cf,ff,df,dif_pos hi]
  exact this
 refine⟨some ⟨b,o,none⟩,len,cap,_,(List.range len).map df,rfl,?_,oH.XT cf ff df hl hm (fun i hi=>(eJ i hi).1) (fun i hi=>(eJ i hi).2.2.1) (fun i hi=>(eJ i hi).2.2.2.2),fun d hd=>?_⟩
 ·intro x hx
  rcases List.mem_append.1 hx with hx|hx
  ·simp at hx;subst hx;exact⟨Nat.zero_le _,hb⟩
  ·obtain⟨l,DV,Zj⟩:=List.mem_flatten.1 hx
   obtain⟨i,hi,rfl⟩:=List.mem_map.1 DV
   exact(eJ i (List.mem_range.1 hi)).2.1 x Zj
 ·obtain⟨i,hi,rfl⟩:=List.mem_map.1 hd
  exact(eJ i (List.mem_range.1 hi)).2.2.2.1
end
section
variable {H:Type} {enc:TypeId×Value->H} {w:World} {fuel:Nat} {cs:List Value} {x:DataW H×List MemPlace}
abbrev TT (enc:TypeId×Value->H) (w:World) (fuel t:Nat) (cs:List Value) (x:DataW H×List MemPlace):Prop:=DataW.trod enc Tryz.prog w 0 (fun _=>true) true fuel t cs=some x
end
end Go.Proofs.YtainmfbpilopaaaGreatDoor

namespace Go.Proofs.YtainmfbpilopaaaGreatDoor
open Go.ChangeShapes Go.WideShapes Go.ChangeAt Go.RowKit V
def yj:=Flat (fun b:Int=>[Value.int .u8 b])
theorem D7 {P:Program} {w:World} {D:Nat->Prop} {f:List Nat} {v:Value} {xs:List Int} (h:oH yj 1 w f v xs) (hD:∀b∈f,D b):lr P w D (.sl (xs.map jf)) v:=
 Of h hD (fun _ _=>rfl) (fun x _ a ha=>by simp[jf]at ha;rcases ha with rfl<;>rfl) fun x _ f' cs hr hf=>by
  obtain⟨_,rfl⟩:=hr
  intro j a ha
  match j,ha with
  |0,ha=>simp[jf]at ha;subst ha;exact⟨_,rfl,.int _ _⟩
  |j+1,ha=>simp[jf]at ha
theorem Jf {H:Type} {enc:TypeId×Value->H} {w:World} {fuel:Nat} {cs:List Value} {x:DataW H×List MemPlace} (h:TT enc w fuel 22 cs x):∃A n c f xs,cs=[.slice A n c]/\lN f 0 w.heap.size/\oH yj 1 w f (.slice A n c) xs/\∀b∈xs,0<=b/\b<=255:=
 Ll (rep:=yj) (Q:=fun b=>0<=b/\b<=255) Tryz.underlying22 (sz:=1) (by kernel_rfl) (by omega) h fun n tZ y hl hy=>by
  obtain⟨b,rfl,_,hw⟩:=DataW.trod_int Tryz.underlying5 hy
  exact⟨[],b,lN.nil _ _,⟨rfl,rfl⟩,by simpa[Lit.wf,IntKind.min,IntKind.max,IntKind.signed,IntKind.bits]using hw⟩
theorem X1:ownKnob Tryz.prog.godebug=none:=by kernel_rfl
theorem Nu:laidOutB Tryz.prog=true:=by kernel_rfl
theorem EC:Cm 134:=fun bs hb iz X A ha σ h hX=>FG bs hb iz X A ha σ h hX
theorem Mu:ib (AJ 0 1 tE sT sN):=⟨⟨_,SS 0 1 tE sT sN⟩,_,SU (by decide) tE sT sN⟩
theorem Kc (os:Os) (started:os.Started) (H:Type) (enc:TypeId×Value->H):
  ReturnsInHanded {} Tryz.checked os 6 .any (fun w args=>(Rows.fnGrownSpec.pre enc Tryz.prog Tryz.f6 [] false w args/\laidMetH Tryz.prog Rows.fnGrownRow.laid w)/\sizedMet enc Tryz.prog Tryz.f6 (OpenSpec.ofChange Rows.fnGrownSpec) false w args) (Rows.fnGrownSpec.post enc Tryz.prog Tryz.f6 false true false false):=by
 refine returnsInHanded_of_change_and (C:=Tryz.checked) (X:=fun w _=>laidMetH Tryz.prog Rows.fnGrownRow.laid w) (fun _ _ _ hh h=>h.of_heap hh) X1 started (by kernel_rfl) Tryz.func6
  (ChangeSpec.witness_shaped (enc:=enc) (C:=Tryz.checked) (os:=os) (X:=fun w _=>laidMetH Tryz.prog Rows.fnGrownRow.laid w) false (World.laidAll Tryz.prog os Rows.fnGrownRow.laid) #[.slice none 0 0,.slice none 0 0] 8 (World.laidAll_os _ _ _)
   (World.shaped_of_ZipB (by kernel_rfl) (by kernel_rfl)) (by kernel_rfl) (by kernel_rfl) (by kernel_rfl)
   (by rw[MakeChecks.laidMetH_plain _ _ _ (by kernel_rfl)];exact laidMet_laidAll _ (by kernel_rfl) (by kernel_rfl))) ?_
 intro W base args ds gs before RU hW hcnd _ hL _
 have y9:∀(j:Nat) t v,Tryz.f6.params[j]? =some t->args[j]? =some v->Value.okWide Tryz.prog W .any base t v:=RU
 have hW':=hW
 obtain⟨p,q,hA0,hV0,rfl,PY,sD⟩:=hW
 have hA:DataW.TrodAll enc Tryz.prog W 0 (fun _=>true) true Tryz.f6.params.toList args.toList ds p:=hA0
 have hV:DataW.TrodVars enc Tryz.prog W (fun _=>true) ["loop.example/g01081/impl.errTerminal", "loop.example/g01081/impl.errNoSpace"] gs q:=hV0
 rw[Tryz.params6]at hA y9
 obtain⟨v0,vs0,d0,ds0,p0,q0,pr,rfl,rfl,h0,r0⟩:=trodAll_cons hA
 obtain⟨v1,vs1,d1,ds1,p1,q1,rfl,rfl,rfl,h1,r1⟩:=trodAll_cons r0
 obtain⟨rfl,rfl,rfl⟩:=trodAll_nil r1
 obtain rfl:args= #[v0,v1]:=by cases args;simp_all
 rw[MakeChecks.laidMetH_plain _ _ _ (by kernel_rfl)]at hL
 obtain⟨a0,a1,y8,tg,hT,hN⟩:=KK hL
 have vr:∀{X:World},X.var? Tryz.prog "loop.example/g01081/impl.errTerminal" =some #[.iface tE (.pointer (some a0))]->X.var? Tryz.prog "loop.example/g01081/impl.errNoSpace" =some #[.iface tE (.pointer (some a1))]->∀sp:Nat->Bool,
   DataW.TrodVars enc Tryz.prog X sp ["loop.example/g01081/impl.errTerminal", "loop.example/g01081/impl.errNoSpace"] [tok enc (.iface tE (.pointer (some a0))),tok enc (.iface tE (.pointer (some a1)))] [.cell gT 0,.cell gN 0]:=
  fun x0 x1 sp=>vars_read2 enc MH Rz Tryz.underlying208 x0 trivial MG Ry Tryz.underlying208 x1 trivial sp
 obtain⟨rfl,rfl⟩:=hV.unique (vr y8 tg _)
 obtain⟨A0,n0,c0,rfl⟩:=okWide_slice Tryz.underlying22 (y9 0 22 v0 rfl rfl)
 obtain⟨A1,n1,c1,rfl⟩:=okWide_slice Tryz.underlying22 (y9 1 22 v1 rfl rfl)
 have k0:=h0
 have k1:=h1
 have lt0:∀x∈p0,x.block<W.heap.size:=by obtain⟨m,hm⟩:=k0;exact DataW.trod_lt m _ _ _ hm
 have V7:∀x∈p1,x.block<W.heap.size:=by obtain⟨m,hm⟩:=k1;exact DataW.trod_lt m _ _ _ hm
 obtain⟨f0,xs,w0,s0,b0⟩:∃f,∃d:List Int,lN f 0 W.heap.size/\oH yj 1 W f (.slice A0 n0 c0) d/\∀b∈d,0<=b/\b<=255:=by
  obtain⟨fuel,hf⟩:=h0
  obtain⟨A,n,c,f,xs,e,w,z,hb⟩:=Jf hf
  simp[Value.cells]at e
  obtain⟨rfl,rfl,rfl⟩:=e
  exact⟨f,xs,w,z,hb⟩
 obtain⟨f1,ys,w1,s1,b1⟩:∃f,∃d:List Int,lN f 0 W.heap.size/\oH yj 1 W f (.slice A1 n1 c1) d/\∀b∈d,0<=b/\b<=255:=by
  obtain⟨fuel,hf⟩:=h1
  obtain⟨A,n,c,f,xs,e,w,z,hb⟩:=Jf hf
  simp[Value.cells]at e
  obtain⟨rfl,rfl,rfl⟩:=e
  exact⟨f,xs,w,z,hb⟩
 clear hA0 hV0 RU
 have jd:fY Tryz.prog W (fun b=>b<W.heap.size) (fun _=>none) [.sl (xs.map jf),.sl (ys.map jf)] #[.slice A0 n0 c0,.slice A1 n1 c1]:=by
  have h:=od (D7 s0 (fun b hb=>(w0 b hb).2)) (od (D7 s1 (fun b hb=>(w1 b hb).2)) (⟨rfl,fun j b hj=>by cases j<;>cases hj⟩:fY Tryz.prog W (fun b=>b<W.heap.size) (fun _=>none) [] #[]))
  simpa using h
 have WU:=Qs (x:=0) (y:=1) (t:=tE) (s:=sT) (u:=sN) mixed (by decide) (KL EC xs ys b0 b1 ⟨AJ 0 1 tE sT sN,1⟩ Mu (Nat.le_refl _)) hT hN jd
 clear s0 s1 w0 w1 jd
 refine(WU.mono fun e W' ⟨he,bel⟩=>?_)
 subst he
 exact⟨_,rfl,_,_,_,[],_,_,hW',trodAll_mk1 (shut_bool Tryz.underlying4 _),(trodAll_cons_mk (Below.trod Nu (by kernel_rfl) (of_decide_eq_true (by kernel_rfl)) k0 bel lt0) (trodAll_cons_mk (Below.trod Nu (by kernel_rfl) (of_decide_eq_true (by kernel_rfl)) k1 bel V7) trodAll_mk0)),vr (V.var?_below MH y8 bel) (V.var?_below MG tg bel) _,bel.frame _,fun h=>by cases h⟩
end Go.Proofs.YtainmfbpilopaaaGreatDoor

