/- A drawn tile set, by the reference. -/
import Derived.Test.YtoodopepphhpoaaGreatDoorTtB
import Derived.Test.YtoodopepphhpoaaGreatDoorTtC
import Derived.Shelf.SlSortCmp.WholeK
import Derived.Shelf.SlSortCmp.NoneTotal
import Derived.Ground.SlsfProg
import Derived.Test.YtoodopepphhpoaaGreatDoorProg
import Derived.Maps.RangeRun
import Derived.Test.YtoodopepphhpoaaGreatDoorChecked
set_option linter.unusedVariables false
set_option linter.unusedSimpArgs false
set_option maxRecDepth 100000
set_option maxHeartbeats 16000000
namespace Go.Proofs.YtoodopepphhpoaaGreatDoor
namespace V
open Go.RowKit
attribute [local irreducible] dY wpOps fm Call
def oF (s:Nat):Prop:=s=109015003∨s=109016007
theorem K7 (bs:List Int) (hb:∀b∈bs,0<=b/\b<=255) (iy:bs.length<=4096) (X:Id) (m:Nat) (hm:m<=20) (A:Nat) (ha:A<=1000000) (σ:aw) (h:eZ σ.get X bs A) (hX:X.bH<σ.next):
  Call Tryz.prog 109 [.ptr X 0 0,.int .i64 (m:Int)] σ fun r σ'=>∃vg vt kg,r=.agg [vg,vt]/\gP σ.next σ'.get σ'.next vg kg/\ij oF σ.next σ'.get σ'.next vt m/\0<kg/\kg<=5/\eZ σ'.get X bs (A+400)/\lv X σ σ':=by
 refine tg Ud rfl fun fM=>?_;simp only[Qd,zz4,zz5,zz6,zz7,zz8,zz9,IA,We,Wf,Wg]
 try simp only[q]
 clear fM;have vX:=cR hX;(try((repeat(revert N;apply g7));refine wk @g8 ?_;repeat(apply g6;intro N hN)))
 refine .inr (ax _ _ _ _ _ (fun r σ1 hq=>?_) (ik bs hb iy X 5 A ae _ (by
  obtain⟨a,z,q1,q2⟩:=h
  exact⟨a,z,q1,by simp only[go_sem,↓reduceIte,Nat.reduceEqDiff,Nat.reduceAdd,Nat.reduceSub,Nat.reduceLeDiff,reduceCtorEq,vX]<;>exact q2⟩)))
 obtain⟨v,rfl,v0,v1,h1,hK⟩:=hq;obtain⟨g1,x1⟩:=σ1;(try dsimp only at h1);apply hN;clear hN N;have Eo:=hK.1;(try dsimp only at Eo);have Z3:=hK.2 ⟨109000000,σ.next⟩ (fun e=>by rw[<-e]at hX;(try dsimp only at hX);omega) aI;have hB5:=hK.2 ⟨109001001,σ.next+1⟩ (fun e=>by rw[<-e]at hX;(try dsimp only at hX);omega) aI;have qS:∀i:Id,i≠X->i.bH<σ.next->g1 i=σ.get i:=fun i hi hv=>(hK.2 i hi aI).trans (by have hv:=cR hv;simp only[go_sem,↓reduceIte,Nat.reduceEqDiff,Nat.reduceAdd,Nat.reduceSub,Nat.reduceLeDiff,reduceCtorEq,hv]);simp only[go_sem,↓reduceIte,Nat.reduceEqDiff,Nat.reduceAdd,Nat.reduceSub,Nat.reduceLeDiff,reduceCtorEq]at Z3 hB5;clear hK h
 obtain⟨kg,hkg⟩:∃kg:Nat,IntKind.i64.wrap (1+v)=(kg:Int):=⟨(1+v).toNat,by rw[db ae];omega⟩
 have PY:1<=kg/\kg<=5:=by
  rw[db ae]at hkg;omega
 (try((repeat(revert N;apply g7));refine wk @hkg ?_;repeat(apply g6;intro N hN)));refine cj (fun n env st=>∃k:Nat,n=(kg)-k/\k<=(kg)/\env 7=.int .i64 (k:Int)/\((eZ st.get X bs (A+2+2*k)/\st.get ⟨109000000,σ.next⟩=some ⟨true,2,[[.ck,.ck]]⟩/\σ.next+2<=st.next/\(∀i:Id,i≠X->i.bH<σ.next->st.get i=σ.get i)/\∃vg,st.get ⟨109001001,σ.next+1⟩=some ⟨true,2,[[vg,.ck]]⟩/\gP (σ.next+2) st.get st.next vg k))) (kg) ⟨0,ae,ae,sl @g8,by(try dsimp only);exact⟨h1,Z3,ae,qS,.ck,hB5,.inl ⟨rfl,rfl⟩⟩⟩ ?_;rintro n_a m3 i8 ⟨k,rfl,ale,a7,mD⟩ eC;have a0:=eC 0 g9;have a1:=eC 1 g9;have a4:=eC 4 g9;have a5:=eC 5 g9;have a6:=eC 6 g9;simp only[go_sem,↓reduceIte,Nat.reduceEqDiff,Nat.reduceAdd,Nat.reduceSub,Nat.reduceLeDiff,reduceCtorEq]at a0 a1 a4 a5 a6;clear eC;obtain⟨aS,G6,aN,aO,vg,PN,aG⟩:=mD
 by_cases hk:(k:Int)<(kg:Int)
 ·have dW:∀{e:Env} {gg:Rows} {nx:Nat},(e 7=.int .i64 (IntKind.i64.wrap ((k:Int)+1)))->((eZ gg X bs (A+2+2*(k+1))/\gg ⟨109000000,σ.next⟩=some ⟨true,2,[[.ck,.ck]]⟩/\σ.next+2<=nx/\(∀i:Id,i≠X->i.bH<σ.next->gg i=σ.get i)/\∃vg,gg ⟨109001001,σ.next+1⟩=some ⟨true,2,[[vg,.ck]]⟩/\gP (σ.next+2) gg nx vg (k+1)))->∃m0,m0<(kg)-k/\∃k:Nat,m0=(kg)-k/\k<=(kg)/\e 7=.int .i64 (k:Int)/\((eZ gg X bs (A+2+2*k)/\gg ⟨109000000,σ.next⟩=some ⟨true,2,[[.ck,.ck]]⟩/\σ.next+2<=nx/\(∀i:Id,i≠X->i.bH<σ.next->gg i=σ.get i)/\∃vg,gg ⟨109001001,σ.next+1⟩=some ⟨true,2,[[vg,.ck]]⟩/\gP (σ.next+2) gg nx vg k)):=fun x1 x2=>⟨_,ae,k+1,rfl,ae,(by rw[x1,aZ ae]),x2⟩;have qT:=mE (k:Int) ae ae;have zm:=iK (k:Int) ae;have iD:k<=16777215:=ae;generalize eO (k:Int)=dt at qT zm;(try((repeat(revert N;apply g7));refine wk (tw7 @a7 @a0 @a1 @a4 @a5 @a6 @hk) ?_;repeat(apply g6;intro N hN)));refine D9 (fun e st=>∃x,st=x/\e 0=.ptr X 0 0/\e 1=.int .i64 (m:Int)/\e 4=.ptr ⟨109000000,σ.next⟩ 0 0/\e 5=.ptr ⟨109001001,σ.next+1⟩ 0 0/\e 6=.int .i64 (kg:Int)/\e 7=.int .i64 (k:Int)/\eZ st.get X bs (A+2+2*(k+1))/\st.get ⟨109000000,σ.next⟩=some ⟨true,2,[[.ck,.ck]]⟩/\σ.next+2<=st.next/\(∀i:Id,i≠X->i.bH<σ.next->st.get i=σ.get i)/\∃vg,st.get ⟨109001001,σ.next+1⟩=some ⟨true,2,[[vg,.ck]]⟩/\gP (σ.next+2) st.get st.next vg (k+1)) ?_ ?_
  ·rintro e st ⟨x,rfl,c0,c1,c4,c5,c6,c7,cS,cB4,cN,cO,cG⟩;apply hN;clear hN N;(try((repeat(revert N;apply g7));refine wk (tw7 @a7 @a0 @a1 @a4 @a5 @a6 @c7) ?_;repeat(apply g6;intro N hN)))
   exact dW (sd (tw7 @a7 @a0 @a1 @a4 @a5 @a6 @c7)) (by(try dsimp only);exact⟨cS,cB4,ae,cO,(by
    obtain⟨vg,d1,d2⟩:=cG
    exact⟨vg,d1,d2.frame ae fun _ _ _=>rfl⟩)⟩)
  ·intro N hN
   have eT:(#[103]:Array UInt8).size+dt.size<=9223372036854775807:=by
    have:(#[103]:Array UInt8).size=1:=rfl;omega
   have j3:((⟨#[103]⟩:ByteArray)++dt).size<=64:=by
    rw[gK];have:(⟨#[103]⟩:ByteArray).size=1:=rfl;omega
   rcases aG with⟨k0,rfl⟩|⟨k0,o,L,rfl,hL,go,hs,jM,oK⟩
   ·refine fJ ?_ ?_<;>(have zF:=tw8 @a7 @a0 @a1 @a4 @a5 @a6 @PN @eT;(repeat(first|((repeat(revert N;apply g7));refine wk zF ?_;repeat(apply g6;intro N hN))|((try apply i3);refine⟨_,au.x (qT) (sd zF),?_⟩;apply hN;clear hN N)));try clear zF)<;>(try refine fJ ?_ ?_)<;>(try((repeat(revert N;apply g7));refine wk (tw8 @a7 @a0 @a1 @a4 @a5 @a6 @PN @eT) ?_;repeat(apply g6;intro N hN)))
    all_goals
     refine .inr (ax _ _ _ _ _ (fun r σ3 hq=>?_) (ik bs hb iy X 2 (A+2+2*k) ae _ aS));obtain⟨u,rfl,u0,u1,h3,k3⟩:=hq;obtain⟨g3,x3⟩:=σ3;(try dsimp only at h3);have n3:=k3.1;(try dsimp only at n3);have Hx:=(k3.2 ⟨109000000,σ.next⟩ (fun e=>by rw[<-e]at hX;(try dsimp only at hX);omega) aI).trans G6;have Nh:=(k3.2 ⟨109001001,σ.next+1⟩ (fun e=>by rw[<-e]at hX;(try dsimp only at hX);omega) aI).trans PN;have Ja:∀i:Id,i≠X->i.bH<σ.next->g3 i=σ.get i:=fun i hi hv=>(k3.2 i hi aI).trans (aO i hi hv);(try dsimp only at Hx Nh);clear k3;apply hN;clear hN N;(try((repeat(revert N;apply g7));refine wk (tw8 @a7 @a0 @a1 @a4 @a5 @a6 @Hx @Nh) ?_;repeat(apply g6;intro N hN)));obtain⟨za,zz,hz,gX⟩:=h3;have Gs:=cR (i:=X) (n:=x3) ae
     exact⟨_,rfl,sd (tw6 @a7 @a0 @a1 @a4 @a5 @a6),sd (tw6 @a7 @a0 @a1 @a4 @a5 @a6),sd (tw6 @a7 @a0 @a1 @a4 @a5 @a6),sd (tw6 @a7 @a0 @a1 @a4 @a5 @a6),sd (tw6 @a7 @a0 @a1 @a4 @a5 @a6),sd (tw6 @a7 @a0 @a1 @a4 @a5 @a6),⟨za,zz,ae,by simp only[go_sem,↓reduceIte,Nat.reduceEqDiff,Nat.reduceAdd,Nat.reduceSub,Nat.reduceLeDiff,reduceCtorEq,Gs,vX]<;>exact gX⟩,sd @Hx,aI,fun i hi hv=>(by
      have h8:=cR hv;have h9:=cR (i:=i) (n:=x3) ae
      simp only[go_sem,↓reduceIte,Nat.reduceEqDiff,Nat.reduceAdd,Nat.reduceSub,Nat.reduceLeDiff,reduceCtorEq,h8,h9]<;>exact Ja i hi hv),_,sl @g8,.inr ⟨ae,⟨109006010,x3⟩,[⟨(⟨#[103]⟩:ByteArray)++dt,IntKind.i64.wrap (1+u)⟩],by rw[k0],by rw[k0];rfl,sl @g8,fun x hx=>(by rw[List.mem_singleton.1 hx];exact j3),aI,aI⟩⟩
   ·have hoX:o≠X:=fun e=>by rw[e]at jM;omega
    have hX1:(o=X)=False/\(X=o)=False:=⟨eq_false hoX,eq_false fun e=>hoX e.symm⟩
    have e1:∀s,((o=⟨s,σ.next⟩)=False/\((⟨s,σ.next⟩:Id)=o)=False)/\(o=⟨s,σ.next+1⟩)=False/\((⟨s,σ.next+1⟩:Id)=o)=False:=fun s=>⟨⟨eq_false fun e=>by rw[e]at jM;(try dsimp only at jM);omega,eq_false fun e=>by rw[<-e]at jM;(try dsimp only at jM);omega⟩,eq_false fun e=>by rw[e]at jM;(try dsimp only at jM);omega,eq_false fun e=>by rw[<-e]at jM;(try dsimp only at jM);omega⟩;have jL:(L.map dU).length=k:=by rw[List.length_map,hL]
    refine fJ ?_ ?_<;>(have zF:=tw8 @a7 @a0 @a1 @a4 @a5 @a6 @PN @eT;(repeat(first|((repeat(revert N;apply g7));refine wk zF ?_;repeat(apply g6;intro N hN))|((try apply i3);refine⟨_,au.x (qT) (sd zF),?_⟩;apply hN;clear hN N)));try clear zF)<;>(try refine fJ ?_ ?_)<;>(try((repeat(revert N;apply g7));refine wk (tw8 @a7 @a0 @a1 @a4 @a5 @a6 @PN @eT) ?_;repeat(apply g6;intro N hN)))
    all_goals
     refine .inr (ax _ _ _ _ _ (fun r σ3 hq=>?_) (ik bs hb iy X 2 (A+2+2*k) ae _ aS));obtain⟨u,rfl,u0,u1,h3,k3⟩:=hq;obtain⟨g3,x3⟩:=σ3;(try dsimp only at h3);have n3:=k3.1;(try dsimp only at n3);have Hx:=(k3.2 ⟨109000000,σ.next⟩ (fun e=>by rw[<-e]at hX;(try dsimp only at hX);omega) aI).trans G6;have Nh:=(k3.2 ⟨109001001,σ.next+1⟩ (fun e=>by rw[<-e]at hX;(try dsimp only at hX);omega) aI).trans PN;have Ja:∀i:Id,i≠X->i.bH<σ.next->g3 i=σ.get i:=fun i hi hv=>(k3.2 i hi aI).trans (aO i hi hv);(try dsimp only at Hx Nh);have g3o:=(k3.2 o hoX aI).trans go;(try dsimp only at g3o);clear k3;apply hN;clear hN N;have VQ:=cR (i:=o) (n:=x3) ae;(try((repeat(revert N;apply g7));refine wk (tw9 @a7 @a0 @a1 @a4 @a5 @a6 @Hx @Nh (tw5 @g3o @e1 @VQ @iD @jL)) ?_;repeat(apply g6;intro N hN)));obtain⟨za,zz,hz,gX⟩:=h3;have Gs:=cR (i:=X) (n:=x3) ae
     exact⟨_,rfl,sd (tw6 @a7 @a0 @a1 @a4 @a5 @a6),sd (tw6 @a7 @a0 @a1 @a4 @a5 @a6),sd (tw6 @a7 @a0 @a1 @a4 @a5 @a6),sd (tw6 @a7 @a0 @a1 @a4 @a5 @a6),sd (tw6 @a7 @a0 @a1 @a4 @a5 @a6),sd (tw6 @a7 @a0 @a1 @a4 @a5 @a6),⟨za,zz,ae,by simp only[go_sem,↓reduceIte,Nat.reduceEqDiff,Nat.reduceAdd,Nat.reduceSub,Nat.reduceLeDiff,reduceCtorEq,Gs,vX,hX1]<;>exact gX⟩,sd (tw @Hx @e1),aI,fun i hi hv=>(by
      have h8:=cR hv;have h9:=cR (i:=i) (n:=x3) ae;have h7:(i=o)=False:=eq_false fun e=>by rw[e]at hv;omega
      simp only[go_sem,↓reduceIte,Nat.reduceEqDiff,Nat.reduceAdd,Nat.reduceSub,Nat.reduceLeDiff,reduceCtorEq,h8,h9,h7]<;>exact Ja i hi hv),_,sl @g8,.inr ⟨ae,⟨109006010,x3⟩,L++[⟨(⟨#[103]⟩:ByteArray)++dt,IntKind.i64.wrap (1+u)⟩],rfl,by simp[hL],by rw[List.map_append];simp only[go_sem,↓reduceIte,Nat.reduceEqDiff,Nat.reduceAdd,Nat.reduceSub,Nat.reduceLeDiff,reduceCtorEq]<;>rfl,fun x hx=>(by
       rcases List.mem_append.1 hx with h9|h9
       ·exact hs x h9
       ·rw[List.mem_singleton.1 h9];exact j3),aI,aI⟩⟩
 ·have hke:k=kg:=ae;subst hke;(try((repeat(revert N;apply g7));refine wk (tw7 @a7 @a0 @a1 @a4 @a5 @a6 @hk) ?_;repeat(apply g6;intro N hN)));obtain⟨ga,na⟩:=i8;(try dsimp only at aS G6 aN aO PN aG);refine cj (fun n env st=>∃j:Nat,n=(m)-j/\j<=(m)/\env 8=.int .i64 (j:Int)/\((eZ st.get X bs (A+20+16*j)/\na<=st.next/\(∀i:Id,i≠X->i≠⟨109001001,σ.next+1⟩->i.bH<na->st.get i=ga i)/\∃vt,st.get ⟨109001001,σ.next+1⟩=some ⟨true,2,[[vg,vt]]⟩/\ij oF na st.get st.next vt j))) (m) ⟨0,ae,ae,sl (tw6 @a7 @a0 @a1 @a4 @a5 @a6),by(try dsimp only);exact⟨aS.mono ae,ae,fun i _ _ _=>rfl,.ck,PN,.inl ⟨rfl,rfl⟩⟩⟩ ?_;rintro n_b m4 i9 ⟨j,rfl,ble,b8,bI0⟩ eB;have b0:=eB 0 g9;have b1:=eB 1 g9;have b4:=eB 4 g9;have b5:=eB 5 g9;have b6:=eB 6 g9;simp only[go_sem,↓reduceIte,Nat.reduceEqDiff,Nat.reduceAdd,Nat.reduceSub,Nat.reduceLeDiff,reduceCtorEq,a7,a0,a1,a4,a5,a6]at b0 b1 b4 b5 b6;clear eB;obtain⟨bS,bN,bO,vt,bB5,bT⟩:=bI0
  by_cases hj:(j:Int)<(m:Int)
  ·have ep:∀{e:Env} {gg:Rows} {nx:Nat},(e 8=.int .i64 (IntKind.i64.wrap ((j:Int)+1)))->((eZ gg X bs (A+20+16*(j+1))/\na<=nx/\(∀i:Id,i≠X->i≠⟨109001001,σ.next+1⟩->i.bH<na->gg i=ga i)/\∃vt,gg ⟨109001001,σ.next+1⟩=some ⟨true,2,[[vg,vt]]⟩/\ij oF na gg nx vt (j+1)))->∃m0,m0<(m)-j/\∃j:Nat,m0=(m)-j/\j<=(m)/\e 8=.int .i64 (j:Int)/\((eZ gg X bs (A+20+16*j)/\na<=nx/\(∀i:Id,i≠X->i≠⟨109001001,σ.next+1⟩->i.bH<na->gg i=ga i)/\∃vt,gg ⟨109001001,σ.next+1⟩=some ⟨true,2,[[vg,vt]]⟩/\ij oF na gg nx vt j)):=fun x1 x2=>⟨_,ae,j+1,rfl,ae,(by rw[x1,aZ ae]),x2⟩;have qT:=mE (j:Int) ae ae;have zm:=iK (j:Int) ae;have oy:j<=16777215:=ae;generalize eO (j:Int)=dt at qT zm
   have eT:(#[116]:Array UInt8).size+dt.size<=9223372036854775807:=by
    have:(#[116]:Array UInt8).size=1:=rfl;omega
   have j3:((⟨#[116]⟩:ByteArray)++dt).size<=64:=by
    rw[gK];have:(⟨#[116]⟩:ByteArray).size=1:=rfl;omega
   (have zF:=tw8 @b8 @b0 @b1 @b4 @b5 @b6 @hj @eT;(repeat(first|((repeat(revert N;apply g7));refine wk zF ?_;repeat(apply g6;intro N hN))|((try apply i3);refine⟨_,au.x (qT) (sd zF),?_⟩;apply hN;clear hN N)));try clear zF)
   obtain⟨gb,nb⟩:=i9;(try dsimp only at bS bN bO bB5 bT);have R6:=cR (i:=X) (n:=nb) ae
   refine cj (fun n env st=>∃i:Nat,n=(4)-i/\i<=(4)/\env 10=.int .i64 (i:Int)/\((eZ st.get X bs (A+20+16*j+4*i)/\nb+2<=st.next/\(∀u:Id,u≠X->u.bH<nb+1->st.get u=gb u)/\∃ve,st.get ⟨109010004,nb+1⟩=some ⟨true,2,[[.str ((⟨#[116]⟩:ByteArray)++dt),ve]]⟩/\Cy oF (nb+1) st.get st.next ve i))) (4) ⟨0,ae,ae,sl (tw6 @b8 @b0 @b1 @b4 @b5 @b6),by(try dsimp only);exact⟨(by
    obtain⟨za,zz,hz,gX⟩:=bS
    exact⟨za,zz,ae,by simp only[go_sem,↓reduceIte,Nat.reduceEqDiff,Nat.reduceAdd,Nat.reduceSub,Nat.reduceLeDiff,reduceCtorEq,R6]<;>exact gX⟩),ae,fun u h1 h2=>(by have hu:=cR h2;simp only[go_sem,↓reduceIte,Nat.reduceEqDiff,Nat.reduceAdd,Nat.reduceSub,Nat.reduceLeDiff,reduceCtorEq,hu]),.ck,sl @g8,.inl ⟨rfl,rfl⟩⟩⟩ ?_
   rintro n_c m7 m6 ⟨i,rfl,cle,jX,cI0⟩ jN;have c0:=jN 0 g9;have c1:=jN 1 g9;have c4:=jN 4 g9;have c5:=jN 5 g9;have c6:=jN 6 g9;have c8:=jN 8 g9;have c9:=jN 9 g9;simp only[go_sem,↓reduceIte,Nat.reduceEqDiff,Nat.reduceAdd,Nat.reduceSub,Nat.reduceLeDiff,reduceCtorEq,b8,b0,b1,b4,b5,b6]at c0 c1 c4 c5 c6 c8 c9;clear jN;obtain⟨cS,cN,cO,ve,ZQ,cE⟩:=cI0
   by_cases hi:(i:Int)<4
   ·have jf:∀{e:Env} {gg:Rows} {nx:Nat},(e 10=.int .i64 (IntKind.i64.wrap ((i:Int)+1)))->((eZ gg X bs (A+20+16*j+4*(i+1))/\nb+2<=nx/\(∀u:Id,u≠X->u.bH<nb+1->gg u=gb u)/\∃ve,gg ⟨109010004,nb+1⟩=some ⟨true,2,[[.str ((⟨#[116]⟩:ByteArray)++dt),ve]]⟩/\Cy oF (nb+1) gg nx ve (i+1)))->∃m0,m0<(4)-i/\∃i:Nat,m0=(4)-i/\i<=(4)/\e 10=.int .i64 (i:Int)/\((eZ gg X bs (A+20+16*j+4*i)/\nb+2<=nx/\(∀u:Id,u≠X->u.bH<nb+1->gg u=gb u)/\∃ve,gg ⟨109010004,nb+1⟩=some ⟨true,2,[[.str ((⟨#[116]⟩:ByteArray)++dt),ve]]⟩/\Cy oF (nb+1) gg nx ve i)):=fun x1 x2=>⟨_,ae,i+1,rfl,ae,(by rw[x1,aZ ae]),x2⟩;(try((repeat(revert N;apply g7));refine wk (tw9 @jX @c0 @c1 @c4 @c5 @c6 @c8 @c9 @hi) ?_;repeat(apply g6;intro N hN)));refine .inr (ax _ _ _ _ _ (fun r σ3 hq=>?_) (zS bs hb iy X 3 _ ae _ cS));obtain⟨b,rfl,h3,k3⟩:=hq;obtain⟨g3,x3⟩:=σ3;(try dsimp only at h3);have n3:=k3.1;(try dsimp only at n3);have Hy:=(k3.2 ⟨109010004,nb+1⟩ (fun e=>by rw[<-e]at hX;(try dsimp only at hX);omega) aI).trans ZQ;have Ja:∀u:Id,u≠X->u.bH<nb+1->g3 u=gb u:=fun u h1 h2=>(k3.2 u h1 aI).trans (cO u h1 h2)
    have g3E:Cy oF (nb+1) g3 x3 ve i:=by
     rcases cE with h|⟨i0,e,rfl,q1,q2,q3,l,q4,q5⟩
     ·exact .inl h
     ·exact .inr ⟨i0,e,rfl,q1,q2,ae,l,q4,(k3.2 e (fun h=>by rw[h]at q2;omega) aI).trans q5⟩
    (try dsimp only at Hy);clear k3;apply hN;clear hN N
    cases b
    ·rcases g3E with⟨i0,rfl⟩|⟨i0,e,rfl,q1,q2,q3,l,q4,q5⟩
     ·(try((repeat(revert N;apply g7));refine wk (tw8 @jX @c0 @c1 @c4 @c5 @c6 @c8 @c9) ?_;repeat(apply g6;intro N hN)));refine fJ ?_ ?_<;>(try((repeat(revert N;apply g7));refine wk (tw9 @jX @c0 @c1 @c4 @c5 @c6 @c8 @c9 @Hy) ?_;repeat(apply g6;intro N hN)))
      all_goals
       refine .inr (ax _ _ _ _ _ (fun r σ4 hq=>?_) (ik bs hb iy X (k:Int) _ ae _ h3));obtain⟨z,rfl,z0,z1,h4,k4⟩:=hq;obtain⟨g4,x4⟩:=σ4;(try dsimp only at h4);have n4:=k4.1;(try dsimp only at n4);have Ni:=(k4.2 ⟨109010004,nb+1⟩ (fun e=>by rw[<-e]at hX;(try dsimp only at hX);omega) aI).trans Hy;have Hz:∀u:Id,u≠X->u.bH<nb+1->g4 u=gb u:=fun u h1 h2=>(k4.2 u h1 aI).trans (Ja u h1 h2);(try dsimp only at Ni);clear k4;apply hN;clear hN N;(try((repeat(revert N;apply g7));refine wk (tw9 @jX @c0 @c1 @c4 @c5 @c6 @c8 @c9 @Ni) ?_;repeat(apply g6;intro N hN)));obtain⟨za,zz,hz,gX⟩:=h4;have Gs:=cR (i:=X) (n:=x4) ae;have R6:=cR (i:=X) (n:=nb) ae
       exact jf (sd (tw8 @jX @c0 @c1 @c4 @c5 @c6 @c8 @c9)) (by(try dsimp only);exact⟨⟨za,zz,ae,by simp only[go_sem,↓reduceIte,Nat.reduceEqDiff,Nat.reduceAdd,Nat.reduceSub,Nat.reduceLeDiff,reduceCtorEq,Gs,R6]<;>exact gX⟩,ae,fun u h1 h2=>(by
        have h8:=cR (i:=u) (n:=x4) ae;have h9:∀s,(u=⟨s,nb+1⟩)=False:=fun s=>eq_false fun e=>by rw[e]at h2;(try dsimp only at h2);omega
        simp only[go_sem,↓reduceIte,Nat.reduceEqDiff,Nat.reduceAdd,Nat.reduceSub,Nat.reduceLeDiff,reduceCtorEq,h8,h9]<;>exact Hz u h1 h2),.own ⟨109016007,x4⟩ 0 1,sl @g8,.inr ⟨ae,_,by rw[i0],.inr rfl,aI,aI,[IntKind.i64.wrap (1+z)],by rw[i0];rfl,sl @g8⟩⟩)
     ·have UR:i<=16777215:=ae;have q7:(l.map bf).length=i:=by simp[q4]
      have nB9:(e=⟨109010004,nb+1⟩)=False/\((⟨109010004,nb+1⟩:Id)=e)=False:=by
       have:e≠⟨109010004,nb+1⟩:=fun h=>by rw[h]at q1;simp[oF]at q1
       exact⟨eq_false this,eq_false fun h=>this h.symm⟩
      (try((repeat(revert N;apply g7));refine wk (tw8 @jX @c0 @c1 @c4 @c5 @c6 @c8 @c9) ?_;repeat(apply g6;intro N hN)));refine fJ ?_ ?_<;>(try((repeat(revert N;apply g7));refine wk (tw9 @jX @c0 @c1 @c4 @c5 @c6 @c8 @c9 @Hy) ?_;repeat(apply g6;intro N hN)))
      all_goals
       refine .inr (ax _ _ _ _ _ (fun r σ4 hq=>?_) (ik bs hb iy X (k:Int) _ ae _ h3));obtain⟨z,rfl,z0,z1,h4,k4⟩:=hq;obtain⟨g4,x4⟩:=σ4;(try dsimp only at h4);have n4:=k4.1;(try dsimp only at n4);have Ni:=(k4.2 ⟨109010004,nb+1⟩ (fun e=>by rw[<-e]at hX;(try dsimp only at hX);omega) aI).trans Hy;have Hz:∀u:Id,u≠X->u.bH<nb+1->g4 u=gb u:=fun u h1 h2=>(k4.2 u h1 aI).trans (Ja u h1 h2);(try dsimp only at Ni);have q8:=(k4.2 e (fun h=>by rw[h]at q2;omega) aI).trans q5;(try dsimp only at q8);clear k4;apply hN;clear hN N;have ve4:=cR (i:=e) (n:=x4) ae;(try((repeat(revert N;apply g7));refine wk (tw9 @jX @c0 @c1 @c4 @c5 @c6 @c8 @c9 (tw6 @Ni @q8 @q7 @UR @ve4 @nB9)) ?_;repeat(apply g6;intro N hN)));obtain⟨za,zz,hz,gX⟩:=h4;have Gs:=cR (i:=X) (n:=x4) ae;have R6:=cR (i:=X) (n:=nb) ae
       have hXe:(X=e)=False/\(e=X)=False:=⟨eq_false fun h=>by rw[<-h]at q2;omega,eq_false fun h=>by rw[h]at q2;omega⟩
       exact jf (sd (tw8 @jX @c0 @c1 @c4 @c5 @c6 @c8 @c9)) (by(try dsimp only);exact⟨⟨za,zz,ae,by simp only[go_sem,↓reduceIte,Nat.reduceEqDiff,Nat.reduceAdd,Nat.reduceSub,Nat.reduceLeDiff,reduceCtorEq,Gs,R6,hXe]<;>exact gX⟩,ae,fun u h1 h2=>(by
        have h8:=cR (i:=u) (n:=x4) ae;have h9:∀s,(u=⟨s,nb+1⟩)=False:=fun s=>eq_false fun e=>by rw[e]at h2;(try dsimp only at h2);omega
        have h7:(u=e)=False:=eq_false fun h=>by rw[h]at h2;omega
        simp only[go_sem,↓reduceIte,Nat.reduceEqDiff,Nat.reduceAdd,Nat.reduceSub,Nat.reduceLeDiff,reduceCtorEq,h8,h9,h7]<;>exact Hz u h1 h2),.own ⟨109016007,x4⟩ 0 (i+1),sl @g8,.inr ⟨ae,_,rfl,.inr rfl,aI,aI,l++[IntKind.i64.wrap (1+z)],by simp[q4],by rw[List.map_append];simp only[go_sem,↓reduceIte,Nat.reduceEqDiff,Nat.reduceAdd,Nat.reduceSub,Nat.reduceLeDiff,reduceCtorEq]<;>rfl⟩⟩)
    ·rcases g3E with⟨i0,rfl⟩|⟨i0,e,rfl,q1,q2,q3,l,q4,q5⟩
     ·(try((repeat(revert N;apply g7));refine wk (tw9 @jX @c0 @c1 @c4 @c5 @c6 @c8 @c9 @Hy) ?_;repeat(apply g6;intro N hN)));obtain⟨za,zz,hz,gX⟩:=h3;have Gs:=cR (i:=X) (n:=x3) ae;have R6:=cR (i:=X) (n:=nb) ae
      exact jf (sd (tw8 @jX @c0 @c1 @c4 @c5 @c6 @c8 @c9)) (by(try dsimp only);exact⟨⟨za,zz,ae,by simp only[go_sem,↓reduceIte,Nat.reduceEqDiff,Nat.reduceAdd,Nat.reduceSub,Nat.reduceLeDiff,reduceCtorEq,Gs,R6]<;>exact gX⟩,ae,fun u h1 h2=>(by
       have h8:=cR (i:=u) (n:=x3) ae;have h9:∀s,(u=⟨s,nb+1⟩)=False:=fun s=>eq_false fun e=>by rw[e]at h2;(try dsimp only at h2);omega
       simp only[go_sem,↓reduceIte,Nat.reduceEqDiff,Nat.reduceAdd,Nat.reduceSub,Nat.reduceLeDiff,reduceCtorEq,h8,h9]<;>exact Ja u h1 h2),.own ⟨109015003,x3+1⟩ 0 1,sl @g8,.inr ⟨ae,_,by rw[i0],.inl rfl,aI,aI,[0],by rw[i0];rfl,sl @g8⟩⟩)
     ·have UR:i<=16777215:=ae;have q7:(l.map bf).length=i:=by simp[q4]
      have ve3:=cR q3
      have nB9:(e=⟨109010004,nb+1⟩)=False/\((⟨109010004,nb+1⟩:Id)=e)=False:=by
       have:e≠⟨109010004,nb+1⟩:=fun h=>by rw[h]at q1;simp[oF]at q1
       exact⟨eq_false this,eq_false fun h=>this h.symm⟩
      (try((repeat(revert N;apply g7));refine wk (tw9 @jX @c0 @c1 @c4 @c5 @c6 @c8 @c9 (tw6 @Hy @q5 @q7 @UR @ve3 @nB9)) ?_;repeat(apply g6;intro N hN)));obtain⟨za,zz,hz,gX⟩:=h3;have Gs:=cR (i:=X) (n:=x3) ae;have R6:=cR (i:=X) (n:=nb) ae
      have hXe:(X=e)=False/\(e=X)=False:=⟨eq_false fun h=>by rw[<-h]at q2;omega,eq_false fun h=>by rw[h]at q2;omega⟩
      exact jf (sd (tw8 @jX @c0 @c1 @c4 @c5 @c6 @c8 @c9)) (by(try dsimp only);exact⟨⟨za,zz,ae,by simp only[go_sem,↓reduceIte,Nat.reduceEqDiff,Nat.reduceAdd,Nat.reduceSub,Nat.reduceLeDiff,reduceCtorEq,Gs,R6,hXe]<;>exact gX⟩,ae,fun u h1 h2=>(by
       have h8:=cR (i:=u) (n:=x3) ae;have h9:∀s,(u=⟨s,nb+1⟩)=False:=fun s=>eq_false fun e=>by rw[e]at h2;(try dsimp only at h2);omega
       have h7:(u=e)=False:=eq_false fun h=>by rw[h]at h2;omega
       simp only[go_sem,↓reduceIte,Nat.reduceEqDiff,Nat.reduceAdd,Nat.reduceSub,Nat.reduceLeDiff,reduceCtorEq,h8,h9,h7]<;>exact Ja u h1 h2),.own ⟨109015003,x3+1⟩ 0 (i+1),sl @g8,.inr ⟨ae,_,rfl,.inl rfl,aI,aI,l++[0],by simp[q4],by rw[List.map_append];simp only[go_sem,↓reduceIte,Nat.reduceEqDiff,Nat.reduceAdd,Nat.reduceSub,Nat.reduceLeDiff,reduceCtorEq]<;>rfl⟩⟩)
   ·have hi4:i=4:=ae;subst hi4;obtain⟨gc,nc⟩:=m6;(try dsimp only at cS cN cO ZQ cE)
    rcases cE with⟨h,_⟩|⟨_,e,rfl,ce⟩
    ·omega
    have cB5:=(cO ⟨109001001,σ.next+1⟩ (fun e=>by rw[<-e]at hX;(try dsimp only at hX);omega) aI).trans bB5
    rcases bT with⟨j0,rfl⟩|⟨j0,o,rows,rfl,hr,go,hT,hs,jM,oK⟩
    ·(try((repeat(revert N;apply g7));refine wk (tw9 @b8 @b0 @b1 @b4 @b5 @b6 @jX @c0 (tw9 @c1 @c4 @c5 @c6 @c8 @c9 @hi @cB5 @ZQ)) ?_;repeat(apply g6;intro N hN)));obtain⟨za,zz,hz,gX⟩:=cS;have TD:=cR (i:=X) (n:=nc) ae;obtain⟨d1,d2,d3,l,d4,d5⟩:=ce;have ve:=cR (i:=e) (n:=nc) d3;have n5:∀s,(e=⟨s,σ.next+1⟩)=False:=fun s=>eq_false fun h=>by rw[h]at d2;(try dsimp only at d2);omega
     exact ep (sd (tw9 @b8 @b0 @b1 @b4 @b5 @b6 @jX @c0 (tw6 @c1 @c4 @c5 @c6 @c8 @c9))) (by(try dsimp only);exact⟨⟨za,zz,ae,by simp only[go_sem,↓reduceIte,Nat.reduceEqDiff,Nat.reduceAdd,Nat.reduceSub,Nat.reduceLeDiff,reduceCtorEq,TD,vX]<;>exact gX⟩,ae,fun u h1 h2 h3=>(by
      have h8:=cR (i:=u) (n:=nc) ae;have h9:=eq_false h2
      simp only[go_sem,↓reduceIte,Nat.reduceEqDiff,Nat.reduceAdd,Nat.reduceSub,Nat.reduceLeDiff,reduceCtorEq,h8,h9]<;>exact(cO u h1 ae).trans (bO u h1 h2 h3)),.own ⟨109017004,nc+1⟩ 0 1,sl @g8,.inr ⟨ae,⟨109017004,nc+1⟩,[[.str ((⟨#[116]⟩:ByteArray)++dt),.own e 0 4]],by rw[j0],by rw[j0];rfl,sl @g8,fun row eP=>⟨_,e,List.mem_singleton.1 eP,⟨j3,tX _ _⟩,d1,ae,ae,l,d4,by simp only[go_sem,↓reduceIte,Nat.reduceEqDiff,Nat.reduceAdd,Nat.reduceSub,Nat.reduceLeDiff,reduceCtorEq,ve,n5]<;>exact d5⟩,by simp[oF],aI,aI⟩⟩)
    ·have gco:=(cO o (fun h=>by rw[h]at jM;omega) ae).trans go;have vo:=cR (i:=o) (n:=nc) ae
     have o5:∀s,(o=⟨s,σ.next+1⟩)=False/\((⟨s,σ.next+1⟩:Id)=o)=False:=fun s=>⟨eq_false fun e=>by rw[e]at jM;(try dsimp only at jM);omega,eq_false fun e=>by rw[<-e]at jM;(try dsimp only at jM);omega⟩;(try((repeat(revert N;apply g7));refine wk (tw9 @b8 @b0 @b1 @b4 @b5 @b6 @jX @c0 (tw9 @c1 @c4 @c5 @c6 @c8 @c9 @hi @cB5 (tw6 @ZQ @gco @vo @o5 @hr @oy))) ?_;repeat(apply g6;intro N hN)));obtain⟨za,zz,hz,gX⟩:=cS;have TD:=cR (i:=X) (n:=nc) ae;obtain⟨d1,d2,d3,l,d4,d5⟩:=ce;have ve:=cR (i:=e) (n:=nc) d3;have n5:∀s,(e=⟨s,σ.next+1⟩)=False:=fun s=>eq_false fun h=>by rw[h]at d2;(try dsimp only at d2);omega
     have ne:(e=o)=False:=eq_false fun h=>hs (by rw[<-h];exact d1);have nX:(X=o)=False:=eq_false fun h=>by rw[<-h]at jM;omega
     have UH:=hT.frame (g':=gc) (n':=nc) ae fun u h1 h2 h3=>cO u (fun h=>by rw[h]at h2;omega) ae
     exact ep (sd (tw9 @b8 @b0 @b1 @b4 @b5 @b6 @jX @c0 (tw6 @c1 @c4 @c5 @c6 @c8 @c9))) (by(try dsimp only);exact⟨⟨za,zz,ae,by simp only[go_sem,↓reduceIte,Nat.reduceEqDiff,Nat.reduceAdd,Nat.reduceSub,Nat.reduceLeDiff,reduceCtorEq,TD,vX,nX]<;>exact gX⟩,ae,fun u h1 h2 h3=>(by
      have h8:=cR (i:=u) (n:=nc) ae;have h9:=eq_false h2;have h7:(u=o)=False:=eq_false fun h=>by rw[h]at h3;omega
      simp only[go_sem,↓reduceIte,Nat.reduceEqDiff,Nat.reduceAdd,Nat.reduceSub,Nat.reduceLeDiff,reduceCtorEq,h8,h9,h7]<;>exact(cO u h1 ae).trans (bO u h1 h2 h3)),.own ⟨109017004,nc+1⟩ 0 (j+1),sl @g8,.inr ⟨ae,⟨109017004,nc+1⟩,rows++[[.str ((⟨#[116]⟩:ByteArray)++dt),.own e 0 4]],rfl,by simp[hr],sl @g8,(UH.frame (n':=nc+1+1+1) ae fun u h1 h2 h3=>(by
       have h8:=cR h3;have h9:∀s,(u=⟨s,σ.next+1⟩)=False:=fun s=>eq_false fun h=>by rw[h]at h2;(try dsimp only at h2);omega
       have h7:(u=o)=False:=eq_false fun h=>hs (by rw[<-h];exact h1)
       simp only[go_sem,↓reduceIte,Nat.reduceEqDiff,Nat.reduceAdd,Nat.reduceSub,Nat.reduceLeDiff,reduceCtorEq,h8,h9,h7])).snoc ⟨j3,tX _ _⟩ ⟨d1,ae,ae,l,d4,by simp only[go_sem,↓reduceIte,Nat.reduceEqDiff,Nat.reduceAdd,Nat.reduceSub,Nat.reduceLeDiff,reduceCtorEq,ve,n5,ne]<;>exact d5⟩,by simp[oF],aI,aI⟩⟩)
  ·have hjm:j=m:=ae;subst hjm;have bB4:=(bO ⟨109000000,σ.next⟩ (fun e=>by rw[<-e]at hX;(try dsimp only at hX);omega) (fun e=>by injection e with e1 _;revert e1;decide) aI).trans G6;have bG:=aG.frame (g':=i9.get) (n':=i9.next) bN fun u h1 h2=>bO u (fun e=>by rw[e]at h1;omega) (fun e=>by rw[e]at h1;(try dsimp only at h1);omega) h2;obtain⟨c1,c2⟩:=bG.cell;obtain⟨c3,c4⟩:=bT.cell;unfold AV.cells at c1 c3;unfold AV.cell at c2 c4;(try((repeat(revert N;apply g7));refine wk (tw9 @b8 @b0 @b1 @b4 @b5 @b6 @hj @bB4 (tw5 @bB5 @c1 @c2 @c3 @c4)) ?_;repeat(apply g6;intro N hN)));obtain⟨za,zz,hz,gX⟩:=bS
   exact eH (.inl rfl) (vs:=[.agg [vg,vt]]) (sd (tw9 @b8 @b0 @b1 @b4 @b5 @b6 @c1 @c2 (tw @c3 @c4))) ⟨vg,vt,_,rfl,(bG.frame aI fun u h1 h2=>(by
    have h8:∀s,(u=⟨s,σ.next⟩)=False:=fun s=>eq_false fun e=>by rw[e]at h1;(try dsimp only at h1);omega
    simp only[go_sem,↓reduceIte,Nat.reduceEqDiff,Nat.reduceAdd,Nat.reduceSub,Nat.reduceLeDiff,reduceCtorEq,h8])).since ae,(bT.frame aI fun u h1 h2=>(by
    have h8:∀s,(u=⟨s,σ.next⟩)=False:=fun s=>eq_false fun e=>by rw[e]at h1;(try dsimp only at h1);omega
    simp only[go_sem,↓reduceIte,Nat.reduceEqDiff,Nat.reduceAdd,Nat.reduceSub,Nat.reduceLeDiff,reduceCtorEq,h8])).since ae,PY.1,PY.2,⟨za,zz,ae,by simp only[go_sem,↓reduceIte,Nat.reduceEqDiff,Nat.reduceAdd,Nat.reduceSub,Nat.reduceLeDiff,reduceCtorEq,vX]<;>exact gX⟩,aI,fun u h1 h2=>(by
    have h8:=cR h2
    simp only[go_sem,↓reduceIte,Nat.reduceEqDiff,Nat.reduceAdd,Nat.reduceSub,Nat.reduceLeDiff,reduceCtorEq,h8]<;>exact(bO u h1 (fun e=>by rw[e]at h2;(try dsimp only at h2);omega) ae).trans (aO u h1 h2))⟩
def G1 (X:Id) (bs:List Int) (A:Nat) (σ:aw) (r:AV) (σ':aw):Prop:=oz σ.next σ'.get σ'.next r/\eZ σ'.get X bs (A+1000)/\lv X σ σ'
theorem Ld (bs:List Int) (hb:∀b∈bs,0<=b/\b<=255) (iy:bs.length<=4096) (X:Id) (A:Nat) (ha:A<=900000) (σ:aw) (h:eZ σ.get X bs A) (hX:X.bH<σ.next):
  Call Tryz.prog 57 [.ptr X 0 0] σ (G1 X bs A σ):=by
 refine tg XI rfl fun fM=>?_;simp only[L0,Wh,Wi,Sh,Si,PF,Sj,Wj,Wk,Wl]
 try simp only[q]
 clear fM;have vX:=cR hX;(try((repeat(revert N;apply g7));refine wk @g8 ?_;repeat(apply g6;intro N hN)))
 refine .inr (ax _ _ _ _ _ (fun r σ1 hq=>?_) (ik bs hb iy X 4 A ae _ (by
  obtain⟨a,z,q1,q2⟩:=h
  exact⟨a,z,q1,by simp only[go_sem,↓reduceIte,Nat.reduceEqDiff,Nat.reduceAdd,Nat.reduceSub,Nat.reduceLeDiff,reduceCtorEq,vX]<;>exact q2⟩)))
 obtain⟨v,rfl,v0,v1,h1,hK⟩:=hq;obtain⟨g1,x1⟩:=σ1;(try dsimp only at h1);have Eo:=hK.1;(try dsimp only at Eo);have lO:=hK.2 ⟨57000000,σ.next⟩ (fun e=>by rw[<-e]at hX;(try dsimp only at hX);omega) aI;have qS:∀i:Id,i≠X->i.bH<σ.next->g1 i=σ.get i:=fun i hi hv=>(hK.2 i hi aI).trans (by have hv:=cR hv;simp only[go_sem,↓reduceIte,Nat.reduceEqDiff,Nat.reduceAdd,Nat.reduceSub,Nat.reduceLeDiff,reduceCtorEq,hv]);simp only[go_sem,↓reduceIte,Nat.reduceEqDiff,Nat.reduceAdd,Nat.reduceSub,Nat.reduceLeDiff,reduceCtorEq]at lO;clear hK h
 obtain⟨m,hm⟩:∃m:Nat,IntKind.i64.wrap (2+v)=(m:Int):=⟨(2+v).toNat,by rw[db ae];omega⟩
 have hmb:2<=m/\m<=5:=by
  rw[db ae]at hm;omega
 apply hN;clear hN N;(try((repeat(revert N;apply g7));refine wk @hm ?_;repeat(apply g6;intro N hN)));refine .inr (ax _ _ _ _ _ (fun r σ2 hq=>?_) (K7 bs hb iy X m ae (A+2) ae _ h1 aI));obtain⟨vg,vt,kg,rfl,hG,hT,qy,hk5,h2,hK⟩:=hq;obtain⟨g2,x2⟩:=σ2;(try dsimp only at h2 hG hT);have qf:=hK.1;(try dsimp only at qf);have mQ:=(hK.2 ⟨57000000,σ.next⟩ (fun e=>by rw[<-e]at hX;(try dsimp only at hX);omega) aI).trans lO;have KC:∀i:Id,i≠X->i.bH<σ.next->g2 i=σ.get i:=fun i hi hv=>(hK.2 i hi aI).trans (qS i hi hv);(try dsimp only at mQ);clear hK h1;obtain⟨c1,c2⟩:=hG.cell;obtain⟨c3,c4⟩:=hT.cell
 have YX:dy vt=some m:=by
  rcases hT with⟨h,_⟩|⟨_,o,rows,rfl,_⟩
  ·omega
  ·rfl
 unfold AV.cells at c1 c3;unfold AV.cell at c2 c4;unfold dy at YX;apply hN;clear hN N;(try((repeat(revert N;apply g7));refine wk (tw5 @c1 @c2 @c3 @c4 @YX) ?_;repeat(apply g6;intro N hN)));have R4:=cR (i:=X) (n:=x2) ae;refine mb (fun e st=>∃(o:Id) (p:aa) (z:Int),st.get ⟨57000000,σ.next⟩=some ⟨true,4,[[vg,vt,.own o 0 1,.int .i64 z]]⟩/\e 2=.ptr ⟨57000000,σ.next⟩ 0 0/\st.get o=some ⟨true,3,[ad p]⟩/\x2<=o.bH/\o.bH<st.next/\eZ st.get X bs (A+1000)/\(∀u:Id,u≠X->u.bH<x2->u≠⟨57000000,σ.next⟩->st.get u=g2 u)/\x2<=st.next) ?_ ?_
 ·rintro e st ⟨o,p,z,d1,d2,d3,d4,d5,d6,d7,d8⟩;apply hN;clear hN N;(try((repeat(revert N;apply g7));refine wk (tw @d1 @d2) ?_;repeat(apply g6;intro N hN)));have q1:=hG.frame (g':=st.get) (n':=st.next) d8 fun u h1 h2=>d7 u (fun e=>by rw[e]at h1;omega) h2 (fun e=>by rw[e]at h1;(try dsimp only at h1);omega);have q2:=hT.frame (g':=st.get) (n':=st.next) d8 fun u h1 h2=>d7 u (fun e=>by rw[e]at h1;omega) h2 (fun e=>by rw[e]at h1;(try dsimp only at h1);omega);exact eH (.inl rfl) (vs:=[.agg [vg,vt,.own o 0 1,.int .i64 z]]) (sd (tw @d1 @d2)) ⟨⟨oF,vg,vt,kg,m,o,p,z,rfl,q1.since aI,q2.since aI,qy,ae,ae,ae,d3,ae,ae⟩,d6,ae,fun u h1 h2=>(d7 u h1 ae (fun e=>by rw[e]at h2;(try dsimp only at h2);omega)).trans (KC u h1 h2)⟩
 ·intro N hN
  have Ee:∀i x,eZ (bJ (bJ g2 ⟨57001005,x2⟩ i) ⟨57001005,x2⟩ x) X bs (A+2+400):=fun i x=>by
   obtain⟨za,zz,hz,gX⟩:=h2;exact⟨za,zz,hz,by simp only[go_sem,↓reduceIte,Nat.reduceEqDiff,Nat.reduceAdd,Nat.reduceSub,Nat.reduceLeDiff,reduceCtorEq,R4]<;>exact gX⟩
  refine fJ ?_ ?_<;>(try((repeat(revert N;apply g7));refine wk (tw4 @c1 @c2 @c3 @c4) ?_;repeat(apply g6;intro N hN)))
  all_goals
   refine .inr (ax _ _ _ _ _ (fun r σ3 hq=>?_) (ik bs hb iy X (m:Int) (A+2+400) ae _ (Ee _ _)));obtain⟨u,rfl,u0,u1,h3,hK⟩:=hq;obtain⟨g3,x3⟩:=σ3;(try dsimp only at h3);have Jm:=hK.1;(try dsimp only at Jm);have KE:=hK.2 ⟨57001005,x2⟩ (fun e=>by rw[<-e]at hX;(try dsimp only at hX);omega) aI;have KD:=hK.2 ⟨57000000,σ.next⟩ (fun e=>by rw[<-e]at hX;(try dsimp only at hX);omega) aI;simp only[go_sem,↓reduceIte,Nat.reduceEqDiff,Nat.reduceAdd,Nat.reduceSub,Nat.reduceLeDiff,reduceCtorEq,mQ]at KE KD;have Ja:∀i:Id,i≠X->i.bH<x2->g3 i=g2 i:=fun i hi hv=>(hK.2 i hi aI).trans (by have h8:=cR hv;simp only[go_sem,↓reduceIte,Nat.reduceEqDiff,Nat.reduceAdd,Nat.reduceSub,Nat.reduceLeDiff,reduceCtorEq,h8]);clear hK;apply hN;clear hN N;(try((repeat(revert N;apply g7));refine wk (tw6 @c1 @c2 @c3 @c4 @KE @KD) ?_;repeat(apply g6;intro N hN)));refine fJ ?_ ?_<;>(try((repeat(revert N;apply g7));refine wk (tw6 @c1 @c2 @c3 @c4 @KE @KD) ?_;repeat(apply g6;intro N hN)))<;>(try refine fJ ?_ ?_)<;>(try((repeat(revert N;apply g7));refine wk (tw6 @c1 @c2 @c3 @c4 @KE @KD) ?_;repeat(apply g6;intro N hN)))<;>(try refine fJ ?_ ?_)<;>(try((repeat(revert N;apply g7));refine wk (tw6 @c1 @c2 @c3 @c4 @KE @KD) ?_;repeat(apply g6;intro N hN)))
  all_goals
   have Gs:=cR (i:=X) (n:=x3) ae
   refine .inr (ax _ _ _ _ _ (fun r σ4 hq=>?_) (ik bs hb iy X 2 (A+404) ae _ (by
    obtain⟨za,zz,hz,gX⟩:=h3
    exact⟨za,zz,hz,by first|exact gX|(simp only[go_sem,↓reduceIte,Nat.reduceEqDiff,Nat.reduceAdd,Nat.reduceSub,Nat.reduceLeDiff,reduceCtorEq,Gs];exact gX)⟩)))
   obtain⟨w,rfl,w0,w1,h4,hK⟩:=hq;obtain⟨g4,x4⟩:=σ4;(try dsimp only at h4);have KT:=hK.1;(try dsimp only at KT);have XS:=hK.2 ⟨57001005,x2⟩ (fun e=>by rw[<-e]at hX;(try dsimp only at hX);omega) aI;have XR:=hK.2 ⟨57000000,σ.next⟩ (fun e=>by rw[<-e]at hX;(try dsimp only at hX);omega) aI;have QD:=hK.2 ⟨57002007,x3⟩ (fun e=>by rw[<-e]at hX;(try dsimp only at hX);omega) aI;simp only[go_sem,↓reduceIte,Nat.reduceEqDiff,Nat.reduceAdd,Nat.reduceSub,Nat.reduceLeDiff,reduceCtorEq,KE,KD]at XS XR QD
   have Hz:∀i:Id,i≠X->i.bH<x2->g4 i=g2 i:=fun i hi hv=>(hK.2 i hi aI).trans (by
    have h8:=cR (i:=i) (n:=x3) ae;have h9:=Ja i hi hv
    simp only[go_sem,↓reduceIte,Nat.reduceEqDiff,Nat.reduceAdd,Nat.reduceSub,Nat.reduceLeDiff,reduceCtorEq,h8,h9])
   clear hK;apply hN;clear hN N;(try((repeat(revert N;apply g7));refine wk (tw7 @c1 @c2 @c3 @c4 @XS @XR @QD) ?_;repeat(apply g6;intro N hN)));obtain⟨za,zz,hz,gX⟩:=h4;have R5:=cR (i:=X) (n:=x4) ae
  ·exact⟨⟨57002007,x3⟩,⟨⟨0,0⟩,u⟩,IntKind.i64.wrap (2+w),sl @g8,sd @g8,sl @QD,aI,aI,⟨za,zz,ae,by simp only[go_sem,↓reduceIte,Nat.reduceEqDiff,Nat.reduceAdd,Nat.reduceSub,Nat.reduceLeDiff,reduceCtorEq,R5,vX]<;>exact gX⟩,fun y h1 h2 h3=>(by
   have h8:=cR (i:=y) (n:=x4) ae;have h9:=eq_false h3
   simp only[go_sem,↓reduceIte,Nat.reduceEqDiff,Nat.reduceAdd,Nat.reduceSub,Nat.reduceLeDiff,reduceCtorEq,h8,h9]<;>exact Hz y h1 h2),aI⟩
  ·exact⟨⟨57002007,x4⟩,⟨⟨0,0⟩,u⟩,IntKind.i64.wrap (2+w),sl @g8,sd @g8,sl @QD,aI,aI,⟨za,zz,ae,by simp only[go_sem,↓reduceIte,Nat.reduceEqDiff,Nat.reduceAdd,Nat.reduceSub,Nat.reduceLeDiff,reduceCtorEq,R5,vX]<;>exact gX⟩,fun y h1 h2 h3=>(by
   have h8:=cR (i:=y) (n:=x4) ae;have h9:=eq_false h3
   simp only[go_sem,↓reduceIte,Nat.reduceEqDiff,Nat.reduceAdd,Nat.reduceSub,Nat.reduceLeDiff,reduceCtorEq,h8,h9]<;>exact Hz y h1 h2),aI⟩
  ·exact⟨⟨57002007,x3⟩,⟨⟨0,0⟩,u⟩,IntKind.i64.wrap (2+w),sl @g8,sd @g8,sl @QD,aI,aI,⟨za,zz,ae,by simp only[go_sem,↓reduceIte,Nat.reduceEqDiff,Nat.reduceAdd,Nat.reduceSub,Nat.reduceLeDiff,reduceCtorEq,R5,vX]<;>exact gX⟩,fun y h1 h2 h3=>(by
   have h8:=cR (i:=y) (n:=x4) ae;have h9:=eq_false h3
   simp only[go_sem,↓reduceIte,Nat.reduceEqDiff,Nat.reduceAdd,Nat.reduceSub,Nat.reduceLeDiff,reduceCtorEq,h8,h9]<;>exact Hz y h1 h2),aI⟩
  ·exact⟨⟨57002007,x4⟩,⟨⟨0,0⟩,u⟩,IntKind.i64.wrap (2+w),sl @g8,sd @g8,sl @QD,aI,aI,⟨za,zz,ae,by simp only[go_sem,↓reduceIte,Nat.reduceEqDiff,Nat.reduceAdd,Nat.reduceSub,Nat.reduceLeDiff,reduceCtorEq,R5,vX]<;>exact gX⟩,fun y h1 h2 h3=>(by
   have h8:=cR (i:=y) (n:=x4) ae;have h9:=eq_false h3
   simp only[go_sem,↓reduceIte,Nat.reduceEqDiff,Nat.reduceAdd,Nat.reduceSub,Nat.reduceLeDiff,reduceCtorEq,h8,h9]<;>exact Hz y h1 h2),aI⟩
  ·exact⟨⟨57002007,x3⟩,⟨⟨0,0⟩,u⟩,IntKind.i64.wrap (2+w),sl @g8,sd @g8,sl @QD,aI,aI,⟨za,zz,ae,by simp only[go_sem,↓reduceIte,Nat.reduceEqDiff,Nat.reduceAdd,Nat.reduceSub,Nat.reduceLeDiff,reduceCtorEq,R5,vX]<;>exact gX⟩,fun y h1 h2 h3=>(by
   have h8:=cR (i:=y) (n:=x4) ae;have h9:=eq_false h3
   simp only[go_sem,↓reduceIte,Nat.reduceEqDiff,Nat.reduceAdd,Nat.reduceSub,Nat.reduceLeDiff,reduceCtorEq,h8,h9]<;>exact Hz y h1 h2),aI⟩
  ·exact⟨⟨57002007,x3⟩,⟨⟨0,0⟩,u⟩,IntKind.i64.wrap (2+w),sl @g8,sd @g8,sl @QD,aI,aI,⟨za,zz,ae,by simp only[go_sem,↓reduceIte,Nat.reduceEqDiff,Nat.reduceAdd,Nat.reduceSub,Nat.reduceLeDiff,reduceCtorEq,R5,vX]<;>exact gX⟩,fun y h1 h2 h3=>(by
   have h8:=cR (i:=y) (n:=x4) ae;have h9:=eq_false h3
   simp only[go_sem,↓reduceIte,Nat.reduceEqDiff,Nat.reduceAdd,Nat.reduceSub,Nat.reduceLeDiff,reduceCtorEq,h8,h9]<;>exact Hz y h1 h2),aI⟩
  ·exact⟨⟨57002007,x4⟩,⟨⟨0,0⟩,u⟩,IntKind.i64.wrap (2+w),sl @g8,sd @g8,sl @QD,aI,aI,⟨za,zz,ae,by simp only[go_sem,↓reduceIte,Nat.reduceEqDiff,Nat.reduceAdd,Nat.reduceSub,Nat.reduceLeDiff,reduceCtorEq,R5,vX]<;>exact gX⟩,fun y h1 h2 h3=>(by
   have h8:=cR (i:=y) (n:=x4) ae;have h9:=eq_false h3
   simp only[go_sem,↓reduceIte,Nat.reduceEqDiff,Nat.reduceAdd,Nat.reduceSub,Nat.reduceLeDiff,reduceCtorEq,h8,h9]<;>exact Hz y h1 h2),aI⟩
def gM (s:Nat):Prop:=s=58008006
def wB (v:AV) (s:Nat):Prop:=∀(o:Id) (c:Nat),v=.own o 0 c->o.site=s
theorem zA (bs:List Int) (hb:∀b∈bs,0<=b/\b<=255) (iy:bs.length<=4096) (X:Id) (A:Nat) (ha:A<=900000) (σ:aw) (h:eZ σ.get X bs A) (hX:X.bH<σ.next):
  Call Tryz.prog 58 [.ptr X 0 0] σ (G1 X bs A σ):=by
 refine tg (cfM [(10,2),(12,2)]) rfl fun fM=>?_;clear fM;have vX:=cR hX;(try((repeat(revert N;apply g7));refine wk @g8 ?_;repeat(apply g6;intro N hN)))
 refine .inr (ax _ _ _ _ _ (fun r σ1 hq=>?_) (ik bs hb iy X 2 A ae _ (by
  obtain⟨a,z,q1,q2⟩:=h
  exact⟨a,z,q1,by simp only[go_sem,↓reduceIte,Nat.reduceEqDiff,Nat.reduceAdd,Nat.reduceSub,Nat.reduceLeDiff,reduceCtorEq,vX]<;>exact q2⟩)))
 obtain⟨v,rfl,v0,v1,h1,hK⟩:=hq;obtain⟨g1,x1⟩:=σ1;(try dsimp only at h1);have Eo:=hK.1;(try dsimp only at Eo);have lO:=hK.2 ⟨58000000,σ.next⟩ (fun e=>by rw[<-e]at hX;(try dsimp only at hX);omega) aI;have qS:∀i:Id,i≠X->i.bH<σ.next->g1 i=σ.get i:=fun i hi hv=>(hK.2 i hi aI).trans (by have hv:=cR hv;simp only[go_sem,↓reduceIte,Nat.reduceEqDiff,Nat.reduceAdd,Nat.reduceSub,Nat.reduceLeDiff,reduceCtorEq,hv]);simp only[go_sem,↓reduceIte,Nat.reduceEqDiff,Nat.reduceAdd,Nat.reduceSub,Nat.reduceLeDiff,reduceCtorEq]at lO;clear hK h;generalize hz:IntKind.i64.wrap (1+v)=z;apply hN;clear hN N;(try((repeat(revert N;apply g7));refine wk @hz ?_;repeat(apply g6;intro N hN)));have vX1:=cR (i:=X) (n:=x1) ae
 refine .inr (ax _ _ _ _ _ (fun r σ2 hq=>?_) (ik bs hb iy X 6 (A+2) ae _ (by
  obtain⟨a,z,q1,q2⟩:=h1
  exact⟨a,z,q1,by simp only[go_sem,↓reduceIte,Nat.reduceEqDiff,Nat.reduceAdd,Nat.reduceSub,Nat.reduceLeDiff,reduceCtorEq,vX1]<;>exact q2⟩)))
 obtain⟨y,rfl,y0,y1,h2,hK⟩:=hq;obtain⟨g2,x2⟩:=σ2;(try dsimp only at h2);have qf:=hK.1;(try dsimp only at qf);have mQ:=hK.2 ⟨58000000,σ.next⟩ (fun e=>by rw[<-e]at hX;(try dsimp only at hX);omega) aI;have XQ:=hK.2 ⟨58002001,x1+1⟩ (fun e=>by rw[<-e]at hX;(try dsimp only at hX);omega) aI;have KC:∀i:Id,i≠X->i.bH<σ.next->g2 i=σ.get i:=fun i hi hv=>(hK.2 i hi aI).trans (by have h8:=cR (i:=i) (n:=x1) ae;have h9:=qS i hi hv;simp only[go_sem,↓reduceIte,Nat.reduceEqDiff,Nat.reduceAdd,Nat.reduceSub,Nat.reduceLeDiff,reduceCtorEq,h8,h9]);simp only[go_sem,↓reduceIte,Nat.reduceEqDiff,Nat.reduceAdd,Nat.reduceSub,Nat.reduceLeDiff,reduceCtorEq,lO]at mQ XQ;clear hK h1 qS lO
 obtain⟨m,hm⟩:∃m:Nat,IntKind.i64.wrap (2+y)=(m:Int):=⟨(2+y).toNat,by rw[db ae];omega⟩
 have hmb:2<=m/\m<=7:=by
  rw[db ae]at hm;omega
 apply hN;clear hN N;(try((repeat(revert N;apply g7));refine wk @hm ?_;repeat(apply g6;intro N hN)));refine cj (fun n env st=>∃k:Nat,n=(m)-k/\k<=(m)/\env 6=.int .i64 (k:Int)/\((eZ st.get X bs (A+10+8*k)/\x2<=st.next/\(∀i:Id,i≠X->i≠⟨58002001,x1+1⟩->i.bH<x2->st.get i=g2 i)/\∃vg vt,st.get ⟨58002001,x1+1⟩=some ⟨true,2,[[vg,vt]]⟩/\gP x2 st.get st.next vg k/\ij gM x2 st.get st.next vt k/\wB vg 58007008/\wB vt 58013004))) (m) ⟨0,ae,ae,sl (tw @hz @hm),by(try dsimp only);exact⟨h2.mono ae,ae,fun i _ _ _=>rfl,.ck,.ck,XQ,.inl ⟨rfl,rfl⟩,.inl ⟨rfl,rfl⟩,(fun o c e=>by cases e),(fun o c e=>by cases e)⟩⟩ ?_;rintro n_a m3 i8 ⟨k,rfl,ale,a6,mD⟩ eC;have a0:=eC 0 g9;have a2:=eC 2 g9;have a3:=eC 3 g9;have a4:=eC 4 g9;have a5:=eC 5 g9;simp only[go_sem,↓reduceIte,Nat.reduceEqDiff,Nat.reduceAdd,Nat.reduceSub,Nat.reduceLeDiff,reduceCtorEq,hz,hm]at a0 a2 a3 a4 a5;clear eC;obtain⟨aS,aN,aO,vg,vt,G6,aG,aT,aGs,aTs⟩:=mD
 by_cases hk:(k:Int)<(m:Int)
 ·have dW:∀{e:Env} {gg:Rows} {nx:Nat},(e 6=.int .i64 (IntKind.i64.wrap ((k:Int)+1)))->((eZ gg X bs (A+10+8*(k+1))/\x2<=nx/\(∀i:Id,i≠X->i≠⟨58002001,x1+1⟩->i.bH<x2->gg i=g2 i)/\∃vg vt,gg ⟨58002001,x1+1⟩=some ⟨true,2,[[vg,vt]]⟩/\gP x2 gg nx vg (k+1)/\ij gM x2 gg nx vt (k+1)/\wB vg 58007008/\wB vt 58013004))->∃m0,m0<(m)-k/\∃k:Nat,m0=(m)-k/\k<=(m)/\e 6=.int .i64 (k:Int)/\((eZ gg X bs (A+10+8*k)/\x2<=nx/\(∀i:Id,i≠X->i≠⟨58002001,x1+1⟩->i.bH<x2->gg i=g2 i)/\∃vg vt,gg ⟨58002001,x1+1⟩=some ⟨true,2,[[vg,vt]]⟩/\gP x2 gg nx vg k/\ij gM x2 gg nx vt k/\wB vg 58007008/\wB vt 58013004)):=fun x1 x2=>⟨_,ae,k+1,rfl,ae,(by rw[x1,aZ ae]),x2⟩;have qT:=mE (k:Int) ae ae;have zm:=iK (k:Int) ae;have iD:k<=16777215:=ae;generalize eO (k:Int)=dt at qT zm
  have eT:(#[103]:Array UInt8).size+dt.size<=9223372036854775807:=by
   have:(#[103]:Array UInt8).size=1:=rfl;omega
  have iA:(#[116]:Array UInt8).size+dt.size<=9223372036854775807:=by
   have:(#[116]:Array UInt8).size=1:=rfl;omega
  have j3:((⟨#[103]⟩:ByteArray)++dt).size<=64:=by
   rw[gK];have:(⟨#[103]⟩:ByteArray).size=1:=rfl;omega
  have Ft:((⟨#[116]⟩:ByteArray)++dt).size<=64:=by
   rw[gK];have:(⟨#[116]⟩:ByteArray).size=1:=rfl;omega
  obtain⟨ga,na⟩:=i8;(try dsimp only at aS aN aO G6 aG aT);have Xr:=cR (i:=X) (n:=na) ae;have WU:k=0->(AV.own ⟨58007008,na+1⟩ 0 1)=.own ⟨58007008,na+1⟩ 0 (k+1):=fun h=>by rw[h]
  rcases aG with⟨k0,rfl⟩|⟨k0,o,L,rfl,hL,go,hs,jM,oK⟩
  (have zF:=tw9 @a6 @a0 @a2 @a3 @a4 @a5 @hk @G6 (tw @eT @iA);(repeat(first|((repeat(revert N;apply g7));refine wk zF ?_;repeat(apply g6;intro N hN))|((try apply i3);refine⟨_,au.x (qT) (sd zF),?_⟩;apply hN;clear hN N)));try clear zF)
  refine .inr (ax _ _ _ _ _ (fun r σ3 hq=>?_) (zS bs hb iy X 4 (A+10+8*k) ae _ (by
   obtain⟨za,zz,wN,gX⟩:=aS
   exact⟨za,zz,wN,by simp only[go_sem,↓reduceIte,Nat.reduceEqDiff,Nat.reduceAdd,Nat.reduceSub,Nat.reduceLeDiff,reduceCtorEq,Xr,vX1]<;>exact gX⟩)))
  obtain⟨b,rfl,h3,hK⟩:=hq;obtain⟨g3,x3⟩:=σ3;(try dsimp only at h3);have Jm:=hK.1;(try dsimp only at Jm);have c4:=hK.2 ⟨58002001,x1+1⟩ (fun e=>by rw[<-e]at hX;(try dsimp only at hX);omega) aI;have c7:=hK.2 ⟨58008008,na+1+1⟩ (fun e=>by rw[<-e]at hX;(try dsimp only at hX);omega) aI;have cE:=hK.2 ⟨58008006,na+1+1⟩ (fun e=>by rw[<-e]at hX;(try dsimp only at hX);omega) aI;have cG:=hK.2 ⟨58007008,na+1⟩ (fun e=>by rw[<-e]at hX;(try dsimp only at hX);omega) aI;simp only[go_sem,↓reduceIte,Nat.reduceEqDiff,Nat.reduceAdd,Nat.reduceSub,Nat.reduceLeDiff,reduceCtorEq]at c4 c7 cE cG
  replace cE:∃l:List Int,l.length=4/\g3 ⟨58008006,na+1+1⟩=some ⟨true,1,l.map bf⟩:=⟨[0,IntKind.i64.wrap ((k:Int)+1),0,(k:Int)],rfl,cE⟩
  replace cG:∃L:List gy,L.length=k+1/\g3 ⟨58007008,na+1⟩=some ⟨true,2,L.map dU⟩/\∀x∈L,x.bL.size<=64:=⟨[⟨(⟨#[103]⟩:ByteArray)++dt,z⟩],by rw[k0];rfl,cG,fun x hx=>by rw[List.mem_singleton.1 hx];exact j3⟩
  have cO:∀i:Id,i≠X->i≠⟨58002001,x1+1⟩->i.bH<na->(i.site≠58007008∨i.bH<x2)->g3 i=ga i:=fun i h1 h2 h3 h4=>(hK.2 i h1 aI).trans (by
   have h8:=cR h3;have h9:=eq_false h2
   simp only[go_sem,↓reduceIte,Nat.reduceEqDiff,Nat.reduceAdd,Nat.reduceSub,Nat.reduceLeDiff,reduceCtorEq,h8,h9])
  clear hK;rw[WU k0]at c4;clear k0 WU;apply hN;clear hN N
  rotate_left 1
  have vo:=cR oK
  have oB:∀s,(o=⟨s,x1+1⟩)=False/\((⟨s,x1+1⟩:Id)=o)=False:=fun s=>⟨eq_false fun e=>by rw[e]at jM;(try dsimp only at jM);omega,eq_false fun e=>by rw[<-e]at jM;(try dsimp only at jM);omega⟩;have jL:(L.map dU).length=k:=by rw[List.length_map,hL]
  have nX:(X=o)=False:=eq_false fun h=>by rw[<-h]at jM;omega
  (have zF:=tw9 @a6 @a0 @a2 @a3 @a4 @a5 @hk @G6 (tw7 @eT @iA @go @vo @oB @iD @jL);(repeat(first|((repeat(revert N;apply g7));refine wk zF ?_;repeat(apply g6;intro N hN))|((try apply i3);refine⟨_,au.x (qT) (sd zF),?_⟩;apply hN;clear hN N)));try clear zF)
  refine .inr (ax _ _ _ _ _ (fun r σ3 hq=>?_) (zS bs hb iy X 4 (A+10+8*k) ae _ (by
   obtain⟨za,zz,wN,gX⟩:=aS
   exact⟨za,zz,wN,by simp only[go_sem,↓reduceIte,Nat.reduceEqDiff,Nat.reduceAdd,Nat.reduceSub,Nat.reduceLeDiff,reduceCtorEq,Xr,vX1,nX]<;>exact gX⟩)))
  obtain⟨b,rfl,h3,hK⟩:=hq;obtain⟨g3,x3⟩:=σ3;(try dsimp only at h3);have Jm:=hK.1;(try dsimp only at Jm);have c4:=hK.2 ⟨58002001,x1+1⟩ (fun e=>by rw[<-e]at hX;(try dsimp only at hX);omega) aI;have c7:=hK.2 ⟨58008008,na+1+1⟩ (fun e=>by rw[<-e]at hX;(try dsimp only at hX);omega) aI;have cE:=hK.2 ⟨58008006,na+1+1⟩ (fun e=>by rw[<-e]at hX;(try dsimp only at hX);omega) aI;have cG:=hK.2 ⟨58007008,na+1⟩ (fun e=>by rw[<-e]at hX;(try dsimp only at hX);omega) aI;simp only[go_sem,↓reduceIte,Nat.reduceEqDiff,Nat.reduceAdd,Nat.reduceSub,Nat.reduceLeDiff,reduceCtorEq,oB]at c4 c7 cE cG
  replace cE:∃l:List Int,l.length=4/\g3 ⟨58008006,na+1+1⟩=some ⟨true,1,l.map bf⟩:=⟨[0,IntKind.i64.wrap ((k:Int)+1),0,(k:Int)],rfl,cE⟩
  replace cG:∃L:List gy,L.length=k+1/\g3 ⟨58007008,na+1⟩=some ⟨true,2,L.map dU⟩/\∀x∈L,x.bL.size<=64:=⟨L++[⟨(⟨#[103]⟩:ByteArray)++dt,z⟩],by simp[hL],by rw[List.map_append];exact cG,fun x hx=>by
   rcases List.mem_append.1 hx with h9|h9
   ·exact hs x h9
   ·rw[List.mem_singleton.1 h9];exact j3⟩
  have cO:∀i:Id,i≠X->i≠⟨58002001,x1+1⟩->i.bH<na->(i.site≠58007008∨i.bH<x2)->g3 i=ga i:=fun i h1 h2 h3 h4=>(hK.2 i h1 aI).trans (by
   have h8:=cR h3;have h9:=eq_false h2;have h7:(i=o)=False:=eq_false fun e=>by rw[e]at h4;rcases h4 with h|h;exact h (aGs o _ rfl);omega
   simp only[go_sem,↓reduceIte,Nat.reduceEqDiff,Nat.reduceAdd,Nat.reduceSub,Nat.reduceLeDiff,reduceCtorEq,h8,h9,h7])
  clear hK;clear k0 WU;apply hN;clear hN N
  all_goals
   (try((repeat(revert N;apply g7));refine wk (tw6 @a6 @a0 @a2 @a3 @a4 @a5) ?_;repeat(apply g6;intro N hN)));refine mb (fun e st=>e 0=.ptr X 0 0/\e 2=.ptr ⟨58000000,σ.next⟩ 0 0/\e 3=.int .i64 z/\e 4=.ptr ⟨58002001,x1+1⟩ 0 0/\e 5=.int .i64 (m:Int)/\e 6=.int .i64 (k:Int)/\e 7=.ptr ⟨58008008,na+1+1⟩ 0 0/\eZ st.get X bs (A+10+8*k+4)/\x3<=st.next/\(∀i:Id,i≠X->i≠⟨58008006,na+1+1⟩->i.bH<x3->st.get i=g3 i)/\∃l:List Int,l.length=4/\st.get ⟨58008006,na+1+1⟩=some ⟨true,1,l.map bf⟩) ?_ ?_
   ·rintro e st ⟨b0,b2,b3,b4,b5,b6,b7,bS,bN,bO,bE⟩;obtain⟨gb,nb⟩:=st;(try dsimp only at bS bN bO bE);have b8:=(bO ⟨58008008,na+1+1⟩ (fun e=>by rw[<-e]at hX;(try dsimp only at hX);omega) (fun e=>by injection e with e1 _;revert e1;decide) aI).trans c7;apply hN;clear hN N;(try((repeat(revert N;apply g7));refine wk (tw7 @b0 @b2 @b3 @b4 @b5 @b6 @b7) ?_;repeat(apply g6;intro N hN)));refine .inr (ax _ _ _ _ _ (fun r σ5 hq=>?_) (zS bs hb iy X 4 _ ae _ bS));clear b;obtain⟨b,rfl,h5,hK⟩:=hq;obtain⟨g5,x5⟩:=σ5;(try dsimp only at h5);have YZ:=hK.1;(try dsimp only at YZ);have p4:=(hK.2 ⟨58002001,x1+1⟩ (fun e=>by rw[<-e]at hX;(try dsimp only at hX);omega) aI).trans ((bO ⟨58002001,x1+1⟩ (fun e=>by rw[<-e]at hX;(try dsimp only at hX);omega) (fun e=>by injection e with e1 _;revert e1;decide) aI).trans c4);have p7:=(hK.2 ⟨58008008,na+1+1⟩ (fun e=>by rw[<-e]at hX;(try dsimp only at hX);omega) aI).trans b8
    have pE:∃l:List Int,l.length=4/\g5 ⟨58008006,na+1+1⟩=some ⟨true,1,l.map bf⟩:=by
     obtain⟨l,hl,gE⟩:=bE;exact⟨l,hl,(hK.2 ⟨58008006,na+1+1⟩ (fun e=>by rw[<-e]at hX;(try dsimp only at hX);omega) aI).trans gE⟩
    have pO:∀i:Id,i≠X->i≠⟨58008006,na+1+1⟩->i.bH<x3->g5 i=g3 i:=fun i h1 h2 h3=>(hK.2 i h1 aI).trans (bO i h1 h2 h3);(try dsimp only at p4 p7);clear hK;apply hN;clear hN N;(try((repeat(revert N;apply g7));refine wk @b0 ?_;repeat(apply g6;intro N hN)));refine mb (fun e st=>e 0=.ptr X 0 0/\e 2=.ptr ⟨58000000,σ.next⟩ 0 0/\e 3=.int .i64 z/\e 4=.ptr ⟨58002001,x1+1⟩ 0 0/\e 5=.int .i64 (m:Int)/\e 6=.int .i64 (k:Int)/\e 7=.ptr ⟨58008008,na+1+1⟩ 0 0/\eZ st.get X bs (A+10+8*k+8)/\x5<=st.next/\(∀i:Id,i≠X->i≠⟨58008006,na+1+1⟩->i.bH<x5->st.get i=g5 i)/\∃l:List Int,l.length=4/\st.get ⟨58008006,na+1+1⟩=some ⟨true,1,l.map bf⟩) ?_ ?_
    ·rintro e st ⟨r0,r2,r3,r4,r5,r6,r7,rS,rN,rO,rE⟩;obtain⟨gc,nc⟩:=st;(try dsimp only at rS rN rO rE);have s4:=(rO ⟨58002001,x1+1⟩ (fun e=>by rw[<-e]at hX;(try dsimp only at hX);omega) (fun e=>by injection e with e1 _;revert e1;decide) aI).trans p4;have s7:=(rO ⟨58008008,na+1+1⟩ (fun e=>by rw[<-e]at hX;(try dsimp only at hX);omega) (fun e=>by injection e with e1 _;revert e1;decide) aI).trans p7;(try dsimp only at s4 s7);have hc3:∀i:Id,i≠X->i≠⟨58008006,na+1+1⟩->i.bH<x3->gc i=g3 i:=fun i h1 h2 h3=>(rO i h1 h2 ae).trans (pO i h1 h2 h3);have hch:∀i:Id,i≠X->i≠⟨58002001,x1+1⟩->i.bH<na->(i.site≠58007008∨i.bH<x2)->gc i=ga i:=fun i h1 h2 h3 h4=>(hc3 i h1 (fun e=>by rw[e]at h3;(try dsimp only at h3);omega) ae).trans (cO i h1 h2 h3 h4);obtain⟨L,hL1,hL2,hL3⟩:=cG;have rG:=(hc3 ⟨58007008,na+1⟩ (fun e=>by rw[<-e]at hX;(try dsimp only at hX);omega) (fun e=>by injection e with e1 _;revert e1;decide) aI).trans hL2;obtain⟨l,hl,gE⟩:=rE;have TD:=cR (i:=X) (n:=nc) ae;have Xq:∀s,(X=⟨s,x1+1⟩)=False:=fun s=>eq_false fun e=>by rw[e]at hX;(try dsimp only at hX);omega
     apply hN;clear hN N
     rcases aT with⟨k0,rfl⟩|⟨k0,o,rows,rfl,hr,go,hT,hs,jM,oK⟩
     ·(try((repeat(revert N;apply g7));refine wk (tw9 @r0 @r2 @r3 @r4 @r5 @r6 @r7 @s4 @s7) ?_;repeat(apply g6;intro N hN)));obtain⟨za,zz,wN,gX⟩:=rS;have nG:(⟨58007008,na+1⟩:Id).bH<nc:=aI
      exact dW (sd (tw7 @a6 @a0 @a2 @a3 @a4 @a5 @r6)) (by(try dsimp only);exact⟨⟨za,zz,ae,by simp only[go_sem,↓reduceIte,Nat.reduceEqDiff,Nat.reduceAdd,Nat.reduceSub,Nat.reduceLeDiff,reduceCtorEq,TD,Xq]<;>exact gX⟩,ae,fun i h1 h2 h3=>(by
       have h8:=cR (i:=i) (n:=nc) ae;have h9:=eq_false h2
       simp only[go_sem,↓reduceIte,Nat.reduceEqDiff,Nat.reduceAdd,Nat.reduceSub,Nat.reduceLeDiff,reduceCtorEq,h8,h9]<;>exact(hch i h1 h2 ae (.inr h3)).trans (aO i h1 h2 h3)),.own ⟨58007008,na+1⟩ 0 (k+1),.own ⟨58013004,nc⟩ 0 1,sl @g8,.inr ⟨ae,⟨58007008,na+1⟩,L,rfl,hL1,by simp only[go_sem,↓reduceIte,Nat.reduceEqDiff,Nat.reduceAdd,Nat.reduceSub,Nat.reduceLeDiff,reduceCtorEq]<;>exact rG,hL3,aI,aI⟩,.inr ⟨ae,⟨58013004,nc⟩,[[.str ((⟨#[116]⟩:ByteArray)++dt),.own ⟨58008006,na+1+1⟩ 0 4]],by rw[k0],by rw[k0];rfl,sl @g8,fun row eP=>⟨_,⟨58008006,na+1+1⟩,List.mem_singleton.1 eP,⟨Ft,tX _ _⟩,rfl,aI,aI,l,hl,by simp only[go_sem,↓reduceIte,Nat.reduceEqDiff,Nat.reduceAdd,Nat.reduceSub,Nat.reduceLeDiff,reduceCtorEq]<;>exact gE⟩,by simp[gM],aI,aI⟩,fun o c h=>by cases h;rfl,fun o c h=>by cases h;rfl⟩)
     ·have gco:=(hch o (fun h=>by rw[h]at jM;omega) (fun h=>by rw[h]at jM;(try dsimp only at jM);omega) oK (.inl (by rw[aTs o _ rfl];decide))).trans go;have vo:=cR (i:=o) (n:=nc) ae
      have o5:∀s,(o=⟨s,x1+1⟩)=False/\((⟨s,x1+1⟩:Id)=o)=False:=fun s=>⟨eq_false fun e=>by rw[e]at jM;(try dsimp only at jM);omega,eq_false fun e=>by rw[<-e]at jM;(try dsimp only at jM);omega⟩;(try((repeat(revert N;apply g7));refine wk (tw9 @r0 @r2 @r3 @r4 @r5 @r6 @r7 @s4 (tw6 @s7 @gco @vo @o5 @hr @iD)) ?_;repeat(apply g6;intro N hN)));obtain⟨za,zz,wN,gX⟩:=rS;have nG:(⟨58007008,na+1⟩:Id).bH<nc:=aI;have nGo:((⟨58007008,na+1⟩:Id)=o)=False:=eq_false fun h=>by rw[<-h]at oK;(try dsimp only at oK);omega
      have nEo:((⟨58008006,na+1+1⟩:Id)=o)=False:=eq_false fun h=>by rw[<-h]at oK;(try dsimp only at oK);omega
      have Rp:(X=o)=False:=eq_false fun h=>by rw[<-h]at jM;omega
      have UH:=hT.frame (g':=gc) (n':=na) i4 fun u h1 h2 h3=>hch u (fun h=>by rw[h]at h2;omega) (fun h=>by rw[h]at h2;(try dsimp only at h2);omega) h3 (.inl (fun h=>by rw[gM,h]at h1;revert h1;decide))
      exact dW (sd (tw7 @a6 @a0 @a2 @a3 @a4 @a5 @r6)) (by(try dsimp only);exact⟨⟨za,zz,ae,by simp only[go_sem,↓reduceIte,Nat.reduceEqDiff,Nat.reduceAdd,Nat.reduceSub,Nat.reduceLeDiff,reduceCtorEq,TD,Xq,Rp]<;>exact gX⟩,ae,fun i h1 h2 h3=>(by
       have h8:=cR (i:=i) (n:=nc) ae;have h9:=eq_false h2;have h7:(i=o)=False:=eq_false fun h=>by rw[h]at h3;omega
       simp only[go_sem,↓reduceIte,Nat.reduceEqDiff,Nat.reduceAdd,Nat.reduceSub,Nat.reduceLeDiff,reduceCtorEq,h8,h9,h7]<;>exact(hch i h1 h2 ae (.inr h3)).trans (aO i h1 h2 h3)),.own ⟨58007008,na+1⟩ 0 (k+1),.own ⟨58013004,nc⟩ 0 (k+1),sl @g8,.inr ⟨ae,⟨58007008,na+1⟩,L,rfl,hL1,by simp only[go_sem,↓reduceIte,Nat.reduceEqDiff,Nat.reduceAdd,Nat.reduceSub,Nat.reduceLeDiff,reduceCtorEq,nGo]<;>exact rG,hL3,aI,aI⟩,.inr ⟨ae,⟨58013004,nc⟩,rows++[[.str ((⟨#[116]⟩:ByteArray)++dt),.own ⟨58008006,na+1+1⟩ 0 4]],rfl,by simp[hr],sl @g8,(UH.frame (n':=nc+1+1) ae fun u h1 h2 h3=>(by
       have h8:=cR (i:=u) (n:=nc) ae;have h9:∀s,(u=⟨s,x1+1⟩)=False:=fun s=>eq_false fun h=>by rw[h]at h2;(try dsimp only at h2);omega
       have h7:(u=o)=False:=eq_false fun h=>hs (by rw[<-h];exact h1)
       simp only[go_sem,↓reduceIte,Nat.reduceEqDiff,Nat.reduceAdd,Nat.reduceSub,Nat.reduceLeDiff,reduceCtorEq,h8,h9,h7])).snoc (e:=⟨58008006,na+1+1⟩) ⟨Ft,tX _ _⟩ ⟨by simp[gM],aI,aI,l,hl,by simp only[go_sem,↓reduceIte,Nat.reduceEqDiff,Nat.reduceAdd,Nat.reduceSub,Nat.reduceLeDiff,reduceCtorEq,nEo]<;>exact gE⟩,by simp[gM],aI,aI⟩,fun o c h=>by cases h;rfl,fun o c h=>by cases h;rfl⟩)
    ·intro N hN;obtain⟨l,hl,gE⟩:=pE
     cases b
     ·(try((repeat(revert N;apply g7));refine wk (tw7 @b0 @b2 @b3 @b4 @b5 @b6 @b7) ?_;repeat(apply g6;intro N hN)));exact⟨sd (tw7 @b0 @b2 @b3 @b4 @b5 @b6 @b7),sd (tw7 @b0 @b2 @b3 @b4 @b5 @b6 @b7),sd (tw7 @b0 @b2 @b3 @b4 @b5 @b6 @b7),sd (tw7 @b0 @b2 @b3 @b4 @b5 @b6 @b7),sd (tw7 @b0 @b2 @b3 @b4 @b5 @b6 @b7),sd (tw7 @b0 @b2 @b3 @b4 @b5 @b6 @b7),sd (tw7 @b0 @b2 @b3 @b4 @b5 @b6 @b7),h5.mono ae,aI,fun i _ _ _=>rfl,l,hl,gE⟩
     ·(try((repeat(revert N;apply g7));refine wk (tw7 @b0 @b2 @b3 @b4 @b5 @b6 @b7) ?_;repeat(apply g6;intro N hN)));refine fJ ?_ ?_<;>(try((repeat(revert N;apply g7));refine wk (tw8 @b0 @b2 @b3 @b4 @b5 @b6 @b7 @p7) ?_;repeat(apply g6;intro N hN)))
      all_goals
       refine .inr (ax _ _ _ _ _ (fun r σ4 hq=>?_) (ik bs hb iy X (m:Int) _ ae _ h5));obtain⟨y,rfl,y0,y1,h4,hK⟩:=hq;obtain⟨g4,x4⟩:=σ4;(try dsimp only at h4);have KT:=hK.1;(try dsimp only at KT);have d7:=(hK.2 ⟨58008008,na+1+1⟩ (fun e=>by rw[<-e]at hX;(try dsimp only at hX);omega) aI).trans p7;have dE:=(hK.2 ⟨58008006,na+1+1⟩ (fun e=>by rw[<-e]at hX;(try dsimp only at hX);omega) aI).trans gE;have dO:∀i:Id,i≠X->i.bH<x5->g4 i=g5 i:=fun i h1 h2=>hK.2 i h1 aI;(try dsimp only at d7 dE);clear hK;have eW:(l.map bf).length=4:=by rw[List.length_map,hl]
       have fV:∀w:Int,(l.map bf).set 2 [.int .i64 w]=(l.set 2 w).map bf:=fun w=>by rw[List.map_set];rfl
       apply hN;clear hN N;have jV:(l.map bf)[2]? =some [.int .i64 (l.getD 2 0)]:=getD_map bf ae;(try((repeat(revert N;apply g7));refine wk (tw9 @b0 @b2 @b3 @b4 @b5 @b6 @b7 @d7 (tw4 @dE @eW @fV @jV)) ?_;repeat(apply g6;intro N hN)));obtain⟨za,zz,wN,gX⟩:=h4;have Xq:∀s,(X=⟨s,na+1+1⟩)=False:=fun s=>eq_false fun e=>by rw[e]at hX;(try dsimp only at hX);omega
       exact⟨sd (tw7 @b0 @b2 @b3 @b4 @b5 @b6 @b7),sd (tw7 @b0 @b2 @b3 @b4 @b5 @b6 @b7),sd (tw7 @b0 @b2 @b3 @b4 @b5 @b6 @b7),sd (tw7 @b0 @b2 @b3 @b4 @b5 @b6 @b7),sd (tw7 @b0 @b2 @b3 @b4 @b5 @b6 @b7),sd (tw7 @b0 @b2 @b3 @b4 @b5 @b6 @b7),sd (tw7 @b0 @b2 @b3 @b4 @b5 @b6 @b7),⟨za,zz,ae,by simp only[go_sem,↓reduceIte,Nat.reduceEqDiff,Nat.reduceAdd,Nat.reduceSub,Nat.reduceLeDiff,reduceCtorEq,Xq]<;>exact gX⟩,aI,fun i h1 h2 h3=>(by
        have h9:=eq_false h2
        simp only[go_sem,↓reduceIte,Nat.reduceEqDiff,Nat.reduceAdd,Nat.reduceSub,Nat.reduceLeDiff,reduceCtorEq,h9]<;>exact dO i h1 h3),l.set 2 (IntKind.i64.wrap (1+y)),by rw[List.length_set,hl],sl @g8⟩
   ·intro N hN;obtain⟨l,hl,gE⟩:=cE
    cases b
    ·(try((repeat(revert N;apply g7));refine wk (tw6 @a6 @a0 @a2 @a3 @a4 @a5) ?_;repeat(apply g6;intro N hN)));exact⟨sd (tw6 @a6 @a0 @a2 @a3 @a4 @a5),sd (tw6 @a6 @a0 @a2 @a3 @a4 @a5),sd (tw6 @a6 @a0 @a2 @a3 @a4 @a5),sd (tw6 @a6 @a0 @a2 @a3 @a4 @a5),sd (tw6 @a6 @a0 @a2 @a3 @a4 @a5),sd (tw6 @a6 @a0 @a2 @a3 @a4 @a5),sd (tw6 @a6 @a0 @a2 @a3 @a4 @a5),h3.mono ae,aI,fun i _ _ _=>rfl,l,hl,gE⟩
    ·(try((repeat(revert N;apply g7));refine wk (tw6 @a6 @a0 @a2 @a3 @a4 @a5) ?_;repeat(apply g6;intro N hN)));refine fJ ?_ ?_<;>(try((repeat(revert N;apply g7));refine wk (tw7 @a6 @a0 @a2 @a3 @a4 @a5 @c7) ?_;repeat(apply g6;intro N hN)))
     all_goals
      refine .inr (ax _ _ _ _ _ (fun r σ4 hq=>?_) (ik bs hb iy X (m:Int) _ ae _ h3));obtain⟨y,rfl,y0,y1,h4,hK⟩:=hq;obtain⟨g4,x4⟩:=σ4;(try dsimp only at h4);have KT:=hK.1;(try dsimp only at KT);have d7:=(hK.2 ⟨58008008,na+1+1⟩ (fun e=>by rw[<-e]at hX;(try dsimp only at hX);omega) aI).trans c7;have dE:=(hK.2 ⟨58008006,na+1+1⟩ (fun e=>by rw[<-e]at hX;(try dsimp only at hX);omega) aI).trans gE;have dO:∀i:Id,i≠X->i.bH<x3->g4 i=g3 i:=fun i h1 h2=>hK.2 i h1 aI;(try dsimp only at d7 dE);clear hK;have eW:(l.map bf).length=4:=by rw[List.length_map,hl]
      have fV:∀w:Int,(l.map bf).set 0 [.int .i64 w]=(l.set 0 w).map bf:=fun w=>by rw[List.map_set];rfl
      apply hN;clear hN N;have jV:(l.map bf)[0]? =some [.int .i64 (l.getD 0 0)]:=getD_map bf ae;(try((repeat(revert N;apply g7));refine wk (tw9 @a6 @a0 @a2 @a3 @a4 @a5 @d7 @dE (tw3 @eW @fV @jV)) ?_;repeat(apply g6;intro N hN)));obtain⟨za,zz,wN,gX⟩:=h4;have Xq:∀s,(X=⟨s,na+1+1⟩)=False:=fun s=>eq_false fun e=>by rw[e]at hX;(try dsimp only at hX);omega
      exact⟨sd (tw6 @a6 @a0 @a2 @a3 @a4 @a5),sd (tw6 @a6 @a0 @a2 @a3 @a4 @a5),sd (tw6 @a6 @a0 @a2 @a3 @a4 @a5),sd (tw6 @a6 @a0 @a2 @a3 @a4 @a5),sd (tw6 @a6 @a0 @a2 @a3 @a4 @a5),sd (tw6 @a6 @a0 @a2 @a3 @a4 @a5),sd (tw6 @a6 @a0 @a2 @a3 @a4 @a5),⟨za,zz,ae,by simp only[go_sem,↓reduceIte,Nat.reduceEqDiff,Nat.reduceAdd,Nat.reduceSub,Nat.reduceLeDiff,reduceCtorEq,Xq]<;>exact gX⟩,aI,fun i h1 h2 h3=>(by
       have h9:=eq_false h2
       simp only[go_sem,↓reduceIte,Nat.reduceEqDiff,Nat.reduceAdd,Nat.reduceSub,Nat.reduceLeDiff,reduceCtorEq,h9]<;>exact dO i h1 h3),l.set 0 (IntKind.i64.wrap (1+y)),by rw[List.length_set,hl],sl @g8⟩
 ·have hke:k=m:=ae;subst hke;(try((repeat(revert N;apply g7));refine wk (tw7 @a6 @a0 @a2 @a3 @a4 @a5 @hk) ?_;repeat(apply g6;intro N hN)));obtain⟨ga,na⟩:=i8;(try dsimp only at aS aN aO G6 aG aT)
  have YX:dy vt=some k:=by
   rcases aT with⟨h,_⟩|⟨_,o,rows,rfl,_⟩
   ·omega
   ·rfl
  rcases aT with⟨h,_⟩|⟨k0,o,rows,rfl,hr,go,hT,hs,jM,oK⟩
  ·omega
  refine cj (fun n env st=>∃j:Nat,n=(k)-j/\j<=(k)/\env 8=.int .i64 (j:Int)/\((na<=st.next/\(∀i:Id,(i.bH<x2∨¬gM i.site)->i.bH<na->st.get i=ga i)/\jD gM x2 st.get na rows))) (k) ⟨0,ae,ae,sl (tw6 @a6 @a0 @a2 @a3 @a4 @a5),by(try dsimp only);exact⟨ae,fun i _ _=>rfl,hT⟩⟩ ?_;rintro n_b m4 i9 ⟨j,rfl,ble,b8,bI0⟩ eB;have b0:=eB 0 g9;have b2:=eB 2 g9;have b3:=eB 3 g9;have b4:=eB 4 g9;have b5:=eB 5 g9;simp only[go_sem,↓reduceIte,Nat.reduceEqDiff,Nat.reduceAdd,Nat.reduceSub,Nat.reduceLeDiff,reduceCtorEq,a6,a0,a2,a3,a4,a5]at b0 b2 b3 b4 b5;clear eB;obtain⟨bN,bO,bT⟩:=bI0;have b4':=(bO ⟨58002001,x1+1⟩ (.inl aI) aI).trans G6;have bo:=(bO o (.inr hs) oK).trans go
  by_cases hj:(j:Int)<(k:Int)
  ·have ep:∀{e:Env} {gg:Rows} {nx:Nat},(e 8=.int .i64 (IntKind.i64.wrap ((j:Int)+1)))->((na<=nx/\(∀i:Id,(i.bH<x2∨¬gM i.site)->i.bH<na->gg i=ga i)/\jD gM x2 gg na rows))->∃m0,m0<(k)-j/\∃j:Nat,m0=(k)-j/\j<=(k)/\e 8=.int .i64 (j:Int)/\((na<=nx/\(∀i:Id,(i.bH<x2∨¬gM i.site)->i.bH<na->gg i=ga i)/\jD gM x2 gg na rows)):=fun x1 x2=>⟨_,ae,j+1,rfl,ae,(by rw[x1,aZ ae]),x2⟩;(try((repeat(revert N;apply g7));refine wk (tw9 @b8 @b0 @b2 @b3 @b4 @b5 @hj @b4' @YX) ?_;repeat(apply g6;intro N hN)));refine cj (fun n env st=>∃d:Nat,n=(4)-d/\d<=(4)/\env 9=.int .i64 (d:Int)/\((na<=st.next/\(∀i:Id,(i.bH<x2∨¬gM i.site)->i.bH<na->st.get i=ga i)/\jD gM x2 st.get na rows))) (4) ⟨0,ae,ae,sl (tw6 @b8 @b0 @b2 @b3 @b4 @b5),by(try dsimp only);exact⟨ae,bO,bT⟩⟩ ?_;rintro n_c m7 m6 ⟨d,rfl,cle,c9,cI0⟩ jN;have c0:=jN 0 g9;have c2:=jN 2 g9;have c3:=jN 3 g9;have c4:=jN 4 g9;have c5:=jN 5 g9;have c8:=jN 8 g9;simp only[go_sem,↓reduceIte,Nat.reduceEqDiff,Nat.reduceAdd,Nat.reduceSub,Nat.reduceLeDiff,reduceCtorEq,b8,b0,b2,b3,b4,b5]at c0 c2 c3 c4 c5 c8;clear jN;obtain⟨cN,cO,cT⟩:=cI0
   by_cases hd:(d:Int)<4
   ·have jf:∀{e:Env} {gg:Rows} {nx:Nat},(e 9=.int .i64 (IntKind.i64.wrap ((d:Int)+1)))->((na<=nx/\(∀i:Id,(i.bH<x2∨¬gM i.site)->i.bH<na->gg i=ga i)/\jD gM x2 gg na rows))->∃m0,m0<(4)-d/\∃d:Nat,m0=(4)-d/\d<=(4)/\e 9=.int .i64 (d:Int)/\((na<=nx/\(∀i:Id,(i.bH<x2∨¬gM i.site)->i.bH<na->gg i=ga i)/\jD gM x2 gg na rows)):=fun x1 x2=>⟨_,ae,d+1,rfl,ae,(by rw[x1,aZ ae]),x2⟩;have WU:=(cO ⟨58002001,x1+1⟩ (.inl aI) aI).trans G6;have co:=(cO o (.inr hs) oK).trans go;obtain⟨nm,e,eP,f1,f2,f3,l,hl,gE⟩:=cT.get (k:=j) ae;have eW:(l.map bf).length=4:=by rw[List.length_map,hl]
    have jV:(l.map bf)[d]? =some [.int .i64 (l.getD d 0)]:=getD_map bf ae;have fV:∀w:Int,(l.map bf).set d [.int .i64 w]=(l.set d w).map bf:=fun w=>by rw[List.map_set];rfl
    have Mc:(d:Int)<((4:Nat):Int):=ae
    by_cases hx:(k:Int)<l.getD d 0
    ·generalize l.getD d 0=w at jV hx;(try((repeat(revert N;apply g7));refine wk (tw9 @c9 @c0 @c2 @c3 @c4 @c5 @c8 @hd (tw9 @hj @WU @co @eP @gE @jV @eW @fV (tw @hx @Mc))) ?_;repeat(apply g6;intro N hN)))
     exact jf (sd (tw7 @c9 @c0 @c2 @c3 @c4 @c5 @c8)) (by(try dsimp only);exact⟨ae,fun i h1 h2=>(by
      have h7:(i=e)=False:=eq_false fun h=>by rw[h]at h1;rcases h1 with h|h;omega;exact h f1
      simp only[go_sem,↓reduceIte,Nat.reduceEqDiff,Nat.reduceAdd,Nat.reduceSub,Nat.reduceLeDiff,reduceCtorEq,h7]<;>exact cO i h1 h2),cT.write (by rw[List.length_set,hl])⟩)
    ·generalize l.getD d 0=w at jV hx;(try((repeat(revert N;apply g7));refine wk (tw9 @c9 @c0 @c2 @c3 @c4 @c5 @c8 @hd (tw9 @hj @WU @co @eP @gE @jV @eW @hx @Mc)) ?_;repeat(apply g6;intro N hN)));exact jf (sd (tw7 @c9 @c0 @c2 @c3 @c4 @c5 @c8)) (by(try dsimp only);exact⟨ae,cO,cT⟩)
   ·(try((repeat(revert N;apply g7));refine wk (tw8 @c9 @c0 @c2 @c3 @c4 @c5 @c8 @hd) ?_;repeat(apply g6;intro N hN)));exact ep (sd (tw9 @b8 @b0 @b2 @b3 @b4 @b5 @c9 @c0 (tw5 @c2 @c3 @c4 @c5 @c8))) (by(try dsimp only);exact⟨ae,cO,cT⟩)
  ·(try((repeat(revert N;apply g7));refine wk (tw9 @b8 @b0 @b2 @b3 @b4 @b5 @hj @b4' @YX) ?_;repeat(apply g6;intro N hN)))
   have bS:eZ i9.get X bs (A+10+8*k):=by
    obtain⟨za,zz,wN,gX⟩:=aS;exact⟨za,zz,wN,(bO X (.inl ae) ae).trans gX⟩
   refine .inr (ax _ _ _ _ _ (fun r σ5 hq=>?_) (zS bs hb iy X 2 _ ae _ bS));obtain⟨b,rfl,h5,hK⟩:=hq;obtain⟨g5,x5⟩:=σ5;(try dsimp only at h5);have YZ:=hK.1;(try dsimp only at YZ);have pO:∀i:Id,i≠X->(i.bH<x2∨¬gM i.site)->i.bH<na->g5 i=ga i:=fun i h1 h2 h3=>(hK.2 i h1 aI).trans (bO i h2 h3);have pT:jD gM x2 g5 na rows:=bT.frame i4 fun u h1 h2 h3=>hK.2 u (fun h=>by rw[h]at h2;omega) aI;clear hK bS;have p4:=(pO ⟨58002001,x1+1⟩ (fun e=>by rw[<-e]at hX;(try dsimp only at hX);omega) (.inl aI) aI).trans G6;have po:=(pO o (fun h=>by rw[h]at jM;omega) (.inr hs) oK).trans go;apply hN;clear hN N;(try((repeat(revert N;apply g7));refine wk (tw6 @b8 @b0 @b2 @b3 @b4 @b5) ?_;repeat(apply g6;intro N hN)));refine mb (fun e st=>e 2=.ptr ⟨58000000,σ.next⟩ 0 0/\e 3=.int .i64 z/\e 4=.ptr ⟨58002001,x1+1⟩ 0 0/\na<=st.next/\(∀i:Id,i≠X->(i.bH<x2∨¬gM i.site)->i.bH<na->st.get i=ga i)/\jD gM x2 st.get na rows/\eZ st.get X bs (A+500)) ?_ ?_
   ·rintro e st ⟨r2,r3,r4,rN,rO,rT,rS⟩;obtain⟨gc,nc⟩:=st;(try dsimp only at rN rO rT rS);have s4:=(rO ⟨58002001,x1+1⟩ (fun e=>by rw[<-e]at hX;(try dsimp only at hX);omega) (.inl aI) aI).trans G6;have s2:=(rO ⟨58000000,σ.next⟩ (fun e=>by rw[<-e]at hX;(try dsimp only at hX);omega) (.inl aI) aI).trans ((aO ⟨58000000,σ.next⟩ (fun e=>by rw[<-e]at hX;(try dsimp only at hX);omega) (fun e=>by injection e with e1 _;revert e1;decide) aI).trans mQ)
    rcases aG with⟨h,_⟩|⟨_,og,L,rfl,hL,mu,GC,gv0,gv1⟩
    ·omega
    apply hN;clear hN N;(try((repeat(revert N;apply g7));refine wk (tw5 @r2 @r3 @r4 @s4 @s2) ?_;repeat(apply g6;intro N hN)));obtain⟨za,zz,wN,gX⟩:=rS;have TD:=cR (i:=X) (n:=nc) ae;have hG:gP x2 gc nc (.own og 0 k) k:=.inr ⟨ae,og,L,rfl,hL,(rO og (fun h=>by rw[h]at gv0;omega) (.inr (by rw[aGs og _ rfl];simp[gM])) gv1).trans mu,GC,ae,ae⟩;have UI:ij gM x2 gc nc (.own o 0 k) k:=.inr ⟨ae,o,rows,rfl,hr,(rO o (fun h=>by rw[h]at jM;omega) (.inr hs) oK).trans go,rT.frame rN fun _ _ _ _=>rfl,hs,ae,ae⟩
    have gQ:∀u:Id,x2<=u.bH->u.bH<nc->∀r1 r2,(bJ (bJ gc ⟨58024002,nc⟩ r1) ⟨58000000,σ.next⟩ r2) u=gc u:=fun u h1 h2 r1 r2=>(by
     have h8:=cR h2;have h9:∀s,(u=⟨s,σ.next⟩)=False:=fun s=>eq_false fun h=>by rw[h]at h1;(try dsimp only at h1);omega
     simp only[go_sem,↓reduceIte,Nat.reduceEqDiff,Nat.reduceAdd,Nat.reduceSub,Nat.reduceLeDiff,reduceCtorEq,h8,h9])
    exact eH (.inl rfl) (vs:=[.agg [.own og 0 k,.own o 0 k,.own ⟨58024002,nc⟩ 0 1,.int .i64 z]]) (sd @r2) ⟨⟨gM,.own og 0 k,.own o 0 k,k,k,⟨58024002,nc⟩,⟨⟨0,0⟩,0⟩,z,rfl,(hG.frame aI fun u h1 h2=>gQ u h1 h2 _ _).since aI,(UI.frame aI fun u h1 h2=>gQ u h1 h2 _ _).since aI,ae,ae,ae,ae,sl @g8,aI,aI⟩,⟨za,zz,ae,by simp only[go_sem,↓reduceIte,Nat.reduceEqDiff,Nat.reduceAdd,Nat.reduceSub,Nat.reduceLeDiff,reduceCtorEq,TD,vX]<;>exact gX⟩,aI,fun u h1 h2=>(by
     have h7:=cR h2;have h8:=cR (i:=u) (n:=nc) ae
     simp only[go_sem,↓reduceIte,Nat.reduceEqDiff,Nat.reduceAdd,Nat.reduceSub,Nat.reduceLeDiff,reduceCtorEq,h7,h8]<;>exact(rO u h1 (.inl ae) ae).trans ((aO u h1 (fun h=>by rw[h]at h2;(try dsimp only at h2);omega) ae).trans (KC u h1 h2)))⟩
   ·intro N hN
    cases b
    ·(try((repeat(revert N;apply g7));refine wk (tw6 @b8 @b0 @b2 @b3 @b4 @b5) ?_;repeat(apply g6;intro N hN)));exact⟨sd (tw6 @b8 @b0 @b2 @b3 @b4 @b5),sd (tw6 @b8 @b0 @b2 @b3 @b4 @b5),sd (tw6 @b8 @b0 @b2 @b3 @b4 @b5),aI,pO,pT,h5.mono ae⟩
    ·obtain⟨nm,e,eP,f1,f2,f3,l,hl,gE⟩:=pT.get (k:=k-1) ae;have eW:(l.map bf).length=4:=by rw[List.length_map,hl]
     have jV:(l.map bf)[1]? =some [.int .i64 (l.getD 1 0)]:=getD_map bf ae;have fV:∀w:Int,(l.map bf).set 1 [.int .i64 w]=(l.set 1 w).map bf:=fun w=>by rw[List.map_set];rfl
     have qX:IntKind.i64.wrap ((k:Int)-1)=((k-1:Nat):Int):=(db ae).trans ae;have QW:((k-1:Nat):Int)<(k:Int):=ae;generalize k-1=kk at eP qX QW;(try((repeat(revert N;apply g7));refine wk (tw9 @b8 @b0 @b2 @b3 @b4 @b5 @p4 @po (tw7 @qX @QW @eP @gE @jV @eW @fV)) ?_;repeat(apply g6;intro N hN)));obtain⟨za,zz,wN,gX⟩:=h5;have nXe:(X=e)=False:=eq_false fun h=>by rw[<-h]at f2;omega
     exact⟨sd (tw6 @b8 @b0 @b2 @b3 @b4 @b5),sd (tw6 @b8 @b0 @b2 @b3 @b4 @b5),sd (tw6 @b8 @b0 @b2 @b3 @b4 @b5),aI,fun i h0 h1 h2=>(by
      have h7:(i=e)=False:=eq_false fun h=>by rw[h]at h1;rcases h1 with h|h;omega;exact h f1
      simp only[go_sem,↓reduceIte,Nat.reduceEqDiff,Nat.reduceAdd,Nat.reduceSub,Nat.reduceLeDiff,reduceCtorEq,h7]<;>exact pO i h0 h1 h2),pT.write (by rw[List.length_set,hl]),⟨za,zz,ae,by simp only[go_sem,↓reduceIte,Nat.reduceEqDiff,Nat.reduceAdd,Nat.reduceSub,Nat.reduceLeDiff,reduceCtorEq,nXe]<;>exact gX⟩⟩
def yK (f:Nat):Prop:=∀(bs:List Int),(∀b∈bs,0<=b/\b<=255)->bs.length<=4096->∀(X:Id) (A:Nat),A<=900000->∀σ:aw,eZ σ.get X bs A->X.bH<σ.next->Call Tryz.prog f [.ptr X 0 0] σ (G1 X bs A σ)
theorem oz.parts {n0:Nat} {g:Rows} {n:Nat} {r:AV} (h:oz n0 g n r):∃(vg vt:AV) (o:Id) (m:Int),r=.agg [vg,vt,.own o 0 1,.int .i64 m]/\(vg.cells=[vg]/\vg.cell=true)/\vt.cells=[vt]/\vt.cell=true:=by
 obtain⟨E,vg,vt,kg,kt,o,p,m,h1,h2,h3,_⟩:=h;exact⟨vg,vt,o,m,h1,h2.cell,h3.cell⟩
theorem FT (hC:yK 59) (bs:List Int) (hb:∀b∈bs,0<=b/\b<=255) (iy:bs.length<=4096) (X:Id) (A:Nat) (ha:A<=800000) (σ:aw) (h:eZ σ.get X bs A) (hX:X.bH<σ.next):
  Call Tryz.prog 23 [.ptr X 0 0] σ fun r σ'=>oz σ.next σ'.get σ'.next r/\lv X σ σ':=by
 refine fG fx rfl fun fM=>?_;clear fM;have vX:=cR hX;(try((repeat(revert N;apply g7));refine wk @g8 ?_;repeat(apply g6;intro N hN)))
 refine .inr (ax _ _ _ _ _ (fun r σ1 hq=>?_) (ik bs hb iy X 7 A ae _ (by
  obtain⟨a,z,q1,q2⟩:=h
  exact⟨a,z,q1,by simp only[go_sem,↓reduceIte,Nat.reduceEqDiff,Nat.reduceAdd,Nat.reduceSub,Nat.reduceLeDiff,reduceCtorEq,vX]<;>exact q2⟩)))
 obtain⟨v,rfl,v0,v1,h1,hK⟩:=hq;obtain⟨g1,x1⟩:=σ1;(try dsimp only at h1);have Eo:=hK.1;(try dsimp only at Eo);have lO:=hK.2 ⟨23000000,σ.next⟩ (fun e=>by rw[<-e]at hX;(try dsimp only at hX);omega) aI;simp only[go_sem,↓reduceIte,Nat.reduceEqDiff,Nat.reduceAdd,Nat.reduceSub,Nat.reduceLeDiff,reduceCtorEq]at lO;have qS:∀i:Id,i≠X->i.bH<σ.next->g1 i=σ.get i:=fun i hi hv=>(hK.2 i hi aI).trans (by have hv:=cR hv;simp only[go_sem,↓reduceIte,Nat.reduceEqDiff,Nat.reduceAdd,Nat.reduceSub,Nat.reduceLeDiff,reduceCtorEq,hv]);clear hK h;apply hN;clear hN N
 by_cases e0:v=0
 ·subst e0;(try((repeat(revert N;apply g7));refine wk @g8 ?_;repeat(apply g6;intro N hN)));refine .inr (ax _ _ _ _ _ (fun r σ2 hq=>?_) (Ld bs hb iy X _ ae _ h1 aI));obtain⟨hS,_,hK⟩:=hq;obtain⟨g2,x2⟩:=σ2;(try dsimp only at hS);have qf:=hK.1;(try dsimp only at qf);have mQ:=(hK.2 ⟨23000000,σ.next⟩ (fun e=>by rw[<-e]at hX;(try dsimp only at hX);omega) aI).trans lO;have KC:∀i:Id,i≠X->i.bH<σ.next->g2 i=σ.get i:=fun i hi hv=>(hK.2 i hi aI).trans (qS i hi hv);(try dsimp only at mQ);clear hK;obtain⟨vg,vt,o,m,rfl,⟨c1,c2⟩,c3,c4⟩:=hS.parts;unfold AV.cells at c1 c3;unfold AV.cell at c2 c4;apply hN;clear hN N;(try((repeat(revert N;apply g7));refine wk (tw5 @c1 @c2 @c3 @c4 @mQ) ?_;repeat(apply g6;intro N hN)))
  exact eH (.inl rfl) (vs:=[.agg [vg,vt,.own o 0 1,.int .i64 m]]) (sd (tw4 @c1 @c2 @c3 @c4)) ⟨(hS.frame aI fun u h1 h2=>(by
   have h9:∀s,(u=⟨s,σ.next⟩)=False:=fun s=>eq_false fun h=>by rw[h]at h1;(try dsimp only at h1);omega
   simp only[go_sem,↓reduceIte,Nat.reduceEqDiff,Nat.reduceAdd,Nat.reduceSub,Nat.reduceLeDiff,reduceCtorEq,h9])).since aI,aI,fun u h1 h2=>(by
   have h9:=cR h2
   simp only[go_sem,↓reduceIte,Nat.reduceEqDiff,Nat.reduceAdd,Nat.reduceSub,Nat.reduceLeDiff,reduceCtorEq,h9]<;>exact KC u h1 h2)⟩
 by_cases e1:v=1
 ·subst e1;(try((repeat(revert N;apply g7));refine wk @g8 ?_;repeat(apply g6;intro N hN)));refine .inr (ax _ _ _ _ _ (fun r σ2 hq=>?_) (zA bs hb iy X _ ae _ h1 aI));obtain⟨hS,_,hK⟩:=hq;obtain⟨g2,x2⟩:=σ2;(try dsimp only at hS);have qf:=hK.1;(try dsimp only at qf);have mQ:=(hK.2 ⟨23000000,σ.next⟩ (fun e=>by rw[<-e]at hX;(try dsimp only at hX);omega) aI).trans lO;have KC:∀i:Id,i≠X->i.bH<σ.next->g2 i=σ.get i:=fun i hi hv=>(hK.2 i hi aI).trans (qS i hi hv);(try dsimp only at mQ);clear hK;obtain⟨vg,vt,o,m,rfl,⟨c1,c2⟩,c3,c4⟩:=hS.parts;unfold AV.cells at c1 c3;unfold AV.cell at c2 c4;apply hN;clear hN N;(try((repeat(revert N;apply g7));refine wk (tw5 @c1 @c2 @c3 @c4 @mQ) ?_;repeat(apply g6;intro N hN)))
  exact eH (.inl rfl) (vs:=[.agg [vg,vt,.own o 0 1,.int .i64 m]]) (sd (tw4 @c1 @c2 @c3 @c4)) ⟨(hS.frame aI fun u h1 h2=>(by
   have h9:∀s,(u=⟨s,σ.next⟩)=False:=fun s=>eq_false fun h=>by rw[h]at h1;(try dsimp only at h1);omega
   simp only[go_sem,↓reduceIte,Nat.reduceEqDiff,Nat.reduceAdd,Nat.reduceSub,Nat.reduceLeDiff,reduceCtorEq,h9])).since aI,aI,fun u h1 h2=>(by
   have h9:=cR h2
   simp only[go_sem,↓reduceIte,Nat.reduceEqDiff,Nat.reduceAdd,Nat.reduceSub,Nat.reduceLeDiff,reduceCtorEq,h9]<;>exact KC u h1 h2)⟩
 by_cases e2:v=2
 ·subst e2;(try((repeat(revert N;apply g7));refine wk @g8 ?_;repeat(apply g6;intro N hN)));refine .inr (ax _ _ _ _ _ (fun r σ2 hq=>?_) (zA bs hb iy X _ ae _ h1 aI));obtain⟨hS,_,hK⟩:=hq;obtain⟨g2,x2⟩:=σ2;(try dsimp only at hS);have qf:=hK.1;(try dsimp only at qf);have mQ:=(hK.2 ⟨23000000,σ.next⟩ (fun e=>by rw[<-e]at hX;(try dsimp only at hX);omega) aI).trans lO;have KC:∀i:Id,i≠X->i.bH<σ.next->g2 i=σ.get i:=fun i hi hv=>(hK.2 i hi aI).trans (qS i hi hv);(try dsimp only at mQ);clear hK;obtain⟨vg,vt,o,m,rfl,⟨c1,c2⟩,c3,c4⟩:=hS.parts;unfold AV.cells at c1 c3;unfold AV.cell at c2 c4;apply hN;clear hN N;(try((repeat(revert N;apply g7));refine wk (tw5 @c1 @c2 @c3 @c4 @mQ) ?_;repeat(apply g6;intro N hN)))
  exact eH (.inl rfl) (vs:=[.agg [vg,vt,.own o 0 1,.int .i64 m]]) (sd (tw4 @c1 @c2 @c3 @c4)) ⟨(hS.frame aI fun u h1 h2=>(by
   have h9:∀s,(u=⟨s,σ.next⟩)=False:=fun s=>eq_false fun h=>by rw[h]at h1;(try dsimp only at h1);omega
   simp only[go_sem,↓reduceIte,Nat.reduceEqDiff,Nat.reduceAdd,Nat.reduceSub,Nat.reduceLeDiff,reduceCtorEq,h9])).since aI,aI,fun u h1 h2=>(by
   have h9:=cR h2
   simp only[go_sem,↓reduceIte,Nat.reduceEqDiff,Nat.reduceAdd,Nat.reduceSub,Nat.reduceLeDiff,reduceCtorEq,h9]<;>exact KC u h1 h2)⟩
 ·have f0:=decide_eq_false e0;have f1:=decide_eq_false e1;have f2:=decide_eq_false e2;(try((repeat(revert N;apply g7));refine wk (tw3 @f0 @f1 @f2) ?_;repeat(apply g6;intro N hN)));refine .inr (ax _ _ _ _ _ (fun r σ2 hq=>?_) (hC bs hb iy X _ ae _ h1 aI));obtain⟨hS,_,hK⟩:=hq;obtain⟨g2,x2⟩:=σ2;(try dsimp only at hS);have qf:=hK.1;(try dsimp only at qf);have mQ:=(hK.2 ⟨23000000,σ.next⟩ (fun e=>by rw[<-e]at hX;(try dsimp only at hX);omega) aI).trans lO;have KC:∀i:Id,i≠X->i.bH<σ.next->g2 i=σ.get i:=fun i hi hv=>(hK.2 i hi aI).trans (qS i hi hv);(try dsimp only at mQ);clear hK;obtain⟨vg,vt,o,m,rfl,⟨c1,c2⟩,c3,c4⟩:=hS.parts;unfold AV.cells at c1 c3;unfold AV.cell at c2 c4;apply hN;clear hN N;(try((repeat(revert N;apply g7));refine wk (tw5 @c1 @c2 @c3 @c4 @mQ) ?_;repeat(apply g6;intro N hN)))
  exact eH (.inl rfl) (vs:=[.agg [vg,vt,.own o 0 1,.int .i64 m]]) (sd (tw4 @c1 @c2 @c3 @c4)) ⟨(hS.frame aI fun u h1 h2=>(by
   have h9:∀s,(u=⟨s,σ.next⟩)=False:=fun s=>eq_false fun h=>by rw[h]at h1;(try dsimp only at h1);omega
   simp only[go_sem,↓reduceIte,Nat.reduceEqDiff,Nat.reduceAdd,Nat.reduceSub,Nat.reduceLeDiff,reduceCtorEq,h9])).since aI,aI,fun u h1 h2=>(by
   have h9:=cR h2
   simp only[go_sem,↓reduceIte,Nat.reduceEqDiff,Nat.reduceAdd,Nat.reduceSub,Nat.reduceLeDiff,reduceCtorEq,h9]<;>exact KC u h1 h2)⟩
theorem GR (hC:yK 59) (bs:List Int) (hb:∀b∈bs,0<=b/\b<=255) (iy:bs.length<=4096):
  kh Tryz.prog 6 [.sl (bs.map iq)] fun r=>∃s:ar,XA s/\r=.agg (aK s):=by
 refine kh.body fx rfl fun fM n0=>?_;clear fM;(try((repeat(revert N;apply g7));refine wk @g8 ?_;repeat(apply g6;intro N hN)));refine .inr (ax _ _ _ _ _ (fun r σ1 hq=>?_) (wQ bs _));obtain⟨X,rfl,x0,x1,hs,hK⟩:=hq;obtain⟨g1,n1⟩:=σ1;(try dsimp only at x0 x1 hs);apply hN;clear hN N;have lO:=hK ⟨6000000,n0⟩ aI;simp only[go_sem,↓reduceIte,Nat.reduceEqDiff,Nat.reduceAdd,Nat.reduceSub,Nat.reduceLeDiff,reduceCtorEq]at lO;(try dsimp only at lO);clear hK;(try((repeat(revert N;apply g7));refine wk @g8 ?_;repeat(apply g6;intro N hN)));refine .inr (ax _ _ _ _ _ (fun r σ2 hq=>?_) (FT hC bs hb iy X 0 ae _ hs aI));obtain⟨hS,hK⟩:=hq;obtain⟨g2,x2⟩:=σ2;(try dsimp only at hS);have qf:=hK.1;(try dsimp only at qf);have mQ:=(hK.2 ⟨6000000,n0⟩ (fun e=>by rw[<-e]at x0;(try dsimp only at x0);omega) aI).trans lO;(try dsimp only at mQ);clear hK;obtain⟨vg,vt,o,m,rfl,⟨c1,c2⟩,c3,c4⟩:=hS.parts;unfold AV.cells at c1 c3;unfold AV.cell at c2 c4;apply hN;clear hN N;(try((repeat(revert N;apply g7));refine wk (tw5 @c1 @c2 @c3 @c4 @mQ) ?_;repeat(apply g6;intro N hN)))
 have hF:oz (n1+1) (bJ g2 ⟨6000000,n0⟩ ⟨true,4,[[vg,vt,.own o 0 1,.int .i64 m]]⟩) x2 (.agg [vg,vt,.own o 0 1,.int .i64 m]):=hS.frame i4 fun u h1 h2=>(by
  have h9:∀s,(u=⟨s,n0⟩)=False:=fun s=>eq_false fun h=>by rw[h]at h1;(try dsimp only at h1);omega
  simp only[go_sem,↓reduceIte,Nat.reduceEqDiff,Nat.reduceAdd,Nat.reduceSub,Nat.reduceLeDiff,reduceCtorEq,h9])
 obtain⟨s,Dj,Q1⟩:=hF.fz;exact⟨[.agg [vg,vt,.own o 0 1,.int .i64 m]],sd (tw4 @c1 @c2 @c3 @c4),_,Q1,s,Dj,rfl⟩
abbrev mP:MK:=⟨true,[.tI,.tI]⟩
theorem F3 (p:af):∀(ts:List aa) (i:Nat),ig mP (ab p) (ts.map ad) i=some (if sQ ts p<ts.length then some (i+sQ ts p)else none)
 |[],i=>by simp[ig,sQ]
 |t::ts,i=>by
  have e:eF mP.ts (ab p) ((ad t).take mP.ks)=some (decide (p=t.aH)):=by
   have h:(p=t.aH)↔(p.eV=t.aH.eV/\p.eR=t.aH.eR):=⟨fun h=>by rw[h];exact⟨rfl,rfl⟩,fun h=>zY h.1 h.2⟩
   simp[MK.ks,ab,ad,eF,e8,h]
  have ih:=F3 p ts (i+1);rw[List.map_cons];unfold ig;rw[e]
  by_cases h:p=t.aH
  ·rw[decide_eq_true h];have h0:sQ (t::ts) p=0:=by simp[sQ,List.findIdx_cons,h]
   simp[h0]
  ·rw[decide_eq_false h]
   have h0:sQ (t::ts) p=sQ ts p+1:=by
    simp[sQ,List.findIdx_cons,Ne.symm h]
   simp only[ih,h0,List.length_cons,Nat.add_lt_add_iff_right]
   congr 1
   split<;>simp;omega
theorem B8 (ts:List aa) (p:af):gZ mP (.agg [.int .i64 p.eV,.int .i64 p.eR]) (ts.map ad)=some (if 0<=ei ts p then some (ei ts p).toNat else none):=by
 have h:=F3 p ts 0;unfold gZ;rw[if_pos ⟨rfl,rfl,rfl⟩];show ig mP (ab p) _ 0= _;rw[h];unfold ei
 split<;>simp
theorem Ln {ts:List aa} {p:af} (h:0<=ei ts p):gZ mP (.agg [.int .i64 p.eV,.int .i64 p.eR]) (ts.map ad)=some (some (ei ts p).toNat):=by rw[B8,if_pos h]
theorem pB {ts:List aa} {p:af} (h:ei ts p<0):gZ mP (.agg [.int .i64 p.eV,.int .i64 p.eR]) (ts.map ad)=some none:=by rw[B8,if_neg ae]
structure Bg (g:Rows) (n:Nat) (c T O:Id) (s:ar) (ts:List aa):Prop where
 row:∃b,g c=some ⟨b,6,[[.sl (s.ay.bM.map dU),.sl (s.ay.aq.map dp),.sl (s.cw.aq.map ad),.int .i64 s.aQ,.map T mP,.map O mP]]⟩
 tl:∃b,g T=some ⟨b,mP.j6,ts.map ad⟩
 cv:c.bH<n
 tv:T.bH<n
 ov:O.bH<n
theorem Bg.ro {g:Rows} {n:Nat} {c T O:Id} {s:ar} {ts:List aa} (h:Bg g n c T O s ts):Bg (V.ro g) n c T O s ts:=by
 obtain⟨b,h1⟩:=h.row;obtain⟨b2,h2⟩:=h.tl;exact⟨⟨false,by simp[V.ro,h1]⟩,⟨false,by simp[V.ro,h2]⟩,h.cv,h.tv,h.ov⟩
theorem Bg.frame {g g':Rows} {n n':Nat} {c T O:Id} {s:ar} {ts:List aa} (h:Bg g n c T O s ts) (hn:n<=n') (hc:g' c=g c) (hT:g' T=g T):Bg g' n' c T O s ts:=
 ⟨by rw[hc];exact h.row,by rw[hT];exact h.tl,Nat.lt_of_lt_of_le h.cv hn,Nat.lt_of_lt_of_le h.tv hn,Nat.lt_of_lt_of_le h.ov hn⟩
theorem at_c {σ:aw} {c T O:Id} {s:ar} {ts:List aa} (h:Bg σ.get σ.next c T O s ts) (p:af):Call Tryz.prog 78 [.ptr c 0 0,.agg (ab p)] σ (fun r _=>r=.int .i64 (ej ts p)):=by
 refine fG fx rfl fun fM=>?_;clear fM;obtain⟨b,h1⟩:=h.row;obtain⟨b2,h2⟩:=h.tl;have v1:=cR h.cv;have v2:=cR h.tv
 by_cases h0:0<=ei ts p
 ·have hm:=Ln h0;have hg:=fZ (iz h0).1;have ho:(some (ei ts p).toNat).isSome=true:=rfl;(try((repeat(revert N;apply g7));refine wk (tw9 @h1 @h2 @v1 @v2 @hm @hg @ho @ab.eq_1 @ad.eq_1) ?_;repeat(apply g6;intro N hN)));exact eH (.inl rfl) (vs:=[.int .i64 (bc ts (ei ts p).toNat).bK]) (sd @g8) (by rw[ej,if_pos h0];rfl)
 ·have hm:=pB (ts:=ts) (p:=p) ae;have ho:(none:Option Nat).isSome=false:=rfl;(try((repeat(revert N;apply g7));refine wk (tw7 @h1 @h2 @v1 @v2 @hm @ho @ab.eq_1) ?_;repeat(apply g6;intro N hN)));exact eH (.inl rfl) (vs:=[.int .i64 (-1)]) (sd @g8) (by rw[ej,if_neg h0];rfl)
theorem T7 {σ:aw} {c T O:Id} {s:ar} {ts:List aa} (h:Bg σ.get σ.next c T O s ts) (p:af):fm (Call Tryz.prog) 78 [.ptr c 0 0,.agg (ab p)] σ (fun r=>r=.int .i64 (ej ts p)):=by
 unfold fm PC;exact Or.inl (ax _ _ _ _ _ (fun r σ' hr=>⟨_,by rw[hr];exact aL _ _ _ _,rfl⟩) (at_c (σ:=⟨V.ro σ.get,σ.next⟩) h.ro p))
theorem Ke {σ:aw} (s:aE) (hS:gz s) (F:af->Int) (hF:∀q,0<=F q->eE s (F q)=true) (p:af) (hx:iB p.eV) (hy:iB p.eR) (t:Int) (ht:eE s t=true) (f:Nat) (first:List AV)
  (qb:∀σ':aw,σ.next<=σ'.next->(∀x:Id,x.bH<σ.next->σ'.get x=σ.get x)->∀q,fm (Call Tryz.prog) f (first++[.agg (ab q)]) σ' (fun r=>r=.int .i64 (F q))):
  Call Tryz.prog 77 [.agg (ai s),.agg (ab p),.int .i64 t,.xH f first] σ (fun r _=>r=.int .i64 (iT s F p t)):=by
 refine fG fx rfl fun fM=>?_;clear fM;(try((repeat(revert N;apply g7));refine wk (tw @ab.eq_1 @ai.eq_1) ?_;repeat(apply g6;intro N hN)))
 refine cj (fun n env st=>∃k:Nat,n=(4)-k/\k<=(4)/\env 12=.int .i64 (k:Int)/\env 9=.int .i64 (dv s F p t k)/\st.get ⟨77000000,σ.next⟩=some ⟨true,2,[ai s]⟩/\st.get ⟨77000001,σ.next⟩=some ⟨true,2,[ab p]⟩/\(σ.next<st.next/\∀x:Id,x.bH<σ.next->st.get x=σ.get x)) (4) ⟨0,ae,ae,sl (tw @ab.eq_1 @ai.eq_1),sl (tw @ab.eq_1 @ai.eq_1),sl (tw @ab.eq_1 @ai.eq_1),sl (tw @ab.eq_1 @ai.eq_1),⟨aI,fun x hx=>by
  have:=cR hx
  simp only[go_sem,↓reduceIte,Nat.reduceEqDiff,Nat.reduceAdd,Nat.reduceSub,Nat.reduceLeDiff,reduceCtorEq,this]⟩⟩ ?_
 rintro n_a m3 i8 ⟨k,rfl,ale,a12,a9,eK,jx,mD⟩ eC;have a2:=eC 2 g9;have a3:=eC 3 g9;have a4:=eC 4 g9;have a5:=eC 5 g9;simp only[go_sem,↓reduceIte,Nat.reduceEqDiff,Nat.reduceAdd,Nat.reduceSub,Nat.reduceLeDiff,reduceCtorEq,ab,ai]at a2 a3 a4 a5;clear eC;obtain⟨an,eC⟩:=mD
 by_cases hk:(k:Int)<4
 ·have dW:∀{e:Env} {gg:Rows} {nx:Nat},(e 12=.int .i64 (IntKind.i64.wrap ((k:Int)+1)))->(e 9=.int .i64 (dv s F p t (k+1)))->(gg ⟨77000000,σ.next⟩=some ⟨true,2,[ai s]⟩)->(gg ⟨77000001,σ.next⟩=some ⟨true,2,[ab p]⟩)->(σ.next<nx/\∀x:Id,x.bH<σ.next->gg x=σ.get x)->∃m0,m0<(4)-k/\∃k:Nat,m0=(4)-k/\k<=(4)/\e 12=.int .i64 (k:Int)/\e 9=.int .i64 (dv s F p t k)/\gg ⟨77000000,σ.next⟩=some ⟨true,2,[ai s]⟩/\gg ⟨77000001,σ.next⟩=some ⟨true,2,[ab p]⟩/\(σ.next<nx/\∀x:Id,x.bH<σ.next->gg x=σ.get x):=fun x1 x2 x3 x4 x5=>⟨_,ae,k+1,rfl,ae,(by rw[x1,aZ ae]),x2,x3,x4,x5⟩;have ez:=xf p k (jc ae) hx hy;have jI:=jK hS F p t k
  (have zF:=tw9 @a12 @a9 @eK @jx @a2 @a3 @a4 @a5 (tw @hk @ab.eq_1);(repeat(first|((repeat(revert N;apply g7));refine wk zF ?_;repeat(apply g6;intro N hN))|((try apply i3);refine⟨_,au.x (ez) (sd zF),?_⟩;apply hN;clear hN N)));try clear zF)
  refine .inl ⟨_,qb _ aI (fun x hx=>sd (eC x hx)) (bI p k),?_⟩;apply hN;clear hN N
  by_cases h0:0<=F (bI p k)
  ·have Eh:=MR s hS.form t k (F (bI p k)) ht (hF _ h0) (jc ae);have qc:=uu hS t k (F (bI p k))
   have hw:IntKind.i64.wrap (dv s F p t k+fQ s t k (F (bI p k)))=dv s F p t (k+1):=by
    rw[db ae,dv,if_pos h0]
   rw[ai]at Eh
   (have zF:=tw9 @a12 @a9 @eK @jx @a2 @a3 @a4 @a5 (tw @h0 @ai.eq_1);(repeat(first|((repeat(revert N;apply g7));refine wk zF ?_;repeat(apply g6;intro N hN))|((try apply i3);refine⟨_,au.x (Eh) (sd zF),?_⟩;apply hN;clear hN N)));try clear zF)
   refine dW ?_ ?_ ?_ ?_ (⟨aI,fun x hx=>by
    have h1:=eC x hx
    simp only[go_sem,↓reduceIte,Nat.reduceEqDiff,Nat.reduceAdd,Nat.reduceSub,Nat.reduceLeDiff,reduceCtorEq,h1]⟩)
   all_goals simp only[go_sem,↓reduceIte,Nat.reduceEqDiff,Nat.reduceAdd,Nat.reduceSub,Nat.reduceLeDiff,reduceCtorEq,a12,a9,eK,jx,a2,a3,a4,a5,hw,ab,ai]
  ·have hw:dv s F p t (k+1)=dv s F p t k:=by rw[dv,if_neg h0,Int.add_zero]
   (try((repeat(revert N;apply g7));refine wk (tw9 @a12 @a9 @eK @jx @a2 @a3 @a4 @a5 @h0) ?_;repeat(apply g6;intro N hN)))
   refine dW ?_ ?_ ?_ ?_ (⟨aI,fun x hx=>by
    have h1:=eC x hx
    simp only[go_sem,↓reduceIte,Nat.reduceEqDiff,Nat.reduceAdd,Nat.reduceSub,Nat.reduceLeDiff,reduceCtorEq,h1]⟩)
   all_goals simp only[go_sem,↓reduceIte,Nat.reduceEqDiff,Nat.reduceAdd,Nat.reduceSub,Nat.reduceLeDiff,reduceCtorEq,a12,a9,eK,jx,a2,a3,a4,a5,hw,ab,ai]
 ·(try((repeat(revert N;apply g7));refine wk (tw9 @a12 @a9 @eK @jx @a2 @a3 @a4 @a5 @hk) ?_;repeat(apply g6;intro N hN)));exact eH (.inl rfl) (vs:=[.int .i64 (dv s F p t k)]) (sd (tw8 @a12 @a9 @eK @jx @a2 @a3 @a4 @a5)) (by rw[show k=4 by omega];rfl)
noncomputable def eu (s:ar) (ts:List aa) (p:af) (t:Int):Bool:=s9 p&&decide (ej ts p<0)&&decide (s.aQ<=iT s.ay (ej ts) p t)
theorem Bp {σ:aw} {c T O:Id} {s:ar} {ts:List aa} (h:Bg σ.get σ.next c T O s ts) (hS:gz s.ay) (hF:∀q,0<=ej ts q->eE s.ay (ej ts q)=true) (p:af) (hx:iB p.eV) (hy:iB p.eR) (t:Int) (ht:eE s.ay t=true):
  fm (Call Tryz.prog) 77 [.agg (ai s.ay),.agg (ab p),.int .i64 t,.xH 78 [.ptr c 0 0]] σ (fun r=>r=.int .i64 (iT s.ay (ej ts) p t)):=by
 unfold fm PC
 exact Or.inl (ax _ _ _ _ _ (fun r σ' hr=>⟨_,by rw[hr];exact aL _ _ _ _,rfl⟩) (Ke (σ:=⟨V.ro σ.get,σ.next⟩) s.ay hS (ej ts) hF p hx hy t ht _ _
  (fun σ' hn hk q=>T7 (h.ro.frame hn (hk _ h.cv) (hk _ h.tv)) q)))
theorem Um {σ:aw} {c T O:Id} {s:ar} {ts:List aa} (h:Bg σ.get σ.next c T O s ts) (hS:gz s.ay) (hF:∀q,0<=ej ts q->eE s.ay (ej ts q)=true) (p:af) (t:Int) (ht:eE s.ay t=true):
  Call Tryz.prog 131 [.ptr c 0 0,.agg (ab p),.int .i64 t] σ (fun r _=>r=.bool (eu s ts p t)):=by
 refine fG fx rfl fun fM=>?_;clear fM;obtain⟨b,h1⟩:=h.row;have v1:=cR h.cv;have hw:=mm p;have v2:=cR h.tv
 by_cases h0:s9 p=true
 ·rw[h0]at hw;obtain⟨hx,hy⟩:=np h0
  by_cases h2:ej ts p<0
  ·(have zF:=tw4 @h1 @v1 @h2 @ab.eq_1;(repeat(first|((repeat(revert N;apply g7));refine wk zF ?_;repeat(apply g6;intro N hN))|((try apply i3);refine⟨_,au.x (hw) (sd zF),?_⟩;apply hN;clear hN N)));try clear zF)
   refine⟨_,T7 (h.frame aI (sd @v1) (sd @v2)) p,?_⟩;apply hN;clear hN N
   (have zF:=tw5 @h1 @v1 @h2 @ab.eq_1 @ai.eq_1;(repeat(first|((repeat(revert N;apply g7));refine wk zF ?_;repeat(apply g6;intro N hN))|((try apply i3);refine⟨_,au.x (hw) (sd zF),?_⟩;apply hN;clear hN N)));try clear zF)
   refine⟨_,Bp (h.frame aI (sd @v1) (sd @v2)) hS hF p hx hy t ht,?_⟩;apply hN;clear hN N;have hb:=jK hS (ej ts) p t 4
   (have zF:=tw5 @h1 @v1 @h2 @ab.eq_1 @ai.eq_1;(repeat(first|((repeat(revert N;apply g7));refine wk zF ?_;repeat(apply g6;intro N hN))|((try apply i3);refine⟨_,au.x (hw) (sd zF),?_⟩;apply hN;clear hN N)));try clear zF)
   exact eH (.inl rfl) (vs:=[.bool (decide (s.aQ<=iT s.ay (ej ts) p t))]) (sd @g8) (by rw[show eu s ts p t=decide (s.aQ<=iT s.ay (ej ts) p t) by simp[eu,h0,h2]];rfl)
  ·(have zF:=tw4 @h1 @v1 @h2 @ab.eq_1;(repeat(first|((repeat(revert N;apply g7));refine wk zF ?_;repeat(apply g6;intro N hN))|((try apply i3);refine⟨_,au.x (hw) (sd zF),?_⟩;apply hN;clear hN N)));try clear zF)
   refine⟨_,T7 (h.frame aI (sd @v1) (sd @v2)) p,?_⟩;apply hN;clear hN N
   (have zF:=tw4 @h1 @v1 @h2 @ab.eq_1;(repeat(first|((repeat(revert N;apply g7));refine wk zF ?_;repeat(apply g6;intro N hN))|((try apply i3);refine⟨_,au.x (hw) (sd zF),?_⟩;apply hN;clear hN N)));try clear zF)
   exact eH (.inl rfl) (vs:=[.bool false]) (sd @g8) (by rw[show eu s ts p t=false by simp[eu,h2]];rfl)
 ·rw[Bool.not_eq_true]at h0;rw[h0]at hw
  (have zF:=tw3 @h1 @v1 @ab.eq_1;(repeat(first|((repeat(revert N;apply g7));refine wk zF ?_;repeat(apply g6;intro N hN))|((try apply i3);refine⟨_,au.x (hw) (sd zF),?_⟩;apply hN;clear hN N)));try clear zF)
  exact eH (.inl rfl) (vs:=[.bool false]) (sd @g8) (by rw[show eu s ts p t=false by simp[eu,h0]];rfl)
def OW (rows:List (List AV)):Prop:=∀r∈rows,∃(x y:Int) (v:AV),r=[.int .i64 x,.int .i64 y,v]
theorem JA (x y:Int):∀(rows:List (List AV)) (i:Nat),OW rows->∃fi,ig mP [.int .i64 x,.int .i64 y] rows i=some fi
 |[],i,_=>⟨none,by simp[ig]⟩
 |r::rs,i,h=>by
  obtain⟨fi,hf⟩:=JA x y rs (i+1) fun r hr=>h r (by simp[hr]);obtain⟨x',y',v,rfl⟩:=h r (by simp);unfold ig
  have e:eF mP.ts [.int .i64 x,.int .i64 y] (([.int .i64 x',.int .i64 y',v]:List AV).take mP.ks)=some (decide (x=x')&&decide (y=y')):=by
   simp[MK.ks,eF,e8]
  rw[e]
  cases decide (x=x')&&decide (y=y')
  ·exact⟨fi,hf⟩
  ·exact⟨some i,rfl⟩
theorem OE {rows:List (List AV)} (h:OW rows) (x y:Int):∃fi,gZ mP (.agg [.int .i64 x,.int .i64 y]) rows=some fi:=by
 unfold gZ;rw[if_pos ⟨rfl,rfl,rfl⟩];exact JA x y rows 0 h
theorem Vv {rows:List (List AV)} (h:OW rows) (x y:Int) (v:AV) (fi:Option Nat):OW (dn rows [.int .i64 x,.int .i64 y,v] fi):=by
 intro r hr
 cases fi with
 |none=>
  rcases List.mem_append.1 (show r∈rows++[_]from hr)with h1|h1
  ·exact h r h1
  ·simp at h1;exact⟨x,y,v,h1⟩
 |some i=>
  rcases List.mem_or_eq_of_mem_set (show r∈rows.set i _ from hr)with h1|h1
  ·exact h r h1
  ·exact⟨x,y,v,h1⟩
theorem Vt {rows:List (List AV)} (h:OW rows) (fi:Option Nat):OW (dm rows fi):=by
 intro r hr
 cases fi with
 |none=>exact h r (by simpa[dm]using hr)
 |some i=>exact h r (List.mem_of_mem_eraseIdx (by simpa[dm]using hr))
def lj (σ:aw) (O:Id) (g:Rows) (n:Nat):Prop:=σ.next<=n/\(∀x:Id,x.bH<σ.next->x≠O->g x=σ.get x)/\∃rows,g O=some ⟨true,mP.j6,rows⟩/\OW rows
theorem lj.CX {σ:aw} {g:Rows} {n:Nat} {c T O:Id} {s:ar} {ts:List aa} (h:Bg σ.get σ.next c T O s ts) (hc:c≠O) (hT:T≠O) (k:lj σ O g n):Bg g n c T O s ts:=
 h.frame k.1 (k.2.1 _ h.cv hc) (k.2.1 _ h.tv hT)
theorem lj.frame {a:aw} {O:Id} {g g':Rows} {n n' m:Nat} (h:lj a O g n) (ha:a.next<=m) (ho:O.bH<m) (hn:n<=n') (hf:∀x:Id,x.bH<m->g' x=g x):lj a O g' n':=by
 refine⟨Nat.le_trans h.1 hn,fun x hx hO=>(hf x (Nat.lt_of_lt_of_le hx ha)).trans (h.2.1 x hx hO),?_⟩;obtain⟨rows,h1,h2⟩:=h.2.2;exact⟨rows,(hf O ho).trans h1,h2⟩
theorem lj.write {a:aw} {O:Id} {g g':Rows} {n n':Nat} (h:lj a O g n) (hn:n<=n') (hf:∀x:Id,x.bH<a.next->x≠O->g' x=g x) {rows:List (List AV)} (ho:g' O=some ⟨true,mP.j6,rows⟩) (hw:OW rows):lj a O g' n':=
 ⟨Nat.le_trans h.1 hn,fun x hx hO=>(hf x hx hO).trans (h.2.1 x hx hO),rows,ho,hw⟩
theorem Nb {σ:aw} {c T O:Id} {s:ar} {ts:List aa} (h:Bg σ.get σ.next c T O s ts) (hS:gz s.ay) (hF:∀q,0<=ej ts q->eE s.ay (ej ts q)=true) (p:af) (t:Int) (ht:eE s.ay t=true):
  fm (Call Tryz.prog) 131 [.ptr c 0 0,.agg (ab p),.int .i64 t] σ (fun r=>r=.bool (eu s ts p t)):=by
 unfold fm PC;exact Or.inl (ax _ _ _ _ _ (fun r σ' hr=>⟨_,by rw[hr];exact aW _ _ _,rfl⟩) (Um (σ:=⟨V.ro σ.get,σ.next⟩) h.ro hS hF p t ht))
theorem Dw {σ:aw} {c T O:Id} {s:ar} {ts:List aa} (h:Bg σ.get σ.next c T O s ts) (hc:c≠O) (hT:T≠O) (hO:∃rows,σ.get O=some ⟨true,mP.j6,rows⟩/\OW rows) (hS:gz s.ay) (hF:∀q,0<=ej ts q->eE s.ay (ej ts q)=true) (p:af) (hx:iB p.eV) (hy:iB p.eR):
  Call Tryz.prog 89 [.ptr c 0 0,.agg (ab p)] σ (fun r σ'=>r=.gG []/\lj σ O σ'.get σ'.next):=by
 refine fG fx rfl fun fM=>?_;clear fM;have AE:=hS.qj
 have h0:lj σ O σ.get σ.next:=⟨Nat.le_refl _,fun _ _ _=>rfl,hO⟩
 (try((repeat(revert N;apply g7));refine wk @ab.eq_1 ?_;repeat(apply g6;intro N hN)))
 refine cj (fun n env st=>∃k:Nat,n=(4)-k/\k<=(4)/\env 8=.int .i64 (k:Int)/\st.get ⟨89000000,σ.next⟩=some ⟨true,2,[ab p]⟩/\(σ.next<st.next/\lj σ O st.get st.next)) (4) ⟨0,ae,ae,sl @ab.eq_1,sl @ab.eq_1,⟨aI,h0.frame i4 h.ov aI fun x hx=>by
  have:=cR hx
  simp only[go_sem,↓reduceIte,Nat.reduceEqDiff,Nat.reduceAdd,Nat.reduceSub,Nat.reduceLeDiff,reduceCtorEq,this]⟩⟩ ?_
 rintro n_a m3 i8 ⟨k,rfl,ale,a8,eK,mD⟩ eC;have a0:=eC 0 g9;have a3:=eC 3 g9;simp only[go_sem,↓reduceIte,Nat.reduceEqDiff,Nat.reduceAdd,Nat.reduceSub,Nat.reduceLeDiff,reduceCtorEq,ab]at a0 a3;clear eC;obtain⟨an,ak⟩:=mD;have ha:=ak.CX h hc hT
 by_cases hk:(k:Int)<4
 ·have dW:∀{e:Env} {gg:Rows} {nx:Nat},(e 8=.int .i64 (IntKind.i64.wrap ((k:Int)+1)))->(gg ⟨89000000,σ.next⟩=some ⟨true,2,[ab p]⟩)->(σ.next<nx/\lj σ O gg nx)->∃m0,m0<(4)-k/\∃k:Nat,m0=(4)-k/\k<=(4)/\e 8=.int .i64 (k:Int)/\gg ⟨89000000,σ.next⟩=some ⟨true,2,[ab p]⟩/\(σ.next<nx/\lj σ O gg nx):=fun x1 x2 x3=>⟨_,ae,k+1,rfl,ae,(by rw[x1,aZ ae]),x2,x3⟩;have ez:=xf p k (jc ae) hx hy;obtain⟨b,h1⟩:=ha.row;have v1:=cR ha.cv
  (have zF:=tw8 @a8 @eK @a0 @a3 @hk @h1 @v1 @ab.eq_1;(repeat(first|((repeat(revert N;apply g7));refine wk zF ?_;repeat(apply g6;intro N hN))|((try apply i3);refine⟨_,au.x (ez) (sd zF),?_⟩;apply hN;clear hN N)));try clear zF)
  refine cj (fun n env st=>∃t:Nat,n=(s.ay.aq.length)-t/\t<=(s.ay.aq.length)/\env 21=.int .i64 (t:Int)/\st.get ⟨89000000,σ.next⟩=some ⟨true,2,[ab p]⟩/\st.get ⟨89004003,i8.next+1+1⟩=some ⟨true,2,[ab (bI p k)]⟩/\(i8.next+3<=st.next/\lj σ O st.get st.next/\(env 6=.ck∨∃(o:Id) (n:Nat) (rows:List (List AV)),env 6=.own o 0 n/\st.get o=some ⟨true,1,rows⟩/\rows.length=n/\0<n/\n<=t/\i8.next+3<=o.bH/\o.bH<st.next))) (s.ay.aq.length) ⟨0,ae,ae,sl (tw5 @a8 @eK @a0 @a3 @ab.eq_1),sl (tw5 @a8 @eK @a0 @a3 @ab.eq_1),sl (tw5 @a8 @eK @a0 @a3 @ab.eq_1),⟨aI,ak.frame ak.1 ha.ov aI fun x hx=>(by
   have:=cR hx
   simp only[go_sem,↓reduceIte,Nat.reduceEqDiff,Nat.reduceAdd,Nat.reduceSub,Nat.reduceLeDiff,reduceCtorEq,this]),.inl (sd @g8)⟩⟩ ?_
  rintro n_b m4 i9 ⟨t,rfl,ble,b21,bg0,bg1,bI0⟩ eB;have b0:=eB 0 g9;have b3:=eB 3 g9;have b5:=eB 5 g9;have b8:=eB 8 g9;have nD:=eB 20 g9;simp only[go_sem,↓reduceIte,Nat.reduceEqDiff,Nat.reduceAdd,Nat.reduceSub,Nat.reduceLeDiff,reduceCtorEq,a8,eK,a0,a3,ab]at b0 b3 b5 b8 nD;clear eB;obtain⟨bn,bk,b6⟩:=bI0;have Ma:=bk.CX h hc hT;obtain⟨b2,h2⟩:=Ma.row;have v2:=cR Ma.cv;have vt:=cR (i:=⟨89000000,σ.next⟩) (n:=i9.next) aI;have vq:=cR (i:=⟨89004003,i8.next+1+1⟩) (n:=i9.next) aI
  by_cases ht:(t:Int)<(s.ay.aq.length:Int)
  ·have ep:∀{e:Env} {gg:Rows} {nx:Nat},(e 21=.int .i64 (IntKind.i64.wrap ((t:Int)+1)))->(gg ⟨89000000,σ.next⟩=some ⟨true,2,[ab p]⟩)->(gg ⟨89004003,i8.next+1+1⟩=some ⟨true,2,[ab (bI p k)]⟩)->(i8.next+3<=nx/\lj σ O gg nx/\(e 6=.ck∨∃(o:Id) (n:Nat) (rows:List (List AV)),e 6=.own o 0 n/\gg o=some ⟨true,1,rows⟩/\rows.length=n/\0<n/\n<=(t+1)/\i8.next+3<=o.bH/\o.bH<nx))->∃m0,m0<(s.ay.aq.length)-t/\∃t:Nat,m0=(s.ay.aq.length)-t/\t<=(s.ay.aq.length)/\e 21=.int .i64 (t:Int)/\gg ⟨89000000,σ.next⟩=some ⟨true,2,[ab p]⟩/\gg ⟨89004003,i8.next+1+1⟩=some ⟨true,2,[ab (bI p k)]⟩/\(i8.next+3<=nx/\lj σ O gg nx/\(e 6=.ck∨∃(o:Id) (n:Nat) (rows:List (List AV)),e 6=.own o 0 n/\gg o=some ⟨true,1,rows⟩/\rows.length=n/\0<n/\n<=t/\i8.next+3<=o.bH/\o.bH<nx)):=fun x1 x2 x3 x4=>⟨_,ae,t+1,rfl,ae,(by rw[x1,aZ ae]),x2,x3,x4⟩;have KQ:t<s.ay.aq.length:=ae;(try((repeat(revert N;apply g7));refine wk (tw9 @b21 @bg0 @bg1 @b0 @b3 @b5 @b8 @nD (tw6 @ht @h2 @v2 @vt @vq @ab.eq_1)) ?_;repeat(apply g6;intro N hN)));refine .inl ⟨_,Nb (Ma.frame aI (sd @v2) (by(have:=cR Ma.tv);simp only[go_sem,↓reduceIte,Nat.reduceEqDiff,Nat.reduceAdd,Nat.reduceSub,Nat.reduceLeDiff,reduceCtorEq,this])) hS hF (bI p k) t (vN KQ),?_⟩;apply hN;clear hN N;have gQ:∀x:Id,x.bH<i9.next->x≠⟨89010002,i9.next+1+1+1⟩:=fun x hx h=>by rw[h]at hx;(try dsimp only at hx);omega
   cases hb:eu s ts (bI p k) t
   ·(try((repeat(revert N;apply g7));refine wk (tw9 @b21 @bg0 @bg1 @b0 @b3 @b5 @b8 @nD @hb) ?_;repeat(apply g6;intro N hN)))
    refine ep ?_ ?_ ?_ (by(try dsimp only);exact⟨ae,bk.frame bk.1 Ma.ov ae (fun x hx=>by
      have h1:=cR (i:=x) (n:=i9.next) ae
      simp only[go_sem,↓reduceIte,Nat.reduceEqDiff,Nat.reduceAdd,Nat.reduceSub,Nat.reduceLeDiff,reduceCtorEq,h1]),by
     rcases b6 with h|⟨o,n,rows,h1,h2,h3,h4,h5,h6,h7⟩
     ·exact .inl (sd @h)
     ·have h8:=cR h7
      exact .inr ⟨o,n,rows,sd @h1,sd (tw @h2 @h8),h3,h4,ae,h6,ae⟩⟩)
    all_goals simp only[go_sem,↓reduceIte,Nat.reduceEqDiff,Nat.reduceAdd,Nat.reduceSub,Nat.reduceLeDiff,reduceCtorEq,b21,bg0,bg1,b0,b3,b5,b8,nD,ab,vt,vq]
   ·rcases b6 with b6|⟨o,n,rows,b6,bo,o3,o4,o5,o6,o7⟩
    ·(try((repeat(revert N;apply g7));refine wk (tw9 @b21 @bg0 @bg1 @b0 @b3 @b5 @b8 @nD (tw @b6 @hb)) ?_;repeat(apply g6;intro N hN)))
     refine ep ?_ ?_ ?_ (by(try dsimp only);exact⟨ae,bk.frame (m:=i8.next) ak.1 ha.ov ae (fun x hx=>by
      have h1:=cR (i:=x) (n:=i9.next) ae
      simp only[go_sem,↓reduceIte,Nat.reduceEqDiff,Nat.reduceAdd,Nat.reduceSub,Nat.reduceLeDiff,reduceCtorEq,h1]),.inr ⟨⟨89010003,i9.next+1+1+1⟩,1,[[.int .i64 t]],sl @g8,sd @g8,rfl,ae,ae,aI,aI⟩⟩)
     all_goals simp only[go_sem,↓reduceIte,Nat.reduceEqDiff,Nat.reduceAdd,Nat.reduceSub,Nat.reduceLeDiff,reduceCtorEq,b21,bg0,bg1,b0,b3,b5,b8,nD,ab,vt,vq]
    ·subst o3;have e1:rows.length<=16777215:=ae;have vo:=cR o7;have vto:=ew (a:=⟨89000000,σ.next⟩) (b:=o) aI;have vqo:=ew (a:=⟨89004003,i8.next+1+1⟩) (b:=o) aI;(try((repeat(revert N;apply g7));refine wk (tw9 @b21 @bg0 @bg1 @b0 @b3 @b5 @b8 @nD (tw5 @b6 @bo @hb @e1 @vo)) ?_;repeat(apply g6;intro N hN)))
     refine ep ?_ ?_ ?_ (by(try dsimp only);exact⟨ae,bk.frame (m:=i8.next) ak.1 ha.ov ae (fun x hx=>by
      have h1:=cR (i:=x) (n:=i9.next) ae;have h2:=ew (a:=x) (b:=o) ae
      simp only[go_sem,↓reduceIte,Nat.reduceEqDiff,Nat.reduceAdd,Nat.reduceSub,Nat.reduceLeDiff,reduceCtorEq,h1,h2]),.inr ⟨⟨89010003,i9.next+1+1+1⟩,rows.length+1,rows++[[.int .i64 t]],sl @g8,sd @g8,by simp,ae,ae,aI,aI⟩⟩)
     all_goals simp only[go_sem,↓reduceIte,Nat.reduceEqDiff,Nat.reduceAdd,Nat.reduceSub,Nat.reduceLeDiff,reduceCtorEq,b21,bg0,bg1,b0,b3,b5,b8,nD,ab,vt,vq,vto,vqo]
  ·obtain⟨rows,hg,Xg⟩:=bk.2.2;have vo:=cR Ma.ov;obtain⟨fi,Dd⟩:=OE Xg (bI p k).eV (bI p k).eR;have hq:((⟨89000000,σ.next⟩:Id)=O)=False:=(ew (a:=O) (b:=⟨89000000,σ.next⟩) (by have:=h.ov;(try dsimp only);omega)).2
   rcases b6 with b6|⟨o,n,rows2,b6,bo,o3,o4,o5,o6,o7⟩
   ·have d0:decide ((0:Int)<((0:Nat):Int))=false:=rfl;(try((repeat(revert N;apply g7));refine wk (tw9 @b21 @bg0 @bg1 @b0 @b3 @b5 @b8 @nD (tw9 @b6 @ht @h2 @v2 @vt @vq @vo @hg (tw3 @Dd @ab.eq_1 @d0))) ?_;repeat(apply g6;intro N hN)))
    refine dW ?_ ?_ (by(try dsimp only);exact⟨ae,bk.write ae (fun x hx Ep=>by
     have h1:=cR (i:=x) (n:=i9.next) ae;have h2:(x=O)=False:=eq_false Ep
     simp only[go_sem,↓reduceIte,Nat.reduceEqDiff,Nat.reduceAdd,Nat.reduceSub,Nat.reduceLeDiff,reduceCtorEq,h1,h2]) (sl @g8) (Vt Xg _)⟩)
    all_goals simp only[go_sem,↓reduceIte,Nat.reduceEqDiff,Nat.reduceAdd,Nat.reduceSub,Nat.reduceLeDiff,reduceCtorEq,a8,eK,a0,a3,b21,bg0,bg1,b0,b3,b5,b8,nD,ab,vt,vo,hq]
   ·have d1:decide ((0:Int)<(n:Int))=true:=decide_eq_true ae;(try((repeat(revert N;apply g7));refine wk (tw9 @b21 @bg0 @bg1 @b0 @b3 @b5 @b8 @nD (tw9 @b6 @ht @h2 @v2 @vt @vq @vo @hg (tw3 @Dd @ab.eq_1 @d1))) ?_;repeat(apply g6;intro N hN)))
    refine dW ?_ ?_ (by(try dsimp only);exact⟨ae,bk.write ae (fun x hx Ep=>by
     have h1:=cR (i:=x) (n:=i9.next) ae;have h2:(x=O)=False:=eq_false Ep
     simp only[go_sem,↓reduceIte,Nat.reduceEqDiff,Nat.reduceAdd,Nat.reduceSub,Nat.reduceLeDiff,reduceCtorEq,h1,h2]) (sl @g8) (Vv Xg _ _ _ _)⟩)
    all_goals simp only[go_sem,↓reduceIte,Nat.reduceEqDiff,Nat.reduceAdd,Nat.reduceSub,Nat.reduceLeDiff,reduceCtorEq,a8,eK,a0,a3,b21,bg0,bg1,b0,b3,b5,b8,nD,ab,vt,vo,hq]
 ·(try((repeat(revert N;apply g7));refine wk (tw5 @a8 @eK @a0 @a3 @hk) ?_;repeat(apply g6;intro N hN)));exact eH (.inr rfl) (vs:=[]) rfl ⟨rfl,ak.frame ak.1 ha.ov aI (fun x hx=>rfl)⟩
structure k9 (g:Rows) (n:Nat) (c T O:Id) (s:ar) (ts:List aa):Prop where
 row:g c=some ⟨true,6,[[.sl (s.ay.bM.map dU),.sl (s.ay.aq.map dp),.sl (s.cw.aq.map ad),.int .i64 s.aQ,.map T mP,.map O mP]]⟩
 tl:g T=some ⟨true,mP.j6,ts.map ad⟩
 op:∃rows,g O=some ⟨true,mP.j6,rows⟩/\OW rows
 cv:c.bH<n
 tv:T.bH<n
 ov:O.bH<n
 cT:c≠T
 cO:c≠O
 TO:T≠O
theorem k9.CX {g:Rows} {n:Nat} {c T O:Id} {s:ar} {ts:List aa} (h:k9 g n c T O s ts):Bg g n c T O s ts:=⟨⟨_,h.row⟩,⟨_,h.tl⟩,h.cv,h.tv,h.ov⟩
theorem k9.look {σ:aw} {g:Rows} {n:Nat} {c T O:Id} {s:ar} {ts:List aa} (h:k9 σ.get σ.next c T O s ts) (k:lj σ O g n):k9 g n c T O s ts:=
 ⟨(k.2.1 _ h.cv h.cO).trans h.row,(k.2.1 _ h.tv h.TO).trans h.tl,k.2.2,Nat.lt_of_lt_of_le h.cv k.1,Nat.lt_of_lt_of_le h.tv k.1,Nat.lt_of_lt_of_le h.ov k.1,h.cT,h.cO,h.TO⟩
theorem k9.frame {g g':Rows} {n n':Nat} {c T O:Id} {s:ar} {ts:List aa} (h:k9 g n c T O s ts) (hn:n<=n') (hf:∀x:Id,x.bH<n->g' x=g x):k9 g' n' c T O s ts:=
 ⟨(hf _ h.cv).trans h.row,(hf _ h.tv).trans h.tl,by rw[hf _ h.ov];exact h.op,Nat.lt_of_lt_of_le h.cv hn,Nat.lt_of_lt_of_le h.tv hn,Nat.lt_of_lt_of_le h.ov hn,h.cT,h.cO,h.TO⟩
def NewK (σ:aw) (s:ar) (ts:List aa) (r:AV) (σ':aw):Prop:=
 ∃c T O:Id,r=.ptr c 0 0/\k9 σ'.get σ'.next c T O s ts/\σ.next<=c.bH/\σ.next<=T.bH/\σ.next<=O.bH/\σ.next<=σ'.next/\∀x:Id,x.bH<σ.next->σ'.get x=σ.get x
theorem mX {l:List aa} {p:af}:ei l p<0↔∀t∈l,t.aH≠p:=by
 unfold ei sQ
 by_cases h:(l.findIdx fun c=>decide (c.aH=p))<l.length
 ·rw[if_pos h];obtain⟨t,ht,h2⟩:=List.findIdx_lt_length.1 h;exact⟨fun h=>ae,fun h=>absurd (by simpa using h2) (h t ht)⟩
 ·rw[if_neg h];exact⟨fun _ t ht e=>h (List.findIdx_lt_length.2 ⟨t,ht,by simp[e]⟩),fun _=>ae⟩
theorem Gq {l:List aa} (h:iJ l) {k:Nat} (hk:k<l.length):ei (l.take k) (bc l k).aH<0:=by
 rw[mX];intro t ht e;obtain⟨j,hj,rfl⟩:=List.getElem_of_mem ht;have PW:j<k:=by rw[List.length_take]at hj;omega
 have:=h j k PW hk;rw[List.getElem_take]at e;have e2:bc l j=l[j]'ae:=by unfold bc;rw[List.getD_eq_getElem?_getD,i5 ae];rfl
 rw[e2,e]at this;simp[jm]at this
theorem JP {l:List aa} {k:Nat} (hk:k<l.length):(l.take k).map ad++[[.int .i64 (bc l k).aH.eV,.int .i64 (bc l k).aH.eR,.int .i64 (bc l k).bK]]=(l.take (k+1)).map ad:=by
 have e2:bc l k=l[k]:=by unfold bc;rw[List.getD_eq_getElem?_getD,i5 hk];rfl
 rw[List.take_succ_eq_append_getElem hk,List.map_append,e2]
 rfl
theorem gz.EF {s:aE} {l:List aa} (hA:fS s l):∀q,0<=ej l q->eE s (ej l q)=true:=fun _ h=>EE hA h
theorem DI (s:ar) (hS:gz s.ay) (l:List aa) (hA:fS s.ay l) (σ:aw):Call Tryz.prog 44 [.agg (aK s),.agg [.sl (l.map ad)]] σ (NewK σ s l):=by
 refine fG fx rfl fun fM=>?_;clear fM;have sM:=hA.1.oG;(try((repeat(revert N;apply g7));refine wk @aK.eq_1 ?_;repeat(apply g6;intro N hN)))
 refine cj (fun n env st=>∃k:Nat,n=(l.length)-k/\k<=(l.length)/\env 18=.int .i64 (k:Int)/\st.get ⟨44001004,σ.next+1⟩=some ⟨true,6,[[.sl (s.ay.bM.map dU),.sl (s.ay.aq.map dp),.sl (s.cw.aq.map ad),.int .i64 s.aQ,.map ⟨44001001,σ.next+1⟩ mP,.map ⟨44001002,σ.next+1⟩ mP]]⟩/\st.get ⟨44001001,σ.next+1⟩=some ⟨true,mP.j6,(l.take k).map ad⟩/\st.get ⟨44001002,σ.next+1⟩=some ⟨true,mP.j6,[]⟩/\st.get ⟨44000001,σ.next⟩=some ⟨true,1,[[.sl (l.map ad)]]⟩/\(σ.next+3<=st.next/\∀x:Id,x.bH<σ.next->st.get x=σ.get x)) (l.length) ⟨0,ae,ae,sl @g8,sl @g8,sl @g8,sl @g8,sl @g8,⟨aI,fun x hx=>by
  have:=cR hx
  simp only[go_sem,↓reduceIte,Nat.reduceEqDiff,Nat.reduceAdd,Nat.reduceSub,Nat.reduceLeDiff,reduceCtorEq,this]⟩⟩ ?_
 rintro n_a m3 i8 ⟨k,rfl,ale,a18,eK,jx,ag2,ag3,mD⟩ eC;have a3:=eC 3 g9;have a5:=eC 5 g9;have Ka:=eC 16 g9;have a17:=eC 17 g9;simp only[go_sem,↓reduceIte,Nat.reduceEqDiff,Nat.reduceAdd,Nat.reduceSub,Nat.reduceLeDiff,reduceCtorEq]at a3 a5 Ka a17;clear eC;obtain⟨an,eC⟩:=mD;have v1:=cR (i:=⟨44001004,σ.next+1⟩) (n:=i8.next) aI;have v2:=cR (i:=⟨44001001,σ.next+1⟩) (n:=i8.next) aI;have v3:=cR (i:=⟨44001002,σ.next+1⟩) (n:=i8.next) aI;have v4:=cR (i:=⟨44000001,σ.next⟩) (n:=i8.next) aI
 by_cases hk:(k:Int)<(l.length:Int)
 ·have dW:∀{e:Env} {gg:Rows} {nx:Nat},(e 18=.int .i64 (IntKind.i64.wrap ((k:Int)+1)))->(gg ⟨44001004,σ.next+1⟩=some ⟨true,6,[[.sl (s.ay.bM.map dU),.sl (s.ay.aq.map dp),.sl (s.cw.aq.map ad),.int .i64 s.aQ,.map ⟨44001001,σ.next+1⟩ mP,.map ⟨44001002,σ.next+1⟩ mP]]⟩)->(gg ⟨44001001,σ.next+1⟩=some ⟨true,mP.j6,(l.take (k+1)).map ad⟩)->(gg ⟨44001002,σ.next+1⟩=some ⟨true,mP.j6,[]⟩)->(gg ⟨44000001,σ.next⟩=some ⟨true,1,[[.sl (l.map ad)]]⟩)->(σ.next+3<=nx/\∀x:Id,x.bH<σ.next->gg x=σ.get x)->∃m0,m0<(l.length)-k/\∃k:Nat,m0=(l.length)-k/\k<=(l.length)/\e 18=.int .i64 (k:Int)/\gg ⟨44001004,σ.next+1⟩=some ⟨true,6,[[.sl (s.ay.bM.map dU),.sl (s.ay.aq.map dp),.sl (s.cw.aq.map ad),.int .i64 s.aQ,.map ⟨44001001,σ.next+1⟩ mP,.map ⟨44001002,σ.next+1⟩ mP]]⟩/\gg ⟨44001001,σ.next+1⟩=some ⟨true,mP.j6,(l.take k).map ad⟩/\gg ⟨44001002,σ.next+1⟩=some ⟨true,mP.j6,[]⟩/\gg ⟨44000001,σ.next⟩=some ⟨true,1,[[.sl (l.map ad)]]⟩/\(σ.next+3<=nx/\∀x:Id,x.bH<σ.next->gg x=σ.get x):=fun x1 x2 x3 x4 x5 x6=>⟨_,ae,k+1,rfl,ae,(by rw[x1,aZ ae]),x2,x3,x4,x5,x6⟩;have iD:k<l.length:=ae;have hg:=fZ iD;have hm:=pB (Gq hA.1.pH iD);have lL:=JP iD;(try((repeat(revert N;apply g7));refine wk (tw9 @a18 @eK @jx @ag2 @ag3 @a3 @a5 @Ka (tw9 @a17 @hk @hg @hm @v1 @v2 @v3 @v4 @ad.eq_1)) ?_;repeat(apply g6;intro N hN)))
  refine dW ?_ ?_ ?_ ?_ ?_ (by(try dsimp only);exact⟨ae,fun x hx=>by
   have h1:=cR (i:=x) (n:=i8.next) ae;have h2:=ew (a:=x) (b:=⟨44001001,σ.next+1⟩) aI;have h3:=eC x hx
   simp only[go_sem,↓reduceIte,Nat.reduceEqDiff,Nat.reduceAdd,Nat.reduceSub,Nat.reduceLeDiff,reduceCtorEq,h1,h2,h3]⟩)
  all_goals simp only[go_sem,↓reduceIte,Nat.reduceEqDiff,Nat.reduceAdd,Nat.reduceSub,Nat.reduceLeDiff,reduceCtorEq,a18,eK,jx,ag2,ag3,a3,a5,Ka,a17,ad,v1,v2,v3,v4,lL]
 ·have l8:k=l.length:=ae;subst l8;have lh:l.take l.length=l:=List.take_length;(try((repeat(revert N;apply g7));refine wk (tw9 @a18 @eK @jx @ag2 @ag3 @a3 @a5 @Ka (tw6 @a17 @hk @v1 @v2 @v3 @v4)) ?_;repeat(apply g6;intro N hN)))
  refine cj (fun n env st=>∃j:Nat,n=(l.length)-j/\j<=(l.length)/\env 34=.int .i64 (j:Int)/\(σ.next+3<=st.next/\k9 st.get st.next ⟨44001004,σ.next+1⟩ ⟨44001001,σ.next+1⟩ ⟨44001002,σ.next+1⟩ s l/\∀x:Id,x.bH<σ.next->st.get x=σ.get x)) (l.length) ⟨0,ae,ae,sl (tw9 @a18 @eK @jx @ag2 @ag3 @a3 @a5 @Ka @a17),by(try dsimp only);exact⟨ae,⟨sd @eK,sd (tw @jx @lh),⟨[],sd @ag2,by intro r hr;cases hr⟩,aI,aI,aI,(by intro e;injection e with e1 e2;revert e1;decide),(by intro e;injection e with e1 e2;revert e1;decide),(by intro e;injection e with e1 e2;revert e1;decide)⟩,fun x hx=>by
   have h3:=eC x hx
   simp only[go_sem,↓reduceIte,Nat.reduceEqDiff,Nat.reduceAdd,Nat.reduceSub,Nat.reduceLeDiff,reduceCtorEq,h3]⟩⟩ ?_
  rintro n_b m4 i9 ⟨j,rfl,ble,b34,bI0⟩ eB;have b5:=eB 5 g9;have sV:=eB 32 g9;have tj:=eB 33 g9;simp only[go_sem,↓reduceIte,Nat.reduceEqDiff,Nat.reduceAdd,Nat.reduceSub,Nat.reduceLeDiff,reduceCtorEq,a18,eK,jx,ag2,ag3,a3,a5,Ka,a17]at b5 sV tj;clear eB;obtain⟨bn,bC,eB⟩:=bI0
  by_cases hj:(j:Int)<(l.length:Int)
  ·have ep:∀{e:Env} {gg:Rows} {nx:Nat},(e 34=.int .i64 (IntKind.i64.wrap ((j:Int)+1)))->(σ.next+3<=nx/\k9 gg nx ⟨44001004,σ.next+1⟩ ⟨44001001,σ.next+1⟩ ⟨44001002,σ.next+1⟩ s l/\∀x:Id,x.bH<σ.next->gg x=σ.get x)->∃m0,m0<(l.length)-j/\∃j:Nat,m0=(l.length)-j/\j<=(l.length)/\e 34=.int .i64 (j:Int)/\(σ.next+3<=nx/\k9 gg nx ⟨44001004,σ.next+1⟩ ⟨44001001,σ.next+1⟩ ⟨44001002,σ.next+1⟩ s l/\∀x:Id,x.bH<σ.next->gg x=σ.get x):=fun x1 x2=>⟨_,ae,j+1,rfl,ae,(by rw[x1,aZ ae]),x2⟩;have oy:j<l.length:=ae;have hg:=fZ oy;have NK:=np (hA.1.pt oy);(try((repeat(revert N;apply g7));refine wk (tw7 @b34 @b5 @sV @tj @hj @hg @ad.eq_1) ?_;repeat(apply g6;intro N hN)))
   have AO:k9 (bJ (bJ i9.get ⟨44009002,i9.next+1⟩ ⟨true,3,[[.int .i64 0,.int .i64 0,.int .i64 0]]⟩) ⟨44009002,i9.next+1⟩ ⟨true,3,[[.int .i64 (bc l j).aH.eV,.int .i64 (bc l j).aH.eR,.int .i64 (bc l j).bK]]⟩) (i9.next+1+1+1) ⟨44001004,σ.next+1⟩ ⟨44001001,σ.next+1⟩ ⟨44001002,σ.next+1⟩ s l:=bC.frame ae fun x hx=>by
    have h1:=cR hx;simp only[go_sem,↓reduceIte,Nat.reduceEqDiff,Nat.reduceAdd,Nat.reduceSub,Nat.reduceLeDiff,reduceCtorEq,h1]
   refine .inr (ax _ _ _ _ _ (fun r σ1 hq=>?_) (Dw (σ:=⟨bJ (bJ i9.get ⟨44009002,i9.next+1⟩ ⟨true,3,[[.int .i64 0,.int .i64 0,.int .i64 0]]⟩) ⟨44009002,i9.next+1⟩ ⟨true,3,[[.int .i64 (bc l j).aH.eV,.int .i64 (bc l j).aH.eR,.int .i64 (bc l j).bK]]⟩,i9.next+1+1+1⟩) AO.CX AO.cO AO.TO AO.op hS (gz.EF hA) (bc l j).aH NK.1 NK.2));obtain⟨g1,x1⟩:=σ1;obtain⟨rfl,hL⟩:=hq;(try dsimp only at hL);have x7:=AO.look hL;have hLn:=hL.1;have X5:=hL.2.1;(try dsimp only at hLn X5);apply hN;clear hN N;(try((repeat(revert N;apply g7));refine wk (tw4 @b34 @b5 @sV @tj) ?_;repeat(apply g6;intro N hN)))
   exact ep (sd (tw4 @b34 @b5 @sV @tj)) (by(try dsimp only);exact⟨ae,x7.frame ae (fun x hx=>rfl),fun x hx=>by
    have h1:=cR (i:=x) (n:=i9.next) ae;have h2:=X5 x ae (fun e=>by rw[e]at hx;(try dsimp only at hx);omega);have h3:=eB x hx;simp only[h2]
    simp only[go_sem,↓reduceIte,Nat.reduceEqDiff,Nat.reduceAdd,Nat.reduceSub,Nat.reduceLeDiff,reduceCtorEq,h1,h3]⟩)
  ·(try((repeat(revert N;apply g7));refine wk (tw5 @b34 @b5 @sV @tj @hj) ?_;repeat(apply g6;intro N hN)));exact eH (.inl rfl) (vs:=[.ptr ⟨44001004,σ.next+1⟩ 0 0]) (sd @g8) ⟨_,_,_,rfl,bC.frame aI (fun x hx=>rfl),aI,aI,aI,aI,eB⟩
def jB:List aa->aa->List aa
 |[],q=>[q]
 |x::r,q=>if jm q.aH x.aH=true then q::x::r else x::jB r q
theorem jd {q x:aa}:∀{l:List aa},x∈jB l q↔x=q∨x∈l
 |[]=>by simp[jB]
 |y::r=>by
  have ih:=@jd q x r;rw[jB]
  split
  ·simp
  ·simp only[List.mem_cons,ih]
   constructor
   ·rintro(h|h|h)<;>simp[h]
   ·rintro(h|h|h)<;>simp[h]
theorem oL (q:aa):∀l:List aa,(jB l q).length=l.length+1
 |[]=>rfl
 |y::r=>by
  have ih:=oL q r;rw[jB]
  split
  ·simp
  ·simp[ih]
theorem lR {l:List aa}:iJ l↔l.Pairwise fun a b=>jm a.aH b.aH=true:=by
 rw[List.pairwise_iff_getElem]
 constructor
 ·intro h i j hi hj uj;have:=h i j uj hj
  rwa [ev hi,ev hj]at this
 ·intro h i j uj hj;have:=h i j ae hj uj
  rwa [ev ae,ev hj]
theorem nO {l:List aa} {p:af}:ei l p<0↔∀t∈l,t.aH≠p:=mX
theorem OL {q:aa}:∀{l:List aa},iJ l->ei l q.aH<0->iJ (jB l q):=by
 intro l;rw[lR,lR,nO]
 induction l with
 |nil=>intro _ _;exact List.pairwise_singleton _ _
 |cons y r ih=>
  intro h hn;obtain⟨h1,h2⟩:=List.pairwise_cons.1 h;rw[jB]
  split
  ·rename_i hl;refine List.pairwise_cons.2 ⟨fun x hx=>?_,h⟩
   rcases List.mem_cons.1 hx with rfl|hx
   ·exact hl
   ·exact gF hl (h1 x hx)
  ·rename_i hl;rw[Bool.not_eq_true]at hl;refine List.pairwise_cons.2 ⟨fun x hx=>?_,ih h2 fun t ht=>hn t (by simp[ht])⟩
   rcases jd.1 hx with rfl|hx
   ·exact sa hl fun e=>hn y (by simp) e.symm
   ·exact h1 x hx
theorem ly (x:aa) (r:List aa) (p:af):ej (x::r) p=if x.aH=p then x.bK else ej r p:=by
 unfold ej ei sQ;rw[List.findIdx_cons]
 by_cases h:x.aH=p
 ·simp[h,bc]
 ·simp only[h,decide_false,cond_false,List.length_cons,Nat.add_lt_add_iff_right,if_false]
  by_cases hl:(r.findIdx fun c=>decide (c.aH=p))<r.length
  ·rw[if_pos hl,if_pos hl,if_pos ae,if_pos ae];simp[bc]
  ·rw[if_neg hl,if_neg hl];rfl
theorem ED {q:aa} (p:af):∀{l:List aa},(∀t∈l,t.aH≠q.aH)->ej (jB l q) p=if q.aH=p then q.bK else ej l p
 |[],_=>by rw[jB,ly]
 |x::r,h=>by
  have ih:=@ED q p r fun t ht=>h t (by simp[ht]);rw[jB]
  split
  ·rw[ly]
  ·rw[ly,ih,ly]
   by_cases h1:x.aH=p
   ·have h2:q.aH≠p:=fun e=>h x (by simp) (h1.trans e.symm);rw[if_pos h1,if_neg h2,if_pos h1]
   ·rw[if_neg h1,if_neg h1]
theorem uq {q:aa} (p:af):∀{l:List aa},(∀t∈l,t.aH≠q.aH)->ej (l++[q]) p=if q.aH=p then q.bK else ej l p
 |[],_=>by rw[List.nil_append,ly]
 |x::r,h=>by
  have ih:=@uq q p r fun t ht=>h t (by simp[ht]);rw[List.cons_append,ly,ih,ly]
  by_cases h1:x.aH=p
  ·have h2:q.aH≠p:=fun e=>h x (by simp) (h1.trans e.symm);rw[if_pos h1,if_neg h2,if_pos h1]
  ·rw[if_neg h1,if_neg h1]
theorem sj {α:Type} [DecidableEq α]:∀{xs ys:List α},xs.Nodup->(∀x∈xs,x∈ys)->xs.length<=ys.length
 |[],_,_,_=>Nat.zero_le _
 |x::xs,ys,hn,h=>by
  obtain⟨h1,h2⟩:=List.nodup_cons.1 hn;have hx:=h x (by simp);have:=@sj α _ xs (ys.erase x) h2 fun y hy=>(List.mem_erase_of_ne fun e=>h1 (by rw[<-e];exact hy)).2 (h y (by simp[hy]));rw[List.length_erase_of_mem hx]at this;have:=List.length_pos_of_mem hx;rw[List.length_cons];omega
abbrev Qg:=List aa×List aa
theorem Na {s:ar} {l:List aa} (hA:fS s.ay l) {now:List aa} (hs:∀x∈now,x∈l) {p:af} {t:Int} (h:eu s now p t=true):ei now p<0:=by
 rcases Int.lt_or_le (ei now p) 0 with h0|h0
 ·exact h0
 ·exfalso;obtain⟨h1,_⟩:=iz h0;have h2:=(dV (hA.2 _ (hs _ (e7 h1)))).1;simp[eu,ej,h0]at h;omega
structure G2 (s:ar):Prop where
 set:gz s.ay
 ud:fS s.ay s.cw.aq
 some:1<=s.cw.aq.length
 DY:jj s.aQ 1 16=true
theorem SH (g:Rows) (n:Nat) (x:aa):fC g (n+1) (ad x)=some (ad x):=by simp[ad,bR,cW,ec]
def TM (n:Nat) (L:List aa) (r:AV) (σ':aw):Prop:=∃o:Id,r=.agg [.own o 0 L.length]/\σ'.get o=some ⟨true,3,L.map ad⟩/\n<=o.bH/\o.bH<σ'.next
theorem TM.val {f:Nat} {args args':List AV} {L:List aa} {σ:aw} (h:∀n,Call Tryz.prog f args' ⟨fun _=>none,n⟩ (TM n L)) (hv:eM (ef σ.get) 6 args=some args'):Call Tryz.prog f args σ (fun r σ'=>TM σ.next L r σ'/\Kept σ σ'):=by
 refine yI mixed hv (ax _ _ _ _ _ (fun r σ' hq=>?_) (wz mixed (h σ.next)));obtain⟨⟨o,rfl,h2,h3,h4⟩,hn⟩:=hq;refine⟨[o],rfl,fun i hi=>?_,⟨o,rfl,(rF (by simp)).trans h2,h3,h4⟩,hn,fun j hj=>lF fun hc=>?_⟩
 ·rw[List.mem_singleton.1 hi]
  exact⟨_,h2,rfl,fun cs eD a ha=>by
   obtain⟨x,_,rfl⟩:=List.mem_map.1 eD;simp[ad]at ha
   rcases ha with rfl|rfl|rfl<;>rfl⟩
 ·rw[List.mem_singleton.1 hc]at hj;omega
theorem N8 (l:List aa) (hl:l.length<=1048576) (n0:Nat):Call Tryz.prog 67 [.dZ [.sl (l.map ad)]] ⟨fun _=>none,n0⟩ (TM n0 l):=by
 refine fG fx rfl fun fM=>?_;clear fM;have Ek:(l.map ad).length<=16777216:=by simp;omega
 have fy:(l.map ad).all (fun c=>c.length==3&&c.all AV.cell)=true:=all_map fun x=>⟨rfl,rfl⟩;have P0:(l.map ad).length=l.length:=by simp
 generalize km:l.map ad=rows at Ek fy P0;(try((repeat(revert N;apply g7));refine wk (tw @Ek @fy) ?_;repeat(apply g6;intro N hN)));exact eH (.inl rfl) (vs:=[.agg [.own ⟨67001005,n0+1⟩ 0 rows.length]]) (sd @g8) ⟨⟨67001005,n0+1⟩,by rw[P0];rfl,by rw[km];simp only[go_sem,↓reduceIte,Nat.reduceEqDiff,Nat.reduceAdd,Nat.reduceSub,Nat.reduceLeDiff,reduceCtorEq],aI,aI⟩
def xX (q:aa) (l:List aa):Bool:=l.any fun x=>jm q.aH x.aH
theorem Ge {q:aa}:∀{l:List aa},xX q l=false->jB l q=l++[q]
 |[],_=>rfl
 |x::l,h=>by
  unfold xX at h;rw[List.any_cons,Bool.or_eq_false_iff]at h;rw[jB,if_neg (by rw[h.1];simp),Ge h.2];rfl
theorem Ci {q y:aa}:∀{l:List aa},xX q l=true->jB (l++[y]) q=jB l q++[y]
 |x::l,h=>by
  unfold xX at h;rw[List.any_cons]at h;rw[List.cons_append,jB,jB]
  cases hx:jm q.aH x.aH
  ·rw[hx,Bool.false_or]at h;rw[if_neg (by simp),if_neg (by simp),Ci h];rfl
  ·simp
theorem Cg {q y:aa}:∀{l:List aa},xX q l=false->jm q.aH y.aH=true->jB (l++[y]) q=l++[q]++[y]
 |[],_,hy=>by simp[jB,hy]
 |x::l,h,hy=>by
  unfold xX at h;rw[List.any_cons,Bool.or_eq_false_iff]at h;rw[List.cons_append,jB,if_neg (by rw[h.1];simp),Cg h.2 hy];rfl
def kn (q:aa) (l:List aa):List aa:=if xX q l=true then jB l q else l
theorem y7 (q:aa) (l:List aa) (y:aa):xX q (l++[y])=(xX q l||jm q.aH y.aH):=by simp[xX]
theorem Lu (q:aa) (l:List aa):(kn q l).length<=l.length+1:=by
 unfold kn
 split
 ·rw[oL];omega
 ·omega
theorem OD {q y:aa} {l:List aa} (h:xX q l=true∨jm q.aH y.aH=false):kn q (l++[y])=kn q l++[y]:=by
 unfold kn;rw[y7]
 cases hd:xX q l
 ·rw[hd]at h;have h2:jm q.aH y.aH=false:=by rcases h with h|h;cases h;exact h
  simp[h2]
 ·simp[Ci hd]
theorem OC {q y:aa} {l:List aa} (h:xX q l=false) (hy:jm q.aH y.aH=true):kn q (l++[y])=kn q l++[q]++[y]:=by
 unfold kn;rw[y7,h,hy];simp[Cg h hy]
def GrO (m:Nat) (L:List aa) (v:AV) (g:Rows) (n:Nat):Prop:=(L=[]/\v=.ck)∨∃o:Id,v=.own o 0 L.length/\g o=some ⟨true,3,L.map ad⟩/\m<=o.bH/\o.bH<n
theorem Av {l:List aa} {k:Nat} (hk:k<l.length):l.take (k+1)=l.take k++[bc l k]:=by rw[List.take_succ_eq_append_getElem hk,ev hk]
theorem FY (L:List aa) (q:aa):(L++[q]).map ad=L.map ad++[[.int .i64 q.aH.eV,.int .i64 q.aH.eR,.int .i64 q.bK]]:=by rw[List.map_append];rfl
theorem uY (L:List aa) (q:aa):(L++[q]).length=L.length+1:=by rw[i6];rfl
theorem N9 (l:List aa) (hl:l.length<=1048576) (p:af) (t:Int) (n0:Nat):Call Tryz.prog 118 [.dZ [.sl (l.map ad)],.agg (ab p),.int .i64 t] ⟨fun _=>none,n0⟩ (TM n0 (jB l ⟨p,t⟩)):=by
 refine fG fx rfl fun fM=>?_;clear fM
 obtain⟨q,hq⟩:∃q:aa,q=⟨p,t⟩:=⟨_,rfl⟩
 (try((repeat(revert N;apply g7));refine wk @ab.eq_1 ?_;repeat(apply g6;intro N hN)));refine cj (fun n env st=>∃i:Nat,n=(l.length)-i/\i<=(l.length)/\env 9=.int .i64 (i:Int)/\env 8=.bool (xX q (l.take i))/\st.get ⟨118000000,n0⟩=some ⟨true,2,[ab p]⟩/\st.get ⟨118000001,n0⟩=some ⟨true,1,[[.ck]]⟩/\(n0+2<=st.next/\∃v,st.get ⟨118001001,n0+1⟩=some ⟨true,1,[[v]]⟩/\GrO (n0+2) (kn q (l.take i)) v st.get st.next)) (l.length) ⟨0,ae,ae,sl @ab.eq_1,sl @ab.eq_1,sl @ab.eq_1,sl @ab.eq_1,by(try dsimp only);exact⟨ae,.ck,sd @g8,.inl ⟨rfl,rfl⟩⟩⟩ ?_;rintro n_a m3 i8 ⟨i,rfl,ale,a9,a8,eK,jx,mD⟩ eC;have a0:=eC 0 g9;have a2:=eC 2 g9;have a4:=eC 4 g9;have a6:=eC 6 g9;have a7:=eC 7 g9;simp only[go_sem,↓reduceIte,Nat.reduceEqDiff,Nat.reduceAdd,Nat.reduceSub,Nat.reduceLeDiff,reduceCtorEq,ab]at a0 a2 a4 a6 a7;clear eC;obtain⟨an,v,av,aG⟩:=mD;have vA:=cR (i:=⟨118000000,n0⟩) (n:=i8.next) aI;have vB:=cR (i:=⟨118000001,n0⟩) (n:=i8.next) aI;have vC:=cR (i:=⟨118001001,n0+1⟩) (n:=i8.next) aI;have S6:=Lu q (l.take i);rw[List.length_take]at S6
 by_cases hi:(i:Int)<(l.length:Int)
 ·have dW:∀{e:Env} {gg:Rows} {nx:Nat},(e 9=.int .i64 (IntKind.i64.wrap ((i:Int)+1)))->(e 8=.bool (xX q (l.take (i+1))))->(gg ⟨118000000,n0⟩=some ⟨true,2,[ab p]⟩)->(gg ⟨118000001,n0⟩=some ⟨true,1,[[.ck]]⟩)->(n0+2<=nx/\∃v,gg ⟨118001001,n0+1⟩=some ⟨true,1,[[v]]⟩/\GrO (n0+2) (kn q (l.take (i+1))) v gg nx)->∃m0,m0<(l.length)-i/\∃i:Nat,m0=(l.length)-i/\i<=(l.length)/\e 9=.int .i64 (i:Int)/\e 8=.bool (xX q (l.take i))/\gg ⟨118000000,n0⟩=some ⟨true,2,[ab p]⟩/\gg ⟨118000001,n0⟩=some ⟨true,1,[[.ck]]⟩/\(n0+2<=nx/\∃v,gg ⟨118001001,n0+1⟩=some ⟨true,1,[[v]]⟩/\GrO (n0+2) (kn q (l.take i)) v gg nx):=fun x1 x2 x3 x4 x5=>⟨_,ae,i+1,rfl,ae,(by rw[x1,aZ ae]),x2,x3,x4,x5⟩;have jI:i<l.length:=ae;have ll:=fZ jI;have eG:=nK p (bc l i).aH;have lh:=Av jI;have hqa:jm q.aH (bc l i).aH=jm p (bc l i).aH:=by rw[hq]
  have eW:(l.map ad).length=l.length:=by simp
  have W6:=y7 q (l.take i) (bc l i);rw[<-lh,hqa]at W6;rw[ab,ab]at eG
  by_cases hc:xX q (l.take i)=true∨jm p (bc l i).aH=false
  ·have mW:=OD (q:=q) (y:=bc l i) (l:=l.take i) (by rw[hqa];exact hc);rw[<-lh]at mW;generalize kn q (l.take i)=L at aG mW S6;have o9:=uY L (bc l i);have j3:=FY L (bc l i)
   have rW:xX q (l.take (i+1))=xX q (l.take i):=by
    rw[W6]
    rcases hc with h|h<;>rw[h]<;>simp
   rcases aG with⟨hL,rfl⟩|⟨o,rfl,ao,Sz,MF⟩
   ·subst hL
    cases hd:xX q (l.take i)
    ·have h2:jm p (bc l i).aH=false:=by rcases hc with h|h;rw[hd]at h;cases h;exact h
     rw[h2]at eG;rw[hd]at a8 rW
     (have zF:=tw9 @a9 @a8 @eK @jx @a0 @a2 @a4 @a6 (tw9 @a7 @hi @ll @vA @vB @vC @av @eW (tw @ab.eq_1 @ad.eq_1));(repeat(first|((repeat(revert N;apply g7));refine wk zF ?_;repeat(apply g6;intro N hN))|((try apply i3);refine⟨_,au.x (eG) (sd zF),?_⟩;apply hN;clear hN N)));try clear zF)
     refine dW ?_ ?_ ?_ ?_ (by(try dsimp only);exact⟨ae,_,sl @g8,.inr ⟨⟨118009010,i8.next+1+1⟩,by rw[mW,o9]<;>(simp only[go_sem,↓reduceIte,Nat.reduceEqDiff,Nat.reduceAdd,Nat.reduceSub,Nat.reduceLeDiff,reduceCtorEq]<;>rfl),by rw[mW,j3]<;>(simp only[go_sem,↓reduceIte,Nat.reduceEqDiff,Nat.reduceAdd,Nat.reduceSub,Nat.reduceLeDiff,reduceCtorEq]<;>rfl),aI,aI⟩⟩)
     all_goals simp only[go_sem,↓reduceIte,Nat.reduceEqDiff,Nat.reduceAdd,Nat.reduceSub,Nat.reduceLeDiff,reduceCtorEq,a9,a8,eK,jx,a0,a2,a4,a6,a7,rW,vA,vB,vC,ab]
    ·rw[hd]at a8 rW;(try((repeat(revert N;apply g7));refine wk (tw9 @a9 @a8 @eK @jx @a0 @a2 @a4 @a6 (tw9 @a7 @hi @ll @vA @vB @vC @av @eW (tw @ab.eq_1 @ad.eq_1))) ?_;repeat(apply g6;intro N hN)));refine dW ?_ ?_ ?_ ?_ (by(try dsimp only);exact⟨ae,_,sl @g8,.inr ⟨⟨118009010,i8.next+1+1⟩,by rw[mW,o9]<;>(simp only[go_sem,↓reduceIte,Nat.reduceEqDiff,Nat.reduceAdd,Nat.reduceSub,Nat.reduceLeDiff,reduceCtorEq]<;>rfl),by rw[mW,j3]<;>(simp only[go_sem,↓reduceIte,Nat.reduceEqDiff,Nat.reduceAdd,Nat.reduceSub,Nat.reduceLeDiff,reduceCtorEq]<;>rfl),aI,aI⟩⟩)
     all_goals simp only[go_sem,↓reduceIte,Nat.reduceEqDiff,Nat.reduceAdd,Nat.reduceSub,Nat.reduceLeDiff,reduceCtorEq,a9,a8,eK,jx,a0,a2,a4,a6,a7,rW,vA,vB,vC,ab]
   ·have vo:=cR MF;have oA:=ew (a:=⟨118000000,n0⟩) (b:=o) aI;have oB:=ew (a:=⟨118000001,n0⟩) (b:=o) aI;have oC:=ew (a:=⟨118001001,n0+1⟩) (b:=o) aI;have SL:(L.map ad).length=L.length:=by simp
    have jL:L.length<=16777215:=ae
    cases hd:xX q (l.take i)
    ·have h2:jm p (bc l i).aH=false:=by rcases hc with h|h;rw[hd]at h;cases h;exact h
     rw[h2]at eG;rw[hd]at a8 rW
     (have zF:=tw9 @a9 @a8 @eK @jx @a0 @a2 @a4 @a6 (tw9 @a7 @hi @ll @vA @vB @vC @vo @oA (tw9 @oB @oC @ao @av @eW @SL @jL @ab.eq_1 @ad.eq_1));(repeat(first|((repeat(revert N;apply g7));refine wk zF ?_;repeat(apply g6;intro N hN))|((try apply i3);refine⟨_,au.x (eG) (sd zF),?_⟩;apply hN;clear hN N)));try clear zF)
     refine dW ?_ ?_ ?_ ?_ (by(try dsimp only);exact⟨ae,_,sl @g8,.inr ⟨⟨118009010,i8.next+1+1⟩,by rw[mW,o9]<;>(simp only[go_sem,↓reduceIte,Nat.reduceEqDiff,Nat.reduceAdd,Nat.reduceSub,Nat.reduceLeDiff,reduceCtorEq]<;>rfl),by rw[mW,j3]<;>(simp only[go_sem,↓reduceIte,Nat.reduceEqDiff,Nat.reduceAdd,Nat.reduceSub,Nat.reduceLeDiff,reduceCtorEq]<;>rfl),aI,aI⟩⟩)
     all_goals simp only[go_sem,↓reduceIte,Nat.reduceEqDiff,Nat.reduceAdd,Nat.reduceSub,Nat.reduceLeDiff,reduceCtorEq,a9,a8,eK,jx,a0,a2,a4,a6,a7,rW,vA,vB,vC,oA,oB,oC,ab]
    ·rw[hd]at a8 rW;(try((repeat(revert N;apply g7));refine wk (tw9 @a9 @a8 @eK @jx @a0 @a2 @a4 @a6 (tw9 @a7 @hi @ll @vA @vB @vC @vo @oA (tw9 @oB @oC @ao @av @eW @SL @jL @ab.eq_1 @ad.eq_1))) ?_;repeat(apply g6;intro N hN)));refine dW ?_ ?_ ?_ ?_ (by(try dsimp only);exact⟨ae,_,sl @g8,.inr ⟨⟨118009010,i8.next+1+1⟩,by rw[mW,o9]<;>(simp only[go_sem,↓reduceIte,Nat.reduceEqDiff,Nat.reduceAdd,Nat.reduceSub,Nat.reduceLeDiff,reduceCtorEq]<;>rfl),by rw[mW,j3]<;>(simp only[go_sem,↓reduceIte,Nat.reduceEqDiff,Nat.reduceAdd,Nat.reduceSub,Nat.reduceLeDiff,reduceCtorEq]<;>rfl),aI,aI⟩⟩)
     all_goals simp only[go_sem,↓reduceIte,Nat.reduceEqDiff,Nat.reduceAdd,Nat.reduceSub,Nat.reduceLeDiff,reduceCtorEq,a9,a8,eK,jx,a0,a2,a4,a6,a7,rW,vA,vB,vC,oA,oB,oC,ab]
  ·have hd:xX q (l.take i)=false:=by
    cases h:xX q (l.take i)
    ·rfl
    ·exact absurd (.inl h) hc
   have h2:jm p (bc l i).aH=true:=by
    cases h:jm p (bc l i).aH
    ·exact absurd (.inr h) hc
    ·rfl
   have mW:=OC (q:=q) (y:=bc l i) hd (by rw[hqa];exact h2);rw[<-lh]at mW;have rW:xX q (l.take (i+1))=true:=by rw[W6,h2];simp
   rw[hd]at a8;rw[h2]at eG;have hqc:ad q=[.int .i64 p.eV,.int .i64 p.eR,.int .i64 t]:=by rw[hq];rfl
   generalize kn q (l.take i)=L at aG mW S6;have o9:=uY (L++[q]) (bc l i);have j3:=FY (L++[q]) (bc l i);have hnl2:=uY L q;have Ft:(L++[q]).map ad=L.map ad++[[.int .i64 p.eV,.int .i64 p.eR,.int .i64 t]]:=by rw[List.map_append,List.map_singleton,hqc]
   rw[hnl2]at o9;rw[Ft]at j3
   rcases aG with⟨hL,rfl⟩|⟨o,rfl,ao,Sz,MF⟩
   ·subst hL
    (have zF:=tw9 @a9 @a8 @eK @jx @a0 @a2 @a4 @a6 (tw9 @a7 @hi @ll @vA @vB @vC @av @eW (tw @ab.eq_1 @ad.eq_1));(repeat(first|((repeat(revert N;apply g7));refine wk zF ?_;repeat(apply g6;intro N hN))|((try apply i3);refine⟨_,au.x (eG) (sd zF),?_⟩;apply hN;clear hN N)));try clear zF)
    refine dW ?_ ?_ ?_ ?_ (by(try dsimp only);exact⟨ae,_,sl @g8,.inr ⟨⟨118009010,i8.next+1+1+1+1⟩,by rw[mW,o9]<;>(simp only[go_sem,↓reduceIte,Nat.reduceEqDiff,Nat.reduceAdd,Nat.reduceSub,Nat.reduceLeDiff,reduceCtorEq]<;>rfl),by rw[mW,j3]<;>(simp only[go_sem,↓reduceIte,Nat.reduceEqDiff,Nat.reduceAdd,Nat.reduceSub,Nat.reduceLeDiff,reduceCtorEq]<;>rfl),aI,aI⟩⟩)
    all_goals simp only[go_sem,↓reduceIte,Nat.reduceEqDiff,Nat.reduceAdd,Nat.reduceSub,Nat.reduceLeDiff,reduceCtorEq,a9,a8,eK,jx,a0,a2,a4,a6,a7,rW,vA,vB,vC,ab]
   ·have vo:=cR MF;have oA:=ew (a:=⟨118000000,n0⟩) (b:=o) aI;have oB:=ew (a:=⟨118000001,n0⟩) (b:=o) aI;have oC:=ew (a:=⟨118001001,n0+1⟩) (b:=o) aI;have SL:(L.map ad).length=L.length:=by simp
    have jL:L.length<=16777214:=ae;have X6:L.length<=16777215:=ae
    (have zF:=tw9 @a9 @a8 @eK @jx @a0 @a2 @a4 @a6 (tw9 @a7 @hi @ll @vA @vB @vC @vo @oA (tw9 @oB @oC @ao @av @eW @SL @jL @X6 (tw @ab.eq_1 @ad.eq_1)));(repeat(first|((repeat(revert N;apply g7));refine wk zF ?_;repeat(apply g6;intro N hN))|((try apply i3);refine⟨_,au.x (eG) (sd zF),?_⟩;apply hN;clear hN N)));try clear zF)
    refine dW ?_ ?_ ?_ ?_ (by(try dsimp only);exact⟨ae,_,sl @g8,.inr ⟨⟨118009010,i8.next+1+1+1+1⟩,by rw[mW,o9]<;>(simp only[go_sem,↓reduceIte,Nat.reduceEqDiff,Nat.reduceAdd,Nat.reduceSub,Nat.reduceLeDiff,reduceCtorEq]<;>rfl),by rw[mW,j3]<;>(simp only[go_sem,↓reduceIte,Nat.reduceEqDiff,Nat.reduceAdd,Nat.reduceSub,Nat.reduceLeDiff,reduceCtorEq]<;>rfl),aI,aI⟩⟩)
    all_goals simp only[go_sem,↓reduceIte,Nat.reduceEqDiff,Nat.reduceAdd,Nat.reduceSub,Nat.reduceLeDiff,reduceCtorEq,a9,a8,eK,jx,a0,a2,a4,a6,a7,rW,vA,vB,vC,oA,oB,oC,ab]
 ·have sO:i=l.length:=ae;subst sO;rw[List.take_length]at a8 aG S6
  cases hd:xX q l
  ·rw[hd]at a8;have mW:jB l ⟨p,t⟩=kn q l++[q]:=by rw[<-hq,Ge hd,kn,hd];simp
   have hqc:ad q=[.int .i64 p.eV,.int .i64 p.eR,.int .i64 t]:=by rw[hq];rfl
   generalize kn q l=L at aG S6 mW;have o9:=uY L q;have j3:(L++[q]).map ad=L.map ad++[[.int .i64 p.eV,.int .i64 p.eR,.int .i64 t]]:=by rw[List.map_append,List.map_singleton,hqc]
   rcases aG with⟨hL,rfl⟩|⟨o,rfl,ao,Sz,MF⟩
   ·subst hL;(try((repeat(revert N;apply g7));refine wk (tw9 @a9 @a8 @eK @jx @a0 @a2 @a4 @a6 (tw8 @a7 @hi @vA @vB @vC @av @ab.eq_1 @ad.eq_1)) ?_;repeat(apply g6;intro N hN)));exact eH (.inl rfl) (vs:=[.agg [.own ⟨118011006,i8.next+1+1⟩ 0 1]]) (sd (tw9 @a9 @a8 @eK @jx @a0 @a2 @a4 @a6 (tw @a7 @vB))) ⟨⟨118011006,i8.next+1+1⟩,by rw[mW];rfl,by rw[mW];simp only[go_sem,↓reduceIte,Nat.reduceEqDiff,Nat.reduceAdd,Nat.reduceSub,Nat.reduceLeDiff,reduceCtorEq,vB];rw[hqc],aI,aI⟩
   ·have vo:=cR MF;have oA:=ew (a:=⟨118000000,n0⟩) (b:=o) aI;have oB:=ew (a:=⟨118000001,n0⟩) (b:=o) aI;have oC:=ew (a:=⟨118001001,n0+1⟩) (b:=o) aI;have SL:(L.map ad).length=L.length:=by simp
    have jL:L.length<=16777215:=ae;(try((repeat(revert N;apply g7));refine wk (tw9 @a9 @a8 @eK @jx @a0 @a2 @a4 @a6 (tw9 @a7 @hi @vA @vB @vC @vo @oA @oB (tw7 @oC @ao @av @SL @jL @ab.eq_1 @ad.eq_1))) ?_;repeat(apply g6;intro N hN)));exact eH (.inl rfl) (vs:=[.agg [.own ⟨118011006,i8.next+1+1⟩ 0 (L.length+1)]]) (sd (tw9 @a9 @a8 @eK @jx @a0 @a2 @a4 @a6 (tw @a7 @vB))) ⟨⟨118011006,i8.next+1+1⟩,by rw[mW,o9];rfl,by rw[mW,j3];simp only[go_sem,↓reduceIte,Nat.reduceEqDiff,Nat.reduceAdd,Nat.reduceSub,Nat.reduceLeDiff,reduceCtorEq,vB],aI,aI⟩
  ·rw[hd]at a8;have mW:jB l ⟨p,t⟩=kn q l:=by rw[<-hq,kn,hd];simp
   have oe:0<(kn q l).length:=by rw[<-mW,oL];omega
   generalize kn q l=L at aG S6 oe mW
   rcases aG with⟨hL,rfl⟩|⟨o,rfl,ao,Sz,MF⟩
   ·subst hL;cases oe
   ·have vo:=cR MF;have oB:=ew (a:=⟨118000001,n0⟩) (b:=o) aI;(try((repeat(revert N;apply g7));refine wk (tw9 @a9 @a8 @eK @jx @a0 @a2 @a4 @a6 (tw9 @a7 @hi @vA @vB @vC @vo @ao @av (tw @ab.eq_1 @ad.eq_1))) ?_;repeat(apply g6;intro N hN)));exact eH (.inl rfl) (vs:=[.agg [.own o 0 L.length]]) (sd (tw9 @a9 @a8 @eK @jx @a0 @a2 @a4 @a6 (tw @a7 @vB))) ⟨o,by rw[mW];rfl,by rw[mW];simp only[go_sem,↓reduceIte,Nat.reduceEqDiff,Nat.reduceAdd,Nat.reduceSub,Nat.reduceLeDiff,reduceCtorEq,vB,oB,ao],aI,aI⟩
theorem JD {g:Rows} {X o:Id} {L:List aa} (hX:g X=some ⟨true,1,[[.own o 0 L.length]]⟩) (ho:g o=some ⟨true,3,L.map ad⟩):fz (ef g) 6 (.ptr X 0 0)=some (.dZ [.sl (L.map ad)]):=by
 have h1:fz (ef g) 5 (.own o 0 L.length)=some (.sl (L.map ad)):=gj (e:=ad) (sz:=3) (by simp[ef,ho]) rfl fun x=>by simp[ad,ah,aj,aL]
 exact mO (n:=5) (sz:=1) (rows:=[[.own o 0 L.length]]) (cs:=[.own o 0 L.length]) (by simp[ef,hX]) rfl (by simp[ah,aj,h1])
end V

namespace V
open Go.RowKit Go.Shelf Go.Lib Go.Sort
instance:Inhabited af:=⟨⟨0,0⟩⟩
variable {P:Program} {w:World} {D:Nat->Prop} {ι:Names}
theorem vF {vs:Array Value} (h:gI P w D ι [] vs):vs= #[]:=Array.eq_empty_of_size_eq_zero h.1
theorem kz {a:AV} {r:List AV} {vs:Array Value} (h:gI P w D ι (a::r) vs):∃u us,vs=(u::us).toArray/\dX P w D ι a u/\gI P w D ι r us.toArray:=by
 obtain⟨h1,h2⟩:=h;obtain⟨l⟩:=vs
 cases l with
 |nil=>simp at h1
 |cons u us=>
  obtain⟨u',hu,hr⟩:=h2 0 a rfl
  simp at hu;subst hu
  exact⟨u,us,rfl,hr,by simpa using h1,fun j b hj=>by
   obtain⟨v,hv,qA⟩:=h2 (j+1) b (by simpa using hj)
   exact⟨v,by simpa using hv,qA⟩⟩
def Sx:Prop:=∀(wc off cap:Nat) (d:Array af) (w:World),HoldsK iu 2 w wc off d->wc<w.heap.size->d.size<4611686018427387904->
 Calls Tryz.prog 156 #[.slice (some ⟨wc,off,none⟩) d.size cap,.func (.func 141) #[] #[]] w fun e w'=>e=.returned (.tuple #[])/\∃d' n os,PermIn 0 d.size d d'/\SortedIn (ltOf pf) 0 d.size d'/\w'=sortWorldK iu 2 w wc off n d' os
def Sy:Prop:=∀(p:Option Addr) (cap:Nat) (fv:Value) (w:World),Calls Tryz.prog 156 #[.slice p 0 cap,fv] w fun e w'=>e=.returned (.tuple #[])/\w'=w
theorem QA (p:af) (j:Nat) (a:AV) (h:(ab p)[j]? =some a) (P:Program) (w:World) (D:Nat->Prop) (ι:Names):dX P w D ι a (iu p)[j]! :=by
 match j,h with
 |0,h=>simp[ab]at h;subst h;exact .fw _ _ (.int _ _)
 |1,h=>simp[ab]at h;subst h;exact .fw _ _ (.int _ _)
 |j+2,h=>simp[ab]at h
theorem Cp (hC:Sx) (hN:Sy) (ps:List af) (hlen:ps.length<=1048576) (σ:aw) (id:Id) (hg:σ.get id=some ⟨true,2,ps.map ab⟩):
  Call Tryz.prog 156 [.own id 0 ps.length,.fn 141 []] σ fun r σ'=>σ'.next=σ.next/\(∀x,x≠id->σ'.get x=σ.get x)/\∃qs,σ'.get id=some ⟨true,2,qs.map ab⟩/\qs.length=ps.length/\(∀x,x∈qs↔x∈ps)/\∀i j:Nat,i<j->j<qs.length->jm (fI qs j) (fI qs i)=false:=by
 refine fW fun hs D ι w vs S U A=>?_;obtain⟨u1,us1,rfl,h1,h2⟩:=kz A;obtain⟨u2,us2,h3,h4,h5⟩:=kz h2
 simp at h3;subst h3
 have:=vF h5
 simp at this;subst this
 obtain⟨o,cap,B,rfl,hB,Fh,ho,wL,hmax,hk⟩:=jR h1;obtain⟨ZC,gf,rfl,_,hz,_,_⟩:=w7 h4;have hz':ZC= #[]:=Array.eq_empty_of_size_eq_zero (by simpa using hz);subst hz'
 by_cases h0:ps=[]
 ·subst h0;refine(hN _ _ _ w).mono ?_;rintro e w' ⟨rfl,rfl⟩;exact⟨.gG [],σ.get,σ.next,D,ι,_,rfl,⟨rfl,fun _ _=>rfl,[],hg,rfl,fun x=>Iff.rfl,fun i j _ hj=>by simp at hj⟩,Step.refl _ _ _ _,S,U,Nat.le_refl _,.gG [] #[] (fun _=>Go.undef) rfl (fun j hj=>by simp at hj) (fun j a h=>by simp at h)⟩
 have oe:0<ps.length:=List.length_pos_iff.2 h0;obtain⟨B',eY,R,lp,uk⟩:=S.row id _ hg;rw[hB]at eY;injection eY with eY;subst eY
 replace R:=R.row hk;have eT:B.sz=2:=R.sz;have El:o=0:=by rcases ho with h|h<;>omega
 subst El;obtain⟨cur,T,hblk,eD,qb⟩:=R.cur;have zn:ps.length*2<=B.C:=by simpa using R.fits
 have hH:HoldsK iu 2 w B.b 0 ps.toArray:=by
  intro t ht;rw[size_flatK]at ht;have ht2:t<ps.length*2:=by simpa using ht
  have hi:t / 2<ps.length:=ae
  have Je:w.frozen? ⟨B.b,0+t,none⟩=false:=by
   simp only[World.frozen?,hblk];simp
  refine⟨?_,Je⟩;rw[get_flatK _ _ _ _ ht];have hd:(ps.toArray)[t / 2]! =ps[t / 2]:=by simp[getElem!_pos,hi]
  rw[hd];have hj:t % 2=0∨t % 2=1:=ae;have ht3:0+t=(t / 2)*2+t % 2:=ae;rw[ht3]
  rcases hj with hj|hj
  ·obtain⟨v,hv,hr⟩:=R.at_ (t / 2) 0 (ab ps[t / 2]) _ (by simp[hi]) rfl;rw[eh hr]at hv;rw[hj];exact hv
  ·obtain⟨v,hv,hr⟩:=R.at_ (t / 2) 1 (ab ps[t / 2]) _ (by simp[hi]) rfl;rw[eh hr]at hv;rw[hj];exact hv
 have iy:B.b<w.heap.size:=(Array.getElem?_eq_some_iff.1 hblk).1;have Nx:=hC B.b 0 cap ps.toArray w hH iy (by simp;omega);rw[show ps.toArray.size=ps.length from by simp]at Nx;refine Nx.mono ?_;rintro e w' ⟨rfl,d',m,os,⟨Dj,_,s5⟩,hsort,rfl⟩;have zm:d'.size=ps.length:=by rw[Dj];simp
 have NM:d'.toList.length=ps.length:=by simpa using zm
 have hP:d'.toList.Perm ps:=by
  have e1:d'.extract 0 ps.length=d':=by rw[<-zm];exact Array.extract_size
  have e2:ps.toArray.extract 0 ps.length=ps.toArray:=by
   have:ps.length=ps.toArray.size:=by simp
   rw[this];exact Array.extract_size
  rw[e1,e2]at s5
  simpa using s5
 have hF:∀t,t<ps.length*2->(flatK iu 2 d')[t]! =(iu d'[t / 2]!)[t % 2]! :=fun t ht=>get_flatK _ _ _ _ (by rw[zm];exact ht);have X1:(flatK iu 2 d').size=ps.length*2:=by rw[size_flatK,zm]
 have hw:sortWorldK iu 2 w B.b 0 m d' os=Go.Sort.grow (Go.Sort.putRow (fun v:Value=>v) (Go.Sort.ahead w m) B.b 0 (flatK iu 2 d')) os:=rfl;rw[hw];clear hw hH;generalize flatK iu 2 d'=Fl at hF X1 ⊢
 have zq:=S.put (r':=⟨true,2,d'.toList.map ab⟩) (cur':=Go.Sort.putCells (fun v:Value=>v) 0 Fl cur) hg rfl hB hblk (by simp[Go.Sort.putCells]) rfl rfl (by simpa[zm]using zn) (fun cs eD=>by
   obtain⟨x,_,rfl⟩:=List.mem_map.1 eD;rfl) (fun cs eD a ha=>by
   obtain⟨x,_,rfl⟩:=List.mem_map.1 eD
   simp[ab]at ha;rcases ha with rfl|rfl<;>rfl) (fun i j cs a hi hj=>by
   have wh:i<d'.toList.length:=by
    have:=(List.getElem?_eq_some_iff.1 hi).1
    simpa using this
   have QU:j<2:=by
    have:=List.mem_of_getElem? hi;obtain⟨x,_,rfl⟩:=List.mem_map.1 this;exact(List.getElem?_eq_some_iff.1 hj).1
   have UO:cs=ab d'[i]! :=by
    rw[List.getElem?_map,i5 wh]at hi
    simp at hi
    rw[<-hi,getElem!_pos d' i (by simpa using wh)]
   subst UO;have AE:i*2+j<ps.length*2:=ae;refine⟨(iu d'[i]!)[j]!,?_,QA _ _ _ hj _ _ _ _⟩;have mJ:i*2+j<cur.size:=by rw[eD];omega
   show(Go.Sort.putCells (fun v:Value=>v) 0 Fl cur)[i*2+j]? = _;simp only[Go.Sort.putCells,Array.getElem?_mapIdx,Array.getElem?_eq_getElem mJ,Option.map_some]
   rw[if_pos ⟨Nat.zero_le _,by rw[X1];omega⟩,Nat.sub_zero,hF _ AE,show(i*2+j) / 2=i from by omega,show(i*2+j) % 2=j from by omega])
 obtain⟨S1,um⟩:=zq;have iA:(Go.Sort.putRow (fun v:Value=>v) (Go.Sort.ahead w m) B.b 0 Fl).heap.size=w.heap.size:=by simp
 have Fo:∀k,k<(w.setRow B.b (Go.Sort.putCells (fun v:Value=>v) 0 Fl cur)).heap.size->(Go.Sort.grow (Go.Sort.putRow (fun v:Value=>v) (Go.Sort.ahead w m) B.b 0 Fl) os).heap[k]? =(w.setRow B.b (Go.Sort.putCells (fun v:Value=>v) 0 Fl cur)).heap[k]? :=fun k hk=>by
  have Ej:k<w.heap.size:=by simpa using hk
  rw[heap_grow_old _ _ (by rw[iA];exact Ej)];simp only[Go.Sort.putRow,Go.Sort.mapBlock,heap_ahead,Array.getElem?_modify]
  by_cases PY:B.b=k
  ·subst PY;rw[setRow_heap w B.b cur _ T _ hblk,if_pos rfl,hblk];rfl
  ·rw[if_neg PY,setRow_other w B.b k _ (fun h=>PY h.symm)]
 have qt:(w.setRow B.b (Go.Sort.putCells (fun v:Value=>v) 0 Fl cur)).heap.size<=(Go.Sort.grow (Go.Sort.putRow (fun v:Value=>v) (Go.Sort.ahead w m) B.b 0 Fl) os).heap.size:=by
  rw[size_grow,iA];simp
 have S2:=S1.stay (D':=D) (ι':=ι) Fo qt (fun _ h=>h) (fun b hb=>Nat.lt_of_lt_of_le (S1.dead b hb) qt) (fun _ h=>.inl h) (fun _ _ h=>h);have Qi:=um.trans (Step.stay (D':=D) (ι':=ι) S1 Fo qt (by simp[Go.Sort.grow,Go.Sort.putRow,Go.Sort.mapBlock,Go.Sort.ahead]) (by simp[Go.Sort.grow,Go.Sort.putRow,Go.Sort.mapBlock,Go.Sort.ahead]) (by simp[Go.Sort.grow,Go.Sort.putRow,Go.Sort.mapBlock,Go.Sort.ahead]) (fun _ h=>h) (fun _ h=>.inl h) (fun _ _ h=>h));refine⟨.gG [],bJ σ.get id ⟨true,2,d'.toList.map ab⟩,σ.next,D,ι,_,rfl,⟨rfl,fun x hx=>by simp[bJ,hx],d'.toList,by simp[bJ],NM,fun x=>hP.mem_iff,fun i j uj hj=>?_⟩,Qi,S2,U,Nat.le_refl _,.gG [] #[] (fun _=>Go.undef) rfl (fun j hj=>by simp at hj) (fun j a h=>by simp at h)⟩;have h:=hsort i j (Nat.zero_le _) uj ae;rw[ltOf,lJ]at h;have e1:d'[j]! =fI d'.toList j:=by rw[gp hj,getElem!_pos d' j (by simpa using hj)];rfl
 have hi:i<d'.toList.length:=ae;have e2:d'[i]! =fI d'.toList i:=by rw[gp hi,getElem!_pos d' i (by simpa using hi)];rfl
 rw[<-e1,<-e2];exact h
end V

section
open Go.Shelf
def Tryz.Im:Go.Shelf.Ren:=⟨fun|6=>156|15=>166|14=>175|28=>186|29=>187|20=>198|21=>199|22=>200|23=>201|24=>202|25=>203|26=>204|27=>205|46=>217|47=>208|48=>209|49=>218|50=>219|57=>224|n=>n,fun|22=>46|24=>41|25=>182|3=>3|39=>168|0=>0|53=>238|55=>100|4=>4|46=>232|45=>231|50=>148|5=>5|9=>9|66=>260|70=>264|76=>279|77=>280|n=>n,fun|n=>n⟩
theorem Tryz.O4:Go.Proofs.SlLaysF0.n6 Tryz.prog Tryz.Im:={
 mixed:=by kernel_rfl
 f6:=⟨Tryz.f156.name,by decide,Tryz.func156.trans (congrArg some V.g9)⟩
 f14:=⟨Tryz.f175.name,by decide,Tryz.func175.trans (congrArg some V.g9)⟩
 f15:=Tryz.func166.trans (congrArg some V.g9)
 f20:=⟨Tryz.f198.name,by decide,Tryz.func198.trans (congrArg some V.g9)⟩
 f21:=⟨Tryz.f199.name,by decide,Tryz.func199.trans (congrArg some V.g9)⟩
 f22:=⟨Tryz.f200.name,by decide,Tryz.func200.trans (congrArg some V.g9)⟩
 f23:=⟨Tryz.f201.name,by decide,Tryz.func201.trans (congrArg some V.g9)⟩
 f24:=⟨Tryz.f202.name,by decide,Tryz.func202.trans (congrArg some V.g9)⟩
 f25:=⟨Tryz.f203.name,by decide,Tryz.func203.trans (congrArg some V.g9)⟩
 f26:=⟨Tryz.f204.name,by decide,Tryz.func204.trans (congrArg some V.g9)⟩
 f27:=⟨Tryz.f205.name,by decide,Tryz.func205.trans (congrArg some V.g9)⟩
 f28:=Tryz.func186.trans (congrArg some V.g9)
 f29:=Tryz.func187.trans (congrArg some V.g9)
 f46:=⟨Tryz.f217.name,by decide,Tryz.func217.trans (congrArg some V.g9)⟩
 f47:=Tryz.func208.trans (congrArg some V.g9)
 f48:=Tryz.func209.trans (congrArg some V.g9)
 f49:=⟨Tryz.f218.name,by decide,Tryz.func218.trans (congrArg some V.g9)⟩
 f50:=⟨Tryz.f219.name,by decide,Tryz.func219.trans (congrArg some V.g9)⟩
 f57:=⟨Tryz.f224.name,by decide,Tryz.func224.trans (congrArg some V.g9)⟩
 t0:=Tryz.underlying0
 a0:=Tryz.isAgg0
 z0:=Tryz.sizeOf0
 v0:=Tryz.zeroValue0
 t3:=Tryz.underlying3
 a3:=Tryz.isAgg3
 z3:=Tryz.sizeOf3
 v3:=Tryz.zeroValue3
 t4:=Tryz.underlying4
 a4:=Tryz.isAgg4
 z4:=Tryz.sizeOf4
 v4:=Tryz.zeroValue4
 t5:=Tryz.underlying5
 a5:=Tryz.isAgg5
 z5:=Tryz.sizeOf5
 v5:=Tryz.zeroValue5
 t9:=Tryz.underlying9
 a9:=Tryz.isAgg9
 z9:=Tryz.sizeOf9
 v9:=Tryz.zeroValue9
 t22:=Tryz.underlying46
 a22:=Tryz.isAgg46
 z22:=Tryz.sizeOf46
 v22:=Tryz.zeroValue46
 t25:=Tryz.underlying182
 a25:=Tryz.isAgg182
 z25:=Tryz.sizeOf182
 v25:=Tryz.zeroValue182
 t39:=Tryz.underlying168
 a39:=Tryz.isAgg168
 z39:=Tryz.sizeOf168
 v39:=Tryz.zeroValue168
 t45:=Tryz.underlying231
 a45:=Tryz.isAgg231
 z45:=Tryz.sizeOf231
 v45:=Tryz.zeroValue231
 t46:=Tryz.underlying232
 a46:=Tryz.isAgg232
 z46:=Tryz.sizeOf232
 v46:=Tryz.zeroValue232
 t50:=Tryz.underlying148
 a50:=Tryz.isAgg148
 z50:=Tryz.sizeOf148
 v50:=Tryz.zeroValue148
 t53:=Tryz.underlying238
 a53:=Tryz.isAgg238
 z53:=Tryz.sizeOf238
 v53:=Tryz.zeroValue238
 t55:=Tryz.underlying100
 a55:=Tryz.isAgg100
 z55:=Tryz.sizeOf100
 v55:=Tryz.zeroValue100
 t66:=Tryz.underlying260
 a66:=Tryz.isAgg260
 z66:=Tryz.sizeOf260
 v66:=Tryz.zeroValue260
 t70:=Tryz.underlying264
 a70:=Tryz.isAgg264
 z70:=Tryz.sizeOf264
 v70:=Tryz.zeroValue264
 t76:=Tryz.underlying279
 a76:=Tryz.isAgg279
 z76:=Tryz.sizeOf279
 v76:=Tryz.zeroValue279
 t77:=Tryz.underlying280
 a77:=Tryz.isAgg280
 z77:=Tryz.sizeOf280
 v77:=Tryz.zeroValue280}
def Tryz.Il:Go.Shelf.Ren:=⟨fun|6=>139|15=>166|14=>165|28=>186|29=>187|20=>178|21=>179|22=>180|23=>181|24=>182|25=>183|26=>184|27=>185|46=>207|47=>208|48=>209|49=>210|50=>211|57=>220|n=>n,fun|22=>28|24=>59|25=>183|3=>3|39=>168|0=>0|53=>238|55=>100|4=>4|46=>232|45=>231|50=>148|5=>5|9=>9|66=>260|70=>264|76=>279|77=>280|n=>n,fun|n=>n⟩
theorem Tryz.O3:Go.Proofs.SlLaysF0.n6 Tryz.prog Tryz.Il:={
 mixed:=by kernel_rfl
 f6:=⟨Tryz.f139.name,by decide,Tryz.func139.trans (congrArg some V.g9)⟩
 f14:=⟨Tryz.f165.name,by decide,Tryz.func165.trans (congrArg some V.g9)⟩
 f15:=Tryz.func166.trans (congrArg some V.g9)
 f20:=⟨Tryz.f178.name,by decide,Tryz.func178.trans (congrArg some V.g9)⟩
 f21:=⟨Tryz.f179.name,by decide,Tryz.func179.trans (congrArg some V.g9)⟩
 f22:=⟨Tryz.f180.name,by decide,Tryz.func180.trans (congrArg some V.g9)⟩
 f23:=⟨Tryz.f181.name,by decide,Tryz.func181.trans (congrArg some V.g9)⟩
 f24:=⟨Tryz.f182.name,by decide,Tryz.func182.trans (congrArg some V.g9)⟩
 f25:=⟨Tryz.f183.name,by decide,Tryz.func183.trans (congrArg some V.g9)⟩
 f26:=⟨Tryz.f184.name,by decide,Tryz.func184.trans (congrArg some V.g9)⟩
 f27:=⟨Tryz.f185.name,by decide,Tryz.func185.trans (congrArg some V.g9)⟩
 f28:=Tryz.func186.trans (congrArg some V.g9)
 f29:=Tryz.func187.trans (congrArg some V.g9)
 f46:=⟨Tryz.f207.name,by decide,Tryz.func207.trans (congrArg some V.g9)⟩
 f47:=Tryz.func208.trans (congrArg some V.g9)
 f48:=Tryz.func209.trans (congrArg some V.g9)
 f49:=⟨Tryz.f210.name,by decide,Tryz.func210.trans (congrArg some V.g9)⟩
 f50:=⟨Tryz.f211.name,by decide,Tryz.func211.trans (congrArg some V.g9)⟩
 f57:=⟨Tryz.f220.name,by decide,Tryz.func220.trans (congrArg some V.g9)⟩
 t0:=Tryz.underlying0
 a0:=Tryz.isAgg0
 z0:=Tryz.sizeOf0
 v0:=Tryz.zeroValue0
 t3:=Tryz.underlying3
 a3:=Tryz.isAgg3
 z3:=Tryz.sizeOf3
 v3:=Tryz.zeroValue3
 t4:=Tryz.underlying4
 a4:=Tryz.isAgg4
 z4:=Tryz.sizeOf4
 v4:=Tryz.zeroValue4
 t5:=Tryz.underlying5
 a5:=Tryz.isAgg5
 z5:=Tryz.sizeOf5
 v5:=Tryz.zeroValue5
 t9:=Tryz.underlying9
 a9:=Tryz.isAgg9
 z9:=Tryz.sizeOf9
 v9:=Tryz.zeroValue9
 t22:=Tryz.underlying28
 a22:=Tryz.isAgg28
 z22:=Tryz.sizeOf28
 v22:=Tryz.zeroValue28
 t25:=Tryz.underlying183
 a25:=Tryz.isAgg183
 z25:=Tryz.sizeOf183
 v25:=Tryz.zeroValue183
 t39:=Tryz.underlying168
 a39:=Tryz.isAgg168
 z39:=Tryz.sizeOf168
 v39:=Tryz.zeroValue168
 t45:=Tryz.underlying231
 a45:=Tryz.isAgg231
 z45:=Tryz.sizeOf231
 v45:=Tryz.zeroValue231
 t46:=Tryz.underlying232
 a46:=Tryz.isAgg232
 z46:=Tryz.sizeOf232
 v46:=Tryz.zeroValue232
 t50:=Tryz.underlying148
 a50:=Tryz.isAgg148
 z50:=Tryz.sizeOf148
 v50:=Tryz.zeroValue148
 t53:=Tryz.underlying238
 a53:=Tryz.isAgg238
 z53:=Tryz.sizeOf238
 v53:=Tryz.zeroValue238
 t55:=Tryz.underlying100
 a55:=Tryz.isAgg100
 z55:=Tryz.sizeOf100
 v55:=Tryz.zeroValue100
 t66:=Tryz.underlying260
 a66:=Tryz.isAgg260
 z66:=Tryz.sizeOf260
 v66:=Tryz.zeroValue260
 t70:=Tryz.underlying264
 a70:=Tryz.isAgg264
 z70:=Tryz.sizeOf264
 v70:=Tryz.zeroValue264
 t76:=Tryz.underlying279
 a76:=Tryz.isAgg279
 z76:=Tryz.sizeOf279
 v76:=Tryz.zeroValue279
 t77:=Tryz.underlying280
 a77:=Tryz.isAgg280
 z77:=Tryz.sizeOf280
 v77:=Tryz.zeroValue280}
end

namespace V
open Go.RowKit Go.Shelf Go.Lib Go.Sort
theorem EP (w:World) (a b:Int):Calls Tryz.prog 168 #[.int .i64 a,.int .i64 b] w fun e w'=>e=.returned (.int .i64 (uC a b))/\w=w':=by
 go_enter Tryz.func168,Tryz.ntmps168
 go_wp2_with go_in
 all_goals
  go_ret
  exact⟨JE (by unfold uC;split<;>(try split)<;>omega),rfl⟩
theorem Ry (w:World) (a b:Int) (g:Nat) (ha:w.cell? ⟨g,0,none⟩=some (.int .i64 a)) (hb:w.cell? ⟨g,1,none⟩=some (.int .i64 b)):Calls Tryz.prog 167 #[.slice (some ⟨g,0,none⟩) 2 2] w fun e w'=>e=.returned (.int .i64 (Rz a b))/\w=w':=by
 go_enter Tryz.func167,Tryz.ntmps167
 go_wp2_with fail
 go_loop [8] (fun i=>∃k:Nat,k<=2/\i=.int .i64 k/\Hid ((1<=k->a=0)/\(2<=k->b=0))) (fun i=>2-(intOf i).toNat)
 case atStart=>exact⟨0,ae,rfl,Lib.hid ⟨fun h=>ae,fun h=>ae⟩⟩
 case round=>
  obtain⟨k,hk,rfl,hz⟩:=hrel;have h3:k=0∨k=1∨k=2:=ae
  rcases h3 with rfl|rfl|rfl
  ·go_wp2_with fail
   ·rename_i h
    go_ret
    exact⟨JE (by unfold Rz;simp_all),rfl⟩
   ·rename_i h
    go_round
    case rel=>exact⟨1,ae,rfl,Lib.hid ⟨fun _=>by simpa using h,fun h=>ae⟩⟩
    case measure=>simp[intOf]
  ·have h0:=hz.out.1 ae;replace h0:=Lib.hid h0
   go_wp2_with fail
   ·go_ret
    exact⟨JE (by unfold Rz;rw[if_pos h0.out]),rfl⟩
   ·rename_i h
    go_round
    case rel=>exact⟨2,ae,rfl,Lib.hid ⟨fun _=>h0.out,fun _=>by simpa using h⟩⟩
    case measure=>simp[intOf]
  ·have h0:=Lib.hid (hz.out.1 ae);have h1:=Lib.hid (hz.out.2 ae)
   go_wp2_with fail
   go_ret
   exact⟨JE (by unfold Rz;rw[if_pos h0.out,h1.out]),rfl⟩
def Grown (w w':World):Prop:=∃(q:Nat) (os:Array Obj),w'=Go.Sort.grow (w.drewN q) os
theorem Grown.refl (w:World):Grown w w:=⟨0, #[],by rw[grow_empty];rfl⟩
theorem Grown.alloc {w w':World} (h:Grown w w') (o:Obj):Grown w (w'.alloc o):=by
 obtain⟨q,os,rfl⟩:=h;exact⟨q,os++ #[o],by rw[alloc_eq_grow,grow_grow]⟩
theorem Grown.drew {w w':World} (h:Grown w w'):Grown w w'.drew:=by
 obtain⟨q,os,rfl⟩:=h;exact⟨q+1,os,by rw[drew_grow];rfl⟩
theorem Grown.dN {w w':World} (h:Grown w w') (n:Nat):Grown w (w'.drewN n):=by
 obtain⟨q,os,rfl⟩:=h
 exact⟨q+n,os,by
  show Go.Sort.grow ((w.drewN q).drewN n) os=Go.Sort.grow (w.drewN (q+n)) os
  simp[World.drewN,Nat.add_assoc]⟩
theorem pX (w:World) (a b:af):Calls Tryz.prog 141 #[.agg #[.int .i64 a.eV,.int .i64 a.eR],.agg #[.int .i64 b.eV,.int .i64 b.eR]] w fun e w'=>e=.returned (.int .i64 (pf a b))/\Grown w w':=by
 go_enter Tryz.func141,Tryz.ntmps141
 go_wp2_with fail
 go_region_held3 (fun w'=>w'.cell? ⟨w.heap.size,0,none⟩=some (.int .i64 a.eV)/\w'.cell? ⟨w.heap.size,1,none⟩=some (.int .i64 a.eR)/\
   w'.cell? ⟨w.heap.size+1,0,none⟩=some (.int .i64 b.eV)/\w'.cell? ⟨w.heap.size+1,1,none⟩=some (.int .i64 b.eR))
  (first|go_keep)
  (first|(go_at_call 168;refine(EP _ _ _).mono ?_;rintro e w' ⟨rfl,rfl⟩)|(go_at_call 167;refine(Ry _ (uC a.eR b.eR) (uC a.eV b.eV) _ (by simp[go_sem]) (by simp[go_sem])).mono ?_;rintro e w' ⟨rfl,rfl⟩))
 go_wp2_with fail
 go_ret
 refine⟨rfl,?_⟩
 repeat(first|(with_reducible exact Grown.refl _)|(refine Grown.alloc ?_ _)|(refine Grown.drew ?_)|(refine Grown.dN ?_ _))
theorem swoP:SWO (ltOf pf) where
 irrefl x:=by rw[ltOf,lJ];exact gJ
 trans x y z h1 h2:=by rw[ltOf,lJ]at *;exact gF h1 h2
 ntrans x y z h1 h2:=by rw[ltOf,lJ]at *;rw[oH]at *;omega
theorem Tu:Sx:=fun wc off cap d w hH hblk eT=>by
 have eg:∀args w,(callFunc 141 args).run Tryz.prog w=.ok (.enter 141 args) w:=enters_of Tryz.func141 g9 rfl;have h:=AnyQ.slices_SortFunc Tryz.O4 2 Tryz.isAgg41 Tryz.sizeOf41 iu (fun _=>rfl) (fun x v hv=>by simp[iu]at hv;rcases hv with rfl|rfl<;>rfl) pf swoP 141 #[] wc off cap d w eg (fun m os dk _ x y=>(pX _ x y).mono fun _ _ ⟨he,q,os',hw⟩=>⟨he,q,os',hw⟩) hH hblk eT;exact h
theorem O2:Sy:=fun p cap fv w=>AnyF.slices_SortFunc_none Tryz.O4 p cap fv w
instance:Inhabited aa:=⟨⟨⟨0,0⟩,0⟩⟩
variable {P:Program} {w:World} {D:Nat->Prop} {ι:Names}
def Ki (a b:aa):Int:=pf a.aH b.aH
theorem yl (a b:aa):ltOf Ki a b=jm a.aH b.aH:=by rw[ltOf,Ki,lJ]
def My:Prop:=∀(wc off cap:Nat) (d:Array aa) (w:World),HoldsK gD 3 w wc off d->wc<w.heap.size->d.size<4611686018427387904->
 Calls Tryz.prog 139 #[.slice (some ⟨wc,off,none⟩) d.size cap,.func (.func 140) #[] #[]] w fun e w'=>e=.returned (.tuple #[])/\∃d' n os,PermIn 0 d.size d d'/\SortedIn (ltOf Ki) 0 d.size d'/\w'=sortWorldK gD 3 w wc off n d' os
def Mz:Prop:=∀(p:Option Addr) (cap:Nat) (fv:Value) (w:World),Calls Tryz.prog 139 #[.slice p 0 cap,fv] w fun e w'=>e=.returned (.tuple #[])/\w'=w
theorem M4 (p:aa) (j:Nat) (a:AV) (h:(ad p)[j]? =some a) (P:Program) (w:World) (D:Nat->Prop) (ι:Names):dX P w D ι a (gD p)[j]! :=by
 match j,h with
 |0,h=>simp[ad]at h;subst h;exact .fw _ _ (.int _ _)
 |1,h=>simp[ad]at h;subst h;exact .fw _ _ (.int _ _)
 |2,h=>simp[ad]at h;subst h;exact .fw _ _ (.int _ _)
 |j+3,h=>simp[ad]at h
theorem LH (hC:My) (hN:Mz) (ps:List aa) (hlen:ps.length<=1048576) (σ:aw) (id:Id) (hg:σ.get id=some ⟨true,3,ps.map ad⟩):
  Call Tryz.prog 139 [.own id 0 ps.length,.fn 140 []] σ fun r σ'=>σ'.next=σ.next/\(∀x,x≠id->σ'.get x=σ.get x)/\∃qs,σ'.get id=some ⟨true,3,qs.map ad⟩/\qs.length=ps.length/\qs.Perm ps/\∀i j:Nat,i<j->j<qs.length->jm (bc qs j).aH (bc qs i).aH=false:=by
 refine fW fun hs D ι w vs S U A=>?_;obtain⟨u1,us1,rfl,h1,h2⟩:=kz A;obtain⟨u2,us2,h3,h4,h5⟩:=kz h2
 simp at h3;subst h3
 have:=vF h5
 simp at this;subst this
 obtain⟨o,cap,B,rfl,hB,Fh,ho,wL,hmax,hk⟩:=jR h1;obtain⟨ZC,gf,rfl,_,hz,_,_⟩:=w7 h4;have hz':ZC= #[]:=Array.eq_empty_of_size_eq_zero (by simpa using hz);subst hz'
 by_cases h0:ps=[]
 ·subst h0;refine(hN _ _ _ w).mono ?_;rintro e w' ⟨rfl,rfl⟩;exact⟨.gG [],σ.get,σ.next,D,ι,_,rfl,⟨rfl,fun _ _=>rfl,[],hg,rfl,List.Perm.refl _,fun i j _ hj=>by simp at hj⟩,Step.refl _ _ _ _,S,U,Nat.le_refl _,.gG [] #[] (fun _=>Go.undef) rfl (fun j hj=>by simp at hj) (fun j a h=>by simp at h)⟩
 have oe:0<ps.length:=List.length_pos_iff.2 h0;obtain⟨B',eY,R,lp,uk⟩:=S.row id _ hg;rw[hB]at eY;injection eY with eY;subst eY
 replace R:=R.row hk;have eT:B.sz=3:=R.sz;have El:o=0:=by rcases ho with h|h<;>omega
 subst El;obtain⟨cur,T,hblk,eD,qb⟩:=R.cur;have zn:ps.length*3<=B.C:=by simpa using R.fits
 have hH:HoldsK gD 3 w B.b 0 ps.toArray:=by
  intro t ht;rw[size_flatK]at ht;have ht2:t<ps.length*3:=by simpa using ht
  have hi:t / 3<ps.length:=ae
  have Je:w.frozen? ⟨B.b,0+t,none⟩=false:=by
   simp only[World.frozen?,hblk];simp
  refine⟨?_,Je⟩;rw[get_flatK _ _ _ _ ht];have hd:(ps.toArray)[t / 3]! =ps[t / 3]:=by simp[getElem!_pos,hi]
  rw[hd];have hj:t % 3=0∨t % 3=1∨t % 3=2:=ae;have ht3:0+t=(t / 3)*3+t % 3:=ae;rw[ht3]
  rcases hj with hj|hj|hj
  ·obtain⟨v,hv,hr⟩:=R.at_ (t / 3) 0 (ad ps[t / 3]) _ (by simp[hi]) rfl;rw[eh hr]at hv;rw[hj];exact hv
  ·obtain⟨v,hv,hr⟩:=R.at_ (t / 3) 1 (ad ps[t / 3]) _ (by simp[hi]) rfl;rw[eh hr]at hv;rw[hj];exact hv
  ·obtain⟨v,hv,hr⟩:=R.at_ (t / 3) 2 (ad ps[t / 3]) _ (by simp[hi]) rfl;rw[eh hr]at hv;rw[hj];exact hv
 have iy:B.b<w.heap.size:=(Array.getElem?_eq_some_iff.1 hblk).1;have Nx:=hC B.b 0 cap ps.toArray w hH iy (by simp;omega);rw[show ps.toArray.size=ps.length from by simp]at Nx;refine Nx.mono ?_;rintro e w' ⟨rfl,d',m,os,⟨Dj,_,s5⟩,hsort,rfl⟩;have zm:d'.size=ps.length:=by rw[Dj];simp
 have NM:d'.toList.length=ps.length:=by simpa using zm
 have hP:d'.toList.Perm ps:=by
  have e1:d'.extract 0 ps.length=d':=by rw[<-zm];exact Array.extract_size
  have e2:ps.toArray.extract 0 ps.length=ps.toArray:=by
   have:ps.length=ps.toArray.size:=by simp
   rw[this];exact Array.extract_size
  rw[e1,e2]at s5
  simpa using s5
 have hF:∀t,t<ps.length*3->(flatK gD 3 d')[t]! =(gD d'[t / 3]!)[t % 3]! :=fun t ht=>get_flatK _ _ _ _ (by rw[zm];exact ht);have X1:(flatK gD 3 d').size=ps.length*3:=by rw[size_flatK,zm]
 have hw:sortWorldK gD 3 w B.b 0 m d' os=Go.Sort.grow (Go.Sort.putRow (fun v:Value=>v) (Go.Sort.ahead w m) B.b 0 (flatK gD 3 d')) os:=rfl;rw[hw];clear hw hH;generalize flatK gD 3 d'=Fl at hF X1 ⊢
 have zq:=S.put (r':=⟨true,3,d'.toList.map ad⟩) (cur':=Go.Sort.putCells (fun v:Value=>v) 0 Fl cur) hg rfl hB hblk (by simp[Go.Sort.putCells]) rfl rfl (by simpa[zm]using zn) (fun cs eD=>by
   obtain⟨x,_,rfl⟩:=List.mem_map.1 eD;rfl) (fun cs eD a ha=>by
   obtain⟨x,_,rfl⟩:=List.mem_map.1 eD
   simp[ad]at ha;rcases ha with rfl|rfl|rfl<;>rfl) (fun i j cs a hi hj=>by
   have wh:i<d'.toList.length:=by
    have:=(List.getElem?_eq_some_iff.1 hi).1
    simpa using this
   have QU:j<3:=by
    have:=List.mem_of_getElem? hi;obtain⟨x,_,rfl⟩:=List.mem_map.1 this;exact(List.getElem?_eq_some_iff.1 hj).1
   have UO:cs=ad d'[i]! :=by
    rw[List.getElem?_map,i5 wh]at hi
    simp at hi
    rw[<-hi,getElem!_pos d' i (by simpa using wh)]
   subst UO;have AE:i*3+j<ps.length*3:=ae;refine⟨(gD d'[i]!)[j]!,?_,M4 _ _ _ hj _ _ _ _⟩;have mJ:i*3+j<cur.size:=by rw[eD];omega
   show(Go.Sort.putCells (fun v:Value=>v) 0 Fl cur)[i*3+j]? = _;simp only[Go.Sort.putCells,Array.getElem?_mapIdx,Array.getElem?_eq_getElem mJ,Option.map_some]
   rw[if_pos ⟨Nat.zero_le _,by rw[X1];omega⟩,Nat.sub_zero,hF _ AE,show(i*3+j) / 3=i from by omega,show(i*3+j) % 3=j from by omega])
 obtain⟨S1,um⟩:=zq;have iA:(Go.Sort.putRow (fun v:Value=>v) (Go.Sort.ahead w m) B.b 0 Fl).heap.size=w.heap.size:=by simp
 have Fo:∀k,k<(w.setRow B.b (Go.Sort.putCells (fun v:Value=>v) 0 Fl cur)).heap.size->(Go.Sort.grow (Go.Sort.putRow (fun v:Value=>v) (Go.Sort.ahead w m) B.b 0 Fl) os).heap[k]? =(w.setRow B.b (Go.Sort.putCells (fun v:Value=>v) 0 Fl cur)).heap[k]? :=fun k hk=>by
  have Ej:k<w.heap.size:=by simpa using hk
  rw[heap_grow_old _ _ (by rw[iA];exact Ej)];simp only[Go.Sort.putRow,Go.Sort.mapBlock,heap_ahead,Array.getElem?_modify]
  by_cases PY:B.b=k
  ·subst PY;rw[setRow_heap w B.b cur _ T _ hblk,if_pos rfl,hblk];rfl
  ·rw[if_neg PY,setRow_other w B.b k _ (fun h=>PY h.symm)]
 have qt:(w.setRow B.b (Go.Sort.putCells (fun v:Value=>v) 0 Fl cur)).heap.size<=(Go.Sort.grow (Go.Sort.putRow (fun v:Value=>v) (Go.Sort.ahead w m) B.b 0 Fl) os).heap.size:=by
  rw[size_grow,iA];simp
 have S2:=S1.stay (D':=D) (ι':=ι) Fo qt (fun _ h=>h) (fun b hb=>Nat.lt_of_lt_of_le (S1.dead b hb) qt) (fun _ h=>.inl h) (fun _ _ h=>h);have Qi:=um.trans (Step.stay (D':=D) (ι':=ι) S1 Fo qt (by simp[Go.Sort.grow,Go.Sort.putRow,Go.Sort.mapBlock,Go.Sort.ahead]) (by simp[Go.Sort.grow,Go.Sort.putRow,Go.Sort.mapBlock,Go.Sort.ahead]) (by simp[Go.Sort.grow,Go.Sort.putRow,Go.Sort.mapBlock,Go.Sort.ahead]) (fun _ h=>h) (fun _ h=>.inl h) (fun _ _ h=>h));refine⟨.gG [],bJ σ.get id ⟨true,3,d'.toList.map ad⟩,σ.next,D,ι,_,rfl,⟨rfl,fun x hx=>by simp[bJ,hx],d'.toList,by simp[bJ],NM,hP,fun i j uj hj=>?_⟩,Qi,S2,U,Nat.le_refl _,.gG [] #[] (fun _=>Go.undef) rfl (fun j hj=>by simp at hj) (fun j a h=>by simp at h)⟩;have h:=hsort i j (Nat.zero_le _) uj ae;rw[yl]at h;have e1:d'[j]! =bc d'.toList j:=by rw[ev hj,getElem!_pos d' j (by simpa using hj)];rfl
 have hi:i<d'.toList.length:=ae;have e2:d'[i]! =bc d'.toList i:=by rw[ev hi,getElem!_pos d' i (by simpa using hi)];rfl
 rw[<-e1,<-e2];exact h
theorem TK {w w':World} (h:Grown w w') (os:Array Obj):Grown w (Go.Sort.grow w' os):=by
 obtain⟨q,os0,rfl⟩:=h;exact⟨q,os0++os,by rw[grow_grow]⟩
theorem Qv (w:World) (a b:aa):Calls Tryz.prog 140 #[.agg #[.int .i64 a.aH.eV,.int .i64 a.aH.eR,.int .i64 a.bK],.agg #[.int .i64 b.aH.eV,.int .i64 b.aH.eR,.int .i64 b.bK]] w fun e w'=>e=.returned (.int .i64 (Ki a b))/\Grown w w':=by
 go_enter Tryz.func140,Tryz.ntmps140
 go_wp2_with (first|(go_at_call 141;refine(pX _ a.aH b.aH).mono ?_;rintro e w' ⟨rfl,hG⟩))
 obtain⟨q,os,rfl⟩:=hG
 go_ret
 refine⟨rfl,TK (Grown.dN ?_ q) os⟩
 repeat(first|(with_reducible exact Grown.refl _)|(refine Grown.alloc ?_ _)|(refine Grown.drew ?_)|(refine Grown.dN ?_ _))
theorem swoA:SWO (ltOf Ki) where
 irrefl x:=by rw[yl];exact gJ
 trans x y z h1 h2:=by rw[yl]at *;exact gF h1 h2
 ntrans x y z h1 h2:=by rw[yl]at *;rw[oH]at *;omega
theorem VH:My:=fun wc off cap d w hH hblk eT=>by
 have eg:∀args w,(callFunc 140 args).run Tryz.prog w=.ok (.enter 140 args) w:=enters_of Tryz.func140 g9 rfl;have h:=AnyQ.slices_SortFunc Tryz.O3 3 Tryz.isAgg59 Tryz.sizeOf59 gD (fun _=>rfl) (fun x v hv=>by simp[gD]at hv;rcases hv with rfl|rfl|rfl<;>rfl) Ki swoA 140 #[] wc off cap d w eg (fun m os dk _ x y=>(Qv _ x y).mono fun _ _ ⟨he,q,os',hw⟩=>⟨he,q,os',hw⟩) hH hblk eT;exact h
theorem VI:Mz:=fun p cap fv w=>AnyF.slices_SortFunc_none Tryz.O3 p cap fv w
end V

namespace V
open Go.RowKit
attribute [local irreducible] dY wpOps fm Call
end V

namespace V
open Go.RowKit
def Gi (m:MK) (it nx ok en:Nat) (id:Id) (B:(Ex->Env->aw->Prop)->Env->aw->Prop) (b b1:Nat) (Q:Ex->Env->aw->Prop):Nat->List (List AV)->Env->aw->Prop
 |0,_,env,σ=>env it=.ptr id 0 0/\Q .normal (upd (upd env (some nx) (.gG [.bool false])) (some ok) (.bool false)) ⟨σ.get,σ.next+1⟩
 |n+1,left,env,σ=>env it=.ptr id 0 0/\∀i cs kv vv,left[i]? =some cs->part m.ka m.ks cs=some kv->cs[m.ks]? =some vv->
   B (ba b1 (dc (Gi m it nx ok en id B b b1 Q n (left.eraseIdx i)) (ba b Q))) (upd (upd (upd env (some nx) (.gG [.bool true,kv,vv])) (some ok) (.bool true)) (some en) (.gG [kv,vv])) ⟨σ.get,σ.next+1⟩
def LA (m:MK) (tm:O) (site it nx ok en:Nat) (B:(Ex->Env->aw->Prop)->Env->aw->Prop) (b b1:Nat) (Q:Ex->Env->aw->Prop) (env:Env) (σ:aw):Prop:=
 ∃id r,dq env tm=.map id m/\σ.get id=some r/\r.w=true/\Gi m it nx ok en ⟨site,σ.next⟩ B b b1 Q r.rows.length r.rows (upd env (some it) (.ptr ⟨site,σ.next⟩ 0 0)) ⟨bJ σ.get id {r with w:=false},σ.next+1⟩
variable {P:Program} {w w':World} {D D':Nat->Prop} {ι ι':Names} {hs:Nat} {g:Rows}
theorem lH.Hu (hc:∀b x,D b->w'.cell? ⟨b,x,none⟩=w.cell? ⟨b,x,none⟩) (hz:∀(b:Nat) c ty z,w.heap[b]? =some (.cells c ty z)->w'.heap[b]? =w.heap[b]?) {a:AV} {v:Value} (h:lH P w D a v):lH P w' D a v:=by
 induction h with
 |int k n=>exact .int k n
 |bool b=>exact .bool b
 |str s=>exact .str s
 |ck=>exact .ck
 |jk=>exact .jk
 |kf=>exact .kf
 |kG=>exact .kG
 |j4=>exact .j4
 |err g t s a c ty h1 h2 h3 h4 h5=>exact .err g t s a c ty h1 ((hc g 0 h1).trans h2) h3 ((hz _ _ _ _ h4).trans h4) ((World.cell?_of_block (hz _ _ _ _ h4)).trans h5)
 |Er a c h=>exact .Er a c h
 |sl rows b o n c sz vs h1 h2 h3 h4 h5 h5' h6 _ ih=>exact .sl rows b o n c sz vs h1 h2 h3 h4 h5 h5' (fun i j hi hj=>(hc b _ h4).trans (h6 i j hi hj)) ih
 |dZ cs b o vs h1 h1' h2 _ ih=>exact .dZ cs b o vs h1 h1' (fun j hj=>(hc b _ h1).trans (h2 j hj)) ih
 |agg cs vs f h1 h2 h3 _ ih=>exact .agg cs vs f h1 h2 h3 ih
 |fn f ea vs g h1 h2 h3 _ ih=>exact .fn f ea vs g h1 h2 h3 ih
theorem dX.Hu (hc:∀b x,D b->w'.cell? ⟨b,x,none⟩=w.cell? ⟨b,x,none⟩) (hz:∀(b:Nat) c ty z,w.heap[b]? =some (.cells c ty z)->w'.heap[b]? =w.heap[b]?) {a:AV} {v:Value} (h:dX P w D ι a v):dX P w' D ι a v:=by
 induction h with
 |fw a v h=>exact .fw a v (h.Hu hc hz)
 |map id m B h1 h2=>exact .map id m B h1 h2
 |uB id c B h1 h2=>exact .uB id c B h1 h2
 |own id off len o cap B h1 h2 h3 h4 h5 h6=>exact .own id off len o cap B h1 h2 h3 h4 h5 h6
 |ptr id i off B h1 h2=>exact .ptr id i off B h1 h2
 |agg cs vs f h1 h2 h3 _ ih=>exact .agg cs vs f h1 h2 h3 ih
 |gG cs vs f h1 h2 _ ih=>exact .gG cs vs f h1 h2 ih
 |fn f ea vs g h1 h2 h3 _ ih=>exact .fn f ea vs g h1 h2 h3 ih
 |xH f ea vs g h1 h2 h3 _ ih=>exact .xH f ea vs g h1 h2 h3 ih
def pb (w:World) (rr:Nat):Prop:=∃m s seen c,w.heap[rr]? =some (.mapIter m s seen c)
theorem pb.cell {rr:Nat} (h:pb w rr) (x:Nat):w.cell? ⟨rr,x,none⟩=none:=by
 obtain⟨m,s,seen,c,h⟩:=h;simp[World.cell?,h]
theorem jl.Oy {B:wv} {r:Row} (R:jl P w D ι B r):¬pb w B.b:=by
 rintro⟨m,s,seen,c,h⟩
 cases hk:B.k with
 |none=>obtain⟨c',T,h3,_⟩:=(R.row hk).wc;rw[h]at h3;cases h3
 |some k=>
  cases k with
  |map m=>obtain⟨_,es,c',h3,_⟩:=R.map m hk;rw[h]at h3;cases h3
  |chan c=>obtain⟨_,buf,s',q,h3,_⟩:=R.chan c hk;rw[h]at h3;cases h3
theorem BS {rr:Nat} (h:pb w rr) (h':pb w' rr) (ho:∀b,b≠rr->w'.heap[b]? =w.heap[b]?):(∀{a v},dX P w D ι a v->dX P w' D ι a v):=fun hr=>hr.Hu (fun b x _=>by
 by_cases hb:b=rr
 ·subst hb;rw[h.cell,h'.cell]
 ·exact World.cell?_of_block (ho b hb)) (fun b c ty z hb=>ho b fun e=>by
  subst e;obtain⟨m,s,seen,cc,h⟩:=h;rw[h]at hb;cases hb)
theorem iE.iter {rr:Nat} (S:iE P hs D ι g w) (h:pb w rr) (h':pb w' rr) (ho:∀b,b≠rr->w'.heap[b]? =w.heap[b]?) (hz:w'.heap.size=w.heap.size):iE P hs D ι g w':=
 ⟨by rw[hz];exact S.lo,fun b hb=>by rw[hz];exact S.dead b hb,fun id r hg=>by
  obtain⟨B,hB,R,k1,k2⟩:=S.row id r hg
  exact⟨B,hB,R.frame (ho _ fun e=>R.Oy (e▸h)) fun a v hr=>BS h h' ho hr,k1,k2⟩,S.inj⟩
theorem oZ {ops:Array Oper} {Q:Exit->Act->World->Prop} {a:Act} {o:Oper} {l:List Oper} {v:Value} (hg:o.guard=none) (gW:(execOp a.eval o).run P w=.ok (.value v) w') (h:wpList P ops Q l (a.put o.dst v) w'):wpList P ops Q (o::l) a w:=by
 unfold wpList;rw[if_pos (by simp[Region.wanted,hg])];exact .inl (by unfold Oper.wp;rw[gW];exact h)
theorem OO {x y:AV} {u v:Value} (h1:dX P w D ι x u) (h2:dX P w D ι y v):dX P w D ι (.gG [x,y]) (.tuple #[u,v]):=
 .gG _ _ (fun j=>if j=0 then u else v) rfl (fun j hj=>by match j,hj with|0,_=>rfl|1,_=>rfl|j+2,hj=>simp at hj;omega) (fun j a ha=>by match j,ha with|0,ha=>simp at ha;subst ha;exact h1|1,ha=>simp at ha;subst ha;exact h2|j+2,ha=>simp at ha)
theorem OP {x y z:AV} {u v t:Value} (h1:dX P w D ι x u) (h2:dX P w D ι y v) (h3:dX P w D ι z t):dX P w D ι (.gG [x,y,z]) (.tuple #[u,v,t]):=
 .gG _ _ (fun j=>if j=0 then u else if j=1 then v else t) rfl (fun j hj=>by match j,hj with|0,_=>rfl|1,_=>rfl|2,_=>rfl|j+3,hj=>simp at hj;omega) (fun j a ha=>by match j,ha with|0,ha=>simp at ha;subst ha;exact h1|1,ha=>simp at ha;subst ha;exact h2|2,ha=>simp at ha;subst ha;exact h3|j+3,ha=>simp at ha)
theorem ON {x:AV} {u:Value} (h1:dX P w D ι x u):dX P w D ι (.gG [x]) (.tuple #[u]):=
 .gG _ _ (fun _=>u) rfl (fun j hj=>by match j,hj with|0,_=>rfl|j+1,hj=>simp at hj) (fun j a ha=>by match j,ha with|0,ha=>simp at ha;subst ha;exact h1|j+1,ha=>simp at ha)
structure Su (P:Program) (w:World) (D:Nat->Prop) (ι:Names) (m:MK) (L:List MapEntry) (left:List (List AV)):Prop where
 len:left.length=L.length
 at_:∀(i:Nat) (cs:List AV),left[i]? =some cs->∃(e:MapEntry) (kv vv:AV),L[i]? =some e/\part m.ka m.ks cs=some kv/\cs[m.ks]? =some vv/\dX P w D ι kv e.key/\dX P w D ι vv e.val
theorem Su.rep {m:MK} {L:List MapEntry} {left:List (List AV)} (h:Su P w D ι m L left) (hr:∀{a v},dX P w D ι a v->dX P w' D' ι' a v):Su P w' D' ι' m L left:=⟨h.len,fun i cs hi=>by
 obtain⟨e,kv,vv,h1,h2,h3,h4,h5⟩:=h.at_ i cs hi
 exact⟨e,kv,vv,h1,h2,h3,hr h4,hr h5⟩⟩
theorem pn {α β:Type} {l:List α} {k:List β} {i j:Nat} {x:α} (hl:l.length=k.length) (h:(l.eraseIdx i)[j]? =some x):∃q:Nat,l[q]? =some x/\(k.eraseIdx i)[j]? =k[q]? :=by
 rw[List.getElem?_eraseIdx]at h
 split at h
 ·rename_i hj;exact⟨j,h,by rw[List.getElem?_eraseIdx,if_pos hj]⟩
 ·rename_i hj;exact⟨j+1,h,by rw[List.getElem?_eraseIdx,if_neg hj]⟩
theorem Su.erase {m:MK} {L:List MapEntry} {left:List (List AV)} (h:Su P w D ι m L left) {i:Nat} (hi:i<L.length):Su P w D ι m (L.eraseIdx i) (left.eraseIdx i):=⟨by
 rw[List.length_eraseIdx,List.length_eraseIdx,h.len],fun j cs hj=>by
 obtain⟨q,hq,he⟩:=pn h.len hj;obtain⟨e,kv,vv,h1,h2⟩:=h.at_ q cs hq
 exact⟨e,kv,vv,he.trans h1,h2⟩⟩
theorem pZ:∀{l:List MapEntry} {i:Nat} {e:MapEntry},(l.map (·.born)).Nodup->l[i]? =some e->l.filter (fun x=>x.born !=e.born)=l.eraseIdx i
 |x::l,0,e,hn,h=>by
  simp at h;subst h
  obtain⟨h1,h2⟩:=List.nodup_cons.1 (show(x.born::l.map (·.born)).Nodup from hn);rw[List.filter_cons,if_neg (by simp),List.eraseIdx_cons_zero];refine List.filter_eq_self.2 fun y hy=>?_;have:y.born≠x.born:=fun hc=>h1 (by rw[<-hc];exact List.mem_map_of_mem hy)
  simpa using this
 |x::l,i+1,e,hn,h=>by
  obtain⟨h1,h2⟩:=List.nodup_cons.1 (show(x.born::l.map (·.born)).Nodup from hn);simp only[List.getElem?_cons_succ]at h;have hx:x.born≠e.born:=fun hc=>h1 (by rw[hc];exact List.mem_map_of_mem (List.mem_of_getElem? h));rw[List.filter_cons,if_pos (by simpa using hx),List.eraseIdx_cons_succ,pZ h2 h]
theorem zD {es:Array MapEntry} {clock:Nat} {seen:Array Nat} {i:Nat} {e:MapEntry} (hs:IK es clock) (h:(leftOf es seen).toList[i]? =some e):(leftOf es (seen.push e.born)).toList=(leftOf es seen).toList.eraseIdx i:=by
 have hn:((leftOf es seen).toList.map (·.born)).Nodup:=by
  unfold leftOf;rw[Array.toList_filter];exact((List.filter_sublist (p:=fun e=> !seen.contains e.born) (l:=es.toList)).map MapEntry.born).nodup hs.2
 rw[<-pZ hn h];unfold leftOf;rw[Array.toList_filter,Array.toList_filter,List.filter_filter];refine List.filter_congr fun x _=>?_;rw[contains_push]
 cases seen.contains x.born<;>cases hb:(x.born==e.born)<;>simp_all
theorem eval_put {a:Act} {d:Nat} {v:Value} (h:d<a.tmps.size):(a.put (some d) v).eval (.tmp d)=v:=by
 simp[Act.put,Act.eval,h]
def Lz (ix ie b b1 ok:Nat) (H6 Lt H5:Oper) (vp:List Oper) (pY:Code):Code:=
 .seq (.region ix #[H6,Lt] false) (.seq (.cond (.tmp ok) .skip (.exit b)) (.block b1 (.seq (.region ie (H5::vp).toArray false) pY)))
structure II (P:Program) (md:List (Nat×Nat)) (nt fid s0 it nx ok en:Nat) (H6 Lt H5:Oper) (vp:List Oper) (pY:Code) (vE:List bU) (vV:VC):Prop where
 h1:H6.op=.next (.tmp it) false
 h2:H6.dst=some nx
 h3:H6.guard=none
 h4:Lt.op=.extract (.tmp nx) 0
 h5:Lt.dst=some ok
 h6:Lt.guard=none
 h7:H5.op=.entry (.tmp it)
 h8:H5.dst=some en
 h9:H5.guard=none
 Xo:nx<nt
 lt2:ok<nt
 lt3:en<nt
 ne1:it≠nx
 ne2:it≠ok
 hE:allM (mM P (H5::vp).toArray nt s0 false false #[] []) vp 1=some vE
 hR:jU P md nt fid pY=some vV
theorem Ih (hm:P.follows .mixedOrders=true) {md:List (Nat×Nat)} {nt fid s0 ix ie b b1 it nx ok en:Nat} {m:MK} {id:Id} {H6 Lt H5:Oper} {vp:List Oper} {pY:Code} {vE:List bU} {vV:VC}
  (O:II P md nt fid s0 it nx ok en H6 Lt H5 vp pY vE vV) {rr bm:Nat} {es:Array MapEntry} {clock:Nat} (Fz:IK es clock) {ds:List Deferred} {n0:Nat} {D0:Nat->Prop} {ι0:Names} {w0:World} {Q:Ex->Env->aw->Prop} {Q':Exit->Act->World->Prop}
  (hQ:xk P hs nt ds Q n0 D0 ι0 w0 Q') (hD0:¬D0 rr) (hrr:hs<=rr) (ju:bm≠rr):
  ∀(n:Nat) (left:List (List AV)) (env:Env) (σ:aw) (a:Act) (w:World) (D:Nat->Prop) (ι:Names) (seen:Array Nat),
   Gi m it nx ok en id (dY (Sound P) (.seq (.gh false vE) vV)) b b1 Q n left env σ->St P hs nt D ι env σ a w->a.defers=ds->n0<=σ.next->Step hs D0 ι0 w0 D ι w->
   (∃sz C,ι id=some ⟨rr,sz,C,none⟩)->D rr->D bm->w.heap[rr]? =some (.mapIter (some bm) clock seen clock)->w.heap[bm]? =some (.map es clock)->left.length=n->Su P w D ι m (leftOf es seen).toList left->
   si P (Lz ix ie b b1 ok H6 Lt H5 vp pY) (Exit.inBlock b Q') (n+1) a w:=by
 intro n
 induction n with
 |zero=>
  intro left env σ a w D ι seen hv ez hd GJ T hid hDr hDb hr hb hlen hL;obtain⟨Mf,hq⟩:=hv
  have ha:a.tmps.getD it undef=.pointer (some ⟨rr,0,none⟩):=by
   have:=ez.env it;rw[Mf]at this;obtain⟨B,e,hB,_⟩:=jG this;obtain⟨sz,C,hid⟩:=hid;rw[hid]at hB;injection hB with hB;subst hB
   simpa using e
  have hae:a.eval (.tmp it)=.pointer (some ⟨rr,0,none⟩):=ha
  rcases run_next_at (P:=P) w H6.type rr bm clock clock seen es clock hr hb Fz.1 i4 with⟨_,gW⟩|⟨e,he,_⟩
  rotate_left
  ·have h0:(leftOf es seen).toList=[]:=List.eq_nil_of_length_eq_zero (by rw[<-hL.len,hlen]);rw[h0]at he;simp at he
  have Dj:nx<a.tmps.size:=by rw[ez.size];exact O.Xo
  have E2:=jO (jO ez.env (ON (.fw _ _ (.bool false))) (dst:=some nx) (fun d h=>by cases h;exact O.Xo) ez.size) (.fw _ _ (.bool false)) (dst:=some ok) (fun d h=>by cases h;exact O.lt2) (by rw[gn];exact ez.size);show Bh P (.seq _ _) _ a w;refine nS (lC (wp_region_list ?_));refine oZ (v:=.tuple #[.bool false]) (w':=w) O.h3 (by simp[execOp,O.h1,hae,gW,Result.andThen]) ?_;refine oZ (v:=.bool false) (w':=w) O.h6 (by rw[O.h2];simp[execOp,O.h4,eval_put Dj,Instr.extract]) ?_;rw[O.h2,O.h5];refine nS (zQ (t:=false) (eval_put (by rw[gn,ez.size];exact O.lt2)) (lC (wp_exit ?_)));show Exit.inBlock b Q' (.exit b) _ _;simp only[Exit.inBlock,if_true];exact hQ .normal _ ⟨σ.get,σ.next+1⟩ _ w D ι hq T ⟨ez.xa,ez.used.next,E2,by rw[gn,gn];exact ez.size⟩ (by rw[put_defers,put_defers];exact hd) (Nat.le_succ_of_le GJ)
 |succ n ih=>
  intro left env σ a w D ι seen hv ez hd GJ T hid hDr hDb hr hb hlen hL;obtain⟨Mf,hq⟩:=hv
  have ha:a.tmps.getD it undef=.pointer (some ⟨rr,0,none⟩):=by
   have:=ez.env it;rw[Mf]at this;obtain⟨B,e,hB,_⟩:=jG this;obtain⟨sz,C,hid⟩:=hid;rw[hid]at hB;injection hB with hB;subst hB
   simpa using e
  have hae:a.eval (.tmp it)=.pointer (some ⟨rr,0,none⟩):=ha
  rcases run_next_at (P:=P) w H6.type rr bm clock clock seen es clock hr hb Fz.1 i4 with⟨h0,_⟩|⟨e,he,w1,qX,gW⟩
  ·have:=hL.len;rw[hlen,Array.length_toList]at this;omega
  obtain⟨i,hi,Jf⟩:=List.getElem_of_mem he;have Yy:(leftOf es seen).toList[i]? =some e:=by rw[i5 hi,Jf]
  have sO:i<left.length:=by rw[hL.len];exact hi
  obtain⟨e',kv,vv,q1,q2,q3,q4,q5⟩:=hL.at_ i left[i] (i5 sO);rw[Yy]at q1;injection q1 with q1;subst q1
  replace hq:=hq i left[i] kv vv (i5 sO) q2 q3;have KO:w1.heap[rr]? =some (.mapIter (some bm) clock seen clock):=by rcases qX with rfl|rfl<;>exact hr
  have fV:=MapKept.heap_set (o':=.mapIter (some bm) clock (seen.push e.born) clock) KO
  obtain⟨w2,AZ⟩:∃w2,ChangeMaps.setBlock w1 rr (.mapIter (some bm) clock (seen.push e.born) clock)=w2:=⟨_,rfl⟩
  have ho:∀k,k≠rr->w2.heap[k]? =w.heap[k]? :=fun k hk=>by
   rw[<-AZ];refine(fV.2 k hk).trans ?_
   rcases qX with rfl|rfl<;>rfl
  have hz:w2.heap.size=w.heap.size:=by
   rw[<-AZ]
   rcases qX with rfl|rfl<;>simp[ChangeMaps.setBlock]
  have GM:w2.heap[rr]? =some (.mapIter (some bm) clock (seen.push e.born) clock):=by rw[<-AZ];exact fV.1
  have x9:w2.os=w.os/\w2.tape=w.tape/\w2.output=w.output:=by
   rw[<-AZ]
   rcases qX with rfl|rfl<;>exact⟨rfl,rfl,rfl⟩
  rw[AZ]at gW;clear AZ fV
  have I1:pb w rr:=⟨_,_,_,_,hr⟩
  have I2:pb w2 rr:=⟨_,_,_,_,GM⟩
  have rt:∀{a v},dX P w D ι a v->dX P w2 D ι a v:=BS I1 I2 ho;have S2:=ez.xa.iter I1 I2 ho hz
  have T2:Step hs D0 ι0 w0 D ι w2:=⟨⟨x9.1.trans T.below.os,x9.2.1.trans T.below.tape,x9.2.2.trans T.below.output,by rw[hz];exact T.below.size,fun k hk=>(ho k ae).trans (T.below.block k hk)⟩,fun k hk=>(ho k (fun hc=>hD0 (hc▸hk))).trans (T.yc k hk),T.dead,T.names,T.new⟩
  have HG:w2.heap[bm]? =some (.map es clock):=(ho bm ju).trans hb;have Dj:nx<a.tmps.size:=by rw[ez.size];exact O.Xo
  have E1:dR P w2 D ι env a:=fun t=>rt (ez.env t);have E2:=jO (jO E1 (OP (.fw _ _ (.bool true)) (rt q4) (rt q5)) (dst:=some nx) (fun d h=>by cases h;exact O.Xo) ez.size) (.fw _ _ (.bool true)) (dst:=some ok) (fun d h=>by cases h;exact O.lt2) (by rw[gn];exact ez.size);have E3:=jO E2 (OO (rt q4) (rt q5)) (dst:=some en) (fun d h=>by cases h;exact O.lt3) (by rw[gn,gn];exact ez.size);have SV:=run_entry_at (P:=P) w2 rr bm clock seen es clock e GM HG (mem_left he).1 Fz.2;show Bh P (.seq _ _) _ a w;refine nS (lC (wp_region_list ?_));refine oZ (v:=.tuple #[.bool true,e.key,e.val]) (w':=w2) O.h3 (by simp[execOp,O.h1,hae,gW,Result.andThen]) ?_;refine oZ (v:=.bool true) (w':=w2) O.h6 (by rw[O.h2];simp[execOp,O.h4,eval_put Dj,Instr.extract]) ?_;rw[O.h2,O.h5];refine nS (zQ (t:=true) (eval_put (by rw[gn,ez.size];exact O.lt2)) (lC (wp_skip ?_)));refine wV (nS (lC (wp_region_list ?_)));show wpList P _ _ (H5::vp) _ _
  have ha3:(((a.put (some nx) (.tuple #[.bool true,e.key,e.val])).put (some ok) (.bool true)).eval (.tmp it))=.pointer (some ⟨rr,0,none⟩):=by
   have n1:=O.ne1;have n2:=O.ne2;rw[<-hae];simp[Act.put,Act.eval,Array.getD_eq_getD_getElem?,Array.getElem?_setIfInBounds,Ne.symm n1,Ne.symm n2]
  refine oZ (v:=.tuple #[e.key,e.val]) (w':=w2) O.h9 (by simp[execOp,O.h7,ha3,SV,Result.andThen]) ?_;rw[O.h8];refine Cd vp vE 1 _ ⟨σ.get,σ.next+1⟩ _ w2 D ι (fun _=>False) O.hE hq S2 ez.used.next (fun _ h=>h.elim) E3 (by rw[gn,gn,gn];exact ez.size) fun env3 σ3 a3 w3 D3 ι3 hk T3 St3 hd3 hle3=>?_;refine tt hm pY vV O.hR _ env3 σ3 a3 w3 D3 ι3 _ hk St3 fun ex M5 σ4 a4 w4 D4 ι4 NL T4 St4 Mc hle4=>?_;have QQ:a4.defers=ds:=by rw[Mc,hd3,put_defers,put_defers,put_defers];exact hd
  have hnn:n0<=σ4.next:=Nat.le_trans GJ (Nat.le_trans (Nat.le_succ _) (Nat.le_trans hle3 hle4));have TQ:=T3.trans T4;have TT:=T2.trans TQ
  have Zg:Gi m it nx ok en id (dY (Sound P) (.seq (.gh false vE) vV)) b b1 Q n (left.eraseIdx i) M5 σ4->si P (Lz ix ie b b1 ok H6 Lt H5 vp pY) (Exit.inBlock b Q') (n+1) a4 w4:=fun hq5=>by
   refine ih (left.eraseIdx i) M5 σ4 a4 w4 D4 ι4 (seen.push e.born) hq5 St4 QQ hnn TT ?_ (TQ.dead _ hDr) (TQ.dead _ hDb) ((TQ.yc _ hDr).trans GM) ((TQ.yc _ hDb).trans HG) ?_ ?_
   ·obtain⟨sz,C,hid⟩:=hid;exact⟨sz,C,TQ.names _ _ hid⟩
   ·rw[List.length_eraseIdx,if_pos sO,hlen];rfl
   ·rw[zD Fz Yy];exact(hL.erase hi).rep fun hr=>TQ.rep (rt hr)
  have out:∀ex,ex≠.normal->Q ex M5 σ4->Q' (ZW ex) a4 w4:=fun ex _ h=>hQ ex M5 σ4 a4 w4 D4 ι4 h TT St4 QQ hnn
  cases ex with
  |normal=>exact Zg NL
  |ret=>exact out .ret (by simp) NL
  |exit lP=>
   simp only[ba]at NL;simp only[ZW,Exit.inBlock]
   by_cases h1:lP=b1
   ·rw[if_pos h1]at NL ⊢;exact Zg NL
   ·rw[if_neg h1]at NL ⊢;simp only[dc,ba]at NL;show Exit.inBlock b Q' (.exit lP) a4 w4;simp only[Exit.inBlock]
    by_cases h2:lP=b
    ·rw[if_pos h2]at NL ⊢;exact hQ .normal M5 σ4 a4 w4 D4 ι4 NL TT St4 QQ hnn
    ·rw[if_neg h2]at NL ⊢;exact out (.exit lP) (by simp) NL
def CS (P:Program) (nt:Nat) (c:Code) (W:(Ex->Env->aw->Prop)->Env->aw->Prop):Prop:=
 ∀(hs:Nat) (Q:Ex->Env->aw->Prop) (env:Env) (σ:aw) (a:Act) (w:World) (D:Nat->Prop) (ι:Names) (Q':Exit->Act->World->Prop),W Q env σ->St P hs nt D ι env σ a w->xk P hs nt a.defers Q σ.next D ι w Q'->Bh P c Q' a w
theorem CS.code (hm:P.follows .mixedOrders=true) {md:List (Nat×Nat)} {nt fid:Nat} {c:Code} {vc:VC} (h:jU P md nt fid c=some vc):CS P nt c (dY (Sound P) vc):=
 fun _ Q env σ a w D ι Q' hv ez hQ=>tt hm c vc h Q env σ a w D ι Q' hv ez hQ
theorem CS.seq {nt:Nat} {x y:Code} {V W:(Ex->Env->aw->Prop)->Env->aw->Prop} (h:CS P nt x V) (k:CS P nt y W):CS P nt (.seq x y) (fun Q=>V (dc (W Q) Q)):=fun hs Q env σ a w D ι Q' hv ez hQ=>by
 refine nS (h hs _ env σ a w D ι _ hv ez fun ex j7 σ1 a1 w1 D1 ι1 hq T lg hd hle=>?_)
 cases ex with
 |normal=>exact k hs Q j7 σ1 a1 w1 D1 ι1 Q' hq lg (by rw[hd];exact hQ.later T hle)
 |exit id=>exact hQ (.exit id) j7 σ1 a1 w1 D1 ι1 hq T lg hd hle
 |ret=>exact hQ .ret j7 σ1 a1 w1 D1 ι1 hq T lg hd hle
theorem CS.rng (hm:P.follows .mixedOrders=true) {md:List (Nat×Nat)} {nt fid s0 sA site ia ix ie b b1 it nx ok en:Nat} {m:MK} {H6 Lt H5 H9:Oper} {OJ vp:List Oper} {pY:Code} {vA vE:List bU} {vV:VC} {t k e:TypeId} {tm:Operand} {tm':O}
  (O:II P md nt fid s0 it nx ok en H6 Lt H5 vp pY vE vV) (h1:H9.op=.range t tm) (h2:H9.dst=some it) (h3:H9.guard=none) (eG:it<nt) (ht:P.underlying t=some (.map k e)) (YS:cO P tm=some tm') (hA:allM (mM P (OJ++[H9]).toArray nt sA false false #[] []) OJ 0=some vA):
  CS P nt (.seq (.region ia (OJ++[H9]).toArray false) (.block b (.loop (Lz ix ie b b1 ok H6 Lt H5 vp pY))))
   (fun Q=>wpOps (Sound P) false vA (LA m tm' site it nx ok en (dY (Sound P) (.seq (.gh false vE) vV)) b b1 Q)):=fun hs Q env σ a w D ι Q' hv ez hQ=>by
 refine nS (lC (wp_region_list ?_));show wpList P _ _ (OJ++[H9]) a w;refine zU [H9] OJ vA 0 env σ a w D ι (fun _=>False) hA hv ez.xa ez.used (fun _ h=>h.elim) ez.env ez.size fun j7 σ1 a1 w1 D1 ι1 hk T um sY NH=>?_;obtain⟨id,r,hid,hg,hw,hr⟩:=hk;have jv:=eo um.env YS;rw[hid]at jv;obtain⟨B,hv,hB,hk⟩:=DO jv;obtain⟨B',eY,R,lp,uk⟩:=um.xa.row id r hg;rw[hB]at eY;injection eY with eY;subst eY
 obtain⟨hrsz,es,clock,hb,eT,⟨hlen,Fz⟩,hM⟩:=R.map m hk;have L8:=R.lt;have gW:=run_range_map (P:=P) w1 t k e B.b es clock ht hb;refine oZ (v:=.pointer (some ⟨w1.heap.size,0,none⟩)) (w':=w1.alloc (.mapIter (some B.b) clock #[] clock)) h3 (by simp[execOp,h1,hv,gW,Result.andThen]) ?_;rw[h2]
 obtain⟨w2,AZ⟩:∃w2,w1.alloc (.mapIter (some B.b) clock #[] clock)=w2:=⟨_,rfl⟩
 have hblk:∀b,b<w1.heap.size->w2.heap[b]? =w1.heap[b]? :=fun b hb=>by rw[<-AZ];exact Below.heap_alloc _ _ _ hb
 have l9:w2.heap[w1.heap.size]? =some (.mapIter (some B.b) clock #[] clock):=by rw[<-AZ];exact heap_alloc_new _ _
 have hz:w2.heap.size=w1.heap.size+1:=by rw[<-AZ];simp
 have x9:w2.os=w1.os/\w2.tape=w1.tape/\w2.output=w1.output:=by rw[<-AZ];exact⟨rfl,rfl,rfl⟩
 rw[AZ];clear AZ gW
 let D2:Nat->Prop:=fun x=>D1 x∨x=B.b∨x=w1.heap.size
 let ι2:Names:=lT ι1 ⟨site,σ1.next⟩ ⟨w1.heap.size,1,0,none⟩
 have gQ:ι1 ⟨site,σ1.next⟩=none:=fresh um.used (fun h=>h);have hrT:∀{a v},dX P w1 D1 ι1 a v->dX P w2 D2 ι2 a v:=fun h=>h.frame (fun b hd=>hblk b (um.xa.dead b hd)) (fun _ h=>.inl h) (gq gQ)
 have F9:∀{j q C},σ1.get j=some q->ι2 j=some C->ι1 j=some C:=fun {j q C} hj hC=>by
  obtain⟨C',xZ,_⟩:=um.xa.row j q hj;have:=gq (B:=⟨w1.heap.size,1,0,none⟩) gQ j C' xZ;have e:=this.symm.trans hC;injection e with e;rw[<-e];exact xZ
 have lt:∀{j q C},σ1.get j=some q->ι1 j=some C->C.b<w1.heap.size:=fun {j q C} hj hC=>by
  obtain⟨C',xZ,R',_⟩:=um.xa.row j q hj;rw[hC]at xZ;injection xZ with xZ;subst xZ
  exact R'.lt
 have Up:∀{j q},bJ σ1.get id {r with w:=false} j=some q->∃q0,σ1.get j=some q0/\(q.w=true->q=q0/\j≠id)/\(j=id->q={r with w:=false}/\q0=r)/\(j≠id->q=q0):=fun {j q} h=>by
  unfold bJ at h
  split at h
  ·rename_i e;injection h with h;subst h
   exact⟨r,e▸hg,fun h=>(by cases h),fun _=>⟨rfl,rfl⟩,fun hc=>absurd e hc⟩
  ·rename_i e;exact⟨q,h,fun _=>⟨rfl,e⟩,fun hc=>absurd hc e,fun _=>rfl⟩
 have S2:iE P hs D2 ι2 (bJ σ1.get id {r with w:=false}) w2:=by
  refine⟨by rw[hz];exact Nat.le_succ_of_le um.xa.lo,fun b hb=>?_,fun j q h=>?_,fun j j' q q' C C' h h' NN hC xZ he=>?_⟩
  ·rw[hz]
   rcases hb with hb|rfl|rfl
   ·exact Nat.lt_succ_of_lt (um.xa.dead b hb)
   ·exact Nat.lt_succ_of_lt L8
   ·exact Nat.lt_succ_self _
  ·obtain⟨q0,S7,NN,hid',ju⟩:=Up h;obtain⟨C,hC,RC,k1,k2⟩:=um.xa.row j q0 S7;have hCl:=lt S7 hC;refine⟨C,gq gQ j C hC,?_,fun Xl=>k1 ((NN Xl).1▸Xl),fun Xl hD=>?_⟩
   ·have RF:jl P w2 D2 ι2 C q0:=RC.frame (hblk _ hCl) fun a v h=>hrT h
    by_cases hj:j=id
    ·obtain⟨e1,e2⟩:=hid' hj;rw[e1,<-e2];exact RF.flag false
    ·rw[ju hj];exact RF
   ·obtain⟨e1,e2⟩:=NN Xl
    rcases hD with hD|hD|hD
    ·exact k2 (e1▸Xl) hD
    ·exact e2 (um.xa.inj j id q0 r C B S7 hg (e1▸Xl) hC hB hD)
    ·omega
  ·obtain⟨q0,S7,hqw0,_⟩:=Up h;obtain⟨q0',YN,_⟩:=Up h';exact um.xa.inj j j' q0 q0' C C' S7 YN ((hqw0 NN).1▸NN) (F9 S7 hC) (F9 YN xZ) he
 have T2:Step hs D1 ι1 w1 D2 ι2 w2:=⟨⟨x9.1,x9.2.1,x9.2.2,ae,fun k hk=>hblk k (Nat.lt_of_lt_of_le hk um.xa.lo)⟩,fun b hb=>hblk b (um.xa.dead b hb),fun _ h=>.inl h,gq gQ,fun b hb=>by
  rcases hb with hb|rfl|rfl
  ·exact .inl hb
  ·exact .inr (lp hw)
  ·exact .inr um.xa.lo⟩
 have E2:dR P w2 D2 ι2 (upd j7 (some it) (.ptr ⟨site,σ1.next⟩ 0 0)) (a1.put (some it) (.pointer (some ⟨w1.heap.size,0,none⟩))):=
  jO (fun t=>hrT (um.env t)) (by have:=dX.ptr (P:=P) (w:=w2) (D:=D2) (ι:=ι2) ⟨site,σ1.next⟩ 0 0 ⟨w1.heap.size,1,0,none⟩ (fa _ _ _) rfl;simpa using this) (fun d h=>by cases h;exact eG) um.size
 have L2:Su P w2 D2 ι2 m (leftOf es #[]).toList r.rows:=by
  have he:(leftOf es #[]).toList=es.toList:=by simp[leftOf]
  rw[he];refine⟨by simpa using eT.symm,fun i cs hi=>?_⟩;obtain⟨XN,kv,vv,q1,q2,q3,q4,q5⟩:=hM i cs hi;exact⟨XN,kv,vv,by simpa using q1,q2,q3,hrT q4,hrT q5⟩
 show Bh P (.block b (.loop (Lz ix ie b b1 ok H6 Lt H5 vp pY))) Q' _ w2
 exact wV (F8 (r.rows.length+1) (Ih hm O Fz (ds:=a.defers) (n0:=σ.next) (D0:=D) (ι0:=ι) (w0:=w) hQ
  (fun hc=>by have:=ez.xa.dead _ hc;have:=T.below.size;omega) um.xa.lo ae r.rows.length r.rows _ ⟨bJ σ1.get id {r with w:=false},σ1.next+1⟩ _ w2 D2 ι2 #[] hr
  ⟨S2,um.used.upd.next,E2,by rw[gn];exact um.size⟩ (by rw[put_defers];exact sY) (Nat.le_succ_of_le NH) (T.trans T2) ⟨1,0,fa _ _ _⟩ (.inr (.inr rfl)) (.inr (.inl rfl)) l9 ((hblk _ L8).trans hb) rfl L2))
theorem CS.fn {f:Nat} {fn:Func} {c:Code} {args:List AV} {σ:aw} {K:AV->aw->Prop} {vr:List qE} {W:(Ex->Env->aw->Prop)->Env->aw->Prop} (SY:P.funcs[f]? =some fn) (hc:fn.body=some c) (hr:fn.results.toList.mapM (Hh P)=some vr) (ha:fn.params.size+fn.nfree=args.length) (hle:fn.params.size+fn.nfree<=fn.ntmps)
  (h:CS P fn.ntmps c W) (hv:W (oj vr K) (bV args) σ):Call P f args σ K:=
 fW (yS SY hc hr ha hle fun hs w D ι a Q' ez hQ=>h hs (oj vr K) (bV args) σ a w D ι Q' hv ez hQ)
theorem v7 (hm:P.follows .mixedOrders=true) {c:VC} {Q Q':Ex->Env->aw->Prop} {env:Env} {σ:aw} (hQ:∀x e s,Q x e s->Q' x e s) (h:dY (Call P) c Q env σ):dY (Sound P) c Q' env σ:=
 lV (fun _ _ _ _ h=>iO hm h) mK c Q Q' env σ hQ h
theorem Cm {m:MK} {it nx ok en:Nat} {id:Id} {B B':(Ex->Env->aw->Prop)->Env->aw->Prop} {b b1:Nat} {Q Q':Ex->Env->aw->Prop} (hB:∀R R' e s,(∀x e s,R x e s->R' x e s)->B R e s->B' R' e s) (hQ:∀x e s,Q x e s->Q' x e s):
  ∀(n:Nat) (left:List (List AV)) (env:Env) (σ:aw),Gi m it nx ok en id B b b1 Q n left env σ->Gi m it nx ok en id B' b b1 Q' n left env σ
 |0,_,env,σ,h=>⟨h.1,hQ _ _ _ h.2⟩
 |n+1,left,env,σ,h=>⟨h.1,fun i cs kv vv h1 h2 h3=>hB _ _ _ _ (fun x e s hx=>by
  have hn:=Cm (id:=id) (m:=m) (it:=it) (nx:=nx) (ok:=ok) (en:=en) (b:=b) (b1:=b1) hB hQ n (left.eraseIdx i) e s
  cases x with
  |normal=>exact hn hx
  |ret=>exact hQ _ _ _ hx
  |exit lP=>
   simp only[ba]at hx ⊢
   split at hx
   ·rename_i h1;rw[if_pos h1];exact hn hx
   ·rename_i h1;rw[if_neg h1];simp only[dc,ba]at hx ⊢
    split at hx
    ·rename_i h2;rw[if_pos h2];exact hQ _ _ _ hx
    ·rename_i h2;rw[if_neg h2];exact hQ _ _ _ hx) (h.2 i cs kv vv h1 h2 h3)⟩
theorem LB (hm:P.follows .mixedOrders=true) {m:MK} {tm:O} {site it nx ok en:Nat} {c:VC} {b b1:Nat} {Q Q':Ex->Env->aw->Prop} {env:Env} {σ:aw} (hQ:∀x e s,Q x e s->Q' x e s) (h:LA m tm site it nx ok en (dY (Call P) c) b b1 Q env σ):LA m tm site it nx ok en (dY (Sound P) c) b b1 Q' env σ:=by
 obtain⟨id,r,h1,h2,h3,h4⟩:=h;exact⟨id,r,h1,h2,h3,Cm (B':=dY (Sound P) c) (fun R R' e s hR hb=>v7 hm hR hb) hQ _ _ _ _ h4⟩
theorem tZ {α:Type}:∀{l:List α} {i:Nat} {x:α},l[i]? =some x->(x::l.eraseIdx i).Perm l
 |y::l,0,x,h=>by simp at h;subst h;exact List.Perm.refl _
 |y::l,i+1,x,h=>by
  simp only[List.getElem?_cons_succ]at h;rw[List.eraseIdx_cons_succ];exact(List.Perm.swap _ _ _).trans ((tZ h).cons _)
theorem TF {m:MK} {tm:O} {site it nx ok en:Nat} {c:VC} {b b1:Nat} {Q:Ex->Env->aw->Prop} {env:Env} {σ:aw} {id:Id} {r:Row} (I:List (List AV)->Env->aw->Prop) (h1:dq env tm=.map id m) (h2:σ.get id=some r) (h3:r.w=true) (Mf:([nx,ok,en]++Bl c).contains it=false)
  (h0:I [] (upd env (some it) (.ptr ⟨site,σ.next⟩ 0 0)) ⟨bJ σ.get id {r with w:=false},σ.next+1⟩)
  (step:∀pre cs rest e s kv vv,(pre++cs::rest).Perm r.rows->I pre e s->ki ([nx,ok,en]++Bl c) (upd env (some it) (.ptr ⟨site,σ.next⟩ 0 0)) e->part m.ka m.ks cs=some kv->cs[m.ks]? =some vv->
   dY (Call P) c (ba b1 (dc (I (pre++[cs])) (ba b Q))) (upd (upd (upd e (some nx) (.gG [.bool true,kv,vv])) (some ok) (.bool true)) (some en) (.gG [kv,vv])) ⟨s.get,s.next+1⟩)
  (fin:∀pre e s,pre.Perm r.rows->I pre e s->ki ([nx,ok,en]++Bl c) (upd env (some it) (.ptr ⟨site,σ.next⟩ 0 0)) e->Q .normal (upd (upd e (some nx) (.gG [.bool false])) (some ok) (.bool false)) ⟨s.get,s.next+1⟩):
  LA m tm site it nx ok en (dY (Call P) c) b b1 Q env σ:=by
 refine⟨id,r,h1,h2,h3,?_⟩
 have Yh:∀e,ki ([nx,ok,en]++Bl c) (upd env (some it) (.ptr ⟨site,σ.next⟩ 0 0)) e->e it=.ptr ⟨site,σ.next⟩ 0 0:=fun e h=>by
  rw[h it Mf];simp[upd]
 have key:∀n left pre e s,(pre++left).Perm r.rows->left.length=n->I pre e s->ki ([nx,ok,en]++Bl c) (upd env (some it) (.ptr ⟨site,σ.next⟩ 0 0)) e->Gi m it nx ok en ⟨site,σ.next⟩ (dY (Call P) c) b b1 Q n left e s:=by
  intro n
  induction n with
  |zero=>
   intro left pre e s hp hl hI hK;have:left=[]:=List.eq_nil_of_length_eq_zero hl;subst this;rw[List.append_nil]at hp;exact⟨Yh e hK,fin pre e s hp hI hK⟩
  |succ n ih=>
   intro left pre e s hp hl hI hK;refine⟨Yh e hK,fun i cs kv vv hi hk hv=>?_⟩;have sO:=(List.getElem?_eq_some_iff.1 hi).1
   have s5:(cs::left.eraseIdx i).Perm left:=by
    exact tZ hi
   have Ji:(pre++cs::left.eraseIdx i).Perm r.rows:=(s5.append_left pre).trans hp
   have WY:ki ([nx,ok,en]++Bl c) (upd env (some it) (.ptr ⟨site,σ.next⟩ 0 0)) (upd (upd (upd e (some nx) (.gG [.bool true,kv,vv])) (some ok) (.bool true)) (some en) (.gG [kv,vv])):=
    ((hK.upd (fun t h=>by cases h;simp)).upd (fun t h=>by cases h;simp)).upd (fun t h=>by cases h;simp)
   refine lV (fun _ _ _ _ h=>h) ax c _ _ _ _ (fun x e' s' hx=>?_) (Cw c _ _ _ (fun t ht=>List.mem_append_right _ ht) WY (step pre cs (left.eraseIdx i) e s kv vv Ji hI hK hk hv));obtain⟨hx,Ej⟩:=hx
   have Zg:I (pre++[cs]) e' s'->Gi m it nx ok en ⟨site,σ.next⟩ (dY (Call P) c) b b1 Q n (left.eraseIdx i) e' s':=fun hI'=>
    ih (left.eraseIdx i) (pre++[cs]) e' s' (by rw[List.append_assoc];exact Ji) (by rw[List.length_eraseIdx,if_pos sO];omega) hI' Ej
   cases x with
   |normal=>exact Zg hx
   |ret=>exact hx
   |exit lP=>
    simp only[ba]at hx ⊢
    split at hx
    ·rename_i h1;rw[if_pos h1];exact Zg hx
    ·rename_i h1;rw[if_neg h1];exact hx
 exact key _ r.rows [] _ _ (List.Perm.refl _) rfl h0 (ki.refl _ _)
end V

namespace V
open Go.RowKit
def Qc:Code->Code
 | .seq a _=>a
 |c=>c
def GQ:Code->Code
 | .seq _ b=>b
 |c=>c
def zsB:Code->Code
 | .block _ c=>c
 |c=>c
def zsLp:Code->Code
 | .loop c=>c
 |c=>c
def ZM:Code->List Oper
 | .region _ o _=>o.toList
 |_=>[]
def rg2 (k:Code):Code:=Qc (Qc (GQ (GQ k)))
def rgBl (k:Code):Code:=GQ (Qc (GQ (GQ k)))
def rgL (k:Code):Code:=zsLp (zsB (rgBl k))
def VA (k:Code):Code:=GQ (GQ (rgL k))
def Wd:Oper:={dst:=none,op:=.nilCheck (.tmp 0),type:=0,pos:= "",after:= #[],guard:=none}
def rgP (k:Code):List Oper:=(ZM (rg2 k)).dropLast
def rgO (k:Code):Oper:=(ZM (rg2 k)).getLastD Wd
def Tt (k:Code) (i:Nat):Oper:=(ZM (Qc (rgL k))).getD i Wd
def RN (k:Code):Oper:=(ZM (Qc (zsB (VA k)))).headD Wd
def RP (k:Code):List Oper:=(ZM (Qc (zsB (VA k)))).tail
def rgR (k:Code):Code:=GQ (zsB (VA k))
def VD (P:Program) (v0 v1:VC) (vA:List bU) (m:MK) (tm:O) (site it nx ok en:Nat) (vE:List bU) (vR:VC) (b b1:Nat) (vT:VC) (Q:Ex->Env->aw->Prop):Env->aw->Prop:=
 dY (Sound P) v0 (dc (dY (Sound P) v1 (dc (wpOps (Sound P) false vA (LA m tm site it nx ok en (dY (Sound P) (.seq (.gh false vE) vR)) b b1 (dc (dY (Sound P) vT Q) Q))) Q)) Q)
def OS (P:Program) (v0 v1:VC) (vA:List bU) (m:MK) (tm:O) (site it nx ok en:Nat) (vE:List bU) (vR:VC) (b b1:Nat) (vT:VC) (Q:Ex->Env->aw->Prop):Env->aw->Prop:=
 dY (Call P) v0 (dc (dY (Call P) v1 (dc (wpOps (Call P) false vA (LA m tm site it nx ok en (dY (Call P) (.seq (.gh false vE) vR)) b b1 (dc (dY (Call P) vT Q) Q))) Q)) Q)
theorem Al {F F':Env->aw->Prop} {Q:Ex->Env->aw->Prop} (h:∀e s,F e s->F' e s):∀x e s,dc F Q x e s->dc F' Q x e s:=fun x e s hx=>by
 cases x with
 |normal=>exact h e s hx
 |ret=>exact hx
 |exit id=>exact hx
theorem Gj {P:Program} (hm:P.follows .mixedOrders=true) {v0 v1:VC} {vA:List bU} {m:MK} {tm:O} {site it nx ok en:Nat} {vE:List bU} {vR:VC} {b b1:Nat} {vT:VC} {Q:Ex->Env->aw->Prop} {env:Env} {σ:aw}
  (h:OS P v0 v1 vA m tm site it nx ok en vE vR b b1 vT Q env σ):VD P v0 v1 vA m tm site it nx ok en vE vR b b1 vT Q env σ:=
 v7 hm (Al fun _ _ h=>v7 hm (Al fun _ _ h=>nz (fun _ _ _ _ h=>iO hm h) mK (fun _ _ h=>LB hm (Al fun _ _ h=>v7 hm (fun _ _ _ h=>h) h) h) _ _ _ h) h) h
noncomputable def Dq:Go.Code:=Tryz.f73.body.getD .skip
def Pm:VC:=(.gh false [⟨(some 2),(.eX (.k .ck)),none,73000000,[]⟩])
def TA:VC:=(.gh false [⟨(some 3),(.eX (.k .ck)),none,73001000,[]⟩])
def TC:List bU:=[⟨(some 7),(.eX (.t 0)),none,73002000,[]⟩,⟨(some 8),(.Kg (.t 7)),none,73002001,[]⟩,⟨(some 9),(.fA 4 (.t 8)),none,73002002,[]⟩,⟨(some 10),(.load false 1 (.t 9)),none,73002003,[]⟩]
def JR:List bU:=[⟨(some 15),(.extract 0 (.t 14)),none,73004001,[]⟩,⟨(some 4),(.new [(.int .i64 0),(.int .i64 0)]),none,73004002,[]⟩,⟨none,(.store 2 (.t 4) (.t 15)),none,73004003,[]⟩]
def JT:VC:=(.seq (.gh false [⟨(some 16),(.eX (.t 3)),none,73005000,[]⟩,⟨(some 17),(.load true 2 (.t 4)),none,73005001,[]⟩,⟨(some 18),(.gi 2 1 [(.t 17)]),none,73005002,[]⟩,⟨(some 19),(.append 2 (.t 16) (.t 18)),none,73005003,[]⟩,⟨(some 3),(.eX (.t 19)),none,73005004,[]⟩]) (.seq (.gh false [⟨(some 20),(.eX (.k (.int .i64 0))),none,73006000,[]⟩]) (.block 2 (.loop (.seq (.gh false [⟨(some 21),(.bin .lss .i64 (.t 20) (.k (.int .i64 4))),none,73007000,[]⟩]) (.seq (.cond (.t 21) .skip (.exit 2)) (.seq (.block 3 (.seq (.gh false [⟨(some 22),(.eX (.t 20)),none,73008000,[]⟩,⟨(some 5),(.eX (.t 22)),none,73008001,[]⟩]) (.seq (.gh false [⟨(some 23),(.load true 2 (.t 4)),none,73009000,[]⟩,⟨(some 24),(.eX (.t 5)),none,73009001,[]⟩,⟨(some 25),(.call 123 [(.t 23),(.t 24)]),none,73009002,[]⟩,⟨(some 6),(.new [(.int .i64 0),(.int .i64 0)]),none,73009003,[]⟩,⟨none,(.store 2 (.t 6) (.t 25)),none,73009004,[]⟩]) (.seq (.gh false [⟨(some 26),(.load true 2 (.t 6)),none,73010000,[]⟩,⟨(some 27),(.call 104 [(.t 26)]),none,73010001,[]⟩]) (.cond (.t 27) (.gh false [⟨(some 28),(.eX (.t 3)),none,73011000,[]⟩,⟨(some 29),(.load true 2 (.t 6)),none,73011001,[]⟩,⟨(some 30),(.gi 2 1 [(.t 29)]),none,73011002,[]⟩,⟨(some 31),(.append 2 (.t 28) (.t 30)),none,73011003,[]⟩,⟨(some 3),(.eX (.t 31)),none,73011004,[]⟩]) .skip))))) (.gh false [⟨(some 32),(.bin .add .i64 (.t 20) (.k (.int .i64 1))),none,73012000,[]⟩,⟨(some 20),(.eX (.t 32)),none,73012001,[]⟩]))))))))
def JV:VC:=(.seq (.gh false [⟨(some 33),(.eX (.t 3)),none,73013000,[]⟩,⟨(some 34),(.call 124 [(.t 33)]),none,73013001,[]⟩,⟨(some 2),(.eX (.t 34)),none,73013002,[]⟩]) .ret)
def JY:List qE:=[(.tmp 2)]
def Pg:O:=(.t 10)
theorem Zj:II Tryz.prog [] Tryz.f73.ntmps 73 73004000 11 12 13 14 (Tt Dq 0) (Tt Dq 1) (RN Dq) (RP Dq) (rgR Dq) JR JT:=⟨by kernel_rfl,by kernel_rfl,by kernel_rfl,by kernel_rfl,by kernel_rfl,by kernel_rfl,by kernel_rfl,by kernel_rfl,by kernel_rfl,by decide,by decide,by decide,by decide,by decide,by kernel_rfl,by kernel_rfl⟩
theorem Zu:Dq=.seq (Qc Dq) (.seq (Qc (GQ Dq)) (.seq (.seq (.region 2 (rgP Dq++[rgO Dq]).toArray false) (.block 0 (.loop (Lz 3 4 0 1 13 (Tt Dq 0) (Tt Dq 1) (RN Dq) (RP Dq) (rgR Dq))))) (GQ (GQ (GQ Dq))))):=by kernel_rfl
theorem XL (m:MK):CS Tryz.prog Tryz.f73.ntmps Dq (VD Tryz.prog Pm TA TC m Pg 73002999 11 12 13 14 JR JT 0 1 JV):=by
 rw[Zu];exact CS.seq (CS.code (md:=[]) (fid:=73) mixed g9) (CS.seq (CS.code (md:=[]) (fid:=73) mixed g9) (CS.seq (CS.rng (tm:=.tmp 10) (sA:=73002000) (t:=124) (k:=41) (e:=2) mixed Zj g9 g9 g9 (by decide) g9 g9 g9) (CS.code (md:=[]) (fid:=73) mixed g9)))
theorem Zo {args:List AV} {σ:aw} {K:AV->aw->Prop} (ha:args.length=Tryz.f73.params.size) (m:MK) (h:OS Tryz.prog Pm TA TC m Pg 73002999 11 12 13 14 JR JT 0 1 JV (oj JY K) (bV args) σ):Call Tryz.prog 73 args σ K:=
 CS.fn Tryz.func73 g9 g9 ha.symm (by decide) (XL m) (Gj mixed h)
noncomputable def FH:Go.Code:=Tryz.f47.body.getD .skip
def Pk:VC:=(.gh false [⟨(some 2),(.new [.ck]),none,47000000,[]⟩])
def Tz:VC:=(.gh false [⟨(some 3),(.eX (.k .ck)),none,47001000,[]⟩])
def TB:List bU:=[⟨(some 6),(.eX (.t 0)),none,47002000,[]⟩,⟨(some 7),(.Kg (.t 6)),none,47002001,[]⟩,⟨(some 8),(.fA 4 (.t 7)),none,47002002,[]⟩,⟨(some 9),(.load false 1 (.t 8)),none,47002003,[]⟩]
def JQ:List bU:=[⟨(some 14),(.extract 0 (.t 13)),none,47004001,[]⟩,⟨(some 15),(.extract 1 (.t 13)),none,47004002,[]⟩,⟨(some 4),(.new [(.int .i64 0),(.int .i64 0)]),none,47004003,[]⟩,⟨none,(.store 2 (.t 4) (.t 14)),none,47004004,[]⟩,⟨(some 5),(.eX (.t 15)),none,47004005,[]⟩]
def JS:VC:=(.gh false [⟨(some 16),(.eX (.t 3)),none,47005000,[]⟩,⟨(some 17),(.load true 2 (.t 4)),none,47005001,[]⟩,⟨(some 18),(.eX (.t 5)),none,47005002,[]⟩,⟨(some 19),(.build [(.int .i64 0),(.int .i64 0),(.int .i64 0)] [(0,(2,(.t 17))),(2,(1,(.t 18)))]),none,47005003,[]⟩,⟨(some 20),(.gi 3 1 [(.t 19)]),none,47005004,[]⟩,⟨(some 21),(.append 3 (.t 16) (.t 20)),none,47005005,[]⟩,⟨(some 3),(.eX (.t 21)),none,47005006,[]⟩])
def JU:VC:=(.seq (.gh false [⟨(some 22),(.eX (.t 3)),none,47006000,[]⟩,⟨(some 23),(.call 97 [(.t 22)]),none,47006001,[]⟩,⟨none,(.store 1 (.t 2) (.t 23)),none,47006002,[]⟩]) .ret)
def JX:List qE:=[(.cell true 1 2)]
def Pf:O:=(.t 9)
theorem Zi:II Tryz.prog [] Tryz.f47.ntmps 47 47004000 10 11 12 13 (Tt FH 0) (Tt FH 1) (RN FH) (RP FH) (rgR FH) JQ JS:=⟨by kernel_rfl,by kernel_rfl,by kernel_rfl,by kernel_rfl,by kernel_rfl,by kernel_rfl,by kernel_rfl,by kernel_rfl,by kernel_rfl,by decide,by decide,by decide,by decide,by decide,by kernel_rfl,by kernel_rfl⟩
theorem Zt:FH=.seq (Qc FH) (.seq (Qc (GQ FH)) (.seq (.seq (.region 2 (rgP FH++[rgO FH]).toArray false) (.block 0 (.loop (Lz 3 4 0 1 12 (Tt FH 0) (Tt FH 1) (RN FH) (RP FH) (rgR FH))))) (GQ (GQ (GQ FH))))):=by kernel_rfl
theorem XK (m:MK):CS Tryz.prog Tryz.f47.ntmps FH (VD Tryz.prog Pk Tz TB m Pf 47002999 10 11 12 13 JQ JS 0 1 JU):=by
 rw[Zt];exact CS.seq (CS.code (md:=[]) (fid:=47) mixed g9) (CS.seq (CS.code (md:=[]) (fid:=47) mixed g9) (CS.seq (CS.rng (tm:=.tmp 9) (sA:=47002000) (t:=124) (k:=41) (e:=2) mixed Zi g9 g9 g9 (by decide) g9 g9 g9) (CS.code (md:=[]) (fid:=47) mixed g9)))
theorem Zn {args:List AV} {σ:aw} {K:AV->aw->Prop} (ha:args.length=Tryz.f47.params.size) (m:MK) (h:OS Tryz.prog Pk Tz TB m Pf 47002999 10 11 12 13 JQ JS 0 1 JU (oj JX K) (bV args) σ):Call Tryz.prog 47 args σ K:=
 CS.fn Tryz.func47 g9 g9 ha.symm (by decide) (XK m) (Gj mixed h)
end V

namespace V
open Go.RowKit
attribute [local irreducible] dY wpOps fm Call
theorem JC (a b:af):(decide (a.eV=b.eV)&&decide (a.eR=b.eR))=decide (a=b):=by
 cases a;cases b;simp[Bool.decide_and]
theorem Hj (ps:List af) (h0:ps≠[]) (hlen:ps.length<=1048576) (σ:aw) (id:Id) (hv:id.bH<σ.next) (hg:σ.get id=some ⟨true,2,ps.map ab⟩):
  Call Tryz.prog 155 [.own id 0 ps.length] σ fun a σ'=>∃o:Id,a=.own o 0 ps.length/\σ'.get o=some ⟨true,2,ps.map ab⟩/\σ.next<=o.bH/\o.bH<σ'.next/\∀x:Id,x.bH<σ.next->σ'.get x=σ.get x:=by
 refine fG fx rfl fun hl=>?_;clear hl;have h2:ps.length<=16777216:=ae;have hm:(ps.map ab).length=ps.length:=by simp
 have v1:=cR hv;have ht:(ps.map ab).take ps.length=ps.map ab:=by rw[<-hm,List.take_length]
 have ha:(ps.map ab).all (fun c=>c.length==2&&c.all AV.cell)=true:=all_map fun x=>by simp[ab,AV.cell]
 (try((repeat(revert N;apply g7));refine wk (tw6 @hg @h2 @hm @v1 @ht @ha) ?_;repeat(apply g6;intro N hN)))
 exact eH (vs:=[.own ⟨155003002,σ.next+2⟩ 0 ps.length]) (.inl rfl) (sd @g8) ⟨_,rfl,sd @g8,aI,aI,fun x hx=>by
  have:=cR hx
  simp only[go_sem,↓reduceIte,Nat.reduceEqDiff,Nat.reduceAdd,Nat.reduceSub,Nat.reduceLeDiff,reduceCtorEq,this]⟩
def dd (L:List af):Nat->List af
 |0=>[]
 |j+1=>if 0<j/\fI L j=fI L (j-1)then dd L j else dd L j++[fI L j]
theorem MY (L:List af):∀j,0<j->0<(dd L j).length
 |j+1,_=>by
  rw[dd]
  split
  ·rename_i h;exact MY L j h.1
  ·simp
theorem CZ {L:List af} {x:af}:∀j,x∈dd L j↔∃i,i<j/\fI L i=x
 |0=>by simp[dd]
 |j+1=>by
  rw[dd]
  split
  ·rename_i h;rw[CZ j]
   constructor
   ·rintro⟨i,hi,e⟩;exact⟨i,ae,e⟩
   ·rintro⟨i,hi,e⟩
    by_cases uj:i=j
    ·subst uj;exact⟨i-1,ae,by rw[<-h.2];exact e⟩
    ·exact⟨i,ae,e⟩
  ·rw[List.mem_append,CZ j]
   constructor
   ·rintro(⟨i,hi,e⟩|h)
    ·exact⟨i,ae,e⟩
    ·exact⟨j,ae,(List.mem_singleton.1 h).symm⟩
   ·rintro⟨i,hi,e⟩
    by_cases uj:i=j
    ·subst uj;exact .inr (List.mem_singleton.2 e.symm)
    ·exact .inl ⟨i,ae,e⟩
theorem MZ {L:List af} (hs:∀i j:Nat,i<j->j<L.length->jm (fI L j) (fI L i)=false):∀j,j<=L.length->js (dd L j)
 |0,_=>List.Pairwise.nil
 |j+1,hj=>by
  have ih:=MZ hs j ae;rw[dd]
  split
  ·exact ih
  ·rename_i ju;unfold js;rw[List.pairwise_append];refine⟨ih,List.pairwise_singleton _ _,fun a ha b hb=>?_⟩;rw[List.mem_singleton.1 hb];obtain⟨i,hi,rfl⟩:=(CZ j).1 ha;have h0:0<j:=ae;have hn:fI L j≠fI L (j-1):=fun e=>ju ⟨h0,e⟩;have eG:jm (fI L (j-1)) (fI L j)=true:=sa (hs (j-1) j ae ae) hn
   by_cases uj:i=j-1
   ·subst uj;exact eG
   ·have h1:=hs i (j-1) ae ae
    by_cases he:fI L (j-1)=fI L i
    ·rw[<-he];exact eG
    ·exact gF (sa h1 he) eG
theorem Kl (L:List af) (hlen:L.length<=1000000) (σ:aw) (id:Id) (hg:σ.get id=some ⟨true,2,L.map ab⟩):
  Call Tryz.prog 157 [.own id 0 L.length] σ fun a σ'=>σ.next<=σ'.next/\(∀x:Id,x.bH<σ.next->x≠id->σ'.get x=σ.get x)/\∃X:List af,a=.own id 0 (dd L L.length).length/\σ'.get id=some ⟨true,2,(dd L L.length++X).map ab⟩:=by
 refine fG fx rfl fun hl=>?_;clear hl
 by_cases h2:(L.length:Int)<2
 ·have hd:dd L L.length=L:=by
   match L,h2 with
   |[],_=>rfl
   |[a],_=>rfl
   |a::b::r,h=>simp at h;omega
  (try((repeat(revert N;apply g7));refine wk @h2 ?_;repeat(apply g6;intro N hN)));exact eH (vs:=[.own id 0 L.length]) (.inl rfl) (sd @g8) ⟨aI,fun _ _ _=>rfl,[],by rw[hd];rfl,by simp only[hd,List.append_nil];exact hg⟩
 (try((repeat(revert N;apply g7));refine wk @h2 ?_;repeat(apply g6;intro N hN)));have Mh:2<=L.length:=ae;refine cj (fun n env st=>∃k:Nat,n=(L.length-1)-k/\k<=(L.length-1)/\env 3=.int .i64 ((1+k:Nat):Int)/\(dd L (1+k)=L.take (1+k))/\(σ.next<=st.next/\∀x:Id,x.bH<σ.next->x≠id->st.get x=σ.get x)/\st.get id=some ⟨true,2,L.map ab⟩) (L.length-1) ⟨0,ae,ae,sl @hg,by(match L,Mh with|a::b::r,_=>rfl),⟨aI,fun _ _ _=>rfl⟩,sl @hg⟩ ?_;rintro n_a m3 i8 ⟨k,rfl,ale,a3,mD,aI1,eK⟩ eC;have a0:=eC 0 g9;simp only[go_sem,↓reduceIte,Nat.reduceEqDiff,Nat.reduceAdd,Nat.reduceSub,Nat.reduceLeDiff,reduceCtorEq,hg]at a0;clear eC;have hR:∀{q:Nat},q<L.length->(L.map ab)[q]? =some (ab (fI L q)):=fun h=>oM h
 by_cases hk:((1+k:Nat):Int)<(L.length:Int)
 ·have dW:∀{e:Env} {gg:Rows} {nx:Nat},(e 3=.int .i64 ((1+(k+1):Nat):Int))->(dd L (1+(k+1))=L.take (1+(k+1)))->(σ.next<=nx/\∀x:Id,x.bH<σ.next->x≠id->gg x=σ.get x)->(gg id=some ⟨true,2,L.map ab⟩)->∃m0,m0<(L.length-1)-k/\∃k:Nat,m0=(L.length-1)-k/\k<=(L.length-1)/\e 3=.int .i64 ((1+k:Nat):Int)/\(dd L (1+k)=L.take (1+k))/\(σ.next<=nx/\∀x:Id,x.bH<σ.next->x≠id->gg x=σ.get x)/\gg id=some ⟨true,2,L.map ab⟩:=fun x1 x2 x3 x4=>⟨_,ae,k+1,rfl,ae,x1,x2,x3,x4⟩;have iD:1+k<L.length:=ae;have e1:IntKind.i64.wrap (((1+k:Nat):Int)-1)=(k:Int):=by rw[db ae];omega
  have e2:IntKind.i64.wrap (((1+k:Nat):Int)+1)=((1+(k+1):Nat):Int):=by rw[db ae];omega
  have g1:=hR iD;have g2:=hR (show k<L.length by omega);have b2:(k:Int)<(L.length:Int):=ae;have QQ:dd L (1+k+1)=if 0<1+k/\fI L (1+k)=fI L (1+k-1)then dd L (1+k)else dd L (1+k)++[fI L (1+k)]:=rfl
  rw[show 1+k-1=k from by omega]at QQ
  cases he:(decide ((fI L (1+k)).eV=(fI L k).eV)&&decide ((fI L (1+k)).eR=(fI L k).eR))
  ·(try((repeat(revert N;apply g7));refine wk (tw9 @a3 @eK @a0 @hk @e1 @g1 @g2 @b2 (tw @he @ab.eq_1)) ?_;repeat(apply g6;intro N hN)));rw[JC,decide_eq_false_iff_not]at he;refine dW ?_ (by rw[show 1+(k+1)=1+k+1 from by omega,QQ,if_neg (fun h=>he h.2),mD,List.take_succ_eq_append_getElem iD,gp iD]) (by exact⟨aI,fun x hx hi=>aI1.2 x hx hi⟩) ?_
   all_goals simp only[go_sem,↓reduceIte,Nat.reduceEqDiff,Nat.reduceAdd,Nat.reduceSub,Nat.reduceLeDiff,reduceCtorEq,a3,eK,a0,e2]
  ·have Yk:=he;rw[JC,decide_eq_true_eq]at Yk;rw[if_pos ⟨ae,Yk⟩,mD]at QQ;have wM:(dd L (1+k+1)).length=1+k:=by rw[QQ,List.length_take];omega
   have Xi:L.map ab=(dd L (1+k+1)++L.drop (dd L (1+k+1)).length).map ab:=by rw[wM,QQ,List.take_append_drop]
   have b3:((1+k:Nat):Int)<=(L.length:Int):=ae;have KO:(dd L (1+k+1)++L.drop (1+k)).map ab=L.map ab:=by rw[Xi,wM]
   (try((repeat(revert N;apply g7));refine wk (tw9 @a3 @eK @a0 @hk @e1 @g1 @g2 @b2 (tw3 @b3 @he @ab.eq_1)) ?_;repeat(apply g6;intro N hN)));refine cj (fun n env st=>∃m:Nat,n=(L.length-(1+k)-1)-m/\m<=(L.length-(1+k)-1)/\env 5=.int .i64 ((1+m:Nat):Int)/\env 3=.int .i64 ((dd L (1+k+1+m)).length:Int)/\((dd L (1+k+1+m)).length<=1+k+m)/\(σ.next<=st.next/\∀x:Id,x.bH<σ.next->x≠id->st.get x=σ.get x)/\st.get id=some ⟨true,2,(dd L (1+k+1+m)++L.drop (dd L (1+k+1+m)).length).map ab⟩) (L.length-(1+k)-1) ⟨0,ae,ae,sl (tw5 @a3 @eK @a0 @wM @KO),sl (tw5 @a3 @eK @a0 @wM @KO),by(rw[Nat.add_zero,wM];omega),⟨aI,fun x hx hi=>aI1.2 x hx hi⟩,sl (tw5 @a3 @eK @a0 @wM @KO)⟩ ?_;rintro n_b m4 i9 ⟨m,rfl,ble,b5,b3,bI0,bI1,bg0⟩ eB;have b0:=eB 0 g9;have b4:=eB 4 g9;simp only[go_sem,↓reduceIte,Nat.reduceEqDiff,Nat.reduceAdd,Nat.reduceSub,Nat.reduceLeDiff,reduceCtorEq,a3,eK,a0,wM,KO]at b0 b4;clear eB;clear Xi KO he eK
   have eP:∀{q:Nat},(dd L (1+k+1+m)).length<=q->q<L.length->((dd L (1+k+1+m)++L.drop (dd L (1+k+1+m)).length).map ab)[q]? =some (ab (fI L q)):=fun {q} h1 h2=>by
    rw[List.getElem?_map,List.getElem?_append_right h1,List.getElem?_drop,show(dd L (1+k+1+m)).length+(q-(dd L (1+k+1+m)).length)=q from by omega,i5 h2,gp h2];rfl
   have QR:dd L (1+k+1+(m+1))=if 0<1+k+1+m/\fI L (1+k+1+m)=fI L (1+k+1+m-1)then dd L (1+k+1+m)else dd L (1+k+1+m)++[fI L (1+k+1+m)]:=rfl
   rw[show 1+k+1+m-1=1+k+m from by omega]at QR;have hKn:=MY L (1+k+1+m) ae
   by_cases hm:((1+m:Nat):Int)<((L.length-(1+k):Nat):Int)
   ·have ep:∀{e:Env} {gg:Rows} {nx:Nat},(e 5=.int .i64 ((1+(m+1):Nat):Int))->(e 3=.int .i64 ((dd L (1+k+1+(m+1))).length:Int))->((dd L (1+k+1+(m+1))).length<=1+k+(m+1))->(σ.next<=nx/\∀x:Id,x.bH<σ.next->x≠id->gg x=σ.get x)->(gg id=some ⟨true,2,(dd L (1+k+1+(m+1))++L.drop (dd L (1+k+1+(m+1))).length).map ab⟩)->∃m0,m0<(L.length-(1+k)-1)-m/\∃m:Nat,m0=(L.length-(1+k)-1)-m/\m<=(L.length-(1+k)-1)/\e 5=.int .i64 ((1+m:Nat):Int)/\e 3=.int .i64 ((dd L (1+k+1+m)).length:Int)/\((dd L (1+k+1+m)).length<=1+k+m)/\(σ.next<=nx/\∀x:Id,x.bH<σ.next->x≠id->gg x=σ.get x)/\gg id=some ⟨true,2,(dd L (1+k+1+m)++L.drop (dd L (1+k+1+m)).length).map ab⟩:=fun x1 x2 x3 x4 x5=>⟨_,ae,m+1,rfl,ae,x1,x2,x3,x4,x5⟩;have f1:IntKind.i64.wrap (((1+m:Nat):Int)-1)=(m:Int):=by rw[db ae];omega
    have f2:IntKind.i64.wrap (((1+m:Nat):Int)+1)=((1+(m+1):Nat):Int):=by rw[db ae];omega
    have f3:(m:Int)<((L.length-(1+k):Nat):Int):=ae;have r1:=eP (q:=1+k+(1+m)) ae ae;have r2:=eP (q:=1+k+m) ae ae;rw[show 1+k+1+m=1+k+(1+m)from by omega]at *;generalize hD:dd L (1+k+(1+m))=D at *;have hK:D.length<L.length:=ae;have s1:=eP (q:=D.length) i4 hK;have u4:(D.length:Int)<(L.length:Int):=ae;have f4:IntKind.i64.wrap ((D.length:Int)+1)=((D.length+1:Nat):Int):=aZ ae
    cases hc:(decide ((fI L (1+k+(1+m))).eV=(fI L (1+k+m)).eV)&&decide ((fI L (1+k+(1+m))).eR=(fI L (1+k+m)).eR))
    ·have xC:=hc;rw[JC,decide_eq_false_iff_not]at xC;rw[if_neg (fun h=>xC h.2)]at QR
     have e6:((D++L.drop D.length).map ab).set D.length [.int .i64 (fI L (1+k+(1+m))).eV,.int .i64 (fI L (1+k+(1+m))).eR]=((D++[fI L (1+k+(1+m))])++L.drop (D.length+1)).map ab:=by
      have:(D++L.drop D.length).set D.length (fI L (1+k+(1+m)))=(D++[fI L (1+k+(1+m))])++L.drop (D.length+1):=by
       rw[List.set_append_right _ _ i4,Nat.sub_self,List.drop_eq_getElem_cons hK,List.set_cons_zero,List.append_assoc];rfl
      rw[<-this,List.map_set];rfl
     (try((repeat(revert N;apply g7));refine wk (tw9 @b5 @b3 @bg0 @b0 @b4 @hm @f1 @f3 (tw7 @r1 @r2 @s1 @u4 @hc @e6 @ab.eq_1)) ?_;repeat(apply g6;intro N hN)))
     refine ep ?_ ?_ (by rw[QR];simp;omega) (by exact⟨aI,fun x hx hi=>by
      have h1:=eq_false hi;have h2:=bI1.2 x hx hi
      simp only[go_sem,↓reduceIte,Nat.reduceEqDiff,Nat.reduceAdd,Nat.reduceSub,Nat.reduceLeDiff,reduceCtorEq,h1,h2]⟩) ?_
     all_goals simp only[go_sem,↓reduceIte,Nat.reduceEqDiff,Nat.reduceAdd,Nat.reduceSub,Nat.reduceLeDiff,reduceCtorEq,b5,b3,bg0,b0,b4,f2,f4,QR,e6,ab]
    ·have xC:=hc;rw[JC,decide_eq_true_eq]at xC;rw[if_pos ⟨ae,xC⟩]at QR;(try((repeat(revert N;apply g7));refine wk (tw9 @b5 @b3 @bg0 @b0 @b4 @hm @f1 @f3 (tw6 @r1 @r2 @s1 @u4 @hc @ab.eq_1)) ?_;repeat(apply g6;intro N hN)));refine ep ?_ ?_ (by rw[QR];omega) (by exact⟨aI,fun x hx hi=>bI1.2 x hx hi⟩) ?_
     all_goals simp only[go_sem,↓reduceIte,Nat.reduceEqDiff,Nat.reduceAdd,Nat.reduceSub,Nat.reduceLeDiff,reduceCtorEq,b5,b3,bg0,b0,b4,f2,QR,ab]
   ·have hJ:1+k+1+m=L.length:=ae;rw[hJ]at bI0 bg0 b3;generalize hD:dd L L.length=D at *;have hK:D.length<L.length:=ae;have u4:(D.length:Int)<=(L.length:Int):=ae;have u5:D.length+(L.length-D.length)=L.length:=ae;have u6:(L.length-D.length)=(L.drop D.length).length:=by simp
    have c1:((D++L.drop D.length).map ab).take D.length=D.map ab:=by rw[<-List.map_take,List.take_append_of_le_length i4,List.take_length]
    have c2:((D++L.drop D.length).map ab).drop L.length=[]:=List.drop_eq_nil_of_le (by simp;omega);have c3:D.length+(L.length-D.length)<=((D++L.drop D.length).map ab).length:=by simp
    have u7:L.length<=D.length+(L.drop D.length).length:=by simp;omega
    (try((repeat(revert N;apply g7));refine wk (tw9 @b5 @b3 @bg0 @b0 @b4 @hm @u4 @u5 (tw4 @u7 @c1 @c2 @ab.eq_1)) ?_;repeat(apply g6;intro N hN)))
    refine eH (vs:=[.own id 0 D.length]) (.inl rfl) (by simp only[ir,jw,Nat.sub_zero,go_sem,↓reduceIte,Nat.reduceEqDiff,Nat.reduceAdd,Nat.reduceSub,Nat.reduceLeDiff,reduceCtorEq]) ⟨aI,fun x hx hi=>by
      have h1:=eq_false hi;have h2:=bI1.2 x hx hi
      simp only[go_sem,↓reduceIte,Nat.reduceEqDiff,Nat.reduceAdd,Nat.reduceSub,Nat.reduceLeDiff,reduceCtorEq,h1,h2],List.replicate (L.length-D.length) ⟨0,0⟩,rfl,?_⟩
    simp only[go_sem,↓reduceIte,Nat.reduceEqDiff,Nat.reduceAdd,Nat.reduceSub,Nat.reduceLeDiff,reduceCtorEq,bg0,c1,c2];simp[ab]
 ·have hkf:1+k=L.length:=ae;have hd:dd L L.length=L:=by rw[<-hkf,mD,hkf,List.take_length]
  (try((repeat(revert N;apply g7));refine wk (tw4 @a3 @eK @a0 @hk) ?_;repeat(apply g6;intro N hN)));exact eH (vs:=[.own id 0 L.length]) (.inl rfl) (sd (tw3 @a3 @eK @a0)) ⟨aI,fun x hx hi=>aI1.2 x hx hi,[],by rw[hd];rfl,by simp only[hd,List.append_nil];exact eK⟩
theorem Bc (ps qs:List af) (hlen:ps.length<=1000000) (h0:ps≠[]) (hR:js qs) (hm:∀x,x∈qs↔x∈ps) (σ:aw) (id:Id) (hv:id.bH<σ.next) (hg:σ.get id=some ⟨true,2,ps.map ab⟩):
  Call Tryz.prog 124 [.own id 0 ps.length] σ fun a σ'=>∃(o:Id) (X:List af),a=.own o 0 qs.length/\σ'.get o=some ⟨true,2,(qs++X).map ab⟩/\σ.next<=o.bH/\o.bH<σ'.next/\∀x:Id,x.bH<σ.next->σ'.get x=σ.get x:=by
 refine fG fx rfl fun hl=>?_;clear hl;have v1:=cR hv;(try((repeat(revert N;apply g7));refine wk (tw @hg @v1) ?_;repeat(apply g6;intro N hN)));refine .inr (ax _ _ _ _ _ (fun r σ1 hq=>?_) (Hj ps h0 ae ⟨σ.get,_⟩ id aI hg));obtain⟨g1,x1⟩:=σ1;obtain⟨o,rfl,q1,q2,q3,q4⟩:=hq;(try dsimp only at q1 q2 q3 q4);apply hN;clear hN N;(try((repeat(revert N;apply g7));refine wk @g8 ?_;repeat(apply g6;intro N hN)));refine .inr (ax _ _ _ _ _ (fun r σ2 hq=>?_) (Cp Tu O2 ps ae ⟨g1,_⟩ o q1));obtain⟨g2,x2⟩:=σ2;obtain⟨u1,u2,ss,u3,u4,u5,u6⟩:=hq;(try dsimp only at u1 u2 u3);apply hN;clear hN N;(try((repeat(revert N;apply g7));refine wk @g8 ?_;repeat(apply g6;intro N hN)));rw[<-u4];refine .inr (ax _ _ _ _ _ (fun r σ3 hq=>?_) (Kl ss ae ⟨g2,_⟩ o u3));obtain⟨g3,x3⟩:=σ3;obtain⟨y1,y2,X,rfl,y3⟩:=hq;(try dsimp only at y1 y2 y3)
 have hD:dd ss ss.length=qs:=yD (MZ u6 ss.length i4) hR fun x=>by
  rw[CZ,hm,<-u5]
  constructor
  ·rintro⟨i,hi,rfl⟩;rw[gp hi];exact List.getElem_mem hi
  ·intro hx;obtain⟨i,hi,rfl⟩:=List.getElem_of_mem hx;exact⟨i,hi,gp hi⟩
 rw[hD]at y3 ⊢;apply hN;clear hN N;(try((repeat(revert N;apply g7));refine wk @g8 ?_;repeat(apply g6;intro N hN)))
 exact eH (.inl rfl) (vs:=[.own o 0 qs.length]) (sd @g8) ⟨o,X,rfl,y3,ae,aI,fun x hx=>by
  have h1:x≠o:=fun e=>by rw[e]at hx;omega
  have h2:=y2 x aI h1;have h3:=u2 x h1;have h4:=q4 x ae
  exact h2.trans (h3.trans h4)⟩
end V
end Go.Proofs.YtoodopepphhpoaaGreatDoor
