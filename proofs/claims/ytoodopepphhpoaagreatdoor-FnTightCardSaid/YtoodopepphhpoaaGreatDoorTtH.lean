/- Systems whose seed is one group. Plain. -/
import Derived.Test.YtoodopepphhpoaaGreatDoorTtG
import Derived.Test.YtoodopepphhpoaaGreatDoorTtE
import Derived.Test.YtoodopepphhpoaaGreatDoorTtB
import Derived.Test.YtoodopepphhpoaaGreatDoorTtC
import Derived.Test.YtoodopepphhpoaaGreatDoorTtD
import Derived.Test.YtoodopepphhpoaaGreatDoorChecked
import Derived.Deep.Slices
import Derived.ChangeSame
import Derived.Test.YtoodopepphhpoaaGreatDoorRows
import Derived.Test.YtoodopepphhpoaaGreatDoorTtF
import Derived.OpenShut
import Derived.ShutString
import Derived.Lay
import Derived.Handed
import Derived.MakeChecks
set_option linter.unusedVariables false
set_option linter.unusedSimpArgs false
set_option maxRecDepth 100000
set_option maxHeartbeats 16000000
namespace Go.Proofs.YtoodopepphhpoaaGreatDoor
namespace V
open Go.RowKit
def xS (s:ar):Prop:=gz s.ay->fS s.ay s.cw.aq->pg s.ay s.cw.aq s.aQ<2
theorem Vr {s:ar} (h:s.cw.aq.length=1):xS s:=fun _ _=>by
 unfold pg;have:=lz s.cw.aq.length (fH (bZ s.aQ (eI s.ay s.cw.aq)));omega
theorem Kc {rb rn:List Int} {ft:List di} (t:Int) (ht:eE (jE rb rn ft).ay t=true) (hl:(rb.length:Int)+rn.length<t):cV (cU (jE rb rn ft).ay t) 2=0/\cV (cU (jE rb rn ft).ay t) 3=0/\cV (cU (jE rb rn ft).ay t) 0=0/\cV (cU (jE rb rn ft).ay t) 1=0:=by
 have ez:=jz rb rn;obtain⟨t0,t1⟩:=dV ht
 have h2:((jE rb rn ft).ay.aq.length:Int)=rb.length+rn.length+1+ft.length:=by
  show(((iv rb rn).2++ft.map lM).length:Int)= _;rw[i6,ez,List.length_map];omega
 obtain⟨k,hk,rfl⟩:∃k:Nat,k<ft.length/\t=((rb.length+rn.length+1+k:Nat):Int):=⟨(t-(rb.length+rn.length+1)).toNat,ae,ae⟩
 have e:cU (jE rb rn ft).ay ((rb.length+rn.length+1+k:Nat):Int)=lM ft[k]:=by
  unfold cU jE;(try dsimp only);rw[Int.toNat_natCast,List.getD_eq_getElem?_getD,List.getElem?_append_right ae,ez,show rb.length+rn.length+1+k-(rb.length+rn.length+1)=k by omega,List.getElem?_map,i5 hk]
  rfl
 rw[e];exact⟨rfl,rfl,rfl,rfl⟩
theorem Cb {rb rn:List Int} {rs ft:List di} {K:List aa} (l0:1<=rb.length) (l1:rb.length<=4) (l2:1<=rn.length) (l3:rn.length<=4) (hb:iC rb) (hn:iC rn) (hf:AB rs) (hl:rs.length<=5) (hK:K=[⟨⟨0,0⟩,0⟩]∨∃es,od (jE rb rn rs) [] 20=some es/\K=dx (jE rb rn rs) es es.length):xS ⟨⟨(iv rb rn).1,(iv rb rn).2++ft⟩,⟨K⟩,2⟩:=fun _ hA=>by
 refine MG (IQ (ft:=ft) l0 l1 l2 l3 hb hn) hA.1.pH ?_
 rcases hK with rfl|⟨es,hg,rfl⟩
 ·intro x hx;exact .inl (List.mem_singleton.1 hx)
 ·exact MV (s:=jE rb rn rs) (IQ (ft:=rs.map lM) l0 l1 l2 l3 hb hn) Kc rfl (SA l0 l1 l2 l3 hb hn hf hl) rfl (rV hg).1 es.length i4
end V

namespace V
open Go.RowKit
attribute [local irreducible] dY wpOps fm Call
theorem TX.at_ {E:Nat->Prop} {n0 n:Nat} {g:Rows} {rows:List (List AV)} {Ts:List di} (h:TX E n0 g n rows Ts) {j:Nat} {t:di} (ht:Ts[j]? =some t):∃e:Id,rows[j]? =some [.str t.bL,.own e 0 4]/\Mx E n0 g n [.str t.bL,.own e 0 4] t e:=by
 obtain⟨hj,rfl⟩:=List.getElem?_eq_some_iff.1 ht;obtain⟨e,h1,h2,_⟩:=h.get hj;exact⟨e,h1,h2⟩
theorem TX.fzR {E:Nat->Prop} {n0 n:Nat} {g:Rows} {rows:List (List AV)} {Ts:List di} (h:TX E n0 g n rows Ts) (m:Nat):jn g (m+2) rows=some (Ts.map dp):=by
 refine wH (by rw[h.len];simp) fun j r o hr ho=>?_;rw[List.getElem?_map]at ho
 cases e:Ts[j]? with
 |none=>rw[e]at ho;cases ho
 |some t=>
  rw[e]at ho
  cases ho
  obtain⟨i,h1,_,_,h4,_,_,_,h7⟩:=h.at_ e;rw[hr]at h1;rw[Option.some.inj h1];have h3:V.fz g (m+2) (.own i 0 4)=some (.sl (t.de.map bf)):=gj (e:=bf) (sz:=1) (n:=m+1) h7 h4.symm fun x=>by simp[bf,ah,aj,aL]
  rw[ah,bj,ah,h3,aj]
  rfl
theorem TX.ok {E:Nat->Prop} {n0 n:Nat} {g:Rows} {rows:List (List AV)} {Ts:List di} (h:TX E n0 g n rows Ts):∀t∈Ts,t.bL.size<=64/\t.de.length=4:=fun t ht=>by
 obtain⟨j,hj,rfl⟩:=List.getElem_of_mem ht;obtain⟨i,_,_,h3,h4,_⟩:=h.at_ (i5 hj);exact⟨h3.1,h4⟩
theorem GV.fz {g g':Rows} {n0 n:Nat} {og o qB:Id} {G T:Nat} {rb rn:List Int} {rs:List di} (h:GV g n0 n og o qB G T rb rn rs) (hf:∀x:Id,n0<=x.bH->x.bH<n->g' x=g x):
  V.fz g' 5 (.own og 0 G)=some (.sl ((iv rb rn).1.map dU))/\V.fz g' 5 (.own o 0 T)=some (.sl (((iv rb rn).2++rs).map dp))/\V.fz g' 5 (.own qB 0 1)=some (.sl ([(⟨⟨0,0⟩,0⟩:aa)].map ad)):=by
 obtain⟨_,_,_,_,cg,cG,⟨rows,ct,ZS,cT,cX⟩,_,⟨a,b,c,d⟩,cs,e,f⟩:=h;refine⟨gj (e:=dU) (sz:=2) (n:=4) ((hf og a b).trans cg) cG.symm fun x=>by simp[dU,ah,aj,bj,aL],C5 (sz:=2) ((hf o c d).trans ct) ae ?_,gj (e:=ad) (sz:=3) (l:=[⟨⟨0,0⟩,0⟩]) (n:=4) ((hf qB e f).trans cs) rfl fun x=>by simp[ad,ah,aj,aL]⟩;rw[List.drop_zero];exact(cX.frame i4 fun i _ p q=>hf i p q).fzR 2
theorem Ng {g:Rows} {a b c:AV} {L:List gy} {Ts:List di} {K:List aa} {t:Int} (h1:V.fz g 5 a=some (.sl (L.map dU))) (h2:V.fz g 5 b=some (.sl (Ts.map dp))) (h3:V.fz g 5 c=some (.sl (K.map ad))):V.fz g 6 (.agg [a,b,c,.int .i64 t])=some (.agg (aK ⟨⟨L,Ts⟩,⟨K⟩,t⟩)):=by
 rw[bb,ah,h1,ah,h2,ah,h3,ah,aL,aj]
 rfl
def Qj (s:ar):Prop:=jC s.ay/\Ez s
theorem JN {L:List gy} {Ts:List di} {K:List aa} {t:Int} (h1:∀x∈L,x.bL.size<=64) (h2:∀x∈Ts,x.bL.size<=64/\x.de.length=4) (h3:L.length<=1000) (h4:Ts.length<=1000) (h5:K.length<=500):Qj ⟨⟨L,Ts⟩,⟨K⟩,t⟩:=
 ⟨⟨fun g hg=>by have:=h1 g hg;omega,fun x hx=>by have:=(h2 x hx).1;omega⟩,⟨aI,aI,fun x hx=>by unfold G3;rw[(h2 x hx).2];omega⟩,aI⟩
theorem Mp (bs:List Int) (hb:∀b∈bs,0<=b/\b<=255) (iy:bs.length<=4096):
  mg Tryz.prog 8 [.sl (bs.map iq)] fun r=>∃s:ar,Qj s/\xS s/\r=.agg (aK s):=by
 refine mg.body fx rfl fun fM σ=>?_;clear fM;(try((repeat(revert N;apply g7));refine wk @g8 ?_;repeat(apply g6;intro N hN)));refine .inr (ax _ _ _ _ _ (fun r σ1 hq=>?_) (wQ bs _));obtain⟨X,rfl,x0,x1,hs,hK⟩:=hq;obtain⟨g1,n1⟩:=σ1;(try dsimp only at x0 x1 hs hK);have k0:=hK ⟨8000000,σ.next⟩ aI;simp only[go_sem,↓reduceIte,Nat.reduceEqDiff,Nat.reduceAdd,Nat.reduceSub,Nat.reduceLeDiff,reduceCtorEq]at k0;clear hK;apply hN;clear hN N;(try((repeat(revert N;apply g7));refine wk @g8 ?_;repeat(apply g6;intro N hN)));refine .inr (ax _ _ _ _ _ (fun r σ2 hq=>?_) (FU bs hb iy X 0 ae _ (by(try dsimp only);exact hs) aI));obtain⟨n0,og,o,qB,G,T,rb,rn,rs,v,K,rfl,hC,GJ,hK5,hv,hKs,qf,gQ⟩:=hq;obtain⟨g2,n2⟩:=σ2;(try dsimp only at hC GJ qf gQ);have k2:=(gQ ⟨8000000,σ.next⟩ (fun e=>by rw[<-e]at x0;(try dsimp only at x0);omega) aI).trans k0;clear gQ;have YU:v.cells=[v]/\v.cell=true:=by rcases hv with⟨rfl,_⟩|rfl<;>exact⟨rfl,rfl⟩
 obtain⟨c1,c2⟩:=YU;unfold AV.cells at c1;unfold AV.cell at c2;obtain⟨⟨l0,l1,l2,l3⟩,SQ,NJ,⟨tF,hr4,hr5⟩,cg,cG,⟨rows,ct,ZS,cT,cX⟩,cE,⟨cgv0,cgv1,ctv0,ctv1⟩,cs,csv0,csv1⟩:=id hC;have UJ:=jz rb rn;have hGn:=kD rb rn;have hT7:T=rb.length+rn.length+1+rs.length:=by rw[<-cT,i6,UJ]
 obtain⟨nm,eL,eP,j3⟩:∃nm e,rows[T-1]? =some [.str nm,.own e 0 4]/\nm=(⟨#[114]⟩:ByteArray)++eO ((rs.length-1:Nat):Int):=by
  have h3:((iv rb rn).2++rs)[T-1]? =some rs[rs.length-1]:=by
   rw[List.getElem?_append_right ae,UJ,show T-1-(rb.length+rn.length+1)=rs.length-1 by omega,i5 ae]
  obtain⟨e,h1,_⟩:=cX.at_ h3;rw[List.getElem?_take_of_lt ae]at h1;exact⟨_,e,h1,(tF _ _ (i5 (show rs.length-1<rs.length by omega))).1⟩
 have qX:IntKind.i64.wrap ((T:Int)-1)=((T-1:Nat):Int):=(db ae).trans ae;have XW:((T-1:Nat):Int)<(T:Int):=ae;have vo:=cR ctv1;apply hN;clear hN N
 rcases(show rs.length=4∨rs.length=5 by omega)with h45|h45
 ·rw[h45]at j3;have hd:decide (nm=(⟨#[114,52]⟩:ByteArray))=false:=by rw[j3];exact Tq
  (try((repeat(revert N;apply g7));refine wk (tw9 @c1 @c2 @k2 @ct @vo @qX @XW @eP @hd) ?_;repeat(apply g6;intro N hN)))
  have gQ:∀x:Id,n0<=x.bH->x.bH<n2->∀r1 r2 r3,(bJ (bJ (bJ g2 ⟨8001003,n2⟩ r1) ⟨8001003,n2⟩ r2) ⟨8000000,σ.next⟩ r3) x=g2 x:=fun x h1 h2 r1 r2 r3=>(by
   have h8:=cR h2;have h9:∀s,(x=⟨s,σ.next⟩)=False:=fun s=>eq_false fun h=>by rw[h]at h1;(try dsimp only at h1);omega
   simp only[go_sem,↓reduceIte,Nat.reduceEqDiff,Nat.reduceAdd,Nat.reduceSub,Nat.reduceLeDiff,reduceCtorEq,h8,h9])
  obtain⟨z1,z2,z3⟩:=hC.fz fun x h1 h2=>gQ x h1 h2 _ _ _
  exact⟨[.agg [.own og 0 G,.own o 0 T,v,.int .i64 2]],sd (tw3 @c1 @c2 @k2),_,Ng z1 z2 (by
   rcases hv with⟨rfl,rfl⟩|rfl
   ·exact z3
   ·exact bP _ _ _),⟨⟨(iv rb rn).1,(iv rb rn).2++rs⟩,⟨K⟩,2⟩,JN (oR rb ae rn ae) cX.ok ae ae hK5,Cb l0 l1 l2 l3 SQ NJ tF hr5 hKs,rfl⟩
 ·rw[h45]at j3;have hd:decide (nm=(⟨#[114,52]⟩:ByteArray))=true:=by rw[j3];exact Tr
  (try((repeat(revert N;apply g7));refine wk (tw9 @c1 @c2 @k2 @ct @vo @qX @XW @eP @hd) ?_;repeat(apply g6;intro N hN)));have vg:=cR (i:=og) (n:=n2) ae
  refine .inr (ax _ _ _ _ _ (fun r σ3 hq=>?_) (FM (B:=⟨8001003,n2⟩) (u:=v) (v:=.int .i64 2) (og:=og) (o:=o) (G:=G) (T:=T) (L:=(iv rb rn).1) (rows:=rows) (X:=(iv rb rn).2++rs) (E:=iW) (n0:=n0) (sd @g8) aI (by simp only[go_sem,↓reduceIte,Nat.reduceEqDiff,Nat.reduceAdd,Nat.reduceSub,Nat.reduceLeDiff,reduceCtorEq,vg]<;>exact cg) cG ae ae aI (by simp only[go_sem,↓reduceIte,Nat.reduceEqDiff,Nat.reduceAdd,Nat.reduceSub,Nat.reduceLeDiff,reduceCtorEq,vo]<;>exact ct) aI (cX.frame aI fun i _ a b=>(by
   have h8:=cR (i:=i) (n:=n2) ae
   simp only[go_sem,↓reduceIte,Nat.reduceEqDiff,Nat.reduceAdd,Nat.reduceSub,Nat.reduceLeDiff,reduceCtorEq,h8])) cT ZS ae ae))
  obtain⟨ag,ao,rfl,sX,W5,ju,eK,jx,Qm,ZO,KT,gQ⟩:=hq;obtain⟨g3,n3⟩:=σ3;(try dsimp only at sX W5 eK jx Qm ZO KT gQ)
  have b3:∀x:Id,x.bH<n2->g3 x=g2 x:=fun x hx=>by
   have h1:=gQ x ae;have h2:=cR hx;simp only[go_sem,↓reduceIte,Nat.reduceEqDiff,Nat.reduceAdd,Nat.reduceSub,Nat.reduceLeDiff,reduceCtorEq,h2]at h1;exact h1
  have k4:=gQ ⟨8001003,n2⟩ aI;simp only[go_sem,↓reduceIte,Nat.reduceEqDiff,Nat.reduceAdd,Nat.reduceSub,Nat.reduceLeDiff,reduceCtorEq]at k4;have k3:=(b3 ⟨8000000,σ.next⟩ aI).trans k2;clear gQ;have hXl:(((iv rb rn).2++rs).map dp).length=T:=by rw[List.length_map];exact cT
  have hle:((T-1:Nat):Int)<=(T:Int):=ae
  have nA:∀y:Id,n2+1<=y.bH->(y=(⟨8001003,n2⟩:Id))=False/\((⟨8001003,n2⟩:Id)=y)=False:=fun y hy=>⟨eq_false fun h=>by rw[h]at hy;(try dsimp only at hy);omega,eq_false fun h=>by rw[<-h]at hy;(try dsimp only at hy);omega⟩;have nA1:=nA ao ae;apply hN;clear hN N;have HN:T-1-0=T-1:=Nat.sub_zero _;(try((repeat(revert N;apply g7));refine wk (tw9 @c1 @c2 @k3 @k4 @W5 @nA1 @qX @hle (tw @hXl @HN)) ?_;repeat(apply g6;intro N hN)))
  have gQ:∀x:Id,σ.next<x.bH->(∀s,x≠⟨s,n2⟩)->∀r1 r2 r3,(bJ (bJ (bJ g3 ⟨8001003,n2⟩ r1) ⟨8001003,n2⟩ r2) ⟨8000000,σ.next⟩ r3) x=g3 x:=fun x h1 h2 r1 r2 r3=>(by
   have h8:∀s,(x=⟨s,n2⟩)=False:=fun s=>eq_false (h2 s);have h9:∀s,(x=⟨s,σ.next⟩)=False:=fun s=>eq_false fun h=>by rw[h]at h1;(try dsimp only at h1);omega
   simp only[go_sem,↓reduceIte,Nat.reduceEqDiff,Nat.reduceAdd,Nat.reduceSub,Nat.reduceLeDiff,reduceCtorEq,h8,h9])
  have z1:=fun r1 r2 r3=>gj (e:=dU) (sz:=2) (n:=4) ((gQ ag ae (fun s h=>by rw[h]at eK;(try dsimp only at eK);omega) r1 r2 r3).trans sX) cG.symm fun x=>by simp[dU,ah,aj,bj,aL]
  have z2:=fun r1 r2 r3=>C5 (n:=4) (off:=0) (len:=T-1) (sz:=2) (rows':=(((iv rb rn).2++rs).take (T-1)).map dp) ((gQ ao ae (fun s h=>by rw[h]at Qm;(try dsimp only at Qm);omega) r1 r2 r3).trans W5) (by rw[hXl];omega) (by
   rw[List.drop_zero,<-List.map_take];refine tC fun c hc=>?_;obtain⟨x,_,rfl⟩:=List.mem_map.1 hc
   simp[dp,ah,aj,bj,bP])
  exact⟨[.agg [.own ag 0 G,.own ao 0 (T-1),v,.int .i64 2]],sd (tw4 @c1 @c2 @k3 @HN),_,Ng (z1 _ _ _) (z2 _ _ _) (by
   rcases hv with⟨rfl,rfl⟩|rfl
   ·exact gj (e:=ad) (sz:=3) (l:=[⟨⟨0,0⟩,0⟩]) (n:=4) ((gQ qB ae (fun s h=>by rw[h]at csv1;(try dsimp only at csv1);omega) _ _ _).trans ((b3 qB csv1).trans cs)) rfl fun x=>by simp[ad,ah,aj,aL]
   ·exact bP _ _ _),⟨⟨(iv rb rn).1,((iv rb rn).2++rs).take (T-1)⟩,⟨K⟩,2⟩,JN (oR rb ae rn ae) (fun t ht=>cX.ok t (List.mem_of_mem_take ht)) ae (by rw[List.length_take];omega) hK5,(by
    rw[List.take_append,List.take_of_length_le ae]
    exact Cb l0 l1 l2 l3 SQ NJ tF hr5 hKs),rfl⟩
theorem zR {s:aE} {l:List aa} {t:Int} (h:pg s l t<2):CA l.length (eI s l) t:=⟨by unfold pg at h;omega,BN (by unfold pg at h;exact h)⟩
theorem FP (s:aE) (l:List aa) (t:Int) (hS:gz s) (hA:fS s l) (hO:pg s l t<2):au Tryz.prog 65 [.dZ (ai s),.dZ [.sl (l.map ad)],.int .i64 t] (.gG [.bool true,.int .i64 0]):=by
 refine au.body fx rfl fun hl n0=>?_;clear hl;have hb:=Bq (l:=l) hS;have iy:=tk (s:=s) hA.1;have sM:=hA.1.oG;have Eh:=HT s l hS.form hA;have hsh:=FO l.length ae (eI s l) (fun b h=>⟨(hb b h).1,(hb b h).2.1⟩) ae t;have eP:(l.map ad).length=l.length:=by simp
 have PS:¬(64:Int)<(pg s l t:Int):=ae;have h2:(pg s l t:Int)<2:=ae;rw[pg]at PS h2
 (have zF:=tw4 @ai.eq_1 @PS @h2 @eP;(repeat(first|((repeat(revert N;apply g7));refine wk zF ?_;repeat(apply g6;intro N hN))|((try apply i3);refine⟨_,au.x (Eh) (sd zF),?_⟩;apply hN;clear hN N)|((try apply i3);refine⟨_,au.x (hsh) (sd zF),?_⟩;apply hN;clear hN N)));try clear zF)
 exact lQ (.inl rfl) (r1:=.bool true) (r2:=.int .i64 0) (sd @g8) (sd @g8) (by simp only[fY,bR,cW,fK,ec,Option.map_some])
theorem Ri (s:ar) (hO:xS s) (hn:jC s.ay) (hg:s.ay.bM.length<=1048576) (ht:s.ay.aq.length<=1048576):au Tryz.prog 27 [.dZ (aK s)] (.bool (pM s)):=by
 refine au.body fx rfl fun hl n0=>?_;clear hl;have h1:=(Js s.ay hn hg ht).cut mixed (.ptr _ [.sl (s.cw.aq.map ad),.int .i64 s.aQ] .nil)
 by_cases hS:gz s.ay
 ·rw[nw.2 hS]at h1;have h2:=(Jt s.ay s.cw.aq).cut mixed (.ptr _ [.sl (s.cw.aq.map ad),.int .i64 s.aQ] (.ptr _ [.int .i64 s.aQ] .nil))
  by_cases hA:fS s.ay s.cw.aq
  ·rw[mL.2 hA]at h2
   by_cases h0:(s.cw.aq.length:Int)=0
   ·have hd:decide ((s.cw.aq.length:Int)=0)=true:=decide_eq_true h0;have mT:false=pM s:=pN fun h=>by have:=h.some;omega
    generalize eP:(s.cw.aq.map ad).length=len at *
    (have zF:=tw3 @aK.eq_1 @ai.eq_1 @hd;(repeat(first|((repeat(revert N;apply g7));refine wk zF ?_;repeat(apply g6;intro N hN))|((try apply i3);refine⟨_,au.x (h1) (sd zF),?_⟩;apply hN;clear hN N)|((try apply i3);refine⟨_,au.x (h2) (sd zF),?_⟩;apply hN;clear hN N)));try clear zF)
    exact cZ (b:=false) (.inl rfl) (sd @g8) mT
   ·have hd:decide ((s.cw.aq.length:Int)=0)=false:=decide_eq_false h0;have h3:=wR s.aQ
    cases hT:jj s.aQ 1 16
    ·rw[hT]at h3
     (have zF:=tw3 @aK.eq_1 @ai.eq_1 @hd;(repeat(first|((repeat(revert N;apply g7));refine wk zF ?_;repeat(apply g6;intro N hN))|((try apply i3);refine⟨_,au.x (h1) (sd zF),?_⟩;apply hN;clear hN N)|((try apply i3);refine⟨_,au.x (h2) (sd zF),?_⟩;apply hN;clear hN N)|((try apply i3);refine⟨_,au.x (h3) (sd zF),?_⟩;apply hN;clear hN N)));try clear zF)
     exact cZ (b:=false) (.inl rfl) (sd @g8) (pN fun h=>by have:=h.DY;rw[hT]at this;cases this)
    ·rw[hT]at h3;have h4:=(FP s.ay s.cw.aq s.aQ hS hA (hO hS hA)).cut mixed (.ptr _ [.sl (s.cw.aq.map ad),.int .i64 s.aQ] (.ptr _ [.int .i64 s.aQ] (.same _ .nil)))
     (have zF:=tw3 @aK.eq_1 @ai.eq_1 @hd;(repeat(first|((repeat(revert N;apply g7));refine wk zF ?_;repeat(apply g6;intro N hN))|((try apply i3);refine⟨_,au.x (h1) (sd zF),?_⟩;apply hN;clear hN N)|((try apply i3);refine⟨_,au.x (h2) (sd zF),?_⟩;apply hN;clear hN N)|((try apply i3);refine⟨_,au.x (h3) (sd zF),?_⟩;apply hN;clear hN N)|((try apply i3);refine⟨_,au.x (h4) (sd zF),?_⟩;apply hN;clear hN N)));try clear zF)
     exact cZ (b:=true) (.inl rfl) (sd @g8) (Gp ⟨hS,hA,ae,hT,zR (hO hS hA)⟩)
  ·have hb:qH s.ay s.cw.aq=false:=Bool.eq_false_iff.2 fun h=>hA (mL.1 h);rw[hb]at h2;(repeat(first|((repeat(revert N;apply g7));refine wk (tw @aK.eq_1 @ai.eq_1) ?_;repeat(apply g6;intro N hN))|((try apply i3);refine⟨_,au.x (h1) (sd (tw @aK.eq_1 @ai.eq_1)),?_⟩;apply hN;clear hN N)|((try apply i3);refine⟨_,au.x (h2) (sd (tw @aK.eq_1 @ai.eq_1)),?_⟩;apply hN;clear hN N)));exact cZ (b:=false) (.inl rfl) (sd @g8) (pN fun h=>hA h.ud)
 ·have hb:rz s.ay=false:=Bool.eq_false_iff.2 fun h=>hS (nw.1 h);rw[hb]at h1;(repeat(first|((repeat(revert N;apply g7));refine wk (tw @aK.eq_1 @ai.eq_1) ?_;repeat(apply g6;intro N hN))|((try apply i3);refine⟨_,au.x (h1) (sd (tw @aK.eq_1 @ai.eq_1)),?_⟩;apply hN;clear hN N)));exact cZ (b:=false) (.inl rfl) (sd @g8) (pN fun h=>hS h.set)
theorem QZ (n:Nat) (h:n<2) (v:AV) (t:Int):au Tryz.prog 171 [.int .i64 n,v,.int .i64 t] (.bool true):=by
 refine au.body fx rfl fun hl n0=>?_;clear hl;have d:¬(1:Int)<(n:Int):=ae;(try((repeat(revert N;apply g7));refine wk @g8 ?_;repeat(apply g6;intro N hN)));refine LU 1 (Ps ?_);(try((repeat(revert N;apply g7));refine wk @d ?_;repeat(apply g6;intro N hN)));exact cZ (b:=true) (.inl rfl) (sd @g8) rfl
theorem Pc (hBo:GU) (s:aE) (l:List aa) (t:Int) (h1:1<=l.length) (hS:gz s) (hA:fS s l) (hO:pg s l t<2):au Tryz.prog 143 [.agg (ai s),.agg [.sl (l.map ad)],.int .i64 t] (.gG [.bool true,.bool true]):=by
 refine au.body fx rfl fun hl n0=>?_;clear hl;have hb:=Bq (l:=l) hS;have iy:=tk (s:=s) hA.1;have sM:=hA.1.oG;have Eh:=hBo s l hS hA;have hct:=CU l.length h1 ae (eI s l) (fun b h=>⟨(hb b h).1,(hb b h).2.1⟩) ae t;have eP:(l.map ad).length=l.length:=by simp
 have hzB:∀(g:Rows) (n:Nat) (bs:List PB),V.fz g (n+1) (DT bs)=some (DT bs):=fun g n bs=>by
  unfold DT;split
  ·exact aM _ _
  ·exact bP _ _ _
 rw[ai]at Eh;rw[<-pg]at hct;have hho:=QZ (pg s l t) hO (DT (fB (fH (bZ t (eI s l))) (eI s l))) t;have A5:∀(g:Rows) (x:Int),eM (ef g) 6 [.int .i64 l.length,DT (eI s l),.int .i64 x]=some [.int .i64 l.length,DT (eI s l),.int .i64 x]:=fun g x=>by simp only[ah,aj,aL,hzB,Option.map_some]
 have hzh:∀(g:Rows) (x y:Int),eM (ef g) 6 [.int .i64 x,DT (fB (fH (bZ t (eI s l))) (eI s l)),.int .i64 y]=some [.int .i64 x,DT (fB (fH (bZ t (eI s l))) (eI s l)),.int .i64 y]:=fun g x y=>by simp only[ah,aj,aL,hzB,Option.map_some]
 generalize DT (eI s l)=B1 at *;generalize DT (fB (fH (bZ t (eI s l))) (eI s l))=B2 at *;have PS:¬(64:Int)<(pg s l t:Int):=ae
 (have zF:=tw3 @ai.eq_1 @PS @eP;(repeat(first|((repeat(revert N;apply g7));refine wk zF ?_;repeat(apply g6;intro N hN))|((try apply i3);refine⟨_,au.x (Eh) (sd zF),?_⟩;apply hN;clear hN N)));try clear zF)
 refine⟨_,au.x hct (A5 _ _),?_⟩;apply hN;clear hN N;(try((repeat(revert N;apply g7));refine wk @PS ?_;repeat(apply g6;intro N hN)));refine .inl ⟨_,au.x hho (hzh _ _ _),?_⟩;apply hN;clear hN N;(try((repeat(revert N;apply g7));refine wk @g8 ?_;repeat(apply g6;intro N hN)));exact lQ (.inl rfl) (r1:=.bool true) (r2:=.bool true) (sd @g8) (sd @g8) (by simp only[fY,bR,cW,fK,Option.map_some])
theorem AG (hBo:GU) (s:ar) (hO:xS s) (hn:jC s.ay) (hg:s.ay.bM.length<=1048576) (ht:s.ay.aq.length<=1048576) (hs:∀t∈s.ay.aq,t.de.length<=1048576) (hl:s.cw.aq.length<=1048576):au Tryz.prog 50 [.agg (aK s)] (.bool (pM s)):=by
 refine au.body fx rfl fun fM n0=>?_;clear fM
 by_cases h0:(s.cw.aq.length:Int)=0
 ·have hd:decide ((s.cw.aq.length:Int)=0)=true:=decide_eq_true h0;(try((repeat(revert N;apply g7));refine wk (tw @aK.eq_1 @hd) ?_;repeat(apply g6;intro N hN)));exact cZ (b:=false) (.inl rfl) (sd @g8) (pN fun h=>by have:=h.some;omega)
 have hd:decide ((s.cw.aq.length:Int)=0)=false:=decide_eq_false h0;have W4:=pV s.ay s.cw.aq hn hg ht hs hl;have hTm:=ya s.aQ
 have key:au Tryz.prog 99 [.agg (ai s.ay),.agg [.sl (s.cw.aq.map ad)],.int .i64 s.aQ] (.gG [.bool (pM s),.int .i64 (if rz s.ay&&qH s.ay s.cw.aq then(if jj s.aQ 1 16 then(if 64<pg s.ay s.cw.aq s.aQ then 4 else 0)else 2)else 1)]):=by
  refine au.body fx rfl fun fM n0=>?_;clear fM;rw[ai]at W4
  cases hA:rz s.ay&&qH s.ay s.cw.aq
  ·rw[hA]at W4;have mT:pM s=false:=(pN fun h=>by rw[nw.2 h.set,mL.2 h.ud]at hA;cases hA).symm;(repeat(first|((repeat(revert N;apply g7));refine wk @ai.eq_1 ?_;repeat(apply g6;intro N hN))|((try apply i3);refine⟨_,au.x (W4) (sd @ai.eq_1),?_⟩;apply hN;clear hN N)));exact lQ (.inl rfl) (r1:=.bool false) (r2:=.int .i64 1) (sd @g8) (sd @g8) (by rw[mT];simp only[fY,bR,cW,fK,ec,Option.map_some];rfl)
  rw[hA]at W4;simp only[Bool.and_eq_true]at hA;have hS:=nw.1 hA.1;have hP:=mL.1 hA.2
  cases hT:jj s.aQ 1 16
  ·rw[hT]at hTm;have mT:pM s=false:=(pN fun h=>by have:=h.DY;rw[hT]at this;cases this).symm;(repeat(first|((repeat(revert N;apply g7));refine wk @ai.eq_1 ?_;repeat(apply g6;intro N hN))|((try apply i3);refine⟨_,au.x (W4) (sd @ai.eq_1),?_⟩;apply hN;clear hN N)|((try apply i3);refine⟨_,au.x (hTm) (sd @ai.eq_1),?_⟩;apply hN;clear hN N)));exact lQ (.inl rfl) (r1:=.bool false) (r2:=.int .i64 2) (sd @g8) (sd @g8) (by rw[mT];simp only[fY,bR,cW,fK,ec,Option.map_some];rfl)
  have S9:=dV hT;rw[hT]at hTm;have ez:=Pc hBo s.ay s.cw.aq s.aQ ae hS hP (hO hS hP);rw[ai]at ez;have hsy:pM s=true:=(Gp ⟨hS,hP,ae,hT,zR (hO hS hP)⟩).symm;have PS:¬64<pg s.ay s.cw.aq s.aQ:=by have:=hO hS hP;omega
  (repeat(first|((repeat(revert N;apply g7));refine wk @ai.eq_1 ?_;repeat(apply g6;intro N hN))|((try apply i3);refine⟨_,au.x (W4) (sd @ai.eq_1),?_⟩;apply hN;clear hN N)|((try apply i3);refine⟨_,au.x (hTm) (sd @ai.eq_1),?_⟩;apply hN;clear hN N)|((try apply i3);refine⟨_,au.x (ez) (sd @ai.eq_1),?_⟩;apply hN;clear hN N)));exact lQ (.inl rfl) (r1:=.bool true) (r2:=.int .i64 0) (sd @g8) (sd @g8) (by rw[hsy,if_neg PS];simp only[fY,bR,cW,fK,ec,Option.map_some])
 generalize hcode:(if rz s.ay&&qH s.ay s.cw.aq then(if jj s.aQ 1 16 then(if 64<pg s.ay s.cw.aq s.aQ then(4:Int)else 0)else 2)else 1)=code at key;rw[ai]at key
 cases hB:pM s
 ·rw[hB]at key;(repeat(first|((repeat(revert N;apply g7));refine wk (tw @aK.eq_1 @hd) ?_;repeat(apply g6;intro N hN))|((try apply i3);refine⟨_,au.x (key) (sd (tw @aK.eq_1 @hd)),?_⟩;apply hN;clear hN N)));exact cZ (b:=false) (.inl rfl) (sd @g8) rfl
 ·rw[hB]at key;have hP:=rD.1 hB
  have hc:code=0:=by
   rw[<-hcode,nw.2 hP.set,mL.2 hP.ud,hP.DY];have:=hP.holds.1;simp only[Bool.and_self,if_true];rw[if_neg (by unfold pg;omega)]
  rw[hc]at key;(repeat(first|((repeat(revert N;apply g7));refine wk (tw @aK.eq_1 @hd) ?_;repeat(apply g6;intro N hN))|((try apply i3);refine⟨_,au.x (key) (sd (tw @aK.eq_1 @hd)),?_⟩;apply hN;clear hN N)));exact cZ (b:=true) (.inl rfl) (sd @g8) rfl
theorem R9 (s:ar) (hP:lW s) (l:List aa) (hA:fS s.ay l) (h0:l≠[]) (σ:aw):Call Tryz.prog 31 [.agg (aK s),.agg [.sl (l.map ad)]] σ (fun r σ'=>Kept σ σ'/\((sG s l (fX s l)=[]/\r=.ck)∨∃o:Id,r=.own o 0 (sG s l (fX s l)).length/\σ'.get o=some ⟨true,3,(sG s l (fX s l)).map ad⟩/\o.bH<σ'.next/\0<(sG s l (fX s l)).length)):=by
 refine yI mixed (args':=[.agg (aK s),.agg [.sl (l.map ad)]]) (by simp[aK,bb,ah,aj,bP,aL]) (ax _ _ _ _ _ (fun r σ' hq=>?_) (wz mixed (J4 s hP l hA h0 ⟨fun _=>none,σ.next⟩)));obtain⟨hq,hn⟩:=hq;(try dsimp only at hq hn)
 rcases hq with⟨h2,rfl⟩|⟨u,rfl,h3,h4,h5,h6,h8⟩
 ·exact⟨[],rfl,fun i hi=>by(cases hi),⟨hn,fun j hj=>lF (g':=σ'.get) (List.not_mem_nil)⟩,.inl ⟨h2,rfl⟩⟩
 ·(try dsimp only at h4);refine⟨[u],rfl,fun i hi=>?_,⟨hn,fun j hj=>lF fun hc=>?_⟩,.inr ⟨u,rfl,(rF (by simp)).trans h3,h5,h6⟩⟩
  ·rw[List.mem_singleton.1 hi]
   exact⟨_,h3,rfl,fun cs eD a ha=>by
    obtain⟨x,_,rfl⟩:=List.mem_map.1 eD;simp[ad]at ha
    rcases ha with rfl|rfl|rfl<;>rfl⟩
  ·rw[List.mem_singleton.1 hc]at hj;omega
theorem C8 (s:ar) (hO:xS s) (l:List aa) (hn:jC s.ay) (hm:Ez s) (hl:l.length<=1048576):au Tryz.prog 70 [.agg (aK s),.agg [.sl (l.map ad)]] (.int .i64 (if CE s l then 0 else 1)):=by
 refine au.body fx rfl fun fM n0=>?_;clear fM;have h1:=AG Ub s hO hn hm.s.g hm.s.t hm.s.s hm.a;have h2:=pV s.ay l hn hm.s.g hm.s.t hm.s.s hl
 cases b1:pM s
 ·rw[b1]at h1;rw[aK]at h1 ⊢;(repeat(first|((repeat(revert N;apply g7));refine wk @g8 ?_;repeat(apply g6;intro N hN))|((try apply i3);refine⟨_,au.x (h1) (sd @g8),?_⟩;apply hN;clear hN N)));exact ed (b:=1) (.inl rfl) (sd @g8) (by simp[CE,b1])
 have fV:rz s.ay=true:=nw.2 (rD.1 b1).set;rw[b1]at h1;rw[fV,Bool.true_and]at h2;rw[aK]at h1 ⊢;rw[ai]at h2
 cases b2:qH s.ay l
 ·rw[b2]at h2;(repeat(first|((repeat(revert N;apply g7));refine wk @g8 ?_;repeat(apply g6;intro N hN))|((try apply i3);refine⟨_,au.x (h1) (sd @g8),?_⟩;apply hN;clear hN N)|((try apply i3);refine⟨_,au.x (h2) (sd @g8),?_⟩;apply hN;clear hN N)));exact ed (b:=1) (.inl rfl) (sd @g8) (by simp[CE,b1,b2])
 ·rw[b2]at h2;(repeat(first|((repeat(revert N;apply g7));refine wk @g8 ?_;repeat(apply g6;intro N hN))|((try apply i3);refine⟨_,au.x (h1) (sd @g8),?_⟩;apply hN;clear hN N)|((try apply i3);refine⟨_,au.x (h2) (sd @g8),?_⟩;apply hN;clear hN N)));exact ed (b:=0) (.inl rfl) (sd @g8) (by simp[CE,b1,b2])
theorem pz (s:ar) (hO:xS s) (l:List aa) (hn:jC s.ay) (hm:Ez s) (hl:l.length<=1048576):au Tryz.prog 30 [.agg (aK s),.agg [.sl (l.map ad)]] (.int .i64 (kU s l)):=by
 refine au.body fx rfl fun fM n0=>?_;clear fM;have h1:=C8 s hO l hn hm hl
 cases b:CE s l
 ·rw[b]at h1;rw[aK]at h1 ⊢;(repeat(first|((repeat(revert N;apply g7));refine wk @g8 ?_;repeat(apply g6;intro N hN))|((try apply i3);refine⟨_,au.x (h1) (sd @g8),?_⟩;apply hN;clear hN N)));exact ed (b:=1) (.inl rfl) (sd @g8) (by simp[kU,b])
 obtain⟨hP,hA⟩:=yR.1 b;have h2:=G0 s.cw.aq l hP.ud.1 hA.1;rw[b]at h1;rw[aK]at h1 ⊢
 cases b2:mC s.cw.aq l
 ·rw[b2]at h2;(repeat(first|((repeat(revert N;apply g7));refine wk @g8 ?_;repeat(apply g6;intro N hN))|((try apply i3);refine⟨_,au.x (h1) (sd @g8),?_⟩;apply hN;clear hN N)|((try apply i3);refine⟨_,au.x (h2) (sd @g8),?_⟩;apply hN;clear hN N)));exact ed (b:=2) (.inl rfl) (sd @g8) (by simp[kU,b,b2])
 ·rw[b2]at h2;(repeat(first|((repeat(revert N;apply g7));refine wk @g8 ?_;repeat(apply g6;intro N hN))|((try apply i3);refine⟨_,au.x (h1) (sd @g8),?_⟩;apply hN;clear hN N)|((try apply i3);refine⟨_,au.x (h2) (sd @g8),?_⟩;apply hN;clear hN N)));exact ed (b:=0) (.inl rfl) (sd @g8) (by simp[kU,b,b2])
theorem J8 (s:ar) (hO:xS s) (l:List aa) (hn:jC s.ay) (hm:Ez s) (hl:l.length<=1048576):au Tryz.prog 10 [.agg (aK s),.agg [.sl (l.map ad)]] (.gG [.bool (rH s l).1,.int .i64 (rH s l).2]):=by
 refine au.body fx rfl fun fM n0=>?_;clear fM;have h1:=pz s hO l hn hm hl
 by_cases h0:kU s l=0
 ·obtain⟨hP,hA,hW⟩:=wZ.1 h0;have hr:rH s l=(!(iF s l).isSome,0):=by rw[rH,if_pos h0]
  have hh:=y9 s l;rw[h0]at h1;rw[hr];have hc:=fun σ=>J4 s hP l hA (xP hP hW) σ;rw[aK]at h1 hc ⊢;(repeat(first|((repeat(revert N;apply g7));refine wk @g8 ?_;repeat(apply g6;intro N hN))|((try apply i3);refine⟨_,au.x (h1) (sd @g8),?_⟩;apply hN;clear hN N)));refine .inr (ax _ _ _ _ _ (fun r σ1 hq=>?_) (hc _));obtain⟨g1,x1⟩:=σ1;(try dsimp only at hq);apply hN;clear hN N
  rcases hq with⟨h2,h3⟩|⟨u,h2,h3,h4,h5,h6,h8⟩
  ·subst h3;rw[h2]at hh
   have hf:iF s l=none:=by
    cases hf:iF s l with
    |none=>rfl
    |some q=>rw[hf]at hh;simp at hh
   have d0:decide (((0:Nat):Int)=0)=true:=rfl;(try((repeat(revert N;apply g7));refine wk @d0 ?_;repeat(apply g6;intro N hN)));exact lQ (.inl rfl) (r1:=.bool true) (r2:=.int .i64 0) (sd @g8) (sd @g8) (by simp only[fY,bR,cW,fK,ec,Option.map_some,hf,Option.isSome_none,Bool.not_false])
  ·subst h2
   have hf:(iF s l).isSome=true:=by
    cases hf:iF s l with
    |none=>rw[hf]at hh;simp only[Option.map_none,List.head?_eq_none_iff]at hh;rw[hh]at h6;simp at h6
    |some q=>rfl
   have d0:decide (((sG s l (fX s l)).length:Int)=0)=false:=decide_eq_false ae;(try((repeat(revert N;apply g7));refine wk @d0 ?_;repeat(apply g6;intro N hN)));exact lQ (.inl rfl) (r1:=.bool false) (r2:=.int .i64 0) (sd @g8) (sd @g8) (by simp only[fY,bR,cW,fK,ec,Option.map_some,hf,Bool.not_true])
 ·have hd:decide (kU s l=0)=false:=decide_eq_false h0;have hr:rH s l=(false,kU s l):=by rw[rH,if_neg h0]
  rw[hr];rw[aK]at h1 ⊢;(repeat(first|((repeat(revert N;apply g7));refine wk @hd ?_;repeat(apply g6;intro N hN))|((try apply i3);refine⟨_,au.x (h1) (sd @hd),?_⟩;apply hN;clear hN N)));exact lQ (.inl rfl) (r1:=.bool false) (r2:=.int .i64 (kU s l)) (sd @g8) (sd @g8) (by simp only[fY,bR,cW,fK,ec,Option.map_some])
theorem CB (s:ar) (hO:xS s) (l:List aa) (hn:jC s.ay) (hm:Ez s) (hl:l.length<=1048576):au Tryz.prog 11 [.agg (aK s),.agg [.sl (l.map ad)]] (.gG [.agg (Rx (n9 s l).1),.int .i64 (n9 s l).2]):=by
 refine au.body fx rfl fun fM n0=>?_;clear fM;have h1:=pz s hO l hn hm hl
 by_cases h0:kU s l=0
 ·obtain⟨hP,hA,hW⟩:=wZ.1 h0;have hh:=y9 s l;rw[h0]at h1;have hc:=fun σ=>R9 s hP l hA (xP hP hW) σ;rw[aK]at h1 hc ⊢
  rcases hf:iF s l with _|⟨p,t⟩
  ·have hr:n9 s l=(none,3):=by rw[n9,if_pos h0,hf];rfl
   rw[hr];rw[hf]at hh;have pr:sG s l (fX s l)=[]:=by simpa using hh
   rw[pr]at hc;(repeat(first|((repeat(revert N;apply g7));refine wk @g8 ?_;repeat(apply g6;intro N hN))|((try apply i3);refine⟨_,au.x (h1) (sd @g8),?_⟩;apply hN;clear hN N)));refine .inr (ax _ _ _ _ _ (fun r σ1 hq=>?_) (hc _));obtain⟨g1,x1⟩:=σ1;(try dsimp only at hq);obtain⟨hK,hq⟩:=hq;have k4:=hK.2 ⟨11000002,n0⟩ aI;simp only[go_sem,↓reduceIte,Nat.reduceEqDiff,Nat.reduceAdd,Nat.reduceSub,Nat.reduceLeDiff,reduceCtorEq]at k4;apply hN;clear hN N
   rcases hq with⟨h2,h3⟩|⟨u,h2,h3,h5,h6⟩
   ·subst h3;have d0:decide (((0:Nat):Int)=0)=true:=rfl;(try((repeat(revert N;apply g7));refine wk (tw @d0 @k4) ?_;repeat(apply g6;intro N hN)));exact lu (.inl rfl) (vs:=[.agg [.int .i64 0,.int .i64 0,.int .i64 0],.int .i64 3]) (sd @g8) (by simp only[gH,Rx,fY,mo,bR,cW,fK,ec,Option.map_some])
   ·simp at h6
  ·have hr:n9 s l=(some (p,t),0):=by rw[n9,if_pos h0,hf];rfl
   rw[hr];rw[hf]at hh
   obtain⟨L,hL⟩:∃L,sG s l (fX s l)=⟨p,t⟩::L:=by
    rcases hw:sG s l (fX s l)with _|⟨q,L⟩
    ·rw[hw]at hh;cases hh
    ·rw[hw]at hh;simp only[List.head?_cons,Option.map_some,Option.some.injEq]at hh;exact⟨L,by rw[hh]⟩
   rw[hL]at hc;(repeat(first|((repeat(revert N;apply g7));refine wk @g8 ?_;repeat(apply g6;intro N hN))|((try apply i3);refine⟨_,au.x (h1) (sd @g8),?_⟩;apply hN;clear hN N)));refine .inr (ax _ _ _ _ _ (fun r σ1 hq=>?_) (hc _));obtain⟨g1,x1⟩:=σ1;(try dsimp only at hq);obtain⟨hK,hq⟩:=hq;have k4:=hK.2 ⟨11000002,n0⟩ aI;simp only[go_sem,↓reduceIte,Nat.reduceEqDiff,Nat.reduceAdd,Nat.reduceSub,Nat.reduceLeDiff,reduceCtorEq]at k4;apply hN;clear hN N
   rcases hq with⟨h2,h3⟩|⟨u,h2,h3,h5,h6⟩
   ·cases h2
   ·subst h2;have vu:=cR h5;have SZ:(List.map ad (⟨p,t⟩::L))[0]? =some [.int .i64 p.eV,.int .i64 p.eR,.int .i64 t]:=rfl;generalize hrw:List.map ad (⟨p,t⟩::L)=rows at h3 SZ;generalize List.length (⟨p,t⟩::L)=n at h6 ⊢;have d0:decide ((n:Int)=0)=false:=decide_eq_false ae;have d1:(0:Int)<(n:Int):=ae;(try((repeat(revert N;apply g7));refine wk (tw6 @d0 @d1 @h3 @vu @SZ @k4) ?_;repeat(apply g6;intro N hN)));exact lu (.inl rfl) (vs:=[.agg [.int .i64 p.eV,.int .i64 p.eR,.int .i64 t],.int .i64 0]) (sd @g8) (by simp only[gH,Rx,fY,mo,bR,cW,fK,ec,Option.map_some])
 ·have hd:decide (kU s l=0)=false:=decide_eq_false h0;have hr:n9 s l=(none,kU s l):=by rw[n9,if_neg h0]
  rw[hr];rw[aK]at h1 ⊢;(repeat(first|((repeat(revert N;apply g7));refine wk @hd ?_;repeat(apply g6;intro N hN))|((try apply i3);refine⟨_,au.x (h1) (sd @hd),?_⟩;apply hN;clear hN N)));exact lu (.inl rfl) (vs:=[.agg [.int .i64 0,.int .i64 0,.int .i64 0],.int .i64 (kU s l)]) (sd @g8) (by simp only[gH,Rx,fY,mo,bR,cW,fK,ec,Option.map_some])
theorem Qf (s:ar) (hO:xS s) (hn:jC s.ay) (hg:s.ay.bM.length<=1048576) (ht:s.ay.aq.length<=1048576) (sch:List Int) (hl:sch.length<=1048576):
  mg Tryz.prog 9 [.agg (aK s),.sl (sch.map bf)] fun r=>r=xA s sch:=by
 have h1:=Ri s hO hn hg ht;have h2:=A7 sch hl;unfold xA
 cases h0:pM s
 ·rw[h0]at h1;refine mg.body fx rfl fun fM σ=>?_;clear fM;rw[aK]at h1 ⊢;(repeat(first|((repeat(revert N;apply g7));refine wk @g8 ?_;repeat(apply g6;intro N hN))|((try apply i3);refine⟨_,au.x (h1) (sd @g8),?_⟩;apply hN;clear hN N)));exact⟨[.ck,.agg [.ck],.int .i64 1],sd @g8,_,by simp only[gH,bp,bb,ah,aj,bP,aM,aL,Option.map_some]<;>rfl,rfl⟩
 ·have hP:=rD.1 h0;rw[h0]at h1;rw[if_pos rfl]
  cases Mi:Bb sch
  ·rw[Mi]at h2;refine mg.body fx rfl fun fM σ=>?_;clear fM;rw[aK]at h1 ⊢;(repeat(first|((repeat(revert N;apply g7));refine wk @g8 ?_;repeat(apply g6;intro N hN))|((try apply i3);refine⟨_,au.x (h1) (sd @g8),?_⟩;apply hN;clear hN N)|((try apply i3);refine⟨_,au.x (h2) (sd @g8),?_⟩;apply hN;clear hN N)));exact⟨[.ck,.agg [.ck],.int .i64 2],sd @g8,_,by simp only[gH,bp,bb,ah,aj,bP,aM,aL,Option.map_some]<;>rfl,rfl⟩
  rw[Mi]at h2;obtain⟨nI,hs⟩:=rq.1 Mi;have h4:=kh.cut mixed (.same _ (.ptr _ [.int .i64 s.aQ] (.same _ (.same _ .nil)))) (BY s hP sch hs nI 500 ae);simp only[List.cons_append,List.nil_append]at h4;rw[<-Np hP];have hc5:((500:Nat):Int)=500:=rfl;rw[hc5]at h4;refine mg.body fx rfl fun fM σ=>?_;clear fM;simp only[aK]at h1 h4 ⊢;(repeat(first|((repeat(revert N;apply g7));refine wk @g8 ?_;repeat(apply g6;intro N hN))|((try apply i3);refine⟨_,au.x (h1) (sd @g8),?_⟩;apply hN;clear hN N)|((try apply i3);refine⟨_,au.x (h2) (sd @g8),?_⟩;apply hN;clear hN N)));refine .inr (ax _ _ _ _ _ (fun r σ2 hq=>?_) (kh.x mixed h4 (QC (mO (rows:=[[.sl (s.ay.bM.map dU),.sl (s.ay.aq.map dp),.sl (s.cw.aq.map ad),.int .i64 s.aQ]]) (by simp only[ef,go_sem,↓reduceIte,Nat.reduceEqDiff,Nat.reduceAdd,Nat.reduceSub,Nat.reduceLeDiff,reduceCtorEq,Option.map_some]<;>rfl) rfl (by simp only[ah,aj,List.drop,bP,aL,Option.map_some])) (mO (rows:=[[.sl (s.ay.bM.map dU),.sl (s.ay.aq.map dp),.sl (s.cw.aq.map ad),.int .i64 s.aQ]]) (by simp only[ef,go_sem,↓reduceIte,Nat.reduceEqDiff,Nat.reduceAdd,Nat.reduceSub,Nat.reduceLeDiff,reduceCtorEq,Option.map_some]<;>rfl) rfl (by simp only[ah,aj,List.drop,bP,aL,Option.map_some])) (bP _ _ _) (aL _ _ _ _))));obtain⟨⟨b,rfl⟩,rfl⟩:=hq;apply hN;clear hN N
  cases hg:od s sch 500 with
  |none=>
   rw[show wI s sch 500 b=.gG [.ck,.agg [.ck],.bool b,.int .i64 4] by unfold wI;rw[hg]];(try((repeat(revert N;apply g7));refine wk @g8 ?_;repeat(apply g6;intro N hN)));exact⟨[.ck,.agg [.ck],.int .i64 4],sd @g8,.gG [.ck,.agg [.ck],.int .i64 4],by simp only[gH,bp,bb,ah,aj,bP,aM,aL,Option.map_some],by rw[hg]⟩
  |some es=>
   rw[show wI s sch 500 b=.gG [.sl (es.map ad),.agg [.sl ((dx s es es.length).map ad)],.bool b,.int .i64 0] by unfold wI;rw[hg]];(try((repeat(revert N;apply g7));refine wk @g8 ?_;repeat(apply g6;intro N hN)));exact⟨[.sl (es.map ad),.agg [.sl ((dx s es es.length).map ad)],.int .i64 0],sd @g8,.gG [.sl (es.map ad),.agg [.sl ((dx s es es.length).map ad)],.int .i64 0],by simp only[gH,bp,bb,ah,aj,bP,aM,aL,Option.map_some],by rw[hg]⟩
section
variable {n:Nat} {c f:Nat->Nat->Int}
end
theorem mg.cut {P:Program} (hm:P.follows .mixedOrders=true) {f:Nat} {args args':List AV} {R:AV->Prop} (hc:th args args') (h:mg P f args' R):mg P f args R:=fun σ=>(h σ).cut hm hc
theorem M8 {s:ar} {a:List aa} (hA:jr a) {p:af} {t:Int} (h:iF s a=some (p,t)):s9 p=true/\eE s.ay t=true/\t≠ej a p/\s.aQ<=iT s.ay (ej a) p t:=by
 unfold iF at h;rw[i7]at h;obtain⟨q,h1,h2⟩:=h
 cases h2
 have h3:=List.mem_of_find?_eq_some h1;have h4:=List.find?_some h1;rw[decide_eq_true_eq]at h4;have h5:=pj s hA a.length i4 p h3
 cases e:(List.range s.ay.aq.length).find? fun k:Nat=>mc s a p k with
 |none=>
  unfold me at h4;rw[e]at h4;exact absurd h4 (by decide)
 |some k=>
  have hw:me s a p=(k:Int):=by unfold me;rw[e]
  have h6:=List.find?_some e;have h7:=List.mem_range.1 (List.mem_of_find?_eq_some e);unfold mc at h6;rw[Bool.and_eq_true,decide_eq_true_eq,decide_eq_true_eq]at h6;rw[hw];exact⟨h5,Dn (Int.natCast_nonneg k) ae,h6.1,h6.2⟩
theorem Oe (hC:yK 59) (code more:List Int) (hc:∀b∈code,0<=b/\b<=255) (hm:∀b∈more,0<=b/\b<=255) (σ:aw) (hE:jA σ.get) (AD:1<=σ.next):Call Tryz.prog 3 [.sl (code.map iq),.sl (more.map iq)] σ fun r _=>r=.bool true:=by
 refine fG fx rfl fun fM=>?_;clear fM;have h1:=ME code more
 by_cases c1:3000<code.length∨3000<more.length
 ·rw[show(decide (3000<code.length)||decide (3000<more.length))=true by rcases c1 with c|c<;>simp[c]]at h1;(repeat(first|((repeat(revert N;apply g7));refine wk @g8 ?_;repeat(apply g6;intro N hN))|((try apply i3);refine⟨_,au.x (h1) (sd @g8),?_⟩;apply hN;clear hN N)));exact eH (.inl rfl) (vs:=[.bool true]) (sd @g8) rfl
 rw[show(decide (3000<code.length)||decide (3000<more.length))=false by simp only[not_or]at c1;rw[decide_eq_false c1.1,decide_eq_false c1.2];rfl]at h1;have mJ:code.length<=4096:=ae;have eW:more.length<=4096:=ae;obtain⟨av,hav⟩:=TW more;(repeat(first|((repeat(revert N;apply g7));refine wk @g8 ?_;repeat(apply g6;intro N hN))|((try apply i3);refine⟨_,au.x (h1) (sd @g8),?_⟩;apply hN;clear hN N)));refine .inr (ax _ _ _ _ _ (fun r σ1 hq=>?_) (kh.x mixed (GR hC code hc mJ) (fzr1 (bP _ _ _))));obtain⟨⟨s0,hG0,rfl⟩,rfl⟩:=hq;apply hN;clear hN N
 have hH0:Qj s0:=by
  obtain⟨sn,sg,st,ss,sd4⟩:=hG0;exact⟨sn,⟨⟨sg,st,fun t ht=>by unfold G3;rw[sd4 t ht];omega⟩,ae⟩⟩
 have hO0:xS s0:=Vr hG0.2.2.2.1;clear hG0;rw[aK];(repeat(first|((repeat(revert N;apply g7));refine wk @g8 ?_;repeat(apply g6;intro N hN))|((try apply i3);refine⟨_,au.x (hav) (sd @g8),?_⟩;apply hN;clear hN N)));refine mb (fun e st=>e 0=.sl (code.map iq)/\e 1=.sl (more.map iq)/\e 5=.ptr ⟨3003002,σ.next+1+1+1⟩ 0 0/\σ.next+1+1+1+1<=st.next/\(∀x:Id,x.bH<σ.next->st.get x=σ.get x)/\∃s,(Qj s/\xS s)/\st.get ⟨3003002,σ.next+1+1+1⟩=some ⟨true,4,[aK s]⟩) ?_ ?_
 ·rintro e ⟨g,n⟩ ⟨e0,e1,e5,hn,hg,s,⟨hH,hO⟩,hB⟩;(try dsimp only at hn hg hB);apply hN;clear hN N;rw[aK]at hB;(try((repeat(revert N;apply g7));refine wk (tw4 @e0 @e1 @e5 @hB) ?_;repeat(apply g6;intro N hN)));obtain⟨hn,GN⟩:=id hH;refine .inr (ax _ _ _ _ _ (fun r σ1 hq=>?_) (mg.x mixed (by have h:=mg.cut mixed (.same _ (.ck .nil)) (Qf s hO hn GN.s.g GN.s.t [] (Nat.zero_le _));rw[aK]at h;exact h)));obtain⟨rfl,rfl⟩:=hq;apply hN;clear hN N;have sY:decide ((1:Int)=0)=false:=rfl;have Mc:decide ((4:Int)=0)=false:=rfl;have hd:∀x:Int,decide (x=x)=true:=fun x=>decide_eq_true rfl;have YP:Bb []=true:=rq.2 ⟨Nat.zero_le _,fun x hx=>by cases hx⟩
  cases h0:pM s
  ·rw[show xA s []=.gG [.ck,.agg [.ck],.int .i64 1] by unfold xA;rw[h0];rfl];(try((repeat(revert N;apply g7));refine wk (tw5 @e0 @e1 @e5 @hB @sY) ?_;repeat(apply g6;intro N hN)));exact eH (.inl rfl) (vs:=[.bool true]) (sd @g8) rfl
  have hP:=rD.1 h0
  cases UQ:od s [] 501 with
  |none=>
   rw[show xA s []=.gG [.ck,.agg [.ck],.int .i64 4] by unfold xA;rw[h0,if_pos rfl,if_pos YP,UQ]];(try((repeat(revert N;apply g7));refine wk (tw5 @e0 @e1 @e5 @hB @Mc) ?_;repeat(apply g6;intro N hN)));exact eH (.inl rfl) (vs:=[.bool true]) (sd @g8) rfl
  |some es=>
   rw[show xA s []=.gG [.sl (es.map ad),.agg [.sl ((dx s es es.length).map ad)],.int .i64 0] by unfold xA;rw[h0,if_pos rfl,if_pos YP,UQ]];have hG:=(rV UQ).1;have hA:=nk hP (es:=es) es.length i4 hG;have sM:=hA.1.oG
   have qe:∀i,i<=es.length->∀x∈s.cw.aq,x∈dx s es i:=by
    intro i
    induction i with
    |zero=>exact fun _ x hx=>hx
    |succ i ih=>exact fun hi x hx=>by rw[jg _ _ ae];exact jd.2 (.inr (ih ae x hx))
   have qe:=qe es.length i4;have qd:kU s (dx s es es.length)=0:=wZ.2 ⟨hP,hA,(within_iff hP.ud hA.1.pH).2 qe⟩;have S9:=J8 s hO (dx s es es.length) hn GN ae;have Vc:=CB s hO (dx s es es.length) hn GN ae;rw[show rH s (dx s es es.length)=(!(iF s (dx s es es.length)).isSome,0) by unfold rH;rw[if_pos qd]]at S9;rw[show n9 s (dx s es es.length)=(iF s (dx s es es.length),if (iF s (dx s es es.length)).isSome then 0 else 3) by unfold n9;rw[if_pos qd]]at Vc;have hw:=J5 more hm eW s hP (dx s es es.length) hA;have hsa:=yO (dx s es es.length) ae
   cases hf:iF s (dx s es es.length)with
   |none=>
    rw[hf]at S9 Vc;have NT:au Tryz.prog 10 [.agg (aK s),.agg [.sl ((dx s es es.length).map ad)]] (.gG [.bool true,.int .i64 0]):=S9;have NS:au Tryz.prog 11 [.agg (aK s),.agg [.sl ((dx s es es.length).map ad)]] (.gG [.agg [.int .i64 0,.int .i64 0,.int .i64 0],.int .i64 3]):=Vc;clear S9 Vc;obtain⟨sch,Mi,Dj,Q1⟩:=Cx more hm eW;have hic:au Tryz.prog 30 [.agg (aK s),.agg [.sl ((dx s es es.length).map ad)]] (.int .i64 0):=by have h:=pz s hO (dx s es es.length) hn GN ae;rw[qd]at h;exact h
    have Yw:=fun qs (hq:qu s (dx s es es.length) qs=true)=>Yl hP hG hf hq sch;have GK:=fun(σ:aw) (hE:jA σ.get) (h1:1<=σ.next) qs (hl:qs.length<=1048576) (hq:qu s (dx s es es.length) qs=true) ds hd he=>Ev (σ:=σ) hP hic hA qe hl hq hE h1 (sch:=sch) (fun x hx=>by have:=Dj x hx;omega) ae (ds:=ds) hd he;generalize dx s es es.length=L at *;rw[aK]at NT NS hw GK
    (have zF:=tw5 @e0 @e1 @e5 @hB @hd;(repeat(first|((repeat(revert N;apply g7));refine wk zF ?_;repeat(apply g6;intro N hN))|((try apply i3);refine⟨_,au.x (NT) (sd zF),?_⟩;apply hN;clear hN N)|((try apply i3);refine⟨_,au.x (NS) (sd zF),?_⟩;apply hN;clear hN N)));try clear zF)
    refine .inr (ax _ _ _ _ _ (fun r σ1 hq=>?_) (kh.x mixed hw (QC (bP _ _ _) (by rw[<-aK];exact IY _ _) (by simp[bb,ah,aj,bP]) (aL _ _ _ _))));obtain⟨⟨qs,rfl,NM,hq⟩,rfl⟩:=hq;apply hN;clear hN N;obtain⟨ds,hd5,_,hE5,hlen⟩:=Yw qs hq;have YE:(ds.map ad).length=ds.length:=by simp
    have hmq:(qs.map ab).length=ds.length:=by rw[List.length_map,hlen]
    (have zF:=tw5 @e0 @e1 @e5 @hB @hd;(repeat(first|((repeat(revert N;apply g7));refine wk zF ?_;repeat(apply g6;intro N hN))|((try apply i3);refine⟨_,au.x (Mi) (sd zF),?_⟩;apply hN;clear hN N)));try clear zF)
    refine⟨_,GK _ ?_ ?_ qs ae hq ds hd5 hE5,?_⟩
    ·exact hE.frame (n:=1) i4 fun x hx hs=>by
      have z1:=cR (i:=x) (n:=n) ae;have z2:=hg x ae;have z3:(x.bH=n+1+1+1+1+1+1+1+1+1)=False:=eq_false ae
      rcases hs with h|h<;>simp only[go_sem,↓reduceIte,Nat.reduceEqDiff,Nat.reduceAdd,Nat.reduceSub,Nat.reduceLeDiff,reduceCtorEq,z1,z3,h]<;>first|exact z2|(simp only[and_false,if_false];exact z2)
    ·(try dsimp only);omega
    apply hN;clear hN N
    obtain⟨v,hv⟩:∃v,Zb ad ds=v:=⟨_,rfl⟩
    rw[hv]
    have YU:(v=.ck/\ds.length=0)∨v=.sl (ds.map ad):=by
     rw[<-hv,Zb]
     by_cases hz:ds.length=0
     ·rw[if_pos hz];exact .inl ⟨rfl,hz⟩
     ·rw[if_neg hz];exact .inr rfl
    rcases YU with⟨rfl,hz⟩|rfl
    rw[hz]at hmq
    all_goals
     (have zF:=tw7 @e0 @e1 @e5 @hB @hd @YE @hmq;(repeat(first|((repeat(revert N;apply g7));refine wk zF ?_;repeat(apply g6;intro N hN))|((try apply i3);refine⟨_,au.x (hsa) (sd zF),?_⟩;apply hN;clear hN N)));try clear zF)
     exact eH (.inl rfl) (vs:=[.bool true]) (sd @g8) rfl
   |some q=>
    obtain⟨p,t⟩:=q;obtain⟨f1,f2,f3,f4⟩:=M8 hA.1 hf;rw[hf]at S9 Vc;have NT:au Tryz.prog 10 [.agg (aK s),.agg [.sl ((dx s es es.length).map ad)]] (.gG [.bool false,.int .i64 0]):=S9;have NS:au Tryz.prog 11 [.agg (aK s),.agg [.sl ((dx s es es.length).map ad)]] (.gG [.agg [.int .i64 p.eV,.int .i64 p.eR,.int .i64 t],.int .i64 0]):=Vc;clear S9 Vc;have Xj:=MA (dx s es es.length) p (rR.2 hA.1) hA.1.pH ae;have UL:=Es s.ay hn hP.set (dx s es es.length) hA p f1 t f2;generalize iT s.ay (ej (dx s es es.length)) p t=bn at f4 UL;generalize ej (dx s es es.length) p=a at f3 Xj;generalize dx s es es.length=L at *;rw[aK]at NT NS hw;rw[ai]at UL;rw[ab]at Xj UL;have ju:decide ((0:Int)=3)=false:=rfl
    (have zF:=tw6 @e0 @e1 @e5 @hB @hd @ju;(repeat(first|((repeat(revert N;apply g7));refine wk zF ?_;repeat(apply g6;intro N hN))|((try apply i3);refine⟨_,au.x (NT) (sd zF),?_⟩;apply hN;clear hN N)|((try apply i3);refine⟨_,au.x (NS) (sd zF),?_⟩;apply hN;clear hN N)));try clear zF)
    refine .inr (ax _ _ _ _ _ (fun r σ1 hq=>?_) (kh.x mixed hw (QC (bP _ _ _) (by rw[<-aK];exact IY _ _) (by simp[bb,ah,aj,bP]) (aL _ _ _ _))));obtain⟨⟨qs,rfl,_,_⟩,rfl⟩:=hq;apply hN;clear hN N;have d4:decide (s.aQ<=bn)=true:=decide_eq_true f4
    by_cases ha:0<=a
    ·rw[decide_eq_true ha,show max a 0=a by omega]at Xj;have d3:decide (a=t)=false:=decide_eq_false fun h=>f3 h.symm
     (have zF:=tw8 @e0 @e1 @e5 @hB @hd @ju @d3 @d4;(repeat(first|((repeat(revert N;apply g7));refine wk zF ?_;repeat(apply g6;intro N hN))|((try apply i3);refine⟨_,au.x (Xj) (sd zF),?_⟩;apply hN;clear hN N)|((try apply i3);refine⟨_,au.x (UL) (sd zF),?_⟩;apply hN;clear hN N)));try clear zF)
     exact eH (.inl rfl) (vs:=[.bool true]) (by simp only[ir,jw,go_sem,↓reduceIte,Nat.reduceEqDiff,Nat.reduceAdd,Nat.reduceSub,Nat.reduceLeDiff,reduceCtorEq]<;>rfl) rfl
    ·rw[decide_eq_false ha]at Xj
     (have zF:=tw7 @e0 @e1 @e5 @hB @hd @ju @d4;(repeat(first|((repeat(revert N;apply g7));refine wk zF ?_;repeat(apply g6;intro N hN))|((try apply i3);refine⟨_,au.x (Xj) (sd zF),?_⟩;apply hN;clear hN N)|((try apply i3);refine⟨_,au.x (UL) (sd zF),?_⟩;apply hN;clear hN N)));try clear zF)
     exact eH (.inl rfl) (vs:=[.bool true]) (by simp only[ir,jw,go_sem,↓reduceIte,Nat.reduceEqDiff,Nat.reduceAdd,Nat.reduceSub,Nat.reduceLeDiff,reduceCtorEq]<;>rfl) rfl
 ·intro N hN
  by_cases hv:av=1
  ·subst hv;(try((repeat(revert N;apply g7));refine wk @g8 ?_;repeat(apply g6;intro N hN)));refine .inr (ax _ _ _ _ _ (fun r σ1 hq=>?_) (mg.x mixed (Mp code hc mJ)));obtain⟨⟨s,hH,hO,rfl⟩,rfl⟩:=hq;apply hN;clear hN N;rw[aK];(try((repeat(revert N;apply g7));refine wk @g8 ?_;repeat(apply g6;intro N hN)))
   exact⟨sd @g8,sd @g8,sd @g8,aI,fun x hx=>(by
    have h8:=cR hx
    simp only[go_sem,↓reduceIte,Nat.reduceEqDiff,Nat.reduceAdd,Nat.reduceSub,Nat.reduceLeDiff,reduceCtorEq,h8]),s,⟨hH,hO⟩,by rw[aK];simp only[go_sem,↓reduceIte,Nat.reduceEqDiff,Nat.reduceAdd,Nat.reduceSub,Nat.reduceLeDiff,reduceCtorEq]<;>rfl⟩
  ·have hd:=decide_eq_false hv;(try((repeat(revert N;apply g7));refine wk @hd ?_;repeat(apply g6;intro N hN)))
   exact⟨sd @g8,sd @g8,sd @g8,aI,fun x hx=>(by
    have h8:=cR hx
    simp only[go_sem,↓reduceIte,Nat.reduceEqDiff,Nat.reduceAdd,Nat.reduceSub,Nat.reduceLeDiff,reduceCtorEq,h8]),s0,⟨hH0,hO0⟩,by rw[aK];simp only[go_sem,↓reduceIte,Nat.reduceEqDiff,Nat.reduceAdd,Nat.reduceSub,Nat.reduceLeDiff,reduceCtorEq]<;>rfl⟩
end V

namespace V
open Go.RowKit
theorem FR:yK 59:=fun bs hb iy X A ha σ h hX=>ax _ _ _ _ _ (fun r σ' hq=>by
 obtain⟨og,o,qB,G,T2,rows,rb,rn,rs,rfl,⟨l0,l1,l2,l3,l4⟩,_,_,_,mu,hL,go,hT,hX',hE,⟨v0,v1,v2,v3⟩,gs,⟨w0,w1⟩,hs,hK⟩:=hq;have hg:=kD rb rn;have ht:=jz rb rn;rw[i6]at hT
 exact⟨⟨iW,.own og 0 G,.own o 0 T2,G,T2,qB,⟨⟨0,0⟩,0⟩,2,rfl,.inr ⟨ae,og,(iv rb rn).1,rfl,hL,mu,oR rb ae rn ae,v0,v1⟩,.inr ⟨ae,o,rows,rfl,hX'.len.trans (by rw[i6];exact hT),go,hX'.Zw,hE,v2,v3⟩,ae,ae,ae,ae,gs,w0,w1⟩,hs.mono ae,hK⟩) (xF bs hb iy X A ha σ h hX)
end V

section
open Go.ChangeShapes Go.WideShapes Go.ChangeAt Go.RowKit Go.Deep
section
variable {H:Type} {enc:TypeId×Value->H} {P:Program} {w:World}
theorem pd.Y9 {α:Type} {rep:World->List Nat->List Value->α->Prop} {sz:Nat} {w:World} {b o len cap:Nat} (qK:Nat->List Value) (fs:Nat->List Nat) (ds:Nat->α) (hc:len<=cap) (hm:cap<=maxLen)
  (hl:∀i,i<len->(qK i).length=sz) (hr:∀i,i<len->rep w (fs i) (qK i) (ds i)) (qb:∀i,i<len->∀j u,(qK i)[j]? =some u->w.cell? ⟨b,o+(i*sz+j),none⟩=some u):
  pd rep sz w ([b]++((List.range len).map fs).flatten) (.slice (some ⟨b,o,none⟩) len cap) ((List.range len).map ds):=by
 refine⟨(List.range len).map qK,(List.range len).map fs,[b],rfl,⟨some ⟨b,o,none⟩,cap,by simp,by simpa using hc,hm,.inr ⟨b,o,rfl,rfl,fun j u hj=>?_⟩⟩,by simp,by simp,fun i cs f d h1 h2 h3=>?_⟩
 ·have hlen:∀cs∈(List.range len).map qK,cs.length=sz:=fun cs eD=>by
   obtain⟨i,hi,rfl⟩:=List.mem_map.1 eD;exact hl i (List.mem_range.1 hi)
  have iL:=(List.getElem?_eq_some_iff.1 hj).1
  have GH:((List.range len).map qK).flatten.length=len*sz:=by
   rw[List.length_flatten,List.map_map]
   have:∀(l:List Nat),(∀i∈l,i<len)->(l.map (List.length∘qK)).sum=l.length*sz:=by
    intro l
    induction l with
    |nil=>intro _;simp
    |cons a l ih=>intro h;rw[List.map_cons,List.sum_cons,ih fun i hi=>h i (List.mem_cons_of_mem _ hi)];simp only[Function.comp,hl a (h a (by simp)),List.length_cons,Nat.add_mul];omega
   rw[this _ fun i hi=>List.mem_range.1 hi,List.length_range]
  rw[GH]at iL
  have HN:0<sz:=by
   rcases Nat.eq_zero_or_pos sz with h|h
   ·subst h;simp at iL
   ·exact h
  have hi:j / sz<len:=(Nat.div_lt_iff_lt_mul HN).2 iL;have HK:j % sz<sz:=Nat.mod_lt _ HN;have QV:j=(j / sz)*sz+j % sz:=by rw[Nat.mul_comm];exact(Nat.div_add_mod j sz).symm
  rw[QV,xt hlen (i:=j / sz) (cs:=qK (j / sz)) (by simp[hi]) HK]at hj;rw[QV];have:=qb (j / sz) hi (j % sz) u hj;rw[<-QV]at this ⊢;exact this
 ·have hi:i<len:=by
   have:=(List.getElem?_eq_some_iff.1 h1).1
   simpa using this
  simp[hi]at h1 h2 h3;subst h1 h2 h3;exact⟨hr i hi,hl i hi⟩
theorem lY (b o k:Nat):(⟨b,o,none⟩:Addr).add k=⟨b,o+k,none⟩:=by
 unfold Addr.add;split
 ·rename_i h;subst h;rfl
 ·rfl
theorem LN {α:Type} {rep:World->List Nat->List Value->α->Prop} {Q:α->Prop} {t e:TypeId} {sz fuel:Nat} {cs:List Value} {x:DataW H×List MemPlace} (ht:P.underlying t=some (.slice e)) (hC:P.cellsOf e=sz) (HN:0<sz)
  (h:DataW.trod enc P w 0 (fun _=>true) true fuel t cs=some x) (hel:∀n uD y,uD.length=sz->DataW.trod enc P w 0 (fun _=>true) true n e uD=some y->∃f d,lX f 0 w.heap.size/\rep w f uD d/\Q d):
  ∃A n c f xs,cs=[.slice A n c]/\lX f 0 w.heap.size/\pd rep sz w f (.slice A n c) xs/\∀d∈xs,Q d:=by
 rcases open_slice ht h with⟨rfl,_⟩|⟨a,len,cap,m,n,D,Pl,rfl,_,hl,hm,GI,_,hi⟩
 ·exact⟨none,0,0,[],[],rfl,lX.nil _ _,pd.nil _ _ _,fun d h=>by cases h⟩
 rw[hC]at hi;simp only[if_true]at GI
 by_cases h0:len=0
 ·subst h0;exact⟨some a,0,cap,[],[],rfl,lX.nil _ _,⟨[],[],[],rfl,⟨some a,cap,rfl,Nat.zero_le _,hm,.inl ⟨rfl,rfl⟩⟩,rfl,rfl,fun i cs f d hc=>by simp at hc⟩,fun d h=>by cases h⟩
 obtain⟨b,o,sp⟩:=a
 have cell0:∃v,w.cell? ⟨b,o,sp⟩=some v:=by
  obtain⟨uD,hc,_⟩:=hi 0 (by omega);obtain⟨_,mJ,qb⟩:=World.cells?_some hc;refine⟨uD[0]'(by omega),?_⟩;have:=qb 0 HN;rw[V.i5 (by omega)]at this
  simpa[Addr.add]using this
 obtain⟨v0,wi⟩:=cell0;have hb:b<w.heap.size:=World.block_lt_of_cell? w _ wi
 have hsp:sp=none:=by
  unfold World.cell? at wi
  split at wi
  ·split at wi
   ·cases wi
   ·rename_i h;simpa using h
  ·cases wi
 subst hsp
 have key:∀i,i<len->∃uD f d,uD.length=sz/\lX f 0 w.heap.size/\rep w f uD d/\Q d/\∀j u,uD[j]? =some u->w.cell? ⟨b,o+(i*sz+j),none⟩=some u:=fun i sO=>by
  obtain⟨uD,hc,htr⟩:=hi i (by omega);obtain⟨_,mJ,qb⟩:=World.cells?_some hc;obtain⟨f,d,h1,h2,h3⟩:=hel n uD _ mJ htr;refine⟨uD,f,d,mJ,h1,h2,h3,fun j u hj=>?_⟩;have iL:=(List.getElem?_eq_some_iff.1 hj).1;have:=qb j (by omega);rw[hj]at this;rw[<-this,Go.Deep.add_add,lY]
 have:Nonempty α:=by
  obtain⟨_,_,d,_⟩:=key 0 (by omega);exact⟨d⟩
 let cf:Nat->List Value:=fun i=>if hi:i<len then(key i hi).choose else[]
 let ff:Nat->List Nat:=fun i=>if hi:i<len then(key i hi).choose_spec.choose else[]
 let df:Nat->α:=fun i=>if hi:i<len then(key i hi).choose_spec.choose_spec.choose else Classical.choice this
 have fy:∀i,i<len->(cf i).length=sz/\lX (ff i) 0 w.heap.size/\rep w (ff i) (cf i) (df i)/\Q (df i)/\∀j u,(cf i)[j]? =some u->w.cell? ⟨b,o+(i*sz+j),none⟩=some u:=fun i hi=>by
  have:=(key i hi).choose_spec.choose_spec.choose_spec;simp only[cf,ff,df,dif_pos hi];exact this
 refine⟨some ⟨b,o,none⟩,len,cap,_,(List.range len).map df,rfl,?_,pd.Y9 cf ff df hl hm (fun i hi=>(fy i hi).1) (fun i hi=>(fy i hi).2.2.1) (fun i hi=>(fy i hi).2.2.2.2),fun d hd=>?_⟩
 ·intro x hx
  rcases List.mem_append.1 hx with hx|hx
  ·simp at hx;subst hx;exact⟨Nat.zero_le _,hb⟩
  ·obtain⟨l,Ek,hxl⟩:=List.mem_flatten.1 hx;obtain⟨i,hi,rfl⟩:=List.mem_map.1 Ek;exact(fy i (List.mem_range.1 hi)).2.1 x hxl
 ·obtain⟨i,hi,rfl⟩:=List.mem_map.1 hd;exact(fy i (List.mem_range.1 hi)).2.2.2.1
end
section
variable {H:Type} {enc:TypeId×Value->H} {w:World} {fuel:Nat} {cs:List Value} {x:DataW H×List MemPlace}
abbrev TT (enc:TypeId×Value->H) (w:World) (fuel t:Nat) (cs:List Value) (x:DataW H×List MemPlace):Prop:=DataW.trod enc Tryz.prog w 0 (fun _=>true) true fuel t cs=some x
end
end

section
open Go.ChangeShapes Go.WideShapes Go.ChangeAt Go.RowKit V
def yN:=Flat (fun b:Int=>[Value.int .u8 b])
theorem Et {P:Program} {w:World} {D:Nat->Prop} {f:List Nat} {v:Value} {xs:List Int} (h:pd yN 1 w f v xs) (hD:∀b∈f,D b):lH P w D (.sl (xs.map iq)) v:=
 OZ h hD (fun _ _=>rfl) (fun x _ a ha=>by simp[iq]at ha;rcases ha with rfl<;>rfl) fun x _ f' cs hr hf=>by
  obtain⟨_,rfl⟩:=hr;intro j a ha
  match j,ha with
  |0,ha=>simp[iq]at ha;subst ha;exact⟨_,rfl,.int _ _⟩
  |j+1,ha=>simp[iq]at ha
theorem Jw {H:Type} {enc:TypeId×Value->H} {w:World} {fuel:Nat} {cs:List Value} {x:DataW H×List MemPlace} (h:TT enc w fuel 22 cs x):∃A n c f xs,cs=[.slice A n c]/\lX f 0 w.heap.size/\pd yN 1 w f (.slice A n c) xs/\∀b∈xs,0<=b/\b<=255:=
 LN (rep:=yN) (Q:=fun b=>0<=b/\b<=255) Tryz.underlying22 (sz:=1) V.g9 (by omega) h fun n uD y hl hy=>by
  obtain⟨b,rfl,_,hw⟩:=DataW.trod_int Tryz.underlying5 hy;exact⟨[],b,lX.nil _ _,⟨rfl,rfl⟩,by simpa[Lit.wf,IntKind.min,IntKind.max,IntKind.signed,IntKind.bits]using hw⟩
theorem Zk:ownKnob Tryz.prog.godebug=none:=by kernel_rfl
theorem Od:laidOutB Tryz.prog=true:=by kernel_rfl
theorem ER:yK 59:=FR
theorem M6:jA (AM 0 1 tE sT sN):=⟨⟨_,Uj 0 1 tE sT sN⟩,_,Uk (by decide) tE sT sN⟩
theorem LO (os:Os) (started:os.Started) (H:Type) (enc:TypeId×Value->H):
  ReturnsInHanded {} Tryz.checked os 3 .any (fun w args=>(Rows.fnTightSpec.pre enc Tryz.prog Tryz.f3 [] false w args/\laidMetH Tryz.prog Rows.fnTightRow.laid w)/\sizedMet enc Tryz.prog Tryz.f3 (OpenSpec.ofChange Rows.fnTightSpec) false w args) (Rows.fnTightSpec.post enc Tryz.prog Tryz.f3 false true false false):=by
 refine returnsInHanded_of_change_and (C:=Tryz.checked) (X:=fun w _=>laidMetH Tryz.prog Rows.fnTightRow.laid w) (fun _ _ _ hh h=>h.of_heap hh) Zk started V.g9 Tryz.func3
  (ChangeSpec.witness_shaped (enc:=enc) (C:=Tryz.checked) (os:=os) (X:=fun w _=>laidMetH Tryz.prog Rows.fnTightRow.laid w) false (World.laidAll Tryz.prog os Rows.fnTightRow.laid) #[.slice none 0 0,.slice none 0 0] 8 (World.laidAll_os _ _ _)
   (World.shaped_of_ZipB V.g9 V.g9) V.g9 V.g9 V.g9
   (by rw[MakeChecks.laidMetH_plain _ _ _ V.g9];exact laidMet_laidAll _ V.g9 V.g9)) ?_
 intro W base args ds gs before Ta hW hcnd _ hL _;have FA:∀(j:Nat) t v,Tryz.f3.params[j]? =some t->args[j]? =some v->Value.okWide Tryz.prog W .any base t v:=Ta;have hW':=hW;obtain⟨p,q,Z2,hV0,rfl,Je,uk⟩:=hW;have hA:DataW.TrodAll enc Tryz.prog W 0 (fun _=>true) true Tryz.f3.params.toList args.toList ds p:=Z2;have hV:DataW.TrodVars enc Tryz.prog W (fun _=>true) ["loop.example/g01081/impl.errTerminal", "loop.example/g01081/impl.errNoSpace"] gs q:=hV0;rw[Tryz.params3]at hA FA;obtain⟨v0,vs0,d0,ds0,p0,q0,qa,rfl,rfl,h0,r0⟩:=trodAll_cons hA;obtain⟨v1,vs1,d1,ds1,p1,q1,rfl,rfl,rfl,h1,r1⟩:=trodAll_cons r0;obtain⟨rfl,rfl,rfl⟩:=trodAll_nil r1;obtain rfl:args= #[v0,v1]:=by cases args;simp_all
 rw[MakeChecks.laidMetH_plain _ _ _ V.g9]at hL;obtain⟨a0,a1,wi,tG,hT,hN⟩:=Lg hL
 have vr:∀{X:World},X.var? Tryz.prog "loop.example/g01081/impl.errTerminal" =some #[.iface tE (.pointer (some a0))]->X.var? Tryz.prog "loop.example/g01081/impl.errNoSpace" =some #[.iface tE (.pointer (some a1))]->∀sp:Nat->Bool,
   DataW.TrodVars enc Tryz.prog X sp ["loop.example/g01081/impl.errTerminal", "loop.example/g01081/impl.errNoSpace"] [tok enc (.iface tE (.pointer (some a0))),tok enc (.iface tE (.pointer (some a1)))] [.cell gT 0,.cell gN 0]:=
  fun x0 x1 sp=>vars_read2 enc Nl SJ Tryz.underlying135 x0 trivial Nk SI Tryz.underlying135 x1 trivial sp
 obtain⟨rfl,rfl⟩:=hV.unique (vr wi tG _);obtain⟨A0,n0,c0,rfl⟩:=okWide_slice Tryz.underlying22 (FA 0 22 v0 rfl rfl);obtain⟨A1,n1,c1,rfl⟩:=okWide_slice Tryz.underlying22 (FA 1 22 v1 rfl rfl);have k0:=h0;have k1:=h1;have lt0:∀x∈p0,x.block<W.heap.size:=by obtain⟨m,hm⟩:=k0;exact DataW.trod_lt m _ _ _ hm
 have Xo:∀x∈p1,x.block<W.heap.size:=by obtain⟨m,hm⟩:=k1;exact DataW.trod_lt m _ _ _ hm
 obtain⟨f0,xs,w0,s0,b0⟩:∃f,∃d:List Int,lX f 0 W.heap.size/\pd yN 1 W f (.slice A0 n0 c0) d/\∀b∈d,0<=b/\b<=255:=by
  obtain⟨fuel,hf⟩:=h0;obtain⟨A,n,c,f,xs,e,w,z,hb⟩:=Jw hf;simp[Value.cells]at e;obtain⟨rfl,rfl,rfl⟩:=e;exact⟨f,xs,w,z,hb⟩
 obtain⟨f1,ys,w1,s1,b1⟩:∃f,∃d:List Int,lX f 0 W.heap.size/\pd yN 1 W f (.slice A1 n1 c1) d/\∀b∈d,0<=b/\b<=255:=by
  obtain⟨fuel,hf⟩:=h1;obtain⟨A,n,c,f,xs,e,w,z,hb⟩:=Jw hf;simp[Value.cells]at e;obtain⟨rfl,rfl,rfl⟩:=e;exact⟨f,xs,w,z,hb⟩
 clear Z2 hV0 Ta
 have jv:gI Tryz.prog W (fun b=>b<W.heap.size) (fun _=>none) [.sl (xs.map iq),.sl (ys.map iq)] #[.slice A0 n0 c0,.slice A1 n1 c1]:=by
  have h:=oN (Et s0 (fun b hb=>(w0 b hb).2)) (oN (Et s1 (fun b hb=>(w1 b hb).2)) (⟨rfl,fun j b hj=>by cases j<;>cases hj⟩:gI Tryz.prog W (fun b=>b<W.heap.size) (fun _=>none) [] #[]))
  simpa using h
 have Yc:=Rj (x:=0) (y:=1) (t:=tE) (s:=sT) (u:=sN) mixed (by decide) (Oe ER xs ys b0 b1 ⟨AM 0 1 tE sT sN,1⟩ M6 V.i4) hT hN jv;clear s0 s1 w0 w1 jv;refine(Yc.mono fun e W' ⟨he,bel⟩=>?_);subst he;exact⟨_,rfl,_,_,_,[],_,_,hW',trodAll_mk1 (shut_bool Tryz.underlying4 _),(trodAll_cons_mk (Below.trod Od V.g9 (of_decide_eq_true V.g9) k0 bel lt0) (trodAll_cons_mk (Below.trod Od V.g9 (of_decide_eq_true V.g9) k1 bel Xo) trodAll_mk0)),vr (V.var?_below Nl wi bel) (V.var?_below Nk tG bel) _,bel.frame _,fun h=>by cases h⟩
end
end Go.Proofs.YtoodopepphhpoaaGreatDoor
