/- The next tile of a crystal, by a schedule; what ends it is an error. -/
import Derived.Test.YtalkncaokeaifaaGreatDoorWBB
import Derived.Test.YtalkncaokeaifaaGreatDoorWBE
import Derived.WalkKit
import Derived.LaidEql
import Derived.Stop.Asserts
import Derived.RowKitTokens
import Derived.Test.YtalkncaokeaifaaGreatDoorWBC
import Derived.Test.YtalkncaokeaifaaGreatDoorWBD
import Derived.RangeFuncBox
import Derived.RangeFuncWrites
import Derived.Maps.AppendAt
import Derived.Test.YtalkncaokeaifaaGreatDoorChecked
import Derived.ProofKit
import Derived.Deep.Slices
import Derived.ChangeSame
import Derived.Test.YtalkncaokeaifaaGreatDoorRows
import Derived.OpenShut
import Derived.ShutString
import Derived.ChangeOld
import Derived.Below
import Derived.Lay
import Derived.Handed
import Derived.MakeChecks
set_option linter.unusedVariables false
set_option linter.unusedSimpArgs false
set_option maxRecDepth 100000
set_option maxHeartbeats 16000000
namespace Go.Proofs.YtalkncaokeaifaaGreatDoor.V
open Go.RowKit
attribute [local irreducible] dH wpOps eB Call
attribute [local go_sem] ax eo dS ez ev cZ upd bD K.av bR AV.cells AV.cell rowOf rowsOf part ld rowAt eL bz bx cW dj eO bf cC dw er ea cR dq cw cu da db bp aI bZ bj ck cj dn dr dp bW br cz dm bh ar cq bH eM aT bL bq aH cU aQ cX AV.undef aW bd de di cY c6 bJ dv dy bE du dt cm cr List.getD_cons_zero List.getD_cons_succ List.getD_nil List.all_cons List.all_nil Bool.and_true Bool.true_and Bool.and_self Bool.not_true Bool.not_false Option.map_some Option.map_none Option.bind_some Option.bind_none List.length_cons List.length_nil List.take_succ_cons List.take_zero List.take_nil List.drop_succ_cons List.drop_zero List.drop_nil List.head?_cons List.map_cons List.map_nil List.getElem?_cons_zero List.getElem?_cons_succ List.cons_append List.nil_append List.append_nil List.length_map List.set_cons_zero List.set_cons_succ Nat.reduceMul eq_self Int.toNat_natCast Int.natCast_nonneg and_self true_and and_true decide_true decide_false Bool.false_eq_true Nat.zero_add Nat.add_zero List.contains_cons List.contains_nil Bool.or_false Bool.false_or beq_self_eq_true Nat.reduceBEq ne_eq not_true_eq_false not_false_eq_true Id.mk.injEq false_and and_false Nat.reduceLT Int.reduceLE Int.reduceLT Int.reduceToNat Int.reduceNeg Int.reduceAdd Nat.le_refl List.length_append beq_true beq_false Bool.not_eq_eq_eq_not or_false false_or dX ad ae aP aJ bt bI aD aS aA aL bU aZ
theorem VK (sch:List Int) (hs:∀x∈sch,0<=x/\x<=1000) (nz:sch.length<=200) (n d:Nat) (hn:0<n):az Tryz.prog 107 [.int .i64 (n:Int),.int .i64 (d:Int),.fe [.sl (sch.map ah)]] (.int .i64 (uy sch d n:Int)):=by
 refine az.body fC rfl fun fb n0=>?_
 clear fb
 have fJ:(sch.map ah).length=sch.length:=by simp
 by_cases Kq:sch.length=0
 ·have hz:decide ((sch.length:Int)=0)=true:=decide_eq_true ab
  (try((repeat(revert hN;revert N;apply Pn.out));refine wk (tw @fJ @hz) ?_;(repeat(refine Pn.mk ?_;intro N hN))))
  exact e7 (b:=0) (.inl rfl) (sd @Nat.zero_add) (by rw[uy,if_pos Kq];rfl)
 ·have hz:decide ((sch.length:Int)=0)=false:=decide_eq_false ab
  have Yz:((sch.length:Int)=0)=False:=eq_false ab
  have XL:((n:Int)=0)=False:=eq_false ab
  have Mp:=xJ d sch.length
  have QZ:d % sch.length<sch.length:=Nat.mod_lt _ ab
  have hdi:((d % sch.length:Nat):Int)<(sch.length:Int):=ab
  have Kb:=OD QZ
  have UA:=(hs (sch.getD (d % sch.length) 0) (by rw[List.getD_eq_getElem?_getD,List.getElem?_eq_getElem QZ];exact List.getElem_mem QZ)).1
  have SI:(sch.getD (d % sch.length) 0).tmod (n:Int)=(uy sch d n:Int):=by
   rw[uy,if_neg Kq]
   have h9:=xJ (sch.getD (d % sch.length) 0).toNat n
   rwa [Int.toNat_of_nonneg UA]at h9
  generalize sch.getD (d % sch.length) 0=z at *
  generalize d % sch.length=dd at *
  (try((repeat(revert hN;revert N;apply Pn.out));refine wk (tw @fJ (tw @hz (tw @Yz (tw @XL (tw @Mp (tw @hdi (tw @Kb @SI))))))) ?_;(repeat(refine Pn.mk ?_;intro N hN))))
  exact e7 (.inl rfl) (sd @SI) rfl
def fB (g:Rows):Prop:=(∃b,g (oG 0)=some ⟨b,1,[[.err 0 tE sT]]⟩)/\∃b,g (oG 1)=some ⟨b,1,[[.err 1 tE sN]]⟩
theorem fB.frame {g g':Rows} (h:fB g) {n:Nat} (hn:1<=n) (hf:∀x:Id,x.cV<n->x.site=999000000∨x.site=999000001->g' x=g x):fB g':=by
 obtain⟨⟨b,h1⟩,c,h2⟩:=h
 exact⟨⟨b,(hf (oG 0) hn (.inl rfl)).trans h1⟩,c,(hf (oG 1) hn (.inr rfl)).trans h2⟩
theorem iO (k:Nat):(oG k).cV=0:=rfl
def S8 (σ:au) (c T O:Id) (s:aw) (K:List aa) (sch:List Int) (es:List aa) (r:AV) (σ':au):Prop:=
 σ.next<=σ'.next/\(∀x:Id,x.cV<σ.next->x≠T->x≠O->σ'.get x=σ.get x)/\
 ((iG (iU s K) (ei (iU s K) es es.length)=[]/\r=.fN [.agg [.int .i64 0,.int .i64 0,.int .i64 0],.err 0 tE sT]/\nD σ'.get σ'.next c T O s (K++es))∨(iG (iU s K) (ei (iU s K) es es.length)≠[]/\500<=(ei (iU s K) es es.length).length/\r=.fN [.agg [.int .i64 0,.int .i64 0,.int .i64 0],.err 1 tE sN])∨(iG (iU s K) (ei (iU s K) es es.length)≠[]/\(ei (iU s K) es es.length).length<500/\r=.fN [.agg (ai (cP (iG (iU s K) (ei (iU s K) es es.length)) (uy sch es.length (iG (iU s K) (ei (iU s K) es es.length)).length))),.iF]/\nD σ'.get σ'.next c T O s (K++(es++[cP (iG (iU s K) (ei (iU s K) es es.length)) (uy sch es.length (iG (iU s K) (ei (iU s K) es es.length)).length)]))))
theorem KU {σ:au} {c T O B:Id} {s:aw} {K:List aa} (hP:Je (iU s K)) {es:List aa} (hG:gM (iU s K) es) (h:nD σ.get σ.next c T O s (K++es)) (hE:fB σ.get) (pn:1<=σ.next)
  {sch:List Int} (hs:∀x∈sch,0<=x/\x<=1000) (nz:sch.length<=200) {bw:Bool} (hB:σ.get B=some ⟨bw,1,[[.sl (sch.map ah)]]⟩) (Wk:B.cV<σ.next):
  Call Tryz.prog 89 [.ptr c 0 0,.fn 107 [.ptr B 0 0],.int .i64 (es.length:Int)] σ (S8 σ c T O s K sch es):=by
 refine IW (cfM [(3,2),(5,2)]) rfl fun fb=>?_
 clear fb
 have hT:1<=s.bu:=(dZ hP.uz).1
 have iL:gO s.aq:=hP.set
 have hA:=pC hP (es:=es) es.length (Nat.le_refl _) hG
 have hA:gV s.aq (ei (iU s K) es es.length):=hA
 have QU:=xa hP (es:=es) es.length (Nat.le_refl _) hG
 rw[List.take_length]at QU
 have sJ:gP s (K++es)=gP s (ei (iU s K) es es.length):=by
  funext q
  unfold gP
  exact sF (fun t=>(QU.fit q t:eH s (K++es) q t=eH s (ei (iU s K) es es.length) q t)) _
 have lp:(ei (iU s K) es es.length).length=K.length+es.length:=oU (iU s K) es es.length (Nat.le_refl _)
 have J8:=hA.1.Dq
 have v1:=dF (i:=oG 0) (n:=σ.next) (by rw[iO];omega)
 have v2:=dF (i:=oG 1) (n:=σ.next) (by rw[iO];omega)
 have v3:=dF h.o.cv
 have v4:=dF h.o.tv
 have v5:=dF h.o.ov
 have v6:=dF Wk
 have fy:=h.o.row
 have Dv:=h.o.tl
 obtain⟨⟨b0,hE0⟩,b1,TG⟩:=hE
 (try((repeat(revert hN;revert N;apply Pn.out));refine wk (tw @fy @v3) ?_;(repeat(refine Pn.mk ?_;intro N hN))))
 refine .inr (bc _ _ _ _ _ (fun r σ1 hq=>?_) (Ry (c:=c) (T:=T) (O:=O) (l:=ei (iU s K) es es.length) ⟨sd (tw @fy @v3),by have:=h.o.cv;(try dsimp only);omega,by have:=h.o.ov;(try dsimp only);omega,by
  obtain⟨en,a1,a2⟩:=h.op
  rw[sJ]at a2
  exact⟨en,sd (tw @a1 @v5),a2.frame cD fun x hx _=>by
   have h1:=dF hx
   simp only[go_sem, ↓reduceIte,Nat.reduceEqDiff,Nat.reduceAdd,Nat.reduceSub,Nat.reduceLeDiff,reduceCtorEq,h1]⟩⟩ hT iL hA))
 obtain⟨g1,x1⟩:=σ1
 obtain⟨hn,hf,hL⟩:=hq
 (try dsimp only at hn hf hL)
 have IE:nD g1 x1 c T O s (K++es):=h.frame ab fun x hx=>by
  have h1:=dF hx
  have h2:=hf x cD
  simp only[go_sem, ↓reduceIte,Nat.reduceEqDiff,Nat.reduceAdd,Nat.reduceSub,Nat.reduceLeDiff,reduceCtorEq,h1]at h2
  exact h2
 have k0:=hf (oG 0) (by rw[iO];(try dsimp only);omega)
 have k1:=hf (oG 1) (by rw[iO];(try dsimp only);omega)
 have kB:=hf B cD
 have kr:=hf ⟨89000000,σ.next⟩ cD
 simp only[go_sem, ↓reduceIte,Nat.reduceEqDiff,Nat.reduceAdd,Nat.reduceSub,Nat.reduceLeDiff,reduceCtorEq,v1,hE0]at k0
 simp only[go_sem, ↓reduceIte,Nat.reduceEqDiff,Nat.reduceAdd,Nat.reduceSub,Nat.reduceLeDiff,reduceCtorEq,v2,TG]at k1
 simp only[go_sem, ↓reduceIte,Nat.reduceEqDiff,Nat.reduceAdd,Nat.reduceSub,Nat.reduceLeDiff,reduceCtorEq,v6,hB]at kB
 simp only[go_sem, ↓reduceIte,Nat.reduceEqDiff,Nat.reduceAdd,Nat.reduceSub,Nat.reduceLeDiff,reduceCtorEq]at kr
 have y9:=IE.o.row
 have Rl:=IE.o.tl
 have w0:=dF (i:=oG 0) (n:=x1) (by rw[iO];omega)
 have w1:=dF (i:=oG 1) (n:=x1) (by rw[iO];omega)
 have w2:=dF (i:=(⟨89000000,σ.next⟩:Id)) (n:=x1) cD
 have w3:=dF IE.o.cv
 have w4:=dF IE.o.tv
 have w6:=dF (i:=B) (n:=x1) ab
 have u0:(oG 0=(⟨89000000,σ.next⟩:Id))=False:=eq_false fun e=>by have:=congrArg Id.cV e;rw[iO]at this;(try dsimp only at this);omega
 have u1:(oG 1=(⟨89000000,σ.next⟩:Id))=False:=eq_false fun e=>by have:=congrArg Id.cV e;rw[iO]at this;(try dsimp only at this);omega
 have base:∀x:Id,x.cV<σ.next->g1 x=σ.get x:=fun x hx=>by
  have h1:=dF hx
  have h2:=hf x cD
  simp only[go_sem, ↓reduceIte,Nat.reduceEqDiff,Nat.reduceAdd,Nat.reduceSub,Nat.reduceLeDiff,reduceCtorEq,h1]at h2
  exact h2
 refine hN _ _ ?_
 clear hN N
 have Kh:((K++es).map ai).length=(ei (iU s K) es es.length).length:=by rw[List.length_map,List.length_append,lp]
 rw[show Bn (eH s (ei (iU s K) es es.length)) s.aq.ay.length (mb (ei (iU s K) es es.length))=iG s (ei (iU s K) es es.length)from rfl]at hL
 have hob:=K5 iL hA
 have p0:(oG 0).site=999000000:=rfl
 have p1:(oG 1).site=999000001:=rfl
 rcases hL with⟨hO,rfl⟩|⟨u,rfl,gu,z1,z2,z3,z4⟩
 ·have IQ:decide (((0:Nat):Int)=0)=true:=rfl
  have sM:decide ((0:Int)=0)=true:=rfl
  (try((repeat(revert hN;revert N;apply Pn.out));refine wk (tw @k0 (tw @kr (tw @w0 (tw @u0 (tw @p0 (tw @IQ @sM)))))) ?_;(repeat(refine Pn.mk ?_;intro N hN))))
  refine xO ?_ ?_
  ·(try((repeat(revert hN;revert N;apply Pn.out));refine wk (tw @k0 (tw @kr (tw @w0 (tw @u0 @p0)))) ?_;(repeat(refine Pn.mk ?_;intro N hN))))
   exact eK (.inl rfl) (vs:=[.agg [.int .i64 0,.int .i64 0,.int .i64 0],.err 0 tE sT]) (sd @Nat.zero_add) ⟨cD,fun x hx _ _=>by
    have q1:=dF hx
    simp only[go_sem, ↓reduceIte,Nat.reduceEqDiff,Nat.reduceAdd,Nat.reduceSub,Nat.reduceLeDiff,reduceCtorEq,q1,base x hx],.inl ⟨hO,rfl,h.frame cD fun x hx=>by
     have q1:=dF hx
     simp only[go_sem, ↓reduceIte,Nat.reduceEqDiff,Nat.reduceAdd,Nat.reduceSub,Nat.reduceLeDiff,reduceCtorEq,q1,base x hx]⟩⟩
  ·(try((repeat(revert hN;revert N;apply Pn.out));refine wk (tw @k0 (tw @kr (tw @w0 (tw @u0 @p0)))) ?_;(repeat(refine Pn.mk ?_;intro N hN))))
   exact eK (.inl rfl) (vs:=[.agg [.int .i64 0,.int .i64 0,.int .i64 0],.err 0 tE sT]) (sd @Nat.zero_add) ⟨cD,fun x hx _ _=>by
    have q1:=dF hx
    simp only[go_sem, ↓reduceIte,Nat.reduceEqDiff,Nat.reduceAdd,Nat.reduceSub,Nat.reduceLeDiff,reduceCtorEq,q1,base x hx],.inl ⟨hO,rfl,h.frame cD fun x hx=>by
     have q1:=dF hx
     simp only[go_sem, ↓reduceIte,Nat.reduceEqDiff,Nat.reduceAdd,Nat.reduceSub,Nat.reduceLeDiff,reduceCtorEq,q1,base x hx]⟩⟩
 ·generalize hO:iG s (ei (iU s K) es es.length)=L at *
  have SF:decide ((L.length:Int)=0)=false:=decide_eq_false ab
  have gZ:L≠[]:=fun e=>by rw[e]at z3;simp at z3
  by_cases y7:500<=(ei (iU s K) es es.length).length
  ·have Nu:(500:Int)<=((ei (iU s K) es es.length).length:Int):=ab
   (try((repeat(revert hN;revert N;apply Pn.out));refine wk (tw @k1 (tw @kr (tw @w1 (tw @w2 (tw @u1 (tw @p1 (tw @SF (tw @y9 (tw @w3 (tw @Rl (tw @w4 (tw @Kh @Nu)))))))))))) ?_;(repeat(refine Pn.mk ?_;intro N hN))))
   refine xO ?_ ?_
   ·(try((repeat(revert hN;revert N;apply Pn.out));refine wk (tw @k1 (tw @kr (tw @w1 (tw @w2 (tw @u1 @p1))))) ?_;(repeat(refine Pn.mk ?_;intro N hN))))
    exact eK (.inl rfl) (vs:=[.agg [.int .i64 0,.int .i64 0,.int .i64 0],.err 1 tE sN]) (sd @Nat.zero_add) ⟨cD,fun x hx _ _=>by
     have q1:=dF hx
     simp only[go_sem, ↓reduceIte,Nat.reduceEqDiff,Nat.reduceAdd,Nat.reduceSub,Nat.reduceLeDiff,reduceCtorEq,q1,base x hx],.inr (.inl ⟨by rw[rQ,hO];exact gZ,y7,rfl⟩)⟩
   ·(try((repeat(revert hN;revert N;apply Pn.out));refine wk (tw @k1 (tw @kr (tw @w1 (tw @w2 (tw @u1 @p1))))) ?_;(repeat(refine Pn.mk ?_;intro N hN))))
    exact eK (.inl rfl) (vs:=[.agg [.int .i64 0,.int .i64 0,.int .i64 0],.err 1 tE sN]) (sd @Nat.zero_add) ⟨cD,fun x hx _ _=>by
     have q1:=dF hx
     simp only[go_sem, ↓reduceIte,Nat.reduceEqDiff,Nat.reduceAdd,Nat.reduceSub,Nat.reduceLeDiff,reduceCtorEq,q1,base x hx],.inr (.inl ⟨by rw[rQ,hO];exact gZ,y7,rfl⟩)⟩
  ·have Nu:decide ((500:Int)<=((ei (iU s K) es es.length).length:Int))=false:=decide_eq_false ab
   obtain⟨j,hj⟩:∃j,uy sch es.length L.length=j:=⟨_,rfl⟩
   have ja:j<L.length:=by rw[<-hj];exact pJ z3
   have mC:(j:Int)<(L.length:Int):=ab
   have Ri:=VK sch hs nz L.length es.length z3
   rw[hj]at Ri
   have tN:=jH ja
   have Mz:cP L j∈iG s (ei (iU s K) es es.length):=by rw[hO];exact gR ja
   obtain⟨x,hx⟩:∃x,cP L j=x:=⟨_,rfl⟩
   rw[hx]at tN Mz
   obtain⟨hxt,WQ⟩:=CX Mz
   have WR:zF x.bQ=true:=by
    unfold eH at WQ
    simp only[Bool.and_eq_true]at WQ
    exact WQ.1.1
   have HA:ew (K++es) x.bQ<0:=QU.no (JQ hA (fun _ h=>h) WQ)
   rw[ai]at tN
   have Ph:(L.map ai).length=L.length:=by simp
   (repeat(first|((repeat(revert hN;revert N;apply Pn.out));refine wk (tw @k1 (tw @kr (tw @kB (tw @w1 (tw @w2 (tw @w6 (tw @u1 (tw @p1 (tw @SF (tw @y9 (tw @w3 (tw @Rl (tw @w4 (tw @Kh (tw @Nu (tw @gu (tw @Ph (tw @mC @tN)))))))))))))))))) ?_;(repeat(refine Pn.mk ?_;intro N hN)))|((try apply Or.inl);refine⟨_,az.x (Ri) (sd (tw @k1 (tw @kr (tw @kB (tw @w1 (tw @w2 (tw @w6 (tw @u1 (tw @p1 (tw @SF (tw @y9 (tw @w3 (tw @Rl (tw @w4 (tw @Kh (tw @Nu (tw @gu (tw @Ph (tw @mC @tN))))))))))))))))))),?_⟩;refine hN _ _ ?_;clear hN N)))
   have hF:∀q,0<=gh (K++es) q->eA s.aq (gh (K++es) q)=true:=fun q h=>by
    have e:gh (K++es) q=gh (ei (iU s K) es es.length) q:=QU.at_ q
    rw[e]at h ⊢
    exact gO.O8 hA q h
   have WE:=fun(σ:au) (h:nD σ.get σ.next c T O s (K++es))=>Vn h iL hF x.bQ WR x.cK hxt HA
   rw[ao]at WE
   refine .inr (bc _ _ _ _ _ (fun r σ2 hq=>?_) (WE _ (IE.frame cD fun y hy=>by
    have q:=dF hy
    simp only[go_sem, ↓reduceIte,Nat.reduceEqDiff,Nat.reduceAdd,Nat.reduceSub,Nat.reduceLeDiff,reduceCtorEq,q])))
   obtain⟨g2,x2⟩:=σ2
   obtain⟨rfl,XA,n3,f3⟩:=hq
   (try dsimp only at XA n3 f3)
   have Ck:=h.o.tv
   have El:=h.o.ov
   have YX:=f3 ⟨89000000,σ.next⟩ cD (fun e=>by rw[<-e]at Ck;(try dsimp only at Ck);omega) (fun e=>by rw[<-e]at El;(try dsimp only at El);omega)
   have kx2:=f3 ⟨89006008,x1+1+1+1⟩ cD (fun e=>by rw[<-e]at Ck;(try dsimp only at Ck);omega) (fun e=>by rw[<-e]at El;(try dsimp only at El);omega)
   simp only[go_sem, ↓reduceIte,Nat.reduceEqDiff,Nat.reduceAdd,Nat.reduceSub,Nat.reduceLeDiff,reduceCtorEq,w2,kr]at YX
   simp only[go_sem, ↓reduceIte,Nat.reduceEqDiff,Nat.reduceAdd,Nat.reduceSub,Nat.reduceLeDiff,reduceCtorEq]at kx2
   refine hN _ _ ?_
   clear hN N
   (try((repeat(revert hN;revert N;apply Pn.out));refine wk (tw @YX @kx2) ?_;(repeat(refine Pn.mk ?_;intro N hN))))
   refine eK (.inl rfl) (vs:=[.agg [.int .i64 x.bQ.fu,.int .i64 x.bQ.eW,.int .i64 x.cK],.iF]) (sd @Nat.zero_add) ⟨cD,fun y hy Rt hyO=>?_,.inr (.inr ⟨by rw[rQ,hO];exact gZ,ab,by rw[rQ,hO,hj,hx];rfl,?_⟩)⟩
   ·have q1:=dF hy
    have q2:=f3 y cD Rt hyO
    have q3:=dF (i:=y) (n:=x1) ab
    simp only[go_sem, ↓reduceIte,Nat.reduceEqDiff,Nat.reduceAdd,Nat.reduceSub,Nat.reduceLeDiff,reduceCtorEq,q3]at q2
    simp only[go_sem, ↓reduceIte,Nat.reduceEqDiff,Nat.reduceAdd,Nat.reduceSub,Nat.reduceLeDiff,reduceCtorEq,q1]
    exact q2.trans (base y hy)
   ·rw[rQ,hO,hj,hx,<-List.append_assoc]
    have e6:∀y:Id,y.cV<σ.next->(y=(⟨89000000,σ.next⟩:Id))=False:=fun y hy=>eq_false fun e=>by rw[e]at hy;(try dsimp only at hy);omega
    have u6c:=e6 c h.o.cv
    have u6T:=e6 T Ck
    have u6O:=e6 O El
    obtain⟨en,a1,a2⟩:=XA.op
    refine⟨XA.o.three cD (sd @u6c) (sd @u6T) (sd @u6O),en,sd (tw @u6O @a1),a2.frame cD fun y hy ⟨k,r,hk⟩=>?_⟩
    have Yn:(y=(⟨89000000,σ.next⟩:Id))=False:=eq_false fun e=>by
     rw[e,YX]at hk
     simp at hk
    simp only[go_sem, ↓reduceIte,Nat.reduceEqDiff,Nat.reduceAdd,Nat.reduceSub,Nat.reduceLeDiff,reduceCtorEq,Yn]
end Go.Proofs.YtalkncaokeaifaaGreatDoor.V

namespace Go.Proofs.YtalkncaokeaifaaGreatDoor.V
open Go.RowKit Go.Extern.Stop Go.Stop Go.Extern
theorem CB (v:Value) (w:World):(Extern.ReflectliteType.typeOf #[.iface 313 v]).run Tryz.prog w=.ok (.iface 222 (.agg #[.pointer (some ⟨5,313,none⟩)])) w:=by kernel_rfl
def Al:Array Value->Sem Value:=Extern.ReflectliteType.method fun t=>do Extern.Rtype.noPackHeld "Comparable" t;pure (.bool (<-typeInfo t).comparable)
theorem rE (w:World):(Al #[.agg #[.pointer (some ⟨5,313,none⟩)]]).run Tryz.prog w=.ok (.bool true) w:=by kernel_rfl
theorem kD (v:Value) (w:World):(Go.method 456 222 v "Comparable").run Tryz.prog w=.ok (234,v) w:=by kernel_rfl
theorem KB:(Tryz.prog.info? 313).map (·.comparable)=some true:=by kernel_rfl
theorem KC:(Tryz.prog.info? 341).map (·.size)=some 1:=by kernel_rfl
theorem Vi (v:Value) (xT:TypeId) (w:World):(Instr.typeAssert (.iface 313 v) xT 224 true).run Tryz.prog w=.ok (.tuple #[.nilIface,.bool false]) w:=run_typeAssert_lacksB Tryz.underlying224 (by kernel_rfl) (by kernel_rfl) v xT w
theorem HR (v:Value) (xT:TypeId) (w:World):(Instr.typeAssert (.iface 313 v) xT 227 true).run Tryz.prog w=.ok (.tuple #[.nilIface,.bool false]) w:=run_typeAssert_lacksB Tryz.underlying227 (by kernel_rfl) (by kernel_rfl) v xT w
theorem EP (v:Value) (xT:TypeId) (w:World):(Instr.typeAssert (.iface 313 v) xT 229 true).run Tryz.prog w=.ok (.tuple #[.nilIface,.bool false]) w:=run_typeAssert_lacksB Tryz.underlying229 (by kernel_rfl) (by kernel_rfl) v xT w
theorem NX (a:Addr) (w:World):
  Calls Tryz.prog 90 #[.iface 313 (.pointer (some a)),.iface 313 (.pointer (some a))] w fun e w'=>e=.returned (.bool true)/\w'=w:=by
 obtain⟨i,hi,QX⟩:=Option.map_eq_some_iff.1 KB
 obtain⟨j,hj,hjs⟩:=Option.map_eq_some_iff.1 KC
 have h8:=@run_callFunc_extern Tryz.prog 110 _ Extern.ReflectliteType.typeOf Tryz.func110 (by kernel_rfl) (by kernel_rfl) (by kernel_rfl) (by kernel_rfl)
 have h32:=@run_callFunc_extern Tryz.prog 234 _ Al Tryz.func234 (by kernel_rfl) (by kernel_rfl) (by kernel_rfl) (by kernel_rfl)
 have tT:=CB
 have cT:=rE
 have mR:=kD
 have heq:=run_eql_iface_ptr_same (P:=Tryz.prog) w a Tryz.underlying148 Tryz.underlying313 hi QX hj
 go_enter Tryz.func90,Tryz.ntmps90
 go_wp2
 refine wp_loop_rounds 1 ?_
 rw[rounds_succ]
 go_wp2
 go_ret
 exact⟨rfl,rfl⟩
theorem Rx (b:Addr) (w:World):
  Calls Tryz.prog 90 #[.nilIface,.iface 313 (.pointer (some b))] w fun e w'=>e=.returned (.bool false)/\w'=w:=by
 have hn:=run_eql_iface_nil_left (P:=Tryz.prog) w 313 (.pointer (some b)) Tryz.underlying148
 go_enter Tryz.func90,Tryz.ntmps90
 go_wp2
 go_ret
 exact⟨rfl,rfl⟩
theorem KE (a b:Addr) (ca cb:Array Value) (ta tb:TypeId) (w:World) (gZ:a≠b) (ha:w.heap[a.block]? =some (.cells ca ta (0,0))) (hb:w.heap[b.block]? =some (.cells cb tb (0,0))):
  Calls Tryz.prog 90 #[.iface 313 (.pointer (some a)),.iface 313 (.pointer (some b))] w fun e w'=>e=.returned (.bool false)/\w'=w:=by
 obtain⟨i,hi,QX⟩:=Option.map_eq_some_iff.1 KB
 obtain⟨j,hj,hjs⟩:=Option.map_eq_some_iff.1 KC
 have h8:=@run_callFunc_extern Tryz.prog 110 _ Extern.ReflectliteType.typeOf Tryz.func110 (by kernel_rfl) (by kernel_rfl) (by kernel_rfl) (by kernel_rfl)
 have h32:=@run_callFunc_extern Tryz.prog 234 _ Al Tryz.func234 (by kernel_rfl) (by kernel_rfl) (by kernel_rfl) (by kernel_rfl)
 have tT:=CB
 have cT:=rE
 have mR:=kD
 have nE:=Vi
 have uE:=HR
 have vE:=EP
 have heq:=run_eql_iface_ptr_other (P:=Tryz.prog) w Tryz.underlying148 Tryz.underlying313 hi QX hj (by rw[hjs];decide) gZ ha hb
 go_enter Tryz.func90,Tryz.ntmps90
 go_wp2
 refine wp_loop_rounds 1 ?_
 rw[rounds_succ]
 go_wp2
 go_ret
 exact⟨rfl,rfl⟩
variable {σ:au}
theorem xK {w:World} {D:Nat->Prop} {ι:Names} {x y:AV} {vs:Array Value} (h:fE Tryz.prog w D ι [x,y] vs):∃u v,vs= #[u,v]/\dE Tryz.prog w D ι x u/\dE Tryz.prog w D ι y v:=by
 obtain⟨h1,h2⟩:=h
 obtain⟨u,e1,r1⟩:=h2 0 x rfl
 obtain⟨v,e2,r2⟩:=h2 1 y rfl
 refine⟨u,v,?_,r1,r2⟩
 apply Array.ext
 ·simpa using h1
 ·intro i hi hj
  have:i=0∨i=1:=by simp at hj;omega
  rcases this with rfl|rfl
  ·rw[Array.getElem?_eq_some_iff]at e1;obtain⟨_,e1⟩:=e1;simpa using e1
  ·rw[Array.getElem?_eq_some_iff]at e2;obtain⟨_,e2⟩:=e2;simpa using e2
theorem uA (g:Nat) (s:ByteArray):Call Tryz.prog 90 [.err g tE s,.err g tE s] σ fun r σ'=>r=.bool true/\σ'=σ:=by
 refine fh fun hs D ι w vs S U A=>?_
 obtain⟨u,v,rfl,r1,r2⟩:=xK A
 obtain⟨a,c,ty,rfl,d1,e1,_⟩:=pD r1
 obtain⟨b,c',Y4,rfl,_,e2,_⟩:=pD r2
 rw[e1]at e2
 simp only[Option.some.injEq,Value.iface.injEq,Value.pointer.injEq,true_and]at e2
 subst e2
 refine(NX a w).mono ?_
 rintro e w' ⟨rfl,rfl⟩
 exact⟨.bool true,σ.get,σ.next,D,ι,.bool true,rfl,⟨rfl,rfl⟩,.refl _ _ _ _,S,U,Nat.le_refl _,.eE _ _ (.bool _)⟩
theorem zX (g:Nat) (s:ByteArray):Call Tryz.prog 90 [.iF,.err g tE s] σ fun r σ'=>r=.bool false/\σ'=σ:=by
 refine fh fun hs D ι w vs S U A=>?_
 obtain⟨u,v,rfl,r1,r2⟩:=xK A
 rw[xi r1]
 obtain⟨b,c',Y4,rfl,_,e2,_⟩:=pD r2
 refine(Rx b w).mono ?_
 rintro e w' ⟨rfl,rfl⟩
 exact⟨.bool false,σ.get,σ.next,D,ι,.bool false,rfl,⟨rfl,rfl⟩,.refl _ _ _ _,S,U,Nat.le_refl _,.eE _ _ (.bool _)⟩
theorem Bw (x y:Nat) (s u:ByteArray) (gZ:s≠u):Call Tryz.prog 90 [.err x tE s,.err y tE u] σ fun r σ'=>r=.bool false/\σ'=σ:=by
 refine fh fun hs D ι w vs S U A=>?_
 obtain⟨u1,v,rfl,r1,r2⟩:=xK A
 obtain⟨a,c,ty,rfl,_,_,_,k1,k2⟩:=pD r1
 obtain⟨b,c',Y4,rfl,_,_,_,q1,q2⟩:=pD r2
 have rj:a≠b:=fun e=>by
  subst e
  rw[k2]at q2
  simp only[Option.some.injEq,Value.string.injEq]at q2
  exact gZ q2
 refine(KE a b c c' ty Y4 w rj k1 q1).mono ?_
 rintro e w' ⟨rfl,rfl⟩
 exact⟨.bool false,σ.get,σ.next,D,ι,.bool false,rfl,⟨rfl,rfl⟩,.refl _ _ _ _,S,U,Nat.le_refl _,.eE _ _ (.bool _)⟩
end Go.Proofs.YtalkncaokeaifaaGreatDoor.V

namespace Go.Proofs.YtalkncaokeaifaaGreatDoor.V
open Go.RowKit
attribute [local irreducible] dH wpOps eB Call
attribute [local go_sem] ax eo dS ez ev cZ upd bD K.av bR AV.cells AV.cell rowOf rowsOf part ld rowAt eL bz bx cW dj eO bf cC dw er ea cR dq cw cu da db bp aI bZ bj ck cj dn dr dp bW br cz dm bh ar cq bH eM aT bL bq aH cU aQ cX AV.undef aW bd de di cY c6 bJ dv dy bE du dt cm cr List.getD_cons_zero List.getD_cons_succ List.getD_nil List.all_cons List.all_nil Bool.and_true Bool.true_and Bool.and_self Bool.not_true Bool.not_false Option.map_some Option.map_none Option.bind_some Option.bind_none List.length_cons List.length_nil List.take_succ_cons List.take_zero List.take_nil List.drop_succ_cons List.drop_zero List.drop_nil List.head?_cons List.map_cons List.map_nil List.getElem?_cons_zero List.getElem?_cons_succ List.cons_append List.nil_append List.append_nil List.length_map List.set_cons_zero List.set_cons_succ Nat.reduceMul eq_self Int.toNat_natCast Int.natCast_nonneg and_self true_and and_true decide_true decide_false Bool.false_eq_true Nat.zero_add Nat.add_zero List.contains_cons List.contains_nil Bool.or_false Bool.false_or beq_self_eq_true Nat.reduceBEq ne_eq not_true_eq_false not_false_eq_true Id.mk.injEq false_and and_false Nat.reduceLT Int.reduceLE Int.reduceLT Int.reduceToNat Int.reduceNeg Int.reduceAdd Nat.le_refl List.length_append beq_true beq_false Bool.not_eq_eq_eq_not or_false false_or dX ad ae aP aJ bt bI aD aS aA aL bU aZ
theorem C8 (sch:List Int) (σ:au):Call Tryz.prog 88 [.sl (sch.map ah)] σ (fun r σ'=>∃B:Id,r=.fn 107 [.ptr B 0 0]/\σ'.get B=some ⟨true,1,[[.sl (sch.map ah)]]⟩/\σ.next<=B.cV/\B.cV<σ'.next/\∀x:Id,x.cV<σ.next->σ'.get x=σ.get x):=by
 refine eX fC rfl fun fb=>?_
 clear fb
 (try((repeat(revert hN;revert N;apply Pn.out));refine wk @Nat.zero_add ?_;(repeat(refine Pn.mk ?_;intro N hN))))
 exact eK (.inl rfl) (vs:=[.fn 107 [.ptr ⟨88000000,σ.next⟩ 0 0]]) (sd @Nat.zero_add) ⟨_,rfl,sd @Nat.zero_add,cD,cD,fun x hx=>by
  have h1:=dF hx
  simp only[go_sem, ↓reduceIte,Nat.reduceEqDiff,Nat.reduceAdd,Nat.reduceSub,Nat.reduceLeDiff,reduceCtorEq,h1]⟩
def Xc (σ:au) (c T O:Id) (s:aw) (sch:List Int) (steps:Nat) (r:AV) (σ':au):Prop:=
 σ.next<=σ'.next/\(∀x:Id,x.cV<σ.next->x≠T->x≠O->σ'.get x=σ.get x)/\
 ((pM s sch steps=none/\r=.fN [.bP,.bool false])∨∃(es:List aa) (v:AV),pM s sch steps=some es/\gM s es/\nD σ'.get σ'.next c T O s (s.dJ.ay++es)/\r=.fN [v,.bool true]/\DH 70008003 σ.next es v σ'.get σ'.next)
def O1 (σ:au) (c T O:Id) (s:aw) (K:List aa) (sch:List Int) (steps:Nat) (r:AV) (σ':au):Prop:=
 σ.next<=σ'.next/\(∀x:Id,x.cV<σ.next->x≠T->x≠O->σ'.get x=σ.get x)/\
 ((pM (iU s K) sch steps=none/\r=.fN [.bP,.bool false])∨∃(es:List aa) (v:AV),pM (iU s K) sch steps=some es/\gM (iU s K) es/\nD σ'.get σ'.next c T O s (K++es)/\r=.fN [v,.bool true]/\DH 70008003 σ.next es v σ'.get σ'.next)
theorem rh {s:aw} {sch:List Int} {steps f:Nat} {es:List aa} (h:(iG s (ei s es es.length)).length=0∨steps<=es.length):mM s sch steps f es=some es:=by
 cases f with
 |zero=>rfl
 |succ f=>
  rw[mM]
  by_cases h0:(iG s (ei s es es.length)).length=0
  ·rw[if_pos h0]
  ·rw[if_neg h0,if_pos ab]
theorem QI {σ:au} {c T O:Id} {s:aw} {K:List aa} (hP:Je (iU s K)) (h:nD σ.get σ.next c T O s K) (hE:fB σ.get) (Ck:1<=T.cV) (El:1<=O.cV)
  {sch:List Int} (hs:∀x∈sch,0<=x/\x<=1000) (nz:sch.length<=200) (steps:Nat) (ed:steps<=501):
  Call Tryz.prog 70 [.ptr c 0 0,.sl (sch.map ah),.int .i64 (steps:Int)] σ (O1 σ c T O s K sch steps):=by
 refine eX fC rfl fun fb=>?_
 clear fb
 have XQ:=h.o.tv
 have hO0:=h.o.ov
 (try((repeat(revert hN;revert N;apply Pn.out));refine wk @Nat.zero_add ?_;(repeat(refine Pn.mk ?_;intro N hN))))
 refine .inr (bc _ _ _ _ _ (fun r σ1 hq=>?_) (C8 sch _))
 obtain⟨g1,x1⟩:=σ1
 obtain⟨B,rfl,hB,ID,Wk,hf⟩:=hq
 (try dsimp only at hB ID Wk hf)
 refine hN _ _ ?_
 clear hN N
 (try((repeat(revert hN;revert N;apply Pn.out));refine wk @Nat.zero_add ?_;(repeat(refine Pn.mk ?_;intro N hN))))
 have base:∀x:Id,x.cV<σ.next->g1 x=σ.get x:=fun x hx=>hf x cD
 have TG:fB g1:=hE.frame (n:=1) (Nat.le_refl _) fun x hx _=>base x ab
 have IE:nD g1 x1 c T O s K:=h.frame (by(try dsimp only at ID);omega) base
 have Rg:1<=K.length:=hP.some
 have fin:∀(es:List aa) (v:AV) (g:Rows) (n:Nat),pM (iU s K) sch steps=some es->gM (iU s K) es->nD g n c T O s (K++es)->DH 70008003 x1 es v g n->(∀x:Id,x.cV<x1->x≠T->x≠O->g x=g1 x)->x1<=n->O1 σ c T O s K sch steps (.fN [v,.bool true]) ⟨g,n⟩:=fun es v g n h1 h2 h3 h4 h5 h6=>⟨by(try dsimp only at ID ⊢);omega,fun x hx hT hO=>(h5 x ab hT hO).trans (base x hx),.inr ⟨es,v,h1,h2,h3,rfl,by
  rcases h4 with h4|⟨u,k1,k2,k3,k4⟩
  ·exact .inl h4
  ·exact .inr ⟨u,k1,k2,ab,k4⟩⟩⟩
 refine dc (fun m env st=>∃(es:List aa) (f:Nat),m=f/\mM (iU s K) sch steps f es=pM (iU s K) sch steps/\gM (iU s K) es/\es.length<=steps/\f+es.length=501/\nD st.get st.next c T O s (K++es)/\DH 70008003 x1 es (env 9) st.get st.next/\(∀x:Id,x.cV<x1->x≠T->x≠O->st.get x=g1 x)/\x1<=st.next) 501 ⟨[],501,rfl,rfl,gM.nil (iU s K),Nat.zero_le _,rfl,by rw[List.append_nil];exact IE.frame cD fun x hx=>sd @Nat.zero_add,.inl ⟨rfl,sd @Nat.zero_add⟩,fun x hx _ _=>sd @Nat.zero_add,cD⟩ ?_
 rintro m env_b st_b ⟨es,f,rfl,hgro,hgood,hes,hfu,hC,hu,jz,hn⟩ fG
 have b0:=fG 0 (by kernel_rfl)
 have b1:=fG 1 (by kernel_rfl)
 have b2:=fG 2 (by kernel_rfl)
 have b8:=fG 8 (by kernel_rfl)
 simp only[go_sem, ↓reduceIte,Nat.reduceEqDiff,Nat.reduceAdd,Nat.reduceSub,Nat.reduceLeDiff,reduceCtorEq]at b0 b1 b2 b8
 clear fG
 have hA:=pC hP (es:=es) es.length (Nat.le_refl _) hgood
 have J8:=hA.1.Dq
 have lp:(ei (iU s K) es es.length).length=K.length+es.length:=oU (iU s K) es es.length (Nat.le_refl _)
 obtain⟨f,rfl⟩:∃f,m=f+1:=⟨m-1,ab⟩
 have Wl:fB st_b.get:=TG.frame (n:=1) (Nat.le_refl _) fun x hx _=>jz x ab (fun e=>by rw[e]at hx;omega) (fun e=>by rw[e]at hx;omega)
 have hBb:=(jz B Wk (fun e=>by rw[e]at ID;omega) (fun e=>by rw[e]at ID;omega)).trans hB
 rcases hu with⟨rfl,e9⟩|⟨u,e9,gu,u1,u2,u3,u4⟩
 ·by_cases hd:((0:Nat):Int)<(steps:Int)
  ·(try((repeat(revert hN;revert N;apply Pn.out));refine wk (tw @b0 (tw @b1 (tw @b2 (tw @b8 (tw @e9 @hd))))) ?_;(repeat(refine Pn.mk ?_;intro N hN))))
   refine .inr (bc _ _ _ _ _ (fun r σ2 hq=>?_) (KU (σ:=⟨st_b.get,st_b.next+1+1⟩) (c:=c) (T:=T) (O:=O) (B:=B) (es:=[]) hP hgood (hC.frame cD fun x hx=>rfl) Wl cD hs nz hBb cD))
   obtain⟨g2,x2⟩:=σ2
   obtain⟨n2,f2,hq⟩:=hq
   (try dsimp only at n2 f2 hq)
   refine hN _ _ ?_
   clear hN N
   have XE:fB g2:=Wl.frame (n:=1) (Nat.le_refl _) fun x hx _=>f2 x ab (fun e=>by rw[e]at hx;omega) (fun e=>by rw[e]at hx;omega)
   obtain⟨⟨b3,k0⟩,b4,k1⟩:=XE
   have w0:=dF (i:=oG 0) (n:=x2) (by rw[iO];omega)
   have w1:=dF (i:=oG 1) (n:=x2) (by rw[iO];omega)
   have p0:(oG 0).site=999000000:=rfl
   have p1:(oG 1).site=999000001:=rfl
   rcases hq with⟨hO,rfl,v7⟩|⟨hO,y7,rfl⟩|⟨hO,iq,rfl,v7⟩
   ·(try((repeat(revert hN;revert N;apply Pn.out));refine wk (tw @b0 (tw @b1 (tw @b2 (tw @b8 (tw @e9 (tw @k0 (tw @k1 (tw @w0 (tw @w1 (tw @p0 @p1)))))))))) ?_;(repeat(refine Pn.mk ?_;intro N hN))))
    refine .inr (bc _ _ _ _ _ (fun r σ3 hq=>?_) (uA 0 sT))
    obtain⟨rfl,rfl⟩:=hq
    refine hN _ _ ?_
    clear hN N
    (try((repeat(revert hN;revert N;apply Pn.out));refine wk (tw @b0 (tw @b1 (tw @b2 (tw @b8 (tw @e9 (tw @k0 (tw @k1 (tw @w0 (tw @w1 (tw @p0 @p1)))))))))) ?_;(repeat(refine Pn.mk ?_;intro N hN))))
    exact eK (.inl rfl) (vs:=[.bP,.bool true]) (sd @e9) (fin [] _ _ _ (by rw[<-hgro];exact rh (.inl (by rw[hO];rfl))) hgood (v7.frame cD fun x hx=>by
     have z1:=dF hx
     simp only[go_sem, ↓reduceIte,Nat.reduceEqDiff,Nat.reduceAdd,Nat.reduceSub,Nat.reduceLeDiff,reduceCtorEq,z1]) (.inl ⟨rfl,rfl⟩) (fun x hx hT hO=>by
     have z1:=dF (i:=x) (n:=x2) ab
     have z2:=f2 x cD hT hO
     have z3:=jz x hx hT hO
     simp only[go_sem, ↓reduceIte,Nat.reduceEqDiff,Nat.reduceAdd,Nat.reduceSub,Nat.reduceLeDiff,reduceCtorEq,z1]
     exact z2.trans z3) cD)
   ·(try((repeat(revert hN;revert N;apply Pn.out));refine wk (tw @b0 (tw @b1 (tw @b2 (tw @b8 (tw @e9 (tw @k0 (tw @k1 (tw @w0 (tw @w1 (tw @p0 @p1)))))))))) ?_;(repeat(refine Pn.mk ?_;intro N hN))))
    refine .inr (bc _ _ _ _ _ (fun r σ3 hq=>?_) (Bw 1 0 sN sT fun e=>sTN e.symm))
    obtain⟨rfl,rfl⟩:=hq
    refine hN _ _ ?_
    clear hN N
    (try((repeat(revert hN;revert N;apply Pn.out));refine wk (tw @b0 (tw @b1 (tw @b2 (tw @b8 (tw @e9 (tw @k0 (tw @k1 (tw @w0 (tw @w1 (tw @p0 @p1)))))))))) ?_;(repeat(refine Pn.mk ?_;intro N hN))))
    refine .inr (bc _ _ _ _ _ (fun r σ3 hq=>?_) (uA 1 sN))
    obtain⟨rfl,rfl⟩:=hq
    refine hN _ _ ?_
    clear hN N
    (try((repeat(revert hN;revert N;apply Pn.out));refine wk (tw @b0 (tw @b1 (tw @b2 (tw @b8 (tw @e9 (tw @k0 (tw @k1 (tw @w0 (tw @w1 (tw @p0 @p1)))))))))) ?_;(repeat(refine Pn.mk ?_;intro N hN))))
    exact eK (.inl rfl) (vs:=[.bP,.bool false]) (sd @Nat.zero_add) ⟨by(try dsimp only at ID ⊢);omega,fun x hx hT hO=>by
     have z1:=dF (i:=x) (n:=x2) ab
     have z2:=f2 x cD hT hO
     have z3:=jz x ab hT hO
     simp only[go_sem, ↓reduceIte,Nat.reduceEqDiff,Nat.reduceAdd,Nat.reduceSub,Nat.reduceLeDiff,reduceCtorEq,z1]
     exact z2.trans (z3.trans (base x hx)),.inl ⟨by rw[<-hgro,mM,if_neg (fun e=>hO (List.length_eq_zero_iff.1 e)),if_neg (by(try simp only[List.length_nil]at hd ⊢);omega),if_pos y7],rfl⟩⟩
   ·obtain⟨x,hx⟩:∃x,cP (iG (iU s K) (ei (iU s K) [] ([]:List aa).length)) (uy sch ([]:List aa).length (iG (iU s K) (ei (iU s K) [] ([]:List aa).length)).length)=x:=⟨_,rfl⟩
    rw[hx]at v7 ⊢
    have Mz:x∈iG (iU s K) (ei (iU s K) [] ([]:List aa).length):=by rw[<-hx];exact gR (pJ (List.length_pos_iff.2 hO))
    have AF:=hgood.add Mz iq
    have Kd:mM (iU s K) sch steps f (([]:List aa)++[x])=pM (iU s K) sch steps:=by rw[<-hgro,mM,if_neg (fun e=>hO (List.length_eq_zero_iff.1 e)),if_neg (by(try simp only[List.length_nil]at hd ⊢);omega),if_neg ab,hx]
    have ql:([]:List aa).length<=16777215:=by(try simp only[List.length_nil]);omega
    rw[ai]
    (try((repeat(revert hN;revert N;apply Pn.out));refine wk (tw @b0 (tw @b1 (tw @b2 (tw @b8 (tw @e9 (tw @k0 (tw @k1 (tw @w0 (tw @w1 (tw @p0 @p1)))))))))) ?_;(repeat(refine Pn.mk ?_;intro N hN))))
    refine .inr (bc _ _ _ _ _ (fun r σ3 hq=>?_) (zX 0 sT))
    obtain⟨rfl,rfl⟩:=hq
    refine hN _ _ ?_
    clear hN N
    (try((repeat(revert hN;revert N;apply Pn.out));refine wk (tw @b0 (tw @b1 (tw @b2 (tw @b8 (tw @e9 (tw @k0 (tw @k1 (tw @w0 (tw @w1 (tw @p0 @p1)))))))))) ?_;(repeat(refine Pn.mk ?_;intro N hN))))
    refine .inr (bc _ _ _ _ _ (fun r σ3 hq=>?_) (zX 1 sN))
    obtain⟨rfl,rfl⟩:=hq
    refine hN _ _ ?_
    clear hN N
    (try((repeat(revert hN;revert N;apply Pn.out));refine wk (tw @b0 (tw @b1 (tw @b2 (tw @b8 (tw @e9 (tw @k0 (tw @k1 (tw @w0 (tw @w1 (tw @p0 @p1)))))))))) ?_;(repeat(refine Pn.mk ?_;intro N hN))))
    have J6:(([]:List aa)++[x]).map ai=([]:List aa).map ai++[ai x]:=by simp
    have Bs:(([]:List aa)++[x]).length=([]:List aa).length+1:=by simp
    rw[ai]at J6
    have Po:=h.o.cv
    refine⟨f,ab,([]:List aa)++[x],f,rfl,Kd,AF,by rw[Bs];(try simp only[List.length_nil]at hd ⊢);omega,by rw[Bs];(try simp only[List.length_nil]at hfu ⊢);omega,?_,.inr ⟨⟨70008003,x2+1+1+1+1+1⟩,by rw[Bs];simp only[go_sem, ↓reduceIte,Nat.reduceEqDiff,Nat.reduceAdd,Nat.reduceSub,Nat.reduceLeDiff,reduceCtorEq]<;>rfl,by rw[J6];simp only[go_sem, ↓reduceIte,Nat.reduceEqDiff,Nat.reduceAdd,Nat.reduceSub,Nat.reduceLeDiff,reduceCtorEq]<;>rfl,cD,cD,by rw[Bs];omega,rfl⟩,fun y hy hT hO=>?_,cD⟩
    ·have zc:=dF v7.o.cv
     have zT:=dF v7.o.tv
     have zO:=dF v7.o.ov
     obtain⟨en,a1,a2⟩:=v7.op
     refine⟨v7.o.three cD (sd @zc) (sd @zT) (sd @zO),en,sd (tw @zO @a1),a2.frame cD fun y hy ⟨k,r,hk⟩=>?_⟩
     have zy:=dF hy
     simp only[go_sem, ↓reduceIte,Nat.reduceEqDiff,Nat.reduceAdd,Nat.reduceSub,Nat.reduceLeDiff,reduceCtorEq,zy]
    ·have zy:=dF (i:=y) (n:=x2) ab
     simp only[go_sem, ↓reduceIte,Nat.reduceEqDiff,Nat.reduceAdd,Nat.reduceSub,Nat.reduceLeDiff,reduceCtorEq,zy]
     exact(f2 y cD hT hO).trans (jz y hy hT hO)
  ·(try((repeat(revert hN;revert N;apply Pn.out));refine wk (tw @b0 (tw @b1 (tw @b2 (tw @b8 (tw @e9 @hd))))) ?_;(repeat(refine Pn.mk ?_;intro N hN))))
   exact eK (.inl rfl) (vs:=[.bP,.bool true]) (sd @e9) (fin [] _ _ _ (by rw[<-hgro];exact rh (.inr (by(try simp only[List.length_nil]at hd ⊢);omega))) hgood (hC.frame cD fun x hx=>sd @Nat.zero_add) (.inl ⟨rfl,rfl⟩) (fun x hx hT hO=>by
    have z3:=jz x hx hT hO
    simp only[go_sem, ↓reduceIte,Nat.reduceEqDiff,Nat.reduceAdd,Nat.reduceSub,Nat.reduceLeDiff,reduceCtorEq,z3]) cD)
 ·by_cases hd:(es.length:Int)<(steps:Int)
  ·(try((repeat(revert hN;revert N;apply Pn.out));refine wk (tw @b0 (tw @b1 (tw @b2 (tw @b8 (tw @e9 (tw @gu @hd)))))) ?_;(repeat(refine Pn.mk ?_;intro N hN))))
   refine .inr (bc _ _ _ _ _ (fun r σ2 hq=>?_) (KU (σ:=⟨st_b.get,st_b.next+1+1⟩) (c:=c) (T:=T) (O:=O) (B:=B) (es:=es) hP hgood (hC.frame cD fun x hx=>rfl) Wl cD hs nz hBb cD))
   obtain⟨g2,x2⟩:=σ2
   obtain⟨n2,f2,hq⟩:=hq
   (try dsimp only at n2 f2 hq)
   refine hN _ _ ?_
   clear hN N
   have XE:fB g2:=Wl.frame (n:=1) (Nat.le_refl _) fun x hx _=>f2 x ab (fun e=>by rw[e]at hx;omega) (fun e=>by rw[e]at hx;omega)
   obtain⟨⟨b3,k0⟩,b4,k1⟩:=XE
   have w0:=dF (i:=oG 0) (n:=x2) (by rw[iO];omega)
   have w1:=dF (i:=oG 1) (n:=x2) (by rw[iO];omega)
   have p0:(oG 0).site=999000000:=rfl
   have p1:(oG 1).site=999000001:=rfl
   have ku:=(f2 u cD (fun e=>by rw[e]at u1;omega) (fun e=>by rw[e]at u1;omega)).trans gu
   have wu:=dF (i:=u) (n:=x2) ab
   rcases hq with⟨hO,rfl,v7⟩|⟨hO,y7,rfl⟩|⟨hO,iq,rfl,v7⟩
   ·(try((repeat(revert hN;revert N;apply Pn.out));refine wk (tw @b0 (tw @b1 (tw @b2 (tw @b8 (tw @e9 (tw @gu (tw @k0 (tw @k1 (tw @w0 (tw @w1 (tw @p0 (tw @p1 (tw @ku @wu))))))))))))) ?_;(repeat(refine Pn.mk ?_;intro N hN))))
    refine .inr (bc _ _ _ _ _ (fun r σ3 hq=>?_) (uA 0 sT))
    obtain⟨rfl,rfl⟩:=hq
    refine hN _ _ ?_
    clear hN N
    (try((repeat(revert hN;revert N;apply Pn.out));refine wk (tw @b0 (tw @b1 (tw @b2 (tw @b8 (tw @e9 (tw @gu (tw @k0 (tw @k1 (tw @w0 (tw @w1 (tw @p0 (tw @p1 (tw @ku @wu))))))))))))) ?_;(repeat(refine Pn.mk ?_;intro N hN))))
    exact eK (.inl rfl) (vs:=[.own u 0 es.length,.bool true]) (sd @e9) (fin es _ _ _ (by rw[<-hgro];exact rh (.inl (by rw[hO];rfl))) hgood (v7.frame cD fun x hx=>by
     have z1:=dF hx
     simp only[go_sem, ↓reduceIte,Nat.reduceEqDiff,Nat.reduceAdd,Nat.reduceSub,Nat.reduceLeDiff,reduceCtorEq,z1]) (.inr ⟨u,rfl,sd (tw @wu @ku),u1,cD,u3,u4⟩) (fun x hx hT hO=>by
     have z1:=dF (i:=x) (n:=x2) ab
     have z2:=f2 x cD hT hO
     have z3:=jz x hx hT hO
     simp only[go_sem, ↓reduceIte,Nat.reduceEqDiff,Nat.reduceAdd,Nat.reduceSub,Nat.reduceLeDiff,reduceCtorEq,z1]
     exact z2.trans z3) cD)
   ·(try((repeat(revert hN;revert N;apply Pn.out));refine wk (tw @b0 (tw @b1 (tw @b2 (tw @b8 (tw @e9 (tw @gu (tw @k0 (tw @k1 (tw @w0 (tw @w1 (tw @p0 (tw @p1 (tw @ku @wu))))))))))))) ?_;(repeat(refine Pn.mk ?_;intro N hN))))
    refine .inr (bc _ _ _ _ _ (fun r σ3 hq=>?_) (Bw 1 0 sN sT fun e=>sTN e.symm))
    obtain⟨rfl,rfl⟩:=hq
    refine hN _ _ ?_
    clear hN N
    (try((repeat(revert hN;revert N;apply Pn.out));refine wk (tw @b0 (tw @b1 (tw @b2 (tw @b8 (tw @e9 (tw @gu (tw @k0 (tw @k1 (tw @w0 (tw @w1 (tw @p0 (tw @p1 (tw @ku @wu))))))))))))) ?_;(repeat(refine Pn.mk ?_;intro N hN))))
    refine .inr (bc _ _ _ _ _ (fun r σ3 hq=>?_) (uA 1 sN))
    obtain⟨rfl,rfl⟩:=hq
    refine hN _ _ ?_
    clear hN N
    (try((repeat(revert hN;revert N;apply Pn.out));refine wk (tw @b0 (tw @b1 (tw @b2 (tw @b8 (tw @e9 (tw @gu (tw @k0 (tw @k1 (tw @w0 (tw @w1 (tw @p0 (tw @p1 (tw @ku @wu))))))))))))) ?_;(repeat(refine Pn.mk ?_;intro N hN))))
    exact eK (.inl rfl) (vs:=[.bP,.bool false]) (sd @Nat.zero_add) ⟨by(try dsimp only at ID ⊢);omega,fun x hx hT hO=>by
     have z1:=dF (i:=x) (n:=x2) ab
     have z2:=f2 x cD hT hO
     have z3:=jz x ab hT hO
     simp only[go_sem, ↓reduceIte,Nat.reduceEqDiff,Nat.reduceAdd,Nat.reduceSub,Nat.reduceLeDiff,reduceCtorEq,z1]
     exact z2.trans (z3.trans (base x hx)),.inl ⟨by rw[<-hgro,mM,if_neg (fun e=>hO (List.length_eq_zero_iff.1 e)),if_neg (by(try simp only[List.length_nil]at hd ⊢);omega),if_pos y7],rfl⟩⟩
   ·obtain⟨x,hx⟩:∃x,cP (iG (iU s K) (ei (iU s K) es es.length)) (uy sch es.length (iG (iU s K) (ei (iU s K) es es.length)).length)=x:=⟨_,rfl⟩
    rw[hx]at v7 ⊢
    have Mz:x∈iG (iU s K) (ei (iU s K) es es.length):=by rw[<-hx];exact gR (pJ (List.length_pos_iff.2 hO))
    have AF:=hgood.add Mz iq
    have Kd:mM (iU s K) sch steps f (es++[x])=pM (iU s K) sch steps:=by rw[<-hgro,mM,if_neg (fun e=>hO (List.length_eq_zero_iff.1 e)),if_neg (by(try simp only[List.length_nil]at hd ⊢);omega),if_neg ab,hx]
    have ql:es.length<=16777215:=by(try simp only[List.length_nil]);omega
    rw[ai]
    (try((repeat(revert hN;revert N;apply Pn.out));refine wk (tw @b0 (tw @b1 (tw @b2 (tw @b8 (tw @e9 (tw @k0 (tw @k1 (tw @w0 (tw @w1 (tw @p0 (tw @p1 (tw @ku (tw @wu @ql))))))))))))) ?_;(repeat(refine Pn.mk ?_;intro N hN))))
    refine .inr (bc _ _ _ _ _ (fun r σ3 hq=>?_) (zX 0 sT))
    obtain⟨rfl,rfl⟩:=hq
    refine hN _ _ ?_
    clear hN N
    (try((repeat(revert hN;revert N;apply Pn.out));refine wk (tw @b0 (tw @b1 (tw @b2 (tw @b8 (tw @e9 (tw @k0 (tw @k1 (tw @w0 (tw @w1 (tw @p0 (tw @p1 (tw @ku (tw @wu @ql))))))))))))) ?_;(repeat(refine Pn.mk ?_;intro N hN))))
    refine .inr (bc _ _ _ _ _ (fun r σ3 hq=>?_) (zX 1 sN))
    obtain⟨rfl,rfl⟩:=hq
    refine hN _ _ ?_
    clear hN N
    (try((repeat(revert hN;revert N;apply Pn.out));refine wk (tw @b0 (tw @b1 (tw @b2 (tw @b8 (tw @e9 (tw @k0 (tw @k1 (tw @w0 (tw @w1 (tw @p0 (tw @p1 (tw @ku (tw @wu @ql))))))))))))) ?_;(repeat(refine Pn.mk ?_;intro N hN))))
    have J6:(es++[x]).map ai=es.map ai++[ai x]:=by simp
    have Bs:(es++[x]).length=es.length+1:=by simp
    rw[ai]at J6
    have Po:=h.o.cv
    have ncu:(c=u)=False:=eq_false fun e=>by rw[<-e]at u1;omega
    have nTu:(T=u)=False:=eq_false fun e=>by rw[<-e]at u1;omega
    have nOu:(O=u)=False:=eq_false fun e=>by rw[<-e]at u1;omega
    refine⟨f,ab,es++[x],f,rfl,Kd,AF,by rw[Bs];(try simp only[List.length_nil]at hd ⊢);omega,by rw[Bs];(try simp only[List.length_nil]at hfu ⊢);omega,?_,.inr ⟨⟨70008003,x2+1+1+1+1+1⟩,by rw[Bs];simp only[go_sem, ↓reduceIte,Nat.reduceEqDiff,Nat.reduceAdd,Nat.reduceSub,Nat.reduceLeDiff,reduceCtorEq]<;>rfl,by rw[J6];simp only[go_sem, ↓reduceIte,Nat.reduceEqDiff,Nat.reduceAdd,Nat.reduceSub,Nat.reduceLeDiff,reduceCtorEq]<;>rfl,cD,cD,by rw[Bs];omega,rfl⟩,fun y hy hT hO=>?_,cD⟩
    ·have zc:=dF v7.o.cv
     have zT:=dF v7.o.tv
     have zO:=dF v7.o.ov
     obtain⟨en,a1,a2⟩:=v7.op
     refine⟨v7.o.three cD (sd (tw @zc @ncu)) (sd (tw @zT @nTu)) (sd (tw @zO @nOu)),en,sd (tw @zO (tw @a1 @nOu)),a2.frame cD fun y hy ⟨k,r,hk⟩=>?_⟩
     have zy:=dF hy
     have YY:(y=u)=False:=eq_false fun e=>by
      rw[e,ku]at hk
      simp at hk
     simp only[go_sem, ↓reduceIte,Nat.reduceEqDiff,Nat.reduceAdd,Nat.reduceSub,Nat.reduceLeDiff,reduceCtorEq,zy,YY]
    ·have zy:=dF (i:=y) (n:=x2) ab
     have YY:(y=u)=False:=eq_false fun e=>by rw[<-e]at u1;omega
     simp only[go_sem, ↓reduceIte,Nat.reduceEqDiff,Nat.reduceAdd,Nat.reduceSub,Nat.reduceLeDiff,reduceCtorEq,zy,YY]
     exact(f2 y cD hT hO).trans (jz y hy hT hO)
  ·(try((repeat(revert hN;revert N;apply Pn.out));refine wk (tw @b0 (tw @b1 (tw @b2 (tw @b8 (tw @e9 (tw @gu @hd)))))) ?_;(repeat(refine Pn.mk ?_;intro N hN))))
   exact eK (.inl rfl) (vs:=[.own u 0 es.length,.bool true]) (sd @e9) (fin es _ _ _ (by rw[<-hgro];exact rh (.inr (by(try simp only[List.length_nil]at hd ⊢);omega))) hgood (hC.frame cD fun x hx=>sd @Nat.zero_add) (.inr ⟨u,rfl,sd @gu,u1,cD,u3,u4⟩) (fun x hx hT hO=>by
    have z3:=jz x hx hT hO
    simp only[go_sem, ↓reduceIte,Nat.reduceEqDiff,Nat.reduceAdd,Nat.reduceSub,Nat.reduceLeDiff,reduceCtorEq,z3]) cD)
theorem QH {σ:au} {c T O:Id} {s:aw} (hP:lE s) (h:nD σ.get σ.next c T O s s.dJ.ay) (hE:fB σ.get) (Ck:1<=T.cV) (El:1<=O.cV)
  {sch:List Int} (hs:∀x∈sch,0<=x/\x<=1000) (nz:sch.length<=200) (steps:Nat) (ed:steps<=501):
  Call Tryz.prog 70 [.ptr c 0 0,.sl (sch.map ah),.int .i64 (steps:Int)] σ (Xc σ c T O s sch steps):=
 QI (K:=s.dJ.ay) hP.w h hE Ck El hs nz steps ed
section
variable {P:Program} {L:List aa}
end
def OC (sch:List Int):Bool:=decide (sch.length<=200)&& !(sch.any fun n=> !ir n 0 1000)
theorem LD {sch:List Int}:OC sch=true↔sch.length<=200/\∀x∈sch,0<=x/\x<=1000:=by
 unfold OC
 simp only[Bool.and_eq_true,decide_eq_true_eq,Bool.not_eq_true',List.any_eq_false,Bool.not_eq_false',ir,Bool.not_eq_true]
 constructor
 ·rintro⟨h1,h2⟩
  exact⟨h1,fun x hx=>by have:=h2 x hx;simpa using this⟩
 ·rintro⟨h1,h2⟩
  exact⟨h1,fun x hx=>by simpa using h2 x hx⟩
theorem LF (n:Int):az Tryz.prog 68 [.int .i64 n] (.bool (!ir n 0 1000)):=by
 refine az.body fC rfl fun hl n0=>?_
 clear hl
 have h:=fR n 0 1000
 (repeat(first|((repeat(revert hN;revert N;apply Pn.out));refine wk @Nat.zero_add ?_;(repeat(refine Pn.mk ?_;intro N hN)))|((try apply Or.inl);refine⟨_,az.x (h) (sd @Nat.zero_add),?_⟩;refine hN _ _ ?_;clear hN N)))
 exact dQ (b:= !ir n 0 1000) (.inl rfl) (sd @Nat.zero_add) rfl
theorem Ib (ws:List Int) (hl:ws.length<=1048576):az Tryz.prog 67 [.sl (ws.map ah),.fn 68 []] (.bool (ws.any fun n=> !ir n 0 1000)):=
 kq FO (show BN Tryz.prog 67=some (AD 67 86) by kernel_rfl)
  (show BN Tryz.prog 86=some (sO 86 1 false) by kernel_rfl) ws hl _ _ _ rfl (fun g=>by rw[ae]) (fun x _=>LF x) fun g=>by rw[ae]
theorem ui (sch:List Int) (hl:sch.length<=1048576):az Tryz.prog 42 [.sl (sch.map ah)] (.bool (OC sch)):=by
 refine az.body fC rfl fun fb n0=>?_
 clear fb
 have fJ:(sch.map ah).length=sch.length:=by simp
 have h:=Ib sch hl
 unfold OC
 by_cases h2:sch.length<=200
 ·have h3:decide ((sch.length:Int)<=200)=true:=decide_eq_true ab
  (repeat(first|((repeat(revert hN;revert N;apply Pn.out));refine wk (tw @fJ @h3) ?_;(repeat(refine Pn.mk ?_;intro N hN)))|((try apply Or.inl);refine⟨_,az.x (h) (sd (tw @fJ @h3)),?_⟩;refine hN _ _ ?_;clear hN N)))
  exact dQ (b:= !(sch.any fun n=> !ir n 0 1000)) (.inl rfl) (sd @Nat.zero_add) (by rw[decide_eq_true h2];rfl)
 ·have h3:decide ((sch.length:Int)<=200)=false:=decide_eq_false ab
  (repeat(first|((repeat(revert hN;revert N;apply Pn.out));refine wk (tw @fJ @h3) ?_;(repeat(refine Pn.mk ?_;intro N hN)))|((try apply Or.inl);refine⟨_,az.x (h) (sd (tw @fJ @h3)),?_⟩;refine hN _ _ ?_;clear hN N)))
  exact dQ (b:=false) (.inl rfl) (sd @Nat.zero_add) (by rw[decide_eq_false h2];rfl)
def I5 (σ:au) (s:aw) (sch:List Int) (steps:Nat) (r:AV) (σ':au):Prop:=
 σ.next<=σ'.next/\(∀x:Id,x.cV<σ.next->σ'.get x=σ.get x)/\
 ((pM s sch steps=none/\r=.fN [.bP,.agg [.bP],.int .i64 4])∨∃(es:List aa) (v:AV) (o:Id),pM s sch steps=some es/\gM s es/\r=.fN [v,.agg [.own o 0 (ei s es es.length).length],.int .i64 0]/\DH 70008003 σ.next es v σ'.get σ'.next/\σ'.get o=some ⟨true,3,(ei s es es.length).map ai⟩/\σ.next<=o.cV/\o.cV<σ'.next/\∀u m,v=.own u 0 m->u≠o)
theorem Nl {σ:au} {s:aw} (hP:lE s) (hE:fB σ.get) (pn:1<=σ.next) {sch:List Int} (hs:∀x∈sch,0<=x/\x<=1000) (nz:sch.length<=200) (steps:Nat) (ed:steps<=501):
  Call Tryz.prog 43 [.agg (eb s),.sl (sch.map ah),.int .i64 (steps:Int)] σ (I5 σ s sch steps):=by
 refine eX fC rfl fun fb=>?_
 clear fb
 have hT:1<=s.bu:=(dZ hP.uz).1
 have hc:=fun σ=>AX s hP.set hT s.dJ.ay hP.s6 σ
 rw[eb]at hc ⊢
 (try((repeat(revert hN;revert N;apply Pn.out));refine wk @Nat.zero_add ?_;(repeat(refine Pn.mk ?_;intro N hN))))
 refine .inr (bc _ _ _ _ _ (fun r σ1 hq=>?_) (hc _))
 obtain⟨g1,x1⟩:=σ1
 obtain⟨c,T,O,rfl,hC,Po,Ck,El,wi,jz⟩:=hq
 (try dsimp only at hC Po Ck El wi jz)
 have base:∀x:Id,x.cV<σ.next->g1 x=σ.get x:=fun x hx=>by
  have h1:=dF hx
  have h2:=jz x cD
  simp only[go_sem, ↓reduceIte,Nat.reduceEqDiff,Nat.reduceAdd,Nat.reduceSub,Nat.reduceLeDiff,reduceCtorEq,h1]at h2
  exact h2
 have k7:=jz ⟨43000002,σ.next⟩ cD
 simp only[go_sem, ↓reduceIte,Nat.reduceEqDiff,Nat.reduceAdd,Nat.reduceSub,Nat.reduceLeDiff,reduceCtorEq]at k7
 refine hN _ _ ?_
 clear hN N
 have TG:fB g1:=hE.frame (n:=1) (Nat.le_refl _) fun x hx _=>base x ab
 (try((repeat(revert hN;revert N;apply Pn.out));refine wk @k7 ?_;(repeat(refine Pn.mk ?_;intro N hN))))
 refine .inr (bc _ _ _ _ _ (fun r σ2 hq=>?_) (QH (σ:=⟨g1,_⟩) (c:=c) (T:=T) (O:=O) hP (hC.frame cD fun x hx=>rfl) TG ab ab hs nz steps ed))
 obtain⟨g2,x2⟩:=σ2
 obtain⟨n2,f2,hq⟩:=hq
 (try dsimp only at n2 f2 hq)
 have kT:T.cV<x1:=hC.o.tv
 have kO:O.cV<x1:=hC.o.ov
 have YT:=(f2 ⟨43000002,σ.next⟩ cD (fun e=>by rw[<-e]at Ck;(try dsimp only at Ck);omega) (fun e=>by rw[<-e]at El;(try dsimp only at El);omega)).trans k7
 have O9:∀x:Id,x.cV<σ.next->g2 x=σ.get x:=fun x hx=>(f2 x ab (fun e=>by rw[e]at hx;omega) (fun e=>by rw[e]at hx;omega)).trans (base x hx)
 refine hN _ _ ?_
 clear hN N
 rcases hq with⟨hg,rfl⟩|⟨es,v,hg,hG,v7,rfl,hL⟩
 ·(try((repeat(revert hN;revert N;apply Pn.out));refine wk @YT ?_;(repeat(refine Pn.mk ?_;intro N hN))))
  exact eK (.inl rfl) (vs:=[.bP,.agg [.bP],.int .i64 4]) (sd @Nat.zero_add) ⟨cD,fun x hx=>by
   have h1:=dF hx
   simp only[go_sem, ↓reduceIte,Nat.reduceEqDiff,Nat.reduceAdd,Nat.reduceSub,Nat.reduceLeDiff,reduceCtorEq,h1,O9 x hx],.inl ⟨hg,rfl⟩⟩
 ·have hA:=kI hP (es:=es) es.length (Nat.le_refl _) hG
  have QU:=zE hP (es:=es) es.length (Nat.le_refl _) hG
  rw[List.take_length]at QU
  have lp:=oU s es es.length (Nat.le_refl _)
  have J8:=hA.1.Dq
  have Rg:=hP.some
  (try((repeat(revert hN;revert N;apply Pn.out));refine wk @YT ?_;(repeat(refine Pn.mk ?_;intro N hN))))
  refine .inr (bc _ _ _ _ _ (fun r σ3 hq=>?_) (DL (σ:=⟨g2,_⟩) (L:=ei s es es.length) (v7.o.frame cD fun x _=>rfl) (by rw[List.length_append];omega) (fun e=>by have:=congrArg List.length e;rw[List.length_append,List.length_nil]at this;omega) hA.1.MA QU.perm))
  obtain⟨g3,x3⟩:=σ3
  obtain⟨o,rfl,q1,q2,q3,q4,q5⟩:=hq
  (try dsimp only at q1 q2 q3 q4 q5)
  have k73:=(q5 ⟨43000002,σ.next⟩ cD (fun e=>by rw[<-e]at Ck;(try dsimp only at Ck);omega)).trans YT
  have vo:=dU (a:=(⟨43000002,σ.next⟩:Id)) (b:=o) cD
  refine hN _ _ ?_
  clear hN N
  have vc:v.cells=[v]/\v.cell=true:=by
   rcases hL with⟨_,rfl⟩|⟨u,rfl,_⟩<;>exact⟨rfl,rfl⟩
  obtain⟨c1,c2⟩:=vc
  (try((repeat(revert hN;revert N;apply Pn.out));refine wk (tw @k73 (tw @vo (tw @c1 @c2))) ?_;(repeat(refine Pn.mk ?_;intro N hN))))
  refine eK (.inl rfl) (vs:=[v,.agg [.own o 0 (ei s es es.length).length],.int .i64 0]) (sd @Nat.zero_add) ⟨cD,fun x hx=>?_,.inr ⟨es,v,o,hg,hG,rfl,?_,sd (tw @vo @q1),ab,cD,?_⟩⟩
  ·have h1:=dF hx
   have h2:=q5 x ab (fun e=>by rw[e]at hx;omega)
   simp only[go_sem, ↓reduceIte,Nat.reduceEqDiff,Nat.reduceAdd,Nat.reduceSub,Nat.reduceLeDiff,reduceCtorEq,h1]
   exact h2.trans (O9 x hx)
  ·rcases hL with h1|⟨u,h1,h2,h3,h4,h40,h5⟩
   ·exact .inl h1
   ·have vu:(u=(⟨43000002,σ.next⟩:Id))=False:=eq_false fun e=>by rw[e]at h3;(try dsimp only at h3);omega
    have h6:=(q5 u cD (fun e=>by rw[e]at h3;omega)).trans h2
    exact .inr ⟨u,h1,sd (tw @vu @h6),ab,cD,h40,h5⟩
  ·intro u m e1 e2
   rcases hL with⟨_,h1⟩|⟨u',h1,h2,h3,h4,h40,h5⟩
   ·rw[h1]at e1;cases e1
   ·rw[h1]at e1
    injection e1 with e1
    rw[<-e1]at e2
    rw[e2]at h4
    (try dsimp only at q2)
    omega
def S6 (σ:au) (s:aw) (sch:List Int) (steps:Nat) (r:AV) (σ':au):Prop:=
 (mu s=false/\r=.fN [.bP,.agg [.bP],.int .i64 1]/\σ.next<=σ'.next/\∀x:Id,x.cV<σ.next->σ'.get x=σ.get x)∨(mu s=true/\I5 σ s sch steps r σ')
theorem P6 {σ:au} (s:aw) (hn:j7 s.aq) (hm:yF s) (hE:fB σ.get) (pn:1<=σ.next) {sch:List Int} (hs:∀x∈sch,0<=x/\x<=1000) (nz:sch.length<=200):
  Call Tryz.prog 13 [.agg (eb s),.sl (sch.map ah)] σ (S6 σ s sch 501):=by
 refine eX fC rfl fun fb=>?_
 clear fb
 have h1:=pU Jz s hn hm.s.g hm.s.t (fun t ht=>hm.s.s t ht) hm.a
 have h2:=ui sch ab
 rw[LD.2 ⟨nz,hs⟩]at h2
 have hc:=fun(hP:lE s) (σ:au) (hE:fB σ.get) (h1:1<=σ.next)=>Nl hP hE h1 hs nz 501 ab
 cases h0:mu s
 ·rw[h0]at h1
  rw[eb]at h1 ⊢
  (repeat(first|((repeat(revert hN;revert N;apply Pn.out));refine wk @Nat.zero_add ?_;(repeat(refine Pn.mk ?_;intro N hN)))|((try apply Or.inl);refine⟨_,az.x (h1) (sd @Nat.zero_add),?_⟩;refine hN _ _ ?_;clear hN N)))
  exact eK (.inl rfl) (vs:=[.bP,.agg [.bP],.int .i64 1]) (sd @Nat.zero_add) (.inl ⟨h0,rfl,cD,fun x hx=>by
   have h1:=dF hx
   simp only[go_sem, ↓reduceIte,Nat.reduceEqDiff,Nat.reduceAdd,Nat.reduceSub,Nat.reduceLeDiff,reduceCtorEq,h1]⟩)
 ·rw[h0]at h1
  have hP:=mv.1 h0
  rw[eb]at h1 hc ⊢
  (repeat(first|((repeat(revert hN;revert N;apply Pn.out));refine wk @Nat.zero_add ?_;(repeat(refine Pn.mk ?_;intro N hN)))|((try apply Or.inl);refine⟨_,az.x (h1) (sd @Nat.zero_add),?_⟩;refine hN _ _ ?_;clear hN N)|((try apply Or.inl);refine⟨_,az.x (h2) (sd @Nat.zero_add),?_⟩;refine hN _ _ ?_;clear hN N)))
  refine .inr (bc _ _ _ _ _ (fun r σ1 hq=>?_) (hc hP _ (hE.frame (n:=1) (Nat.le_refl _) fun x hx _=>by
   have h1:=dF (i:=x) (n:=σ.next) ab
   simp only[go_sem, ↓reduceIte,Nat.reduceEqDiff,Nat.reduceAdd,Nat.reduceSub,Nat.reduceLeDiff,reduceCtorEq,h1]) cD))
  obtain⟨g1,x1⟩:=σ1
  obtain⟨n1,f1,hq⟩:=hq
  (try dsimp only at n1 f1 hq)
  have k7:=f1 ⟨13000002,σ.next⟩ cD
  simp only[go_sem, ↓reduceIte,Nat.reduceEqDiff,Nat.reduceAdd,Nat.reduceSub,Nat.reduceLeDiff,reduceCtorEq]at k7
  have base:∀x:Id,x.cV<σ.next->g1 x=σ.get x:=fun x hx=>by
   have h1:=dF hx
   have h2:=f1 x cD
   simp only[go_sem, ↓reduceIte,Nat.reduceEqDiff,Nat.reduceAdd,Nat.reduceSub,Nat.reduceLeDiff,reduceCtorEq,h1]at h2
   exact h2
  refine hN _ _ ?_
  clear hN N
  rcases hq with⟨hg,rfl⟩|⟨es,v,o,hg,hG,rfl,hL,go,q2,q3,gZ⟩
  ·(try((repeat(revert hN;revert N;apply Pn.out));refine wk @k7 ?_;(repeat(refine Pn.mk ?_;intro N hN))))
   exact eK (.inl rfl) (vs:=[.bP,.agg [.bP],.int .i64 4]) (sd @Nat.zero_add) (.inr ⟨h0,cD,fun x hx=>by
    have h1:=dF hx
    simp only[go_sem, ↓reduceIte,Nat.reduceEqDiff,Nat.reduceAdd,Nat.reduceSub,Nat.reduceLeDiff,reduceCtorEq,h1,base x hx],.inl ⟨hg,rfl⟩⟩)
  ·have vc:v.cells=[v]/\v.cell=true:=by
    rcases hL with⟨_,rfl⟩|⟨u,rfl,_⟩<;>exact⟨rfl,rfl⟩
   obtain⟨c1,c2⟩:=vc
   have vo:(o=(⟨13000002,σ.next⟩:Id))=False:=eq_false fun e=>by rw[e]at q2;(try dsimp only at q2);omega
   (try((repeat(revert hN;revert N;apply Pn.out));refine wk (tw @k7 (tw @vo (tw @c1 @c2))) ?_;(repeat(refine Pn.mk ?_;intro N hN))))
   refine eK (.inl rfl) (vs:=[v,.agg [.own o 0 (ei s es es.length).length],.int .i64 0]) (sd @Nat.zero_add) (.inr ⟨h0,cD,fun x hx=>by
    have h1:=dF hx
    simp only[go_sem, ↓reduceIte,Nat.reduceEqDiff,Nat.reduceAdd,Nat.reduceSub,Nat.reduceLeDiff,reduceCtorEq,h1,base x hx],.inr ⟨es,v,o,hg,hG,rfl,?_,sd (tw @vo @go),by(try dsimp only at q2);omega,cD,gZ⟩⟩)
   rcases hL with h1|⟨u,h1,h2,h3,h4,h40,h5⟩
   ·exact .inl h1
   ·have vu:(u=(⟨13000002,σ.next⟩:Id))=False:=eq_false fun e=>by rw[e]at h3;(try dsimp only at h3);omega
    exact .inr ⟨u,h1,sd (tw @vu @h2),by(try dsimp only at h3);omega,cD,h40,h5⟩
def nY (g:Rows) (X:Id) (bs:List Int) (a:Nat) (z:Int):Prop:=g X=some ⟨true,3,[[.sl (bs.map il),.int .i64 (a:Int),.int .u64 z]]⟩
theorem RJ (bs:List Int) (hb:∀b∈bs,0<=b/\b<=255) (iY:bs.length<=4096) (a:Nat) (XU:a<=1073741824) (z:Int):
  ∃v z':Int,(∀(X:Id) (σ:au),nY σ.get X bs a z->Call Tryz.prog 59 [.ptr X 0 0] σ fun r σ'=>r=.int .i64 v/\nY σ'.get X bs (a+1) z'/\j8 X σ σ')/\0<=v/\v<=255:=by
 have fJ:(bs.map il).length=bs.length:=by simp
 have w1:IntKind.i64.wrap ((a:Int)+1)=((a+1:Nat):Int):=(cH ab).trans ab
 by_cases ha:(a:Int)<(bs.length:Int)
 ·have Kb:(bs.map il)[a]? =some [.int .u8 (bs.getD a 0)]:=getD_map il ab
  have Ds:=hb (bs.getD a 0) (by rw[List.getD_eq_getElem?_getD,List.getElem?_eq_getElem (by omega:a<bs.length)];exact List.getElem_mem ab)
  generalize bs.getD a 0=b at Kb Ds
  have w2:IntKind.i64.wrap b=b:=cH ab
  have hle:((a+1:Nat):Int)<=(bs.length:Int):=ab
  apply Exists.intro b
  apply Exists.intro
  refine⟨fun X σ hg=>?_,Ds.1,Ds.2⟩
  unfold nY at hg
  refine eX fC rfl fun fb=>?_
  clear fb
  (try((repeat(revert hN;revert N;apply Pn.out));refine wk (tw @hg (tw @fJ (tw @ha (tw @Kb (tw @w1 (tw @w2 @hle)))))) ?_;(repeat(refine Pn.mk ?_;intro N hN))))
  exact eK (.inl rfl) (vs:=[.int .i64 b]) (sd @Nat.zero_add) ⟨rfl,by unfold nY;simp only[go_sem, ↓reduceIte,Nat.reduceEqDiff,Nat.reduceAdd,Nat.reduceSub,Nat.reduceLeDiff,reduceCtorEq];rfl,cD,fun i hi _=>sd @hi⟩
 ·have hle:decide (((a+1:Nat):Int)<=(bs.length:Int))=false:=decide_eq_false ab
  apply Exists.intro
  apply Exists.intro
  refine⟨fun X σ hg=>?_,?_⟩
  ·unfold nY at hg
   refine eX fC rfl fun fb=>?_
   clear fb
   (try((repeat(revert hN;revert N;apply Pn.out));refine wk (tw @hg (tw @fJ (tw @ha (tw @w1 @hle)))) ?_;(repeat(refine Pn.mk ?_;intro N hN))))
   exact eK (.inl rfl) (vs:=[.int .i64 _]) (by simp only[gY,kX,go_sem, ↓reduceIte,Nat.reduceEqDiff,Nat.reduceAdd,Nat.reduceSub,Nat.reduceLeDiff,reduceCtorEq]<;>rfl) ⟨rfl,by unfold nY;simp only[go_sem, ↓reduceIte,Nat.reduceEqDiff,Nat.reduceAdd,Nat.reduceSub,Nat.reduceLeDiff,reduceCtorEq];rfl,cD,fun i hi _=>sd @hi⟩
  ·exact ve _
theorem AZ (bs:List Int) (hb:∀b∈bs,0<=b/\b<=255) (iY:bs.length<=4096) (n:Int) (pn:1<n) (Cp:n<=200) (a:Nat) (XU:a<=1073741824) (z:Int):
  ∃v z':Int,(∀(X:Id) (σ:au),nY σ.get X bs a z->Call Tryz.prog 26 [.ptr X 0 0,.int .i64 n] σ fun r σ'=>r=.int .i64 v/\nY σ'.get X bs (a+1) z'/\j8 X σ σ')/\0<=v/\v<n:=by
 obtain⟨v,z',hc,v0,v1⟩:=RJ bs hb iY a XU z
 have Co:(n=0)=False:=eq_false ab
 have h1:¬n<=1:=ab
 have h2:¬(200:Int)<n:=ab
 refine⟨v.tmod n,z',fun X σ hg=>?_,(tj v0 ab).1,by have:=(tj v0 (show 0<n by omega)).2;omega⟩
 refine eX fC rfl fun fb=>?_
 clear fb
 (try((repeat(revert hN;revert N;apply Pn.out));refine wk @h1 ?_;(repeat(refine Pn.mk ?_;intro N hN))))
 refine .inr (bc _ _ _ _ _ (fun r σ1 hq=>?_) (hc X _ hg))
 obtain⟨rfl,q1,k1⟩:=hq
 refine hN _ _ ?_
 clear hN N
 (try((repeat(revert hN;revert N;apply Pn.out));refine wk (tw @h2 @Co) ?_;(repeat(refine Pn.mk ?_;intro N hN))))
 exact eK (.inl rfl) (vs:=[.int .i64 (v.tmod n)]) (sd @Nat.zero_add) ⟨rfl,q1,(j8.to k1 ab cD:j8 X ⟨σ.get,σ.next⟩ ⟨σ1.get,_⟩)⟩
theorem HH (bs:List Int) (σ:au):
  Call Tryz.prog 25 [.sl (bs.map il)] σ fun r σ'=>∃X:Id,r=.ptr X 0 0/\σ.next<=X.cV/\X.cV<σ'.next/\nY σ'.get X bs 0 0:=by
 refine eX fC rfl fun fb=>?_
 clear fb
 (try((repeat(revert hN;revert N;apply Pn.out));refine wk @Nat.zero_add ?_;(repeat(refine Pn.mk ?_;intro N hN))))
 exact eK (.inl rfl) (vs:=[.ptr ⟨25001002,_⟩ 0 0]) (by simp only[gY,kX,go_sem, ↓reduceIte,Nat.reduceEqDiff,Nat.reduceAdd,Nat.reduceSub,Nat.reduceLeDiff,reduceCtorEq]<;>rfl) ⟨_,rfl,cD,cD,by unfold nY;simp only[go_sem, ↓reduceIte,Nat.reduceEqDiff,Nat.reduceAdd,Nat.reduceSub,Nat.reduceLeDiff,reduceCtorEq]<;>rfl⟩
theorem Na (bs:List Int) (hb:∀b∈bs,0<=b/\b<=255) (iY:bs.length<=4096):∃F:Nat->Int->Int×Int,∀a z,a<=1073741824->(∀(X:Id) (σ:au),nY σ.get X bs a z->Call Tryz.prog 26 [.ptr X 0 0,.int .i64 20] σ fun r σ'=>r=.int .i64 (F a z).1/\nY σ'.get X bs (a+1) (F a z).2/\j8 X σ σ')/\0<=(F a z).1/\(F a z).1<20:=by
 classical
 refine⟨fun a z=>if h:a<=1073741824 then((AZ bs hb iY 20 ab ab a h z).choose,(AZ bs hb iY 20 ab ab a h z).choose_spec.choose)else(0,0),fun a z h=>?_⟩
 simp only[dif_pos h]
 exact(AZ bs hb iY 20 ab ab a h z).choose_spec.choose_spec
def pV (F:Nat->Int->Int×Int):Nat->Nat->Int->List Int
 |0,_,_=>[]
 |m+1,a,z=>(F a z).1::pV F m (a+1) (F a z).2
theorem yQ (F:Nat->Int->Int×Int):∀m a z,(pV F m a z).length=m
 |0,_,_=>rfl
 |m+1,a,z=>by rw[pV,List.length_cons,yQ F m]
theorem xU (bs:List Int) (hb:∀b∈bs,0<=b/\b<=255) (iY:bs.length<=4096):
  ∃sch:List Int,az Tryz.prog 14 [.sl (bs.map il)] (.sl (sch.map ah))/\(∀x∈sch,0<=x/\x<=19)/\sch.length<=6:=by
 obtain⟨F,hF⟩:=Na bs hb iY
 obtain⟨k,z1,hk,k0,k7⟩:=AZ bs hb iY 7 ab ab 0 ab 0
 obtain⟨m,rfl⟩:=Int.eq_ofNat_of_zero_le k0
 have Uf:∀n a z,a+n<=1000->∀x∈pV F n a z,0<=x/\x<=19:=fun n=>by
  induction n with
  |zero=>intro a z _ x hx;cases hx
  |succ n ih=>
   intro a z ha x hx
   rw[pV]at hx
   rcases List.mem_cons.1 hx with rfl|hx
   ·have:=(hF a z ab).2;omega
   ·exact ih _ _ ab x hx
 refine⟨pV F m 1 z1,?_,Uf m 1 z1 ab,by rw[yQ];omega⟩
 refine az.body fC rfl fun fb n0=>?_
 clear fb
 (try((repeat(revert hN;revert N;apply Pn.out));refine wk @Nat.zero_add ?_;(repeat(refine Pn.mk ?_;intro N hN))))
 refine .inr (bc _ _ _ _ _ (fun r σ1 hq=>?_) (HH bs _))
 obtain⟨X,rfl,x0,x1,hs⟩:=hq
 refine hN _ _ ?_
 clear hN N
 have vX:=dF x1
 have IK:nY (bz σ1.get ⟨14002000,σ1.next+1⟩ ⟨true,1,[]⟩) X bs 0 0:=by
  unfold nY at hs ⊢
  simp only[go_sem, ↓reduceIte,Nat.reduceEqDiff,Nat.reduceAdd,Nat.reduceSub,Nat.reduceLeDiff,reduceCtorEq,vX]<;>exact hs
 (try((repeat(revert hN;revert N;apply Pn.out));refine wk @Nat.zero_add ?_;(repeat(refine Pn.mk ?_;intro N hN))))
 refine .inr (bc _ _ _ _ _ (fun r σ2 hq=>?_) (hk X _ IK))
 obtain⟨rfl,h2,k2⟩:=hq
 have hw:=k2.2 ⟨14002000,σ1.next+1⟩ (fun e=>by rw[<-e]at x1;(try dsimp only at x1);omega) cD
 have Cp:=k2.1
 (try dsimp only at Cp)
 simp only[go_sem, ↓reduceIte,Nat.reduceEqDiff,Nat.reduceAdd,Nat.reduceSub,Nat.reduceLeDiff,reduceCtorEq]at hw
 clear vX hs IK k2
 refine hN _ _ ?_
 clear hN N
 (try((repeat(revert hN;revert N;apply Pn.out));refine wk @Nat.zero_add ?_;(repeat(refine Pn.mk ?_;intro N hN))))
 refine dc (fun i env st=>∃(sch:List Int) (w:Id) (z:Int),env 5=.int .i64 (i:Int)/\env 4=.own w 0 sch.length/\st.get w=some ⟨true,1,sch.map ah⟩/\nY st.get X bs (1+sch.length) z/\i+sch.length=m/\sch++pV F i (1+sch.length) z=pV F m 1 z1/\w.cV<st.next/\X.cV<st.next/\w≠X) m ⟨[],⟨14002000,σ1.next+1⟩,z1,sd @Nat.zero_add,sl @Nat.zero_add,hw,h2,by simp,rfl,cD,cD,fun e=>by rw[<-e]at x1;(try dsimp only at x1);omega⟩ ?_
 rintro i env_b st_b ⟨sch,w,z,b5,b4,gw,hs,hl,hr,vw,vx,gZ⟩ fG
 have b3:=fG 3 (by kernel_rfl)
 simp only[go_sem, ↓reduceIte,Nat.reduceEqDiff,Nat.reduceAdd,Nat.reduceSub,Nat.reduceLeDiff,reduceCtorEq]at b3
 clear fG
 by_cases hm:(0:Int)<(i:Int)
 ·obtain⟨i,rfl⟩:∃j,i=j+1:=⟨i-1,ab⟩
  obtain⟨hc,u0,u1⟩:=hF (1+sch.length) z ab
  rw[pV]at hr
  generalize hFv:F (1+sch.length) z=q0 at *
  obtain⟨u,z2⟩:=q0
  (try dsimp only at hc u0 u1 hr)
  (try((repeat(revert hN;revert N;apply Pn.out));refine wk (tw @b3 (tw @b4 (tw @b5 @hm))) ?_;(repeat(refine Pn.mk ?_;intro N hN))))
  refine .inr (bc _ _ _ _ _ (fun r σ3 hq=>?_) (hc X _ hs))
  obtain⟨rfl,h3,k3⟩:=hq
  have Xx:=(k3.2 w gZ cD).trans gw
  have Ki:=k3.1
  (try dsimp only at Ki)
  clear k3
  have Za:=dF (i:=w) (n:=σ3.next) ab
  have Zb:=dF (i:=X) (n:=σ3.next) ab
  have wm:IntKind.i64.wrap (((i+1:Nat):Int)-1)=(i:Int):=(cH ab).trans ab
  refine hN _ _ ?_
  clear hN N
  have ql:sch.length<=16777215:=ab
  have e1:(X=w)=False/\(w=X)=False:=⟨eq_false fun e=>gZ e.symm,eq_false gZ⟩
  have UE:(sch++[u]).map ah=sch.map ah++[ah u]:=by simp
  have Bs:(sch++[u]).length=sch.length+1:=by simp
  rw[ah]at UE
  unfold nY at h3
  (try((repeat(revert hN;revert N;apply Pn.out));refine wk (tw @b3 (tw @b4 (tw @b5 (tw @Xx (tw @Za (tw @wm @ql)))))) ?_;(repeat(refine Pn.mk ?_;intro N hN))))
  refine⟨i,ab,sch++[u],⟨14006004,σ3.next⟩,z2,sl @Nat.zero_add,sl @Bs,sl @UE,by unfold nY;rw[Bs];simp only[go_sem, ↓reduceIte,Nat.reduceEqDiff,Nat.reduceAdd,Nat.reduceSub,Nat.reduceLeDiff,reduceCtorEq,Zb,e1];exact h3,by rw[Bs];omega,by rw[Bs,List.append_assoc];exact hr,cD,cD,fun e=>by have:=congrArg Id.cV e;(try dsimp only at this);omega⟩
 ·obtain rfl:i=0:=ab
  (try((repeat(revert hN;revert N;apply Pn.out));refine wk (tw @b3 (tw @b4 (tw @b5 @hm))) ?_;(repeat(refine Pn.mk ?_;intro N hN))))
  rw[pV,List.append_nil]at hr
  exact⟨[.own w 0 sch.length],sd @b4,_,by simp only[gp];exact eT (e:=ah) gw rfl fun x=>Ef _ _ _,by rw[hr]⟩
theorem yC (bs:List Int) (hb:∀b∈bs,0<=b/\b<=255) (iY:bs.length<=4096) (n:Int) (hn:0<n):lQ Tryz.prog 6 [.sl (bs.map il),.int .i64 n] fun r=>∃k:Nat,r=.int .i64 (k:Int)/\(k:Int)<n:=by
 refine lQ.body fC rfl fun fb n0=>?_
 clear fb
 (try((repeat(revert hN;revert N;apply Pn.out));refine wk @Nat.zero_add ?_;(repeat(refine Pn.mk ?_;intro N hN))))
 refine .inr (bc _ _ _ _ _ (fun r σ1 hq=>?_) (zh bs _))
 obtain⟨X,rfl,x0,x1,hs,hK⟩:=hq
 clear hK
 refine hN _ _ ?_
 clear hN N
 (try((repeat(revert hN;revert N;apply Pn.out));refine wk @Nat.zero_add ?_;(repeat(refine Pn.mk ?_;intro N hN))))
 refine .inr (bc _ _ _ _ _ (fun r σ2 hq=>?_) (Lc bs hb iY X n 0 ab _ hs))
 obtain⟨v,rfl,v0,v1,h2,k2⟩:=hq
 obtain⟨m,rfl⟩:=Int.eq_ofNat_of_zero_le v0
 refine hN _ _ ?_
 clear hN N
 (try((repeat(revert hN;revert N;apply Pn.out));refine wk @Nat.zero_add ?_;(repeat(refine Pn.mk ?_;intro N hN))))
 exact⟨[.int .i64 (m:Int)],sd @Nat.zero_add,_,by simp only[gp,eV],m,rfl,ab⟩
noncomputable def Nk (s:aw) (sch:List Int) (steps:Nat):AV:=if mu s then(match pM s sch steps with
 |some es=>.fN [N8 ai es,.agg [.sl ((ei s es es.length).map ai)],.int .i64 0]
 |none=>.fN [.bP,.agg [.bP],.int .i64 4])else .fN [.bP,.agg [.bP],.int .i64 1]
theorem fB.ro {g:Rows} (h:fB g):fB (V.ro g):=by
 obtain⟨⟨b,h1⟩,c,h2⟩:=h
 exact⟨⟨false,by unfold V.ro;rw[h1];rfl⟩,false,by unfold V.ro;rw[h2];rfl⟩
end Go.Proofs.YtalkncaokeaifaaGreatDoor.V

namespace Go.Proofs.YtalkncaokeaifaaGreatDoor.V
open Go.RowKit
def rF (g:Rows):Rows:=fun id=>if id=oG 0∨id=oG 1 then(g id).map fun r=>{r with w:=false}else none
theorem fB.yn {g:Rows} (h:fB g):fB (rF g):=by
 obtain⟨⟨b,h1⟩,c,h2⟩:=h
 refine⟨⟨false,?_⟩,false,?_⟩
 ·unfold rF;rw[if_pos (.inl rfl),h1];rfl
 ·unfold rF;rw[if_pos (.inr rfl),h2];rfl
section
variable {P:Program} {w w':World} {D D' D1 D2:Nat->Prop} {ι ι1 ι2:Names}
theorem Fw {f:Nat} {args args':List AV} {g:Rows} {n:Nat} {K:AV->au->Prop} (hv:ek (dX g) 6 args=some args')
  (h:Sound P f args' ⟨rF g,n⟩ fun r σ'=>∃ids,r.Ak=true/\Handed ids σ'.get/\K r ⟨r8 ids g σ'.get,σ'.next⟩):Sound P f args ⟨g,n⟩ K:=by
 intro hs D ι w vs S U A
 let E:Nat->Prop:=fun b=>D b∨∃id r B,g id=some r/\ι id=some B/\b=B.b
 have lt:∀id r B,g id=some r->ι id=some B->B.b<w.heap.size:=fun id r B h1 h2=>by
  obtain⟨B',ef,R,_⟩:=S.row id r h1
  rw[h2]at ef;injection ef with ef;subst ef
  exact R.lt
 have kp:∀{id r},rF g id=some r->r.w=false/\∃r0,g id=some r0/\r={r0 with w:=false}:=fun {id r} h=>by
  unfold rF at h
  split at h
  ·simp only[Option.map_eq_some_iff]at h
   obtain⟨r0,h1,rfl⟩:=h
   exact⟨rfl,r0,h1,rfl⟩
  ·cases h
 have S0:fZ P w.heap.size E ι (rF g) w:=⟨Nat.le_refl _,fun b hb=>by
  rcases hb with hb|⟨id,r,B,h1,h2,rfl⟩
  ·exact S.dead b hb
  ·exact lt id r B h1 h2,fun id r h=>by
   obtain⟨hw,r0,h0,rfl⟩:=kp h
   obtain⟨B,hB,R,_,_⟩:=S.row id r0 h0
   exact⟨B,hB,(R.frame rfl fun a v h=>h.frame (fun _ _=>rfl) (fun _ h=>.inl h) fun _ _ h=>h).flag false,fun h=>(by cases h),fun h=>(by cases h)⟩,fun id jR r r' B B' h h' hw=>by
   obtain⟨nA,_⟩:=kp h
   rw[hw]at nA;cases nA⟩
 obtain⟨l1,l2⟩:=gE hv
 have A':fE P w E ι args' vs:=⟨by rw[A.1,l1],fun j a hj=>by
  obtain⟨a0,kh,hz⟩:=l2 j a hj
  obtain⟨u,hu,hr⟩:=A.2 j a0 kh
  refine⟨u,hu,(rf (D2:=E) (ι2:=ι) (fun b h=>.inl h) (fun id row hg hw=>?_) 6 a0 u a hr hz).1⟩
  unfold dX at hg
  simp only[Option.map_eq_some_iff]at hg
  obtain⟨r,nS,rfl⟩:=hg
  obtain⟨B,hB,R,_,_⟩:=S.row id r nS
  exact⟨B,hB,R.flag true,.inr ⟨id,r,B,nS,hB,rfl⟩⟩⟩
 refine(h w.heap.size E ι w vs S0 U A').mono ?_
 rintro e w' ⟨r0,g',n',D2,ι1,u,rfl,⟨ids,nR,hid,hK⟩,T,S1,U1,hn,hR⟩
 have hb:∀b,b<w.heap.size->w'.heap[b]? =w.heap[b]? :=T.below.block
 have hz:=T.below.size
 have frame:∀{a v},dE P w D ι a v->dE P w' D ι1 a v:=fun h=>h.frame (fun b hd=>hb b (S.dead b hd)) (fun _ h=>h) T.names
 refine⟨r0,_,n',D,ι1,u,rfl,hK,⟨T.below.mono S.lo,fun b hd=>hb b (S.dead b hd),fun _ h=>h,T.names,fun _ h=>.inl h⟩,⟨Nat.le_trans S.lo hz,fun b hd=>Nat.lt_of_lt_of_le (S.dead b hd) hz,fun id r hr=>?_,fun U6 id2 r1 r2 B1 B2 h1 h2 hw Bp nK Ds=>?_⟩,U1,hn,E7 nR hR⟩
 ·by_cases hi:id∈ids
  ·rw[pa hi]at hr
   obtain⟨r',nS,hw,hcr⟩:=hid id hi
   rw[hr]at nS;injection nS with nS;subst nS
   obtain⟨B,hB,R,k1,k2⟩:=S1.row id r hr
   have k6:=k1 hw
   exact⟨B,hB,R.clean hcr,fun _=>Nat.le_trans S.lo k6,fun _ hd=>Nat.lt_irrefl _ (Nat.lt_of_lt_of_le (S.dead _ hd) k6)⟩
  ·rw[zQ hi]at hr
   obtain⟨B,hB,R,k1,k2⟩:=S.row id r hr
   have ID:=lt id r B hr hB
   exact⟨B,T.names _ _ hB,R.frame (hb _ ID) fun a v h=>frame h,k1,k2⟩
 ·have new:∀{id r B},id∈ids->r8 ids g g' id=some r->ι1 id=some B->w.heap.size<=B.b/\g' id=some r/\r.w=true:=fun {id r B} hi hr hB=>by
   rw[pa hi]at hr
   obtain⟨r',nS,hw,_⟩:=hid id hi
   replace nS:g' id=some r':=nS
   rw[hr]at nS;injection nS with nS;subst nS
   obtain⟨B',ef,_,k1,_⟩:=S1.row id r hr
   rw[hB]at ef;injection ef with ef;subst ef
   exact⟨k1 hw,hr,hw⟩
  have CW:∀{id r B},id∉ids->r8 ids g g' id=some r->ι1 id=some B->B.b<w.heap.size/\g id=some r/\ι id=some B:=fun {id r B} hi hr hB=>by
   rw[zQ hi]at hr
   obtain⟨B',ef,_⟩:=S.row id r hr
   have:=T.names _ _ ef
   rw[hB]at this;injection this with this;subst this
   exact⟨lt id r _ hr ef,hr,ef⟩
  by_cases i1:U6∈ids
  ·obtain⟨a1,a2,a3⟩:=new i1 h1 Bp
   by_cases i2:id2∈ids
   ·obtain⟨b1,b2,b3⟩:=new i2 h2 nK
    exact S1.inj U6 id2 r1 r2 B1 B2 a2 b2 hw Bp nK Ds
   ·obtain⟨b1,_⟩:=CW i2 h2 nK
    omega
  ·obtain⟨a1,a2,a3⟩:=CW i1 h1 Bp
   by_cases i2:id2∈ids
   ·obtain⟨b1,_⟩:=new i2 h2 nK
    omega
   ·obtain⟨b1,b2,b3⟩:=CW i2 h2 nK
    exact S.inj U6 id2 r1 r2 B1 B2 a2 b2 hw a3 b3 Ds
end
theorem GK {P:Program} (hm:P.follows .mixedOrders=true) {f:Nat} {args args':List AV} {σ:au} {K:AV->au->Prop} (hv:ek (dX σ.get) 6 args=some args')
  (h:Call P f args' ⟨rF σ.get,σ.next⟩ fun r σ'=>∃ids,r.Ak=true/\Handed ids σ'.get/\K r ⟨r8 ids σ.get σ'.get,σ'.next⟩):Call P f args σ K:=
 fh (Fw hv (ij hm h))
section
variable {α:Type} {e:α->List AV} {z:Nat} {L:List α}
end
end Go.Proofs.YtalkncaokeaifaaGreatDoor.V

namespace Go.Proofs.YtalkncaokeaifaaGreatDoor.V
open Go.RowKit
attribute [local irreducible] dH wpOps eB Call
attribute [local go_sem] ax eo dS ez ev cZ upd bD K.av bR AV.cells AV.cell rowOf rowsOf part ld rowAt eL bz bx cW dj eO bf cC dw er ea cR dq cw cu da db bp aI bZ bj ck cj dn dr dp bW br cz dm bh ar cq bH eM aT bL bq aH cU aQ cX AV.undef aW bd de di cY c6 bJ dv dy bE du dt cm cr List.getD_cons_zero List.getD_cons_succ List.getD_nil List.all_cons List.all_nil Bool.and_true Bool.true_and Bool.and_self Bool.not_true Bool.not_false Option.map_some Option.map_none Option.bind_some Option.bind_none List.length_cons List.length_nil List.take_succ_cons List.take_zero List.take_nil List.drop_succ_cons List.drop_zero List.drop_nil List.head?_cons List.map_cons List.map_nil List.getElem?_cons_zero List.getElem?_cons_succ List.cons_append List.nil_append List.append_nil List.length_map List.set_cons_zero List.set_cons_succ Nat.reduceMul eq_self Int.toNat_natCast Int.natCast_nonneg and_self true_and and_true decide_true decide_false Bool.false_eq_true Nat.zero_add Nat.add_zero List.contains_cons List.contains_nil Bool.or_false Bool.false_or beq_self_eq_true Nat.reduceBEq ne_eq not_true_eq_false not_false_eq_true Id.mk.injEq false_and and_false Nat.reduceLT Int.reduceLE Int.reduceLT Int.reduceToNat Int.reduceNeg Int.reduceAdd Nat.le_refl List.length_append beq_true beq_false Bool.not_eq_eq_eq_not or_false false_or dX ad ae aP aJ bt bI aD aS aA aL bU aZ
theorem FU (bs:List Int):az Tryz.prog 5 [.sl (bs.map il)] (.bool (decide (4096<bs.length))):=by
 refine az.body fC rfl fun hl n0=>?_
 clear hl
 have fJ:(bs.map il).length=bs.length:=by simp
 (try((repeat(revert hN;revert N;apply Pn.out));refine wk @fJ ?_;(repeat(refine Pn.mk ?_;intro N hN))))
 exact dQ (b:=decide ((4096:Int)<(bs.length:Int))) (.inl rfl) (sd @Nat.zero_add) (by apply decide_eq_decide.2;omega)
theorem gO.names {s:aO} (h:gO s):j7 s:=by
 refine⟨fun g hg=>?_,fun t ht=>?_⟩
 ·obtain⟨i,hi,rfl⟩:=List.getElem_of_mem hg
  have h1:=(sU.1 (h.Wg i hi).1).1.2
  rw[show yc s i=s.dx[i] by unfold yc;rw[List.getD_eq_getElem?_getD,List.getElem?_eq_getElem hi];rfl]at h1
  omega
 ·obtain⟨i,hi,rfl⟩:=List.getElem_of_mem ht
  have h1:=(sU.1 (h.tok i hi).1).1.2
  rw[show sq s i=s.ay[i] by unfold sq;rw[List.getD_eq_getElem?_getD,List.getElem?_eq_getElem hi];rfl]at h1
  omega
theorem gO.four {s:aO} (h:gO s):∀t∈s.ay,t.eD.length=4:=fun t ht=>by
 obtain⟨i,hi,rfl⟩:=List.getElem_of_mem ht
 have h1:=(h.tok i hi).2.1
 rwa [show sq s i=s.ay[i] by unfold sq;rw[List.getD_eq_getElem?_getD,List.getElem?_eq_getElem hi];rfl]at h1
theorem lE.sm {s:aw} (h:lE s):yF s:=⟨⟨by have:=h.set.tK;omega,by have:=h.set.xI;omega,fun t ht=>by unfold Jf;rw[h.set.four t ht];omega⟩,by have:=h.s6.1.Dq;omega⟩
theorem VJ (g:Rows):dX (V.ro g)=dX g:=funext fun id=>by
 unfold dX V.ro
 cases g id<;>rfl
theorem sW {g:Rows} {u:Id} {L:List aa} (h:g u=some ⟨true,3,L.map ai⟩):∃r,g u=some r/\r.w=true/\∀cs∈r.rows,∀a∈cs,a.clean=true:=⟨_,h,rfl,fun cs hc a ha=>by
 obtain⟨x,_,rfl⟩:=List.mem_map.1 hc
 have h1:=Xq x
 rw[List.all_eq_true]at h1
 exact h1 a ha⟩
theorem P7 {σ:au} (s:aw) (hn:j7 s.aq) (hm:yF s) (hE:fB σ.get) (pn:1<=σ.next) {sch:List Int} (hs:∀x∈sch,0<=x/\x<=1000) (nz:sch.length<=200) {args:List AV} (hv:ek (dX σ.get) 6 args=some [.agg (eb s),.sl (sch.map ah)]):
  eB (Call Tryz.prog) 13 args σ (fun r'=>r'=Nk s sch 501):=by
 unfold eB PC
 refine Or.inl (GK mixed (σ:=⟨V.ro σ.get,σ.next⟩) (args':=[.agg (eb s),.sl (sch.map ah)]) (by(try dsimp only);rw[VJ];exact hv) (bc _ _ _ _ _ (fun r σ' hq=>?_) (P6 (σ:=⟨rF (V.ro σ.get),σ.next⟩) s hn hm hE.ro.yn pn hs nz)))
 unfold Nk
 rcases hq with⟨h0,rfl,_⟩|⟨h0,_,_,h⟩
 ·rw[h0]
  exact⟨[],rfl,Handed.nil,_,by simp only[aZ,ad,ae,aS,aD,aP,Option.map_some]<;>rfl,rfl⟩
 ·rw[h0]
  rcases h with⟨hg,rfl⟩|⟨es,v,o,hg,_,rfl,hL,ho,_⟩
  ·rw[hg]
   exact⟨[],rfl,Handed.nil,_,by simp only[aZ,ad,ae,aS,aD,aP,Option.map_some]<;>rfl,rfl⟩
  ·rw[hg]
   rcases hL with⟨rfl,rfl⟩|⟨u,rfl,hu,_,_,h0,_⟩
   ·have hz:=kA (g:=r8 [o] (V.ro σ.get) σ'.get) (n:=3) (e:=ai) ((pa (List.mem_singleton.2 rfl)).trans ho) rfl fun x=>by simp[ai,ad,ae,aP]
    exact⟨[o],rfl,fun i hi=>by rw[List.mem_singleton.1 hi];exact sW ho,.fN [.bP,.agg [.sl ((ei s [] ([]:List aa).length).map ai)],.int .i64 0],by simp only[aZ,ad,ae,aS,aD,hz,aP,Option.map_some],rfl⟩
   ·have hz:=kA (g:=r8 [u,o] (V.ro σ.get) σ'.get) (n:=3) (e:=ai) ((pa (by simp)).trans ho) rfl fun x=>by simp[ai,ad,ae,aP]
    have hy:=kA (g:=r8 [u,o] (V.ro σ.get) σ'.get) (n:=4) (e:=ai) ((pa (by simp)).trans hu) rfl fun x=>by simp[ai,ad,ae,aP]
    refine⟨[u,o],rfl,fun i hi=>?_,.fN [.sl (es.map ai),.agg [.sl ((ei s es es.length).map ai)],.int .i64 0],by simp only[aZ,ad,ae,aS,hy,hz,aP,Option.map_some],by(try dsimp only);rw[show N8 ai es=.sl (es.map ai)from if_neg ab];rfl⟩
    rcases List.mem_cons.1 hi with rfl|hi
    ·exact sW hu
    ·rw[List.mem_singleton.1 hi];exact sW ho
section
set_option maxRecDepth 100000
set_option maxHeartbeats 4000000
end
section
set_option maxRecDepth 100000
set_option maxHeartbeats 8000000
theorem DI (bs:List Int) (hb:∀b∈bs,0<=b/\b<=255) (iY:bs.length<=4096) (N0:Nat) (hN0:N0<=100) (p:Int):
  lQ Tryz.prog 7 [.sl (bs.map il),.int .i64 (N0:Int),.int .i64 p] fun r=>∃xs:List Int,r=.sl (xs.map ah)/\xs.length=N0/\∀x∈xs,0<=x/\(x=0∨x<p):=by
 refine lQ.body fC rfl fun fb n0=>?_
 clear fb
 (try((repeat(revert hN;revert N;apply Pn.out));refine wk @Nat.zero_add ?_;(repeat(refine Pn.mk ?_;intro N hN))))
 refine .inr (bc _ _ _ _ _ (fun r σ1 hq=>?_) (zh bs _))
 obtain⟨X,rfl,x0,x1,hs,hK⟩:=hq
 clear hK
 refine hN _ _ ?_
 clear hN N
 have vX:=dF x1
 have IK:pT (bz σ1.get ⟨7002000,σ1.next+1⟩ ⟨true,1,[]⟩) X bs 0:=by
  obtain⟨a,z,h1,h2⟩:=hs
  exact⟨a,z,h1,by simp only[go_sem, ↓reduceIte,Nat.reduceEqDiff,Nat.reduceAdd,Nat.reduceSub,Nat.reduceLeDiff,reduceCtorEq,vX]<;>exact h2⟩
 (try((repeat(revert hN;revert N;apply Pn.out));refine wk @Nat.zero_add ?_;(repeat(refine Pn.mk ?_;intro N hN))))
 refine dc (fun m env st=>∃(xs:List Int) (w:Id),env 9=.int .i64 (m:Int)/\env 8=.own w 0 xs.length/\st.get w=some ⟨true,1,xs.map ah⟩/\pT st.get X bs (2*xs.length)/\m+xs.length=N0/\(∀x∈xs,0<=x/\(x=0∨x<p))/\w.cV<st.next/\X.cV<st.next/\w≠X) N0 ⟨[],⟨7002000,σ1.next+1⟩,sd @Nat.zero_add,sl @Nat.zero_add,sl @Nat.zero_add,IK,by simp,fun x hx=>(by cases hx),cD,cD,fun e=>by rw[<-e]at x1;(try dsimp only at x1);omega⟩ ?_
 rintro m env_b st_b ⟨xs,w,b9,b8,gw,hs,hl,hr,vw,vx,gZ⟩ fG
 have b7:=fG 7 (by kernel_rfl)
 have b2:=fG 2 (by kernel_rfl)
 simp only[go_sem, ↓reduceIte,Nat.reduceEqDiff,Nat.reduceAdd,Nat.reduceSub,Nat.reduceLeDiff,reduceCtorEq]at b7 b2
 clear fG
 by_cases hm:(0:Int)<(m:Int)
 ·(try((repeat(revert hN;revert N;apply Pn.out));refine wk (tw @b7 (tw @b2 (tw @b8 (tw @b9 @hm)))) ?_;(repeat(refine Pn.mk ?_;intro N hN))))
  refine .inr (bc _ _ _ _ _ (fun r σ3 hq=>?_) (Lc bs hb iY X p (2*xs.length) ab ⟨_,_⟩ (by exact hs)))
  obtain⟨u,rfl,u0,u1,h3,k3⟩:=hq
  have Xx:=(k3.2 w gZ cD).trans gw
  have Ki:=k3.1
  (try dsimp only at Ki)
  clear k3
  have Za:=dF (i:=w) (n:=σ3.next) ab
  have Zb:=dF (i:=X) (n:=σ3.next) ab
  have wm:IntKind.i64.wrap ((m:Int)-1)=((m-1:Nat):Int):=(cH ab).trans ab
  refine hN _ _ ?_
  clear hN N
  have ql:xs.length<=16777215:=ab
  have e1:(X=w)=False/\(w=X)=False:=⟨eq_false fun e=>gZ e.symm,eq_false gZ⟩
  have UE:(xs++[u]).map ah=xs.map ah++[ah u]:=by simp
  have Bs:(xs++[u]).length=xs.length+1:=by simp
  rw[ah]at UE
  obtain⟨a,z,hz,gX⟩:=h3
  (try((repeat(revert hN;revert N;apply Pn.out));refine wk (tw @b7 (tw @b2 (tw @b8 (tw @b9 (tw @Xx (tw @Za (tw @wm @ql))))))) ?_;(repeat(refine Pn.mk ?_;intro N hN))))
  refine⟨m-1,ab,xs++[u],⟨7006005,σ3.next⟩,sl @Nat.zero_add,sl @Bs,sl @UE,⟨a,z,by rw[Bs];omega,by simp only[go_sem, ↓reduceIte,Nat.reduceEqDiff,Nat.reduceAdd,Nat.reduceSub,Nat.reduceLeDiff,reduceCtorEq,Zb,e1]<;>exact gX⟩,by rw[Bs];omega,fun x hx=>?_,cD,cD,fun e=>by have:=congrArg Id.cV e;(try dsimp only at this);omega⟩
  rcases List.mem_append.1 hx with h|h
  ·exact hr x h
  ·rw[List.mem_singleton.1 h];exact⟨u0,u1⟩
 ·(try((repeat(revert hN;revert N;apply Pn.out));refine wk (tw @b7 (tw @b8 (tw @b9 @hm))) ?_;(repeat(refine Pn.mk ?_;intro N hN))))
  exact⟨[.own w 0 xs.length],sd @b8,_,by simp only[gp];exact eT (e:=ah) gw rfl fun x=>Ef _ _ _,xs,rfl,ab,hr⟩
def la (xs:List Int):Prop:=xs.length<=24/\∀x∈xs,0<=x/\x<2
theorem oy (num:Int) (h0:0<=num/\num<=255) (xs:List Int) (h:la xs):az Tryz.prog 27 [.int .i64 num,.sl (xs.map ah)] (.bool true):=by
 refine az.body fC rfl fun fb n0=>?_
 clear fb
 have i1:=fR num 0 255
 rw[jm h0.1 h0.2]at i1
 have i2:=Ad xs 2 ab (fun v hv=>jm (h.2 v hv).1 (by have:=(h.2 v hv).2;omega)) (by have:=h.1;omega)
 have fJ:(xs.map ah).length=xs.length:=by simp
 have hd:decide ((xs.length:Int)<=24)=true:=decide_eq_true (by have:=h.1;omega)
 have F4:(xs.length:Int)<=24:=by have:=h.1;omega
 (repeat(first|((repeat(revert hN;revert N;apply Pn.out));refine wk (tw @fJ (tw @hd @F4)) ?_;(repeat(refine Pn.mk ?_;intro N hN)))|((try apply Or.inl);refine⟨_,az.x (i1) (sd (tw @fJ (tw @hd @F4))),?_⟩;refine hN _ _ ?_;clear hN N)|((try apply Or.inl);refine⟨_,az.x (i2) (sd (tw @fJ (tw @hd @F4))),?_⟩;refine hN _ _ ?_;clear hN N)))
 exact dQ (b:=true) (.inl rfl) (sd @Nat.zero_add) rfl
theorem EF (xs:List Int) (h:la xs):az Tryz.prog 29 [.sl (xs.map ah)] (.bool true):=by
 refine az.body fC rfl fun fb n0=>?_
 clear fb
 have fJ:(xs.map ah).length=xs.length:=by simp
 have F4:¬(24:Int)<(xs.length:Int):=by have:=h.1;omega
 (try((repeat(revert hN;revert N;apply Pn.out));refine wk (tw @fJ @F4) ?_;(repeat(refine Pn.mk ?_;intro N hN))))
 refine dc (fun n env st=>∃k:Nat,n=(xs.length)-k/\k<=(xs.length)/\env 3=.int .i64 (k:Int)) (xs.length) ⟨0,ab,ab,sl @fJ⟩ ?_
 rintro n_a env_a st_a ⟨k,rfl,ale,a3⟩ eR
 have a0:=eR 0 (by kernel_rfl)
 simp only[go_sem, ↓reduceIte,Nat.reduceEqDiff,Nat.reduceAdd,Nat.reduceSub,Nat.reduceLeDiff,reduceCtorEq,fJ]at a0
 clear eR
 by_cases hk:(k:Int)<(xs.length:Int)
 ·have eF:∀{e:Env},(e 3=.int .i64 (IntKind.i64.wrap ((k:Int)+1)))->∃m0,m0<(xs.length)-k/\∃k:Nat,m0=(xs.length)-k/\k<=(xs.length)/\e 3=.int .i64 (k:Int):=fun x1=>⟨_,ab,k+1,rfl,ab,(by rw[x1,cE ab])⟩
  have jv:k<xs.length:=ab
  have je:(xs.map ah)[k]? =some [.int .i64 (xs.getD k 0)]:=getD_map (d:=0) ah jv
  have im:=h.2 (xs.getD k 0) (by rw[List.getD_eq_getElem?_getD,List.getElem?_eq_getElem jv];exact List.getElem_mem jv)
  have h1:=NZ (xs.getD k 0) 0 1
  rw[jm im.1 (show xs.getD k 0<=1 by omega)]at h1
  (repeat(first|((repeat(revert hN;revert N;apply Pn.out));refine wk (tw @a3 (tw @a0 (tw @hk (tw @je @fJ)))) ?_;(repeat(refine Pn.mk ?_;intro N hN)))|((try apply Or.inl);refine⟨_,az.x (h1) (sd (tw @a3 (tw @a0 (tw @hk (tw @je @fJ))))),?_⟩;refine hN _ _ ?_;clear hN N)))
  exact eF (sd (tw @a3 @a0))
 ·(try((repeat(revert hN;revert N;apply Pn.out));refine wk (tw @a3 (tw @a0 (tw @hk @fJ))) ?_;(repeat(refine Pn.mk ?_;intro N hN))))
  exact dQ (b:=true) (.inl rfl) (sd @Nat.zero_add) rfl
theorem JN (l:List Int) (hl:l.length<=1048576):az Tryz.prog 11 [.sl (l.map ah),.sl (l.map ah)] (.bool true):=by
 refine az.body fC rfl fun fb n0=>?_
 clear fb
 have fJ:(l.map ah).length=l.length:=by simp
 have hd:∀x:Int,decide (x=x)=true:=fun x=>decide_eq_true rfl
 (try((repeat(revert hN;revert N;apply Pn.out));refine wk (tw @fJ @hd) ?_;(repeat(refine Pn.mk ?_;intro N hN))))
 refine dc (fun n env st=>∃k:Nat,n=(l.length)-k/\k<=(l.length)/\env 5=.int .i64 (k:Int)) (l.length) ⟨0,ab,ab,sl (tw @fJ @hd)⟩ ?_
 rintro n_b env_b st_b ⟨k,rfl,ble,b5⟩ fG
 have b0:=fG 0 (by kernel_rfl);have b1:=fG 1 (by kernel_rfl)
 simp only[go_sem, ↓reduceIte,Nat.reduceEqDiff,Nat.reduceAdd,Nat.reduceSub,Nat.reduceLeDiff,reduceCtorEq,fJ,hd]at b0 b1
 clear fG
 by_cases hk:(k:Int)<(l.length:Int)
 ·have gi:∀{e:Env},(e 5=.int .i64 (IntKind.i64.wrap ((k:Int)+1)))->∃m0,m0<(l.length)-k/\∃k:Nat,m0=(l.length)-k/\k<=(l.length)/\e 5=.int .i64 (k:Int):=fun x1=>⟨_,ab,k+1,rfl,ab,(by rw[x1,cE ab])⟩
  have je:(l.map ah)[k]? =some [.int .i64 (l.getD k 0)]:=getD_map (d:=0) ah ab
  (try((repeat(revert hN;revert N;apply Pn.out));refine wk (tw @b5 (tw @b0 (tw @b1 (tw @hk (tw @je (tw @fJ @hd)))))) ?_;(repeat(refine Pn.mk ?_;intro N hN))))
  exact gi (sd (tw @b5 (tw @b0 @b1)))
 ·(try((repeat(revert hN;revert N;apply Pn.out));refine wk (tw @b5 (tw @b0 (tw @b1 (tw @hk @fJ)))) ?_;(repeat(refine Pn.mk ?_;intro N hN))))
  exact dQ (b:=true) (.inl rfl) (sd @Nat.zero_add) rfl
def lX (xs:List Int) (k:Nat):Int:=2*xs.getD (2*k) 0+xs.getD (2*k+1) 0
def gJ (xs:List Int) (j:Nat):List Int:=(List.range j).map (lX xs)
theorem jP (xs:List Int) (j:Nat):(gJ xs j).length=j:=by simp[gJ]
theorem GY (xs:List Int) (j:Nat):gJ xs (j+1)=gJ xs j++[lX xs j]:=by simp[gJ,List.range_succ]
theorem uD {xs:List Int} (h:la xs) {k:Nat} (hk:2*k+1<xs.length):0<=lX xs k/\lX xs k<4:=by
 have at_:∀i,i<xs.length->0<=xs.getD i 0/\xs.getD i 0<2:=fun i hi=>by
  rw[List.getD_eq_getElem?_getD,List.getElem?_eq_getElem hi];exact h.2 _ (List.getElem_mem hi)
 have h1:=at_ (2*k) ab
 have h2:=at_ (2*k+1) hk
 unfold lX
 omega
end
def JI (num:Int) (k:Nat):Int:=IntKind.i64.wrap ((BitVec.ofInt 64 (num.fdiv (2 ^ min k 64))&&& BitVec.ofInt 64 1).toNat:Int)
theorem Aq (num:Int) (k:Nat):0<=JI num k/\JI num k<=1:=by
 unfold JI
 have h:(BitVec.ofInt 64 (num.fdiv (2 ^ min k 64))&&& BitVec.ofInt 64 1).toNat=0∨(BitVec.ofInt 64 (num.fdiv (2 ^ min k 64))&&& BitVec.ofInt 64 1).toNat=1:=by
  rw[BitVec.toNat_and,show(BitVec.ofInt 64 1).toNat=1 from rfl,Nat.and_one_is_mod]
  omega
 rcases h with h|h<;>rw[h]<;>exact⟨by decide,by decide⟩
def VN (num:Int) (j:Nat):Int:=2*JI num (4*(j / 4 / 2)+2*(j / 4 % 2)+j % 4 / 2)+JI num (4*(j / 4 % 2)+2*(j % 4 / 2)+j % 4 % 2)
def kW (num:Int) (j:Nat):List Int:=(List.range j).map (VN num)
theorem Bi (num:Int) (j:Nat):(kW num j).length=j:=by simp[kW]
theorem LW (num:Int) (j:Nat):kW num (j+1)=kW num j++[VN num j]:=by simp[kW,List.range_succ]
theorem Ft (num:Int):Iw 4 (kW num 16) (4*4):=⟨Bi num 16,fun v hv=>by
 obtain⟨j,_,rfl⟩:=List.mem_map.1 hv
 have h1:=Aq num (4*(j / 4 / 2)+2*(j / 4 % 2)+j % 4 / 2)
 have h2:=Aq num (4*(j / 4 % 2)+2*(j % 4 / 2)+j % 4 % 2)
 unfold VN
 omega⟩
theorem RN {i:Nat} (h:i<100):IntKind.i64.wrap ((i:Int).tdiv 2)=((i / 2:Nat):Int):=by
 rw[Int.tdiv_eq_ediv_of_nonneg ab]
 have:(i:Int) / 2=((i / 2:Nat):Int):=ab
 rw[this]
 exact cH ab
theorem RT {i:Nat}:(i:Int).tmod 2=((i % 2:Nat):Int):=by
 rw[Int.tmod_eq_emod_of_nonneg ab]
 omega
section
set_option maxRecDepth 100000
set_option maxHeartbeats 8000000
theorem qW (num:Int) (a b c:Nat) (ha:a<2) (hb:b<2) (hc:c<2):az Tryz.prog 63 [.int .i64 num,.int .i64 (a:Int),.int .i64 (b:Int),.int .i64 (c:Int)] (.int .i64 (JI num (4*a+2*b+c))):=by
 refine az.body fC rfl fun fb n0=>?_
 clear fb
 have e1:IntKind.i64.wrap (4*(a:Int))=((4*a:Nat):Int):=by rw[show 4*(a:Int)=((4*a:Nat):Int) by omega];exact cH ab
 have e2:IntKind.i64.wrap (2*(b:Int))=((2*b:Nat):Int):=by rw[show 2*(b:Int)=((2*b:Nat):Int) by omega];exact cH ab
 have e3:IntKind.i64.wrap (((4*a:Nat):Int)+((2*b:Nat):Int))=((4*a+2*b:Nat):Int):=by rw[show((4*a:Nat):Int)+((2*b:Nat):Int)=((4*a+2*b:Nat):Int) by omega];exact cH ab
 have e4:IntKind.i64.wrap (((4*a+2*b:Nat):Int)+(c:Int))=((4*a+2*b+c:Nat):Int):=by rw[show((4*a+2*b:Nat):Int)+(c:Int)=((4*a+2*b+c:Nat):Int) by omega];exact cH ab
 have e5:(0:Int)<=((4*a+2*b+c:Nat):Int):=ab
 have e6:((4*a+2*b+c:Nat):Int).toNat=4*a+2*b+c:=Int.toNat_natCast _
 generalize 4*a+2*b+c=k at *
 (try((repeat(revert hN;revert N;apply Pn.out));refine wk (tw @e1 (tw @e2 (tw @e3 (tw @e4 (tw @e5 @e6))))) ?_;(repeat(refine Pn.mk ?_;intro N hN))))
 exact e7 (b:=JI num k) (.inl rfl) (sl @Nat.zero_add) rfl
def GP (num:Int) (n0:Nat) (g:Rows) (n:Nat) (v:AV) (j:Nat):Prop:=(j=0/\v=.bP)∨∃o:Id,v=.own o 0 j/\0<j/\g o=some ⟨true,1,(kW num j).map ah⟩/\o.site=31009015/\n0<=o.cV/\o.cV<n
theorem GP.later {num:Int} {n0:Nat} {g:Rows} {n n':Nat} {v:AV} {j:Nat} (h:GP num n0 g n v j) (hn:n<=n'):GP num n0 g n' v j:=by
 rcases h with h|⟨o,h1,h2,h3,h4,h5,h6⟩
 ·exact .inl h
 ·exact .inr ⟨o,h1,h2,h3,h4,h5,ab⟩
theorem GP.cell {num:Int} {n0:Nat} {g:Rows} {n:Nat} {v:AV} {j:Nat} (h:GP num n0 g n v j):v.cells=[v]/\v.cell=true:=by
 rcases h with⟨_,rfl⟩|⟨o,rfl,_⟩<;>exact⟨rfl,rfl⟩
theorem tA (num:Int):az Tryz.prog 31 [.int .i64 num] (.agg [.int .i64 4,.sl ((kW num 16).map ah)]):=by
 refine az.body fC rfl fun fb n0=>?_
 clear fb
 (try((repeat(revert hN;revert N;apply Pn.out));refine wk @Nat.zero_add ?_;(repeat(refine Pn.mk ?_;intro N hN))))
 refine dc (fun n env st=>∃i:Nat,n=(4)-i/\i<=(4)/\env 11=.int .i64 (i:Int)/\((∃v,st.get ⟨31001001,n0+1⟩=some ⟨true,2,[[.int .i64 4,v]]⟩/\GP num (n0+2) st.get st.next v (4*i))/\st.get ⟨31000000,n0⟩=some ⟨true,2,[[.int .i64 0,.bP]]⟩/\n0+2<=st.next)) (4) ⟨0,ab,ab,sl @Nat.zero_add,by(try dsimp only);exact⟨⟨.bP,sl @Nat.zero_add,.inl ⟨rfl,rfl⟩⟩,sl @Nat.zero_add,ab⟩⟩ ?_
 rintro n_a env_a st_a ⟨i,rfl,ale,a11,qM⟩ eR
 have a0:=eR 0 (by kernel_rfl);have a2:=eR 2 (by kernel_rfl);have a3:=eR 3 (by kernel_rfl)
 simp only[go_sem, ↓reduceIte,Nat.reduceEqDiff,Nat.reduceAdd,Nat.reduceSub,Nat.reduceLeDiff,reduceCtorEq]at a0 a2 a3
 clear eR
 obtain⟨⟨v,aX,aV⟩,aC,aN⟩:=qM
 by_cases hi:(i:Int)<((4:Nat):Int)
 ·have eF:∀{e:Env} {gg:Rows} {nx:Nat},(e 11=.int .i64 (IntKind.i64.wrap ((i:Int)+1)))->((∃v,gg ⟨31001001,n0+1⟩=some ⟨true,2,[[.int .i64 4,v]]⟩/\GP num (n0+2) gg nx v (4*(i+1)))/\gg ⟨31000000,n0⟩=some ⟨true,2,[[.int .i64 0,.bP]]⟩/\n0+2<=nx)->∃m0,m0<(4)-i/\∃i:Nat,m0=(4)-i/\i<=(4)/\e 11=.int .i64 (i:Int)/\((∃v,gg ⟨31001001,n0+1⟩=some ⟨true,2,[[.int .i64 4,v]]⟩/\GP num (n0+2) gg nx v (4*i))/\gg ⟨31000000,n0⟩=some ⟨true,2,[[.int .i64 0,.bP]]⟩/\n0+2<=nx):=fun x1 x2=>⟨_,ab,i+1,rfl,ab,(by rw[x1,cE ab]),x2⟩
  have X7:(i:Int)<4:=hi
  have im:i<4:=ab
  (try((repeat(revert hN;revert N;apply Pn.out));refine wk (tw @a11 (tw @a0 (tw @a2 (tw @a3 @X7)))) ?_;(repeat(refine Pn.mk ?_;intro N hN))))
  refine dc (fun n env st=>∃j:Nat,n=(4)-j/\j<=(4)/\env 14=.int .i64 (j:Int)/\((∃v,st.get ⟨31001001,n0+1⟩=some ⟨true,2,[[.int .i64 4,v]]⟩/\GP num (n0+2) st.get st.next v (4*i+j))/\st.get ⟨31000000,n0⟩=some ⟨true,2,[[.int .i64 0,.bP]]⟩/\n0+2<=st.next)) (4) ⟨0,ab,ab,sl (tw @a11 (tw @a0 (tw @a2 @a3))),by(try dsimp only);exact⟨⟨v,aX,by rw[Nat.add_zero];exact aV.later cD⟩,aC,ab⟩⟩ ?_
  rintro n_b env_b st_b ⟨j,rfl,ble,Bl,bI0⟩ fG
  have b0:=fG 0 (by kernel_rfl);have b2:=fG 2 (by kernel_rfl);have b3:=fG 3 (by kernel_rfl);have b4:=fG 4 (by kernel_rfl);have lW:=fG 11 (by kernel_rfl)
  simp only[go_sem, ↓reduceIte,Nat.reduceEqDiff,Nat.reduceAdd,Nat.reduceSub,Nat.reduceLeDiff,reduceCtorEq,a11,a0,a2,a3]at b0 b2 b3 b4 lW
  clear fG
  clear aX aV
  obtain⟨⟨v,bX,bV⟩,bC,bN⟩:=bI0
  by_cases hj:(j:Int)<((4:Nat):Int)
  ·have gi:∀{e:Env} {gg:Rows} {nx:Nat},(e 14=.int .i64 (IntKind.i64.wrap ((j:Int)+1)))->((∃v,gg ⟨31001001,n0+1⟩=some ⟨true,2,[[.int .i64 4,v]]⟩/\GP num (n0+2) gg nx v (4*i+(j+1)))/\gg ⟨31000000,n0⟩=some ⟨true,2,[[.int .i64 0,.bP]]⟩/\n0+2<=nx)->∃m0,m0<(4)-j/\∃j:Nat,m0=(4)-j/\j<=(4)/\e 14=.int .i64 (j:Int)/\((∃v,gg ⟨31001001,n0+1⟩=some ⟨true,2,[[.int .i64 4,v]]⟩/\GP num (n0+2) gg nx v (4*i+j))/\gg ⟨31000000,n0⟩=some ⟨true,2,[[.int .i64 0,.bP]]⟩/\n0+2<=nx):=fun x1 x2=>⟨_,ab,j+1,rfl,ab,(by rw[x1,cE ab]),x2⟩
   have Pu:(j:Int)<4:=hj
   have pO:j<4:=ab
   have e1:=RN (i:=i) ab
   have e2:=RT (i:=i)
   have e3:=RN (i:=j) ab
   have e4:=RT (i:=j)
   have o1:=qW num (i / 2) (i % 2) (j / 2) ab ab ab
   have o2:=qW num (i % 2) (j / 2) (j % 2) ab ab ab
   have hx:=Aq num (4*(i / 2)+2*(i % 2)+j / 2)
   have hy:=Aq num (4*(i % 2)+2*(j / 2)+j % 2)
   have ht:VN num (4*i+j)=2*JI num (4*(i / 2)+2*(i % 2)+j / 2)+JI num (4*(i % 2)+2*(j / 2)+j % 2):=by
    unfold VN
    rw[show(4*i+j) / 4=i by omega,show(4*i+j) % 4=j by omega]
   generalize JI num (4*(i / 2)+2*(i % 2)+j / 2)=x at *
   generalize JI num (4*(i % 2)+2*(j / 2)+j % 2)=y at *
   have e5:IntKind.i64.wrap (2*x)=2*x:=cH ab
   have e6:IntKind.i64.wrap (2*x+y)=2*x+y:=cH ab
   have qE:(kW num (4*i+(j+1))).map ah=(kW num (4*i+j)).map ah++[[.int .i64 (2*x+y)]]:=by
    rw[<-Nat.add_assoc,LW,List.map_append,ht];rfl
   have Dv:((kW num (4*i+j)).map ah).length=4*i+j:=by rw[List.length_map,Bi]
   have ql:4*i+j<=16777215:=ab
   have US:4*i+j=0->(kW num (4*i+j)).map ah=[]:=fun e=>by rw[e];rfl
   have wX:=dF (i:=⟨31001001,n0+1⟩) (n:=st_b.next) cD
   have wC:=dF (i:=⟨31000000,n0⟩) (n:=st_b.next) cD
   unfold GP at bV
   rcases bV with⟨k0,rfl⟩|⟨o,rfl,k0,go,zo,o0,o1'⟩
   ·rw[US k0,List.nil_append]at qE
    have sK:4*i+(j+1)=1:=ab
    (repeat(first|((repeat(revert hN;revert N;apply Pn.out));refine wk (tw @Bl (tw @b0 (tw @b2 (tw @b3 (tw @b4 (tw @lW (tw @Pu (tw @e1 (tw @e2 (tw @e3 (tw @e4 (tw @e5 (tw @e6 (tw @bX @wX)))))))))))))) ?_;(repeat(refine Pn.mk ?_;intro N hN)))|((try apply Or.inl);refine⟨_,az.x (o1) (sd (tw @Bl (tw @b0 (tw @b2 (tw @b3 (tw @b4 (tw @lW (tw @Pu (tw @e1 (tw @e2 (tw @e3 (tw @e4 (tw @e5 (tw @e6 (tw @bX @wX))))))))))))))),?_⟩;refine hN _ _ ?_;clear hN N)|((try apply Or.inl);refine⟨_,az.x (o2) (sd (tw @Bl (tw @b0 (tw @b2 (tw @b3 (tw @b4 (tw @lW (tw @Pu (tw @e1 (tw @e2 (tw @e3 (tw @e4 (tw @e5 (tw @e6 (tw @bX @wX))))))))))))))),?_⟩;refine hN _ _ ?_;clear hN N)))
    exact gi (sd (tw @Bl (tw @b0 (tw @b2 (tw @b3 (tw @b4 @lW)))))) (by(try dsimp only);exact⟨⟨.own ⟨31009015,st_b.next+1+1+1⟩ 0 1,sl @wX,.inr ⟨⟨31009015,st_b.next+1+1+1⟩,by rw[sK],ab,by rw[qE];simp only[go_sem, ↓reduceIte,Nat.reduceEqDiff,Nat.reduceAdd,Nat.reduceSub,Nat.reduceLeDiff,reduceCtorEq,wX]<;>rfl,rfl,cD,cD⟩⟩,sd (tw @wC @bC),ab⟩)
   ·have wo:=dF o1'
    have oX:=eY zo (b:=31001001) (v:=n0+1) (by decide)
    have oC:=eY zo (b:=31000000) (v:=n0) (by decide)
    (repeat(first|((repeat(revert hN;revert N;apply Pn.out));refine wk (tw @Bl (tw @b0 (tw @b2 (tw @b3 (tw @b4 (tw @lW (tw @Pu (tw @e1 (tw @e2 (tw @e3 (tw @e4 (tw @e5 (tw @e6 (tw @bX (tw @wX (tw @go (tw @wo (tw @oX (tw @Dv @ql))))))))))))))))))) ?_;(repeat(refine Pn.mk ?_;intro N hN)))|((try apply Or.inl);refine⟨_,az.x (o1) (sd (tw @Bl (tw @b0 (tw @b2 (tw @b3 (tw @b4 (tw @lW (tw @Pu (tw @e1 (tw @e2 (tw @e3 (tw @e4 (tw @e5 (tw @e6 (tw @bX (tw @wX (tw @go (tw @wo (tw @oX (tw @Dv @ql)))))))))))))))))))),?_⟩;refine hN _ _ ?_;clear hN N)|((try apply Or.inl);refine⟨_,az.x (o2) (sd (tw @Bl (tw @b0 (tw @b2 (tw @b3 (tw @b4 (tw @lW (tw @Pu (tw @e1 (tw @e2 (tw @e3 (tw @e4 (tw @e5 (tw @e6 (tw @bX (tw @wX (tw @go (tw @wo (tw @oX (tw @Dv @ql)))))))))))))))))))),?_⟩;refine hN _ _ ?_;clear hN N)))
    exact gi (sd (tw @Bl (tw @b0 (tw @b2 (tw @b3 (tw @b4 @lW)))))) (by(try dsimp only);exact⟨⟨.own ⟨31009015,st_b.next+1+1+1⟩ 0 (4*i+j+1),sl (tw @wX @oX),.inr ⟨⟨31009015,st_b.next+1+1+1⟩,by rw[Nat.add_assoc (4*i) j 1],ab,by rw[qE];simp only[go_sem, ↓reduceIte,Nat.reduceEqDiff,Nat.reduceAdd,Nat.reduceSub,Nat.reduceLeDiff,reduceCtorEq,wX,wo,oX]<;>rfl,rfl,cD,cD⟩⟩,sd (tw @wC (tw @bC @oC)),ab⟩)
  ·have Pu:¬(j:Int)<4:=hj
   have pO:j=4:=ab
   (try((repeat(revert hN;revert N;apply Pn.out));refine wk (tw @Bl (tw @b0 (tw @b2 (tw @b3 (tw @b4 (tw @lW @Pu)))))) ?_;(repeat(refine Pn.mk ?_;intro N hN))))
   rw[pO,show 4*i+4=4*(i+1) by omega]at bV
   exact eF (sd (tw @Bl (tw @b0 (tw @b2 (tw @b3 (tw @b4 @lW)))))) (by(try dsimp only);exact⟨⟨v,bX,bV.later cD⟩,bC,ab⟩)
 ·have X7:¬(i:Int)<4:=hi
  have im:i=4:=ab
  rw[im]at aV
  have vc:=aV.cell
  obtain⟨vc1,vc2⟩:=vc
  unfold GP at aV
  rcases aV with⟨k0,_⟩|⟨o,rfl,k0,go,zo,o0,o1⟩
  ·omega
  have wX:=dF (i:=⟨31001001,n0+1⟩) (n:=st_a.next) cD
  have oC:=eY zo (b:=31000000) (v:=n0) (by decide)
  (try((repeat(revert hN;revert N;apply Pn.out));refine wk (tw @a11 (tw @a0 (tw @a2 (tw @a3 (tw @X7 (tw @aX (tw @aC @wX))))))) ?_;(repeat(refine Pn.mk ?_;intro N hN))))
  have hz:gx (bz st_a.get ⟨31000000,n0⟩ ⟨true,2,[[.int .i64 4,.own o 0 (4*4)]]⟩) 5 (.own o 0 (4*4))=some (.sl ((kW num 16).map ah)):=eT (e:=ah) (n:=4) (by simp only[go_sem, ↓reduceIte,Nat.reduceEqDiff,Nat.reduceAdd,Nat.reduceSub,Nat.reduceLeDiff,reduceCtorEq,oC]<;>exact go) (by rw[Bi]) fun x=>Ef _ _ _
  exact⟨[.agg [.int .i64 4,.own o 0 (4*4)]],sd (tw @a11 (tw @a0 (tw @a2 @a3))),.agg [.int .i64 4,.sl ((kW num 16).map ah)],by simp only[gp,Ax,cQ,dD,hz,eV,Option.map_some]<;>rfl,rfl⟩
theorem Bu (num:Int) (h0:0<=num/\num<=255):O5 Tryz.prog 10 [.int .i64 num] (.fN [.agg [.int .i64 4,.sl ((kW num 16).map ah)],.int .i64 0]):=by
 refine O5.body fC rfl fun fb σ=>?_
 clear fb
 obtain⟨gs,n0⟩:=σ
 (try dsimp only)
 have i1:=fR num 0 255
 rw[jm h0.1 h0.2]at i1
 have i2:=tA num
 (repeat(first|((repeat(revert hN;revert N;apply Pn.out));refine wk @Nat.zero_add ?_;(repeat(refine Pn.mk ?_;intro N hN)))|((try apply Or.inl);refine⟨_,az.x (i1) (sd @Nat.zero_add),?_⟩;refine hN _ _ ?_;clear hN N)|((try apply Or.inl);refine⟨_,az.x (i2) (sd @Nat.zero_add),?_⟩;refine hN _ _ ?_;clear hN N)))
 exact Vs (.inl rfl) (vs:=[.agg [.int .i64 4,.sl ((kW num 16).map ah)],.int .i64 0]) (sd @Nat.zero_add) (by simp only[gp,aZ,aS,ad,ae,bI,aP,Option.map_some])
end
def P5:Prop:=∀(xs:List Int) (k:Nat),la xs->xs.length=2*k->1<=k->az Tryz.prog 28 [.sl (xs.map ah)] (.sl ((gJ xs k).map ah))
theorem uF {xs:List Int} (h:la xs) {i:Nat} (hi:i<xs.length):0<=xs.getD i 0/\xs.getD i 0<2:=by
 rw[List.getD_eq_getElem?_getD,List.getElem?_eq_getElem hi];exact h.2 _ (List.getElem_mem hi)
theorem vN (k:Nat):(((2*k:Nat):Int)).tmod 2=0:=by
 rw[Int.tmod_eq_emod_of_nonneg ab]
 omega
section
set_option maxRecDepth 100000
set_option maxHeartbeats 8000000
theorem Dz (xs:List Int) (k0:Nat) (h:la xs) (oJ:xs.length=2*k0):az Tryz.prog 9 [.sl (xs.map ah)] (.fN [.sl ((gJ xs k0).map ah),.int .i64 0]):=by
 refine az.body fC rfl fun fb n0=>?_
 clear fb
 have Wh:=h.1
 have i1:=EF xs h
 have fJ:(xs.map ah).length=2*k0:=by rw[List.length_map,oJ]
 have hr:=vN k0
 have hd:∀x:Int,decide (x=x)=true:=fun x=>decide_eq_true rfl
 (repeat(first|((repeat(revert hN;revert N;apply Pn.out));refine wk (tw @fJ (tw @hr @hd)) ?_;(repeat(refine Pn.mk ?_;intro N hN)))|((try apply Or.inl);refine⟨_,az.x (i1) (sd (tw @fJ (tw @hr @hd))),?_⟩;refine hN _ _ ?_;clear hN N)))
 refine dc (fun n env st=>∃k:Nat,n=(k0)-k/\k<=(k0)/\(env 5=.int .i64 ((2*k:Nat):Int)/\∃o:Id,env 4=.own o 0 k/\st.get o=some ⟨true,1,(gJ xs k).map ah⟩/\o.cV<st.next)) (k0) ⟨0,ab,ab,by(try dsimp only);exact⟨sl @Nat.zero_add,⟨9003000,_⟩,sl @Nat.zero_add,sl @Nat.zero_add,cD⟩⟩ ?_
 rintro n_a env_a st_a ⟨k,rfl,ale,qM⟩ eR
 have a0:=eR 0 (by kernel_rfl)
 simp only[go_sem, ↓reduceIte,Nat.reduceEqDiff,Nat.reduceAdd,Nat.reduceSub,Nat.reduceLeDiff,reduceCtorEq,fJ]at a0
 clear eR
 obtain⟨a5,o,a4,go,ov⟩:=qM
 by_cases hk:((2*k:Nat):Int)<((2*k0:Nat):Int)
 ·have eF:∀{e:Env} {gg:Rows} {nx:Nat},(e 5=.int .i64 ((2*(k+1):Nat):Int)/\∃o:Id,e 4=.own o 0 (k+1)/\gg o=some ⟨true,1,(gJ xs (k+1)).map ah⟩/\o.cV<nx)->∃m0,m0<(k0)-k/\∃k:Nat,m0=(k0)-k/\k<=(k0)/\(e 5=.int .i64 ((2*k:Nat):Int)/\∃o:Id,e 4=.own o 0 k/\gg o=some ⟨true,1,(gJ xs k).map ah⟩/\o.cV<nx):=fun x1=>⟨_,ab,k+1,rfl,ab,x1⟩
  have jv:2*k+1<xs.length:=ab
  have g1:(xs.map ah)[2*k]? =some [.int .i64 (xs.getD (2*k) 0)]:=getD_map (d:=0) ah ab
  have g2:(xs.map ah)[2*k+1]? =some [.int .i64 (xs.getD (2*k+1) 0)]:=getD_map (d:=0) ah jv
  have c1:=uF h (i:=2*k) ab
  have c2:=uF h (i:=2*k+1) jv
  have IG:(gJ xs (k+1)).map ah=(gJ xs k).map ah++[[.int .i64 (2*xs.getD (2*k) 0+xs.getD (2*k+1) 0)]]:=by rw[GY,List.map_append];rfl
  have iY:((gJ xs k).map ah).length=k:=by rw[List.length_map,jP]
  generalize xs.getD (2*k) 0=x at *
  generalize xs.getD (2*k+1) 0=y at *
  have e1:IntKind.i64.wrap (2*x)=2*x:=cH ab
  have e2:IntKind.i64.wrap (2*x+y)=2*x+y:=cH ab
  have e3:IntKind.i64.wrap (((2*k:Nat):Int)+1)=((2*k+1:Nat):Int):=by rw[show((2*k:Nat):Int)+1=((2*k+1:Nat):Int) by omega];exact cH ab
  have e4:IntKind.i64.wrap (((2*k:Nat):Int)+2)=((2*(k+1):Nat):Int):=by rw[show((2*k:Nat):Int)+2=((2*(k+1):Nat):Int) by omega];exact cH ab
  have h1:((2*k+1:Nat):Int)<((2*k0:Nat):Int):=ab
  have z1:(0:Int)<=((2*k:Nat):Int):=ab
  have z2:(0:Int)<=((2*k+1:Nat):Int):=ab
  have t1:((2*k:Nat):Int).toNat=2*k:=Int.toNat_natCast _
  have t2:((2*k+1:Nat):Int).toNat=2*k+1:=Int.toNat_natCast _
  have ql:k<=16777215:=ab
  have vo:=dF ov
  (try((repeat(revert hN;revert N;apply Pn.out));refine wk (tw @a0 (tw @a5 (tw @a4 (tw @hk (tw @h1 (tw @z1 (tw @z2 (tw @t1 (tw @t2 (tw @fJ (tw @g1 (tw @g2 (tw @e1 (tw @e2 (tw @e3 (tw @e4 (tw @go (tw @vo (tw @iY @ql))))))))))))))))))) ?_;(repeat(refine Pn.mk ?_;intro N hN))))
  exact eF (by(try dsimp only);exact⟨sd @e4,⟨9007013,st_a.next+1⟩,sl @Nat.zero_add,by rw[IG];simp only[go_sem, ↓reduceIte,Nat.reduceEqDiff,Nat.reduceAdd,Nat.reduceSub,Nat.reduceLeDiff,reduceCtorEq,vo]<;>rfl,cD⟩)
 ·have jv:k=k0:=ab
  subst jv
  (try((repeat(revert hN;revert N;apply Pn.out));refine wk (tw @a0 (tw @a5 (tw @a4 (tw @hk @fJ)))) ?_;(repeat(refine Pn.mk ?_;intro N hN))))
  exact⟨[.own o 0 k,.int .i64 0],sd @a4,.fN [.sl ((gJ xs k).map ah),.int .i64 0],by simp only[gp,gn,cQ,dD,eV,Option.map_some,eT (e:=ah) (n:=4) go (by rw[jP]) fun x=>Ef _ _ _],rfl⟩
theorem Dy (hB:P5) (xs:List Int) (k0:Nat) (h:la xs) (oJ:xs.length=2*k0) (k1:1<=k0):O5 Tryz.prog 8 [.sl (xs.map ah)] (.fN [.sl ((gJ xs k0).map ah),.int .i64 0]):=by
 refine O5.body fC rfl fun fb σ=>?_
 clear fb
 obtain⟨gs,n0⟩:=σ
 (try dsimp only)
 have i1:=oy 0 ab xs h
 have i2:=hB xs k0 h oJ k1
 have fJ:(xs.map ah).length=2*k0:=by rw[List.length_map,oJ]
 have hr:=vN k0
 have hd:decide ((0:Int)=1)=false:=rfl
 (repeat(first|((repeat(revert hN;revert N;apply Pn.out));refine wk (tw @fJ (tw @hr @hd)) ?_;(repeat(refine Pn.mk ?_;intro N hN)))|((try apply Or.inl);refine⟨_,az.x (i1) (sd (tw @fJ (tw @hr @hd))),?_⟩;refine hN _ _ ?_;clear hN N)|((try apply Or.inl);refine⟨_,az.x (i2) (sd (tw @fJ (tw @hr @hd))),?_⟩;refine hN _ _ ?_;clear hN N)))
 exact Vs (.inl rfl) (vs:=[.sl ((gJ xs k0).map ah),.int .i64 0]) (sd @Nat.zero_add) (by simp only[gp,aZ,aS,ad,ae,bI,aP,Option.map_some])
end
def MH (a b:Prop):Prop:=a∨b
def zB (num:Int) (xs:List Int) (j:Nat):Int:=(kW num 16).getD ((lX xs j).toNat*4+(lX xs (j+1)).toNat) 0
def yp (num:Int) (xs:List Int) (j:Nat):List Int:=(List.range j).map (zB num xs)
theorem Gp (num:Int) (xs:List Int) (j:Nat):(yp num xs j).length=j:=by simp[yp]
theorem K1 (num:Int) (xs:List Int) (j:Nat):yp num xs (j+1)=yp num xs j++[zB num xs j]:=by simp[yp,List.range_succ]
def Of (num:Int) (xs:List Int) (i:Nat):Int:=if i % 2=0 then zB num xs (i / 2) / 2 else zB num xs (i / 2) % 2
def uP (num:Int) (xs:List Int) (j:Nat):List Int:=(List.range (2*j)).map (Of num xs)
theorem AY (num:Int) (xs:List Int) (j:Nat):(uP num xs j).length=2*j:=by simp[uP]
theorem K7 (num:Int) (xs:List Int) (j:Nat):uP num xs (j+1)=uP num xs j++[zB num xs j / 2,zB num xs j % 2]:=by
 unfold uP
 rw[show 2*(j+1)=2*j+1+1 by omega,List.range_succ,List.range_succ]
 simp only[List.map_append,List.map_cons,List.map_nil,List.append_assoc,List.cons_append,List.nil_append]
 have e1:Of num xs (2*j)=zB num xs j / 2:=by unfold Of;rw[if_pos ab,show 2*j / 2=j by omega]
 have e2:Of num xs (2*j+1)=zB num xs j % 2:=by unfold Of;rw[if_neg ab,show(2*j+1) / 2=j by omega]
 rw[e1,e2]
theorem yK {xs:List Int} (h:la xs) {k:Nat} (hk:2*k+1<xs.length):∃b:Nat,lX xs k=(b:Int)/\b<4:=⟨(lX xs k).toNat,by have:=uD h hk;omega,by have:=uD h hk;omega⟩
theorem K0 (num:Int) {xs:List Int} (h:la xs) {j:Nat} (hj:2*(j+1)+1<xs.length):∃b:Nat,zB num xs j=(b:Int)/\b<4:=by
 obtain⟨a,ha,ha4⟩:=yK h (k:=j) ab
 obtain⟨b,hb,Wu⟩:=yK h (k:=j+1) hj
 have:=(Ft num).at (i:=a*4+b) ab
 unfold zB
 rw[ha,hb,Int.toNat_natCast,Int.toNat_natCast]
 exact⟨((kW num 16).getD (a*4+b) 0).toNat,ab,ab⟩
section
set_option maxRecDepth 100000
set_option maxHeartbeats 16000000
theorem By (hB:P5) (num:Int) (h0:0<=num/\num<=255) (xs:List Int) (k0:Nat) (h:la xs) (oJ:xs.length=2*k0) (k2:2<=k0):az Tryz.prog 16 [.int .i64 num,.sl (xs.map ah),.int .i64 1] (.fN [.sl ((uP num xs (k0-1)).map ah),.int .i64 0]):=by
 refine az.body fC rfl fun fb n0=>?_
 clear fb
 have Wh:=h.1
 have i1:=oy num h0 xs h
 have i2:=hB xs k0 h oJ ab
 have i3:=fR 1 0 24
 rw[jm (show(0:Int)<=1 by omega) (show(1:Int)<=24 by omega)]at i3
 have i4:=tA num
 have fJ:(xs.map ah).length=2*k0:=by rw[List.length_map,oJ]
 have iY:((gJ xs k0).map ah).length=k0:=by rw[List.length_map,jP]
 have hr:=vN k0
 have hd:decide ((0:Int)=1)=false:=rfl
 have hle:¬(k0:Int)<=1:=ab
 (repeat(first|((repeat(revert hN;revert N;apply Pn.out));refine wk (tw @fJ (tw @hr (tw @hd (tw @iY @hle)))) ?_;(repeat(refine Pn.mk ?_;intro N hN)))|((try apply Or.inl);refine⟨_,az.x (i1) (sd (tw @fJ (tw @hr (tw @hd (tw @iY @hle))))),?_⟩;refine hN _ _ ?_;clear hN N)|((try apply Or.inl);refine⟨_,az.x (i2) (sd (tw @fJ (tw @hr (tw @hd (tw @iY @hle))))),?_⟩;refine hN _ _ ?_;clear hN N)|((try apply Or.inl);refine⟨_,az.x (i3) (sd (tw @fJ (tw @hr (tw @hd (tw @iY @hle))))),?_⟩;refine hN _ _ ?_;clear hN N)|((try apply Or.inl);refine⟨_,az.x (i4) (sd (tw @fJ (tw @hr (tw @hd (tw @iY @hle))))),?_⟩;refine hN _ _ ?_;clear hN N)))
 refine dc (fun n env st=>∃k:Nat,n=(1)-k/\k<=(1)/\env 39=.int .i64 (k:Int)/\(((k=0/\env 8=.sl ((gJ xs k0).map ah))∨∃o:Id,k=1/\env 8=.own o 0 (k0-1)/\st.get o=some ⟨true,1,(yp num xs (k0-1)).map ah⟩/\o.cV<st.next/\o.site=16013013)/\st.get ⟨16006002,n0+1+1+1+1⟩=some ⟨true,2,[[.int .i64 4,.sl ((kW num 16).map ah)]]⟩/\n0+1+1+1+1<st.next)) (1) ⟨0,ab,ab,sl @Nat.zero_add,by(try dsimp only);exact⟨.inl ⟨rfl,sd @Nat.zero_add⟩,sl @Nat.zero_add,ab⟩⟩ ?_
 rintro n_a env_a st_a ⟨k,rfl,ale,a39,qM⟩ eR
 have a9:=eR 9 (by kernel_rfl);have Sz:=eR 38 (by kernel_rfl)
 simp only[go_sem, ↓reduceIte,Nat.reduceEqDiff,Nat.reduceAdd,Nat.reduceSub,Nat.reduceLeDiff,reduceCtorEq]at a9 Sz
 clear eR
 obtain⟨aV,aX,aN⟩:=qM
 have Du:((yp num xs (k0-1)).map ah).length=k0-1:=by rw[List.length_map,Gp]
 by_cases hk:(k:Int)<((1:Nat):Int)
 ·have eF:∀{e:Env} {gg:Rows} {nx:Nat},(e 39=.int .i64 (IntKind.i64.wrap ((k:Int)+1)))->((((k+1)=0/\e 8=.sl ((gJ xs k0).map ah))∨∃o:Id,(k+1)=1/\e 8=.own o 0 (k0-1)/\gg o=some ⟨true,1,(yp num xs (k0-1)).map ah⟩/\o.cV<nx/\o.site=16013013)/\gg ⟨16006002,n0+1+1+1+1⟩=some ⟨true,2,[[.int .i64 4,.sl ((kW num 16).map ah)]]⟩/\n0+1+1+1+1<nx)->∃m0,m0<(1)-k/\∃k:Nat,m0=(1)-k/\k<=(1)/\e 39=.int .i64 (k:Int)/\(((k=0/\e 8=.sl ((gJ xs k0).map ah))∨∃o:Id,k=1/\e 8=.own o 0 (k0-1)/\gg o=some ⟨true,1,(yp num xs (k0-1)).map ah⟩/\o.cV<nx/\o.site=16013013)/\gg ⟨16006002,n0+1+1+1+1⟩=some ⟨true,2,[[.int .i64 4,.sl ((kW num 16).map ah)]]⟩/\n0+1+1+1+1<nx):=fun x1 x2=>⟨_,ab,k+1,rfl,ab,(by rw[x1,cE ab]),x2⟩
  have sK:(k:Int)<1:=hk
  have Uw:k=0:=ab
  rcases aV with⟨_,a8⟩|⟨o,hc,_⟩
  rotate_left
  ·omega
  (try((repeat(revert hN;revert N;apply Pn.out));refine wk (tw @a39 (tw @a9 (tw @Sz (tw @a8 @sK)))) ?_;(repeat(refine Pn.mk ?_;intro N hN))))
  refine dc (fun n env st=>∃j:Nat,n=(k0-1)-j/\j<=(k0-1)/\(env 11=.int .i64 ((j:Int)+1)/\((j=0/\env 10=.bP)∨∃o:Id,env 10=.own o 0 j/\0<j/\st.get o=some ⟨true,1,(yp num xs j).map ah⟩/\o.cV<st.next/\o.site=16013013)/\st.get ⟨16006002,n0+1+1+1+1⟩=some ⟨true,2,[[.int .i64 4,.sl ((kW num 16).map ah)]]⟩/\n0+1+1+1+1<st.next)) (k0-1) ⟨0,ab,ab,by(try dsimp only);exact⟨sl @Nat.zero_add,.inl ⟨rfl,sd @Nat.zero_add⟩,aX,ab⟩⟩ ?_
  rintro n_b env_b st_b ⟨j,rfl,ble,bI0⟩ fG
  have b8:=fG 8 (by kernel_rfl);have b9:=fG 9 (by kernel_rfl);have GU:=fG 38 (by kernel_rfl);have Qn:=fG 39 (by kernel_rfl)
  simp only[go_sem, ↓reduceIte,Nat.reduceEqDiff,Nat.reduceAdd,Nat.reduceSub,Nat.reduceLeDiff,reduceCtorEq,a39,a9,Sz,a8]at b8 b9 GU Qn
  clear fG
  obtain⟨lW,bV,bX,bN⟩:=bI0
  by_cases hj:(j:Int)+1<(k0:Int)
  ·have gi:∀{e:Env} {gg:Rows} {nx:Nat},(e 11=.int .i64 (((j+1):Int)+1)/\(((j+1)=0/\e 10=.bP)∨∃o:Id,e 10=.own o 0 (j+1)/\0<(j+1)/\gg o=some ⟨true,1,(yp num xs (j+1)).map ah⟩/\o.cV<nx/\o.site=16013013)/\gg ⟨16006002,n0+1+1+1+1⟩=some ⟨true,2,[[.int .i64 4,.sl ((kW num 16).map ah)]]⟩/\n0+1+1+1+1<nx)->∃m0,m0<(k0-1)-j/\∃j:Nat,m0=(k0-1)-j/\j<=(k0-1)/\(e 11=.int .i64 ((j:Int)+1)/\((j=0/\e 10=.bP)∨∃o:Id,e 10=.own o 0 j/\0<j/\gg o=some ⟨true,1,(yp num xs j).map ah⟩/\o.cV<nx/\o.site=16013013)/\gg ⟨16006002,n0+1+1+1+1⟩=some ⟨true,2,[[.int .i64 4,.sl ((kW num 16).map ah)]]⟩/\n0+1+1+1+1<nx):=fun x1=>⟨_,ab,j+1,rfl,ab,x1⟩
   have g1:((gJ xs k0).map ah)[j]? =some [.int .i64 (lX xs j)]:=by unfold gJ;rw[List.getElem?_map,List.getElem?_map,List.getElem?_range ab];rfl
   have g2:((gJ xs k0).map ah)[j+1]? =some [.int .i64 (lX xs (j+1))]:=by unfold gJ;rw[List.getElem?_map,List.getElem?_map,List.getElem?_range ab];rfl
   obtain⟨p,hp,hp4⟩:=yK h (k:=j) ab
   obtain⟨r,hr,hr4⟩:=yK h (k:=j+1) ab
   rw[hp]at g1
   rw[hr]at g2
   have o1:=xq 4 (kW num 16) ab (Ft num) p r hp4 hr4
   have wi:zB num xs j=(kW num 16).getD (p*4+r) 0:=by unfold zB;rw[hp,hr,Int.toNat_natCast,Int.toNat_natCast]
   rw[<-wi,show((4:Nat):Int)=4 from rfl]at o1
   have SO:(yp num xs (j+1)).map ah=(yp num xs j).map ah++[[.int .i64 (zB num xs j)]]:=by rw[K1,List.map_append];rfl
   have hnj:((yp num xs j).map ah).length=j:=by rw[List.length_map,Gp]
   have Co:j=0->(yp num xs j).map ah=[]:=fun e=>by rw[e];rfl
   generalize zB num xs j=z at *
   have e1:IntKind.i64.wrap ((j:Int)+1-1)=(j:Int):=by rw[Int.add_sub_cancel];exact cH ab
   have e2:IntKind.i64.wrap ((j:Int)+1+1)=(j:Int)+1+1:=cH ab
   have z1:(0:Int)<=(j:Int):=ab
   have z2:(0:Int)<=(j:Int)+1:=ab
   have l1:(j:Int)<(k0:Int):=ab
   have t1:((j:Int)+1).toNat=j+1:=ab
   have ql:j<=16777215:=ab
   rcases bV with⟨j0,tu⟩|⟨o,tu,j0,go,ov,zo⟩
   ·rw[Co j0,List.nil_append]at SO
    have SI:j+1=1:=ab
    (repeat(first|((repeat(revert hN;revert N;apply Pn.out));refine wk (tw @b8 (tw @b9 (tw @GU (tw @Qn (tw @lW (tw @tu (tw @hj (tw @iY (tw @g1 (tw @g2 (tw @e1 (tw @e2 (tw @z1 (tw @z2 (tw @l1 (tw @t1 @bX)))))))))))))))) ?_;(repeat(refine Pn.mk ?_;intro N hN)))|((try apply Or.inl);refine⟨_,az.x (o1) (sd (tw @b8 (tw @b9 (tw @GU (tw @Qn (tw @lW (tw @tu (tw @hj (tw @iY (tw @g1 (tw @g2 (tw @e1 (tw @e2 (tw @z1 (tw @z2 (tw @l1 (tw @t1 @bX))))))))))))))))),?_⟩;refine hN _ _ ?_;clear hN N)))
    exact gi (by(try dsimp only);exact⟨sl @e2,.inr ⟨⟨16013013,st_b.next+1⟩,by rw[SI];simp only[go_sem, ↓reduceIte,Nat.reduceEqDiff,Nat.reduceAdd,Nat.reduceSub,Nat.reduceLeDiff,reduceCtorEq]<;>rfl,ab,by rw[SO];simp only[go_sem, ↓reduceIte,Nat.reduceEqDiff,Nat.reduceAdd,Nat.reduceSub,Nat.reduceLeDiff,reduceCtorEq]<;>rfl,cD,rfl⟩,by have h9:=dF (i:=⟨16006002,n0+1+1+1+1⟩) (n:=st_b.next) cD;simp only[go_sem, ↓reduceIte,Nat.reduceEqDiff,Nat.reduceAdd,Nat.reduceSub,Nat.reduceLeDiff,reduceCtorEq,h9,bX],ab⟩)
   ·have vo:=dF ov
    have oX:=eY zo (b:=16006002) (v:=n0+1+1+1+1) (by decide)
    (repeat(first|((repeat(revert hN;revert N;apply Pn.out));refine wk (tw @b8 (tw @b9 (tw @GU (tw @Qn (tw @lW (tw @tu (tw @hj (tw @iY (tw @g1 (tw @g2 (tw @e1 (tw @e2 (tw @z1 (tw @z2 (tw @l1 (tw @t1 (tw @bX (tw @go (tw @vo (tw @hnj (tw @ql @oX))))))))))))))))))))) ?_;(repeat(refine Pn.mk ?_;intro N hN)))|((try apply Or.inl);refine⟨_,az.x (o1) (sd (tw @b8 (tw @b9 (tw @GU (tw @Qn (tw @lW (tw @tu (tw @hj (tw @iY (tw @g1 (tw @g2 (tw @e1 (tw @e2 (tw @z1 (tw @z2 (tw @l1 (tw @t1 (tw @bX (tw @go (tw @vo (tw @hnj (tw @ql @oX)))))))))))))))))))))),?_⟩;refine hN _ _ ?_;clear hN N)))
    exact gi (by(try dsimp only);exact⟨sl @e2,.inr ⟨⟨16013013,st_b.next+1⟩,sl @Nat.zero_add,ab,by rw[SO];simp only[go_sem, ↓reduceIte,Nat.reduceEqDiff,Nat.reduceAdd,Nat.reduceSub,Nat.reduceLeDiff,reduceCtorEq,vo]<;>rfl,cD,rfl⟩,by have h9:=dF (i:=⟨16006002,n0+1+1+1+1⟩) (n:=st_b.next) cD;simp only[go_sem, ↓reduceIte,Nat.reduceEqDiff,Nat.reduceAdd,Nat.reduceSub,Nat.reduceLeDiff,reduceCtorEq,h9,bX,oX],ab⟩)
  ·have pO:j=k0-1:=ab
   rcases bV with⟨j0,_⟩|⟨o,tu,j0,go,ov,zo⟩
   ·omega
   rw[pO]at tu go
   (try((repeat(revert hN;revert N;apply Pn.out));refine wk (tw @b8 (tw @b9 (tw @GU (tw @Qn (tw @lW (tw @tu (tw @hj @iY))))))) ?_;(repeat(refine Pn.mk ?_;intro N hN))))
   exact eF (sd (tw @b8 (tw @b9 (tw @GU @Qn)))) (by(try dsimp only);exact⟨.inr ⟨o,ab,sd @tu,go,cD,zo⟩,bX,cD⟩)
 ·have sK:¬(k:Int)<1:=hk
  rcases aV with⟨hc,_⟩|⟨o,_,a8,go,ov,zo⟩
  ·omega
  have vo:=dF ov
  (try((repeat(revert hN;revert N;apply Pn.out));refine wk (tw @a39 (tw @a9 (tw @Sz (tw @a8 @sK)))) ?_;(repeat(refine Pn.mk ?_;intro N hN))))
  refine dc (fun n env st=>∃j:Nat,n=(k0-1)-j/\j<=(k0-1)/\env 65=.int .i64 (j:Int)/\(MH (j=0/\env 12=.bP) (∃u:Id,env 12=.own u 0 (2*j)/\0<j/\st.get u=some ⟨true,1,(uP num xs j).map ah⟩/\u.cV<st.next/\u.site=16020006)/\st.get o=some ⟨true,1,(yp num xs (k0-1)).map ah⟩/\o.cV<st.next)) (k0-1) ⟨0,ab,ab,sl (tw @a39 (tw @a9 (tw @Sz @a8))),by(try dsimp only);exact⟨.inl ⟨rfl,sd @Nat.zero_add⟩,go,ab⟩⟩ ?_
  rintro n_d env_d st_d ⟨j,rfl,dle,d65,dI0⟩ dfr
  have d63:=dfr 63 (by kernel_rfl);have d64:=dfr 64 (by kernel_rfl)
  simp only[go_sem, ↓reduceIte,Nat.reduceEqDiff,Nat.reduceAdd,Nat.reduceSub,Nat.reduceLeDiff,reduceCtorEq,a39,a9,Sz,a8]at d63 d64
  clear dfr
  obtain⟨dV,dO,dN⟩:=dI0
  revert dV
  by_cases hj:(j:Int)<((k0-1:Nat):Int)
  ·have tZ:∀{e:Env} {gg:Rows} {nx:Nat},(e 65=.int .i64 (IntKind.i64.wrap ((j:Int)+1)))->(MH ((j+1)=0/\e 12=.bP) (∃u:Id,e 12=.own u 0 (2*(j+1))/\0<(j+1)/\gg u=some ⟨true,1,(uP num xs (j+1)).map ah⟩/\u.cV<nx/\u.site=16020006)/\gg o=some ⟨true,1,(yp num xs (k0-1)).map ah⟩/\o.cV<nx)->∃m0,m0<(k0-1)-j/\∃j:Nat,m0=(k0-1)-j/\j<=(k0-1)/\e 65=.int .i64 (j:Int)/\(MH (j=0/\e 12=.bP) (∃u:Id,e 12=.own u 0 (2*j)/\0<j/\gg u=some ⟨true,1,(uP num xs j).map ah⟩/\u.cV<nx/\u.site=16020006)/\gg o=some ⟨true,1,(yp num xs (k0-1)).map ah⟩/\o.cV<nx):=fun x1 x2=>⟨_,ab,j+1,rfl,ab,(by rw[x1,cE ab]),x2⟩
   have g1:((yp num xs (k0-1)).map ah)[j]? =some [.int .i64 (zB num xs j)]:=by unfold yp;rw[List.getElem?_map,List.getElem?_map,List.getElem?_range ab];rfl
   obtain⟨p,hp,hp4⟩:=K0 num h (j:=j) ab
   have pX:(uP num xs (j+1)).map ah=(uP num xs j).map ah++[[.int .i64 ((p / 2:Nat):Int)],[.int .i64 ((p % 2:Nat):Int)]]:=by
    rw[K7,List.map_append,hp]
    rw[show(p:Int) / 2=((p / 2:Nat):Int) by omega,show(p:Int) % 2=((p % 2:Nat):Int) by omega]
    rfl
   have UK:((uP num xs j).map ah).length=2*j:=by rw[List.length_map,AY]
   have Co:j=0->(uP num xs j).map ah=[]:=fun e=>by rw[e];rfl
   rw[hp]at g1
   have e1:=RN (i:=p) ab
   have e2:=RT (i:=p)
   have ql:2*j<=16777214:=ab
   have wo:=dF dN
   intro dV
   rcases dV with⟨j0,d12⟩|⟨u,d12,j0,gu,uv,zu⟩
   ·rw[Co j0,List.nil_append]at pX
    have SI:2*(j+1)=2:=ab
    (try((repeat(revert hN;revert N;apply Pn.out));refine wk (tw @d65 (tw @d63 (tw @d64 (tw @d12 (tw @hj (tw @Du (tw @g1 (tw @e1 (tw @e2 (tw @dO @wo)))))))))) ?_;(repeat(refine Pn.mk ?_;intro N hN))))
    exact tZ (sd (tw @d65 (tw @d63 @d64))) (by(try dsimp only);exact⟨.inr ⟨⟨16020006,st_d.next+1+1⟩,by rw[SI];simp only[go_sem, ↓reduceIte,Nat.reduceEqDiff,Nat.reduceAdd,Nat.reduceSub,Nat.reduceLeDiff,reduceCtorEq]<;>rfl,ab,by rw[pX];simp only[go_sem, ↓reduceIte,Nat.reduceEqDiff,Nat.reduceAdd,Nat.reduceSub,Nat.reduceLeDiff,reduceCtorEq]<;>rfl,cD,rfl⟩,sd (tw @wo @dO),cD⟩)
   ·have wu:=dF uv
    have ou:=qF zo zu (by decide)
    (try((repeat(revert hN;revert N;apply Pn.out));refine wk (tw @d65 (tw @d63 (tw @d64 (tw @d12 (tw @hj (tw @Du (tw @g1 (tw @e1 (tw @e2 (tw @dO (tw @wo (tw @gu (tw @wu (tw @ou (tw @UK @ql))))))))))))))) ?_;(repeat(refine Pn.mk ?_;intro N hN))))
    exact tZ (sd (tw @d65 (tw @d63 @d64))) (by(try dsimp only);exact⟨.inr ⟨⟨16020006,st_d.next+1+1⟩,by rw[Nat.mul_add];simp only[go_sem, ↓reduceIte,Nat.reduceEqDiff,Nat.reduceAdd,Nat.reduceSub,Nat.reduceLeDiff,reduceCtorEq]<;>rfl,ab,by rw[pX];simp only[go_sem, ↓reduceIte,Nat.reduceEqDiff,Nat.reduceAdd,Nat.reduceSub,Nat.reduceLeDiff,reduceCtorEq,wu]<;>rfl,cD,rfl⟩,sd (tw @wo (tw @dO @ou)),cD⟩)
  ·have pO:j=k0-1:=ab
   intro dV
   rw[pO]at dV
   rcases dV with⟨j0,_⟩|⟨u,d12,j0,gu,uv,zu⟩
   ·omega
   (try((repeat(revert hN;revert N;apply Pn.out));refine wk (tw @d65 (tw @d63 (tw @d64 (tw @d12 @hj)))) ?_;(repeat(refine Pn.mk ?_;intro N hN))))
   exact⟨[.own u 0 (2*(k0-1)),.int .i64 0],sd @d12,.fN [.sl ((uP num xs (k0-1)).map ah),.int .i64 0],by simp only[gp,gn,cQ,dD,eV,Option.map_some,eT (e:=ah) (n:=4) gu (by rw[AY]) fun x=>Ef _ _ _],rfl⟩
end
end Go.Proofs.YtalkncaokeaifaaGreatDoor.V

namespace Go.Proofs.YtalkncaokeaifaaGreatDoor.V
open Go.RowKit Go.Shelf
attribute [local go_sem] Oper.semAt_some
structure jg (h:Nat) (W W':World):Prop where
 below:Below h W W'
 s:W'.heap[h+1]? =W.heap[h+1]?
 n:W'.heap[h+2]? =W.heap[h+2]?
theorem jg.trans {h:Nat} {A B C:World} (x:jg h A B) (y:jg h B C):jg h A C:=⟨x.below.trans y.below,y.s.trans x.s,y.n.trans x.n⟩
theorem jg.refl (h:Nat) (W:World):jg h W W:=⟨Below.refl _ _,rfl,rfl⟩
theorem jg.b {h:Nat} {w:World} (hn:h+3<=w.heap.size) (W:World) (l:Nat) (o o':Obj) (hl:w.heap.size<=l) (hb:W.heap[l]? =some o) (hc:o.isCells=false) (hw:o.isWalk=false):jg h W (W.putObj l o'):=
 ⟨belowK_b ab W l o o' hl hb hc hw,World.putObj_heap_other ab,World.putObj_heap_other ab⟩
theorem jg.of {h:Nat} {W W':World} (hh:h+3<=W.heap.size) (b:Below W.heap.size W W'):jg h W W':=⟨b.mono ab,b.block _ ab,b.block _ ab⟩
theorem G4 (l h k b o cap n:Nat) (hn:1<=n) (hk:2*k<=cap) (hc:k<=8388608) (hb:b<h) (J Jx:List Nat->World->Prop)
  (hY:∀pre x W,J pre W->pre.length<k->x<k->YieldAt Fence.wide (n-1) Tryz.prog l #[.slice (some ⟨b,o+x*2,none⟩) 2 2] W fun e W'=>
   (e=.returned (.bool true)/\J (pre++[x]) W'/\jg h W W')∨(e=.returned (.bool false)/\Jx (pre++[x]) W'))
  (W:World) (hJ:AbidesFrom W.heap.size J) (Dr:W.cell? ⟨h+1,0,none⟩=some (.slice (some ⟨b,o,none⟩) (2*k) cap)) (TD:W.cell? ⟨h+2,0,none⟩=some (.int .i64 2)) (h0:J [] W):
  CallsIn Fence.wide n Tryz.prog 82 #[.func (.yield l) #[] #[],.pointer (some ⟨h+1,0,none⟩),.pointer (some ⟨h+2,0,none⟩)] W fun e W'=>(∃v,e=.returned v)/\
   ((∃ys,ys=List.range k/\J ys W')∨(∃pre,pre <+:List.range k/\Jx pre W')):=by
 refine callsIn_of_wp Tryz.func82 rfl trivial ?_ rfl
 simp only[Tryz.ntmps82,List.size_toArray,List.length_cons,List.length_nil,Nat.reduceAdd,Nat.reduceSub,Array.replicate_succ,Array.replicate_zero,List.push_toArray,List.append_toArray,List.nil_append,List.cons_append]
 have NB:=mixed
 have hhs:h+2<W.heap.size:=lg TD
 gi_wp2
 gi_loopw [4] (fun i wr=>∃j:Nat,j<=k/\i=.int .i64 ((2*j:Nat):Int)/\J (List.range j) wr/\jg h W wr)
  (fun i _=>2*k-(intOf i).toNat)
 case atStart=>exact⟨0,Nat.zero_le _,rfl,h0,jg.refl _ _⟩
 case round=>
  obtain⟨j,hj,rfl,Pf,wi⟩:=hrel
  have c1:wr.cell? ⟨h+1,0,none⟩=some (.slice (some ⟨b,o,none⟩) (2*k) cap):=(World.cell?_of_block wi.s).trans Dr
  have c2:wr.cell? ⟨h+2,0,none⟩=some (.int .i64 2):=(World.cell?_of_block wi.n).trans TD
  have d1:wr.drew.cell? ⟨h+1,0,none⟩=some (.slice (some ⟨b,o,none⟩) (2*k) cap):=c1
  have d2:wr.drew.cell? ⟨h+2,0,none⟩=some (.int .i64 2):=c2
  by_cases eJ:j<k
  ·have AH:((2*j:Nat):Int)<((2*k:Nat):Int):=ab
   gi_wp2
   gi_region
   have SL:min (2:Int) ((2*k-2*j:Nat):Int)=2:=Int.min_eq_left ab
   rw[SL]
   have nK:Below wr.heap.size wr wr.drew:=⟨rfl,rfl,rfl,Nat.le_refl _,fun _ _=>rfl⟩
   have TM:J (List.range j) wr.drew:=hJ _ _ _ none Pf (grown_of nK) (fun r h=>by cases h)
   have hhr:h+2<wr.heap.size:=lg c2
   have nL:jg h W wr.drew:=wi.trans (jg.of ab nK)
   have um:List.range (j+1) <+:List.range k:=by
    obtain⟨d,hd⟩:∃d,k=j+1+d:=⟨k-(j+1),ab⟩
    rw[hd]
    exact⟨_,List.range_add.symm⟩
   have WK:List.range j++[j]=List.range (j+1):=List.range_succ.symm
   obtain⟨fn,tmps,assign,body,hy,hR⟩:=hY _ j wr.drew TM (by rw[List.length_range];exact eJ) eJ
   rw[show o+j*2=o+2*j by omega]at hy
   have e1:wrap64 (((2*j:Nat):Int)+2)=((2*(j+1):Nat):Int):=by unfold wrap64;omega
   have e2:IntKind.i64.wrap (((2*j:Nat):Int)+2)=((2*(j+1):Nat):Int):=by rw[show((2*j:Nat):Int)+2=((2*(j+1):Nat):Int) by omega];exact cH ab
   gi_wp2
   refine hR.mono ?_
   rintro e W3 (⟨rfl,hJ3,Hs⟩|⟨rfl,hJx3⟩)
   ·have cn:=(World.cell?_of_block Hs.n).trans d2
    gi_wp2
    go_roundw
    case rel=>exact⟨j+1,ab,by simp;omega,by rw[<-WK];exact hJ3,nL.trans Hs⟩
    case measure=>simp[intOf];omega
   ·gi_wp2
    refine bodyPost_ret (results_none rfl _ _ _) rfl ?_
    exact⟨⟨_,rfl⟩,.inr ⟨_,um,by rw[<-WK];exact hJx3⟩⟩
  ·obtain rfl:j=k:=ab
   gi_wp2
   go_end0
   exact⟨⟨_,rfl⟩,.inl ⟨_,rfl,Pf⟩⟩
attribute [-go_sem] Builtin.append_
theorem JD (n:Nat) (A:Option Addr) (m c:Nat) (w:World):CallsIn Fence.wide n Tryz.prog 61 #[.slice A m c,.int .i64 2] w fun e w'=>e=.returned (.func (.func 82) #[] #[.pointer (some ⟨w.heap.size,0,none⟩),.pointer (some ⟨w.heap.size+1,0,none⟩)])/\w'=(w.alloc (.cells #[.slice A m c] 25)).alloc (.cells #[.int .i64 2] 3):=by
 refine callsIn_of_wp Tryz.func61 rfl trivial ?_ rfl
 simp only[Tryz.ntmps61,List.size_toArray,List.length_cons,List.length_nil,Nat.reduceAdd,Nat.reduceSub,Array.replicate_succ,Array.replicate_zero,List.push_toArray,List.append_toArray,List.nil_append,List.cons_append]
 gi_wp2
 go_ret
 exact⟨rfl,rfl⟩
theorem BT (h k b o cap n:Nat) (hn:1<=n) (hk:2*k<=cap) (hc:k<=8388608) (hb:b<h) (w:World) (Dr:w.cell? ⟨h+1,0,none⟩=some (.slice (some ⟨b,o,none⟩) (2*k) cap)) (TD:w.cell? ⟨h+1+1,0,none⟩=some (.int .i64 2)):
  SeqStopsK Fence.wide n Tryz.prog 82 #[.pointer (some ⟨h+1,0,none⟩),.pointer (some ⟨h+1+1,0,none⟩)] (fun x:{x:Nat // x<k}=> #[Value.slice (some ⟨b,o+x.1*2,none⟩) 2 2]) (jg h) (fun ys=>ys.map (·.1)=List.range k) (fun _=>True) k w:=fun l J Jx W hW hJ _ hY h0=>by
 refine(G4 l h k b o cap n hn hk hc hb (fun ys W=>∃zs:List {x:Nat // x<k},zs.map (·.1)=ys/\J zs W) (fun ys W=>∃zs:List {x:Nat // x<k},zs.map (·.1)=ys/\Jx zs W) (fun pre x W1 TL eJ wj=>?_) W (fun s A B row ⟨zs,e,h⟩ hg hr=>⟨zs,e,hJ zs A B row h hg hr⟩) ((hW.cell (p:=⟨h+1,0,none⟩) (lg Dr)).trans Dr) ((hW.cell (p:=⟨h+2,0,none⟩) (lg TD)).trans TD) ⟨[],rfl,h0⟩).mono ?_
 ·obtain⟨zs,rfl,h1⟩:=TL
  refine YieldAt.mono (hY zs ⟨x,wj⟩ W1 h1 (by simpa using eJ)) ?_
  rintro e W' (⟨h2,h3,h4⟩|⟨h2,h3⟩)
  ·exact .inl ⟨h2,⟨zs++[⟨x,wj⟩],by simp,h3⟩,h4⟩
  ·exact .inr ⟨h2,⟨zs++[⟨x,wj⟩],by simp,h3⟩⟩
 ·rintro e W' ⟨h1,⟨ys,rfl,zs,h2,h3⟩|⟨pre,_,zs,h2,h3⟩⟩
  ·exact⟨h1,.inl ⟨zs,h2,h3⟩⟩
  ·exact⟨h1,.inr ⟨zs,trivial,h3⟩⟩
theorem NS:(Tryz.prog.info? 2).map (fun i=>(i.zero,i.size,i.bytes))=some (some (.int .i64 0),1,8):=by kernel_rfl
def Jv (xs:List Int) (k:Nat):List Value:=(List.range k).map fun j=>.int .i64 (lX xs j)
theorem sZ {P:Program} {q n id:Nat} {ops:Array Oper} {Q:Exit->Act->World->Prop} {a:Act} {w:World} (hm:P.follows .mixedOrders=true) (po:∀(j:Nat) (o:Oper),ops[j]? =some o->∀c,o.op≠.defer c) (h:wpAny P .any ops (fun e a w=>e=.normal/\Q .normal a w) ops.size (Array.replicate ops.size false) a w.drew):(Code.region id ops true).wpIn (Fence.wide.inRound q) n P Q a w:=by
 have im:=qz (q:=q) (n:=n) (Q:=fun e a w=>e=.normal/\Q .normal a w) po (by rintro⟨_,_,hc,_⟩;cases hc) ops.size _ a w.drew h
 refine wpIn_mono (wpIn_region_any (id:=id) hm im) ?_
 rintro e a w ⟨rfl,h⟩
 exact h
def Az (xs:List Int) {k:Nat} (pre:List {x:Nat // x<k}):List Value:=pre.map fun j=>.int .i64 (lX xs j.1)
theorem Hl (xs:List Int) {k:Nat} (pre:List {x:Nat // x<k}) (x:{x:Nat // x<k}):Az xs (pre++[x])=Az xs pre++[.int .i64 (lX xs x.1)]:=by simp[Az]
theorem JX (xs:List Int) {k:Nat} (pre:List {x:Nat // x<k}) (h:pre.map (·.1)=List.range k):Az xs pre=Jv xs k/\pre.length=k:=by
 refine⟨?_,by have:=congrArg List.length h;simpa using this⟩
 unfold Jv
 rw[<-h,List.map_map];rfl
theorem GZ (xs:List Int) (k:Nat) (hx:la xs) (hk:xs.length=2*k) (w:World) (b o cap:Nat) (Uv:2*k<=cap) (hb:b<w.heap.size) (iZ:∀i,i<2*k->w.cell? ⟨b,o+i,none⟩=some (.int .i64 (xs.getD i 0))):
  CallsIn Fence.wide 5 Tryz.prog 28 #[.slice (some ⟨b,o,none⟩) (2*k) cap] w fun e W'=>∃v,e=.returned v/\W'.ownsRow w.heap.size 2 1 v k (Jv xs k)/\(v=.slice none 0 0↔k=0)/\Below w.heap.size w W':=by
 obtain⟨i0,hi,IQ,sM,pZ⟩:=info_parts NS
 have Wh:=hx.1
 refine callsIn_of_wp_marks Tryz.func28 rfl trivial ?_ rfl
 simp only[Tryz.ntmps28,List.size_toArray,List.length_cons,List.length_nil,Nat.reduceAdd,Nat.reduceSub,Array.replicate_succ,Array.replicate_zero,List.push_toArray,List.append_toArray,List.nil_append,List.cons_append]
 gi_wp2_with (refine⟨trivial,?_⟩;gi_at_call 61;refine(JD _ _ _ _ _).mono ?_;rintro e w' ⟨rfl,rfl⟩)
 have bO:=((Boxed.new w 25 (.slice none 0 0)).alloc (.cells #[.slice (some ⟨b,o,none⟩) (2*k) cap] 25)).alloc (.cells #[.int .i64 2] 3)
 have bS:=(Boxed.new (w.alloc (.cells #[.slice none 0 0] 25)) 25 (.slice (some ⟨b,o,none⟩) (2*k) cap)).alloc (.cells #[.int .i64 2] 3)
 have bN:=Boxed.new ((w.alloc (.cells #[.slice none 0 0] 25)).alloc (.cells #[.slice (some ⟨b,o,none⟩) (2*k) cap] 25)) 3 (.int .i64 2)
 simp only[World.size_alloc]at bO bS bN
 have yd:Below w.heap.size w (((w.alloc (.cells #[.slice none 0 0] 25)).alloc (.cells #[.slice (some ⟨b,o,none⟩) (2*k) cap] 25)).alloc (.cells #[.int .i64 2] 3)):=(((Below.refl _ w).alloc (Nat.le_refl _) _).alloc (by simp) _).alloc (by simp;omega) _
 have fc:(((w.alloc (.cells #[.slice none 0 0] 25)).alloc (.cells #[.slice (some ⟨b,o,none⟩) (2*k) cap] 25)).alloc (.cells #[.int .i64 2] 3)).heap.size=w.heap.size+3:=by simp
 obtain⟨W0,Pk⟩:∃W0,((w.alloc (.cells #[.slice none 0 0] 25)).alloc (.cells #[.slice (some ⟨b,o,none⟩) (2*k) cap] 25)).alloc (.cells #[.int .i64 2] 3)=W0:=⟨_,rfl⟩
 rw[Pk]at bO bS bN yd fc ⊢
 clear Pk
 refine wpIn_rangeFunc_ownG (n:=5) rfl ab (gf:=82) (lb:= #[.pointer (some ⟨w.heap.size+1,0,none⟩),.pointer (some ⟨w.heap.size+1+1,0,none⟩)]) rfl trivial (enters_of Tryz.func82 (by kernel_rfl) rfl)
  (BT w.heap.size k b o cap (5-1) ab Uv ab hb W0 bS.cell bN.cell) jg.trans (jg.b ab) (Below.refl _ _) (fun _=>rfl)
  (fun pre W=>((∃v,Boxed W w.heap.size 25 v/\W.ownsRow w.heap.size 2 1 v pre.length (Az xs pre)/\(v=.slice none 0 0↔pre=[]))/\(Boxed W (w.heap.size+1) 25 (.slice (some ⟨b,o,none⟩) (2*k) cap)/\Boxed W (w.heap.size+1+1) 3 (.int .i64 2)))/\Below w.heap.size w W)
  (fun _ _ _=>False)
  (OwnFrom.and (OwnFrom.and (Own.from (holdsRow_own w.heap.size w.heap.size 25 2 1 (fun pre=>pre.length) (fun pre=>Az xs pre) (fun pre v=>v=.slice none 0 0↔pre=[])) _) (OwnFrom.and (Own.from (boxed_own _ _ _) _) (Own.from (boxed_own _ _ _) _))) (ownFrom_below (Nat.le_refl _) ab))
  (fun _ _ _ _ _ hs _ _=>hs)
  ⟨⟨⟨_,bO,World.ownsRow_nil _ _ _ _,by simp⟩,bS,bN⟩,yd⟩
  (fun x=>{tmps:= #[.slice (some ⟨b,o,none⟩) (2*k) cap,undef,.slice none 0 0,.pointer (some ⟨w.heap.size,0,none⟩),.slice (some ⟨b,o+x.1*2,none⟩) 2 2,.slice (some ⟨b,o,none⟩) (2*k) cap,.func (.func 82) #[] #[.pointer (some ⟨w.heap.size+1,0,none⟩),.pointer (some ⟨w.heap.size+1+1,0,none⟩)],.slice (some ⟨b,o+x.1*2,none⟩) 2 2,undef,undef,undef,undef,undef,undef,undef,undef,undef,undef,undef,undef],defers:=[]})
  ?assign ?body ?done ?stop
 case assign=>
  intro l x W K hK
  gi_wp2
  exact hK
 case body=>
  rintro l pre ⟨x,NN⟩ W ⟨⟨⟨v,hv,fy,hnil⟩,bS1,bN1⟩,hB⟩ eJ
  (try dsimp only)
  have NB:=mixed
  have jt:W.cell? ⟨b,o+x*2,none⟩=some (.int .i64 (xs.getD (2*x) 0)):=by
   refine(hB.cell (p:=⟨b,o+x*2,none⟩) hb).trans ?_
   rw[Nat.mul_comm x 2];exact iZ (2*x) ab
  have oH:W.cell? ⟨b,o+x*2+1,none⟩=some (.int .i64 (xs.getD (2*x+1) 0)):=by
   refine(hB.cell (p:=⟨b,o+x*2+1,none⟩) hb).trans ?_
   rw[Nat.mul_comm x 2,Nat.add_assoc];exact iZ (2*x+1) ab
  have j0:=uF hx (i:=2*x) ab
  have j1:=uF hx (i:=2*x+1) ab
  have Po:=hv.cell
  have dc0:W.drew.cell? ⟨b,o+x*2,none⟩=some (.int .i64 (xs.getD (2*x) 0)):=jt
  have dc1:W.drew.cell? ⟨b,o+x*2+1,none⟩=some (.int .i64 (xs.getD (2*x+1) 0)):=oH
  have dcv:W.drew.cell? ⟨w.heap.size,0,none⟩=some v:=Po
  have qj:lX xs x=2*xs.getD (2*x) 0+xs.getD (2*x+1) 0:=rfl
  generalize xs.getD (2*x) 0=y at *
  generalize xs.getD (2*x+1) 0=z at *
  have e1:IntKind.i64.wrap (2*y)=2*y:=cH ab
  have e2:IntKind.i64.wrap (2*y+z)=2*y+z:=cH ab
  have Kp:W.drew.ownsRow w.heap.size 2 1 v pre.length (Az xs pre):=fy
  have YJ:Boxed W.drew w.heap.size 25 v:=hv
  have hws:w.heap.size<W.drew.heap.size:=YJ.lt
  have Rr:w.heap.size<W.heap.size:=hv.lt
  have dcv2:(W.alloc (.cells #[.int .i64 (2*y+z)] 2)).drew.cell? ⟨w.heap.size,0,none⟩=some v:=(hv.alloc _).cell
  have dcv3:(W.alloc (.cells #[.int .i64 (2*y+z)] 2)).cell? ⟨w.heap.size,0,none⟩=some v:=(hv.alloc _).cell
  obtain⟨v',w4,fF,rn,pW,-,-⟩:=run_append_own_at (P:=Tryz.prog) (w:=W.drew.alloc (.cells #[.int .i64 (2*y+z)] 2)) w.heap.size 25 25 2 i0 (.int .i64 0) 1 8 Tryz.underlying25 hi IQ sM pZ rfl (by decide) v pre.length (Az xs pre) (Kp.alloc _) ⟨W.heap.size,0,none⟩ 1 1 [.int .i64 (2*y+z)] rfl (cell_one_new W.drew _ _) (by simp[Value.oneCell']) (by unfold maxLen;omega) ab (by simp;omega)
  replace fF:(Builtin.append_ #[25,25] 25 #[v,.slice (some ⟨W.heap.size,0,none⟩) 1 1]).run Tryz.prog (W.alloc (.cells #[.int .i64 (2*y+z)] 2)).drew=.ok v' w4:=fF
  obtain⟨g',M4,rfl⟩:=ownsRow_succ rn
  obtain⟨pq,IM,yj,rm,sI⟩:=YJ.appended (by decide) Kp ab ab rn pW
  have oH:=pq.cell
  have Pq:=pq.frozen
  have Wj:Below W.heap.size W W.drew:=⟨rfl,rfl,rfl,Nat.le_refl _,fun _ _=>rfl⟩
  have Xv:∀{T:TypeId} {u:Value} {B:Nat},w.heap.size<B->T≠2->Boxed W B T u->(w4.setCell ⟨w.heap.size,0,none⟩ (.slice (some ⟨g',0,none⟩) (pre.length+1) M4)).heap[B]? =W.heap[B]? :=by
   intro T u B nK hT T8
   refine(Below.heap_setCell w4 ⟨w.heap.size,0,none⟩ _ B cD).trans ?_
   refine(pW.block B (by have:=T8.lt;simp;omega) ?_).trans (Below.heap_alloc W.drew _ B T8.lt)
   rcases fy.2 with⟨rfl,_⟩|⟨g,cp,cur,rfl,_,hg,_⟩
   ·simp[Value.ownBlock]
   ·intro e
    obtain rfl:B=g:=by simpa[Value.ownBlock]using e
    rw[show W.heap[B]? = _ from T8]at hg
    cases hg
    exact hT rfl
  have f1:=Xv ab (by decide) bS1
  have f2:=Xv ab (by decide) bN1
  clear Xv
  generalize hW5:w4.setCell ⟨w.heap.size,0,none⟩ (.slice (some ⟨g',0,none⟩) (pre.length+1) M4)=W5 at *
  have XW:W0.heap.size<=W0.heap.size:=Nat.le_refl _
  have HF:Hid (ownPostG W0.heap.size (jg w.heap.size) (fun(pre:List {x:Nat // x<k}) W=>((∃v,Boxed W w.heap.size 25 v/\W.ownsRow w.heap.size 2 1 v pre.length (Az xs pre)/\(v=.slice none 0 0↔pre=[]))/\(Boxed W (w.heap.size+1) 25 (.slice (some ⟨b,o,none⟩) (2*k) cap)/\Boxed W (w.heap.size+1+1) 3 (.int .i64 2)))/\Below w.heap.size w W) (fun _ _ _=>False) (pre++[⟨x,NN⟩]) W .normal {tmps:= #[],defers:=[]} W5):=by
   refine⟨⟨(Wj.mono (Nat.le_of_lt Rr)).trans sI |>.size,fun j o _ hj hc=>rm.same j o hj hc⟩,⟨(Wj.mono (Nat.le_of_lt Rr)).trans sI,f1,f2⟩,⟨⟨_,IM,?_,?_⟩,f1.trans bS1,f2.trans bN1⟩,hB.trans ((Wj.mono (Nat.le_of_lt Rr)).trans sI)⟩
   ·rw[Hl,List.length_append,qj];exact yj
   ·simp
  clear sI rm IM yj f1 f2 Wj hnil iZ bS bO bN yd bS1 bN1 hB fy Kp hv YJ pW rn qj Wh fc XW hx hk Uv eJ j0 j1 hi IQ sM pZ
  gi_wp2
  refine sZ NB (CU (by kernel_rfl)) ?_
  refine wpAny_take (i:=1) (v:=?_) rfl (by kernel_rfl) (by kernel_rfl) (by kernel_rfl) (fun _ _ _ h=>by cases h.1) (Or.inl ⟨by rfl,?_⟩) ?_
  rotate_left
  ·intro w9;go_simp;(try with_reducible rfl)
  refine wpAny_take (i:=2) (v:=?_) rfl (by kernel_rfl) (by kernel_rfl) (by kernel_rfl) (fun _ _ _ h=>by cases h.1) (Or.inl ⟨by rfl,?_⟩) ?_
  rotate_left
  ·intro w9;go_simp;(try with_reducible rfl)
  refine wpAny_take (i:=5) (v:=?_) rfl (by kernel_rfl) (by kernel_rfl) (by kernel_rfl) (fun _ _ _ h=>by cases h.1) (Or.inl ⟨by rfl,?_⟩) ?_
  rotate_left
  ·intro w9;go_simp;(try with_reducible rfl)
  refine wpAny_take (i:=6) (v:=?_) rfl (by kernel_rfl) (by kernel_rfl) (by kernel_rfl) (fun _ _ _ h=>by cases h.1) (Or.inl ⟨by rfl,?_⟩) ?_
  rotate_left
  ·intro w9;go_simp;(try with_reducible rfl)
  refine wpAny_ready (rs:=[0,3,7]) (by kernel_rfl) (by simp) ?_
  refine AllReady.cons rfl (fun K9 fa=>?_) ?_
  ·go_simp
   refine fa _ _ ?_
   clear fa K9
   refine wpAny_ready (rs:=[3,7]) (by kernel_rfl) (by simp) ?_
   refine AllReady.cons rfl (fun K9 fa=>?_) ?_
   ·go_simp
    refine fa _ _ ?_
    clear fa K9
    refine wpAny_take (i:=4) (v:=?_) rfl (by kernel_rfl) (by kernel_rfl) (by kernel_rfl) (fun _ _ _ h=>by cases h.1) (Or.inl ⟨by rfl,?_⟩) ?_
    rotate_left
    ·intro w9;go_simp;(try with_reducible rfl)
    refine wpAny_ready (rs:=[7]) (by kernel_rfl) (by simp) ?_
    refine AllReady.cons rfl (fun K9 fa=>?_) ?_
    ·go_simp
     refine fa _ _ ?_
     clear fa K9
     refine wpAny_take (i:=8) (v:=?_) rfl (by kernel_rfl) (by kernel_rfl) (by kernel_rfl) (fun _ _ _ h=>by cases h.1) (Or.inl ⟨by rfl,?_⟩) ?_
     rotate_left
     ·intro w9;go_simp;(try with_reducible rfl)
     refine wpAny_ready (rs:=[9]) (by kernel_rfl) (by simp) ?_
     refine AllReady.cons rfl (fun K9 fa=>?_) ?_
     ·go_simp
      refine fa _ _ ?_
      clear fa K9
      refine wpAny_ready (rs:=[10]) (by kernel_rfl) (by simp) ?_
      refine AllReady.cons rfl (fun K9 fa=>?_) ?_
      ·go_simp
       refine fa _ _ ?_
       clear fa K9
       refine wpAny_ready (rs:=[11]) (by kernel_rfl) (by simp) ?_
       refine AllReady.cons rfl (fun K9 fa=>?_) ?_
       ·go_simp
        refine fa _ _ ?_
        clear fa K9
        refine wpAny_done (by kernel_rfl) ?_ _
        exact⟨rfl,HF.out⟩
       exact AllReady.nil
      exact AllReady.nil
     exact AllReady.nil
    exact AllReady.nil
   refine AllReady.cons rfl (fun K9 fa=>?_) ?_
   ·go_simp
    refine fa _ _ ?_
    clear fa K9
    refine wpAny_ready (rs:=[3]) (by kernel_rfl) (by simp) ?_
    refine AllReady.cons rfl (fun K9 fa=>?_) ?_
    ·go_simp
     refine fa _ _ ?_
     clear fa K9
     refine wpAny_take (i:=4) (v:=?_) rfl (by kernel_rfl) (by kernel_rfl) (by kernel_rfl) (fun _ _ _ h=>by cases h.1) (Or.inl ⟨by rfl,?_⟩) ?_
     rotate_left
     ·intro w9;go_simp;(try with_reducible rfl)
     refine wpAny_take (i:=8) (v:=?_) rfl (by kernel_rfl) (by kernel_rfl) (by kernel_rfl) (fun _ _ _ h=>by cases h.1) (Or.inl ⟨by rfl,?_⟩) ?_
     rotate_left
     ·intro w9;go_simp;(try with_reducible rfl)
     refine wpAny_ready (rs:=[9]) (by kernel_rfl) (by simp) ?_
     refine AllReady.cons rfl (fun K9 fa=>?_) ?_
     ·go_simp
      refine fa _ _ ?_
      clear fa K9
      refine wpAny_ready (rs:=[10]) (by kernel_rfl) (by simp) ?_
      refine AllReady.cons rfl (fun K9 fa=>?_) ?_
      ·go_simp
       refine fa _ _ ?_
       clear fa K9
       refine wpAny_ready (rs:=[11]) (by kernel_rfl) (by simp) ?_
       refine AllReady.cons rfl (fun K9 fa=>?_) ?_
       ·go_simp
        refine fa _ _ ?_
        clear fa K9
        refine wpAny_done (by kernel_rfl) ?_ _
        exact⟨rfl,HF.out⟩
       exact AllReady.nil
      exact AllReady.nil
     exact AllReady.nil
    exact AllReady.nil
   exact AllReady.nil
  refine AllReady.cons rfl (fun K9 fa=>?_) ?_
  ·go_simp
   refine fa _ _ ?_
   clear fa K9
   refine wpAny_take (i:=4) (v:=?_) rfl (by kernel_rfl) (by kernel_rfl) (by kernel_rfl) (fun _ _ _ h=>by cases h.1) (Or.inl ⟨by rfl,?_⟩) ?_
   rotate_left
   ·intro w9;go_simp;(try with_reducible rfl)
   refine wpAny_ready (rs:=[0,7]) (by kernel_rfl) (by simp) ?_
   refine AllReady.cons rfl (fun K9 fa=>?_) ?_
   ·go_simp
    refine fa _ _ ?_
    clear fa K9
    refine wpAny_ready (rs:=[7]) (by kernel_rfl) (by simp) ?_
    refine AllReady.cons rfl (fun K9 fa=>?_) ?_
    ·go_simp
     refine fa _ _ ?_
     clear fa K9
     refine wpAny_take (i:=8) (v:=?_) rfl (by kernel_rfl) (by kernel_rfl) (by kernel_rfl) (fun _ _ _ h=>by cases h.1) (Or.inl ⟨by rfl,?_⟩) ?_
     rotate_left
     ·intro w9;go_simp;(try with_reducible rfl)
     refine wpAny_ready (rs:=[9]) (by kernel_rfl) (by simp) ?_
     refine AllReady.cons rfl (fun K9 fa=>?_) ?_
     ·go_simp
      refine fa _ _ ?_
      clear fa K9
      refine wpAny_ready (rs:=[10]) (by kernel_rfl) (by simp) ?_
      refine AllReady.cons rfl (fun K9 fa=>?_) ?_
      ·go_simp
       refine fa _ _ ?_
       clear fa K9
       refine wpAny_ready (rs:=[11]) (by kernel_rfl) (by simp) ?_
       refine AllReady.cons rfl (fun K9 fa=>?_) ?_
       ·go_simp
        refine fa _ _ ?_
        clear fa K9
        refine wpAny_done (by kernel_rfl) ?_ _
        exact⟨rfl,HF.out⟩
       exact AllReady.nil
      exact AllReady.nil
     exact AllReady.nil
    exact AllReady.nil
   refine AllReady.cons rfl (fun K9 fa=>?_) ?_
   ·go_simp
    refine fa _ _ ?_
    clear fa K9
    refine wpAny_take (i:=8) (v:=?_) rfl (by kernel_rfl) (by kernel_rfl) (by kernel_rfl) (fun _ _ _ h=>by cases h.1) (Or.inl ⟨by rfl,?_⟩) ?_
    rotate_left
    ·intro w9;go_simp;(try with_reducible rfl)
    refine wpAny_ready (rs:=[0,9]) (by kernel_rfl) (by simp) ?_
    refine AllReady.cons rfl (fun K9 fa=>?_) ?_
    ·go_simp
     refine fa _ _ ?_
     clear fa K9
     refine wpAny_ready (rs:=[9]) (by kernel_rfl) (by simp) ?_
     refine AllReady.cons rfl (fun K9 fa=>?_) ?_
     ·go_simp
      refine fa _ _ ?_
      clear fa K9
      refine wpAny_ready (rs:=[10]) (by kernel_rfl) (by simp) ?_
      refine AllReady.cons rfl (fun K9 fa=>?_) ?_
      ·go_simp
       refine fa _ _ ?_
       clear fa K9
       refine wpAny_ready (rs:=[11]) (by kernel_rfl) (by simp) ?_
       refine AllReady.cons rfl (fun K9 fa=>?_) ?_
       ·go_simp
        refine fa _ _ ?_
        clear fa K9
        refine wpAny_done (by kernel_rfl) ?_ _
        exact⟨rfl,HF.out⟩
       exact AllReady.nil
      exact AllReady.nil
     exact AllReady.nil
    refine AllReady.cons rfl (fun K9 fa=>?_) ?_
    ·go_simp
     refine fa _ _ ?_
     clear fa K9
     refine wpAny_ready (rs:=[0]) (by kernel_rfl) (by simp) ?_
     refine AllReady.cons rfl (fun K9 fa=>?_) ?_
     ·go_simp
      refine fa _ _ ?_
      clear fa K9
      refine wpAny_ready (rs:=[10]) (by kernel_rfl) (by simp) ?_
      refine AllReady.cons rfl (fun K9 fa=>?_) ?_
      ·go_simp
       refine fa _ _ ?_
       clear fa K9
       refine wpAny_ready (rs:=[11]) (by kernel_rfl) (by simp) ?_
       refine AllReady.cons rfl (fun K9 fa=>?_) ?_
       ·go_simp
        refine fa _ _ ?_
        clear fa K9
        refine wpAny_done (by kernel_rfl) ?_ _
        exact⟨rfl,HF.out⟩
       exact AllReady.nil
      exact AllReady.nil
     exact AllReady.nil
    exact AllReady.nil
   exact AllReady.nil
  refine AllReady.cons rfl (fun K9 fa=>?_) ?_
  ·go_simp
   refine fa _ _ ?_
   clear fa K9
   refine wpAny_ready (rs:=[0,3]) (by kernel_rfl) (by simp) ?_
   refine AllReady.cons rfl (fun K9 fa=>?_) ?_
   ·go_simp
    refine fa _ _ ?_
    clear fa K9
    refine wpAny_ready (rs:=[3]) (by kernel_rfl) (by simp) ?_
    refine AllReady.cons rfl (fun K9 fa=>?_) ?_
    ·go_simp
     refine fa _ _ ?_
     clear fa K9
     refine wpAny_take (i:=4) (v:=?_) rfl (by kernel_rfl) (by kernel_rfl) (by kernel_rfl) (fun _ _ _ h=>by cases h.1) (Or.inl ⟨by rfl,?_⟩) ?_
     rotate_left
     ·intro w9;go_simp;(try with_reducible rfl)
     refine wpAny_take (i:=8) (v:=?_) rfl (by kernel_rfl) (by kernel_rfl) (by kernel_rfl) (fun _ _ _ h=>by cases h.1) (Or.inl ⟨by rfl,?_⟩) ?_
     rotate_left
     ·intro w9;go_simp;(try with_reducible rfl)
     refine wpAny_ready (rs:=[9]) (by kernel_rfl) (by simp) ?_
     refine AllReady.cons rfl (fun K9 fa=>?_) ?_
     ·go_simp
      refine fa _ _ ?_
      clear fa K9
      refine wpAny_ready (rs:=[10]) (by kernel_rfl) (by simp) ?_
      refine AllReady.cons rfl (fun K9 fa=>?_) ?_
      ·go_simp
       refine fa _ _ ?_
       clear fa K9
       refine wpAny_ready (rs:=[11]) (by kernel_rfl) (by simp) ?_
       refine AllReady.cons rfl (fun K9 fa=>?_) ?_
       ·go_simp
        refine fa _ _ ?_
        clear fa K9
        refine wpAny_done (by kernel_rfl) ?_ _
        exact⟨rfl,HF.out⟩
       exact AllReady.nil
      exact AllReady.nil
     exact AllReady.nil
    exact AllReady.nil
   refine AllReady.cons rfl (fun K9 fa=>?_) ?_
   ·go_simp
    refine fa _ _ ?_
    clear fa K9
    refine wpAny_take (i:=4) (v:=?_) rfl (by kernel_rfl) (by kernel_rfl) (by kernel_rfl) (fun _ _ _ h=>by cases h.1) (Or.inl ⟨by rfl,?_⟩) ?_
    rotate_left
    ·intro w9;go_simp;(try with_reducible rfl)
    refine wpAny_take (i:=8) (v:=?_) rfl (by kernel_rfl) (by kernel_rfl) (by kernel_rfl) (fun _ _ _ h=>by cases h.1) (Or.inl ⟨by rfl,?_⟩) ?_
    rotate_left
    ·intro w9;go_simp;(try with_reducible rfl)
    refine wpAny_ready (rs:=[0,9]) (by kernel_rfl) (by simp) ?_
    refine AllReady.cons rfl (fun K9 fa=>?_) ?_
    ·go_simp
     refine fa _ _ ?_
     clear fa K9
     refine wpAny_ready (rs:=[9]) (by kernel_rfl) (by simp) ?_
     refine AllReady.cons rfl (fun K9 fa=>?_) ?_
     ·go_simp
      refine fa _ _ ?_
      clear fa K9
      refine wpAny_ready (rs:=[10]) (by kernel_rfl) (by simp) ?_
      refine AllReady.cons rfl (fun K9 fa=>?_) ?_
      ·go_simp
       refine fa _ _ ?_
       clear fa K9
       refine wpAny_ready (rs:=[11]) (by kernel_rfl) (by simp) ?_
       refine AllReady.cons rfl (fun K9 fa=>?_) ?_
       ·go_simp
        refine fa _ _ ?_
        clear fa K9
        refine wpAny_done (by kernel_rfl) ?_ _
        exact⟨rfl,HF.out⟩
       exact AllReady.nil
      exact AllReady.nil
     exact AllReady.nil
    refine AllReady.cons rfl (fun K9 fa=>?_) ?_
    ·go_simp
     refine fa _ _ ?_
     clear fa K9
     refine wpAny_ready (rs:=[0]) (by kernel_rfl) (by simp) ?_
     refine AllReady.cons rfl (fun K9 fa=>?_) ?_
     ·go_simp
      refine fa _ _ ?_
      clear fa K9
      refine wpAny_ready (rs:=[10]) (by kernel_rfl) (by simp) ?_
      refine AllReady.cons rfl (fun K9 fa=>?_) ?_
      ·go_simp
       refine fa _ _ ?_
       clear fa K9
       refine wpAny_ready (rs:=[11]) (by kernel_rfl) (by simp) ?_
       refine AllReady.cons rfl (fun K9 fa=>?_) ?_
       ·go_simp
        refine fa _ _ ?_
        clear fa K9
        refine wpAny_done (by kernel_rfl) ?_ _
        exact⟨rfl,HF.out⟩
       exact AllReady.nil
      exact AllReady.nil
     exact AllReady.nil
    exact AllReady.nil
   exact AllReady.nil
  exact AllReady.nil
 case done=>
  rintro D ys W hD Bt ⟨⟨⟨v,hv,fy,hnil⟩,_⟩,hB⟩ hK
  obtain⟨g1,g2⟩:=JX xs ys Bt
  rw[g1,g2]at fy
  have hc:=hv.cell
  gi_wp2
  refine⟨by simp,.inl ⟨_,_,rfl,run_takeDeferred hK,?_⟩⟩
  exact⟨_,results_tmp rfl _ _ _,v,rfl,ownsRow_putObj fy _ hK rfl,by rw[hnil];exact⟨fun e=>by rw[<-g2,e];rfl,fun e=>List.eq_nil_of_length_eq_zero ab⟩,hB.trans (belowK_b (w:=w) (Nat.le_refl _) W D _ _ ab hK rfl rfl)⟩
 case stop=>
  rintro D c pre W _ _ h _
  exact h.elim
end Go.Proofs.YtalkncaokeaifaaGreatDoor.V

namespace Go.Proofs.YtalkncaokeaifaaGreatDoor.V
open Go.RowKit Go.Shelf
theorem Jw {xs:List Int} {k i:Nat} (h:i<k):(Jv xs k)[i]? =some (.int .i64 (lX xs i)):=by
 unfold Jv
 rw[List.getElem?_map,List.getElem?_range h];rfl
theorem Kx {P:Program} {w:World} {D:Nat->Prop} {xs:List Int} {v:Value} {k:Nat} (h:jA P w D (.sl (xs.map ah)) v) (hk:xs.length=2*k) (h1:1<=k):∃b o cap,v=.slice (some ⟨b,o,none⟩) (2*k) cap/\2*k<=cap/\D b/\∀i,i<2*k->w.cell? ⟨b,o+i,none⟩=some (.int .i64 (xs.getD i 0)):=by
 generalize hr:xs.map ah=rows at h
 cases h with
 |Bd a c hc=>
  have:xs=[]:=by simpa using hr
  subst this
  simp at hk;omega
 |sl _ b o n c sz vs h1' h2 h3 h4 h5 h5' h6 h7=>
  have hn:n=2*k:=by rw[<-h1',<-hr,List.length_map,hk]
  subst hn
  refine⟨b,o,c,rfl,h2,h4,fun i hi=>?_⟩
  have hg:rows[i]? =some [.int .i64 (xs.getD i 0)]:=by rw[<-hr];exact getD_map (d:=0) ah ab
  have fc:sz=1:=by rw[<-h5 _ (List.mem_of_getElem? hg)];rfl
  subst fc
  have:=h7 i 0 _ _ hg rfl
  have h8:=h6 i 0 ab ab
  rw[Nat.mul_one,Nat.add_zero]at h8
  rw[h8,dI (.eE (ι:=fun _=>none) _ _ this)]
theorem Tg:P5:=by
 intro xs k hx hk h1 n
 refine fh ?_
 intro hs D ι w vs S U A
 obtain⟨u0,Rm,r0⟩:=A.2 0 _ rfl
 have eJ:∀b,D b->b<w.heap.size:=S.dead
 obtain⟨b,o,cap,rfl,Uv,TE,iZ⟩:=Kx (mV r0) hk h1
 have Wh:=hx.1
 have Xu:vs= #[.slice (some ⟨b,o,none⟩) (2*k) cap]:=by
  obtain⟨vl⟩:=vs
  have hz:=A.1
  match vl,hz with
  |[a],_=>simp at Rm;rw[Rm]
 subst Xu
 refine(callsIn_wide.1 (GZ xs k hx hk w b o cap Uv (eJ b TE) iZ)).mono ?_
 rintro e W' ⟨v,rfl,⟨hl,hown⟩,hnil,hB⟩
 have S':fZ Tryz.prog hs D ι (fun _=>none) W':=S.stay (fun b hb=>hB.block b hb) hB.size (fun _ h=>h) (fun b hb=>Nat.lt_of_lt_of_le (eJ b hb) hB.size) (fun _ h=>.inl h) (fun _ _ h=>h)
 have T:Step hs D ι w D ι W':=Step.stay S (fun b hb=>hB.block b hb) hB.size hB.os hB.tape hB.output (fun _ h=>h) (fun _ h=>.inl h) (fun _ _ h=>h)
 rcases hown with⟨rfl,h0⟩|⟨gb,cap,cur,rfl,Q2,hblk,hle,ye,dW,tR⟩
 ·omega
 ·have Eo:(gJ xs k).map ah≠[]:=fun h=>by have:=congrArg List.length h;rw[List.length_map,jP]at this;simp at this;omega
  have hlen:((gJ xs k).map ah).length=k:=by rw[List.length_map,jP]
  have jz:ι ⟨0,n⟩=none:=fresh U (fun h=>h)
  have hR:gC Tryz.prog W' D (jx ι ⟨0,n⟩ ⟨gb,1,cap*1,none⟩) ⟨gb,1,cap*1,none⟩ ⟨true,1,(gJ xs k).map ah⟩:=by
   refine jO.obj ⟨rfl,⟨cur,_,hblk,dW⟩,?_,fun cs hc=>?_,fun cs hc a ha=>?_,fun i j cs a hi hj=>?_⟩ rfl
   ·rw[hlen];exact Nat.mul_le_mul_right 1 hle
   ·obtain⟨b,_,rfl⟩:=List.mem_map.1 hc;rfl
   ·obtain⟨b,_,rfl⟩:=List.mem_map.1 hc
    simp[ah]at ha
    rw[ha];rfl
   ·have pN:i<k:=by have h8:i<((gJ xs k).map ah).length:=(List.getElem?_eq_some_iff.1 hi).1;omega
    unfold gJ at hi
    rw[List.getElem?_map,List.getElem?_map,List.getElem?_range pN]at hi
    simp only[Option.map_some,Option.some.injEq]at hi
    subst hi
    have hg:=Jw (xs:=xs) pN
    rw[<-tR,List.getElem?_take,if_pos ab]at hg
    match j,hj with
    |0,hj=>
     simp[ah]at hj;subst hj
     refine⟨_,?_,.eE _ _ (.int _ _)⟩
     have e:W'.cell? ⟨gb,i*1+0,none⟩=cur[i*1+0]? :=by
      unfold World.cell?
      rw[show W'.heap[(⟨gb,i*1+0,none⟩:Addr).block]? = _ from hblk]
      rfl
     rw[e,<-Array.getElem?_toList,Nat.mul_one,Nat.add_zero];exact hg
    |j+1,hj=>simp[ah]at hj
  have S2:=fZ.add (r:=⟨true,1,(gJ xs k).map ah⟩) S S' jz Q2 hR
  refine⟨.own ⟨0,n⟩ 0 k,bz (fun _=>none) ⟨0,n⟩ ⟨true,1,(gJ xs k).map ah⟩,n+1,D,jx ι ⟨0,n⟩ ⟨gb,1,cap*1,none⟩,_,rfl,⟨.sl ((gJ xs k).map ah),?_,rfl⟩,T.trans (Step.stay S' (fun _ _=>rfl) (Nat.le_refl _) rfl rfl rfl (fun _ h=>h) (fun _ h=>.inl h) (eZ jz)),S2,U.upd.next,Nat.le_succ _,.own _ _ _ _ _ _ (eh _ _ _) rfl hle (.inr (by simp)) (by simp) ye⟩
  have hg:(bz (fun _=>none) (⟨0,n⟩:Id) ⟨true,1,(gJ xs k).map ah⟩:Rows) ⟨0,n⟩=some ⟨true,1,(gJ xs k).map ah⟩:=by simp[bz]
  exact eT (e:=ah) (n:=5) hg (by rw[jP]) fun b=>Ef _ _ _
end Go.Proofs.YtalkncaokeaifaaGreatDoor.V

namespace Go.Proofs.YtalkncaokeaifaaGreatDoor.V
open Go.RowKit
attribute [local irreducible] dH wpOps eB Call
attribute [local go_sem] ax eo dS ez ev cZ upd bD K.av bR AV.cells AV.cell rowOf rowsOf part ld rowAt eL bz bx cW dj eO bf cC dw er ea cR dq cw cu da db bp aI bZ bj ck cj dn dr dp bW br cz dm bh ar cq bH eM aT bL bq aH cU aQ cX AV.undef aW bd de di cY c6 bJ dv dy bE du dt cm cr List.getD_cons_zero List.getD_cons_succ List.getD_nil List.all_cons List.all_nil Bool.and_true Bool.true_and Bool.and_self Bool.not_true Bool.not_false Option.map_some Option.map_none Option.bind_some Option.bind_none List.length_cons List.length_nil List.take_succ_cons List.take_zero List.take_nil List.drop_succ_cons List.drop_zero List.drop_nil List.head?_cons List.map_cons List.map_nil List.getElem?_cons_zero List.getElem?_cons_succ List.cons_append List.nil_append List.append_nil List.length_map List.set_cons_zero List.set_cons_succ Nat.reduceMul eq_self Int.toNat_natCast Int.natCast_nonneg and_self true_and and_true decide_true decide_false Bool.false_eq_true Nat.zero_add Nat.add_zero List.contains_cons List.contains_nil Bool.or_false Bool.false_or beq_self_eq_true Nat.reduceBEq ne_eq not_true_eq_false not_false_eq_true Id.mk.injEq false_and and_false Nat.reduceLT Int.reduceLE Int.reduceLT Int.reduceToNat Int.reduceNeg Int.reduceAdd Nat.le_refl List.length_append beq_true beq_false Bool.not_eq_eq_eq_not or_false false_or dX ad ae aP aJ bt bI aD aS aA aL bU aZ
end Go.Proofs.YtalkncaokeaifaaGreatDoor.V

namespace Go.Proofs.YtalkncaokeaifaaGreatDoor.V
open Go.RowKit
attribute [local irreducible] dH wpOps eB Call
attribute [local go_sem] ax eo dS ez ev cZ upd bD K.av bR AV.cells AV.cell rowOf rowsOf part ld rowAt eL bz bx cW dj eO bf cC dw er ea cR dq cw cu da db bp aI bZ bj ck cj dn dr dp bW br cz dm bh ar cq bH eM aT bL bq aH cU aQ cX AV.undef aW bd de di cY c6 bJ dv dy bE du dt cm cr List.getD_cons_zero List.getD_cons_succ List.getD_nil List.all_cons List.all_nil Bool.and_true Bool.true_and Bool.and_self Bool.not_true Bool.not_false Option.map_some Option.map_none Option.bind_some Option.bind_none List.length_cons List.length_nil List.take_succ_cons List.take_zero List.take_nil List.drop_succ_cons List.drop_zero List.drop_nil List.head?_cons List.map_cons List.map_nil List.getElem?_cons_zero List.getElem?_cons_succ List.cons_append List.nil_append List.append_nil List.length_map List.set_cons_zero List.set_cons_succ eq_self Int.toNat_natCast Int.natCast_nonneg and_self true_and and_true decide_true decide_false Bool.false_eq_true Nat.zero_add Nat.add_zero List.contains_cons List.contains_nil Bool.or_false Bool.false_or beq_self_eq_true ne_eq not_true_eq_false not_false_eq_true Id.mk.injEq false_and and_false Nat.le_refl List.length_append beq_true beq_false Bool.not_eq_eq_eq_not or_false false_or dX ad ae aP aJ bt bI aD aS aA aL bU aZ
section
variable {P:Program} {α:Type} {R:IZ α} {e:α->List AV} {z:Nat} {g g':Rows} {v:AV} {L:List α} {ids:List Id}
def MI (R:IZ α) (z:Nat) (g:Rows) (v:AV) (L:List α) (ids:List Id):Prop:=(L=[]/\v=.bP/\ids=[])∨(FC R z g v L ids/\0<L.length)
theorem fH.gx {n:Nat} {rows:List (List AV)} (h:fH R g rows L ids) (hz:∀{cs x ids},R g cs x ids->eU g n cs=some (e x)):fS g n rows=some (L.map e):=by
 induction h with
 |nil=>rw[fS];rfl
 |cons h1 _ ih=>rw[fS,hz h1,ih];rfl
theorem MI.s (h:MI R z g v L ids) {n:Nat} (hz:∀{cs x ids},R g cs x ids->eU g n cs=some (e x)):gx g (n+1) v=some (N8 e L):=by
 rcases h with⟨rfl,rfl,_⟩|⟨⟨o,rows,is,rfl,h2,h3,_⟩,hp⟩
 ·rw[kz];rfl
 ·rw[uH (sz:=z) (rows:=rows) (rows':=L.map e) h2 (by rw[h3.len];omega) (by
   rw[List.drop_zero,List.take_of_length_le (by rw[h3.len];exact Nat.le_refl _),h3.gx hz]),N8,if_neg ab]
end
section
variable {g g':Rows} {v:AV} {L:List (List aa)} {ids:List Id}
end
end Go.Proofs.YtalkncaokeaifaaGreatDoor.V

namespace Go.Proofs.YtalkncaokeaifaaGreatDoor.V
open Go.RowKit
attribute [local irreducible] dH wpOps eB Call
attribute [local go_sem] ax eo dS ez ev cZ upd bD K.av bR AV.cells AV.cell rowOf rowsOf part ld rowAt eL bz bx cW dj eO bf cC dw er ea cR dq cw cu da db bp aI bZ bj ck cj dn dr dp bW br cz dm bh ar cq bH eM aT bL bq aH cU aQ cX AV.undef aW bd de di cY c6 bJ dv dy bE du dt cm cr List.getD_cons_zero List.getD_cons_succ List.getD_nil List.all_cons List.all_nil Bool.and_true Bool.true_and Bool.and_self Bool.not_true Bool.not_false Option.map_some Option.map_none Option.bind_some Option.bind_none List.length_cons List.length_nil List.take_succ_cons List.take_zero List.take_nil List.drop_succ_cons List.drop_zero List.drop_nil List.head?_cons List.map_cons List.map_nil List.getElem?_cons_zero List.getElem?_cons_succ List.cons_append List.nil_append List.append_nil List.length_map List.set_cons_zero List.set_cons_succ Nat.reduceMul eq_self Int.toNat_natCast Int.natCast_nonneg and_self true_and and_true decide_true decide_false Bool.false_eq_true Nat.zero_add Nat.add_zero List.contains_cons List.contains_nil Bool.or_false Bool.false_or beq_self_eq_true Nat.reduceBEq ne_eq not_true_eq_false not_false_eq_true Id.mk.injEq false_and and_false Nat.reduceLT Int.reduceLE Int.reduceLT Int.reduceToNat Int.reduceNeg Int.reduceAdd Nat.le_refl List.length_append beq_true beq_false Bool.not_eq_eq_eq_not or_false false_or dX ad ae aP aJ bt bI aD aS aA aL bU aZ
def Qu (R:List Int):List AV:=[.sl (R.map ah)]
def yz:IZ (List Int):=fun g cs R ids=>∃u,cs=[.own u 0 R.length]/\g u=some ⟨true,1,R.map ah⟩/\ids=[u]
theorem Ky:I0 yz 1 where
 frame:=fun⟨i,h1,h2,h3⟩ hf=>⟨i,h1,(hf i (by rw[h3];simp)).trans h2,h3⟩
 len:=fun⟨i,h1,_⟩=>by rw[h1];rfl
 cell:=fun⟨i,h1,_⟩=>by rw[h1];rfl
 live:=fun⟨i,h1,h2,h3⟩ j hj=>by
  rw[h3]at hj
  have:j=i:=by simpa using hj
  subst this
  exact⟨_,h2,rfl,by simp[EN]⟩
 small:=by simp[EN]
theorem Kz {g:Rows} {cs:List AV} {x:List Int} {ids:List Id} (n:Nat) (h:yz g cs x ids):eU g (n+2) cs=some (Qu x):=by
 obtain⟨i,rfl,h2,_⟩:=h
 have h3:gx g (n+2) (.own i 0 x.length)=some (.sl (x.map ah)):=eT (e:=ah) h2 rfl fun y=>by simp[ah,cQ,dD,eV]
 simp only[cQ,dD,h3,Option.map_some,Qu]
def FD (g:Rows) (v:AV) (L:List (List Int)) (ids:List Id):Prop:=MI yz 1 g v L ids
section
variable {g g':Rows} {v:AV} {L:List (List Int)} {ids:List Id}
theorem FD.s (h:FD g v L ids):gx g 5 v=some (N8 Qu L):=MI.s h fun h=>Kz 2 h
end
end Go.Proofs.YtalkncaokeaifaaGreatDoor.V

namespace Go.Proofs.YtalkncaokeaifaaGreatDoor.V
open Go.RowKit
variable {g g':Rows} {v:AV} {L:List Int} {ids:List Id}
def Xb (z m:Nat) (L:List Int) (v:AV) (g:Rows) (n:Nat):Prop:=(L=[]/\v=.bP)∨∃u:Id,v=.own u 0 L.length/\g u=some ⟨true,1,L.map ah⟩/\m<=u.cV/\u.cV<n/\0<L.length/\u.site=z
end Go.Proofs.YtalkncaokeaifaaGreatDoor.V

namespace Go.Proofs.YtalkncaokeaifaaGreatDoor.V
open Go.RowKit
section
variable {α:Type} {R:IZ α} {z:Nat}
theorem FC.push (ok:I0 R z) {lo m n':Nat} {L:List α} {o o':Id} {rows:List (List AV)} {is:List Id} {g g':Rows} {x:α} {cs:List AV} {ic:List Id} (hR:fH R g rows L is) (hN:lD lo m (o::is)) (hf:∀y:Id,lo<=y.cV->y.cV<m->y≠o->g' y=g y) (hx:R g' cs x ic) (SH:lD m o'.cV ic) (hm:m<=o'.cV) (AI:o'.cV<n') (k6:lo<=m) (hg:g' o'=some ⟨true,z,rows++[cs]⟩):
  ∃ids,FC R z g' (.own o' 0 (L++[x]).length) (L++[x]) ids/\lD lo n' ids:=by
 obtain⟨n1,n2⟩:=List.nodup_cons.1 hN.1
 have hb:=fun i (hi:i∈is)=>hN.2 i (by simp[hi])
 have TW:fH R g' rows L is:=hR.frame ok fun i hi=>hf i (hb i hi).1 (hb i hi).2 fun e=>n1 (e▸hi)
 refine⟨o'::(is++ic),⟨o',_,_,rfl,hg,TW.app (fH.one hx),rfl⟩,List.nodup_cons.2 ⟨fun h=>?_,List.nodup_append.2 ⟨n2,SH.1,fun x hx y hy e=>?_⟩⟩,fun i hi=>?_⟩
 ·rcases List.mem_append.1 h with h|h
  ·have:=hb _ h;omega
  ·have:=SH.2 _ h;omega
 ·have h1:=hb _ hx;have h2:=SH.2 _ hy;rw[e]at h1;omega
 ·rcases List.mem_cons.1 hi with rfl|hi
  ·omega
  ·rcases List.mem_append.1 hi with h|h
   ·have:=hb _ h;omega
   ·have:=SH.2 _ h;omega
end
end Go.Proofs.YtalkncaokeaifaaGreatDoor.V

namespace Go.Proofs.YtalkncaokeaifaaGreatDoor.V
open Go.RowKit
attribute [local irreducible] dH wpOps eB Call
attribute [local go_sem] ax eo dS ez ev cZ upd bD K.av bR AV.cells AV.cell rowOf rowsOf part ld rowAt eL bz bx cW dj eO bf cC dw er ea cR dq cw cu da db bp aI bZ bj ck cj dn dr dp bW br cz dm bh ar cq bH eM aT bL bq aH cU aQ cX AV.undef aW bd de di cY c6 bJ dv dy bE du dt cm cr List.getD_cons_zero List.getD_cons_succ List.getD_nil List.all_cons List.all_nil Bool.and_true Bool.true_and Bool.and_self Bool.not_true Bool.not_false Option.map_some Option.map_none Option.bind_some Option.bind_none List.length_cons List.length_nil List.take_succ_cons List.take_zero List.take_nil List.drop_succ_cons List.drop_zero List.drop_nil List.head?_cons List.map_cons List.map_nil List.getElem?_cons_zero List.getElem?_cons_succ List.cons_append List.nil_append List.append_nil List.length_map List.set_cons_zero List.set_cons_succ Nat.reduceMul eq_self Int.toNat_natCast Int.natCast_nonneg and_self true_and and_true decide_true decide_false Bool.false_eq_true Nat.zero_add Nat.add_zero List.contains_cons List.contains_nil Bool.or_false Bool.false_or beq_self_eq_true Nat.reduceBEq ne_eq not_true_eq_false not_false_eq_true Id.mk.injEq false_and and_false Nat.reduceLT Int.reduceLE Int.reduceLT Int.reduceToNat Int.reduceNeg Int.reduceAdd Nat.le_refl List.length_append beq_true beq_false Bool.not_eq_eq_eq_not or_false false_or dX ad ae aP aJ bt bI aD aS aA aL bU aZ
def I4 (z lo:Nat) (L:List (List Int)) (v:AV) (g:Rows) (n:Nat):Prop:=(L=[]/\v=.bP)∨∃(oo:Id) (rows:List (List AV)) (is:List Id),v=.own oo 0 L.length/\g oo=some ⟨true,1,rows⟩/\fH yz g rows L is/\lD lo n (oo::is)/\0<L.length/\oo.site=z
theorem I4.out {z lo:Nat} {L:List (List Int)} {v:AV} {g:Rows} {n:Nat} (h:I4 z lo L v g n):∃ids,FD g v L ids/\lD lo n ids:=by
 rcases h with⟨h1,h2⟩|⟨oo,rows,is,h1,h2,h3,h4,h5,_⟩
 ·exact⟨[],.inl ⟨h1,h2,rfl⟩,⟨List.nodup_nil,fun i hi=>by cases hi⟩⟩
 ·exact⟨oo::is,.inr ⟨⟨oo,rows,is,h1,h2,h3,rfl⟩,h5⟩,h4⟩
theorem I4.one {z lo n:Nat} {R:List Int} {v:AV} {g:Rows} {oo r:Id} (hv:v=.own oo 0 1) (hg:g oo=some ⟨true,1,[[.own r 0 R.length]]⟩) (hr:g r=some ⟨true,1,R.map ah⟩) (h1:lo<=r.cV) (h2:r.cV<oo.cV) (h3:oo.cV<n) (hs:oo.site=z):I4 z lo [R] v g n:=
 .inr ⟨oo,_,[r],hv,hg,fH.one ⟨r,rfl,hr,rfl⟩,⟨List.nodup_cons.2 ⟨fun h=>by rw[List.mem_singleton.1 h]at h2;omega,List.nodup_cons.2 ⟨by simp,List.nodup_nil⟩⟩,fun i hi=>by
  rcases List.mem_cons.1 hi with rfl|hi
  ·omega
  ·rw[List.mem_singleton.1 hi];omega⟩,by simp,hs⟩
theorem I4.more {z lo m n:Nat} {L:List (List Int)} {R:List Int} {v:AV} {g g':Rows} {oo o' r:Id} {rows:List (List AV)} {is:List Id} (h3:fH yz g rows L is) (h4:lD lo m (oo::is)) (k6:lo<=m)
  (hv:v=.own o' 0 (L.length+1)) (hg:g' o'=some ⟨true,1,rows++[[.own r 0 R.length]]⟩) (hr:g' r=some ⟨true,1,R.map ah⟩) (hf:∀y:Id,y.cV<m->y≠oo->g' y=g y) (h1:m<=r.cV) (h2:r.cV<o'.cV) (h5:o'.cV<n) (hs:o'.site=z):I4 z lo (L++[R]) v g' n:=by
 obtain⟨ids,⟨o2,Vz,is2,q1,q2,q3,rfl⟩,q5⟩:=FC.push (z:=1) (lo:=lo) (m:=m) (n':=n) (x:=R) (cs:=[.own r 0 R.length]) (ic:=[r]) (o':=o') (g':=g') Ky h3 h4 (fun y _ y2 y3=>hf y y2 y3) ⟨r,rfl,hr,rfl⟩ ⟨List.nodup_cons.2 ⟨by simp,List.nodup_nil⟩,fun i hi=>by rw[List.mem_singleton.1 hi];omega⟩ ab h5 k6 hg
 have e:o2=o':=by
  injection q1 with e1;exact e1.symm
 subst e
 exact .inr ⟨o2,Vz,is2,by rw[hv,List.length_append];rfl,q2,q3,q5,by simp,hs⟩
theorem zV (s:aw) (a:km) (w h:Int) (hn:j7 s.aq) (hm:yF s) (hl:a.ay.length<=1048576):
  ∀n0:Nat,Call Tryz.prog 15 [.agg (eb s),.agg (ph a),.int .i64 w,.int .i64 h] ⟨fun _=>none,n0⟩ (fun r σ'=>∃ids,(∃v0 i0,r=.fN [v0,.int .i64 (qy s a w h).2]/\FD σ'.get v0 (qy s a w h).1 i0/\ids=i0)/\lD n0 σ'.next ids):=by
 obtain⟨l⟩:=a
 intro n0
 have h1:=AA s l hn hm hl
 have i1:=fR w 1 15
 have i2:=fR h 1 15
 rw[ph]
 (try dsimp only)
 cases hask:xW s l
 ·rw[hask]at h1
  have hr:qy s ⟨l⟩ w h=([],1):=by rw[qy,hask];rfl
  rw[hr]
  refine eX fC rfl fun fb=>?_
  clear fb
  rw[eb]at h1 ⊢
  (repeat(first|((repeat(revert hN;revert N;apply Pn.out));refine wk @Nat.zero_add ?_;(repeat(refine Pn.mk ?_;intro N hN)))|((try apply Or.inl);refine⟨_,az.x (h1) (sd @Nat.zero_add),?_⟩;refine hN _ _ ?_;clear hN N)))
  exact eK (.inl rfl) (vs:=[.bP,.int .i64 1]) (sd @Nat.zero_add) ⟨[],⟨.bP,[],rfl,.inl ⟨rfl,rfl,rfl⟩,rfl⟩,⟨List.nodup_nil,fun i hi=>by cases hi⟩⟩
 rw[hask]at h1
 obtain⟨hP,hA⟩:=Jj.1 hask
 cases sI:ir w 1 15
 ·have hr:qy s ⟨l⟩ w h=([],2):=by rw[qy,hask,if_pos rfl,sI];rfl
  rw[hr]
  refine eX fC rfl fun fb=>?_
  clear fb
  rw[sI]at i1
  rw[eb]at h1 ⊢
  (repeat(first|((repeat(revert hN;revert N;apply Pn.out));refine wk @Nat.zero_add ?_;(repeat(refine Pn.mk ?_;intro N hN)))|((try apply Or.inl);refine⟨_,az.x (h1) (sd @Nat.zero_add),?_⟩;refine hN _ _ ?_;clear hN N)|((try apply Or.inl);refine⟨_,az.x (i1) (sd @Nat.zero_add),?_⟩;refine hN _ _ ?_;clear hN N)))
  exact eK (.inl rfl) (vs:=[.bP,.int .i64 2]) (sd @Nat.zero_add) ⟨[],⟨.bP,[],rfl,.inl ⟨rfl,rfl,rfl⟩,rfl⟩,⟨List.nodup_nil,fun i hi=>by cases hi⟩⟩
 rw[sI]at i1
 cases F4:ir h 1 15
 ·have hr:qy s ⟨l⟩ w h=([],2):=by rw[qy,hask,if_pos rfl,sI,F4];rfl
  rw[hr]
  refine eX fC rfl fun fb=>?_
  clear fb
  rw[F4]at i2
  rw[eb]at h1 ⊢
  (repeat(first|((repeat(revert hN;revert N;apply Pn.out));refine wk @Nat.zero_add ?_;(repeat(refine Pn.mk ?_;intro N hN)))|((try apply Or.inl);refine⟨_,az.x (h1) (sd @Nat.zero_add),?_⟩;refine hN _ _ ?_;clear hN N)|((try apply Or.inl);refine⟨_,az.x (i1) (sd @Nat.zero_add),?_⟩;refine hN _ _ ?_;clear hN N)|((try apply Or.inl);refine⟨_,az.x (i2) (sd @Nat.zero_add),?_⟩;refine hN _ _ ?_;clear hN N)))
  exact eK (.inl rfl) (vs:=[.bP,.int .i64 2]) (sd @Nat.zero_add) ⟨[],⟨.bP,[],rfl,.inl ⟨rfl,rfl,rfl⟩,rfl⟩,⟨List.nodup_nil,fun i hi=>by cases hi⟩⟩
 rw[F4]at i2
 have kb:=dZ sI
 have kd:=dZ F4
 obtain⟨wn,rfl⟩:∃n:Nat,w=(n:Int):=⟨w.toNat,ab⟩
 obtain⟨hh,rfl⟩:∃n:Nat,h=(n:Int):=⟨h.toNat,ab⟩
 have hr:qy s ⟨l⟩ wn hh=if RP s.aq l wn hh=true then(rL s.aq l wn hh,0)else([],9):=by rw[qy,hask,if_pos rfl,sI,F4];rfl
 obtain⟨R,hR⟩:∃R:List (List Int)×Int,qy s ⟨l⟩ wn hh=R:=⟨_,rfl⟩
 rw[hR]at hr ⊢
 clear hR
 have tO:=fun y x:Nat=>Cf s.aq hP.set.form l hA ⟨(x:Int)+1,(y:Int)+1⟩ 0 (jE ab)
 have Yo:=fun nm:ByteArray=>(show az Tryz.prog 45 [.str nm,.str ⟨#[113]⟩,.int .i64 10] (.int .i64 (sE nm ⟨#[113]⟩ 10))from ER nm ⟨#[113]⟩ (by decide) 10 ab)
 rw[aj]at tO
 refine eX fC rfl fun fb=>?_
 clear fb
 rw[eb]at h1 ⊢
 (repeat(first|((repeat(revert hN;revert N;apply Pn.out));refine wk @Nat.zero_add ?_;(repeat(refine Pn.mk ?_;intro N hN)))|((try apply Or.inl);refine⟨_,az.x (h1) (sd @Nat.zero_add),?_⟩;refine hN _ _ ?_;clear hN N)|((try apply Or.inl);refine⟨_,az.x (i1) (sd @Nat.zero_add),?_⟩;refine hN _ _ ?_;clear hN N)|((try apply Or.inl);refine⟨_,az.x (i2) (sd @Nat.zero_add),?_⟩;refine hN _ _ ?_;clear hN N)))
 refine dc (fun n env st=>∃k:Nat,n=(hh)-k/\k<=(hh)/\env 30=.int .i64 (k:Int)/\(∀y:Nat,y<k->∀x,x<wn->0<=oV s.aq l y x)/\(I4 15018003 n0 (rL s.aq l wn k) (env 10) st.get st.next/\n0<st.next/\st.get ⟨15000000,n0⟩=some ⟨true,4,[[.sl (s.aq.dx.map eP),.sl (s.aq.ay.map eS),.sl (s.dJ.ay.map ai),.int .i64 s.bu]]⟩/\st.get ⟨15000001,n0⟩=some ⟨true,1,[[.sl (l.map ai)]]⟩)) (hh) ⟨0,ab,ab,sl @Nat.zero_add,fun _ h=>absurd h (Nat.not_lt_zero _),by(try dsimp only);exact⟨.inl ⟨rfl,sd @Nat.zero_add⟩,ab,sd @Nat.zero_add,sd @Nat.zero_add⟩⟩ ?_
 rintro n_a env_a st_a ⟨k,rfl,ale,a30,xQ,qM⟩ eR
 have a2:=eR 2 (by kernel_rfl);have a4:=eR 4 (by kernel_rfl);have a5:=eR 5 (by kernel_rfl);have Td:=eR 29 (by kernel_rfl)
 simp only[go_sem, ↓reduceIte,Nat.reduceEqDiff,Nat.reduceAdd,Nat.reduceSub,Nat.reduceLeDiff,reduceCtorEq]at a2 a4 a5 Td
 clear eR
 obtain⟨aG,an,ag4,ag5⟩:=qM
 by_cases hk:(k:Int)<(hh:Int)
 ·have eF:∀{e:Env} {gg:Rows} {nx:Nat},(e 30=.int .i64 (IntKind.i64.wrap ((k:Int)+1)))->(∀x,x<wn->0<=oV s.aq l k x)->(I4 15018003 n0 (rL s.aq l wn (k+1)) (e 10) gg nx/\n0<nx/\gg ⟨15000000,n0⟩=some ⟨true,4,[[.sl (s.aq.dx.map eP),.sl (s.aq.ay.map eS),.sl (s.dJ.ay.map ai),.int .i64 s.bu]]⟩/\gg ⟨15000001,n0⟩=some ⟨true,1,[[.sl (l.map ai)]]⟩)->∃m0,m0<(hh)-k/\∃k:Nat,m0=(hh)-k/\k<=(hh)/\e 30=.int .i64 (k:Int)/\(∀y:Nat,y<k->∀x,x<wn->0<=oV s.aq l y x)/\(I4 15018003 n0 (rL s.aq l wn k) (e 10) gg nx/\n0<nx/\gg ⟨15000000,n0⟩=some ⟨true,4,[[.sl (s.aq.dx.map eP),.sl (s.aq.ay.map eS),.sl (s.dJ.ay.map ai),.int .i64 s.bu]]⟩/\gg ⟨15000001,n0⟩=some ⟨true,1,[[.sl (l.map ai)]]⟩):=fun x1 x2 x3=>⟨_,ab,k+1,rfl,ab,(by rw[x1,cE ab]),(all_succ xQ x2),x3⟩
  have WA:k<hh:=ab
  (try((repeat(revert hN;revert N;apply Pn.out));refine wk (tw @a30 (tw @a2 (tw @a4 (tw @a5 (tw @Td @hk))))) ?_;(repeat(refine Pn.mk ?_;intro N hN))))
  refine dc (fun n env st=>∃x:Nat,n=(wn)-x/\x<=(wn)/\env 34=.int .i64 (x:Int)/\(∀j:Nat,j<x->0<=oV s.aq l k j)/\(Xb 15016003 st_a.next (pR s.aq l k x) (env 12) st.get st.next/\st_a.next<=st.next/\∀i:Id,i.cV<st_a.next->st.get i=st_a.get i)) (wn) ⟨0,ab,ab,sl (tw @a30 (tw @a2 (tw @a4 (tw @a5 @Td)))),fun _ h=>absurd h (Nat.not_lt_zero _),by(try dsimp only);exact⟨.inl ⟨rfl,sd @Nat.zero_add⟩,ab,fun i hi=>rfl⟩⟩ ?_
  rintro n_b env_b st_b ⟨x,rfl,ble,b34,bA0,bI0⟩ fG
  have b2:=fG 2 (by kernel_rfl);have b4:=fG 4 (by kernel_rfl);have b5:=fG 5 (by kernel_rfl);have tu:=fG 10 (by kernel_rfl);have lW:=fG 11 (by kernel_rfl);have Dn:=fG 29 (by kernel_rfl);have Dp:=fG 30 (by kernel_rfl);have lP:=fG 33 (by kernel_rfl)
  simp only[go_sem, ↓reduceIte,Nat.reduceEqDiff,Nat.reduceAdd,Nat.reduceSub,Nat.reduceLeDiff,reduceCtorEq,a30,a2,a4,a5,Td]at b2 b4 b5 tu lW Dn Dp lP
  clear fG
  obtain⟨bG,bn,bF⟩:=bI0
  have g4:=(bF ⟨15000000,n0⟩ an).trans ag4
  have g5:=(bF ⟨15000001,n0⟩ an).trans ag5
  by_cases hx:(x:Int)<(wn:Int)
  ·have gi:∀{e:Env} {gg:Rows} {nx:Nat},(e 34=.int .i64 (IntKind.i64.wrap ((x:Int)+1)))->(0<=oV s.aq l k x)->(Xb 15016003 st_a.next (pR s.aq l k (x+1)) (e 12) gg nx/\st_a.next<=nx/\∀i:Id,i.cV<st_a.next->gg i=st_a.get i)->∃m0,m0<(wn)-x/\∃x:Nat,m0=(wn)-x/\x<=(wn)/\e 34=.int .i64 (x:Int)/\(∀j:Nat,j<x->0<=oV s.aq l k j)/\(Xb 15016003 st_a.next (pR s.aq l k x) (e 12) gg nx/\st_a.next<=nx/\∀i:Id,i.cV<st_a.next->gg i=st_a.get i):=fun x1 x2 x3=>⟨_,ab,x+1,rfl,ab,(by rw[x1,cE ab]),(all_succ bA0 x2),x3⟩
   have YQ:x<wn:=ab
   have Ku:IntKind.i64.wrap ((x:Int)+1)=(x:Int)+1:=cH ab
   have Ga:IntKind.i64.wrap ((k:Int)+1)=(k:Int)+1:=cH ab
   have Kc:=tO k x
   rw[ao]at Kc
   have Hv:=Yo (Nj s.aq l ⟨(x:Int)+1,(k:Int)+1⟩ 0)
   have hcd:sE (Nj s.aq l ⟨(x:Int)+1,(k:Int)+1⟩ 0) ⟨#[113]⟩ 10=oV s.aq l k x:=rfl
   rw[hcd]at Hv
   generalize Nj s.aq l ⟨(x:Int)+1,(k:Int)+1⟩ 0=nm at Kc Hv
   obtain⟨v,hv⟩:∃v,oV s.aq l k x=v:=⟨_,rfl⟩
   rw[hv]at Hv
   by_cases pP:v<0
   ·have qn:=RQ (s:=s.aq) (l:=l) (w:=wn) (h:=hh) WA YQ (by rw[hv];exact pP)
    rw[qn,if_neg (by simp)]at hr
    subst hr
    (repeat(first|((repeat(revert hN;revert N;apply Pn.out));refine wk (tw @b34 (tw @b2 (tw @b4 (tw @b5 (tw @tu (tw @lW (tw @Dn (tw @Dp (tw @lP (tw @hx (tw @g4 (tw @g5 (tw @Ku (tw @Ga @pP)))))))))))))) ?_;(repeat(refine Pn.mk ?_;intro N hN)))|((try apply Or.inl);refine⟨_,az.x (Kc) (sd (tw @b34 (tw @b2 (tw @b4 (tw @b5 (tw @tu (tw @lW (tw @Dn (tw @Dp (tw @lP (tw @hx (tw @g4 (tw @g5 (tw @Ku (tw @Ga @pP))))))))))))))),?_⟩;refine hN _ _ ?_;clear hN N)|((try apply Or.inl);refine⟨_,az.x (Hv) (sd (tw @b34 (tw @b2 (tw @b4 (tw @b5 (tw @tu (tw @lW (tw @Dn (tw @Dp (tw @lP (tw @hx (tw @g4 (tw @g5 (tw @Ku (tw @Ga @pP))))))))))))))),?_⟩;refine hN _ _ ?_;clear hN N)))
    exact eK (.inl rfl) (vs:=[.bP,.int .i64 9]) (sd @Nat.zero_add) ⟨[],⟨.bP,[],rfl,.inl ⟨rfl,rfl,rfl⟩,rfl⟩,⟨List.nodup_nil,fun i hi=>by cases hi⟩⟩
   ·have ym:(pR s.aq l k (x+1)).map ah=(pR s.aq l k x).map ah++[[.int .i64 v]]:=by rw[HZ,List.map_append,hv];rfl
    have nz:=rR s.aq l k (x+1)
    have Nz:=rR s.aq l k x
    have NN:x<=16777215:=ab
    generalize pR s.aq l k x=M at bG ym Nz
    rcases bG with⟨hM,Jk⟩|⟨u,Jk,hu,hum,IL,Kt,UW⟩
    ·subst hM
     (repeat(first|((repeat(revert hN;revert N;apply Pn.out));refine wk (tw @b34 (tw @b2 (tw @b4 (tw @b5 (tw @tu (tw @lW (tw @Dn (tw @Dp (tw @lP (tw @hx (tw @g4 (tw @g5 (tw @Ku (tw @Ga (tw @pP @Jk))))))))))))))) ?_;(repeat(refine Pn.mk ?_;intro N hN)))|((try apply Or.inl);refine⟨_,az.x (Kc) (sd (tw @b34 (tw @b2 (tw @b4 (tw @b5 (tw @tu (tw @lW (tw @Dn (tw @Dp (tw @lP (tw @hx (tw @g4 (tw @g5 (tw @Ku (tw @Ga (tw @pP @Jk)))))))))))))))),?_⟩;refine hN _ _ ?_;clear hN N)|((try apply Or.inl);refine⟨_,az.x (Hv) (sd (tw @b34 (tw @b2 (tw @b4 (tw @b5 (tw @tu (tw @lW (tw @Dn (tw @Dp (tw @lP (tw @hx (tw @g4 (tw @g5 (tw @Ku (tw @Ga (tw @pP @Jk)))))))))))))))),?_⟩;refine hN _ _ ?_;clear hN N)))
     exact gi (sd (tw @b34 (tw @b2 (tw @b4 (tw @b5 (tw @tu (tw @lW (tw @Dn (tw @Dp (tw @lP @Ku)))))))))) (by rw[hv];omega) (by(try dsimp only);exact⟨.inr ⟨⟨15016003,st_b.next+1+1+1+1⟩,by rw[nz,<-Nz];simp only[go_sem, ↓reduceIte,Nat.reduceEqDiff,Nat.reduceAdd,Nat.reduceSub,Nat.reduceLeDiff,reduceCtorEq]<;>rfl,by rw[ym];simp only[go_sem, ↓reduceIte,Nat.reduceEqDiff,Nat.reduceAdd,Nat.reduceSub,Nat.reduceLeDiff,reduceCtorEq]<;>rfl,cD,cD,by rw[nz];omega,rfl⟩,ab,fun i hi=>by
      have h9:=dF (i:=i) (n:=st_b.next) ab
      have h8:=bF i hi
      simp only[go_sem, ↓reduceIte,Nat.reduceEqDiff,Nat.reduceAdd,Nat.reduceSub,Nat.reduceLeDiff,reduceCtorEq,h9,h8]⟩)
    ·have vu:=dF IL
     have NC:(M.map ah).length=M.length:=by simp
     have TQ:M.length<=16777215:=ab
     (repeat(first|((repeat(revert hN;revert N;apply Pn.out));refine wk (tw @b34 (tw @b2 (tw @b4 (tw @b5 (tw @tu (tw @lW (tw @Dn (tw @Dp (tw @lP (tw @hx (tw @g4 (tw @g5 (tw @Ku (tw @Ga (tw @pP (tw @Jk (tw @hu (tw @vu (tw @NC @TQ))))))))))))))))))) ?_;(repeat(refine Pn.mk ?_;intro N hN)))|((try apply Or.inl);refine⟨_,az.x (Kc) (sd (tw @b34 (tw @b2 (tw @b4 (tw @b5 (tw @tu (tw @lW (tw @Dn (tw @Dp (tw @lP (tw @hx (tw @g4 (tw @g5 (tw @Ku (tw @Ga (tw @pP (tw @Jk (tw @hu (tw @vu (tw @NC @TQ)))))))))))))))))))),?_⟩;refine hN _ _ ?_;clear hN N)|((try apply Or.inl);refine⟨_,az.x (Hv) (sd (tw @b34 (tw @b2 (tw @b4 (tw @b5 (tw @tu (tw @lW (tw @Dn (tw @Dp (tw @lP (tw @hx (tw @g4 (tw @g5 (tw @Ku (tw @Ga (tw @pP (tw @Jk (tw @hu (tw @vu (tw @NC @TQ)))))))))))))))))))),?_⟩;refine hN _ _ ?_;clear hN N)))
     exact gi (sd (tw @b34 (tw @b2 (tw @b4 (tw @b5 (tw @tu (tw @lW (tw @Dn (tw @Dp (tw @lP @Ku)))))))))) (by rw[hv];omega) (by(try dsimp only);exact⟨.inr ⟨⟨15016003,st_b.next+1+1+1+1⟩,by rw[nz,<-Nz];simp only[go_sem, ↓reduceIte,Nat.reduceEqDiff,Nat.reduceAdd,Nat.reduceSub,Nat.reduceLeDiff,reduceCtorEq]<;>rfl,by rw[ym];simp only[go_sem, ↓reduceIte,Nat.reduceEqDiff,Nat.reduceAdd,Nat.reduceSub,Nat.reduceLeDiff,reduceCtorEq]<;>rfl,cD,cD,by rw[nz];omega,rfl⟩,ab,fun i hi=>by
      have h9:=dF (i:=i) (n:=st_b.next) ab
      have h8:=bF i hi
      have h7:=dU (a:=i) (b:=u) ab
      simp only[go_sem, ↓reduceIte,Nat.reduceEqDiff,Nat.reduceAdd,Nat.reduceSub,Nat.reduceLeDiff,reduceCtorEq,h9,h8,h7]⟩)
  ·have YQ:x=wn:=ab
   subst YQ
   have uJ:=rR s.aq l k x
   have Pm:∀y,y=k->∀x',x'<x->0<=oV s.aq l y x':=fun y hy x' uK=>by rw[hy];exact bA0 x' uK
   have ym:=Om s.aq l x k
   have Ph:=Lj s.aq l x k
   generalize pR s.aq l k x=R1 at bG uJ ym
   rcases bG with⟨hM,Jk⟩|⟨u,Jk,hu,hum,IL,Kt,UW⟩
   ·subst hM;simp at uJ;omega
   have vu:=dF IL
   generalize rL s.aq l x k=L at aG ym Ph
   have sK:k<=16777215:=ab
   rcases aG with⟨hL,xP⟩|⟨oo,rows,is,xP,Yr,hRR,hNI,hLp,pX⟩
   ·subst hL
    (try((repeat(revert hN;revert N;apply Pn.out));refine wk (tw @b34 (tw @b2 (tw @b4 (tw @b5 (tw @tu (tw @lW (tw @Dn (tw @Dp (tw @lP (tw @hx (tw @Jk (tw @xP (tw @hu @vu))))))))))))) ?_;(repeat(refine Pn.mk ?_;intro N hN))))
    exact eF (sd (tw @b34 (tw @b2 (tw @b4 (tw @b5 (tw @tu (tw @lW (tw @Dn (tw @Dp @lP))))))))) (fun x' uK=>Pm _ rfl x' uK) (by(try dsimp only);exact⟨by
     rw[ym]
     exact I4.one (oo:=⟨15018003,st_b.next+1⟩) (r:=u) (sl @Nat.zero_add) (by rw[uJ];simp only[go_sem, ↓reduceIte,Nat.reduceEqDiff,Nat.reduceAdd,Nat.reduceSub,Nat.reduceLeDiff,reduceCtorEq]<;>rfl) (sd (tw @vu @hu)) ab cD cD rfl,ab,sd @g4,sd @g5⟩)
   ·have Ys:=(bF oo (hNI.2 oo (by simp)).2).trans Yr
    have voo:=dF (i:=oo) (n:=st_b.next) (by have:=(hNI.2 oo (by simp)).2;omega)
    have hRb:fH yz st_b.get rows L is:=hRR.frame Ky fun i hi=>bF i (hNI.2 i (by simp[hi])).2
    have Hy:=hRR.len
    have hL1:L.length<=16777215:=ab
    have hLk:L.length+1=k+1:=ab
    have uo:(u=oo)=False:=eq_false fun e=>by
     have:=(hNI.2 oo (by simp)).2
     rw[e]at hum;omega
    have o4:((⟨15000000,n0⟩:Id)=oo)=False:=eq_false fun e=>by
     have h:=congrArg Id.site e
     rw[pX]at h
     exact absurd (show(15000000:Nat)=15018003 from h) (by decide)
    have o5:((⟨15000001,n0⟩:Id)=oo)=False:=eq_false fun e=>by
     have h:=congrArg Id.site e
     rw[pX]at h
     exact absurd (show(15000001:Nat)=15018003 from h) (by decide)
    (try((repeat(revert hN;revert N;apply Pn.out));refine wk (tw @b34 (tw @b2 (tw @b4 (tw @b5 (tw @tu (tw @lW (tw @Dn (tw @Dp (tw @lP (tw @hx (tw @Jk (tw @xP (tw @hu (tw @vu (tw @Ys (tw @voo (tw @Hy @hL1))))))))))))))))) ?_;(repeat(refine Pn.mk ?_;intro N hN))))
    exact eF (sd (tw @b34 (tw @b2 (tw @b4 (tw @b5 (tw @tu (tw @lW (tw @Dn (tw @Dp @lP))))))))) (fun x' uK=>Pm _ rfl x' uK) (by(try dsimp only);exact⟨by
     rw[ym]
     exact I4.more (oo:=oo) (o':=⟨15018003,st_b.next+1⟩) (r:=u) (m:=st_a.next) hRb hNI ab (sl @Nat.zero_add) (by rw[uJ];simp only[go_sem, ↓reduceIte,Nat.reduceEqDiff,Nat.reduceAdd,Nat.reduceSub,Nat.reduceLeDiff,reduceCtorEq]<;>rfl) (sd (tw @vu (tw @uo @hu))) (fun y y1 y2=>by
      have h9:=dF (i:=y) (n:=st_b.next) ab
      have h8:=eq_false y2
      simp only[go_sem, ↓reduceIte,Nat.reduceEqDiff,Nat.reduceAdd,Nat.reduceSub,Nat.reduceLeDiff,reduceCtorEq,h9,h8]) ab cD cD rfl,ab,sd (tw @o4 @g4),sd (tw @o5 @g5)⟩)
 ·have mN:k=hh:=ab
  subst mN
  have YR:=Gt (s:=s.aq) (l:=l) (w:=wn) (h:=k) fun y hy=>xQ y hy
  rw[YR,if_pos rfl]at hr
  subst hr
  obtain⟨ids,ho,hi⟩:=aG.out
  obtain⟨v10,Ro⟩:∃v,env_a 10=v:=⟨_,rfl⟩
  rw[Ro]at ho
  (try((repeat(revert hN;revert N;apply Pn.out));refine wk (tw @a30 (tw @a2 (tw @a4 (tw @a5 (tw @Td (tw @hk @Ro)))))) ?_;(repeat(refine Pn.mk ?_;intro N hN))))
  exact eK (.inl rfl) (vs:=[v10,.int .i64 0]) (sd @Ro) ⟨ids,⟨v10,ids,rfl,ho,rfl⟩,hi.wide (Nat.le_refl _) cD⟩
end Go.Proofs.YtalkncaokeaifaaGreatDoor.V

namespace Go.Proofs.YtalkncaokeaifaaGreatDoor
open Go.ChangeShapes Go.WideShapes Go.ChangeAt Go.RowKit Go.Deep
section
variable {H:Type} {enc:TypeId×Value->H} {P:Program} {w:World}
theorem mF.Vf {α:Type} {rep:World->List Nat->List Value->α->Prop} {sz:Nat} {w:World} {b o len cap:Nat} (oq:Nat->List Value) (fs:Nat->List Nat) (ds:Nat->α) (hc:len<=cap) (hm:cap<=maxLen)
  (hl:∀i,i<len->(oq i).length=sz) (hr:∀i,i<len->rep w (fs i) (oq i) (ds i)) (y5:∀i,i<len->∀j u,(oq i)[j]? =some u->w.cell? ⟨b,o+(i*sz+j),none⟩=some u):
  mF rep sz w ([b]++((List.range len).map fs).flatten) (.slice (some ⟨b,o,none⟩) len cap) ((List.range len).map ds):=by
 refine⟨(List.range len).map oq,(List.range len).map fs,[b],rfl,⟨some ⟨b,o,none⟩,cap,by simp,by simpa using hc,hm,.inr ⟨b,o,rfl,rfl,fun j u hj=>?_⟩⟩,by simp,by simp,fun i cs f d h1 h2 h3=>?_⟩
 ·have hlen:∀cs∈(List.range len).map oq,cs.length=sz:=fun cs dW=>by
   obtain⟨i,hi,rfl⟩:=List.mem_map.1 dW
   exact hl i (List.mem_range.1 hi)
  have ja:=(List.getElem?_eq_some_iff.1 hj).1
  have J9:((List.range len).map oq).flatten.length=len*sz:=by
   rw[List.length_flatten,List.map_map]
   have:∀(l:List Nat),(∀i∈l,i<len)->(l.map (List.length∘oq)).sum=l.length*sz:=by
    intro l
    induction l with
    |nil=>intro _;simp
    |cons a l ih=>intro h;rw[List.map_cons,List.sum_cons,ih fun i hi=>h i (List.mem_cons_of_mem _ hi)];simp only[Function.comp,hl a (h a (by simp)),List.length_cons,Nat.add_mul];omega
   rw[this _ fun i hi=>List.mem_range.1 hi,List.length_range]
  rw[J9]at ja
  have Kq:0<sz:=by
   rcases Nat.eq_zero_or_pos sz with h|h
   ·subst h;simp at ja
   ·exact h
  have hi:j / sz<len:=(Nat.div_lt_iff_lt_mul Kq).2 ja
  have SL:j % sz<sz:=Nat.mod_lt _ Kq
  have Uu:j=(j / sz)*sz+j % sz:=by rw[Nat.mul_comm];exact(Nat.div_add_mod j sz).symm
  rw[Uu,tG hlen (i:=j / sz) (cs:=oq (j / sz)) (by simp[hi]) SL]at hj
  rw[Uu]
  have:=y5 (j / sz) hi (j % sz) u hj
  rw[<-Uu]at this ⊢
  exact this
 ·have hi:i<len:=by
   have:=(List.getElem?_eq_some_iff.1 h1).1
   simpa using this
  simp[hi]at h1 h2 h3
  subst h1 h2 h3
  exact⟨hr i hi,hl i hi⟩
theorem jX (b o k:Nat):(⟨b,o,none⟩:Addr).add k=⟨b,o+k,none⟩:=by
 unfold Addr.add;split
 ·rename_i h;subst h;rfl
 ·rfl
theorem Ip {α:Type} {rep:World->List Nat->List Value->α->Prop} {Q:α->Prop} {t e:TypeId} {sz fuel:Nat} {cs:List Value} {x:DataW H×List MemPlace} (ht:P.underlying t=some (.slice e)) (hC:P.cellsOf e=sz) (Kq:0<sz)
  (h:DataW.trod enc P w 0 (fun _=>true) true fuel t cs=some x) (hel:∀n qT y,qT.length=sz->DataW.trod enc P w 0 (fun _=>true) true n e qT=some y->∃f d,jW f 0 w.heap.size/\rep w f qT d/\Q d):
  ∃A n c f xs,cs=[.slice A n c]/\jW f 0 w.heap.size/\mF rep sz w f (.slice A n c) xs/\∀d∈xs,Q d:=by
 rcases open_slice ht h with⟨rfl,_⟩|⟨a,len,cap,m,n,D,Pl,rfl,_,hl,hm,NC,_,hi⟩
 ·exact⟨none,0,0,[],[],rfl,jW.nil _ _,mF.nil _ _ _,fun d h=>by cases h⟩
 rw[hC]at hi
 simp only[if_true]at NC
 by_cases h0:len=0
 ·subst h0
  exact⟨some a,0,cap,[],[],rfl,jW.nil _ _,⟨[],[],[],rfl,⟨some a,cap,rfl,Nat.zero_le _,hm,.inl ⟨rfl,rfl⟩⟩,rfl,rfl,fun i cs f d hc=>by simp at hc⟩,fun d h=>by cases h⟩
 obtain⟨b,o,sp⟩:=a
 have cell0:∃v,w.cell? ⟨b,o,sp⟩=some v:=by
  obtain⟨qT,hc,_⟩:=hi 0 (by omega)
  obtain⟨_,nR,y5⟩:=World.cells?_some hc
  refine⟨qT[0]'(by omega),?_⟩
  have:=y5 0 Kq
  rw[List.getElem?_eq_getElem (by omega)]at this
  simpa[Addr.add]using this
 obtain⟨v0,pP⟩:=cell0
 have hb:b<w.heap.size:=World.block_lt_of_cell? w _ pP
 have hsp:sp=none:=by
  unfold World.cell? at pP
  split at pP
  ·split at pP
   ·cases pP
   ·rename_i h;simpa using h
  ·cases pP
 subst hsp
 have key:∀i,i<len->∃qT f d,qT.length=sz/\jW f 0 w.heap.size/\rep w f qT d/\Q d/\∀j u,qT[j]? =some u->w.cell? ⟨b,o+(i*sz+j),none⟩=some u:=fun i pN=>by
  obtain⟨qT,hc,htr⟩:=hi i (by omega)
  obtain⟨_,nR,y5⟩:=World.cells?_some hc
  obtain⟨f,d,h1,h2,h3⟩:=hel n qT _ nR htr
  refine⟨qT,f,d,nR,h1,h2,h3,fun j u hj=>?_⟩
  have ja:=(List.getElem?_eq_some_iff.1 hj).1
  have:=y5 j (by omega)
  rw[hj]at this
  rw[<-this,Go.Deep.add_add,jX]
 have:Nonempty α:=by
  obtain⟨_,_,d,_⟩:=key 0 (by omega)
  exact⟨d⟩
 let cf:Nat->List Value:=fun i=>if hi:i<len then(key i hi).choose else[]
 let ff:Nat->List Nat:=fun i=>if hi:i<len then(key i hi).choose_spec.choose else[]
 let df:Nat->α:=fun i=>if hi:i<len then(key i hi).choose_spec.choose_spec.choose else Classical.choice this
 have eI:∀i,i<len->(cf i).length=sz/\jW (ff i) 0 w.heap.size/\rep w (ff i) (cf i) (df i)/\Q (df i)/\∀j u,(cf i)[j]? =some u->w.cell? ⟨b,o+(i*sz+j),none⟩=some u:=fun i hi=>by
  have:=(key i hi).choose_spec.choose_spec.choose_spec
  simp only[cf,ff,df,dif_pos hi]
  exact this
 refine⟨some ⟨b,o,none⟩,len,cap,_,(List.range len).map df,rfl,?_,mF.Vf cf ff df hl hm (fun i hi=>(eI i hi).1) (fun i hi=>(eI i hi).2.2.1) (fun i hi=>(eI i hi).2.2.2.2),fun d hd=>?_⟩
 ·intro x hx
  rcases List.mem_append.1 hx with hx|hx
  ·simp at hx;subst hx;exact⟨Nat.zero_le _,hb⟩
  ·obtain⟨l,Yh,U0⟩:=List.mem_flatten.1 hx
   obtain⟨i,hi,rfl⟩:=List.mem_map.1 Yh
   exact(eI i (List.mem_range.1 hi)).2.1 x U0
 ·obtain⟨i,hi,rfl⟩:=List.mem_map.1 hd
  exact(eI i (List.mem_range.1 hi)).2.2.2.1
end
section
variable {H:Type} {enc:TypeId×Value->H} {w:World} {fuel:Nat} {cs:List Value} {x:DataW H×List MemPlace}
abbrev TT (enc:TypeId×Value->H) (w:World) (fuel t:Nat) (cs:List Value) (x:DataW H×List MemPlace):Prop:=DataW.trod enc Tryz.prog w 0 (fun _=>true) true fuel t cs=some x
end
end Go.Proofs.YtalkncaokeaifaaGreatDoor

namespace Go.Proofs.YtalkncaokeaifaaGreatDoor
open Go.ChangeShapes Go.WideShapes Go.ChangeAt Go.RowKit V
def u9:=Flat (fun b:Int=>[Value.int .u8 b])
theorem Bv {P:Program} {w:World} {D:Nat->Prop} {f:List Nat} {v:Value} {xs:List Int} (h:mF u9 1 w f v xs) (hD:∀b∈f,D b):jA P w D (.sl (xs.map il)) v:=
 LI h hD (fun _ _=>rfl) (fun x _ a ha=>by simp[il]at ha;rcases ha with rfl<;>rfl) fun x _ f' cs hr hf=>by
  obtain⟨_,rfl⟩:=hr
  intro j a ha
  match j,ha with
  |0,ha=>simp[il]at ha;subst ha;exact⟨_,rfl,.int _ _⟩
  |j+1,ha=>simp[il]at ha
theorem Gq {H:Type} {enc:TypeId×Value->H} {w:World} {fuel:Nat} {cs:List Value} {x:DataW H×List MemPlace} (h:TT enc w fuel 22 cs x):∃A n c f xs,cs=[.slice A n c]/\jW f 0 w.heap.size/\mF u9 1 w f (.slice A n c) xs/\∀b∈xs,0<=b/\b<=255:=
 Ip (rep:=u9) (Q:=fun b=>0<=b/\b<=255) Tryz.underlying22 (sz:=1) (by kernel_rfl) (by omega) h fun n qT y hl hy=>by
  obtain⟨b,rfl,_,hw⟩:=DataW.trod_int Tryz.underlying5 hy
  exact⟨[],b,jW.nil _ _,⟨rfl,rfl⟩,by simpa[Lit.wf,IntKind.min,IntKind.max,IntKind.signed,IntKind.bits]using hw⟩
end Go.Proofs.YtalkncaokeaifaaGreatDoor

namespace Go.Proofs.YtalkncaokeaifaaGreatDoor.V
open Go.RowKit
theorem zW (s:aw) (a:km) (w h:Int) (hn:j7 s.aq) (hm:yF s) (hl:a.ay.length<=1048576):az Tryz.prog 15 [.agg (eb s),.agg (ph a),.int .i64 w,.int .i64 h] (.fN [N8 Qu (qy s a w h).1,.int .i64 (qy s a w h).2]):=fun n=>by
 refine bc _ _ _ _ _ (fun r σ' hq=>?_) (zV s a w h hn hm hl n)
 obtain⟨ids,⟨v0,i0,rfl,ho,_⟩,_⟩:=hq
 exact⟨_,by simp only[gn,cQ,dD,ho.s,eV,Option.map_some],rfl⟩
section
variable {S m n:Nat} {ws ss tb:List Int} (X:GO S m n ws ss tb) (hS:S<5) (hm:m<6) (hn:n<6)
include X hS hm hn
theorem Oz {sch:List Int} {es:List aa} (hg:pM (gH S m n ws ss tb) sch 501=some es) (hf:ei (gH S m n ws ss tb) es es.length=ke (n+1) (m+1) (fun a b=>(rT S m n ws ss tb a.toNat b.toNat:Nat))):
  qy (gH S m n ws ss tb) ⟨ke (n+1) (m+1) (fun a b=>(rT S m n ws ss tb a.toNat b.toNat:Nat))⟩ (n:Int) (m:Int)=(rL (gH S m n ws ss tb).aq (ke (n+1) (m+1) (fun a b=>(rT S m n ws ss tb a.toNat b.toNat:Nat))) n m,0):=by
 have hP:=Bb X hS hm hn
 have hA:=kI hP (es:=es) es.length (Nat.le_refl _) (yZ hg).1
 rw[hf]at hA
 have NA:=X.m1
 have pn:=X.n1
 have ha:xW (gH S m n ws ss tb) (ke (n+1) (m+1) (fun a b=>(rT S m n ws ss tb a.toNat b.toNat:Nat)))=true:=by
  unfold xW
  rw[mv.2 hP,oc.2 hA];rfl
 have h1:(ir (n:Int) 1 15&&ir (m:Int) 1 15)=true:=by rw[jE ab,jE ab];rfl
 have h2:RP (gH S m n ws ss tb).aq (ke (n+1) (m+1) (fun a b=>(rT S m n ws ss tb a.toNat b.toNat:Nat))) n m=true:=Gt fun y hy x hx=>by
  rw[Gx X hS hm hn hx hy]
  exact(lv X (x+1) (y+1) ab ab ab).1
 unfold qy
 rw[if_pos ha,if_pos h1,Int.toNat_natCast,Int.toNat_natCast,if_pos h2]
end
def W4 (xs:List Int) (N k:Nat):Int:=lX xs (N-1-k)
def WX (xs:List Int) (N k:Nat):Int:=lX xs (N+k)
def qH (xs:List Int) (N j:Nat):List Int:=(List.range j).map (W4 xs N)
def qG (xs:List Int) (N j:Nat):List Int:=(List.range j).map (WX xs N)
theorem uT (xs:List Int) (N j:Nat):(qH xs N j).length=j:=by simp[qH]
theorem uR (xs:List Int) (N j:Nat):(qG xs N j).length=j:=by simp[qG]
theorem Mg (xs:List Int) (N j:Nat):qH xs N (j+1)=qH xs N j++[W4 xs N j]:=by simp[qH,List.range_succ]
theorem LN (xs:List Int) (N j:Nat):qG xs N (j+1)=qG xs N j++[WX xs N j]:=by simp[qG,List.range_succ]
theorem MV {xs:List Int} (h:la xs) {N:Nat} (hN:xs.length=2*(2*N)) (h1:1<=N) (num:Int):GO 4 N N (qH xs N N) (qG xs N N) (kW num 16):=by
 refine⟨ab,h1,h1,⟨uT _ _ _,fun v hv=>?_⟩,⟨uR _ _ _,fun v hv=>?_⟩,Ft num⟩
 ·obtain⟨k,hk,rfl⟩:=List.mem_map.1 hv
  have hk:=List.mem_range.1 hk
  have:=uD h (k:=N-1-k) ab
  exact⟨this.1,this.2⟩
 ·obtain⟨k,hk,rfl⟩:=List.mem_map.1 hv
  have hk:=List.mem_range.1 hk
  have:=uD h (k:=N+k) ab
  exact⟨this.1,this.2⟩
theorem MU {xs:List Int} (h:la xs) {N:Nat} (hN:xs.length=2*(2*N)) (h1:1<=N) (num:Int):rG 4 (qH xs N N) (qG xs N N) (kW num 16) 1 1=zB num xs (N-1):=by
 have e1:(qH xs N N).getD 0 0=lX xs (N-1):=by
  unfold qH
  rw[List.getD_eq_getElem?_getD,List.getElem?_map,List.getElem?_range ab];rfl
 have e2:(qG xs N N).getD 0 0=lX xs N:=by
  unfold qG
  rw[List.getD_eq_getElem?_getD,List.getElem?_map,List.getElem?_range ab];rfl
 obtain⟨a,ha,_⟩:=yK h (k:=N-1) ab
 obtain⟨b,hb,_⟩:=yK h (k:=N) ab
 rw[rG,rG,rG,e1,e2]
 unfold zB
 rw[show N-1+1=N by omega,ha,hb,Int.toNat_natCast,Int.toNat_natCast]
 congr 1
theorem RK (num:Int) (xs:List Int) {N:Nat} (h1:1<=N):(uP num xs (2*N-1)).getD (2*(N-1)) 0=zB num xs (N-1) / 2/\(uP num xs (2*N-1)).getD (2*(N-1)+1) 0=zB num xs (N-1) % 2:=by
 unfold uP
 rw[List.getD_eq_getElem?_getD,List.getD_eq_getElem?_getD,List.getElem?_map,List.getElem?_map,List.getElem?_range ab,List.getElem?_range ab]
 refine⟨?_,?_⟩
 ·show Of num xs (2*(N-1))= _
  unfold Of;rw[if_pos ab,show 2*(N-1) / 2=N-1 by omega]
 ·show Of num xs (2*(N-1)+1)= _
  unfold Of;rw[if_neg ab,show(2*(N-1)+1) / 2=N-1 by omega]
end Go.Proofs.YtalkncaokeaifaaGreatDoor.V

namespace Go.Proofs.YtalkncaokeaifaaGreatDoor.V
open Go.RowKit
attribute [local irreducible] dH wpOps eB Call
attribute [local go_sem] ax eo dS ez ev cZ upd bD K.av bR AV.cells AV.cell rowOf rowsOf part ld rowAt eL bz bx cW dj eO bf cC dw er ea cR dq cw cu da db bp aI bZ bj ck cj dn dr dp bW br cz dm bh ar cq bH eM aT bL bq aH cU aQ cX AV.undef aW bd de di cY c6 bJ dv dy bE du dt cm cr List.getD_cons_zero List.getD_cons_succ List.getD_nil List.all_cons List.all_nil Bool.and_true Bool.true_and Bool.and_self Bool.not_true Bool.not_false Option.map_some Option.map_none Option.bind_some Option.bind_none List.length_cons List.length_nil List.take_succ_cons List.take_zero List.take_nil List.drop_succ_cons List.drop_zero List.drop_nil List.head?_cons List.map_cons List.map_nil List.getElem?_cons_zero List.getElem?_cons_succ List.cons_append List.nil_append List.append_nil List.length_map List.set_cons_zero List.set_cons_succ Nat.reduceMul eq_self Int.toNat_natCast Int.natCast_nonneg and_self true_and and_true decide_true decide_false Bool.false_eq_true Nat.zero_add Nat.add_zero List.contains_cons List.contains_nil Bool.or_false Bool.false_or beq_self_eq_true Nat.reduceBEq ne_eq not_true_eq_false not_false_eq_true Id.mk.injEq false_and and_false Nat.reduceLT Int.reduceLE Int.reduceLT Int.reduceToNat Int.reduceNeg Int.reduceAdd Nat.le_refl List.length_append beq_true beq_false Bool.not_eq_eq_eq_not or_false false_or dX ad ae aP aJ bt bI aD aS aA aL bU aZ
theorem EH (code more:List Int) (hc:∀b∈code,0<=b/\b<=255) (hm:∀b∈more,0<=b/\b<=255) (σ:au) (hE:fB σ.get) (pn:1<=σ.next):Call Tryz.prog 3 [.sl (code.map il),.sl (more.map il)] σ fun r _=>r=.bool true:=by
 refine eX fC rfl fun fb=>?_
 clear fb
 have h1:=FU code
 have h2:=FU more
 by_cases c1:4096<code.length
 ·rw[decide_eq_true c1]at h1
  (repeat(first|((repeat(revert hN;revert N;apply Pn.out));refine wk @Nat.zero_add ?_;(repeat(refine Pn.mk ?_;intro N hN)))|((try apply Or.inl);refine⟨_,az.x (h1) (sd @Nat.zero_add),?_⟩;refine hN _ _ ?_;clear hN N)))
  exact eK (.inl rfl) (vs:=[.bool true]) (sd @Nat.zero_add) rfl
 rw[decide_eq_false c1]at h1
 by_cases c2:4096<more.length
 ·rw[decide_eq_true c2]at h2
  (repeat(first|((repeat(revert hN;revert N;apply Pn.out));refine wk @Nat.zero_add ?_;(repeat(refine Pn.mk ?_;intro N hN)))|((try apply Or.inl);refine⟨_,az.x (h1) (sd @Nat.zero_add),?_⟩;refine hN _ _ ?_;clear hN N)|((try apply Or.inl);refine⟨_,az.x (h2) (sd @Nat.zero_add),?_⟩;refine hN _ _ ?_;clear hN N)))
  exact eK (.inl rfl) (vs:=[.bool true]) (sd @Nat.zero_add) rfl
 rw[decide_eq_false c2]at h2
 (repeat(first|((repeat(revert hN;revert N;apply Pn.out));refine wk @Nat.zero_add ?_;(repeat(refine Pn.mk ?_;intro N hN)))|((try apply Or.inl);refine⟨_,az.x (h1) (sd @Nat.zero_add),?_⟩;refine hN _ _ ?_;clear hN N)|((try apply Or.inl);refine⟨_,az.x (h2) (sd @Nat.zero_add),?_⟩;refine hN _ _ ?_;clear hN N)))
 refine .inr (bc _ _ _ _ _ (fun r σ1 hq=>?_) (lQ.x mixed (yC code hc ab 250 ab) (Tx (bI _ _ _) (aP _ _ _ _))))
 obtain⟨⟨num,rfl,hnum⟩,rfl⟩:=hq
 refine hN _ _ ?_
 clear hN N
 (try((repeat(revert hN;revert N;apply Pn.out));refine wk @Nat.zero_add ?_;(repeat(refine Pn.mk ?_;intro N hN))))
 refine .inr (bc _ _ _ _ _ (fun r σ1 hq=>?_) (lQ.x mixed (yC more hm ab 3 ab) (Tx (bI _ _ _) (aP _ _ _ _))))
 obtain⟨⟨h,rfl,hh⟩,rfl⟩:=hq
 refine hN _ _ ?_
 clear hN N
 have e2:IntKind.i64.wrap (2+(h:Int))=((h+2:Nat):Int):=by rw[show 2+(h:Int)=((h+2:Nat):Int) by omega];exact cH ab
 obtain⟨N0,hNe⟩:∃N0,h+2=N0:=⟨_,rfl⟩
 rw[hNe]at e2
 have hN5:N0<5:=ab
 have hN2:2<=N0:=ab
 have e3:IntKind.i64.wrap (4*(N0:Int))=((4*N0:Nat):Int):=by rw[show 4*(N0:Int)=((4*N0:Nat):Int) by omega];exact cH ab
 clear hNe hh
 (try((repeat(revert hN;revert N;apply Pn.out));refine wk (tw @e2 @e3) ?_;(repeat(refine Pn.mk ?_;intro N hN))))
 refine .inr (bc _ _ _ _ _ (fun r σ1 hq=>?_) (lQ.x mixed (DI more hm ab (4*N0) ab 2) (Ty (bI _ _ _) (aP _ _ _ _) (aP _ _ _ _))))
 obtain⟨⟨xs,rfl,U0,hxx⟩,rfl⟩:=hq
 refine hN _ _ ?_
 clear hN N
 have hC:la xs:=⟨ab,fun x hx=>by have:=hxx x hx;omega⟩
 have oJ:xs.length=2*(2*N0):=ab
 have i1:=Dy Tg xs (2*N0) hC oJ ab
 have i2:=Dz xs (2*N0) hC oJ
 have i3:=Bu (num:Int) ab
 have i4:=JN (gJ xs (2*N0)) (by rw[jP];omega)
 have iY:((gJ xs (2*N0)).map ah).length=2*N0:=by rw[List.length_map,jP]
 have hd:∀x:Int,decide (x=x)=true:=fun x=>decide_eq_true rfl
 have e4:IntKind.i64.wrap (((2*N0:Nat):Int)-1)=((2*N0-1:Nat):Int):=by rw[show((2*N0:Nat):Int)-1=((2*N0-1:Nat):Int) by omega];exact cH ab
 (try((repeat(revert hN;revert N;apply Pn.out));refine wk (tw @iY (tw @hd @e4)) ?_;(repeat(refine Pn.mk ?_;intro N hN))))
 refine .inl ⟨_,i1.x _,?_⟩
 refine hN _ _ ?_
 clear hN N
 (repeat(first|((repeat(revert hN;revert N;apply Pn.out));refine wk (tw @iY (tw @hd @e4)) ?_;(repeat(refine Pn.mk ?_;intro N hN)))|((try apply Or.inl);refine⟨_,az.x (i2) (sd (tw @iY (tw @hd @e4))),?_⟩;refine hN _ _ ?_;clear hN N)))
 refine .inl ⟨_,i3.x _,?_⟩
 refine hN _ _ ?_
 clear hN N
 (repeat(first|((repeat(revert hN;revert N;apply Pn.out));refine wk (tw @iY (tw @hd @e4)) ?_;(repeat(refine Pn.mk ?_;intro N hN)))|((try apply Or.inl);refine⟨_,az.x (i4) (sd (tw @iY (tw @hd @e4))),?_⟩;refine hN _ _ ?_;clear hN N)))
 have Rq:∀k,k<N0->((gJ xs (2*N0)).map ah)[N0-1-k]? =some [.int .i64 (W4 xs N0 k)]:=fun k hk=>by
  unfold gJ;rw[List.getElem?_map,List.getElem?_map,List.getElem?_range ab];rfl
 have hsi:∀k,k<N0->((gJ xs (2*N0)).map ah)[N0+k]? =some [.int .i64 (WX xs N0 k)]:=fun k hk=>by
  unfold gJ;rw[List.getElem?_map,List.getElem?_map,List.getElem?_range ab];rfl
 clear i1 i2 i3 i4 hxx
 refine dc (fun n env st=>∃k:Nat,n=(N0)-k/\k<=(N0)/\env 17=.int .i64 (k:Int)/\((∃ow os:Id,env 15=.own ow 0 k/\env 16=.own os 0 k/\st.get ow=some ⟨true,1,(qH xs N0 k).map ah⟩/\st.get os=some ⟨true,1,(qG xs N0 k).map ah⟩/\ow.cV<st.next/\os.cV<st.next/\1<=ow.cV/\1<=os.cV/\MH (ow.site=3012000) (ow.site=3017009)/\MH (os.site=3013000) (os.site=3018008))/\st.get ⟨3008005,σ.next+1+1+1+1+1+1+1+1+1+1⟩=some ⟨true,2,[[.int .i64 4,.sl ((kW (num:Int) 16).map ah)]]⟩/\σ.next+1+1+1+1+1+1+1+1+1+1<st.next/\fB st.get)) (N0) ⟨0,ab,ab,sl @iY,by(try dsimp only);exact⟨⟨⟨3012000,σ.next+1+1+1+1+1+1+1+1+1+1+1+1+1⟩,⟨3013000,σ.next+1+1+1+1+1+1+1+1+1+1+1+1+1+1⟩,sd @Nat.zero_add,sd @Nat.zero_add,sl @Nat.zero_add,sl @Nat.zero_add,cD,cD,cD,cD,.inl rfl,.inl rfl⟩,sl @Nat.zero_add,ab,hE.frame (n:=1) (Nat.le_refl _) fun x hx hs=>by have z1:=dF (i:=x) (n:=σ.next) ab;have z2:=dF (i:=x) (n:=σ.next+1+1+1+1+1+1+1+1+1) ab;simp only[go_sem, ↓reduceIte,Nat.reduceEqDiff,Nat.reduceAdd,Nat.reduceSub,Nat.reduceLeDiff,reduceCtorEq,z1,z2]⟩⟩ ?_
 rintro n_a env_a st_a ⟨k,rfl,ale,a17,qM⟩ eR
 have a0:=eR 0 (by kernel_rfl);have a1:=eR 1 (by kernel_rfl);have a5:=eR 5 (by kernel_rfl);have a6:=eR 6 (by kernel_rfl);have a7:=eR 7 (by kernel_rfl);have xP:=eR 10 (by kernel_rfl);have a12:=eR 12 (by kernel_rfl);have kZ:=eR 14 (by kernel_rfl)
 simp only[go_sem, ↓reduceIte,Nat.reduceEqDiff,Nat.reduceAdd,Nat.reduceSub,Nat.reduceLeDiff,reduceCtorEq,iY]at a0 a1 a5 a6 a7 xP a12 kZ
 clear eR
 obtain⟨⟨ow,os,Ix,Mm,gw,gs,vw,vs,w1,s1,zw,zs⟩,aR,aN,aE⟩:=qM
 have hws:(ow=os)=False/\(os=ow)=False:=by
  rcases zw with zw|zw<;>rcases zs with zs|zs<;>exact qF zw zs (by decide)
 have hwR:(ow=⟨3008005,σ.next+1+1+1+1+1+1+1+1+1+1⟩)=False/\((⟨3008005,σ.next+1+1+1+1+1+1+1+1+1+1⟩:Id)=ow)=False:=by
  rcases zw with zw|zw<;>exact eY zw (by decide)
 have hsR:(os=⟨3008005,σ.next+1+1+1+1+1+1+1+1+1+1⟩)=False/\((⟨3008005,σ.next+1+1+1+1+1+1+1+1+1+1⟩:Id)=os)=False:=by
  rcases zs with zs|zs<;>exact eY zs (by decide)
 by_cases hk:(k:Int)<(N0:Int)
 ·have eF:∀{e:Env} {gg:Rows} {nx:Nat},(e 17=.int .i64 (IntKind.i64.wrap ((k:Int)+1)))->((∃ow os:Id,e 15=.own ow 0 (k+1)/\e 16=.own os 0 (k+1)/\gg ow=some ⟨true,1,(qH xs N0 (k+1)).map ah⟩/\gg os=some ⟨true,1,(qG xs N0 (k+1)).map ah⟩/\ow.cV<nx/\os.cV<nx/\1<=ow.cV/\1<=os.cV/\MH (ow.site=3012000) (ow.site=3017009)/\MH (os.site=3013000) (os.site=3018008))/\gg ⟨3008005,σ.next+1+1+1+1+1+1+1+1+1+1⟩=some ⟨true,2,[[.int .i64 4,.sl ((kW (num:Int) 16).map ah)]]⟩/\σ.next+1+1+1+1+1+1+1+1+1+1<nx/\fB gg)->∃m0,m0<(N0)-k/\∃k:Nat,m0=(N0)-k/\k<=(N0)/\e 17=.int .i64 (k:Int)/\((∃ow os:Id,e 15=.own ow 0 k/\e 16=.own os 0 k/\gg ow=some ⟨true,1,(qH xs N0 k).map ah⟩/\gg os=some ⟨true,1,(qG xs N0 k).map ah⟩/\ow.cV<nx/\os.cV<nx/\1<=ow.cV/\1<=os.cV/\MH (ow.site=3012000) (ow.site=3017009)/\MH (os.site=3013000) (os.site=3018008))/\gg ⟨3008005,σ.next+1+1+1+1+1+1+1+1+1+1⟩=some ⟨true,2,[[.int .i64 4,.sl ((kW (num:Int) 16).map ah)]]⟩/\σ.next+1+1+1+1+1+1+1+1+1+1<nx/\fB gg):=fun x1 x2=>⟨_,ab,k+1,rfl,ab,(by rw[x1,cE ab]),x2⟩
  have g1:=Rq k ab
  have g2:=hsi k ab
  have YM:((qH xs N0 k).map ah).length=k:=by rw[List.length_map,uT]
  have nz:((qG xs N0 k).map ah).length=k:=by rw[List.length_map,uR]
  have hwn:(qH xs N0 (k+1)).map ah=(qH xs N0 k).map ah++[[.int .i64 (W4 xs N0 k)]]:=by rw[Mg,List.map_append];rfl
  have WK:(qG xs N0 (k+1)).map ah=(qG xs N0 k).map ah++[[.int .i64 (WX xs N0 k)]]:=by rw[LN,List.map_append];rfl
  have u1:IntKind.i64.wrap ((N0:Int)-1)=((N0-1:Nat):Int):=by rw[show(N0:Int)-1=((N0-1:Nat):Int) by omega];exact cH ab
  have u2:IntKind.i64.wrap (((N0-1:Nat):Int)-(k:Int))=((N0-1-k:Nat):Int):=by rw[show((N0-1:Nat):Int)-(k:Int)=((N0-1-k:Nat):Int) by omega];exact cH ab
  have u3:IntKind.i64.wrap ((N0:Int)+(k:Int))=((N0+k:Nat):Int):=by rw[show(N0:Int)+(k:Int)=((N0+k:Nat):Int) by omega];exact cH ab
  have l1:((N0-1-k:Nat):Int)<((2*N0:Nat):Int):=ab
  have l2:((N0+k:Nat):Int)<((2*N0:Nat):Int):=ab
  have z1:(0:Int)<=((N0-1-k:Nat):Int):=ab
  have z2:(0:Int)<=((N0+k:Nat):Int):=ab
  have t1:((N0-1-k:Nat):Int).toNat=N0-1-k:=Int.toNat_natCast _
  have t2:((N0+k:Nat):Int).toNat=N0+k:=Int.toNat_natCast _
  have ql:k<=16777215:=ab
  have WY:=dF vw
  have L5:=dF vs
  (try((repeat(revert hN;revert N;apply Pn.out));refine wk (tw @a17 (tw @a0 (tw @a1 (tw @a5 (tw @a6 (tw @a7 (tw @xP (tw @a12 (tw @kZ (tw @Ix (tw @Mm (tw @hk (tw @iY (tw @g1 (tw @g2 (tw @u1 (tw @u2 (tw @u3 (tw @l1 (tw @l2 (tw @z1 (tw @z2 (tw @t1 (tw @t2 (tw @gw (tw @gs (tw @WY (tw @L5 (tw @YM (tw @nz (tw @ql (tw @hws (tw @hwR @hsR))))))))))))))))))))))))))))))))) ?_;(repeat(refine Pn.mk ?_;intro N hN))))
  have h9:=dF (i:=⟨3008005,σ.next+1+1+1+1+1+1+1+1+1+1⟩) (n:=st_a.next) cD
  exact eF (sd (tw @a17 (tw @a0 (tw @a1 (tw @a5 (tw @a6 (tw @a7 (tw @xP (tw @a12 @kZ))))))))) (by(try dsimp only);exact⟨⟨⟨3017009,st_a.next+1⟩,⟨3018008,st_a.next+1+1⟩,sd @Nat.zero_add,sd @Nat.zero_add,by rw[hwn];simp only[go_sem, ↓reduceIte,Nat.reduceEqDiff,Nat.reduceAdd,Nat.reduceSub,Nat.reduceLeDiff,reduceCtorEq,L5]<;>rfl,by rw[WK];simp only[go_sem, ↓reduceIte,Nat.reduceEqDiff,Nat.reduceAdd,Nat.reduceSub,Nat.reduceLeDiff,reduceCtorEq,WY,L5]<;>rfl,cD,cD,cD,cD,.inr rfl,.inr rfl⟩,sd (tw @h9 (tw @aR (tw @hwR @hsR))),ab,aE.frame (n:=1) (Nat.le_refl _) fun x hx hs=>by have y1:=dF (i:=x) (n:=st_a.next) ab;have y2:=dU (a:=x) (b:=ow) ab;have y3:=dU (a:=x) (b:=os) ab;simp only[go_sem, ↓reduceIte,Nat.reduceEqDiff,Nat.reduceAdd,Nat.reduceSub,Nat.reduceLeDiff,reduceCtorEq,y1,y2,y3]⟩)
 ·have jv:k=N0:=ab
  rw[jv]at Ix Mm gw gs
  have X:=MV hC oJ ab (num:Int)
  have hP:=Bb X ab ab ab
  have hn:=hP.set.names
  have PD:=hP.sm
  have p5:=zY X ab ab ab
  obtain⟨sch,Py,yl,IK⟩:=xU more ‹_› ab
  have hsr:∀x∈sch,0<=x/\x<=1000:=fun x hx=>by have:=yl x hx;omega
  have NI:=fun(σ:au) (hE:fB σ.get) (h1:1<=σ.next) {args:List AV} (hv:ek (dX σ.get) 6 args=some [.agg (eb (gH 4 N0 N0 (qH xs N0 N0) (qG xs N0 N0) (kW (num:Int) 16))),.sl (sch.map ah)])=>P7 _ hn PD hE h1 hsr ab hv
  obtain⟨es,xR,Pq⟩:=H8 X ab ab ab sch
  have Uo:Nk (gH 4 N0 N0 (qH xs N0 N0) (qG xs N0 N0) (kW (num:Int) 16)) sch 501=.fN [N8 ai es,.agg [.sl ((ke (N0+1) (N0+1) (fun a b=>(rT 4 N0 N0 (qH xs N0 N0) (qG xs N0 N0) (kW (num:Int) 16) a.toNat b.toNat:Nat))).map ai)],.int .i64 0]:=by rw[Nk,mv.2 hP,xR,<-Pq];rfl
  rw[Uo]at NI
  have h55:(N0+1)*(N0+1)<=5*5:=Nat.mul_le_mul ab ab
  have q1:=zW _ ⟨ke (N0+1) (N0+1) (fun a b=>(rT 4 N0 N0 (qH xs N0 N0) (qG xs N0 N0) (kW (num:Int) 16) a.toNat b.toNat:Nat))⟩ (N0:Int) (N0:Int) hn PD (by(try dsimp only);rw[C1];omega)
  rw[Oz X ab ab ab xR Pq]at q1
  have uJ:=Lj (gH 4 N0 N0 (qH xs N0 N0) (qG xs N0 N0) (kW (num:Int) 16)).aq (ke (N0+1) (N0+1) (fun a b=>(rT 4 N0 N0 (qH xs N0 N0) (qG xs N0 N0) (kW (num:Int) 16) a.toNat b.toNat:Nat))) N0 N0
  obtain⟨row,fy,y9,Ko⟩:∃row:List Int,((rL (gH 4 N0 N0 (qH xs N0 N0) (qG xs N0 N0) (kW (num:Int) 16)).aq (ke (N0+1) (N0+1) (fun a b=>(rT 4 N0 N0 (qH xs N0 N0) (qG xs N0 N0) (kW (num:Int) 16) a.toNat b.toNat:Nat))) N0 N0).map Qu)[0]? =some [.sl (row.map ah)]/\row.length=N0/\row.getD 0 0=zB (num:Int) xs (N0-1):=by
   refine⟨pR (gH 4 N0 N0 (qH xs N0 N0) (qG xs N0 N0) (kW (num:Int) 16)).aq (ke (N0+1) (N0+1) (fun a b=>(rT 4 N0 N0 (qH xs N0 N0) (qG xs N0 N0) (kW (num:Int) 16) a.toNat b.toNat:Nat))) 0 N0,?_,rR _ _ _ _,?_⟩
   ·unfold rL
    rw[List.getElem?_map,List.getElem?_map,List.getElem?_range ab];rfl
   ·unfold pR
    rw[List.getD_eq_getElem?_getD,List.getElem?_map,List.getElem?_range ab]
    show oV _ _ 0 0= _
    rw[Gx X ab ab ab ab ab]
    exact MU hC oJ ab _
  have i7:=By Tg (num:Int) ab xs (2*N0) hC oJ ab
  obtain⟨o1,o2⟩:=RK (num:Int) xs (N:=N0) ab
  have UL:(uP (num:Int) xs (2*N0-1)).length=2*(2*N0-1):=AY _ _ _
  obtain⟨EL,UB,hmid4⟩:=K0 (num:Int) hC (j:=N0-1) ab
  rw[UB]at o1 o2 Ko
  have g3:((uP (num:Int) xs (2*N0-1)).map ah)[2*(N0-1)]? =some [.int .i64 ((EL / 2:Nat):Int)]:=by
   rw[show((EL / 2:Nat):Int)=(uP (num:Int) xs (2*N0-1)).getD (2*(N0-1)) 0 by rw[o1];omega]
   exact getD_map (d:=0) ah ab
  have g4:((uP (num:Int) xs (2*N0-1)).map ah)[2*(N0-1)+1]? =some [.int .i64 ((EL % 2:Nat):Int)]:=by
   rw[show((EL % 2:Nat):Int)=(uP (num:Int) xs (2*N0-1)).getD (2*(N0-1)+1) 0 by rw[o2];omega]
   exact getD_map (d:=0) ah ab
  have g5:(row.map ah)[0]? =some [.int .i64 (EL:Int)]:=by
   rw[<-Ko]
   exact getD_map (d:=0) ah ab
  have Ra:((uP (num:Int) xs (2*N0-1)).map ah).length=2*(2*N0-1):=by rw[List.length_map,UL]
  have tQ:(row.map ah).length=N0:=by rw[List.length_map,y9]
  rw[N8,if_neg (by rw[uJ];omega)]at q1
  have Ey:=uJ
  rw[<-List.length_map (f:=Qu)]at Ey
  rw[show((4:Nat):Int)=4 from rfl]at p5
  rw[ph]at q1
  (try dsimp only at q1)
  clear Uo xR Pq hP hn PD y9 Ko o1 o2 UB UL uJ X
  generalize ((rL (gH 4 N0 N0 (qH xs N0 N0) (qG xs N0 N0) (kW (num:Int) 16)).aq (ke (N0+1) (N0+1) (fun a b=>(rT 4 N0 N0 (qH xs N0 N0) (qG xs N0 N0) (kW (num:Int) 16) a.toNat b.toNat:Nat))) N0 N0).map Qu)=L at *
  generalize gH 4 N0 N0 (qH xs N0 N0) (qG xs N0 N0) (kW (num:Int) 16)=s at *
  generalize ke (N0+1) (N0+1) (fun a b=>(rT 4 N0 N0 (qH xs N0 N0) (qG xs N0 N0) (kW (num:Int) 16) a.toNat b.toNat:Nat))=A at *
  generalize (uP (num:Int) xs (2*N0-1)).map ah=O at *
  generalize row.map ah=R at *
  obtain⟨v,hv⟩:∃v,N8 ai es=v:=⟨_,rfl⟩
  rw[hv]at NI
  clear hv
  rw[eb]at p5 q1 NI
  have f1:IntKind.i64.wrap (2*(N0:Int))=((2*N0:Nat):Int):=by rw[show 2*(N0:Int)=((2*N0:Nat):Int) by omega];exact cH ab
  have f2:IntKind.i64.wrap (2*((2*N0-1:Nat):Int))=((2*(2*N0-1):Nat):Int):=by rw[show 2*((2*N0-1:Nat):Int)=((2*(2*N0-1):Nat):Int) by omega];exact cH ab
  have f3:IntKind.i64.wrap ((N0:Int)-1)=((N0-1:Nat):Int):=by rw[show(N0:Int)-1=((N0-1:Nat):Int) by omega];exact cH ab
  have f4:IntKind.i64.wrap (2*((N0-1:Nat):Int))=((2*(N0-1):Nat):Int):=by rw[show 2*((N0-1:Nat):Int)=((2*(N0-1):Nat):Int) by omega];exact cH ab
  have f5:IntKind.i64.wrap (((2*(N0-1):Nat):Int)+1)=((2*(N0-1)+1:Nat):Int):=by rw[show((2*(N0-1):Nat):Int)+1=((2*(N0-1)+1:Nat):Int) by omega];exact cH ab
  have f6:IntKind.i64.wrap (2*((EL / 2:Nat):Int))=((2*(EL / 2):Nat):Int):=by rw[show 2*((EL / 2:Nat):Int)=((2*(EL / 2):Nat):Int) by omega];exact cH ab
  have f7:IntKind.i64.wrap (((2*(EL / 2):Nat):Int)+((EL % 2:Nat):Int))=(EL:Int):=by rw[show((2*(EL / 2):Nat):Int)+((EL % 2:Nat):Int)=(EL:Int) by omega];exact cH ab
  have k1:(0:Int)<=((2*(N0-1):Nat):Int):=ab
  have k2:(0:Int)<=((2*(N0-1)+1:Nat):Int):=ab
  have k3:((2*(N0-1):Nat):Int)<((2*(2*N0-1):Nat):Int):=ab
  have k4:((2*(N0-1)+1:Nat):Int)<((2*(2*N0-1):Nat):Int):=ab
  have k5:(0:Int)<(N0:Int):=ab
  have t1:((2*(N0-1):Nat):Int).toNat=2*(N0-1):=Int.toNat_natCast _
  have t2:((2*(N0-1)+1:Nat):Int).toNat=2*(N0-1)+1:=Int.toNat_natCast _
  have WY:=dF vw
  have L5:=dF vs
  have vR:=dF (i:=⟨3008005,σ.next+1+1+1+1+1+1+1+1+1+1⟩) (n:=st_a.next) cD
  have YM:((qH xs N0 N0).map ah).length=N0:=by rw[List.length_map,uT]
  have nz:((qG xs N0 N0).map ah).length=N0:=by rw[List.length_map,uR]
  have fo:∀(o:Id) (l:List Int),l.length=N0->st_a.get o=some ⟨true,1,l.map ah⟩->V.fz (dX st_a.get) 6 (.own o 0 N0)=some (.sl (l.map ah)):=fun o l hl h=>by
   rw[<-hl]
   exact kA (g:=dX st_a.get) (l:=l) (id:=o) (e:=ah) (sz:=1) (n:=5) (by simp[dX,h]) rfl fun x=>by simp[ah,ad,ae,aP]
  have p6:=fo ow _ (uT _ _ _) gw
  have p7:=fo os _ (uR _ _ _) gs
  clear fo
  have p8:V.fz (dX st_a.get) 6 (.agg [.int .i64 4,.sl ((kW (num:Int) 16).map ah)])=some (.agg [.int .i64 4,.sl ((kW (num:Int) 16).map ah)]):=by
   simp only[aS,ad,ae,aP,bI,Option.map_some]
  (try((repeat(revert hN;revert N;apply Pn.out));refine wk (tw @a17 (tw @a0 (tw @a1 (tw @a5 (tw @a6 (tw @a7 (tw @xP (tw @a12 (tw @kZ (tw @Ix (tw @Mm (tw @hk (tw @iY (tw @gw (tw @gs (tw @WY (tw @L5 (tw @vR (tw @aR (tw @YM (tw @nz (tw @hd (tw @e4 @f1))))))))))))))))))))))) ?_;(repeat(refine Pn.mk ?_;intro N hN))))
  refine .inl ⟨_,p5.x (Ty p8 p6 p7),?_⟩
  refine hN _ _ ?_
  clear hN N
  (repeat(first|((repeat(revert hN;revert N;apply Pn.out));refine wk (tw @a17 (tw @a0 (tw @a1 (tw @a5 (tw @a6 (tw @a7 (tw @xP (tw @a12 (tw @kZ (tw @hd (tw @e4 @f1))))))))))) ?_;(repeat(refine Pn.mk ?_;intro N hN)))|((try apply Or.inl);refine⟨_,az.x (Py) (sd (tw @a17 (tw @a0 (tw @a1 (tw @a5 (tw @a6 (tw @a7 (tw @xP (tw @a12 (tw @kZ (tw @hd (tw @e4 @f1)))))))))))),?_⟩;refine hN _ _ ?_;clear hN N)))
  first|refine .inl ⟨_,NI _ ?_ ?_ (LZ (by rw[<-eb];exact FM _ _) (bI _ _ _)),?_⟩|refine⟨_,NI _ ?_ ?_ (LZ (by rw[<-eb];exact FM _ _) (bI _ _ _)),?_⟩
  ·exact aE.frame (n:=1) (Nat.le_refl _) fun x hx hs=>by
    have y1:=dF (i:=x) (n:=st_a.next) ab
    rcases hs with h|h<;>simp only[go_sem, ↓reduceIte,Nat.reduceEqDiff,Nat.reduceAdd,Nat.reduceSub,Nat.reduceLeDiff,reduceCtorEq,y1,h]
  ·(try dsimp only);omega
  refine hN _ _ ?_
  clear hN N
  (repeat(first|((repeat(revert hN;revert N;apply Pn.out));refine wk (tw @a17 (tw @a0 (tw @a1 (tw @a5 (tw @a6 (tw @a7 (tw @xP (tw @a12 (tw @kZ (tw @hd (tw @e4 (tw @f1 (tw @f2 (tw @Ey (tw @Ra (tw @fy (tw @tQ (tw @g3 (tw @g4 (tw @g5 (tw @f3 (tw @f4 (tw @f5 (tw @f6 (tw @f7 (tw @k1 (tw @k2 (tw @k3 (tw @k4 (tw @k5 (tw @t1 @t2))))))))))))))))))))))))))))))) ?_;(repeat(refine Pn.mk ?_;intro N hN)))|((try apply Or.inl);refine⟨_,az.x (q1) (sd (tw @a17 (tw @a0 (tw @a1 (tw @a5 (tw @a6 (tw @a7 (tw @xP (tw @a12 (tw @kZ (tw @hd (tw @e4 (tw @f1 (tw @f2 (tw @Ey (tw @Ra (tw @fy (tw @tQ (tw @g3 (tw @g4 (tw @g5 (tw @f3 (tw @f4 (tw @f5 (tw @f6 (tw @f7 (tw @k1 (tw @k2 (tw @k3 (tw @k4 (tw @k5 (tw @t1 @t2)))))))))))))))))))))))))))))))),?_⟩;refine hN _ _ ?_;clear hN N)|((try apply Or.inl);refine⟨_,az.x (i7) (sd (tw @a17 (tw @a0 (tw @a1 (tw @a5 (tw @a6 (tw @a7 (tw @xP (tw @a12 (tw @kZ (tw @hd (tw @e4 (tw @f1 (tw @f2 (tw @Ey (tw @Ra (tw @fy (tw @tQ (tw @g3 (tw @g4 (tw @g5 (tw @f3 (tw @f4 (tw @f5 (tw @f6 (tw @f7 (tw @k1 (tw @k2 (tw @k3 (tw @k4 (tw @k5 (tw @t1 @t2)))))))))))))))))))))))))))))))),?_⟩;refine hN _ _ ?_;clear hN N)))
  exact eK (.inl rfl) (vs:=[.bool true]) (sd @Nat.zero_add) rfl
end Go.Proofs.YtalkncaokeaifaaGreatDoor.V

namespace Go.Proofs.YtalkncaokeaifaaGreatDoor
open Go.ChangeShapes Go.WideShapes Go.ChangeAt Go.RowKit V
theorem Vl:ownKnob Tryz.prog.godebug=none:=by kernel_rfl
theorem KH:laidOutB Tryz.prog=true:=by kernel_rfl
theorem JM:fB (x9 0 1 tE sT sN):=⟨⟨_,Qy 0 1 tE sT sN⟩,_,Qz (by decide) tE sT sN⟩
theorem G2 (os:Os) (started:os.Started) (H:Type) (enc:TypeId×Value->H):
  ReturnsInHanded {} Tryz.checked os 3 .any (fun w args=>(Rows.fnBlockTilesSpec.pre enc Tryz.prog Tryz.f3 [] false w args/\laidMetH Tryz.prog Rows.fnBlockTilesRow.laid w)/\sizedMet enc Tryz.prog Tryz.f3 (OpenSpec.ofChange Rows.fnBlockTilesSpec) false w args) (Rows.fnBlockTilesSpec.post enc Tryz.prog Tryz.f3 false true false false):=by
 refine returnsInHanded_of_change_and (C:=Tryz.checked) (X:=fun w _=>laidMetH Tryz.prog Rows.fnBlockTilesRow.laid w) (fun _ _ _ hh h=>h.of_heap hh) Vl started (by kernel_rfl) Tryz.func3
  (ChangeSpec.witness_shaped (enc:=enc) (C:=Tryz.checked) (os:=os) (X:=fun w _=>laidMetH Tryz.prog Rows.fnBlockTilesRow.laid w) false (World.laidAll Tryz.prog os Rows.fnBlockTilesRow.laid) #[.slice none 0 0,.slice none 0 0] 8 (World.laidAll_os _ _ _)
   (World.shaped_of_ZipB (by kernel_rfl) (by kernel_rfl)) (by kernel_rfl) (by kernel_rfl) (by kernel_rfl)
   (by rw[MakeChecks.laidMetH_plain _ _ _ (by kernel_rfl)];exact laidMet_laidAll _ (by kernel_rfl) (by kernel_rfl))) ?_
 intro W base args ds gs before PF hW hcnd _ hL _
 have wq:∀(j:Nat) t v,Tryz.f3.params[j]? =some t->args[j]? =some v->Value.okWide Tryz.prog W .any base t v:=PF
 have hW':=hW
 obtain⟨p,q,hA0,hV0,rfl,Nv,po⟩:=hW
 have hA:DataW.TrodAll enc Tryz.prog W 0 (fun _=>true) true Tryz.f3.params.toList args.toList ds p:=hA0
 have hV:DataW.TrodVars enc Tryz.prog W (fun _=>true) ["loop.example/g01081/impl.errTerminal", "loop.example/g01081/impl.errNoSpace"] gs q:=hV0
 rw[Tryz.params3]at hA wq
 obtain⟨v0,vs0,d0,ds0,p0,q0,nw,rfl,rfl,h0,r0⟩:=trodAll_cons hA
 obtain⟨v1,vs1,d1,ds1,p1,q1,rfl,rfl,rfl,h1,r1⟩:=trodAll_cons r0
 obtain⟨rfl,rfl,rfl⟩:=trodAll_nil r1
 obtain rfl:args= #[v0,v1]:=by cases args;simp_all
 rw[MakeChecks.laidMetH_plain _ _ _ (by kernel_rfl)]at hL
 obtain⟨a0,a1,pP,pq,hT,hN⟩:=HJ (mO (mO (mO hL)))
 have vr:∀{X:World},X.var? Tryz.prog "loop.example/g01081/impl.errTerminal" =some #[.iface tE (.pointer (some a0))]->X.var? Tryz.prog "loop.example/g01081/impl.errNoSpace" =some #[.iface tE (.pointer (some a1))]->∀sp:Nat->Bool,
   DataW.TrodVars enc Tryz.prog X sp ["loop.example/g01081/impl.errTerminal", "loop.example/g01081/impl.errNoSpace"] [tok enc (.iface tE (.pointer (some a0))),tok enc (.iface tE (.pointer (some a1)))] [.cell gT 0,.cell gN 0]:=
  fun x0 x1 sp=>vars_read2 enc JW Pe Tryz.underlying148 x0 trivial JV Pd Tryz.underlying148 x1 trivial sp
 obtain⟨rfl,rfl⟩:=hV.unique (vr pP pq _)
 obtain⟨A0,n0,c0,rfl⟩:=okWide_slice Tryz.underlying22 (wq 0 22 v0 rfl rfl)
 obtain⟨A1,n1,c1,rfl⟩:=okWide_slice Tryz.underlying22 (wq 1 22 v1 rfl rfl)
 have k0:=h0
 have k1:=h1
 have lt0:∀x∈p0,x.block<W.heap.size:=by obtain⟨m,hm⟩:=k0;exact DataW.trod_lt m _ _ _ hm
 have S3:∀x∈p1,x.block<W.heap.size:=by obtain⟨m,hm⟩:=k1;exact DataW.trod_lt m _ _ _ hm
 obtain⟨f0,xs,w0,s0,b0⟩:∃f,∃d:List Int,jW f 0 W.heap.size/\mF u9 1 W f (.slice A0 n0 c0) d/\∀b∈d,0<=b/\b<=255:=by
  obtain⟨fuel,hf⟩:=h0
  obtain⟨A,n,c,f,xs,e,w,z,hb⟩:=Gq hf
  simp[Value.cells]at e
  obtain⟨rfl,rfl,rfl⟩:=e
  exact⟨f,xs,w,z,hb⟩
 obtain⟨f1,ys,w1,s1,b1⟩:∃f,∃d:List Int,jW f 0 W.heap.size/\mF u9 1 W f (.slice A1 n1 c1) d/\∀b∈d,0<=b/\b<=255:=by
  obtain⟨fuel,hf⟩:=h1
  obtain⟨A,n,c,f,xs,e,w,z,hb⟩:=Gq hf
  simp[Value.cells]at e
  obtain⟨rfl,rfl,rfl⟩:=e
  exact⟨f,xs,w,z,hb⟩
 clear hA0 hV0 PF
 have hZ:fE Tryz.prog W (fun b=>b<W.heap.size) (fun _=>none) [.sl (xs.map il),.sl (ys.map il)] #[.slice A0 n0 c0,.slice A1 n1 c1]:=by
  have h:=mi (Bv s0 (fun b hb=>(w0 b hb).2)) (mi (Bv s1 (fun b hb=>(w1 b hb).2)) (⟨rfl,fun j b hj=>by cases j<;>cases hj⟩:fE Tryz.prog W (fun b=>b<W.heap.size) (fun _=>none) [] #[]))
  simpa using h
 have T9:=N1 (x:=0) (y:=1) (t:=tE) (s:=sT) (u:=sN) mixed (by decide) (EH xs ys b0 b1 ⟨x9 0 1 tE sT sN,1⟩ JM (Nat.le_refl _)) hT hN hZ
 clear s0 s1 w0 w1 hZ
 refine(T9.mono fun e W' ⟨he,bel⟩=>?_)
 subst he
 exact⟨_,rfl,_,_,_,[],_,_,hW',trodAll_mk1 (shut_bool Tryz.underlying4 _),(trodAll_cons_mk (Below.trod KH (by kernel_rfl) (of_decide_eq_true (by kernel_rfl)) k0 bel lt0) (trodAll_cons_mk (Below.trod KH (by kernel_rfl) (of_decide_eq_true (by kernel_rfl)) k1 bel S3) trodAll_mk0)),vr (V.var?_below JW pP bel) (V.var?_below JV pq bel) _,bel.frame _,fun h=>by cases h⟩
end Go.Proofs.YtalkncaokeaifaaGreatDoor

