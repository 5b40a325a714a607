/- A crystal with its options: made, and a tile put. -/
import Derived.Test.YtiabgllilcfheaaGreatMoD
import Derived.Test.YtiabgllilcfheaaGreatMoB
import Derived.RangeFuncCalls
import Derived.OrdersIn
import Derived.RangeFuncNested
import Derived.RangeFuncBound
import Derived.RangeFuncLeaves
import Derived.Shelf.Abstract
import Derived.Shelf.RegionOpen
import Derived.WalkKit
import Derived.OwnWalkIn
import Derived.TacticsInMore
import Derived.LoopNIn
import Derived.LoopIn
import Derived.BigQuiet
import Derived.Test.YtiabgllilcfheaaGreatMoC
import Derived.RangeFuncBox
import Derived.RangeFuncWrites
import Derived.Maps.AppendAt
import Derived.Maps.OwnIn
import Derived.Shelf.SlSortCmp.WholeK
import Derived.Shelf.SlSortCmp.NoneTotal
import Derived.Ground.SlsfProg
import Derived.Test.YtiabgllilcfheaaGreatProg
set_option linter.unusedVariables false
set_option linter.unusedSimpArgs false
set_option maxRecDepth 100000
set_option maxHeartbeats 16000000
namespace Go.Proofs.YtiabgllilcfheaaGreat.V
open Go.RowKit
attribute [local irreducible] eC wpOps gi Call
attribute [local go_sem] aM fP fa fX fW du upd cz K.av cP AV.cells AV.cell rowOf rowsOf part ld rowAt bL cu dK eb gK bP de eu fS fq dx ef db da dR dS bU bf cU bR cW cV dW eh ee cR bW dd ec bQ aL cY cH gJ bF cL bV aY dr bq dL AV.undef bJ bK dV dY dQ dU cK er ez cF ej ei cX cZ List.getD_cons_zero List.getD_cons_succ List.getD_nil List.all_cons List.all_nil Bool.and_true Bool.true_and Bool.and_self Bool.not_true Bool.not_false Option.map_some Option.map_none Option.bind_some Option.bind_none List.length_cons List.length_nil List.take_succ_cons List.take_zero List.take_nil List.drop_succ_cons List.drop_zero List.drop_nil List.head?_cons List.map_cons List.map_nil List.getElem?_cons_zero List.getElem?_cons_succ List.cons_append List.nil_append List.append_nil List.length_map List.set_cons_zero List.set_cons_succ Nat.reduceMul eq_self Int.toNat_natCast Int.natCast_nonneg and_self true_and and_true decide_true decide_false Bool.false_eq_true Nat.zero_add Nat.add_zero List.contains_cons List.contains_nil Bool.or_false Bool.false_or beq_self_eq_true Nat.reduceBEq ne_eq not_true_eq_false not_false_eq_true Id.mk.injEq false_and and_false Nat.reduceLT Int.reduceLE Int.reduceLT Int.reduceToNat Int.reduceNeg Int.reduceAdd Nat.le_refl List.length_append beq_true beq_false Bool.not_eq_eq_eq_not or_false false_or eL ar ax aW bp bZ cw aV bH aU bh cQ bI
structure Jc (g:Rows) (n:Nat) (c T O:Id) (s:aA) (ts:List aa):Prop where
 o:qf g n c T O s ts
 op:∃es:List En,g O=some ⟨true,mP.mY,es.map pC⟩/\xN g n es (jb s ts) (fun _=>True)
theorem Jc.frame {g g':Rows} {n n':Nat} {c T O:Id} {s:aA} {ts:List aa} (h:Jc g n c T O s ts) (hn:n<=n') (hf:∀x:Id,x.bj<n->g' x=g x):Jc g' n' c T O s ts:=
 ⟨h.o.frame hn hf,by
  obtain⟨es,h1,h2⟩:=h.op
  exact⟨es,(hf _ h.o.ov).trans h1,h2.frame hn fun x hx _=>hf x hx⟩⟩
theorem qf.XL {σ:az} {g:Rows} {n:Nat} {c T O:Id} {s:aA} {ts:List aa} {A:aq->Prop} (h:qf σ.get σ.next c T O s ts) (k:jx σ O s ts A g n):qf g n c T O s ts:=h.look k.ow
theorem LN {s:aA} (hT:1<=s.aD) {ts:List aa} {q:aq} (h:∀t∈ts,∀k:Nat,k<4->q≠cj t.bD k):jb s ts q=[]:=by
 unfold jb
 refine Im (fun t=>?_) _
 cases hb:dX s ts q t
 ·rfl
 ·exfalso
  simp[dX]at hb
  obtain⟨⟨h1,h2⟩,h3⟩:=hb
  obtain⟨k,hk,h4⟩:=bind_some (s:=s.aI) (F:=fQ ts) (p:=q) (t:=t) 4 (by have:mb s.aI (fQ ts) q t=dp s.aI (fQ ts) q t 4:=rfl;omega)
  have h5:0<=fb ts (cj q k):=by
   unfold fQ at h4
   split at h4
   ·assumption
   ·omega
  obtain⟨h6,h7⟩:=ke h5
  have Ds:(lX k).toNat<4/\((lX k).toNat:Int)=lX k:=by
   have:k=0∨k=1∨k=2∨k=3:=ah
   rcases this with rfl|rfl|rfl|rfl<;>decide
  refine h _ (jc h6) (lX k).toNat Ds.1 ?_
  rw[h7,Ds.2,BS q k hk]
theorem Fz {l:List aa} {t:aa} (h:t∈l):∃j,j<l.length/\t=bw l j:=by
 obtain⟨j,hj,rfl⟩:=List.getElem_of_mem h
 exact⟨j,hj,(gQ hj).symm⟩
def Gj (s:aA) (l:List aa) (j:Nat) (q:aq):Prop:=jb s l q=[]/\(∀i:Nat,i<l.length->∀k:Nat,k<4->q≠cj (bw l i).bD k)∨∃i:Nat,i<j/\∃k:Nat,k<4/\q=cj (bw l i).bD k
theorem NF {s:aA} (hT:1<=s.aD) (l:List aa) (q:aq):Gj s l l.length q:=by
 by_cases h:∃i:Nat,i<l.length/\∃k:Nat,k<4/\q=cj (bw l i).bD k
 ·exact .inr h
 ·have h2:∀i:Nat,i<l.length->∀k:Nat,k<4->q≠cj (bw l i).bD k:=fun i hi k hk e=>h ⟨i,hi,k,hk,e⟩
  exact .inl ⟨LN hT fun t ht k hk=>by
   obtain⟨j,hj,rfl⟩:=Fz ht
   exact h2 j hj k hk,h2⟩
def ZE (σ:az) (s:aA) (ts:List aa) (r:AV) (σ':az):Prop:=
 ∃c T O:Id,r=.ptr c 0 0/\Jc σ'.get σ'.next c T O s ts/\σ.next<=c.bj/\σ.next<=T.bj/\σ.next<=O.bj/\σ.next<=σ'.next/\∀x:Id,x.bj<σ.next->σ'.get x=σ.get x
theorem o8 (s:aA) (hS:iK s.aI) (hT1:1<=s.aD) (l:List aa) (hA:jf s.aI l) (σ:az):Call Tryz.prog 48 [.agg (bt s),.agg [.sl (l.map ai)]] σ (ZE σ s l):=by
 refine hZ fR rfl fun gZ=>?_
 clear gZ
 have Ew:=hA.1.wQ
 (try((repeat(revert N;apply Pn.out));refine wk @bt.eq_1 ?_;(repeat(apply Pn.mk;intro N Z))))
 refine bz (fun n env st=>∃k:Nat,n=(l.length)-k/\k<=(l.length)/\env 18=.int .i64 (k:Int)/\st.get ⟨48001004,σ.next+1⟩=some ⟨true,6,[[.sl (s.aI.bd.map ek),.sl (s.aI.au.map dw),.sl (s.dm.au.map ai),.int .i64 s.aD,.map ⟨48001001,σ.next+1⟩ mP,.map ⟨48001002,σ.next+1⟩ mP]]⟩/\st.get ⟨48001001,σ.next+1⟩=some ⟨true,mP.mY,(l.take k).map ai⟩/\st.get ⟨48001002,σ.next+1⟩=some ⟨true,mP.mY,[]⟩/\st.get ⟨48000001,σ.next⟩=some ⟨true,1,[[.sl (l.map ai)]]⟩/\(σ.next+3<=st.next/\∀x:Id,x.bj<σ.next->st.get x=σ.get x)) (l.length) ⟨0,ah,ah,sl @Nat.zero_add,sl @Nat.zero_add,sl @Nat.zero_add,sl @Nat.zero_add,sl @Nat.zero_add,⟨aQ,fun x hx=>by
  have:=dh hx
  simp only[go_sem, ↓reduceIte,Nat.reduceEqDiff,Nat.reduceAdd,Nat.reduceSub,Nat.reduceLeDiff,reduceCtorEq,this]⟩⟩ ?_
 rintro n_a env_a st_a ⟨k,rfl,ale,Q2,ag0,ag1,ag2,ag3,nh⟩ eE
 have a3:=eE 3 (by kernel_rfl);have a5:=eE 5 (by kernel_rfl);have Vo:=eE 16 (by kernel_rfl);have a17:=eE 17 (by kernel_rfl)
 simp only[go_sem, ↓reduceIte,Nat.reduceEqDiff,Nat.reduceAdd,Nat.reduceSub,Nat.reduceLeDiff,reduceCtorEq]at a3 a5 Vo a17
 clear eE
 obtain⟨an,eE⟩:=nh
 have v1:=dh (i:=⟨48001004,σ.next+1⟩) (n:=st_a.next) aQ
 have v2:=dh (i:=⟨48001001,σ.next+1⟩) (n:=st_a.next) aQ
 have v3:=dh (i:=⟨48001002,σ.next+1⟩) (n:=st_a.next) aQ
 have v4:=dh (i:=⟨48000001,σ.next⟩) (n:=st_a.next) aQ
 by_cases hk:(k:Int)<(l.length:Int)
 ·have dD:∀{e:Env} {gg:Rows} {nx:Nat},(e 18=.int .i64 (IntKind.i64.wrap ((k:Int)+1)))->(gg ⟨48001004,σ.next+1⟩=some ⟨true,6,[[.sl (s.aI.bd.map ek),.sl (s.aI.au.map dw),.sl (s.dm.au.map ai),.int .i64 s.aD,.map ⟨48001001,σ.next+1⟩ mP,.map ⟨48001002,σ.next+1⟩ mP]]⟩)->(gg ⟨48001001,σ.next+1⟩=some ⟨true,mP.mY,(l.take (k+1)).map ai⟩)->(gg ⟨48001002,σ.next+1⟩=some ⟨true,mP.mY,[]⟩)->(gg ⟨48000001,σ.next⟩=some ⟨true,1,[[.sl (l.map ai)]]⟩)->(σ.next+3<=nx/\∀x:Id,x.bj<σ.next->gg x=σ.get x)->∃m0,m0<(l.length)-k/\∃k:Nat,m0=(l.length)-k/\k<=(l.length)/\e 18=.int .i64 (k:Int)/\gg ⟨48001004,σ.next+1⟩=some ⟨true,6,[[.sl (s.aI.bd.map ek),.sl (s.aI.au.map dw),.sl (s.dm.au.map ai),.int .i64 s.aD,.map ⟨48001001,σ.next+1⟩ mP,.map ⟨48001002,σ.next+1⟩ mP]]⟩/\gg ⟨48001001,σ.next+1⟩=some ⟨true,mP.mY,(l.take k).map ai⟩/\gg ⟨48001002,σ.next+1⟩=some ⟨true,mP.mY,[]⟩/\gg ⟨48000001,σ.next⟩=some ⟨true,1,[[.sl (l.map ai)]]⟩/\(σ.next+3<=nx/\∀x:Id,x.bj<σ.next->gg x=σ.get x):=fun x1 x2 x3 x4 x5 x6=>⟨_,ah,k+1,rfl,ah,(by rw[x1,aK ah]),x2,x3,x4,x5,x6⟩
  have iO:k<l.length:=ah
  have hg:=gI iO
  have hm:=zl (NB hA.1.Kw iO)
  have qb:=Qt iO
  (try((repeat(revert N;apply Pn.out));refine wk (tw @Q2 (tw @ag0 (tw @ag1 (tw @ag2 (tw @ag3 (tw @a3 (tw @a5 (tw @Vo (tw @a17 (tw @hk (tw @hg (tw @hm (tw @v1 (tw @v2 (tw @v3 (tw @v4 @ai.eq_1)))))))))))))))) ?_;(repeat(apply Pn.mk;intro N Z))))
  refine dD ?_ ?_ ?_ ?_ ?_ (by(try dsimp only);exact⟨ah,fun x hx=>by
   have h1:=dh (i:=x) (n:=st_a.next) ah
   have h2:=dP (a:=x) (b:=⟨48001001,σ.next+1⟩) aQ
   have h3:=eE x hx
   simp only[go_sem, ↓reduceIte,Nat.reduceEqDiff,Nat.reduceAdd,Nat.reduceSub,Nat.reduceLeDiff,reduceCtorEq,h1,h2,h3]⟩)
  all_goals simp only[go_sem, ↓reduceIte,Nat.reduceEqDiff,Nat.reduceAdd,Nat.reduceSub,Nat.reduceLeDiff,reduceCtorEq,Q2,ag0,ag1,ag2,ag3,a3,a5,Vo,a17,ai,v1,v2,v3,v4,qb]
 ·have mM:k=l.length:=ah
  subst mM
  have oN:l.take l.length=l:=List.take_length
  (try((repeat(revert N;apply Pn.out));refine wk (tw @Q2 (tw @ag0 (tw @ag1 (tw @ag2 (tw @ag3 (tw @a3 (tw @a5 (tw @Vo (tw @a17 (tw @hk (tw @v1 (tw @v2 (tw @v3 @v4))))))))))))) ?_;(repeat(apply Pn.mk;intro N Z))))
  refine bz (fun n env st=>∃j:Nat,n=(l.length)-j/\j<=(l.length)/\env 34=.int .i64 (j:Int)/\(σ.next+3<=st.next/\qf st.get st.next ⟨48001004,σ.next+1⟩ ⟨48001001,σ.next+1⟩ ⟨48001002,σ.next+1⟩ s l/\(∀x:Id,x.bj<σ.next->st.get x=σ.get x)/\∃es:List En,st.get ⟨48001002,σ.next+1⟩=some ⟨true,mP.mY,es.map pC⟩/\xN st.get st.next es (jb s l) (Gj s l j))) (l.length) ⟨0,ah,ah,sl (tw @Q2 (tw @ag0 (tw @ag1 (tw @ag2 (tw @ag3 (tw @a3 (tw @a5 (tw @Vo @a17)))))))),by(try dsimp only);exact⟨ah,⟨sd @ag0,sd (tw @ag1 @oN),⟨[],sd @ag2,by intro r hr;cases hr⟩,aQ,aQ,aQ,(by intro e;injection e with e1 e2;revert e1;decide),(by intro e;injection e with e1 e2;revert e1;decide),(by intro e;injection e with e1 e2;revert e1;decide)⟩,fun x hx=>by
   have h3:=eE x hx
   simp only[go_sem, ↓reduceIte,Nat.reduceEqDiff,Nat.reduceAdd,Nat.reduceSub,Nat.reduceLeDiff,reduceCtorEq,h3],[],sl @ag2,List.nodup_nil,fun q hq=>.inl ⟨by
    rcases hq with hq|⟨i,hi,_⟩
    ·exact hq.1
    ·exact absurd hi (Nat.not_lt_zero i),fun e he=>by cases he⟩⟩⟩ ?_
  rintro n_b env_b st_b ⟨j,rfl,ble,b34,bI0⟩ fo
  have b5:=fo 5 (by kernel_rfl);have wN:=fo 32 (by kernel_rfl);have xx:=fo 33 (by kernel_rfl)
  simp only[go_sem, ↓reduceIte,Nat.reduceEqDiff,Nat.reduceAdd,Nat.reduceSub,Nat.reduceLeDiff,reduceCtorEq,Q2,ag0,ag1,ag2,ag3,a3,a5,Vo,a17]at b5 wN xx
  clear fo
  obtain⟨bn,bC,fo,es,bO,bS⟩:=bI0
  by_cases hj:(j:Int)<(l.length:Int)
  ·have fN:∀{e:Env} {gg:Rows} {nx:Nat},(e 34=.int .i64 (IntKind.i64.wrap ((j:Int)+1)))->(σ.next+3<=nx/\qf gg nx ⟨48001004,σ.next+1⟩ ⟨48001001,σ.next+1⟩ ⟨48001002,σ.next+1⟩ s l/\(∀x:Id,x.bj<σ.next->gg x=σ.get x)/\∃es:List En,gg ⟨48001002,σ.next+1⟩=some ⟨true,mP.mY,es.map pC⟩/\xN gg nx es (jb s l) (Gj s l (j+1)))->∃m0,m0<(l.length)-j/\∃j:Nat,m0=(l.length)-j/\j<=(l.length)/\e 34=.int .i64 (j:Int)/\(σ.next+3<=nx/\qf gg nx ⟨48001004,σ.next+1⟩ ⟨48001001,σ.next+1⟩ ⟨48001002,σ.next+1⟩ s l/\(∀x:Id,x.bj<σ.next->gg x=σ.get x)/\∃es:List En,gg ⟨48001002,σ.next+1⟩=some ⟨true,mP.mY,es.map pC⟩/\xN gg nx es (jb s l) (Gj s l j)):=fun x1 x2=>⟨_,ah,j+1,rfl,ah,(by rw[x1,aK ah]),x2⟩
   have nk:j<l.length:=ah
   have hg:=gI nk
   have Oz:=tF (hA.1.pt nk)
   (try((repeat(revert N;apply Pn.out));refine wk (tw @b34 (tw @b5 (tw @wN (tw @xx (tw @hj (tw @hg @ai.eq_1)))))) ?_;(repeat(apply Pn.mk;intro N Z))))
   have hG:∀x:Id,x.bj<st_b.next->(bL (bL st_b.get ⟨48009002,st_b.next+1⟩ ⟨true,3,[[.int .i64 0,.int .i64 0,.int .i64 0]]⟩) ⟨48009002,st_b.next+1⟩ ⟨true,3,[[.int .i64 (bw l j).bD.fC,.int .i64 (bw l j).bD.fu,.int .i64 (bw l j).ck]]⟩) x=st_b.get x:=fun x hx=>by
    have h1:=dh hx
    simp only[go_sem, ↓reduceIte,Nat.reduceEqDiff,Nat.reduceAdd,Nat.reduceSub,Nat.reduceLeDiff,reduceCtorEq,h1]
   have Yz:qf (bL (bL st_b.get ⟨48009002,st_b.next+1⟩ ⟨true,3,[[.int .i64 0,.int .i64 0,.int .i64 0]]⟩) ⟨48009002,st_b.next+1⟩ ⟨true,3,[[.int .i64 (bw l j).bD.fC,.int .i64 (bw l j).bD.fu,.int .i64 (bw l j).ck]]⟩) (st_b.next+1+1+1) ⟨48001004,σ.next+1⟩ ⟨48001001,σ.next+1⟩ ⟨48001002,σ.next+1⟩ s l:=bC.frame ah hG
   refine .inr (aE _ _ _ _ _ (fun r σ1 hq=>?_) (CJ (σ:=⟨bL (bL st_b.get ⟨48009002,st_b.next+1⟩ ⟨true,3,[[.int .i64 0,.int .i64 0,.int .i64 0]]⟩) ⟨48009002,st_b.next+1⟩ ⟨true,3,[[.int .i64 (bw l j).bD.fC,.int .i64 (bw l j).bD.fu,.int .i64 (bw l j).ck]]⟩,st_b.next+1+1+1⟩) Yz.Si Yz.cO Yz.TO (Gj s l j) ⟨es,(hG _ aQ).trans bO,bS.frame aQ fun x hx _=>hG x hx⟩ hS (iK.Ls hA) (bw l j).bD Oz.1 Oz.2))
   obtain⟨g1,x1⟩:=σ1
   obtain⟨rfl,hL⟩:=hq
   (try dsimp only at hL)
   have hC2:=Yz.XL hL
   have hLn:=hL.1
   have hLf:=hL.2.1
   obtain⟨es2,hO2,L0⟩:=hL.2.2
   (try dsimp only at hLn hLf)
   have hAj:∀q,Gj s l (j+1) q->Gj s l j q∨∃k:Nat,k<4/\q=cj (bw l j).bD k:=fun q hq=>by
    rcases hq with hq|⟨i,hi,hq⟩
    ·exact .inl (.inl hq)
    ·rcases Nat.lt_or_ge i j with h|h
     ·exact .inl (.inr ⟨i,h,hq⟩)
     ·exact .inr (by rw[show i=j by omega]at hq;exact hq)
   apply Z
   clear Z N
   (try((repeat(revert N;apply Pn.out));refine wk (tw @b34 (tw @b5 (tw @wN @xx))) ?_;(repeat(apply Pn.mk;intro N Z))))
   exact fN (sd (tw @b34 (tw @b5 (tw @wN @xx)))) (by(try dsimp only);exact⟨ah,hC2.frame ah (fun x hx=>rfl),fun x hx=>by
    have h1:=dh (i:=x) (n:=st_b.next) ah
    have h2:=hLf x ah (fun e=>by rw[e]at hx;(try dsimp only at hx);omega)
    have h3:=fo x hx
    simp only[h2]
    simp only[go_sem, ↓reduceIte,Nat.reduceEqDiff,Nat.reduceAdd,Nat.reduceSub,Nat.reduceLeDiff,reduceCtorEq,h1,h3],es2,hO2,(L0.frame ah fun x hx _=>rfl).mono hAj⟩)
  ·have iH:j=l.length:=ah
   subst iH
   (try((repeat(revert N;apply Pn.out));refine wk (tw @b34 (tw @b5 (tw @wN (tw @xx @hj)))) ?_;(repeat(apply Pn.mk;intro N Z))))
   exact fV (.inl rfl) (vs:=[.ptr ⟨48001004,σ.next+1⟩ 0 0]) (sd @Nat.zero_add) ⟨_,_,_,rfl,⟨bC.frame aQ (fun x hx=>rfl),es,bO,(bS.frame aQ fun x hx _=>rfl).mono fun q _=>NF hT1 l q⟩,aQ,aQ,aQ,aQ,fo⟩
end Go.Proofs.YtiabgllilcfheaaGreat.V

namespace Go.Proofs.YtiabgllilcfheaaGreat.V
open Go.RowKit
variable {P:Program} {hs:Nat}
theorem KQ {q n i:Nat} {ops:Array Oper} {Q:Exit->Act->World->Prop} {K K':Act->World->Prop} {a:Act} {w:World} (pU:∀(j:Nat) (o:Oper),ops[j]? =some o->∀c,o.op≠.defer c) (mT:¬LetsOut Q) (hK:∀a w,K a w->K' a w) (h:wpOp P ops Q i K a w):wpOpIn (Fence.wide.inRound q) n P ops Q i K' a w:=by
 unfold wpOp at h
 unfold wpOpIn
 split at h
 ·rename_i ho;simp only[ho];exact hK _ _ h
 ·rename_i o ho
  simp only[ho]
  split at h
  ·rename_i hw
   rw[if_pos hw]
   replace h:=h.resolve_right fun hc=>mT hc.2
   refine⟨fun _ _=>trivial,?_⟩
   rw[Oper.semAt_eq _ _ _ (pU i o ho)]
   unfold Oper.wp at h
   generalize (execOp a.eval o).run P w=r at *
   cases r with
   |ok m w'=>
    cases m<;>simp only[Oper.upon,Oper.uponIn]at h ⊢
    case value=>exact hK _ _ h
    case skip=>exact hK _ _ h
    case defer=>exact hK _ _ h
    case enter f args=>
     refine⟨fun h=>by simp[Fence.wide]at h,CallsIn.inRound q (callsIn_wide.2 (h.mono fun e OH he=>?_))⟩
     cases e with
     |returned v=>exact hK _ _ he
     |panicked c=>exact he
     |outgrown=>exact he
    case row r args=>exact⟨fun h=>by simp[Fence.wide]at h,fun c cs _=>let ⟨v,OH,h1,s⟩:=h c cs;⟨v,OH,hK _ _ h1,stepsIn_wide.2 s⟩⟩
   |halt x w'=>cases x<;>simp only[Oper.upon,Oper.uponIn]at h ⊢;exact h
  ·rename_i hw
   rw[if_neg hw]
   exact⟨fun _ _=>trivial,hK _ _ h⟩
theorem zW {q n:Nat} {md:Region.Mode} {ops:Array Oper} {Q:Exit->Act->World->Prop} (pU:∀(j:Nat) (o:Oper),ops[j]? =some o->∀c,o.op≠.defer c) (mT:¬LetsOut Q):∀(fuel:Nat) (listed:Array Bool) (a:Act) (w:World),wpAny P md ops Q fuel listed a w->wpAnyIn (Fence.wide.inRound q) n P md ops Q fuel listed a w
 |0,_,_,_,h=>h
 |fuel+1,listed,_,_,h=>⟨h.1,fun i hi=>KQ pU mT (fun a w=>zW pU mT fuel _ a w) (h.2 i hi)⟩
def IH:Op->Bool
 | .defer _=>true
 |_=>false
theorem MS {ops:Array Oper} (h:(ops.all fun o=> !IH o.op)=true):∀(j:Nat) (o:Oper),ops[j]? =some o->∀c,o.op≠.defer c:=fun j o hj c hc=>by
 have:=Array.all_eq_true_iff_forall_mem.1 h o (Array.mem_of_getElem? hj)
 rw[hc]at this
 simp[IH]at this
theorem CZ (hm:P.follows .mixedOrders=true) {nt site0 id q n:Nat} {ops:Array Oper} {vl:List aZ} (h:tY P nt site0 ops true false=some vl) (pU:∀(j:Nat) (o:Oper),ops[j]? =some o->∀c,o.op≠.defer c)
  {K:Env->az->Prop} {env:Env} {σ:az} {a:Act} {w:World} {D:Nat->Prop} {ι:Names} {Q:Exit->Act->World->Prop} (hv:wpOps (Sound P) true vl K env σ) (eA:St P hs nt D ι env σ a w)
  (hK:∀jC σ' a' w' D' ι',K jC σ'->Step hs D ι w D' ι' w'->St P hs nt D' ι' jC σ' a' w'->a'.defers=a.defers->Q .normal a' w'):(Code.region id ops true).wpIn (Fence.wide.inRound q) n P Q a w:=by
 have eV:∃hidden wK,allM (mc P ops nt site0 true false (kq ops) hidden) ops.toList 0=some wK/\vl=wK/\qx ops wK (kq ops)=true:=by
  unfold tY at h
  simp only[if_true,Bool.not_true,Bool.false_or]at h
  split at h
  ·rename_i wK h'
   split at h
   ·rename_i yW;simp at h;exact⟨_,wK,h',h.symm,yW⟩
   ·cases h
  ·cases h
 obtain⟨hidden,wK,eV,rfl,yW⟩:=eV
 obtain⟨uz,T0⟩:=eA.drew
 obtain⟨hlen,_⟩:=qn eV
 have sI:vl.length=ops.size:=by rw[hlen];simp
 have GP:=zV (X:=Sound P) (K:=K) (n:=σ.next) yW sI vl 0 (Array.replicate ops.size false) env σ.get (by simp) (by simp) (fun i hi=>by simp[hi]) (by simp[sI]) (fun k i h=>by
  exfalso
  rcases Nat.lt_or_ge k ops.size with hk|hk
  ·simp[hk]at h
  ·simp[Nat.not_lt.2 hk]at h) hv
 rw[sI]at GP
 have hw:=AJ (Q:=fun e a w=>e=.normal/\Q .normal a w) eV ops.size _ env σ.get a w.drew D ι (fun _=>False) GP uz.wE uz.used (fun _ h=>h.elim) uz.env uz.size fun jE g1 a1 w1 D1 ι1 U1 hk T S1 ZH E1 Bg hd=>⟨rfl,hK jE ⟨g1,σ.next+1⟩ a1 w1 D1 ι1 hk (T0.trans T) ⟨S1,ZH.next,E1,Bg⟩ hd⟩
 have fZ:=zW (q:=q) (n:=n) (Q:=fun e a w=>e=.normal/\Q .normal a w) pU (by rintro⟨_,_,hc,_⟩;cases hc) ops.size _ a w.drew hw
 refine wpIn_mono (wpIn_region_any (id:=id) hm fZ) ?_
 rintro e a w ⟨rfl,h⟩
 exact h
end Go.Proofs.YtiabgllilcfheaaGreat.V

namespace Go.Proofs.YtiabgllilcfheaaGreat.V
open Go.RowKit
variable {P:Program}
theorem Ty (hm:P.follows .mixedOrders=true) {f:Nat} {args:List AV} {vs:Array Value} {w:World} (h:ay P f args (.bool true)) (hA:fK P w (fun b=>b<w.heap.size) (fun _=>none) args vs):
  Calls P f vs w fun e w'=>e=.returned (.bool true)/\Below w.heap.size w w':=by
 have hs:=iE hm (h 0) w.heap.size (fun b=>b<w.heap.size) (fun _=>none) w vs ⟨Nat.le_refl _,fun _ h=>h,fun id r h=>(by cases h),fun id lh r r' B B' h=>(by cases h)⟩ (fun id h=>absurd rfl h) hA
 refine hs.mono ?_
 rintro e w' ⟨r,g',n',D',ι',u,rfl,⟨r',hz,rfl⟩,eA,hsim,_,_,iF⟩
 have hr:r=.bool true:=by
  cases r<;>rw[iq]at hz<;>simp_all
  all_goals (repeat' (split at hz))<;>simp_all
 subst hr
 exact⟨by rw[gn iF],eA.below⟩
theorem nY {xs:List AV} {w:World} {D:Nat->Prop} {ι:Names} {a:AV} {v:Value} {vs:Array Value} (h:lH P w D a v) (k:fK P w D ι xs vs):fK P w D ι (a::xs) (#[v]++vs):=
 qT (xs:=[a]) ⟨rfl,fun j b hj=>by
  cases j with
  |zero=>simp at hj;subst hj;exact⟨v,rfl,.fF _ _ h⟩
  |succ j=>simp at hj⟩ k
end Go.Proofs.YtiabgllilcfheaaGreat.V

namespace Go.Proofs.YtiabgllilcfheaaGreat.V
open Go.RowKit Go.Shelf
attribute [local go_sem] Oper.semAt_some
structure rX (W:World) (v:Value) (l:List aa):Prop where
 sl:∃A c,v=.slice A l.length c/\(l.length<=c/\c<=maxLen)/\(l=[]∨∃b o,A=some ⟨b,o,none⟩/\∀i,i<l.length->W.cell? ⟨b,o+(i*3+0),none⟩=some (.int .i64 (bw l i).bD.fC)/\W.cell? ⟨b,o+(i*3+1),none⟩=some (.int .i64 (bw l i).bD.fu)/\W.cell? ⟨b,o+(i*3+2),none⟩=some (.int .i64 (bw l i).ck))
structure Lj (K:World->World->Prop) (v:Value) (l:List aa):Prop where
 refl:∀W,K W W
 trans:∀{A B C:World},K A B->K B C->K A C
 of:∀{W W':World},Below W.heap.size W W'->K W W'
 size:∀{W W':World},K W W'->W.heap.size<=W'.heap.size
 typed:∀{W W':World},K W W'->∀(b:Nat) (cells:Array Value) (T:TypeId) (fr:Nat×Nat),W.heap[b]? =some (Obj.cells cells T fr)->T≠138->T≠163->W'.heap[b]? =W.heap[b]?
 pl:∀{W W':World},K W W'->rX W v l->rX W' v l
theorem xS {W:World} {b x:Nat} {v:Value} (h:W.cell? ⟨b,x,none⟩=some v):b<W.heap.size:=by
 rcases Nat.lt_or_ge b W.heap.size with h1|h1
 ·exact h1
 ·simp[World.cell?,Array.getElem?_eq_none h1]at h
theorem rX.below {W W':World} {v:Value} {l:List aa} (h:rX W v l) (k:Below W.heap.size W W'):rX W' v l:=by
 obtain⟨A,c,rfl,hm,hc⟩:=h.sl
 refine⟨A,c,rfl,hm,?_⟩
 rcases hc with h0|⟨b,o,rfl,lv⟩
 ·exact .inl h0
 ·refine .inr ⟨b,o,rfl,fun i hi=>?_⟩
  obtain⟨h1,h2,h3⟩:=lv i hi
  have hb:=xS h1
  exact⟨(k.cell (p:=⟨b,_,none⟩) hb).trans h1,(k.cell (p:=⟨b,_,none⟩) hb).trans h2,(k.cell (p:=⟨b,_,none⟩) hb).trans h3⟩
theorem rX.fF {P:Program} {W:World} {v:Value} {l:List aa} (h:rX W v l):lH P W (fun b=>b<W.heap.size) (.sl (l.map ai)) v:=by
 obtain⟨A,c,rfl,hm,hc⟩:=h.sl
 rcases hc with rfl|⟨b,o,rfl,lv⟩
 ·exact .Dy A c (by simpa using hm.2)
 by_cases Mc:l=[]
 ·subst Mc;exact .Dy _ c (by simpa using hm.2)
 ·have kd:0<l.length:=List.length_pos_iff.2 Mc
  have hb:=xS (lv 0 kd).1
  refine .sl (l.map ai) b o l.length c 3 (fun i j=>if j=0 then .int .i64 (bw l i).bD.fC else if j=1 then .int .i64 (bw l i).bD.fu else .int .i64 (bw l i).ck) (by simp) hm.1 hm.2 hb (fun cs eD=>?_) (fun cs eD a ha=>?_) (fun i j hi hj=>?_) (fun i j cs a hi hj=>?_)
  ·obtain⟨x,_,rfl⟩:=List.mem_map.1 eD;rfl
  ·obtain⟨x,_,rfl⟩:=List.mem_map.1 eD
   simp[ai]at ha
   rcases ha with rfl|rfl|rfl<;>rfl
  ·obtain⟨h1,h2,h3⟩:=lv i hi
   match j,hj with
   |0,_=>exact h1
   |1,_=>exact h2
   |2,_=>exact h3
   |j+3,hj=>omega
  ·have lU:i<l.length:=by have:=(List.getElem?_eq_some_iff.1 hi).1;simpa using this
   rw[gI lU]at hi
   injection hi with hi
   subst hi
   match j,hj with
   |0,hj=>simp[ai]at hj;subst hj;exact .int _ _
   |1,hj=>simp[ai]at hj;subst hj;exact .int _ _
   |2,hj=>simp[ai]at hj;subst hj;exact .int _ _
   |j+3,hj=>simp[ai]at hj
theorem D5 {P:Program} (hm:P.follows .mixedOrders=true) {f:Nat} {args:List AV} {vs:Array Value} {w:World} {r:AV} (h:ay P f args r) (hr:∀g r0,iq g 6 r0=some r->r0=r) (hA:fK P w (fun b=>b<w.heap.size) (fun _=>none) args vs):
  Calls P f vs w fun e w'=>∃D ι u,e=.returned u/\dy P w' D ι r u/\Below w.heap.size w w':=by
 have hs:=iE hm (h 0) w.heap.size (fun b=>b<w.heap.size) (fun _=>none) w vs ⟨Nat.le_refl _,fun _ h=>h,fun id r h=>(by cases h),fun id lh r r' B B' h=>(by cases h)⟩ (fun id h=>absurd rfl h) hA
 refine hs.mono ?_
 rintro e w' ⟨r0,g',n',D',ι',u,rfl,⟨r',hz,rfl⟩,eA,hsim,_,_,iF⟩
 have:=hr _ _ hz
 subst this
 exact⟨D',ι',u,rfl,iF,eA.below⟩
theorem qD {g:Rows} {n:Nat} {a:AV} {k:IntKind} {m:Int} (h:iq g (n+1) a=some (.int k m)):a=.int k m:=by
 cases a<;>rw[iq]at h<;>simp_all
 all_goals (repeat' (split at h))<;>simp_all
theorem GH {g:Rows} {a:AV} {x y:Int} (h:iq g 6 a=some (.agg [.int .i64 x,.int .i64 y])):a=.agg [.int .i64 x,.int .i64 y]:=by
 cases a with
 |agg cs=>
  rw[jL]at h
  simp only[Option.map_eq_some_iff,AV.agg.injEq,exists_eq_right]at h
  match cs,h with
  |[],h=>rw[bY]at h;simp at h
  |[a],h=>
   rw[bc,bY]at h
   cases ha:iq g 5 a<;>simp[ha]at h
  |[a,b],h=>
   rw[bc,bc,bY]at h
   cases ha:iq g 5 a<;>cases hb:iq g 5 b<;>simp[ha,hb]at h
   obtain⟨rfl,rfl⟩:=h
   rw[qD ha,qD hb]
  |a::b::c::r,h=>
   rw[bc,bc,bc]at h
   cases ha:iq g 5 a<;>cases hb:iq g 5 b<;>cases hc:iq g 5 c<;>cases hd:fm g 5 r<;>simp[ha,hb,hc,hd]at h
 |_=>rw[iq]at h<;>simp_all<;>(repeat' (split at h))<;>simp_all
theorem HF (W:World) (p:aq) (d:Int) (hd:jm d 0 3=true) (hx:iB p.fC) (hy:iB p.fu):Calls Tryz.prog 106 #[.agg #[.int .i64 p.fC,.int .i64 p.fu],.int .i64 d] W fun e W'=>e=.returned (.agg #[.int .i64 (cj p d).fC,.int .i64 (cj p d).fu])/\Below W.heap.size W W':=by
 refine(D5 mixed (HH p d hd hx hy) (fun g r0 h=>GH h) ?_:Calls _ _ _ _ _).mono ?_
 ·exact nY (vs:= #[.int .i64 d]) (.agg _ _ (fun j=>if j=0 then .int .i64 p.fC else .int .i64 p.fu) rfl (fun a ha=>by simp[ae]at ha;rcases ha with rfl|rfl<;>rfl) (fun j hj=>by match j,hj with|0,_=>rfl|1,_=>rfl|j+2,hj=>simp[ae]at hj;omega) (fun j a ha=>by match j,ha with|0,ha=>simp[ae]at ha;subst ha;exact .int _ _|1,ha=>simp[ae]at ha;subst ha;exact .int _ _|j+2,ha=>simp[ae]at ha)) (nY (vs:= #[]) (.int _ _) zC)
 ·rintro e W' ⟨D,ι,u,rfl,hr,hB⟩
  refine⟨?_,hB⟩
  obtain⟨vs,f,rfl,eQ,_,h1,h2⟩:=jw hr
  have v0:=h1 0 (by simp[ae])
  have v1:=h1 1 (by simp[ae])
  rw[eB (h2 0 _ rfl)]at v0
  rw[eB (h2 1 _ rfl)]at v1
  obtain⟨vl⟩:=vs
  match vl,eQ with
  |[a,b],_=>
   simp at v0 v1
   rw[v0,v1]
theorem Az (W:World) (l:List aa) (v:Value) (hP:rX W v l) (p:aq) (hR:ny l) (Pa:l.length<=1048576):Calls Tryz.prog 191 #[.agg #[v],.agg #[.int .i64 p.fC,.int .i64 p.fu]] W fun e W'=>e=.returned (.int .i64 (fb l p))/\Below W.heap.size W W':=by
 refine(D5 mixed (Kq l p hR Pa) (fun g r0 h=>qD h) ?_:Calls _ _ _ _ _).mono ?_
 ·exact nY (vs:= #[.agg #[.int .i64 p.fC,.int .i64 p.fu]]) (.agg _ _ (fun _=>v) rfl (fun a ha=>by simp at ha;rw[ha];rfl) (fun j hj=>by match j,hj with|0,_=>rfl|j+1,hj=>simp at hj) (fun j a ha=>by match j,ha with|0,ha=>simp at ha;subst ha;exact hP.fF|j+1,ha=>simp at ha)) (nY (vs:= #[]) (.agg _ _ (fun j=>if j=0 then .int .i64 p.fC else .int .i64 p.fu) rfl (fun a ha=>by simp[ae]at ha;rcases ha with rfl|rfl<;>rfl) (fun j hj=>by match j,hj with|0,_=>rfl|1,_=>rfl|j+2,hj=>simp[ae]at hj;omega) (fun j a ha=>by match j,ha with|0,ha=>simp[ae]at ha;subst ha;exact .int _ _|1,ha=>simp[ae]at ha;subst ha;exact .int _ _|j+2,ha=>simp[ae]at ha)) zC)
 ·rintro e W' ⟨D,ι,u,rfl,hr,hB⟩
  exact⟨by rw[eB hr],hB⟩
theorem grown_of {W W':World} (h:Below W.heap.size W W'):W.grownBy W' none:=⟨h.os,h.tape,h.output,h.size,fun k hk _=>h.block k hk⟩
def Fq (l:List aa) (i:Nat) (d:Int):List (Nat×Nat×Int):=if 0<=fb l (cj (bw l i).bD d)then[(i,(fb l (cj (bw l i).bD d)).toNat,d)]else[]
def ml (l:List aa) (i m:Nat):List (Nat×Nat×Int):=(List.range m).flatMap fun j:Nat=>Fq l i (1-(j:Int))
def mV (l:List aa) (n:Nat):List (Nat×Nat×Int):=(List.range n).flatMap fun i=>ml l i 2
theorem nU (l:List aa) (n:Nat):mV l (n+1)=mV l n++ml l n 2:=by simp[mV,List.range_succ]
theorem oZ (l:List aa) (i m:Nat):ml l i (m+1)=ml l i m++Fq l i (1-(m:Int)):=by simp[ml,List.range_succ]
theorem TH (l:List aa) {k m:Nat} (hk:k<l.length) (hm:m<=2):mV l k++ml l k m <+:mV l l.length:=by
 have h1:∀d,mV l k <+:mV l (k+d):=fun d=>by
  induction d with
  |zero=>exact List.prefix_refl _
  |succ d ih=>rw[<-Nat.add_assoc,nU l (k+d)];exact ih.trans (List.prefix_append _ _)
 have h2:∀d,mV l (k+1) <+:mV l (k+1+d):=fun d=>by
  induction d with
  |zero=>exact List.prefix_refl _
  |succ d ih=>rw[<-Nat.add_assoc,nU l (k+1+d)];exact ih.trans (List.prefix_append _ _)
 have h3:=h2 (l.length-(k+1))
 rw[show k+1+(l.length-(k+1))=l.length by omega,nU]at h3
 refine List.IsPrefix.trans ?_ h3
 have h4:ml l k m <+:ml l k 2:=by
  have:m=0∨m=1∨m=2:=ah
  rcases this with rfl|rfl|rfl
  ·exact List.nil_prefix
  ·rw[oZ l k 1];exact List.prefix_append _ _
  ·exact List.prefix_refl _
 exact(List.prefix_append_right_inj _).2 h4
def V0 (l:List aa) (x:Nat×Nat×Int):Prop:=x.1<l.length/\x.2.1<l.length/\(0<=x.2.2/\x.2.2<=1)/\(x.2.1:Int)=fb l (cj (bw l x.1).bD x.2.2)
def Ie (x:Nat×Nat×Int):Array Value:= #[.agg #[.int .i64 (x.1:Int),.int .i64 (x.2.1:Int)],.int .i64 x.2.2]
theorem PN (l:List aa) (p:aq) (h:0<l.length:=by omega):fb l p<(l.length:Int):=by
 unfold fb
 split<;>omega
theorem XR (l:List aa) (hA:lP l) (q Ba:Nat) (vS:Value) (K:World->World->Prop) (kl:Lj K vS l) (J Jx:List (Nat×Nat×Int)->World->Prop) (n:Nat) (hn:1<=n)
  (hY:∀pre x W,J pre W->pre.length<(mV l l.length).length->V0 l x->YieldAt Fence.wide (n-1) Tryz.prog q (Ie x) W fun e W'=>
   (e=.returned (.bool true)/\J (pre++[x]) W'/\K W W')∨(e=.returned (.bool false)/\Jx (pre++[x]) W'))
  (W:World) (hJ:AbidesFrom W.heap.size J) (SC:W.heap[Ba]? =some (.cells #[vS] 30 (0,0))) (hP:rX W vS l) (h0:J [] W):
  CallsIn Fence.wide n Tryz.prog 190 #[.func (.yield q) #[] #[],.pointer (some ⟨Ba,0,none⟩)] W fun e W'=>(∃v,e=.returned v)/\
   ((∃ys,ys=mV l l.length/\J ys W')∨(∃pre,pre <+:mV l l.length/\Jx pre W')):=by
 obtain⟨A,cp,rfl,_,_⟩:=hP.sl
 refine callsIn_of_wp Tryz.func190 rfl trivial ?_ rfl
 simp only[Tryz.ntmps190,List.size_toArray,List.length_cons,List.length_nil,Nat.reduceAdd,Nat.reduceSub,Array.replicate_succ,Array.replicate_zero,List.push_toArray,List.append_toArray,List.nil_append,List.cons_append]
 have kG:W.cell? ⟨Ba,0,none⟩=some (.slice A l.length cp):=by simp[World.cell?,SC]
 gi_wp2
 gi_loopw [11] (fun i wr=>∃k:Nat,k<=l.length/\i=.int .i64 k/\J (mV l k) wr/\K W wr)
  (fun i _=>l.length-(intOf i).toNat)
 case atStart=>exact⟨0,Nat.zero_le _,rfl,h0,kl.refl _⟩
 case round=>
  obtain⟨k,hk,rfl,WA,hKt⟩:=hrel
  by_cases eW:k<l.length
  ·have eD:∃b o,A=some ⟨b,o,none⟩/\wr.cell? ⟨b,o+k*3,none⟩=some (.int .i64 (bw l k).bD.fC)/\wr.cell? ⟨b,o+k*3+1,none⟩=some (.int .i64 (bw l k).bD.fu)/\wr.cell? ⟨b,o+k*3+2,none⟩=some (.int .i64 (bw l k).ck):=by
    obtain⟨A',c',hv,_,hc⟩:=(kl.pl hKt hP).sl
    cases hv
    rcases hc with rfl|⟨b,o,rfl,lv⟩
    ·simp at eW
    ·obtain⟨h1,h2,h3⟩:=lv k eW
     exact⟨b,o,rfl,by simpa using h1,by rw[Nat.add_assoc];exact h2,by rw[Nat.add_assoc];exact h3⟩
   obtain⟨b,o,rfl,hx,Zh,ht⟩:=eD
   gi_wp2
   obtain⟨W2,WJ⟩:∃W2,(wr.alloc (.cells #[.int .i64 (bw l k).bD.fC,.int .i64 (bw l k).bD.fu,.int .i64 (bw l k).ck] 70)).alloc (.cells #[.int .i64 1,.int .i64 0] 2)=W2:=⟨_,rfl⟩
   have lg:Below wr.heap.size wr W2:=by rw[<-WJ];exact((Below.refl _ wr).alloc (Nat.le_refl _) _).alloc (by simp) _
   have hHt:W2.heap[wr.heap.size]? =some (.cells #[.int .i64 (bw l k).bD.fC,.int .i64 (bw l k).bD.fu,.int .i64 (bw l k).ck] 70 (0,0)):=by
    rw[<-WJ,Below.heap_alloc _ _ _ (by simp)];exact World.alloc_heap_new _ _
   have hHd:W2.heap[wr.heap.size+1]? =some (.cells #[.int .i64 1,.int .i64 0] 2 (0,0)):=by
    have:=World.alloc_heap_new (wr.alloc (.cells #[.int .i64 (bw l k).bD.fC,.int .i64 (bw l k).bD.fu,.int .i64 (bw l k).ck] 70)) (.cells #[.int .i64 1,.int .i64 0] 2)
    rw[World.size_alloc]at this
    rw[<-WJ];exact this
   have SK:K W W2:=kl.trans hKt (kl.of lg)
   have hJ2:J (mV l k++ml l k 0) W2:=by
    have:=hJ _ _ _ none WA (grown_of lg) (fun r h=>by cases h)
    simpa[ml]using this
   rw[WJ]
   clear WJ
   generalize wr=w1 at *
   gi_loopw [18] (fun j wr=>∃m:Nat,m<=2/\j=.int .i64 m/\J (mV l k++ml l k m) wr/\K W2 wr)
    (fun j _=>2-(intOf j).toNat)
   case atStart=>exact⟨0,ah,rfl,hJ2,kl.refl _⟩
   case round=>
    obtain⟨m,hm,rfl,hJm,Rb⟩:=hrel
    have Xh:m=0∨m=1∨m=2:=ah
    by_cases Ao:m<2
    ·have hkd:=kl.typed Rb _ _ _ _ hHd (by decide) (by decide)
     have Ox:=kl.typed Rb _ _ _ _ hHt (by decide) (by decide)
     have hka:=kl.typed (kl.trans SK Rb) _ _ _ _ SC (by decide) (by decide)
     have cd:wr.cell? ⟨w1.heap.size+1,m,none⟩=some (.int .i64 (1-(m:Int))):=by
      rw[World.cell?_of_block hkd]
      rcases Xh with rfl|rfl|rfl
      ·simp[World.cell?,hHd]
      ·simp[World.cell?,hHd]
      ·omega
     have ct0:wr.cell? ⟨w1.heap.size,0,none⟩=some (.int .i64 (bw l k).bD.fC):=by rw[World.cell?_of_block Ox];simp[World.cell?,hHt]
     have ct1:wr.cell? ⟨w1.heap.size,1,none⟩=some (.int .i64 (bw l k).bD.fu):=by rw[World.cell?_of_block Ox];simp[World.cell?,hHt]
     have ca:wr.cell? ⟨Ba,0,none⟩=some (.slice (some ⟨b,o,none⟩) l.length cp):=by rw[World.cell?_of_block hka];simp[World.cell?,SC]
     have hPw:rX wr (.slice (some ⟨b,o,none⟩) l.length cp) l:=kl.pl (kl.trans SK Rb) hP
     have hba:Ba<wr.heap.size:=by
      have h1:=(Array.getElem?_eq_some_iff.1 SC).1
      have h2:=kl.size (kl.trans SK Rb)
      omega
     have hdm:jm (1-(m:Int)) 0 3=true:=jn ah
     have Oz:=tF (hA.pt eW)
     have VL:=fun w0=>HF w0 (bw l k).bD (1-(m:Int)) hdm Oz.1 Oz.2
     have hPd:rX wr.drew (.slice (some ⟨b,o,none⟩) l.length cp) l:=hPw.below ⟨rfl,rfl,rfl,Nat.le_refl _,fun _ _=>rfl⟩
     have cad:wr.drew.cell? ⟨Ba,0,none⟩=some (.slice (some ⟨b,o,none⟩) l.length cp):=ca
     have ctd0:wr.drew.cell? ⟨w1.heap.size,0,none⟩=some (.int .i64 (bw l k).bD.fC):=ct0
     have ctd1:wr.drew.cell? ⟨w1.heap.size,1,none⟩=some (.int .i64 (bw l k).bD.fu):=ct1
     have YT:=hA.wQ
     have Xg:=hA.Kw
     have hmix:=mixed
     gi_wp2
     gi_region_with_o (first|(refine⟨trivial,?_⟩;gi_at_call 106;refine(callsIn_wide.2 (VL _)).mono ?_;rintro e w3 ⟨rfl,Es⟩;have ca3:=(Es.cell (p:=⟨Ba,0,none⟩) hba).trans cad)|(refine⟨trivial,?_⟩;gi_at_call 191;refine(callsIn_wide.2 (Az _ l _ (hPd.below Es) (cj (bw l k).bD (1-(m:Int))) Xg ah)).mono ?_;rintro e w4 ⟨rfl,Yw⟩))
     all_goals
      have SA:Below wr.heap.size wr w4:=(show Below wr.heap.size wr wr.drew from⟨rfl,rfl,rfl,Nat.le_refl _,fun _ _=>rfl⟩).trans (Es.trans (Yw.mono Es.size))
      have hJ4:J (mV l k++ml l k m) w4:=hJ _ _ _ none hJm (grown_of SA) (fun r h=>by cases h)
      have Ap:=TH l eW (m:=m+1) ah
      rw[oZ,<-List.append_assoc]at Ap
      have qb:=oZ l k m
      have hw:wrap64 ((m:Int)+1)=((m+1:Nat):Int):=by unfold wrap64;omega
      by_cases Cw:0<=fb l (cj (bw l k).bD (1-(m:Int)))
      ·have fZ:((fb l (cj (bw l k).bD (1-(m:Int)))).toNat:Int)=fb l (cj (bw l k).bD (1-(m:Int))):=ah
       rw[Fq,if_pos Cw]at Ap qb
       obtain⟨fn,tmps,assign,body,hy,hR⟩:=hY _ (k,(fb l (cj (bw l k).bD (1-(m:Int)))).toNat,1-(m:Int)) w4 hJ4 (by
        have:=Ap.length_le
        simp only[List.length_append,List.length_cons,List.length_nil]at this ⊢
        omega) ⟨eW,by
        have:fb l (cj (bw l k).bD (1-(m:Int)))<(l.length:Int):=PN _ _
        show(fb l (cj (bw l k).bD (1-(m:Int)))).toNat<l.length
        omega,⟨by show 0<=1-(m:Int);omega,by show 1-(m:Int)<=1;omega⟩,fZ⟩
       simp only[Ie,fZ]at hy
       gi_wp2
       refine hR.mono ?_
       rintro e W3 (⟨rfl,hJ3,Ds⟩|⟨rfl,hJx3⟩)
       ·gi_wp2
        go_roundw
        case rel=>exact⟨m+1,ah,by simp,by rw[qb,<-List.append_assoc];exact hJ3,kl.trans (kl.trans Rb (kl.of SA)) Ds⟩
        case measure=>simp[intOf];omega
       ·gi_wp2
        refine bodyPost_ret (results_none rfl _ _ _) rfl ?_
        exact⟨⟨_,rfl⟩,.inr ⟨_,Ap,hJx3⟩⟩
      ·rw[Fq,if_neg Cw,List.append_nil]at qb
       gi_wp2
       refine⟨fun _ h=>(by cases h),?_⟩
       gi_wp2
       go_roundw
       case rel=>exact⟨m+1,ah,by simp,by rw[qb];exact hJ4,kl.trans Rb (kl.of SA)⟩
       case measure=>simp[intOf];omega
    ·obtain rfl:m=2:=ah
     have YT:=hA.wQ
     gi_wp2
     go_roundw
     case rel=>exact⟨k+1,ah,by simp,by rw[nU];exact hJm,kl.trans SK Rb⟩
     case measure=>simp[intOf];omega
  ·obtain rfl:k=l.length:=ah
   gi_wp2
   go_end0
   exact⟨⟨_,rfl⟩,.inl ⟨_,rfl,WA⟩⟩
theorem CR (n:Nat) (vS:Value) (w:World):CallsIn Fence.wide n Tryz.prog 177 #[.agg #[vS]] w fun e w'=>e=.returned (.func (.func 190) #[] #[.pointer (some ⟨w.heap.size,0,none⟩)])/\w'=w.alloc (.cells #[vS] 30):=by
 refine callsIn_of_wp Tryz.func177 rfl trivial ?_ rfl
 simp only[Tryz.ntmps177,List.size_toArray,List.length_cons,List.length_nil,Nat.reduceAdd,Nat.reduceSub,Array.replicate_succ,Array.replicate_zero,List.push_toArray,List.append_toArray,List.nil_append,List.cons_append]
 gi_wp2
 go_ret
 exact⟨rfl,rfl⟩
abbrev RQ (l:List aa):Type:={x:Nat×Nat×Int // V0 l x}
theorem MO (l:List aa) (hA:lP l) (Ba n:Nat) (hn:1<=n) (vS:Value) (K:World->World->Prop) (kl:Lj K vS l) (w:World) (SC:w.heap[Ba]? =some (.cells #[vS] 30 (0,0))) (hP:rX w vS l):
  SeqStopsK Fence.wide n Tryz.prog 190 #[.pointer (some ⟨Ba,0,none⟩)] (fun x:RQ l=>Ie x.1) K (fun ys=>ys.map (·.1)=mV l l.length) (fun _=>True) (mV l l.length).length w:=fun q J Jx W hW hJ _ hY h0=>by
 refine(XR l hA q Ba vS K kl (fun ys W=>∃zs:List (RQ l),zs.map (·.1)=ys/\J zs W) (fun ys W=>∃zs:List (RQ l),zs.map (·.1)=ys/\Jx zs W) n hn (fun pre x W1 hJ1 eW yW=>?_) W (fun s A B row ⟨zs,e,h⟩ hg hr=>⟨zs,e,hJ zs A B row h hg hr⟩) ((hW.block Ba (Array.getElem?_eq_some_iff.1 SC).1).trans SC) (hP.below hW) ⟨[],rfl,h0⟩).mono ?_
 ·obtain⟨zs,rfl,h1⟩:=hJ1
  refine YieldAt.mono (hY zs ⟨x,yW⟩ W1 h1 (by simpa using eW)) ?_
  rintro e W' (⟨h2,h3,h4⟩|⟨h2,h3⟩)
  ·exact .inl ⟨h2,⟨zs++[⟨x,yW⟩],by simp,h3⟩,h4⟩
  ·exact .inr ⟨h2,⟨zs++[⟨x,yW⟩],by simp,h3⟩⟩
 ·rintro e W' ⟨h1,⟨ys,rfl,zs,h2,h3⟩|⟨pre,_,zs,h2,h3⟩⟩
  ·exact⟨h1,.inl ⟨zs,h2,h3⟩⟩
  ·exact⟨h1,.inr ⟨zs,trivial,h3⟩⟩
def Cc (s:aH) (l:List aa) (x:Nat×Nat×Int):List PB:=if 0<iL s (bw l x.1).ck x.2.2 (bw l x.2.1).ck then[⟨x.1,x.2.1,iL s (bw l x.1).ck x.2.2 (bw l x.2.1).ck⟩]else[]
theorem LC (s:aH) (l:List aa):dI s l=(mV l l.length).flatMap (Cc s l):=by
 have h1:∀i d,oE s l i d=(Fq l i d).flatMap (Cc s l):=fun i d=>by
  unfold oE Fq
  by_cases h:0<=fb l (cj (bw l i).bD d)
  ·rw[if_pos h]
   simp only[List.flatMap_cons,List.flatMap_nil,List.append_nil,Cc]
   by_cases h2:0<iL s (bw l i).ck d (bw l (fb l (cj (bw l i).bD d)).toNat).ck
   ·rw[if_pos ⟨h,h2⟩,if_pos h2]
   ·rw[if_neg fun hc=>h2 hc.2,if_neg h2]
  ·rw[if_neg h,if_neg fun hc=>h hc.1];rfl
 unfold dI iU mV
 rw[List.flatMap_assoc]
 congr 1
 funext i
 unfold iy ml
 rw[List.flatMap_assoc]
 congr 1
 funext j
 exact h1 i _
section
variable {F:Fence} {n:Nat} {P:Program} {ops:Array Oper} {Q:Exit->Act->World->Prop} {rest:List Oper} {a:Act} {w:World} {o:Oper}
theorem HP (hg:o.guard=none) (m:Operand) (t:TypeId) (eS:o.op=Op.range t m) {v:Value} {w':World} (gm:(Instr.range t (a.eval m)).run P w=.ok v w') (h:wpListIn F n P ops Q rest (a.put o.dst v) w'):wpListIn F n P ops Q (o::rest) a w:=by
 refine wpListIn_plain hg fun K' YE=>?_
 unfold Oper.wpIn
 refine⟨by simp[Oper.about,eS],?_⟩
 rw[Oper.semAt_plain F _ _ (by rw[eS];intro c lN;cases lN)]
 simp[execOp,eS,gm,Result.andThen]
 exact YE _ _ h
theorem KP (hg:o.guard=none) (it:Operand) (eS:o.op=Op.next it false) (rr b clock:Nat) (seen:Array Nat) (es:Array MapEntry) (K5:a.eval it=.pointer (some ⟨rr,0,none⟩)) (hr:w.heap[rr]? =some (.mapIter (some b) clock seen clock)) (hb:w.heap[b]? =some (.map es clock)) (eA:H3 es clock)
  (Wx:(leftOf es seen).toList=[]->wpListIn F n P ops Q rest (a.put o.dst (.tuple #[.bool false])) w)
  (WC:∀e∈(leftOf es seen).toList,∀w',w'.heap[rr]? =some (.mapIter (some b) clock (seen.push e.born) clock)->w'.heap[b]? =some (.map es clock)->w.grownBy w' (some rr)->w'.heap.size=w.heap.size->(Instr.entry (.pointer (some ⟨rr,0,none⟩))).run P w'=.ok (.tuple #[e.key,e.val]) w'->wpListIn F n P ops Q rest (a.put o.dst (.tuple #[.bool true,e.key,e.val])) w'):
  wpListIn F n P ops Q (o::rest) a w:=by
 refine wpListIn_plain hg fun K' YE=>?_
 unfold Oper.wpIn
 refine⟨by simp[Oper.about,eS],?_⟩
 rw[Oper.semAt_plain F _ _ (by rw[eS];intro c lN;cases lN)]
 rcases run_next_at (P:=P) w o.type rr b clock clock seen es clock hr hb eA.1 (Nat.le_refl _)with⟨h0,gm⟩|⟨e,he,w1,oP,gm⟩
 ·simp[execOp,eS,K5,gm,Result.andThen]
  exact YE _ _ (Wx (List.eq_nil_of_length_eq_zero (by simpa using h0)))
 ·have Tg:w1.heap[rr]? =some (.mapIter (some b) clock seen clock):=by rcases oP with rfl|rfl<;>exact hr
  have fx:=MapKept.heap_set (o':=.mapIter (some b) clock (seen.push e.born) clock) Tg
  obtain⟨w2,tk⟩:∃w2,ChangeMaps.setBlock w1 rr (.mapIter (some b) clock (seen.push e.born) clock)=w2:=⟨_,rfl⟩
  have ho:∀k,k≠rr->w2.heap[k]? =w.heap[k]? :=fun k hk=>by
   rw[<-tk]
   refine(fx.2 k hk).trans ?_
   rcases oP with rfl|rfl<;>rfl
  have hz:w2.heap.size=w.heap.size:=by
   rw[<-tk]
   rcases oP with rfl|rfl<;>simp[ChangeMaps.setBlock]
  have F6:w2.heap[rr]? =some (.mapIter (some b) clock (seen.push e.born) clock):=by rw[<-tk];exact fx.1
  have xI:w2.os=w.os/\w2.tape=w.tape/\w2.output=w.output:=by
   rw[<-tk]
   rcases oP with rfl|rfl<;>exact⟨rfl,rfl,rfl⟩
  have hbr:b≠rr:=fun e=>by subst e;rw[hr]at hb;cases hb
  have Cs:w2.heap[b]? =some (.map es clock):=(ho b hbr).trans hb
  have Rg:=run_entry_at (P:=P) w2 rr b clock seen es clock e F6 Cs (mem_left he).1 eA.2
  rw[tk]at gm
  simp[execOp,eS,K5,gm,Result.andThen]
  exact YE _ _ (WC e he w2 F6 Cs ⟨xI.1,xI.2.1,xI.2.2,ah,fun k _ hk=>ho k fun e=>hk (by rw[e])⟩ hz Rg)
end
def ud (p:aq):Value:=.agg #[.int .i64 p.fC,.int .i64 p.fu]
def Hi (es:Array MapEntry) (rr:Nat) (w:World):Nat:=match w.heap[rr]? with
 |some (.mapIter _ _ seen _)=>(leftOf es seen).size
 |_=>0
theorem Bu {es:Array MapEntry} {rr b clock:Nat} {seen:Array Nat} {w:World} (h:w.heap[rr]? =some (.mapIter (some b) clock seen clock)):Hi es rr w=(leftOf es seen).size:=by unfold Hi;rw[h]
theorem Kg {es:Array MapEntry} {clock:Nat} {seen:Array Nat} {e:MapEntry} (hs:H3 es clock) (he:e∈(leftOf es seen).toList):((e.key::(leftOf es (seen.push e.born)).toList.map (·.key)).Perm ((leftOf es seen).toList.map (·.key)))/\(leftOf es (seen.push e.born)).size+1=(leftOf es seen).size:=by
 obtain⟨i,hi,G1⟩:=List.getElem_of_mem he
 have h2:=zd hs (i:=i) (e:=e) (seen:=seen) (by rw[List.getElem?_eq_getElem hi,G1])
 have hp:=tE (l:=(leftOf es seen).toList) (i:=i) (x:=e) (by rw[List.getElem?_eq_getElem hi,G1])
 rw[h2]
 refine⟨by simpa using hp.map fun e:MapEntry=>e.key,?_⟩
 have h3:=congrArg List.length h2
 have h4:=hp.length_eq
 simp only[Array.length_toList,List.length_cons]at h3 h4
 rw[<-h3]at h4;exact h4
theorem Jy {a b:List aq} (h:(a.map ud).Perm (b.map ud)):a.Perm b:=by
 have h2:=h.map (fun v:Value=>match v with| .agg ⟨[.int _ x,.int _ y]⟩=>(⟨x,y⟩:aq)|_=>⟨0,0⟩)
 simpa[List.map_map,Function.comp_def,ud]using h2
theorem Mu (q Bm b:Nat) (es:Array MapEntry) (clock:Nat) (eA:H3 es clock) (ks:List aq) (hk:es.toList.map (·.key)=ks.map ud) (J Jx:List aq->World->Prop) (n:Nat) (hn:1<=n)
  (hY:∀pre x W,J pre W->pre.length<ks.length->YieldAt Fence.wide (n-1) Tryz.prog q #[ud x] W fun e W'=>
   (e=.returned (.bool true)/\J (pre++[x]) W'/\KeepsWalks W W')∨(e=.returned (.bool false)/\Jx (pre++[x]) W'))
  (W:World) (hJ:AbidesFrom W.heap.size J) (hm:W.cell? ⟨Bm,0,none⟩=some (.map (some b))) (hb:W.heap[b]? =some (.map es clock)) (h0:J [] W):
  CallsIn Fence.wide n Tryz.prog 109 #[.func (.yield q) #[] #[],.pointer (some ⟨Bm,0,none⟩)] W fun e W'=>(∃v,e=.returned v)/\
   ((∃ss:List aq,ss.Perm ks/\J ss W')∨(∃pre,Jx pre W')):=by
 refine callsIn_of_wp Tryz.func109 rfl trivial ?_ rfl
 simp only[Tryz.ntmps109,List.size_toArray,List.length_cons,List.length_nil,Nat.reduceAdd,Nat.reduceSub,Array.replicate_succ,Array.replicate_zero,List.push_toArray,List.append_toArray,List.nil_append,List.cons_append]
 have hrg:=fun(wx:World) (h:wx.heap[b]? =some (.map es clock))=>run_range_map (P:=Tryz.prog) wx 121 _ _ b es clock Tryz.underlying121 h
 gi_wp2_with (first
  |(refine HP rfl _ _ rfl (hrg _ hb) ?_)
  |gi_in)
 have iD:b<W.heap.size:=(Array.getElem?_eq_some_iff.1 hb).1
 have hJ1:J [] (W.alloc (.mapIter (some b) clock #[] clock)):=hJ _ _ _ none h0 (grown_of ((Below.refl _ W).alloc (Nat.le_refl _) _)) (fun r h=>by cases h)
 have Tg:(W.alloc (.mapIter (some b) clock #[] clock)).heap[W.heap.size]? =some (.mapIter (some b) clock #[] clock):=World.alloc_heap_new _ _
 have KZ:(W.alloc (.mapIter (some b) clock #[] clock)).heap[b]? =some (.map es clock):=(Below.heap_alloc _ _ _ iD).trans hb
 go_frame
 gi_loopw [3] (fun _ wr=>∃(seen:Array Nat) (ss:List aq),wr.heap[W.heap.size]? =some (.mapIter (some b) clock seen clock)/\wr.heap[b]? =some (.map es clock)/\(ss.map ud++(leftOf es seen).toList.map (·.key)).Perm (ks.map ud)/\J ss wr)
  (fun _ wr=>Hi es W.heap.size wr)
 case atStart=>
  exact⟨#[],[],Tg,KZ,by rw[<-hk,show(leftOf es #[]).toList=es.toList by simp[leftOf]];exact List.Perm.refl _,hJ1⟩
 case round=>
  obtain⟨seen,ss,hr,hbr,hp,WA⟩:=hrel
  gi_wp2_with (first
   |(refine KP rfl _ rfl W.heap.size b clock seen es rfl hr hbr eA ?_ ?_)
   |gi_in)
  ·intro Mc
   gi_wp2
   go_end0
   rw[Mc]at hp
   exact⟨⟨_,rfl⟩,.inl ⟨ss,Jy (by simpa using hp),WA⟩⟩
  ·intro e he0 w2 F6 Cs W8 qJ Rg
   have he:e∈(leftOf es seen).toList:=by simpa using he0
   obtain⟨EI,eW⟩:=Kg eA he
   obtain⟨x,hx⟩:∃x,e.key=ud x:=by
    have h1:e.key∈es.toList.map (·.key):=List.mem_map_of_mem (mem_left he).1
    rw[hk]at h1
    obtain⟨x,_,hx⟩:=List.mem_map.1 h1
    exact⟨x,hx.symm⟩
   have hJ2:J ss w2:=hJ ss wr w2 (some W.heap.size) WA W8 (fun r e=>by cases e;exact⟨Nat.le_refl _,_,hr,rfl⟩)
   have hlen:ss.length<ks.length:=by
    have h1:=hp.length_eq
    have h2:0<(leftOf es seen).toList.length:=List.length_pos_of_mem he
    simp only[List.length_append,List.length_map]at h1
    omega
   obtain⟨fn,tmps,assign,body,hy,hR⟩:=hY ss x (w2.alloc (.cells #[.int .i64 x.fC,.int .i64 x.fu] 50)) (hJ _ _ _ none hJ2 (grown_of ((Below.refl _ w2).alloc (Nat.le_refl _) _)) (fun r h=>by cases h)) hlen
   rw[hx]at Rg ⊢
   simp only[ud]at Rg hy ⊢
   gi_wp2
   refine hR.mono ?_
   rintro e3 W3 (⟨rfl,hJ3,Ds⟩|⟨rfl,hJx3⟩)
   ·gi_wp2
    have Oj:=KeepsWalks.alloc w2 (.cells #[.int .i64 x.fC,.int .i64 x.fu] 50)
    have hr3:=Ds.same _ _ (Oj.same _ _ F6 rfl) rfl
    have hb3:=Ds.same _ _ (Oj.same _ _ Cs rfl) rfl
    go_roundw
    case rel=>
     refine⟨_,ss++[x],hr3,hb3,?_,hJ3⟩
     rw[List.map_append,List.append_assoc]
     refine List.Perm.trans ?_ hp
     rw[hx]at EI
     exact EI.append_left _
    case measure=>rw[Bu hr3,Bu hr];omega
   ·gi_wp2
    refine bodyPost_ret (results_none rfl _ _ _) rfl ?_
    exact⟨⟨_,rfl⟩,.inr ⟨_,hJx3⟩⟩
theorem Hd (Bm b:Nat) (es:Array MapEntry) (clock:Nat) (eA:H3 es clock) (ks:List aq) (hk:es.toList.map (·.key)=ks.map ud) (n:Nat) (hn:1<=n) (w:World) (Z4:Bm<w.heap.size) (hm:w.cell? ⟨Bm,0,none⟩=some (.map (some b))) (hb:w.heap[b]? =some (.map es clock)):
  SeqStopsK Fence.wide n Tryz.prog 109 #[.pointer (some ⟨Bm,0,none⟩)] (fun x:aq=> #[ud x]) KeepsWalks (fun ss=>ss.Perm ks) (fun _=>True) ks.length w:=fun q J Jx W hW hJ _ hY h0=>by
 refine(Mu q Bm b es clock eA ks hk J Jx n hn hY W hJ ((hW.cell (p:=⟨Bm,0,none⟩) Z4).trans hm) ((hW.block b (Array.getElem?_eq_some_iff.1 hb).1).trans hb) h0).mono ?_
 rintro e W' ⟨h1,⟨ss,h2,h3⟩|⟨pre,h3⟩⟩
 ·exact⟨h1,.inl ⟨ss,h2,h3⟩⟩
 ·exact⟨h1,.inr ⟨pre,trivial,h3⟩⟩
def RA (ps:List aq):List Value:=ps.flatMap fun p=>[.int .i64 p.fC,.int .i64 p.fu]
theorem M8 (ps:List aq) (p:aq):RA (ps++[p])=RA ps++[.int .i64 p.fC,.int .i64 p.fu]:=by simp[RA]
theorem Qi {ps:List aq} {i j:Nat} {p:aq} (h:ps[i]? =some p) (hj:j<2):(RA ps)[i*2+j]? =([.int .i64 p.fC,.int .i64 p.fu]:List Value)[j]? :=by
 induction ps generalizing i with
 |nil=>simp at h
 |cons q r ih=>
  cases i with
  |zero=>
   simp at h;subst h
   match j,hj with
   |0,_=>rfl
   |1,_=>rfl
  |succ i=>
   simp only[List.getElem?_cons_succ]at h
   have:=ih h
   have e:(i+1)*2+j=i*2+j+2:=ah
   rw[e]
   simpa[RA]using this
theorem cell_two_new (W:World) (T:TypeId) (x y:Value):∀(j:Nat) (u:Value),[x,y][j]? =some u->(W.alloc (.cells #[x,y] T)).cell? ((⟨W.heap.size,0,none⟩:Addr).add j)=some u:=fun j u h=>by
 have hb:(W.alloc (.cells #[x,y] T)).heap[W.heap.size]? =some (.cells #[x,y] T (0,0)):=World.alloc_heap_new _ _
 have e:∀k,(W.alloc (.cells #[x,y] T)).cell? ⟨W.heap.size,k,none⟩=(#[x,y]:Array Value)[k]? :=fun k=>by
  unfold World.cell?
  rw[show(W.alloc (.cells #[x,y] T)).heap[(⟨W.heap.size,k,none⟩:Addr).block]? = _ from hb]
  rfl
 rw[show(⟨W.heap.size,0,none⟩:Addr).add j=⟨W.heap.size,j,none⟩ by simp[Addr.add];exact fun h=>h.symm,e]
 simpa using h
theorem Tq:(Tryz.prog.info? 50).map (fun i=>(i.zero,i.size,i.bytes))=some (some (.agg #[.int .i64 0,.int .i64 0]),2,16):=by kernel_rfl
theorem JM {β:Type} (B:Nat) (c:Array Value) (t:TypeId) (fr:Nat×Nat):Own (fun(_:β) W=>W.heap[B]? =some (.cells c t fr)):=fun _ X _ row h hg hr=>(hg.block B (Array.getElem?_eq_some_iff.1 h).1 (fun e=>by
 obtain⟨o,ho,hc⟩:=hr B e.symm
 rw[h]at ho;cases ho;cases hc)).trans h
theorem B8 (Bm b:Nat) (es:Array MapEntry) (clock:Nat) (eA:H3 es clock) (ks:List aq) (hk:es.toList.map (·.key)=ks.map ud) (hl:ks.length<=1000000) (w:World) (Z4:Bm<w.heap.size) (hm:w.cell? ⟨Bm,0,none⟩=some (.map (some b))) (hb:w.heap[b]? =some (.map es clock)):
  CallsIn Fence.wide 5 Tryz.prog 136 #[.slice none 0 0,.func (.func 109) #[] #[.pointer (some ⟨Bm,0,none⟩)]] w fun e W'=>∃(ss:List aq) (v:Value),ss.Perm ks/\e=.returned v/\W'.ownsRow w.heap.size 50 2 v ss.length (RA ss)/\(v=.slice none 0 0↔ss=[])/\Below w.heap.size w W':=by
 obtain⟨i0,hi,Dx,Bg,qJ⟩:=info_parts Tq
 refine callsIn_of_wp_marks Tryz.func136 rfl trivial ?_ rfl
 simp only[Tryz.ntmps136,List.size_toArray,List.length_cons,List.length_nil,Nat.reduceAdd,Nat.reduceSub,Array.replicate_succ,Array.replicate_zero,List.push_toArray,List.append_toArray,List.nil_append,List.cons_append]
 gi_wp2
 have bO:=Boxed.new w 125 (.slice none 0 0)
 have zX:Below w.heap.size w (w.alloc (.cells #[.slice none 0 0] 125)):=(Below.refl _ w).alloc (Nat.le_refl _) _
 have eQ:(w.alloc (.cells #[.slice none 0 0] 125)).heap.size=w.heap.size+1:=by simp
 obtain⟨W0,WI⟩:∃W0,w.alloc (.cells #[.slice none 0 0] 125)=W0:=⟨_,rfl⟩
 rw[WI]at bO zX eQ ⊢
 clear WI
 have Xh:W0.cell? ⟨Bm,0,none⟩=some (.map (some b)):=(zX.cell (p:=⟨Bm,0,none⟩) Z4).trans hm
 have yS:=(zX.block b (Array.getElem?_eq_some_iff.1 hb).1).trans hb
 refine wpIn_rangeFunc_ownH (n:=5) rfl ah (gf:=109) (lb:= #[.pointer (some ⟨Bm,0,none⟩)]) rfl trivial (enters_of Tryz.func109 (by kernel_rfl) rfl)
  (Hd Bm b es clock eA ks hk (5-1) ah W0 ah Xh yS) walksK_t (walksK_b (w:=W0)) (Below.refl _ _) (fun _=>rfl)
  (fun pre W=>(∃v,Boxed W w.heap.size 125 v/\W.ownsRow w.heap.size 50 2 v pre.length (RA pre)/\(v=.slice none 0 0↔pre=[]))/\Below w.heap.size w W)
  (fun _ _ _=>False)
  (OwnFrom.and (Own.from (holdsRow_own w.heap.size w.heap.size 125 50 2 (fun pre=>pre.length) (fun pre=>RA pre) (fun pre v=>v=.slice none 0 0↔pre=[])) _) (ownFrom_below (Nat.le_refl _) ah))
  (fun _ _ _ _ _ hs _ _=>hs)
  ⟨⟨_,bO,World.ownsRow_nil _ _ _ _,by simp⟩,zX⟩
  (fun x a' W=>∃Bx,w.heap.size<Bx/\W.heap[Bx]? =some (.cells #[.int .i64 x.fC,.int .i64 x.fu] 50 (0,0))/\a'={tmps:= #[.slice none 0 0,.func (.func 109) #[] #[.pointer (some ⟨Bm,0,none⟩)],.pointer (some ⟨w.heap.size,0,none⟩),undef,.slice none 0 0,.pointer (some ⟨Bx,0,none⟩),.func (.func 109) #[] #[.pointer (some ⟨Bm,0,none⟩)],.agg #[.int .i64 x.fC,.int .i64 x.fu],undef,undef,undef,undef,undef],defers:=[]})
  (fun x a' _ X Y row hs hg hr=>by obtain⟨Bx,h1,h2,h3⟩:=hs;exact⟨Bx,h1,JM Bx _ _ _ () X Y row h2 hg (fun r e=>(hr r e).2),h3⟩)
  ?assign ?body ?done ?stop
 case assign=>
  rintro q pre x W K ⟨⟨v,hv,fy,hnil⟩,hB⟩ hK
  simp only[ud]
  gi_wp2
  exact hK _ _ ((KeepsOthers.alloc _ _).from _) (KeepsWalks.alloc _ _) ⟨⟨v,hv.alloc _,fy.alloc _,hnil⟩,hB.alloc hB.size _⟩ ⟨W.heap.size,hv.lt,World.alloc_heap_new _ _,rfl⟩
 case body=>
  rintro q pre x a' W hq hqr ⟨⟨v,hv,fy,hnil⟩,hB⟩ ⟨Bx,hBx,bX,rfl⟩ eW
  have hc:=hv.cell
  have ZR:W.cell? ⟨Bx,0,none⟩=some (.int .i64 x.fC):=by simp[World.cell?,bX]
  have ZS:W.cell? ⟨Bx,1,none⟩=some (.int .i64 x.fu):=by simp[World.cell?,bX]
  have Xj:=hB.size
  gi_wp2_with (gi_at_builtin;refine wpListIn_append_own _ rfl _ _ 125 rfl w.heap.size 50 i0 (.agg #[.int .i64 0,.int .i64 0]) 2 16 (by kernel_rfl) hi Dx Bg qJ rfl (by decide) _ _ _ rfl (fy.alloc _) ⟨W.heap.size,0,none⟩ 1 1 [.int .i64 x.fC,.int .i64 x.fu] rfl rfl (cell_two_new _ _ _ _) (by simp[Value.oneCell']) (by unfold maxLen;omega) ah (by simp;omega) ?_;intro v' w4 EH Bc _;obtain⟨g',ZT,rfl⟩:=ownsRow_succ EH;obtain⟨yY,PF,F6,sk,Cs⟩:=hv.appended (by decide) fy Xj ah EH Bc;have pI:=yY.cell;have YS:=yY.frozen)
  exact⟨sk.from _,⟨sk.size,fun k o hk hw=>sk.same k o hk (Obj.not_cells_of_walk hw)⟩,⟨⟨_,PF,by rw[M8,List.length_append];exact F6,by simp⟩,hB.trans Cs⟩⟩
 case done=>
  rintro D ys W hD Gb ⟨⟨v,hv,fy,hnil⟩,hB⟩ hK
  have hc:=hv.cell
  gi_wp2
  refine⟨by simp,.inl ⟨_,_,rfl,run_takeDeferred hK,?_⟩⟩
  exact⟨_,results_tmp rfl _ _ _,ys,v,Gb,rfl,ownsRow_putObj fy _ hK rfl,hnil,hB.trans (belowK_b (w:=w) (Nat.le_refl _) W D _ _ ah hK rfl rfl)⟩
 case stop=>
  rintro D c pre W _ _ h _
  exact h.elim
end Go.Proofs.YtiabgllilcfheaaGreat.V

namespace Go.Proofs.YtiabgllilcfheaaGreat.V
open Go.RowKit Go.Shelf Go.Lib Go.Sort
instance:Inhabited aq:=⟨⟨0,0⟩⟩
variable {P:Program} {w:World} {D:Nat->Prop} {ι:Names}
theorem zD {vs:Array Value} (h:fK P w D ι [] vs):vs= #[]:=Array.eq_empty_of_size_eq_zero h.1
theorem l6 {a:AV} {r:List AV} {vs:Array Value} (h:fK P w D ι (a::r) vs):∃u us,vs=(u::us).toArray/\dy P w D ι a u/\fK P w D ι r us.toArray:=by
 obtain⟨h1,h2⟩:=h
 obtain⟨l⟩:=vs
 cases l with
 |nil=>simp at h1
 |cons u us=>
  obtain⟨u',hu,hr⟩:=h2 0 a rfl
  simp at hu;subst hu
  exact⟨u,us,rfl,hr,by simpa using h1,fun j b hj=>by
   obtain⟨v,hv,mN⟩:=h2 (j+1) b (by simpa using hj)
   exact⟨v,by simpa using hv,mN⟩⟩
def Q0:Prop:=∀(xR off cap:Nat) (d:Array aq) (w:World),HoldsK gW 2 w xR off d->xR<w.heap.size->d.size<4611686018427387904->
 Calls Tryz.prog 108 #[.slice (some ⟨xR,off,none⟩) d.size cap,.func (.func 84) #[] #[]] w fun e w'=>e=.returned (.tuple #[])/\∃d' n os,PermIn 0 d.size d d'/\SortedIn (ltOf sf) 0 d.size d'/\w'=sortWorldK gW 2 w xR off n d' os
def Q1:Prop:=∀(p:Option Addr) (cap:Nat) (fv:Value) (w:World),Calls Tryz.prog 108 #[.slice p 0 cap,fv] w fun e w'=>e=.returned (.tuple #[])/\w'=w
theorem O5 (p:aq) (j:Nat) (a:AV) (h:(ae p)[j]? =some a) (P:Program) (w:World) (D:Nat->Prop) (ι:Names):dy P w D ι a (gW p)[j]! :=by
 match j,h with
 |0,h=>simp[ae]at h;subst h;exact .fF _ _ (.int _ _)
 |1,h=>simp[ae]at h;subst h;exact .fF _ _ (.int _ _)
 |j+2,h=>simp[ae]at h
theorem KD (hC:Q0) (Z:Q1) (ps:List aq) (hlen:ps.length<=1048576) (σ:az) (id:Id) (hg:σ.get id=some ⟨true,2,ps.map ae⟩):
  Call Tryz.prog 108 [.own id 0 ps.length,.fn 84 []] σ fun r σ'=>σ'.next=σ.next/\(∀x,x≠id->σ'.get x=σ.get x)/\∃qs,σ'.get id=some ⟨true,2,qs.map ae⟩/\qs.length=ps.length/\(∀x,x∈qs↔x∈ps)/\∀i j:Nat,i<j->j<qs.length->jM (kz qs j) (kz qs i)=false:=by
 refine gG fun hs D ι w vs S U A=>?_
 obtain⟨u1,us1,rfl,h1,h2⟩:=l6 A
 obtain⟨u2,us2,h3,h4,h5⟩:=l6 h2
 simp at h3;subst h3
 have:=zD h5
 simp at this;subst this
 obtain⟨o,cap,B,rfl,hB,GU,ho,wc,hmax,hk⟩:=jj h1
 obtain⟨vs',gf,rfl,_,hz,_,_⟩:=zE h4
 have XF:vs'= #[]:=Array.eq_empty_of_size_eq_zero (by simpa using hz)
 subst XF
 by_cases h0:ps=[]
 ·subst h0
  refine(Z _ _ _ w).mono ?_
  rintro e w' ⟨rfl,rfl⟩
  exact⟨.gM [],σ.get,σ.next,D,ι,_,rfl,⟨rfl,fun _ _=>rfl,[],hg,rfl,fun x=>Iff.rfl,fun i j _ hj=>by simp at hj⟩,Step.refl _ _ _ _,S,U,Nat.le_refl _,.gM [] #[] (fun _=>Go.undef) rfl (fun j hj=>by simp at hj) (fun j a h=>by simp at h)⟩
 have kd:0<ps.length:=List.length_pos_iff.2 h0
 obtain⟨B',eH,R,kH,pU⟩:=S.row id _ hg
 rw[hB]at eH;injection eH with eH;subst eH
 replace R:=R.row hk
 have eQ:B.sz=2:=R.sz
 have F3:o=0:=by rcases ho with h|h<;>omega
 subst F3
 obtain⟨cur,T,hblk,eD,tf⟩:=R.cur
 have Ey:ps.length*2<=B.C:=by simpa using R.fits
 have hH:HoldsK gW 2 w B.b 0 ps.toArray:=by
  intro t ht
  rw[size_flatK]at ht
  have Xw:t<ps.length*2:=by simpa using ht
  have hi:t / 2<ps.length:=ah
  have K3:w.frozen? ⟨B.b,0+t,none⟩=false:=by
   simp only[World.frozen?,hblk];simp
  refine⟨?_,K3⟩
  rw[get_flatK _ _ _ _ ht]
  have hd:(ps.toArray)[t / 2]! =ps[t / 2]:=by simp[getElem!_pos,hi]
  rw[hd]
  have hj:t % 2=0∨t % 2=1:=ah
  have ht3:0+t=(t / 2)*2+t % 2:=ah
  rw[ht3]
  rcases hj with hj|hj
  ·obtain⟨v,hv,hr⟩:=R.at_ (t / 2) 0 (ae ps[t / 2]) _ (by simp[hi]) rfl
   rw[eB hr]at hv
   rw[hj];exact hv
  ·obtain⟨v,hv,hr⟩:=R.at_ (t / 2) 1 (ae ps[t / 2]) _ (by simp[hi]) rfl
   rw[eB hr]at hv
   rw[hj];exact hv
 have iD:B.b<w.heap.size:=(Array.getElem?_eq_some_iff.1 hblk).1
 have WT:=hC B.b 0 cap ps.toArray w hH iD (by simp;omega)
 rw[show ps.toArray.size=ps.length from by simp]at WT
 refine WT.mono ?_
 rintro e w' ⟨rfl,d',m,os,⟨Du,_,yX⟩,hsort,rfl⟩
 have Eu:d'.size=ps.length:=by rw[Du];simp
 have Pz:d'.toList.length=ps.length:=by simpa using Eu
 have hP:d'.toList.Perm ps:=by
  have e1:d'.extract 0 ps.length=d':=by rw[<-Eu];exact Array.extract_size
  have e2:ps.toArray.extract 0 ps.length=ps.toArray:=by
   have:ps.length=ps.toArray.size:=by simp
   rw[this];exact Array.extract_size
  rw[e1,e2]at yX
  simpa using yX
 have hF:∀t,t<ps.length*2->(flatK gW 2 d')[t]! =(gW d'[t / 2]!)[t % 2]! :=fun t ht=>get_flatK _ _ _ _ (by rw[Eu];exact ht)
 have hFs:(flatK gW 2 d').size=ps.length*2:=by rw[size_flatK,Eu]
 have hw:sortWorldK gW 2 w B.b 0 m d' os=Go.Sort.grow (Go.Sort.putRow (fun v:Value=>v) (Go.Sort.ahead w m) B.b 0 (flatK gW 2 d')) os:=rfl
 rw[hw]
 clear hw hH
 generalize flatK gW 2 d'=Fl at hF hFs ⊢
 have uy:=S.put (r':=⟨true,2,d'.toList.map ae⟩) (cur':=Go.Sort.putCells (fun v:Value=>v) 0 Fl cur) hg rfl hB hblk (by simp[Go.Sort.putCells]) rfl rfl (by simpa[Eu]using Ey) (fun cs eD=>by
   obtain⟨x,_,rfl⟩:=List.mem_map.1 eD;rfl) (fun cs eD a ha=>by
   obtain⟨x,_,rfl⟩:=List.mem_map.1 eD
   simp[ae]at ha;rcases ha with rfl|rfl<;>rfl) (fun i j cs a hi hj=>by
   have xY:i<d'.toList.length:=by
    have:=(List.getElem?_eq_some_iff.1 hi).1
    simpa using this
   have VB:j<2:=by
    have:=List.mem_of_getElem? hi
    obtain⟨x,_,rfl⟩:=List.mem_map.1 this
    exact(List.getElem?_eq_some_iff.1 hj).1
   have hcs2:cs=ae d'[i]! :=by
    rw[List.getElem?_map,List.getElem?_eq_getElem xY]at hi
    simp at hi
    rw[<-hi,getElem!_pos d' i (by simpa using xY)]
   subst hcs2
   have F8:i*2+j<ps.length*2:=ah
   refine⟨(gW d'[i]!)[j]!,?_,O5 _ _ _ hj _ _ _ _⟩
   have oK:i*2+j<cur.size:=by rw[eD];omega
   show(Go.Sort.putCells (fun v:Value=>v) 0 Fl cur)[i*2+j]? = _
   simp only[Go.Sort.putCells,Array.getElem?_mapIdx,Array.getElem?_eq_getElem oK,Option.map_some]
   rw[if_pos ⟨Nat.zero_le _,by rw[hFs];omega⟩,Nat.sub_zero,hF _ F8,show(i*2+j) / 2=i from by omega,show(i*2+j) % 2=j from by omega])
 obtain⟨S1,vI⟩:=uy
 have iG:(Go.Sort.putRow (fun v:Value=>v) (Go.Sort.ahead w m) B.b 0 Fl).heap.size=w.heap.size:=by simp
 have Rl:∀k,k<(w.setRow B.b (Go.Sort.putCells (fun v:Value=>v) 0 Fl cur)).heap.size->(Go.Sort.grow (Go.Sort.putRow (fun v:Value=>v) (Go.Sort.ahead w m) B.b 0 Fl) os).heap[k]? =(w.setRow B.b (Go.Sort.putCells (fun v:Value=>v) 0 Fl cur)).heap[k]? :=fun k hk=>by
  have Iu:k<w.heap.size:=by simpa using hk
  rw[heap_grow_old _ _ (by rw[iG];exact Iu)]
  simp only[Go.Sort.putRow,Go.Sort.mapBlock,heap_ahead,Array.getElem?_modify]
  by_cases Ov:B.b=k
  ·subst Ov
   rw[setRow_heap w B.b cur _ T _ hblk,if_pos rfl,hblk];rfl
  ·rw[if_neg Ov,setRow_other w B.b k _ (fun h=>Ov h.symm)]
 have qJ:(w.setRow B.b (Go.Sort.putCells (fun v:Value=>v) 0 Fl cur)).heap.size<=(Go.Sort.grow (Go.Sort.putRow (fun v:Value=>v) (Go.Sort.ahead w m) B.b 0 Fl) os).heap.size:=by
  rw[size_grow,iG];simp
 have S2:=S1.stay (D':=D) (ι':=ι) Rl qJ (fun _ h=>h) (fun b hb=>Nat.lt_of_lt_of_le (S1.dead b hb) qJ) (fun _ h=>.inl h) (fun _ _ h=>h)
 have RU:=vI.trans (Step.stay (D':=D) (ι':=ι) S1 Rl qJ (by simp[Go.Sort.grow,Go.Sort.putRow,Go.Sort.mapBlock,Go.Sort.ahead]) (by simp[Go.Sort.grow,Go.Sort.putRow,Go.Sort.mapBlock,Go.Sort.ahead]) (by simp[Go.Sort.grow,Go.Sort.putRow,Go.Sort.mapBlock,Go.Sort.ahead]) (fun _ h=>h) (fun _ h=>.inl h) (fun _ _ h=>h))
 refine⟨.gM [],bL σ.get id ⟨true,2,d'.toList.map ae⟩,σ.next,D,ι,_,rfl,⟨rfl,fun x hx=>by simp[bL,hx],d'.toList,by simp[bL],Pz,fun x=>hP.mem_iff,fun i j EA hj=>?_⟩,RU,S2,U,Nat.le_refl _,.gM [] #[] (fun _=>Go.undef) rfl (fun j hj=>by simp at hj) (fun j a h=>by simp at h)⟩
 have h:=hsort i j (Nat.zero_le _) EA ah
 rw[ltOf,oF]at h
 have e1:d'[j]! =kz d'.toList j:=by rw[kV hj,getElem!_pos d' j (by simpa using hj)];rfl
 have hi:i<d'.toList.length:=ah
 have e2:d'[i]! =kz d'.toList i:=by rw[kV hi,getElem!_pos d' i (by simpa using hi)];rfl
 rw[<-e1,<-e2];exact h
end Go.Proofs.YtiabgllilcfheaaGreat.V

namespace Go.Proofs
open Go.Shelf
def Tryz.HE:Go.Shelf.Ren:=⟨fun|6=>108|15=>138|14=>137|28=>160|29=>161|20=>152|21=>153|22=>154|23=>155|24=>156|25=>157|26=>158|27=>159|46=>180|47=>181|48=>182|49=>183|50=>184|57=>193|n=>n,fun|22=>125|24=>50|25=>130|3=>3|39=>144|0=>0|53=>203|55=>93|4=>4|46=>197|45=>196|50=>108|5=>5|9=>9|66=>225|70=>229|76=>244|77=>245|n=>n,fun|n=>n⟩
theorem Tryz.Nv:Go.Proofs.SlLaysF0.n6 Tryz.prog Tryz.HE:={
 mixed:=by kernel_rfl
 f6:=⟨Tryz.f108.name,by decide,Tryz.func108.trans (congrArg some (by kernel_rfl))⟩
 f14:=⟨Tryz.f137.name,by decide,Tryz.func137.trans (congrArg some (by kernel_rfl))⟩
 f15:=Tryz.func138.trans (congrArg some (by kernel_rfl))
 f20:=⟨Tryz.f152.name,by decide,Tryz.func152.trans (congrArg some (by kernel_rfl))⟩
 f21:=⟨Tryz.f153.name,by decide,Tryz.func153.trans (congrArg some (by kernel_rfl))⟩
 f22:=⟨Tryz.f154.name,by decide,Tryz.func154.trans (congrArg some (by kernel_rfl))⟩
 f23:=⟨Tryz.f155.name,by decide,Tryz.func155.trans (congrArg some (by kernel_rfl))⟩
 f24:=⟨Tryz.f156.name,by decide,Tryz.func156.trans (congrArg some (by kernel_rfl))⟩
 f25:=⟨Tryz.f157.name,by decide,Tryz.func157.trans (congrArg some (by kernel_rfl))⟩
 f26:=⟨Tryz.f158.name,by decide,Tryz.func158.trans (congrArg some (by kernel_rfl))⟩
 f27:=⟨Tryz.f159.name,by decide,Tryz.func159.trans (congrArg some (by kernel_rfl))⟩
 f28:=Tryz.func160.trans (congrArg some (by kernel_rfl))
 f29:=Tryz.func161.trans (congrArg some (by kernel_rfl))
 f46:=⟨Tryz.f180.name,by decide,Tryz.func180.trans (congrArg some (by kernel_rfl))⟩
 f47:=Tryz.func181.trans (congrArg some (by kernel_rfl))
 f48:=Tryz.func182.trans (congrArg some (by kernel_rfl))
 f49:=⟨Tryz.f183.name,by decide,Tryz.func183.trans (congrArg some (by kernel_rfl))⟩
 f50:=⟨Tryz.f184.name,by decide,Tryz.func184.trans (congrArg some (by kernel_rfl))⟩
 f57:=⟨Tryz.f193.name,by decide,Tryz.func193.trans (congrArg some (by kernel_rfl))⟩
 t0:=Tryz.underlying0
 a0:=Tryz.isAgg0
 z0:=Tryz.sizeOf0
 v0:=Tryz.zeroValue0
 t3:=Tryz.underlying3
 a3:=Tryz.isAgg3
 z3:=Tryz.sizeOf3
 v3:=Tryz.zeroValue3
 t4:=Tryz.underlying4
 a4:=Tryz.isAgg4
 z4:=Tryz.sizeOf4
 v4:=Tryz.zeroValue4
 t5:=Tryz.underlying5
 a5:=Tryz.isAgg5
 z5:=Tryz.sizeOf5
 v5:=Tryz.zeroValue5
 t9:=Tryz.underlying9
 a9:=Tryz.isAgg9
 z9:=Tryz.sizeOf9
 v9:=Tryz.zeroValue9
 t22:=Tryz.underlying125
 a22:=Tryz.isAgg125
 z22:=Tryz.sizeOf125
 v22:=Tryz.zeroValue125
 t25:=Tryz.underlying130
 a25:=Tryz.isAgg130
 z25:=Tryz.sizeOf130
 v25:=Tryz.zeroValue130
 t39:=Tryz.underlying144
 a39:=Tryz.isAgg144
 z39:=Tryz.sizeOf144
 v39:=Tryz.zeroValue144
 t45:=Tryz.underlying196
 a45:=Tryz.isAgg196
 z45:=Tryz.sizeOf196
 v45:=Tryz.zeroValue196
 t46:=Tryz.underlying197
 a46:=Tryz.isAgg197
 z46:=Tryz.sizeOf197
 v46:=Tryz.zeroValue197
 t50:=Tryz.underlying108
 a50:=Tryz.isAgg108
 z50:=Tryz.sizeOf108
 v50:=Tryz.zeroValue108
 t53:=Tryz.underlying203
 a53:=Tryz.isAgg203
 z53:=Tryz.sizeOf203
 v53:=Tryz.zeroValue203
 t55:=Tryz.underlying93
 a55:=Tryz.isAgg93
 z55:=Tryz.sizeOf93
 v55:=Tryz.zeroValue93
 t66:=Tryz.underlying225
 a66:=Tryz.isAgg225
 z66:=Tryz.sizeOf225
 v66:=Tryz.zeroValue225
 t70:=Tryz.underlying229
 a70:=Tryz.isAgg229
 z70:=Tryz.sizeOf229
 v70:=Tryz.zeroValue229
 t76:=Tryz.underlying244
 a76:=Tryz.isAgg244
 z76:=Tryz.sizeOf244
 v76:=Tryz.zeroValue244
 t77:=Tryz.underlying245
 a77:=Tryz.isAgg245
 z77:=Tryz.sizeOf245
 v77:=Tryz.zeroValue245}
end Go.Proofs

namespace Go.Proofs.YtiabgllilcfheaaGreat.V
open Go.RowKit Go.Shelf Go.Lib Go.Sort
theorem D8 (w:World) (a b:Int):Calls Tryz.prog 111 #[.int .i64 a,.int .i64 b] w fun e w'=>e=.returned (.int .i64 (ua a b))/\w=w':=by
 go_enter Tryz.func111,Tryz.ntmps111
 go_wp2_with go_in
 all_goals
  go_ret
  exact⟨IT (by unfold ua;split<;>(try split)<;>omega),rfl⟩
theorem Qc (w:World) (a b:Int) (g:Nat) (ha:w.cell? ⟨g,0,none⟩=some (.int .i64 a)) (hb:w.cell? ⟨g,1,none⟩=some (.int .i64 b)):Calls Tryz.prog 110 #[.slice (some ⟨g,0,none⟩) 2 2] w fun e w'=>e=.returned (.int .i64 (Qd a b))/\w=w':=by
 go_enter Tryz.func110,Tryz.ntmps110
 go_wp2_with fail
 go_loop [8] (fun i=>∃k:Nat,k<=2/\i=.int .i64 k/\Hid ((1<=k->a=0)/\(2<=k->b=0))) (fun i=>2-(intOf i).toNat)
 case atStart=>exact⟨0,ah,rfl,Lib.hid ⟨fun h=>ah,fun h=>ah⟩⟩
 case round=>
  obtain⟨k,hk,rfl,hz⟩:=hrel
  have h3:k=0∨k=1∨k=2:=ah
  rcases h3 with rfl|rfl|rfl
  ·go_wp2_with fail
   ·rename_i h
    go_ret
    exact⟨IT (by unfold Qd;simp_all),rfl⟩
   ·rename_i h
    go_round
    case rel=>exact⟨1,ah,rfl,Lib.hid ⟨fun _=>by simpa using h,fun h=>ah⟩⟩
    case measure=>simp[intOf]
  ·have h0:=hz.out.1 ah
   replace h0:=Lib.hid h0
   go_wp2_with fail
   ·go_ret
    exact⟨IT (by unfold Qd;rw[if_pos h0.out]),rfl⟩
   ·rename_i h
    go_round
    case rel=>exact⟨2,ah,rfl,Lib.hid ⟨fun _=>h0.out,fun _=>by simpa using h⟩⟩
    case measure=>simp[intOf]
  ·have h0:=Lib.hid (hz.out.1 ah)
   have h1:=Lib.hid (hz.out.2 ah)
   go_wp2_with fail
   go_ret
   exact⟨IT (by unfold Qd;rw[if_pos h0.out,h1.out]),rfl⟩
def Grown (w w':World):Prop:=∃(q:Nat) (os:Array Obj),w'=Go.Sort.grow (w.drewN q) os
theorem Grown.refl (w:World):Grown w w:=⟨0, #[],by rw[grow_empty];rfl⟩
theorem Grown.alloc {w w':World} (h:Grown w w') (o:Obj):Grown w (w'.alloc o):=by
 obtain⟨q,os,rfl⟩:=h
 exact⟨q,os++ #[o],by rw[alloc_eq_grow,grow_grow]⟩
theorem Grown.drew {w w':World} (h:Grown w w'):Grown w w'.drew:=by
 obtain⟨q,os,rfl⟩:=h
 exact⟨q+1,os,by rw[drew_grow];rfl⟩
theorem Grown.dN {w w':World} (h:Grown w w') (n:Nat):Grown w (w'.drewN n):=by
 obtain⟨q,os,rfl⟩:=h
 exact⟨q+n,os,by
  show Go.Sort.grow ((w.drewN q).drewN n) os=Go.Sort.grow (w.drewN (q+n)) os
  simp[World.drewN,Nat.add_assoc]⟩
theorem xC (w:World) (a b:aq):Calls Tryz.prog 84 #[.agg #[.int .i64 a.fC,.int .i64 a.fu],.agg #[.int .i64 b.fC,.int .i64 b.fu]] w fun e w'=>e=.returned (.int .i64 (sf a b))/\Grown w w':=by
 go_enter Tryz.func84,Tryz.ntmps84
 go_wp2_with fail
 go_region_held3 (fun w'=>w'.cell? ⟨w.heap.size,0,none⟩=some (.int .i64 a.fC)/\w'.cell? ⟨w.heap.size,1,none⟩=some (.int .i64 a.fu)/\
   w'.cell? ⟨w.heap.size+1,0,none⟩=some (.int .i64 b.fC)/\w'.cell? ⟨w.heap.size+1,1,none⟩=some (.int .i64 b.fu))
  (first|go_keep)
  (first|(go_at_call 111;refine(D8 _ _ _).mono ?_;rintro e w' ⟨rfl,rfl⟩)|(go_at_call 110;refine(Qc _ (ua a.fu b.fu) (ua a.fC b.fC) _ (by simp[go_sem]) (by simp[go_sem])).mono ?_;rintro e w' ⟨rfl,rfl⟩))
 go_wp2_with fail
 go_ret
 refine⟨rfl,?_⟩
 repeat(first|(with_reducible exact Grown.refl _)|(refine Grown.alloc ?_ _)|(refine Grown.drew ?_)|(refine Grown.dN ?_ _))
theorem swoP:SWO (ltOf sf) where
 irrefl x:=by rw[ltOf,oF];exact lW
 trans x y z h1 h2:=by rw[ltOf,oF]at *;exact jv h1 h2
 ntrans x y z h1 h2:=by rw[ltOf,oF]at *;rw[rH]at *;omega
theorem X2:Q0:=fun xR off cap d w hH hblk eQ=>by
 have eg:∀args w,(callFunc 84 args).run Tryz.prog w=.ok (.enter 84 args) w:=enters_of Tryz.func84 (by kernel_rfl) rfl
 have h:=AnyQ.slices_SortFunc Tryz.Nv 2 Tryz.isAgg50 Tryz.sizeOf50 gW (fun _=>rfl) (fun x v hv=>by simp[gW]at hv;rcases hv with rfl|rfl<;>rfl) sf swoP 84 #[] xR off cap d w eg (fun m os dk _ x y=>(xC _ x y).mono fun _ _ ⟨he,q,os',hw⟩=>⟨he,q,os',hw⟩) hH hblk eQ
 exact h
theorem RD:Q1:=fun p cap fv w=>AnyF.slices_SortFunc_none Tryz.Nv p cap fv w
end Go.Proofs.YtiabgllilcfheaaGreat.V

namespace Go.Proofs.YtiabgllilcfheaaGreat.V
open Go.RowKit
attribute [local irreducible] eC wpOps gi Call
attribute [local go_sem] aM fP fa fX fW du upd cz K.av cP AV.cells AV.cell rowOf rowsOf part ld rowAt bL cu dK eb gK bP de eu fS fq dx ef db da dR dS bU bf cU bR cW cV dW eh ee cR bW dd ec bQ aL cY cH gJ bF cL bV aY dr bq dL AV.undef bJ bK dV dY dQ dU cK er ez cF ej ei cX cZ List.getD_cons_zero List.getD_cons_succ List.getD_nil List.all_cons List.all_nil Bool.and_true Bool.true_and Bool.and_self Bool.not_true Bool.not_false Option.map_some Option.map_none Option.bind_some Option.bind_none List.length_cons List.length_nil List.take_succ_cons List.take_zero List.take_nil List.drop_succ_cons List.drop_zero List.drop_nil List.head?_cons List.map_cons List.map_nil List.getElem?_cons_zero List.getElem?_cons_succ List.cons_append List.nil_append List.append_nil List.length_map List.set_cons_zero List.set_cons_succ Nat.reduceMul eq_self Int.toNat_natCast Int.natCast_nonneg and_self true_and and_true decide_true decide_false Bool.false_eq_true Nat.zero_add Nat.add_zero List.contains_cons List.contains_nil Bool.or_false Bool.false_or beq_self_eq_true Nat.reduceBEq ne_eq not_true_eq_false not_false_eq_true Id.mk.injEq false_and and_false Nat.reduceLT Int.reduceLE Int.reduceLT Int.reduceToNat Int.reduceNeg Int.reduceAdd Nat.le_refl List.length_append beq_true beq_false Bool.not_eq_eq_eq_not or_false false_or eL ar ax aW bp bZ cw aV bH aU bh cQ bI
structure pr (n:Nat) (px:Nat->Option Nat) (L:Nat->Nat):Prop where
 top:∀k,k<n->px k=none->L k=k
 up:∀k j,k<n->px k=some j->j<k/\L j=L k
theorem pr.root {n:Nat} {px:Nat->Option Nat} {L:Nat->Nat} (h:pr n px L) (hL:kE L) {k:Nat} (hk:k<n) (hr:L k=k):px k=none:=by
 rcases hp:px k with _|j
 ·rfl
 ·obtain⟨h1,h2⟩:=h.up k j hk hp
  have:=hL.le j
  omega
theorem pr.start (n:Nat):pr n (fun _=>none) id:=⟨fun _ _ _=>rfl,fun _ _ _ h=>by cases h⟩
theorem pr.join {n:Nat} {px:Nat->Option Nat} {L:Nat->Nat} (h:pr n px L) (hL:kE L) (b:PB) (eW:min (L b.a) (L b.b)<max (L b.a) (L b.b)):pr n (fun k=>if k=max (L b.a) (L b.b)then some (min (L b.a) (L b.b))else px k) (fH L b):=by
 have ha:=hL.idem b.a
 have hb:=hL.idem b.b
 have Cx:L (min (L b.a) (L b.b))=min (L b.a) (L b.b):=by
  rcases Nat.le_total (L b.a) (L b.b)with h|h
  ·rw[Nat.min_eq_left h,ha]
  ·rw[Nat.min_eq_right h,hb]
 have VF:L (max (L b.a) (L b.b))=max (L b.a) (L b.b):=by
  rcases Nat.le_total (L b.a) (L b.b)with h|h
  ·rw[Nat.max_eq_right h,hb]
  ·rw[Nat.max_eq_left h,ha]
 unfold fH
 generalize min (L b.a) (L b.b)=lo at *
 generalize max (L b.a) (L b.b)=hi at *
 refine⟨fun k hk hp=>?_,fun k j hk hp=>?_⟩
 ·by_cases Ow:k=hi
  ·rw[if_pos Ow]at hp;cases hp
  ·rw[if_neg Ow]at hp
   have:=h.top k hk hp
   rw[if_neg ah];exact this
 ·by_cases Ow:k=hi
  ·rw[if_pos Ow]at hp
   cases hp
   subst Ow
   exact⟨eW,by rw[if_neg ah,if_pos VF,Cx]⟩
  ·rw[if_neg Ow]at hp
   obtain⟨h1,h2⟩:=h.up k j hk hp
   exact⟨h1,by rw[h2]⟩
theorem CH {L:Nat->Nat} {b:PB} (h:L b.a=L b.b):fH L b=L:=by
 funext k
 unfold fH
 rw[h,Nat.max_self,Nat.min_self]
 split
 ·rename_i h;exact h.symm
 ·rfl
def v7 (G:Nat->Id) (px:Nat->Option Nat) (k:Nat):List AV:=[match px k with|none=>.iX|some j=>.ptr (G j) 0 0,.int .i64 (k:Int)]
def xt (g:Rows) (G:Nat->Id) (n:Nat) (px:Nat->Option Nat):Prop:=∀k,k<n->g (G k)=some ⟨true,2,[v7 G px k]⟩
theorem xt.frame {g g':Rows} {G:Nat->Id} {n:Nat} {px:Nat->Option Nat} (h:xt g G n px) (hf:∀k,k<n->g' (G k)=g (G k)):xt g' G n px:=fun k hk=>(hf k hk).trans (h k hk)
theorem nj {G:Nat->Id} {px:Nat->Option Nat} {k:Nat} (h:px k=none):v7 G px k=[.iX,.int .i64 (k:Int)]:=by rw[v7,h]
theorem w5 {G:Nat->Id} {px:Nat->Option Nat} {k j:Nat} (h:px k=some j):v7 G px k=[.ptr (G j) 0 0,.int .i64 (k:Int)]:=by rw[v7,h]
theorem Ck (G:Nat->Id) (n:Nat) (px:Nat->Option Nat) (L:Nat->Nat) (h:pr n px L) (k:Nat) (hk:k<n) (σ:az) (hG:xt σ.get G n px):
  Call Tryz.prog 188 [.ptr (G k) 0 0] σ fun r σ'=>r=.ptr (G (L k)) 0 0/\σ'.get=σ.get/\σ.next<=σ'.next:=by
 refine hZ fR rfl fun hl=>?_
 clear hl
 (try((repeat(revert N;apply Pn.out));refine wk @Nat.zero_add ?_;(repeat(apply Pn.mk;intro N Z))))
 refine bz (fun m env st=>∃j:Nat,m=j/\j<n/\env 0=.ptr (G j) 0 0/\L j=L k/\st.get=σ.get/\σ.next<=st.next) k ⟨k,rfl,hk,sd @Nat.zero_add,rfl,by(try dsimp only),aQ⟩ ?_
 rintro m env_b st_b ⟨j,rfl,hj,b0,hLj,hg,hle⟩ fo
 clear fo
 have fy:=hG m hj
 rcases hp:px m with _|j
 ·rw[nj hp]at fy
  (try((repeat(revert N;apply Pn.out));refine wk (tw @b0 (tw @hg @fy)) ?_;(repeat(apply Pn.mk;intro N Z))))
  exact fV (.inl rfl) (vs:=[.ptr (G m) 0 0]) (sd @Nat.zero_add) ⟨by rw[<-hLj,h.top m hj hp];rfl,by first|trivial|rfl|exact hg,aQ⟩
 ·rw[w5 hp]at fy
  obtain⟨h1,h2⟩:=h.up m j hj hp
  (try((repeat(revert N;apply Pn.out));refine wk (tw @b0 (tw @hg @fy)) ?_;(repeat(apply Pn.mk;intro N Z))))
  exact⟨j,h1,j,rfl,ah,sd @Nat.zero_add,ah,by first|trivial|rfl|exact hg,aQ⟩
end Go.Proofs.YtiabgllilcfheaaGreat.V

namespace Go.Proofs.YtiabgllilcfheaaGreat.V
open Go.RowKit
attribute [local irreducible] eC wpOps gi Call
attribute [local go_sem] aM fP fa fX fW du upd cz K.av cP AV.cells AV.cell rowOf rowsOf part ld rowAt bL cu dK eb gK bP de eu fS fq dx ef db da dR dS bU bf cU bR cW cV dW eh ee cR bW dd ec bQ aL cY cH gJ bF cL bV aY dr bq dL AV.undef bJ bK dV dY dQ dU cK er ez cF ej ei cX cZ List.getD_cons_zero List.getD_cons_succ List.getD_nil List.all_cons List.all_nil Bool.and_true Bool.true_and Bool.and_self Bool.not_true Bool.not_false Option.map_some Option.map_none Option.bind_some Option.bind_none List.length_cons List.length_nil List.take_succ_cons List.take_zero List.take_nil List.drop_succ_cons List.drop_zero List.drop_nil List.head?_cons List.map_cons List.map_nil List.getElem?_cons_zero List.getElem?_cons_succ List.cons_append List.nil_append List.append_nil List.length_map List.set_cons_zero List.set_cons_succ eq_self Int.toNat_natCast Int.natCast_nonneg and_self true_and and_true decide_true decide_false Bool.false_eq_true Nat.zero_add Nat.add_zero List.contains_cons List.contains_nil Bool.or_false Bool.false_or beq_self_eq_true ne_eq not_true_eq_false not_false_eq_true Id.mk.injEq false_and and_false Nat.le_refl List.length_append beq_true beq_false Bool.not_eq_eq_eq_not or_false false_or eL ar ax aW bp bZ cw aV bH aU bh cQ bI
abbrev mI:MK:=⟨false,[.tI]⟩
def wh (l:List (Nat×Nat)):List (List AV):=l.map fun p=>[.int .i64 (p.1:Int),.int .i64 (p.2:Int)]
theorem ES (r:Nat):∀(l:List (Nat×Nat)) (i:Nat),((∀p∈l,p.1≠r)->ir mI [.int .i64 (r:Int)] (wh l) i=some none)/\(∀j v,l[j]? =some (r,v)->(∀x y,x<j->l[x]? =some y->y.1≠r)->ir mI [.int .i64 (r:Int)] (wh l) i=some (some (i+j)))
 |[],i=>⟨fun _=>rfl,fun j v h=>by simp at h⟩
 |p::l,i=>by
  obtain⟨h1,h2⟩:=ES r l (i+1)
  by_cases h:p.1=r
  ·refine⟨fun hp=>absurd h (hp p (by simp)),fun j v hj hf=>?_⟩
   have Rn:j=0:=by
    rcases Nat.eq_zero_or_pos j with h0|h0
    ·exact h0
    ·exact absurd h (hf 0 p h0 (by simp))
   subst Rn
   simp[wh,ir,fq,fS,MK.ks,h]
  ·have hd:¬((r:Int)=(p.1:Int)):=ah
   have nA:¬r=p.1:=fun he=>h he.symm
   have step:ir mI [.int .i64 (r:Int)] (wh (p::l)) i=ir mI [.int .i64 (r:Int)] (wh l) (i+1):=by
    unfold wh
    simp[ir,MK.ks,fq,fS,hd,nA,h]
   rw[step]
   refine⟨fun hp=>h1 fun q hq=>hp q (by simp[hq]),fun j v hj hf=>?_⟩
   cases j with
   |zero=>simp at hj;rw[hj]at h;exact absurd rfl h
   |succ j=>
    rw[h2 j v (by simpa using hj) fun x y hx hy=>hf (x+1) y ah (by simpa using hy)]
    congr 2;omega
theorem Bi {r:Nat} {l:List (Nat×Nat)}:((∀p∈l,p.1≠r)->ij mI (.int .i64 (r:Int)) (wh l)=some none)/\(∀j v,l[j]? =some (r,v)->(∀x y,x<j->l[x]? =some y->y.1≠r)->ij mI (.int .i64 (r:Int)) (wh l)=some (some j)):=by
 have e:ij mI (.int .i64 (r:Int)) (wh l)=ir mI [.int .i64 (r:Int)] (wh l) 0:=by
  unfold ij
  rw[if_pos ⟨rfl,rfl,rfl⟩];rfl
 obtain⟨h1,h2⟩:=ES r l 0
 rw[e]
 exact⟨h1,fun j v hj hf=>by rw[h2 j v hj hf,Nat.zero_add]⟩
def mi (k:Nat) (L:Nat->Nat):List (List AV):=wh (leads k L).zipIdx
theorem Hh {k:Nat} {L:Nat->Nat} (h:L k=k):mi (k+1) L=mi k L++[[.int .i64 (k:Int),.int .i64 ((leads k L).length:Int)]]:=by
 unfold mi
 rw[iW,if_pos h,List.zipIdx_append]
 simp[wh]
theorem Hg {k:Nat} {L:Nat->Nat} (h:L k≠k):mi (k+1) L=mi k L:=by
 unfold mi
 rw[iW,if_neg h,List.append_nil]
theorem Ke {k:Nat} {L:Nat->Nat} (h:L k=k):ij mI (.int .i64 (k:Int)) (mi k L)=some none:=by
 refine Bi.1 fun p hp=>?_
 have:=List.fst_mem_of_mem_zipIdx hp
 have:=(Bt.1 this).1
 omega
theorem Bs {n:Nat} {L:Nat->Nat} {x y:Nat} (hx:x<(leads n L).length) (hy:y<(leads n L).length) (h:(leads n L)[x]=(leads n L)[y]):x=y:=by
 have hp:=List.pairwise_iff_getElem.1 (xh n L)
 rcases Nat.lt_trichotomy x y with eW|he|eW
 ·exact absurd h (hp x y hx hy eW)
 ·exact he
 ·exact absurd h.symm (hp y x hy hx eW)
theorem Br {k:Nat} {L:Nat->Nat} (hL:kE L) (h:L k≠k):ij mI (.int .i64 (L k:Int)) (mi k L)=some (some (di L k))/\(mi k L)[di L k]? =some [.int .i64 (L k:Int),.int .i64 (di L k:Int)]/\di L k<(leads k L).length:=by
 have eW:L k<k:=Nat.lt_of_le_of_ne (hL.le k) h
 have hn:di L (L k)=di L k:=by rw[di,hL.idem,di]
 have hg:=rF hL eW
 rw[hn,hL.idem]at hg
 have hl:di L k<(leads k L).length:=(List.getElem?_eq_some_iff.1 hg).1
 have hz:(leads k L).zipIdx[di L k]? =some (L k,di L k):=by simp[List.getElem?_zipIdx,hg]
 refine⟨Bi.2 _ _ hz fun x y hx hy=>?_,by unfold mi wh;rw[List.getElem?_map,hz];rfl,hl⟩
 intro he
 rw[List.getElem?_zipIdx]at hy
 have Zg:x<(leads k L).length:=ah
 rw[List.getElem?_eq_getElem Zg]at hy
 simp at hy
 rw[<-hy]at he
 simp at he
 have e2:(leads k L)[di L k]=L k:=(List.getElem?_eq_some_iff.1 hg).2
 have:=Bs Zg hl (he.trans e2.symm)
 omega
def kN (k:Nat) (L:Nat->Nat):List (List Nat):=(leads k L).map (members k L)
theorem td (k:Nat) (L:Nat->Nat):(kN k L).length=(leads k L).length:=by simp[kN]
theorem GN {k:Nat} {L:Nat->Nat} (hL:kE L) (h:L k=k):kN (k+1) L=kN k L++[[k]]:=by
 unfold kN
 rw[iW,if_pos h,List.map_append,List.map_cons,List.map_nil,kh,if_pos h,oV hL (Nat.le_refl k),List.nil_append]
 congr 1
 refine List.map_congr_left fun r hr=>?_
 have:=(Bt.1 hr).1
 rw[kh,if_neg ah,List.append_nil]
theorem GO {k:Nat} {L:Nat->Nat} (hL:kE L) (h:L k≠k):(kN k L)[di L k]? =some (members k L (L k))/\kN (k+1) L=(kN k L).set (di L k) (members k L (L k)++[k]):=by
 obtain⟨_,_,hl⟩:=Br hL h
 have eW:L k<k:=Nat.lt_of_le_of_ne (hL.le k) h
 have hg:=rF hL eW
 have hn:di L (L k)=di L k:=by rw[di,hL.idem,di]
 rw[hn,hL.idem]at hg
 refine⟨by unfold kN;rw[List.getElem?_map,hg];rfl,?_⟩
 unfold kN
 rw[iW,if_neg h,List.append_nil]
 refine List.ext_getElem? fun i=>?_
 rw[List.getElem?_set,List.getElem?_map,List.length_map]
 by_cases hi:di L k=i
 ·subst hi
  rw[if_pos rfl,if_pos hl,hg,Option.map_some,kh,if_pos rfl]
 ·rw[if_neg hi,List.getElem?_map]
  rcases hr:(leads k L)[i]? with _|r
  ·rfl
  ·rw[Option.map_some,Option.map_some,kh,if_neg,List.append_nil]
   rintro rfl
   obtain⟨lU,he⟩:=List.getElem?_eq_some_iff.1 hr
   have e2:(leads k L)[di L k]=L k:=(List.getElem?_eq_some_iff.1 hg).2
   exact hi (Bs hl lU (e2.trans he.symm))
theorem Fj (k:Nat) (L:Nat->Nat) (r:Nat):(members k L r).length<=k:=by
 have:=List.length_filter_le (fun x=>L x==r) (List.range k)
 simpa[members]using this
def Oe (g:Rows) (o:Id) (L:List (List Nat)) (nx:Nat):Prop:=∃rows ids,g o=some ⟨true,1,rows⟩/\fY Vn g rows L ids/\ids.Nodup/\(∀i∈ids,i.site=173026008/\i.bj<nx)/\o.site=173025002/\o.bj<nx
theorem O9 {g':Rows} {v v' Ay j:Nat} (h1:g' ⟨173025002,v⟩=some ⟨true,1,[[.own ⟨173026008,v'⟩ 0 1]]⟩) (h2:g' ⟨173026008,v'⟩=some ⟨true,1,[eN j]⟩) (hv:v<Ay) (pW:v'<Ay):Oe g' ⟨173025002,v⟩ [[j]] Ay:=
 ⟨_,[⟨173026008,v'⟩],h1,.one ⟨_,rfl,h2,rfl⟩,by simp,fun i hi=>by rw[List.mem_singleton.1 hi];exact⟨rfl,pW⟩,rfl,hv⟩
theorem Oe.new {g:Rows} {o:Id} {L:List (List Nat)} {nx:Nat} (h:Oe g o L nx) (j:Nat):∃rows,g o=some ⟨true,1,rows⟩/\rows.length=L.length/\∀(g':Rows) (v v' Ay:Nat),nx<=v'->v<Ay->v'<Ay->g' ⟨173025002,v⟩=some ⟨true,1,rows++[[.own ⟨173026008,v'⟩ 0 1]]⟩->g' ⟨173026008,v'⟩=some ⟨true,1,[eN j]⟩->(∀i:Id,i.site=173026008->i.bj<nx->g' i=g i)->Oe g' ⟨173025002,v⟩ (L++[[j]]) Ay:=by
 obtain⟨rows,ids,h1,h2,h3,h4,h5,h6⟩:=h
 refine⟨rows,h1,h2.len,fun g' v v' Ay hv yY PF q1 q2 q3=>⟨_,ids++[⟨173026008,v'⟩],q1,(h2.frame TC fun i hi=>q3 i (h4 i hi).1 (h4 i hi).2).app (.one ⟨_,rfl,q2,rfl⟩),?_,fun i hi=>?_,rfl,yY⟩⟩
 ·refine List.nodup_append.2 ⟨h3,by simp,fun a ha b hb qa=>?_⟩
  rw[List.mem_singleton.1 hb]at qa
  have:=(h4 a ha).2
  rw[qa]at this
  simp only at this
  omega
 ·rcases List.mem_append.1 hi with hi|hi
  ·have:=h4 i hi;exact⟨this.1,ah⟩
  ·rw[List.mem_singleton.1 hi];exact⟨rfl,PF⟩
theorem Oe.add {g:Rows} {o:Id} {L:List (List Nat)} {nx k:Nat} {La:List Nat} (h:Oe g o L nx) (hk:L[k]? =some La) (j:Nat):∃rows id,g o=some ⟨true,1,rows⟩/\rows.length=L.length/\rows[k]? =some [.own id 0 La.length]/\g id=some ⟨true,1,La.map eN⟩/\id.site=173026008/\id.bj<nx/\∀(g':Rows) (v' Ay:Nat),nx<=v'->v'<Ay->g' o=some ⟨true,1,rows.set k [.own ⟨173026008,v'⟩ 0 (La.length+1)]⟩->g' ⟨173026008,v'⟩=some ⟨true,1,La.map eN++[[.int .i64 (j:Int)]]⟩->(∀i:Id,i.site=173026008->i.bj<nx->(i=id)=False->g' i=g i)->Oe g' o (L.set k (La++[j])) Ay:=by
 obtain⟨rows,ids,h1,h2,h3,h4,h5,h6⟩:=h
 have mM:k<L.length:=(List.getElem?_eq_some_iff.1 hk).1
 have hLk:=mh hk mM
 obtain⟨cs,ic,eD,Vw,Xd,uy⟩:=h2.XW TC h3 k mM
 rw[hLk]at Vw
 obtain⟨id,rfl,q1,rfl⟩:=Vw
 have hid:=h4 id (Xd id (by simp))
 refine⟨rows,id,h1,h2.len,eD,q1,hid.1,hid.2,fun g' v' Ay hv yY r1 r2 r3=>?_⟩
 obtain⟨G8,s1,s2,s3⟩:=uy g' [.own ⟨173026008,v'⟩ 0 (La.length+1)] (La++[j]) [⟨173026008,v'⟩] ⟨_,by simp,by rw[r2];simp[eN],rfl⟩ (fun i hi Y3=>r3 i (h4 i hi).1 (h4 i hi).2 (by
  simp only[eq_iff_iff,iff_false];rintro rfl;exact Y3 (by simp))) (by simp) fun i hi hc=>by
   rw[List.mem_singleton.1 hi]at hc
   have:=(h4 _ hc).2
   simp only at this
   omega
 refine⟨_,G8,r1,s1,s2,fun i hi=>?_,h5,ah⟩
 rcases s3 i hi with h|h
 ·rw[List.mem_singleton.1 h];exact⟨rfl,yY⟩
 ·have:=h4 i h;exact⟨this.1,ah⟩
def nJ (G:Nat->Id) (n k:Nat):List (List AV):=(List.range n).map fun i=>[if i<k then .ptr (G i) 0 0 else .iX]
theorem od (G:Nat->Id) (n k:Nat):(nJ G n k).length=n:=by simp[nJ]
theorem KG (G:Nat->Id) (n:Nat):List.replicate n [AV.iX]=nJ G n 0:=by
 refine List.ext_getElem? fun i=>?_
 by_cases h:i<n
 ·rw[List.getElem?_replicate,if_pos h];simp[nJ,h]
 ·rw[List.getElem?_eq_none (by simp;omega),List.getElem?_eq_none (by rw[od];omega)]
theorem zP {G:Nat->Id} {n i:Nat} (h:i<n):(nJ G n n)[i]? =some [.ptr (G i) 0 0]:=by simp[nJ,h]
theorem Nz {G:Nat->Id} {n k:Nat} (h:k<n):(nJ G n k).set k [.ptr (G k) 0 0]=nJ G n (k+1):=by
 refine List.ext_getElem? fun i=>?_
 rw[List.getElem?_set,od]
 by_cases hi:k=i
 ·subst hi;rw[if_pos rfl,if_pos h];simp[nJ,h]
 ·rw[if_neg hi]
  by_cases fZ:i<n
  ·simp only[nJ,List.getElem?_map,List.getElem?_range fZ,Option.map_some]
   by_cases xZ:i<k
   ·rw[if_pos xZ,if_pos ah]
   ·rw[if_neg xZ,if_neg ah]
  ·rw[List.getElem?_eq_none (by rw[od];omega),List.getElem?_eq_none (by rw[od];omega)]
end Go.Proofs.YtiabgllilcfheaaGreat.V

namespace Go.Proofs.YtiabgllilcfheaaGreat.V
open Go.RowKit
attribute [local irreducible] eC wpOps gi Call
attribute [local go_sem] aM fP fa fX fW du upd cz K.av cP AV.cells AV.cell rowOf rowsOf part ld rowAt bL cu dK eb gK bP de eu fS fq dx ef db da dR dS bU bf cU bR cW cV dW eh ee cR bW dd ec bQ aL cY cH gJ bF cL bV aY dr bq dL AV.undef bJ bK dV dY dQ dU cK er ez cF ej ei cX cZ List.getD_cons_zero List.getD_cons_succ List.getD_nil List.all_cons List.all_nil Bool.and_true Bool.true_and Bool.and_self Bool.not_true Bool.not_false Option.map_some Option.map_none Option.bind_some Option.bind_none List.length_cons List.length_nil List.take_succ_cons List.take_zero List.take_nil List.drop_succ_cons List.drop_zero List.drop_nil List.head?_cons List.map_cons List.map_nil List.getElem?_cons_zero List.getElem?_cons_succ List.cons_append List.nil_append List.append_nil List.length_map List.set_cons_zero List.set_cons_succ Nat.reduceMul eq_self Int.toNat_natCast Int.natCast_nonneg and_self true_and and_true decide_true decide_false Bool.false_eq_true Nat.zero_add Nat.add_zero List.contains_cons List.contains_nil Bool.or_false Bool.false_or beq_self_eq_true Nat.reduceBEq ne_eq not_true_eq_false not_false_eq_true Id.mk.injEq false_and and_false Nat.reduceLT Int.reduceLE Int.reduceLT Int.reduceToNat Int.reduceNeg Int.reduceAdd Nat.le_refl List.length_append beq_true beq_false Bool.not_eq_eq_eq_not or_false false_or eL ar ax aW bp bZ cw aV bH aU bh cQ bI
theorem iP {o:Id} {a:Nat} (h:o.site=a) {b v:Nat} (qa:(a==b)=false):(o=⟨b,v⟩)=False/\((⟨b,v⟩:Id)=o)=False:=by
 have h1:=C5 h (v:=v) qa
 refine⟨h1,?_⟩
 simp only[eq_iff_iff,iff_false]at h1 ⊢
 exact fun h=>h1 h.symm
theorem yR (cnt:Nat) (we:1<=cnt) (hn:cnt<=1048576) (bs:List PB) (hb:∀b∈bs,b.a<cnt/\b.b<cnt) (iD:bs.length<=1048576):ay Tryz.prog 173 [.int .i64 cnt,.sl (bs.map aP)] (.sl ((gN cnt (ft bs)).map Dq)):=by
 intro n0
 refine qd Sg rfl fun hl=>?_
 simp only[Uz,UA,UB]
 try simp only[q]
 clear hl
 have kG:(0:Int)<=(cnt:Int):=ah
 have pI:(cnt:Int)<=((16777216:Nat):Int):=ah
 obtain⟨G,hG⟩:∃G:Nat->Id,G=fun k=>⟨173005004,n0+3+4*k+2⟩:=⟨_,rfl⟩
 have YD:∀k,(G k).site=173005004:=fun k=>by rw[hG]
 have hGv:∀k,(G k).bj=n0+3+4*k+2:=fun k=>by rw[hG]
 have YA:∀i j,i≠j->(G i=G j)=False:=fun i j h=>by
  simp only[eq_iff_iff,iff_false]
  intro he
  have h1:=hGv i
  rw[he,hGv j]at h1
  omega
 have Pe:∀i s v,(173005004==s)=false->(G i=⟨s,v⟩)=False:=fun i s v h=>C5 (YD i) h
 have hz:=KG G cnt
 (try((repeat(revert N;apply Pn.out));refine wk (tw @kG (tw @pI (tw @Int.le_refl @hz))) ?_;(repeat(apply Pn.mk;intro N Z))))
 refine bz (fun n env st=>∃k:Nat,n=(cnt)-k/\k<=(cnt)/\env 21=.int .i64 (k:Int)/\st.get ⟨173001001,n0+1⟩=some ⟨true,1,nJ G cnt k⟩/\(st.next=n0+3+4*k/\∀j:Nat,j<k->st.get (G j)=some ⟨true,2,[[.iX,.int .i64 (j:Int)]]⟩)) (cnt) ⟨0,ah,ah,sl @hz,sl @hz,⟨rfl,fun j hj=>ah⟩⟩ ?_
 rintro n_a env_a st_a ⟨k,rfl,ale,a21,ag0,nh⟩ eE
 have a0:=eE 0 (by kernel_rfl);have a1:=eE 1 (by kernel_rfl);have a5:=eE 5 (by kernel_rfl);have RZ:=eE 19 (by kernel_rfl);have a20:=eE 20 (by kernel_rfl)
 simp only[go_sem, ↓reduceIte,Nat.reduceEqDiff,Nat.reduceAdd,Nat.reduceSub,Nat.reduceLeDiff,reduceCtorEq,hz]at a0 a1 a5 RZ a20
 clear eE
 obtain⟨nh,oz⟩:=nh
 by_cases hk:(k:Int)<(cnt:Int)
 ·have dD:∀{e:Env} {gg:Rows} {nx:Nat},(e 21=.int .i64 (IntKind.i64.wrap ((k:Int)+1)))->(gg ⟨173001001,n0+1⟩=some ⟨true,1,nJ G cnt (k+1)⟩)->(nx=n0+3+4*(k+1)/\∀j:Nat,j<(k+1)->gg (G j)=some ⟨true,2,[[.iX,.int .i64 (j:Int)]]⟩)->∃m0,m0<(cnt)-k/\∃k:Nat,m0=(cnt)-k/\k<=(cnt)/\e 21=.int .i64 (k:Int)/\gg ⟨173001001,n0+1⟩=some ⟨true,1,nJ G cnt k⟩/\(nx=n0+3+4*k/\∀j:Nat,j<k->gg (G j)=some ⟨true,2,[[.iX,.int .i64 (j:Int)]]⟩):=fun x1 x2 x3=>⟨_,ah,k+1,rfl,ah,(by rw[x1,aK ah]),x2,x3⟩
  have iO:k<cnt:=ah
  have tl:=od G cnt k
  have fx:=Nz (G:=G) iO
  have gL:(nJ G cnt k)[k]? =some [.iX]:=by simp[nJ,iO]
  have YB:(⟨173005004,st_a.next+1+1⟩:Id)=G k:=by rw[hG,nh]
  have hGf:∀j,j<k->(G j=G k)=False:=fun j hj=>YA j k ah
  have Cr:∀j,(G j=(⟨173001001,n0+1⟩:Id))=False:=fun j=>Pe j _ _ (by decide)
  have GQ:∀j,((⟨173001001,n0+1⟩:Id)=G j)=False:=fun j=>by
   have:=Cr j
   simp only[eq_iff_iff,iff_false]at this ⊢
   exact fun h=>this h.symm
  (try((repeat(revert N;apply Pn.out));refine wk (tw @a21 (tw @ag0 (tw @a0 (tw @a1 (tw @a5 (tw @RZ (tw @a20 (tw @hk (tw @tl (tw @YB (tw @Cr (tw @GQ (tw @fx @gL))))))))))))) ?_;(repeat(apply Pn.mk;intro N Z))))
  refine dD ?_ ?_ (by
   refine⟨by(try dsimp only)<;>omega,fun j hj=>?_⟩
   by_cases Bd:j=k
   ·subst Bd;simp only[go_sem, ↓reduceIte,Nat.reduceEqDiff,Nat.reduceAdd,Nat.reduceSub,Nat.reduceLeDiff,reduceCtorEq,YB,Cr,GQ]
   ·have hold:=oz j ah
    have ig:=hGf j ah
    simp only[go_sem, ↓reduceIte,Nat.reduceEqDiff,Nat.reduceAdd,Nat.reduceSub,Nat.reduceLeDiff,reduceCtorEq,YB,Cr,GQ,ig,hold])
  all_goals simp only[go_sem, ↓reduceIte,Nat.reduceEqDiff,Nat.reduceAdd,Nat.reduceSub,Nat.reduceLeDiff,reduceCtorEq,a21,ag0,a0,a1,a5,RZ,a20,YB,Cr,GQ,fx]
 have mM:cnt=k:=ah
 subst mM
 (try((repeat(revert N;apply Pn.out));refine wk (tw @a21 (tw @ag0 (tw @a0 (tw @a1 (tw @a5 (tw @RZ (tw @a20 @hk))))))) ?_;(repeat(apply Pn.mk;intro N Z))))
 refine bz (fun n env st=>∃i:Nat,n=(bs.length)-i/\i<=(bs.length)/\env 33=.int .i64 (i:Int)/\st.get ⟨173001001,n0+1⟩=some ⟨true,1,nJ G cnt cnt⟩/\(n0+3+4*cnt<=st.next)/\(∃px,pr cnt px (ft (bs.take i))/\xt st.get G cnt px)) (bs.length) ⟨0,ah,ah,sl (tw @a21 (tw @ag0 (tw @a0 (tw @a1 (tw @a5 (tw @RZ @a20)))))),sl (tw @a21 (tw @ag0 (tw @a0 (tw @a1 (tw @a5 (tw @RZ @a20)))))),aQ,⟨fun _=>none,pr.start cnt,oz⟩⟩ ?_
 rintro n_b env_b st_b ⟨i,rfl,ble,xx,bg0,bI0,bI1⟩ fo
 have b0:=fo 0 (by kernel_rfl);have b1:=fo 1 (by kernel_rfl);have b5:=fo 5 (by kernel_rfl);have AL:=fo 31 (by kernel_rfl);have wN:=fo 32 (by kernel_rfl)
 simp only[go_sem, ↓reduceIte,Nat.reduceEqDiff,Nat.reduceAdd,Nat.reduceSub,Nat.reduceLeDiff,reduceCtorEq,a21,ag0,a0,a1,a5,RZ,a20]at b0 b1 b5 AL wN
 clear fo
 obtain⟨px,OA,YC⟩:=bI1
 have tl:=od G cnt cnt
 have Wz:∀j v,(G j=(⟨173009002,v⟩:Id))=False:=fun j v=>Pe j _ v (by decide)
 have Cr:∀j v,(G j=(⟨173001001,v⟩:Id))=False:=fun j v=>Pe j _ v (by decide)
 have GQ:∀j v,((⟨173001001,v⟩:Id)=G j)=False:=fun j v=>by
  have:=Cr j v
  simp only[eq_iff_iff,iff_false]at this ⊢
  exact fun h=>this h.symm
 have hGn:∀j,j<cnt->(G j).bj<st_b.next:=fun j hj=>by rw[hGv];omega
 by_cases hi:(i:Int)<(bs.length:Int)
 ·have fN:∀{e:Env} {gg:Rows} {nx:Nat},(e 33=.int .i64 (IntKind.i64.wrap ((i:Int)+1)))->(gg ⟨173001001,n0+1⟩=some ⟨true,1,nJ G cnt cnt⟩)->(n0+3+4*cnt<=nx)->(∃px,pr cnt px (ft (bs.take (i+1)))/\xt gg G cnt px)->∃m0,m0<(bs.length)-i/\∃i:Nat,m0=(bs.length)-i/\i<=(bs.length)/\e 33=.int .i64 (i:Int)/\gg ⟨173001001,n0+1⟩=some ⟨true,1,nJ G cnt cnt⟩/\(n0+3+4*cnt<=nx)/\(∃px,pr cnt px (ft (bs.take i))/\xt gg G cnt px):=fun x1 x2 x3 x4=>⟨_,ah,i+1,rfl,ah,(by rw[x1,aK ah]),x2,x3,x4⟩
  have fZ:i<bs.length:=ah
  have iZ:(bs.map aP)[i]? =some (aP bs[i]):=by simp[fZ]
  have JK:=hb _ (List.getElem_mem fZ)
  have oN:bs.take (i+1)=bs.take i++[bs[i]]:=List.take_succ_eq_append_getElem fZ
  have np:ft (bs.take (i+1))=fH (ft (bs.take i)) bs[i]:=by rw[oN,y9]
  have hL:=xg (bs.take i)
  generalize ft (bs.take i)=L at *
  generalize bs[i]=b at *
  have gA:=zP (G:=G) JK.1
  have gB:=zP (G:=G) JK.2
  have iR:(b.a:Int)<(cnt:Int):=ah
  have gH:(b.b:Int)<(cnt:Int):=ah
  (try((repeat(revert N;apply Pn.out));refine wk (tw @xx (tw @bg0 (tw @b0 (tw @b1 (tw @b5 (tw @AL (tw @wN (tw @hi (tw @iZ (tw @aP.eq_1 (tw @gA (tw @gB (tw @iR (tw @gH @tl)))))))))))))) ?_;(repeat(apply Pn.mk;intro N Z))))
  refine mH (fun e s=>e 0=.int .i64 cnt/\e 1=.sl (bs.map aP)/\e 5=.own ⟨173001001,n0+1⟩ 0 cnt/\e 31=.sl (bs.map aP)/\e 32=.int .i64 bs.length/\e 33=.int .i64 i/\e 9=.ptr (G (L b.a)) 0 0/\e 10=.ptr (G (L b.b)) 0 0/\(∀j:Id,j.bj<st_b.next->s.get j=st_b.get j)/\st_b.next<=s.next) ?_ ?_
  ·rintro e1 s1 ⟨m0,m1,m5,m31,m32,m33,m9,m10,mf,mn⟩
   apply Z
   clear Z N
   have mG:xt s1.get G cnt px:=YC.frame fun k hk=>mf _ (hGn k hk)
   have mt:=(mf ⟨173001001,n0+1⟩ aQ).trans bg0
   have hla:L b.a<cnt:=Nat.lt_of_le_of_lt (hL.le _) JK.1
   have Xg:L b.b<cnt:=Nat.lt_of_le_of_lt (hL.le _) JK.2
   have ra:=mG _ hla
   have rb:=mG _ Xg
   rw[nj (OA.root hL hla (hL.idem _))]at ra
   rw[nj (OA.root hL Xg (hL.idem _))]at rb
   have put:∀(g':Rows) (lo hi:Nat),hi<cnt->g' (G hi)=some ⟨true,2,[[.ptr (G lo) 0 0,.int .i64 (hi:Int)]]⟩->(∀k,k≠hi->k<cnt->g' (G k)=s1.get (G k))->xt g' G cnt (fun k=>if k=hi then some lo else px k):=fun g' lo hi _ h1 h2 k hk=>by
    by_cases Ow:k=hi
    ·subst Ow;rw[h1,w5 (j:=lo) (if_pos rfl)]
    ·rw[h2 k Ow hk,mG k hk]
     unfold v7
     simp only[if_neg Ow]
   rcases Nat.lt_trichotomy (L b.a) (L b.b)with eW|heq|eW
   ·have S6:(L b.a:Int)<(L b.b:Int):=ah
    have hj:=OA.join hL b ah
    rw[Nat.max_eq_right ah,Nat.min_eq_left ah,<-np]at hj
    (try((repeat(revert N;apply Pn.out));refine wk (tw @m0 (tw @m1 (tw @m5 (tw @m31 (tw @m32 (tw @m33 (tw @m9 (tw @m10 (tw @ra (tw @rb @S6)))))))))) ?_;(repeat(apply Pn.mk;intro N Z))))
    refine fN ?_ ?_ aQ (⟨_,hj,put _ _ _ Xg (sd @Nat.zero_add) (fun k hk _=>by
     have ig:=YA k _ hk
     simp only[go_sem, ↓reduceIte,Nat.reduceEqDiff,Nat.reduceAdd,Nat.reduceSub,Nat.reduceLeDiff,reduceCtorEq,ig])⟩)
    all_goals simp only[go_sem, ↓reduceIte,Nat.reduceEqDiff,Nat.reduceAdd,Nat.reduceSub,Nat.reduceLeDiff,reduceCtorEq,m0,m1,m5,m31,m32,m33,mt,Cr,GQ]
   ·have we:¬(L b.a:Int)<(L b.b:Int):=ah
    have Pt:¬(L b.b:Int)<(L b.a:Int):=ah
    have JT:=CH heq
    rw[JT]at np
    (try((repeat(revert N;apply Pn.out));refine wk (tw @m0 (tw @m1 (tw @m5 (tw @m31 (tw @m32 (tw @m33 (tw @m9 (tw @m10 (tw @ra (tw @rb (tw @we @Pt))))))))))) ?_;(repeat(apply Pn.mk;intro N Z))))
    refine fN ?_ ?_ aQ (⟨_,np▸OA,mG.frame fun k hk=>rfl⟩)
    all_goals simp only[go_sem, ↓reduceIte,Nat.reduceEqDiff,Nat.reduceAdd,Nat.reduceSub,Nat.reduceLeDiff,reduceCtorEq,m0,m1,m5,m31,m32,m33,mt]
   ·have S6:(L b.b:Int)<(L b.a:Int):=ah
    have we:¬(L b.a:Int)<(L b.b:Int):=ah
    have hj:=OA.join hL b ah
    rw[Nat.max_eq_left ah,Nat.min_eq_right ah,<-np]at hj
    (try((repeat(revert N;apply Pn.out));refine wk (tw @m0 (tw @m1 (tw @m5 (tw @m31 (tw @m32 (tw @m33 (tw @m9 (tw @m10 (tw @ra (tw @rb (tw @S6 @we))))))))))) ?_;(repeat(apply Pn.mk;intro N Z))))
    refine fN ?_ ?_ aQ (⟨_,hj,put _ _ _ hla (sd @Nat.zero_add) (fun k hk _=>by
     have ig:=YA k _ hk
     simp only[go_sem, ↓reduceIte,Nat.reduceEqDiff,Nat.reduceAdd,Nat.reduceSub,Nat.reduceLeDiff,reduceCtorEq,ig])⟩)
    all_goals simp only[go_sem, ↓reduceIte,Nat.reduceEqDiff,Nat.reduceAdd,Nat.reduceSub,Nat.reduceLeDiff,reduceCtorEq,m0,m1,m5,m31,m32,m33,mt,Cr,GQ]
  ·intro N Z
   refine dv ?_ ?_<;>(try((repeat(revert N;apply Pn.out));refine wk (tw @xx (tw @bg0 (tw @b0 (tw @b1 (tw @b5 (tw @AL (tw @wN (tw @hi (tw @iZ (tw @aP.eq_1 (tw @gA (tw @gB (tw @iR (tw @gH @tl)))))))))))))) ?_;(repeat(apply Pn.mk;intro N Z))))<;>(try refine dv ?_ ?_)<;>(try((repeat(revert N;apply Pn.out));refine wk (tw @xx (tw @bg0 (tw @b0 (tw @b1 (tw @b5 (tw @AL (tw @wN (tw @hi (tw @iZ (tw @aP.eq_1 (tw @gA (tw @gB (tw @iR (tw @gH @tl)))))))))))))) ?_;(repeat(apply Pn.mk;intro N Z))))<;>(try refine dv ?_ ?_)<;>(try((repeat(revert N;apply Pn.out));refine wk (tw @xx (tw @bg0 (tw @b0 (tw @b1 (tw @b5 (tw @AL (tw @wN (tw @hi (tw @iZ (tw @aP.eq_1 (tw @gA (tw @gB (tw @iR (tw @gH @tl)))))))))))))) ?_;(repeat(apply Pn.mk;intro N Z))))
   all_goals
    refine .inr (aE _ _ _ _ _ (fun r σ1 hq=>?_) (Ck G cnt px L OA b.a JK.1 _ (YC.frame fun k hk=>sd @Wz)))
    obtain⟨g1,x1⟩:=σ1
    obtain⟨rfl,GY,JO⟩:=hq
    (try dsimp only at GY JO)
    subst GY
    apply Z
    clear Z N
    (try((repeat(revert N;apply Pn.out));refine wk (tw @xx (tw @bg0 (tw @b0 (tw @b1 (tw @b5 (tw @AL (tw @wN (tw @hi (tw @iZ (tw @aP.eq_1 (tw @gA (tw @gB (tw @iR (tw @gH @tl)))))))))))))) ?_;(repeat(apply Pn.mk;intro N Z))))
    refine .inr (aE _ _ _ _ _ (fun r σ1 hq=>?_) (Ck G cnt px L OA b.b JK.2 _ (YC.frame fun k hk=>sd @Wz)))
    obtain⟨g1,x2⟩:=σ1
    obtain⟨rfl,GY,oL⟩:=hq
    (try dsimp only at GY oL)
    subst GY
    apply Z
    clear Z N
    (try((repeat(revert N;apply Pn.out));refine wk (tw @xx (tw @bg0 (tw @b0 (tw @b1 (tw @b5 (tw @AL (tw @wN (tw @hi (tw @iZ (tw @aP.eq_1 (tw @gA (tw @gB (tw @iR (tw @gH @tl)))))))))))))) ?_;(repeat(apply Pn.mk;intro N Z))))
    exact⟨sd (tw @xx (tw @bg0 (tw @b0 (tw @b1 (tw @b5 (tw @AL @wN)))))),sd (tw @xx (tw @bg0 (tw @b0 (tw @b1 (tw @b5 (tw @AL @wN)))))),sd (tw @xx (tw @bg0 (tw @b0 (tw @b1 (tw @b5 (tw @AL @wN)))))),sd (tw @xx (tw @bg0 (tw @b0 (tw @b1 (tw @b5 (tw @AL @wN)))))),sd (tw @xx (tw @bg0 (tw @b0 (tw @b1 (tw @b5 (tw @AL @wN)))))),sd (tw @xx (tw @bg0 (tw @b0 (tw @b1 (tw @b5 (tw @AL @wN)))))),sd (tw @xx (tw @bg0 (tw @b0 (tw @b1 (tw @b5 (tw @AL @wN)))))),sd (tw @xx (tw @bg0 (tw @b0 (tw @b1 (tw @b5 (tw @AL @wN)))))),fun j hj=>by
     have hv:=dh hj
     simp only[go_sem, ↓reduceIte,Nat.reduceEqDiff,Nat.reduceAdd,Nat.reduceSub,Nat.reduceLeDiff,reduceCtorEq,hv],aQ⟩
 have lU:i=bs.length:=ah
 subst lU
 rw[List.take_length]at OA
 have hL:=xg bs
 generalize ft bs=L at *
 (try((repeat(revert N;apply Pn.out));refine wk (tw @xx (tw @bg0 (tw @b0 (tw @b1 (tw @b5 (tw @AL (tw @wN (tw @hi @tl)))))))) ?_;(repeat(apply Pn.mk;intro N Z))))
 have l0:mi 0 L=[]:=rfl
 have oS:(none:Option Nat).isSome=false:=rfl
 have oT:∀a:Nat,(some a).isSome=true:=fun _=>rfl
 refine bz (fun n env st=>∃x:Nat,n=(cnt)-x/\x<=(cnt)/\env 81=.int .i64 (x:Int)/\st.get ⟨173001001,n0+1⟩=some ⟨true,1,nJ G cnt cnt⟩/\st.get ⟨173017000,st_b.next+1+1⟩=some ⟨true,mI.mY,mi x L⟩/\(st_b.next+3<=st.next/\xt st.get G cnt px)/\((x=0/\env 11=.br)∨∃o:Id,env 11=.own o 0 (leads x L).length/\Oe st.get o (kN x L) st.next)) (cnt) ⟨0,ah,ah,sl (tw @xx (tw @bg0 (tw @b0 (tw @b1 (tw @b5 (tw @AL (tw @wN @l0))))))),sl (tw @xx (tw @bg0 (tw @b0 (tw @b1 (tw @b5 (tw @AL (tw @wN @l0))))))),sl (tw @xx (tw @bg0 (tw @b0 (tw @b1 (tw @b5 (tw @AL (tw @wN @l0))))))),⟨aQ,YC.frame fun k hk=>by(have ig:=Pe k 173017000 (st_b.next+1+1) (by decide));simp only[go_sem, ↓reduceIte,Nat.reduceEqDiff,Nat.reduceAdd,Nat.reduceSub,Nat.reduceLeDiff,reduceCtorEq,ig]⟩,.inl ⟨rfl,sd @Nat.zero_add⟩⟩ ?_
 rintro n_c env_c st_c ⟨x,rfl,cle,c81,cg0,cg1,cI0,cI1⟩ il
 have qt:=il 12 (by kernel_rfl);have OV:=il 79 (by kernel_rfl);have OX:=il 80 (by kernel_rfl)
 simp only[go_sem, ↓reduceIte,Nat.reduceEqDiff,Nat.reduceAdd,Nat.reduceSub,Nat.reduceLeDiff,reduceCtorEq,xx,bg0,b0,b1,b5,AL,wN,l0]at qt OV OX
 clear il
 obtain⟨qb,Wa⟩:=cI0
 have SI:∀j v,(G j=(⟨173017000,v⟩:Id))=False:=fun j v=>Pe j _ v (by decide)
 have SE:∀j v,(G j=(⟨173025002,v⟩:Id))=False:=fun j v=>Pe j _ v (by decide)
 have SG:∀j v,(G j=(⟨173025001,v⟩:Id))=False:=fun j v=>Pe j _ v (by decide)
 have SH:∀j v,(G j=(⟨173026007,v⟩:Id))=False:=fun j v=>Pe j _ v (by decide)
 have SF:∀j v,(G j=(⟨173026008,v⟩:Id))=False:=fun j v=>Pe j _ v (by decide)
 by_cases hx:(x:Int)<(cnt:Int)
 ·have fJ:∀{e:Env} {gg:Rows} {nx:Nat},(e 81=.int .i64 (IntKind.i64.wrap ((x:Int)+1)))->(gg ⟨173001001,n0+1⟩=some ⟨true,1,nJ G cnt cnt⟩)->(gg ⟨173017000,st_b.next+1+1⟩=some ⟨true,mI.mY,mi (x+1) L⟩)->(st_b.next+3<=nx/\xt gg G cnt px)->(((x+1)=0/\e 11=.br)∨∃o:Id,e 11=.own o 0 (leads (x+1) L).length/\Oe gg o (kN (x+1) L) nx)->∃m0,m0<(cnt)-x/\∃x:Nat,m0=(cnt)-x/\x<=(cnt)/\e 81=.int .i64 (x:Int)/\gg ⟨173001001,n0+1⟩=some ⟨true,1,nJ G cnt cnt⟩/\gg ⟨173017000,st_b.next+1+1⟩=some ⟨true,mI.mY,mi x L⟩/\(st_b.next+3<=nx/\xt gg G cnt px)/\((x=0/\e 11=.br)∨∃o:Id,e 11=.own o 0 (leads x L).length/\Oe gg o (kN x L) nx):=fun x1 x2 x3 x4 x5=>⟨_,ah,x+1,rfl,ah,(by rw[x1,aK ah]),x2,x3,x4,x5⟩
  have VP:x<cnt:=ah
  have gX:=zP (G:=G) VP
  have hlx:L x<cnt:=Nat.lt_of_le_of_lt (hL.le _) VP
  have ra:=Wa _ hlx
  rw[nj (OA.root hL hlx (hL.idem _))]at ra
  have gU:=kQ x L
  (try((repeat(revert N;apply Pn.out));refine wk (tw @c81 (tw @cg0 (tw @cg1 (tw @qt (tw @OV (tw @OX (tw @hx (tw @gX @tl)))))))) ?_;(repeat(apply Pn.mk;intro N Z))))
  refine .inr (aE _ _ _ _ _ (fun r σ1 hq=>?_) (Ck G cnt px L OA x VP _ (Wa.frame fun k hk=>sd @Nat.zero_add)))
  obtain⟨g1,x1⟩:=σ1
  obtain⟨rfl,GY,JO⟩:=hq
  (try dsimp only at GY JO)
  subst GY
  apply Z
  clear Z N
  by_cases hr:L x=x
  ·rw[hr]at ra ⊢
   have nK:=Ke hr
   have Y1:(leads (x+1) L).length=(leads x L).length+1:=by rw[iW,if_pos hr];simp
   have VL:=Hh hr
   have YV:=GN hL hr
   rcases cI1 with⟨rfl,pR⟩|⟨o,pR,cS⟩
   ·have hsc1:mi 1 L=[[.int .i64 ((0:Nat):Int),.int .i64 ((0:Nat):Int)]]:=VL
    (try((repeat(revert N;apply Pn.out));refine wk (tw @c81 (tw @cg0 (tw @cg1 (tw @qt (tw @OV (tw @OX (tw @pR (tw @ra (tw @nK (tw @l0 (tw @oS (tw @oT (tw @Bool.not_false @Bool.not_true))))))))))))) ?_;(repeat(apply Pn.mk;intro N Z))))
    refine fJ ?_ ?_ ?_ (by(try dsimp only);exact⟨ah,Wa.frame fun k hk=>sd (tw @SI (tw @SE (tw @SF (tw @SG @SH))))⟩) (.inr ⟨⟨173025002,x1+1+1+1+1⟩,by simp only[go_sem, ↓reduceIte,Nat.reduceEqDiff,Nat.reduceAdd,Nat.reduceSub,Nat.reduceLeDiff,reduceCtorEq,Y1];rfl,by rw[YV];exact O9 (v':=x1+1+1+1+1+1) (sd @Nat.zero_add) (sd @eN.eq_1) aQ aQ⟩)
    all_goals simp only[go_sem, ↓reduceIte,Nat.reduceEqDiff,Nat.reduceAdd,Nat.reduceSub,Nat.reduceLeDiff,reduceCtorEq,c81,cg0,cg1,qt,OV,OX,hsc1]
   ·obtain⟨rows,xH,x8,lO⟩:=cS.new x
    rw[td]at x8
    have xI:o.site=173025002:=by obtain⟨_,_,_,_,_,_,h,_⟩:=cS;exact h
    have vD:o.bj<x1:=by obtain⟨_,_,_,_,_,_,_,h⟩:=cS;omega
    have tj:=dh vD
    have Xn:=iP (o:=o) xI (b:=173017000) (v:=st_b.next+1+1) (by decide)
    have VH:=iP (o:=o) xI (b:=173001001) (v:=n0+1) (by decide)
    have SJ:∀k,(G k=o)=False:=fun k=>by simp only[eq_iff_iff,iff_false];intro h;have h1:=YD k;rw[h,xI]at h1;cases h1
    have vp:(rows++[[AV.br]])[(leads x L).length]? =some [.br]:=by rw[<-x8];simp
    have z6:∀a:List AV,(rows++[[AV.br]]).set (leads x L).length a=rows++[a]:=fun a=>by rw[<-x8];simp
    have e1:(leads x L).length+1<=16777216:=ah
    have e2:((leads x L).length:Int)<(((leads x L).length+1:Nat):Int):=ah
    (try((repeat(revert N;apply Pn.out));refine wk (tw @c81 (tw @cg0 (tw @cg1 (tw @qt (tw @OV (tw @OX (tw @pR (tw @ra (tw @nK (tw @xH (tw @x8 (tw @tj (tw @Xn (tw @vp (tw @z6 (tw @e1 (tw @e2 (tw @oS (tw @oT (tw @Bool.not_false @Bool.not_true)))))))))))))))))))) ?_;(repeat(apply Pn.mk;intro N Z))))
    refine fJ ?_ ?_ ?_ (by(try dsimp only);exact⟨ah,Wa.frame fun k hk=>sd (tw @SI (tw @SE (tw @SF (tw @SG (tw @SH @SJ)))))⟩) (.inr ⟨⟨173025002,x1+1+1+1+1⟩,sd @Y1,by rw[YV];exact lO _ _ (x1+1+1+1+1+1) _ ah aQ aQ (sd @z6) (sd @eN.eq_1) (fun j hj hv=>by
     have q1:=dh (i:=j) (n:=x1) ah
     have q2:=iP hj (b:=173017000) (v:=st_b.next+1+1) (by decide)
     have q3:(j=o)=False:=by simp only[eq_iff_iff,iff_false];intro h;rw[h,xI]at hj;cases hj
     simp only[go_sem, ↓reduceIte,Nat.reduceEqDiff,Nat.reduceAdd,Nat.reduceSub,Nat.reduceLeDiff,reduceCtorEq,q1,q2,q3])⟩)
    all_goals simp only[go_sem, ↓reduceIte,Nat.reduceEqDiff,Nat.reduceAdd,Nat.reduceSub,Nat.reduceLeDiff,reduceCtorEq,c81,cg0,cg1,qt,OV,OX,VL,tj,Xn,VH]
  ·obtain⟨nK,F7,eW⟩:=Br hL hr
   obtain⟨On,YV⟩:=GO hL hr
   have Y1:(leads (x+1) L).length=(leads x L).length:=by rw[iW,if_neg hr];simp
   have JT:=Hg hr
   rcases cI1 with⟨rfl,pR⟩|⟨o,pR,cS⟩
   ·exact absurd (Nat.le_zero.1 (hL.le 0)) hr
   ·obtain⟨rows,id,xH,x8,hrk,hid,Ma,hidv,hadd⟩:=cS.add On x
    rw[td]at x8
    have xI:o.site=173025002:=by obtain⟨_,_,_,_,_,_,h,_⟩:=cS;exact h
    have vD:o.bj<x1:=by obtain⟨_,_,_,_,_,_,_,h⟩:=cS;omega
    have tj:=dh vD
    have yY:=dh (i:=id) (n:=x1) ah
    have iZ:(di L x:Int)<((leads x L).length:Int):=ah
    have VF:=Fj x L (L x)
    have hma:((members x L (L x)).map eN).length=(members x L (L x)).length:=by simp
    have e1:(members x L (L x)).length+1<=16777216:=ah
    have hoi:(o=id)=False:=by simp only[eq_iff_iff,iff_false];rintro rfl;rw[Ma]at xI;cases xI
    have hio:(id=o)=False:=by simp only[eq_iff_iff,iff_false];rintro rfl;rw[Ma]at xI;cases xI
    have Xn:=iP (o:=o) xI (b:=173017000) (v:=st_b.next+1+1) (by decide)
    have VH:=iP (o:=o) xI (b:=173001001) (v:=n0+1) (by decide)
    have hiM:=iP (o:=id) Ma (b:=173017000) (v:=st_b.next+1+1) (by decide)
    have hiT:=iP (o:=id) Ma (b:=173001001) (v:=n0+1) (by decide)
    have SJ:∀k,(G k=o)=False:=fun k=>by simp only[eq_iff_iff,iff_false];intro h;have h1:=YD k;rw[h,xI]at h1;cases h1
    have hGoi:∀k,(G k=id)=False:=fun k=>by simp only[eq_iff_iff,iff_false];intro h;have h1:=YD k;rw[h,Ma]at h1;cases h1
    (try((repeat(revert N;apply Pn.out));refine wk (tw @c81 (tw @cg0 (tw @cg1 (tw @qt (tw @OV (tw @OX (tw @pR (tw @ra (tw @nK (tw @F7 (tw @xH (tw @x8 (tw @hrk (tw @hid (tw @tj (tw @yY (tw @iZ (tw @hma (tw @e1 (tw @hoi (tw @hio (tw @Xn (tw @VH (tw @hiM (tw @hiT (tw @oS (tw @oT (tw @Bool.not_false @Bool.not_true)))))))))))))))))))))))))))) ?_;(repeat(apply Pn.mk;intro N Z))))
    refine fJ ?_ ?_ ?_ (by(try dsimp only);exact⟨ah,Wa.frame fun k hk=>sd (tw @SI (tw @SE (tw @SF (tw @SG (tw @SH (tw @SJ @hGoi))))))⟩) (.inr ⟨o,sd (tw @Y1 @pR),by rw[YV];exact hadd _ (x1+1+1) _ ah aQ (sd @Nat.zero_add) (sd (tw @tj (tw @yY (tw @hoi @hio)))) (fun j hj hv nC=>by
     have q1:=dh (i:=j) (n:=x1) ah
     have q2:=iP hj (b:=173017000) (v:=st_b.next+1+1) (by decide)
     have q3:(j=o)=False:=by simp only[eq_iff_iff,iff_false];intro h;rw[h,xI]at hj;cases hj
     simp only[go_sem, ↓reduceIte,Nat.reduceEqDiff,Nat.reduceAdd,Nat.reduceSub,Nat.reduceLeDiff,reduceCtorEq,q1,q2,q3,nC])⟩)
    all_goals simp only[go_sem, ↓reduceIte,Nat.reduceEqDiff,Nat.reduceAdd,Nat.reduceSub,Nat.reduceLeDiff,reduceCtorEq,c81,cg0,cg1,qt,OV,OX,JT,tj,yY,Xn,VH,hiM,hiT]
 have hxc:x=cnt:=ah
 rcases cI1 with⟨h0,_⟩|⟨o,pR,rows,ids,xH,hR,_,_,_,_⟩
 ·omega
 have x8:=hR.len
 rw[td]at x8
 (try((repeat(revert N;apply Pn.out));refine wk (tw @c81 (tw @cg0 (tw @cg1 (tw @qt (tw @OV (tw @OX (tw @hx (tw @pR @xH)))))))) ?_;(repeat(apply Pn.mk;intro N Z))))
 refine uQ (.inl rfl) (by simp only[go_sem, ↓reduceIte,Nat.reduceEqDiff,Nat.reduceAdd,Nat.reduceSub,Nat.reduceLeDiff,reduceCtorEq];rfl) ?_
 rw[ug xH ah (rows':=(gN cnt L).map Dq) (by
  rw[List.drop_zero,List.take_of_length_le ah]
  rw[hxc]at hR;exact MI 3 hR)]
theorem NN (b:PB) (t:Int):ay Tryz.prog 176 [.agg (aP b),.dF [.int .i64 t]] (.bool (decide (b.s<t))):=by
 refine ay.body fR rfl fun hl n0=>?_
 clear hl
 (try((repeat(revert N;apply Pn.out));refine wk @aP.eq_1 ?_;(repeat(apply Pn.mk;intro N Z))))
 exact cD (b:=decide (b.s<t)) (.inl rfl) (sd @Nat.zero_add) rfl
theorem Bh (bs:List PB) (t:Int) (hl:bs.length<=1048576):ay Tryz.prog 189 [.sl (bs.map aP),.fn 176 [.dF [.int .i64 t]]] (.int .i64 (lL (fun b:PB=>decide (b.s<t)) bs)):=
 xd LK (show FZ Tryz.prog 189=some (y6 189 3 true) by kernel_rfl) bs hl 176 _ _ (fun x _=>NN x t) fun g=>by simp only[ar,ax,aU,Option.map_some]
theorem LG (bs:List PB) (hp:0<bs.length) (hl:bs.length<=1048576) (σ:az):
  Call Tryz.prog 175 [.sl (bs.map aP)] σ fun r σ'=>∃o:Id,r=.own o 0 bs.length/\σ'.get o=some ⟨true,3,bs.map aP⟩/\σ.next<=o.bj/\o.bj<σ'.next/\∀i:Id,i.bj<σ.next->σ'.get i=σ.get i:=by
 refine hZ fR rfl fun hl=>?_
 clear hl
 have hz:=all_map (l:=bs) RN
 obtain⟨b,r,rfl⟩:∃b r,bs=b::r:=by
  cases bs with
  |nil=>simp at hp
  |cons b r=>exact⟨b,r,rfl⟩
 have gU:(List.map aP (b::r)).length=(b::r).length:=by simp
 have e1:r.length<=16777215:=by simp at hl;omega
 rw[List.map_cons]at hz gU ⊢
 (try((repeat(revert N;apply Pn.out));refine wk (tw @hz (tw @gU @e1)) ?_;(repeat(apply Pn.mk;intro N Z))))
 refine fV (.inl rfl) (vs:=[.own ⟨175003002,σ.next+1+1⟩ 0 (b::r).length]) (by simp only[gO,jq,go_sem, ↓reduceIte,Nat.reduceEqDiff,Nat.reduceAdd,Nat.reduceSub,Nat.reduceLeDiff,reduceCtorEq,List.length_cons]) ⟨⟨175003002,σ.next+1+1⟩,rfl,sd @Nat.zero_add,aQ,aQ,fun i hi=>?_⟩
 have hv:=dh hi
 simp only[go_sem, ↓reduceIte,Nat.reduceEqDiff,Nat.reduceAdd,Nat.reduceSub,Nat.reduceLeDiff,reduceCtorEq,hv]
theorem qW {t:Int} {bs:List PB} {j:Nat} (hj:j<bs.length):bx t (bs.take (j+1))=bx t (bs.take j)++if decide (bs[j].s<t)=true then[]else[bs[j]]:=by
 rw[xq t bs j hj]
 congr 1
 by_cases h:bs[j].s<t
 ·rw[if_neg ah,if_pos (decide_eq_true h)]
 ·rw[if_pos ah,if_neg (by simp only[decide_eq_true_eq];exact h)]
theorem xp {t:Int} {bs:List PB} (h:∀b∈bs,¬b.s<t):bx t bs=bs:=by
 unfold bx
 rw[List.filter_eq_self]
 intro b hb
 have:=h b hb
 exact decide_eq_true ah
structure xr (t:Int) (bs:List PB) (j:Nat) (R:List PB):Prop where
 len:R.length=bs.length
 pre:R.take (bx t (bs.take j)).length=bx t (bs.take j)
 post:∀x,j<=x->R[x]? =bs[x]?
 lt:(bx t (bs.take j)).length<j
theorem xr.start {t:Int} {bs:List PB} {i:Nat} (hi:i<bs.length) (hw:bs[i].s<t) (hp:∀x (h:x<i),¬bs[x].s<t):xr t bs (i+1) bs/\(bx t (bs.take (i+1))).length=i:=by
 have h1:bx t (bs.take i)=bs.take i:=xp fun b hb=>by
  obtain⟨x,hx,rfl⟩:=List.getElem_of_mem hb
  rw[List.length_take]at hx
  rw[List.getElem_take]
  exact hp x ah
 have h2:bx t (bs.take (i+1))=bs.take i:=by rw[qW hi,if_pos (decide_eq_true hw),List.append_nil,h1]
 have h3:(bs.take i).length=i:=by rw[List.length_take];omega
 exact⟨⟨rfl,by rw[h2,h3],fun _ _=>rfl,by rw[h2,h3];omega⟩,by rw[h2,h3]⟩
theorem xr.weak {t:Int} {bs R:List PB} {j:Nat} (h:xr t bs j R) (hj:j<bs.length) (hw:bs[j].s<t):xr t bs (j+1) R/\(bx t (bs.take (j+1))).length=(bx t (bs.take j)).length:=by
 have h2:bx t (bs.take (j+1))=bx t (bs.take j):=by rw[qW hj,if_pos (decide_eq_true hw),List.append_nil]
 exact⟨⟨h.len,by rw[h2];exact h.pre,fun x hx=>h.post x ah,by rw[h2];have:=h.lt;omega⟩,by rw[h2]⟩
theorem xr.uF {t:Int} {bs R:List PB} {j:Nat} (h:xr t bs j R) (hj:j<bs.length) (hw:¬bs[j].s<t):xr t bs (j+1) (R.set (bx t (bs.take j)).length bs[j])/\(bx t (bs.take (j+1))).length=(bx t (bs.take j)).length+1:=by
 have h2:bx t (bs.take (j+1))=bx t (bs.take j)++[bs[j]]:=by rw[qW hj,if_neg (by simp only[decide_eq_true_eq];exact hw)]
 have eW:=h.lt
 have hlen:=h.len
 have Ap:=h.pre
 generalize hc:(bx t (bs.take j)).length=c at *
 refine⟨⟨by rw[List.length_set];exact hlen,?_,fun x hx=>?_,by rw[h2,List.length_append,hc];simp;omega⟩,by rw[h2,List.length_append,hc];rfl⟩
 ·rw[h2,List.length_append,hc,List.length_singleton,List.take_succ_eq_append_getElem (by rw[List.length_set];omega),List.getElem_set_self,List.take_set_of_le (Nat.le_refl _),Ap]
 ·rw[List.getElem?_set_ne ah];exact h.post x ah
theorem xr.at_ {t:Int} {bs R:List PB} {j:Nat} (h:xr t bs j R) (hj:j<bs.length):(R.map aP)[j]? =some (aP bs[j]):=by
 rw[List.getElem?_map,h.post j (Nat.le_refl j),List.getElem?_eq_getElem hj];rfl
theorem Gx {p:PB->Bool} {bs:List PB} (h:¬0<=lL p bs):∀b∈bs,p b=false:=by
 intro b hb
 unfold lL at h
 split at h
 ·omega
 ·rename_i h1
  rw[List.findIdx_lt_length]at h1
  cases hp:p b
  ·rfl
  ·exact absurd ⟨b,hb,hp⟩ h1
theorem Gy {p:PB->Bool} {bs:List PB} (h:0<=lL p bs):∃i,∃hi:i<bs.length,lL p bs=(i:Int)/\p bs[i]=true/\∀x (hx:x<i),p (bs[x]'ah)=false:=by
 unfold lL at h ⊢
 split
 ·rename_i h1
  exact⟨bs.findIdx p,h1,rfl,List.findIdx_getElem,fun x hx=>by simpa using List.not_of_lt_findIdx hx⟩
 ·rename_i h1;rw[if_neg h1]at h;omega
theorem Jt (bs:List PB) (t:Int) (hl:bs.length<=1048576) (o T:Id) (σ:az) (ho:σ.get o=some ⟨true,3,bs.map aP⟩) (hT:σ.get T=some ⟨true,1,[[.int .i64 t]]⟩) (vD:o.bj<σ.next) (SL:T.bj<σ.next) (VH:o≠T):
  Call Tryz.prog 174 [.own o 0 bs.length,.fn 176 [.ptr T 0 0]] σ fun r σ'=>∃rows,r=.own o 0 (bx t bs).length/\σ'.get o=some ⟨true,3,rows⟩/\rows.take (bx t bs).length=(bx t bs).map aP/\(bx t bs).length<=rows.length/\σ.next<=σ'.next/\∀i:Id,i.bj<σ.next->i≠o->σ'.get i=σ.get i:=by
 refine hZ fR rfl fun gZ=>?_
 clear gZ
 have F2:=Bh bs t hl
 have hzT:∀(g:Rows),g T=some ⟨true,1,[[.int .i64 t]]⟩->V.fz (eL g) 5 (.ptr T 0 0)=some (.dF [.int .i64 t]):=fun g hg=>s9 (sz:=1) (rows:=[[.int .i64 t]]) (by simp[eL,hg]) rfl (by simp only[List.drop_zero,ar,ax,aW,Option.map_some])
 have Bg:∀(g:Rows),g T=some ⟨true,1,[[.int .i64 t]]⟩->g o=some ⟨true,3,bs.map aP⟩->eI (eL g) 6 [.own o 0 bs.length,.fn 176 [.ptr T 0 0]]=some [.sl (bs.map aP),.fn 176 [.dF [.int .i64 t]]]:=fun g h1 h2=>by
  have q1:=kM (g:=eL g) (n:=5) (e:=aP) (sz:=3) (len:=bs.length) (l:=bs) (id:=o) (by simp[eL,h2]) rfl fun b=>Cl _ 4 b
  have q2:=hzT g h1
  simp only[ar,ax,q1,cQ,List.all_cons,List.all_nil,AV.cell,Bool.and_true,if_true,q2,Option.map_some]
 have qJ:∀(g:Rows),g T=some ⟨true,1,[[.int .i64 t]]⟩->∀b:PB,eI (eL g) 6 [.agg (aP b),.ptr T 0 0]=some [.agg (aP b),.dF [.int .i64 t]]:=fun g h1 b=>by
  have q3:V.fz (eL g) 6 (.ptr T 0 0)=some (.dF [.int .i64 t]):=s9 (sz:=1) (rows:=[[.int .i64 t]]) (by simp[eL,h1]) rfl (by simp only[List.drop_zero,ar,ax,aW,Option.map_some])
  simp only[ar,ax,bH,Cl,q3,Option.map_some]
 (try((repeat(revert N;apply Pn.out));refine wk @Nat.zero_add ?_;(repeat(apply Pn.mk;intro N Z))))
 refine .inl ⟨_,ay.x F2 (Bg _ hT ho),?_⟩
 apply Z
 clear Z N
 by_cases h0:0<=lL (fun b:PB=>decide (b.s<t)) bs
 ·obtain⟨i,hi,G1,hpi,Te⟩:=Gy h0
  rw[G1]at *
  have Pu:decide ((i:Int)= -1)=false:=decide_eq_false ah
  have XC:IntKind.i64.wrap ((i:Int)+1)=((i+1:Nat):Int):=aK ah
  obtain⟨eA,z6⟩:=xr.start (t:=t) hi (by simpa using hpi) (fun x hx=>by simpa using Te x hx)
  (try((repeat(revert N;apply Pn.out));refine wk (tw @Pu @XC) ?_;(repeat(apply Pn.mk;intro N Z))))
  refine bz (fun m env st=>∃(j:Nat) (R:List PB),m=bs.length-j/\env 6=.int .i64 (j:Int)/\env 5=.int .i64 ((bx t (bs.take j)).length:Int)/\st.get o=some ⟨true,3,R.map aP⟩/\xr t bs j R/\j<=bs.length/\σ.next<=st.next/\∀x:Id,x.bj<σ.next->(x=o)=False->st.get x=σ.get x) (bs.length-(i+1)) ⟨i+1,bs,rfl,sd @XC,sd @z6,sd @ho,eA,ah,aQ,fun x _ _=>sd @Nat.zero_add⟩ ?_
  rintro m env_b st_b ⟨j,R,rfl,b6,b5,bg,hD,iH,hle,jP⟩ fo
  have b0:=fo 0 (by kernel_rfl)
  have b1:=fo 1 (by kernel_rfl)
  simp only[go_sem, ↓reduceIte,Nat.reduceEqDiff,Nat.reduceAdd,Nat.reduceSub,Nat.reduceLeDiff,reduceCtorEq]at b0 b1
  clear fo
  have bT:=(jP T SL (by simp only[eq_iff_iff,iff_false];exact fun h=>VH h.symm)).trans hT
  have l5:=dh (i:=o) (n:=st_b.next) ah
  have hvT:=dh (i:=T) (n:=st_b.next) ah
  have hRl:=hD.len
  have hRm:(R.map aP).length=bs.length:=by rw[List.length_map,hRl]
  have eW:=hD.lt
  by_cases hj:(j:Int)<(bs.length:Int)
  ·have nk:j<bs.length:=ah
   have Cu:=hD.at_ nk
   have To:=NN bs[j] t
   have Zf:IntKind.i64.wrap ((j:Int)+1)=((j+1:Nat):Int):=aK ah
   have hD1:=hD.weak nk
   have hD2:=hD.uF nk
   generalize bs[j]=b at *
   (try((repeat(revert N;apply Pn.out));refine wk (tw @b0 (tw @b1 (tw @b5 (tw @b6 (tw @bg (tw @hj (tw @Cu (tw @aP.eq_1 (tw @l5 (tw @hvT @hRm)))))))))) ?_;(repeat(apply Pn.mk;intro N Z))))
   refine .inl ⟨_,ay.x To (qJ _ (sd (tw @hvT @bT)) b),?_⟩
   apply Z
   clear Z N
   by_cases hw:b.s<t
   ·obtain⟨Z9,Z8⟩:=hD1 hw
    have hd:decide (b.s<t)=true:=decide_eq_true hw
    (try((repeat(revert N;apply Pn.out));refine wk (tw @b0 (tw @b1 (tw @b5 (tw @b6 (tw @hd @Zf))))) ?_;(repeat(apply Pn.mk;intro N Z))))
    refine⟨_,?_,j+1,R,rfl,sd @Zf,sd (tw @b5 @Z8),sd (tw @bg @l5),Z9,ah,aQ,fun x hx Dw=>?_⟩
    ·omega
    ·have VM:=dh (i:=x) (n:=st_b.next) ah
     have:=jP x hx Dw
     simp only[go_sem, ↓reduceIte,Nat.reduceEqDiff,Nat.reduceAdd,Nat.reduceSub,Nat.reduceLeDiff,reduceCtorEq,VM,this]
   ·obtain⟨Z9,Z8⟩:=hD2 hw
    have hd:decide (b.s<t)=false:=decide_eq_false hw
    have YN:((bx t (bs.take j)).length:Int)<(bs.length:Int):=ah
    have hwc:IntKind.i64.wrap (((bx t (bs.take j)).length:Int)+1)=(((bx t (bs.take j)).length+1:Nat):Int):=aK ah
    have fx:(R.map aP).set (bx t (bs.take j)).length [.int .i64 (b.a:Int),.int .i64 (b.b:Int),.int .i64 b.s]=(R.set (bx t (bs.take j)).length b).map aP:=by rw[List.map_set];rfl
    have Rj:∃y,(R.map aP)[(bx t (bs.take j)).length]? =some (aP y):=⟨R[(bx t (bs.take j)).length]'ah,by rw[List.getElem?_map,List.getElem?_eq_getElem ah];rfl⟩
    obtain⟨y,Rj⟩:=Rj
    rw[aP]at Rj
    (try((repeat(revert N;apply Pn.out));refine wk (tw @b0 (tw @b1 (tw @b5 (tw @b6 (tw @bg (tw @hd (tw @Zf (tw @hwc (tw @YN (tw @fx (tw @Rj (tw @l5 (tw @hvT @hRm))))))))))))) ?_;(repeat(apply Pn.mk;intro N Z))))
    refine⟨_,?_,j+1,_,rfl,sd @Zf,sd (tw @hwc @Z8),sd @fx,Z9,ah,aQ,fun x hx Dw=>?_⟩
    ·omega
    ·have VM:=dh (i:=x) (n:=st_b.next) ah
     have:=jP x hx Dw
     simp only[go_sem, ↓reduceIte,Nat.reduceEqDiff,Nat.reduceAdd,Nat.reduceSub,Nat.reduceLeDiff,reduceCtorEq,VM,this,Dw]
  ·have iH:j=bs.length:=ah
   subst iH
   have Ap:=hD.pre
   rw[List.take_length]at b5 eW Ap
   have YN:((bx t bs).length:Int)<=(bs.length:Int):=ah
   have YO:(bx t bs).length<=bs.length:=ah
   have qI:(bx t bs).length+(bs.length-(bx t bs).length)=bs.length:=ah
   have z6:=pf t bs
   (try((repeat(revert N;apply Pn.out));refine wk (tw @b0 (tw @b1 (tw @b5 (tw @b6 (tw @bg (tw @hj (tw @hRm (tw @YN (tw @YO (tw @qI (tw @Nat.le_refl (tw @Nat.sub_zero (tw @Int.le_refl @l5))))))))))))) ?_;(repeat(apply Pn.mk;intro N Z))))
   refine fV (.inl rfl) (vs:=[.own o 0 (bx t bs).length]) (sd @Nat.zero_add) ⟨_,rfl,by simp only[go_sem, ↓reduceIte,Nat.reduceEqDiff,Nat.reduceAdd,Nat.reduceSub,Nat.reduceLeDiff,reduceCtorEq];rfl,?_,?_,aQ,fun x hx Dw=>?_⟩
   ·have hm:List.take (bx t bs).length (List.map aP R)=(bx t bs).map aP:=by rw[<-List.map_take,Ap]
    rw[hm,List.append_assoc,List.take_append_of_le_length (by simp),List.take_of_length_le (by simp)]
   ·have hm:List.take (bx t bs).length (List.map aP R)=(bx t bs).map aP:=by rw[<-List.map_take,Ap]
    rw[hm]
    simp only[List.length_append,List.length_map]
    omega
   ·have XE:(x=o)=False:=by simp only[eq_iff_iff,iff_false];exact Dw
    have:=jP x hx XE
    simp only[go_sem, ↓reduceIte,Nat.reduceEqDiff,Nat.reduceAdd,Nat.reduceSub,Nat.reduceLeDiff,reduceCtorEq,XE,this]
 ·have hn:=Gx h0
  have eA:=xp (t:=t) (bs:=bs) fun b hb=>by simpa using hn b hb
  have hd:decide (lL (fun b:PB=>decide (b.s<t)) bs= -1)=true:=decide_eq_true (by
   unfold lL at h0 ⊢
   split
   ·rename_i h;rw[if_pos h]at h0;omega
   ·rfl)
  (try((repeat(revert N;apply Pn.out));refine wk @hd ?_;(repeat(apply Pn.mk;intro N Z))))
  refine fV (.inl rfl) (vs:=[.own o 0 bs.length]) (sd @Nat.zero_add) ⟨bs.map aP,by rw[eA];rfl,sd @ho,by rw[eA,List.take_of_length_le (by simp)],by rw[eA];simp,aQ,fun x _ _=>rfl⟩
def C6 (bs:List PB):AV:=if bs=[]then .br else .sl (bs.map aP)
theorem Qp:C6 []=.br:=rfl
theorem C7 {bs:List PB} (h:0<bs.length):C6 bs=.sl (bs.map aP):=by
 unfold C6
 rw[if_neg (by rintro rfl;simp at h)]
theorem Ai (cnt:Nat) (we:1<=cnt) (hn:cnt<=1048576) (bs:List PB) (hb:∀b∈bs,b.a<cnt/\b.b<cnt) (hp:0<bs.length) (iD:bs.length<=1048576) (t:Int):ay Tryz.prog 148 [.int .i64 cnt,.sl (bs.map aP),.int .i64 t] (.gM [.int .i64 (leads cnt (ft (bx t bs))).length,C6 (eF (ft (bx t bs)) bs)]):=by
 refine ay.body fR rfl fun hl n0=>?_
 clear hl
 (try((repeat(revert N;apply Pn.out));refine wk @Nat.zero_add ?_;(repeat(apply Pn.mk;intro N Z))))
 refine .inr (aE _ _ _ _ _ (fun r σ1 hq=>?_) (LG bs hp iD _))
 obtain⟨o,rfl,ho,Pw,Px,W7⟩:=hq
 (try dsimp only at ho Pw Px W7)
 apply Z
 clear Z N
 (try((repeat(revert N;apply Pn.out));refine wk @Nat.zero_add ?_;(repeat(apply Pn.mk;intro N Z))))
 refine .inr (aE _ _ _ _ _ (fun r σ2 hq=>?_) (Jt bs t iD o ⟨148000000,n0⟩ _ ho (by rw[W7 _ aQ];simp only[go_sem, ↓reduceIte,Nat.reduceEqDiff,Nat.reduceAdd,Nat.reduceSub,Nat.reduceLeDiff,reduceCtorEq]) aQ aQ (by rintro rfl;simp only at Pw;omega)))
 obtain⟨rows,rfl,fy,hrt,x8,oL,L9⟩:=hq
 (try dsimp only at oL L9)
 apply Z
 clear Z N
 have K4:=yR cnt we hn (bx t bs) (fun b h=>hb b (zO h)) (by have:=pf t bs;omega)
 have hL:=xg (bx t bs)
 have hz:∀x,eI (eL σ2.get) 6 [.int .i64 x,.own o 0 (bx t bs).length]=some [.int .i64 x,.sl ((bx t bs).map aP)]:=fun x=>by
  have:V.fz (eL σ2.get) 6 (.own o 0 (bx t bs).length)=some (.sl ((bx t bs).map aP)):=by
   rw[ju];simp only[eL,fy,Option.map_some,if_true]
   rw[if_pos ah,List.drop_zero,hrt,oH fun b=>Cl _ 4 b];rfl
  simp only[ar,ax,aW,this,Option.map_some]
 (try((repeat(revert N;apply Pn.out));refine wk @Nat.zero_add ?_;(repeat(apply Pn.mk;intro N Z))))
 refine .inl ⟨_,ay.x K4 (hz _),?_⟩
 apply Z
 clear Z N
 generalize ft (bx t bs)=L at *
 have vp:((gN cnt L).map Dq).length=(leads cnt L).length:=by simp[gN]
 have Y0:=kQ cnt L
 have kG:(0:Int)<=(cnt:Int):=ah
 have pI:(cnt:Int)<=((16777216:Nat):Int):=ah
 have iF:List.replicate cnt [AV.int .i64 0]=eO (dM cnt L 0 0) cnt:=by rw[zR,qN]
 (try((repeat(revert N;apply Pn.out));refine wk (tw @kG (tw @pI (tw @Int.le_refl (tw @vp @iF)))) ?_;(repeat(apply Pn.mk;intro N Z))))
 refine bz (fun n env st=>∃i:Nat,n=((leads cnt L).length)-i/\i<=((leads cnt L).length)/\env 27=.int .i64 (i:Int)/\st.get ⟨148002001,σ2.next+1⟩=some ⟨true,1,eO (dM cnt L i 0) cnt⟩/\(σ2.next+1<st.next)) ((leads cnt L).length) ⟨0,ah,ah,sl (tw @iF @vp),sl (tw @iF @vp),aQ⟩ ?_
 rintro n_c env_c st_c ⟨i,rfl,cle,c27,cg0,cI0⟩ il
 have c1:=il 1 (by kernel_rfl);have c8:=il 8 (by kernel_rfl);have c9:=il 9 (by kernel_rfl);have Ae:=il 25 (by kernel_rfl);have Af:=il 26 (by kernel_rfl)
 simp only[go_sem, ↓reduceIte,Nat.reduceEqDiff,Nat.reduceAdd,Nat.reduceSub,Nat.reduceLeDiff,reduceCtorEq,iF,vp]at c1 c8 c9 Ae Af
 clear il
 by_cases hi:(i:Int)<((leads cnt L).length:Int)
 ·have fJ:∀{e:Env} {gg:Rows} {nx:Nat},(e 27=.int .i64 (IntKind.i64.wrap ((i:Int)+1)))->(gg ⟨148002001,σ2.next+1⟩=some ⟨true,1,eO (dM cnt L (i+1) 0) cnt⟩)->(σ2.next+1<nx)->∃m0,m0<((leads cnt L).length)-i/\∃i:Nat,m0=((leads cnt L).length)-i/\i<=((leads cnt L).length)/\e 27=.int .i64 (i:Int)/\gg ⟨148002001,σ2.next+1⟩=some ⟨true,1,eO (dM cnt L i 0) cnt⟩/\(σ2.next+1<nx):=fun x1 x2 x3=>⟨_,ah,i+1,rfl,ah,(by rw[x1,aK ah]),x2,x3⟩
  have fZ:i<(leads cnt L).length:=ah
  have iZ:((gN cnt L).map Dq)[i]? =some (Dq (members cnt L (leads cnt L)[i])):=by simp[gN,fZ]
  have rz:(leads cnt L).getD i 0=(leads cnt L)[i]:=by simp[List.getD_eq_getElem?_getD,fZ]
  have mO:∀m,dM cnt L i m=fun x=>if di L x<i then di L x else if x∈(members cnt L (leads cnt L)[i]).take m then i else 0:=fun m=>by unfold dM;rw[rz]
  have uv:=fun x (hx:x<cnt)=>wu hL (n:=cnt) (k:=x) (i:=i) hx fZ
  have pU:(members cnt L (leads cnt L)[i]).Nodup:=List.nodup_range.filter _
  have S7:∀x∈members cnt L (leads cnt L)[i],x<cnt:=fun x hx=>(nq.1 hx).1
  have hMc:(members cnt L (leads cnt L)[i]).length<=cnt:=by
   have:=List.length_filter_le (fun k=>L k==(leads cnt L)[i]) (List.range cnt)
   simpa[members]using this
  generalize members cnt L (leads cnt L)[i]=M at *
  have F0:(M.map eN).length=M.length:=by simp
  (try((repeat(revert N;apply Pn.out));refine wk (tw @c27 (tw @cg0 (tw @c1 (tw @c8 (tw @c9 (tw @Ae (tw @Af (tw @hi (tw @vp (tw @iZ (tw @Dq.eq_1 @F0))))))))))) ?_;(repeat(apply Pn.mk;intro N Z))))
  refine bz (fun n env st=>∃m:Nat,n=(M.length)-m/\m<=(M.length)/\env 34=.int .i64 (m:Int)/\st.get ⟨148002001,σ2.next+1⟩=some ⟨true,1,eO (dM cnt L i m) cnt⟩/\(σ2.next+1<st.next)) (M.length) ⟨0,ah,ah,sl (tw @c27 (tw @cg0 (tw @c1 (tw @c8 (tw @c9 (tw @Ae (tw @Af @F0))))))),sl (tw @c27 (tw @cg0 (tw @c1 (tw @c8 (tw @c9 (tw @Ae (tw @Af @F0))))))),aQ⟩ ?_
  rintro n_d env_d st_d ⟨m,rfl,dle,d34,dg0,dI0⟩ dfr
  have d1:=dfr 1 (by kernel_rfl);have d8:=dfr 8 (by kernel_rfl);have d9:=dfr 9 (by kernel_rfl);have d10:=dfr 10 (by kernel_rfl);have d25:=dfr 25 (by kernel_rfl);have d26:=dfr 26 (by kernel_rfl);have d27:=dfr 27 (by kernel_rfl);have d32:=dfr 32 (by kernel_rfl);have d33:=dfr 33 (by kernel_rfl)
  simp only[go_sem, ↓reduceIte,Nat.reduceEqDiff,Nat.reduceAdd,Nat.reduceSub,Nat.reduceLeDiff,reduceCtorEq,c27,cg0,c1,c8,c9,Ae,Af,F0]at d1 d8 d9 d10 d25 d26 d27 d32 d33
  clear dfr
  have tl:=iA (dM cnt L i m) cnt
  by_cases hm:(m:Int)<(M.length:Int)
  ·have xj:∀{e:Env} {gg:Rows} {nx:Nat},(e 34=.int .i64 (IntKind.i64.wrap ((m:Int)+1)))->(gg ⟨148002001,σ2.next+1⟩=some ⟨true,1,eO (dM cnt L i (m+1)) cnt⟩)->(σ2.next+1<nx)->∃m0,m0<(M.length)-m/\∃m:Nat,m0=(M.length)-m/\m<=(M.length)/\e 34=.int .i64 (m:Int)/\gg ⟨148002001,σ2.next+1⟩=some ⟨true,1,eO (dM cnt L i m) cnt⟩/\(σ2.next+1<nx):=fun x1 x2 x3=>⟨_,ah,m+1,rfl,ah,(by rw[x1,aK ah]),x2,x3⟩
   have Cx:m<M.length:=ah
   have vz:(M.map eN)[m]? =some (eN M[m]):=by simp[Cx]
   have yZ:=S7 _ (List.getElem_mem Cx)
   have Ga:(M[m]:Int)<(cnt:Int):=ah
   have IC:=gF (f:=dM cnt L i m) yZ
   have fx:(eO (dM cnt L i m) cnt).set M[m] (eN i)=eO (dM cnt L i (m+1)) cnt:=rV yZ (by
    have h1:=(uv _ yZ).1 (List.getElem_mem Cx)
    rw[mO]
    simp only[]
    rw[if_neg ah,if_pos (by rw[List.take_succ_eq_append_getElem Cx];exact List.mem_append_right _ (List.mem_singleton.2 rfl))]) fun x hx ig=>by
    rw[mO,mO]
    simp only[]
    rw[List.take_succ_eq_append_getElem Cx]
    simp only[List.mem_append,List.mem_singleton,ig,or_false]
   rw[eN]at fx IC
   generalize M[m]=xm at *
   (try((repeat(revert N;apply Pn.out));refine wk (tw @d34 (tw @dg0 (tw @d1 (tw @d8 (tw @d9 (tw @d10 (tw @d25 (tw @d26 (tw @d27 (tw @d32 (tw @d33 (tw @hm (tw @hi (tw @vz (tw @F0 (tw @Ga (tw @IC (tw @tl (tw @fx @eN.eq_1))))))))))))))))))) ?_;(repeat(apply Pn.mk;intro N Z))))
   refine xj ?_ ?_ aQ
   all_goals simp only[go_sem, ↓reduceIte,Nat.reduceEqDiff,Nat.reduceAdd,Nat.reduceSub,Nat.reduceLeDiff,reduceCtorEq,d34,dg0,d1,d8,d9,d10,d25,d26,d27,d32,d33,fx]
  ·have gU:m=M.length:=ah
   subst gU
   have qb:eO (dM cnt L i M.length) cnt=eO (dM cnt L (i+1) 0) cnt:=je fun x hx=>by
    rw[mO,List.take_length]
    simp only[dM,List.take_zero,List.not_mem_nil,if_false]
    have h1:=uv x hx
    by_cases h2:di L x<i
    ·rw[if_pos h2,if_pos ah]
    ·rw[if_neg h2]
     by_cases h3:x∈M
     ·rw[if_pos h3,if_pos (by have:=h1.1 h3;omega),h1.1 h3]
     ·rw[if_neg h3,if_neg fun h4=>h3 (h1.2 ah)]
   (try((repeat(revert N;apply Pn.out));refine wk (tw @d34 (tw @dg0 (tw @d1 (tw @d8 (tw @d9 (tw @d10 (tw @d25 (tw @d26 (tw @d27 (tw @d32 (tw @d33 (tw @hm (tw @hi (tw @vp @F0)))))))))))))) ?_;(repeat(apply Pn.mk;intro N Z))))
   refine fJ ?_ ?_ aQ
   all_goals simp only[go_sem, ↓reduceIte,Nat.reduceEqDiff,Nat.reduceAdd,Nat.reduceSub,Nat.reduceLeDiff,reduceCtorEq,c27,cg0,c1,c8,c9,Ae,Af,d34,dg0,d1,d8,d9,d10,d25,d26,d27,d32,d33,qb]
 have lU:i=(leads cnt L).length:=ah
 subst lU
 have lV:eO (dM cnt L (leads cnt L).length 0) cnt=eO (di L) cnt:=je fun x hx=>by rw[dM,if_pos (lD hL hx)]
 rw[lV]at cg0
 have tl:=iA (di L) cnt
 have YK:(bs.map aP).length=bs.length:=by simp
 (try((repeat(revert N;apply Pn.out));refine wk (tw @c27 (tw @cg0 (tw @c1 (tw @c8 (tw @c9 (tw @Ae (tw @Af (tw @hi (tw @vp @YK))))))))) ?_;(repeat(apply Pn.mk;intro N Z))))
 have YO:σ2.next+1<st_c.next:=cI0
 refine bz (fun n env st=>∃j:Nat,n=(bs.length)-j/\j<=(bs.length)/\env 46=.int .i64 (j:Int)/\st.get ⟨148002001,σ2.next+1⟩=some ⟨true,1,eO (di L) cnt⟩/\(st_c.next<=st.next/\((eF L (bs.take j)=[]/\env 14=.br)∨∃p:Id,env 14=.own p 0 (eF L (bs.take j)).length/\st.get p=some ⟨true,3,(eF L (bs.take j)).map aP⟩/\st_c.next<=p.bj/\p.bj<st.next/\0<(eF L (bs.take j)).length))) (bs.length) ⟨0,ah,ah,sl (tw @c27 (tw @cg0 (tw @c1 (tw @c8 (tw @c9 (tw @Ae (tw @Af @YK))))))),sl (tw @c27 (tw @cg0 (tw @c1 (tw @c8 (tw @c9 (tw @Ae (tw @Af @YK))))))),⟨aQ,.inl ⟨rfl,by(simp only[go_sem, ↓reduceIte,Nat.reduceEqDiff,Nat.reduceAdd,Nat.reduceSub,Nat.reduceLeDiff,reduceCtorEq])⟩⟩⟩ ?_
 rintro n_f env_f st_f ⟨j,rfl,fle,f46,fg0,fI0⟩ ffr
 have f1:=ffr 1 (by kernel_rfl);have f8:=ffr 8 (by kernel_rfl);have f9:=ffr 9 (by kernel_rfl);have f44:=ffr 44 (by kernel_rfl);have f45:=ffr 45 (by kernel_rfl)
 simp only[go_sem, ↓reduceIte,Nat.reduceEqDiff,Nat.reduceAdd,Nat.reduceSub,Nat.reduceLeDiff,reduceCtorEq,c27,cg0,c1,c8,c9,Ae,Af,YK]at f1 f8 f9 f44 f45
 clear ffr
 obtain⟨VA,fO⟩:=fI0
 have JV:=dh (i:=⟨148002001,σ2.next+1⟩) (n:=st_f.next) aQ
 have z6:=(pe L (bs.take j)).1
 rw[List.length_take]at z6
 by_cases hj:(j:Int)<(bs.length:Int)
 ·have uL:∀{e:Env} {gg:Rows} {nx:Nat},(e 46=.int .i64 (IntKind.i64.wrap ((j:Int)+1)))->(gg ⟨148002001,σ2.next+1⟩=some ⟨true,1,eO (di L) cnt⟩)->(st_c.next<=nx/\((eF L (bs.take (j+1))=[]/\e 14=.br)∨∃p:Id,e 14=.own p 0 (eF L (bs.take (j+1))).length/\gg p=some ⟨true,3,(eF L (bs.take (j+1))).map aP⟩/\st_c.next<=p.bj/\p.bj<nx/\0<(eF L (bs.take (j+1))).length))->∃m0,m0<(bs.length)-j/\∃j:Nat,m0=(bs.length)-j/\j<=(bs.length)/\e 46=.int .i64 (j:Int)/\gg ⟨148002001,σ2.next+1⟩=some ⟨true,1,eO (di L) cnt⟩/\(st_c.next<=nx/\((eF L (bs.take j)=[]/\e 14=.br)∨∃p:Id,e 14=.own p 0 (eF L (bs.take j)).length/\gg p=some ⟨true,3,(eF L (bs.take j)).map aP⟩/\st_c.next<=p.bj/\p.bj<nx/\0<(eF L (bs.take j)).length)):=fun x1 x2 x3=>⟨_,ah,j+1,rfl,ah,(by rw[x1,aK ah]),x2,x3⟩
  have nk:j<bs.length:=ah
  have Cu:(bs.map aP)[j]? =some (aP bs[j]):=by simp[nk]
  have Ph:=hb _ (List.getElem_mem nk)
  have hs:=C3 L (bs.take j) bs[j]
  rw[<-List.take_succ_eq_append_getElem nk]at hs
  generalize bs[j]=b at *
  have hA:=gF (f:=di L) Ph.1
  have hB:=gF (f:=di L) Ph.2
  have iR:(b.a:Int)<(cnt:Int):=ah
  have gH:(b.b:Int)<(cnt:Int):=ah
  rw[eN]at hA hB
  have e1:(eF L (bs.take j)).length+1<=16777216:=ah
  have gU:((eF L (bs.take j)).map aP).length=(eF L (bs.take j)).length:=by simp
  by_cases he:di L b.a=di L b.b
  ·rw[if_pos he,List.append_nil]at hs
   have w7:decide ((di L b.a:Int)=(di L b.b:Int))=true:=decide_eq_true (by rw[he])
   (try((repeat(revert N;apply Pn.out));refine wk (tw @f46 (tw @fg0 (tw @f1 (tw @f8 (tw @f9 (tw @f44 (tw @f45 (tw @hj (tw @Cu (tw @hA (tw @hB (tw @iR (tw @gH (tw @tl (tw @w7 (tw @JV (tw @aP.eq_1 (tw @Bool.not_true @Bool.not_false)))))))))))))))))) ?_;(repeat(apply Pn.mk;intro N Z))))
   refine uL ?_ ?_ (by(try dsimp only);exact⟨ah,by
    rw[hs]
    rcases fO with⟨h1,h2⟩|⟨p,h1,h2,h3,h4,h5⟩
    ·exact .inl ⟨h1,sd @h2⟩
    ·have Dv:=dh h4
     exact .inr ⟨p,sd @h1,sd (tw @h2 @Dv),h3,ah,h5⟩⟩)
   all_goals simp only[go_sem, ↓reduceIte,Nat.reduceEqDiff,Nat.reduceAdd,Nat.reduceSub,Nat.reduceLeDiff,reduceCtorEq,f46,fg0,f1,f8,f9,f44,f45,JV]
  ·rw[if_neg he]at hs
   have w7:decide ((di L b.a:Int)=(di L b.b:Int))=false:=decide_eq_false fun h=>he ah
   rcases fO with⟨h1,f14⟩|⟨p,f14,fg,Tc,Iw,hp3⟩
   ·rw[h1]at hs
    (try((repeat(revert N;apply Pn.out));refine wk (tw @f46 (tw @fg0 (tw @f1 (tw @f8 (tw @f9 (tw @f44 (tw @f45 (tw @f14 (tw @hj (tw @Cu (tw @hA (tw @hB (tw @iR (tw @gH (tw @tl (tw @w7 (tw @JV (tw @aP.eq_1 (tw @Bool.not_true @Bool.not_false))))))))))))))))))) ?_;(repeat(apply Pn.mk;intro N Z))))
    refine uL ?_ ?_ (by(try dsimp only);exact⟨ah,.inr ⟨⟨148017015,st_f.next+1+1+1⟩,by rw[hs];simp only[go_sem, ↓reduceIte,Nat.reduceEqDiff,Nat.reduceAdd,Nat.reduceSub,Nat.reduceLeDiff,reduceCtorEq,List.nil_append,List.length_cons,List.length_nil],by rw[hs];simp only[go_sem, ↓reduceIte,Nat.reduceEqDiff,Nat.reduceAdd,Nat.reduceSub,Nat.reduceLeDiff,reduceCtorEq,aP,List.nil_append,List.map_cons,List.map_nil],aQ,aQ,by rw[hs];simp⟩⟩)
    all_goals simp only[go_sem, ↓reduceIte,Nat.reduceEqDiff,Nat.reduceAdd,Nat.reduceSub,Nat.reduceLeDiff,reduceCtorEq,f46,fg0,f1,f8,f9,f44,f45,JV]
   ·have x1:=dP (a:=⟨148002001,σ2.next+1⟩) (b:=p) aQ
    have Dv:=dh Iw
    (try((repeat(revert N;apply Pn.out));refine wk (tw @f46 (tw @fg0 (tw @f1 (tw @f8 (tw @f9 (tw @f44 (tw @f45 (tw @f14 (tw @fg (tw @hj (tw @Cu (tw @hA (tw @hB (tw @iR (tw @gH (tw @tl (tw @w7 (tw @x1 (tw @Dv (tw @JV (tw @e1 (tw @gU (tw @aP.eq_1 (tw @Bool.not_true @Bool.not_false)))))))))))))))))))))))) ?_;(repeat(apply Pn.mk;intro N Z))))
    refine uL ?_ ?_ (by(try dsimp only);exact⟨ah,.inr ⟨⟨148017015,st_f.next+1+1+1⟩,by rw[hs,List.length_append];simp only[go_sem, ↓reduceIte,Nat.reduceEqDiff,Nat.reduceAdd,Nat.reduceSub,Nat.reduceLeDiff,reduceCtorEq,List.length_cons,List.length_nil],by rw[hs,List.map_append,List.map_cons,List.map_nil];simp only[go_sem, ↓reduceIte,Nat.reduceEqDiff,Nat.reduceAdd,Nat.reduceSub,Nat.reduceLeDiff,reduceCtorEq,aP],aQ,aQ,by rw[hs];simp⟩⟩)
    all_goals simp only[go_sem, ↓reduceIte,Nat.reduceEqDiff,Nat.reduceAdd,Nat.reduceSub,Nat.reduceLeDiff,reduceCtorEq,f46,fg0,f1,f8,f9,f44,f45,x1,JV]
 ·have iH:j=bs.length:=ah
  subst iH
  rw[List.take_length]at fO
  rcases fO with⟨h1,f14⟩|⟨p,f14,fg,Tc,Iw,hp3⟩
  ·(try((repeat(revert N;apply Pn.out));refine wk (tw @f46 (tw @fg0 (tw @f1 (tw @f8 (tw @f9 (tw @f44 (tw @f45 (tw @f14 (tw @hj @vp))))))))) ?_;(repeat(apply Pn.mk;intro N Z))))
   refine km (.inl rfl) (r1:=.int .i64 ((leads cnt L).length:Int)) (sd @Nat.zero_add) (by simp only[go_sem, ↓reduceIte,Nat.reduceEqDiff,Nat.reduceAdd,Nat.reduceSub,Nat.reduceLeDiff,reduceCtorEq];rfl) ?_
   simp only[eR,bc,bY,dG,iN,h1,Qp,Option.map_some]
  ·(try((repeat(revert N;apply Pn.out));refine wk (tw @f46 (tw @fg0 (tw @f1 (tw @f8 (tw @f9 (tw @f44 (tw @f45 (tw @f14 (tw @hj @vp))))))))) ?_;(repeat(apply Pn.mk;intro N Z))))
   refine km (.inl rfl) (r1:=.int .i64 ((leads cnt L).length:Int)) (sd @Nat.zero_add) (by simp only[go_sem, ↓reduceIte,Nat.reduceEqDiff,Nat.reduceAdd,Nat.reduceSub,Nat.reduceLeDiff,reduceCtorEq];rfl) ?_
   have h1:iq st_f.get 5 (.own p 0 (eF L bs).length)=some (.sl ((eF L bs).map aP)):=eP (sz:=3) fg rfl fun b=>xU _ 3 b
   simp only[eR,bc,bY,dG,h1,C7 hp3,Option.map_some]
theorem Ah (cnt:Nat) (we:1<=cnt) (hn:cnt<=1048576) (t:Int):ay Tryz.prog 148 [.int .i64 cnt,.br,.int .i64 t] (.gM [.int .i64 cnt,.br]):=by
 refine ay.body fR rfl fun hl n0=>?_
 clear hl
 have h1:ay Tryz.prog 175 [.br] .br:=by
  refine ay.body fR rfl fun hl n0=>?_
  clear hl
  (try((repeat(revert N;apply Pn.out));refine wk @Nat.zero_add ?_;(repeat(apply Pn.mk;intro N Z))))
  exact uQ (.inl rfl) (r0:=.br) (sd @Nat.zero_add) (iN _ _)
 have h2:ay Tryz.prog 174 [.br,.fn 176 [.dF [.int .i64 t]]] .br:=by
  have F2:=(Bh [] t (by simp)).cut mixed (.br (.same _ .nil))
  refine ay.body fR rfl fun hl n0=>?_
  clear hl
  (try((repeat(revert N;apply Pn.out));refine wk @Nat.zero_add ?_;(repeat(apply Pn.mk;intro N Z))))
  refine .inl ⟨_,ay.x F2 (by simp only[ar,ax,aV,cQ,aU,List.all_cons,List.all_nil,AV.cell,Bool.and_true,if_true,Option.map_some]),?_⟩
  apply Z
  clear Z N
  have hd:decide (lL (fun b:PB=>decide (b.s<t)) []= -1)=true:=rfl
  (try((repeat(revert N;apply Pn.out));refine wk @hd ?_;(repeat(apply Pn.mk;intro N Z))))
  exact uQ (.inl rfl) (r0:=.br) (sd @Nat.zero_add) (iN _ _)
 have K4:=(yR cnt we hn [] (fun b h=>by cases h) (by simp)).cut mixed (.same _ (.br .nil))
 (repeat(first|((repeat(revert N;apply Pn.out));refine wk @Nat.zero_add ?_;(repeat(apply Pn.mk;intro N Z)))|((try apply Or.inl);refine⟨_,ay.x (h1) (sd @Nat.zero_add),?_⟩;apply Z;clear Z N)))
 refine .inl ⟨_,ay.x h2 ?_,?_⟩
 ·have:V.fz (eL (bL (fun _=>none) ⟨148000000,n0⟩ ⟨true,1,[[.int .i64 t]]⟩)) 5 (.ptr ⟨148000000,n0⟩ 0 0)=some (.dF [.int .i64 t]):=s9 (sz:=1) (rows:=[[.int .i64 t]]) (by simp[eL,bL]) rfl (by simp only[List.drop_zero,ar,ax,aW,Option.map_some])
  simp only[ar,ax,aV,cQ,this,List.all_cons,List.all_nil,AV.cell,Bool.and_true,if_true,Option.map_some]
 apply Z
 clear Z N
 have gH:ft ([]:List PB)=id:=rfl
 rw[gH]at K4
 have hL:kE id:=gH▸xg ([]:List PB)
 have VE:(leads cnt id).length=cnt:=by rw[leads,List.filter_eq_self.2 (fun a _=>by simp)];simp
 generalize (id:Nat->Nat)=L at *
 have vp:((gN cnt L).map Dq).length=(leads cnt L).length:=by simp[gN]
 have Y0:=kQ cnt L
 have kG:(0:Int)<=(cnt:Int):=ah
 have pI:(cnt:Int)<=((16777216:Nat):Int):=ah
 have iF:List.replicate cnt [AV.int .i64 0]=eO (dM cnt L 0 0) cnt:=by rw[zR,qN]
 (have zF:=tw @kG (tw @pI (tw @Int.le_refl (tw @vp @iF)));(repeat(first|((repeat(revert N;apply Pn.out));refine wk zF ?_;(repeat(apply Pn.mk;intro N Z)))|((try apply Or.inl);refine⟨_,ay.x (K4) (sd zF),?_⟩;apply Z;clear Z N)));try clear zF)
 refine bz (fun n env st=>∃i:Nat,n=((leads cnt L).length)-i/\i<=((leads cnt L).length)/\env 27=.int .i64 (i:Int)/\st.get ⟨148002001,n0+1+1⟩=some ⟨true,1,eO (dM cnt L i 0) cnt⟩/\(n0+1+1<st.next)) ((leads cnt L).length) ⟨0,ah,ah,sl (tw @iF @vp),sl (tw @iF @vp),aQ⟩ ?_
 rintro n_c env_c st_c ⟨i,rfl,cle,c27,cg0,cI0⟩ il
 have c1:=il 1 (by kernel_rfl);have c8:=il 8 (by kernel_rfl);have c9:=il 9 (by kernel_rfl);have Ae:=il 25 (by kernel_rfl);have Af:=il 26 (by kernel_rfl)
 simp only[go_sem, ↓reduceIte,Nat.reduceEqDiff,Nat.reduceAdd,Nat.reduceSub,Nat.reduceLeDiff,reduceCtorEq,iF,vp]at c1 c8 c9 Ae Af
 clear il
 by_cases hi:(i:Int)<((leads cnt L).length:Int)
 ·have fJ:∀{e:Env} {gg:Rows} {nx:Nat},(e 27=.int .i64 (IntKind.i64.wrap ((i:Int)+1)))->(gg ⟨148002001,n0+1+1⟩=some ⟨true,1,eO (dM cnt L (i+1) 0) cnt⟩)->(n0+1+1<nx)->∃m0,m0<((leads cnt L).length)-i/\∃i:Nat,m0=((leads cnt L).length)-i/\i<=((leads cnt L).length)/\e 27=.int .i64 (i:Int)/\gg ⟨148002001,n0+1+1⟩=some ⟨true,1,eO (dM cnt L i 0) cnt⟩/\(n0+1+1<nx):=fun x1 x2 x3=>⟨_,ah,i+1,rfl,ah,(by rw[x1,aK ah]),x2,x3⟩
  have fZ:i<(leads cnt L).length:=ah
  have iZ:((gN cnt L).map Dq)[i]? =some (Dq (members cnt L (leads cnt L)[i])):=by simp[gN,fZ]
  have rz:(leads cnt L).getD i 0=(leads cnt L)[i]:=by simp[List.getD_eq_getElem?_getD,fZ]
  have mO:∀m,dM cnt L i m=fun x=>if di L x<i then di L x else if x∈(members cnt L (leads cnt L)[i]).take m then i else 0:=fun m=>by unfold dM;rw[rz]
  have uv:=fun x (hx:x<cnt)=>wu hL (n:=cnt) (k:=x) (i:=i) hx fZ
  have pU:(members cnt L (leads cnt L)[i]).Nodup:=List.nodup_range.filter _
  have S7:∀x∈members cnt L (leads cnt L)[i],x<cnt:=fun x hx=>(nq.1 hx).1
  have hMc:(members cnt L (leads cnt L)[i]).length<=cnt:=by
   have:=List.length_filter_le (fun k=>L k==(leads cnt L)[i]) (List.range cnt)
   simpa[members]using this
  generalize members cnt L (leads cnt L)[i]=M at *
  have F0:(M.map eN).length=M.length:=by simp
  (try((repeat(revert N;apply Pn.out));refine wk (tw @c27 (tw @cg0 (tw @c1 (tw @c8 (tw @c9 (tw @Ae (tw @Af (tw @hi (tw @vp (tw @iZ (tw @Dq.eq_1 @F0))))))))))) ?_;(repeat(apply Pn.mk;intro N Z))))
  refine bz (fun n env st=>∃m:Nat,n=(M.length)-m/\m<=(M.length)/\env 34=.int .i64 (m:Int)/\st.get ⟨148002001,n0+1+1⟩=some ⟨true,1,eO (dM cnt L i m) cnt⟩/\(n0+1+1<st.next)) (M.length) ⟨0,ah,ah,sl (tw @c27 (tw @cg0 (tw @c1 (tw @c8 (tw @c9 (tw @Ae (tw @Af @F0))))))),sl (tw @c27 (tw @cg0 (tw @c1 (tw @c8 (tw @c9 (tw @Ae (tw @Af @F0))))))),aQ⟩ ?_
  rintro n_d env_d st_d ⟨m,rfl,dle,d34,dg0,dI0⟩ dfr
  have d1:=dfr 1 (by kernel_rfl);have d8:=dfr 8 (by kernel_rfl);have d9:=dfr 9 (by kernel_rfl);have d10:=dfr 10 (by kernel_rfl);have d25:=dfr 25 (by kernel_rfl);have d26:=dfr 26 (by kernel_rfl);have d27:=dfr 27 (by kernel_rfl);have d32:=dfr 32 (by kernel_rfl);have d33:=dfr 33 (by kernel_rfl)
  simp only[go_sem, ↓reduceIte,Nat.reduceEqDiff,Nat.reduceAdd,Nat.reduceSub,Nat.reduceLeDiff,reduceCtorEq,c27,cg0,c1,c8,c9,Ae,Af,F0]at d1 d8 d9 d10 d25 d26 d27 d32 d33
  clear dfr
  have tl:=iA (dM cnt L i m) cnt
  by_cases hm:(m:Int)<(M.length:Int)
  ·have xj:∀{e:Env} {gg:Rows} {nx:Nat},(e 34=.int .i64 (IntKind.i64.wrap ((m:Int)+1)))->(gg ⟨148002001,n0+1+1⟩=some ⟨true,1,eO (dM cnt L i (m+1)) cnt⟩)->(n0+1+1<nx)->∃m0,m0<(M.length)-m/\∃m:Nat,m0=(M.length)-m/\m<=(M.length)/\e 34=.int .i64 (m:Int)/\gg ⟨148002001,n0+1+1⟩=some ⟨true,1,eO (dM cnt L i m) cnt⟩/\(n0+1+1<nx):=fun x1 x2 x3=>⟨_,ah,m+1,rfl,ah,(by rw[x1,aK ah]),x2,x3⟩
   have Cx:m<M.length:=ah
   have vz:(M.map eN)[m]? =some (eN M[m]):=by simp[Cx]
   have yZ:=S7 _ (List.getElem_mem Cx)
   have Ga:(M[m]:Int)<(cnt:Int):=ah
   have IC:=gF (f:=dM cnt L i m) yZ
   have fx:(eO (dM cnt L i m) cnt).set M[m] (eN i)=eO (dM cnt L i (m+1)) cnt:=rV yZ (by
    have h1:=(uv _ yZ).1 (List.getElem_mem Cx)
    rw[mO]
    simp only[]
    rw[if_neg ah,if_pos (by rw[List.take_succ_eq_append_getElem Cx];exact List.mem_append_right _ (List.mem_singleton.2 rfl))]) fun x hx ig=>by
    rw[mO,mO]
    simp only[]
    rw[List.take_succ_eq_append_getElem Cx]
    simp only[List.mem_append,List.mem_singleton,ig,or_false]
   rw[eN]at fx IC
   generalize M[m]=xm at *
   (try((repeat(revert N;apply Pn.out));refine wk (tw @d34 (tw @dg0 (tw @d1 (tw @d8 (tw @d9 (tw @d10 (tw @d25 (tw @d26 (tw @d27 (tw @d32 (tw @d33 (tw @hm (tw @hi (tw @vz (tw @F0 (tw @Ga (tw @IC (tw @tl (tw @fx @eN.eq_1))))))))))))))))))) ?_;(repeat(apply Pn.mk;intro N Z))))
   refine xj ?_ ?_ aQ
   all_goals simp only[go_sem, ↓reduceIte,Nat.reduceEqDiff,Nat.reduceAdd,Nat.reduceSub,Nat.reduceLeDiff,reduceCtorEq,d34,dg0,d1,d8,d9,d10,d25,d26,d27,d32,d33,fx]
  ·have gU:m=M.length:=ah
   subst gU
   have qb:eO (dM cnt L i M.length) cnt=eO (dM cnt L (i+1) 0) cnt:=je fun x hx=>by
    rw[mO,List.take_length]
    simp only[dM,List.take_zero,List.not_mem_nil,if_false]
    have h1:=uv x hx
    by_cases h2:di L x<i
    ·rw[if_pos h2,if_pos ah]
    ·rw[if_neg h2]
     by_cases h3:x∈M
     ·rw[if_pos h3,if_pos (by have:=h1.1 h3;omega),h1.1 h3]
     ·rw[if_neg h3,if_neg fun h4=>h3 (h1.2 ah)]
   (try((repeat(revert N;apply Pn.out));refine wk (tw @d34 (tw @dg0 (tw @d1 (tw @d8 (tw @d9 (tw @d10 (tw @d25 (tw @d26 (tw @d27 (tw @d32 (tw @d33 (tw @hm (tw @hi (tw @vp @F0)))))))))))))) ?_;(repeat(apply Pn.mk;intro N Z))))
   refine fJ ?_ ?_ aQ
   all_goals simp only[go_sem, ↓reduceIte,Nat.reduceEqDiff,Nat.reduceAdd,Nat.reduceSub,Nat.reduceLeDiff,reduceCtorEq,c27,cg0,c1,c8,c9,Ae,Af,d34,dg0,d1,d8,d9,d10,d25,d26,d27,d32,d33,qb]
 have lU:i=(leads cnt L).length:=ah
 subst lU
 have lV:eO (dM cnt L (leads cnt L).length 0) cnt=eO (di L) cnt:=je fun x hx=>by rw[dM,if_pos (lD hL hx)]
 rw[lV]at cg0
 have tl:=iA (di L) cnt
 (try((repeat(revert N;apply Pn.out));refine wk (tw @c27 (tw @cg0 (tw @c1 (tw @c8 (tw @c9 (tw @Ae (tw @Af (tw @hi @vp)))))))) ?_;(repeat(apply Pn.mk;intro N Z))))
 refine bz (fun n env st=>∃j:Nat,n=(0)-j/\j<=(0)/\env 46=.int .i64 (j:Int)/\env 14=.br) (0) ⟨0,ah,ah,sl (tw @c27 (tw @cg0 (tw @c1 (tw @c8 (tw @c9 (tw @Ae @Af)))))),sl (tw @c27 (tw @cg0 (tw @c1 (tw @c8 (tw @c9 (tw @Ae @Af))))))⟩ ?_
 rintro n_f env_f st_f ⟨j,rfl,fle,f46,f14⟩ ffr
 have f8:=ffr 8 (by kernel_rfl);have f44:=ffr 44 (by kernel_rfl);have f45:=ffr 45 (by kernel_rfl)
 simp only[go_sem, ↓reduceIte,Nat.reduceEqDiff,Nat.reduceAdd,Nat.reduceSub,Nat.reduceLeDiff,reduceCtorEq,c27,cg0,c1,c8,c9,Ae,Af]at f8 f44 f45
 clear ffr
 have hj:¬(j:Int)<((0:Nat):Int):=ah
 (try((repeat(revert N;apply Pn.out));refine wk (tw @f46 (tw @f14 (tw @f8 (tw @f44 (tw @f45 (tw @hj @vp)))))) ?_;(repeat(apply Pn.mk;intro N Z))))
 refine km (.inl rfl) (r1:=.int .i64 ((leads cnt L).length:Int)) (r2:=.br) (sd @Nat.zero_add) (sd @Nat.zero_add) ?_
 simp only[eR,bc,bY,dG,iN,VE,Option.map_some]
theorem Ch (cnt:Nat) (we:1<=cnt) (hn:cnt<=1048576) (bs:List PB) (hb:∀b∈bs,b.a<cnt/\b.b<cnt) (iD:bs.length<=1048576) (t:Int):ay Tryz.prog 148 [.int .i64 cnt,C6 bs,.int .i64 t] (.gM [.int .i64 (leads cnt (ft (bx t bs))).length,C6 (eF (ft (bx t bs)) bs)]):=by
 cases bs with
 |nil=>
  have h:=Ah cnt we hn t
  have VE:(leads cnt (ft (bx t []))).length=cnt:=by
   show(leads cnt id).length=cnt
   rw[leads,List.filter_eq_self.2 (fun a _=>by simp)];simp
  rw[VE]
  exact h
 |cons b r=>
  rw[C7 (by simp)]
  exact Ai cnt we hn (b::r) hb (by simp) iD t
end Go.Proofs.YtiabgllilcfheaaGreat.V

namespace Go.Proofs.YtiabgllilcfheaaGreat.V
open Go.RowKit
attribute [local irreducible] eC wpOps gi Call
attribute [local go_sem] aM fP fa fX fW du upd cz K.av cP AV.cells AV.cell rowOf rowsOf part ld rowAt bL cu dK eb gK bP de eu fS fq dx ef db da dR dS bU bf cU bR cW cV dW eh ee cR bW dd ec bQ aL cY cH gJ bF cL bV aY dr bq dL AV.undef bJ bK dV dY dQ dU cK er ez cF ej ei cX cZ List.getD_cons_zero List.getD_cons_succ List.getD_nil List.all_cons List.all_nil Bool.and_true Bool.true_and Bool.and_self Bool.not_true Bool.not_false Option.map_some Option.map_none Option.bind_some Option.bind_none List.length_cons List.length_nil List.take_succ_cons List.take_zero List.take_nil List.drop_succ_cons List.drop_zero List.drop_nil List.head?_cons List.map_cons List.map_nil List.getElem?_cons_zero List.getElem?_cons_succ List.cons_append List.nil_append List.append_nil List.length_map List.set_cons_zero List.set_cons_succ Nat.reduceMul eq_self Int.toNat_natCast Int.natCast_nonneg and_self true_and and_true decide_true decide_false Bool.false_eq_true Nat.zero_add Nat.add_zero List.contains_cons List.contains_nil Bool.or_false Bool.false_or beq_self_eq_true Nat.reduceBEq ne_eq not_true_eq_false not_false_eq_true Id.mk.injEq false_and and_false Nat.reduceLT Int.reduceLE Int.reduceLT Int.reduceToNat Int.reduceNeg Int.reduceAdd Nat.le_refl List.length_append beq_true beq_false Bool.not_eq_eq_eq_not or_false false_or eL ar ax aW bp bZ cw aV bH aU bh cQ bI
attribute [local go_sem] I5
section
attribute [-go_sem] dK
theorem P6 (n:Nat) (hn:n<=1048576):ay Tryz.prog 200 [.int .u64 1,.int .u64 n] (.gM [.int .u64 0,.int .u64 n]):=by
 refine ay.body fR rfl fun hl n0=>?_
 clear hl
 have b1:(BitVec.ofInt 64 (n:Int)&&& BitVec.ofInt 64 4294967295).toNat=n:=by
  rw[BitVec.toNat_and]
  have e1:(BitVec.ofInt 64 (n:Int)).toNat=n:=by rw[BitVec.toNat_ofInt];omega
  have e2:(BitVec.ofInt 64 4294967295).toNat=2 ^ 32-1:=by decide
  rw[e1,e2]
  exact Nat.and_two_pow_sub_one_of_lt_two_pow ah
 have zn:IntKind.u64.wrap (n:Int)=n:=by rw[IntKind.wrap_u64];omega
 have i1:dK .and .u64 (n:Int) 4294967295=some (.int .u64 n):=by
  show some (AV.int .u64 (IntKind.u64.wrap (((BitVec.ofInt 64 (n:Int)&&& BitVec.ofInt 64 4294967295).toNat:Nat):Int)))= _
  rw[b1,zn]
 have i2:dK .and .u64 1 4294967295=some (.int .u64 1):=rfl
 have i3:dK .and .u64 0 4294967295=some (.int .u64 0):=rfl
 have i4:dK .mul .u64 1 (n:Int)=some (.int .u64 n):=by simp only[dK,Int.one_mul,zn]
 have i5:dK .mul .u64 0 (n:Int)=some (.int .u64 0):=by simp only[dK,Int.zero_mul];rfl
 have i6:dK .mul .u64 1 0=some (.int .u64 0):=rfl
 have i7:dK .mul .u64 0 0=some (.int .u64 0):=rfl
 have i8:dK .add .u64 0 0=some (.int .u64 0):=rfl
 have a3:Int.fdiv 1 (2 ^ min 32 64)=0:=by decide
 have a4:Int.fdiv (n:Int) (2 ^ min 32 64)=0:=by
  rw[Int.fdiv_eq_ediv_of_nonneg _ (by decide)]
  have h32:(2:Int) ^ min 32 64=4294967296:=by decide
  exact Int.ediv_eq_zero_of_lt ah ah
 have z1:Int.fdiv 0 (2 ^ min 32 64)=0:=by decide
 (try((repeat(revert N;apply Pn.out));refine wk (tw @i1 (tw @i2 (tw @i3 (tw @i4 (tw @i5 (tw @i6 (tw @i7 (tw @i8 (tw @a3 (tw @a4 @z1)))))))))) ?_;(repeat(apply Pn.mk;intro N Z))))
 refine km (.inl rfl) (r1:=.int .u64 0) (r2:=.int .u64 n) (sd @Nat.zero_add) (sd @Nat.zero_add) ?_
 simp only[eR,bc,bY,dG,Option.map_some]
end
theorem XQ (n:Nat) (hn:n<=1048576):ay Tryz.prog 198 [.int .u64 1,.int .u64 n] (.gM [.int .u64 0,.int .u64 n]):=by
 refine ay.body fR rfl fun hl n0=>?_
 clear hl
 have h:=P6 n hn
 (repeat(first|((repeat(revert N;apply Pn.out));refine wk @Nat.zero_add ?_;(repeat(apply Pn.mk;intro N Z)))|((try apply Or.inl);refine⟨_,ay.x (h) (sd @Nat.zero_add),?_⟩;apply Z;clear Z N)))
 refine km (.inl rfl) (r1:=.int .u64 0) (r2:=.int .u64 n) (sd @Nat.zero_add) (sd @Nat.zero_add) ?_
 simp only[eR,bc,bY,dG,Option.map_some]
theorem Nj (cnt:Nat) (we:1<=cnt) (hn:cnt<=1048576) (v:Int) (x:Id) (σ:az) (hx:σ.get x=some ⟨true,1,[[.int .i64 v]]⟩) (hxv:x.bj<σ.next):
  Call Tryz.prog 195 [.own x 0 1,.int .i64 cnt] σ fun r σ'=>∃o:Id,r=.own o 0 cnt/\σ'.get o=some ⟨true,1,List.replicate cnt [.int .i64 v]⟩/\σ.next<=o.bj/\o.bj<σ'.next/\∀i:Id,i.bj<σ.next->σ'.get i=σ.get i:=by
 refine hZ fR rfl fun hl=>?_
 clear hl
 have h:=XQ cnt hn
 have w1:IntKind.u64.wrap (cnt:Int)=cnt:=by rw[IntKind.wrap_u64];omega
 have w2:IntKind.i64.wrap (cnt:Int)=cnt:=NO ah
 have w0:IntKind.u64.wrap ((1:Nat):Int)=1:=by decide
 have g1:¬(cnt:Int)<0:=ah
 have g2:¬(9223372036854775807:Int)<cnt:=ah
 have kG:(0:Int)<=(cnt:Int):=ah
 have pI:(cnt:Int)<=((16777216:Nat):Int):=ah
 have VM:=dh hxv
 have x8:(List.replicate cnt [AV.int .i64 0]).length=cnt:=List.length_replicate
 have m1:min 1 cnt=1:=ah
 (have zF:=tw @w0 (tw @w1 (tw @w2 (tw @g1 (tw @g2 (tw @kG (tw @pI (tw @Int.le_refl (tw @Nat.le_refl (tw @hx (tw @VM (tw @x8 @m1)))))))))));(repeat(first|((repeat(revert N;apply Pn.out));refine wk zF ?_;(repeat(apply Pn.mk;intro N Z)))|((try apply Or.inl);refine⟨_,ay.x (h) (sd zF),?_⟩;apply Z;clear Z N)));try clear zF)
 refine bz (fun m env st=>∃k:Nat,m=cnt-k/\1<=k/\k<=cnt/\env 8=.int .i64 (k:Int)/\st.get ⟨195006002,σ.next+1+1+1+1⟩=some ⟨true,1,List.replicate k [.int .i64 v]++List.replicate (cnt-k) [.int .i64 0]⟩/\σ.next+4<st.next/\∀i:Id,i.bj<σ.next->st.get i=σ.get i) (cnt-1) ⟨1,rfl,Nat.le_refl _,we,by(simp only[go_sem, ↓reduceIte,Nat.reduceEqDiff,Nat.reduceAdd,Nat.reduceSub,Nat.reduceLeDiff,reduceCtorEq,m1])<;>rfl,?_,aQ,fun i hi=>?_⟩ ?_
 ·simp only[go_sem, ↓reduceIte,Nat.reduceEqDiff,Nat.reduceAdd,Nat.reduceSub,Nat.reduceLeDiff,reduceCtorEq]
  rw[List.drop_replicate];rfl
 ·have G5:=dh hi
  simp only[go_sem, ↓reduceIte,Nat.reduceEqDiff,Nat.reduceAdd,Nat.reduceSub,Nat.reduceLeDiff,reduceCtorEq,G5]
 rintro m env_b st_b ⟨k,rfl,tg,sk,b8,bg,bn,fo⟩ bkp
 have b7:=bkp 7 (by kernel_rfl)
 simp only[go_sem, ↓reduceIte,Nat.reduceEqDiff,Nat.reduceAdd,Nat.reduceSub,Nat.reduceLeDiff,reduceCtorEq]at b7
 clear bkp
 have Xu:(List.replicate k [AV.int .i64 v]++List.replicate (cnt-k) [AV.int .i64 0]).length=cnt:=by simp;omega
 by_cases hk:(k:Int)<(cnt:Int)
 ·have iO:k<cnt:=ah
  have x7:(k:Int)<=(cnt:Int):=ah
  have hw:IntKind.i64.wrap ((k:Int)+((min k (cnt-k):Nat):Int))=((k+min k (cnt-k):Nat):Int):=by rw[cm ah];omega
  have oN:List.take k (List.replicate k [AV.int .i64 v]++List.replicate (cnt-k) [AV.int .i64 0])=List.replicate k [AV.int .i64 v]:=List.take_left' (by simp)
  have eV:(List.replicate k [AV.int .i64 v]).all (fun c=>c.length==1&&c.all AV.cell)=true:=List.all_eq_true.2 fun c hc=>by rw[List.eq_of_mem_replicate hc];rfl
  have hlr:(List.replicate k [AV.int .i64 v]).length=k:=List.length_replicate
  have hsum:k+(cnt-k)=cnt:=ah
  have uy:List.replicate k [AV.int .i64 v]++List.take (min k (cnt-k)) (List.replicate k [AV.int .i64 v])++List.drop (k+min k (cnt-k)) (List.replicate k [AV.int .i64 v]++List.replicate (cnt-k) [AV.int .i64 0])=List.replicate (k+min k (cnt-k)) [AV.int .i64 v]++List.replicate (cnt-(k+min k (cnt-k))) [AV.int .i64 0]:=by
   rw[List.take_replicate,List.drop_append,List.drop_of_length_le (by simp),List.nil_append,hlr,List.drop_replicate,List.replicate_append_replicate]
   congr 2
   ·omega
   ·omega
  (try((repeat(revert N;apply Pn.out));refine wk (tw @b7 (tw @b8 (tw @bg (tw @Xu (tw @hk (tw @x7 (tw @sk (tw @hw (tw @iO (tw @Nat.sub_zero (tw @oN (tw @eV (tw @hlr (tw @hsum (tw @Nat.le_refl @uy))))))))))))))) ?_;(repeat(apply Pn.mk;intro N Z))))
  refine⟨_,?_,k+min k (cnt-k),rfl,ah,ah,sd @hw,sd @uy,aQ,fun i hi=>?_⟩
  ·omega
  ·have G5:=dh hi
   have:=fo i hi
   simp only[go_sem, ↓reduceIte,Nat.reduceEqDiff,Nat.reduceAdd,Nat.reduceSub,Nat.reduceLeDiff,reduceCtorEq,G5,this]
 ·have mM:k=cnt:=ah
  subst mM
  (try((repeat(revert N;apply Pn.out));refine wk (tw @b7 (tw @b8 (tw @bg (tw @Xu @hk)))) ?_;(repeat(apply Pn.mk;intro N Z))))
  refine fV (.inl rfl) (vs:=[.own ⟨195006002,σ.next+1+1+1+1⟩ 0 k]) (sd @Nat.zero_add) ⟨⟨195006002,σ.next+1+1+1+1⟩,rfl,by simp only[go_sem, ↓reduceIte,Nat.reduceEqDiff,Nat.reduceAdd,Nat.reduceSub,Nat.reduceLeDiff,reduceCtorEq,bg];simp,aQ,aQ,fun i hi=>fo i hi⟩
end Go.Proofs.YtiabgllilcfheaaGreat.V

namespace Go.Proofs.YtiabgllilcfheaaGreat.V
open Go.RowKit
attribute [local irreducible] eC wpOps gi Call
attribute [local go_sem] aM fP fa fX fW du upd cz K.av cP AV.cells AV.cell rowOf rowsOf part ld rowAt bL cu dK eb gK bP de eu fS fq dx ef db da dR dS bU bf cU bR cW cV dW eh ee cR bW dd ec bQ aL cY cH gJ bF cL bV aY dr bq dL AV.undef bJ bK dV dY dQ dU cK er ez cF ej ei cX cZ List.getD_cons_zero List.getD_cons_succ List.getD_nil List.all_cons List.all_nil Bool.and_true Bool.true_and Bool.and_self Bool.not_true Bool.not_false Option.map_some Option.map_none Option.bind_some Option.bind_none List.length_cons List.length_nil List.take_succ_cons List.take_zero List.take_nil List.drop_succ_cons List.drop_zero List.drop_nil List.head?_cons List.map_cons List.map_nil List.getElem?_cons_zero List.getElem?_cons_succ List.cons_append List.nil_append List.append_nil List.length_map List.set_cons_zero List.set_cons_succ Nat.reduceMul eq_self Int.toNat_natCast Int.natCast_nonneg and_self true_and and_true decide_true decide_false Bool.false_eq_true Nat.zero_add Nat.add_zero List.contains_cons List.contains_nil Bool.or_false Bool.false_or beq_self_eq_true Nat.reduceBEq ne_eq not_true_eq_false not_false_eq_true Id.mk.injEq false_and and_false Nat.reduceLT Int.reduceLE Int.reduceLT Int.reduceToNat Int.reduceNeg Int.reduceAdd Nat.le_refl List.length_append beq_true beq_false Bool.not_eq_eq_eq_not or_false false_or eL ar ax aW bp bZ cw aV bH aU bh cQ bI
def mD (R:Nat->Id) (n k:Nat):List (List AV):=(List.range k).map fun i=>[.own (R i) 0 n]
theorem lF (R:Nat->Id) (n k:Nat):(mD R n k).length=k:=by simp[mD]
theorem uW {R:Nat->Id} {n k i:Nat} (h:i<k):(mD R n k)[i]? =some [.own (R i) 0 n]:=by simp[mD,h]
theorem wI (R:Nat->Id) (n k:Nat):mD R n (k+1)=mD R n k++[[.own (R k) 0 n]]:=by simp[mD,List.range_succ]
def AA (c:Nat->Nat->Int) (n:Nat):List (List AV):=(List.range n).map fun i=>[.sl (fc (c i) n)]
theorem FL {c:Nat->Nat->Int} {n i:Nat} (h:i<n):(AA c n)[i]? =some [.sl (fc (c i) n)]:=by simp[AA,h]
theorem zQ (c:Nat->Nat->Int) (n:Nat):(AA c n).length=n:=by simp[AA]
structure Jd (X o1 o2:Id) (R1 R2:Nat->Id) (n nb:Nat):Prop where
 sx:X.site=178001001
 s1:o1.site=178004008
 s2:o2.site=178005008
 Zp:∀i,i<n->(R1 i).site=178004006
 RE:∀i,i<n->(R2 i).site=178005006
 i1:∀i j,i<n->j<n->R1 i=R1 j->i=j
 i2:∀i j,i<n->j<n->R2 i=R2 j->i=j
 vx:X.bj<nb
 v1:o1.bj<nb
 v2:o2.bj<nb
 vr1:∀i,i<n->(R1 i).bj<nb
 Yb:∀i,i<n->(R2 i).bj<nb
structure qh (g:Rows) (X o1 o2:Id) (R1 R2:Nat->Id) (n:Nat) (c f:Nat->Nat->Int):Prop where
 x:g X=some ⟨true,2,[[.own o1 0 n,.own o2 0 n]]⟩
 t1:g o1=some ⟨true,1,mD R1 n n⟩
 t2:g o2=some ⟨true,1,mD R2 n n⟩
 r1:∀i,i<n->g (R1 i)=some ⟨true,1,fc (c i) n⟩
 r2:∀i,i<n->g (R2 i)=some ⟨true,1,fc (f i) n⟩
theorem qq {f:Nat->Nat->Int} {a b:Nat} {d:Int} {n:Nat} (hb:b<n):(fc (f a) n).set b (aJ (f a b+d))=fc (bump f a b d a) n:=mE hb (by simp[bump]) fun i _ hi=>by simp[bump,hi]
theorem lq {f:Nat->Nat->Int} {a b i:Nat} {d:Int} (h:i≠a):bump f a b d i=f i:=by funext v;simp[bump,h]
theorem qh.add {g g':Rows} {X o1 o2:Id} {R1 R2:Nat->Id} {n nb:Nat} {c f:Nat->Nat->Int} (I:Jd X o1 o2 R1 R2 n nb) (h:qh g X o1 o2 R1 R2 n c f) (b:PB) (ha:b.a<n) (hb:b.b<n) (hA:b.a≠b.b->g' (R1 b.a)=some ⟨true,1,fc (bump c b.a b.b b.s b.a) n⟩) (hB:g' (R1 b.b)=some ⟨true,1,fc (pP c b b.b) n⟩) (hf:∀i:Id,i.bj<nb->(i=R1 b.a)=False->(i=R1 b.b)=False->g' i=g i):qh g' X o1 o2 R1 R2 n (pP c b) f:=by
 have ne:∀{i:Id} {s:Nat},i.site=s->(s==178004006)=false->∀a,a<n->(i=R1 a)=False:=fun {i s} hi hs a ha=>by
  simp only[eq_iff_iff,iff_false]
  rintro rfl
  rw[I.Zp a ha]at hi
  subst hi
  simp at hs
 refine⟨(hf _ I.vx (ne I.sx (by decide) _ ha) (ne I.sx (by decide) _ hb)).trans h.x,(hf _ I.v1 (ne I.s1 (by decide) _ ha) (ne I.s1 (by decide) _ hb)).trans h.t1,(hf _ I.v2 (ne I.s2 (by decide) _ ha) (ne I.s2 (by decide) _ hb)).trans h.t2,fun i hi=>?_,fun i hi=>(hf _ (I.Yb i hi) (ne (I.RE i hi) (by decide) _ ha) (ne (I.RE i hi) (by decide) _ hb)).trans (h.r2 i hi)⟩
 by_cases Ot:i=b.b
 ·subst Ot;exact hB
 ·by_cases Oq:i=b.a
  ·subst Oq
   rw[hA Ot,pP,lq Ot]
  ·rw[pP,lq Ot,lq Oq,hf _ (I.vr1 i hi) (by simp only[eq_iff_iff,iff_false];exact fun he=>Oq (I.i1 i _ hi ha he)) (by simp only[eq_iff_iff,iff_false];exact fun he=>Ot (I.i1 i _ hi hb he))]
   exact h.r1 i hi
def ni (n:Nat) (c f:Nat->Nat->Int):List AV:=[.sl (AA c n),.sl (AA f n)]
theorem I0 {g:Rows} {R:Nat->Id} {n k:Nat} {c:Nat->Nat->Int} (h:∀i,i<k->g (R i)=some ⟨true,1,fc (c i) n⟩) (m:Nat):fj (eL g) (m+3) (mD R n k)=some ((List.range k).map fun i=>[.sl (fc (c i) n)]):=by
 induction k with
 |zero=>rw[show mD R n 0=[]from rfl,fj];rfl
 |succ k ih=>
  have e1:V.fz (eL g) (m+3) (.own (R k) 0 n)=some (.sl (fc (c k) n)):=by
   rw[ju];simp only[eL,h k ah,Option.map_some,if_true]
   rw[if_pos (by rw[eM];omega),List.drop_zero,List.take_of_length_le (by rw[eM];omega),Dc];rfl
  have app:∀(xs ys:List (List AV)) (Zt Yn:List (List AV)),fj (eL g) (m+3) xs=some Zt->fj (eL g) (m+3) ys=some Yn->fj (eL g) (m+3) (xs++ys)=some (Zt++Yn):=by
   intro xs
   induction xs with
   |nil=>intro ys Zt Yn h1 h2;rw[fj]at h1;cases h1;exact h2
   |cons a xs ih2=>
    intro ys Zt Yn h1 h2
    rw[fj]at h1
    rw[List.cons_append,fj]
    cases ha:eI (eL g) (m+3) a with
    |none=>simp[ha]at h1
    |some a'=>
     cases hb:fj (eL g) (m+3) xs with
     |none=>simp[ha,hb]at h1
     |some b'=>
      simp[ha,hb]at h1
      subst h1
      rw[ih2 ys b' Yn hb h2];rfl
  rw[wI,List.range_succ,List.map_append]
  refine app _ _ _ _ (ih fun i hi=>h i ah) ?_
  rw[fj,ar,ax,e1,fj];rfl
theorem qh.fz {g:Rows} {X o1 o2:Id} {R1 R2:Nat->Id} {n:Nat} {c f:Nat->Nat->Int} (h:qh g X o1 o2 R1 R2 n c f):V.fz (eL g) 6 (.ptr X 0 0)=some (.dF (ni n c f)):=by
 refine s9 (sz:=2) (rows:=[[.own o1 0 n,.own o2 0 n]]) (by simp[eL,h.x]) rfl ?_
 have e1:V.fz (eL g) 5 (.own o1 0 n)=some (.sl (AA c n)):=by
  rw[ju];simp only[eL,h.t1,Option.map_some,if_true]
  rw[if_pos (by rw[lF];omega),List.drop_zero,List.take_of_length_le (by rw[lF];omega)]
  rw[show fj _ 4 _=some (AA c n)from I0 h.r1 1];rfl
 have e2:V.fz (eL g) 5 (.own o2 0 n)=some (.sl (AA f n)):=by
  rw[ju];simp only[eL,h.t2,Option.map_some,if_true]
  rw[if_pos (by rw[lF];omega),List.drop_zero,List.take_of_length_le (by rw[lF];omega)]
  rw[show fj _ 4 _=some (AA f n)from I0 h.r2 1];rfl
 simp only[List.drop_zero,ar,ax,e1,e2,ni,Option.map_some]
theorem Sp (n:Nat) (c f:Nat->Nat->Int) (u v:Nat) (hu:u<n) (hv:v<n):ay Tryz.prog 196 [.dF (ni n c f),.int .i64 u,.int .i64 v] (.bool (decide (f u v<c u v))):=by
 refine ay.body fR rfl fun hl n0=>?_
 clear hl
 have h1:=FL (c:=c) hu
 have h2:=FL (c:=f) hu
 have h3:=eX (f:=c u) hv
 have h4:=eX (f:=f u) hv
 have hui:(u:Int)<(n:Int):=ah
 have G5:(v:Int)<(n:Int):=ah
 have l1:=zQ c n
 have l2:=zQ f n
 have l3:=eM (c u) n
 have l4:=eM (f u) n
 rw[aJ]at h3 h4
 (try((repeat(revert N;apply Pn.out));refine wk (tw @ni.eq_1 (tw @h1 (tw @h2 (tw @h3 (tw @h4 (tw @hui (tw @G5 (tw @l1 (tw @l2 (tw @l3 @l4)))))))))) ?_;(repeat(apply Pn.mk;intro N Z))))
 exact cD (b:=decide (f u v<c u v)) (.inl rfl) (sd @Nat.zero_add) rfl
theorem KI (n:Nat):List.replicate n [AV.int .i64 0]=fc (fun _=>0) n:=by
 refine List.ext_getElem? fun i=>?_
 by_cases h:i<n
 ·rw[eX h,List.getElem?_replicate,if_pos h];rfl
 ·rw[List.getElem?_eq_none (by simp;omega),List.getElem?_eq_none (by rw[eM];omega)]
theorem C9 {i j:Id} {s t:Nat} (hi:i.site=s) (hj:j.site=t) (h:(s==t)=false):(i=j)=False/\(j=i)=False:=by
 constructor<;>(simp only[eq_iff_iff,iff_false];rintro rfl;rw[hi]at hj;subst hj;simp at h)
theorem Ft (cnt:Nat) (we:1<=cnt) (hn:cnt<=1048576) (bs:List PB) (hb:∀b∈bs,b.a<cnt/\b.b<cnt) (eA:∀b∈bs,0<=b.s/\b.s<=4) (iD:bs.length<=1048576) (σ:az):
  Call Tryz.prog 178 [.int .i64 cnt,.sl (bs.map aP)] σ fun r σ'=>∃X o1 o2 R1 R2,r=.ptr X 0 0/\Jd X o1 o2 R1 R2 cnt σ'.next/\σ.next<=σ'.next/\qh σ'.get X o1 o2 R1 R2 cnt (mA bs) (fun _ _=>0)/\∀i:Id,i.bj<σ.next->σ'.get i=σ.get i:=by
 refine hZ fR rfl fun hl=>?_
 clear hl
 (try((repeat(revert N;apply Pn.out));refine wk @Nat.zero_add ?_;(repeat(apply Pn.mk;intro N Z))))
 obtain⟨X,hX⟩:∃X:Id,X=⟨178001001,σ.next+1⟩:=⟨_,rfl⟩
 obtain⟨R1,hR1⟩:∃R:Nat->Id,R=fun k=>⟨178004006,σ.next+3+4*k+1⟩:=⟨_,rfl⟩
 obtain⟨R2,hR2⟩:∃R:Nat->Id,R=fun k=>⟨178005006,σ.next+3+4*k+2⟩:=⟨_,rfl⟩
 have sX:X.site=178001001:=by rw[hX]
 have vX:X.bj=σ.next+1:=by rw[hX]
 have s1:∀k,(R1 k).site=178004006:=fun k=>by rw[hR1]
 have s2:∀k,(R2 k).site=178005006:=fun k=>by rw[hR2]
 have v1:∀k,(R1 k).bj=σ.next+3+4*k+1:=fun k=>by rw[hR1]
 have v2:∀k,(R2 k).bj=σ.next+3+4*k+2:=fun k=>by rw[hR2]
 have kG:(0:Int)<=(cnt:Int):=ah
 have pI:(cnt:Int)<=((16777216:Nat):Int):=ah
 have hz:=KI cnt
 have t1:mD R1 cnt 0=[]:=rfl
 have t2:mD R2 cnt 0=[]:=rfl
 refine bz (fun n env st=>∃k:Nat,n=(cnt)-k/\k<=(cnt)/\env 11=.int .i64 (k:Int)/\env 5=(.ptr X 0 0)/\(st.next=σ.next+3+4*k/\(∀i:Id,i.bj<σ.next->st.get i=σ.get i)/\∀j,j<k->st.get (R1 j)=some ⟨true,1,fc (fun _=>0) cnt⟩/\st.get (R2 j)=some ⟨true,1,fc (fun _=>0) cnt⟩)/\((k=0/\st.get X=some ⟨true,2,[[.br,.br]]⟩)∨∃o1 o2:Id,o1.site=178004008/\o2.site=178005008/\o1.bj<st.next/\o2.bj<st.next/\σ.next<=o1.bj/\σ.next<=o2.bj/\st.get X=some ⟨true,2,[[.own o1 0 k,.own o2 0 k]]⟩/\st.get o1=some ⟨true,1,mD R1 cnt k⟩/\st.get o2=some ⟨true,1,mD R2 cnt k⟩)) (cnt) ⟨0,ah,ah,sl @hX,sl @hX,⟨rfl,fun i hi=>by(have G5:=dh hi);simp only[go_sem, ↓reduceIte,Nat.reduceEqDiff,Nat.reduceAdd,Nat.reduceSub,Nat.reduceLeDiff,reduceCtorEq,G5],fun j hj=>absurd hj (Nat.not_lt_zero j)⟩,.inl ⟨rfl,by rw[hX];simp only[go_sem, ↓reduceIte,Nat.reduceEqDiff,Nat.reduceAdd,Nat.reduceSub,Nat.reduceLeDiff,reduceCtorEq]⟩⟩ ?_
 rintro n_a env_a st_a ⟨k,rfl,ale,a11,a5,nh,aI1⟩ eE
 have a0:=eE 0 (by kernel_rfl);have a1:=eE 1 (by kernel_rfl);have rY:=eE 10 (by kernel_rfl)
 simp only[go_sem, ↓reduceIte,Nat.reduceEqDiff,Nat.reduceAdd,Nat.reduceSub,Nat.reduceLeDiff,reduceCtorEq,hX]at a0 a1 rY
 clear eE
 obtain⟨anx,eE,aR⟩:=nh
 have wX:=dh (i:=X) (n:=st_a.next) ah
 by_cases hk:(k:Int)<(cnt:Int)
 ·have dD:∀{e:Env} {gg:Rows} {nx:Nat},(e 11=.int .i64 (IntKind.i64.wrap ((k:Int)+1)))->(e 5=(.ptr X 0 0))->(nx=σ.next+3+4*(k+1)/\(∀i:Id,i.bj<σ.next->gg i=σ.get i)/\∀j,j<(k+1)->gg (R1 j)=some ⟨true,1,fc (fun _=>0) cnt⟩/\gg (R2 j)=some ⟨true,1,fc (fun _=>0) cnt⟩)->(((k+1)=0/\gg X=some ⟨true,2,[[.br,.br]]⟩)∨∃o1 o2:Id,o1.site=178004008/\o2.site=178005008/\o1.bj<nx/\o2.bj<nx/\σ.next<=o1.bj/\σ.next<=o2.bj/\gg X=some ⟨true,2,[[.own o1 0 (k+1),.own o2 0 (k+1)]]⟩/\gg o1=some ⟨true,1,mD R1 cnt (k+1)⟩/\gg o2=some ⟨true,1,mD R2 cnt (k+1)⟩)->∃m0,m0<(cnt)-k/\∃k:Nat,m0=(cnt)-k/\k<=(cnt)/\e 11=.int .i64 (k:Int)/\e 5=(.ptr X 0 0)/\(nx=σ.next+3+4*k/\(∀i:Id,i.bj<σ.next->gg i=σ.get i)/\∀j,j<k->gg (R1 j)=some ⟨true,1,fc (fun _=>0) cnt⟩/\gg (R2 j)=some ⟨true,1,fc (fun _=>0) cnt⟩)/\((k=0/\gg X=some ⟨true,2,[[.br,.br]]⟩)∨∃o1 o2:Id,o1.site=178004008/\o2.site=178005008/\o1.bj<nx/\o2.bj<nx/\σ.next<=o1.bj/\σ.next<=o2.bj/\gg X=some ⟨true,2,[[.own o1 0 k,.own o2 0 k]]⟩/\gg o1=some ⟨true,1,mD R1 cnt k⟩/\gg o2=some ⟨true,1,mD R2 cnt k⟩):=fun x1 x2 x3 x4=>⟨_,ah,k+1,rfl,ah,(by rw[x1,aK ah]),x2,x3,x4⟩
  have iO:k<cnt:=ah
  have tg:R1 k=⟨178004006,st_a.next+1⟩:=by rw[hR1,anx]
  have sk:R2 k=⟨178005006,st_a.next+1+1⟩:=by rw[hR2,anx]
  have Du:mD R1 cnt (k+1)=mD R1 cnt k++[[.own ⟨178004006,st_a.next+1⟩ 0 cnt]]:=by rw[wI,tg]
  have K8:mD R2 cnt (k+1)=mD R2 cnt k++[[.own ⟨178005006,st_a.next+1+1⟩ 0 cnt]]:=by rw[wI,sk]
  rcases aI1 with⟨rfl,V6⟩|⟨o1,o2,so1,so2,vo1,vo2,vn1,vn2,V6,ag1,ag2⟩
  ·(try((repeat(revert N;apply Pn.out));refine wk (tw @a11 (tw @a5 (tw @a0 (tw @a1 (tw @rY (tw @hk (tw @wX (tw @V6 (tw @kG (tw @pI (tw @Int.le_refl @hz))))))))))) ?_;(repeat(apply Pn.mk;intro N Z))))
   refine dD ?_ ?_ (by
    (try dsimp only)
    refine⟨ah,fun i hi=>?_,fun j hj=>?_⟩
    ·have q1:=dh (i:=i) (n:=st_a.next) ah
     have q2:=dP (a:=i) (b:=X) ah
     have:=eE i hi
     simp only[go_sem, ↓reduceIte,Nat.reduceEqDiff,Nat.reduceAdd,Nat.reduceSub,Nat.reduceLeDiff,reduceCtorEq,q1,q2,this]
    ·by_cases Bd:j=0
     ·subst Bd
      rw[tg,sk]
      have q1:=iP sX (b:=178004006) (v:=st_a.next+1) (by decide)
      have q2:=iP sX (b:=178005006) (v:=st_a.next+1+1) (by decide)
      simp only[go_sem, ↓reduceIte,Nat.reduceEqDiff,Nat.reduceAdd,Nat.reduceSub,Nat.reduceLeDiff,reduceCtorEq,q1,q2]
     ·obtain⟨r1,r2⟩:=aR j ah
      have q1:=dh (i:=R1 j) (n:=st_a.next) (by rw[v1];omega)
      have q2:=dh (i:=R2 j) (n:=st_a.next) (by rw[v2];omega)
      have q3:=C9 (s1 j) sX (by decide)
      have q4:=C9 (s2 j) sX (by decide)
      constructor
      ·simp only[go_sem, ↓reduceIte,Nat.reduceEqDiff,Nat.reduceAdd,Nat.reduceSub,Nat.reduceLeDiff,reduceCtorEq,q1,q3,r1]
      ·simp only[go_sem, ↓reduceIte,Nat.reduceEqDiff,Nat.reduceAdd,Nat.reduceSub,Nat.reduceLeDiff,reduceCtorEq,q2,q4,r2]) (.inr ⟨⟨178004008,st_a.next+1⟩,⟨178005008,st_a.next+1+1⟩,rfl,rfl,aQ,aQ,aQ,aQ,sd @wX,by rw[Du,t1];simp only[go_sem, ↓reduceIte,Nat.reduceEqDiff,Nat.reduceAdd,Nat.reduceSub,Nat.reduceLeDiff,reduceCtorEq,wX,List.nil_append],by rw[K8,t2];simp only[go_sem, ↓reduceIte,Nat.reduceEqDiff,Nat.reduceAdd,Nat.reduceSub,Nat.reduceLeDiff,reduceCtorEq,wX,List.nil_append]⟩)
   all_goals simp only[go_sem, ↓reduceIte,Nat.reduceEqDiff,Nat.reduceAdd,Nat.reduceSub,Nat.reduceLeDiff,reduceCtorEq,a11,a5,a0,a1,rY,wX]
  ·have l1:=lF R1 cnt k
   have l2:=lF R2 cnt k
   have e1:k+1<=16777216:=ah
   have w1:=dh vo1
   have w2:=dh vo2
   have x1:=C9 sX so1 (by decide)
   have x2:=C9 sX so2 (by decide)
   have x3:=C9 so1 so2 (by decide)
   (try((repeat(revert N;apply Pn.out));refine wk (tw @a11 (tw @a5 (tw @a0 (tw @a1 (tw @rY (tw @hk (tw @wX (tw @V6 (tw @ag1 (tw @ag2 (tw @l1 (tw @l2 (tw @e1 (tw @w1 (tw @w2 (tw @x1 (tw @x2 (tw @x3 (tw @kG (tw @pI (tw @Int.le_refl @hz))))))))))))))))))))) ?_;(repeat(apply Pn.mk;intro N Z))))
   refine dD ?_ ?_ (by
    (try dsimp only)
    refine⟨ah,fun i hi=>?_,fun j hj=>?_⟩
    ·have q1:=dh (i:=i) (n:=st_a.next) ah
     have q2:=dP (a:=i) (b:=X) ah
     have q3:=dP (a:=i) (b:=o1) ah
     have q4:=dP (a:=i) (b:=o2) ah
     have:=eE i hi
     simp only[go_sem, ↓reduceIte,Nat.reduceEqDiff,Nat.reduceAdd,Nat.reduceSub,Nat.reduceLeDiff,reduceCtorEq,q1,q2,this,q3,q4]
    ·by_cases Bd:j=k
     ·subst Bd
      rw[tg,sk]
      have q1:=iP sX (b:=178004006) (v:=st_a.next+1) (by decide)
      have q2:=iP sX (b:=178005006) (v:=st_a.next+1+1) (by decide)
      simp only[go_sem, ↓reduceIte,Nat.reduceEqDiff,Nat.reduceAdd,Nat.reduceSub,Nat.reduceLeDiff,reduceCtorEq,q1,q2,w1,w2]
     ·obtain⟨r1,r2⟩:=aR j ah
      have q1:=dh (i:=R1 j) (n:=st_a.next) (by rw[v1];omega)
      have q2:=dh (i:=R2 j) (n:=st_a.next) (by rw[v2];omega)
      have q3:=C9 (s1 j) sX (by decide)
      have q4:=C9 (s2 j) sX (by decide)
      have q5:=C9 (s1 j) so1 (by decide)
      have q6:=C9 (s1 j) so2 (by decide)
      have q7:=C9 (s2 j) so1 (by decide)
      have q8:=C9 (s2 j) so2 (by decide)
      constructor
      ·simp only[go_sem, ↓reduceIte,Nat.reduceEqDiff,Nat.reduceAdd,Nat.reduceSub,Nat.reduceLeDiff,reduceCtorEq,q1,q3,r1,q5,q6]
      ·simp only[go_sem, ↓reduceIte,Nat.reduceEqDiff,Nat.reduceAdd,Nat.reduceSub,Nat.reduceLeDiff,reduceCtorEq,q2,q4,r2,q7,q8]) (.inr ⟨⟨178004008,st_a.next+1⟩,⟨178005008,st_a.next+1+1⟩,rfl,rfl,aQ,aQ,aQ,aQ,sd @wX,by rw[Du];simp only[go_sem, ↓reduceIte,Nat.reduceEqDiff,Nat.reduceAdd,Nat.reduceSub,Nat.reduceLeDiff,reduceCtorEq,wX,w1,w2],by rw[K8];simp only[go_sem, ↓reduceIte,Nat.reduceEqDiff,Nat.reduceAdd,Nat.reduceSub,Nat.reduceLeDiff,reduceCtorEq,wX,w1,w2]⟩)
   all_goals simp only[go_sem, ↓reduceIte,Nat.reduceEqDiff,Nat.reduceAdd,Nat.reduceSub,Nat.reduceLeDiff,reduceCtorEq,a11,a5,a0,a1,rY,wX,w1,w2,x1,x2,x3]
 have mM:cnt=k:=ah
 subst mM
 rcases aI1 with⟨h0,_⟩|⟨o1,o2,so1,so2,vo1,vo2,vn1,vn2,V6,ag1,ag2⟩
 ·omega
 (try((repeat(revert N;apply Pn.out));refine wk (tw @a11 (tw @a5 (tw @a0 (tw @a1 (tw @rY @hk))))) ?_;(repeat(apply Pn.mk;intro N Z))))
 have I:Jd X o1 o2 R1 R2 cnt st_a.next:=⟨sX,so1,so2,fun i _=>s1 i,fun i _=>s2 i,fun i j _ _ h=>by have:=v1 i;rw[h,v1]at this;omega,fun i j _ _ h=>by have:=v2 i;rw[h,v2]at this;omega,ah,vo1,vo2,fun i hi=>by rw[v1];omega,fun i hi=>by rw[v2];omega⟩
 refine bz (fun n env st=>∃i:Nat,n=(bs.length)-i/\i<=(bs.length)/\env 38=.int .i64 (i:Int)/\(st_a.next<=st.next/\(∀x:Id,x.bj<σ.next->st.get x=σ.get x)/\qh st.get X o1 o2 R1 R2 cnt (mA (bs.take i)) (fun _ _=>0))) (bs.length) ⟨0,ah,ah,sl (tw @a11 (tw @a5 (tw @a0 (tw @a1 @rY)))),⟨aQ,eE,V6,ag1,ag2,fun j hj=>(aR j hj).1,fun j hj=>(aR j hj).2⟩⟩ ?_
 rintro n_b env_b st_b ⟨i,rfl,ble,b38,bI0⟩ fo
 have b0:=fo 0 (by kernel_rfl);have b1:=fo 1 (by kernel_rfl);have b5:=fo 5 (by kernel_rfl);have Vp:=fo 36 (by kernel_rfl);have Vq:=fo 37 (by kernel_rfl)
 simp only[go_sem, ↓reduceIte,Nat.reduceEqDiff,Nat.reduceAdd,Nat.reduceSub,Nat.reduceLeDiff,reduceCtorEq,a11,a5,a0,a1,rY]at b0 b1 b5 Vp Vq
 clear fo
 obtain⟨bn,Sa,bM⟩:=bI0
 by_cases hi:(i:Int)<(bs.length:Int)
 ·have fN:∀{e:Env} {gg:Rows} {nx:Nat},(e 38=.int .i64 (IntKind.i64.wrap ((i:Int)+1)))->(st_a.next<=nx/\(∀x:Id,x.bj<σ.next->gg x=σ.get x)/\qh gg X o1 o2 R1 R2 cnt (mA (bs.take (i+1))) (fun _ _=>0))->∃m0,m0<(bs.length)-i/\∃i:Nat,m0=(bs.length)-i/\i<=(bs.length)/\e 38=.int .i64 (i:Int)/\(st_a.next<=nx/\(∀x:Id,x.bj<σ.next->gg x=σ.get x)/\qh gg X o1 o2 R1 R2 cnt (mA (bs.take i)) (fun _ _=>0)):=fun x1 x2=>⟨_,ah,i+1,rfl,ah,(by rw[x1,aK ah]),x2⟩
  have fZ:i<bs.length:=ah
  have iZ:(bs.map aP)[i]? =some (aP bs[i]):=by simp[fZ]
  have gH:=hb _ (List.getElem_mem fZ)
  have hsi:=eA _ (List.getElem_mem fZ)
  have sm:mA (bs.take (i+1))=pP (mA (bs.take i)) bs[i]:=by rw[List.take_succ_eq_append_getElem fZ,Hx]
  have lx:=C1 (bs.take i) (fun _ _=>0) (fun b hb=>(eA b (List.mem_of_mem_take hb)).1) (fun _ _=>Int.le_refl _)
  have hle:=room_le (bs.take i) (fun _ _=>0) 0 (fun b hb=>(eA b (List.mem_of_mem_take hb)).2) (fun _ _=>Int.le_refl _) (Int.le_refl _)
  rw[List.length_take]at hle
  have fE:(bs.take i).foldl pP (fun _ _=>0)=mA (bs.take i):=rfl
  rw[fE]at lx hle
  generalize mA (bs.take i)=c at *
  generalize bs[i]=b at *
  obtain⟨ha,wb⟩:=gH
  have gA:=uW (R:=R1) (n:=cnt) ha
  have gB:=uW (R:=R1) (n:=cnt) wb
  have rA:=bM.r1 _ ha
  have rB:=bM.r1 _ wb
  have cA:=eX (f:=c b.a) wb
  have cB:=eX (f:=c b.b) ha
  have sA:=qq (f:=c) (a:=b.a) (d:=b.s) wb
  have gX:=bM.x
  have g1:=bM.t1
  have iR:(b.a:Int)<(cnt:Int):=ah
  have gH:(b.b:Int)<(cnt:Int):=ah
  have qX:=dh (i:=X) (n:=st_b.next) ah
  have q1:=dh (i:=o1) (n:=st_b.next) ah
  have qA:=dh (i:=R1 b.a) (n:=st_b.next) (by rw[v1];omega)
  have qB:=dh (i:=R1 b.b) (n:=st_b.next) (by rw[v1];omega)
  have xA:=C9 sX (s1 b.a) (by decide)
  have xB:=C9 sX (s1 b.b) (by decide)
  have yA:=C9 so1 (s1 b.a) (by decide)
  have yB:=C9 so1 (s1 b.b) (by decide)
  have l1:=lF R1 cnt cnt
  have lA:=eM (c b.a) cnt
  have lB:=eM (c b.b) cnt
  have hAB:=hle b.a b.b
  have hBA:=hle b.b b.a
  have gAB:=lx b.a b.b
  have gBA:=lx b.b b.a
  have wA:IntKind.i64.wrap (c b.a b.b+b.s)=c b.a b.b+b.s:=cm ah
  by_cases qa:b.a=b.b
  ·obtain⟨ba,bb,s⟩:=b
   dsimp only at *
   subst qa
   have Ti:=qq (f:=bump c ba ba s) (a:=ba) (b:=ba) (d:=s) (n:=cnt) ha
   have hcB:=eX (f:=bump c ba ba s ba) ha
   have hv:bump c ba ba s ba ba=c ba ba+s:=by simp[bump]
   have lC:=eM (bump c ba ba s ba) cnt
   have wB:IntKind.i64.wrap (c ba ba+s+s)=c ba ba+s+s:=cm ah
   rw[hv]at Ti hcB
   have ur:pP c ⟨ba,ba,s⟩ ba=bump (bump c ba ba s) ba ba s ba:=rfl
   rw[aJ]at cA sA Ti hcB
   (try((repeat(revert N;apply Pn.out));refine wk (tw @b38 (tw @b0 (tw @b1 (tw @b5 (tw @Vp (tw @Vq (tw @hi (tw @iZ (tw @aP.eq_1 (tw @gA (tw @rA (tw @cA (tw @sA (tw @gX (tw @g1 (tw @iR (tw @qX (tw @q1 (tw @qA (tw @xA (tw @yA (tw @l1 (tw @lA (tw @wA (tw @Ti (tw @hcB (tw @lC @wB))))))))))))))))))))))))))) ?_;(repeat(apply Pn.mk;intro N Z))))
   exact fN (sd (tw @b38 (tw @b0 (tw @b1 (tw @b5 (tw @Vp @Vq)))))) (by
    (try dsimp only)
    refine⟨ah,fun x hx=>?_,?_⟩
    ·have p1:=dh (i:=x) (n:=st_b.next) ah
     have p2:=dP (a:=x) (b:=R1 ba) (by rw[v1];omega)
     have:=Sa x hx
     simp only[go_sem, ↓reduceIte,Nat.reduceEqDiff,Nat.reduceAdd,Nat.reduceSub,Nat.reduceLeDiff,reduceCtorEq,p1,p2,this]
    ·rw[sm]
     refine bM.add I ⟨ba,ba,s⟩ ha ha (fun h=>absurd rfl h) ?_ fun x hx h1 h2=>?_
     ·rw[ur]
      simp only[go_sem, ↓reduceIte,Nat.reduceEqDiff,Nat.reduceAdd,Nat.reduceSub,Nat.reduceLeDiff,reduceCtorEq]
     ·have p1:=dh (i:=x) (n:=st_b.next) ah
      (try dsimp only at h2)
      simp only[go_sem, ↓reduceIte,Nat.reduceEqDiff,Nat.reduceAdd,Nat.reduceSub,Nat.reduceLeDiff,reduceCtorEq,p1,h2])
  ·have ig:(R1 b.a=R1 b.b)=False:=by simp only[eq_iff_iff,iff_false];exact fun h=>qa (I.i1 _ _ ha wb h)
   have Mf:(R1 b.b=R1 b.a)=False:=by simp only[eq_iff_iff,iff_false];exact fun h=>qa (I.i1 _ _ ha wb h.symm)
   have Ta:bump c b.a b.b b.s b.b=c b.b:=lq fun h=>qa h.symm
   have Ti:=qq (f:=bump c b.a b.b b.s) (a:=b.b) (b:=b.a) (d:=b.s) (n:=cnt) ha
   rw[Ta]at Ti
   have wB:IntKind.i64.wrap (c b.b b.a+b.s)=c b.b b.a+b.s:=cm ah
   have ur:pP c b b.b=bump (bump c b.a b.b b.s) b.b b.a b.s b.b:=rfl
   rw[aJ]at cA cB sA Ti
   (try((repeat(revert N;apply Pn.out));refine wk (tw @b38 (tw @b0 (tw @b1 (tw @b5 (tw @Vp (tw @Vq (tw @hi (tw @iZ (tw @aP.eq_1 (tw @gA (tw @gB (tw @rA (tw @rB (tw @cA (tw @cB (tw @sA (tw @gX (tw @g1 (tw @iR (tw @gH (tw @qX (tw @q1 (tw @qA (tw @qB (tw @xA (tw @xB (tw @yA (tw @yB (tw @l1 (tw @lA (tw @lB (tw @wA (tw @Ti (tw @wB (tw @ig @Mf))))))))))))))))))))))))))))))))))) ?_;(repeat(apply Pn.mk;intro N Z))))
   exact fN (sd (tw @b38 (tw @b0 (tw @b1 (tw @b5 (tw @Vp @Vq)))))) (by
    (try dsimp only)
    refine⟨ah,fun x hx=>?_,?_⟩
    ·have p1:=dh (i:=x) (n:=st_b.next) ah
     have p2:=dP (a:=x) (b:=R1 b.b) (by rw[v1];omega)
     have p3:=dP (a:=x) (b:=R1 b.a) (by rw[v1];omega)
     have:=Sa x hx
     simp only[go_sem, ↓reduceIte,Nat.reduceEqDiff,Nat.reduceAdd,Nat.reduceSub,Nat.reduceLeDiff,reduceCtorEq,p1,p2,p3,this]
    ·rw[sm]
     refine bM.add I b ha wb (fun h=>?_) ?_ fun x hx h1 h2=>?_
     ·simp only[go_sem, ↓reduceIte,Nat.reduceEqDiff,Nat.reduceAdd,Nat.reduceSub,Nat.reduceLeDiff,reduceCtorEq,ig]
     ·rw[ur]
      simp only[go_sem, ↓reduceIte,Nat.reduceEqDiff,Nat.reduceAdd,Nat.reduceSub,Nat.reduceLeDiff,reduceCtorEq,ig]
     ·have p1:=dh (i:=x) (n:=st_b.next) ah
      simp only[go_sem, ↓reduceIte,Nat.reduceEqDiff,Nat.reduceAdd,Nat.reduceSub,Nat.reduceLeDiff,reduceCtorEq,p1,h1,h2])
 ·have lU:i=bs.length:=ah
  subst lU
  rw[List.take_length]at bM
  (try((repeat(revert N;apply Pn.out));refine wk (tw @b38 (tw @b0 (tw @b1 (tw @b5 (tw @Vp (tw @Vq @hi)))))) ?_;(repeat(apply Pn.mk;intro N Z))))
  exact fV (.inl rfl) (vs:=[.ptr X 0 0]) (sd @Nat.zero_add) ⟨X,o1,o2,R1,R2,rfl,⟨I.sx,I.s1,I.s2,I.Zp,I.RE,I.i1,I.i2,by have:=I.vx;(try dsimp only);omega,by have:=I.v1;(try dsimp only);omega,by have:=I.v2;(try dsimp only);omega,fun j hj=>by have:=I.vr1 j hj;(try dsimp only);omega,fun j hj=>by have:=I.Yb j hj;(try dsimp only);omega⟩,aQ,bM,Sa⟩
end Go.Proofs.YtiabgllilcfheaaGreat.V

namespace Go.Proofs.YtiabgllilcfheaaGreat.V
structure Bq (n:Nat) (c f:Nat->Nat->Int) (x:Nat) (par:Nat->Int) (Q:List Nat) (i:Nat):Prop where
 nodup:Q.Nodup
 lt:∀v∈Q,v<n
 root:par x=(x:Int)
 mem:x∈Q
 iff:∀v,v<n->(0<=par v↔v∈Q)
 up:∀v∈Q,v≠x->∃u,u∈Q/\par v=(u:Int)/\Q.idxOf u<Q.idxOf v/\f u v<c u v
 done:∀j (_:j<i) (hl:j<Q.length) (v:Nat),v<n->f Q[j] v<c Q[j] v->v∈Q
 ile:i<=Q.length
section
variable {n:Nat} {c f:Nat->Nat->Int} {x:Nat} {par:Nat->Int} {Q:List Nat} {i:Nat}
theorem Bq.len (h:Bq n c f x par Q i):Q.length<=n:=qO n Q h.nodup h.lt
theorem Bq.start (hx:x<n):Bq n c f x (fun v=>if v=x then(x:Int)else -1) [x] 0:=by
 refine⟨by simp,fun v hv=>by simp at hv;omega,by simp,by simp,fun v hv=>?_,fun v hv ig=>absurd (by simpa using hv) ig,fun j hj=>ah,by simp⟩
 by_cases h:v=x
 ·simp[h]
 ·simp[h]
theorem Bq.visit (h:Bq n c f x par Q i) (hi:i<Q.length) {v:Nat} (hv:v<n) (hp:par v<0) (hr:f Q[i] v<c Q[i] v):Bq n c f x (fun w=>if w=v then(Q[i]:Int)else par w) (Q++[v]) i:=by
 have hvQ:v∉Q:=fun hm=>by have:=(h.iff v hv).2 hm;omega
 have hxv:x≠v:=fun e=>hvQ (e▸h.mem)
 have Cw:∀u∈Q,(Q++[v]).idxOf u=Q.idxOf u:=fun u hu=>by rw[List.idxOf_append,if_pos hu]
 have yU:(Q++[v]).idxOf v=Q.length:=by rw[List.idxOf_append,if_neg hvQ];simp
 refine⟨?_,fun w hw=>?_,by simp only[if_neg hxv];exact h.root,by simp[h.mem],fun w hw=>?_,fun w hw ig=>?_,fun j hj hl w hw F7=>?_,by simp;omega⟩
 ·refine List.nodup_append.2 ⟨h.nodup,by simp,fun a ha b hb=>?_⟩
  rw[List.mem_singleton.1 hb]
  rintro rfl;exact hvQ ha
 ·rcases List.mem_append.1 hw with hw|hw
  ·exact h.lt w hw
  ·rw[List.mem_singleton.1 hw];exact hv
 ·by_cases IB:w=v
  ·subst IB;simp
  ·rw[if_neg IB,h.iff w hw];simp[IB]
 ·by_cases IB:w=v
  ·subst IB
   refine⟨Q[i],by simp,by simp,?_,hr⟩
   rw[Cw _ (List.getElem_mem hi),yU]
   exact List.idxOf_lt_length_of_mem (List.getElem_mem hi)
  ·have hwQ:w∈Q:=by
    rcases List.mem_append.1 hw with hw|hw
    ·exact hw
    ·exact absurd (List.mem_singleton.1 hw) IB
   obtain⟨u,h1,h2,h3,h4⟩:=h.up w hwQ ig
   exact⟨u,by simp[h1],by rw[if_neg IB];exact h2,by rw[Cw u h1,Cw w hwQ];exact h3,h4⟩
 ·have iH:j<Q.length:=by have:=h.ile;omega
  rw[List.getElem_append_left iH]at F7
  exact List.mem_append_left _ (h.done j hj iH w hw F7)
theorem Bq.next (h:Bq n c f x par Q i) (hi:i<Q.length) (eV:∀v,v<n->f Q[i] v<c Q[i] v->0<=par v):Bq n c f x par Q (i+1):=by
 refine⟨h.nodup,h.lt,h.root,h.mem,h.iff,h.up,fun j hj hl v hv hr=>?_,ah⟩
 by_cases nC:j=i
 ·subst nC;exact(h.iff v hv).1 (eV v hv hr)
 ·exact h.done j ah hl v hv hr
theorem Bq.cut (h:Bq n c f x par Q Q.length) {y:Nat} (hy:y<n) (hp:par y<0):∃S:Nat->Bool,S x=true/\S y=false/\∀u v,u<n->v<n->S u=true->S v=false->¬f u v<c u v:=by
 refine⟨fun v=>decide (v∈Q),by simp[h.mem],?_,fun u v hu hv h1 h2 hr=>?_⟩
 ·have:y∉Q:=fun hm=>by have:=(h.iff y hy).2 hm;omega
  simp[this]
 ·simp only[decide_eq_true_eq,decide_eq_false_iff_not]at h1 h2
  obtain⟨j,hj,rfl⟩:=List.getElem_of_mem h1
  exact h2 (h.done j hj hj v hv hr)
def yg (c f:Nat->Nat->Int) (Q:List Nat) (y k:Nat) (out:List Nat):Prop:=∃rest,out.reverse=k::rest/\(k::rest).getLast (by simp)=y/\tP f c (k::rest)/\(k::rest).Pairwise (fun a b=>Q.idxOf a<Q.idxOf b)/\∀v∈k::rest,v∈Q
theorem yg.start {y:Nat} (hy:y∈Q):yg c f Q y y [y]:=⟨[],rfl,rfl,trivial,by simp,by simpa using hy⟩
theorem yg.step {y k u:Nat} {out:List Nat} (h:yg c f Q y k out) (hu:u∈Q) (hi:Q.idxOf u<Q.idxOf k) (hr:f u k<c u k):yg c f Q y u (out++[u]):=by
 obtain⟨rest,h1,h2,h3,h4,h5⟩:=h
 refine⟨k::rest,by rw[List.reverse_append,h1];rfl,by rw[List.getLast_cons (by simp)];exact h2,⟨hr,h3⟩,?_,?_⟩
 ·refine List.pairwise_cons.2 ⟨fun b hb=>?_,h4⟩
  rcases List.mem_cons.1 hb with rfl|hb
  ·exact hi
  ·have:=(List.pairwise_cons.1 h4).1 b hb;omega
 ·intro v hv
  rcases List.mem_cons.1 hv with rfl|hv
  ·exact hu
  ·exact h5 v hv
theorem yg.len {y k:Nat} {out:List Nat} (h:yg c f Q y k out) (hq:∀v∈Q,v<n):out.length<=n:=by
 obtain⟨rest,h1,_,_,h4,h5⟩:=h
 rw[<-List.length_reverse,h1]
 refine qO n _ (h4.imp fun eW he=>?_) fun v hv=>hq v (h5 v hv)
 subst he;omega
structure V5 (n:Nat) (c f:Nat->Nat->Int) (x y:Nat) (p:List Nat):Prop where
 way:∃r,p=x::r/\(x::r).getLast (by simp)=y
 nodup:p.Nodup
 room:tP f c p
 lt:∀v∈p,v<n
theorem yg.way {y:Nat} {out:List Nat} (h:yg c f Q y x out) (hq:∀v∈Q,v<n):V5 n c f x y out.reverse:=by
 obtain⟨rest,h1,h2,h3,h4,h5⟩:=h
 rw[h1]
 exact⟨⟨rest,rfl,h2⟩,h4.imp fun eW he=>by subst he;omega,h3,fun v hv=>hq v (h5 v hv)⟩
end
end Go.Proofs.YtiabgllilcfheaaGreat.V

namespace Go.Proofs.YtiabgllilcfheaaGreat.V
open Go.RowKit
attribute [local irreducible] eC wpOps gi Call
attribute [local go_sem] aM fP fa fX fW du upd cz K.av cP AV.cells AV.cell rowOf rowsOf part ld rowAt bL cu dK eb gK bP de eu fS fq dx ef db da dR dS bU bf cU bR cW cV dW eh ee cR bW dd ec bQ aL cY cH gJ bF cL bV aY dr bq dL AV.undef bJ bK dV dY dQ dU cK er ez cF ej ei cX cZ List.getD_cons_zero List.getD_cons_succ List.getD_nil List.all_cons List.all_nil Bool.and_true Bool.true_and Bool.and_self Bool.not_true Bool.not_false Option.map_some Option.map_none Option.bind_some Option.bind_none List.length_cons List.length_nil List.take_succ_cons List.take_zero List.take_nil List.drop_succ_cons List.drop_zero List.drop_nil List.head?_cons List.map_cons List.map_nil List.getElem?_cons_zero List.getElem?_cons_succ List.cons_append List.nil_append List.append_nil List.length_map List.set_cons_zero List.set_cons_succ Nat.reduceMul eq_self Int.toNat_natCast Int.natCast_nonneg and_self true_and and_true decide_true decide_false Bool.false_eq_true Nat.zero_add Nat.add_zero List.contains_cons List.contains_nil Bool.or_false Bool.false_or beq_self_eq_true Nat.reduceBEq ne_eq not_true_eq_false not_false_eq_true Id.mk.injEq false_and and_false Nat.reduceLT Int.reduceLE Int.reduceLT Int.reduceToNat Int.reduceNeg Int.reduceAdd Nat.le_refl List.length_append beq_true beq_false Bool.not_eq_eq_eq_not or_false false_or eL ar ax aW bp bZ cw aV bH aU bh cQ bI
def nH (l:List Nat) (i x:Nat):Nat:=if x<i∨l.length-i<=x then l.getD (l.length-1-x) 0 else l.getD x 0
theorem BT (l:List Nat):l.map eN=eO (fun x=>l.getD x 0) l.length:=by
 refine List.ext_getElem? fun i=>?_
 by_cases h:i<l.length
 ·rw[gF h,List.getElem?_map,List.getElem?_eq_getElem h];simp[List.getD_eq_getElem?_getD,h]
 ·rw[List.getElem?_eq_none (by simp;omega),List.getElem?_eq_none (by rw[iA];omega)]
theorem Ku (l:List Nat):eO (nH l 0) l.length=l.map eN:=by
 rw[BT]
 exact je fun x hx=>by unfold nH;rw[if_neg ah]
theorem Nn (l:List Nat) {i:Nat} (h:l.length<=2*i+1) (hi:i<=l.length):eO (nH l i) l.length=l.reverse.map eN:=by
 rw[BT l.reverse,List.length_reverse]
 refine je fun x hx=>?_
 have hr:l.reverse.getD x 0=l.getD (l.length-1-x) 0:=by
  rw[List.getD_eq_getElem?_getD,List.getElem?_reverse hx,List.getD_eq_getElem?_getD]
 rw[hr]
 unfold nH
 by_cases hc:x<i∨l.length-i<=x
 ·rw[if_pos hc]
 ·rw[if_neg hc]
  have:x=l.length-1-x:=ah
  rw[<-this]
theorem Kv (l:List Nat) (hp:0<l.length) (hl:l.length<=1048576) (o:Id) (σ:az) (ho:σ.get o=some ⟨true,1,l.map eN⟩) (vD:o.bj<σ.next):
  Call Tryz.prog 197 [.own o 0 l.length] σ fun r σ'=>σ'.get o=some ⟨true,1,l.reverse.map eN⟩/\σ.next<=σ'.next/\∀i:Id,i.bj<σ.next->(i=o)=False->σ'.get i=σ.get i:=by
 refine hZ fR rfl fun gZ=>?_
 clear gZ
 rw[<-Ku]at ho
 have Ze:IntKind.i64.wrap ((l.length:Int)-1)=((l.length-1:Nat):Int):=by rw[cm ah];omega
 (try((repeat(revert N;apply Pn.out));refine wk @Ze ?_;(repeat(apply Pn.mk;intro N Z))))
 refine bz (fun m env st=>∃i:Nat,m=l.length-i/\2*i<=l.length+1/\i<=l.length/\env 2=.int .i64 (i:Int)/\env 3=.int .i64 ((l.length:Int)-1-i)/\st.get o=some ⟨true,1,eO (nH l i) l.length⟩/\σ.next<=st.next/\∀x:Id,x.bj<σ.next->(x=o)=False->st.get x=σ.get x) l.length ⟨0,rfl,ah,ah,by(simp only[go_sem, ↓reduceIte,Nat.reduceEqDiff,Nat.reduceAdd,Nat.reduceSub,Nat.reduceLeDiff,reduceCtorEq])<;>rfl,by(simp only[go_sem, ↓reduceIte,Nat.reduceEqDiff,Nat.reduceAdd,Nat.reduceSub,Nat.reduceLeDiff,reduceCtorEq,Ze]);congr 1;omega,ho,aQ,fun x _ _=>rfl⟩ ?_
 rintro m env_b st_b ⟨i,rfl,xY,lU,b2,b3,bg,bn,fo⟩ bkp
 have b0:=bkp 0 (by kernel_rfl)
 simp only[go_sem, ↓reduceIte,Nat.reduceEqDiff,Nat.reduceAdd,Nat.reduceSub,Nat.reduceLeDiff,reduceCtorEq]at b0
 clear bkp
 have tl:=iA (nH l i) l.length
 have l5:=dh (i:=o) (n:=st_b.next) ah
 by_cases hi:(i:Int)<(l.length:Int)-1-i
 ·have fZ:i<l.length:=ah
  obtain⟨j,hj⟩:∃j,j=l.length-1-i:=⟨_,rfl⟩
  have nk:j<l.length:=ah
  have Pq:(l.length:Int)-1-i=(j:Int):=ah
  rw[Pq]at b3 hi
  have g1:=gF (f:=nH l i) fZ
  have g2:=gF (f:=nH l i) nk
  have e1:nH l i i=l.getD i 0:=by unfold nH;rw[if_neg ah]
  have e2:nH l i j=l.getD j 0:=by unfold nH;rw[if_neg ah]
  have Rr:(eO (nH l i) l.length).set i (eN (l.getD j 0))=eO (fun x=>if x=i then l.getD j 0 else nH l i x) l.length:=rV fZ (if_pos rfl) fun x _ hx=>if_neg hx
  have Mo:(eO (fun x=>if x=i then l.getD j 0 else nH l i x) l.length).set j (eN (l.getD i 0))=eO (nH l (i+1)) l.length:=rV nk (by unfold nH;rw[if_pos ah];congr 1;omega) fun x hx VO=>by
   by_cases Ga:x=i
   ·rw[if_pos Ga];unfold nH;rw[if_pos ah];congr 1;omega
   ·rw[if_neg Ga];unfold nH
    by_cases hc:x<i∨l.length-i<=x
    ·rw[if_pos hc,if_pos ah]
    ·rw[if_neg hc,if_neg ah]
  have Zr:=iA (fun x=>if x=i then l.getD j 0 else nH l i x) l.length
  have g3:=gF (f:=fun x=>if x=i then l.getD j 0 else nH l i x) nk
  rw[e1]at g1
  rw[e2]at g2
  rw[if_neg ah,e2]at g3
  rw[eN]at g1 g2 g3 Rr Mo
  have hii:(i:Int)<(l.length:Int):=ah
  have nC:(j:Int)<(l.length:Int):=ah
  have oP:IntKind.i64.wrap ((i:Int)+1)=((i+1:Nat):Int):=aK ah
  have tk:IntKind.i64.wrap ((j:Int)-1)=(l.length:Int)-1-((i+1:Nat):Int):=by rw[cm ah];omega
  (try((repeat(revert N;apply Pn.out));refine wk (tw @b0 (tw @b2 (tw @b3 (tw @bg (tw @hi (tw @hii (tw @nC (tw @g1 (tw @g2 (tw @g3 (tw @Rr (tw @Mo (tw @tl (tw @Zr (tw @l5 (tw @oP @tk)))))))))))))))) ?_;(repeat(apply Pn.mk;intro N Z))))
  refine⟨_,?_,i+1,rfl,ah,ah,sd @oP,sd @tk,sd @Mo,aQ,fun x hx Dw=>?_⟩
  ·omega
  ·have:=fo x hx Dw
   simp only[go_sem, ↓reduceIte,Nat.reduceEqDiff,Nat.reduceAdd,Nat.reduceSub,Nat.reduceLeDiff,reduceCtorEq,Dw,this]
 ·rw[Nn l ah lU]at bg
  (try((repeat(revert N;apply Pn.out));refine wk (tw @b0 (tw @b2 (tw @b3 (tw @bg @hi)))) ?_;(repeat(apply Pn.mk;intro N Z))))
  exact fV (.inr rfl) (vs:=[]) (by simp only[gO,go_sem, ↓reduceIte,Nat.reduceEqDiff,Nat.reduceAdd,Nat.reduceSub,Nat.reduceLeDiff,reduceCtorEq]) ⟨bg,aQ,fo⟩
theorem Yd (cnt:Nat) (we:1<=cnt) (hn:cnt<=1048576) (c f:Nat->Nat->Int) (x y:Nat) (hx:x<cnt) (hy:y<cnt):
  ja Tryz.prog 192 [.dF (ni cnt c f),.int .i64 x,.int .i64 y] fun r=>(r=.br/\∃S:Nat->Bool,S x=true/\S y=false/\∀u v,u<cnt->v<cnt->S u=true->S v=false->¬f u v<c u v)∨∃p:List Nat,r=.sl (p.map eN)/\V5 cnt c f x y p:=by
 refine ja.body fR rfl fun hl n0=>?_
 clear hl
 have lM:=zQ c cnt
 have kG:(0:Int)<=(cnt:Int):=ah
 have Ga:(x:Int)<(cnt:Int):=ah
 have Zi:(y:Int)<(cnt:Int):=ah
 (try((repeat(revert N;apply Pn.out));refine wk (tw @ni.eq_1 @lM) ?_;(repeat(apply Pn.mk;intro N Z))))
 refine .inr (aE _ _ _ _ _ (fun r σ1 hq=>?_) (Nj cnt we hn (-1) ⟨192002000,n0+1+1⟩ _ (sd @Nat.zero_add) aQ))
 obtain⟨o,rfl,ho,Pw,Px,jP⟩:=hq
 (try dsimp only at ho Pw Px jP)
 apply Z
 clear Z N
 have l5:=dh Px
 have pI:(cnt:Int)<=1048576:=ah
 have WV:s5<s5+cnt:=ah
 have iF:List.replicate cnt [AV.int .i64 (-1)]=fc (fun _=>-1) cnt:=by
  refine List.ext_getElem? fun i=>?_
  by_cases h:i<cnt
  ·rw[eX h,List.getElem?_replicate,if_pos h];rfl
  ·rw[List.getElem?_eq_none (by simp;omega),List.getElem?_eq_none (by rw[eM];omega)]
 rw[iF]at ho
 have EL:(fc (fun _=>-1) cnt).set x (aJ (x:Int))=fc (fun v=>if v=x then(x:Int)else -1) cnt:=mE hx (if_pos rfl) fun v _ hv=>if_neg hv
 have hg0:=eX (f:=fun _=>-1) hx
 have tl0:=eM (fun _=>-1) cnt
 rw[aJ]at EL hg0
 (try((repeat(revert N;apply Pn.out));refine wk (tw @ni.eq_1 (tw @lM (tw @kG (tw @pI @l5)))) ?_;(repeat(apply Pn.mk;intro N Z))))
 refine NL ?_
 simp only[go_sem, ↓reduceIte,Nat.reduceEqDiff,Nat.reduceAdd,Nat.reduceSub,Nat.reduceLeDiff,reduceCtorEq,WV]
 apply Z
 clear Z N
 (try((repeat(revert N;apply Pn.out));refine wk (tw @ho (tw @l5 (tw @EL (tw @hg0 (tw @tl0 @Ga))))) ?_;(repeat(apply Pn.mk;intro N Z))))
 obtain⟨C,hC⟩:∃C:Id,C=⟨192003001,σ1.next+1⟩:=⟨_,rfl⟩
 have Xm:=dP (a:=o) (b:=C) (by rw[hC];(try dsimp only);omega)
 have hCv:C.bj=σ1.next+1:=by rw[hC]
 refine bz (fun m env st=>∃(par:Nat->Int) (Q:List Nat) (i:Nat),m=cnt-i/\Bq cnt c f x par Q i/\st.get o=some ⟨true,1,fc par cnt⟩/\st.get C=some ⟨true,s5+cnt,(Q.drop i).map eN⟩/\σ1.next+1<st.next) cnt ⟨_,[x],0,rfl,Bq.start hx,sd @l5,by rw[hC];simp only[go_sem, ↓reduceIte,Nat.reduceEqDiff,Nat.reduceAdd,Nat.reduceSub,Nat.reduceLeDiff,reduceCtorEq,l5];rfl,aQ⟩ ?_
 rintro m env_b st_b ⟨par,Q,i,rfl,hB,bgo,bgC,bn⟩ bkp
 have b0:=bkp 0 (by kernel_rfl)
 have b1:=bkp 1 (by kernel_rfl)
 have b2:=bkp 2 (by kernel_rfl)
 have b7:=bkp 7 (by kernel_rfl)
 have b8:=bkp 8 (by kernel_rfl)
 have b9:=bkp 9 (by kernel_rfl)
 rw[<-hC]at b9
 simp only[go_sem, ↓reduceIte,Nat.reduceEqDiff,Nat.reduceAdd,Nat.reduceSub,Nat.reduceLeDiff,reduceCtorEq]at b0 b1 b2 b7 b8 b9
 clear bkp
 have hQn:=hB.len
 have lU:=hB.ile
 have F1:((Q.drop i).map eN).length=Q.length-i:=by simp
 by_cases hi:i<Q.length
 ·have kd:(0:Int)<((Q.length-i:Nat):Int):=ah
  have vn:Q.drop i=Q[i]::Q.drop (i+1):=List.drop_eq_getElem_cons hi
  obtain⟨u,hu⟩:∃u,u=Q[i]:=⟨_,rfl⟩
  have hun:u<cnt:=by rw[hu];exact hB.lt _ (List.getElem_mem hi)
  rw[<-hu]at vn
  (try((repeat(revert N;apply Pn.out));refine wk (tw @b0 (tw @b1 (tw @b2 (tw @b7 (tw @b8 (tw @b9 (tw @bgC (tw @F1 @kd)))))))) ?_;(repeat(apply Pn.mk;intro N Z))))
  refine NL ?_
  rw[vn,List.map_cons,show eN u=[.int .i64 (u:Int)]from rfl]at bgC
  simp only[go_sem, ↓reduceIte,Nat.reduceEqDiff,Nat.reduceAdd,Nat.reduceSub,Nat.reduceLeDiff,reduceCtorEq,b9,bgC]
  apply Z
  clear Z N
  (try((repeat(revert N;apply Pn.out));refine wk @b7 ?_;(repeat(apply Pn.mk;intro N Z))))
  refine bz (fun m env st=>∃(v:Nat) (par':Nat->Int) (Q':List Nat),m=cnt-v/\v<=cnt/\env 36=.int .i64 (v:Int)/\Bq cnt c f x par' Q' i/\(∃h:i<Q'.length,Q'[i]=u)/\st.get o=some ⟨true,1,fc par' cnt⟩/\st.get C=some ⟨true,s5+cnt,(Q'.drop (i+1)).map eN⟩/\σ1.next+1<st.next/\∀w,w<v->f u w<c u w->0<=par' w) cnt ⟨0,par,Q,rfl,Nat.zero_le _,by(simp only[go_sem, ↓reduceIte,Nat.reduceEqDiff,Nat.reduceAdd,Nat.reduceSub,Nat.reduceLeDiff,reduceCtorEq])<;>rfl,hB,⟨hi,hu.symm⟩,sd (tw @Xm @bgo),sd @Xm,aQ,fun w hw=>absurd hw (Nat.not_lt_zero w)⟩ ?_
  rintro m env_c st_c ⟨v,par',Q',rfl,hvn,c36,eH,⟨tL,Iy⟩,AR,cgC,cn,eV⟩ ckp
  have c0:=ckp 0 (by kernel_rfl)
  have c1:=ckp 1 (by kernel_rfl)
  have c2:=ckp 2 (by kernel_rfl)
  have c7:=ckp 7 (by kernel_rfl)
  have c8:=ckp 8 (by kernel_rfl)
  have c9:=ckp 9 (by kernel_rfl)
  have gz:=ckp 10 (by kernel_rfl)
  have Sd:=ckp 35 (by kernel_rfl)
  simp only[go_sem, ↓reduceIte,Nat.reduceEqDiff,Nat.reduceAdd,Nat.reduceSub,Nat.reduceLeDiff,reduceCtorEq,b0,b1,b2,b7,b8,b9]at c0 c1 c2 c7 c8 c9 gz Sd
  clear ckp
  have tl:=eM par' cnt
  by_cases hv:(v:Int)<(cnt:Int)
  ·have G6:v<cnt:=ah
   have SU:=eX (f:=par') G6
   have jP:=Sp cnt c f u v hun G6
   have hw:IntKind.i64.wrap ((v:Int)+1)=((v+1:Nat):Int):=aK ah
   rw[aJ]at SU
   rw[ni]at jP
   by_cases ly:par' v<0
   ·by_cases hr:f u v<c u v
    ·rw[decide_eq_true hr]at jP
     have fx:(fc par' cnt).set v (aJ (u:Int))=fc (fun w=>if w=v then(u:Int)else par' w) cnt:=mE G6 (if_pos rfl) fun w _ hw=>if_neg hw
     rw[aJ]at fx
     have lg:=eH.visit tL G6 ly (by rw[Iy];exact hr)
     rw[Iy]at lg
     have hQ2:=lg.len
     rw[List.length_append]at hQ2
     simp only[List.length_singleton]at hQ2
     have fE:s5+(Q'.drop (i+1)).length<s5+cnt:=by rw[List.length_drop];omega
     (have zF:=tw @ni.eq_1 (tw @c0 (tw @c7 (tw @c8 (tw @c9 (tw @gz (tw @c36 (tw @Sd (tw @hv (tw @AR (tw @SU (tw @tl (tw @ly @fx))))))))))));(repeat(first|((repeat(revert N;apply Pn.out));refine wk zF ?_;(repeat(apply Pn.mk;intro N Z)))|((try apply Or.inl);refine⟨_,ay.x (jP) (sd zF),?_⟩;apply Z;clear Z N)));try clear zF)
     refine NL ?_
     have hq:(Q'.drop (i+1)).map eN++[[.int .i64 (v:Int)]]=((Q'++[v]).drop (i+1)).map eN:=by rw[List.drop_append_of_le_length ah,List.map_append];rfl
     simp only[go_sem, ↓reduceIte,Nat.reduceEqDiff,Nat.reduceAdd,Nat.reduceSub,Nat.reduceLeDiff,reduceCtorEq,c9,cgC,fE,Xm,hq]
     apply Z
     clear Z N
     (try((repeat(revert N;apply Pn.out));refine wk (tw @c36 @hw) ?_;(repeat(apply Pn.mk;intro N Z))))
     refine⟨_,?_,v+1,_,_,rfl,G6,sd @hw,lg,⟨by rw[List.length_append];omega,by rw[List.getElem_append_left tL];exact Iy⟩,sd @Xm,sd @Xm,aQ,fun w hw F7=>?_⟩
     ·omega
     ·by_cases IB:w=v
      ·rw[if_pos IB];omega
      ·rw[if_neg IB];exact eV w ah F7
    ·rw[decide_eq_false hr]at jP
     (have zF:=tw @ni.eq_1 (tw @c0 (tw @c7 (tw @c8 (tw @c9 (tw @gz (tw @c36 (tw @Sd (tw @hv (tw @AR (tw @SU (tw @tl (tw @ly @hw))))))))))));(repeat(first|((repeat(revert N;apply Pn.out));refine wk zF ?_;(repeat(apply Pn.mk;intro N Z)))|((try apply Or.inl);refine⟨_,ay.x (jP) (sd zF),?_⟩;apply Z;clear Z N)));try clear zF)
     refine⟨_,?_,v+1,par',Q',rfl,G6,sd @hw,eH,⟨tL,Iy⟩,sd @AR,sd @cgC,aQ,fun w hw F7=>?_⟩
     ·omega
     ·by_cases IB:w=v
      ·subst IB;exact absurd F7 hr
      ·exact eV w ah F7
   ·(try((repeat(revert N;apply Pn.out));refine wk (tw @ni.eq_1 (tw @c0 (tw @c7 (tw @c8 (tw @c9 (tw @gz (tw @c36 (tw @Sd (tw @hv (tw @AR (tw @SU (tw @tl (tw @ly @hw))))))))))))) ?_;(repeat(apply Pn.mk;intro N Z))))
    refine⟨_,?_,v+1,par',Q',rfl,G6,sd @hw,eH,⟨tL,Iy⟩,sd @AR,sd @cgC,aQ,fun w hw F7=>?_⟩
    ·omega
    ·by_cases IB:w=v
     ·subst IB;omega
     ·exact eV w ah F7
  ·have hvc:v=cnt:=ah
   subst hvc
   (try((repeat(revert N;apply Pn.out));refine wk (tw @c36 (tw @Sd @hv)) ?_;(repeat(apply Pn.mk;intro N Z))))
   refine⟨_,?_,par',Q',i+1,rfl,eH.next tL fun w hw hr=>eV w hw (by rw[<-Iy];exact hr),sd @AR,sd @cgC,aQ⟩
   omega
 ·have hiQ:i=Q.length:=ah
  subst hiQ
  have kd:¬(0:Int)<((Q.length-Q.length:Nat):Int):=ah
  have hgy:=eX (f:=par) hy
  have tl:=eM par cnt
  rw[aJ]at hgy
  by_cases ly:par y<0
  ·(try((repeat(revert N;apply Pn.out));refine wk (tw @b0 (tw @b1 (tw @b2 (tw @b7 (tw @b8 (tw @b9 (tw @bgC (tw @F1 (tw @kd (tw @bgo (tw @hgy (tw @tl (tw @Zi @ly))))))))))))) ?_;(repeat(apply Pn.mk;intro N Z))))
   exact⟨[.br],sd @Nat.zero_add,.br,iN _ _,.inl ⟨rfl,hB.cut hy ly⟩⟩
  ·(try((repeat(revert N;apply Pn.out));refine wk (tw @b0 (tw @b1 (tw @b2 (tw @b7 (tw @b8 (tw @b9 (tw @bgC (tw @F1 (tw @kd (tw @bgo (tw @hgy (tw @tl (tw @Zi @ly))))))))))))) ?_;(repeat(apply Pn.mk;intro N Z))))
   refine bz (fun m env st=>∃(k:Nat) (out:List Nat) (p:Id),m=Q.idxOf k/\env 13=.int .i64 (k:Int)/\env 12=.own p 0 out.length/\st.get p=some ⟨true,1,out.map eN⟩/\p.bj<st.next/\st_b.next<=p.bj/\k∈Q/\yg c f Q y k out/\st.get o=some ⟨true,1,fc par cnt⟩) (Q.idxOf y) ⟨y,[y],⟨192017001,st_b.next+1+1⟩,rfl,by(simp only[go_sem, ↓reduceIte,Nat.reduceEqDiff,Nat.reduceAdd,Nat.reduceSub,Nat.reduceLeDiff,reduceCtorEq]),by(simp only[go_sem, ↓reduceIte,Nat.reduceEqDiff,Nat.reduceAdd,Nat.reduceSub,Nat.reduceLeDiff,reduceCtorEq])<;>rfl,by(simp only[go_sem, ↓reduceIte,Nat.reduceEqDiff,Nat.reduceAdd,Nat.reduceSub,Nat.reduceLeDiff,reduceCtorEq])<;>rfl,aQ,aQ,(hB.iff y hy).1 ah,yg.start ((hB.iff y hy).1 ah),by(have PG:=dh (i:=o) (n:=st_b.next) ah);simp only[go_sem, ↓reduceIte,Nat.reduceEqDiff,Nat.reduceAdd,Nat.reduceSub,Nat.reduceLeDiff,reduceCtorEq,PG,bgo]⟩ ?_
   rintro m env_d st_d ⟨k,out,p,rfl,d13,d12,dgp,dpn,dpo,hkQ,xW,dgo⟩ dkp
   have d1:=dkp 1 (by kernel_rfl)
   have d8:=dkp 8 (by kernel_rfl)
   simp only[go_sem, ↓reduceIte,Nat.reduceEqDiff,Nat.reduceAdd,Nat.reduceSub,Nat.reduceLeDiff,reduceCtorEq,b1,b8]at d1 d8
   clear dkp
   have Dv:=dh dpn
   have EP:=dh (i:=o) (n:=st_d.next) ah
   have eS:=dP (a:=o) (b:=p) ah
   have Mg:=xW.len hB.lt
   have iO:=hB.lt k hkQ
   have gU:(out.map eN).length=out.length:=by simp
   by_cases YY:k=x
   ·have hd:decide ((k:Int)=(x:Int))=true:=decide_eq_true (by rw[YY])
    have hop2:0<out.length:=by
     obtain⟨rest,h1,_⟩:=xW
     rw[<-List.length_reverse,h1];simp
    (try((repeat(revert N;apply Pn.out));refine wk (tw @d1 (tw @d8 (tw @d12 (tw @d13 (tw @hd @Bool.not_true))))) ?_;(repeat(apply Pn.mk;intro N Z))))
    refine .inr (aE _ _ _ _ _ (fun r σ2 hq=>?_) (Kv out hop2 ah p _ dgp aQ))
    obtain⟨W8,oL,L9⟩:=hq
    apply Z
    clear Z N
    (try((repeat(revert N;apply Pn.out));refine wk @d12 ?_;(repeat(apply Pn.mk;intro N Z))))
    refine⟨[.own p 0 out.length],sd @d12,.sl (out.reverse.map eN),?_,.inr ⟨out.reverse,rfl,by subst YY;exact xW.way hB.lt⟩⟩
    exact eP (sz:=1) W8 (by simp) fun a=>Ss _ 4 a
   ·have hd:decide ((k:Int)=(x:Int))=false:=decide_eq_false fun h=>YY ah
    obtain⟨u,huQ,hpu,Cw,hr⟩:=hB.up k hkQ YY
    have gL:=eX (f:=par) iO
    rw[aJ,hpu]at gL
    have hki:(k:Int)<(cnt:Int):=ah
    have e1:out.length+1<=16777216:=ah
    (try((repeat(revert N;apply Pn.out));refine wk (tw @d1 (tw @d8 (tw @d12 (tw @d13 (tw @hd (tw @Bool.not_false (tw @dgo (tw @dgp (tw @gL (tw @tl (tw @hki (tw @Dv (tw @EP (tw @eS (tw @gU @e1))))))))))))))) ?_;(repeat(apply Pn.mk;intro N Z))))
    refine⟨_,Cw,u,out++[u],⟨192021003,st_d.next+1+1⟩,rfl,sd @Nat.zero_add,by rw[List.length_append];simp only[go_sem, ↓reduceIte,Nat.reduceEqDiff,Nat.reduceAdd,Nat.reduceSub,Nat.reduceLeDiff,reduceCtorEq,List.length_cons,List.length_nil],by rw[List.map_append,List.map_cons,List.map_nil];simp only[go_sem, ↓reduceIte,Nat.reduceEqDiff,Nat.reduceAdd,Nat.reduceSub,Nat.reduceLeDiff,reduceCtorEq,eN],aQ,aQ,huQ,xW.step huQ Cw hr,sd (tw @EP (tw @eS @dgo))⟩
theorem DT (b:Nat):∀(l:List Nat) (a:Nat) (f:Nat->Nat->Int),nO f ((a::l)++[b])=lR (nO f (a::l)) ((a::l).getLast (by simp)) b
 |[],a,f=>rfl
 |c::l,a,f=>by
  rw[List.cons_append,List.cons_append,nO,<-List.cons_append,DT b l c (lR f a c),nO,List.getLast_cons_cons]
theorem Ji {p:List Nat} {f:Nat->Nat->Int} {i:Nat} (h1:1<=i) (hi:i<p.length):nO f (p.take (i+1))=lR (nO f (p.take i)) (p[i-1]'ah) p[i]:=by
 rw[List.take_succ_eq_append_getElem hi]
 have ig:p.take i≠[]:=by
  intro h
  have:(p.take i).length=0:=by rw[h];rfl
  rw[List.length_take]at this;omega
 obtain⟨a,l,Oj⟩:∃a l,p.take i=a::l:=by
  cases h:p.take i with
  |nil=>exact absurd h ig
  |cons a l=>exact⟨a,l,rfl⟩
 have yU:(p.take i).getLast ig=p[i-1]'ah:=by
  rw[List.getLast_eq_getElem,List.getElem_take]
  congr 1
  rw[List.length_take];omega
 simp only[Oj]at yU ⊢
 rw[DT,yU]
theorem Kr (f:Nat->Nat->Int) (a b u v:Nat):lR f a b u v<=f u v+1/\f u v-1<=lR f a b u v:=by
 unfold lR bump
 split<;>split<;>constructor<;>omega
theorem nP:∀(p:List Nat) (f:Nat->Nat->Int) (u v:Nat),nO f p u v<=f u v+p.length/\f u v-p.length<=nO f p u v
 |[],f,u,v=>by simp[nO]
 |[_],f,u,v=>by simp[nO];omega
 |a::b::r,f,u,v=>by
  rw[nO]
  have h1:=nP (b::r) (lR f a b) u v
  have h2:=Kr f a b u v
  simp only[List.length_cons]at h1 ⊢
  omega
theorem qh.push {g g':Rows} {X o1 o2:Id} {R1 R2:Nat->Id} {n nb:Nat} {c f:Nat->Nat->Int} (I:Jd X o1 o2 R1 R2 n nb) (h:qh g X o1 o2 R1 R2 n c f) {a b:Nat} (ha:a<n) (hb:b<n) (qa:a≠b) (hA:g' (R2 a)=some ⟨true,1,fc (bump f a b 1 a) n⟩) (hB:g' (R2 b)=some ⟨true,1,fc (bump (bump f a b 1) b a (-1) b) n⟩) (hf:∀i:Id,i.bj<nb->(i=R2 a)=False->(i=R2 b)=False->g' i=g i):qh g' X o1 o2 R1 R2 n c (lR f a b):=by
 have ne:∀{i:Id} {s:Nat},i.site=s->(s==178005006)=false->∀a,a<n->(i=R2 a)=False:=fun {i s} hi hs a ha=>by
  simp only[eq_iff_iff,iff_false]
  rintro rfl
  rw[I.RE a ha]at hi
  subst hi
  simp at hs
 refine⟨(hf _ I.vx (ne I.sx (by decide) _ ha) (ne I.sx (by decide) _ hb)).trans h.x,(hf _ I.v1 (ne I.s1 (by decide) _ ha) (ne I.s1 (by decide) _ hb)).trans h.t1,(hf _ I.v2 (ne I.s2 (by decide) _ ha) (ne I.s2 (by decide) _ hb)).trans h.t2,fun i hi=>(hf _ (I.vr1 i hi) (ne (I.Zp i hi) (by decide) _ ha) (ne (I.Zp i hi) (by decide) _ hb)).trans (h.r1 i hi),fun i hi=>?_⟩
 by_cases Ot:i=b
 ·subst Ot;exact hB
 ·by_cases Oq:i=a
  ·subst Oq
   rw[hA,lR,lq Ot]
  ·rw[lR,lq Ot,lq Oq,hf _ (I.Yb i hi) (by simp only[eq_iff_iff,iff_false];exact fun he=>Oq (I.i2 i _ hi ha he)) (by simp only[eq_iff_iff,iff_false];exact fun he=>Ot (I.i2 i _ hi hb he))]
   exact h.r2 i hi
theorem TR (cnt:Nat) (we:1<=cnt) (hn:cnt<=1048576) (c:Nat->Nat->Int) (hc:∀u v,u<cnt->v<cnt->0<=c u v/\c u v<=16777216) (x y:Nat) (hx:x<cnt) (hy:y<cnt) (Tp:x≠y) (t:Int) (ht:t<=1099511627776)
  (X o1 o2:Id) (R1 R2:Nat->Id) (nb:Nat) (I:Jd X o1 o2 R1 R2 cnt nb) (σ:az) (hM:qh σ.get X o1 o2 R1 R2 cnt c (fun _ _=>0)) (VG:nb<=σ.next):
  Call Tryz.prog 179 [.ptr X 0 0,.int .i64 x,.int .i64 y,.int .i64 t] σ fun r σ'=>∃(k:Nat) (f:Nat->Nat->Int),r=.int .i64 k/\pk cnt c f x y k/\qh σ'.get X o1 o2 R1 R2 cnt c f/\((∃S:Nat->Bool,S x=true/\S y=false/\∀u v,u<cnt->v<cnt->S u=true->S v=false->¬f u v<c u v)∨t<=k)/\σ.next<=σ'.next:=by
 refine hZ fR rfl fun hl=>?_
 clear hl
 have hxS:(fun v=>decide (v=x)) x=true:=by simp
 have hyS:(fun v=>decide (v=x)) y=false:=by simp;exact fun h=>Tp h.symm
 obtain⟨top,htop⟩:∃top,top=nQ cnt (fun v=>decide (v=x)) c:=⟨_,rfl⟩
 (try((repeat(revert N;apply Pn.out));refine wk @Nat.zero_add ?_;(repeat(apply Pn.mk;intro N Z))))
 refine bz (fun m env st=>∃(k:Nat) (f:Nat->Nat->Int),m=(top-k).toNat/\env 9=.int .i64 (k:Int)/\pk cnt c f x y k/\qh st.get X o1 o2 R1 R2 cnt c f/\σ.next<=st.next/\(0<k->(k:Int)<=t)/\∀u v,-((k:Int)*(cnt:Int))<=f u v) (top-0).toNat ⟨0,fun _ _=>0,rfl,by(simp only[go_sem, ↓reduceIte,Nat.reduceEqDiff,Nat.reduceAdd,Nat.reduceSub,Nat.reduceLeDiff,reduceCtorEq])<;>rfl,pk.zero fun u v hu hv=>(hc u v hu hv).1,hM,aQ,fun h=>absurd h (Nat.lt_irrefl 0),fun u v=>by simp⟩ ?_
 rintro m env_b st_b ⟨k,f,rfl,b9,hF,bM,bn,bk,blo⟩ bkp
 have b0:=bkp 0 (by kernel_rfl)
 have b1:=bkp 1 (by kernel_rfl)
 have b2:=bkp 2 (by kernel_rfl)
 have b3:=bkp 3 (by kernel_rfl)
 simp only[go_sem, ↓reduceIte,Nat.reduceEqDiff,Nat.reduceAdd,Nat.reduceSub,Nat.reduceLeDiff,reduceCtorEq]at b0 b1 b2 b3
 clear bkp
 have hz:eI (eL st_b.get) 6 [.ptr X 0 0,.int .i64 (x:Int),.int .i64 (y:Int)]=some [.dF (ni cnt c f),.int .i64 x,.int .i64 y]:=by simp only[ar,ax,bM.fz,aW,Option.map_some]
 (try((repeat(revert N;apply Pn.out));refine wk (tw @b0 (tw @b1 (tw @b2 (tw @b3 @b9)))) ?_;(repeat(apply Pn.mk;intro N Z))))
 refine .inr (aE _ _ _ _ _ (fun r σ1 hq=>?_) ((Yd cnt we hn c f x y hx hy).x mixed hz))
 obtain⟨Cy,rfl⟩:=hq
 apply Z
 clear Z N
 rcases Cy with⟨rfl,S,Pg,L0,Vx⟩|⟨p,rfl,hW⟩
 ·(try((repeat(revert N;apply Pn.out));refine wk (tw @b0 (tw @b1 (tw @b2 (tw @b3 (tw @b9 (tw @Bool.not_true @Bool.not_false)))))) ?_;(repeat(apply Pn.mk;intro N Z))))
  refine fV (.inl rfl) (vs:=[.int .i64 (k:Int)]) (sd @Nat.zero_add) ⟨k,f,rfl,hF,by(try dsimp only);exact bM,.inl ⟨S,Pg,L0,Vx⟩,aQ⟩
 ·obtain⟨⟨rs,rfl,yU⟩,pU,fE,hplt⟩:=hW
  by_cases Ox:t<=(k:Int)
  ·(try((repeat(revert N;apply Pn.out));refine wk (tw @b0 (tw @b1 (tw @b2 (tw @b3 (tw @b9 (tw @Ox (tw @Bool.not_true @Bool.not_false))))))) ?_;(repeat(apply Pn.mk;intro N Z))))
   refine fV (.inl rfl) (vs:=[.int .i64 (k:Int)]) (sd @Nat.zero_add) ⟨k,f,rfl,hF,by(try dsimp only);exact bM,.inr Ox,aQ⟩
  ·(try((repeat(revert N;apply Pn.out));refine wk (tw @b0 (tw @b1 (tw @b2 (tw @b3 (tw @b9 (tw @Ox (tw @Bool.not_true @Bool.not_false))))))) ?_;(repeat(apply Pn.mk;intro N Z))))
   have nK:=qO cnt _ pU hplt
   have hkc:(k:Int)*(cnt:Int)<=1099511627776*1048576:=Int.mul_le_mul ah ah ah ah
   have hfb:=hF.bound (S:=fun v=>decide (v=x)) hxS hyS
   have hnear:=nP
   obtain⟨p,hp⟩:∃p,p=x::rs:=⟨_,rfl⟩
   have Pr:eN x::List.map eN rs=p.map eN:=by rw[hp];rfl
   rw[Pr]
   have Tc:1<=p.length:=by rw[hp];simp
   have Wy:=hF.aug yU pU fE hplt
   rw[<-hp]at Wy pU fE hplt nK
   have Tl:p.take 1=[x]:=by rw[hp];rfl
   clear Pr yU
   refine bz (fun m env st=>∃i:Nat,m=p.length-i/\1<=i/\i<=p.length/\env 11=.int .i64 (i:Int)/\qh st.get X o1 o2 R1 R2 cnt c (nO f (p.take i))/\st_b.next<=st.next) (p.length-1) ⟨1,rfl,Nat.le_refl _,Tc,by(simp only[go_sem, ↓reduceIte,Nat.reduceEqDiff,Nat.reduceAdd,Nat.reduceSub,Nat.reduceLeDiff,reduceCtorEq])<;>rfl,by rw[Tl];exact bM,aQ⟩ ?_
   rintro m env_c st_c ⟨i,rfl,Pp,lU,pR,cM,cn⟩ ckp
   have c0:=ckp 0 (by kernel_rfl)
   have c1:=ckp 1 (by kernel_rfl)
   have c2:=ckp 2 (by kernel_rfl)
   have c3:=ckp 3 (by kernel_rfl)
   have c9:=ckp 9 (by kernel_rfl)
   have gz:=ckp 10 (by kernel_rfl)
   simp only[go_sem, ↓reduceIte,Nat.reduceEqDiff,Nat.reduceAdd,Nat.reduceSub,Nat.reduceLeDiff,reduceCtorEq,b0,b1,b2,b3,b9]at c0 c1 c2 c3 c9 gz
   clear ckp
   have gU:(p.map eN).length=p.length:=by simp
   by_cases hi:(i:Int)<(p.length:Int)
   ·have fZ:i<p.length:=ah
    have Ar:=Ji (f:=f) Pp fZ
    obtain⟨a,ha⟩:∃a,a=p[i-1]'ah:=⟨_,rfl⟩
    obtain⟨b,hb⟩:∃b,b=p[i]:=⟨_,rfl⟩
    have Iq:a<cnt:=by rw[ha];exact hplt _ (List.getElem_mem _)
    have Is:b<cnt:=by rw[hb];exact hplt _ (List.getElem_mem _)
    have qa:a≠b:=by
     rw[ha,hb]
     exact List.pairwise_iff_getElem.1 pU (i-1) i ah fZ ah
    have On:(p.map eN)[i-1]? =some [.int .i64 (a:Int)]:=by rw[List.getElem?_map,List.getElem?_eq_getElem ah,ha];rfl
    have SR:(p.map eN)[i]? =some [.int .i64 (b:Int)]:=by rw[List.getElem?_map,List.getElem?_eq_getElem fZ,hb];rfl
    rw[<-ha,<-hb]at Ar
    have hn1':=nP (p.take i) f a b
    have hn2':=nP (p.take i) f b a
    rw[List.length_take]at hn1' hn2'
    have S4:=blo b a
    have S5:=blo a b
    have Xy:=hF.le a b Iq Is
    have hu2:=hF.le b a Is Iq
    have hca:=hc a b Iq Is
    have It:=hc b a Is Iq
    generalize nO f (p.take i)=fl at *
    have gA:=uW (R:=R2) (n:=cnt) Iq
    have gB:=uW (R:=R2) (n:=cnt) Is
    have rA:=cM.r2 _ Iq
    have rB:=cM.r2 _ Is
    have cA:=eX (f:=fl a) Is
    have cB:=eX (f:=fl b) Iq
    have sA:=qq (f:=fl) (a:=a) (d:=1) Is
    have Ta:bump fl a b 1 b=fl b:=lq fun h=>qa h.symm
    have sB:=qq (f:=bump fl a b 1) (a:=b) (b:=a) (d:=-1) (n:=cnt) Iq
    rw[Ta]at sB
    have gX:=cM.x
    have g2:=cM.t2
    have iR:(a:Int)<(cnt:Int):=ah
    have gH:(b:Int)<(cnt:Int):=ah
    have Ze:IntKind.i64.wrap ((i:Int)-1)=((i-1:Nat):Int):=by rw[cm ah];omega
    have xY:((i-1:Nat):Int)<(p.length:Int):=ah
    have wA:IntKind.i64.wrap (fl a b+1)=fl a b+1:=cm ah
    have wB:IntKind.i64.wrap (fl b a-1)=fl b a+-1:=by rw[cm ah];omega
    have XC:IntKind.i64.wrap ((i:Int)+1)=((i+1:Nat):Int):=aK ah
    have l2:=lF R2 cnt cnt
    have lA:=eM (fl a) cnt
    have lB:=eM (fl b) cnt
    have ig:(R2 a=R2 b)=False:=by simp only[eq_iff_iff,iff_false];exact fun h=>qa (I.i2 _ _ Iq Is h)
    have Mf:(R2 b=R2 a)=False:=by simp only[eq_iff_iff,iff_false];exact fun h=>qa (I.i2 _ _ Iq Is h.symm)
    have xA:=C9 I.sx (I.RE a Iq) (by decide)
    have xB:=C9 I.sx (I.RE b Is) (by decide)
    have yA:=C9 I.s2 (I.RE a Iq) (by decide)
    have yB:=C9 I.s2 (I.RE b Is) (by decide)
    have qX:=dh (i:=X) (n:=st_c.next) (by have:=I.vx;omega)
    have q2:=dh (i:=o2) (n:=st_c.next) (by have:=I.v2;omega)
    have qA:=dh (i:=R2 a) (n:=st_c.next) (by have:=I.Yb a Iq;omega)
    have qB:=dh (i:=R2 b) (n:=st_c.next) (by have:=I.Yb b Is;omega)
    rw[aJ]at cA cB sA sB
    (try((repeat(revert N;apply Pn.out));refine wk (tw @c0 (tw @c9 (tw @gz (tw @pR (tw @gU (tw @hi (tw @xY (tw @On (tw @SR (tw @gA (tw @gB (tw @rA (tw @rB (tw @cA (tw @cB (tw @sA (tw @sB (tw @gX (tw @g2 (tw @iR (tw @gH (tw @Ze (tw @wA (tw @wB (tw @XC (tw @l2 (tw @lA (tw @lB (tw @ig (tw @Mf (tw @xA (tw @xB (tw @yA (tw @yB (tw @qX (tw @q2 (tw @qA @qB))))))))))))))))))))))))))))))))))))) ?_;(repeat(apply Pn.mk;intro N Z))))
    refine⟨_,?_,i+1,rfl,ah,ah,sd @XC,?_,aQ⟩
    ·omega
    ·rw[Ar]
     refine cM.push I Iq Is qa ?_ ?_ fun j hj h1 h2=>?_
     ·simp only[go_sem, ↓reduceIte,Nat.reduceEqDiff,Nat.reduceAdd,Nat.reduceSub,Nat.reduceLeDiff,reduceCtorEq,ig]
     ·simp only[go_sem, ↓reduceIte,Nat.reduceEqDiff,Nat.reduceAdd,Nat.reduceSub,Nat.reduceLeDiff,reduceCtorEq,ig]
     ·simp only[go_sem, ↓reduceIte,Nat.reduceEqDiff,Nat.reduceAdd,Nat.reduceSub,Nat.reduceLeDiff,reduceCtorEq,h1,h2]
   ·have G1:i=p.length:=ah
    subst G1
    rw[List.take_length]at cM
    have To:IntKind.i64.wrap ((k:Int)+1)=((k+1:Nat):Int):=aK ah
    have hfb2:=Wy.bound (S:=fun v=>decide (v=x)) hxS hyS
    (try((repeat(revert N;apply Pn.out));refine wk (tw @c0 (tw @c9 (tw @gz (tw @pR (tw @gU (tw @hi @To)))))) ?_;(repeat(apply Pn.mk;intro N Z))))
    refine⟨_,?_,k+1,_,rfl,sd @To,by rw[Int.natCast_add];exact Wy,cM,aQ,fun _=>ah,fun u v=>?_⟩
    ·rw[<-htop]at hfb2;omega
    ·have h1:=(nP p f u v).2
     have h2:=blo u v
     rw[Int.natCast_add,Int.add_mul]
     omega
theorem TQ (cnt:Nat) (we:1<=cnt) (hn:cnt<=1048576) (c:Nat->Nat->Int) (hc:∀u v,u<cnt->v<cnt->0<=c u v/\c u v<=16777216) (x y:Nat) (hx:x<cnt) (hy:y<cnt) (Tp:x≠y) (t:Int) (ht:t<=1099511627776)
  (X o1 o2:Id) (R1 R2:Nat->Id) (nb:Nat) (I:Jd X o1 o2 R1 R2 cnt nb) (σ:az) (hM:qh σ.get X o1 o2 R1 R2 cnt c (fun _ _=>0)) (VG:nb<=σ.next):
  Call Tryz.prog 179 [.ptr X 0 0,.int .i64 x,.int .i64 y,.int .i64 t] σ fun r σ'=>∃val:Int,r=.int .i64 val/\(val<t↔∃S:Nat->Bool,S x=true/\S y=false/\nQ cnt S c<t)/\σ.next<=σ'.next:=by
 refine aE _ _ _ _ _ (fun r σ1 hq=>?_) (TR cnt we hn c hc x y hx hy Tp t ht X o1 o2 R1 R2 nb I σ hM VG)
 obtain⟨k,f,rfl,hF,_,hS,hle⟩:=hq
 refine⟨(k:Int),rfl,⟨fun h=>?_,fun⟨S',h1,h2,h3⟩=>by have:=hF.bound h1 h2;omega⟩,hle⟩
 rcases hS with⟨S,Pg,L0,Vx⟩|h2
 ·exact⟨S,Pg,L0,by rw[<-hF.full Pg L0 Vx];exact h⟩
 ·omega
noncomputable def xb (n:Nat) (bs:List PB) (t:Int):Bool:=@decide (l9 n bs t) (Classical.propDecidable _)
theorem Be {n:Nat} {bs:List PB} {t:Int} (h:l9 n bs t):true=xb n bs t:=by simp[xb,h]
theorem EG {n:Nat} {bs:List PB} {t:Int} (h:¬l9 n bs t):false=xb n bs t:=by simp[xb,h]
theorem Pv (cnt:Nat) (hn:cnt<=1048576) (bs:List PB) (hb:∀b∈bs,b.a<cnt/\b.b<cnt) (eA:∀b∈bs,0<=b.s/\b.s<=4) (iD:bs.length<=1048576) (t:Int) (ht:t<=1099511627776):
  ay Tryz.prog 150 [.int .i64 cnt,.sl (bs.map aP),.int .i64 t] (.bool (xb cnt bs t)):=by
 refine ay.body fR rfl fun hl n0=>?_
 clear hl
 have lx:=C1 bs (fun _ _=>0) (fun b h=>(eA b h).1) (fun _ _=>Int.le_refl _)
 have hle:=room_le bs (fun _ _=>0) 0 (fun b h=>(eA b h).2) (fun _ _=>Int.le_refl _) (Int.le_refl _)
 have fE:bs.foldl pP (fun _ _=>0)=mA bs:=rfl
 rw[fE]at lx hle
 (try((repeat(revert N;apply Pn.out));refine wk @Nat.zero_add ?_;(repeat(apply Pn.mk;intro N Z))))
 refine bz (fun m env st=>∃y:Nat,m=cnt+1-y/\1<=y/\env 7=.int .i64 (y:Int)/\y<=cnt+1/\∀z,1<=z->z<y->z<cnt->∀S:Nat->Bool,S 0=true->S z=false->t<=jY S bs) (cnt+1-1) ⟨1,rfl,Nat.le_refl _,by(simp only[go_sem, ↓reduceIte,Nat.reduceEqDiff,Nat.reduceAdd,Nat.reduceSub,Nat.reduceLeDiff,reduceCtorEq])<;>rfl,ah,fun z h1 h2=>ah⟩ ?_
 rintro m env_b st_b ⟨y,rfl,hy1,b7,hyl,eV⟩ bkp
 have b0:=bkp 0 (by kernel_rfl)
 have b1:=bkp 1 (by kernel_rfl)
 have b2:=bkp 2 (by kernel_rfl)
 simp only[go_sem, ↓reduceIte,Nat.reduceEqDiff,Nat.reduceAdd,Nat.reduceSub,Nat.reduceLeDiff,reduceCtorEq]at b0 b1 b2
 clear bkp
 by_cases hy:(y:Int)<(cnt:Int)
 ·have hyn:y<cnt:=ah
  (try((repeat(revert N;apply Pn.out));refine wk (tw @b0 (tw @b1 (tw @b2 (tw @b7 @hy)))) ?_;(repeat(apply Pn.mk;intro N Z))))
  refine .inr (aE _ _ _ _ _ (fun r σ1 hq=>?_) (Ft cnt ah hn bs hb eA iD _))
  obtain⟨X,o1,o2,R1,R2,rfl,I,JO,hM,_⟩:=hq
  apply Z
  clear Z N
  (try((repeat(revert N;apply Pn.out));refine wk (tw @b0 (tw @b1 (tw @b2 @b7))) ?_;(repeat(apply Pn.mk;intro N Z))))
  have hsd:=TQ cnt ah hn (mA bs) (fun u v _ _=>⟨lx u v,by have:=hle u v;omega⟩) 0 y ah hyn ah t ht X o1 o2 R1 R2 σ1.next I
  refine .inr (aE _ _ _ _ _ (fun r σ2 hq=>?_) (hsd _ hM aQ))
  obtain⟨val,rfl,wg,oL⟩:=hq
  apply Z
  clear Z N
  by_cases eW:val<t
  ·(try((repeat(revert N;apply Pn.out));refine wk (tw @b0 (tw @b1 (tw @b2 (tw @b7 @eW)))) ?_;(repeat(apply Pn.mk;intro N Z))))
   obtain⟨S,h1,h2,h3⟩:=wg.1 eW
   rw[Eb hb]at h3
   exact cD (b:=false) (.inl rfl) (sd @Nat.zero_add) (EG fun h=>by have:=h S h1 ⟨y,hyn,h2⟩;omega)
  ·have hw:IntKind.i64.wrap ((y:Int)+1)=((y+1:Nat):Int):=aK ah
   (try((repeat(revert N;apply Pn.out));refine wk (tw @b0 (tw @b1 (tw @b2 (tw @b7 (tw @eW @hw))))) ?_;(repeat(apply Pn.mk;intro N Z))))
   refine⟨_,?_,y+1,rfl,ah,sd (tw @b7 @hw),ah,fun z h1 h2 h3 S Pg L0=>?_⟩
   ·omega
   ·by_cases hzy:z=y
    ·subst hzy
     rcases Int.lt_or_le (jY S bs) t with h|h
     ·exact absurd (wg.2 ⟨S,Pg,L0,by rw[Eb hb];exact h⟩) eW
     ·exact h
    ·exact eV z h1 ah h3 S Pg L0
 ·(try((repeat(revert N;apply Pn.out));refine wk (tw @b0 (tw @b1 (tw @b2 (tw @b7 @hy)))) ?_;(repeat(apply Pn.mk;intro N Z))))
  exact cD (b:=true) (.inl rfl) (sd @Nat.zero_add) (Be fun S h0 ⟨z,hz,hzf⟩=>by
   have:z≠0:=by rintro rfl;rw[h0]at hzf;cases hzf
   exact eV z ah ah hz S h0 hzf)
theorem Mh (cnt:Nat) (hn:cnt<=1048576) (bs:List PB) (hb:∀b∈bs,b.a<cnt/\b.b<cnt) (eA:∀b∈bs,0<=b.s/\b.s<=4) (iD:bs.length<=1048576) (t:Int) (ht:t<=1099511627776):
  ay Tryz.prog 150 [.int .i64 cnt,C6 bs,.int .i64 t] (.bool (xb cnt bs t)):=by
 have h:=Pv cnt hn bs hb eA iD t ht
 cases bs with
 |nil=>exact h.cut mixed (.same _ (.br (.same _ .nil)))
 |cons b r=>rw[C7 (by simp)];exact h
def Gc:Prop:=∀(s:aH) (l:List aa),iK s->jf s l->ay Tryz.prog 149 [.agg (aj s),.agg [.sl (l.map ai)]] (C6 (dI s l))
noncomputable def x9 (s:aH) (l:List aa) (t:Int):Bool:=if 64<jr s l t then false else xb (jr s l t) (eF (ft (bx t (dI s l))) (dI s l)) t
theorem Ha (s:aH) (l:List aa) (t:Int):x9 s l t=pK s l t:=by
 letI:=Classical.propDecidable (rh l.length (dI s l) t)
 unfold x9
 by_cases h:64<jr s l t
 ·rw[if_pos h]
  exact(oa (p:=False) ⟨False.elim,fun k=>by have:=k.1;unfold jr at h;omega⟩).symm.trans (by simp) |>.symm
 ·rw[if_neg h]
  by_cases hp:l9 (jr s l t) (eF (ft (bx t (dI s l))) (dI s l)) t
  ·rw[<-Be hp]
   exact((oa (p:=True) ⟨fun _=>⟨by unfold jr at h;omega,hp⟩,fun _=>trivial⟩).symm.trans (by simp)).symm
  ·rw[<-EG hp]
   exact((oa (p:=False) ⟨False.elim,fun k=>hp k.2⟩).symm.trans (by simp)).symm
theorem Nx (Z5:Gc) (s:aH) (l:List aa) (t:Int) (ht:t<=1099511627776) (h1:1<=l.length) (hS:iK s) (hA:jf s l):ay Tryz.prog 131 [.agg (aj s),.agg [.sl (l.map ai)],.int .i64 t] (.gM [.bool (pK s l t),.bool (decide ¬64<jr s l t)]):=by
 rw[<-Ha]
 refine ay.body fR rfl fun hl n0=>?_
 clear hl
 have hb:=AN (l:=l) hS
 have iD:=sR (s:=s) hA.1
 have Ew:=hA.1.wQ
 have zY:=Z5 s l hS hA
 have WV:=Ch l.length h1 ah (dI s l) (fun b h=>⟨(hb b h).1,(hb b h).2.1⟩) ah t
 have hL:=xg (bx t (dI s l))
 have fZ:=HC hL (fun b h=>⟨(hb b h).1,(hb b h).2.1⟩)
 have hlen:=(pe (ft (bx t (dI s l))) (dI s l)).1
 have oK:=kQ l.length (ft (bx t (dI s l)))
 have hho:=Mh (jr s l t) (by unfold jr;omega) (eF (ft (bx t (dI s l))) (dI s l)) (fun b h=>⟨(fZ b h).1,(fZ b h).2.1⟩) (fun b h=>by
  obtain⟨_,_,_,c,hc,eD⟩:=fZ b h
  rw[eD];have:=hb c hc;omega) ah t ht
 have fy:(l.map ai).length=l.length:=by simp
 have hzB:∀(g:Rows) (n:Nat) (bs:List PB),V.fz g (n+1) (C6 bs)=some (C6 bs):=fun g n bs=>by
  unfold C6;split
  ·exact aV _ _
  ·exact cw _ _ _
 rw[aj]at zY
 rw[<-jr]at WV
 have z7:∀(g:Rows) (x:Int),eI (eL g) 6 [.int .i64 l.length,C6 (dI s l),.int .i64 x]=some [.int .i64 l.length,C6 (dI s l),.int .i64 x]:=fun g x=>by simp only[ar,ax,aW,hzB,Option.map_some]
 have hzh:∀(g:Rows) (x y:Int),eI (eL g) 6 [.int .i64 x,C6 (eF (ft (bx t (dI s l))) (dI s l)),.int .i64 y]=some [.int .i64 x,C6 (eF (ft (bx t (dI s l))) (dI s l)),.int .i64 y]:=fun g x y=>by simp only[ar,ax,aW,hzB,Option.map_some]
 generalize C6 (dI s l)=B1 at *
 generalize C6 (eF (ft (bx t (dI s l))) (dI s l))=B2 at *
 by_cases xF:(64:Int)<(jr s l t:Int)
 ·have xG:64<jr s l t:=ah
  (have zF:=tw @aj.eq_1 (tw @xF @fy);(repeat(first|((repeat(revert N;apply Pn.out));refine wk zF ?_;(repeat(apply Pn.mk;intro N Z)))|((try apply Or.inl);refine⟨_,ay.x (zY) (sd zF),?_⟩;apply Z;clear Z N)));try clear zF)
  refine⟨_,ay.x WV (z7 _ _),?_⟩
  apply Z
  clear Z N
  (try((repeat(revert N;apply Pn.out));refine wk @xF ?_;(repeat(apply Pn.mk;intro N Z))))
  exact km (.inl rfl) (r1:=.bool false) (r2:=.bool false) (sd @Nat.zero_add) (sd @Nat.zero_add) (by rw[x9,if_pos xG,decide_eq_false fun h=>h xG];simp only[eR,bc,bY,fM,Option.map_some])
 ·have xG:¬64<jr s l t:=ah
  (have zF:=tw @aj.eq_1 (tw @xF @fy);(repeat(first|((repeat(revert N;apply Pn.out));refine wk zF ?_;(repeat(apply Pn.mk;intro N Z)))|((try apply Or.inl);refine⟨_,ay.x (zY) (sd zF),?_⟩;apply Z;clear Z N)));try clear zF)
  refine⟨_,ay.x WV (z7 _ _),?_⟩
  apply Z
  clear Z N
  (try((repeat(revert N;apply Pn.out));refine wk @xF ?_;(repeat(apply Pn.mk;intro N Z))))
  refine .inl ⟨_,ay.x hho (hzh _ _ _),?_⟩
  apply Z
  clear Z N
  (try((repeat(revert N;apply Pn.out));refine wk @Nat.zero_add ?_;(repeat(apply Pn.mk;intro N Z))))
  exact km (.inl rfl) (r1:=.bool (xb (jr s l t) (eF (ft (bx t (dI s l))) (dI s l)) t)) (r2:=.bool true) (sd @Nat.zero_add) (sd @Nat.zero_add) (by rw[x9,if_neg xG,decide_eq_true xG];simp only[eR,bc,bY,fM,Option.map_some])
theorem xJ (t:Int):ay Tryz.prog 130 [.int .i64 t] (.bool (jm t 1 16)):=by
 refine ay.body fR rfl fun hl n0=>?_
 clear hl
 have h:=mJ t 1 16
 (repeat(first|((repeat(revert N;apply Pn.out));refine wk @Nat.zero_add ?_;(repeat(apply Pn.mk;intro N Z)))|((try apply Or.inl);refine⟨_,ay.x (h) (sd @Nat.zero_add),?_⟩;apply Z;clear Z N)))
 exact cD (b:=jm t 1 16) (.inl rfl) (sd @Nat.zero_add) rfl
theorem Ad (Z5:Gc) (s:aA) (hn:jh s.aI) (hg:s.aI.bd.length<=1048576) (ht:s.aI.au.length<=1048576) (hs:∀t∈s.aI.au,t.ew.length<=1048576) (hl:s.dm.au.length<=1048576):ay Tryz.prog 75 [.agg (bt s)] (.bool (kC s)):=by
 refine ay.body fR rfl fun gZ n0=>?_
 clear gZ
 by_cases h0:(s.dm.au.length:Int)=0
 ·have hd:decide ((s.dm.au.length:Int)=0)=true:=decide_eq_true h0
  (try((repeat(revert N;apply Pn.out));refine wk (tw @bt.eq_1 @hd) ?_;(repeat(apply Pn.mk;intro N Z))))
  exact cD (b:=false) (.inl rfl) (sd @Nat.zero_add) (lk fun h=>by have:=h.some;omega)
 have hd:decide ((s.dm.au.length:Int)=0)=false:=decide_eq_false h0
 have SM:=pw s.aI s.dm.au hn hg ht hs hl
 have WH:=xJ s.aD
 have key:ay Tryz.prog 101 [.agg (aj s.aI),.agg [.sl (s.dm.au.map ai)],.int .i64 s.aD] (.gM [.bool (kC s),.int .i64 (if tJ s.aI&&rZ s.aI s.dm.au then(if jm s.aD 1 16 then(if 64<jr s.aI s.dm.au s.aD then 4 else 0)else 2)else 1)]):=by
  refine ay.body fR rfl fun gZ n0=>?_
  clear gZ
  rw[aj]at SM
  cases hA:tJ s.aI&&rZ s.aI s.dm.au
  ·rw[hA]at SM
   have mT:kC s=false:=(lk fun h=>by rw[n9.2 h.set,nN.2 h.FH]at hA;cases hA).symm
   (repeat(first|((repeat(revert N;apply Pn.out));refine wk @aj.eq_1 ?_;(repeat(apply Pn.mk;intro N Z)))|((try apply Or.inl);refine⟨_,ay.x (SM) (sd @aj.eq_1),?_⟩;apply Z;clear Z N)))
   exact km (.inl rfl) (r1:=.bool false) (r2:=.int .i64 1) (sd @Nat.zero_add) (sd @Nat.zero_add) (by rw[mT];simp only[eR,bc,bY,fM,dG,Option.map_some];rfl)
  rw[hA]at SM
  simp only[Bool.and_eq_true]at hA
  have hS:=n9.1 hA.1
  have hP:=nN.1 hA.2
  cases hT:jm s.aD 1 16
  ·rw[hT]at WH
   have mT:kC s=false:=(lk fun h=>by have:=h.FN;rw[hT]at this;cases this).symm
   (repeat(first|((repeat(revert N;apply Pn.out));refine wk @aj.eq_1 ?_;(repeat(apply Pn.mk;intro N Z)))|((try apply Or.inl);refine⟨_,ay.x (SM) (sd @aj.eq_1),?_⟩;apply Z;clear Z N)|((try apply Or.inl);refine⟨_,ay.x (WH) (sd @aj.eq_1),?_⟩;apply Z;clear Z N)))
   exact km (.inl rfl) (r1:=.bool false) (r2:=.int .i64 2) (sd @Nat.zero_add) (sd @Nat.zero_add) (by rw[mT];simp only[eR,bc,bY,fM,dG,Option.map_some];rfl)
  have PD:=eT hT
  rw[hT]at WH
  have eA:=Nx Z5 s.aI s.dm.au s.aD ah ah hS hP
  rw[aj]at eA
  have hsy:kC s=pK s.aI s.dm.au s.aD:=by
   cases hB:pK s.aI s.dm.au s.aD
   ·exact(lk fun h=>by have:=rR.2 h.holds;rw[hB]at this;cases this).symm
   ·exact(FK ⟨hS,hP,ah,hT,rR.1 hB⟩).symm
  by_cases xF:64<jr s.aI s.dm.au s.aD
  ·rw[decide_eq_false fun h=>h xF]at eA
   have mT:kC s=false:=(lk fun h=>by have:=h.holds.1;unfold jr at xF;omega).symm
   (repeat(first|((repeat(revert N;apply Pn.out));refine wk @aj.eq_1 ?_;(repeat(apply Pn.mk;intro N Z)))|((try apply Or.inl);refine⟨_,ay.x (SM) (sd @aj.eq_1),?_⟩;apply Z;clear Z N)|((try apply Or.inl);refine⟨_,ay.x (WH) (sd @aj.eq_1),?_⟩;apply Z;clear Z N)|((try apply Or.inl);refine⟨_,ay.x (eA) (sd @aj.eq_1),?_⟩;apply Z;clear Z N)))
   exact km (.inl rfl) (r1:=.bool false) (r2:=.int .i64 4) (sd @Nat.zero_add) (sd @Nat.zero_add) (by rw[mT,if_pos xF];simp only[eR,bc,bY,fM,dG,Option.map_some])
  ·rw[decide_eq_true xF,<-hsy]at eA
   (repeat(first|((repeat(revert N;apply Pn.out));refine wk @aj.eq_1 ?_;(repeat(apply Pn.mk;intro N Z)))|((try apply Or.inl);refine⟨_,ay.x (SM) (sd @aj.eq_1),?_⟩;apply Z;clear Z N)|((try apply Or.inl);refine⟨_,ay.x (WH) (sd @aj.eq_1),?_⟩;apply Z;clear Z N)|((try apply Or.inl);refine⟨_,ay.x (eA) (sd @aj.eq_1),?_⟩;apply Z;clear Z N)))
   exact km (.inl rfl) (r1:=.bool (kC s)) (r2:=.int .i64 0) (sd @Nat.zero_add) (sd @Nat.zero_add) (by rw[if_neg xF];simp only[eR,bc,bY,fM,dG,Option.map_some])
 generalize uo:(if tJ s.aI&&rZ s.aI s.dm.au then(if jm s.aD 1 16 then(if 64<jr s.aI s.dm.au s.aD then(4:Int)else 0)else 2)else 1)=code at key
 rw[aj]at key
 cases hB:kC s
 ·rw[hB]at key
  (repeat(first|((repeat(revert N;apply Pn.out));refine wk (tw @bt.eq_1 @hd) ?_;(repeat(apply Pn.mk;intro N Z)))|((try apply Or.inl);refine⟨_,ay.x (key) (sd (tw @bt.eq_1 @hd)),?_⟩;apply Z;clear Z N)))
  exact cD (b:=false) (.inl rfl) (sd @Nat.zero_add) rfl
 ·rw[hB]at key
  have hP:=oc.1 hB
  have hc:code=0:=by
   rw[<-uo,n9.2 hP.set,nN.2 hP.FH,hP.FN]
   have:=hP.holds.1
   simp only[Bool.and_self,if_true]
   rw[if_neg (by unfold jr;omega)]
  rw[hc]at key
  (repeat(first|((repeat(revert N;apply Pn.out));refine wk (tw @bt.eq_1 @hd) ?_;(repeat(apply Pn.mk;intro N Z)))|((try apply Or.inl);refine⟨_,ay.x (key) (sd (tw @bt.eq_1 @hd)),?_⟩;apply Z;clear Z N)))
  exact cD (b:=true) (.inl rfl) (sd @Nat.zero_add) rfl
end Go.Proofs.YtiabgllilcfheaaGreat.V

namespace Go.Proofs.YtiabgllilcfheaaGreat.V
open Go.RowKit Go.Shelf
attribute [local go_sem] Oper.semAt_some
def jl (n₀:Nat) (W W':World):Prop:=W.heap.size<=W'.heap.size/\(∀(b:Nat) (cells:Array Value) (T:TypeId) (fr:Nat×Nat),W.heap[b]? =some (Obj.cells cells T fr)->T≠138->T≠163->W'.heap[b]? =W.heap[b]?)/\∀k,k<n₀->k<W.heap.size->W'.heap[k]? =W.heap[k]?
theorem jl.trans {n₀:Nat} {A B C:World} (h:jl n₀ A B) (k:jl n₀ B C):jl n₀ A C:=⟨Nat.le_trans h.1 k.1,fun b cells T fr hb h1 h2=>by
 have e:=h.2.1 b cells T fr hb h1 h2
 rw[<-e]at hb ⊢
 exact k.2.1 b cells T fr hb h1 h2,fun b hb hs=>(k.2.2 b hb (Nat.lt_of_lt_of_le hs h.1)).trans (h.2.2 b hb hs)⟩
theorem jl.of {n₀:Nat} {W W':World} (h:Below W.heap.size W W'):jl n₀ W W':=⟨h.size,fun b cells T fr hb _ _=>h.block b (Array.getElem?_eq_some_iff.1 hb).1,fun k _ hs=>h.block k hs⟩
theorem jl.refl (n₀:Nat) (W:World):jl n₀ W W:=⟨Nat.le_refl _,fun _ _ _ _ _ _ _=>rfl,fun _ _ _=>rfl⟩
theorem jl.b {n₀ m:Nat} (hm:n₀<=m) (W:World) (l:Nat) (o o':Obj) (hl:m<=l) (h:W.heap[l]? =some o) (hc:o.isCells=false) (_:o.isWalk=false):jl n₀ W (W.putObj l o'):=by
 refine⟨by simp,fun b cells T fr hb _ _=>?_,fun k hk _=>World.putObj_heap_other ah⟩
 by_cases iD:b=l
 ·subst iD;rw[h]at hb;cases hb;cases hc
 ·exact World.putObj_heap_other iD
def OT (bs:List PB):List Value:=bs.flatMap fun b=>[.int .i64 b.a,.int .i64 b.b,.int .i64 b.s]
theorem Lw (bs:List PB) (b:PB):OT (bs++[b])=OT bs++[.int .i64 b.a,.int .i64 b.b,.int .i64 b.s]:=by simp[OT]
def pQ (s:aH) (l:List aa) (pre:List (RQ l)):List PB:=(pre.map (·.1)).flatMap (Cc s l)
theorem AM (s:aH) (l:List aa) (pre:List (RQ l)) (x:RQ l):pQ s l (pre++[x])=pQ s l pre++Cc s l x.1:=by simp[pQ]
theorem Lv (s:aH) (l:List aa) (x:Nat×Nat×Int):(Cc s l x).length<=1:=by
 unfold Cc;split<;>simp
theorem Lx (s:aH) (l:List aa) (pre:List (RQ l)):(pQ s l pre).length<=pre.length:=by
 unfold pQ
 induction pre with
 |nil=>simp
 |cons x r ih=>
  have:=Lv s l x.1
  simp only[List.map_cons,List.flatMap_cons,List.length_append,List.length_cons]at ih ⊢
  omega
theorem BB (l:List aa) (i:Nat):∀m,(ml l i m).length<=m
 |0=>by simp[ml]
 |m+1=>by
  rw[oZ,List.length_append]
  have:=BB l i m
  have:(Fq l i (1-(m:Int))).length<=1:=by unfold Fq;split<;>simp
  omega
theorem Fs (l:List aa):∀n,(mV l n).length<=n*2
 |0=>by simp[mV]
 |n+1=>by
  rw[nU,List.length_append]
  have:=Fs l n
  have:=BB l n 2
  omega
theorem Ev {β:Type} (B:Nat) (c:Array Value) (t:TypeId) (fr:Nat×Nat):Own (fun(_:β) W=>W.heap[B]? =some (.cells c t fr)):=fun _ X _ row h hg hr=>(hg.block B (Array.getElem?_eq_some_iff.1 h).1 (fun e=>by
 obtain⟨o,ho,hc⟩:=hr B e.symm
 rw[h]at ho;cases ho;cases hc)).trans h
theorem jl.app {n₀:Nat} {W w1:World} {B k:Nat} {v v':Value} {xs:List Value} {tmp:Obj} (hv:Boxed W B 138 v) (fy:W.ownsRow n₀ 163 3 v k xs) (Bc:(W.alloc tmp).grownBy w1 v.ownBlock) (hb:Below n₀ W (w1.setCell ⟨B,0,none⟩ v')):jl n₀ W (w1.setCell ⟨B,0,none⟩ v'):=by
 refine⟨hb.size,fun b cells T fr h h1 h2=>?_,fun k hk _=>hb.block k hk⟩
 have eW:=(Array.getElem?_eq_some_iff.1 h).1
 have hbB:b≠B:=by
  rintro rfl
  rw[show W.heap[b]? = _ from hv]at h
  cases h
  exact h1 rfl
 have YL:some b≠v.ownBlock:=by
  rcases fy.2 with⟨rfl,_⟩|⟨g,cap,cur,rfl,_,hg,_⟩
  ·simp[Value.ownBlock]
  ·intro e
   obtain rfl:b=g:=by simpa[Value.ownBlock]using e
   rw[hg]at h;cases h
   exact h2 rfl
 refine(Below.heap_setCell w1 ⟨B,0,none⟩ v' b hbB).trans ?_
 exact(Bc.block b (by simp;omega) YL).trans (Below.heap_alloc W tmp b eW)
theorem XK {w:World} {vS:Value} {l:List aa} (hP:rX w vS l):Lj (jl w.heap.size) vS l where
 refl:=jl.refl _
 trans:=jl.trans
 of:=jl.of
 size h:=h.1
 typed h:=h.2.1
 pl {W W'} h hp:=by
  obtain⟨A,c,rfl,hm,hc⟩:=hp.sl
  refine⟨A,c,rfl,hm,?_⟩
  by_cases hl:l=[]
  ·exact .inl hl
  have kd:0<l.length:=List.length_pos_iff.2 hl
  rcases hc with h0|⟨b,o,rfl,lv⟩
  ·exact absurd h0 hl
  obtain⟨A',c',e,_,lN⟩:=hP.sl
  cases e
  rcases lN with h0|⟨b',o',e,hcell'⟩
  ·exact absurd h0 hl
  cases e
  have hb:=xS (hcell' 0 kd).1
  have hk:=h.2.2 b hb (xS (lv 0 kd).1)
  refine .inr ⟨b,o,rfl,fun i hi=>?_⟩
  have Et:∀x,W'.cell? ⟨b,x,none⟩=W.cell? ⟨b,x,none⟩:=fun x=>World.cell?_of_block hk
  rw[Et,Et,Et]
  exact lv i hi
theorem rrE {P:Program} {nt site0:Nat} {ops:Array Oper} {vl:List aZ} (_:Cd P ops site0 false (kq ops) (uI P false ops.toList 0) ops.toList 0=some vl:=by(conv=>lhs;cbv)<;>exact rfl) (h:tY P nt site0 ops true false=some vl:=by kernel_rfl):tY P nt site0 ops true false=some vl:=h
theorem MG (l:List Value) (d:Value):l=(List.range l.length).map fun i=>(⟨l⟩:Array Value).getD i d:=by
 refine List.ext_getElem (by simp) fun i h1 h2=>?_
 simp[h1]
theorem Hp {X:gT} {d:Bool} {ops:List aZ} {K:Env->az->Prop} {env:Env} {σ:az} (h:eC X (.eZ d ops) (fun _=>K) env σ):wpOps X d ops K env σ:=h
theorem yF (W:World) (T:TypeId) (x y z:Value):∀(j:Nat) (u:Value),[x,y,z][j]? =some u->(W.alloc (.cells #[x,y,z] T)).cell? ((⟨W.heap.size,0,none⟩:Addr).add j)=some u:=fun j u h=>by
 have hb:(W.alloc (.cells #[x,y,z] T)).heap[W.heap.size]? =some (.cells #[x,y,z] T (0,0)):=World.alloc_heap_new _ _
 have e:∀k,(W.alloc (.cells #[x,y,z] T)).cell? ⟨W.heap.size,k,none⟩=(#[x,y,z]:Array Value)[k]? :=fun k=>by
  unfold World.cell?
  rw[show(W.alloc (.cells #[x,y,z] T)).heap[(⟨W.heap.size,k,none⟩:Addr).block]? = _ from hb]
  rfl
 rw[show(⟨W.heap.size,0,none⟩:Addr).add j=⟨W.heap.size,j,none⟩ by simp[Addr.add];exact fun h=>h.symm,e]
 simpa using h
def LD (n b:Nat):Names:=fun id=>if id=⟨1,0⟩then some ⟨n,2,2,none⟩else if id=⟨2,0⟩then some ⟨n+1,1,1,none⟩else if id=⟨3,0⟩then some ⟨n+1+1,1,1,none⟩else if id=⟨4,0⟩then some ⟨b,2,2,none⟩else if id=⟨5,0⟩then some ⟨n+1+1+1,1,1,none⟩else none
def Q5 (s:aH) (l:List aa) (i k:Nat):Rows:=fun id=>if id=⟨1,0⟩then some ⟨false,2,[aj s]⟩else if id=⟨2,0⟩then some ⟨false,1,[[.sl (l.map ai)]]⟩else if id=⟨4,0⟩then some ⟨false,2,[[.int .i64 (i:Int),.int .i64 (k:Int)]]⟩else none
def Sc (s:aH) (l:List aa) (i k:Nat) (d:Int):Env:=cz [.agg (aj s),.agg [.sl (l.map ai)],.ptr ⟨1,0⟩ 0 0,.ptr ⟨2,0⟩ 0 0,.br,.ptr ⟨3,0⟩ 0 0,.ptr ⟨4,0⟩ 0 0,.int .i64 d,.undef,.agg [.sl (l.map ai)],.fn 190 [.ptr ⟨5,0⟩ 0 0],.agg [.int .i64 (i:Int),.int .i64 (k:Int)],.int .i64 d]
theorem Hy {P:Program} {W:World} {D:Nat->Prop} {ι:Names} {B:tM} {cells:Array Value} {T:TypeId} {cs:List AV} (hk:B.k=none) (hb:W.heap[B.b]? =some (.cells cells T (0,0))) (hC:cells.size=B.C) (hz:B.sz=cs.length) (hl:cs.length=cells.size) (hf:∀a∈cs,a.cell=true) (hr:∀(j:Nat) (a:AV),cs[j]? =some a->∃v,cells[j]? =some v/\dy P W D ι a v):iJ P W D ι B ⟨false,cs.length,[cs]⟩:=
 lQ.obj ⟨hz,⟨cells,T,hb,hC⟩,by simp;omega,fun c hc=>by simp at hc;rw[hc],fun c hc=>by simp at hc;rw[hc];exact hf,fun i j c a hi hj=>by
  match i,hi with
  |0,hi=>
   simp at hi;subst hi
   obtain⟨v,h1,h2⟩:=hr j a hj
   exact⟨v,by simp[World.cell?,hb,h1],h2⟩
  |i+1,hi=>simp at hi⟩ hk
theorem Ms:(Tryz.prog.info? 163).map (fun i=>(i.zero,i.size,i.bytes))=some (some (.agg #[.int .i64 0,.int .i64 0,.int .i64 0]),3,24):=by kernel_rfl
end Go.Proofs.YtiabgllilcfheaaGreat.V
