/- The law of IsTight, given that both sides answer alike. -/
import Derived.Test.YtgoelphibofcmaaGreatTiB
import Derived.Test.YtgoelphibofcmaaGreatChecked
import Derived.Test.YtgoelphibofcmaaGreatTiA
set_option linter.unusedVariables false
set_option linter.unusedSimpArgs false
set_option maxRecDepth 100000
set_option maxHeartbeats 16000000
namespace Go.Proofs.YtgoelphibofcmaaGreat.V
open Go.RowKit
attribute [local irreducible] dI wpOps ib Call
attribute [local go_sem] aJ gu eW gR gQ cE upd cw K.av cY AV.cells AV.cell rowOf rowsOf part ld rowAt bB cr dY eG jq bP dq eT gP fx dE eK dn dm eu ew bU bp db bR de dc eI eL eJ da cm dp eH bQ aO di cI jo bE cU bV aY du aV ea AV.undef bG bJ eA eE ei ep cJ eR eV cG eO eM dh dj List.getD_cons_zero List.getD_cons_succ List.getD_nil List.all_cons List.all_nil Bool.and_true Bool.true_and Bool.and_self Bool.not_true Bool.not_false Option.map_some Option.map_none Option.bind_some Option.bind_none List.length_cons List.length_nil List.take_succ_cons List.take_zero List.take_nil List.drop_succ_cons List.drop_zero List.drop_nil List.head?_cons List.map_cons List.map_nil List.getElem?_cons_zero List.getElem?_cons_succ List.cons_append List.nil_append List.append_nil List.length_map List.set_cons_zero List.set_cons_succ Nat.reduceMul eq_self Int.toNat_natCast Int.natCast_nonneg and_self true_and and_true decide_true decide_false Bool.false_eq_true Nat.zero_add Nat.add_zero List.contains_cons List.contains_nil Bool.or_false Bool.false_or beq_self_eq_true Nat.reduceBEq ne_eq not_true_eq_false not_false_eq_true Id.mk.injEq false_and and_false Nat.reduceLT Int.reduceLE Int.reduceLT Int.reduceToNat Int.reduceNeg Int.reduceAdd Nat.le_refl List.length_append beq_true beq_false Bool.not_eq_eq_eq_not or_false false_or eh ao aq aK br bI cC bc bz aQ bt cX cj
theorem Np {α:Type} (f:α->Nat) {xs:List α} {x:α} (h:x∈xs):f x<=(xs.map f).sum:=by
 induction xs with
 |nil=>cases h
 |cons y ys ih=>
  simp only[List.map_cons,List.sum_cons]
  rcases List.mem_cons.1 h with rfl|h
  ·omega
  ·have:=ih h;omega
theorem FZ {s:aC} (h:zu s<=1048576):tR s:=by
 unfold zu vU at h
 refine⟨⟨by omega,by omega,fun t ht=>?_⟩,by omega⟩
 have:=Np lr ht
 have h2:t.bH.length<=lr t:=by unfold lr;omega
 unfold xU
 omega
theorem yc (a:fB):aj Tryz.prog 21 [.agg (aS a),.agg (aS a)] (.bool true):=by
 refine aj.body ej rfl fun hl n0=>?_
 clear hl
 have h1:=sn a.ah a.ah
 rw[decide_eq_true rfl]at h1
 (repeat(first|((repeat(revert hN;revert N;apply Pn.out));refine wk @aS.eq_1 ?_;(repeat(refine Pn.mk ?_;intro N hN)))|((try apply Or.inl);refine⟨_,aj.x (h1) (sd @aS.eq_1),?_⟩;refine hN _ _ ?_;clear hN N)))
 exact aI (b:=true) (.inl rfl) (sd @Nat.zero_add) rfl
theorem FB (NX:aC->fB->Bool×Int)
  (Pt:∀s a,fK s.aB->tR s->a.ah.length<=1048576->aj Tryz.prog 22 [.agg (aw s),.agg (aS a)] (.gN [.bool (NX s a).1,.int .i64 (NX s a).2]))
  (Pf:∀s a,fK s.aB->tR s->a.ah.length<=1048576->aj Tryz.prog 23 [.agg (aw s),.agg (aS a)] (.gN [.bool (NX s a).1,.int .i64 (NX s a).2]))
  (s:aC) (a:fB) (hn:fK s.aB):aj Tryz.prog 4 [.agg (aw s),.agg (aS a)] (.bool true):=by
 refine aj.body ej rfl fun hl n0=>?_
 clear hl
 have h1:=Di s 1048576 (by omega) (by omega) hn
 by_cases hf:(zu s:Int)<=1048576
 ·rw[ir hf]at h1
  have jO:¬(1048576:Int)-(zu s:Int)<0:=by omega
  have h2:=qO a (1048576-zu s) (by omega) (by omega)
  by_cases hg:(a.ah.length:Int)<=1048576-zu s
  ·rw[ir hg]at h2
   have zE:¬(1048576:Int)-(zu s:Int)-(a.ah.length:Int)<0:=by omega
   have sm:=FZ (s:=s) (by omega)
   have am:a.ah.length<=1048576:=by omega
   have t1:=Dm s sm
   have t2:=qQ a am
   have r1:=Pt s a hn sm am
   have r2:=Pf s a hn sm am
   have q1:=B7 s
   have q2:=yc a
   obtain⟨b,hb⟩:∃b,b=(NX s a).1:=⟨_,rfl⟩
   obtain⟨c,hc⟩:∃c,c=(NX s a).2:=⟨_,rfl⟩
   rw[<-hb,<-hc]at r1 r2
   have e1:(b==b)=true:=by simp
   have e2:decide (c=c)=true:=by simp
   rw[aw]at h1 t1 r1 r2 q1
   rw[aS]at h2 t2 r1 r2 q2
   (repeat(first|((repeat(revert hN;revert N;apply Pn.out));refine wk (tw @aw.eq_1 (tw @aS.eq_1 (tw @jO (tw @zE (tw @e1 @e2))))) ?_;(repeat(refine Pn.mk ?_;intro N hN)))|((try apply Or.inl);refine⟨_,aj.x (h1) (sd (tw @aw.eq_1 (tw @aS.eq_1 (tw @jO (tw @zE (tw @e1 @e2)))))),?_⟩;refine hN _ _ ?_;clear hN N)|((try apply Or.inl);refine⟨_,aj.x (h2) (sd (tw @aw.eq_1 (tw @aS.eq_1 (tw @jO (tw @zE (tw @e1 @e2)))))),?_⟩;refine hN _ _ ?_;clear hN N)|((try apply Or.inl);refine⟨_,l5.x (t1) _,?_⟩;refine hN _ _ ?_;clear hN N)|((try apply Or.inl);refine⟨_,l5.x (t2) _,?_⟩;refine hN _ _ ?_;clear hN N)|((try apply Or.inl);refine⟨_,aj.x (r1) (sd (tw @aw.eq_1 (tw @aS.eq_1 (tw @jO (tw @zE (tw @e1 @e2)))))),?_⟩;refine hN _ _ ?_;clear hN N)|((try apply Or.inl);refine⟨_,aj.x (r2) (sd (tw @aw.eq_1 (tw @aS.eq_1 (tw @jO (tw @zE (tw @e1 @e2)))))),?_⟩;refine hN _ _ ?_;clear hN N)|((try apply Or.inl);refine⟨_,aj.x (q1) (sd (tw @aw.eq_1 (tw @aS.eq_1 (tw @jO (tw @zE (tw @e1 @e2)))))),?_⟩;refine hN _ _ ?_;clear hN N)|((try apply Or.inl);refine⟨_,aj.x (q2) (sd (tw @aw.eq_1 (tw @aS.eq_1 (tw @jO (tw @zE (tw @e1 @e2)))))),?_⟩;refine hN _ _ ?_;clear hN N)))
   exact aI (b:=true) (.inl rfl) (sd @Nat.zero_add) rfl
  ·rw[iz hg]at h2
   rw[aw]at h1
   rw[aS]at h2
   (repeat(first|((repeat(revert hN;revert N;apply Pn.out));refine wk (tw @aw.eq_1 (tw @aS.eq_1 @jO)) ?_;(repeat(refine Pn.mk ?_;intro N hN)))|((try apply Or.inl);refine⟨_,aj.x (h1) (sd (tw @aw.eq_1 (tw @aS.eq_1 @jO))),?_⟩;refine hN _ _ ?_;clear hN N)|((try apply Or.inl);refine⟨_,aj.x (h2) (sd (tw @aw.eq_1 (tw @aS.eq_1 @jO))),?_⟩;refine hN _ _ ?_;clear hN N)))
   exact aI (b:=true) (.inl rfl) (sd @Nat.zero_add) rfl
 ·rw[iz hf]at h1
  rw[aw]at h1
  (repeat(first|((repeat(revert hN;revert N;apply Pn.out));refine wk (tw @aw.eq_1 @aS.eq_1) ?_;(repeat(refine Pn.mk ?_;intro N hN)))|((try apply Or.inl);refine⟨_,aj.x (h1) (sd (tw @aw.eq_1 @aS.eq_1)),?_⟩;refine hN _ _ ?_;clear hN N)))
  exact aI (b:=true) (.inl rfl) (sd @Nat.zero_add) rfl
end Go.Proofs.YtgoelphibofcmaaGreat.V

namespace Go.Proofs.YtgoelphibofcmaaGreat.V
open Go.RowKit
attribute [local irreducible] dI wpOps ib Call
attribute [local go_sem] aJ gu eW gR gQ cE upd cw K.av cY AV.cells AV.cell rowOf rowsOf part ld rowAt bB cr dY eG jq bP dq eT gP fx dE eK dn dm eu ew bU bp db bR de dc eI eL eJ da cm dp eH bQ aO di cI jo bE cU bV aY du aV ea AV.undef bG bJ eA eE ei ep cJ eR eV cG eO eM dh dj List.getD_cons_zero List.getD_cons_succ List.getD_nil List.all_cons List.all_nil Bool.and_true Bool.true_and Bool.and_self Bool.not_true Bool.not_false Option.map_some Option.map_none Option.bind_some Option.bind_none List.length_cons List.length_nil List.take_succ_cons List.take_zero List.take_nil List.drop_succ_cons List.drop_zero List.drop_nil List.head?_cons List.map_cons List.map_nil List.getElem?_cons_zero List.getElem?_cons_succ List.cons_append List.nil_append List.append_nil List.length_map List.set_cons_zero List.set_cons_succ Nat.reduceMul eq_self Int.toNat_natCast Int.natCast_nonneg and_self true_and and_true decide_true decide_false Bool.false_eq_true Nat.zero_add Nat.add_zero List.contains_cons List.contains_nil Bool.or_false Bool.false_or beq_self_eq_true Nat.reduceBEq ne_eq not_true_eq_false not_false_eq_true Id.mk.injEq false_and and_false Nat.reduceLT Int.reduceLE Int.reduceLT Int.reduceToNat Int.reduceNeg Int.reduceAdd Nat.le_refl List.length_append beq_true beq_false Bool.not_eq_eq_eq_not or_false false_or eh ao aq aK br bI cC bc bz aQ bt cX cj
def iM (n lo hi:Int):Bool:=decide (lo<=n)&&decide (n<=hi)
theorem dP {n lo hi:Int} (h:iM n lo hi=true):lo<=n/\n<=hi:=by simpa[iM]using h
theorem jc {n lo hi:Int} (h:lo<=n/\n<=hi):iM n lo hi=true:=by simpa[iM]using h
def rT (p:ai):Bool:=iM p.eB (-60) 60&&iM p.ek (-60) 60
theorem lk (n lo hi:Int):aj Tryz.prog 137 [.int .i64 n,.int .i64 lo,.int .i64 hi] (.bool (iM n lo hi)):=by
 refine aj.body ej rfl fun hl n0=>?_
 clear hl
 by_cases h1:lo<=n
 ·(try((repeat(revert hN;revert N;apply Pn.out));refine wk @h1 ?_;(repeat(refine Pn.mk ?_;intro N hN))))
  exact aI (b:=decide (n<=hi)) (.inl rfl) (sd @Nat.zero_add) (by simp[iM,h1])
 ·(try((repeat(revert hN;revert N;apply Pn.out));refine wk @h1 ?_;(repeat(refine Pn.mk ?_;intro N hN))))
  exact aI (b:=false) (.inl rfl) (sd @Nat.zero_add) (by simp[iM,h1])
theorem kM (n lo hi:Int):aj Tryz.prog 141 [.int .i64 n,.int .i64 lo,.int .i64 hi] (.bool (iM n lo hi)):=by
 refine aj.body ej rfl fun hl n0=>?_
 clear hl
 by_cases h1:lo<=n
 ·(try((repeat(revert hN;revert N;apply Pn.out));refine wk @h1 ?_;(repeat(refine Pn.mk ?_;intro N hN))))
  exact aI (b:=decide (n<=hi)) (.inl rfl) (sd @Nat.zero_add) (by simp[iM,h1])
 ·(try((repeat(revert hN;revert N;apply Pn.out));refine wk @h1 ?_;(repeat(refine Pn.mk ?_;intro N hN))))
  exact aI (b:=false) (.inl rfl) (sd @Nat.zero_add) (by simp[iM,h1])
theorem HH (d:Int):aj Tryz.prog 173 [.int .i64 d] (.bool (iM d 0 3)):=by
 refine aj.body ej rfl fun hl n0=>?_
 clear hl
 have h:=lk d 0 3
 (repeat(first|((repeat(revert hN;revert N;apply Pn.out));refine wk @Nat.zero_add ?_;(repeat(refine Pn.mk ?_;intro N hN)))|((try apply Or.inl);refine⟨_,aj.x (h) (sd @Nat.zero_add),?_⟩;refine hN _ _ ?_;clear hN N)))
 exact aI (b:=iM d 0 3) (.inl rfl) (sd @Nat.zero_add) rfl
theorem uJ (p:ai):aj Tryz.prog 123 [.agg (aa p)] (.bool (rT p)):=by
 refine aj.body ej rfl fun hl n0=>?_
 clear hl
 have h1:=lk p.eB (-60) 60
 have h2:=lk p.ek (-60) 60
 by_cases q:iM p.eB (-60) 60=true
 ·rw[q]at h1
  (repeat(first|((repeat(revert hN;revert N;apply Pn.out));refine wk @aa.eq_1 ?_;(repeat(refine Pn.mk ?_;intro N hN)))|((try apply Or.inl);refine⟨_,aj.x (h1) (sd @aa.eq_1),?_⟩;refine hN _ _ ?_;clear hN N)|((try apply Or.inl);refine⟨_,aj.x (h2) (sd @aa.eq_1),?_⟩;refine hN _ _ ?_;clear hN N)))
  exact aI (b:=iM p.ek (-60) 60) (.inl rfl) (sd @Nat.zero_add) (by rw[rT,q];rfl)
 ·rw[Bool.not_eq_true]at q
  rw[q]at h1
  (repeat(first|((repeat(revert hN;revert N;apply Pn.out));refine wk @aa.eq_1 ?_;(repeat(refine Pn.mk ?_;intro N hN)))|((try apply Or.inl);refine⟨_,aj.x (h1) (sd @aa.eq_1),?_⟩;refine hN _ _ ?_;clear hN N)|((try apply Or.inl);refine⟨_,aj.x (h2) (sd @aa.eq_1),?_⟩;refine hN _ _ ?_;clear hN N)))
  exact aI (b:=false) (.inl rfl) (sd @Nat.zero_add) (by rw[rT,q];rfl)
theorem j6 (p:ai):aj Tryz.prog 140 [.agg (aa p)] (.bool (rT p)):=by
 refine aj.body ej rfl fun hl n0=>?_
 clear hl
 have h1:=kM p.eB (-60) 60
 have h2:=kM p.ek (-60) 60
 by_cases q:iM p.eB (-60) 60=true
 ·rw[q]at h1
  (repeat(first|((repeat(revert hN;revert N;apply Pn.out));refine wk @aa.eq_1 ?_;(repeat(refine Pn.mk ?_;intro N hN)))|((try apply Or.inl);refine⟨_,aj.x (h1) (sd @aa.eq_1),?_⟩;refine hN _ _ ?_;clear hN N)|((try apply Or.inl);refine⟨_,aj.x (h2) (sd @aa.eq_1),?_⟩;refine hN _ _ ?_;clear hN N)))
  exact aI (b:=iM p.ek (-60) 60) (.inl rfl) (sd @Nat.zero_add) (by rw[rT,q];rfl)
 ·rw[Bool.not_eq_true]at q
  rw[q]at h1
  (repeat(first|((repeat(revert hN;revert N;apply Pn.out));refine wk @aa.eq_1 ?_;(repeat(refine Pn.mk ?_;intro N hN)))|((try apply Or.inl);refine⟨_,aj.x (h1) (sd @aa.eq_1),?_⟩;refine hN _ _ ?_;clear hN N)|((try apply Or.inl);refine⟨_,aj.x (h2) (sd @aa.eq_1),?_⟩;refine hN _ _ ?_;clear hN N)))
  exact aI (b:=false) (.inl rfl) (sd @Nat.zero_add) (by rw[rT,q];rfl)
def rS (d:Int):Int:=if iM d 0 3 then(d+2) % 4 else -1
def bF (p:ai) (d:Int):ai:=
 if d=0 then⟨p.eB,p.ek+1⟩else if d=1 then⟨p.eB+1,p.ek⟩else if d=2 then⟨p.eB,p.ek-1⟩else if d=3 then⟨p.eB-1,p.ek⟩else p
def iB (n:Int):Prop:=-4611686018427387904<=n/\n<=4611686018427387904
theorem rO (p:ai) (d:Int) (hd:iM d 0 3=true) (hx:iB p.eB) (hy:iB p.ek):aj Tryz.prog 122 [.agg (aa p),.int .i64 d] (.agg (aa (bF p d))):=by
 refine aj.body ej rfl fun hl n0=>?_
 clear hl
 obtain⟨x1,x2⟩:=hx
 obtain⟨y1,y2⟩:=hy
 have w1:IntKind.i64.wrap (p.eB+1)=p.eB+1:=aZ (by omega)
 have w2:IntKind.i64.wrap (p.eB-1)=p.eB-1:=aZ (by omega)
 have w3:IntKind.i64.wrap (p.ek+1)=p.ek+1:=aZ (by omega)
 have w4:IntKind.i64.wrap (p.ek-1)=p.ek-1:=aZ (by omega)
 have hb:=dP hd
 have hc:d=0∨d=1∨d=2∨d=3:=by omega
 rcases hc with rfl|rfl|rfl|rfl
 ·(try((repeat(revert hN;revert N;apply Pn.out));refine wk (tw @aa.eq_1 @w3) ?_;(repeat(refine Pn.mk ?_;intro N hN))))
  exact n9 (.inl rfl) (vs:=[.agg (aa (bF p 0))]) (by simp only[go_sem, ↓reduceIte,Nat.reduceEqDiff,Nat.reduceAdd,Nat.reduceSub,Nat.reduceLeDiff,reduceCtorEq,eY,gO,aa,bF]) (by simp[fe,aa,fX,dS])
 ·(try((repeat(revert hN;revert N;apply Pn.out));refine wk (tw @aa.eq_1 @w1) ?_;(repeat(refine Pn.mk ?_;intro N hN))))
  exact n9 (.inl rfl) (vs:=[.agg (aa (bF p 1))]) (by simp[eY,gO,aa,bF,ld,rowAt,bB,upd,part]) (by simp[fe,aa,fX,dS])
 ·(try((repeat(revert hN;revert N;apply Pn.out));refine wk (tw @aa.eq_1 @w4) ?_;(repeat(refine Pn.mk ?_;intro N hN))))
  exact n9 (.inl rfl) (vs:=[.agg (aa (bF p 2))]) (by simp[eY,gO,aa,bF,ld,rowAt,bB,upd,part]) (by simp[fe,aa,fX,dS])
 ·(try((repeat(revert hN;revert N;apply Pn.out));refine wk (tw @aa.eq_1 @w2) ?_;(repeat(refine Pn.mk ?_;intro N hN))))
  exact n9 (.inl rfl) (vs:=[.agg (aa (bF p 3))]) (by simp[eY,gO,aa,bF,ld,rowAt,bB,upd,part]) (by simp[fe,aa,fX,dS])
theorem yY (p p2:ai) (x y:Int) (hx:IntKind.i64.wrap (p.eB+p2.eB)=x) (hy:IntKind.i64.wrap (p.ek+p2.ek)=y):aj Tryz.prog 184 [.agg (aa p),.agg (aa p2)] (.agg [.int .i64 x,.int .i64 y]):=by
 refine aj.body ej rfl fun hl n0=>?_
 clear hl
 (try((repeat(revert hN;revert N;apply Pn.out));refine wk (tw @aa.eq_1 (tw @hx @hy)) ?_;(repeat(refine Pn.mk ?_;intro N hN))))
 exact n9 (.inl rfl) (vs:=[.agg [.int .i64 x,.int .i64 y]]) (by simp only[go_sem, ↓reduceIte,Nat.reduceEqDiff,Nat.reduceAdd,Nat.reduceSub,Nat.reduceLeDiff,reduceCtorEq,eY,gO,aa]) (by simp[fe,fX,dS])
theorem vH (p:ai) (d:Int) (hd:iM d 0 3=true) (hx:iB p.eB) (hy:iB p.ek):aj Tryz.prog 149 [.agg (aa p),.int .i64 d] (.agg (aa (bF p d))):=by
 refine aj.body ej rfl fun hl n0=>?_
 clear hl
 obtain⟨x1,x2⟩:=hx
 obtain⟨y1,y2⟩:=hy
 have hb:=dP hd
 have hc:d=0∨d=1∨d=2∨d=3:=by omega
 rcases hc with rfl|rfl|rfl|rfl
 ·have h:=yY p ⟨0,1⟩ (p.eB) (p.ek+1) (by rw[aZ (by constructor<;>simp only<;>omega)]<;>(try simp only)<;>(try omega)) (by rw[aZ (by constructor<;>simp only<;>omega)]<;>(try simp only)<;>(try omega))
  simp only[aa]at h
  (repeat(first|((repeat(revert hN;revert N;apply Pn.out));refine wk @aa.eq_1 ?_;(repeat(refine Pn.mk ?_;intro N hN)))|((try apply Or.inl);refine⟨_,aj.x (h) (sd @aa.eq_1),?_⟩;refine hN _ _ ?_;clear hN N)))
  exact n9 (.inl rfl) (vs:=[.agg (aa (bF p 0))]) (by simp[eY,gO,aa,bF,ld,rowAt,bB,upd,part]) (by simp[fe,aa,fX,dS])
 ·have h:=yY p ⟨1,0⟩ (p.eB+1) (p.ek) (by rw[aZ (by constructor<;>simp only<;>omega)]<;>(try simp only)<;>(try omega)) (by rw[aZ (by constructor<;>simp only<;>omega)]<;>(try simp only)<;>(try omega))
  simp only[aa]at h
  (repeat(first|((repeat(revert hN;revert N;apply Pn.out));refine wk @aa.eq_1 ?_;(repeat(refine Pn.mk ?_;intro N hN)))|((try apply Or.inl);refine⟨_,aj.x (h) (sd @aa.eq_1),?_⟩;refine hN _ _ ?_;clear hN N)))
  exact n9 (.inl rfl) (vs:=[.agg (aa (bF p 1))]) (by simp[eY,gO,aa,bF,ld,rowAt,bB,upd,part]) (by simp[fe,aa,fX,dS])
 ·have h:=yY p ⟨0,(-1)⟩ (p.eB) (p.ek-1) (by rw[aZ (by constructor<;>simp only<;>omega)]<;>(try simp only)<;>(try omega)) (by rw[aZ (by constructor<;>simp only<;>omega)]<;>(try simp only)<;>(try omega))
  simp only[aa]at h
  (repeat(first|((repeat(revert hN;revert N;apply Pn.out));refine wk @aa.eq_1 ?_;(repeat(refine Pn.mk ?_;intro N hN)))|((try apply Or.inl);refine⟨_,aj.x (h) (sd @aa.eq_1),?_⟩;refine hN _ _ ?_;clear hN N)))
  exact n9 (.inl rfl) (vs:=[.agg (aa (bF p 2))]) (by simp[eY,gO,aa,bF,ld,rowAt,bB,upd,part]) (by simp[fe,aa,fX,dS])
 ·have h:=yY p ⟨(-1),0⟩ (p.eB-1) (p.ek) (by rw[aZ (by constructor<;>simp only<;>omega)]<;>(try simp only)<;>(try omega)) (by rw[aZ (by constructor<;>simp only<;>omega)]<;>(try simp only)<;>(try omega))
  simp only[aa]at h
  (repeat(first|((repeat(revert hN;revert N;apply Pn.out));refine wk @aa.eq_1 ?_;(repeat(refine Pn.mk ?_;intro N hN)))|((try apply Or.inl);refine⟨_,aj.x (h) (sd @aa.eq_1),?_⟩;refine hN _ _ ?_;clear hN N)))
  exact n9 (.inl rfl) (vs:=[.agg (aa (bF p 3))]) (by simp[eY,gO,aa,bF,ld,rowAt,bB,upd,part]) (by simp[fe,aa,fX,dS])
theorem CW (d:Int) (hd:iM d 0 3=true):aj Tryz.prog 153 [.int .i64 d] (.int .i64 (rS d)):=by
 refine aj.body ej rfl fun hl n0=>?_
 clear hl
 have hb:=dP hd
 have hw:IntKind.i64.wrap (d+2)=d+2:=aZ (by omega)
 have ht:Int.tmod (d+2) 4=(d+2) % 4:=Int.tmod_eq_emod_of_nonneg (by omega)
 have h4:¬((4:Int)=0):=by omega
 (try((repeat(revert hN;revert N;apply Pn.out));refine wk (tw @hw (tw @ht @h4)) ?_;(repeat(refine Pn.mk ?_;intro N hN))))
 exact bj (b:=(d+2) % 4) (.inl rfl) (sd @Nat.zero_add) (by rw[rS,if_pos hd])
theorem BO (d:Int) (hd:iM d 0 3=true):aj Tryz.prog 125 [.int .i64 d] (.int .i64 (rS d)):=by
 refine aj.body ej rfl fun hl n0=>?_
 clear hl
 have hb:=dP hd
 have hw:IntKind.i64.wrap (d+2)=d+2:=aZ (by omega)
 have ht:Int.tmod (d+2) 4=(d+2) % 4:=Int.tmod_eq_emod_of_nonneg (by omega)
 have h4:¬((4:Int)=0):=by omega
 have h:=HH d
 rw[hd]at h
 (repeat(first|((repeat(revert hN;revert N;apply Pn.out));refine wk (tw @hw (tw @ht @h4)) ?_;(repeat(refine Pn.mk ?_;intro N hN)))|((try apply Or.inl);refine⟨_,aj.x (h) (sd (tw @hw (tw @ht @h4))),?_⟩;refine hN _ _ ?_;clear hN N)))
 exact bj (b:=(d+2) % 4) (.inl rfl) (sd @Nat.zero_add) (by rw[rS,if_pos hd])
end Go.Proofs.YtgoelphibofcmaaGreat.V

namespace Go.Proofs.YtgoelphibofcmaaGreat.V
open Go.RowKit
attribute [local irreducible] dI wpOps ib Call
attribute [local go_sem] aJ gu eW gR gQ cE upd cw K.av cY AV.cells AV.cell rowOf rowsOf part ld rowAt bB cr dY eG jq bP dq eT gP fx dE eK dn dm eu ew bU bp db bR de dc eI eL eJ da cm dp eH bQ aO di cI jo bE cU bV aY du aV ea AV.undef bG bJ eA eE ei ep cJ eR eV cG eO eM dh dj List.getD_cons_zero List.getD_cons_succ List.getD_nil List.all_cons List.all_nil Bool.and_true Bool.true_and Bool.and_self Bool.not_true Bool.not_false Option.map_some Option.map_none Option.bind_some Option.bind_none List.length_cons List.length_nil List.take_succ_cons List.take_zero List.take_nil List.drop_succ_cons List.drop_zero List.drop_nil List.head?_cons List.map_cons List.map_nil List.getElem?_cons_zero List.getElem?_cons_succ List.cons_append List.nil_append List.append_nil List.length_map List.set_cons_zero List.set_cons_succ Nat.reduceMul eq_self Int.toNat_natCast Int.natCast_nonneg and_self true_and and_true decide_true decide_false Bool.false_eq_true Nat.zero_add Nat.add_zero List.contains_cons List.contains_nil Bool.or_false Bool.false_or beq_self_eq_true Nat.reduceBEq ne_eq not_true_eq_false not_false_eq_true Id.mk.injEq false_and and_false Nat.reduceLT Int.reduceLE Int.reduceLT Int.reduceToNat Int.reduceNeg Int.reduceAdd Nat.le_refl List.length_append beq_true beq_false Bool.not_eq_eq_eq_not or_false false_or eh ao aq aK br bI cC bc bz aQ bt cX cj
def ez (s:au) (t:Int):Bool:=iM t 0 ((s.ah.length:Int)-1)
theorem CH (s:au) (t:Int):aj Tryz.prog 136 [.bK (ab s),.int .i64 t] (.bool (ez s t)):=by
 refine aj.body ej rfl fun hl n0=>?_
 have hn:s.ah.length<=9223372036854775807:=by
  have h1:=(hl (.bK (ab s)) (by simp)).AH (a:=.sl (s.ah.map bd)) (by simp[ab])
  simpa using h1.len
 clear hl
 have hw:IntKind.i64.wrap ((s.ah.length:Int)-1)=(s.ah.length:Int)-1:=aZ (by omega)
 have h:=lk t 0 ((s.ah.length:Int)-1)
 (repeat(first|((repeat(revert hN;revert N;apply Pn.out));refine wk (tw @ab.eq_1 @hw) ?_;(repeat(refine Pn.mk ?_;intro N hN)))|((try apply Or.inl);refine⟨_,aj.x (h) (sd (tw @ab.eq_1 @hw)),?_⟩;refine hN _ _ ?_;clear hN N)))
 exact aI (b:=ez s t) (.inl rfl) (by simp only[go_sem, ↓reduceIte,Nat.reduceEqDiff,Nat.reduceAdd,Nat.reduceSub,Nat.reduceLeDiff,reduceCtorEq,ez]) rfl
theorem xr (t n:Int) (h0:0<=n) (h1:n<=9223372036854775807):aj Tryz.prog 139 [.int .i64 t,.int .i64 n] (.bool (iM t 0 (n-1))):=by
 refine aj.body ej rfl fun hl n0=>?_
 clear hl
 have hw:IntKind.i64.wrap (n-1)=n-1:=aZ (by omega)
 have h:=kM t 0 (n-1)
 (repeat(first|((repeat(revert hN;revert N;apply Pn.out));refine wk @hw ?_;(repeat(refine Pn.mk ?_;intro N hN)))|((try apply Or.inl);refine⟨_,aj.x (h) (sd @hw),?_⟩;refine hN _ _ ?_;clear hN N)))
 exact aI (b:=iM t 0 (n-1)) (.inl rfl) (sd @Nat.zero_add) rfl
theorem HG (s:au) (t:Int):aj Tryz.prog 83 [.agg (ab s),.int .i64 t] (.bool (ez s t)):=by
 refine aj.body ej rfl fun hl n0=>?_
 have hn:s.ah.length<=9223372036854775807:=by
  have h1:=(hl (.agg (ab s)) (by simp)).LL (a:=.sl (s.ah.map bd)) (by simp[ab])
  simpa using h1.len
 clear hl
 have h:=xr t s.ah.length (by omega) (by omega)
 (repeat(first|((repeat(revert hN;revert N;apply Pn.out));refine wk @ab.eq_1 ?_;(repeat(refine Pn.mk ?_;intro N hN)))|((try apply Or.inl);refine⟨_,aj.x (h) (sd @ab.eq_1),?_⟩;refine hN _ _ ?_;clear hN N)))
 exact aI (b:=ez s t) (.inl rfl) (by simp only[go_sem, ↓reduceIte,Nat.reduceEqDiff,Nat.reduceAdd,Nat.reduceSub,Nat.reduceLeDiff,reduceCtorEq,ez]) rfl
def yV:fC:=⟨⟨#[]⟩,[]⟩
def cP (s:au) (t:Int):fC:=s.ah.getD t.toNat yV
def cN (t:fC) (d:Int):Int:=t.bH.getD d.toNat 0
def pE (s:au) (g:Int):gI:=s.aA.getD g.toNat ⟨⟨#[]⟩,0⟩
def rZ (s:au) (g:Int):Int:=if g=0 then 0 else(pE s (g-1)).dX
def gw (s:au) (a d b:Int):Int:=if cN (cP s a) d=cN (cP s b) (rS d)then rZ s (cN (cP s a) d)else 0
structure ke (s:au):Prop where
 vD:∀t∈s.ah,t.bH.length=4
 ur:∀t∈s.ah,∀g∈t.bH,0<=g/\g<=s.aA.length
theorem getD_map {α β:Type} (e:α->β) {l:List α} {k:Nat} {d:α} (h:k<l.length):(l.map e)[k]? =some (e (l.getD k d)):=by simp[List.getD_eq_getElem?_getD,h]
theorem wG (s:au) (g:Int) (h0:0<=g) (h1:g<=s.aA.length):aj Tryz.prog 126 [.bK (ab s),.int .i64 g] (.int .i64 (rZ s g)):=by
 refine aj.body ej rfl fun hl n0=>?_
 have hn:s.aA.length<=9223372036854775807:=by
  have h1:=(hl (.bK (ab s)) (by simp)).AH (a:=.sl (s.aA.map bW)) (by simp[ab])
  simpa using h1.len
 clear hl
 by_cases hg:g=0
 ·have e:decide (g=0)=true:=decide_eq_true hg
  (try((repeat(revert hN;revert N;apply Pn.out));refine wk (tw @ab.eq_1 @e) ?_;(repeat(refine Pn.mk ?_;intro N hN))))
  exact bj (b:=0) (.inl rfl) (sd @Nat.zero_add) (by rw[rZ,if_pos hg])
 ·have e:decide (g=0)=false:=decide_eq_false hg
  have hw:IntKind.i64.wrap (g-1)=g-1:=aZ (by omega)
  have ox:0<=g-1:=by omega
  have gp:(s.aA.map bW)[(g-1).toNat]? =some (bW (pE s (g-1))):=getD_map bW (by omega)
  (try((repeat(revert hN;revert N;apply Pn.out));refine wk (tw @ab.eq_1 (tw @e (tw @hw (tw @ox (tw @gp @bW.eq_1))))) ?_;(repeat(refine Pn.mk ?_;intro N hN))))
  exact bj (b:=(pE s (g-1)).dX) (.inl rfl) (sd @Nat.zero_add) (by rw[rZ,if_neg hg])
theorem oi {s:au} {a:Int} (h:ez s a=true):0<=a/\(s.ah.map bd)[a.toNat]? =some (bd (cP s a))/\cP s a∈s.ah:=by
 have h':=dP h
 have dy:a.toNat<s.ah.length:=by omega
 refine⟨h'.1,getD_map bd dy,?_⟩
 unfold cP
 rw[List.getD_eq_getElem?_getD,List.getElem?_eq_getElem dy]
 exact List.getElem_mem dy
theorem od {t:fC} {d:Int} (h:t.bH.length=4) (hd:iM d 0 3=true):(t.bH.map bq)[d.toNat]? =some [.int .i64 (cN t d)]:=by
 have:=dP hd
 exact getD_map bq (by omega)
theorem Be {t:fC} {d:Int} (h:t.bH.length=4) (hd:iM d 0 3=true):cN t d∈t.bH:=by
 have:=dP hd
 have dy:d.toNat<t.bH.length:=by omega
 unfold cN
 rw[List.getD_eq_getElem?_getD,List.getElem?_eq_getElem dy]
 exact List.getElem_mem dy
theorem yW {d:Int} (hd:iM d 0 3=true):iM (rS d) 0 3=true:=by
 have:=dP hd
 refine jc ?_
 rw[rS,if_pos hd];omega
theorem xu (s:au) (hF:ke s) (a d b:Int) (ha:ez s a=true) (hb:ez s b=true) (hd:iM d 0 3=true):aj Tryz.prog 147 [.bK (ab s),.int .i64 a,.int .i64 d,.int .i64 b] (.int .i64 (gw s a d b)):=by
 refine aj.body ej rfl fun hl n0=>?_
 clear hl
 obtain⟨a0,a1,a2⟩:=oi ha
 obtain⟨b0,b1,b2⟩:=oi hb
 have s1:=od (hF.vD _ a2) hd
 have s2:=od (hF.vD _ b2) (yW hd)
 have gl:=hF.ur _ a2 _ (Be (hF.vD _ a2) hd)
 have d0:=(dP hd).1
 have d1:=(dP (yW hd)).1
 have h:=BO d hd
 have hs:=wG s (cN (cP s a) d) gl.1 gl.2
 rw[ab]at hs
 by_cases e:cN (cP s a) d=cN (cP s b) (rS d)
 ·have e':decide (cN (cP s a) d=cN (cP s b) (rS d))=true:=decide_eq_true e
  (repeat(first|((repeat(revert hN;revert N;apply Pn.out));refine wk (tw @ab.eq_1 (tw @bd.eq_1 (tw @a0 (tw @a1 (tw @b0 (tw @b1 (tw @s1 (tw @s2 (tw @d0 (tw @d1 @e')))))))))) ?_;(repeat(refine Pn.mk ?_;intro N hN)))|((try apply Or.inl);refine⟨_,aj.x (h) (sd (tw @ab.eq_1 (tw @bd.eq_1 (tw @a0 (tw @a1 (tw @b0 (tw @b1 (tw @s1 (tw @s2 (tw @d0 (tw @d1 @e'))))))))))),?_⟩;refine hN _ _ ?_;clear hN N)|((try apply Or.inl);refine⟨_,aj.x (hs) (sd (tw @ab.eq_1 (tw @bd.eq_1 (tw @a0 (tw @a1 (tw @b0 (tw @b1 (tw @s1 (tw @s2 (tw @d0 (tw @d1 @e'))))))))))),?_⟩;refine hN _ _ ?_;clear hN N)))
  exact bj (b:=rZ s (cN (cP s a) d)) (.inl rfl) (sd @Nat.zero_add) (by rw[gw,if_pos e])
 ·have e':decide (cN (cP s a) d=cN (cP s b) (rS d))=false:=decide_eq_false e
  (repeat(first|((repeat(revert hN;revert N;apply Pn.out));refine wk (tw @ab.eq_1 (tw @bd.eq_1 (tw @a0 (tw @a1 (tw @b0 (tw @b1 (tw @s1 (tw @s2 (tw @d0 (tw @d1 @e')))))))))) ?_;(repeat(refine Pn.mk ?_;intro N hN)))|((try apply Or.inl);refine⟨_,aj.x (h) (sd (tw @ab.eq_1 (tw @bd.eq_1 (tw @a0 (tw @a1 (tw @b0 (tw @b1 (tw @s1 (tw @s2 (tw @d0 (tw @d1 @e'))))))))))),?_⟩;refine hN _ _ ?_;clear hN N)))
  exact bj (b:=0) (.inl rfl) (sd @Nat.zero_add) (by rw[gw,if_neg e])
theorem Df (s:au) (hF:ke s) (a d:Int) (ha:ez s a=true) (hd:iM d 0 3=true):aj Tryz.prog 185 [.agg (ab s),.int .i64 a,.int .i64 d] (.int .i64 (rZ s (cN (cP s a) d))):=by
 refine aj.body ej rfl fun hl n0=>?_
 have hn:s.aA.length<=9223372036854775807:=by
  have h1:=(hl (.agg (ab s)) (by simp)).LL (a:=.sl (s.aA.map bW)) (by simp[ab])
  simpa using h1.len
 clear hl
 obtain⟨a0,a1,a2⟩:=oi ha
 have s1:=od (hF.vD _ a2) hd
 have gl:=hF.ur _ a2 _ (Be (hF.vD _ a2) hd)
 have d0:=(dP hd).1
 by_cases hg:cN (cP s a) d=0
 ·have e:¬(0<cN (cP s a) d):=by omega
  (try((repeat(revert hN;revert N;apply Pn.out));refine wk (tw @ab.eq_1 (tw @bd.eq_1 (tw @a0 (tw @a1 (tw @s1 (tw @d0 @e)))))) ?_;(repeat(refine Pn.mk ?_;intro N hN))))
  exact bj (b:=0) (.inl rfl) (sd @Nat.zero_add) (by rw[rZ,if_pos hg])
 ·have e:0<cN (cP s a) d:=by omega
  have hw:IntKind.i64.wrap (cN (cP s a) d-1)=cN (cP s a) d-1:=aZ (by omega)
  have ox:0<=cN (cP s a) d-1:=by omega
  have gp:(s.aA.map bW)[(cN (cP s a) d-1).toNat]? =some (bW (pE s (cN (cP s a) d-1))):=getD_map bW (by omega)
  (try((repeat(revert hN;revert N;apply Pn.out));refine wk (tw @ab.eq_1 (tw @bd.eq_1 (tw @a0 (tw @a1 (tw @s1 (tw @d0 (tw @e (tw @hw (tw @ox (tw @gp @bW.eq_1)))))))))) ?_;(repeat(refine Pn.mk ?_;intro N hN))))
  exact bj (b:=(pE s (cN (cP s a) d-1)).dX) (.inl rfl) (sd @Nat.zero_add) (by rw[rZ,if_neg hg])
theorem GN (s:au) (hF:ke s) (a d b:Int) (ha:ez s a=true) (hb:ez s b=true) (hd:iM d 0 3=true):aj Tryz.prog 150 [.agg (ab s),.int .i64 a,.int .i64 d,.int .i64 b] (.int .i64 (gw s a d b)):=by
 refine aj.body ej rfl fun hl n0=>?_
 clear hl
 obtain⟨a0,a1,a2⟩:=oi ha
 obtain⟨b0,b1,b2⟩:=oi hb
 have s1:=od (hF.vD _ a2) hd
 have s2:=od (hF.vD _ b2) (yW hd)
 have d0:=(dP hd).1
 have d1:=(dP (yW hd)).1
 have h:=CW d hd
 have hs:=Df s hF a d ha hd
 rw[ab]at hs
 by_cases e:cN (cP s a) d=cN (cP s b) (rS d)
 ·have e':decide (cN (cP s a) d=cN (cP s b) (rS d))=true:=decide_eq_true e
  (repeat(first|((repeat(revert hN;revert N;apply Pn.out));refine wk (tw @ab.eq_1 (tw @bd.eq_1 (tw @a0 (tw @a1 (tw @b0 (tw @b1 (tw @s1 (tw @s2 (tw @d0 (tw @d1 @e')))))))))) ?_;(repeat(refine Pn.mk ?_;intro N hN)))|((try apply Or.inl);refine⟨_,aj.x (h) (sd (tw @ab.eq_1 (tw @bd.eq_1 (tw @a0 (tw @a1 (tw @b0 (tw @b1 (tw @s1 (tw @s2 (tw @d0 (tw @d1 @e'))))))))))),?_⟩;refine hN _ _ ?_;clear hN N)|((try apply Or.inl);refine⟨_,aj.x (hs) (sd (tw @ab.eq_1 (tw @bd.eq_1 (tw @a0 (tw @a1 (tw @b0 (tw @b1 (tw @s1 (tw @s2 (tw @d0 (tw @d1 @e'))))))))))),?_⟩;refine hN _ _ ?_;clear hN N)))
  exact bj (b:=rZ s (cN (cP s a) d)) (.inl rfl) (sd @Nat.zero_add) (by rw[gw,if_pos e])
 ·have e':decide (cN (cP s a) d=cN (cP s b) (rS d))=false:=decide_eq_false e
  (repeat(first|((repeat(revert hN;revert N;apply Pn.out));refine wk (tw @ab.eq_1 (tw @bd.eq_1 (tw @a0 (tw @a1 (tw @b0 (tw @b1 (tw @s1 (tw @s2 (tw @d0 (tw @d1 @e')))))))))) ?_;(repeat(refine Pn.mk ?_;intro N hN)))|((try apply Or.inl);refine⟨_,aj.x (h) (sd (tw @ab.eq_1 (tw @bd.eq_1 (tw @a0 (tw @a1 (tw @b0 (tw @b1 (tw @s1 (tw @s2 (tw @d0 (tw @d1 @e'))))))))))),?_⟩;refine hN _ _ ?_;clear hN N)))
  exact bj (b:=0) (.inl rfl) (sd @Nat.zero_add) (by rw[gw,if_neg e])
end Go.Proofs.YtgoelphibofcmaaGreat.V

namespace Go.Proofs.YtgoelphibofcmaaGreat
open Go.RowKit
def kz (n:Int):Bool:=(decide (97<=n)&&decide (n<=122))||(decide (65<=n)&&decide (n<=90))
def kU (n:Int):Bool:=decide (48<=n)&&decide (n<=57)
def sV (i:Nat) (n:Int):Prop:=kz n=true∨(0<i/\(kU n=true∨n=95))
def tO (s:ByteArray):Prop:=(1<=s.size/\s.size<=12)/\∀i (h:i<s.size),sV i s[i].toNat
open Classical in
noncomputable def jv (s:ByteArray):Bool:=decide (tO s)
theorem CR {s:ByteArray} (h:tO s):true=jv s:=by simp[jv,h]
theorem dH {s:ByteArray} (h:¬tO s):false=jv s:=by simp[jv,h]
theorem AW {s:ByteArray} {b:Bool} (hb:b=true) (h:tO s):b=jv s:=by simp[jv,h,hb]
theorem qC {s:ByteArray} {b:Bool} (hb:b=false) (h:¬tO s):b=jv s:=by simp[jv,h,hb]
theorem uM (w:World) (n:Int):Calls Tryz.prog 212 #[.int .u8 n] w fun e w'=>e=.returned (.bool (kz n))/\w=w':=by
 go_enter Tryz.func212,Tryz.ntmps212
 go_wp2_with fail
 all_goals
  go_ret
  exact⟨iu (by unfold kz;simp[*];try omega),rfl⟩
theorem EU (w:World) (n:Int):Calls Tryz.prog 213 #[.int .u8 n] w fun e w'=>e=.returned (.bool (kU n))/\w=w':=by
 go_enter Tryz.func213,Tryz.ntmps213
 go_wp2_with fail
 all_goals
  go_ret
  exact⟨iu (by unfold kU;simp[*];try omega),rfl⟩
theorem Bb (w:World) (s:ByteArray) (hs:s.size<=9223372036854775807):Calls Tryz.prog 189 #[.string s] w fun e w'=>e=.returned (.bool (jv s))/\Below w.heap.size w w':=by
 by_cases h1:1<=s.size
 case neg=>
  go_enter Tryz.func189,Tryz.ntmps189
  go_wp2_with fail
  go_ret
  exact⟨iu (dH fun h=>h1 h.1.1),Below.refl _ _⟩
 by_cases h2:s.size<=12
 case neg=>
  go_enter Tryz.func189,Tryz.ntmps189
  go_wp2_with fail
  go_ret
  exact⟨iu (dH fun h=>h2 h.1.2),Below.refl _ _⟩
 go_enter Tryz.func189,Tryz.ntmps189
 go_wp2_with fail
 refine(uM _ _).mono ?_
 rintro e w' ⟨rfl,rfl⟩
 cases h3:kz s[0].toNat
 ·go_wp2_with fail
  go_ret
  exact⟨iu (dH fun h=>by have:=h.2 0 (by omega);simp only[sV]at this;rw[h3]at this;simp at this),Below.refl _ _⟩
 ·replace h3:=Lib.hid h3
  go_wp2_with fail
  go_loop [3] (fun i=>∃k:Nat,1<=k/\k<=s.size/\i=.int .i64 k/\Hid (∀j (h:j<s.size),j<k->sV j s[j].toNat)) (fun i=>s.size-(intOf i).toNat)
  case atStart=>exact⟨1,by omega,by omega,rfl,Lib.hid fun j h hj=>by
   obtain rfl:j=0:=by omega
   exact .inl h3.out⟩
  case round=>
   obtain⟨k,vZ,hk,rfl,dC⟩:=hrel
   by_cases dy:k<s.size
   ·go_wp2_with fail
    refine(uM _ _).mono ?_
    rintro e w' ⟨rfl,rfl⟩
    have kV:sV k s[k].toNat∨¬sV k s[k].toNat:=Classical.em _
    cases hl:kz s[k].toNat
    ·go_wp2_with fail
     refine(EU _ _).mono ?_
     rintro e w' ⟨rfl,rfl⟩
     cases hd:kU s[k].toNat
     ·by_cases tp:(s[k].toNat:Int)=95
      ·have Rt:((s[k].toNat:Int) !=95)=false:=by simp;omega
       replace tp:=Lib.hid tp
       replace hl:=Lib.hid hl
       replace hd:=Lib.hid hd
       go_wp2_with fail
       go_round
       case rel=>exact⟨k+1,by omega,by omega,by go_num,Lib.hid fun j h hj=>by
        by_cases xi:j=k
        ·subst xi;exact .inr ⟨by omega,.inr tp.out⟩
        ·exact dC.out j h (by omega)⟩
       case measure=>simp[intOf];omega
      ·have Rt:((s[k].toNat:Int) !=95)=true:=by simp;omega
       replace tp:=Lib.hid tp
       replace hl:=Lib.hid hl
       replace hd:=Lib.hid hd
       go_wp2_with fail
       go_ret
       exact⟨iu (dH fun h=>by
        have:=h.2 k dy;simp only[sV,hl.out,hd.out]at this;exact tp.out (by simp at this;exact this.2)),Below.refl _ _⟩
     ·replace hl:=Lib.hid hl
      replace hd:=Lib.hid hd
      go_wp2_with fail
      go_round
      case rel=>exact⟨k+1,by omega,by omega,by go_num,Lib.hid fun j h hj=>by
       by_cases xi:j=k
       ·subst xi;exact .inr ⟨by omega,.inl hd.out⟩
       ·exact dC.out j h (by omega)⟩
      case measure=>simp[intOf];omega
    ·replace hl:=Lib.hid hl
     go_wp2_with fail
     go_round
     case rel=>exact⟨k+1,by omega,by omega,by go_num,Lib.hid fun j h hj=>by
      by_cases xi:j=k
      ·subst xi;exact .inl hl.out
      ·exact dC.out j h (by omega)⟩
     case measure=>simp[intOf];omega
   ·go_wp2_with fail
    go_ret
    exact⟨iu (CR ⟨⟨h1,h2⟩,fun i h=>dC.out i h (by omega)⟩),Below.refl _ _⟩
theorem AD (w:World) (s:ByteArray) (hs:s.size<=9223372036854775807):Calls Tryz.prog 198 #[.string s] w fun e w'=>e=.returned (.bool (jv s))/\w=w':=by
 go_enter Tryz.func198,Tryz.ntmps198
 go_wp2_with fail
 go_loop [8] (fun i=>∃k:Nat,k<=s.size/\i=.int .i64 k/\Hid (∀j (h:j<s.size),j<k->sV j s[j].toNat)) (fun i=>s.size-(intOf i).toNat)
 case atStart=>exact⟨0,by omega,rfl,Lib.hid fun j h hj=>by omega⟩
 case round=>
  obtain⟨k,hk,rfl,dC⟩:=hrel
  by_cases dy:k<s.size
  ·have hc:(s[k].toNat:Int)<48∨(48<=(s[k].toNat:Int)/\(s[k].toNat:Int)<=57)∨(58<=(s[k].toNat:Int)/\(s[k].toNat:Int)<=64)∨(65<=(s[k].toNat:Int)/\(s[k].toNat:Int)<=90)∨(91<=(s[k].toNat:Int)/\(s[k].toNat:Int)<=94)∨(95<=(s[k].toNat:Int)/\(s[k].toNat:Int)<=95)∨(96<=(s[k].toNat:Int)/\(s[k].toNat:Int)<=96)∨(97<=(s[k].toNat:Int)/\(s[k].toNat:Int)<=122)∨123<=(s[k].toNat:Int):=by omega
   by_cases vY:k=0
   ·subst vY
    rcases hc with h|⟨h,h'⟩|⟨h,h'⟩|⟨h,h'⟩|⟨h,h'⟩|⟨h,h'⟩|⟨h,h'⟩|⟨h,h'⟩|h
    ·have tp:((s[0].toNat:Int) !=95)=true:=by simp;try omega
     go_wp2_with fail
     all_goals first
      |(go_ret;exact⟨iu (dH fun hh=>by have:=hh.2 0 dy;simp[sV,kz,kU]at this;omega),rfl⟩)
      |(exfalso;simp_all;done)
      |(exfalso;simp_all;omega)
    ·have tp:((s[0].toNat:Int) !=95)=true:=by simp;try omega
     go_wp2_with fail
     all_goals first
      |(go_ret;exact⟨iu (dH fun hh=>by have:=hh.2 0 dy;simp[sV,kz,kU]at this;omega),rfl⟩)
      |(exfalso;simp_all;done)
      |(exfalso;simp_all;omega)
    ·have tp:((s[0].toNat:Int) !=95)=true:=by simp;try omega
     go_wp2_with fail
     all_goals first
      |(go_ret;exact⟨iu (dH fun hh=>by have:=hh.2 0 dy;simp[sV,kz,kU]at this;omega),rfl⟩)
      |(exfalso;simp_all;done)
      |(exfalso;simp_all;omega)
    ·have tp:((s[0].toNat:Int) !=95)=true:=by simp;try omega
     go_wp2_with fail
     go_round
     case rel=>exact⟨0+1,by omega,by go_num,Lib.hid fun j hj xi=>by
      by_cases Hm:j=0
      ·subst Hm;simp[sV,kz,kU];omega
      ·exact dC.out j hj (by omega)⟩
     case measure=>simp[intOf];try omega
    ·have tp:((s[0].toNat:Int) !=95)=true:=by simp;try omega
     go_wp2_with fail
     all_goals first
      |(go_ret;exact⟨iu (dH fun hh=>by have:=hh.2 0 dy;simp[sV,kz,kU]at this;omega),rfl⟩)
      |(exfalso;simp_all;done)
      |(exfalso;simp_all;omega)
    ·have tp:((s[0].toNat:Int) !=95)=false:=by simp;try omega
     go_wp2_with fail
     all_goals first
      |(go_ret;exact⟨iu (dH fun hh=>by have:=hh.2 0 dy;simp[sV,kz,kU]at this;omega),rfl⟩)
      |(exfalso;simp_all;done)
      |(exfalso;simp_all;omega)
    ·have tp:((s[0].toNat:Int) !=95)=true:=by simp;try omega
     go_wp2_with fail
     all_goals first
      |(go_ret;exact⟨iu (dH fun hh=>by have:=hh.2 0 dy;simp[sV,kz,kU]at this;omega),rfl⟩)
      |(exfalso;simp_all;done)
      |(exfalso;simp_all;omega)
    ·have tp:((s[0].toNat:Int) !=95)=true:=by simp;try omega
     go_wp2_with fail
     go_round
     case rel=>exact⟨0+1,by omega,by go_num,Lib.hid fun j hj xi=>by
      by_cases Hm:j=0
      ·subst Hm;simp[sV,kz,kU];omega
      ·exact dC.out j hj (by omega)⟩
     case measure=>simp[intOf];try omega
    ·have tp:((s[0].toNat:Int) !=95)=true:=by simp;try omega
     go_wp2_with fail
     all_goals first
      |(go_ret;exact⟨iu (dH fun hh=>by have:=hh.2 0 dy;simp[sV,kz,kU]at this;omega),rfl⟩)
      |(exfalso;simp_all;done)
      |(exfalso;simp_all;omega)
   ·have hz:((k:Int)==0)=false:=by simpa using vY
    have vZ:1<=k:=by omega
    clear vY
    rcases hc with h|⟨h,h'⟩|⟨h,h'⟩|⟨h,h'⟩|⟨h,h'⟩|⟨h,h'⟩|⟨h,h'⟩|⟨h,h'⟩|h
    ·have tp:((s[k].toNat:Int) !=95)=true:=by simp;try omega
     go_wp2_with fail
     all_goals first
      |(go_ret;exact⟨iu (dH fun hh=>by have:=hh.2 k dy;simp[sV,kz,kU]at this;omega),rfl⟩)
      |(exfalso;simp_all;done)
      |(exfalso;simp_all;omega)
    ·have tp:((s[k].toNat:Int) !=95)=true:=by simp;try omega
     go_wp2_with fail
     go_round
     case rel=>exact⟨k+1,by omega,by go_num,Lib.hid fun j hj xi=>by
      by_cases Hm:j=k
      ·subst Hm;simp[sV,kz,kU];omega
      ·exact dC.out j hj (by omega)⟩
     case measure=>simp[intOf];try omega
    ·have tp:((s[k].toNat:Int) !=95)=true:=by simp;try omega
     go_wp2_with fail
     all_goals first
      |(go_ret;exact⟨iu (dH fun hh=>by have:=hh.2 k dy;simp[sV,kz,kU]at this;omega),rfl⟩)
      |(exfalso;simp_all;done)
      |(exfalso;simp_all;omega)
    ·have tp:((s[k].toNat:Int) !=95)=true:=by simp;try omega
     go_wp2_with fail
     go_round
     case rel=>exact⟨k+1,by omega,by go_num,Lib.hid fun j hj xi=>by
      by_cases Hm:j=k
      ·subst Hm;simp[sV,kz,kU];omega
      ·exact dC.out j hj (by omega)⟩
     case measure=>simp[intOf];try omega
    ·have tp:((s[k].toNat:Int) !=95)=true:=by simp;try omega
     go_wp2_with fail
     all_goals first
      |(go_ret;exact⟨iu (dH fun hh=>by have:=hh.2 k dy;simp[sV,kz,kU]at this;omega),rfl⟩)
      |(exfalso;simp_all;done)
      |(exfalso;simp_all;omega)
    ·have tp:((s[k].toNat:Int) !=95)=false:=by simp;try omega
     go_wp2_with fail
     go_round
     case rel=>exact⟨k+1,by omega,by go_num,Lib.hid fun j hj xi=>by
      by_cases Hm:j=k
      ·subst Hm;simp[sV,kz,kU];omega
      ·exact dC.out j hj (by omega)⟩
     case measure=>simp[intOf];try omega
    ·have tp:((s[k].toNat:Int) !=95)=true:=by simp;try omega
     go_wp2_with fail
     all_goals first
      |(go_ret;exact⟨iu (dH fun hh=>by have:=hh.2 k dy;simp[sV,kz,kU]at this;omega),rfl⟩)
      |(exfalso;simp_all;done)
      |(exfalso;simp_all;omega)
    ·have tp:((s[k].toNat:Int) !=95)=true:=by simp;try omega
     go_wp2_with fail
     go_round
     case rel=>exact⟨k+1,by omega,by go_num,Lib.hid fun j hj xi=>by
      by_cases Hm:j=k
      ·subst Hm;simp[sV,kz,kU];omega
      ·exact dC.out j hj (by omega)⟩
     case measure=>simp[intOf];try omega
    ·have tp:((s[k].toNat:Int) !=95)=true:=by simp;try omega
     go_wp2_with fail
     all_goals first
      |(go_ret;exact⟨iu (dH fun hh=>by have:=hh.2 k dy;simp[sV,kz,kU]at this;omega),rfl⟩)
      |(exfalso;simp_all;done)
      |(exfalso;simp_all;omega)
  ·by_cases h1:1<=s.size
   ·by_cases h2:s.size<=12
    ·go_wp2_with fail
     go_ret
     exact⟨iu (AW (by simp<;>omega) ⟨⟨h1,h2⟩,fun i h=>dC.out i h (by omega)⟩),rfl⟩
    ·go_wp2_with fail
     go_ret
     exact⟨iu (qC (by simp<;>omega) fun h=>h2 h.1.2),rfl⟩
   ·go_wp2_with fail
    go_ret
    exact⟨iu (qC (by simp<;>omega) fun h=>h1 h.1.1),rfl⟩
end Go.Proofs.YtgoelphibofcmaaGreat

namespace Go.Proofs.YtgoelphibofcmaaGreat.V
open Go.RowKit
theorem mixed:Tryz.prog.follows .mixedOrders=true:=by kernel_rfl
variable {P:Program} {w:World} {D:Nat->Prop} {ι:Names}
theorem pe {f:Nat} {args:List AV} {r:AV} {SR:Array Value} {u0:Value} (mU:∀(w:World) (D:Nat->Prop) (ι:Names) vs,fa P w D ι args vs->vs=SR) (hr:∀(w:World) (D:Nat->Prop) (ι:Names),cq P w D ι r u0) (BA:∀g,fX g 6 r=some r)
  (h:∀w,Calls P f SR w fun e w'=>e=.returned u0/\Below w.heap.size w w'):aj P f args r:=by
 intro n
 refine iG fun hs D ι w vs S U A=>?_
 have:=mU w D ι vs A
 subst this
 refine(h w).mono ?_
 rintro e w' ⟨rfl,hb⟩
 exact⟨r,_,n,D,ι,u0,rfl,⟨r,BA _,rfl⟩,Step.stay S hb.block hb.size hb.os hb.tape hb.output (fun _ h=>h) (fun _ h=>.inl h) (fun _ _ h=>h),
  S.stay hb.block hb.size (fun _ h=>h) (fun b hd=>Nat.lt_of_lt_of_le (S.dead b hd) hb.size) (fun _ h=>.inl h) (fun _ _ h=>h),U,Nat.le_refl _,hr _ _ _⟩
theorem A7 {s:ByteArray} {vs:Array Value} (h:fa P w D ι [.str s] vs):vs= #[.string s]:=by
 obtain⟨h1,h2⟩:=h
 obtain⟨u,hu,hr⟩:=h2 0 _ rfl
 rw[fm hr]at hu
 obtain⟨l⟩:=vs
 cases l with
 |nil=>simp at h1
 |cons a l=>cases l with
  |nil=>simp at hu;subst hu;rfl
  |cons b l=>simp at h1
theorem Em (s:ByteArray) (hs:s.size<=9223372036854775807):aj Tryz.prog 189 [.str s] (.bool (jv s)):=
 pe (fun _ _ _ _=>A7) (fun _ _ _=>.eD _ _ (.bool _)) (fun g=>dO g 5 _) fun w=>Bb w s hs
theorem Eb (s:ByteArray) (hs:s.size<=9223372036854775807):aj Tryz.prog 198 [.str s] (.bool (jv s)):=
 pe (fun _ _ _ _=>A7) (fun _ _ _=>.eD _ _ (.bool _)) (fun g=>dO g 5 _) fun w=>(AD w s hs).mono (by rintro e w' ⟨rfl,rfl⟩;exact⟨rfl,Below.refl _ _⟩)
end Go.Proofs.YtgoelphibofcmaaGreat.V

namespace Go.Proofs.YtgoelphibofcmaaGreat.V
open Go.RowKit
attribute [local irreducible] dI wpOps ib Call
attribute [local go_sem] aJ gu eW gR gQ cE upd cw K.av cY AV.cells AV.cell rowOf rowsOf part ld rowAt bB cr dY eG jq bP dq eT gP fx dE eK dn dm eu ew bU bp db bR de dc eI eL eJ da cm dp eH bQ aO di cI jo bE cU bV aY du aV ea AV.undef bG bJ eA eE ei ep cJ eR eV cG eO eM dh dj List.getD_cons_zero List.getD_cons_succ List.getD_nil List.all_cons List.all_nil Bool.and_true Bool.true_and Bool.and_self Bool.not_true Bool.not_false Option.map_some Option.map_none Option.bind_some Option.bind_none List.length_cons List.length_nil List.take_succ_cons List.take_zero List.take_nil List.drop_succ_cons List.drop_zero List.drop_nil List.head?_cons List.map_cons List.map_nil List.getElem?_cons_zero List.getElem?_cons_succ List.cons_append List.nil_append List.append_nil List.length_map List.set_cons_zero List.set_cons_succ Nat.reduceMul eq_self Int.toNat_natCast Int.natCast_nonneg and_self true_and and_true decide_true decide_false Bool.false_eq_true Nat.zero_add Nat.add_zero List.contains_cons List.contains_nil Bool.or_false Bool.false_or beq_self_eq_true Nat.reduceBEq ne_eq not_true_eq_false not_false_eq_true Id.mk.injEq false_and and_false Nat.reduceLT Int.reduceLE Int.reduceLT Int.reduceToNat Int.reduceNeg Int.reduceAdd Nat.le_refl List.length_append beq_true beq_false Bool.not_eq_eq_eq_not or_false false_or eh ao aq aK br bI cC bc bz aQ bt cX cj
def oU (s:au) (i:Nat):gI:=s.aA.getD i ⟨⟨#[]⟩,0⟩
def oh (s:au) (i:Nat):fC:=s.ah.getD i yV
def BL (s:au) (i:Nat):Prop:=jv (oU s i).aD=true/\iM (oU s i).dX 1 4=true/\∀j,j<i->(oU s j).aD≠(oU s i).aD
def zM (s:au) (i:Nat):Prop:=jv (oh s i).aD=true/\(oh s i).bH.length=4/\(∀j,j<i->(oh s j).aD≠(oh s i).aD)/\∀g∈(oh s i).bH,iM g 0 s.aA.length=true
structure gW (s:au):Prop where
 ur:s.aA.length<=200
 some:1<=s.ah.length
 Bj:s.ah.length<=160
 Qm:∀i,i<s.aA.length->BL s i
 tok:∀i,i<s.ah.length->zM s i
noncomputable def pZ (s:au):Bool:=@decide (gW s) (Classical.propDecidable _)
theorem lV {s:au}:pZ s=true↔gW s:=by simp[pZ]
theorem fo {s:au} (h:¬gW s):false=pZ s:=by simp[pZ,h]
theorem Bd {s:au} (h:gW s):true=pZ s:=by simp[pZ,h]
theorem zj {s:au} {i:Nat} (h:i<s.ah.length):(s.ah.map bd)[i]? =some (bd (oh s i)):=getD_map bd h
theorem yj {s:au} {i:Nat} (h:i<s.aA.length):(s.aA.map bW)[i]? =some (bW (oU s i)):=getD_map bW h
theorem gW.form {s:au} (h:gW s):ke s:=by
 have key:∀t∈s.ah,∃i,i<s.ah.length/\t=oh s i:=fun t ht=>by
  obtain⟨i,hi,rfl⟩:=List.getElem_of_mem ht
  exact⟨i,hi,by simp[oh,List.getD_eq_getElem?_getD,hi]⟩
 refine⟨fun t ht=>?_,fun t ht g hg=>?_⟩
 ·obtain⟨i,hi,rfl⟩:=key t ht
  exact(h.tok i hi).2.1
 ·obtain⟨i,hi,rfl⟩:=key t ht
  exact dP ((h.tok i hi).2.2.2 g hg)
def cW (l:List ByteArray):List (List AV):=l.map fun n=>[.str n,.bool true]
abbrev mS:MK:=⟨false,[.tS]⟩
theorem xN (n:ByteArray):∀(l:List ByteArray) (i:Nat),∃r,fP mS [.str n] (cW l) i=some r/\((r=none/\n∉l)∨∃j,r=some (i+j)/\n∈l/\(cW l)[j]? =some [.str n,.bool true])
 |[],i=>⟨none,rfl,.inl ⟨rfl,by simp⟩⟩
 |m::l,i=>by
  obtain⟨r,h1,h2⟩:=xN n l (i+1)
  by_cases h:n=m
  ·subst h
   exact⟨some i,by simp[cW,fP,fx,gP,MK.ks],.inr ⟨0,rfl,by simp,rfl⟩⟩
  ·refine⟨r,?_,?_⟩
   ·unfold cW at h1 ⊢
    simp only[List.map_cons,fP,MK.ks,List.length_cons,List.length_nil,Nat.zero_add,List.take_succ_cons,List.take_zero,fx,gP,h,decide_false,Bool.and_true]
    exact h1
   ·rcases h2 with⟨rfl,h2⟩|⟨j,rfl,h2,h3⟩
    ·exact .inl ⟨rfl,by simp[h,h2]⟩
    ·exact .inr ⟨j+1,by congr 1;omega,by simp[h2],by simpa[cW]using h3⟩
theorem vB (n:ByteArray) (l:List ByteArray):(n∉l/\fF mS (.str n) (cW l)=some none)∨∃j,n∈l/\fF mS (.str n) (cW l)=some (some j)/\(cW l)[j]? =some [.str n,.bool true]:=by
 obtain⟨r,h1,h2⟩:=xN n l 0
 have e:fF mS (.str n) (cW l)=some r:=by
  unfold fF
  rw[if_pos ⟨rfl,rfl,rfl⟩];exact h1
 rcases h2 with⟨rfl,h2⟩|⟨j,rfl,h2,h3⟩
 ·exact .inl ⟨h2,e⟩
 ·exact .inr ⟨j,h2,by rw[e,Nat.zero_add],h3⟩
theorem Nl (s:au) (g:Int):aj Tryz.prog 200 [.int .i64 g,.bK (ab s)] (.bool (!iM g 0 s.aA.length)):=by
 refine aj.body ej rfl fun hl n0=>?_
 clear hl
 have h:=kM g 0 s.aA.length
 (repeat(first|((repeat(revert hN;revert N;apply Pn.out));refine wk @ab.eq_1 ?_;(repeat(refine Pn.mk ?_;intro N hN)))|((try apply Or.inl);refine⟨_,aj.x (h) (sd @ab.eq_1),?_⟩;refine hN _ _ ?_;clear hN N)))
 exact aI (b:= !iM g 0 s.aA.length) (.inl rfl) (sd @Nat.zero_add) rfl
theorem JB:NT bq (fun c=>.int .i64 c) 1 false:=⟨fun _=>rfl,fun _=>rfl,fun x g=>by rw[ao,aK,aq];rfl⟩
theorem KA (s:au) (l:List Int) (hl:l.length<=1048576):aj Tryz.prog 199 [.sl (l.map bq),.fn 200 [.bK (ab s)]] (.bool (l.any fun g=> !iM g 0 s.aA.length)):=
 kn JB (show np Tryz.prog 199=some (yn 199 224) by kernel_rfl)
  (show np Tryz.prog 224=some (pM 224 1 false) by kernel_rfl) l hl _ _ _ rfl (fun g=>by rw[ao,aQ,aq];rfl) (fun x _=>Nl s x) fun g=>by rw[ao,aQ,aq];rfl
theorem uS {α:Type} (f:Nat->α) (n k:Nat) (x:α):x∉(List.range k).map f↔∀j,j<k->f j≠x:=by
 constructor
 ·intro h j hj he
  exact h (List.mem_map.2 ⟨j,List.mem_range.2 hj,he⟩)
 ·intro h hm
  obtain⟨j,hj,he⟩:=List.mem_map.1 hm
  exact h j (List.mem_range.1 hj) he
theorem BQ (s:au) (hn:fK s) (hg:s.aA.length<=1048576) (ht:s.ah.length<=1048576) (hs:∀t∈s.ah,t.bH.length<=1048576):aj Tryz.prog 164 [.agg (ab s)] (.bool (pZ s)):=by
 refine aj.body ej rfl fun hl n0=>?_
 clear hl
 have Pc:∀i,i<s.aA.length->(oU s i).aD.size<=9223372036854775807:=fun i hi=>hn.1 _ (by simp[oU,List.getD_eq_getElem?_getD,hi])
 have MV:∀i,i<s.ah.length->(oh s i).aD.size<=9223372036854775807:=fun i hi=>hn.2 _ (by simp[oh,List.getD_eq_getElem?_getD,hi])
 have wD:∀i,i<s.ah.length->(oh s i).bH.length<=1048576:=fun i hi=>hs _ (by simp[oh,List.getD_eq_getElem?_getD,hi])
 have hw:=kM (s.ah.length:Int) 1 160
 by_cases h1:(200:Int)<(s.aA.length:Int)
 ·(try((repeat(revert hN;revert N;apply Pn.out));refine wk (tw @ab.eq_1 @h1) ?_;(repeat(refine Pn.mk ?_;intro N hN))))
  exact aI (b:=false) (.inl rfl) (sd @Nat.zero_add) (fo fun h=>by have:=h.ur;omega)
 by_cases h2:iM (s.ah.length:Int) 1 160=true
 ·have By:=dP h2
  rw[h2]at hw
  (repeat(first|((repeat(revert hN;revert N;apply Pn.out));refine wk (tw @ab.eq_1 @h1) ?_;(repeat(refine Pn.mk ?_;intro N hN)))|((try apply Or.inl);refine⟨_,aj.x (hw) (sd (tw @ab.eq_1 @h1)),?_⟩;refine hN _ _ ?_;clear hN N)))
  refine aH (fun n env st=>∃k:Nat,n=(s.aA.length)-k/\k<=(s.aA.length)/\env 24=.int .i64 (k:Int)/\st.get ⟨164000000,n0⟩=some ⟨true,2,[ab s]⟩/\st.get ⟨164003000,n0+1+1⟩=some ⟨true,mS.nv,cW ((List.range k).map fun i=>(oU s i).aD)⟩/\(∀j:Nat,j<k->BL s j)) (s.aA.length) ⟨0,by omega,by omega,by(try simp only[go_sem, ↓reduceIte,Nat.reduceEqDiff,Nat.reduceAdd,Nat.reduceSub,Nat.reduceLeDiff,reduceCtorEq,ab,List.range_zero,List.map_nil,cW]);try rfl,by(try simp only[go_sem, ↓reduceIte,Nat.reduceEqDiff,Nat.reduceAdd,Nat.reduceSub,Nat.reduceLeDiff,reduceCtorEq,ab,List.range_zero,List.map_nil,cW]);try rfl,by(try simp only[go_sem, ↓reduceIte,Nat.reduceEqDiff,Nat.reduceAdd,Nat.reduceSub,Nat.reduceLeDiff,reduceCtorEq,ab,List.range_zero,List.map_nil,cW]);try rfl,fun _ h=>absurd h (Nat.not_lt_zero _)⟩ ?_
  rintro n_a env_a st_a ⟨k,rfl,ale,a24,ag0,ag1,kO⟩ dt
  have a1:=dt 1 (by kernel_rfl);have a3:=dt 3 (by kernel_rfl);have a22:=dt 22 (by kernel_rfl);have a23:=dt 23 (by kernel_rfl)
  simp only[go_sem, ↓reduceIte,Nat.reduceEqDiff,Nat.reduceAdd,Nat.reduceSub,Nat.reduceLeDiff,reduceCtorEq,ab,List.range_zero,List.map_nil,cW]at a1 a3 a22 a23
  clear dt
  by_cases hk:(k:Int)<(s.aA.length:Int)
  ·have bY:∀{e:Env} {gg:Rows},(e 24=.int .i64 (IntKind.i64.wrap ((k:Int)+1)))->(gg ⟨164000000,n0⟩=some ⟨true,2,[ab s]⟩)->(gg ⟨164003000,n0+1+1⟩=some ⟨true,mS.nv,cW ((List.range (k+1)).map fun i=>(oU s i).aD)⟩)->(BL s k)->∃m0,m0<(s.aA.length)-k/\∃k:Nat,m0=(s.aA.length)-k/\k<=(s.aA.length)/\e 24=.int .i64 (k:Int)/\gg ⟨164000000,n0⟩=some ⟨true,2,[ab s]⟩/\gg ⟨164003000,n0+1+1⟩=some ⟨true,mS.nv,cW ((List.range k).map fun i=>(oU s i).aD)⟩/\(∀j:Nat,j<k->BL s j):=fun x1 x2 x3 x4=>⟨_,by omega,k+1,rfl,by omega,(by rw[x1,ax (by omega)]),x2,x3,(all_succ kO x4)⟩
   have eZ:k<s.aA.length:=by omega
   have eo:=yj eZ
   have qY:=Eb (oU s k).aD (Pc k eZ)
   have Jf:=kM (oU s k).dX 1 4
   have Aw:=vB (oU s k).aD ((List.range k).map fun i=>(oU s i).aD)
   rw[uS _ k]at Aw
   have kV:(¬BL s k)->¬gW s:=fun h hp=>h (hp.Qm k eZ)
   generalize tu:oU s k=gl at *
   cases hb:jv gl.aD
   ·rw[hb]at qY
    (repeat(first|((repeat(revert hN;revert N;apply Pn.out));refine wk (tw @a24 (tw @ag0 (tw @ag1 (tw @a1 (tw @a3 (tw @a22 (tw @a23 (tw @hk (tw @eo (tw @bW.eq_1 @ab.eq_1)))))))))) ?_;(repeat(refine Pn.mk ?_;intro N hN)))|((try apply Or.inl);refine⟨_,aj.x (qY) (sd (tw @a24 (tw @ag0 (tw @ag1 (tw @a1 (tw @a3 (tw @a22 (tw @a23 (tw @hk (tw @eo (tw @bW.eq_1 @ab.eq_1))))))))))),?_⟩;refine hN _ _ ?_;clear hN N)))
    exact aI (b:=false) (.inl rfl) (sd @Nat.zero_add) (fo (kV fun h=>by rw[BL,tu,hb]at h;cases h.1))
   ·rw[hb]at qY
    rcases Aw with⟨Cq,l7⟩|⟨j,fA,l7,fy⟩
    ·cases cK:iM gl.dX 1 4
     ·rw[cK]at Jf
      (repeat(first|((repeat(revert hN;revert N;apply Pn.out));refine wk (tw @a24 (tw @ag0 (tw @ag1 (tw @a1 (tw @a3 (tw @a22 (tw @a23 (tw @hk (tw @eo (tw @l7 (tw @bW.eq_1 @ab.eq_1))))))))))) ?_;(repeat(refine Pn.mk ?_;intro N hN)))|((try apply Or.inl);refine⟨_,aj.x (qY) (sd (tw @a24 (tw @ag0 (tw @ag1 (tw @a1 (tw @a3 (tw @a22 (tw @a23 (tw @hk (tw @eo (tw @l7 (tw @bW.eq_1 @ab.eq_1)))))))))))),?_⟩;refine hN _ _ ?_;clear hN N)|((try apply Or.inl);refine⟨_,aj.x (Jf) (sd (tw @a24 (tw @ag0 (tw @ag1 (tw @a1 (tw @a3 (tw @a22 (tw @a23 (tw @hk (tw @eo (tw @l7 (tw @bW.eq_1 @ab.eq_1)))))))))))),?_⟩;refine hN _ _ ?_;clear hN N)))
      exact aI (b:=false) (.inl rfl) (sd @Nat.zero_add) (fo (kV fun h=>by rw[BL,tu,cK]at h;cases h.2.1))
     ·rw[cK]at Jf
      have iR:cW ((List.range k).map fun i=>(oU s i).aD)++[[.str gl.aD,.bool true]]=cW (List.map (fun i=>(oU s i).aD) (List.range k++[k])):=by simp[cW,tu]
      (repeat(first|((repeat(revert hN;revert N;apply Pn.out));refine wk (tw @a24 (tw @ag0 (tw @ag1 (tw @a1 (tw @a3 (tw @a22 (tw @a23 (tw @hk (tw @eo (tw @l7 (tw @bW.eq_1 @ab.eq_1))))))))))) ?_;(repeat(refine Pn.mk ?_;intro N hN)))|((try apply Or.inl);refine⟨_,aj.x (qY) (sd (tw @a24 (tw @ag0 (tw @ag1 (tw @a1 (tw @a3 (tw @a22 (tw @a23 (tw @hk (tw @eo (tw @l7 (tw @bW.eq_1 @ab.eq_1)))))))))))),?_⟩;refine hN _ _ ?_;clear hN N)|((try apply Or.inl);refine⟨_,aj.x (Jf) (sd (tw @a24 (tw @ag0 (tw @ag1 (tw @a1 (tw @a3 (tw @a22 (tw @a23 (tw @hk (tw @eo (tw @l7 (tw @bW.eq_1 @ab.eq_1)))))))))))),?_⟩;refine hN _ _ ?_;clear hN N)))
      refine bY ?_ ?_ ?_ (⟨by rw[tu];exact hb,by rw[tu];exact cK,fun j hj=>by rw[tu];exact Cq j hj⟩)
      all_goals simp only[go_sem, ↓reduceIte,Nat.reduceEqDiff,Nat.reduceAdd,Nat.reduceSub,Nat.reduceLeDiff,reduceCtorEq,a24,ag0,ag1,a1,a3,a22,a23,l7,iR]
    ·(repeat(first|((repeat(revert hN;revert N;apply Pn.out));refine wk (tw @a24 (tw @ag0 (tw @ag1 (tw @a1 (tw @a3 (tw @a22 (tw @a23 (tw @hk (tw @eo (tw @l7 (tw @fy (tw @bW.eq_1 @ab.eq_1)))))))))))) ?_;(repeat(refine Pn.mk ?_;intro N hN)))|((try apply Or.inl);refine⟨_,aj.x (qY) (sd (tw @a24 (tw @ag0 (tw @ag1 (tw @a1 (tw @a3 (tw @a22 (tw @a23 (tw @hk (tw @eo (tw @l7 (tw @fy (tw @bW.eq_1 @ab.eq_1))))))))))))),?_⟩;refine hN _ _ ?_;clear hN N)))
     exact aI (b:=false) (.inl rfl) (sd @Nat.zero_add) (fo (kV fun h=>by
      rw[BL,tu]at h
      obtain⟨i,hi,he⟩:=List.mem_map.1 fA
      exact h.2.2 i (List.mem_range.1 hi) he))
  ·have kQ:k=s.aA.length:=by omega
   (try((repeat(revert hN;revert N;apply Pn.out));refine wk (tw @a24 (tw @ag0 (tw @ag1 (tw @a1 (tw @a3 (tw @a22 (tw @a23 (tw @hk @ab.eq_1)))))))) ?_;(repeat(refine Pn.mk ?_;intro N hN))))
   refine aH (fun n env st=>∃j:Nat,n=(s.ah.length)-j/\j<=(s.ah.length)/\env 52=.int .i64 (j:Int)/\st.get ⟨164000000,n0⟩=some ⟨true,2,[ab s]⟩/\st.get ⟨164011000,st_a.next+1⟩=some ⟨true,mS.nv,cW ((List.range j).map fun i=>(oh s i).aD)⟩/\(∀i:Nat,i<j->zM s i)/\(st_a.next<st.next)) (s.ah.length) ⟨0,by omega,by omega,by(try simp only[go_sem, ↓reduceIte,Nat.reduceEqDiff,Nat.reduceAdd,Nat.reduceSub,Nat.reduceLeDiff,reduceCtorEq,a24,ag0,ag1,a1,a3,a22,a23,ab,List.range_zero,List.map_nil,cW]);try rfl,by(try simp only[go_sem, ↓reduceIte,Nat.reduceEqDiff,Nat.reduceAdd,Nat.reduceSub,Nat.reduceLeDiff,reduceCtorEq,a24,ag0,ag1,a1,a3,a22,a23,ab,List.range_zero,List.map_nil,cW]);try rfl,by(try simp only[go_sem, ↓reduceIte,Nat.reduceEqDiff,Nat.reduceAdd,Nat.reduceSub,Nat.reduceLeDiff,reduceCtorEq,a24,ag0,ag1,a1,a3,a22,a23,ab,List.range_zero,List.map_nil,cW]);try rfl,fun _ h=>absurd h (Nat.not_lt_zero _),(by(try dsimp only);omega)⟩ ?_
   rintro n_b env_b st_b ⟨j,rfl,ble,b52,bg0,bg1,bA0,bI0⟩ ec
   have b1:=ec 1 (by kernel_rfl);have b6:=ec 6 (by kernel_rfl);have BU:=ec 50 (by kernel_rfl);have BV:=ec 51 (by kernel_rfl)
   simp only[go_sem, ↓reduceIte,Nat.reduceEqDiff,Nat.reduceAdd,Nat.reduceSub,Nat.reduceLeDiff,reduceCtorEq,a24,ag0,ag1,a1,a3,a22,a23,ab,List.range_zero,List.map_nil,cW]at b1 b6 BU BV
   clear ec
   by_cases hj:(j:Int)<(s.ah.length:Int)
   ·have er:∀{e:Env} {gg:Rows} {nx:Nat},(e 52=.int .i64 (IntKind.i64.wrap ((j:Int)+1)))->(gg ⟨164000000,n0⟩=some ⟨true,2,[ab s]⟩)->(gg ⟨164011000,st_a.next+1⟩=some ⟨true,mS.nv,cW ((List.range (j+1)).map fun i=>(oh s i).aD)⟩)->(zM s j)->(st_a.next<nx)->∃m0,m0<(s.ah.length)-j/\∃j:Nat,m0=(s.ah.length)-j/\j<=(s.ah.length)/\e 52=.int .i64 (j:Int)/\gg ⟨164000000,n0⟩=some ⟨true,2,[ab s]⟩/\gg ⟨164011000,st_a.next+1⟩=some ⟨true,mS.nv,cW ((List.range j).map fun i=>(oh s i).aD)⟩/\(∀i:Nat,i<j->zM s i)/\(st_a.next<nx):=fun x1 x2 x3 x4 x5=>⟨_,by omega,j+1,rfl,by omega,(by rw[x1,ax (by omega)]),x2,x3,(all_succ bA0 x4),x5⟩
    have nq:j<s.ah.length:=by omega
    have mV:=zj nq
    have qY:=Eb (oh s j).aD (MV j nq)
    have QV:=KA s (oh s j).bH (wD j nq)
    have Aw:=vB (oh s j).aD ((List.range j).map fun i=>(oh s i).aD)
    rw[uS _ j]at Aw
    have kV:(¬zM s j)->¬gW s:=fun h hp=>h (hp.tok j nq)
    have fY:(⟨164011000,st_a.next+1⟩:Id)≠⟨164000000,n0⟩:=by simp
    generalize htd:oh s j=tl at *
    cases hb:jv tl.aD
    ·rw[hb]at qY
     (repeat(first|((repeat(revert hN;revert N;apply Pn.out));refine wk (tw @b52 (tw @bg0 (tw @bg1 (tw @b1 (tw @b6 (tw @BU (tw @BV (tw @hj (tw @mV (tw @bd.eq_1 @ab.eq_1)))))))))) ?_;(repeat(refine Pn.mk ?_;intro N hN)))|((try apply Or.inl);refine⟨_,aj.x (qY) (sd (tw @b52 (tw @bg0 (tw @bg1 (tw @b1 (tw @b6 (tw @BU (tw @BV (tw @hj (tw @mV (tw @bd.eq_1 @ab.eq_1))))))))))),?_⟩;refine hN _ _ ?_;clear hN N)))
     exact aI (b:=false) (.inl rfl) (sd @Nat.zero_add) (fo (kV fun h=>by rw[zM,htd,hb]at h;cases h.1))
    ·rw[hb]at qY
     rcases Aw with⟨Cq,l7⟩|⟨i,fA,l7,fy⟩
     ·by_cases h4:(tl.bH.length:Int)=4
      ·have yl:decide ((tl.bH.length:Int)=4)=true:=decide_eq_true h4
       cases hany:tl.bH.any fun g=> !iM g 0 s.aA.length
       ·rw[hany]at QV
        have iR:cW ((List.range j).map fun i=>(oh s i).aD)++[[.str tl.aD,.bool true]]=cW (List.map (fun i=>(oh s i).aD) (List.range j++[j])):=by simp[cW,htd]
        (repeat(first|((repeat(revert hN;revert N;apply Pn.out));refine wk (tw @b52 (tw @bg0 (tw @bg1 (tw @b1 (tw @b6 (tw @BU (tw @BV (tw @hj (tw @mV (tw @l7 (tw @yl (tw @bd.eq_1 @ab.eq_1)))))))))))) ?_;(repeat(refine Pn.mk ?_;intro N hN)))|((try apply Or.inl);refine⟨_,aj.x (qY) (sd (tw @b52 (tw @bg0 (tw @bg1 (tw @b1 (tw @b6 (tw @BU (tw @BV (tw @hj (tw @mV (tw @l7 (tw @yl (tw @bd.eq_1 @ab.eq_1))))))))))))),?_⟩;refine hN _ _ ?_;clear hN N)|((try apply Or.inl);refine⟨_,aj.x (QV) (sd (tw @b52 (tw @bg0 (tw @bg1 (tw @b1 (tw @b6 (tw @BU (tw @BV (tw @hj (tw @mV (tw @l7 (tw @yl (tw @bd.eq_1 @ab.eq_1))))))))))))),?_⟩;refine hN _ _ ?_;clear hN N)))
        refine er ?_ ?_ ?_ (⟨by rw[htd];exact hb,by rw[htd];omega,fun i hi=>(by rw[htd];exact Cq i hi),fun g hg=>by rw[htd]at hg;have:=List.any_eq_false.1 hany g hg;simpa using this⟩) (by(try dsimp only);omega)
        all_goals simp only[go_sem, ↓reduceIte,Nat.reduceEqDiff,Nat.reduceAdd,Nat.reduceSub,Nat.reduceLeDiff,reduceCtorEq,b52,bg0,bg1,b1,b6,BU,BV,l7,iR]
       ·rw[hany]at QV
        (repeat(first|((repeat(revert hN;revert N;apply Pn.out));refine wk (tw @b52 (tw @bg0 (tw @bg1 (tw @b1 (tw @b6 (tw @BU (tw @BV (tw @hj (tw @mV (tw @l7 (tw @yl (tw @bd.eq_1 @ab.eq_1)))))))))))) ?_;(repeat(refine Pn.mk ?_;intro N hN)))|((try apply Or.inl);refine⟨_,aj.x (qY) (sd (tw @b52 (tw @bg0 (tw @bg1 (tw @b1 (tw @b6 (tw @BU (tw @BV (tw @hj (tw @mV (tw @l7 (tw @yl (tw @bd.eq_1 @ab.eq_1))))))))))))),?_⟩;refine hN _ _ ?_;clear hN N)|((try apply Or.inl);refine⟨_,aj.x (QV) (sd (tw @b52 (tw @bg0 (tw @bg1 (tw @b1 (tw @b6 (tw @BU (tw @BV (tw @hj (tw @mV (tw @l7 (tw @yl (tw @bd.eq_1 @ab.eq_1))))))))))))),?_⟩;refine hN _ _ ?_;clear hN N)))
        exact aI (b:=false) (.inl rfl) (sd @Nat.zero_add) (fo (kV fun h=>by
         rw[zM,htd]at h
         obtain⟨g,hg,hq⟩:=List.any_eq_true.1 hany
         have:=h.2.2.2 g hg
         rw[this]at hq;cases hq))
      ·have yl:decide ((tl.bH.length:Int)=4)=false:=decide_eq_false h4
       (repeat(first|((repeat(revert hN;revert N;apply Pn.out));refine wk (tw @b52 (tw @bg0 (tw @bg1 (tw @b1 (tw @b6 (tw @BU (tw @BV (tw @hj (tw @mV (tw @l7 (tw @yl (tw @bd.eq_1 @ab.eq_1)))))))))))) ?_;(repeat(refine Pn.mk ?_;intro N hN)))|((try apply Or.inl);refine⟨_,aj.x (qY) (sd (tw @b52 (tw @bg0 (tw @bg1 (tw @b1 (tw @b6 (tw @BU (tw @BV (tw @hj (tw @mV (tw @l7 (tw @yl (tw @bd.eq_1 @ab.eq_1))))))))))))),?_⟩;refine hN _ _ ?_;clear hN N)))
       exact aI (b:=false) (.inl rfl) (sd @Nat.zero_add) (fo (kV fun h=>by rw[zM,htd]at h;have:=h.2.1;omega))
     ·(repeat(first|((repeat(revert hN;revert N;apply Pn.out));refine wk (tw @b52 (tw @bg0 (tw @bg1 (tw @b1 (tw @b6 (tw @BU (tw @BV (tw @hj (tw @mV (tw @l7 (tw @fy (tw @bd.eq_1 @ab.eq_1)))))))))))) ?_;(repeat(refine Pn.mk ?_;intro N hN)))|((try apply Or.inl);refine⟨_,aj.x (qY) (sd (tw @b52 (tw @bg0 (tw @bg1 (tw @b1 (tw @b6 (tw @BU (tw @BV (tw @hj (tw @mV (tw @l7 (tw @fy (tw @bd.eq_1 @ab.eq_1))))))))))))),?_⟩;refine hN _ _ ?_;clear hN N)))
      exact aI (b:=false) (.inl rfl) (sd @Nat.zero_add) (fo (kV fun h=>by
       rw[zM,htd]at h
       obtain⟨i,hi,he⟩:=List.mem_map.1 fA
       exact h.2.2.1 i (List.mem_range.1 hi) he))
   ·(try((repeat(revert hN;revert N;apply Pn.out));refine wk (tw @b52 (tw @bg0 (tw @bg1 (tw @b1 (tw @b6 (tw @BU (tw @BV (tw @hj @ab.eq_1)))))))) ?_;(repeat(refine Pn.mk ?_;intro N hN))))
    exact aI (b:=true) (.inl rfl) (sd @Nat.zero_add) (Bd ⟨by omega,by omega,by omega,fun i hi=>kO i (by omega),fun i hi=>bA0 i (by omega)⟩)
 ·rw[Bool.not_eq_true]at h2
  rw[h2]at hw
  (repeat(first|((repeat(revert hN;revert N;apply Pn.out));refine wk (tw @ab.eq_1 @h1) ?_;(repeat(refine Pn.mk ?_;intro N hN)))|((try apply Or.inl);refine⟨_,aj.x (hw) (sd (tw @ab.eq_1 @h1)),?_⟩;refine hN _ _ ?_;clear hN N)))
  exact aI (b:=false) (.inl rfl) (sd @Nat.zero_add) (fo fun h=>by
   have h3:=h.some
   have h4:=h.Bj
   rw[jc ⟨by omega,by omega⟩]at h2;cases h2)
end Go.Proofs.YtgoelphibofcmaaGreat.V

namespace Go.Proofs.YtgoelphibofcmaaGreat.V
open Go.RowKit
attribute [local irreducible] dI wpOps ib Call
attribute [local go_sem] aJ gu eW gR gQ cE upd cw K.av cY AV.cells AV.cell rowOf rowsOf part ld rowAt bB cr dY eG jq bP dq eT gP fx dE eK dn dm eu ew bU bp db bR de dc eI eL eJ da cm dp eH bQ aO di cI jo bE cU bV aY du aV ea AV.undef bG bJ eA eE ei ep cJ eR eV cG eO eM dh dj List.getD_cons_zero List.getD_cons_succ List.getD_nil List.all_cons List.all_nil Bool.and_true Bool.true_and Bool.and_self Bool.not_true Bool.not_false Option.map_some Option.map_none Option.bind_some Option.bind_none List.length_cons List.length_nil List.take_succ_cons List.take_zero List.take_nil List.drop_succ_cons List.drop_zero List.drop_nil List.head?_cons List.map_cons List.map_nil List.getElem?_cons_zero List.getElem?_cons_succ List.cons_append List.nil_append List.append_nil List.length_map List.set_cons_zero List.set_cons_succ Nat.reduceMul eq_self Int.toNat_natCast Int.natCast_nonneg and_self true_and and_true decide_true decide_false Bool.false_eq_true Nat.zero_add Nat.add_zero List.contains_cons List.contains_nil Bool.or_false Bool.false_or beq_self_eq_true Nat.reduceBEq ne_eq not_true_eq_false not_false_eq_true Id.mk.injEq false_and and_false Nat.reduceLT Int.reduceLE Int.reduceLT Int.reduceToNat Int.reduceNeg Int.reduceAdd Nat.le_refl List.length_append beq_true beq_false Bool.not_eq_eq_eq_not or_false false_or eh ao aq aK br bI cC bc bz aQ bt cX cj
theorem tj {α:Type} {p:α->Bool} {xs:List α} {k:Nat} (hk:k<xs.length) (h1:p xs[k]=true) (h2:∀j (h:j<xs.length),j<k->p xs[j]=false):ik p xs=k:=by
 have:xs.findIdx p=k:=by rw[List.findIdx_eq hk];exact⟨h1,fun j hj=>h2 j (by omega) hj⟩
 rw[ik,this,if_pos hk]
theorem xb {α:Type} {p:α->Bool} {xs:List α} (h:∀j (h:j<xs.length),p xs[j]=false):ik p xs= -1:=by
 rw[ik,if_neg]
 rw[List.findIdx_lt_length]
 rintro⟨x,hx,Hu⟩
 obtain⟨j,hj,rfl⟩:=List.getElem_of_mem hx
 rw[h j hj]at Hu;cases Hu
theorem yi {s:au} {i:Nat} (h:i<s.aA.length):oU s i=s.aA[i]:=by simp[oU,List.getD_eq_getElem?_getD,h]
theorem zi {s:au} {i:Nat} (h:i<s.ah.length):oh s i=s.ah[i]:=by simp[oh,List.getD_eq_getElem?_getD,h]
def I0 (s:au) (n:ByteArray):Int:=ik (fun g:gI=>decide (g.aD=n)) s.aA
def Lv (s:au) (n:ByteArray):Int:=ik (fun t:fC=>decide (t.aD=n)) s.ah
theorem Ft (s:au) (nm:ByteArray):aj Tryz.prog 190 [.bK (ab s),.str nm] (.int .i64 (I0 s nm+1)):=by
 refine aj.body ej rfl fun hl n0=>?_
 have hlen:s.aA.length<=9223372036854775807:=by
  have h1:=(hl (.bK (ab s)) (by simp)).AH (a:=.sl (s.aA.map bW)) (by simp[ab])
  simpa using h1.len
 clear hl
 (try((repeat(revert hN;revert N;apply Pn.out));refine wk @ab.eq_1 ?_;(repeat(refine Pn.mk ?_;intro N hN))))
 refine aH (fun n env st=>∃k:Nat,n=(s.aA.length)-k/\k<=(s.aA.length)/\env 5=.int .i64 (k:Int)/\(∀j:Nat,j<k->∀h:j<s.aA.length,decide (s.aA[j].aD=nm)=false)) (s.aA.length) ⟨0,by omega,by omega,sl @ab.eq_1,fun _ h=>absurd h (Nat.not_lt_zero _)⟩ ?_
 rintro n_a env_a st_a ⟨k,rfl,ale,a5,kO⟩ dt
 have a0:=dt 0 (by kernel_rfl);have a1:=dt 1 (by kernel_rfl)
 simp only[go_sem, ↓reduceIte,Nat.reduceEqDiff,Nat.reduceAdd,Nat.reduceSub,Nat.reduceLeDiff,reduceCtorEq,ab]at a0 a1
 clear dt
 by_cases hk:(k:Int)<(s.aA.length:Int)
 ·have bY:∀{e:Env},(e 5=.int .i64 (IntKind.i64.wrap ((k:Int)+1)))->(∀h:k<s.aA.length,decide (s.aA[k].aD=nm)=false)->∃m0,m0<(s.aA.length)-k/\∃k:Nat,m0=(s.aA.length)-k/\k<=(s.aA.length)/\e 5=.int .i64 (k:Int)/\(∀j:Nat,j<k->∀h:j<s.aA.length,decide (s.aA[j].aD=nm)=false):=fun x1 x2=>⟨_,by omega,k+1,rfl,by omega,(by rw[x1,ax (by omega)]),(all_succ kO x2)⟩
  have eZ:k<s.aA.length:=by omega
  have eo:=yj eZ
  have e:=yi eZ
  cases hd:decide ((oU s k).aD=nm)
  ·have QA:=of_decide_eq_false hd
   (try((repeat(revert hN;revert N;apply Pn.out));refine wk (tw @a5 (tw @a0 (tw @a1 (tw @hk (tw @eo (tw @QA (tw @hd (tw @bW.eq_1 @ab.eq_1)))))))) ?_;(repeat(refine Pn.mk ?_;intro N hN))))
   exact bY (sd (tw @a5 (tw @a0 @a1))) (fun _=>by rw[e]at hd;exact hd)
  ·have QA:=of_decide_eq_true hd
   have hw:IntKind.i64.wrap ((k:Int)+1)=(k:Int)+1:=aZ (by omega)
   (try((repeat(revert hN;revert N;apply Pn.out));refine wk (tw @a5 (tw @a0 (tw @a1 (tw @hk (tw @eo (tw @hd (tw @hw (tw @bW.eq_1 @ab.eq_1)))))))) ?_;(repeat(refine Pn.mk ?_;intro N hN))))
   exact bj (b:=(k:Int)+1) (.inl rfl) (sd @Nat.zero_add) (by rw[I0,tj eZ (by rw[e]at hd;exact hd) fun j h hj=>kO j hj h])
 ·(try((repeat(revert hN;revert N;apply Pn.out));refine wk (tw @a5 (tw @a0 (tw @a1 (tw @hk @ab.eq_1)))) ?_;(repeat(refine Pn.mk ?_;intro N hN))))
  exact bj (b:=0) (.inl rfl) (sd @Nat.zero_add) (by rw[I0,xb fun j h=>kO j (by omega) h];rfl)
theorem Fu (s:au) (nm:ByteArray):aj Tryz.prog 191 [.bK (ab s),.str nm] (.int .i64 (Lv s nm)):=by
 refine aj.body ej rfl fun hl n0=>?_
 have hlen:s.ah.length<=9223372036854775807:=by
  have h1:=(hl (.bK (ab s)) (by simp)).AH (a:=.sl (s.ah.map bd)) (by simp[ab])
  simpa using h1.len
 clear hl
 (try((repeat(revert hN;revert N;apply Pn.out));refine wk @ab.eq_1 ?_;(repeat(refine Pn.mk ?_;intro N hN))))
 refine aH (fun n env st=>∃k:Nat,n=(s.ah.length)-k/\k<=(s.ah.length)/\env 5=.int .i64 (k:Int)/\(∀j:Nat,j<k->∀h:j<s.ah.length,decide (s.ah[j].aD=nm)=false)) (s.ah.length) ⟨0,by omega,by omega,sl @ab.eq_1,fun _ h=>absurd h (Nat.not_lt_zero _)⟩ ?_
 rintro n_a env_a st_a ⟨k,rfl,ale,a5,kO⟩ dt
 have a0:=dt 0 (by kernel_rfl);have a1:=dt 1 (by kernel_rfl)
 simp only[go_sem, ↓reduceIte,Nat.reduceEqDiff,Nat.reduceAdd,Nat.reduceSub,Nat.reduceLeDiff,reduceCtorEq,ab]at a0 a1
 clear dt
 by_cases hk:(k:Int)<(s.ah.length:Int)
 ·have bY:∀{e:Env},(e 5=.int .i64 (IntKind.i64.wrap ((k:Int)+1)))->(∀h:k<s.ah.length,decide (s.ah[k].aD=nm)=false)->∃m0,m0<(s.ah.length)-k/\∃k:Nat,m0=(s.ah.length)-k/\k<=(s.ah.length)/\e 5=.int .i64 (k:Int)/\(∀j:Nat,j<k->∀h:j<s.ah.length,decide (s.ah[j].aD=nm)=false):=fun x1 x2=>⟨_,by omega,k+1,rfl,by omega,(by rw[x1,ax (by omega)]),(all_succ kO x2)⟩
  have eZ:k<s.ah.length:=by omega
  have eo:=zj eZ
  have e:=zi eZ
  cases hd:decide ((oh s k).aD=nm)
  ·(try((repeat(revert hN;revert N;apply Pn.out));refine wk (tw @a5 (tw @a0 (tw @a1 (tw @hk (tw @eo (tw @hd (tw @bd.eq_1 @ab.eq_1))))))) ?_;(repeat(refine Pn.mk ?_;intro N hN))))
   exact bY (sd (tw @a5 (tw @a0 @a1))) (fun _=>by rw[e]at hd;exact hd)
  ·(try((repeat(revert hN;revert N;apply Pn.out));refine wk (tw @a5 (tw @a0 (tw @a1 (tw @hk (tw @eo (tw @hd (tw @bd.eq_1 @ab.eq_1))))))) ?_;(repeat(refine Pn.mk ?_;intro N hN))))
   exact bj (b:=(k:Int)) (.inl rfl) (sd @Nat.zero_add) (by rw[Lv,tj eZ (by rw[e]at hd;exact hd) fun j h hj=>kO j hj h])
 ·(try((repeat(revert hN;revert N;apply Pn.out));refine wk (tw @a5 (tw @a0 (tw @a1 (tw @hk @ab.eq_1)))) ?_;(repeat(refine Pn.mk ?_;intro N hN))))
  exact bj (b:=-1) (.inl rfl) (sd @Nat.zero_add) (by rw[Lv,xb fun j h=>kO j (by omega) h])
theorem L9 {s:au} {i:Nat} (h:i<s.aA.length):I0 s (oU s i).aD=i↔∀j,j<i->(oU s j).aD≠(oU s i).aD:=by
 constructor
 ·intro he j hj hc
  have gm:j<s.aA.length:=by omega
  have:s.aA.findIdx (fun g:gI=>decide (g.aD=(oU s i).aD))<=j:=by
   rcases Nat.lt_or_ge j (s.aA.findIdx fun g:gI=>decide (g.aD=(oU s i).aD))with dy|ox
   ·have:=List.not_of_lt_findIdx dy
    rw[<-yi gm]at this
    simp[hc]at this
   ·exact ox
  unfold I0 ik at he
  split at he<;>omega
 ·intro hd
  exact tj h (by rw[<-yi h];simp) fun j gm hj=>by rw[<-yi gm];simpa using hd j hj
theorem Nq {s:au} {i:Nat} (h:i<s.ah.length):Lv s (oh s i).aD=i↔∀j,j<i->(oh s j).aD≠(oh s i).aD:=by
 constructor
 ·intro he j hj hc
  have gm:j<s.ah.length:=by omega
  have:s.ah.findIdx (fun g:fC=>decide (g.aD=(oh s i).aD))<=j:=by
   rcases Nat.lt_or_ge j (s.ah.findIdx fun g:fC=>decide (g.aD=(oh s i).aD))with dy|ox
   ·have:=List.not_of_lt_findIdx dy
    rw[<-zi gm]at this
    simp[hc]at this
   ·exact ox
  unfold Lv ik at he
  split at he<;>omega
 ·intro hd
  exact tj h (by rw[<-zi h];simp) fun j gm hj=>by rw[<-zi gm];simpa using hd j hj
theorem Kb (s:au) (hn:fK s) (hg:s.aA.length<=1048576) (ht:s.ah.length<=1048576):aj Tryz.prog 156 [.bK (ab s)] (.bool (pZ s)):=by
 refine aj.body ej rfl fun hl n0=>?_
 clear hl
 have Pc:∀i,i<s.aA.length->(oU s i).aD.size<=9223372036854775807:=fun i hi=>hn.1 _ (by simp[oU,List.getD_eq_getElem?_getD,hi])
 have MV:∀i,i<s.ah.length->(oh s i).aD.size<=9223372036854775807:=fun i hi=>hn.2 _ (by simp[oh,List.getD_eq_getElem?_getD,hi])
 by_cases h1:(200:Int)<(s.aA.length:Int)
 ·(try((repeat(revert hN;revert N;apply Pn.out));refine wk (tw @ab.eq_1 @h1) ?_;(repeat(refine Pn.mk ?_;intro N hN))))
  exact aI (b:=false) (.inl rfl) (sd @Nat.zero_add) (fo fun h=>by have:=h.ur;omega)
 by_cases h2:(s.ah.length:Int)<1
 ·(try((repeat(revert hN;revert N;apply Pn.out));refine wk (tw @ab.eq_1 (tw @h1 @h2)) ?_;(repeat(refine Pn.mk ?_;intro N hN))))
  exact aI (b:=false) (.inl rfl) (sd @Nat.zero_add) (fo fun h=>by have:=h.some;omega)
 by_cases h3:(160:Int)<(s.ah.length:Int)
 ·(try((repeat(revert hN;revert N;apply Pn.out));refine wk (tw @ab.eq_1 (tw @h1 (tw @h2 @h3))) ?_;(repeat(refine Pn.mk ?_;intro N hN))))
  exact aI (b:=false) (.inl rfl) (sd @Nat.zero_add) (fo fun h=>by have:=h.Bj;omega)
 (try((repeat(revert hN;revert N;apply Pn.out));refine wk (tw @ab.eq_1 (tw @h1 (tw @h2 @h3))) ?_;(repeat(refine Pn.mk ?_;intro N hN))))
 refine aH (fun n env st=>∃k:Nat,n=(s.aA.length)-k/\k<=(s.aA.length)/\env 3=.int .i64 (k:Int)/\(∀j:Nat,j<k->BL s j)) (s.aA.length) ⟨0,by omega,by omega,sl @ab.eq_1,fun _ h=>absurd h (Nat.not_lt_zero _)⟩ ?_
 rintro n_a env_a st_a ⟨k,rfl,ale,a3,kO⟩ dt
 have a0:=dt 0 (by kernel_rfl)
 simp only[go_sem, ↓reduceIte,Nat.reduceEqDiff,Nat.reduceAdd,Nat.reduceSub,Nat.reduceLeDiff,reduceCtorEq,ab]at a0
 clear dt
 by_cases hk:(k:Int)<(s.aA.length:Int)
 ·have bY:∀{e:Env},(e 3=.int .i64 (IntKind.i64.wrap ((k:Int)+1)))->(BL s k)->∃m0,m0<(s.aA.length)-k/\∃k:Nat,m0=(s.aA.length)-k/\k<=(s.aA.length)/\e 3=.int .i64 (k:Int)/\(∀j:Nat,j<k->BL s j):=fun x1 x2=>⟨_,by omega,k+1,rfl,by omega,(by rw[x1,ax (by omega)]),(all_succ kO x2)⟩
  have eZ:k<s.aA.length:=by omega
  have eo:=yj eZ
  have qY:=Em (oU s k).aD (Pc k eZ)
  have Jf:=lk (oU s k).dX 1 4
  have zF:=Ft s (oU s k).aD
  have qq:=L9 eZ
  have kV:(¬BL s k)->¬gW s:=fun h hp=>h (hp.Qm k eZ)
  have hw:IntKind.i64.wrap ((k:Int)+1)=(k:Int)+1:=aZ (by omega)
  generalize tu:oU s k=gl at *
  cases hb:jv gl.aD
  ·rw[hb]at qY
   (repeat(first|((repeat(revert hN;revert N;apply Pn.out));refine wk (tw @a3 (tw @a0 (tw @hk (tw @eo (tw @bW.eq_1 @ab.eq_1))))) ?_;(repeat(refine Pn.mk ?_;intro N hN)))|((try apply Or.inl);refine⟨_,aj.x (qY) (sd (tw @a3 (tw @a0 (tw @hk (tw @eo (tw @bW.eq_1 @ab.eq_1)))))),?_⟩;refine hN _ _ ?_;clear hN N)))
   exact aI (b:=false) (.inl rfl) (sd @Nat.zero_add) (fo (kV fun h=>by rw[BL,tu,hb]at h;cases h.1))
  rw[hb]at qY
  cases cK:iM gl.dX 1 4
  ·rw[cK]at Jf
   (repeat(first|((repeat(revert hN;revert N;apply Pn.out));refine wk (tw @a3 (tw @a0 (tw @hk (tw @eo (tw @bW.eq_1 @ab.eq_1))))) ?_;(repeat(refine Pn.mk ?_;intro N hN)))|((try apply Or.inl);refine⟨_,aj.x (qY) (sd (tw @a3 (tw @a0 (tw @hk (tw @eo (tw @bW.eq_1 @ab.eq_1)))))),?_⟩;refine hN _ _ ?_;clear hN N)|((try apply Or.inl);refine⟨_,aj.x (Jf) (sd (tw @a3 (tw @a0 (tw @hk (tw @eo (tw @bW.eq_1 @ab.eq_1)))))),?_⟩;refine hN _ _ ?_;clear hN N)))
   exact aI (b:=false) (.inl rfl) (sd @Nat.zero_add) (fo (kV fun h=>by rw[BL,tu,cK]at h;cases h.2.1))
  rw[cK]at Jf
  rw[ab]at zF
  by_cases hq:I0 s gl.aD=(k:Int)
  ·have hd:decide (I0 s gl.aD+1=(k:Int)+1)=true:=decide_eq_true (by omega)
   have s7:decide (I0 s gl.aD=(k:Int))=true:=decide_eq_true hq
   (repeat(first|((repeat(revert hN;revert N;apply Pn.out));refine wk (tw @a3 (tw @a0 (tw @hk (tw @eo (tw @hw (tw @hd (tw @s7 (tw @bW.eq_1 @ab.eq_1)))))))) ?_;(repeat(refine Pn.mk ?_;intro N hN)))|((try apply Or.inl);refine⟨_,aj.x (qY) (sd (tw @a3 (tw @a0 (tw @hk (tw @eo (tw @hw (tw @hd (tw @s7 (tw @bW.eq_1 @ab.eq_1))))))))),?_⟩;refine hN _ _ ?_;clear hN N)|((try apply Or.inl);refine⟨_,aj.x (Jf) (sd (tw @a3 (tw @a0 (tw @hk (tw @eo (tw @hw (tw @hd (tw @s7 (tw @bW.eq_1 @ab.eq_1))))))))),?_⟩;refine hN _ _ ?_;clear hN N)|((try apply Or.inl);refine⟨_,aj.x (zF) (sd (tw @a3 (tw @a0 (tw @hk (tw @eo (tw @hw (tw @hd (tw @s7 (tw @bW.eq_1 @ab.eq_1))))))))),?_⟩;refine hN _ _ ?_;clear hN N)))
   exact bY (sd (tw @a3 (tw @a0 @hw))) (⟨by rw[tu];exact hb,by rw[tu];exact cK,fun j hj=>by rw[tu];exact qq.1 hq j hj⟩)
  ·have hd:decide (I0 s gl.aD+1=(k:Int)+1)=false:=decide_eq_false (by omega)
   have s7:decide (I0 s gl.aD=(k:Int))=false:=decide_eq_false hq
   (repeat(first|((repeat(revert hN;revert N;apply Pn.out));refine wk (tw @a3 (tw @a0 (tw @hk (tw @eo (tw @hw (tw @hd (tw @s7 (tw @bW.eq_1 @ab.eq_1)))))))) ?_;(repeat(refine Pn.mk ?_;intro N hN)))|((try apply Or.inl);refine⟨_,aj.x (qY) (sd (tw @a3 (tw @a0 (tw @hk (tw @eo (tw @hw (tw @hd (tw @s7 (tw @bW.eq_1 @ab.eq_1))))))))),?_⟩;refine hN _ _ ?_;clear hN N)|((try apply Or.inl);refine⟨_,aj.x (Jf) (sd (tw @a3 (tw @a0 (tw @hk (tw @eo (tw @hw (tw @hd (tw @s7 (tw @bW.eq_1 @ab.eq_1))))))))),?_⟩;refine hN _ _ ?_;clear hN N)|((try apply Or.inl);refine⟨_,aj.x (zF) (sd (tw @a3 (tw @a0 (tw @hk (tw @eo (tw @hw (tw @hd (tw @s7 (tw @bW.eq_1 @ab.eq_1))))))))),?_⟩;refine hN _ _ ?_;clear hN N)))
   exact aI (b:=false) (.inl rfl) (sd @Nat.zero_add) (fo (kV fun h=>by
    rw[BL,tu]at h
    exact hq (qq.2 h.2.2)))
 ·have kQ:k=s.aA.length:=by omega
  (try((repeat(revert hN;revert N;apply Pn.out));refine wk (tw @a3 (tw @a0 (tw @hk @ab.eq_1))) ?_;(repeat(refine Pn.mk ?_;intro N hN))))
  refine aH (fun n env st=>∃j:Nat,n=(s.ah.length)-j/\j<=(s.ah.length)/\env 5=.int .i64 (j:Int)/\(∀i:Nat,i<j->zM s i)) (s.ah.length) ⟨0,by omega,by omega,sl (tw @a3 (tw @a0 @ab.eq_1)),fun _ h=>absurd h (Nat.not_lt_zero _)⟩ ?_
  rintro n_b env_b st_b ⟨j,rfl,ble,b5,bA0⟩ ec
  have b0:=ec 0 (by kernel_rfl)
  simp only[go_sem, ↓reduceIte,Nat.reduceEqDiff,Nat.reduceAdd,Nat.reduceSub,Nat.reduceLeDiff,reduceCtorEq,a3,a0,ab]at b0
  clear ec
  by_cases hj:(j:Int)<(s.ah.length:Int)
  ·have er:∀{e:Env},(e 5=.int .i64 (IntKind.i64.wrap ((j:Int)+1)))->(zM s j)->∃m0,m0<(s.ah.length)-j/\∃j:Nat,m0=(s.ah.length)-j/\j<=(s.ah.length)/\e 5=.int .i64 (j:Int)/\(∀i:Nat,i<j->zM s i):=fun x1 x2=>⟨_,by omega,j+1,rfl,by omega,(by rw[x1,ax (by omega)]),(all_succ bA0 x2)⟩
   have nq:j<s.ah.length:=by omega
   have mV:=zj nq
   have qY:=Em (oh s j).aD (MV j nq)
   have zF:=Fu s (oh s j).aD
   have qq:=Nq nq
   have kV:(¬zM s j)->¬gW s:=fun h hp=>h (hp.tok j nq)
   generalize htd:oh s j=tl at *
   cases hb:jv tl.aD
   ·rw[hb]at qY
    (repeat(first|((repeat(revert hN;revert N;apply Pn.out));refine wk (tw @b5 (tw @b0 (tw @hj (tw @mV (tw @bd.eq_1 @ab.eq_1))))) ?_;(repeat(refine Pn.mk ?_;intro N hN)))|((try apply Or.inl);refine⟨_,aj.x (qY) (sd (tw @b5 (tw @b0 (tw @hj (tw @mV (tw @bd.eq_1 @ab.eq_1)))))),?_⟩;refine hN _ _ ?_;clear hN N)))
    exact aI (b:=false) (.inl rfl) (sd @Nat.zero_add) (fo (kV fun h=>by rw[zM,htd,hb]at h;cases h.1))
   rw[hb]at qY
   by_cases h4:(tl.bH.length:Int)=4
   ·have yl:decide ((tl.bH.length:Int)=4)=true:=decide_eq_true h4
    rw[ab]at zF
    by_cases hq:Lv s tl.aD=(j:Int)
    ·have hd:decide (Lv s tl.aD=(j:Int))=true:=decide_eq_true hq
     (repeat(first|((repeat(revert hN;revert N;apply Pn.out));refine wk (tw @b5 (tw @b0 (tw @hj (tw @mV (tw @yl (tw @hd (tw @bd.eq_1 @ab.eq_1))))))) ?_;(repeat(refine Pn.mk ?_;intro N hN)))|((try apply Or.inl);refine⟨_,aj.x (qY) (sd (tw @b5 (tw @b0 (tw @hj (tw @mV (tw @yl (tw @hd (tw @bd.eq_1 @ab.eq_1)))))))),?_⟩;refine hN _ _ ?_;clear hN N)|((try apply Or.inl);refine⟨_,aj.x (zF) (sd (tw @b5 (tw @b0 (tw @hj (tw @mV (tw @yl (tw @hd (tw @bd.eq_1 @ab.eq_1)))))))),?_⟩;refine hN _ _ ?_;clear hN N)))
     refine aH (fun n env st=>∃i:Nat,n=(4)-i/\i<=(4)/\env 7=.int .i64 (i:Int)/\st.get ⟨156012007,st_b.next+1⟩=some ⟨true,2,[bd tl]⟩/\(∀x:Nat,x<i->iM (tl.bH.getD x 0) 0 s.aA.length=true)) (4) ⟨0,by omega,by omega,sl (tw @b5 (tw @b0 (tw @bd.eq_1 @ab.eq_1))),sl (tw @b5 (tw @b0 (tw @bd.eq_1 @ab.eq_1))),fun _ h=>absurd h (Nat.not_lt_zero _)⟩ ?_
     rintro n_c env_c st_c ⟨i,rfl,cle,c7,cg0,cA0⟩ cfr
     have c0:=cfr 0 (by kernel_rfl);have c5:=cfr 5 (by kernel_rfl);have c6:=cfr 6 (by kernel_rfl)
     simp only[go_sem, ↓reduceIte,Nat.reduceEqDiff,Nat.reduceAdd,Nat.reduceSub,Nat.reduceLeDiff,reduceCtorEq,b5,b0,bd,ab]at c0 c5 c6
     clear cfr
     by_cases hi:(i:Int)<4
     ·have gM:∀{e:Env} {gg:Rows},(e 7=.int .i64 (IntKind.i64.wrap ((i:Int)+1)))->(gg ⟨156012007,st_b.next+1⟩=some ⟨true,2,[bd tl]⟩)->(iM (tl.bH.getD i 0) 0 s.aA.length=true)->∃m0,m0<(4)-i/\∃i:Nat,m0=(4)-i/\i<=(4)/\e 7=.int .i64 (i:Int)/\gg ⟨156012007,st_b.next+1⟩=some ⟨true,2,[bd tl]⟩/\(∀x:Nat,x<i->iM (tl.bH.getD x 0) 0 s.aA.length=true):=fun x1 x2 x3=>⟨_,by omega,i+1,rfl,by omega,(by rw[x1,ax (by omega)]),x2,(all_succ cA0 x3)⟩
      have fA:i<tl.bH.length:=by omega
      have jY:(tl.bH.map bq)[i]? =some (bq (tl.bH.getD i 0)):=getD_map bq fA
      have rJ:tl.bH.getD i 0∈tl.bH:=by rw[List.getD_eq_getElem?_getD,List.getElem?_eq_getElem fA];exact List.getElem_mem fA
      have Hn:=lk (tl.bH.getD i 0) 0 s.aA.length
      generalize MA:tl.bH.getD i 0=gv at *
      cases hv:iM gv 0 s.aA.length
      ·rw[hv]at Hn
       (repeat(first|((repeat(revert hN;revert N;apply Pn.out));refine wk (tw @c7 (tw @cg0 (tw @c0 (tw @c5 (tw @c6 (tw @hi (tw @jY (tw @bq.eq_1 (tw @bd.eq_1 @ab.eq_1))))))))) ?_;(repeat(refine Pn.mk ?_;intro N hN)))|((try apply Or.inl);refine⟨_,aj.x (Hn) (sd (tw @c7 (tw @cg0 (tw @c0 (tw @c5 (tw @c6 (tw @hi (tw @jY (tw @bq.eq_1 (tw @bd.eq_1 @ab.eq_1)))))))))),?_⟩;refine hN _ _ ?_;clear hN N)))
       exact aI (b:=false) (.inl rfl) (sd @Nat.zero_add) (fo (kV fun h=>by
        rw[zM,htd]at h
        have:=h.2.2.2 gv rJ
        rw[hv]at this;cases this))
      ·rw[hv]at Hn
       (repeat(first|((repeat(revert hN;revert N;apply Pn.out));refine wk (tw @c7 (tw @cg0 (tw @c0 (tw @c5 (tw @c6 (tw @hi (tw @jY (tw @bq.eq_1 (tw @bd.eq_1 @ab.eq_1))))))))) ?_;(repeat(refine Pn.mk ?_;intro N hN)))|((try apply Or.inl);refine⟨_,aj.x (Hn) (sd (tw @c7 (tw @cg0 (tw @c0 (tw @c5 (tw @c6 (tw @hi (tw @jY (tw @bq.eq_1 (tw @bd.eq_1 @ab.eq_1)))))))))),?_⟩;refine hN _ _ ?_;clear hN N)))
       refine gM ?_ ?_ (hv)
       all_goals simp only[go_sem, ↓reduceIte,Nat.reduceEqDiff,Nat.reduceAdd,Nat.reduceSub,Nat.reduceLeDiff,reduceCtorEq,c7,cg0,c0,c5,c6]
     ·have hi4:i=4:=by omega
      (try((repeat(revert hN;revert N;apply Pn.out));refine wk (tw @c7 (tw @cg0 (tw @c0 (tw @c5 (tw @c6 (tw @hi (tw @bd.eq_1 @ab.eq_1))))))) ?_;(repeat(refine Pn.mk ?_;intro N hN))))
      exact er (sd (tw @b5 (tw @b0 (tw @c7 (tw @cg0 (tw @c0 (tw @c5 @c6))))))) (⟨by rw[htd];exact hb,by rw[htd];omega,fun x hx=>(by rw[htd];exact qq.1 hq x hx),fun g hg=>by
       rw[htd]at hg
       obtain⟨x,hx,rfl⟩:=List.getElem_of_mem hg
       have:=cA0 x (by omega)
       rwa [List.getD_eq_getElem?_getD,List.getElem?_eq_getElem hx]at this⟩)
    ·have hd:decide (Lv s tl.aD=(j:Int))=false:=decide_eq_false hq
     (repeat(first|((repeat(revert hN;revert N;apply Pn.out));refine wk (tw @b5 (tw @b0 (tw @hj (tw @mV (tw @yl (tw @hd (tw @bd.eq_1 @ab.eq_1))))))) ?_;(repeat(refine Pn.mk ?_;intro N hN)))|((try apply Or.inl);refine⟨_,aj.x (qY) (sd (tw @b5 (tw @b0 (tw @hj (tw @mV (tw @yl (tw @hd (tw @bd.eq_1 @ab.eq_1)))))))),?_⟩;refine hN _ _ ?_;clear hN N)|((try apply Or.inl);refine⟨_,aj.x (zF) (sd (tw @b5 (tw @b0 (tw @hj (tw @mV (tw @yl (tw @hd (tw @bd.eq_1 @ab.eq_1)))))))),?_⟩;refine hN _ _ ?_;clear hN N)))
     exact aI (b:=false) (.inl rfl) (sd @Nat.zero_add) (fo (kV fun h=>by
      rw[zM,htd]at h
      exact hq (qq.2 h.2.2.1)))
   ·have yl:decide ((tl.bH.length:Int)=4)=false:=decide_eq_false h4
    (repeat(first|((repeat(revert hN;revert N;apply Pn.out));refine wk (tw @b5 (tw @b0 (tw @hj (tw @mV (tw @yl (tw @bd.eq_1 @ab.eq_1)))))) ?_;(repeat(refine Pn.mk ?_;intro N hN)))|((try apply Or.inl);refine⟨_,aj.x (qY) (sd (tw @b5 (tw @b0 (tw @hj (tw @mV (tw @yl (tw @bd.eq_1 @ab.eq_1))))))),?_⟩;refine hN _ _ ?_;clear hN N)))
    exact aI (b:=false) (.inl rfl) (sd @Nat.zero_add) (fo (kV fun h=>by rw[zM,htd]at h;have:=h.2.1;omega))
  ·(try((repeat(revert hN;revert N;apply Pn.out));refine wk (tw @b5 (tw @b0 (tw @hj @ab.eq_1))) ?_;(repeat(refine Pn.mk ?_;intro N hN))))
   exact aI (b:=true) (.inl rfl) (sd @Nat.zero_add) (Bd ⟨by omega,by omega,by omega,fun i hi=>kO i (by omega),fun i hi=>bA0 i (by omega)⟩)
end Go.Proofs.YtgoelphibofcmaaGreat.V

namespace Go.Proofs.YtgoelphibofcmaaGreat.V
def kg (a b:ai):Bool:=decide (a.ek<b.ek)||(decide (a.ek=b.ek)&&decide (a.eB<b.eB))
theorem tD {a b:ai}:kg a b=true↔a.ek<b.ek∨(a.ek=b.ek/\a.eB<b.eB):=by simp[kg]
theorem oB {a b:ai}:kg a b=false↔¬(a.ek<b.ek∨(a.ek=b.ek/\a.eB<b.eB)):=by rw[<-tD,Bool.not_eq_true]
theorem yZ {a b:ai} (h1:a.eB=b.eB) (h2:a.ek=b.ek):a=b:=by cases a;cases b;simp_all
theorem im {a b c:ai} (h:kg a b=true) (k:kg b c=true):kg a c=true:=by rw[tD]at *;omega
theorem mo {a:ai}:kg a a=false:=by rw[oB];omega
theorem HP {a b:ai} (h:kg a b=true):kg b a=false:=by rw[tD]at h;rw[oB];omega
theorem yN {a b:ai} (h:kg a b=false) (fY:a≠b):kg b a=true:=by
 rw[oB]at h;rw[tD]
 by_cases hy:a.ek=b.ek
 ·by_cases hx:a.eB=b.eB
  ·exact absurd (yZ hx hy) fY
  ·omega
 ·omega
def qn (a b:Int):Int:=if a<b then -1 else if b<a then 1 else 0
def Kp (a b:Int):Int:=if a=0 then b else a
def oR (a b:ai):Int:=Kp (qn a.ek b.ek) (qn a.eB b.eB)
theorem me (a b:ai):decide (oR a b<0)=kg a b:=by
 unfold oR Kp qn kg
 by_cases h1:a.ek<b.ek
 ·simp[h1]
 ·by_cases h2:b.ek<a.ek
  ·have:¬a.ek=b.ek:=by omega
   simp[h1,h2,this]
  ·have:a.ek=b.ek:=by omega
   by_cases h3:a.eB<b.eB
   ·simp[h1,h2,this,h3]
   ·by_cases h4:b.eB<a.eB<;>simp[h1,h2,this,h3,h4]
theorem EK (a b:ai):(oR a b=0)↔a=b:=by
 cases a;cases b
 unfold oR Kp qn
 simp only[ai.mk.injEq]
 split<;>(try split)<;>(try split)<;>(try split)<;>omega
def HT:ae:=⟨⟨0,0⟩,0⟩
def aG (l:List ae) (i:Nat):ae:=l.getD i HT
theorem iE {l:List ae} {i:Nat} (h:i<l.length):aG l i=l[i]:=by simp[aG,List.getD_eq_getElem?_getD,h]
theorem gy {l:List ae} {i:Nat} (h:i<l.length):aG l i∈l:=by rw[iE h];exact List.getElem_mem h
def tP (l:List ae):Prop:=∀i j:Nat,i<j->j<l.length->kg (aG l i).aF (aG l j).aF=true
def pN (l:List ae) (p:ai):Nat:=l.findIdx fun c=>decide (c.aF=p)
def dZ (l:List ae) (p:ai):Int:=if pN l p<l.length then(pN l p:Int)else -1
def lR (l:List ae) (p:ai):Nat:=l.findIdx fun c=> !kg c.aF p
theorem yJ {l:List ae} {p:ai} {i:Nat} (hi:i<=l.length) (h1:∀x,x<i->kg (aG l x).aF p=true) (h2:i<l.length->kg (aG l i).aF p=false):lR l p=i:=by
 unfold lR
 by_cases h:i<l.length
 ·rw[List.findIdx_eq h]
  refine⟨by have:=h2 h;rw[iE h]at this;simp[this],fun j hj=>?_⟩
  have:=h1 j hj
  rw[iE (by omega)]at this
  simp[this]
 ·have:i=l.length:=by omega
  subst this
  refine List.findIdx_eq_length_of_false fun x hx=>?_
  obtain⟨j,hj,rfl⟩:=List.getElem_of_mem hx
  have:=h1 j hj
  rw[iE hj]at this
  simp[this]
theorem yM {l:List ae} {p:ai} (hR:tP l):dZ l p=if lR l p<l.length/\(aG l (lR l p)).aF=p then(lR l p:Int)else -1:=by
 by_cases h:∃i,i<l.length/\(aG l i).aF=p
 ·obtain⟨i,hi,hp⟩:=h
  have h1:lR l p=i:=yJ (by omega) (fun x hx=>by rw[<-hp];exact hR x i hx hi) fun _=>by rw[hp];exact mo
  have h2:pN l p=i:=by
   rw[pN,List.findIdx_eq hi]
   refine⟨by rw[iE hi]at hp;simpa using hp,fun j hj=>?_⟩
   have:=hR j i hj hi
   rw[hp,iE (by omega)]at this
   simp only[decide_eq_false_iff_not]
   intro hc
   rw[hc,mo]at this
   cases this
  rw[dZ,h1,h2,if_pos hi,if_pos ⟨hi,hp⟩]
 ·have h2:¬pN l p<l.length:=by
   rw[pN,List.findIdx_lt_length]
   rintro⟨c,hc,he⟩
   obtain⟨j,hj,rfl⟩:=List.getElem_of_mem hc
   exact h ⟨j,hj,by rw[iE hj];simpa using he⟩
  rw[dZ,if_neg h2,if_neg]
  rintro⟨h3,h4⟩
  exact h ⟨_,h3,h4⟩
theorem lj {l:List ae} {p:ai} (h:0<=dZ l p):(dZ l p).toNat<l.length/\(aG l (dZ l p).toNat).aF=p:=by
 unfold dZ at h ⊢
 split at h
 ·rename_i hc
  rw[if_pos hc]
  refine⟨by omega,?_⟩
  have:=of_decide_eq_true (List.findIdx_getElem (p:=fun c:ae=>decide (c.aF=p)) (xs:=l) (w:=hc))
  rw[Int.toNat_natCast,iE hc]
  exact this
 ·omega
def fG (l:List ae) (p:ai):Int:=if 0<=dZ l p then(aG l (dZ l p).toNat).aN else -1
end Go.Proofs.YtgoelphibofcmaaGreat.V

namespace Go.Proofs.YtgoelphibofcmaaGreat.V
open Go.RowKit
attribute [local irreducible] dI wpOps ib Call
attribute [local go_sem] aJ gu eW gR gQ cE upd cw K.av cY AV.cells AV.cell rowOf rowsOf part ld rowAt bB cr dY eG jq bP dq eT gP fx dE eK dn dm eu ew bU bp db bR de dc eI eL eJ da cm dp eH bQ aO di cI jo bE cU bV aY du aV ea AV.undef bG bJ eA eE ei ep cJ eR eV cG eO eM dh dj List.getD_cons_zero List.getD_cons_succ List.getD_nil List.all_cons List.all_nil Bool.and_true Bool.true_and Bool.and_self Bool.not_true Bool.not_false Option.map_some Option.map_none Option.bind_some Option.bind_none List.length_cons List.length_nil List.take_succ_cons List.take_zero List.take_nil List.drop_succ_cons List.drop_zero List.drop_nil List.head?_cons List.map_cons List.map_nil List.getElem?_cons_zero List.getElem?_cons_succ List.cons_append List.nil_append List.append_nil List.length_map List.set_cons_zero List.set_cons_succ Nat.reduceMul eq_self Int.toNat_natCast Int.natCast_nonneg and_self true_and and_true decide_true decide_false Bool.false_eq_true Nat.zero_add Nat.add_zero List.contains_cons List.contains_nil Bool.or_false Bool.false_or beq_self_eq_true Nat.reduceBEq ne_eq not_true_eq_false not_false_eq_true Id.mk.injEq false_and and_false Nat.reduceLT Int.reduceLE Int.reduceLT Int.reduceToNat Int.reduceNeg Int.reduceAdd Nat.le_refl List.length_append beq_true beq_false Bool.not_eq_eq_eq_not or_false false_or eh ao aq aK br bI cC bc bz aQ bt cX cj
theorem ny (a b:ai):aj Tryz.prog 160 [.agg (aa a),.agg (aa b)] (.bool (kg a b)):=by
 refine aj.body ej rfl fun hl n0=>?_
 clear hl
 by_cases h0:a.ek<b.ek
 ·(try((repeat(revert hN;revert N;apply Pn.out));refine wk (tw @aa.eq_1 @h0) ?_;(repeat(refine Pn.mk ?_;intro N hN))))
  exact aI (b:=true) (.inl rfl) (sd @Nat.zero_add) (by simp[kg,h0])
 ·by_cases h1:a.ek=b.ek
  ·have h2:¬b.ek<b.ek:=by omega
   (try((repeat(revert hN;revert N;apply Pn.out));refine wk (tw @aa.eq_1 (tw @h1 @h2)) ?_;(repeat(refine Pn.mk ?_;intro N hN))))
   exact aI (b:=decide (a.eB<b.eB)) (.inl rfl) (sd @Nat.zero_add) (by simp[kg,h1])
  ·(try((repeat(revert hN;revert N;apply Pn.out));refine wk (tw @aa.eq_1 (tw @h0 @h1)) ?_;(repeat(refine Pn.mk ?_;intro N hN))))
   exact aI (b:=false) (.inl rfl) (sd @Nat.zero_add) (by simp[kg,h0,h1])
end Go.Proofs.YtgoelphibofcmaaGreat.V

namespace Go.Proofs.YtgoelphibofcmaaGreat.V
open Go.RowKit
attribute [local irreducible] dI wpOps ib Call
attribute [local go_sem] aJ gu eW gR gQ cE upd cw K.av cY AV.cells AV.cell rowOf rowsOf part ld rowAt bB cr dY eG jq bP dq eT gP fx dE eK dn dm eu ew bU bp db bR de dc eI eL eJ da cm dp eH bQ aO di cI jo bE cU bV aY du aV ea AV.undef bG bJ eA eE ei ep cJ eR eV cG eO eM dh dj List.getD_cons_zero List.getD_cons_succ List.getD_nil List.all_cons List.all_nil Bool.and_true Bool.true_and Bool.and_self Bool.not_true Bool.not_false Option.map_some Option.map_none Option.bind_some Option.bind_none List.length_cons List.length_nil List.take_succ_cons List.take_zero List.take_nil List.drop_succ_cons List.drop_zero List.drop_nil List.head?_cons List.map_cons List.map_nil List.getElem?_cons_zero List.getElem?_cons_succ List.cons_append List.nil_append List.append_nil List.length_map List.set_cons_zero List.set_cons_succ Nat.reduceMul eq_self Int.toNat_natCast Int.natCast_nonneg and_self true_and and_true decide_true decide_false Bool.false_eq_true Nat.zero_add Nat.add_zero List.contains_cons List.contains_nil Bool.or_false Bool.false_or beq_self_eq_true Nat.reduceBEq ne_eq not_true_eq_false not_false_eq_true Id.mk.injEq false_and and_false Nat.reduceLT Int.reduceLE Int.reduceLT Int.reduceToNat Int.reduceNeg Int.reduceAdd Nat.le_refl List.length_append beq_true beq_false Bool.not_eq_eq_eq_not or_false false_or eh ao aq aK br bI cC bc bz aQ bt cX cj
theorem fh {l:List ae} {i:Nat} (h:i<l.length):(l.map ad)[i]? =some (ad (aG l i)):=getD_map ad h
def ED (l:List ae) (i:Nat):Prop:=rT (aG l i).aF=true/\iM (aG l i).aN 0 159=true/\(0<i->kg (aG l (i-1)).aF (aG l i).aF=true)
structure gK (l:List ae):Prop where
 so:l.length<=500
 ok:∀i,i<l.length->ED l i
noncomputable def nL (l:List ae):Bool:=@decide (gK l) (Classical.propDecidable _)
theorem rz {l:List ae}:nL l=true↔gK l:=by simp[nL]
theorem jN {l:List ae} (h:¬gK l):false=nL l:=by simp[nL,h]
theorem xd {l:List ae} (h:gK l):true=nL l:=by simp[nL,h]
theorem gK.FQ {l:List ae} (h:gK l):tP l:=by
 intro i j DY hj
 induction j with
 |zero=>omega
 |succ j ih=>
  have h1:=(h.ok (j+1) hj).2.2 (by omega)
  rw[Nat.add_sub_cancel]at h1
  by_cases he:i=j
  ·subst he;exact h1
  ·exact im (ih (by omega) (by omega)) h1
theorem gK.pt {l:List ae} (h:gK l) {i:Nat} (hi:i<l.length):rT (aG l i).aF=true:=(h.ok i hi).1
theorem nY {p:ai} (h:rT p=true):iB p.eB/\iB p.ek:=by
 unfold rT at h
 simp only[Bool.and_eq_true]at h
 have:=dP h.1;have:=dP h.2
 unfold iB;omega
theorem Fv (l:List ae):aj Tryz.prog 159 [.bK [.sl (l.map ad)]] (.bool (nL l)):=by
 refine aj.body ej rfl fun hl n0=>?_
 clear hl
 by_cases h1:(500:Int)<(l.length:Int)
 ·(try((repeat(revert hN;revert N;apply Pn.out));refine wk @h1 ?_;(repeat(refine Pn.mk ?_;intro N hN))))
  exact aI (b:=false) (.inl rfl) (sd @Nat.zero_add) (jN fun h=>by have:=h.so;omega)
 (try((repeat(revert hN;revert N;apply Pn.out));refine wk @h1 ?_;(repeat(refine Pn.mk ?_;intro N hN))))
 refine aH (fun n env st=>∃k:Nat,n=(l.length)-k/\k<=(l.length)/\env 3=.int .i64 (k:Int)/\(∀j:Nat,j<k->ED l j)) (l.length) ⟨0,by omega,by omega,sl @Nat.zero_add,fun _ h=>absurd h (Nat.not_lt_zero _)⟩ ?_
 rintro n_a env_a st_a ⟨k,rfl,ale,a3,kO⟩ dt
 have a0:=dt 0 (by kernel_rfl)
 simp only[go_sem, ↓reduceIte,Nat.reduceEqDiff,Nat.reduceAdd,Nat.reduceSub,Nat.reduceLeDiff,reduceCtorEq]at a0
 clear dt
 by_cases hk:(k:Int)<(l.length:Int)
 ·have bY:∀{e:Env},(e 3=.int .i64 (IntKind.i64.wrap ((k:Int)+1)))->(ED l k)->∃m0,m0<(l.length)-k/\∃k:Nat,m0=(l.length)-k/\k<=(l.length)/\e 3=.int .i64 (k:Int)/\(∀j:Nat,j<k->ED l j):=fun x1 x2=>⟨_,by omega,k+1,rfl,by omega,(by rw[x1,ax (by omega)]),(all_succ kO x2)⟩
  have eZ:k<l.length:=by omega
  have eo:=fh eZ
  have kV:(¬ED l k)->¬gK l:=fun h hp=>h (hp.ok k eZ)
  have hp:=uJ (aG l k).aF
  have ht:=lk (aG l k).aN 0 159
  cases b1:rT (aG l k).aF
  ·rw[b1]at hp
   (repeat(first|((repeat(revert hN;revert N;apply Pn.out));refine wk (tw @a3 (tw @a0 (tw @hk (tw @eo (tw @ad.eq_1 @aa.eq_1))))) ?_;(repeat(refine Pn.mk ?_;intro N hN)))|((try apply Or.inl);refine⟨_,aj.x (hp) (sd (tw @a3 (tw @a0 (tw @hk (tw @eo (tw @ad.eq_1 @aa.eq_1)))))),?_⟩;refine hN _ _ ?_;clear hN N)))
   exact aI (b:=false) (.inl rfl) (sd @Nat.zero_add) (jN (kV fun h=>by rw[ED,b1]at h;cases h.1))
  rw[b1]at hp
  cases b2:iM (aG l k).aN 0 159
  ·rw[b2]at ht
   (repeat(first|((repeat(revert hN;revert N;apply Pn.out));refine wk (tw @a3 (tw @a0 (tw @hk (tw @eo (tw @ad.eq_1 @aa.eq_1))))) ?_;(repeat(refine Pn.mk ?_;intro N hN)))|((try apply Or.inl);refine⟨_,aj.x (hp) (sd (tw @a3 (tw @a0 (tw @hk (tw @eo (tw @ad.eq_1 @aa.eq_1)))))),?_⟩;refine hN _ _ ?_;clear hN N)|((try apply Or.inl);refine⟨_,aj.x (ht) (sd (tw @a3 (tw @a0 (tw @hk (tw @eo (tw @ad.eq_1 @aa.eq_1)))))),?_⟩;refine hN _ _ ?_;clear hN N)))
   exact aI (b:=false) (.inl rfl) (sd @Nat.zero_add) (jN (kV fun h=>by rw[ED,b2]at h;cases h.2.1))
  rw[b2]at ht
  by_cases h0:(0:Int)<(k:Int)
  ·have uy:=fh (l:=l) (i:=k-1) (by omega)
   have hw:IntKind.i64.wrap ((k:Int)-1)=((k-1:Nat):Int):=by rw[aZ (by have:=eZ;omega)];omega
   have hq:=ny (aG l (k-1)).aF (aG l k).aF
   cases b3:kg (aG l (k-1)).aF (aG l k).aF
   ·rw[b3]at hq
    (repeat(first|((repeat(revert hN;revert N;apply Pn.out));refine wk (tw @a3 (tw @a0 (tw @hk (tw @eo (tw @uy (tw @h0 (tw @hw (tw @ad.eq_1 @aa.eq_1)))))))) ?_;(repeat(refine Pn.mk ?_;intro N hN)))|((try apply Or.inl);refine⟨_,aj.x (hp) (sd (tw @a3 (tw @a0 (tw @hk (tw @eo (tw @uy (tw @h0 (tw @hw (tw @ad.eq_1 @aa.eq_1))))))))),?_⟩;refine hN _ _ ?_;clear hN N)|((try apply Or.inl);refine⟨_,aj.x (ht) (sd (tw @a3 (tw @a0 (tw @hk (tw @eo (tw @uy (tw @h0 (tw @hw (tw @ad.eq_1 @aa.eq_1))))))))),?_⟩;refine hN _ _ ?_;clear hN N)|((try apply Or.inl);refine⟨_,aj.x (hq) (sd (tw @a3 (tw @a0 (tw @hk (tw @eo (tw @uy (tw @h0 (tw @hw (tw @ad.eq_1 @aa.eq_1))))))))),?_⟩;refine hN _ _ ?_;clear hN N)))
    exact aI (b:=false) (.inl rfl) (sd @Nat.zero_add) (jN (kV fun h=>by have:=h.2.2 (by omega);rw[b3]at this;cases this))
   ·rw[b3]at hq
    (repeat(first|((repeat(revert hN;revert N;apply Pn.out));refine wk (tw @a3 (tw @a0 (tw @hk (tw @eo (tw @uy (tw @h0 (tw @hw (tw @ad.eq_1 @aa.eq_1)))))))) ?_;(repeat(refine Pn.mk ?_;intro N hN)))|((try apply Or.inl);refine⟨_,aj.x (hp) (sd (tw @a3 (tw @a0 (tw @hk (tw @eo (tw @uy (tw @h0 (tw @hw (tw @ad.eq_1 @aa.eq_1))))))))),?_⟩;refine hN _ _ ?_;clear hN N)|((try apply Or.inl);refine⟨_,aj.x (ht) (sd (tw @a3 (tw @a0 (tw @hk (tw @eo (tw @uy (tw @h0 (tw @hw (tw @ad.eq_1 @aa.eq_1))))))))),?_⟩;refine hN _ _ ?_;clear hN N)|((try apply Or.inl);refine⟨_,aj.x (hq) (sd (tw @a3 (tw @a0 (tw @hk (tw @eo (tw @uy (tw @h0 (tw @hw (tw @ad.eq_1 @aa.eq_1))))))))),?_⟩;refine hN _ _ ?_;clear hN N)))
    exact bY (sd (tw @a3 @a0)) (⟨b1,b2,fun _=>b3⟩)
  ·have vY:k=0:=by omega
   (repeat(first|((repeat(revert hN;revert N;apply Pn.out));refine wk (tw @a3 (tw @a0 (tw @hk (tw @eo (tw @h0 (tw @ad.eq_1 @aa.eq_1)))))) ?_;(repeat(refine Pn.mk ?_;intro N hN)))|((try apply Or.inl);refine⟨_,aj.x (hp) (sd (tw @a3 (tw @a0 (tw @hk (tw @eo (tw @h0 (tw @ad.eq_1 @aa.eq_1))))))),?_⟩;refine hN _ _ ?_;clear hN N)|((try apply Or.inl);refine⟨_,aj.x (ht) (sd (tw @a3 (tw @a0 (tw @hk (tw @eo (tw @h0 (tw @ad.eq_1 @aa.eq_1))))))),?_⟩;refine hN _ _ ?_;clear hN N)))
   exact bY (sd (tw @a3 @a0)) (⟨b1,b2,fun h=>by omega⟩)
 ·(try((repeat(revert hN;revert N;apply Pn.out));refine wk (tw @a3 (tw @a0 @hk)) ?_;(repeat(refine Pn.mk ?_;intro N hN))))
  exact aI (b:=true) (.inl rfl) (sd @Nat.zero_add) (xd ⟨by omega,fun i hi=>kO i (by omega)⟩)
theorem w9 (a b:Int):aj Tryz.prog 178 [.int .i64 a,.int .i64 b] (.int .i64 (qn a b)):=by
 have nan:∀x:Int,aj Tryz.prog 208 [.int .i64 x] (.bool false):=fun x=>by
  refine aj.body ej rfl fun hl n0=>?_
  clear hl
  have e:decide (x=x)=true:=decide_eq_true rfl
  (try((repeat(revert hN;revert N;apply Pn.out));refine wk @e ?_;(repeat(refine Pn.mk ?_;intro N hN))))
  exact aI (b:=false) (.inl rfl) (sd @Nat.zero_add) rfl
 refine aj.body ej rfl fun hl n0=>?_
 clear hl
 have ha:=nan a
 have hb:=nan b
 by_cases h1:a<b
 ·(repeat(first|((repeat(revert hN;revert N;apply Pn.out));refine wk @h1 ?_;(repeat(refine Pn.mk ?_;intro N hN)))|((try apply Or.inl);refine⟨_,aj.x (ha) (sd @h1),?_⟩;refine hN _ _ ?_;clear hN N)|((try apply Or.inl);refine⟨_,aj.x (hb) (sd @h1),?_⟩;refine hN _ _ ?_;clear hN N)))
  exact bj (b:=-1) (.inl rfl) (sd @Nat.zero_add) (by rw[qn,if_pos h1])
 by_cases h2:b<a
 ·(repeat(first|((repeat(revert hN;revert N;apply Pn.out));refine wk (tw @h1 @h2) ?_;(repeat(refine Pn.mk ?_;intro N hN)))|((try apply Or.inl);refine⟨_,aj.x (ha) (sd (tw @h1 @h2)),?_⟩;refine hN _ _ ?_;clear hN N)|((try apply Or.inl);refine⟨_,aj.x (hb) (sd (tw @h1 @h2)),?_⟩;refine hN _ _ ?_;clear hN N)))
  exact bj (b:=1) (.inl rfl) (sd @Nat.zero_add) (by rw[qn,if_neg h1,if_pos h2])
 ·(repeat(first|((repeat(revert hN;revert N;apply Pn.out));refine wk (tw @h1 @h2) ?_;(repeat(refine Pn.mk ?_;intro N hN)))|((try apply Or.inl);refine⟨_,aj.x (ha) (sd (tw @h1 @h2)),?_⟩;refine hN _ _ ?_;clear hN N)|((try apply Or.inl);refine⟨_,aj.x (hb) (sd (tw @h1 @h2)),?_⟩;refine hN _ _ ?_;clear hN N)))
  exact bj (b:=0) (.inl rfl) (sd @Nat.zero_add) (by rw[qn,if_neg h1,if_neg h2])
def Gp:List Int->Int
 |[]=>0
 |a::r=>if a=0 then Gp r else a
theorem HZ:∀{l:List Int} {k:Nat} (hk:k<l.length),l[k]≠0->(∀j (h:j<l.length),j<k->l[j]=0)->Gp l=l[k]
 |a::r,0,_,h,_=>by
  have h':a≠0:=h
  rw[Gp,if_neg h'];rfl
 |a::r,k+1,hk,h,h0=>by
  have h':a=0:=h0 0 (by simp) (by omega)
  rw[Gp,if_pos h',HZ (k:=k) (by simpa using hk) h fun j hj xi=>h0 (j+1) (by simpa using hj) (by omega)];rfl
theorem A5:∀{l:List Int},(∀j (h:j<l.length),l[j]=0)->Gp l=0
 |[],_=>rfl
 |a::r,h=>by
  have h':a=0:=h 0 (by simp)
  rw[Gp,if_pos h',A5 fun j hj=>h (j+1) (by simpa using hj)]
theorem Kq (a b:Int):Gp [a,b]=Kp a b:=by
 unfold Kp
 by_cases h:a=0
 ·rw[Gp,if_pos h,if_pos h,Gp,Gp];split<;>simp_all
 ·rw[Gp,if_neg h,if_neg h]
theorem Ju (l:List Int):aj Tryz.prog 177 [.sl (l.map bq)] (.int .i64 (Gp l)):=by
 refine aj.body ej rfl fun hl n0=>?_
 have hlen:l.length<=9223372036854775807:=by simpa using(hl (.sl (l.map bq)) (by simp)).len
 clear hl
 (try((repeat(revert hN;revert N;apply Pn.out));refine wk @Nat.zero_add ?_;(repeat(refine Pn.mk ?_;intro N hN))))
 refine aH (fun n env st=>∃k:Nat,n=(l.length)-k/\k<=(l.length)/\env 8=.int .i64 (k:Int)/\(∀j:Nat,j<k->∀h:j<l.length,l[j]=0)) (l.length) ⟨0,by omega,by omega,sl @Nat.zero_add,fun _ h=>absurd h (Nat.not_lt_zero _)⟩ ?_
 rintro n_a env_a st_a ⟨k,rfl,ale,a8,kO⟩ dt
 have a3:=dt 3 (by kernel_rfl);have a6:=dt 6 (by kernel_rfl);have a7:=dt 7 (by kernel_rfl)
 simp only[go_sem, ↓reduceIte,Nat.reduceEqDiff,Nat.reduceAdd,Nat.reduceSub,Nat.reduceLeDiff,reduceCtorEq]at a3 a6 a7
 clear dt
 by_cases hk:(k:Int)<(l.length:Int)
 ·have bY:∀{e:Env},(e 8=.int .i64 (IntKind.i64.wrap ((k:Int)+1)))->(∀h:k<l.length,l[k]=0)->∃m0,m0<(l.length)-k/\∃k:Nat,m0=(l.length)-k/\k<=(l.length)/\e 8=.int .i64 (k:Int)/\(∀j:Nat,j<k->∀h:j<l.length,l[j]=0):=fun x1 x2=>⟨_,by omega,k+1,rfl,by omega,(by rw[x1,ax (by omega)]),(all_succ kO x2)⟩
  have eZ:k<l.length:=by omega
  have eo:(l.map bq)[k]? =some (bq l[k]):=by simp[eZ]
  generalize hv:l[k]=v at eo
  by_cases h0:v=0
  ·have e:decide (v=0)=true:=decide_eq_true h0
   (try((repeat(revert hN;revert N;apply Pn.out));refine wk (tw @a8 (tw @a3 (tw @a6 (tw @a7 (tw @e (tw @hk (tw @eo @bq.eq_1))))))) ?_;(repeat(refine Pn.mk ?_;intro N hN))))
   exact bY (sd (tw @a8 (tw @a3 (tw @a6 @a7)))) (fun _=>hv.trans h0)
  ·have e:decide (v=0)=false:=decide_eq_false h0
   (try((repeat(revert hN;revert N;apply Pn.out));refine wk (tw @a8 (tw @a3 (tw @a6 (tw @a7 (tw @e (tw @hk (tw @eo @bq.eq_1))))))) ?_;(repeat(refine Pn.mk ?_;intro N hN))))
   exact bj (b:=v) (.inl rfl) (sd @Nat.zero_add) (by rw[HZ eZ (by rw[hv];exact h0) fun j h hj=>kO j hj h,hv])
 ·(try((repeat(revert hN;revert N;apply Pn.out));refine wk (tw @a8 (tw @a3 (tw @a6 (tw @a7 @hk)))) ?_;(repeat(refine Pn.mk ?_;intro N hN))))
  exact bj (b:=0) (.inl rfl) (sd @Nat.zero_add) (by rw[A5 fun j h=>kO j (by omega) h])
section
attribute [local go_sem] List.drop_zero List.take_succ_cons List.take_zero List.length_cons List.length_nil il yg nM
theorem mO (a b:ai):aj Tryz.prog 130 [.agg (aa a),.agg (aa b)] (.int .i64 (oR a b)):=by
 refine aj.body ej rfl fun hl n0=>?_
 clear hl
 have h1:=w9 a.ek b.ek
 have h2:=w9 a.eB b.eB
 have h3:=Ju [qn a.ek b.ek,qn a.eB b.eB]
 rw[Kq,List.map_cons,List.map_cons,List.map_nil,bq,bq]at h3
 (repeat(first|((repeat(revert hN;revert N;apply Pn.out));refine wk @aa.eq_1 ?_;(repeat(refine Pn.mk ?_;intro N hN)))|((try apply Or.inl);refine⟨_,aj.x (h1) (sd @aa.eq_1),?_⟩;refine hN _ _ ?_;clear hN N)|((try apply Or.inl);refine⟨_,aj.x (h2) (sd @aa.eq_1),?_⟩;refine hN _ _ ?_;clear hN N)|((try apply Or.inl);refine⟨_,aj.x (h3) (sd @aa.eq_1),?_⟩;refine hN _ _ ?_;clear hN N)))
 exact bj (b:=oR a b) (.inl rfl) (by simp only[go_sem, ↓reduceIte,Nat.reduceEqDiff,Nat.reduceAdd,Nat.reduceSub,Nat.reduceLeDiff,reduceCtorEq,oR]) rfl
end
theorem J4 (a b:ai):aj Tryz.prog 201 [.agg (aa a),.agg (aa b)] (.bool (kg a b)):=by
 refine aj.body ej rfl fun hl n0=>?_
 clear hl
 have h1:=mO a b
 rw[aa,aa]at h1
 (repeat(first|((repeat(revert hN;revert N;apply Pn.out));refine wk @aa.eq_1 ?_;(repeat(refine Pn.mk ?_;intro N hN)))|((try apply Or.inl);refine⟨_,aj.x (h1) (sd @aa.eq_1),?_⟩;refine hN _ _ ?_;clear hN N)))
 exact aI (b:=decide (oR a b<0)) (.inl rfl) (sd @Nat.zero_add) (me a b)
theorem jX (t:ae) (p:ai):aj Tryz.prog 143 [.agg (ad t),.agg (aa p)] (.int .i64 (oR t.aF p)):=by
 refine aj.body ej rfl fun hl n0=>?_
 clear hl
 have h1:=mO t.aF p
 rw[aa,aa]at h1
 (repeat(first|((repeat(revert hN;revert N;apply Pn.out));refine wk (tw @ad.eq_1 @aa.eq_1) ?_;(repeat(refine Pn.mk ?_;intro N hN)))|((try apply Or.inl);refine⟨_,aj.x (h1) (sd (tw @ad.eq_1 @aa.eq_1)),?_⟩;refine hN _ _ ?_;clear hN N)))
 exact bj (b:=oR t.aF p) (.inl rfl) (sd @Nat.zero_add) rfl
theorem rF (l:List ae):aj Tryz.prog 165 [.agg [.sl (l.map ad)]] (.bool (nL l)):=by
 refine aj.body ej rfl fun hl n0=>?_
 have hlen:l.length<=9223372036854775807:=by
  have h1:=(hl (.agg [.sl (l.map ad)]) (by simp)).LL (a:=.sl (l.map ad)) (by simp)
  simpa using h1.len
 clear hl
 (try((repeat(revert hN;revert N;apply Pn.out));refine wk @Nat.zero_add ?_;(repeat(refine Pn.mk ?_;intro N hN))))
 refine aH (fun n env st=>∃k:Nat,n=(l.length)-k/\k<=(l.length)/\env 8=.int .i64 (k:Int)/\st.get ⟨165000000,n0⟩=some ⟨true,1,[[.sl (l.map ad)]]⟩/\(∀j:Nat,j<k->ED l j)) (l.length) ⟨0,by omega,by omega,sl @Nat.zero_add,sl @Nat.zero_add,fun _ h=>absurd h (Nat.not_lt_zero _)⟩ ?_
 rintro n_a env_a st_a ⟨k,rfl,ale,a8,ag0,kO⟩ dt
 have a1:=dt 1 (by kernel_rfl);have a6:=dt 6 (by kernel_rfl);have a7:=dt 7 (by kernel_rfl)
 simp only[go_sem, ↓reduceIte,Nat.reduceEqDiff,Nat.reduceAdd,Nat.reduceSub,Nat.reduceLeDiff,reduceCtorEq]at a1 a6 a7
 clear dt
 by_cases hk:(k:Int)<(l.length:Int)
 ·have bY:∀{e:Env} {gg:Rows},(e 8=.int .i64 (IntKind.i64.wrap ((k:Int)+1)))->(gg ⟨165000000,n0⟩=some ⟨true,1,[[.sl (l.map ad)]]⟩)->(ED l k)->∃m0,m0<(l.length)-k/\∃k:Nat,m0=(l.length)-k/\k<=(l.length)/\e 8=.int .i64 (k:Int)/\gg ⟨165000000,n0⟩=some ⟨true,1,[[.sl (l.map ad)]]⟩/\(∀j:Nat,j<k->ED l j):=fun x1 x2 x3=>⟨_,by omega,k+1,rfl,by omega,(by rw[x1,ax (by omega)]),x2,(all_succ kO x3)⟩
  have eZ:k<l.length:=by omega
  have eo:=fh eZ
  have kV:(¬ED l k)->¬gK l:=fun h hp=>h (hp.ok k eZ)
  have hp:=j6 (aG l k).aF
  have ht:=xr (aG l k).aN 160 (by omega) (by omega)
  rw[show(160:Int)-1=159 from rfl]at ht
  cases b1:rT (aG l k).aF
  ·rw[b1]at hp
   (repeat(first|((repeat(revert hN;revert N;apply Pn.out));refine wk (tw @a8 (tw @ag0 (tw @a1 (tw @a6 (tw @a7 (tw @hk (tw @eo (tw @ad.eq_1 @aa.eq_1)))))))) ?_;(repeat(refine Pn.mk ?_;intro N hN)))|((try apply Or.inl);refine⟨_,aj.x (hp) (sd (tw @a8 (tw @ag0 (tw @a1 (tw @a6 (tw @a7 (tw @hk (tw @eo (tw @ad.eq_1 @aa.eq_1))))))))),?_⟩;refine hN _ _ ?_;clear hN N)))
   exact aI (b:=false) (.inl rfl) (sd @Nat.zero_add) (jN (kV fun h=>by rw[ED,b1]at h;cases h.1))
  rw[b1]at hp
  cases b2:iM (aG l k).aN 0 159
  ·rw[b2]at ht
   (repeat(first|((repeat(revert hN;revert N;apply Pn.out));refine wk (tw @a8 (tw @ag0 (tw @a1 (tw @a6 (tw @a7 (tw @hk (tw @eo (tw @ad.eq_1 @aa.eq_1)))))))) ?_;(repeat(refine Pn.mk ?_;intro N hN)))|((try apply Or.inl);refine⟨_,aj.x (hp) (sd (tw @a8 (tw @ag0 (tw @a1 (tw @a6 (tw @a7 (tw @hk (tw @eo (tw @ad.eq_1 @aa.eq_1))))))))),?_⟩;refine hN _ _ ?_;clear hN N)|((try apply Or.inl);refine⟨_,aj.x (ht) (sd (tw @a8 (tw @ag0 (tw @a1 (tw @a6 (tw @a7 (tw @hk (tw @eo (tw @ad.eq_1 @aa.eq_1))))))))),?_⟩;refine hN _ _ ?_;clear hN N)))
   exact aI (b:=false) (.inl rfl) (sd @Nat.zero_add) (jN (kV fun h=>by rw[ED,b2]at h;cases h.2.1))
  rw[b2]at ht
  by_cases h0:(0:Int)<(k:Int)
  ·have uy:=fh (l:=l) (i:=k-1) (by omega)
   have hw:IntKind.i64.wrap ((k:Int)-1)=((k-1:Nat):Int):=by rw[aZ (by omega)];omega
   have hq:=J4 (aG l (k-1)).aF (aG l k).aF
   cases b3:kg (aG l (k-1)).aF (aG l k).aF
   ·rw[b3]at hq
    (repeat(first|((repeat(revert hN;revert N;apply Pn.out));refine wk (tw @a8 (tw @ag0 (tw @a1 (tw @a6 (tw @a7 (tw @hk (tw @eo (tw @uy (tw @h0 (tw @hw (tw @ad.eq_1 @aa.eq_1))))))))))) ?_;(repeat(refine Pn.mk ?_;intro N hN)))|((try apply Or.inl);refine⟨_,aj.x (hp) (sd (tw @a8 (tw @ag0 (tw @a1 (tw @a6 (tw @a7 (tw @hk (tw @eo (tw @uy (tw @h0 (tw @hw (tw @ad.eq_1 @aa.eq_1)))))))))))),?_⟩;refine hN _ _ ?_;clear hN N)|((try apply Or.inl);refine⟨_,aj.x (ht) (sd (tw @a8 (tw @ag0 (tw @a1 (tw @a6 (tw @a7 (tw @hk (tw @eo (tw @uy (tw @h0 (tw @hw (tw @ad.eq_1 @aa.eq_1)))))))))))),?_⟩;refine hN _ _ ?_;clear hN N)|((try apply Or.inl);refine⟨_,aj.x (hq) (sd (tw @a8 (tw @ag0 (tw @a1 (tw @a6 (tw @a7 (tw @hk (tw @eo (tw @uy (tw @h0 (tw @hw (tw @ad.eq_1 @aa.eq_1)))))))))))),?_⟩;refine hN _ _ ?_;clear hN N)))
    exact aI (b:=false) (.inl rfl) (sd @Nat.zero_add) (jN (kV fun h=>by have:=h.2.2 (by omega);rw[b3]at this;cases this))
   ·rw[b3]at hq
    (repeat(first|((repeat(revert hN;revert N;apply Pn.out));refine wk (tw @a8 (tw @ag0 (tw @a1 (tw @a6 (tw @a7 (tw @hk (tw @eo (tw @uy (tw @h0 (tw @hw (tw @ad.eq_1 @aa.eq_1))))))))))) ?_;(repeat(refine Pn.mk ?_;intro N hN)))|((try apply Or.inl);refine⟨_,aj.x (hp) (sd (tw @a8 (tw @ag0 (tw @a1 (tw @a6 (tw @a7 (tw @hk (tw @eo (tw @uy (tw @h0 (tw @hw (tw @ad.eq_1 @aa.eq_1)))))))))))),?_⟩;refine hN _ _ ?_;clear hN N)|((try apply Or.inl);refine⟨_,aj.x (ht) (sd (tw @a8 (tw @ag0 (tw @a1 (tw @a6 (tw @a7 (tw @hk (tw @eo (tw @uy (tw @h0 (tw @hw (tw @ad.eq_1 @aa.eq_1)))))))))))),?_⟩;refine hN _ _ ?_;clear hN N)|((try apply Or.inl);refine⟨_,aj.x (hq) (sd (tw @a8 (tw @ag0 (tw @a1 (tw @a6 (tw @a7 (tw @hk (tw @eo (tw @uy (tw @h0 (tw @hw (tw @ad.eq_1 @aa.eq_1)))))))))))),?_⟩;refine hN _ _ ?_;clear hN N)))
    refine bY ?_ ?_ (⟨b1,b2,fun _=>b3⟩)
    all_goals simp only[go_sem, ↓reduceIte,Nat.reduceEqDiff,Nat.reduceAdd,Nat.reduceSub,Nat.reduceLeDiff,reduceCtorEq,a8,ag0,a1,a6,a7]
  ·have vY:k=0:=by omega
   (repeat(first|((repeat(revert hN;revert N;apply Pn.out));refine wk (tw @a8 (tw @ag0 (tw @a1 (tw @a6 (tw @a7 (tw @hk (tw @eo (tw @h0 (tw @ad.eq_1 @aa.eq_1))))))))) ?_;(repeat(refine Pn.mk ?_;intro N hN)))|((try apply Or.inl);refine⟨_,aj.x (hp) (sd (tw @a8 (tw @ag0 (tw @a1 (tw @a6 (tw @a7 (tw @hk (tw @eo (tw @h0 (tw @ad.eq_1 @aa.eq_1)))))))))),?_⟩;refine hN _ _ ?_;clear hN N)|((try apply Or.inl);refine⟨_,aj.x (ht) (sd (tw @a8 (tw @ag0 (tw @a1 (tw @a6 (tw @a7 (tw @hk (tw @eo (tw @h0 (tw @ad.eq_1 @aa.eq_1)))))))))),?_⟩;refine hN _ _ ?_;clear hN N)))
   refine bY ?_ ?_ (⟨b1,b2,fun h=>by omega⟩)
   all_goals simp only[go_sem, ↓reduceIte,Nat.reduceEqDiff,Nat.reduceAdd,Nat.reduceSub,Nat.reduceLeDiff,reduceCtorEq,a8,ag0,a1,a6,a7]
 ·(try((repeat(revert hN;revert N;apply Pn.out));refine wk (tw @a8 (tw @ag0 (tw @a1 (tw @a6 (tw @a7 @hk))))) ?_;(repeat(refine Pn.mk ?_;intro N hN))))
  refine aI (b:=decide ((l.length:Int)<=500)) (.inl rfl) (sd @Nat.zero_add) ?_
  by_cases h5:(l.length:Int)<=500
  ·rw[decide_eq_true h5];exact xd ⟨by omega,fun i hi=>kO i (by omega)⟩
  ·rw[decide_eq_false h5];exact jN fun h=>by have:=h.so;omega
end Go.Proofs.YtgoelphibofcmaaGreat.V

namespace Go.Proofs.YtgoelphibofcmaaGreat.V
open Go.RowKit
attribute [local irreducible] dI wpOps ib Call
attribute [local go_sem] aJ gu eW gR gQ cE upd cw K.av cY AV.cells AV.cell rowOf rowsOf part ld rowAt bB cr dY eG jq bP dq eT gP fx dE eK dn dm eu ew bU bp db bR de dc eI eL eJ da cm dp eH bQ aO di cI jo bE cU bV aY du aV ea AV.undef bG bJ eA eE ei ep cJ eR eV cG eO eM dh dj List.getD_cons_zero List.getD_cons_succ List.getD_nil List.all_cons List.all_nil Bool.and_true Bool.true_and Bool.and_self Bool.not_true Bool.not_false Option.map_some Option.map_none Option.bind_some Option.bind_none List.length_cons List.length_nil List.take_succ_cons List.take_zero List.take_nil List.drop_succ_cons List.drop_zero List.drop_nil List.head?_cons List.map_cons List.map_nil List.getElem?_cons_zero List.getElem?_cons_succ List.cons_append List.nil_append List.append_nil List.length_map List.set_cons_zero List.set_cons_succ Nat.reduceMul eq_self Int.toNat_natCast Int.natCast_nonneg and_self true_and and_true decide_true decide_false Bool.false_eq_true Nat.zero_add Nat.add_zero List.contains_cons List.contains_nil Bool.or_false Bool.false_or beq_self_eq_true Nat.reduceBEq ne_eq not_true_eq_false not_false_eq_true Id.mk.injEq false_and and_false Nat.reduceLT Int.reduceLE Int.reduceLT Int.reduceToNat Int.reduceNeg Int.reduceAdd Nat.le_refl List.length_append beq_true beq_false Bool.not_eq_eq_eq_not or_false false_or eh ao aq aK br bI cC bc bz aQ bt cX cj
theorem w6 (cells:List ae) (p:ai) (hR:tP cells) (E5:cells.length<=1048576):
  aj Tryz.prog 142 [.sl (cells.map ad),.agg (aa p),.fn 143 []] (.gN [.int .i64 (lR cells p),.bool (decide (lR cells p<cells.length)&&decide ((aG cells (lR cells p)).aF=p))]):=by
 refine aj.body ej rfl fun hl n0=>?_
 clear hl
 (try((repeat(revert hN;revert N;apply Pn.out));refine wk @aa.eq_1 ?_;(repeat(refine Pn.mk ?_;intro N hN))))
 refine aH (fun n env st=>∃i j:Nat,n=j-i/\i<=j/\j<=cells.length/\(∀x,x<i->kg (aG cells x).aF p=true)/\(∀x,j<=x->x<cells.length->kg (aG cells x).aF p=false)/\env 9=.int .i64 i/\env 10=.int .i64 j/\st.get ⟨142000000,n0⟩=some ⟨true,2,[aa p]⟩) cells.length ⟨0,cells.length,by omega,by omega,by omega,fun x h=>by omega,fun x h1 h2=>by omega,by(simp only[go_sem, ↓reduceIte,Nat.reduceEqDiff,Nat.reduceAdd,Nat.reduceSub,Nat.reduceLeDiff,reduceCtorEq])<;>rfl,sd @Nat.zero_add,sd @aa.eq_1⟩ ?_
 rintro n env st ⟨i,j,rfl,DY,hj,jV,BB,h9,h10,hg⟩ fr
 have h0:=fr 0 (by kernel_rfl)
 have h2:=fr 2 (by kernel_rfl)
 have h4:=fr 4 (by kernel_rfl)
 have h8:=fr 8 (by kernel_rfl)
 simp only[go_sem, ↓reduceIte,Nat.reduceEqDiff,Nat.reduceAdd,Nat.reduceSub,Nat.reduceLeDiff,reduceCtorEq]at h0 h2 h4 h8
 clear fr
 by_cases dy:(i:Int)<(j:Int)
 ·have e1:IntKind.i64.wrap ((i:Int)+j)=((i+j:Nat):Int):=by rw[aZ (by omega)];rfl
  have hm:(i+j) / 2<cells.length:=by omega
  have gp:(cells.map ad)[(i+j) / 2]? =some (ad (aG cells ((i+j) / 2))):=fh (l:=cells) hm
  have e2:IntKind.i64.wrap ((IntKind.u64.wrap ((i+j:Nat):Int)).fdiv (2 ^ min 1 IntKind.u64.bits))=(((i+j) / 2:Nat):Int):=by
   have h:IntKind.u64.wrap ((i+j:Nat):Int)=((i+j:Nat):Int):=by rw[IntKind.wrap_u64];omega
   rw[h,show min 1 IntKind.u64.bits=1 from rfl,show((2:Int) ^ 1)=2 from rfl,Int.fdiv_eq_ediv_of_nonneg _ (by omega)]
   rw[aZ (by omega)];omega
  have OH:IntKind.i64.wrap ((IntKind.u64.wrap ((i+j:Nat):Int)).fdiv (2 ^ min 1 64))=(((i+j) / 2:Nat):Int):=e2
  have e3:=ax (k:=(i+j) / 2) (by omega)
  by_cases hc:oR (aG cells ((i+j) / 2)).aF p<0
  ·have hl:kg (aG cells ((i+j) / 2)).aF p=true:=by rw[<-me];simpa using hc
   (repeat(first|((repeat(revert hN;revert N;apply Pn.out));refine wk (tw @h0 (tw @h2 (tw @h4 (tw @h8 (tw @h9 (tw @h10 (tw @hg (tw @dy (tw @e1 (tw @e2 (tw @OH (tw @gp (tw @hc (tw @ad.eq_1 @aa.eq_1)))))))))))))) ?_;(repeat(refine Pn.mk ?_;intro N hN)))|((try apply Or.inl);refine⟨_,aj.x (jX (aG cells ((i+j) / 2)) p) (sd (tw @h0 (tw @h2 (tw @h4 (tw @h8 (tw @h9 (tw @h10 (tw @hg (tw @dy (tw @e1 (tw @e2 (tw @OH (tw @gp (tw @hc (tw @ad.eq_1 @aa.eq_1))))))))))))))),?_⟩;refine hN _ _ ?_;clear hN N)))
   refine⟨_,?_,(i+j) / 2+1,j,rfl,by omega,hj,fun x hx=>?_,BB,sd @e3,sd @h10,sd (tw @hg @aa.eq_1)⟩
   ·omega
   ·by_cases MZ:x=(i+j) / 2
    ·subst MZ;exact hl
    ·exact im (hR x _ (by omega) hm) hl
  ·have hl:kg (aG cells ((i+j) / 2)).aF p=false:=by rw[<-me];simpa using hc
   (repeat(first|((repeat(revert hN;revert N;apply Pn.out));refine wk (tw @h0 (tw @h2 (tw @h4 (tw @h8 (tw @h9 (tw @h10 (tw @hg (tw @dy (tw @e1 (tw @e2 (tw @OH (tw @gp (tw @hc (tw @ad.eq_1 @aa.eq_1)))))))))))))) ?_;(repeat(refine Pn.mk ?_;intro N hN)))|((try apply Or.inl);refine⟨_,aj.x (jX (aG cells ((i+j) / 2)) p) (sd (tw @h0 (tw @h2 (tw @h4 (tw @h8 (tw @h9 (tw @h10 (tw @hg (tw @dy (tw @e1 (tw @e2 (tw @OH (tw @gp (tw @hc (tw @ad.eq_1 @aa.eq_1))))))))))))))),?_⟩;refine hN _ _ ?_;clear hN N)))
   refine⟨_,?_,i,(i+j) / 2,rfl,by omega,by omega,jV,fun x h1 h2=>?_,sd @h9,sd (tw @e2 @OH),sd (tw @hg @aa.eq_1)⟩
   ·omega
   ·by_cases MZ:x=(i+j) / 2
    ·subst MZ;exact hl
    ·rw[Bool.eq_false_iff]
     intro hc
     have h3:=im (hR ((i+j) / 2) x (by omega) h2) hc
     rw[hl]at h3;cases h3
 ·have MC:i=j:=by omega
  subst MC
  have Cv:lR cells p=i:=yJ hj jV fun h=>BB i (Nat.le_refl _) h
  by_cases hn:(i:Int)<(cells.length:Int)
  ·have fA:i<cells.length:=by omega
   have gp:(cells.map ad)[i]? =some (ad (aG cells i)):=fh (l:=cells) fA
   have hd:decide (oR (aG cells i).aF p=0)=decide ((aG cells i).aF=p):=by simp only[EK]
   (repeat(first|((repeat(revert hN;revert N;apply Pn.out));refine wk (tw @h0 (tw @h2 (tw @h4 (tw @h8 (tw @h9 (tw @h10 (tw @hg (tw @dy (tw @hn (tw @gp (tw @ad.eq_1 @aa.eq_1))))))))))) ?_;(repeat(refine Pn.mk ?_;intro N hN)))|((try apply Or.inl);refine⟨_,aj.x (jX (aG cells i) p) (sd (tw @h0 (tw @h2 (tw @h4 (tw @h8 (tw @h9 (tw @h10 (tw @hg (tw @dy (tw @hn (tw @gp (tw @ad.eq_1 @aa.eq_1)))))))))))),?_⟩;refine hN _ _ ?_;clear hN N)))
   refine gz (.inl rfl) (r1:=.int .i64 i) (r2:=.bool (decide ((aG cells i).aF=p))) ?_ ?_ ?_
   ·simp only[go_sem, ↓reduceIte,Nat.reduceEqDiff,Nat.reduceAdd,Nat.reduceSub,Nat.reduceLeDiff,reduceCtorEq]
   ·simp only[go_sem, ↓reduceIte,Nat.reduceEqDiff,Nat.reduceAdd,Nat.reduceSub,Nat.reduceLeDiff,reduceCtorEq,hd]
   ·simp only[dU,aP,bx,dL,dO,Option.map_some,Cv,fA,decide_true,Bool.true_and]
  ·have fA:¬i<cells.length:=by omega
   (try((repeat(revert hN;revert N;apply Pn.out));refine wk (tw @h0 (tw @h2 (tw @h4 (tw @h8 (tw @h9 (tw @h10 (tw @hg (tw @dy (tw @hn (tw @ad.eq_1 @aa.eq_1)))))))))) ?_;(repeat(refine Pn.mk ?_;intro N hN))))
   refine gz (.inl rfl) (r1:=.int .i64 i) (r2:=.bool false) ?_ ?_ ?_
   ·simp only[go_sem, ↓reduceIte,Nat.reduceEqDiff,Nat.reduceAdd,Nat.reduceSub,Nat.reduceLeDiff,reduceCtorEq]
   ·simp only[go_sem, ↓reduceIte,Nat.reduceEqDiff,Nat.reduceAdd,Nat.reduceSub,Nat.reduceLeDiff,reduceCtorEq]
   ·simp only[dU,aP,bx,dL,dO,Option.map_some,Cv,fA,decide_false,Bool.false_and]
theorem FK (l:List ae) (p:ai) (hR:tP l) (E5:l.length<=1048576):aj Tryz.prog 265 [.agg [.sl (l.map ad)],.agg (aa p)] (.int .i64 (dZ l p)):=by
 refine aj.body ej rfl fun hl n0=>?_
 clear hl
 rw[yM hR]
 have hb:=w6 l p hR E5
 rw[aa]at hb
 cases hf:(decide (lR l p<l.length)&&decide ((aG l (lR l p)).aF=p))
 ·rw[hf]at hb
  (repeat(first|((repeat(revert hN;revert N;apply Pn.out));refine wk @aa.eq_1 ?_;(repeat(refine Pn.mk ?_;intro N hN)))|((try apply Or.inl);refine⟨_,aj.x (hb) (sd @aa.eq_1),?_⟩;refine hN _ _ ?_;clear hN N)))
  exact bj (b:=-1) (.inl rfl) (sd @Nat.zero_add) (by rw[if_neg];intro h;simp[h.1,h.2]at hf)
 ·rw[hf]at hb
  (repeat(first|((repeat(revert hN;revert N;apply Pn.out));refine wk @aa.eq_1 ?_;(repeat(refine Pn.mk ?_;intro N hN)))|((try apply Or.inl);refine⟨_,aj.x (hb) (sd @aa.eq_1),?_⟩;refine hN _ _ ?_;clear hN N)))
  exact bj (b:=(lR l p:Int)) (.inl rfl) (sd @Nat.zero_add) (by rw[if_pos];simpa using hf)
theorem Jo (l:List ae) (p:ai) (hR:tP l) (E5:l.length<=1048576):aj Tryz.prog 117 [.agg [.sl (l.map ad)],.agg (aa p)] (.int .i64 (fG l p)):=by
 refine aj.body ej rfl fun hl n0=>?_
 clear hl
 have hi:=yM (l:=l) (p:=p) hR
 have hb:=w6 l p hR E5
 rw[aa]at hb
 cases hf:(decide (lR l p<l.length)&&decide ((aG l (lR l p)).aF=p))
 ·rw[hf]at hb
  (repeat(first|((repeat(revert hN;revert N;apply Pn.out));refine wk @aa.eq_1 ?_;(repeat(refine Pn.mk ?_;intro N hN)))|((try apply Or.inl);refine⟨_,aj.x (hb) (sd @aa.eq_1),?_⟩;refine hN _ _ ?_;clear hN N)))
  exact bj (b:=-1) (.inl rfl) (sd @Nat.zero_add) (by
   have hx:dZ l p= -1:=by rw[hi,if_neg (by intro h;simp[h.1,h.2]at hf)]
   rw[fG,hx];rfl)
 ·rw[hf]at hb
  have hc:lR l p<l.length/\(aG l (lR l p)).aF=p:=by simpa using hf
  have hg:=fh hc.1
  (repeat(first|((repeat(revert hN;revert N;apply Pn.out));refine wk (tw @aa.eq_1 (tw @hg @ad.eq_1)) ?_;(repeat(refine Pn.mk ?_;intro N hN)))|((try apply Or.inl);refine⟨_,aj.x (hb) (sd (tw @aa.eq_1 (tw @hg @ad.eq_1))),?_⟩;refine hN _ _ ?_;clear hN N)))
  exact bj (b:=(aG l (lR l p)).aN) (.inl rfl) (sd @Nat.zero_add) (by
   have hx:dZ l p=(lR l p:Int):=by rw[hi,if_pos hc]
   rw[fG,hx,if_pos (by omega),Int.toNat_natCast])
theorem pP (l:List ae) (p:ai) (hR:tP l) (E5:l.length<=1048576):aj Tryz.prog 124 [.bK [.sl (l.map ad)],.agg (aa p)] (.int .i64 (dZ l p)):=by
 refine aj.body ej rfl fun hl n0=>?_
 clear hl
 rw[yM hR]
 (try((repeat(revert hN;revert N;apply Pn.out));refine wk @aa.eq_1 ?_;(repeat(refine Pn.mk ?_;intro N hN))))
 refine aH (fun n env st=>∃i j:Nat,n=j-i/\i<=j/\j<=l.length/\(∀x,x<i->kg (aG l x).aF p=true)/\(∀x,j<=x->x<l.length->kg (aG l x).aF p=false)/\env 5=.int .i64 i/\env 6=.int .i64 j/\st.get ⟨124000000,n0⟩=some ⟨true,2,[aa p]⟩) l.length ⟨0,l.length,by omega,by omega,by omega,fun x h=>by omega,fun x h1 h2=>by omega,by(simp only[go_sem, ↓reduceIte,Nat.reduceEqDiff,Nat.reduceAdd,Nat.reduceSub,Nat.reduceLeDiff,reduceCtorEq])<;>rfl,sd @Nat.zero_add,sd @aa.eq_1⟩ ?_
 rintro n env st ⟨i,j,rfl,DY,hj,jV,BB,h5,h6,hg⟩ fr
 have h0:=fr 0 (by kernel_rfl)
 have h3:=fr 3 (by kernel_rfl)
 simp only[go_sem, ↓reduceIte,Nat.reduceEqDiff,Nat.reduceAdd,Nat.reduceSub,Nat.reduceLeDiff,reduceCtorEq]at h0 h3
 clear fr
 by_cases dy:(i:Int)<(j:Int)
 ·have e1:IntKind.i64.wrap ((i:Int)+j)=((i+j:Nat):Int):=by rw[aZ (by omega)];rfl
  have hm:(i+j) / 2<l.length:=by omega
  have gp:=fh hm
  have e2:IntKind.i64.wrap (((i+j:Nat):Int).tdiv 2)=(((i+j) / 2:Nat):Int):=by
   rw[Int.tdiv_eq_ediv_of_nonneg (by omega),aZ (by omega)];omega
  have e3:=ax (k:=(i+j) / 2) (by omega)
  have hq:=ny (aG l ((i+j) / 2)).aF p
  cases hl:kg (aG l ((i+j) / 2)).aF p
  ·rw[hl]at hq
   (repeat(first|((repeat(revert hN;revert N;apply Pn.out));refine wk (tw @h0 (tw @h3 (tw @h5 (tw @h6 (tw @hg (tw @dy (tw @e1 (tw @e2 (tw @gp (tw @ad.eq_1 @aa.eq_1)))))))))) ?_;(repeat(refine Pn.mk ?_;intro N hN)))|((try apply Or.inl);refine⟨_,aj.x (hq) (sd (tw @h0 (tw @h3 (tw @h5 (tw @h6 (tw @hg (tw @dy (tw @e1 (tw @e2 (tw @gp (tw @ad.eq_1 @aa.eq_1))))))))))),?_⟩;refine hN _ _ ?_;clear hN N)))
   refine⟨_,?_,i,(i+j) / 2,rfl,by omega,by omega,jV,fun x h1 h2=>?_,sd @h5,sd @e2,sd (tw @hg @aa.eq_1)⟩
   ·omega
   ·by_cases MZ:x=(i+j) / 2
    ·subst MZ;exact hl
    ·rw[Bool.eq_false_iff]
     intro hc
     have h3:=im (hR ((i+j) / 2) x (by omega) h2) hc
     rw[hl]at h3;cases h3
  ·rw[hl]at hq
   (repeat(first|((repeat(revert hN;revert N;apply Pn.out));refine wk (tw @h0 (tw @h3 (tw @h5 (tw @h6 (tw @hg (tw @dy (tw @e1 (tw @e2 (tw @gp (tw @ad.eq_1 @aa.eq_1)))))))))) ?_;(repeat(refine Pn.mk ?_;intro N hN)))|((try apply Or.inl);refine⟨_,aj.x (hq) (sd (tw @h0 (tw @h3 (tw @h5 (tw @h6 (tw @hg (tw @dy (tw @e1 (tw @e2 (tw @gp (tw @ad.eq_1 @aa.eq_1))))))))))),?_⟩;refine hN _ _ ?_;clear hN N)))
   refine⟨_,?_,(i+j) / 2+1,j,rfl,by omega,hj,fun x hx=>?_,BB,sd @e3,sd @h6,sd (tw @hg @aa.eq_1)⟩
   ·omega
   ·by_cases MZ:x=(i+j) / 2
    ·subst MZ;exact hl
    ·exact im (hR x _ (by omega) hm) hl
 ·have MC:i=j:=by omega
  subst MC
  have Cv:lR l p=i:=yJ hj jV fun h=>BB i (Nat.le_refl _) h
  by_cases hn:(i:Int)<(l.length:Int)
  ·have fA:i<l.length:=by omega
   have gp:=fh fA
   by_cases hp:(aG l i).aF=p
   ·have hx:decide ((aG l i).aF.eB=p.eB)=true:=decide_eq_true (by rw[hp])
    have hy:decide ((aG l i).aF.ek=p.ek)=true:=decide_eq_true (by rw[hp])
    (try((repeat(revert hN;revert N;apply Pn.out));refine wk (tw @h0 (tw @h3 (tw @h5 (tw @h6 (tw @hg (tw @dy (tw @hn (tw @gp (tw @hx (tw @hy (tw @ad.eq_1 @aa.eq_1))))))))))) ?_;(repeat(refine Pn.mk ?_;intro N hN))))
    exact bj (b:=(i:Int)) (.inl rfl) (sd @Nat.zero_add) (by rw[Cv,if_pos ⟨fA,hp⟩])
   ·by_cases hx:(aG l i).aF.eB=p.eB
    ·have sG:decide ((aG l i).aF.eB=p.eB)=true:=decide_eq_true hx
     have Q0:decide ((aG l i).aF.ek=p.ek)=false:=decide_eq_false fun h=>hp (yZ hx h)
     (try((repeat(revert hN;revert N;apply Pn.out));refine wk (tw @h0 (tw @h3 (tw @h5 (tw @h6 (tw @hg (tw @dy (tw @hn (tw @gp (tw @sG (tw @Q0 (tw @ad.eq_1 @aa.eq_1))))))))))) ?_;(repeat(refine Pn.mk ?_;intro N hN))))
     exact bj (b:=-1) (.inl rfl) (sd @Nat.zero_add) (by rw[Cv,if_neg fun h=>hp h.2])
    ·have sG:decide ((aG l i).aF.eB=p.eB)=false:=decide_eq_false hx
     (try((repeat(revert hN;revert N;apply Pn.out));refine wk (tw @h0 (tw @h3 (tw @h5 (tw @h6 (tw @hg (tw @dy (tw @hn (tw @gp (tw @sG (tw @Bool.false_and (tw @ad.eq_1 @aa.eq_1))))))))))) ?_;(repeat(refine Pn.mk ?_;intro N hN))))
     exact bj (b:=-1) (.inl rfl) (sd @Nat.zero_add) (by rw[Cv,if_neg fun h=>hp h.2])
  ·have fA:¬i<l.length:=by omega
   (try((repeat(revert hN;revert N;apply Pn.out));refine wk (tw @h0 (tw @h3 (tw @h5 (tw @h6 (tw @hg (tw @dy (tw @hn (tw @ad.eq_1 @aa.eq_1)))))))) ?_;(repeat(refine Pn.mk ?_;intro N hN))))
   exact bj (b:=-1) (.inl rfl) (sd @Nat.zero_add) (by rw[Cv,if_neg fun h=>fA h.1])
theorem tC (l:List ae) (p:ai) (hR:tP l) (E5:l.length<=1048576):aj Tryz.prog 98 [.bK [.sl (l.map ad)],.agg (aa p)] (.int .i64 (fG l p)):=by
 refine aj.body ej rfl fun hl n0=>?_
 clear hl
 have hb:=pP l p hR E5
 by_cases hi:dZ l p<0
 ·rw[aa]at hb
  (repeat(first|((repeat(revert hN;revert N;apply Pn.out));refine wk (tw @aa.eq_1 @hi) ?_;(repeat(refine Pn.mk ?_;intro N hN)))|((try apply Or.inl);refine⟨_,aj.x (hb) (sd (tw @aa.eq_1 @hi)),?_⟩;refine hN _ _ ?_;clear hN N)))
  exact bj (b:=-1) (.inl rfl) (sd @Nat.zero_add) (by rw[fG,if_neg (by omega)])
 ·have h0:0<=dZ l p:=by omega
  have hg:=fh (lj h0).1
  rw[aa]at hb
  (repeat(first|((repeat(revert hN;revert N;apply Pn.out));refine wk (tw @aa.eq_1 (tw @hi (tw @h0 (tw @hg @ad.eq_1)))) ?_;(repeat(refine Pn.mk ?_;intro N hN)))|((try apply Or.inl);refine⟨_,aj.x (hb) (sd (tw @aa.eq_1 (tw @hi (tw @h0 (tw @hg @ad.eq_1))))),?_⟩;refine hN _ _ ?_;clear hN N)))
  exact bj (b:=(aG l (dZ l p).toNat).aN) (.inl rfl) (sd @Nat.zero_add) (by rw[fG,if_pos h0])
def jw (s:au) (l:List ae):Prop:=gK l/\∀t∈l,ez s t.aN=true
noncomputable def oQ (s:au) (l:List ae):Bool:=nL l&&l.all fun t=>ez s t.aN
theorem lI {s:au} {l:List ae}:oQ s l=true↔jw s l:=by simp[oQ,jw,rz]
theorem ug:NT ad (fun c=>.agg (ad c)) 3 true:=⟨fun _=>rfl,fun _=>rfl,fun x g=>by simp only[ad,ao,aq,bz,aK,Option.map_some]⟩
theorem FH (s:au) (t:ae) (hs:s.ah.length<=1048576):aj Tryz.prog 167 [.agg (ad t),.bK (ab s)] (.bool (!ez s t.aN)):=by
 refine aj.body ej rfl fun hl n0=>?_
 clear hl
 have h:=HG s t.aN
 rw[ab]at h
 (repeat(first|((repeat(revert hN;revert N;apply Pn.out));refine wk (tw @ad.eq_1 @ab.eq_1) ?_;(repeat(refine Pn.mk ?_;intro N hN)))|((try apply Or.inl);refine⟨_,aj.x (h) (sd (tw @ad.eq_1 @ab.eq_1)),?_⟩;refine hN _ _ ?_;clear hN N)))
 exact aI (b:= !ez s t.aN) (.inl rfl) (sd @Nat.zero_add) rfl
theorem KF (s:au) (l:List ae) (hs:s.ah.length<=1048576) (hl:l.length<=1048576):aj Tryz.prog 166 [.sl (l.map ad),.fn 167 [.bK (ab s)]] (.bool (l.any fun t=> !ez s t.aN)):=
 kn ug (show np Tryz.prog 166=some (yn 166 202) by kernel_rfl)
  (show np Tryz.prog 202=some (pM 202 3 true) by kernel_rfl) l hl _ _ _ rfl (fun g=>by rw[ao,aQ,aq];rfl) (fun x _=>FH s x hs) fun g=>by rw[ao,aQ,aq];rfl
theorem Dy {α:Type} (p:α->Bool) (l:List α):(!l.any fun t=> !p t)=l.all p:=by
 induction l with
 |nil=>rfl
 |cons x l ih=>simp only[List.any_cons,List.all_cons,<-ih];cases p x<;>simp
theorem mM (s:au) (l:List ae) (hn:fK s) (hg:s.aA.length<=1048576) (ht:s.ah.length<=1048576) (hs:∀t∈s.ah,t.bH.length<=1048576) (hl:l.length<=1048576):aj Tryz.prog 106 [.agg (ab s),.agg [.sl (l.map ad)]] (.bool (pZ s&&oQ s l)):=by
 refine aj.body ej rfl fun hl n0=>?_
 clear hl
 have h1:=BQ s hn hg ht hs
 have h2:=rF l
 have h3:=KF s l ht hl
 rw[ab]at h1 h3
 cases b1:pZ s
 ·rw[b1]at h1
  (repeat(first|((repeat(revert hN;revert N;apply Pn.out));refine wk @ab.eq_1 ?_;(repeat(refine Pn.mk ?_;intro N hN)))|((try apply Or.inl);refine⟨_,aj.x (h1) (sd @ab.eq_1),?_⟩;refine hN _ _ ?_;clear hN N)))
  exact aI (b:=false) (.inl rfl) (sd @Nat.zero_add) rfl
 rw[b1]at h1
 cases b2:nL l
 ·rw[b2]at h2
  (repeat(first|((repeat(revert hN;revert N;apply Pn.out));refine wk @ab.eq_1 ?_;(repeat(refine Pn.mk ?_;intro N hN)))|((try apply Or.inl);refine⟨_,aj.x (h1) (sd @ab.eq_1),?_⟩;refine hN _ _ ?_;clear hN N)|((try apply Or.inl);refine⟨_,aj.x (h2) (sd @ab.eq_1),?_⟩;refine hN _ _ ?_;clear hN N)))
  exact aI (b:=false) (.inl rfl) (sd @Nat.zero_add) (by rw[oQ,b2];rfl)
 rw[b2]at h2
 (repeat(first|((repeat(revert hN;revert N;apply Pn.out));refine wk @ab.eq_1 ?_;(repeat(refine Pn.mk ?_;intro N hN)))|((try apply Or.inl);refine⟨_,aj.x (h1) (sd @ab.eq_1),?_⟩;refine hN _ _ ?_;clear hN N)|((try apply Or.inl);refine⟨_,aj.x (h2) (sd @ab.eq_1),?_⟩;refine hN _ _ ?_;clear hN N)|((try apply Or.inl);refine⟨_,aj.x (h3) (sd @ab.eq_1),?_⟩;refine hN _ _ ?_;clear hN N)))
 exact aI (b:= !(l.any fun t=> !ez s t.aN)) (.inl rfl) (sd @Nat.zero_add) (by rw[Dy,oQ,b2];rfl)
theorem Ed (s:au) (l:List ae):aj Tryz.prog 97 [.bK (ab s),.bK [.sl (l.map ad)]] (.bool (oQ s l)):=by
 refine aj.body ej rfl fun hl n0=>?_
 have hlen:l.length<=9223372036854775807:=by
  have h1:=(hl (.bK [.sl (l.map ad)]) (by simp)).AH (a:=.sl (l.map ad)) (by simp)
  simpa using h1.len
 clear hl
 have h2:=Fv l
 cases b2:nL l
 ·rw[b2]at h2
  (repeat(first|((repeat(revert hN;revert N;apply Pn.out));refine wk @Nat.zero_add ?_;(repeat(refine Pn.mk ?_;intro N hN)))|((try apply Or.inl);refine⟨_,aj.x (h2) (sd @Nat.zero_add),?_⟩;refine hN _ _ ?_;clear hN N)))
  exact aI (b:=false) (.inl rfl) (sd @Nat.zero_add) (by rw[oQ,b2];rfl)
 rw[b2]at h2
 (repeat(first|((repeat(revert hN;revert N;apply Pn.out));refine wk @Nat.zero_add ?_;(repeat(refine Pn.mk ?_;intro N hN)))|((try apply Or.inl);refine⟨_,aj.x (h2) (sd @Nat.zero_add),?_⟩;refine hN _ _ ?_;clear hN N)))
 refine aH (fun n env st=>∃k:Nat,n=(l.length)-k/\k<=(l.length)/\env 5=.int .i64 (k:Int)/\(∀j:Nat,j<k->ez s (aG l j).aN=true)) (l.length) ⟨0,by omega,by omega,sl @Nat.zero_add,fun _ h=>absurd h (Nat.not_lt_zero _)⟩ ?_
 rintro n_a env_a st_a ⟨k,rfl,ale,a5,kO⟩ dt
 have a0:=dt 0 (by kernel_rfl);have a1:=dt 1 (by kernel_rfl)
 simp only[go_sem, ↓reduceIte,Nat.reduceEqDiff,Nat.reduceAdd,Nat.reduceSub,Nat.reduceLeDiff,reduceCtorEq]at a0 a1
 clear dt
 by_cases hk:(k:Int)<(l.length:Int)
 ·have bY:∀{e:Env},(e 5=.int .i64 (IntKind.i64.wrap ((k:Int)+1)))->(ez s (aG l k).aN=true)->∃m0,m0<(l.length)-k/\∃k:Nat,m0=(l.length)-k/\k<=(l.length)/\e 5=.int .i64 (k:Int)/\(∀j:Nat,j<k->ez s (aG l j).aN=true):=fun x1 x2=>⟨_,by omega,k+1,rfl,by omega,(by rw[x1,ax (by omega)]),(all_succ kO x2)⟩
  have eZ:k<l.length:=by omega
  have eo:=fh eZ
  have ht:=CH s (aG l k).aN
  cases b3:ez s (aG l k).aN
  ·rw[b3]at ht
   (repeat(first|((repeat(revert hN;revert N;apply Pn.out));refine wk (tw @a5 (tw @a0 (tw @a1 (tw @hk (tw @eo @ad.eq_1))))) ?_;(repeat(refine Pn.mk ?_;intro N hN)))|((try apply Or.inl);refine⟨_,aj.x (ht) (sd (tw @a5 (tw @a0 (tw @a1 (tw @hk (tw @eo @ad.eq_1)))))),?_⟩;refine hN _ _ ?_;clear hN N)))
   exact aI (b:=false) (.inl rfl) (sd @Nat.zero_add) (by
    have:l.all (fun t=>ez s t.aN)=false:=List.all_eq_false.2 ⟨_,gy eZ,by rw[b3];simp⟩
    rw[oQ,this,Bool.and_false])
  ·rw[b3]at ht
   (repeat(first|((repeat(revert hN;revert N;apply Pn.out));refine wk (tw @a5 (tw @a0 (tw @a1 (tw @hk (tw @eo @ad.eq_1))))) ?_;(repeat(refine Pn.mk ?_;intro N hN)))|((try apply Or.inl);refine⟨_,aj.x (ht) (sd (tw @a5 (tw @a0 (tw @a1 (tw @hk (tw @eo @ad.eq_1)))))),?_⟩;refine hN _ _ ?_;clear hN N)))
   exact bY (sd (tw @a5 (tw @a0 @a1))) (b3)
 ·(try((repeat(revert hN;revert N;apply Pn.out));refine wk (tw @a5 (tw @a0 (tw @a1 @hk))) ?_;(repeat(refine Pn.mk ?_;intro N hN))))
  exact aI (b:=true) (.inl rfl) (sd @Nat.zero_add) (by
   have:l.all (fun t=>ez s t.aN)=true:=List.all_eq_true.2 fun t ht=>by
    obtain⟨j,hj,rfl⟩:=List.getElem_of_mem ht
    have:=kO j (by omega)
    rwa [iE hj]at this
   rw[oQ,b2,this];rfl)
theorem wH (l:List ae) (hF:gK l) (i:Nat) (d:Int) (hi:i<l.length) (hd:iM d 0 3=true):aj Tryz.prog 217 [.bK [.sl (l.map ad)],.int .i64 i,.int .i64 d] (.int .i64 (dZ l (bF (aG l i).aF d))):=by
 refine aj.body ej rfl fun hl n0=>?_
 clear hl
 have hg:=fh hi
 have hp:=nY (hF.pt hi)
 have h1:=rO (aG l i).aF d hd hp.1 hp.2
 have h2:=pP l (bF (aG l i).aF d) hF.FQ (by have:=hF.so;omega)
 rw[aa]at h1 h2
 (repeat(first|((repeat(revert hN;revert N;apply Pn.out));refine wk (tw @ad.eq_1 (tw @hg @aa.eq_1)) ?_;(repeat(refine Pn.mk ?_;intro N hN)))|((try apply Or.inl);refine⟨_,aj.x (h1) (sd (tw @ad.eq_1 (tw @hg @aa.eq_1))),?_⟩;refine hN _ _ ?_;clear hN N)|((try apply Or.inl);refine⟨_,aj.x (h2) (sd (tw @ad.eq_1 (tw @hg @aa.eq_1))),?_⟩;refine hN _ _ ?_;clear hN N)))
 exact bj (b:=dZ l (bF (aG l i).aF d)) (.inl rfl) (sd @Nat.zero_add) rfl
end Go.Proofs.YtgoelphibofcmaaGreat.V

namespace Go.Proofs.YtgoelphibofcmaaGreat.V
open Go.RowKit
def isApp:fW->Bool
 | .append .. =>true
 |_=>false
variable {P:Program} {X:fq} {K:Env->ar->Prop} {env:Env} {σ:ar}
theorem Ly {draw:Bool} {o:aL} {r:List aL} (_:isApp o.op=false) (h:∀N:AV->ar->Prop,(∀v s,wpOps X draw r K (upd env o.dst v) s->N v s)->if aJ o.guard env then gu X draw o env σ N else N .undef σ):wpOps X draw (o::r) K env σ:=Nz h
end Go.Proofs.YtgoelphibofcmaaGreat.V

namespace Go.Proofs.YtgoelphibofcmaaGreat.V
open Go.RowKit
section
variable {α:Type} {enc:α->List AV} {sz:Nat} {g g':Rows} {a:AV} {xs:List α} {ids:List Id}
end
abbrev LD (α:Type):=Rows->List AV->α->List Id->Prop
structure Jl {α:Type} (R:LD α) (sz:Nat):Prop where
 frame:∀{g g':Rows} {cs x ids},R g cs x ids->(∀i∈ids,g' i=g i)->R g' cs x ids
 len:∀{g cs x ids},R g cs x ids->cs.length=sz
 cell:∀{g cs x ids},R g cs x ids->cs.all AV.cell=true
 live:∀{g cs x ids},R g cs x ids->∀i∈ids,∃r,g i=some r/\r.w=true/\r.sz<yQ
 small:sz<yQ
inductive eQ {α:Type} (R:LD α) (g:Rows):List (List AV)->List α->List Id->Prop
 |nil:eQ R g [] [] []
 |cons {cs x i1 rs xs i2}:R g cs x i1->eQ R g rs xs i2->eQ R g (cs::rs) (x::xs) (i1++i2)
section
variable {α:Type} {R:LD α} {sz:Nat} {g g':Rows} {rows r1 r2:List (List AV)} {xs x1 x2:List α} {ids i1 i2:List Id}
theorem eQ.len (h:eQ R g rows xs ids):rows.length=xs.length:=by
 induction h with
 |nil=>rfl
 |cons _ _ ih=>simp[ih]
theorem eQ.frame (ok:Jl R sz) (h:eQ R g rows xs ids) (hf:∀i∈ids,g' i=g i):eQ R g' rows xs ids:=by
 induction h with
 |nil=>exact .nil
 |cons h1 _ ih=>exact .cons (ok.frame h1 fun i hi=>hf i (List.mem_append_left _ hi)) (ih fun i hi=>hf i (List.mem_append_right _ hi))
theorem eQ.app (h1:eQ R g r1 x1 i1) (h2:eQ R g r2 x2 i2):eQ R g (r1++r2) (x1++x2) (i1++i2):=by
 induction h1 with
 |nil=>exact h2
 |cons h _ ih=>rw[List.append_assoc];exact .cons h ih
theorem eQ.one {cs:List AV} {x:α} (h:R g cs x ids):eQ R g [cs] [x] ids:=by
 have:=eQ.cons h eQ.nil
 rwa [List.append_nil]at this
theorem eQ.split (h:eQ R g rows xs ids):∀k (hk:k<xs.length),∃r1 cs r2 i1 ic i2,rows=r1++cs::r2/\r1.length=k/\ids=i1++(ic++i2)/\eQ R g r1 (xs.take k) i1/\R g cs xs[k] ic/\eQ R g r2 (xs.drop (k+1)) i2:=by
 induction h with
 |nil=>intro k hk;simp at hk
 |cons h1 h2 ih=>
  rename_i cs x j1 rs xs j2
  intro k hk
  cases k with
  |zero=>exact⟨[],cs,rs,[],j1,j2,rfl,rfl,rfl,.nil,h1,h2⟩
  |succ k=>
   obtain⟨r1,pb,r2,i1,ic,i2,rfl,hl,rfl,h3,h4,h5⟩:=ih k (by simpa using hk)
   exact⟨cs::r1,pb,r2,j1++i1,ic,i2,rfl,by simp[hl],by rw[List.append_assoc],.cons h1 h3,h4,h5⟩
theorem eQ.at_ (h:eQ R g rows xs ids) (k:Nat) (hk:k<xs.length):∃cs ic,rows[k]? =some cs/\R g cs xs[k] ic/\∀i∈ic,i∈ids:=by
 obtain⟨r1,cs,r2,i1,ic,i2,rfl,hl,rfl,h3,h4,h5⟩:=h.split k hk
 refine⟨cs,ic,by rw[List.getElem?_append_right (by omega)];simp[hl],h4,fun i hi=>by simp[hi]⟩
theorem eQ.fz {n:Nat} {e:α->List AV} (h:eQ R g rows xs ids) (hz:∀{cs x ids},R g cs x ids->cH (eh g) n cs=some (e x)):dJ (eh g) n rows=some (xs.map e):=by
 induction h with
 |nil=>rw[dJ];rfl
 |cons h1 _ ih=>rw[dJ,hz h1,ih];rfl
end
section
variable {α:Type} {R:LD α} {sz:Nat} {g g':Rows} {a:AV} {xs:List α} {ids:List Id}
end
end Go.Proofs.YtgoelphibofcmaaGreat.V

namespace Go.Proofs.YtgoelphibofcmaaGreat.V
open Go.RowKit
variable {P:Program} {X:fq} {K:Env->ar->Prop} {env:Env} {σ:ar}
def l9 {α:Type} (enc:α->List AV) (sz:Nat) (x:AV) (g:Rows) (S:Id->Prop) (L:List α):Prop:=∃o:Id,S o/\x=.own o 0 L.length/\g o=some ⟨true,sz,L.map enc⟩
section
variable {α:Type} {enc:α->List AV} {sz:Nat} {x:AV} {g g':Rows} {S:Id->Prop} {L L':List α}
theorem l9.cast (h:l9 enc sz x g S L) (hL:L'=L):l9 enc sz x g S L':=by subst hL;exact h
theorem l9.frame (h:l9 enc sz x g S L) (hg:∀o:Id,S o->g' o=g o):l9 enc sz x g' S L:=by
 obtain⟨o,h1,h2,h3⟩:=h
 exact⟨o,h1,h2,(hg o h1).trans h3⟩
theorem l9.app (hz:∀a,(enc a).length=sz/\(enc a).all AV.cell=true) (h:l9 enc sz x g S L) (id:Id) (hid:S id) (M:List α) (hlen:L.length+M.length<=ea):
  ∃v g',aY g id sz x (M.map enc)=some (v,g')/\l9 enc sz v g' S (L++M)/\∀j:Id,¬S j->g' j=g j:=by
 obtain⟨o,h1,rfl,h4⟩:=h
 refine⟨.own id 0 (L.length+(M.map enc).length),bB (cr g o) id ⟨true,sz,L.map enc++M.map enc⟩,?_,⟨id,hid,by simp,by simp[bB]⟩,fun j hj=>?_⟩
 ·have ha:=all_map (l:=M) hz
  simp only[aY,h4,Option.bind_some]
  rw[if_pos ⟨trivial,trivial,by simp,by simpa using hlen,ha⟩]
 ·have e1:¬j=id:=fun h=>hj (h▸hid)
  have e2:¬j=o:=fun h=>hj (h▸h1)
  simp[bB,cr,e1,e2]
theorem Nx {draw:Bool} {o:aL} {r:List aL} {x' y:O} {xv:AV} (M:List α) (ho:o.op=.append sz x' y) (hw:aJ o.guard env=true) (hx:cE env x'=xv) (hO:l9 enc sz xv σ.get S L)
  (hy:bE σ.get (cE env y)=some (M.map enc)) (hz:∀a,(enc a).length=sz/\(enc a).all AV.cell=true) (hid:S ⟨o.site,σ.next⟩) (hlen:L.length+M.length<=ea)
  (next:∀v g',l9 enc sz v g' S (L++M)->(∀j:Id,¬S j->g' j=σ.get j)->wpOps X draw r K (upd env o.dst v) ⟨g',σ.next⟩):wpOps X draw (o::r) K env σ:=by
 obtain⟨v,g',h1,h2,h3⟩:=hO.app hz ⟨o.site,σ.next⟩ hid M hlen
 unfold wpOps
 rw[if_pos hw]
 unfold gu
 simp only[ho,gR,hy,hx,Option.bind_some,h1]
 exact next v g' h2 h3
theorem l9.fX {n:Nat} (h:l9 enc sz x g S L) (he:∀a,dS g n (enc a)=some (enc a)):fX g (n+1) x=some (.sl (L.map enc)):=by
 obtain⟨o,_,rfl,h3⟩:=h
 exact gZ h3 rfl he
end
theorem cQ {a b:Id} (h:a.aW<b.aW):(a=b)=False/\(b=a)=False:=by
 constructor<;>(simp only[eq_iff_iff,iff_false];rintro rfl;omega)
theorem zd {o:Id} {a:Nat} (h:o.site=a) {b v:Nat} (sE:(a==b)=false):(o=⟨b,v⟩)=False:=by
 simp only[eq_iff_iff,iff_false]
 rintro rfl
 simp only at h
 subst h
 simp at sE
def eN (n:Nat):List AV:=[.int .i64 n]
theorem fzN (g:Rows) (n:Nat) (a:Nat):cH g (n+1) (eN a)=some (eN a):=by simp[eN,ao,aq,aK]
theorem L8 (g:Rows) (n:Nat) (a:Nat):dS g (n+1) (eN a)=some (eN a):=by simp[eN,aP,bx,dL]
def NV:LD (List Nat):=fun g cs x ids=>∃id,cs=[.own id 0 x.length]/\g id=some ⟨true,1,x.map eN⟩/\ids=[id]
theorem Kf:Jl NV 1 where
 frame:=fun⟨id,h1,h2,h3⟩ hf=>by subst h3;exact⟨id,h1,(hf id (by simp)).trans h2,rfl⟩
 len:=fun⟨id,h1,_⟩=>by subst h1;rfl
 cell:=fun⟨id,h1,_⟩=>by subst h1;rfl
 live:=fun⟨id,h1,h2,h3⟩ i hi=>by
  subst h3
  have:i=id:=by simpa using hi
  subst this
  exact⟨_,h2,rfl,by simp[yQ]⟩
 small:=by simp[yQ]
def zD (l:List Nat):List AV:=[.sl (l.map eN)]
theorem HO {g:Rows} {rows:List (List AV)} {xs:List (List Nat)} {ids:List Id} (n:Nat) (h:eQ NV g rows xs ids):gL g (n+2) rows=some (xs.map zD):=by
 induction h with
 |nil=>rw[gL];rfl
 |cons h1 _ ih=>
  obtain⟨id,rfl,h2,_⟩:=h1
  rw[gL,ih,aP,bx,gZ (e:=eN) (sz:=1) h2 rfl fun a=>L8 g n a];rfl
end Go.Proofs.YtgoelphibofcmaaGreat.V

namespace Go.Proofs.YtgoelphibofcmaaGreat.V
def bi (b:Bool):Int:=if b then 1 else 0
def lD (f:Nat->Int):Nat->Int
 |0=>0
 |n+1=>lD f n+f n
theorem fS {f g:Nat->Int}:∀{n:Nat},(∀i,i<n->f i=g i)->lD f n=lD g n
 |0,_=>rfl
 |n+1,h=>by
  simp only[lD]
  rw[fS fun i hi=>h i (by omega),h n (by omega)]
theorem qN {f g:Nat->Int}:∀{n:Nat},(∀i,i<n->f i<=g i)->lD f n<=lD g n
 |0,_=>Int.le_refl _
 |n+1,h=>by
  simp only[lD]
  have:=qN (n:=n) fun i hi=>h i (by omega)
  have:=h n (by omega)
  omega
theorem jF:∀{n:Nat} {f:Nat->Int},(∀i,i<n->f i=0)->lD f n=0
 |0,_,_=>rfl
 |n+1,f,h=>by
  simp only[lD]
  rw[jF fun i hi=>h i (by omega),h n (by omega)];rfl
theorem oL {f:Nat->Int} {a:Nat} {d:Int}:∀n,lD (fun i=>f i+if i=a then d else 0) n=lD f n+if a<n then d else 0
 |0=>by simp[lD]
 |n+1=>by
  simp only[lD]
  rw[oL n]
  by_cases h:n=a
  ·subst h;simp;omega
  ·rw[if_neg h]
   by_cases h2:a<n
   ·rw[if_pos h2,if_pos (by omega)];omega
   ·rw[if_neg h2,if_neg (by omega)];omega
def lL (n:Nat) (S:Nat->Bool) (f:Nat->Nat->Int):Int:=lD (fun u=>lD (fun v=>if S u&& !S v then f u v else 0) n) n
def bump (f:Nat->Nat->Int) (a b:Nat) (d:Int):Nat->Nat->Int:=fun u v=>f u v+if u=a/\v=b then d else 0
theorem ow {n:Nat} {S:Nat->Bool} {f:Nat->Nat->Int} {a b:Nat} {d:Int} (ha:a<n) (hb:b<n):lL n S (bump f a b d)=lL n S f+if S a&& !S b then d else 0:=by
 unfold lL
 have h1:∀u,u<n->lD (fun v=>if S u&& !S v then bump f a b d u v else 0) n=lD (fun v=>if S u&& !S v then f u v else 0) n+if u=a then(if S a&& !S b then d else 0)else 0:=by
  intro u hu
  by_cases h:u=a
  ·subst h
   have h2:∀v,v<n->(if S u&& !S v then bump f u b d u v else 0)=(fun v=>if S u&& !S v then f u v else 0) v+if v=b then(if S u&& !S b then d else 0)else 0:=by
    intro v hv
    unfold bump
    by_cases h3:v=b
    ·subst h3;simp only[and_self,if_true];split<;>omega
    ·simp only[h3,and_false,if_false];split<;>omega
   rw[fS h2,oL,if_pos hb,if_pos rfl]
  ·rw[if_neg h,Int.add_zero]
   refine fS fun v hv=>?_
   unfold bump
   simp[h]
 rw[fS h1,oL,if_pos ha]
theorem Jy {n:Nat} {S:Nat->Bool} {f c:Nat->Nat->Int} (h:∀u v,u<n->v<n->f u v<=c u v):lL n S f<=lL n S c:=
 qN fun u hu=>qN fun v hv=>by split;exact h u v hu hv;exact Int.le_refl _
theorem Jw {n:Nat} {S:Nat->Bool} {f c:Nat->Nat->Int} (h:∀u v,u<n->v<n->S u=true->S v=false->f u v=c u v):lL n S f=lL n S c:=
 fS fun u hu=>fS fun v hv=>by
  split
  ·rename_i hc
   simp only[Bool.and_eq_true,Bool.not_eq_true']at hc
   exact h u v hu hv hc.1 hc.2
  ·rfl
def j5 (f:Nat->Nat->Int) (a b:Nat):Nat->Nat->Int:=bump (bump f a b 1) b a (-1)
theorem EP {n:Nat} {S:Nat->Bool} {f:Nat->Nat->Int} {a b:Nat} (ha:a<n) (hb:b<n):lL n S (j5 f a b)=lL n S f+bi (S a)-bi (S b):=by
 unfold j5
 rw[ow hb ha,ow ha hb]
 cases S a<;>cases S b<;>simp[bi]<;>omega
def lJ (f:Nat->Nat->Int):List Nat->Nat->Nat->Int
 |a::b::r=>lJ (j5 f a b) (b::r)
 |_=>f
def qc (f c:Nat->Nat->Int):List Nat->Prop
 |a::b::r=>f a b<c a b/\qc f c (b::r)
 |_=>True
theorem zQ {n:Nat} {S:Nat->Bool}:∀(r:List Nat) (a:Nat) (f:Nat->Nat->Int),(∀x∈a::r,x<n)->lL n S (lJ f (a::r))=lL n S f+bi (S a)-bi (S ((a::r).getLast (by simp)))
 |[],a,f,_=>by simp[lJ]
 |b::r,a,f,h=>by
  rw[lJ,zQ r b (j5 f a b) fun x hx=>h x (List.mem_cons_of_mem _ hx),EP (h a (by simp)) (h b (by simp)),List.getLast_cons_cons]
  generalize bi (S b)=q
  omega
theorem qc.less {f g c:Nat->Nat->Int}:∀{p:List Nat},qc f c p->(∀u,u∈p->∀v,g u v<=f u v)->qc g c p
 |[],_,_=>trivial
 |[_],_,_=>trivial
 |a::b::r,h,hl=>⟨Int.lt_of_le_of_lt (hl a (by simp) b) h.1,qc.less (p:=b::r) h.2 fun u hu=>hl u (List.mem_cons_of_mem _ hu)⟩
theorem Dz {n:Nat} {c:Nat->Nat->Int}:∀(p:List Nat) (f:Nat->Nat->Int),p.Nodup->qc f c p->(∀u v,u<n->v<n->f u v<=c u v)->∀u v,u<n->v<n->lJ f p u v<=c u v
 |[],f,_,_,h=>h
 |[_],f,_,_,h=>h
 |a::b::r,f,hn,hr,h=>by
  rw[lJ]
  have sE:a∉b::r:=(List.nodup_cons.1 hn).1
  refine Dz (b::r) _ (List.nodup_cons.1 hn).2 (hr.2.less fun u hu v=>?_) fun u v hu hv=>?_
  ·unfold j5 bump
   have:u≠a:=by rintro rfl;exact sE hu
   simp only[this,false_and,if_false]
   split<;>omega
  ·have h0:=h u v hu hv
   have h1:=hr.1
   unfold j5 bump
   by_cases e:u=a/\v=b
   ·obtain⟨rfl,rfl⟩:=e
    rw[if_pos ⟨rfl,rfl⟩];split<;>omega
   ·rw[if_neg e];split<;>omega
structure k5 (n:Nat) (c f:Nat->Nat->Int) (x y:Nat) (val:Int):Prop where
 le:∀u v,u<n->v<n->f u v<=c u v
 cut:∀S:Nat->Bool,S x=true->S y=false->lL n S f=val
theorem k5.zero {n:Nat} {c:Nat->Nat->Int} {x y:Nat} (h:∀u v,u<n->v<n->0<=c u v):k5 n c (fun _ _=>0) x y 0:=
 ⟨h,fun S _ _=>jF fun u hu=>jF fun v hv=>by split<;>rfl⟩
theorem k5.congr {n:Nat} {c f g:Nat->Nat->Int} {x y:Nat} {val:Int} (h:k5 n c f x y val) (e:∀u v,u<n->v<n->g u v=f u v):k5 n c g x y val:=
 ⟨fun u v hu hv=>by rw[e u v hu hv];exact h.le u v hu hv,fun S hx hy=>by
  rw[<-h.cut S hx hy]
  exact fS fun u hu=>fS fun v hv=>by rw[e u v hu hv]⟩
theorem k5.aug {n:Nat} {c f:Nat->Nat->Int} {x y:Nat} {val:Int} (h:k5 n c f x y val) {r:List Nat} (hl:(x::r).getLast (by simp)=y) (hn:(x::r).Nodup) (hr:qc f c (x::r)) (hb:∀v∈x::r,v<n):k5 n c (lJ f (x::r)) x y (val+1):=
 ⟨Dz _ _ hn hr h.le,fun S hx hy=>by rw[zQ r x f hb,hl,h.cut S hx hy,hx,hy];simp[bi]⟩
theorem k5.bound {n:Nat} {c f:Nat->Nat->Int} {x y:Nat} {val:Int} (h:k5 n c f x y val) {S:Nat->Bool} (hx:S x=true) (hy:S y=false):val<=lL n S c:=by
 rw[<-h.cut S hx hy];exact Jy h.le
theorem k5.full {n:Nat} {c f:Nat->Nat->Int} {x y:Nat} {val:Int} (h:k5 n c f x y val) {S:Nat->Bool} (hx:S x=true) (hy:S y=false) (hS:∀u v,u<n->v<n->S u=true->S v=false->¬f u v<c u v):val=lL n S c:=by
 rw[<-h.cut S hx hy]
 exact Jw fun u v hu hv h1 h2=>by have:=hS u v hu hv h1 h2;have:=h.le u v hu hv;omega
structure PB where
 a:Nat
 b:Nat
 s:Int
 deriving Inhabited
def bD (bs:List PB) (i:Nat):PB:=bs.getD i default
def iP (S:Nat->Bool) (bs:List PB):Int:=(bs.map fun b=>if S b.a=S b.b then 0 else b.s).sum
def nh (c:Nat->Nat->Int) (b:PB):Nat->Nat->Int:=bump (bump c b.a b.b b.s) b.b b.a b.s
def kG (bs:List PB):Nat->Nat->Int:=bs.foldl nh fun _ _=>0
theorem C3 (bs:List PB) (b:PB):kG (bs++[b])=nh (kG bs) b:=by simp[kG]
theorem zZ {n:Nat} {S:Nat->Bool}:∀(bs:List PB) (c:Nat->Nat->Int),(∀b∈bs,b.a<n/\b.b<n)->lL n S (bs.foldl nh c)=lL n S c+iP S bs
 |[],c,_=>by simp[iP]
 |b::bs,c,h=>by
  have hb:=h b (by simp)
  rw[List.foldl_cons,zZ bs _ fun x hx=>h x (List.mem_cons_of_mem _ hx)]
  unfold nh iP
  rw[ow hb.2 hb.1,ow hb.1 hb.2,List.map_cons,List.sum_cons]
  cases S b.a<;>cases S b.b<;>simp<;>omega
theorem z6 {n:Nat} {S:Nat->Bool} {bs:List PB} (h:∀b∈bs,b.a<n/\b.b<n):lL n S (kG bs)=iP S bs:=by
 rw[kG,zZ bs _ h]
 have:lL n S (fun _ _=>0)=0:=jF fun u hu=>jF fun v hv=>by split<;>rfl
 omega
theorem y9:∀(bs:List PB) (c:Nat->Nat->Int),(∀b∈bs,0<=b.s)->(∀u v,0<=c u v)->∀u v,0<=bs.foldl nh c u v
 |[],c,_,h=>h
 |b::bs,c,hb,h=>by
  rw[List.foldl_cons]
  refine y9 bs _ (fun x hx=>hb x (List.mem_cons_of_mem _ hx)) fun u v=>?_
  have:=hb b (by simp);have:=h u v
  unfold nh bump
  split<;>split<;>omega
theorem room_le:∀(bs:List PB) (c:Nat->Nat->Int) (m:Int),(∀b∈bs,b.s<=4)->(∀u v,c u v<=m)->0<=m->∀u v,bs.foldl nh c u v<=m+8*bs.length
 |[],c,m,_,h,_=>fun u v=>by have:=h u v;simp;omega
 |b::bs,c,m,hb,h,h0=>fun u v=>by
  rw[List.foldl_cons]
  have:=room_le bs (nh c b) (m+8) (fun x hx=>hb x (List.mem_cons_of_mem _ hx)) (fun u v=>by
   have:=hb b (by simp);have:=h u v
   unfold nh bump
   split<;>split<;>omega) (by omega) u v
  simp only[List.length_cons];omega
def kh (n:Nat) (bs:List PB) (t:Int):Prop:=∀S:Nat->Bool,S 0=true->(∃y,y<n/\S y=false)->t<=iP S bs
def EN (S:Nat->Bool) (bs:List PB) (f:Nat->Int):Int:=lD (fun i=>f i*(bi (S (bD bs i).a)-bi (S (bD bs i).b))) bs.length
structure jK (bs:List PB) (f:Nat->Int) (x y:Nat) (val:Int):Prop where
 le:∀i,i<bs.length->f i<=(bD bs i).s/\-(bD bs i).s<=f i
 cut:∀S:Nat->Bool,S x=true->S y=false->EN S bs f=val
theorem ua (S:Nat->Bool):∀bs:List PB,iP S bs=lD (fun i=>if S (bD bs i).a=S (bD bs i).b then 0 else(bD bs i).s) bs.length:=by
 intro bs
 have key:∀n,n<=bs.length->iP S (bs.take n)=lD (fun i=>if S (bD bs i).a=S (bD bs i).b then 0 else(bD bs i).s) n:=by
  intro n
  induction n with
  |zero=>intro _;rfl
  |succ n ih=>
   intro h
   have e:bD bs n=bs[n]:=by simp[bD,List.getD_eq_getElem?_getD,List.getElem?_eq_getElem (show n<bs.length by omega)]
   rw[List.take_succ_eq_append_getElem (by omega),lD,<-ih (by omega),e]
   unfold iP
   rw[List.map_append,List.sum_append]
   simp only[List.map_cons,List.map_nil,List.sum_cons,List.sum_nil,Int.add_zero]
 have:=key bs.length (Nat.le_refl _)
 rwa [List.take_length]at this
theorem jK.bound {bs:List PB} {f:Nat->Int} {x y:Nat} {val:Int} (h:jK bs f x y val) {S:Nat->Bool} (hx:S x=true) (hy:S y=false):val<=iP S bs:=by
 rw[<-h.cut S hx hy,ua]
 refine qN fun i hi=>?_
 have:=h.le i hi
 cases S (bD bs i).a<;>cases S (bD bs i).b<;>simp[bi]<;>omega
def fu (bs:List PB) (f:Nat->Int) (i u:Nat):Int:=if (bD bs i).a=u then(bD bs i).s-f i else(bD bs i).s+f i
def bh (bs:List PB) (i u:Nat):Nat:=if (bD bs i).a=u then(bD bs i).b else(bD bs i).a
theorem jK.full {bs:List PB} {f:Nat->Int} {x y:Nat} {val:Int} (h:jK bs f x y val) {S:Nat->Bool} (hx:S x=true) (hy:S y=false)
  (hS:∀i,i<bs.length->((bD bs i).a≠(bD bs i).b->(S (bD bs i).a=true->S (bD bs i).b=false->¬0<fu bs f i (bD bs i).a)/\(S (bD bs i).b=true->S (bD bs i).a=false->¬0<fu bs f i (bD bs i).b))):val=iP S bs:=by
 rw[<-h.cut S hx hy,ua]
 refine fS fun i hi=>?_
 have h1:=h.le i hi
 by_cases sE:(bD bs i).a=(bD bs i).b
 ·rw[sE];simp
 ·have h2:=hS i hi sE
  unfold fu at h2
  rw[if_pos rfl,if_neg sE]at h2
  cases ha:S (bD bs i).a<;>cases hb:S (bD bs i).b<;>rw[ha,hb]at h2<;>simp[bi]at h2 ⊢ <;>omega
def sM (bs:List PB) (f:Nat->Int) (i u:Nat):Nat->Int:=fun j=>f j+if j=i then(if (bD bs i).a=u then 1 else -1)else 0
theorem EO {S:Nat->Bool} {bs:List PB} {f:Nat->Int} {i u:Nat} (hi:i<bs.length) (hu:(bD bs i).a=u∨(bD bs i).b=u):EN S bs (sM bs f i u)=EN S bs f+bi (S u)-bi (S (bh bs i u)):=by
 unfold EN sM
 have e:∀j,j<bs.length->(f j+if j=i then(if (bD bs i).a=u then 1 else -1)else 0)*(bi (S (bD bs j).a)-bi (S (bD bs j).b))=(fun j=>f j*(bi (S (bD bs j).a)-bi (S (bD bs j).b))) j+if j=i then(if (bD bs i).a=u then 1 else -1)*(bi (S (bD bs i).a)-bi (S (bD bs i).b))else 0:=by
  intro j hj
  by_cases h:j=i
  ·subst h;simp only[if_true];rw[Int.add_mul]
  ·simp only[h,if_false];simp
 rw[fS e,oL,if_pos hi]
 unfold bh
 by_cases ha:(bD bs i).a=u
 ·rw[if_pos ha,if_pos ha,ha];omega
 ·rw[if_neg ha,if_neg ha]
  rcases hu with hu|hu
  ·exact absurd hu ha
  ·rw[hu];omega
theorem nU:∀(n:Nat) (l:List Nat),l.Nodup->(∀x∈l,x<n)->l.length<=n
 |0,l,_,h=>by
  cases l with
  |nil=>simp
  |cons x l=>exact absurd (h x (by simp)) (by omega)
 |n+1,l,hn,h=>by
  have h1:=nU n (l.erase n) (hn.erase _) fun x hx=>by
   have h2:=(hn.mem_erase_iff).1 hx
   have h3:=h x h2.2
   have h4:=h2.1
   omega
  rw[List.length_erase]at h1
  split at h1<;>omega
end Go.Proofs.YtgoelphibofcmaaGreat.V

namespace Go.Proofs.YtgoelphibofcmaaGreat.V
def ef (L:Nat->Nat) (b:PB):Nat->Nat:=fun k=>if L k=max (L b.a) (L b.b)then min (L b.a) (L b.b)else L k
def dQ (bs:List PB):Nat->Nat:=bs.foldl ef id
theorem uK (bs:List PB) (b:PB):dQ (bs++[b])=ef (dQ bs) b:=by simp[dQ]
structure js (L:Nat->Nat):Prop where
 le:∀k,L k<=k
 idem:∀k,L (L k)=L k
theorem js.step {L:Nat->Nat} (h:js L) (b:PB):js (ef L b):=by
 have ha:=h.idem b.a
 have hb:=h.idem b.b
 refine⟨fun k=>?_,fun k=>?_⟩
 ·have:=h.le k
  unfold ef
  split<;>omega
 ·have hk:=h.idem k
  have hm:L (min (L b.a) (L b.b))=min (L b.a) (L b.b):=by
   rcases Nat.le_total (L b.a) (L b.b)with h1|h1
   ·rw[Nat.min_eq_left h1,ha]
   ·rw[Nat.min_eq_right h1,hb]
  unfold ef
  by_cases h1:L k=max (L b.a) (L b.b)
  ·rw[if_pos h1,hm];split<;>rfl
  ·rw[if_neg h1,hk,if_neg h1]
theorem uL:∀(bs:List PB) (L:Nat->Nat),js L->js (bs.foldl ef L)
 |[],_,h=>h
 |b::bs,L,h=>uL bs _ (h.step b)
theorem sH (bs:List PB):js (dQ bs):=uL bs id ⟨fun _=>Nat.le_refl _,fun _=>rfl⟩
def leads (n:Nat) (L:Nat->Nat):List Nat:=(List.range n).filter fun i=>L i==i
def members (n:Nat) (L:Nat->Nat) (i:Nat):List Nat:=(List.range n).filter fun k=>L k==i
def fc (n:Nat) (L:Nat->Nat):List (List Nat):=(leads n L).map (members n L)
def bf (L:Nat->Nat) (k:Nat):Nat:=(leads (L k) L).length
theorem gq (n:Nat) (L:Nat->Nat):leads (n+1) L=leads n L++if L n=n then[n]else[]:=by
 unfold leads
 rw[List.range_succ,List.filter_append]
 congr 1
 by_cases h:L n=n<;>simp[h]
theorem je (n:Nat) (L:Nat->Nat) (i:Nat):members (n+1) L i=members n L i++if L n=i then[n]else[]:=by
 unfold members
 rw[List.range_succ,List.filter_append]
 congr 1
 by_cases h:L n=i<;>simp[h]
theorem mu {L:Nat->Nat} (h:js L) {n i:Nat} (hn:n<=i):members n L i=[]:=by
 unfold members
 rw[List.filter_eq_nil_iff]
 intro k hk
 have:=h.le k
 have:=List.mem_range.1 hk
 simp;omega
theorem sI (n:Nat) (L:Nat->Nat):(leads n L).Nodup:=List.nodup_range.filter _
theorem xz {n:Nat} {L:Nat->Nat} {i:Nat}:i∈leads n L↔i<n/\L i=i:=by simp[leads]
theorem ll {n:Nat} {L:Nat->Nat} {i k:Nat}:k∈members n L i↔k<n/\L k=i:=by simp[members]
theorem FD {L:Nat->Nat} {m n:Nat} (h:m<=n):∃r,leads n L=leads m L++r:=by
 obtain⟨d,rfl⟩:=Nat.le.dest h
 clear h
 induction d with
 |zero=>exact⟨[],by simp⟩
 |succ d ih=>
  obtain⟨r,hr⟩:=ih
  exact⟨r++if L (m+d)=m+d then[m+d]else[],by rw[<-Nat.add_assoc,gq,hr,List.append_assoc]⟩
theorem oz {L:Nat->Nat} (h:js L) {n k:Nat} (hk:k<n):(leads n L)[bf L k]? =some (L k):=by
 have h1:=h.le k
 obtain⟨r,hr⟩:=FD (L:=L) (show L k+1<=n by omega)
 rw[hr,gq,if_pos (h.idem k),List.append_assoc]
 unfold bf
 rw[List.getElem?_append_right (Nat.le_refl _),Nat.sub_self];rfl
theorem jS {L:Nat->Nat} (h:js L) {n k:Nat} (hk:k<n):bf L k<(leads n L).length:=(List.getElem?_eq_some_iff.1 (oz h hk)).1
theorem rQ {L:Nat->Nat} (h:js L) {n k i:Nat} (hk:k<n) (hi:i<(leads n L).length):k∈members n L (leads n L)[i]↔bf L k=i:=by
 rw[ll]
 have h1:=oz h hk
 rw[List.getElem?_eq_getElem (jS h hk)]at h1
 injection h1 with h1
 constructor
 ·rintro⟨_,h2⟩
  rw[<-h1]at h2
  exact(List.getElem_inj (sI n L)).1 h2
 ·rintro rfl
  exact⟨hk,h1.symm⟩
def cL (L:Nat->Nat) (bs:List PB):List PB:=bs.filterMap fun b=>if bf L b.a=bf L b.b then none else some ⟨bf L b.a,bf L b.b,b.s⟩
def eP (L:Nat->Nat) (bs:List PB):List PB:=bs.filterMap fun b=>if bf L b.a=bf L b.b then none else some ⟨min (bf L b.a) (bf L b.b),max (bf L b.a) (bf L b.b),b.s⟩
theorem za (L:Nat->Nat) (bs:List PB) (b:PB):cL L (bs++[b])=cL L bs++if bf L b.a=bf L b.b then[]else[⟨bf L b.a,bf L b.b,b.s⟩]:=by
 unfold cL
 rw[List.filterMap_append]
 congr 1
 by_cases h:bf L b.a=bf L b.b<;>simp[h]
theorem zb (L:Nat->Nat) (bs:List PB) (b:PB):eP L (bs++[b])=eP L bs++if bf L b.a=bf L b.b then[]else[⟨min (bf L b.a) (bf L b.b),max (bf L b.a) (bf L b.b),b.s⟩]:=by
 unfold eP
 rw[List.filterMap_append]
 congr 1
 by_cases h:bf L b.a=bf L b.b<;>simp[h]
theorem rn (S:Nat->Bool) (b:PB) (bs:List PB):iP S (b::bs)=(if S b.a=S b.b then 0 else b.s)+iP S bs:=by simp[iP]
theorem w7 (S:Nat->Bool) (L:Nat->Nat):∀bs:List PB,iP S (eP L bs)=iP S (cL L bs)
 |[]=>rfl
 |b::bs=>by
  have ih:=w7 S L bs
  unfold eP cL at ih ⊢
  rw[List.filterMap_cons,List.filterMap_cons]
  by_cases h:bf L b.a=bf L b.b
  ·simp only[h,if_true];exact ih
  ·simp only[h,if_false]
   rw[rn,rn,ih]
   congr 1
   simp only
   rcases Nat.le_total (bf L b.a) (bf L b.b)with h1|h1
   ·rw[Nat.min_eq_left h1,Nat.max_eq_right h1]
   ·rw[Nat.min_eq_right h1,Nat.max_eq_left h1]
    cases S (bf L b.a)<;>cases S (bf L b.b)<;>rfl
theorem C7 {L:Nat->Nat} (h:js L) {n:Nat} {bs:List PB} (hb:∀b∈bs,b.a<n/\b.b<n):∀b∈cL L bs,b.a<(leads n L).length/\b.b<(leads n L).length/\b.a≠b.b/\∃c∈bs,b.s=c.s:=by
 intro b hm
 unfold cL at hm
 obtain⟨c,hc,he⟩:=List.mem_filterMap.1 hm
 split at he
 ·cases he
 ·rename_i fY
  simp only[Option.some.injEq]at he
  subst he
  exact⟨jS h (hb c hc).1,jS h (hb c hc).2,fY,c,hc,rfl⟩
theorem C8 {L:Nat->Nat} (h:js L) {n:Nat} {bs:List PB} (hb:∀b∈bs,b.a<n/\b.b<n):∀b∈eP L bs,b.a<(leads n L).length/\b.b<(leads n L).length/\b.a≠b.b/\∃c∈bs,b.s=c.s:=by
 intro b hm
 unfold eP at hm
 obtain⟨c,hc,he⟩:=List.mem_filterMap.1 hm
 split at he
 ·cases he
 ·rename_i fY
  simp only[Option.some.injEq]at he
  subst he
  have h1:=jS h (hb c hc).1
  have h2:=jS h (hb c hc).2
  refine⟨by simp only;omega,by simp only;omega,by simp only;omega,c,hc,rfl⟩
theorem mC (L:Nat->Nat) (bs:List PB):(cL L bs).length<=bs.length/\(eP L bs).length<=bs.length:=⟨List.length_filterMap_le ..,List.length_filterMap_le ..⟩
theorem jA (n:Nat) (L:Nat->Nat):(leads n L).length<=n:=by
 have:=List.length_filter_le (fun i=>L i==i) (List.range n)
 simpa[leads]using this
def aE (t:Int) (bs:List PB):List PB:=bs.filter fun b=>decide (t<=b.s)
def ot (n:Nat) (bs:List PB) (t:Int):Prop:=
 (leads n (dQ (aE t bs))).length<=64/\kh (leads n (dQ (aE t bs))).length (cL (dQ (aE t bs)) bs) t
theorem Cx {n:Nat} {L:Nat->Nat} {bs:List PB} {t:Int}:kh n (eP L bs) t↔kh n (cL L bs) t:=by
 unfold kh
 constructor<;>intro h S h0 hy<;>have:=h S h0 hy<;>rw[w7]at *<;>exact this
end Go.Proofs.YtgoelphibofcmaaGreat.V

namespace Go.Proofs.YtgoelphibofcmaaGreat.V
open Go.RowKit
attribute [local irreducible] dI wpOps ib Call
attribute [local go_sem] aJ gu eW gR gQ cE upd cw K.av cY AV.cells AV.cell rowOf rowsOf part ld rowAt bB cr dY eG jq bP dq eT gP fx dE eK dn dm eu ew bU bp db bR de dc eI eL eJ da cm dp eH bQ aO di cI jo bE cU bV aY du aV ea AV.undef bG bJ eA eE ei ep cJ eR eV cG eO eM dh dj List.getD_cons_zero List.getD_cons_succ List.getD_nil List.all_cons List.all_nil Bool.and_true Bool.true_and Bool.and_self Bool.not_true Bool.not_false Option.map_some Option.map_none Option.bind_some Option.bind_none List.length_cons List.length_nil List.take_succ_cons List.take_zero List.take_nil List.drop_succ_cons List.drop_zero List.drop_nil List.head?_cons List.map_cons List.map_nil List.getElem?_cons_zero List.getElem?_cons_succ List.cons_append List.nil_append List.append_nil List.length_map List.set_cons_zero List.set_cons_succ Nat.reduceMul eq_self Int.toNat_natCast Int.natCast_nonneg and_self true_and and_true decide_true decide_false Bool.false_eq_true Nat.zero_add Nat.add_zero List.contains_cons List.contains_nil Bool.or_false Bool.false_or beq_self_eq_true Nat.reduceBEq ne_eq not_true_eq_false not_false_eq_true Id.mk.injEq false_and and_false Nat.reduceLT Int.reduceLE Int.reduceLT Int.reduceToNat Int.reduceNeg Int.reduceAdd Nat.le_refl List.length_append beq_true beq_false Bool.not_eq_eq_eq_not or_false false_or eh ao aq aK br bI cC bc bz aQ bt cX cj
def ay (b:PB):List AV:=[.int .i64 b.a,.int .i64 b.b,.int .i64 b.s]
theorem LB:∀b:PB,(ay b).length=3/\(ay b).all AV.cell=true:=fun _=>⟨rfl,rfl⟩
theorem yf (g:Rows) (n:Nat) (b:PB):cH g (n+1) (ay b)=some (ay b):=by simp[ay,ao,aq,aK]
theorem tk (g:Rows) (n:Nat) (b:PB):dS g (n+1) (ay b)=some (ay b):=by simp[ay,aP,bx,dL]
theorem GY:NT ay (fun c=>.agg (ay c)) 3 true:=⟨fun _=>rfl,fun _=>rfl,fun x g=>by simp only[ay,ao,aq,bz,aK,Option.map_some]⟩
def mc (s:au) (l:List ae) (i:Nat) (d:Int):List PB:=
 if 0<=dZ l (bF (aG l i).aF d)/\0<gw s (aG l i).aN d (aG l (dZ l (bF (aG l i).aF d)).toNat).aN then
  [⟨i,(dZ l (bF (aG l i).aF d)).toNat,gw s (aG l i).aN d (aG l (dZ l (bF (aG l i).aF d)).toNat).aN⟩]else[]
def fM (s:au) (l:List ae) (i m:Nat):List PB:=(List.range m).flatMap fun j:Nat=>mc s l i (1-(j:Int))
def gn (s:au) (l:List ae) (n:Nat):List PB:=(List.range n).flatMap fun i=>fM s l i 2
def bL (s:au) (l:List ae):List PB:=gn s l l.length
theorem pa (s:au) (l:List ae) (i m:Nat):fM s l i (m+1)=fM s l i m++mc s l i (1-(m:Int)):=by simp[fM,List.range_succ]
theorem qj (s:au) (l:List ae) (n:Nat):gn s l (n+1)=gn s l n++fM s l n 2:=by simp[gn,List.range_succ]
theorem BW (s:au) (l:List ae) (i:Nat) (d:Int):(mc s l i d).length<=1:=by unfold mc;split<;>simp
theorem qi (s:au) (l:List ae) (i m:Nat):(fM s l i m).length<=m:=by
 induction m with
 |zero=>simp[fM]
 |succ m ih=>rw[pa,List.length_append];have:=BW s l i (1-(m:Int));omega
theorem sf (s:au) (l:List ae) (n:Nat):(gn s l n).length<=2*n:=by
 induction n with
 |zero=>simp[gn]
 |succ n ih=>rw[qj,List.length_append];have:=qi s l n 2;omega
def sB:Id->Prop:=fun o=>o.site=193001000∨o.site=193012006
theorem CI (s:au) (l:List ae) (hS:ke s) (hA:jw s l):aj Tryz.prog 193 [.bK (ab s),.bK [.sl (l.map ad)]] (.sl ((bL s l).map ay)):=by
 refine aj.body ej rfl fun hl n0=>?_
 clear hl
 have hF:=hA.1
 have An:=hF.so
 (try((repeat(revert hN;revert N;apply Pn.out));refine wk @Nat.zero_add ?_;(repeat(refine Pn.mk ?_;intro N hN))))
 refine aH (fun n env st=>∃k:Nat,n=(l.length)-k/\k<=(l.length)/\env 6=.int .i64 (k:Int)/\(l9 ay 3 (env 5) st.get sB (gn s l k))) (l.length) ⟨0,by omega,by omega,sl @Nat.zero_add,⟨⟨193001000,n0+1⟩,.inl rfl,by simp only[go_sem, ↓reduceIte,Nat.reduceEqDiff,Nat.reduceAdd,Nat.reduceSub,Nat.reduceLeDiff,reduceCtorEq];rfl,by simp only[go_sem, ↓reduceIte,Nat.reduceEqDiff,Nat.reduceAdd,Nat.reduceSub,Nat.reduceLeDiff,reduceCtorEq];rfl⟩⟩ ?_
 rintro n_a env_a st_a ⟨k,rfl,ale,a6,nf⟩ dt
 have a0:=dt 0 (by kernel_rfl);have a1:=dt 1 (by kernel_rfl)
 simp only[go_sem, ↓reduceIte,Nat.reduceEqDiff,Nat.reduceAdd,Nat.reduceSub,Nat.reduceLeDiff,reduceCtorEq]at a0 a1
 clear dt
 by_cases hk:(k:Int)<(l.length:Int)
 ·have bY:∀{e:Env} {gg:Rows},(e 6=.int .i64 (IntKind.i64.wrap ((k:Int)+1)))->(l9 ay 3 (e 5) gg sB (gn s l (k+1)))->∃m0,m0<(l.length)-k/\∃k:Nat,m0=(l.length)-k/\k<=(l.length)/\e 6=.int .i64 (k:Int)/\(l9 ay 3 (e 5) gg sB (gn s l k)):=fun x1 x2=>⟨_,by omega,k+1,rfl,by omega,(by rw[x1,ax (by omega)]),x2⟩
  have eZ:k<l.length:=by omega
  have eo:=fh eZ
  have SC:=sf s l k
  (try((repeat(revert hN;revert N;apply Pn.out));refine wk (tw @a6 (tw @a0 (tw @a1 @hk))) ?_;(repeat(refine Pn.mk ?_;intro N hN))))
  refine aH (fun n env st=>∃m:Nat,n=(2)-m/\m<=(2)/\env 7=(.int .i64 (1-(m:Int)))/\(l9 ay 3 (env 5) st.get sB (gn s l k++fM s l k m))) (2) ⟨0,by omega,by omega,sl (tw @a6 (tw @a0 @a1)),by(simp only[go_sem, ↓reduceIte,Nat.reduceEqDiff,Nat.reduceAdd,Nat.reduceSub,Nat.reduceLeDiff,reduceCtorEq];exact nf.cast (by simp[fM]))⟩ ?_
  rintro n_b env_b st_b ⟨m,rfl,ble,b7,bI0⟩ ec
  have b0:=ec 0 (by kernel_rfl);have b1:=ec 1 (by kernel_rfl);have b6:=ec 6 (by kernel_rfl)
  simp only[go_sem, ↓reduceIte,Nat.reduceEqDiff,Nat.reduceAdd,Nat.reduceSub,Nat.reduceLeDiff,reduceCtorEq,a6,a0,a1]at b0 b1 b6
  clear ec
  have QB:=qi s l k m
  have lh:=pa s l k m
  by_cases hm:(m:Int)<2
  ·have er:∀{e:Env} {gg:Rows},(e 7=(.int .i64 (1-((m+1):Int))))->(l9 ay 3 (e 5) gg sB (gn s l k++fM s l k (m+1)))->∃m0,m0<(2)-m/\∃m:Nat,m0=(2)-m/\m<=(2)/\e 7=(.int .i64 (1-(m:Int)))/\(l9 ay 3 (e 5) gg sB (gn s l k++fM s l k m)):=fun x1 x2=>⟨_,by omega,m+1,rfl,by omega,x1,x2⟩
   have ox:(0:Int)<=1-(m:Int):=by omega
   have hd:iM (1-(m:Int)) 0 3=true:=jc (by omega)
   have hw:IntKind.i64.wrap (1-(m:Int)-1)=1-((m:Int)+1):=by rw[aZ (by omega)];omega
   have QP:=wH l hF k (1-(m:Int)) eZ hd
   unfold mc at lh
   have hT:=hA.2 _ (gy eZ)
   generalize zF:dZ l (bF (aG l k).aF (1-(m:Int)))=ix at *
   by_cases hi:ix<0
   ·rw[if_neg (by omega),List.append_nil]at lh
    (repeat(first|((repeat(revert hN;revert N;apply Pn.out));refine wk (tw @b7 (tw @b0 (tw @b1 (tw @b6 (tw @ox (tw @hw @hi)))))) ?_;(repeat(refine Pn.mk ?_;intro N hN)))|((try apply Or.inl);refine⟨_,aj.x (QP) (sd (tw @b7 (tw @b0 (tw @b1 (tw @b6 (tw @ox (tw @hw @hi))))))),?_⟩;refine hN _ _ ?_;clear hN N)))
    exact er (sd (tw @b7 (tw @b0 (tw @b1 (tw @b6 @hw))))) (by(simp only[go_sem, ↓reduceIte,Nat.reduceEqDiff,Nat.reduceAdd,Nat.reduceSub,Nat.reduceLeDiff,reduceCtorEq];exact bI0.cast (by rw[lh])))
   ·have Gi:0<=ix:=by omega
    have MD:=lj (l:=l) (p:=bF (aG l k).aF (1-(m:Int))) (by omega)
    rw[zF]at MD
    have jY:=fh MD.1
    have s6:=xu s hS (aG l k).aN (1-(m:Int)) (aG l ix.toNat).aN hT (hA.2 _ (gy MD.1)) hd
    generalize Qz:gw s (aG l k).aN (1-(m:Int)) (aG l ix.toNat).aN=bv at *
    by_cases hb:0<bv
    ·rw[if_pos ⟨Gi,hb⟩]at lh
     (repeat(first|((repeat(revert hN;revert N;apply Pn.out));refine wa (tw @b7 (tw @b0 (tw @b1 (tw @b6 (tw @ox (tw @hw (tw @hi (tw @Gi (tw @eo (tw @jY (tw @hb @ad.eq_1))))))))))) ?_;(repeat(refine Pn.mk ?_;intro N hN)))|((try apply Or.inl);refine⟨_,aj.x (QP) (sd (tw @b7 (tw @b0 (tw @b1 (tw @b6 (tw @ox (tw @hw (tw @hi (tw @Gi (tw @eo (tw @jY (tw @hb @ad.eq_1)))))))))))),?_⟩;refine hN _ _ ?_;clear hN N)|((try apply Or.inl);refine⟨_,aj.x (s6) (sd (tw @b7 (tw @b0 (tw @b1 (tw @b6 (tw @ox (tw @hw (tw @hi (tw @Gi (tw @eo (tw @jY (tw @hb @ad.eq_1)))))))))))),?_⟩;refine hN _ _ ?_;clear hN N)))
     refine Nx (enc:=ay) (S:=sB) (L:=gn s l k++fM s l k m) (xv:=env_b 5) [⟨k,ix.toNat,bv⟩] rfl rfl (sd @Nat.zero_add) (bI0.frame fun o ho=>by rcases ho with ho|ho<;>simp only[go_sem, ↓reduceIte,Nat.reduceEqDiff,Nat.reduceAdd,Nat.reduceSub,Nat.reduceLeDiff,reduceCtorEq,zd ho]) (sd (tw @ay.eq_1 (Int.toNat_of_nonneg Gi))) LB (.inr rfl) (by simp only[ea,List.length_append,List.length_cons,List.length_nil];omega) fun v g' hO jl=>?_
     rw[List.append_assoc,<-lh]at hO
     clear jl
     (try((repeat(revert hN;revert N;apply Pn.out));refine wk (tw @b7 (tw @b0 (tw @b1 (tw @b6 @hw)))) ?_;(repeat(refine Pn.mk ?_;intro N hN))))
     exact er (sd (tw @b7 (tw @b0 (tw @b1 (tw @b6 @hw))))) (by(simp only[go_sem, ↓reduceIte,Nat.reduceEqDiff,Nat.reduceAdd,Nat.reduceSub,Nat.reduceLeDiff,reduceCtorEq];exact hO))
    ·rw[if_neg fun h=>hb h.2,List.append_nil]at lh
     (repeat(first|((repeat(revert hN;revert N;apply Pn.out));refine wk (tw @b7 (tw @b0 (tw @b1 (tw @b6 (tw @ox (tw @hw (tw @hi (tw @Gi (tw @eo (tw @jY (tw @hb @ad.eq_1))))))))))) ?_;(repeat(refine Pn.mk ?_;intro N hN)))|((try apply Or.inl);refine⟨_,aj.x (QP) (sd (tw @b7 (tw @b0 (tw @b1 (tw @b6 (tw @ox (tw @hw (tw @hi (tw @Gi (tw @eo (tw @jY (tw @hb @ad.eq_1)))))))))))),?_⟩;refine hN _ _ ?_;clear hN N)|((try apply Or.inl);refine⟨_,aj.x (s6) (sd (tw @b7 (tw @b0 (tw @b1 (tw @b6 (tw @ox (tw @hw (tw @hi (tw @Gi (tw @eo (tw @jY (tw @hb @ad.eq_1)))))))))))),?_⟩;refine hN _ _ ?_;clear hN N)))
     exact er (sd (tw @b7 (tw @b0 (tw @b1 (tw @b6 @hw))))) (by(simp only[go_sem, ↓reduceIte,Nat.reduceEqDiff,Nat.reduceAdd,Nat.reduceSub,Nat.reduceLeDiff,reduceCtorEq];exact bI0.cast (by rw[lh])))
  ·have N7:m=2:=by omega
   subst N7
   have dy:¬(0:Int)<=1-((2:Nat):Int):=by omega
   (try((repeat(revert hN;revert N;apply Pn.out));refine wk (tw @b7 (tw @b0 (tw @b1 (tw @b6 @dy)))) ?_;(repeat(refine Pn.mk ?_;intro N hN))))
   exact bY (sd (tw @a6 (tw @a0 (tw @a1 (tw @b7 (tw @b0 (tw @b1 @b6))))))) (by(simp only[go_sem, ↓reduceIte,Nat.reduceEqDiff,Nat.reduceAdd,Nat.reduceSub,Nat.reduceLeDiff,reduceCtorEq];exact bI0.cast (by rw[qj])))
 ·have kQ:k=l.length:=by omega
  (try((repeat(revert hN;revert N;apply Pn.out));refine wk (tw @a6 (tw @a0 (tw @a1 @hk))) ?_;(repeat(refine Pn.mk ?_;intro N hN))))
  exact vu (.inl rfl) (by simp only[go_sem, ↓reduceIte,Nat.reduceEqDiff,Nat.reduceAdd,Nat.reduceSub,Nat.reduceLeDiff,reduceCtorEq];rfl) (by rw[kQ]at nf;exact nf.fX fun b=>tk _ _ b)
end Go.Proofs.YtgoelphibofcmaaGreat.V

namespace Go.Proofs.YtgoelphibofcmaaGreat.V
open Go.RowKit
attribute [local irreducible] dI wpOps ib Call
attribute [local go_sem] aJ gu eW gR gQ cE upd cw K.av cY AV.cells AV.cell rowOf rowsOf part ld rowAt bB cr dY eG jq bP dq eT gP fx dE eK dn dm eu ew bU bp db bR de dc eI eL eJ da cm dp eH bQ aO di cI jo bE cU bV aY du aV ea AV.undef bG bJ eA eE ei ep cJ eR eV cG eO eM dh dj List.getD_cons_zero List.getD_cons_succ List.getD_nil List.all_cons List.all_nil Bool.and_true Bool.true_and Bool.and_self Bool.not_true Bool.not_false Option.map_some Option.map_none Option.bind_some Option.bind_none List.length_cons List.length_nil List.take_succ_cons List.take_zero List.take_nil List.drop_succ_cons List.drop_zero List.drop_nil List.head?_cons List.map_cons List.map_nil List.getElem?_cons_zero List.getElem?_cons_succ List.cons_append List.nil_append List.append_nil List.length_map List.set_cons_zero List.set_cons_succ Nat.reduceMul eq_self Int.toNat_natCast Int.natCast_nonneg and_self true_and and_true decide_true decide_false Bool.false_eq_true Nat.zero_add Nat.add_zero List.contains_cons List.contains_nil Bool.or_false Bool.false_or beq_self_eq_true Nat.reduceBEq ne_eq not_true_eq_false not_false_eq_true Id.mk.injEq false_and and_false Nat.reduceLT Int.reduceLE Int.reduceLT Int.reduceToNat Int.reduceNeg Int.reduceAdd Nat.le_refl List.length_append beq_true beq_false Bool.not_eq_eq_eq_not or_false false_or eh ao aq aK br bI cC bc bz aQ bt cX cj
theorem AK (a b:Nat):aj Tryz.prog 215 [.int .i64 a,.int .i64 b] (.int .i64 (min a b:Nat)):=by
 refine aj.body ej rfl fun hl n0=>?_
 clear hl
 by_cases h:(a:Int)<(b:Int)
 ·(try((repeat(revert hN;revert N;apply Pn.out));refine wk @h ?_;(repeat(refine Pn.mk ?_;intro N hN))))
  exact bj (b:=(a:Int)) (.inl rfl) (sd @Nat.zero_add) (by omega)
 ·(try((repeat(revert hN;revert N;apply Pn.out));refine wk @h ?_;(repeat(refine Pn.mk ?_;intro N hN))))
  exact bj (b:=(b:Int)) (.inl rfl) (sd @Nat.zero_add) (by omega)
theorem AJ (a b:Nat):aj Tryz.prog 216 [.int .i64 a,.int .i64 b] (.int .i64 (max a b:Nat)):=by
 refine aj.body ej rfl fun hl n0=>?_
 clear hl
 by_cases h:(b:Int)<(a:Int)
 ·(try((repeat(revert hN;revert N;apply Pn.out));refine wk @h ?_;(repeat(refine Pn.mk ?_;intro N hN))))
  exact bj (b:=(a:Int)) (.inl rfl) (sd @Nat.zero_add) (by omega)
 ·(try((repeat(revert hN;revert N;apply Pn.out));refine wk @h ?_;(repeat(refine Pn.mk ?_;intro N hN))))
  exact bj (b:=(b:Int)) (.inl rfl) (sd @Nat.zero_add) (by omega)
def dr (f:Nat->Nat) (n:Nat):List (List AV):=(List.range n).map fun i=>eN (f i)
theorem fQ (f:Nat->Nat) (n:Nat):(dr f n).length=n:=by simp[dr]
theorem e9 {f:Nat->Nat} {n i:Nat} (h:i<n):(dr f n)[i]? =some (eN (f i)):=by simp[dr,h]
theorem gH {f g:Nat->Nat} {n:Nat} (h:∀i,i<n->f i=g i):dr f n=dr g n:=List.map_congr_left fun i hi=>by rw[h i (List.mem_range.1 hi)]
theorem oM {f g:Nat->Nat} {n k v:Nat} (hk:k<n) (hv:g k=v) (h:∀i,i<n->i≠k->g i=f i):(dr f n).set k (eN v)=dr g n:=by
 refine List.ext_getElem? fun i=>?_
 rw[List.getElem?_set]
 by_cases hi:k=i
 ·subst hi
  rw[if_pos rfl,fQ,if_pos hk,e9 hk,hv]
 ·rw[if_neg hi]
  by_cases fA:i<n
  ·rw[e9 fA,e9 fA,h i fA (fun h=>hi h.symm)]
  ·rw[List.getElem?_eq_none (by rw[fQ];omega),List.getElem?_eq_none (by rw[fQ];omega)]
theorem AM (cnt:Nat) (hn:cnt<=1048576) (bs:List PB) (hb:∀b∈bs,b.a<cnt/\b.b<cnt) (ml:bs.length<=1048576):aj Tryz.prog 214 [.int .i64 cnt,.sl (bs.map ay)] (.sl ((fc cnt (dQ bs)).map zD)):=by
 refine aj.body ej rfl fun hl n0=>?_
 clear hl
 (try((repeat(revert hN;revert N;apply Pn.out));refine wk @Nat.zero_add ?_;(repeat(refine Pn.mk ?_;intro N hN))))
 refine aH (fun n env st=>∃k:Nat,n=(cnt)-k/\k<=(cnt)/\env 6=.int .i64 (k:Int)/\(∃o:Id,env 5=.own o 0 k/\st.get o=some ⟨true,1,dr id k⟩/\o.aW<st.next)) (cnt) ⟨0,by omega,by omega,sl @Nat.zero_add,⟨⟨214001000,n0+1⟩,sd @Nat.zero_add,by simp only[go_sem, ↓reduceIte,Nat.reduceEqDiff,Nat.reduceAdd,Nat.reduceSub,Nat.reduceLeDiff,reduceCtorEq];rfl,by(try dsimp only);omega⟩⟩ ?_
 rintro n_a env_a st_a ⟨k,rfl,ale,a6,nf⟩ dt
 have a0:=dt 0 (by kernel_rfl);have a1:=dt 1 (by kernel_rfl)
 simp only[go_sem, ↓reduceIte,Nat.reduceEqDiff,Nat.reduceAdd,Nat.reduceSub,Nat.reduceLeDiff,reduceCtorEq]at a0 a1
 clear dt
 obtain⟨o,a5,ag,lO⟩:=nf
 have tl:=fQ id k
 have pK:=dv lO
 by_cases hk:(k:Int)<(cnt:Int)
 ·have bY:∀{e:Env} {gg:Rows} {nx:Nat},(e 6=.int .i64 (IntKind.i64.wrap ((k:Int)+1)))->(∃o:Id,e 5=.own o 0 (k+1)/\gg o=some ⟨true,1,dr id (k+1)⟩/\o.aW<nx)->∃m0,m0<(cnt)-k/\∃k:Nat,m0=(cnt)-k/\k<=(cnt)/\e 6=.int .i64 (k:Int)/\(∃o:Id,e 5=.own o 0 k/\gg o=some ⟨true,1,dr id k⟩/\o.aW<nx):=fun x1 x2=>⟨_,by omega,k+1,rfl,by omega,(by rw[x1,ax (by omega)]),x2⟩
  have eZ:k<cnt:=by omega
  have e1:k+1<=16777216:=by omega
  have oY:dr id k++[[.int .i64 (k:Int)]]=dr id (k+1):=by simp[dr,List.range_succ,eN]
  (try((repeat(revert hN;revert N;apply Pn.out));refine wk (tw @a6 (tw @a0 (tw @a1 (tw @a5 (tw @ag (tw @pK (tw @hk (tw @tl (tw @e1 @oY))))))))) ?_;(repeat(refine Pn.mk ?_;intro N hN))))
  exact bY (sd (tw @a6 (tw @a0 @a1))) (⟨⟨214005003,st_a.next+1⟩,sd @Nat.zero_add,sd @oY,by(try dsimp only);omega⟩)
 have kQ:k=cnt:=by omega
 subst kQ
 have Sn:st_a.get o=some ⟨true,1,dr (dQ (bs.take 0)) k⟩:=ag
 clear ag
 (try((repeat(revert hN;revert N;apply Pn.out));refine wk (tw @a6 (tw @a0 (tw @a1 @hk))) ?_;(repeat(refine Pn.mk ?_;intro N hN))))
 refine aH (fun n env st=>∃j:Nat,n=(bs.length)-j/\j<=(bs.length)/\env 7=.int .i64 (j:Int)/\st.get o=some ⟨true,1,dr (dQ (bs.take j)) k⟩/\(o.aW<st.next)) (bs.length) ⟨0,by omega,by omega,sl (tw @a6 (tw @a0 (tw @a1 (tw @a5 @Sn)))),sl (tw @a6 (tw @a0 (tw @a1 (tw @a5 @Sn)))),(by(try dsimp only);omega)⟩ ?_
 rintro n_b env_b st_b ⟨j,rfl,ble,b7,bg0,bI0⟩ ec
 have b0:=ec 0 (by kernel_rfl);have b1:=ec 1 (by kernel_rfl);have b5:=ec 5 (by kernel_rfl)
 simp only[go_sem, ↓reduceIte,Nat.reduceEqDiff,Nat.reduceAdd,Nat.reduceSub,Nat.reduceLeDiff,reduceCtorEq,a6,a0,a1,a5,Sn]at b0 b1 b5
 clear ec
 by_cases hj:(j:Int)<(bs.length:Int)
 ·have er:∀{e:Env} {gg:Rows} {nx:Nat},(e 7=.int .i64 (IntKind.i64.wrap ((j:Int)+1)))->(gg o=some ⟨true,1,dr (dQ (bs.take (j+1))) k⟩)->(o.aW<nx)->∃m0,m0<(bs.length)-j/\∃j:Nat,m0=(bs.length)-j/\j<=(bs.length)/\e 7=.int .i64 (j:Int)/\gg o=some ⟨true,1,dr (dQ (bs.take j)) k⟩/\(o.aW<nx):=fun x1 x2 x3=>⟨_,by omega,j+1,rfl,by omega,(by rw[x1,ax (by omega)]),x2,x3⟩
  have nq:j<bs.length:=by omega
  have DV:(bs.map ay)[j]? =some (ay bs[j]):=by simp[nq]
  have K5:=hb _ (List.getElem_mem nq)
  have mV:bs.take (j+1)=bs.take j++[bs[j]]:=List.take_succ_eq_append_getElem nq
  have lh:dQ (bs.take (j+1))=ef (dQ (bs.take j)) bs[j]:=by rw[mV,uK]
  generalize dQ (bs.take j)=L at *
  generalize bs[j]=b at *
  have hA:=e9 (f:=L) K5.1
  have hB:=e9 (f:=L) K5.2
  have Qq:=AK (L b.a) (L b.b)
  have Qr:=AJ (L b.a) (L b.b)
  have tl:=fQ L k
  have gi:(b.a:Int)<(k:Int):=by omega
  have ft:(b.b:Int)<(k:Int):=by omega
  (try((repeat(revert hN;revert N;apply Pn.out));refine wk (tw @b7 (tw @bg0 (tw @b0 (tw @b1 (tw @b5 (tw @hj (tw @DV (tw @ay.eq_1 (tw @hA (tw @hB (tw @gi (tw @ft (tw @tl @eN.eq_1))))))))))))) ?_;(repeat(refine Pn.mk ?_;intro N hN))))
  refine aH (fun n env st=>∃i:Nat,n=(k)-i/\i<=(k)/\env 10=.int .i64 (i:Int)/\st.get o=some ⟨true,1,dr (fun x=>if x<i then ef L b x else L x) k⟩/\(o.aW<st.next)) (k) ⟨0,by omega,by omega,sl (tw @b7 (tw @bg0 (tw @b0 (tw @b1 (tw @b5 @Nat.not_lt_zero))))),sl (tw @b7 (tw @bg0 (tw @b0 (tw @b1 (tw @b5 @Nat.not_lt_zero))))),(by(try dsimp only);omega)⟩ ?_
  rintro n_c env_c st_c ⟨i,rfl,cle,jj,cg0,cI0⟩ cfr
  have c0:=cfr 0 (by kernel_rfl);have c1:=cfr 1 (by kernel_rfl);have c5:=cfr 5 (by kernel_rfl);have c7:=cfr 7 (by kernel_rfl);have c8:=cfr 8 (by kernel_rfl);have c9:=cfr 9 (by kernel_rfl)
  simp only[go_sem, ↓reduceIte,Nat.reduceEqDiff,Nat.reduceAdd,Nat.reduceSub,Nat.reduceLeDiff,reduceCtorEq,b7,bg0,b0,b1,b5,Nat.not_lt_zero]at c0 c1 c5 c7 c8 c9
  clear cfr
  have hC:=e9 (f:=fun x=>if x<i then ef L b x else L x) (n:=k) (i:=i)
  have tc:=fQ (fun x=>if x<i then ef L b x else L x) k
  by_cases hi:(i:Int)<(k:Int)
  ·have gM:∀{e:Env} {gg:Rows} {nx:Nat},(e 10=.int .i64 (IntKind.i64.wrap ((i:Int)+1)))->(gg o=some ⟨true,1,dr (fun x=>if x<(i+1)then ef L b x else L x) k⟩)->(o.aW<nx)->∃m0,m0<(k)-i/\∃i:Nat,m0=(k)-i/\i<=(k)/\e 10=.int .i64 (i:Int)/\gg o=some ⟨true,1,dr (fun x=>if x<i then ef L b x else L x) k⟩/\(o.aW<nx):=fun x1 x2 x3=>⟨_,by omega,i+1,rfl,by omega,(by rw[x1,ax (by omega)]),x2,x3⟩
   have fA:i<k:=by omega
   replace hC:=hC fA
   rw[if_neg (Nat.lt_irrefl i)]at hC
   by_cases he:L i=max (L b.a) (L b.b)
   ·have tt:decide ((L i:Int)=((max (L b.a) (L b.b):Nat):Int))=true:=decide_eq_true (by rw[he])
    have ev:(dr (fun x=>if x<i then ef L b x else L x) k).set i (eN (min (L b.a) (L b.b)))=dr (fun x=>if x<i+1 then ef L b x else L x) k:=oM fA (by rw[if_pos (by omega),ef,if_pos he]) fun x hx BF=>by
     by_cases h:x<i
     ·rw[if_pos h,if_pos (by omega)]
     ·rw[if_neg h,if_neg (by omega)]
    rw[eN]at ev hC
    (repeat(first|((repeat(revert hN;revert N;apply Pn.out));refine wk (tw @jj (tw @cg0 (tw @c0 (tw @c1 (tw @c5 (tw @c7 (tw @c8 (tw @c9 (tw @hi (tw @hC (tw @tc (tw @tt @ev)))))))))))) ?_;(repeat(refine Pn.mk ?_;intro N hN)))|((try apply Or.inl);refine⟨_,aj.x (Qq) (sd (tw @jj (tw @cg0 (tw @c0 (tw @c1 (tw @c5 (tw @c7 (tw @c8 (tw @c9 (tw @hi (tw @hC (tw @tc (tw @tt @ev))))))))))))),?_⟩;refine hN _ _ ?_;clear hN N)|((try apply Or.inl);refine⟨_,aj.x (Qr) (sd (tw @jj (tw @cg0 (tw @c0 (tw @c1 (tw @c5 (tw @c7 (tw @c8 (tw @c9 (tw @hi (tw @hC (tw @tc (tw @tt @ev))))))))))))),?_⟩;refine hN _ _ ?_;clear hN N)))
    refine gM ?_ ?_ (by(try dsimp only);omega)
    all_goals simp only[go_sem, ↓reduceIte,Nat.reduceEqDiff,Nat.reduceAdd,Nat.reduceSub,Nat.reduceLeDiff,reduceCtorEq,jj,cg0,c0,c1,c5,c7,c8,c9]
   ·have tt:decide ((L i:Int)=((max (L b.a) (L b.b):Nat):Int))=false:=decide_eq_false fun h=>he (by omega)
    have lP:dr (fun x=>if x<i then ef L b x else L x) k=dr (fun x=>if x<i+1 then ef L b x else L x) k:=gH fun x hx=>by
     by_cases h:x<i
     ·rw[if_pos h,if_pos (by omega)]
     ·by_cases BF:x=i
      ·subst BF;rw[if_neg h,if_pos (by omega),ef,if_neg he]
      ·rw[if_neg h,if_neg (by omega)]
    rw[eN]at hC
    (repeat(first|((repeat(revert hN;revert N;apply Pn.out));refine wk (tw @jj (tw @cg0 (tw @c0 (tw @c1 (tw @c5 (tw @c7 (tw @c8 (tw @c9 (tw @hi (tw @hC (tw @tc @tt))))))))))) ?_;(repeat(refine Pn.mk ?_;intro N hN)))|((try apply Or.inl);refine⟨_,aj.x (Qq) (sd (tw @jj (tw @cg0 (tw @c0 (tw @c1 (tw @c5 (tw @c7 (tw @c8 (tw @c9 (tw @hi (tw @hC (tw @tc @tt)))))))))))),?_⟩;refine hN _ _ ?_;clear hN N)|((try apply Or.inl);refine⟨_,aj.x (Qr) (sd (tw @jj (tw @cg0 (tw @c0 (tw @c1 (tw @c5 (tw @c7 (tw @c8 (tw @c9 (tw @hi (tw @hC (tw @tc @tt)))))))))))),?_⟩;refine hN _ _ ?_;clear hN N)))
    rw[lP]at cg0
    refine gM ?_ ?_ (by(try dsimp only);omega)
    all_goals simp only[go_sem, ↓reduceIte,Nat.reduceEqDiff,Nat.reduceAdd,Nat.reduceSub,Nat.reduceLeDiff,reduceCtorEq,jj,cg0,c0,c1,c5,c7,c8,c9]
  ·have xh:i=k:=by omega
   subst xh
   have dC:dr (fun x=>if x<i then ef L b x else L x) i=dr (ef L b) i:=gH fun x hx=>if_pos hx
   rw[dC]at cg0
   rw[<-lh]at cg0
   (try((repeat(revert hN;revert N;apply Pn.out));refine wk (tw @jj (tw @cg0 (tw @c0 (tw @c1 (tw @c5 (tw @c7 (tw @c8 (tw @c9 (tw @hi @tc))))))))) ?_;(repeat(refine Pn.mk ?_;intro N hN))))
   refine er ?_ ?_ (by(try dsimp only);omega)
   all_goals simp only[go_sem, ↓reduceIte,Nat.reduceEqDiff,Nat.reduceAdd,Nat.reduceSub,Nat.reduceLeDiff,reduceCtorEq,b7,bg0,b0,b1,b5,jj,cg0,c0,c1,c5,c7,c8,c9]
 have gm:j=bs.length:=by omega
 subst gm
 rw[List.take_length]at bg0
 have hL:=sH bs
 generalize dQ bs=L at *
 have tl:=fQ L k
 (try((repeat(revert hN;revert N;apply Pn.out));refine wk (tw @b7 (tw @bg0 (tw @b0 (tw @b1 (tw @b5 @hj))))) ?_;(repeat(refine Pn.mk ?_;intro N hN))))
 have MH:o.aW<st_b.next:=bI0
 refine aH (fun n env st=>∃i:Nat,n=(k)-i/\i<=(k)/\env 12=.int .i64 (i:Int)/\st.get o=some ⟨true,1,dr L k⟩/\(∃oo rows ids,env 11=.own oo 0 rows.length/\st.get oo=some ⟨true,1,rows⟩/\eQ NV st.get rows ((leads i L).map (members k L)) ids/\(∀x∈oo::ids,st_b.next<=x.aW/\x.aW<st.next)/\st_b.next<=st.next/\oo∉ids)) (k) ⟨0,by omega,by omega,sl (tw @b7 (tw @bg0 (tw @b0 (tw @b1 (tw @b5 (dv MH)))))),sl (tw @b7 (tw @bg0 (tw @b0 (tw @b1 (tw @b5 (dv MH)))))),⟨⟨214016000,st_b.next+1⟩,[],[],by(simp only[go_sem, ↓reduceIte,Nat.reduceEqDiff,Nat.reduceAdd,Nat.reduceSub,Nat.reduceLeDiff,reduceCtorEq])<;>rfl,sd @Nat.zero_add,.nil,fun x hx=>by rw[List.mem_singleton.1 hx];(try dsimp only);omega,by(try dsimp only);omega,by simp⟩⟩ ?_
 rintro n_d env_d st_d ⟨i,rfl,dle,d12,dg0,dI0⟩ dfr
 have d0:=dfr 0 (by kernel_rfl);have d5:=dfr 5 (by kernel_rfl)
 simp only[go_sem, ↓reduceIte,Nat.reduceEqDiff,Nat.reduceAdd,Nat.reduceSub,Nat.reduceLeDiff,reduceCtorEq,b7,bg0,b0,b1,b5,dv MH]at d0 d5
 clear dfr
 obtain⟨oo,rows,ids,d11,dg,hR,nu,hle,zI⟩:=dI0
 have oY:=gq i L
 have tx:=hR.len
 by_cases hi:(i:Int)<(k:Int)
 ·have sK:∀{e:Env} {gg:Rows} {nx:Nat},(e 12=.int .i64 (IntKind.i64.wrap ((i:Int)+1)))->(gg o=some ⟨true,1,dr L k⟩)->(∃oo rows ids,e 11=.own oo 0 rows.length/\gg oo=some ⟨true,1,rows⟩/\eQ NV gg rows ((leads (i+1) L).map (members k L)) ids/\(∀x∈oo::ids,st_b.next<=x.aW/\x.aW<nx)/\st_b.next<=nx/\oo∉ids)->∃m0,m0<(k)-i/\∃i:Nat,m0=(k)-i/\i<=(k)/\e 12=.int .i64 (i:Int)/\gg o=some ⟨true,1,dr L k⟩/\(∃oo rows ids,e 11=.own oo 0 rows.length/\gg oo=some ⟨true,1,rows⟩/\eQ NV gg rows ((leads i L).map (members k L)) ids/\(∀x∈oo::ids,st_b.next<=x.aW/\x.aW<nx)/\st_b.next<=nx/\oo∉ids):=fun x1 x2 x3=>⟨_,by omega,i+1,rfl,by omega,(by rw[x1,ax (by omega)]),x2,x3⟩
  have fA:i<k:=by omega
  have hC:=e9 (f:=L) fA
  have iU:=dv (i:=o) (n:=st_d.next) (by omega)
  have Px:=dv (i:=oo) (n:=st_d.next) (nu oo (by simp)).2
  by_cases he:L i=i
  ·rw[if_pos he]at oY
   have tt:decide ((L i:Int)=(i:Int))=true:=decide_eq_true (by rw[he])
   rw[eN]at hC
   (try((repeat(revert hN;revert N;apply Pn.out));refine wk (tw @d12 (tw @dg0 (tw @d0 (tw @d5 (tw @d11 (tw @dg (tw @hi (tw @hC (tw @tl (tw @tt (tw @iU @Px))))))))))) ?_;(repeat(refine Pn.mk ?_;intro N hN))))
   refine aH (fun n env st=>∃m:Nat,n=((k-i))-m/\m<=((k-i))/\env 14=(.int .i64 ((i+m:Nat):Int))/\(∃pp:Id,env 13=.own pp 0 (members (i+m) L i).length/\st.get pp=some ⟨true,1,(members (i+m) L i).map eN⟩/\st_d.next<=pp.aW/\pp.aW<st.next/\(∀x:Id,x.aW<st_d.next->st.get x=st_d.get x)/\st_d.next<=st.next)) ((k-i)) ⟨0,by omega,by omega,sl (tw @d12 (tw @dg0 (tw @d0 (tw @d5 @d11)))),⟨⟨214021000,st_d.next+1+1⟩,by rw[show members (i+0) L i=[]from mu hL (Nat.le_refl i)];(simp only[go_sem, ↓reduceIte,Nat.reduceEqDiff,Nat.reduceAdd,Nat.reduceSub,Nat.reduceLeDiff,reduceCtorEq])<;>rfl,by rw[show members (i+0) L i=[]from mu hL (Nat.le_refl i)];(simp only[go_sem, ↓reduceIte,Nat.reduceEqDiff,Nat.reduceAdd,Nat.reduceSub,Nat.reduceLeDiff,reduceCtorEq])<;>rfl,by(try dsimp only);omega,by(try dsimp only);omega,fun x hx=>sd (dv hx),by(try dsimp only);omega⟩⟩ ?_
   rintro n_f env_f st_f ⟨m,rfl,fle,f14,fI0⟩ ffr
   have f0:=ffr 0 (by kernel_rfl);have f5:=ffr 5 (by kernel_rfl);have f11:=ffr 11 (by kernel_rfl);have f12:=ffr 12 (by kernel_rfl)
   simp only[go_sem, ↓reduceIte,Nat.reduceEqDiff,Nat.reduceAdd,Nat.reduceSub,Nat.reduceLeDiff,reduceCtorEq,d12,dg0,d0,d5,d11]at f0 f5 f11 f12
   clear ffr
   obtain⟨pp,f13,fg,ML,Hq,jl,iR⟩:=fI0
   have uz:st_f.get o=some ⟨true,1,dr L k⟩:=(jl o (by omega)).trans dg0
   have R6:st_f.get oo=some ⟨true,1,rows⟩:=(jl oo (nu oo (by simp)).2).trans dg
   have q9:=dv Hq
   have AB:=dv (i:=o) (n:=st_f.next) (by omega)
   have Py:=dv (i:=oo) (n:=st_f.next) (by have:=(nu oo (by simp)).2;omega)
   have N8:members (i+(m+1)) L i=members (i+m) L i++if L (i+m)=i then[i+m]else[]:=je (i+m) L i
   have Sf:(members (i+m) L i).length<=i+m:=by
    have:=List.length_filter_le (fun k=>L k==i) (List.range (i+m))
    simpa[members]using this
   have x1:=cQ (a:=o) (b:=pp) (by omega)
   have x2:=cQ (a:=oo) (b:=pp) (by have:=(nu oo (by simp)).2;omega)
   have x3:=cQ (a:=o) (b:=oo) (by have:=(nu oo (by simp)).1;omega)
   by_cases hm:m<k-i
   ·have qD:∀{e:Env} {gg:Rows} {nx:Nat},(e 14=(.int .i64 ((i+(m+1):Nat):Int)))->(∃pp:Id,e 13=.own pp 0 (members (i+(m+1)) L i).length/\gg pp=some ⟨true,1,(members (i+(m+1)) L i).map eN⟩/\st_d.next<=pp.aW/\pp.aW<nx/\(∀x:Id,x.aW<st_d.next->gg x=st_d.get x)/\st_d.next<=nx)->∃m0,m0<((k-i))-m/\∃m:Nat,m0=((k-i))-m/\m<=((k-i))/\e 14=(.int .i64 ((i+m:Nat):Int))/\(∃pp:Id,e 13=.own pp 0 (members (i+m) L i).length/\gg pp=some ⟨true,1,(members (i+m) L i).map eN⟩/\st_d.next<=pp.aW/\pp.aW<nx/\(∀x:Id,x.aW<st_d.next->gg x=st_d.get x)/\st_d.next<=nx):=fun x1 x2=>⟨_,by omega,m+1,rfl,by omega,x1,x2⟩
    have QO:((i+m:Nat):Int)<(k:Int):=by omega
    have Rw:=e9 (f:=L) (show i+m<k by omega)
    have hw:IntKind.i64.wrap (((i+m:Nat):Int)+1)=((i+(m+1):Nat):Int):=by rw[aZ (by omega)];omega
    rw[eN]at Rw
    by_cases hq:L (i+m)=i
    ·have s7:decide ((L (i+m):Int)=(i:Int))=true:=decide_eq_true (by rw[hq])
     rw[if_pos hq]at N8
     have e1:(members (i+m) L i).length+1<=16777216:=by omega
     have pI:((members (i+m) L i).map eN).length=(members (i+m) L i).length:=by simp
     (try((repeat(revert hN;revert N;apply Pn.out));refine wk (tw @f14 (tw @f0 (tw @f5 (tw @f11 (tw @f12 (tw @f13 (tw @fg (tw @uz (tw @QO (tw @Rw (tw @tl (tw @s7 (tw @q9 (tw @AB (tw @x1 (tw @e1 @pI)))))))))))))))) ?_;(repeat(refine Pn.mk ?_;intro N hN))))
     exact qD (sd (tw @f14 (tw @f0 (tw @f5 (tw @f11 (tw @f12 (tw @uz (tw @hw (tw @AB @x1))))))))) (⟨⟨214026003,st_f.next+1+1⟩,by rw[N8,List.length_append];simp only[go_sem, ↓reduceIte,Nat.reduceEqDiff,Nat.reduceAdd,Nat.reduceSub,Nat.reduceLeDiff,reduceCtorEq,List.length_cons,List.length_nil],by rw[N8,List.map_append,List.map_cons,List.map_nil];simp only[go_sem, ↓reduceIte,Nat.reduceEqDiff,Nat.reduceAdd,Nat.reduceSub,Nat.reduceLeDiff,reduceCtorEq,eN],by(try dsimp only);omega,by(try dsimp only);omega,fun x hx=>by
      have y1:=jl x hx
      have y2:=cQ (a:=x) (b:=pp) (by omega)
      simp only[go_sem, ↓reduceIte,Nat.reduceEqDiff,Nat.reduceAdd,Nat.reduceSub,Nat.reduceLeDiff,reduceCtorEq,dv (show x.aW<st_f.next by omega),y1,y2],by(try dsimp only);omega⟩)
    ·have s7:decide ((L (i+m):Int)=(i:Int))=false:=decide_eq_false fun h=>hq (by omega)
     rw[if_neg hq,List.append_nil]at N8
     (try((repeat(revert hN;revert N;apply Pn.out));refine wk (tw @f14 (tw @f0 (tw @f5 (tw @f11 (tw @f12 (tw @f13 (tw @fg (tw @uz (tw @QO (tw @Rw (tw @tl (tw @s7 (tw @q9 (tw @AB @x1)))))))))))))) ?_;(repeat(refine Pn.mk ?_;intro N hN))))
     exact qD (sd (tw @f14 (tw @f0 (tw @f5 (tw @f11 (tw @f12 (tw @uz @hw))))))) (⟨pp,by rw[N8];simp only[go_sem, ↓reduceIte,Nat.reduceEqDiff,Nat.reduceAdd,Nat.reduceSub,Nat.reduceLeDiff,reduceCtorEq,f13],by rw[N8];simp only[go_sem, ↓reduceIte,Nat.reduceEqDiff,Nat.reduceAdd,Nat.reduceSub,Nat.reduceLeDiff,reduceCtorEq,fg],ML,by(try dsimp only);omega,jl,by(try dsimp only);omega⟩)
   ·have hmk:i+m=k:=by omega
    have QO:¬((i+m:Nat):Int)<(k:Int):=by omega
    rw[hmk]at f13 fg Sf
    have e1:rows.length+1<=16777216:=by
     have:=jA i L
     rw[tx,List.length_map];omega
    (try((repeat(revert hN;revert N;apply Pn.out));refine wk (tw @f14 (tw @f0 (tw @f5 (tw @f11 (tw @f12 (tw @f13 (tw @fg (tw @uz (tw @R6 (tw @QO (tw @q9 (tw @AB (tw @Py (tw @x1 (tw @x2 @e1))))))))))))))) ?_;(repeat(refine Pn.mk ?_;intro N hN))))
    refine sK ?_ ?_ (⟨⟨214027003,st_f.next+1⟩,rows++[[.own pp 0 (members k L i).length]],ids++[pp],by rw[List.length_append];simp only[go_sem, ↓reduceIte,Nat.reduceEqDiff,Nat.reduceAdd,Nat.reduceSub,Nat.reduceLeDiff,reduceCtorEq,List.length_cons,List.length_nil],sd @Nat.zero_add,by
      rw[oY,List.map_append]
      refine(hR.frame Kf fun x hx=>?_).app (.one ⟨pp,rfl,?_,rfl⟩)
      ·have h1:=nu x (by simp[hx])
       have y1:=jl x h1.2
       have y2:=cQ (a:=x) (b:=pp) (by omega)
       have y3:(x=oo)=False:=by
        simp only[eq_iff_iff,iff_false]
        rintro rfl
        exact zI hx
       simp only[go_sem, ↓reduceIte,Nat.reduceEqDiff,Nat.reduceAdd,Nat.reduceSub,Nat.reduceLeDiff,reduceCtorEq,dv (show x.aW<st_f.next by omega),y1,y2,y3]
      ·simp only[go_sem, ↓reduceIte,Nat.reduceEqDiff,Nat.reduceAdd,Nat.reduceSub,Nat.reduceLeDiff,reduceCtorEq,q9,x2,fg],fun x hx=>by
      rcases List.mem_cons.1 hx with rfl|hx
      ·(try dsimp only);omega
      ·rcases List.mem_append.1 hx with hx|hx
       ·have:=nu x (by simp[hx]);(try dsimp only);omega
       ·rw[List.mem_singleton.1 hx];(try dsimp only);omega,by(try dsimp only);omega,fun hc=>by
      rcases List.mem_append.1 hc with hc|hc
      ·have:=(nu _ (List.mem_cons_of_mem _ hc)).2;(try dsimp only at this);omega
      ·have:=List.mem_singleton.1 hc;rw[<-this]at Hq;(try dsimp only at Hq);omega⟩)
    all_goals simp only[go_sem, ↓reduceIte,Nat.reduceEqDiff,Nat.reduceAdd,Nat.reduceSub,Nat.reduceLeDiff,reduceCtorEq,f14,f0,f5,f11,f12,uz,AB,x3]
  ·rw[if_neg he,List.append_nil]at oY
   have tt:decide ((L i:Int)=(i:Int))=false:=decide_eq_false fun h=>he (by omega)
   rw[eN]at hC
   (try((repeat(revert hN;revert N;apply Pn.out));refine wk (tw @d12 (tw @dg0 (tw @d0 (tw @d5 (tw @d11 (tw @dg (tw @hi (tw @hC (tw @tl (tw @tt (tw @iU @Px))))))))))) ?_;(repeat(refine Pn.mk ?_;intro N hN))))
   refine sK ?_ ?_ (⟨oo,rows,ids,sd @d11,sd @dg,by rw[oY];exact hR,fun x hx=>by have:=nu x hx;(try dsimp only);omega,by(try dsimp only);omega,zI⟩)
   all_goals simp only[go_sem, ↓reduceIte,Nat.reduceEqDiff,Nat.reduceAdd,Nat.reduceSub,Nat.reduceLeDiff,reduceCtorEq,d12,dg0,d0,d5]
 ·have xh:i=k:=by omega
  (try((repeat(revert hN;revert N;apply Pn.out));refine wk (tw @d12 (tw @dg0 (tw @d0 (tw @d5 (tw @d11 (tw @dg @hi)))))) ?_;(repeat(refine Pn.mk ?_;intro N hN))))
  refine vu (.inl rfl) (by simp only[go_sem, ↓reduceIte,Nat.reduceEqDiff,Nat.reduceAdd,Nat.reduceSub,Nat.reduceLeDiff,reduceCtorEq];rfl) ?_
  rw[tn dg (by simp) (rows':=(fc k L).map zD) (by rw[List.drop_zero,List.take_of_length_le (Nat.le_refl _)];rw[xh]at hR;exact HO 3 hR)]
end Go.Proofs.YtgoelphibofcmaaGreat.V

namespace Go.Proofs.YtgoelphibofcmaaGreat.V
open Go.RowKit
attribute [local irreducible] dI wpOps ib Call
attribute [local go_sem] aJ gu eW gR gQ cE upd cw K.av cY AV.cells AV.cell rowOf rowsOf part ld rowAt bB cr dY eG jq bP dq eT gP fx dE eK dn dm eu ew bU bp db bR de dc eI eL eJ da cm dp eH bQ aO di cI jo bE cU bV aY du aV ea AV.undef bG bJ eA eE ei ep cJ eR eV cG eO eM dh dj List.getD_cons_zero List.getD_cons_succ List.getD_nil List.all_cons List.all_nil Bool.and_true Bool.true_and Bool.and_self Bool.not_true Bool.not_false Option.map_some Option.map_none Option.bind_some Option.bind_none List.length_cons List.length_nil List.take_succ_cons List.take_zero List.take_nil List.drop_succ_cons List.drop_zero List.drop_nil List.head?_cons List.map_cons List.map_nil List.getElem?_cons_zero List.getElem?_cons_succ List.cons_append List.nil_append List.append_nil List.length_map List.set_cons_zero List.set_cons_succ Nat.reduceMul eq_self Int.toNat_natCast Int.natCast_nonneg and_self true_and and_true decide_true decide_false Bool.false_eq_true Nat.zero_add Nat.add_zero List.contains_cons List.contains_nil Bool.or_false Bool.false_or beq_self_eq_true Nat.reduceBEq ne_eq not_true_eq_false not_false_eq_true Id.mk.injEq false_and and_false Nat.reduceLT Int.reduceLE Int.reduceLT Int.reduceToNat Int.reduceNeg Int.reduceAdd Nat.le_refl List.length_append beq_true beq_false Bool.not_eq_eq_eq_not or_false false_or eh ao aq aK br bI cC bc bz aQ bt cX cj
theorem vM (n:Nat):List.replicate n [AV.int .i64 0]=dr (fun _=>0) n:=by
 refine List.ext_getElem? fun i=>?_
 by_cases h:i<n
 ·rw[e9 h,List.getElem?_replicate,if_pos h];rfl
 ·rw[List.getElem?_eq_none (by simp;omega),List.getElem?_eq_none (by rw[fQ];omega)]
def ck (cnt:Nat) (L:Nat->Nat) (i m:Nat):Nat->Nat:=fun x=>if bf L x<i then bf L x else if x∈(members cnt L ((leads cnt L).getD i 0)).take m then i else 0
theorem nS (cnt:Nat) (L:Nat->Nat):ck cnt L 0 0=fun _=>0:=by funext x;simp[ck]
theorem sQ (t:Int) (bs:List PB) (k:Nat) (h:k<bs.length):aE t (bs.take (k+1))=aE t (bs.take k)++if t<=(bs[k]).s then[bs[k]]else[]:=by
 unfold aE
 rw[List.take_succ_eq_append_getElem h,List.filter_append]
 congr 1
 by_cases h:t<=bs[k].s<;>simp[h]
theorem vI {t:Int} {bs:List PB} {b:PB} (h:b∈aE t bs):b∈bs:=(List.mem_filter.1 h).1
theorem mD (t:Int) (bs:List PB):(aE t bs).length<=bs.length:=List.length_filter_le _ _
theorem AO (cnt:Nat) (hn:cnt<=1048576) (bs:List PB) (hb:∀b∈bs,b.a<cnt/\b.b<cnt) (ml:bs.length<=1048576) (t:Int):aj Tryz.prog 192 [.int .i64 cnt,.sl (bs.map ay),.int .i64 t] (.gN [.int .i64 (leads cnt (dQ (aE t bs))).length,.sl ((eP (dQ (aE t bs)) bs).map ay)]):=by
 refine aj.body ej rfl fun hl n0=>?_
 clear hl
 (try((repeat(revert hN;revert N;apply Pn.out));refine wk @Nat.zero_add ?_;(repeat(refine Pn.mk ?_;intro N hN))))
 refine aH (fun n env st=>∃k:Nat,n=(bs.length)-k/\k<=(bs.length)/\env 9=.int .i64 (k:Int)/\(∃o:Id,env 8=.own o 0 (aE t (bs.take k)).length/\st.get o=some ⟨true,3,(aE t (bs.take k)).map ay⟩/\o.aW<st.next)) (bs.length) ⟨0,by omega,by omega,sl @Nat.zero_add,⟨⟨192001000,n0+1⟩,by(simp only[go_sem, ↓reduceIte,Nat.reduceEqDiff,Nat.reduceAdd,Nat.reduceSub,Nat.reduceLeDiff,reduceCtorEq])<;>rfl,by(simp only[go_sem, ↓reduceIte,Nat.reduceEqDiff,Nat.reduceAdd,Nat.reduceSub,Nat.reduceLeDiff,reduceCtorEq])<;>rfl,by(try dsimp only);omega⟩⟩ ?_
 rintro n_a env_a st_a ⟨k,rfl,ale,a9,nf⟩ dt
 have a0:=dt 0 (by kernel_rfl);have a1:=dt 1 (by kernel_rfl);have a2:=dt 2 (by kernel_rfl)
 simp only[go_sem, ↓reduceIte,Nat.reduceEqDiff,Nat.reduceAdd,Nat.reduceSub,Nat.reduceLeDiff,reduceCtorEq]at a0 a1 a2
 clear dt
 obtain⟨o,a8,ag,lO⟩:=nf
 have pK:=dv lO
 by_cases hk:(k:Int)<(bs.length:Int)
 ·have bY:∀{e:Env} {gg:Rows} {nx:Nat},(e 9=.int .i64 (IntKind.i64.wrap ((k:Int)+1)))->(∃o:Id,e 8=.own o 0 (aE t (bs.take (k+1))).length/\gg o=some ⟨true,3,(aE t (bs.take (k+1))).map ay⟩/\o.aW<nx)->∃m0,m0<(bs.length)-k/\∃k:Nat,m0=(bs.length)-k/\k<=(bs.length)/\e 9=.int .i64 (k:Int)/\(∃o:Id,e 8=.own o 0 (aE t (bs.take k)).length/\gg o=some ⟨true,3,(aE t (bs.take k)).map ay⟩/\o.aW<nx):=fun x1 x2=>⟨_,by omega,k+1,rfl,by omega,(by rw[x1,ax (by omega)]),x2⟩
  have eZ:k<bs.length:=by omega
  have eo:(bs.map ay)[k]? =some (ay bs[k]):=by simp[eZ]
  have hs:=sQ t bs k eZ
  have Az:=mD t (bs.take k)
  rw[List.length_take]at Az
  by_cases hc:t<=(bs[k]).s
  ·rw[if_pos hc]at hs
   have e1:(aE t (bs.take k)).length+1<=16777216:=by omega
   have pI:((aE t (bs.take k)).map ay).length=(aE t (bs.take k)).length:=by simp
   generalize bs[k]=b at *
   (try((repeat(revert hN;revert N;apply Pn.out));refine wk (tw @a9 (tw @a0 (tw @a1 (tw @a2 (tw @a8 (tw @ag (tw @pK (tw @hk (tw @eo (tw @hc (tw @e1 (tw @pI @ay.eq_1)))))))))))) ?_;(repeat(refine Pn.mk ?_;intro N hN))))
   exact bY (sd (tw @a9 (tw @a0 (tw @a1 @a2)))) (⟨⟨192006006,st_a.next+1+1⟩,by rw[hs,List.length_append];simp only[go_sem, ↓reduceIte,Nat.reduceEqDiff,Nat.reduceAdd,Nat.reduceSub,Nat.reduceLeDiff,reduceCtorEq,List.length_cons,List.length_nil],by rw[hs,List.map_append,List.map_cons,List.map_nil];simp only[go_sem, ↓reduceIte,Nat.reduceEqDiff,Nat.reduceAdd,Nat.reduceSub,Nat.reduceLeDiff,reduceCtorEq,ay],by(try dsimp only);omega⟩)
  ·rw[if_neg hc,List.append_nil]at hs
   generalize bs[k]=b at *
   (try((repeat(revert hN;revert N;apply Pn.out));refine wk (tw @a9 (tw @a0 (tw @a1 (tw @a2 (tw @a8 (tw @ag (tw @pK (tw @hk (tw @eo (tw @hc @ay.eq_1)))))))))) ?_;(repeat(refine Pn.mk ?_;intro N hN))))
   exact bY (sd (tw @a9 (tw @a0 (tw @a1 @a2)))) (⟨o,by rw[hs];simp only[go_sem, ↓reduceIte,Nat.reduceEqDiff,Nat.reduceAdd,Nat.reduceSub,Nat.reduceLeDiff,reduceCtorEq,a8],by rw[hs];simp only[go_sem, ↓reduceIte,Nat.reduceEqDiff,Nat.reduceAdd,Nat.reduceSub,Nat.reduceLeDiff,reduceCtorEq,ag],by(try dsimp only);omega⟩)
 have kQ:k=bs.length:=by omega
 subst kQ
 rw[List.take_length]at a8 ag
 have Gh:=AM cnt hn (aE t bs) (fun b h=>hb b (vI h)) (by have:=mD t bs;omega)
 have hL:=sH (aE t bs)
 have BA:fz (eh st_a.get) 6 (.own o 0 (aE t bs).length)=some (.sl ((aE t bs).map ay)):=jx (sz:=3) (by simp[eh,ag]) rfl fun b=>yf _ 4 b
 have R4:∀x,cH (eh st_a.get) 6 [.int .i64 x,.own o 0 (aE t bs).length]=some [.int .i64 x,.sl ((aE t bs).map ay)]:=fun x=>by simp only[ao,aq,aK,BA,Option.map_some]
 (try((repeat(revert hN;revert N;apply Pn.out));refine wk (tw @a9 (tw @a0 (tw @a1 (tw @a2 (tw @a8 @hk))))) ?_;(repeat(refine Pn.mk ?_;intro N hN))))
 refine .inl ⟨_,aj.x Gh (R4 _),?_⟩
 refine hN _ _ ?_
 clear hN N
 generalize dQ (aE t bs)=L at *
 have rI:((fc cnt L).map zD).length=(leads cnt L).length:=by simp[fc]
 have QL:=jA cnt L
 have ju:(0:Int)<=(cnt:Int):=by omega
 have pc:(cnt:Int)<=((16777216:Nat):Int):=by omega
 have gj:List.replicate cnt [AV.int .i64 0]=dr (ck cnt L 0 0) cnt:=by rw[vM,nS]
 (try((repeat(revert hN;revert N;apply Pn.out));refine wk (tw @a9 (tw @a0 (tw @a1 (tw @a2 (tw @ju (tw @pc @Int.le_refl)))))) ?_;(repeat(refine Pn.mk ?_;intro N hN))))
 refine aH (fun n env st=>∃i:Nat,n=((leads cnt L).length)-i/\i<=((leads cnt L).length)/\env 12=.int .i64 (i:Int)/\st.get ⟨192008001,st_a.next+1+1⟩=some ⟨true,1,dr (ck cnt L i 0) cnt⟩/\(st_a.next+1+1<st.next)) ((leads cnt L).length) ⟨0,by omega,by omega,sl (tw @a9 (tw @a0 (tw @a1 (tw @a2 @gj)))),sl (tw @a9 (tw @a0 (tw @a1 (tw @a2 @gj)))),(by(try dsimp only);omega)⟩ ?_
 rintro n_c env_c st_c ⟨i,rfl,cle,xY,cg0,cI0⟩ cfr
 have c1:=cfr 1 (by kernel_rfl);have jj:=cfr 10 (by kernel_rfl);have nj:=cfr 11 (by kernel_rfl)
 simp only[go_sem, ↓reduceIte,Nat.reduceEqDiff,Nat.reduceAdd,Nat.reduceSub,Nat.reduceLeDiff,reduceCtorEq,a9,a0,a1,a2,gj]at c1 jj nj
 clear cfr
 by_cases hi:(i:Int)<((leads cnt L).length:Int)
 ·have gM:∀{e:Env} {gg:Rows} {nx:Nat},(e 12=.int .i64 (IntKind.i64.wrap ((i:Int)+1)))->(gg ⟨192008001,st_a.next+1+1⟩=some ⟨true,1,dr (ck cnt L (i+1) 0) cnt⟩)->(st_a.next+1+1<nx)->∃m0,m0<((leads cnt L).length)-i/\∃i:Nat,m0=((leads cnt L).length)-i/\i<=((leads cnt L).length)/\e 12=.int .i64 (i:Int)/\gg ⟨192008001,st_a.next+1+1⟩=some ⟨true,1,dr (ck cnt L i 0) cnt⟩/\(st_a.next+1+1<nx):=fun x1 x2 x3=>⟨_,by omega,i+1,rfl,by omega,(by rw[x1,ax (by omega)]),x2,x3⟩
  have fA:i<(leads cnt L).length:=by omega
  have jY:((fc cnt L).map zD)[i]? =some (zD (members cnt L (leads cnt L)[i])):=by simp[fc,fA]
  have tu:(leads cnt L).getD i 0=(leads cnt L)[i]:=by simp[List.getD_eq_getElem?_getD,fA]
  have AA:∀m,ck cnt L i m=fun x=>if bf L x<i then bf L x else if x∈(members cnt L (leads cnt L)[i]).take m then i else 0:=fun m=>by unfold ck;rw[tu]
  have qq:=fun x (hx:x<cnt)=>rQ hL (n:=cnt) (k:=x) (i:=i) hx fA
  have oy:(members cnt L (leads cnt L)[i]).Nodup:=List.nodup_range.filter _
  have Jb:∀x∈members cnt L (leads cnt L)[i],x<cnt:=fun x hx=>(ll.1 hx).1
  have hMc:(members cnt L (leads cnt L)[i]).length<=cnt:=by
   have:=List.length_filter_le (fun k=>L k==(leads cnt L)[i]) (List.range cnt)
   simpa[members]using this
  generalize members cnt L (leads cnt L)[i]=M at *
  have Bz:(M.map eN).length=M.length:=by simp
  (try((repeat(revert hN;revert N;apply Pn.out));refine wk (tw @xY (tw @cg0 (tw @c1 (tw @jj (tw @nj (tw @hi @rI)))))) ?_;(repeat(refine Pn.mk ?_;intro N hN))))
  refine aH (fun n env st=>∃m:Nat,n=(M.length)-m/\m<=(M.length)/\env 13=.int .i64 (m:Int)/\st.get ⟨192008001,st_a.next+1+1⟩=some ⟨true,1,dr (ck cnt L i m) cnt⟩/\(st_a.next+1+1<st.next)) (M.length) ⟨0,by omega,by omega,sl (tw @xY (tw @cg0 (tw @c1 (tw @jj @nj)))),sl (tw @xY (tw @cg0 (tw @c1 (tw @jj @nj)))),(by(try dsimp only);omega)⟩ ?_
  rintro n_d env_d st_d ⟨m,rfl,dle,d13,dg0,dI0⟩ dfr
  have d1:=dfr 1 (by kernel_rfl);have d10:=dfr 10 (by kernel_rfl);have d11:=dfr 11 (by kernel_rfl);have d12:=dfr 12 (by kernel_rfl)
  simp only[go_sem, ↓reduceIte,Nat.reduceEqDiff,Nat.reduceAdd,Nat.reduceSub,Nat.reduceLeDiff,reduceCtorEq,xY,cg0,c1,jj,nj]at d1 d10 d11 d12
  clear dfr
  have tl:=fQ (ck cnt L i m) cnt
  by_cases hm:(m:Int)<(M.length:Int)
  ·have sK:∀{e:Env} {gg:Rows} {nx:Nat},(e 13=.int .i64 (IntKind.i64.wrap ((m:Int)+1)))->(gg ⟨192008001,st_a.next+1+1⟩=some ⟨true,1,dr (ck cnt L i (m+1)) cnt⟩)->(st_a.next+1+1<nx)->∃m0,m0<(M.length)-m/\∃m:Nat,m0=(M.length)-m/\m<=(M.length)/\e 13=.int .i64 (m:Int)/\gg ⟨192008001,st_a.next+1+1⟩=some ⟨true,1,dr (ck cnt L i m) cnt⟩/\(st_a.next+1+1<nx):=fun x1 x2 x3=>⟨_,by omega,m+1,rfl,by omega,(by rw[x1,ax (by omega)]),x2,x3⟩
   have yv:m<M.length:=by omega
   have uy:(M.map eN)[m]? =some (eN M[m]):=by simp[yv]
   have uE:=Jb _ (List.getElem_mem yv)
   have BF:(M[m]:Int)<(cnt:Int):=by omega
   have BE:=e9 (f:=ck cnt L i m) uE
   have ev:(dr (ck cnt L i m) cnt).set M[m] (eN i)=dr (ck cnt L i (m+1)) cnt:=oM uE (by
    have h1:=(qq _ uE).1 (List.getElem_mem yv)
    rw[AA]
    simp only[]
    rw[if_neg (by omega),if_pos (by rw[List.take_succ_eq_append_getElem yv];exact List.mem_append_right _ (List.mem_singleton.2 rfl))]) fun x hx fY=>by
    rw[AA,AA]
    simp only[]
    rw[List.take_succ_eq_append_getElem yv]
    simp only[List.mem_append,List.mem_singleton,fY,or_false]
   rw[eN]at ev BE
   generalize M[m]=xm at *
   (try((repeat(revert hN;revert N;apply Pn.out));refine wk (tw @d13 (tw @dg0 (tw @d1 (tw @d10 (tw @d11 (tw @d12 (tw @hm (tw @hi (tw @jY (tw @rI (tw @uy (tw @Bz (tw @BF (tw @BE (tw @tl (tw @ev (tw @zD.eq_1 @eN.eq_1))))))))))))))))) ?_;(repeat(refine Pn.mk ?_;intro N hN))))
   refine sK ?_ ?_ (by(try dsimp only);omega)
   all_goals simp only[go_sem, ↓reduceIte,Nat.reduceEqDiff,Nat.reduceAdd,Nat.reduceSub,Nat.reduceLeDiff,reduceCtorEq,d13,dg0,d1,d10,d11,d12,ev]
  ·have pI:m=M.length:=by omega
   subst pI
   have iR:dr (ck cnt L i M.length) cnt=dr (ck cnt L (i+1) 0) cnt:=gH fun x hx=>by
    rw[AA,List.take_length]
    simp only[ck,List.take_zero,List.not_mem_nil,if_false]
    have h1:=qq x hx
    by_cases h2:bf L x<i
    ·rw[if_pos h2,if_pos (by omega)]
    ·rw[if_neg h2]
     by_cases h3:x∈M
     ·rw[if_pos h3,if_pos (by have:=h1.1 h3;omega),h1.1 h3]
     ·rw[if_neg h3,if_neg fun h4=>h3 (h1.2 (by omega))]
   (try((repeat(revert hN;revert N;apply Pn.out));refine wk (tw @d13 (tw @dg0 (tw @d1 (tw @d10 (tw @d11 (tw @d12 (tw @hm (tw @hi (tw @jY (tw @rI (tw @Bz @zD.eq_1))))))))))) ?_;(repeat(refine Pn.mk ?_;intro N hN))))
   refine gM ?_ ?_ (by(try dsimp only);omega)
   all_goals simp only[go_sem, ↓reduceIte,Nat.reduceEqDiff,Nat.reduceAdd,Nat.reduceSub,Nat.reduceLeDiff,reduceCtorEq,xY,cg0,c1,jj,nj,d13,dg0,d1,d10,d11,d12,iR]
 have lv:i=(leads cnt L).length:=by omega
 subst lv
 have zI:dr (ck cnt L (leads cnt L).length 0) cnt=dr (bf L) cnt:=gH fun x hx=>by rw[ck,if_pos (jS hL hx)]
 rw[zI]at cg0
 have tl:=fQ (bf L) cnt
 (try((repeat(revert hN;revert N;apply Pn.out));refine wk (tw @xY (tw @cg0 (tw @c1 (tw @jj (tw @nj (tw @hi @rI)))))) ?_;(repeat(refine Pn.mk ?_;intro N hN))))
 have Mx:st_a.next+1+1<st_c.next:=cI0
 refine aH (fun n env st=>∃j:Nat,n=(bs.length)-j/\j<=(bs.length)/\env 15=.int .i64 (j:Int)/\st.get ⟨192008001,st_a.next+1+1⟩=some ⟨true,1,dr (bf L) cnt⟩/\(∃p:Id,env 14=.own p 0 (eP L (bs.take j)).length/\st.get p=some ⟨true,3,(eP L (bs.take j)).map ay⟩/\st_c.next<=p.aW/\p.aW<st.next)) (bs.length) ⟨0,by omega,by omega,sl (tw @xY (tw @cg0 (tw @c1 (tw @jj @nj)))),sl (tw @xY (tw @cg0 (tw @c1 (tw @jj @nj)))),⟨⟨192016000,st_c.next+1⟩,by(simp only[go_sem, ↓reduceIte,Nat.reduceEqDiff,Nat.reduceAdd,Nat.reduceSub,Nat.reduceLeDiff,reduceCtorEq])<;>rfl,by(simp only[go_sem, ↓reduceIte,Nat.reduceEqDiff,Nat.reduceAdd,Nat.reduceSub,Nat.reduceLeDiff,reduceCtorEq])<;>rfl,by(try dsimp only);omega,by(try dsimp only);omega⟩⟩ ?_
 rintro n_f env_f st_f ⟨j,rfl,fle,f15,fg0,fI0⟩ ffr
 have f1:=ffr 1 (by kernel_rfl);have f10:=ffr 10 (by kernel_rfl);have f11:=ffr 11 (by kernel_rfl)
 simp only[go_sem, ↓reduceIte,Nat.reduceEqDiff,Nat.reduceAdd,Nat.reduceSub,Nat.reduceLeDiff,reduceCtorEq,xY,cg0,c1,jj,nj]at f1 f10 f11
 clear ffr
 obtain⟨p,f14,fg,ML,Hq⟩:=fI0
 have x1:=cQ (a:=⟨192008001,st_a.next+1+1⟩) (b:=p) (by(try dsimp only);omega)
 have q9:=dv Hq
 have hvn:st_a.next+1+1<st_f.next:=by omega
 have HC:=dv (i:=⟨192008001,st_a.next+1+1⟩) (n:=st_f.next) hvn
 have Az:=(mC L (bs.take j)).2
 rw[List.length_take]at Az
 by_cases hj:(j:Int)<(bs.length:Int)
 ·have qD:∀{e:Env} {gg:Rows} {nx:Nat},(e 15=.int .i64 (IntKind.i64.wrap ((j:Int)+1)))->(gg ⟨192008001,st_a.next+1+1⟩=some ⟨true,1,dr (bf L) cnt⟩)->(∃p:Id,e 14=.own p 0 (eP L (bs.take (j+1))).length/\gg p=some ⟨true,3,(eP L (bs.take (j+1))).map ay⟩/\st_c.next<=p.aW/\p.aW<nx)->∃m0,m0<(bs.length)-j/\∃j:Nat,m0=(bs.length)-j/\j<=(bs.length)/\e 15=.int .i64 (j:Int)/\gg ⟨192008001,st_a.next+1+1⟩=some ⟨true,1,dr (bf L) cnt⟩/\(∃p:Id,e 14=.own p 0 (eP L (bs.take j)).length/\gg p=some ⟨true,3,(eP L (bs.take j)).map ay⟩/\st_c.next<=p.aW/\p.aW<nx):=fun x1 x2 x3=>⟨_,by omega,j+1,rfl,by omega,(by rw[x1,ax (by omega)]),x2,x3⟩
  have nq:j<bs.length:=by omega
  have DV:(bs.map ay)[j]? =some (ay bs[j]):=by simp[nq]
  have K5:=hb _ (List.getElem_mem nq)
  have hs:=zb L (bs.take j) bs[j]
  rw[<-List.take_succ_eq_append_getElem nq]at hs
  generalize bs[j]=b at *
  have hA:=e9 (f:=bf L) K5.1
  have hB:=e9 (f:=bf L) K5.2
  have gi:(b.a:Int)<(cnt:Int):=by omega
  have ft:(b.b:Int)<(cnt:Int):=by omega
  have Qq:=AK (bf L b.a) (bf L b.b)
  have Qr:=AJ (bf L b.a) (bf L b.b)
  rw[eN]at hA hB
  by_cases he:bf L b.a=bf L b.b
  ·rw[if_pos he,List.append_nil]at hs
   have tt:decide ((bf L b.a:Int)=(bf L b.b:Int))=true:=decide_eq_true (by rw[he])
   (try((repeat(revert hN;revert N;apply Pn.out));refine wk (tw @f15 (tw @fg0 (tw @f1 (tw @f10 (tw @f11 (tw @f14 (tw @fg (tw @hj (tw @DV (tw @hA (tw @hB (tw @gi (tw @ft (tw @tl (tw @tt (tw @x1 (tw @q9 @ay.eq_1))))))))))))))))) ?_;(repeat(refine Pn.mk ?_;intro N hN))))
   refine qD ?_ ?_ (⟨p,by rw[hs];simp only[go_sem, ↓reduceIte,Nat.reduceEqDiff,Nat.reduceAdd,Nat.reduceSub,Nat.reduceLeDiff,reduceCtorEq,f14],by rw[hs];simp only[go_sem, ↓reduceIte,Nat.reduceEqDiff,Nat.reduceAdd,Nat.reduceSub,Nat.reduceLeDiff,reduceCtorEq,fg],ML,by(try dsimp only);omega⟩)
   all_goals simp only[go_sem, ↓reduceIte,Nat.reduceEqDiff,Nat.reduceAdd,Nat.reduceSub,Nat.reduceLeDiff,reduceCtorEq,f15,fg0,f1,f10,f11]
  ·rw[if_neg he]at hs
   have tt:decide ((bf L b.a:Int)=(bf L b.b:Int))=false:=decide_eq_false fun h=>he (by omega)
   have e1:(eP L (bs.take j)).length+1<=16777216:=by omega
   have pI:((eP L (bs.take j)).map ay).length=(eP L (bs.take j)).length:=by simp
   (repeat(first|((repeat(revert hN;revert N;apply Pn.out));refine wk (tw @f15 (tw @fg0 (tw @f1 (tw @f10 (tw @f11 (tw @f14 (tw @fg (tw @hj (tw @DV (tw @hA (tw @hB (tw @gi (tw @ft (tw @tl (tw @tt (tw @x1 (tw @q9 (tw @HC (tw @e1 (tw @pI @ay.eq_1)))))))))))))))))))) ?_;(repeat(refine Pn.mk ?_;intro N hN)))|((try apply Or.inl);refine⟨_,aj.x (Qq) (sd (tw @f15 (tw @fg0 (tw @f1 (tw @f10 (tw @f11 (tw @f14 (tw @fg (tw @hj (tw @DV (tw @hA (tw @hB (tw @gi (tw @ft (tw @tl (tw @tt (tw @x1 (tw @q9 (tw @HC (tw @e1 (tw @pI @ay.eq_1))))))))))))))))))))),?_⟩;refine hN _ _ ?_;clear hN N)|((try apply Or.inl);refine⟨_,aj.x (Qr) (sd (tw @f15 (tw @fg0 (tw @f1 (tw @f10 (tw @f11 (tw @f14 (tw @fg (tw @hj (tw @DV (tw @hA (tw @hB (tw @gi (tw @ft (tw @tl (tw @tt (tw @x1 (tw @q9 (tw @HC (tw @e1 (tw @pI @ay.eq_1))))))))))))))))))))),?_⟩;refine hN _ _ ?_;clear hN N)))
   refine qD ?_ ?_ (⟨⟨192023014,st_f.next+1+1+1+1⟩,by rw[hs,List.length_append];simp only[go_sem, ↓reduceIte,Nat.reduceEqDiff,Nat.reduceAdd,Nat.reduceSub,Nat.reduceLeDiff,reduceCtorEq,List.length_cons,List.length_nil],by rw[hs,List.map_append,List.map_cons,List.map_nil];simp only[go_sem, ↓reduceIte,Nat.reduceEqDiff,Nat.reduceAdd,Nat.reduceSub,Nat.reduceLeDiff,reduceCtorEq,ay],by(try dsimp only);omega,by(try dsimp only);omega⟩)
   all_goals simp only[go_sem, ↓reduceIte,Nat.reduceEqDiff,Nat.reduceAdd,Nat.reduceSub,Nat.reduceLeDiff,reduceCtorEq,f15,fg0,f1,f10,f11,x1,HC]
 ·have gm:j=bs.length:=by omega
  subst gm
  rw[List.take_length]at f14 fg
  (try((repeat(revert hN;revert N;apply Pn.out));refine wk (tw @f15 (tw @fg0 (tw @f1 (tw @f10 (tw @f11 (tw @f14 (tw @hj @rI))))))) ?_;(repeat(refine Pn.mk ?_;intro N hN))))
  refine gz (.inl rfl) (r1:=.int .i64 ((leads cnt L).length:Int)) (sd @Nat.zero_add) (by simp only[go_sem, ↓reduceIte,Nat.reduceEqDiff,Nat.reduceAdd,Nat.reduceSub,Nat.reduceLeDiff,reduceCtorEq];rfl) ?_
  have h1:fX st_f.get 5 (.own p 0 (eP L bs).length)=some (.sl ((eP L bs).map ay)):=gZ (sz:=3) fg rfl fun b=>tk _ 3 b
  simp only[dU,aP,bx,dL,h1,Option.map_some]
end Go.Proofs.YtgoelphibofcmaaGreat.V

namespace Go.Proofs.YtgoelphibofcmaaGreat.V
def Dv (bs:List PB) (e v:Nat):Prop:=(bD bs e).a=v∨(bD bs e).b=v
def iJ (bs:List PB) (m v:Nat):List Nat:=(List.range m).filter fun i=>(bD bs i).a==v||(bD bs i).b==v
theorem qw {bs:List PB} {m v e:Nat}:e∈iJ bs m v↔e<m/\Dv bs e v:=by simp[iJ,Dv]
theorem Fk (bs:List PB) (m v:Nat):iJ bs (m+1) v=iJ bs m v++if (bD bs m).a=v∨(bD bs m).b=v then[m]else[]:=by
 unfold iJ
 rw[List.range_succ,List.filter_append]
 congr 1
 by_cases h:(bD bs m).a=v<;>by_cases h2:(bD bs m).b=v<;>simp[h,h2]
theorem qv (bs:List PB) (m v:Nat):(iJ bs m v).length<=m:=by
 have:=List.length_filter_le (fun i=>(bD bs i).a==v||(bD bs i).b==v) (List.range m)
 simpa[iJ]using this
def mK (cnt:Nat) (bs:List PB):Prop:=∀e,e<bs.length->(bD bs e).a<cnt/\(bD bs e).b<cnt/\(bD bs e).a≠(bD bs e).b
theorem nW {cnt:Nat} {bs:List PB} (h:mK cnt bs) {e v:Nat} (he:e<bs.length):bh bs e v<cnt:=by
 have:=h e he;unfold bh;split;exact this.2.1;exact this.1
theorem H0 {cnt:Nat} {bs:List PB} (h:mK cnt bs) {e v:Nat} (he:e<bs.length) (hi:Dv bs e v):bh bs e v≠v:=by
 have h1:=(h e he).2.2
 unfold bh
 split
 ·rename_i ha;rw[<-ha];exact fun h=>h1 h.symm
 ·rename_i ha;rcases hi with hi|hi
  ·exact absurd hi ha
  ·rw[<-hi];exact h1
theorem xH {bs:List PB} {e v:Nat}:Dv bs e (bh bs e v):=by
 unfold bh Dv;split
 ·exact .inr rfl
 ·exact .inl rfl
theorem nX {cnt:Nat} {bs:List PB} (h:mK cnt bs) {e v:Nat} (he:e<bs.length) (hi:Dv bs e v):bh bs e (bh bs e v)=v:=by
 have h1:=(h e he).2.2
 unfold bh
 by_cases ha:(bD bs e).a=v
 ·rw[if_pos ha,if_neg h1];exact ha
 ·rw[if_neg ha,if_pos rfl]
  rcases hi with hi|hi
  ·exact absurd hi ha
  ·exact hi
structure xT (cnt:Nat) (bs:List PB) (f:Nat->Int) (y:Nat) (out:Nat->Int):Prop where
 lo:∀v,v<cnt->-1<=out v/\out v<=cnt
 first:out y=0
 zero:∀v,v<cnt->out v=0->v=y
 down:∀v,v<cnt->0<out v->∃e,e<bs.length/\Dv bs e v/\0<fu bs f e v/\out (bh bs e v)=out v-1
 shut:∀e v,e<bs.length->Dv bs e v->0<=out (bh bs e v)->0<fu bs f e v->0<=out v
structure zz (cnt:Nat) (bs:List PB) (f:Nat->Int) (y:Nat) (out:Nat->Int) (Q:List Nat) (i:Nat):Prop where
 nd:Q.Nodup
 lt:∀x∈Q,x<cnt
 iff:∀v,v<cnt->(0<=out v↔v∈Q)
 lo:∀v,v<cnt->-1<=out v
 first:out y=0
 up:∀j (h:j<Q.length),out Q[j]<=j
 zero:∀v,v<cnt->out v=0->v=y
 down:∀v,v<cnt->0<out v->∃e,e<bs.length/\Dv bs e v/\0<fu bs f e v/\out (bh bs e v)=out v-1
 shut:∀j (h:j<Q.length),j<i->∀e,e<bs.length->Dv bs e Q[j]->0<fu bs f e (bh bs e Q[j])->0<=out (bh bs e Q[j])
section
variable {cnt:Nat} {bs:List PB} {f:Nat->Int} {y:Nat} {out:Nat->Int} {Q:List Nat} {i:Nat}
theorem zz.start (hy:y<cnt):zz cnt bs f y (fun v=>if v=y then 0 else -1) [y] 0 where
 nd:=by simp
 lt:=fun x hx=>by rw[List.mem_singleton.1 hx];exact hy
 iff:=fun v _=>by
  by_cases h:v=y<;>simp[h]
 lo:=fun v _=>by split<;>omega
 first:=if_pos rfl
 up:=fun j h=>by
  have:j=0:=by simp at h;omega
  subst this;simp
 zero:=fun v _ h=>by
  by_cases hv:v=y
  ·exact hv
  ·rw[if_neg hv]at h;omega
 down:=fun v _ h=>by
  by_cases hv:v=y
  ·rw[if_pos hv]at h;omega
  ·rw[if_neg hv]at h;omega
 shut:=fun j h hj=>by omega
theorem zz.len (h:zz cnt bs f y out Q i):Q.length<=cnt:=nU cnt Q h.nd h.lt
theorem zz.visit (h:zz cnt bs f y out Q i) (ok:mK cnt bs) (hi:i<Q.length) {e:Nat} (he:e<bs.length) (oW:Dv bs e Q[i]) (jP:out (bh bs e Q[i])<0) (fU:0<fu bs f e (bh bs e Q[i])):
  zz cnt bs f y (fun v=>if v=bh bs e Q[i]then out Q[i]+1 else out v) (Q++[bh bs e Q[i]]) i:=by
 have Lh:0<=out Q[i]:=(h.iff _ (h.lt _ (List.getElem_mem hi))).2 (List.getElem_mem hi)
 have hq:=nW ok (v:=Q[i]) he
 have fY:=H0 ok he oW
 have QR:=nX ok he oW
 have Sk:bh bs e Q[i]∉Q:=fun hm=>by have:=(h.iff _ hq).2 hm;omega
 have AA:=h.up i hi
 generalize hw:bh bs e Q[i]=w at *
 have oZ:∀v,0<=out v->(if v=w then out Q[i]+1 else out v)=out v:=fun v hv=>by
  rw[if_neg];rintro rfl;omega
 have mono:∀v,0<=out v->0<=(if v=w then out Q[i]+1 else out v):=fun v hv=>by rw[oZ v hv];exact hv
 refine⟨?_,?_,?_,?_,?_,?_,?_,?_,?_⟩
 ·rw[List.nodup_append]
  exact⟨h.nd,by simp,fun a ha b hb=>by rw[List.mem_singleton.1 hb];rintro rfl;exact Sk ha⟩
 ·intro x hx
  rcases List.mem_append.1 hx with hx|hx
  ·exact h.lt x hx
  ·rw[List.mem_singleton.1 hx];exact hq
 ·intro v hv
  by_cases Gn:v=w
  ·subst Gn;simp;omega
  ·rw[if_neg Gn,h.iff v hv];simp[Gn]
 ·intro v hv
  by_cases Gn:v=w
  ·rw[if_pos Gn];omega
  ·rw[if_neg Gn];exact h.lo v hv
 ·rw[oZ y (by rw[h.first];exact Int.le_refl _)];exact h.first
 ·intro j hj
  by_cases gm:j<Q.length
  ·rw[List.getElem_append_left gm,oZ _ ((h.iff _ (h.lt _ (List.getElem_mem gm))).2 (List.getElem_mem gm))]
   exact h.up j gm
  ·have JP:j=Q.length:=by simp at hj;omega
   subst JP
   simp
   omega
 ·intro v hv h0
  by_cases Gn:v=w
  ·rw[if_pos Gn]at h0;omega
  ·rw[if_neg Gn]at h0;exact h.zero v hv h0
 ·intro v hv h0
  by_cases Gn:v=w
  ·subst Gn
   rw[if_pos rfl]
   refine⟨e,he,by rw[<-hw];exact xH,fU,?_⟩
   rw[QR,oZ _ Lh];omega
  ·rw[if_neg Gn]at h0 ⊢
   obtain⟨e',h1,h2,h3,h4⟩:=h.down v hv h0
   exact⟨e',h1,h2,h3,by rw[oZ _ (by omega)];exact h4⟩
 ·intro j hj l6 e' JJ Lc hr
  have gm:j<Q.length:=by omega
  rw[List.getElem_append_left gm]at Lc hr ⊢
  exact mono _ (h.shut j gm l6 e' JJ Lc hr)
theorem zz.next (h:zz cnt bs f y out Q i) (hi:i<Q.length) (hs:∀e∈iJ bs bs.length Q[i],0<fu bs f e (bh bs e Q[i])->0<=out (bh bs e Q[i])):zz cnt bs f y out Q (i+1):=
 ⟨h.nd,h.lt,h.iff,h.lo,h.first,h.up,h.zero,h.down,fun j hj l6 e he oW hr=>by
  by_cases JP:j=i
  ·subst JP;exact hs e (qw.2 ⟨he,oW⟩) hr
  ·exact h.shut j hj (by omega) e he oW hr⟩
theorem zz.done (h:zz cnt bs f y out Q i) (ok:mK cnt bs) (hi:Q.length<=i):xT cnt bs f y out where
 lo:=fun v hv=>⟨h.lo v hv,by
  by_cases h0:0<=out v
  ·obtain⟨j,hj,rfl⟩:=List.getElem_of_mem ((h.iff v hv).1 h0)
   have:=h.up j hj
   have:=h.len
   omega
  ·omega⟩
 first:=h.first
 zero:=h.zero
 down:=h.down
 shut:=fun e v he oW h0 hr=>by
  obtain⟨j,hj,N5⟩:=List.getElem_of_mem ((h.iff _ (nW ok he)).1 h0)
  have h2:=h.shut j hj (by omega) e he (by rw[N5];exact xH)
  rw[N5,nX ok he oW]at h2
  exact h2 hr
end
end Go.Proofs.YtgoelphibofcmaaGreat.V

namespace Go.Proofs.YtgoelphibofcmaaGreat.V
open Go.RowKit
section
variable {P:Program} {w w':World} {D D' D1 D2:Nat->Prop} {ι ι1 ι2:Names}
end
end Go.Proofs.YtgoelphibofcmaaGreat.V

namespace Go.Proofs.YtgoelphibofcmaaGreat.V
open Go.RowKit
attribute [local irreducible] dI wpOps ib Call
attribute [local go_sem] aJ gu eW gR gQ cE upd cw K.av cY AV.cells AV.cell rowOf rowsOf part ld rowAt bB cr dY eG jq bP dq eT gP fx dE eK dn dm eu ew bU bp db bR de dc eI eL eJ da cm dp eH bQ aO di cI jo bE cU bV aY du aV ea AV.undef bG bJ eA eE ei ep cJ eR eV cG eO eM dh dj List.getD_cons_zero List.getD_cons_succ List.getD_nil List.all_cons List.all_nil Bool.and_true Bool.true_and Bool.and_self Bool.not_true Bool.not_false Option.map_some Option.map_none Option.bind_some Option.bind_none List.length_cons List.length_nil List.take_succ_cons List.take_zero List.take_nil List.drop_succ_cons List.drop_zero List.drop_nil List.head?_cons List.map_cons List.map_nil List.getElem?_cons_zero List.getElem?_cons_succ List.cons_append List.nil_append List.append_nil List.length_map List.set_cons_zero List.set_cons_succ Nat.reduceMul eq_self Int.toNat_natCast Int.natCast_nonneg and_self true_and and_true decide_true decide_false Bool.false_eq_true Nat.zero_add Nat.add_zero List.contains_cons List.contains_nil Bool.or_false Bool.false_or beq_self_eq_true Nat.reduceBEq ne_eq not_true_eq_false not_false_eq_true Id.mk.injEq false_and and_false Nat.reduceLT Int.reduceLE Int.reduceLT Int.reduceToNat Int.reduceNeg Int.reduceAdd Nat.le_refl List.length_append beq_true beq_false Bool.not_eq_eq_eq_not or_false false_or eh ao aq aK br bI cC bc bz aQ bt cX cj
def lF (P:Program) (f:Nat) (args:List AV) (R:AV->Prop):Prop:=∀n:Nat,Call P f args ⟨fun _=>none,n⟩ fun r0 σ'=>∃r',fX σ'.get 6 r0=some r'/\R r'
theorem aj.r {P:Program} {f:Nat} {args:List AV} {r:AV} (h:aj P f args r):lF P f args (fun r'=>r'=r):=h
theorem E0 {P:Program} {f:Nat} {args fb:List AV} {g:Rows} {n:Nat} {R:AV->Prop} (hv:cH (eh g) 6 args=some fb) (h:Sound P f fb ⟨fun _=>none,n⟩ fun r0 σ'=>∃r',fX σ'.get 6 r0=some r'/\R r'):Sound P f args ⟨g,n⟩ fun r σ'=>R r/\σ'=⟨g,n⟩:=by
 intro hs D ι w vs S U A
 refine(wQ (g0:=g) (K:=R) ⟨fb,hv,h⟩ (fun _ _ h=>h) S U A).mono ?_
 rintro e w' ⟨r,D',u,rfl,hR,T,S',hr⟩
 exact⟨r,g,n,D',ι,u,rfl,⟨hR,rfl⟩,T,S',U,Nat.le_refl _,hr⟩
theorem lF.x {P:Program} (hm:P.follows .mixedOrders=true) {f:Nat} {args fb:List AV} {R:AV->Prop} (h:lF P f fb R) {σ:ar} (hv:cH (eh σ.get) 6 args=some fb):Call P f args σ fun r σ'=>R r/\σ'=σ:=
 iG (E0 hv (gY hm (h σ.next)))
theorem lF.body {P:Program} {f:Nat} {args:List AV} {R:AV->Prop} {nt na:Nat} {body:VC} {res:List mZ} (hf:np P f=some ⟨nt,na,body,res⟩) (ha:na=args.length) (h:(∀a∈args,dV a)->∀n:Nat,dI (Call P) body (j8 res fun r0 σ'=>∃r',fX σ'.get 6 r0=some r'/\R r') (cw args) ⟨fun _=>none,n⟩):lF P f args R:=fun n=>lG hf ha fun hl=>h hl n
def dD (f:Nat->Int) (n:Nat):List (List AV):=(List.range n).map fun i=>bq (f i)
theorem cZ (f:Nat->Int) (n:Nat):(dD f n).length=n:=by simp[dD]
theorem dz {f:Nat->Int} {n i:Nat} (h:i<n):(dD f n)[i]? =some (bq (f i)):=by simp[dD,h]
theorem kK {f g:Nat->Int} {n k:Nat} {v:Int} (hk:k<n) (hv:g k=v) (h:∀i,i<n->i≠k->g i=f i):(dD f n).set k (bq v)=dD g n:=by
 refine List.ext_getElem? fun i=>?_
 rw[List.getElem?_set]
 by_cases hi:k=i
 ·subst hi
  rw[if_pos rfl,cZ,if_pos hk,dz hk,hv]
 ·rw[if_neg hi]
  by_cases fA:i<n
  ·rw[dz fA,dz fA,h i fA (fun h=>hi h.symm)]
  ·rw[List.getElem?_eq_none (by rw[cZ];omega),List.getElem?_eq_none (by rw[cZ];omega)]
theorem F3 (f:Nat->Int) (n:Nat):dD f (n+1)=dD f n++[bq (f n)]:=by simp[dD,List.range_succ]
theorem fzI (g:Rows) (n:Nat) (a:Int):cH g (n+1) (bq a)=some (bq a):=by simp[bq,ao,aq,aK]
theorem Rq (g:Rows) (n:Nat) (a:Int):dS g (n+1) (bq a)=some (bq a):=by simp[bq,aP,bx,dL]
theorem Iz {g:Rows} {f:Nat->Int} {n m:Nat}:gL g (m+1) (dD f n)=some (dD f n):=by
 have:dD f n=((List.range n).map f).map bq:=by simp[dD]
 rw[this];exact sC fun x=>Rq g m x
theorem zk {g:Rows} {f:Nat->Int} {n m:Nat}:dJ g (m+1) (dD f n)=some (dD f n):=by
 have:dD f n=((List.range n).map f).map bq:=by simp[dD]
 rw[this];exact mi fun x=>fzI g m x
def Nn (l:List Nat):AV:=if l=[]then .cu else .sl (l.map eN)
def pk (cnt:Nat) (bs:List PB) (m:Nat):List (List AV):=(List.range cnt).map fun v=>[Nn (iJ bs m v)]
theorem BS {cnt:Nat} {bs:List PB} {m v:Nat} (h:v<cnt):(pk cnt bs m)[v]? =some [Nn (iJ bs m v)]:=by simp[pk,h]
def fH (cnt:Nat) (bs:List PB) (f:Nat->Int):List AV:=[.int .i64 cnt,.sl (bs.map ay),.sl (pk cnt bs bs.length),.sl (dD f bs.length)]
theorem tg {bs:List PB} {e:Nat} (h:e<bs.length):(bs.map ay)[e]? =some (ay (bD bs e)):=getD_map ay h
def Small (bs:List PB) (f:Nat->Int):Prop:=∀e,e<bs.length->(0<=(bD bs e).s/\(bD bs e).s<=4)/\-4<=f e/\f e<=4
theorem Ij (cnt:Nat) (bs:List PB) (f:Nat->Int) (hs:Small bs f) (e v:Nat) (he:e<bs.length):aj Tryz.prog 260 [.bK (fH cnt bs f),.int .i64 v,.int .i64 e] (.gN [.int .i64 (fu bs f e v),.int .i64 (bh bs e v)]):=by
 refine aj.body ej rfl fun hl n0=>?_
 clear hl
 have hb:=tg he
 have hf:=dz (f:=f) he
 obtain⟨⟨s0,s1⟩,s2,s3⟩:=hs e he
 have w1:IntKind.i64.wrap ((bD bs e).s-f e)=(bD bs e).s-f e:=aZ (by omega)
 have w2:IntKind.i64.wrap ((bD bs e).s+f e)=(bD bs e).s+f e:=aZ (by omega)
 unfold fu bh
 generalize bD bs e=b at *
 by_cases h:b.a=v
 ·have hd:decide ((b.a:Int)=(v:Int))=true:=decide_eq_true (by rw[h])
  (try((repeat(revert hN;revert N;apply Pn.out));refine wk (tw @fH.eq_1 (tw @hb (tw @hf (tw @ay.eq_1 (tw @bq.eq_1 (tw @hd (tw @w1 @w2))))))) ?_;(repeat(refine Pn.mk ?_;intro N hN))))
  refine gz (.inl rfl) (by simp only[go_sem, ↓reduceIte,Nat.reduceEqDiff,Nat.reduceAdd,Nat.reduceSub,Nat.reduceLeDiff,reduceCtorEq];rfl) (by simp only[go_sem, ↓reduceIte,Nat.reduceEqDiff,Nat.reduceAdd,Nat.reduceSub,Nat.reduceLeDiff,reduceCtorEq];rfl) ?_
  simp only[dU,aP,bx,dL,Option.map_some,if_pos h]
 ·have hd:decide ((b.a:Int)=(v:Int))=false:=decide_eq_false fun hc=>h (by omega)
  (try((repeat(revert hN;revert N;apply Pn.out));refine wk (tw @fH.eq_1 (tw @hb (tw @hf (tw @ay.eq_1 (tw @bq.eq_1 (tw @hd (tw @w1 @w2))))))) ?_;(repeat(refine Pn.mk ?_;intro N hN))))
  refine gz (.inl rfl) (by simp only[go_sem, ↓reduceIte,Nat.reduceEqDiff,Nat.reduceAdd,Nat.reduceSub,Nat.reduceLeDiff,reduceCtorEq];rfl) (by simp only[go_sem, ↓reduceIte,Nat.reduceEqDiff,Nat.reduceAdd,Nat.reduceSub,Nat.reduceLeDiff,reduceCtorEq];rfl) ?_
  simp only[dU,aP,bx,dL,Option.map_some,if_neg h]
theorem En (cnt:Nat) (hn:cnt<=1048576) (bs:List PB) (ok:mK cnt bs) (ml:bs.length<=1048576) (f:Nat->Int) (hs:Small bs f) (y:Nat) (hy:y<cnt):
  lF Tryz.prog 239 [.bK (fH cnt bs f),.int .i64 y] fun r=>∃out,r=.sl (dD out cnt)/\xT cnt bs f y out:=by
 refine lF.body ej rfl fun hl n0=>?_
 clear hl
 (try((repeat(revert hN;revert N;apply Pn.out));refine wk @fH.eq_1 ?_;(repeat(refine Pn.mk ?_;intro N hN))))
 refine aH (fun n env st=>∃k:Nat,n=(cnt)-k/\k<=(cnt)/\env 6=.int .i64 (k:Int)/\(∃o:Id,env 5=.own o 0 k/\st.get o=some ⟨true,1,dD (fun _=>-1) k⟩/\o.aW<st.next)) (cnt) ⟨0,by omega,by omega,sl @fH.eq_1,⟨⟨239001000,n0+1⟩,by(simp only[go_sem, ↓reduceIte,Nat.reduceEqDiff,Nat.reduceAdd,Nat.reduceSub,Nat.reduceLeDiff,reduceCtorEq])<;>rfl,by(simp only[go_sem, ↓reduceIte,Nat.reduceEqDiff,Nat.reduceAdd,Nat.reduceSub,Nat.reduceLeDiff,reduceCtorEq])<;>rfl,by(try dsimp only);omega⟩⟩ ?_
 rintro n_a env_a st_a ⟨k,rfl,ale,a6,nf⟩ dt
 have a0:=dt 0 (by kernel_rfl);have a1:=dt 1 (by kernel_rfl)
 simp only[go_sem, ↓reduceIte,Nat.reduceEqDiff,Nat.reduceAdd,Nat.reduceSub,Nat.reduceLeDiff,reduceCtorEq,fH]at a0 a1
 clear dt
 obtain⟨o,a5,ag,lO⟩:=nf
 have tl:=cZ (fun _=>-1) k
 have pK:=dv lO
 by_cases hk:(k:Int)<(cnt:Int)
 ·have bY:∀{e:Env} {gg:Rows} {nx:Nat},(e 6=.int .i64 (IntKind.i64.wrap ((k:Int)+1)))->(∃o:Id,e 5=.own o 0 (k+1)/\gg o=some ⟨true,1,dD (fun _=>-1) (k+1)⟩/\o.aW<nx)->∃m0,m0<(cnt)-k/\∃k:Nat,m0=(cnt)-k/\k<=(cnt)/\e 6=.int .i64 (k:Int)/\(∃o:Id,e 5=.own o 0 k/\gg o=some ⟨true,1,dD (fun _=>-1) k⟩/\o.aW<nx):=fun x1 x2=>⟨_,by omega,k+1,rfl,by omega,(by rw[x1,ax (by omega)]),x2⟩
  have e1:k+1<=16777216:=by omega
  have oY:dD (fun _=>-1) k++[[.int .i64 (-1)]]=dD (fun _=>-1) (k+1):=(F3 _ _).symm
  (try((repeat(revert hN;revert N;apply Pn.out));refine wk (tw @a6 (tw @a0 (tw @a1 (tw @a5 (tw @ag (tw @pK (tw @hk (tw @tl (tw @e1 (tw @oY @fH.eq_1)))))))))) ?_;(repeat(refine Pn.mk ?_;intro N hN))))
  exact bY (sd (tw @a6 (tw @a0 (tw @a1 @fH.eq_1)))) (⟨⟨239005002,st_a.next+1⟩,sd @Nat.zero_add,sd @oY,by(try dsimp only);omega⟩)
 have kQ:k=cnt:=by omega
 subst kQ
 have Q1:(y:Int)<(k:Int):=by omega
 have hym:=dz (f:=fun _=>-1) hy
 have Ax:(dD (fun _=>-1) k).set y (bq 0)=dD (fun v=>if v=y then 0 else -1) k:=kK hy (if_pos rfl) fun i _ hi=>if_neg hi
 rw[bq]at Ax hym
 (try((repeat(revert hN;revert N;apply Pn.out));refine wk (tw @a6 (tw @a0 (tw @a1 (tw @a5 (tw @ag (tw @pK (tw @hk (tw @tl (tw @Q1 (tw @hym (tw @Ax @fH.eq_1))))))))))) ?_;(repeat(refine Pn.mk ?_;intro N hN))))
 refine aH (fun m env st=>∃(i:Nat) (out:Nat->Int) (Q:List Nat) (p:Id),m=k-i/\env 8=.int .i64 (i:Int)/\env 7=.own p 0 Q.length/\st.get p=some ⟨true,1,Q.map eN⟩/\st.get o=some ⟨true,1,dD out k⟩/\o.aW<p.aW/\p.aW<st.next/\zz k bs f y out Q i/\i<=Q.length) k ⟨0,_,[y],⟨239007001,st_a.next+1+1⟩,by omega,by(simp only[go_sem, ↓reduceIte,Nat.reduceEqDiff,Nat.reduceAdd,Nat.reduceSub,Nat.reduceLeDiff,reduceCtorEq])<;>rfl,by(simp only[go_sem, ↓reduceIte,Nat.reduceEqDiff,Nat.reduceAdd,Nat.reduceSub,Nat.reduceLeDiff,reduceCtorEq])<;>rfl,by(simp only[go_sem, ↓reduceIte,Nat.reduceEqDiff,Nat.reduceAdd,Nat.reduceSub,Nat.reduceLeDiff,reduceCtorEq])<;>rfl,sd @pK,by(try dsimp only);omega,by(try dsimp only);omega,zz.start hy,by simp⟩ ?_
 rintro n env_b st_b ⟨i,out,Q,p,rfl,b8,b7,bgp,bgo,dK,hpn,hB,hiq⟩ ec
 have b0:=ec 0 (by kernel_rfl)
 have b5:=ec 5 (by kernel_rfl)
 simp only[go_sem, ↓reduceIte,Nat.reduceEqDiff,Nat.reduceAdd,Nat.reduceSub,Nat.reduceLeDiff,reduceCtorEq,a6,a0,a1,a5,fH]at b0 b5
 clear ec
 have Sw:=hB.len
 have Q5:=cZ out k
 have hqm:(Q.map eN).length=Q.length:=by simp
 have q9:=dv hpn
 have iU:=dv (i:=o) (n:=st_b.next) (by omega)
 by_cases hi:(i:Int)<(Q.length:Int)
 ·have fA:i<Q.length:=by omega
  have jY:(Q.map eN)[i]? =some (eN Q[i]):=by simp[fA]
  have Lh:=hB.lt _ (List.getElem_mem fA)
  obtain⟨vt,MX⟩:∃vt,vt=Q[i]:=⟨_,rfl⟩
  rw[<-MX]at jY Lh
  have hA:=BS (cnt:=k) (bs:=bs) (m:=bs.length) Lh
  have JZ:(vt:Int)<(k:Int):=by omega
  have lv:=qv bs bs.length vt
  have hme:∀x,x<(iJ bs bs.length vt).length->(iJ bs bs.length vt).getD x 0<bs.length/\Dv bs ((iJ bs bs.length vt).getD x 0) vt:=fun x hx=>by
   rw[List.getD_eq_getElem?_getD,List.getElem?_eq_getElem hx]
   exact qw.1 (List.getElem_mem hx)
  have Pj:∀e∈iJ bs bs.length vt,∃x,x<(iJ bs bs.length vt).length/\(iJ bs bs.length vt).getD x 0=e:=fun e he=>by
   obtain⟨x,hx,rfl⟩:=List.getElem_of_mem he
   exact⟨x,hx,by rw[List.getD_eq_getElem?_getD,List.getElem?_eq_getElem hx];rfl⟩
  generalize hIn:iJ bs bs.length vt=I at *
  unfold Nn at hA
  by_cases RI:I=[]
  ·rw[if_pos RI]at hA
   have hI1:I.length=0:=by rw[RI];rfl
   (try((repeat(revert hN;revert N;apply Pn.out));refine wk (tw @b0 (tw @b5 (tw @b7 (tw @b8 (tw @bgp (tw @hi (tw @jY (tw @hqm (tw @eN.eq_1 @fH.eq_1))))))))) ?_;(repeat(refine Pn.mk ?_;intro N hN))))
   refine aH (fun n env st=>∃x:Nat,n=(I.length)-x/\x<=(I.length)/\env 10=.int .i64 (x:Int)/\(∃(iD:Nat->Int) (Q':List Nat) (p':Id),env 7=.own p' 0 Q'.length/\st.get p'=some ⟨true,1,Q'.map eN⟩/\st.get o=some ⟨true,1,dD iD k⟩/\o.aW<p'.aW/\p'.aW<st.next/\zz k bs f y iD Q' i/\(∃h:i<Q'.length,Q'[i]=vt)/\(∀z,z<x->0<fu bs f (I.getD z 0) (bh bs (I.getD z 0) vt)->0<=iD (bh bs (I.getD z 0) vt)))) (I.length) ⟨0,by omega,by omega,sl (tw @b0 (tw @b5 (tw @b8 @fH.eq_1))),⟨out,Q,p,sd @b7,sd @bgp,sd @bgo,dK,by(try dsimp only);omega,hB,⟨fA,MX.symm⟩,fun z hz=>by omega⟩⟩ ?_
   rintro n_c env_c st_c ⟨x,rfl,cle,jj,cI0⟩ cfr
   have c0:=cfr 0 (by kernel_rfl);have c5:=cfr 5 (by kernel_rfl);have c8:=cfr 8 (by kernel_rfl);have c9:=cfr 9 (by kernel_rfl)
   simp only[go_sem, ↓reduceIte,Nat.reduceEqDiff,Nat.reduceAdd,Nat.reduceSub,Nat.reduceLeDiff,reduceCtorEq,b0,b5,b8,fH]at c0 c5 c8 c9
   clear cfr
   obtain⟨iD,Q',p',c7,GR,w8,Cy,MM,dx,⟨wu,pJ⟩,Je⟩:=cI0
   have Sx:=dx.len
   have Ns:=cZ iD k
   have MN:(Q'.map eN).length=Q'.length:=by simp
   have yy:=dv MM
   have lQ:=dv (i:=o) (n:=st_c.next) (by omega)
   have x1:=cQ Cy
   have hx:¬(x:Int)<((0:Nat):Int):=by omega
   have hxe:x=I.length:=by omega
   have hw:IntKind.i64.wrap ((i:Int)+1)=((i+1:Nat):Int):=ax (by omega)
   (try((repeat(revert hN;revert N;apply Pn.out));refine wk (tw @jj (tw @c0 (tw @c5 (tw @c8 (tw @c9 (tw @c7 (tw @hx (tw @hA (tw @JZ @fH.eq_1))))))))) ?_;(repeat(refine Pn.mk ?_;intro N hN))))
   refine⟨_,?_,i+1,iD,Q',p',rfl,sd (tw @jj (tw @c0 (tw @c5 (tw @c8 (tw @c9 @hw))))),sd @c7,sd @GR,sd @w8,Cy,by(try dsimp only);omega,dx.next wu fun e he hr=>?_,by omega⟩
   ·omega
   ·rw[pJ,hIn]at he
    rw[pJ]at hr ⊢
    obtain⟨z,hz,rfl⟩:=Pj e he
    exact Je z (by omega) hr
  ·rw[if_neg RI]at hA
   have pH:(I.map eN).length=I.length:=by simp
   (try((repeat(revert hN;revert N;apply Pn.out));refine wk (tw @b0 (tw @b5 (tw @b7 (tw @b8 (tw @bgp (tw @hi (tw @jY (tw @hqm (tw @eN.eq_1 @fH.eq_1))))))))) ?_;(repeat(refine Pn.mk ?_;intro N hN))))
   refine aH (fun n env st=>∃x:Nat,n=(I.length)-x/\x<=(I.length)/\env 10=.int .i64 (x:Int)/\(∃(iD:Nat->Int) (Q':List Nat) (p':Id),env 7=.own p' 0 Q'.length/\st.get p'=some ⟨true,1,Q'.map eN⟩/\st.get o=some ⟨true,1,dD iD k⟩/\o.aW<p'.aW/\p'.aW<st.next/\zz k bs f y iD Q' i/\(∃h:i<Q'.length,Q'[i]=vt)/\(∀z,z<x->0<fu bs f (I.getD z 0) (bh bs (I.getD z 0) vt)->0<=iD (bh bs (I.getD z 0) vt)))) (I.length) ⟨0,by omega,by omega,sl (tw @b0 (tw @b5 (tw @b8 @fH.eq_1))),⟨out,Q,p,sd @b7,sd @bgp,sd @bgo,dK,by(try dsimp only);omega,hB,⟨fA,MX.symm⟩,fun z hz=>by omega⟩⟩ ?_
   rintro n_c env_c st_c ⟨x,rfl,cle,jj,cI0⟩ cfr
   have c0:=cfr 0 (by kernel_rfl);have c5:=cfr 5 (by kernel_rfl);have c8:=cfr 8 (by kernel_rfl);have c9:=cfr 9 (by kernel_rfl)
   simp only[go_sem, ↓reduceIte,Nat.reduceEqDiff,Nat.reduceAdd,Nat.reduceSub,Nat.reduceLeDiff,reduceCtorEq,b0,b5,b8,fH]at c0 c5 c8 c9
   clear cfr
   obtain⟨iD,Q',p',c7,GR,w8,Cy,MM,dx,⟨wu,pJ⟩,Je⟩:=cI0
   have Sx:=dx.len
   have Ns:=cZ iD k
   have MN:(Q'.map eN).length=Q'.length:=by simp
   have yy:=dv MM
   have lQ:=dv (i:=o) (n:=st_c.next) (by omega)
   have x1:=cQ Cy
   by_cases hx:(x:Int)<(I.length:Int)
   ·have gM:∀{e:Env} {gg:Rows} {nx:Nat},(e 10=.int .i64 (IntKind.i64.wrap ((x:Int)+1)))->(∃(iD:Nat->Int) (Q':List Nat) (p':Id),e 7=.own p' 0 Q'.length/\gg p'=some ⟨true,1,Q'.map eN⟩/\gg o=some ⟨true,1,dD iD k⟩/\o.aW<p'.aW/\p'.aW<nx/\zz k bs f y iD Q' i/\(∃h:i<Q'.length,Q'[i]=vt)/\(∀z,z<(x+1)->0<fu bs f (I.getD z 0) (bh bs (I.getD z 0) vt)->0<=iD (bh bs (I.getD z 0) vt)))->∃m0,m0<(I.length)-x/\∃x:Nat,m0=(I.length)-x/\x<=(I.length)/\e 10=.int .i64 (x:Int)/\(∃(iD:Nat->Int) (Q':List Nat) (p':Id),e 7=.own p' 0 Q'.length/\gg p'=some ⟨true,1,Q'.map eN⟩/\gg o=some ⟨true,1,dD iD k⟩/\o.aW<p'.aW/\p'.aW<nx/\zz k bs f y iD Q' i/\(∃h:i<Q'.length,Q'[i]=vt)/\(∀z,z<x->0<fu bs f (I.getD z 0) (bh bs (I.getD z 0) vt)->0<=iD (bh bs (I.getD z 0) vt))):=fun x1 x2=>⟨_,by omega,x+1,rfl,by omega,(by rw[x1,ax (by omega)]),x2⟩
    have On:x<I.length:=by omega
    have Md:(I.map eN)[x]? =some (eN (I.getD x 0)):=getD_map eN On
    obtain⟨he,oW⟩:=hme x On
    obtain⟨e,QC⟩:∃e,e=I.getD x 0:=⟨_,rfl⟩
    rw[<-QC]at Md he oW
    have iC:=tg he
    have hq:=nW ok (v:=vt) he
    have QR:=nX ok he oW
    have MP:=Ij k bs f hs e (bh bs e vt) he
    have O6:=ok e he
    have rL:IntKind.i64.wrap (((bD bs e).a:Int)+((bD bs e).b:Int))=((bD bs e).a:Int)+((bD bs e).b:Int):=aZ (by omega)
    have s8:IntKind.i64.wrap (((bD bs e).a:Int)+((bD bs e).b:Int)-(vt:Int))=(bh bs e vt:Int):=by
     rw[aZ (by omega)]
     unfold bh
     rcases oW with h1|h1
     ·rw[if_pos h1];omega
     ·rw[if_neg fun h2=>O6.2.2 (h2.trans h1.symm)];omega
    have Od:(bh bs e vt:Int)<(k:Int):=by omega
    have Mz:=dz (f:=iD) hq
    have JM:=dz (f:=iD) Lh
    rw[fH]at MP
    have AA:=dx.up i wu
    rw[pJ]at AA
    have jV:=dx.lo vt Lh
    have hw3:IntKind.i64.wrap (iD vt+1)=iD vt+1:=aZ (by omega)
    rw[bq]at Mz JM
    generalize s6:bD bs e=b at *
    by_cases jP:iD (bh bs e vt)<0
    ·by_cases fU:0<fu bs f e (bh bs e vt)
     ·have hV:=dx.visit ok wu (e:=e) he (by rw[pJ];exact oW) (by rw[pJ];exact jP) (by rw[pJ];exact fU)
      rw[pJ]at hV
      have ev:(dD iD k).set (bh bs e vt) (bq (iD vt+1))=dD (fun v=>if v=bh bs e vt then iD vt+1 else iD v) k:=kK hq (if_pos rfl) fun v _ hv=>if_neg hv
      rw[bq]at ev
      have e1:Q'.length+1<=16777216:=by omega
      (repeat(first|((repeat(revert hN;revert N;apply Pn.out));refine wk (tw @jj (tw @c0 (tw @c5 (tw @c8 (tw @c9 (tw @c7 (tw @GR (tw @w8 (tw @hx (tw @hA (tw @pH (tw @Md (tw @JZ (tw @iC (tw @rL (tw @s8 (tw @Od (tw @Mz (tw @JM (tw @jP (tw @fU (tw @hw3 (tw @ev (tw @MN (tw @Ns (tw @yy (tw @lQ (tw @x1 (tw @e1 (tw @eN.eq_1 (tw @ay.eq_1 @fH.eq_1))))))))))))))))))))))))))))))) ?_;(repeat(refine Pn.mk ?_;intro N hN)))|((try apply Or.inl);refine⟨_,aj.x (MP) (sd (tw @jj (tw @c0 (tw @c5 (tw @c8 (tw @c9 (tw @c7 (tw @GR (tw @w8 (tw @hx (tw @hA (tw @pH (tw @Md (tw @JZ (tw @iC (tw @rL (tw @s8 (tw @Od (tw @Mz (tw @JM (tw @jP (tw @fU (tw @hw3 (tw @ev (tw @MN (tw @Ns (tw @yy (tw @lQ (tw @x1 (tw @e1 (tw @eN.eq_1 (tw @ay.eq_1 @fH.eq_1)))))))))))))))))))))))))))))))),?_⟩;refine hN _ _ ?_;clear hN N)))
      exact gM (sd (tw @jj (tw @c0 (tw @c5 (tw @c8 @c9))))) (⟨_,Q'++[bh bs e vt],⟨239020003,st_c.next+1+1+1+1+1+1⟩,by rw[List.length_append];simp only[go_sem, ↓reduceIte,Nat.reduceEqDiff,Nat.reduceAdd,Nat.reduceSub,Nat.reduceLeDiff,reduceCtorEq,List.length_cons,List.length_nil],by rw[List.map_append,List.map_cons,List.map_nil];simp only[go_sem, ↓reduceIte,Nat.reduceEqDiff,Nat.reduceAdd,Nat.reduceSub,Nat.reduceLeDiff,reduceCtorEq,eN],sd (tw @lQ @x1),by(try dsimp only);omega,by(try dsimp only);omega,hV,⟨by simp;omega,by rw[List.getElem_append_left wu];exact pJ⟩,fun z hz hr=>by
       by_cases PE:z=x
       ·subst PE
        rw[<-QC,if_pos rfl]
        have:=(dx.iff vt Lh).2 (by rw[<-pJ];exact List.getElem_mem wu)
        omega
       ·have:=Je z (by omega) hr
        split
        ·have:=(dx.iff vt Lh).2 (by rw[<-pJ];exact List.getElem_mem wu)
         omega
        ·exact this⟩)
     ·(repeat(first|((repeat(revert hN;revert N;apply Pn.out));refine wk (tw @jj (tw @c0 (tw @c5 (tw @c8 (tw @c9 (tw @c7 (tw @GR (tw @w8 (tw @hx (tw @hA (tw @pH (tw @Md (tw @JZ (tw @iC (tw @rL (tw @s8 (tw @Od (tw @Mz (tw @jP (tw @fU (tw @Ns (tw @yy (tw @lQ (tw @x1 (tw @eN.eq_1 (tw @ay.eq_1 @fH.eq_1)))))))))))))))))))))))))) ?_;(repeat(refine Pn.mk ?_;intro N hN)))|((try apply Or.inl);refine⟨_,aj.x (MP) (sd (tw @jj (tw @c0 (tw @c5 (tw @c8 (tw @c9 (tw @c7 (tw @GR (tw @w8 (tw @hx (tw @hA (tw @pH (tw @Md (tw @JZ (tw @iC (tw @rL (tw @s8 (tw @Od (tw @Mz (tw @jP (tw @fU (tw @Ns (tw @yy (tw @lQ (tw @x1 (tw @eN.eq_1 (tw @ay.eq_1 @fH.eq_1))))))))))))))))))))))))))),?_⟩;refine hN _ _ ?_;clear hN N)))
      exact gM (sd (tw @jj (tw @c0 (tw @c5 (tw @c8 @c9))))) (⟨iD,Q',p',sd @c7,sd (tw @GR @yy),sd (tw @w8 @lQ),Cy,by(try dsimp only);omega,dx,⟨wu,pJ⟩,fun z hz hr=>by
       by_cases PE:z=x
       ·subst PE;rw[<-QC]at hr;exact absurd hr fU
       ·exact Je z (by omega) hr⟩)
    ·(repeat(first|((repeat(revert hN;revert N;apply Pn.out));refine wk (tw @jj (tw @c0 (tw @c5 (tw @c8 (tw @c9 (tw @c7 (tw @GR (tw @w8 (tw @hx (tw @hA (tw @pH (tw @Md (tw @JZ (tw @iC (tw @rL (tw @s8 (tw @Od (tw @Mz (tw @jP (tw @Ns (tw @yy (tw @lQ (tw @x1 (tw @eN.eq_1 (tw @ay.eq_1 @fH.eq_1))))))))))))))))))))))))) ?_;(repeat(refine Pn.mk ?_;intro N hN)))|((try apply Or.inl);refine⟨_,aj.x (MP) (sd (tw @jj (tw @c0 (tw @c5 (tw @c8 (tw @c9 (tw @c7 (tw @GR (tw @w8 (tw @hx (tw @hA (tw @pH (tw @Md (tw @JZ (tw @iC (tw @rL (tw @s8 (tw @Od (tw @Mz (tw @jP (tw @Ns (tw @yy (tw @lQ (tw @x1 (tw @eN.eq_1 (tw @ay.eq_1 @fH.eq_1)))))))))))))))))))))))))),?_⟩;refine hN _ _ ?_;clear hN N)))
     exact gM (sd (tw @jj (tw @c0 (tw @c5 (tw @c8 @c9))))) (⟨iD,Q',p',sd @c7,sd (tw @GR @yy),sd (tw @w8 @lQ),Cy,by(try dsimp only);omega,dx,⟨wu,pJ⟩,fun z hz hr=>by
      by_cases PE:z=x
      ·subst PE;rw[<-QC];omega
      ·exact Je z (by omega) hr⟩)
   ·have hxe:x=I.length:=by omega
    have hw:IntKind.i64.wrap ((i:Int)+1)=((i+1:Nat):Int):=ax (by omega)
    (try((repeat(revert hN;revert N;apply Pn.out));refine wk (tw @jj (tw @c0 (tw @c5 (tw @c8 (tw @c9 (tw @c7 (tw @hx (tw @hA (tw @pH (tw @JZ @fH.eq_1)))))))))) ?_;(repeat(refine Pn.mk ?_;intro N hN))))
    refine⟨_,?_,i+1,iD,Q',p',rfl,sd (tw @jj (tw @c0 (tw @c5 (tw @c8 (tw @c9 @hw))))),sd @c7,sd @GR,sd @w8,Cy,by(try dsimp only);omega,dx.next wu fun e he hr=>?_,by omega⟩
    ·omega
    ·rw[pJ,hIn]at he
     rw[pJ]at hr ⊢
     obtain⟨z,hz,rfl⟩:=Pj e he
     exact Je z (by omega) hr
 ·(try((repeat(revert hN;revert N;apply Pn.out));refine wk (tw @b0 (tw @b5 (tw @b7 (tw @b8 (tw @hi @fH.eq_1))))) ?_;(repeat(refine Pn.mk ?_;intro N hN))))
  have rH:fX st_b.get 6 (.own o 0 k)=some (.sl (dD out k)):=tn bgo (by rw[Q5];omega) (by rw[List.drop_zero,List.take_of_length_le (by rw[Q5];omega)];exact Iz)
  exact⟨_,rfl,_,by simp only[go_sem, ↓reduceIte,Nat.reduceEqDiff,Nat.reduceAdd,Nat.reduceSub,Nat.reduceLeDiff,reduceCtorEq,fe];exact rH,out,rfl,hB.done ok (by omega)⟩
end Go.Proofs.YtgoelphibofcmaaGreat.V

namespace Go.Proofs.YtgoelphibofcmaaGreat.V
open Go.RowKit
attribute [local irreducible] dI wpOps ib Call
attribute [local go_sem] aJ gu eW gR gQ cE upd cw K.av cY AV.cells AV.cell rowOf rowsOf part ld rowAt bB cr dY eG jq bP dq eT gP fx dE eK dn dm eu ew bU bp db bR de dc eI eL eJ da cm dp eH bQ aO di cI jo bE cU bV aY du aV ea AV.undef bG bJ eA eE ei ep cJ eR eV cG eO eM dh dj List.getD_cons_zero List.getD_cons_succ List.getD_nil List.all_cons List.all_nil Bool.and_true Bool.true_and Bool.and_self Bool.not_true Bool.not_false Option.map_some Option.map_none Option.bind_some Option.bind_none List.length_cons List.length_nil List.take_succ_cons List.take_zero List.take_nil List.drop_succ_cons List.drop_zero List.drop_nil List.head?_cons List.map_cons List.map_nil List.getElem?_cons_zero List.getElem?_cons_succ List.cons_append List.nil_append List.append_nil List.length_map List.set_cons_zero List.set_cons_succ eq_self Int.toNat_natCast Int.natCast_nonneg and_self true_and and_true decide_true decide_false Bool.false_eq_true Nat.zero_add Nat.add_zero List.contains_cons List.contains_nil Bool.or_false Bool.false_or beq_self_eq_true ne_eq not_true_eq_false not_false_eq_true Id.mk.injEq false_and and_false Nat.le_refl List.length_append beq_true beq_false Bool.not_eq_eq_eq_not or_false false_or eh ao aq aK br bI cC bc bz aQ bt cX cj
def NU:LD (List Nat):=fun g cs x ids=>(x=[]/\cs=[.cu]/\ids=[])∨∃id,cs=[.own id 0 x.length]/\0<x.length/\g id=some ⟨true,1,x.map eN⟩/\ids=[id]
theorem Lr:Jl NU 1 where
 frame:=fun h hf=>by
  rcases h with h|⟨id,h1,h0,h2,h3⟩
  ·exact .inl h
  ·subst h3;exact .inr ⟨id,h1,h0,(hf id (by simp)).trans h2,rfl⟩
 len:=fun h=>by rcases h with⟨_,h,_⟩|⟨id,h,_⟩<;>subst h<;>rfl
 cell:=fun h=>by rcases h with⟨_,h,_⟩|⟨id,h,_⟩<;>subst h<;>rfl
 live:=fun h i hi=>by
  rcases h with⟨_,_,h⟩|⟨id,h1,h0,h2,h3⟩
  ·subst h;cases hi
  ·subst h3
   have:i=id:=by simpa using hi
   subst this
   exact⟨_,h2,rfl,by simp[yQ]⟩
 small:=by simp[yQ]
theorem M4 {g:Rows} {rows:List (List AV)} {xs:List (List Nat)} {ids:List Id} (n:Nat) (h:eQ NU g rows xs ids):dJ (eh g) (n+2) rows=some (xs.map fun l=>[Nn l]):=
 h.fz (fun {cs x ids} h=>by
  rcases h with⟨h0,h1,_⟩|⟨id,h1,h0,h2,_⟩
  ·subst h0 h1;rw[ao,aq,bc];rfl
  ·have fY:x≠[]:=by rintro rfl;simp at h0
   subst h1
   rw[ao,aq,jx (e:=eN) (sz:=1) (by simp[eh,h2]) rfl fun a=>fzN _ n a]
   simp[Nn,fY])
theorem eQ.PR {α:Type} {R:LD α} {sz:Nat} {g:Rows} {rows:List (List AV)} {xs:List α} {ids:List Id} (ok:Jl R sz) (h:eQ R g rows xs ids) (oy:ids.Nodup) (k:Nat) (hk:k<xs.length):
  ∃cs ic,rows[k]? =some cs/\R g cs xs[k] ic/\(∀i∈ic,i∈ids)/\∀(g':Rows) pb x' Oq,R g' pb x' Oq->(∀i∈ids,i∉ic->g' i=g i)->Oq.Nodup->(∀i∈Oq,i∉ids)->∃CD,eQ R g' (rows.set k pb) (xs.set k x') CD/\CD.Nodup/\∀i∈CD,i∈Oq∨i∈ids:=by
 obtain⟨r1,cs,r2,i1,ic,i2,rfl,rfl,rfl,h3,h4,h5⟩:=h.split k hk
 obtain⟨n1,n2,n3⟩:=List.nodup_append.1 oy
 obtain⟨nc,n5,n4⟩:=List.nodup_append.1 n2
 refine⟨cs,ic,by simp,h4,fun i hi=>by simp[hi],fun g' pb x' Oq hR hf hn' jZ=>⟨i1++(Oq++i2),?_,?_,fun i hi=>?_⟩⟩
 ·have e:xs.set r1.length x'=xs.take r1.length++x'::xs.drop (r1.length+1):=by rw[List.set_eq_take_append_cons_drop,if_pos hk]
  have e2:(r1++cs::r2).set r1.length pb=r1++pb::r2:=by simp
  rw[e,e2]
  refine(h3.frame ok fun i hi=>hf i (by simp[hi]) fun hc=>n3 i hi i (by simp[hc]) rfl).app (.cons hR (h5.frame ok fun i hi=>hf i (by simp[hi]) fun hc=>n4 i hc i hi rfl))
 ·rw[List.nodup_append,List.nodup_append]
  refine⟨n1,⟨hn',n5,fun x hx y hy he=>?_⟩,fun x hx y hy he=>?_⟩
  ·subst he;exact jZ x hx (by simp[hy])
  ·subst he
   rcases List.mem_append.1 hy with hy|hy
   ·exact jZ x hy (by simp[hx])
   ·exact n3 x hx x (by simp[hy]) rfl
 ·rcases List.mem_append.1 hi with hi|hi
  ·exact .inr (by simp[hi])
  ·rcases List.mem_append.1 hi with hi|hi
   ·exact .inl hi
   ·exact .inr (by simp[hi])
def qb (A:Id) (lo:Nat) (L:List (List Nat)) (g:Rows) (nx:Nat):Prop:=∃rows ids,g A=some ⟨true,1,rows⟩/\eQ NU g rows L ids/\ids.Nodup/\∀i∈ids,lo<i.aW/\i.aW<nx
def aT (cnt:Nat) (bs:List PB) (A F:Id):List AV:=[.int .i64 cnt,.sl (bs.map ay),.own A 0 cnt,.own F 0 bs.length]
def kX (cnt:Nat) (bs:List PB) (m:Nat):List (List Nat):=(List.range cnt).map fun v=>iJ bs m v
theorem jd (cnt:Nat) (bs:List PB) (m:Nat):(kX cnt bs m).length=cnt:=by simp[kX]
structure nz (cnt:Nat) (bs:List PB) (f:Nat->Int) (X A F:Id) (g:Rows) (nx:Nat):Prop where
 x:g X=some ⟨true,4,[aT cnt bs A F]⟩
 a:qb A F.aW (kX cnt bs bs.length) g nx
 f:g F=some ⟨true,1,dD f bs.length⟩
 xa:X.aW<A.aW
 af:A.aW<F.aW
 fn:F.aW<nx
theorem qb.fz {A:Id} {lo cnt:Nat} {bs:List PB} {m nx n:Nat} {g:Rows} (h:qb A lo (kX cnt bs m) g nx):V.fz (eh g) (n+3) (.own A 0 cnt)=some (.sl (pk cnt bs m)):=by
 obtain⟨rows,ids,h1,h2,_,_⟩:=h
 have hl:=h2.len
 rw[jd]at hl
 rw[il]
 simp only[eh,h1,Option.map_some,if_true]
 rw[if_pos (by omega),List.drop_zero,List.take_of_length_le (by omega)]
 have:=M4 n h2
 rw[this]
 simp[kX,pk]
theorem nz.fz {cnt:Nat} {bs:List PB} {f:Nat->Int} {X A F:Id} {g:Rows} {nx:Nat} (h:nz cnt bs f X A F g nx):V.fz (eh g) 6 (.ptr X 0 0)=some (.bK (fH cnt bs f)):=by
 have hF:eh g F=some ⟨true,1,dD f bs.length⟩:=by simp[eh,h.f]
 have hX:eh g X=some ⟨true,4,[aT cnt bs A F]⟩:=by simp[eh,h.x]
 have hf:V.fz (eh g) 5 (.own F 0 bs.length)=some (.sl (dD f bs.length)):=by
  rw[il]
  simp only[hF,if_true]
  rw[if_pos (by rw[cZ];omega),List.drop_zero,List.take_of_length_le (by rw[cZ];omega),zk];rfl
 have ha:=h.a.fz (n:=2)
 rw[bt]
 simp only[hX,if_true,List.getElem?_cons_zero,List.drop_zero,aT,ao,aq,aK,cC,ha,hf,Option.map_some,fH]
theorem Fj (cnt:Nat) (bs:List PB):kX cnt bs 0=List.replicate cnt []:=by
 refine List.ext_getElem? fun i=>?_
 simp only[kX,List.getElem?_map,List.getElem?_replicate]
 by_cases h:i<cnt
 ·rw[List.getElem?_range h,if_pos h];rfl
 ·rw[List.getElem?_eq_none (by simpa using h),if_neg h];rfl
theorem xM (g:Rows):∀n:Nat,eQ NU g (List.replicate n [.cu]) (List.replicate n []) []
 |0=>.nil
 |n+1=>.cons (i1:=[]) (.inl ⟨rfl,rfl,rfl⟩) (xM g n)
def wE (cnt:Nat) (bs:List PB) (m:Nat):List (List Nat):=(kX cnt bs m).set (bD bs m).a (iJ bs m (bD bs m).a++[m])
theorem AF {cnt:Nat} {bs:List PB} {m v:Nat} (hv:v<cnt) (fY:(bD bs m).a≠v):(wE cnt bs m)[v]? =some (iJ bs m v):=by
 unfold wE
 rw[List.getElem?_set_ne fY]
 simp[kX,hv]
theorem Fi {cnt:Nat} {bs:List PB} {m:Nat} (ha:(bD bs m).a<cnt) (hb:(bD bs m).b<cnt) (fY:(bD bs m).a≠(bD bs m).b):(wE cnt bs m).set (bD bs m).b (iJ bs m (bD bs m).b++[m])=kX cnt bs (m+1):=by
 refine List.ext_getElem? fun i=>?_
 by_cases hi:i<cnt
 ·have hr:(kX cnt bs (m+1))[i]? =some (iJ bs (m+1) i):=by simp[kX,hi]
  rw[hr,Fk]
  by_cases h1:(bD bs m).b=i
  ·rw[List.getElem?_set,if_pos h1,if_pos (by simp[wE,jd];omega),if_pos (.inr h1),h1]
  ·rw[List.getElem?_set_ne h1]
   by_cases h2:(bD bs m).a=i
   ·unfold wE
    rw[List.getElem?_set,if_pos h2,if_pos (by rw[jd];omega),if_pos (.inl h2),h2]
   ·rw[AF hi h2,if_neg (fun h=>h.elim h2 h1),List.append_nil]
 ·rw[List.getElem?_eq_none (by simp[wE,jd];omega),List.getElem?_eq_none (by rw[jd];omega)]
theorem ko {α:Type} {l:List α} {k:Nat} {x:α} (h:l[k]? =some x) (hk:k<l.length):l[k]=x:=by
 rw[List.getElem?_eq_getElem hk]at h;exact Option.some.inj h
theorem Eg {A K:Id} {lo PN nx k j:Nat} {L:List (List Nat)} {La:List Nat} {g:Rows} {rows:List (List AV)} {ids:List Id} (hR:eQ NU g rows L ids) (oy:ids.Nodup) (nu:∀i∈ids,lo<i.aW/\i.aW<PN) (hA:A.aW<=lo) (hL:L[k]? =some La) (hK1:PN<=K.aW) (Mq:K.aW<nx) (jV:lo<PN):
  ∃cs,rows[k]? =some cs/\((La=[]/\cs=[.cu])∨∃id:Id,cs=[.own id 0 La.length]/\0<La.length/\g id=some ⟨true,1,La.map eN⟩/\id.aW<PN/\lo<id.aW)/\
   ∀g':Rows,g' A=some ⟨true,1,rows.set k [.own K 0 (La.length+1)]⟩->g' K=some ⟨true,1,La.map eN++[[.int .i64 j]]⟩->(∀i:Id,i.aW<PN->(i=A)=False->(∀id,cs=[.own id 0 La.length]->(i=id)=False)->g' i=g i)->qb A lo (L.set k (La++[j])) g' nx:=by
 have hk:k<L.length:=(List.getElem?_eq_some_iff.1 hL).1
 have RK:=ko hL hk
 obtain⟨cs,ic,cR,N2,Pd,uD⟩:=hR.PR Lr oy k hk
 rw[RK]at N2
 refine⟨cs,cR,?_,fun g' h1 h2 h3=>?_⟩
 ·rcases N2 with⟨h1,h2,_⟩|⟨id,h1,h2,h3,h4⟩
  ·exact .inl ⟨h1,h2⟩
  ·subst h4
   have:=nu id (Pd id (by simp))
   exact .inr ⟨id,h1,h2,h3,this.2,this.1⟩
 ·obtain⟨CD,q1,q2,q3⟩:=uD g' [.own K 0 (La.length+1)] (La++[j]) [K] (.inr ⟨K,by simp,by simp,by rw[h2];simp[eN],rfl⟩) (fun i hi QQ=>by
   refine h3 i (nu i hi).2 ?_ fun id hid=>?_
   ·simp only[eq_iff_iff,iff_false];rintro rfl;have:=nu _ hi;omega
   ·simp only[eq_iff_iff,iff_false]
    rintro rfl
    rcases N2 with⟨_,h4,_⟩|⟨jR,h4,_,_,h5⟩
    ·rw[hid]at h4;cases h4
    ·rw[hid]at h4
     simp only[List.cons.injEq,AV.own.injEq,and_true]at h4
     rw[h5,h4]at QQ
     exact QQ (by simp)) (by simp) fun i hi hc=>by
   rw[List.mem_singleton.1 hi]at hc;have:=nu _ hc;omega
  refine⟨_,CD,h1,q1,q2,fun i hi=>?_⟩
  rcases q3 i hi with h|h
  ·rw[List.mem_singleton.1 h];omega
  ·have:=nu i h;omega
theorem KJ {P:Program} {Q:Ex->Env->ar->Prop} {c:VC} {env:Env} {σ:ar} (I:Env->ar->Prop) (h2:∀e s,I e s->Q .normal e s) (h1:∀N':Env->ar->Prop,(∀e s,I e s->N' e s)->dI (Call P) c (du N' Q) env σ):dI (Call P) c Q env σ:=by
 refine ji (fun _ _ _ _ h=>h) aU c _ _ env σ (fun x e s h=>?_) (h1 I fun _ _ h=>h)
 cases x with
 |normal=>exact h2 e s h
 |exit id=>exact h
 |ret=>exact h
end Go.Proofs.YtgoelphibofcmaaGreat.V
