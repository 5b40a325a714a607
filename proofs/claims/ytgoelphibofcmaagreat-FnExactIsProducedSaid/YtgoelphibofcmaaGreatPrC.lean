/- The law of IsProduced, given that both sides answer alike. -/
import Derived.Test.YtgoelphibofcmaaGreatPrB
import Derived.Test.YtgoelphibofcmaaGreatChecked
import Derived.Test.YtgoelphibofcmaaGreatPrA
set_option linter.unusedVariables false
set_option linter.unusedSimpArgs false
set_option maxRecDepth 100000
set_option maxHeartbeats 16000000
namespace Go.Proofs.YtgoelphibofcmaaGreat.V
open Go.RowKit
attribute [local irreducible] dx wpOps gp Call
attribute [local go_sem] aH fC eG fW fV cF upd cj K.av cJ AV.cells AV.cell rowOf rowsOf part ld rowAt bj bY dz eb gT bE cZ er fS eU dp eh cX cW dR dS bH aW cN bG cQ cP ee ei ef cL bP cY ec bF aL cU cw gS bl cG bI aP dd aU dB AV.undef bw bB dV ea dI dG cE ep ev cq ek ej cR cV List.getD_cons_zero List.getD_cons_succ List.getD_nil List.all_cons List.all_nil Bool.and_true Bool.true_and Bool.and_self Bool.not_true Bool.not_false Option.map_some Option.map_none Option.bind_some Option.bind_none List.length_cons List.length_nil List.take_succ_cons List.take_zero List.take_nil List.drop_succ_cons List.drop_zero List.drop_nil List.head?_cons List.map_cons List.map_nil List.getElem?_cons_zero List.getElem?_cons_succ List.cons_append List.nil_append List.append_nil List.length_map List.set_cons_zero List.set_cons_succ Nat.reduceMul eq_self Int.toNat_natCast Int.natCast_nonneg and_self true_and and_true decide_true decide_false Bool.false_eq_true Nat.zero_add Nat.add_zero List.contains_cons List.contains_nil Bool.or_false Bool.false_or beq_self_eq_true Nat.reduceBEq ne_eq not_true_eq_false not_false_eq_true Id.mk.injEq false_and and_false Nat.reduceLT Int.reduceLE Int.reduceLT Int.reduceToNat Int.reduceNeg Int.reduceAdd Nat.le_refl List.length_append beq_true beq_false Bool.not_eq_eq_eq_not or_false false_or dO ah aq aI aZ bt ck aS bf aO aY cK bK
theorem Hn (Nn:aC->eK->Bool×Int)
  (OU:∀s a,gx s.aK->wo s->a.ai.length<=1048576->aj Tryz.prog 16 [.agg (ax s),.agg (bd a)] (.gn [.bool (Nn s a).1,.int .i64 (Nn s a).2]))
  (OG:∀s a,gx s.aK->wo s->a.ai.length<=1048576->aj Tryz.prog 19 [.agg (ax s),.agg (bd a)] (.gn [.bool (Nn s a).1,.int .i64 (Nn s a).2]))
  (s:aC) (a:eK) (hn:gx s.aK):aj Tryz.prog 3 [.agg (ax s),.agg (bd a)] (.bool true):=by
 refine aj.body eI rfl fun hl n0=>?_
 clear hl
 have h1:=CO s 1048576 (by omega) (by omega) hn
 by_cases hf:(y7 s:Int)<=1048576
 ·rw[hZ hf]at h1
  have jI:¬(1048576:Int)-(y7 s:Int)<0:=by omega
  have h2:=qG a (1048576-y7 s) (by omega) (by omega)
  by_cases hg:(a.ai.length:Int)<=1048576-y7 s
  ·rw[hZ hg]at h2
   have zj:¬(1048576:Int)-(y7 s:Int)-(a.ai.length:Int)<0:=by omega
   have sm:=Fq (s:=s) (by omega)
   have am:a.ai.length<=1048576:=by omega
   have t1:=CT s sm
   have t2:=qI a am
   have r1:=OU s a hn sm am
   have r2:=OG s a hn sm am
   have q1:=BE s
   have q2:=xY a
   obtain⟨b,hb⟩:∃b,b=(Nn s a).1:=⟨_,rfl⟩
   obtain⟨c,hc⟩:∃c,c=(Nn s a).2:=⟨_,rfl⟩
   rw[<-hb,<-hc]at r1 r2
   have e1:(b==b)=true:=by simp
   have e2:decide (c=c)=true:=by simp
   rw[ax]at h1 t1 r1 r2 q1
   rw[bd]at h2 t2 r1 r2 q2
   (repeat(first|((repeat(revert hN;revert N;apply Pn.out));refine wk (tw @ax.eq_1 (tw @bd.eq_1 (tw @jI (tw @zj (tw @e1 @e2))))) ?_;(repeat(refine Pn.mk ?_;intro N hN)))|((try apply Or.inl);refine⟨_,aj.x (h1) (sd (tw @ax.eq_1 (tw @bd.eq_1 (tw @jI (tw @zj (tw @e1 @e2)))))),?_⟩;refine hN _ _ ?_;clear hN N)|((try apply Or.inl);refine⟨_,aj.x (h2) (sd (tw @ax.eq_1 (tw @bd.eq_1 (tw @jI (tw @zj (tw @e1 @e2)))))),?_⟩;refine hN _ _ ?_;clear hN N)|((try apply Or.inl);refine⟨_,lS.x (t1) _,?_⟩;refine hN _ _ ?_;clear hN N)|((try apply Or.inl);refine⟨_,lS.x (t2) _,?_⟩;refine hN _ _ ?_;clear hN N)|((try apply Or.inl);refine⟨_,aj.x (r1) (sd (tw @ax.eq_1 (tw @bd.eq_1 (tw @jI (tw @zj (tw @e1 @e2)))))),?_⟩;refine hN _ _ ?_;clear hN N)|((try apply Or.inl);refine⟨_,aj.x (r2) (sd (tw @ax.eq_1 (tw @bd.eq_1 (tw @jI (tw @zj (tw @e1 @e2)))))),?_⟩;refine hN _ _ ?_;clear hN N)|((try apply Or.inl);refine⟨_,aj.x (q1) (sd (tw @ax.eq_1 (tw @bd.eq_1 (tw @jI (tw @zj (tw @e1 @e2)))))),?_⟩;refine hN _ _ ?_;clear hN N)|((try apply Or.inl);refine⟨_,aj.x (q2) (sd (tw @ax.eq_1 (tw @bd.eq_1 (tw @jI (tw @zj (tw @e1 @e2)))))),?_⟩;refine hN _ _ ?_;clear hN N)))
   exact aM (b:=true) (.inl rfl) (sd @Nat.zero_add) rfl
  ·rw[il hg]at h2
   rw[ax]at h1
   rw[bd]at h2
   (repeat(first|((repeat(revert hN;revert N;apply Pn.out));refine wk (tw @ax.eq_1 (tw @bd.eq_1 @jI)) ?_;(repeat(refine Pn.mk ?_;intro N hN)))|((try apply Or.inl);refine⟨_,aj.x (h1) (sd (tw @ax.eq_1 (tw @bd.eq_1 @jI))),?_⟩;refine hN _ _ ?_;clear hN N)|((try apply Or.inl);refine⟨_,aj.x (h2) (sd (tw @ax.eq_1 (tw @bd.eq_1 @jI))),?_⟩;refine hN _ _ ?_;clear hN N)))
   exact aM (b:=true) (.inl rfl) (sd @Nat.zero_add) rfl
 ·rw[il hf]at h1
  rw[ax]at h1
  (repeat(first|((repeat(revert hN;revert N;apply Pn.out));refine wk (tw @ax.eq_1 @bd.eq_1) ?_;(repeat(refine Pn.mk ?_;intro N hN)))|((try apply Or.inl);refine⟨_,aj.x (h1) (sd (tw @ax.eq_1 @bd.eq_1)),?_⟩;refine hN _ _ ?_;clear hN N)))
  exact aM (b:=true) (.inl rfl) (sd @Nat.zero_add) rfl
end Go.Proofs.YtgoelphibofcmaaGreat.V

namespace Go.Proofs.YtgoelphibofcmaaGreat.V
open Go.RowKit
attribute [local irreducible] dx wpOps gp Call
attribute [local go_sem] aH fC eG fW fV cF upd cj K.av cJ AV.cells AV.cell rowOf rowsOf part ld rowAt bj bY dz eb gT bE cZ er fS eU dp eh cX cW dR dS bH aW cN bG cQ cP ee ei ef cL bP cY ec bF aL cU cw gS bl cG bI aP dd aU dB AV.undef bw bB dV ea dI dG cE ep ev cq ek ej cR cV List.getD_cons_zero List.getD_cons_succ List.getD_nil List.all_cons List.all_nil Bool.and_true Bool.true_and Bool.and_self Bool.not_true Bool.not_false Option.map_some Option.map_none Option.bind_some Option.bind_none List.length_cons List.length_nil List.take_succ_cons List.take_zero List.take_nil List.drop_succ_cons List.drop_zero List.drop_nil List.head?_cons List.map_cons List.map_nil List.getElem?_cons_zero List.getElem?_cons_succ List.cons_append List.nil_append List.append_nil List.length_map List.set_cons_zero List.set_cons_succ Nat.reduceMul eq_self Int.toNat_natCast Int.natCast_nonneg and_self true_and and_true decide_true decide_false Bool.false_eq_true Nat.zero_add Nat.add_zero List.contains_cons List.contains_nil Bool.or_false Bool.false_or beq_self_eq_true Nat.reduceBEq ne_eq not_true_eq_false not_false_eq_true Id.mk.injEq false_and and_false Nat.reduceLT Int.reduceLE Int.reduceLT Int.reduceToNat Int.reduceNeg Int.reduceAdd Nat.le_refl List.length_append beq_true beq_false Bool.not_eq_eq_eq_not or_false false_or dO ah aq aI aZ bt ck aS bf aO aY cK bK
def iI (n lo hi:Int):Bool:=decide (lo<=n)&&decide (n<=hi)
theorem dW {n lo hi:Int} (h:iI n lo hi=true):lo<=n/\n<=hi:=by simpa[iI]using h
theorem kg {n lo hi:Int} (h:lo<=n/\n<=hi):iI n lo hi=true:=by simpa[iI]using h
def AH (p:aB):Bool:=iI p.eS (-60) 60&&iI p.eH (-60) 60
theorem kW (n lo hi:Int):aj Tryz.prog 137 [.int .i64 n,.int .i64 lo,.int .i64 hi] (.bool (iI n lo hi)):=by
 refine aj.body eI rfl fun hl n0=>?_
 clear hl
 by_cases h1:lo<=n
 ·(try((repeat(revert hN;revert N;apply Pn.out));refine wk @h1 ?_;(repeat(refine Pn.mk ?_;intro N hN))))
  exact aM (b:=decide (n<=hi)) (.inl rfl) (sd @Nat.zero_add) (by simp[iI,h1])
 ·(try((repeat(revert hN;revert N;apply Pn.out));refine wk @h1 ?_;(repeat(refine Pn.mk ?_;intro N hN))))
  exact aM (b:=false) (.inl rfl) (sd @Nat.zero_add) (by simp[iI,h1])
theorem kB (n lo hi:Int):aj Tryz.prog 141 [.int .i64 n,.int .i64 lo,.int .i64 hi] (.bool (iI n lo hi)):=by
 refine aj.body eI rfl fun hl n0=>?_
 clear hl
 by_cases h1:lo<=n
 ·(try((repeat(revert hN;revert N;apply Pn.out));refine wk @h1 ?_;(repeat(refine Pn.mk ?_;intro N hN))))
  exact aM (b:=decide (n<=hi)) (.inl rfl) (sd @Nat.zero_add) (by simp[iI,h1])
 ·(try((repeat(revert hN;revert N;apply Pn.out));refine wk @h1 ?_;(repeat(refine Pn.mk ?_;intro N hN))))
  exact aM (b:=false) (.inl rfl) (sd @Nat.zero_add) (by simp[iI,h1])
theorem Hh (d:Int):aj Tryz.prog 173 [.int .i64 d] (.bool (iI d 0 3)):=by
 refine aj.body eI rfl fun hl n0=>?_
 clear hl
 have h:=kW d 0 3
 (repeat(first|((repeat(revert hN;revert N;apply Pn.out));refine wk @Nat.zero_add ?_;(repeat(refine Pn.mk ?_;intro N hN)))|((try apply Or.inl);refine⟨_,aj.x (h) (sd @Nat.zero_add),?_⟩;refine hN _ _ ?_;clear hN N)))
 exact aM (b:=iI d 0 3) (.inl rfl) (sd @Nat.zero_add) rfl
theorem ur (p:aB):aj Tryz.prog 123 [.agg (ae p)] (.bool (AH p)):=by
 refine aj.body eI rfl fun hl n0=>?_
 clear hl
 have h1:=kW p.eS (-60) 60
 have h2:=kW p.eH (-60) 60
 by_cases q:iI p.eS (-60) 60=true
 ·rw[q]at h1
  (repeat(first|((repeat(revert hN;revert N;apply Pn.out));refine wk @ae.eq_1 ?_;(repeat(refine Pn.mk ?_;intro N hN)))|((try apply Or.inl);refine⟨_,aj.x (h1) (sd @ae.eq_1),?_⟩;refine hN _ _ ?_;clear hN N)|((try apply Or.inl);refine⟨_,aj.x (h2) (sd @ae.eq_1),?_⟩;refine hN _ _ ?_;clear hN N)))
  exact aM (b:=iI p.eH (-60) 60) (.inl rfl) (sd @Nat.zero_add) (by rw[AH,q];rfl)
 ·rw[Bool.not_eq_true]at q
  rw[q]at h1
  (repeat(first|((repeat(revert hN;revert N;apply Pn.out));refine wk @ae.eq_1 ?_;(repeat(refine Pn.mk ?_;intro N hN)))|((try apply Or.inl);refine⟨_,aj.x (h1) (sd @ae.eq_1),?_⟩;refine hN _ _ ?_;clear hN N)|((try apply Or.inl);refine⟨_,aj.x (h2) (sd @ae.eq_1),?_⟩;refine hN _ _ ?_;clear hN N)))
  exact aM (b:=false) (.inl rfl) (sd @Nat.zero_add) (by rw[AH,q];rfl)
theorem pT (p:aB):aj Tryz.prog 140 [.agg (ae p)] (.bool (AH p)):=by
 refine aj.body eI rfl fun hl n0=>?_
 clear hl
 have h1:=kB p.eS (-60) 60
 have h2:=kB p.eH (-60) 60
 by_cases q:iI p.eS (-60) 60=true
 ·rw[q]at h1
  (repeat(first|((repeat(revert hN;revert N;apply Pn.out));refine wk @ae.eq_1 ?_;(repeat(refine Pn.mk ?_;intro N hN)))|((try apply Or.inl);refine⟨_,aj.x (h1) (sd @ae.eq_1),?_⟩;refine hN _ _ ?_;clear hN N)|((try apply Or.inl);refine⟨_,aj.x (h2) (sd @ae.eq_1),?_⟩;refine hN _ _ ?_;clear hN N)))
  exact aM (b:=iI p.eH (-60) 60) (.inl rfl) (sd @Nat.zero_add) (by rw[AH,q];rfl)
 ·rw[Bool.not_eq_true]at q
  rw[q]at h1
  (repeat(first|((repeat(revert hN;revert N;apply Pn.out));refine wk @ae.eq_1 ?_;(repeat(refine Pn.mk ?_;intro N hN)))|((try apply Or.inl);refine⟨_,aj.x (h1) (sd @ae.eq_1),?_⟩;refine hN _ _ ?_;clear hN N)|((try apply Or.inl);refine⟨_,aj.x (h2) (sd @ae.eq_1),?_⟩;refine hN _ _ ?_;clear hN N)))
  exact aM (b:=false) (.inl rfl) (sd @Nat.zero_add) (by rw[AH,q];rfl)
def rM (d:Int):Int:=if iI d 0 3 then(d+2) % 4 else -1
def dm (p:aB) (d:Int):aB:=
 if d=0 then⟨p.eS,p.eH+1⟩else if d=1 then⟨p.eS+1,p.eH⟩else if d=2 then⟨p.eS,p.eH-1⟩else if d=3 then⟨p.eS-1,p.eH⟩else p
def iB (n:Int):Prop:=-4611686018427387904<=n/\n<=4611686018427387904
theorem xc (p:aB) (d:Int) (hd:iI d 0 3=true) (hx:iB p.eS) (hy:iB p.eH):aj Tryz.prog 122 [.agg (ae p),.int .i64 d] (.agg (ae (dm p d))):=by
 refine aj.body eI rfl fun hl n0=>?_
 clear hl
 obtain⟨x1,x2⟩:=hx
 obtain⟨y1,y2⟩:=hy
 have w1:IntKind.i64.wrap (p.eS+1)=p.eS+1:=bW (by omega)
 have w2:IntKind.i64.wrap (p.eS-1)=p.eS-1:=bW (by omega)
 have w3:IntKind.i64.wrap (p.eH+1)=p.eH+1:=bW (by omega)
 have w4:IntKind.i64.wrap (p.eH-1)=p.eH-1:=bW (by omega)
 have hb:=dW hd
 have hc:d=0∨d=1∨d=2∨d=3:=by omega
 rcases hc with rfl|rfl|rfl|rfl
 ·(try((repeat(revert hN;revert N;apply Pn.out));refine wk (tw @ae.eq_1 @w3) ?_;(repeat(refine Pn.mk ?_;intro N hN))))
  exact oU (.inl rfl) (vs:=[.agg (ae (dm p 0))]) (by simp only[go_sem, ↓reduceIte,Nat.reduceEqDiff,Nat.reduceAdd,Nat.reduceSub,Nat.reduceLeDiff,reduceCtorEq,eZ,gR,ae,dm]) (by simp[fo,ae,fZ,dU])
 ·(try((repeat(revert hN;revert N;apply Pn.out));refine wk (tw @ae.eq_1 @w1) ?_;(repeat(refine Pn.mk ?_;intro N hN))))
  exact oU (.inl rfl) (vs:=[.agg (ae (dm p 1))]) (by simp[eZ,gR,ae,dm,ld,rowAt,bj,upd,part]) (by simp[fo,ae,fZ,dU])
 ·(try((repeat(revert hN;revert N;apply Pn.out));refine wk (tw @ae.eq_1 @w4) ?_;(repeat(refine Pn.mk ?_;intro N hN))))
  exact oU (.inl rfl) (vs:=[.agg (ae (dm p 2))]) (by simp[eZ,gR,ae,dm,ld,rowAt,bj,upd,part]) (by simp[fo,ae,fZ,dU])
 ·(try((repeat(revert hN;revert N;apply Pn.out));refine wk (tw @ae.eq_1 @w2) ?_;(repeat(refine Pn.mk ?_;intro N hN))))
  exact oU (.inl rfl) (vs:=[.agg (ae (dm p 3))]) (by simp[eZ,gR,ae,dm,ld,rowAt,bj,upd,part]) (by simp[fo,ae,fZ,dU])
theorem yH (p p2:aB) (x y:Int) (hx:IntKind.i64.wrap (p.eS+p2.eS)=x) (hy:IntKind.i64.wrap (p.eH+p2.eH)=y):aj Tryz.prog 184 [.agg (ae p),.agg (ae p2)] (.agg [.int .i64 x,.int .i64 y]):=by
 refine aj.body eI rfl fun hl n0=>?_
 clear hl
 (try((repeat(revert hN;revert N;apply Pn.out));refine wk (tw @ae.eq_1 (tw @hx @hy)) ?_;(repeat(refine Pn.mk ?_;intro N hN))))
 exact oU (.inl rfl) (vs:=[.agg [.int .i64 x,.int .i64 y]]) (by simp only[go_sem, ↓reduceIte,Nat.reduceEqDiff,Nat.reduceAdd,Nat.reduceSub,Nat.reduceLeDiff,reduceCtorEq,eZ,gR,ae]) (by simp[fo,fZ,dU])
theorem CH (p:aB) (d:Int) (hd:iI d 0 3=true) (hx:iB p.eS) (hy:iB p.eH):aj Tryz.prog 149 [.agg (ae p),.int .i64 d] (.agg (ae (dm p d))):=by
 refine aj.body eI rfl fun hl n0=>?_
 clear hl
 obtain⟨x1,x2⟩:=hx
 obtain⟨y1,y2⟩:=hy
 have hb:=dW hd
 have hc:d=0∨d=1∨d=2∨d=3:=by omega
 rcases hc with rfl|rfl|rfl|rfl
 ·have h:=yH p ⟨0,1⟩ (p.eS) (p.eH+1) (by rw[bW (by constructor<;>simp only<;>omega)]<;>(try simp only)<;>(try omega)) (by rw[bW (by constructor<;>simp only<;>omega)]<;>(try simp only)<;>(try omega))
  simp only[ae]at h
  (repeat(first|((repeat(revert hN;revert N;apply Pn.out));refine wk @ae.eq_1 ?_;(repeat(refine Pn.mk ?_;intro N hN)))|((try apply Or.inl);refine⟨_,aj.x (h) (sd @ae.eq_1),?_⟩;refine hN _ _ ?_;clear hN N)))
  exact oU (.inl rfl) (vs:=[.agg (ae (dm p 0))]) (by simp[eZ,gR,ae,dm,ld,rowAt,bj,upd,part]) (by simp[fo,ae,fZ,dU])
 ·have h:=yH p ⟨1,0⟩ (p.eS+1) (p.eH) (by rw[bW (by constructor<;>simp only<;>omega)]<;>(try simp only)<;>(try omega)) (by rw[bW (by constructor<;>simp only<;>omega)]<;>(try simp only)<;>(try omega))
  simp only[ae]at h
  (repeat(first|((repeat(revert hN;revert N;apply Pn.out));refine wk @ae.eq_1 ?_;(repeat(refine Pn.mk ?_;intro N hN)))|((try apply Or.inl);refine⟨_,aj.x (h) (sd @ae.eq_1),?_⟩;refine hN _ _ ?_;clear hN N)))
  exact oU (.inl rfl) (vs:=[.agg (ae (dm p 1))]) (by simp[eZ,gR,ae,dm,ld,rowAt,bj,upd,part]) (by simp[fo,ae,fZ,dU])
 ·have h:=yH p ⟨0,(-1)⟩ (p.eS) (p.eH-1) (by rw[bW (by constructor<;>simp only<;>omega)]<;>(try simp only)<;>(try omega)) (by rw[bW (by constructor<;>simp only<;>omega)]<;>(try simp only)<;>(try omega))
  simp only[ae]at h
  (repeat(first|((repeat(revert hN;revert N;apply Pn.out));refine wk @ae.eq_1 ?_;(repeat(refine Pn.mk ?_;intro N hN)))|((try apply Or.inl);refine⟨_,aj.x (h) (sd @ae.eq_1),?_⟩;refine hN _ _ ?_;clear hN N)))
  exact oU (.inl rfl) (vs:=[.agg (ae (dm p 2))]) (by simp[eZ,gR,ae,dm,ld,rowAt,bj,upd,part]) (by simp[fo,ae,fZ,dU])
 ·have h:=yH p ⟨(-1),0⟩ (p.eS-1) (p.eH) (by rw[bW (by constructor<;>simp only<;>omega)]<;>(try simp only)<;>(try omega)) (by rw[bW (by constructor<;>simp only<;>omega)]<;>(try simp only)<;>(try omega))
  simp only[ae]at h
  (repeat(first|((repeat(revert hN;revert N;apply Pn.out));refine wk @ae.eq_1 ?_;(repeat(refine Pn.mk ?_;intro N hN)))|((try apply Or.inl);refine⟨_,aj.x (h) (sd @ae.eq_1),?_⟩;refine hN _ _ ?_;clear hN N)))
  exact oU (.inl rfl) (vs:=[.agg (ae (dm p 3))]) (by simp[eZ,gR,ae,dm,ld,rowAt,bj,upd,part]) (by simp[fo,ae,fZ,dU])
theorem Cn (d:Int) (hd:iI d 0 3=true):aj Tryz.prog 153 [.int .i64 d] (.int .i64 (rM d)):=by
 refine aj.body eI rfl fun hl n0=>?_
 clear hl
 have hb:=dW hd
 have hw:IntKind.i64.wrap (d+2)=d+2:=bW (by omega)
 have ht:Int.tmod (d+2) 4=(d+2) % 4:=Int.tmod_eq_emod_of_nonneg (by omega)
 have h4:¬((4:Int)=0):=by omega
 (try((repeat(revert hN;revert N;apply Pn.out));refine wk (tw @hw (tw @ht @h4)) ?_;(repeat(refine Pn.mk ?_;intro N hN))))
 exact bZ (b:=(d+2) % 4) (.inl rfl) (sd @Nat.zero_add) (by rw[rM,if_pos hd])
theorem Bn (d:Int) (hd:iI d 0 3=true):aj Tryz.prog 125 [.int .i64 d] (.int .i64 (rM d)):=by
 refine aj.body eI rfl fun hl n0=>?_
 clear hl
 have hb:=dW hd
 have hw:IntKind.i64.wrap (d+2)=d+2:=bW (by omega)
 have ht:Int.tmod (d+2) 4=(d+2) % 4:=Int.tmod_eq_emod_of_nonneg (by omega)
 have h4:¬((4:Int)=0):=by omega
 have h:=Hh d
 rw[hd]at h
 (repeat(first|((repeat(revert hN;revert N;apply Pn.out));refine wk (tw @hw (tw @ht @h4)) ?_;(repeat(refine Pn.mk ?_;intro N hN)))|((try apply Or.inl);refine⟨_,aj.x (h) (sd (tw @hw (tw @ht @h4))),?_⟩;refine hN _ _ ?_;clear hN N)))
 exact bZ (b:=(d+2) % 4) (.inl rfl) (sd @Nat.zero_add) (by rw[rM,if_pos hd])
end Go.Proofs.YtgoelphibofcmaaGreat.V

namespace Go.Proofs.YtgoelphibofcmaaGreat.V
open Go.RowKit
attribute [local irreducible] dx wpOps gp Call
attribute [local go_sem] aH fC eG fW fV cF upd cj K.av cJ AV.cells AV.cell rowOf rowsOf part ld rowAt bj bY dz eb gT bE cZ er fS eU dp eh cX cW dR dS bH aW cN bG cQ cP ee ei ef cL bP cY ec bF aL cU cw gS bl cG bI aP dd aU dB AV.undef bw bB dV ea dI dG cE ep ev cq ek ej cR cV List.getD_cons_zero List.getD_cons_succ List.getD_nil List.all_cons List.all_nil Bool.and_true Bool.true_and Bool.and_self Bool.not_true Bool.not_false Option.map_some Option.map_none Option.bind_some Option.bind_none List.length_cons List.length_nil List.take_succ_cons List.take_zero List.take_nil List.drop_succ_cons List.drop_zero List.drop_nil List.head?_cons List.map_cons List.map_nil List.getElem?_cons_zero List.getElem?_cons_succ List.cons_append List.nil_append List.append_nil List.length_map List.set_cons_zero List.set_cons_succ Nat.reduceMul eq_self Int.toNat_natCast Int.natCast_nonneg and_self true_and and_true decide_true decide_false Bool.false_eq_true Nat.zero_add Nat.add_zero List.contains_cons List.contains_nil Bool.or_false Bool.false_or beq_self_eq_true Nat.reduceBEq ne_eq not_true_eq_false not_false_eq_true Id.mk.injEq false_and and_false Nat.reduceLT Int.reduceLE Int.reduceLT Int.reduceToNat Int.reduceNeg Int.reduceAdd Nat.le_refl List.length_append beq_true beq_false Bool.not_eq_eq_eq_not or_false false_or dO ah aq aI aZ bt ck aS bf aO aY cK bK
def eC (s:au) (t:Int):Bool:=iI t 0 ((s.ai.length:Int)-1)
theorem uu (s:au) (t:Int):aj Tryz.prog 136 [.cI (aa s),.int .i64 t] (.bool (eC s t)):=by
 refine aj.body eI rfl fun hl n0=>?_
 have hn:s.ai.length<=9223372036854775807:=by
  have h1:=(hl (.cI (aa s)) (by simp)).Al (a:=.sl (s.ai.map bq)) (by simp[aa])
  simpa using h1.len
 clear hl
 have hw:IntKind.i64.wrap ((s.ai.length:Int)-1)=(s.ai.length:Int)-1:=bW (by omega)
 have h:=kW t 0 ((s.ai.length:Int)-1)
 (repeat(first|((repeat(revert hN;revert N;apply Pn.out));refine wk (tw @aa.eq_1 @hw) ?_;(repeat(refine Pn.mk ?_;intro N hN)))|((try apply Or.inl);refine⟨_,aj.x (h) (sd (tw @aa.eq_1 @hw)),?_⟩;refine hN _ _ ?_;clear hN N)))
 exact aM (b:=eC s t) (.inl rfl) (by simp only[go_sem, ↓reduceIte,Nat.reduceEqDiff,Nat.reduceAdd,Nat.reduceSub,Nat.reduceLeDiff,reduceCtorEq,eC]) rfl
theorem w9 (t n:Int) (h0:0<=n) (h1:n<=9223372036854775807):aj Tryz.prog 139 [.int .i64 t,.int .i64 n] (.bool (iI t 0 (n-1))):=by
 refine aj.body eI rfl fun hl n0=>?_
 clear hl
 have hw:IntKind.i64.wrap (n-1)=n-1:=bW (by omega)
 have h:=kB t 0 (n-1)
 (repeat(first|((repeat(revert hN;revert N;apply Pn.out));refine wk @hw ?_;(repeat(refine Pn.mk ?_;intro N hN)))|((try apply Or.inl);refine⟨_,aj.x (h) (sd @hw),?_⟩;refine hN _ _ ?_;clear hN N)))
 exact aM (b:=iI t 0 (n-1)) (.inl rfl) (sd @Nat.zero_add) rfl
theorem Hg (s:au) (t:Int):aj Tryz.prog 83 [.agg (aa s),.int .i64 t] (.bool (eC s t)):=by
 refine aj.body eI rfl fun hl n0=>?_
 have hn:s.ai.length<=9223372036854775807:=by
  have h1:=(hl (.agg (aa s)) (by simp)).Lj (a:=.sl (s.ai.map bq)) (by simp[aa])
  simpa using h1.len
 clear hl
 have h:=w9 t s.ai.length (by omega) (by omega)
 (repeat(first|((repeat(revert hN;revert N;apply Pn.out));refine wk @aa.eq_1 ?_;(repeat(refine Pn.mk ?_;intro N hN)))|((try apply Or.inl);refine⟨_,aj.x (h) (sd @aa.eq_1),?_⟩;refine hN _ _ ?_;clear hN N)))
 exact aM (b:=eC s t) (.inl rfl) (by simp only[go_sem, ↓reduceIte,Nat.reduceEqDiff,Nat.reduceAdd,Nat.reduceSub,Nat.reduceLeDiff,reduceCtorEq,eC]) rfl
def yE:e5:=⟨⟨#[]⟩,[]⟩
def dj (s:au) (t:Int):e5:=s.ai.getD t.toNat yE
def di (t:e5) (d:Int):Int:=t.bV.getD d.toNat 0
def ph (s:au) (g:Int):gK:=s.ay.getD g.toNat ⟨⟨#[]⟩,0⟩
def rT (s:au) (g:Int):Int:=if g=0 then 0 else(ph s (g-1)).eA
def gF (s:au) (a d b:Int):Int:=if di (dj s a) d=di (dj s b) (rM d)then rT s (di (dj s a) d)else 0
structure j6 (s:au):Prop where
 uU:∀t∈s.ai,t.bV.length=4
 ub:∀t∈s.ai,∀g∈t.bV,0<=g/\g<=s.ay.length
theorem getD_map {α β:Type} (e:α->β) {l:List α} {k:Nat} {d:α} (h:k<l.length):(l.map e)[k]? =some (e (l.getD k d)):=by simp[List.getD_eq_getElem?_getD,h]
theorem v8 (s:au) (g:Int) (h0:0<=g) (h1:g<=s.ay.length):aj Tryz.prog 126 [.cI (aa s),.int .i64 g] (.int .i64 (rT s g)):=by
 refine aj.body eI rfl fun hl n0=>?_
 have hn:s.ay.length<=9223372036854775807:=by
  have h1:=(hl (.cI (aa s)) (by simp)).Al (a:=.sl (s.ay.map cm)) (by simp[aa])
  simpa using h1.len
 clear hl
 by_cases hg:g=0
 ·have e:decide (g=0)=true:=decide_eq_true hg
  (try((repeat(revert hN;revert N;apply Pn.out));refine wk (tw @aa.eq_1 @e) ?_;(repeat(refine Pn.mk ?_;intro N hN))))
  exact bZ (b:=0) (.inl rfl) (sd @Nat.zero_add) (by rw[rT,if_pos hg])
 ·have e:decide (g=0)=false:=decide_eq_false hg
  have hw:IntKind.i64.wrap (g-1)=g-1:=bW (by omega)
  have pq:0<=g-1:=by omega
  have gL:(s.ay.map cm)[(g-1).toNat]? =some (cm (ph s (g-1))):=getD_map cm (by omega)
  (try((repeat(revert hN;revert N;apply Pn.out));refine wk (tw @aa.eq_1 (tw @e (tw @hw (tw @pq (tw @gL @cm.eq_1))))) ?_;(repeat(refine Pn.mk ?_;intro N hN))))
  exact bZ (b:=(ph s (g-1)).eA) (.inl rfl) (sd @Nat.zero_add) (by rw[rT,if_neg hg])
theorem nW {s:au} {a:Int} (h:eC s a=true):0<=a/\(s.ai.map bq)[a.toNat]? =some (bq (dj s a))/\dj s a∈s.ai:=by
 have h':=dW h
 have dE:a.toNat<s.ai.length:=by omega
 refine⟨h'.1,getD_map bq dE,?_⟩
 unfold dj
 rw[List.getD_eq_getElem?_getD,List.getElem?_eq_getElem dE]
 exact List.getElem_mem dE
theorem nT {t:e5} {d:Int} (h:t.bV.length=4) (hd:iI d 0 3=true):(t.bV.map br)[d.toNat]? =some [.int .i64 (di t d)]:=by
 have:=dW hd
 exact getD_map br (by omega)
theorem AP {t:e5} {d:Int} (h:t.bV.length=4) (hd:iI d 0 3=true):di t d∈t.bV:=by
 have:=dW hd
 have dE:d.toNat<t.bV.length:=by omega
 unfold di
 rw[List.getD_eq_getElem?_getD,List.getElem?_eq_getElem dE]
 exact List.getElem_mem dE
theorem yF {d:Int} (hd:iI d 0 3=true):iI (rM d) 0 3=true:=by
 have:=dW hd
 refine kg ?_
 rw[rM,if_pos hd];omega
theorem xd (s:au) (hF:j6 s) (a d b:Int) (ha:eC s a=true) (hb:eC s b=true) (hd:iI d 0 3=true):aj Tryz.prog 147 [.cI (aa s),.int .i64 a,.int .i64 d,.int .i64 b] (.int .i64 (gF s a d b)):=by
 refine aj.body eI rfl fun hl n0=>?_
 clear hl
 obtain⟨a0,a1,a2⟩:=nW ha
 obtain⟨b0,b1,b2⟩:=nW hb
 have s1:=nT (hF.uU _ a2) hd
 have s2:=nT (hF.uU _ b2) (yF hd)
 have gl:=hF.ub _ a2 _ (AP (hF.uU _ a2) hd)
 have d0:=(dW hd).1
 have d1:=(dW (yF hd)).1
 have h:=Bn d hd
 have hs:=v8 s (di (dj s a) d) gl.1 gl.2
 rw[aa]at hs
 by_cases e:di (dj s a) d=di (dj s b) (rM d)
 ·have e':decide (di (dj s a) d=di (dj s b) (rM d))=true:=decide_eq_true e
  (repeat(first|((repeat(revert hN;revert N;apply Pn.out));refine wk (tw @aa.eq_1 (tw @bq.eq_1 (tw @a0 (tw @a1 (tw @b0 (tw @b1 (tw @s1 (tw @s2 (tw @d0 (tw @d1 @e')))))))))) ?_;(repeat(refine Pn.mk ?_;intro N hN)))|((try apply Or.inl);refine⟨_,aj.x (h) (sd (tw @aa.eq_1 (tw @bq.eq_1 (tw @a0 (tw @a1 (tw @b0 (tw @b1 (tw @s1 (tw @s2 (tw @d0 (tw @d1 @e'))))))))))),?_⟩;refine hN _ _ ?_;clear hN N)|((try apply Or.inl);refine⟨_,aj.x (hs) (sd (tw @aa.eq_1 (tw @bq.eq_1 (tw @a0 (tw @a1 (tw @b0 (tw @b1 (tw @s1 (tw @s2 (tw @d0 (tw @d1 @e'))))))))))),?_⟩;refine hN _ _ ?_;clear hN N)))
  exact bZ (b:=rT s (di (dj s a) d)) (.inl rfl) (sd @Nat.zero_add) (by rw[gF,if_pos e])
 ·have e':decide (di (dj s a) d=di (dj s b) (rM d))=false:=decide_eq_false e
  (repeat(first|((repeat(revert hN;revert N;apply Pn.out));refine wk (tw @aa.eq_1 (tw @bq.eq_1 (tw @a0 (tw @a1 (tw @b0 (tw @b1 (tw @s1 (tw @s2 (tw @d0 (tw @d1 @e')))))))))) ?_;(repeat(refine Pn.mk ?_;intro N hN)))|((try apply Or.inl);refine⟨_,aj.x (h) (sd (tw @aa.eq_1 (tw @bq.eq_1 (tw @a0 (tw @a1 (tw @b0 (tw @b1 (tw @s1 (tw @s2 (tw @d0 (tw @d1 @e'))))))))))),?_⟩;refine hN _ _ ?_;clear hN N)))
  exact bZ (b:=0) (.inl rfl) (sd @Nat.zero_add) (by rw[gF,if_neg e])
theorem CK (s:au) (hF:j6 s) (a d:Int) (ha:eC s a=true) (hd:iI d 0 3=true):aj Tryz.prog 185 [.agg (aa s),.int .i64 a,.int .i64 d] (.int .i64 (rT s (di (dj s a) d))):=by
 refine aj.body eI rfl fun hl n0=>?_
 have hn:s.ay.length<=9223372036854775807:=by
  have h1:=(hl (.agg (aa s)) (by simp)).Lj (a:=.sl (s.ay.map cm)) (by simp[aa])
  simpa using h1.len
 clear hl
 obtain⟨a0,a1,a2⟩:=nW ha
 have s1:=nT (hF.uU _ a2) hd
 have gl:=hF.ub _ a2 _ (AP (hF.uU _ a2) hd)
 have d0:=(dW hd).1
 by_cases hg:di (dj s a) d=0
 ·have e:¬(0<di (dj s a) d):=by omega
  (try((repeat(revert hN;revert N;apply Pn.out));refine wk (tw @aa.eq_1 (tw @bq.eq_1 (tw @a0 (tw @a1 (tw @s1 (tw @d0 @e)))))) ?_;(repeat(refine Pn.mk ?_;intro N hN))))
  exact bZ (b:=0) (.inl rfl) (sd @Nat.zero_add) (by rw[rT,if_pos hg])
 ·have e:0<di (dj s a) d:=by omega
  have hw:IntKind.i64.wrap (di (dj s a) d-1)=di (dj s a) d-1:=bW (by omega)
  have pq:0<=di (dj s a) d-1:=by omega
  have gL:(s.ay.map cm)[(di (dj s a) d-1).toNat]? =some (cm (ph s (di (dj s a) d-1))):=getD_map cm (by omega)
  (try((repeat(revert hN;revert N;apply Pn.out));refine wk (tw @aa.eq_1 (tw @bq.eq_1 (tw @a0 (tw @a1 (tw @s1 (tw @d0 (tw @e (tw @hw (tw @pq (tw @gL @cm.eq_1)))))))))) ?_;(repeat(refine Pn.mk ?_;intro N hN))))
  exact bZ (b:=(ph s (di (dj s a) d-1)).eA) (.inl rfl) (sd @Nat.zero_add) (by rw[rT,if_neg hg])
theorem Gj (s:au) (hF:j6 s) (a d b:Int) (ha:eC s a=true) (hb:eC s b=true) (hd:iI d 0 3=true):aj Tryz.prog 150 [.agg (aa s),.int .i64 a,.int .i64 d,.int .i64 b] (.int .i64 (gF s a d b)):=by
 refine aj.body eI rfl fun hl n0=>?_
 clear hl
 obtain⟨a0,a1,a2⟩:=nW ha
 obtain⟨b0,b1,b2⟩:=nW hb
 have s1:=nT (hF.uU _ a2) hd
 have s2:=nT (hF.uU _ b2) (yF hd)
 have d0:=(dW hd).1
 have d1:=(dW (yF hd)).1
 have h:=Cn d hd
 have hs:=CK s hF a d ha hd
 rw[aa]at hs
 by_cases e:di (dj s a) d=di (dj s b) (rM d)
 ·have e':decide (di (dj s a) d=di (dj s b) (rM d))=true:=decide_eq_true e
  (repeat(first|((repeat(revert hN;revert N;apply Pn.out));refine wk (tw @aa.eq_1 (tw @bq.eq_1 (tw @a0 (tw @a1 (tw @b0 (tw @b1 (tw @s1 (tw @s2 (tw @d0 (tw @d1 @e')))))))))) ?_;(repeat(refine Pn.mk ?_;intro N hN)))|((try apply Or.inl);refine⟨_,aj.x (h) (sd (tw @aa.eq_1 (tw @bq.eq_1 (tw @a0 (tw @a1 (tw @b0 (tw @b1 (tw @s1 (tw @s2 (tw @d0 (tw @d1 @e'))))))))))),?_⟩;refine hN _ _ ?_;clear hN N)|((try apply Or.inl);refine⟨_,aj.x (hs) (sd (tw @aa.eq_1 (tw @bq.eq_1 (tw @a0 (tw @a1 (tw @b0 (tw @b1 (tw @s1 (tw @s2 (tw @d0 (tw @d1 @e'))))))))))),?_⟩;refine hN _ _ ?_;clear hN N)))
  exact bZ (b:=rT s (di (dj s a) d)) (.inl rfl) (sd @Nat.zero_add) (by rw[gF,if_pos e])
 ·have e':decide (di (dj s a) d=di (dj s b) (rM d))=false:=decide_eq_false e
  (repeat(first|((repeat(revert hN;revert N;apply Pn.out));refine wk (tw @aa.eq_1 (tw @bq.eq_1 (tw @a0 (tw @a1 (tw @b0 (tw @b1 (tw @s1 (tw @s2 (tw @d0 (tw @d1 @e')))))))))) ?_;(repeat(refine Pn.mk ?_;intro N hN)))|((try apply Or.inl);refine⟨_,aj.x (h) (sd (tw @aa.eq_1 (tw @bq.eq_1 (tw @a0 (tw @a1 (tw @b0 (tw @b1 (tw @s1 (tw @s2 (tw @d0 (tw @d1 @e'))))))))))),?_⟩;refine hN _ _ ?_;clear hN N)))
  exact bZ (b:=0) (.inl rfl) (sd @Nat.zero_add) (by rw[gF,if_neg e])
end Go.Proofs.YtgoelphibofcmaaGreat.V

namespace Go.Proofs.YtgoelphibofcmaaGreat
open Go.RowKit
def ki (n:Int):Bool:=(decide (97<=n)&&decide (n<=122))||(decide (65<=n)&&decide (n<=90))
def kF (n:Int):Bool:=decide (48<=n)&&decide (n<=57)
def sM (i:Nat) (n:Int):Prop:=ki n=true∨(0<i/\(kF n=true∨n=95))
def tA (s:ByteArray):Prop:=(1<=s.size/\s.size<=12)/\∀i (h:i<s.size),sM i s[i].toNat
open Classical in
noncomputable def jm (s:ByteArray):Bool:=decide (tA s)
theorem Cj {s:ByteArray} (h:tA s):true=jm s:=by simp[jm,h]
theorem dL {s:ByteArray} (h:¬tA s):false=jm s:=by simp[jm,h]
theorem Ay {s:ByteArray} {b:Bool} (hb:b=true) (h:tA s):b=jm s:=by simp[jm,h,hb]
theorem qq {s:ByteArray} {b:Bool} (hb:b=false) (h:¬tA s):b=jm s:=by simp[jm,h,hb]
theorem ux (w:World) (n:Int):Calls Tryz.prog 212 #[.int .u8 n] w fun e w'=>e=.returned (.bool (ki n))/\w=w':=by
 go_enter Tryz.func212,Tryz.ntmps212
 go_wp2_with fail
 all_goals
  go_ret
  exact⟨ib (by unfold ki;simp[*];try omega),rfl⟩
theorem Em (w:World) (n:Int):Calls Tryz.prog 213 #[.int .u8 n] w fun e w'=>e=.returned (.bool (kF n))/\w=w':=by
 go_enter Tryz.func213,Tryz.ntmps213
 go_wp2_with fail
 all_goals
  go_ret
  exact⟨ib (by unfold kF;simp[*];try omega),rfl⟩
theorem AN (w:World) (s:ByteArray) (hs:s.size<=9223372036854775807):Calls Tryz.prog 189 #[.string s] w fun e w'=>e=.returned (.bool (jm s))/\Below w.heap.size w w':=by
 by_cases h1:1<=s.size
 case neg=>
  go_enter Tryz.func189,Tryz.ntmps189
  go_wp2_with fail
  go_ret
  exact⟨ib (dL fun h=>h1 h.1.1),Below.refl _ _⟩
 by_cases h2:s.size<=12
 case neg=>
  go_enter Tryz.func189,Tryz.ntmps189
  go_wp2_with fail
  go_ret
  exact⟨ib (dL fun h=>h2 h.1.2),Below.refl _ _⟩
 go_enter Tryz.func189,Tryz.ntmps189
 go_wp2_with fail
 refine(ux _ _).mono ?_
 rintro e w' ⟨rfl,rfl⟩
 cases h3:ki s[0].toNat
 ·go_wp2_with fail
  go_ret
  exact⟨ib (dL fun h=>by have:=h.2 0 (by omega);simp only[sM]at this;rw[h3]at this;simp at this),Below.refl _ _⟩
 ·replace h3:=Lib.hid h3
  go_wp2_with fail
  go_loop [3] (fun i=>∃k:Nat,1<=k/\k<=s.size/\i=.int .i64 k/\Hid (∀j (h:j<s.size),j<k->sM j s[j].toNat)) (fun i=>s.size-(intOf i).toNat)
  case atStart=>exact⟨1,by omega,by omega,rfl,Lib.hid fun j h hj=>by
   obtain rfl:j=0:=by omega
   exact .inl h3.out⟩
  case round=>
   obtain⟨k,vz,hk,rfl,dy⟩:=hrel
   by_cases dE:k<s.size
   ·go_wp2_with fail
    refine(ux _ _).mono ?_
    rintro e w' ⟨rfl,rfl⟩
    have kG:sM k s[k].toNat∨¬sM k s[k].toNat:=Classical.em _
    cases hl:ki s[k].toNat
    ·go_wp2_with fail
     refine(Em _ _).mono ?_
     rintro e w' ⟨rfl,rfl⟩
     cases hd:kF s[k].toNat
     ·by_cases s9:(s[k].toNat:Int)=95
      ·have Q6:((s[k].toNat:Int) !=95)=false:=by simp;omega
       replace s9:=Lib.hid s9
       replace hl:=Lib.hid hl
       replace hd:=Lib.hid hd
       go_wp2_with fail
       go_round
       case rel=>exact⟨k+1,by omega,by omega,by go_num,Lib.hid fun j h hj=>by
        by_cases wR:j=k
        ·subst wR;exact .inr ⟨by omega,.inr s9.out⟩
        ·exact dy.out j h (by omega)⟩
       case measure=>simp[intOf];omega
      ·have Q6:((s[k].toNat:Int) !=95)=true:=by simp;omega
       replace s9:=Lib.hid s9
       replace hl:=Lib.hid hl
       replace hd:=Lib.hid hd
       go_wp2_with fail
       go_ret
       exact⟨ib (dL fun h=>by
        have:=h.2 k dE;simp only[sM,hl.out,hd.out]at this;exact s9.out (by simp at this;exact this.2)),Below.refl _ _⟩
     ·replace hl:=Lib.hid hl
      replace hd:=Lib.hid hd
      go_wp2_with fail
      go_round
      case rel=>exact⟨k+1,by omega,by omega,by go_num,Lib.hid fun j h hj=>by
       by_cases wR:j=k
       ·subst wR;exact .inr ⟨by omega,.inl hd.out⟩
       ·exact dy.out j h (by omega)⟩
      case measure=>simp[intOf];omega
    ·replace hl:=Lib.hid hl
     go_wp2_with fail
     go_round
     case rel=>exact⟨k+1,by omega,by omega,by go_num,Lib.hid fun j h hj=>by
      by_cases wR:j=k
      ·subst wR;exact .inl hl.out
      ·exact dy.out j h (by omega)⟩
     case measure=>simp[intOf];omega
   ·go_wp2_with fail
    go_ret
    exact⟨ib (Cj ⟨⟨h1,h2⟩,fun i h=>dy.out i h (by omega)⟩),Below.refl _ _⟩
theorem Af (w:World) (s:ByteArray) (hs:s.size<=9223372036854775807):Calls Tryz.prog 198 #[.string s] w fun e w'=>e=.returned (.bool (jm s))/\w=w':=by
 go_enter Tryz.func198,Tryz.ntmps198
 go_wp2_with fail
 go_loop [8] (fun i=>∃k:Nat,k<=s.size/\i=.int .i64 k/\Hid (∀j (h:j<s.size),j<k->sM j s[j].toNat)) (fun i=>s.size-(intOf i).toNat)
 case atStart=>exact⟨0,by omega,rfl,Lib.hid fun j h hj=>by omega⟩
 case round=>
  obtain⟨k,hk,rfl,dy⟩:=hrel
  by_cases dE:k<s.size
  ·have hc:(s[k].toNat:Int)<48∨(48<=(s[k].toNat:Int)/\(s[k].toNat:Int)<=57)∨(58<=(s[k].toNat:Int)/\(s[k].toNat:Int)<=64)∨(65<=(s[k].toNat:Int)/\(s[k].toNat:Int)<=90)∨(91<=(s[k].toNat:Int)/\(s[k].toNat:Int)<=94)∨(95<=(s[k].toNat:Int)/\(s[k].toNat:Int)<=95)∨(96<=(s[k].toNat:Int)/\(s[k].toNat:Int)<=96)∨(97<=(s[k].toNat:Int)/\(s[k].toNat:Int)<=122)∨123<=(s[k].toNat:Int):=by omega
   by_cases vw:k=0
   ·subst vw
    rcases hc with h|⟨h,h'⟩|⟨h,h'⟩|⟨h,h'⟩|⟨h,h'⟩|⟨h,h'⟩|⟨h,h'⟩|⟨h,h'⟩|h
    ·have s9:((s[0].toNat:Int) !=95)=true:=by simp;try omega
     go_wp2_with fail
     all_goals first
      |(go_ret;exact⟨ib (dL fun hh=>by have:=hh.2 0 dE;simp[sM,ki,kF]at this;omega),rfl⟩)
      |(exfalso;simp_all;done)
      |(exfalso;simp_all;omega)
    ·have s9:((s[0].toNat:Int) !=95)=true:=by simp;try omega
     go_wp2_with fail
     all_goals first
      |(go_ret;exact⟨ib (dL fun hh=>by have:=hh.2 0 dE;simp[sM,ki,kF]at this;omega),rfl⟩)
      |(exfalso;simp_all;done)
      |(exfalso;simp_all;omega)
    ·have s9:((s[0].toNat:Int) !=95)=true:=by simp;try omega
     go_wp2_with fail
     all_goals first
      |(go_ret;exact⟨ib (dL fun hh=>by have:=hh.2 0 dE;simp[sM,ki,kF]at this;omega),rfl⟩)
      |(exfalso;simp_all;done)
      |(exfalso;simp_all;omega)
    ·have s9:((s[0].toNat:Int) !=95)=true:=by simp;try omega
     go_wp2_with fail
     go_round
     case rel=>exact⟨0+1,by omega,by go_num,Lib.hid fun j hj wR=>by
      by_cases GX:j=0
      ·subst GX;simp[sM,ki,kF];omega
      ·exact dy.out j hj (by omega)⟩
     case measure=>simp[intOf];try omega
    ·have s9:((s[0].toNat:Int) !=95)=true:=by simp;try omega
     go_wp2_with fail
     all_goals first
      |(go_ret;exact⟨ib (dL fun hh=>by have:=hh.2 0 dE;simp[sM,ki,kF]at this;omega),rfl⟩)
      |(exfalso;simp_all;done)
      |(exfalso;simp_all;omega)
    ·have s9:((s[0].toNat:Int) !=95)=false:=by simp;try omega
     go_wp2_with fail
     all_goals first
      |(go_ret;exact⟨ib (dL fun hh=>by have:=hh.2 0 dE;simp[sM,ki,kF]at this;omega),rfl⟩)
      |(exfalso;simp_all;done)
      |(exfalso;simp_all;omega)
    ·have s9:((s[0].toNat:Int) !=95)=true:=by simp;try omega
     go_wp2_with fail
     all_goals first
      |(go_ret;exact⟨ib (dL fun hh=>by have:=hh.2 0 dE;simp[sM,ki,kF]at this;omega),rfl⟩)
      |(exfalso;simp_all;done)
      |(exfalso;simp_all;omega)
    ·have s9:((s[0].toNat:Int) !=95)=true:=by simp;try omega
     go_wp2_with fail
     go_round
     case rel=>exact⟨0+1,by omega,by go_num,Lib.hid fun j hj wR=>by
      by_cases GX:j=0
      ·subst GX;simp[sM,ki,kF];omega
      ·exact dy.out j hj (by omega)⟩
     case measure=>simp[intOf];try omega
    ·have s9:((s[0].toNat:Int) !=95)=true:=by simp;try omega
     go_wp2_with fail
     all_goals first
      |(go_ret;exact⟨ib (dL fun hh=>by have:=hh.2 0 dE;simp[sM,ki,kF]at this;omega),rfl⟩)
      |(exfalso;simp_all;done)
      |(exfalso;simp_all;omega)
   ·have hz:((k:Int)==0)=false:=by simpa using vw
    have vz:1<=k:=by omega
    clear vw
    rcases hc with h|⟨h,h'⟩|⟨h,h'⟩|⟨h,h'⟩|⟨h,h'⟩|⟨h,h'⟩|⟨h,h'⟩|⟨h,h'⟩|h
    ·have s9:((s[k].toNat:Int) !=95)=true:=by simp;try omega
     go_wp2_with fail
     all_goals first
      |(go_ret;exact⟨ib (dL fun hh=>by have:=hh.2 k dE;simp[sM,ki,kF]at this;omega),rfl⟩)
      |(exfalso;simp_all;done)
      |(exfalso;simp_all;omega)
    ·have s9:((s[k].toNat:Int) !=95)=true:=by simp;try omega
     go_wp2_with fail
     go_round
     case rel=>exact⟨k+1,by omega,by go_num,Lib.hid fun j hj wR=>by
      by_cases GX:j=k
      ·subst GX;simp[sM,ki,kF];omega
      ·exact dy.out j hj (by omega)⟩
     case measure=>simp[intOf];try omega
    ·have s9:((s[k].toNat:Int) !=95)=true:=by simp;try omega
     go_wp2_with fail
     all_goals first
      |(go_ret;exact⟨ib (dL fun hh=>by have:=hh.2 k dE;simp[sM,ki,kF]at this;omega),rfl⟩)
      |(exfalso;simp_all;done)
      |(exfalso;simp_all;omega)
    ·have s9:((s[k].toNat:Int) !=95)=true:=by simp;try omega
     go_wp2_with fail
     go_round
     case rel=>exact⟨k+1,by omega,by go_num,Lib.hid fun j hj wR=>by
      by_cases GX:j=k
      ·subst GX;simp[sM,ki,kF];omega
      ·exact dy.out j hj (by omega)⟩
     case measure=>simp[intOf];try omega
    ·have s9:((s[k].toNat:Int) !=95)=true:=by simp;try omega
     go_wp2_with fail
     all_goals first
      |(go_ret;exact⟨ib (dL fun hh=>by have:=hh.2 k dE;simp[sM,ki,kF]at this;omega),rfl⟩)
      |(exfalso;simp_all;done)
      |(exfalso;simp_all;omega)
    ·have s9:((s[k].toNat:Int) !=95)=false:=by simp;try omega
     go_wp2_with fail
     go_round
     case rel=>exact⟨k+1,by omega,by go_num,Lib.hid fun j hj wR=>by
      by_cases GX:j=k
      ·subst GX;simp[sM,ki,kF];omega
      ·exact dy.out j hj (by omega)⟩
     case measure=>simp[intOf];try omega
    ·have s9:((s[k].toNat:Int) !=95)=true:=by simp;try omega
     go_wp2_with fail
     all_goals first
      |(go_ret;exact⟨ib (dL fun hh=>by have:=hh.2 k dE;simp[sM,ki,kF]at this;omega),rfl⟩)
      |(exfalso;simp_all;done)
      |(exfalso;simp_all;omega)
    ·have s9:((s[k].toNat:Int) !=95)=true:=by simp;try omega
     go_wp2_with fail
     go_round
     case rel=>exact⟨k+1,by omega,by go_num,Lib.hid fun j hj wR=>by
      by_cases GX:j=k
      ·subst GX;simp[sM,ki,kF];omega
      ·exact dy.out j hj (by omega)⟩
     case measure=>simp[intOf];try omega
    ·have s9:((s[k].toNat:Int) !=95)=true:=by simp;try omega
     go_wp2_with fail
     all_goals first
      |(go_ret;exact⟨ib (dL fun hh=>by have:=hh.2 k dE;simp[sM,ki,kF]at this;omega),rfl⟩)
      |(exfalso;simp_all;done)
      |(exfalso;simp_all;omega)
  ·by_cases h1:1<=s.size
   ·by_cases h2:s.size<=12
    ·go_wp2_with fail
     go_ret
     exact⟨ib (Ay (by simp<;>omega) ⟨⟨h1,h2⟩,fun i h=>dy.out i h (by omega)⟩),rfl⟩
    ·go_wp2_with fail
     go_ret
     exact⟨ib (qq (by simp<;>omega) fun h=>h2 h.1.2),rfl⟩
   ·go_wp2_with fail
    go_ret
    exact⟨ib (qq (by simp<;>omega) fun h=>h1 h.1.1),rfl⟩
end Go.Proofs.YtgoelphibofcmaaGreat

namespace Go.Proofs.YtgoelphibofcmaaGreat.V
open Go.RowKit
theorem mixed:Tryz.prog.follows .mixedOrders=true:=by kernel_rfl
variable {P:Program} {w:World} {D:Nat->Prop} {ι:Names}
theorem oV {f:Nat} {args:List AV} {r:AV} {SD:Array Value} {u0:Value} (mA:∀(w:World) (D:Nat->Prop) (ι:Names) vs,e6 P w D ι args vs->vs=SD) (hr:∀(w:World) (D:Nat->Prop) (ι:Names),cu P w D ι r u0) (A9:∀g,fZ g 6 r=some r)
  (h:∀w,Calls P f SD w fun e w'=>e=.returned u0/\Below w.heap.size w w'):aj P f args r:=by
 intro n
 refine gw fun hs D ι w vs S U A=>?_
 have:=mA w D ι vs A
 subst this
 refine(h w).mono ?_
 rintro e w' ⟨rfl,hb⟩
 exact⟨r,_,n,D,ι,u0,rfl,⟨r,A9 _,rfl⟩,Step.stay S hb.block hb.size hb.os hb.tape hb.output (fun _ h=>h) (fun _ h=>.inl h) (fun _ _ h=>h),
  S.stay hb.block hb.size (fun _ h=>h) (fun b hd=>Nat.lt_of_lt_of_le (S.dead b hd) hb.size) (fun _ h=>.inl h) (fun _ _ h=>h),U,Nat.le_refl _,hr _ _ _⟩
theorem AK {s:ByteArray} {vs:Array Value} (h:e6 P w D ι [.str s] vs):vs= #[.string s]:=by
 obtain⟨h1,h2⟩:=h
 obtain⟨u,hu,hr⟩:=h2 0 _ rfl
 rw[fe hr]at hu
 obtain⟨l⟩:=vs
 cases l with
 |nil=>simp at h1
 |cons a l=>cases l with
  |nil=>simp at hu;subst hu;rfl
  |cons b l=>simp at h1
theorem DN (s:ByteArray) (hs:s.size<=9223372036854775807):aj Tryz.prog 189 [.str s] (.bool (jm s)):=
 oV (fun _ _ _ _=>AK) (fun _ _ _=>.eD _ _ (.bool _)) (fun g=>eF g 5 _) fun w=>AN w s hs
theorem Dy (s:ByteArray) (hs:s.size<=9223372036854775807):aj Tryz.prog 198 [.str s] (.bool (jm s)):=
 oV (fun _ _ _ _=>AK) (fun _ _ _=>.eD _ _ (.bool _)) (fun g=>eF g 5 _) fun w=>(Af w s hs).mono (by rintro e w' ⟨rfl,rfl⟩;exact⟨rfl,Below.refl _ _⟩)
end Go.Proofs.YtgoelphibofcmaaGreat.V

namespace Go.Proofs.YtgoelphibofcmaaGreat.V
open Go.RowKit
attribute [local irreducible] dx wpOps gp Call
attribute [local go_sem] aH fC eG fW fV cF upd cj K.av cJ AV.cells AV.cell rowOf rowsOf part ld rowAt bj bY dz eb gT bE cZ er fS eU dp eh cX cW dR dS bH aW cN bG cQ cP ee ei ef cL bP cY ec bF aL cU cw gS bl cG bI aP dd aU dB AV.undef bw bB dV ea dI dG cE ep ev cq ek ej cR cV List.getD_cons_zero List.getD_cons_succ List.getD_nil List.all_cons List.all_nil Bool.and_true Bool.true_and Bool.and_self Bool.not_true Bool.not_false Option.map_some Option.map_none Option.bind_some Option.bind_none List.length_cons List.length_nil List.take_succ_cons List.take_zero List.take_nil List.drop_succ_cons List.drop_zero List.drop_nil List.head?_cons List.map_cons List.map_nil List.getElem?_cons_zero List.getElem?_cons_succ List.cons_append List.nil_append List.append_nil List.length_map List.set_cons_zero List.set_cons_succ Nat.reduceMul eq_self Int.toNat_natCast Int.natCast_nonneg and_self true_and and_true decide_true decide_false Bool.false_eq_true Nat.zero_add Nat.add_zero List.contains_cons List.contains_nil Bool.or_false Bool.false_or beq_self_eq_true Nat.reduceBEq ne_eq not_true_eq_false not_false_eq_true Id.mk.injEq false_and and_false Nat.reduceLT Int.reduceLE Int.reduceLT Int.reduceToNat Int.reduceNeg Int.reduceAdd Nat.le_refl List.length_append beq_true beq_false Bool.not_eq_eq_eq_not or_false false_or dO ah aq aI aZ bt ck aS bf aO aY cK bK
def oI (s:au) (i:Nat):gK:=s.ay.getD i ⟨⟨#[]⟩,0⟩
def nV (s:au) (i:Nat):e5:=s.ai.getD i yE
def Bk (s:au) (i:Nat):Prop:=jm (oI s i).aD=true/\iI (oI s i).eA 1 4=true/\∀j,j<i->(oI s j).aD≠(oI s i).aD
def zr (s:au) (i:Nat):Prop:=jm (nV s i).aD=true/\(nV s i).bV.length=4/\(∀j,j<i->(nV s j).aD≠(nV s i).aD)/\∀g∈(nV s i).bV,iI g 0 s.ay.length=true
structure ig (s:au):Prop where
 ub:s.ay.length<=200
 some:1<=s.ai.length
 Ik:s.ai.length<=160
 PW:∀i,i<s.ay.length->Bk s i
 tok:∀i,i<s.ai.length->zr s i
noncomputable def pK (s:au):Bool:=@decide (ig s) (Classical.propDecidable _)
theorem lN {s:au}:pK s=true↔ig s:=by simp[pK]
theorem fh {s:au} (h:¬ig s):false=pK s:=by simp[pK,h]
theorem AO {s:au} (h:ig s):true=pK s:=by simp[pK,h]
theorem yU {s:au} {i:Nat} (h:i<s.ai.length):(s.ai.map bq)[i]? =some (bq (nV s i)):=getD_map bq h
theorem ya {s:au} {i:Nat} (h:i<s.ay.length):(s.ay.map cm)[i]? =some (cm (oI s i)):=getD_map cm h
theorem ig.form {s:au} (h:ig s):j6 s:=by
 have key:∀t∈s.ai,∃i,i<s.ai.length/\t=nV s i:=fun t ht=>by
  obtain⟨i,hi,rfl⟩:=List.getElem_of_mem ht
  exact⟨i,hi,by simp[nV,List.getD_eq_getElem?_getD,hi]⟩
 refine⟨fun t ht=>?_,fun t ht g hg=>?_⟩
 ·obtain⟨i,hi,rfl⟩:=key t ht
  exact(h.tok i hi).2.1
 ·obtain⟨i,hi,rfl⟩:=key t ht
  exact dW ((h.tok i hi).2.2.2 g hg)
def dq (l:List ByteArray):List (List AV):=l.map fun n=>[.str n,.bool true]
abbrev mS:MK:=⟨false,[.tS]⟩
theorem xC (n:ByteArray):∀(l:List ByteArray) (i:Nat),∃r,fJ mS [.str n] (dq l) i=some r/\((r=none/\n∉l)∨∃j,r=some (i+j)/\n∈l/\(dq l)[j]? =some [.str n,.bool true])
 |[],i=>⟨none,rfl,.inl ⟨rfl,by simp⟩⟩
 |m::l,i=>by
  obtain⟨r,h1,h2⟩:=xC n l (i+1)
  by_cases h:n=m
  ·subst h
   exact⟨some i,by simp[dq,fJ,eU,fS,MK.ks],.inr ⟨0,rfl,by simp,rfl⟩⟩
  ·refine⟨r,?_,?_⟩
   ·unfold dq at h1 ⊢
    simp only[List.map_cons,fJ,MK.ks,List.length_cons,List.length_nil,Nat.zero_add,List.take_succ_cons,List.take_zero,eU,fS,h,decide_false,Bool.and_true]
    exact h1
   ·rcases h2 with⟨rfl,h2⟩|⟨j,rfl,h2,h3⟩
    ·exact .inl ⟨rfl,by simp[h,h2]⟩
    ·exact .inr ⟨j+1,by congr 1;omega,by simp[h2],by simpa[dq]using h3⟩
theorem uR (n:ByteArray) (l:List ByteArray):(n∉l/\fx mS (.str n) (dq l)=some none)∨∃j,n∈l/\fx mS (.str n) (dq l)=some (some j)/\(dq l)[j]? =some [.str n,.bool true]:=by
 obtain⟨r,h1,h2⟩:=xC n l 0
 have e:fx mS (.str n) (dq l)=some r:=by
  unfold fx
  rw[if_pos ⟨rfl,rfl,rfl⟩];exact h1
 rcases h2 with⟨rfl,h2⟩|⟨j,rfl,h2,h3⟩
 ·exact .inl ⟨h2,e⟩
 ·exact .inr ⟨j,h2,by rw[e,Nat.zero_add],h3⟩
theorem MI (s:au) (g:Int):aj Tryz.prog 200 [.int .i64 g,.cI (aa s)] (.bool (!iI g 0 s.ay.length)):=by
 refine aj.body eI rfl fun hl n0=>?_
 clear hl
 have h:=kB g 0 s.ay.length
 (repeat(first|((repeat(revert hN;revert N;apply Pn.out));refine wk @aa.eq_1 ?_;(repeat(refine Pn.mk ?_;intro N hN)))|((try apply Or.inl);refine⟨_,aj.x (h) (sd @aa.eq_1),?_⟩;refine hN _ _ ?_;clear hN N)))
 exact aM (b:= !iI g 0 s.ay.length) (.inl rfl) (sd @Nat.zero_add) rfl
theorem Jd:NP br (fun c=>.int .i64 c) 1 false:=⟨fun _=>rfl,fun _=>rfl,fun x g=>by rw[ah,aI,aq];rfl⟩
theorem Ka (s:au) (l:List Int) (hl:l.length<=1048576):aj Tryz.prog 199 [.sl (l.map br),.fn 200 [.cI (aa s)]] (.bool (l.any fun g=> !iI g 0 s.ay.length)):=
 kb Jd (show mV Tryz.prog 199=some (yf 199 224) by kernel_rfl)
  (show mV Tryz.prog 224=some (rF 224 1 false) by kernel_rfl) l hl _ _ _ rfl (fun g=>by rw[ah,aO,aq];rfl) (fun x _=>MI s x) fun g=>by rw[ah,aO,aq];rfl
theorem uA {α:Type} (f:Nat->α) (n k:Nat) (x:α):x∉(List.range k).map f↔∀j,j<k->f j≠x:=by
 constructor
 ·intro h j hj he
  exact h (List.mem_map.2 ⟨j,List.mem_range.2 hj,he⟩)
 ·intro h hm
  obtain⟨j,hj,he⟩:=List.mem_map.1 hm
  exact h j (List.mem_range.1 hj) he
theorem Bp (s:au) (hn:gx s) (hg:s.ay.length<=1048576) (ht:s.ai.length<=1048576) (hs:∀t∈s.ai,t.bV.length<=1048576):aj Tryz.prog 164 [.agg (aa s)] (.bool (pK s)):=by
 refine aj.body eI rfl fun hl n0=>?_
 clear hl
 have OD:∀i,i<s.ay.length->(oI s i).aD.size<=9223372036854775807:=fun i hi=>hn.1 _ (by simp[oI,List.getD_eq_getElem?_getD,hi])
 have OY:∀i,i<s.ai.length->(nV s i).aD.size<=9223372036854775807:=fun i hi=>hn.2 _ (by simp[nV,List.getD_eq_getElem?_getD,hi])
 have vZ:∀i,i<s.ai.length->(nV s i).bV.length<=1048576:=fun i hi=>hs _ (by simp[nV,List.getD_eq_getElem?_getD,hi])
 have hw:=kB (s.ai.length:Int) 1 160
 by_cases h1:(200:Int)<(s.ay.length:Int)
 ·(try((repeat(revert hN;revert N;apply Pn.out));refine wk (tw @aa.eq_1 @h1) ?_;(repeat(refine Pn.mk ?_;intro N hN))))
  exact aM (b:=false) (.inl rfl) (sd @Nat.zero_add) (fh fun h=>by have:=h.ub;omega)
 by_cases h2:iI (s.ai.length:Int) 1 160=true
 ·have A7:=dW h2
  rw[h2]at hw
  (repeat(first|((repeat(revert hN;revert N;apply Pn.out));refine wk (tw @aa.eq_1 @h1) ?_;(repeat(refine Pn.mk ?_;intro N hN)))|((try apply Or.inl);refine⟨_,aj.x (hw) (sd (tw @aa.eq_1 @h1)),?_⟩;refine hN _ _ ?_;clear hN N)))
  refine aQ (fun n env st=>∃k:Nat,n=(s.ay.length)-k/\k<=(s.ay.length)/\env 24=.int .i64 (k:Int)/\st.get ⟨164000000,n0⟩=some ⟨true,2,[aa s]⟩/\st.get ⟨164003000,n0+1+1⟩=some ⟨true,mS.oq,dq ((List.range k).map fun i=>(oI s i).aD)⟩/\(∀j:Nat,j<k->Bk s j)) (s.ay.length) ⟨0,by omega,by omega,by(try simp only[go_sem, ↓reduceIte,Nat.reduceEqDiff,Nat.reduceAdd,Nat.reduceSub,Nat.reduceLeDiff,reduceCtorEq,aa,List.range_zero,List.map_nil,dq]);try rfl,by(try simp only[go_sem, ↓reduceIte,Nat.reduceEqDiff,Nat.reduceAdd,Nat.reduceSub,Nat.reduceLeDiff,reduceCtorEq,aa,List.range_zero,List.map_nil,dq]);try rfl,by(try simp only[go_sem, ↓reduceIte,Nat.reduceEqDiff,Nat.reduceAdd,Nat.reduceSub,Nat.reduceLeDiff,reduceCtorEq,aa,List.range_zero,List.map_nil,dq]);try rfl,fun _ h=>absurd h (Nat.not_lt_zero _)⟩ ?_
  rintro n_a env_a st_a ⟨k,rfl,ale,a24,ag0,ag1,lp⟩ dY
  have a1:=dY 1 (by kernel_rfl);have a3:=dY 3 (by kernel_rfl);have a22:=dY 22 (by kernel_rfl);have a23:=dY 23 (by kernel_rfl)
  simp only[go_sem, ↓reduceIte,Nat.reduceEqDiff,Nat.reduceAdd,Nat.reduceSub,Nat.reduceLeDiff,reduceCtorEq,aa,List.range_zero,List.map_nil,dq]at a1 a3 a22 a23
  clear dY
  by_cases hk:(k:Int)<(s.ay.length:Int)
  ·have cH:∀{e:Env} {gg:Rows},(e 24=.int .i64 (IntKind.i64.wrap ((k:Int)+1)))->(gg ⟨164000000,n0⟩=some ⟨true,2,[aa s]⟩)->(gg ⟨164003000,n0+1+1⟩=some ⟨true,mS.oq,dq ((List.range (k+1)).map fun i=>(oI s i).aD)⟩)->(Bk s k)->∃m0,m0<(s.ay.length)-k/\∃k:Nat,m0=(s.ay.length)-k/\k<=(s.ay.length)/\e 24=.int .i64 (k:Int)/\gg ⟨164000000,n0⟩=some ⟨true,2,[aa s]⟩/\gg ⟨164003000,n0+1+1⟩=some ⟨true,mS.oq,dq ((List.range k).map fun i=>(oI s i).aD)⟩/\(∀j:Nat,j<k->Bk s j):=fun x1 x2 x3 x4=>⟨_,by omega,k+1,rfl,by omega,(by rw[x1,aA (by omega)]),x2,x3,(all_succ lp x4)⟩
   have fG:k<s.ay.length:=by omega
   have eJ:=ya fG
   have qQ:=Dy (oI s k).aD (OD k fG)
   have IT:=kB (oI s k).eA 1 4
   have Ab:=uR (oI s k).aD ((List.range k).map fun i=>(oI s i).aD)
   rw[uA _ k]at Ab
   have kG:(¬Bk s k)->¬ig s:=fun h hp=>h (hp.PW k fG)
   generalize te:oI s k=gl at *
   cases hb:jm gl.aD
   ·rw[hb]at qQ
    (repeat(first|((repeat(revert hN;revert N;apply Pn.out));refine wk (tw @a24 (tw @ag0 (tw @ag1 (tw @a1 (tw @a3 (tw @a22 (tw @a23 (tw @hk (tw @eJ (tw @cm.eq_1 @aa.eq_1)))))))))) ?_;(repeat(refine Pn.mk ?_;intro N hN)))|((try apply Or.inl);refine⟨_,aj.x (qQ) (sd (tw @a24 (tw @ag0 (tw @ag1 (tw @a1 (tw @a3 (tw @a22 (tw @a23 (tw @hk (tw @eJ (tw @cm.eq_1 @aa.eq_1))))))))))),?_⟩;refine hN _ _ ?_;clear hN N)))
    exact aM (b:=false) (.inl rfl) (sd @Nat.zero_add) (fh (kG fun h=>by rw[Bk,te,hb]at h;cases h.1))
   ·rw[hb]at qQ
    rcases Ab with⟨BU,lr⟩|⟨j,e9,lr,fH⟩
    ·cases dv:iI gl.eA 1 4
     ·rw[dv]at IT
      (repeat(first|((repeat(revert hN;revert N;apply Pn.out));refine wk (tw @a24 (tw @ag0 (tw @ag1 (tw @a1 (tw @a3 (tw @a22 (tw @a23 (tw @hk (tw @eJ (tw @lr (tw @cm.eq_1 @aa.eq_1))))))))))) ?_;(repeat(refine Pn.mk ?_;intro N hN)))|((try apply Or.inl);refine⟨_,aj.x (qQ) (sd (tw @a24 (tw @ag0 (tw @ag1 (tw @a1 (tw @a3 (tw @a22 (tw @a23 (tw @hk (tw @eJ (tw @lr (tw @cm.eq_1 @aa.eq_1)))))))))))),?_⟩;refine hN _ _ ?_;clear hN N)|((try apply Or.inl);refine⟨_,aj.x (IT) (sd (tw @a24 (tw @ag0 (tw @ag1 (tw @a1 (tw @a3 (tw @a22 (tw @a23 (tw @hk (tw @eJ (tw @lr (tw @cm.eq_1 @aa.eq_1)))))))))))),?_⟩;refine hN _ _ ?_;clear hN N)))
      exact aM (b:=false) (.inl rfl) (sd @Nat.zero_add) (fh (kG fun h=>by rw[Bk,te,dv]at h;cases h.2.1))
     ·rw[dv]at IT
      have pr:dq ((List.range k).map fun i=>(oI s i).aD)++[[.str gl.aD,.bool true]]=dq (List.map (fun i=>(oI s i).aD) (List.range k++[k])):=by simp[dq,te]
      (repeat(first|((repeat(revert hN;revert N;apply Pn.out));refine wk (tw @a24 (tw @ag0 (tw @ag1 (tw @a1 (tw @a3 (tw @a22 (tw @a23 (tw @hk (tw @eJ (tw @lr (tw @cm.eq_1 @aa.eq_1))))))))))) ?_;(repeat(refine Pn.mk ?_;intro N hN)))|((try apply Or.inl);refine⟨_,aj.x (qQ) (sd (tw @a24 (tw @ag0 (tw @ag1 (tw @a1 (tw @a3 (tw @a22 (tw @a23 (tw @hk (tw @eJ (tw @lr (tw @cm.eq_1 @aa.eq_1)))))))))))),?_⟩;refine hN _ _ ?_;clear hN N)|((try apply Or.inl);refine⟨_,aj.x (IT) (sd (tw @a24 (tw @ag0 (tw @ag1 (tw @a1 (tw @a3 (tw @a22 (tw @a23 (tw @hk (tw @eJ (tw @lr (tw @cm.eq_1 @aa.eq_1)))))))))))),?_⟩;refine hN _ _ ?_;clear hN N)))
      refine cH ?_ ?_ ?_ (⟨by rw[te];exact hb,by rw[te];exact dv,fun j hj=>by rw[te];exact BU j hj⟩)
      all_goals simp only[go_sem, ↓reduceIte,Nat.reduceEqDiff,Nat.reduceAdd,Nat.reduceSub,Nat.reduceLeDiff,reduceCtorEq,a24,ag0,ag1,a1,a3,a22,a23,lr,pr]
    ·(repeat(first|((repeat(revert hN;revert N;apply Pn.out));refine wk (tw @a24 (tw @ag0 (tw @ag1 (tw @a1 (tw @a3 (tw @a22 (tw @a23 (tw @hk (tw @eJ (tw @lr (tw @fH (tw @cm.eq_1 @aa.eq_1)))))))))))) ?_;(repeat(refine Pn.mk ?_;intro N hN)))|((try apply Or.inl);refine⟨_,aj.x (qQ) (sd (tw @a24 (tw @ag0 (tw @ag1 (tw @a1 (tw @a3 (tw @a22 (tw @a23 (tw @hk (tw @eJ (tw @lr (tw @fH (tw @cm.eq_1 @aa.eq_1))))))))))))),?_⟩;refine hN _ _ ?_;clear hN N)))
     exact aM (b:=false) (.inl rfl) (sd @Nat.zero_add) (fh (kG fun h=>by
      rw[Bk,te]at h
      obtain⟨i,hi,he⟩:=List.mem_map.1 e9
      exact h.2.2 i (List.mem_range.1 hi) he))
  ·have lq:k=s.ay.length:=by omega
   (try((repeat(revert hN;revert N;apply Pn.out));refine wk (tw @a24 (tw @ag0 (tw @ag1 (tw @a1 (tw @a3 (tw @a22 (tw @a23 (tw @hk @aa.eq_1)))))))) ?_;(repeat(refine Pn.mk ?_;intro N hN))))
   refine aQ (fun n env st=>∃j:Nat,n=(s.ai.length)-j/\j<=(s.ai.length)/\env 52=.int .i64 (j:Int)/\st.get ⟨164000000,n0⟩=some ⟨true,2,[aa s]⟩/\st.get ⟨164011000,st_a.next+1⟩=some ⟨true,mS.oq,dq ((List.range j).map fun i=>(nV s i).aD)⟩/\(∀i:Nat,i<j->zr s i)/\(st_a.next<st.next)) (s.ai.length) ⟨0,by omega,by omega,by(try simp only[go_sem, ↓reduceIte,Nat.reduceEqDiff,Nat.reduceAdd,Nat.reduceSub,Nat.reduceLeDiff,reduceCtorEq,a24,ag0,ag1,a1,a3,a22,a23,aa,List.range_zero,List.map_nil,dq]);try rfl,by(try simp only[go_sem, ↓reduceIte,Nat.reduceEqDiff,Nat.reduceAdd,Nat.reduceSub,Nat.reduceLeDiff,reduceCtorEq,a24,ag0,ag1,a1,a3,a22,a23,aa,List.range_zero,List.map_nil,dq]);try rfl,by(try simp only[go_sem, ↓reduceIte,Nat.reduceEqDiff,Nat.reduceAdd,Nat.reduceSub,Nat.reduceLeDiff,reduceCtorEq,a24,ag0,ag1,a1,a3,a22,a23,aa,List.range_zero,List.map_nil,dq]);try rfl,fun _ h=>absurd h (Nat.not_lt_zero _),(by(try dsimp only);omega)⟩ ?_
   rintro n_b env_b st_b ⟨j,rfl,ble,b52,bg0,bg1,bA0,bI0⟩ fE
   have b1:=fE 1 (by kernel_rfl);have b6:=fE 6 (by kernel_rfl);have Bu:=fE 50 (by kernel_rfl);have Bv:=fE 51 (by kernel_rfl)
   simp only[go_sem, ↓reduceIte,Nat.reduceEqDiff,Nat.reduceAdd,Nat.reduceSub,Nat.reduceLeDiff,reduceCtorEq,a24,ag0,ag1,a1,a3,a22,a23,aa,List.range_zero,List.map_nil,dq]at b1 b6 Bu Bv
   clear fE
   by_cases hj:(j:Int)<(s.ai.length:Int)
   ·have fK:∀{e:Env} {gg:Rows} {nx:Nat},(e 52=.int .i64 (IntKind.i64.wrap ((j:Int)+1)))->(gg ⟨164000000,n0⟩=some ⟨true,2,[aa s]⟩)->(gg ⟨164011000,st_a.next+1⟩=some ⟨true,mS.oq,dq ((List.range (j+1)).map fun i=>(nV s i).aD)⟩)->(zr s j)->(st_a.next<nx)->∃m0,m0<(s.ai.length)-j/\∃j:Nat,m0=(s.ai.length)-j/\j<=(s.ai.length)/\e 52=.int .i64 (j:Int)/\gg ⟨164000000,n0⟩=some ⟨true,2,[aa s]⟩/\gg ⟨164011000,st_a.next+1⟩=some ⟨true,mS.oq,dq ((List.range j).map fun i=>(nV s i).aD)⟩/\(∀i:Nat,i<j->zr s i)/\(st_a.next<nx):=fun x1 x2 x3 x4 x5=>⟨_,by omega,j+1,rfl,by omega,(by rw[x1,aA (by omega)]),x2,x3,(all_succ bA0 x4),x5⟩
    have mW:j<s.ai.length:=by omega
    have mQ:=yU mW
    have qQ:=Dy (nV s j).aD (OY j mW)
    have Qy:=Ka s (nV s j).bV (vZ j mW)
    have Ab:=uR (nV s j).aD ((List.range j).map fun i=>(nV s i).aD)
    rw[uA _ j]at Ab
    have kG:(¬zr s j)->¬ig s:=fun h hp=>h (hp.tok j mW)
    have gI:(⟨164011000,st_a.next+1⟩:Id)≠⟨164000000,n0⟩:=by simp
    generalize htd:nV s j=tl at *
    cases hb:jm tl.aD
    ·rw[hb]at qQ
     (repeat(first|((repeat(revert hN;revert N;apply Pn.out));refine wk (tw @b52 (tw @bg0 (tw @bg1 (tw @b1 (tw @b6 (tw @Bu (tw @Bv (tw @hj (tw @mQ (tw @bq.eq_1 @aa.eq_1)))))))))) ?_;(repeat(refine Pn.mk ?_;intro N hN)))|((try apply Or.inl);refine⟨_,aj.x (qQ) (sd (tw @b52 (tw @bg0 (tw @bg1 (tw @b1 (tw @b6 (tw @Bu (tw @Bv (tw @hj (tw @mQ (tw @bq.eq_1 @aa.eq_1))))))))))),?_⟩;refine hN _ _ ?_;clear hN N)))
     exact aM (b:=false) (.inl rfl) (sd @Nat.zero_add) (fh (kG fun h=>by rw[zr,htd,hb]at h;cases h.1))
    ·rw[hb]at qQ
     rcases Ab with⟨BU,lr⟩|⟨i,e9,lr,fH⟩
     ·by_cases h4:(tl.bV.length:Int)=4
      ·have yd:decide ((tl.bV.length:Int)=4)=true:=decide_eq_true h4
       cases hany:tl.bV.any fun g=> !iI g 0 s.ay.length
       ·rw[hany]at Qy
        have pr:dq ((List.range j).map fun i=>(nV s i).aD)++[[.str tl.aD,.bool true]]=dq (List.map (fun i=>(nV s i).aD) (List.range j++[j])):=by simp[dq,htd]
        (repeat(first|((repeat(revert hN;revert N;apply Pn.out));refine wk (tw @b52 (tw @bg0 (tw @bg1 (tw @b1 (tw @b6 (tw @Bu (tw @Bv (tw @hj (tw @mQ (tw @lr (tw @yd (tw @bq.eq_1 @aa.eq_1)))))))))))) ?_;(repeat(refine Pn.mk ?_;intro N hN)))|((try apply Or.inl);refine⟨_,aj.x (qQ) (sd (tw @b52 (tw @bg0 (tw @bg1 (tw @b1 (tw @b6 (tw @Bu (tw @Bv (tw @hj (tw @mQ (tw @lr (tw @yd (tw @bq.eq_1 @aa.eq_1))))))))))))),?_⟩;refine hN _ _ ?_;clear hN N)|((try apply Or.inl);refine⟨_,aj.x (Qy) (sd (tw @b52 (tw @bg0 (tw @bg1 (tw @b1 (tw @b6 (tw @Bu (tw @Bv (tw @hj (tw @mQ (tw @lr (tw @yd (tw @bq.eq_1 @aa.eq_1))))))))))))),?_⟩;refine hN _ _ ?_;clear hN N)))
        refine fK ?_ ?_ ?_ (⟨by rw[htd];exact hb,by rw[htd];omega,fun i hi=>(by rw[htd];exact BU i hi),fun g hg=>by rw[htd]at hg;have:=List.any_eq_false.1 hany g hg;simpa using this⟩) (by(try dsimp only);omega)
        all_goals simp only[go_sem, ↓reduceIte,Nat.reduceEqDiff,Nat.reduceAdd,Nat.reduceSub,Nat.reduceLeDiff,reduceCtorEq,b52,bg0,bg1,b1,b6,Bu,Bv,lr,pr]
       ·rw[hany]at Qy
        (repeat(first|((repeat(revert hN;revert N;apply Pn.out));refine wk (tw @b52 (tw @bg0 (tw @bg1 (tw @b1 (tw @b6 (tw @Bu (tw @Bv (tw @hj (tw @mQ (tw @lr (tw @yd (tw @bq.eq_1 @aa.eq_1)))))))))))) ?_;(repeat(refine Pn.mk ?_;intro N hN)))|((try apply Or.inl);refine⟨_,aj.x (qQ) (sd (tw @b52 (tw @bg0 (tw @bg1 (tw @b1 (tw @b6 (tw @Bu (tw @Bv (tw @hj (tw @mQ (tw @lr (tw @yd (tw @bq.eq_1 @aa.eq_1))))))))))))),?_⟩;refine hN _ _ ?_;clear hN N)|((try apply Or.inl);refine⟨_,aj.x (Qy) (sd (tw @b52 (tw @bg0 (tw @bg1 (tw @b1 (tw @b6 (tw @Bu (tw @Bv (tw @hj (tw @mQ (tw @lr (tw @yd (tw @bq.eq_1 @aa.eq_1))))))))))))),?_⟩;refine hN _ _ ?_;clear hN N)))
        exact aM (b:=false) (.inl rfl) (sd @Nat.zero_add) (fh (kG fun h=>by
         rw[zr,htd]at h
         obtain⟨g,hg,hq⟩:=List.any_eq_true.1 hany
         have:=h.2.2.2 g hg
         rw[this]at hq;cases hq))
      ·have yd:decide ((tl.bV.length:Int)=4)=false:=decide_eq_false h4
       (repeat(first|((repeat(revert hN;revert N;apply Pn.out));refine wk (tw @b52 (tw @bg0 (tw @bg1 (tw @b1 (tw @b6 (tw @Bu (tw @Bv (tw @hj (tw @mQ (tw @lr (tw @yd (tw @bq.eq_1 @aa.eq_1)))))))))))) ?_;(repeat(refine Pn.mk ?_;intro N hN)))|((try apply Or.inl);refine⟨_,aj.x (qQ) (sd (tw @b52 (tw @bg0 (tw @bg1 (tw @b1 (tw @b6 (tw @Bu (tw @Bv (tw @hj (tw @mQ (tw @lr (tw @yd (tw @bq.eq_1 @aa.eq_1))))))))))))),?_⟩;refine hN _ _ ?_;clear hN N)))
       exact aM (b:=false) (.inl rfl) (sd @Nat.zero_add) (fh (kG fun h=>by rw[zr,htd]at h;have:=h.2.1;omega))
     ·(repeat(first|((repeat(revert hN;revert N;apply Pn.out));refine wk (tw @b52 (tw @bg0 (tw @bg1 (tw @b1 (tw @b6 (tw @Bu (tw @Bv (tw @hj (tw @mQ (tw @lr (tw @fH (tw @bq.eq_1 @aa.eq_1)))))))))))) ?_;(repeat(refine Pn.mk ?_;intro N hN)))|((try apply Or.inl);refine⟨_,aj.x (qQ) (sd (tw @b52 (tw @bg0 (tw @bg1 (tw @b1 (tw @b6 (tw @Bu (tw @Bv (tw @hj (tw @mQ (tw @lr (tw @fH (tw @bq.eq_1 @aa.eq_1))))))))))))),?_⟩;refine hN _ _ ?_;clear hN N)))
      exact aM (b:=false) (.inl rfl) (sd @Nat.zero_add) (fh (kG fun h=>by
       rw[zr,htd]at h
       obtain⟨i,hi,he⟩:=List.mem_map.1 e9
       exact h.2.2.1 i (List.mem_range.1 hi) he))
   ·(try((repeat(revert hN;revert N;apply Pn.out));refine wk (tw @b52 (tw @bg0 (tw @bg1 (tw @b1 (tw @b6 (tw @Bu (tw @Bv (tw @hj @aa.eq_1)))))))) ?_;(repeat(refine Pn.mk ?_;intro N hN))))
    exact aM (b:=true) (.inl rfl) (sd @Nat.zero_add) (AO ⟨by omega,by omega,by omega,fun i hi=>lp i (by omega),fun i hi=>bA0 i (by omega)⟩)
 ·rw[Bool.not_eq_true]at h2
  rw[h2]at hw
  (repeat(first|((repeat(revert hN;revert N;apply Pn.out));refine wk (tw @aa.eq_1 @h1) ?_;(repeat(refine Pn.mk ?_;intro N hN)))|((try apply Or.inl);refine⟨_,aj.x (hw) (sd (tw @aa.eq_1 @h1)),?_⟩;refine hN _ _ ?_;clear hN N)))
  exact aM (b:=false) (.inl rfl) (sd @Nat.zero_add) (fh fun h=>by
   have h3:=h.some
   have h4:=h.Ik
   rw[kg ⟨by omega,by omega⟩]at h2;cases h2)
end Go.Proofs.YtgoelphibofcmaaGreat.V

namespace Go.Proofs.YtgoelphibofcmaaGreat.V
open Go.RowKit
attribute [local irreducible] dx wpOps gp Call
attribute [local go_sem] aH fC eG fW fV cF upd cj K.av cJ AV.cells AV.cell rowOf rowsOf part ld rowAt bj bY dz eb gT bE cZ er fS eU dp eh cX cW dR dS bH aW cN bG cQ cP ee ei ef cL bP cY ec bF aL cU cw gS bl cG bI aP dd aU dB AV.undef bw bB dV ea dI dG cE ep ev cq ek ej cR cV List.getD_cons_zero List.getD_cons_succ List.getD_nil List.all_cons List.all_nil Bool.and_true Bool.true_and Bool.and_self Bool.not_true Bool.not_false Option.map_some Option.map_none Option.bind_some Option.bind_none List.length_cons List.length_nil List.take_succ_cons List.take_zero List.take_nil List.drop_succ_cons List.drop_zero List.drop_nil List.head?_cons List.map_cons List.map_nil List.getElem?_cons_zero List.getElem?_cons_succ List.cons_append List.nil_append List.append_nil List.length_map List.set_cons_zero List.set_cons_succ Nat.reduceMul eq_self Int.toNat_natCast Int.natCast_nonneg and_self true_and and_true decide_true decide_false Bool.false_eq_true Nat.zero_add Nat.add_zero List.contains_cons List.contains_nil Bool.or_false Bool.false_or beq_self_eq_true Nat.reduceBEq ne_eq not_true_eq_false not_false_eq_true Id.mk.injEq false_and and_false Nat.reduceLT Int.reduceLE Int.reduceLT Int.reduceToNat Int.reduceNeg Int.reduceAdd Nat.le_refl List.length_append beq_true beq_false Bool.not_eq_eq_eq_not or_false false_or dO ah aq aI aZ bt ck aS bf aO aY cK bK
theorem s6 {α:Type} {p:α->Bool} {xs:List α} {k:Nat} (hk:k<xs.length) (h1:p xs[k]=true) (h2:∀j (h:j<xs.length),j<k->p xs[j]=false):jR p xs=k:=by
 have:xs.findIdx p=k:=by rw[List.findIdx_eq hk];exact⟨h1,fun j hj=>h2 j (by omega) hj⟩
 rw[jR,this,if_pos hk]
theorem wK {α:Type} {p:α->Bool} {xs:List α} (h:∀j (h:j<xs.length),p xs[j]=false):jR p xs= -1:=by
 rw[jR,if_neg]
 rw[List.findIdx_lt_length]
 rintro⟨x,hx,Jw⟩
 obtain⟨j,hj,rfl⟩:=List.getElem_of_mem hx
 rw[h j hj]at Jw;cases Jw
theorem x9 {s:au} {i:Nat} (h:i<s.ay.length):oI s i=s.ay[i]:=by simp[oI,List.getD_eq_getElem?_getD,h]
theorem yT {s:au} {i:Nat} (h:i<s.ai.length):nV s i=s.ai[i]:=by simp[nV,List.getD_eq_getElem?_getD,h]
def IE (s:au) (n:ByteArray):Int:=jR (fun g:gK=>decide (g.aD=n)) s.ay
def K0 (s:au) (n:ByteArray):Int:=jR (fun t:e5=>decide (t.aD=n)) s.ai
theorem EO (s:au) (nm:ByteArray):aj Tryz.prog 190 [.cI (aa s),.str nm] (.int .i64 (IE s nm+1)):=by
 refine aj.body eI rfl fun hl n0=>?_
 have hlen:s.ay.length<=9223372036854775807:=by
  have h1:=(hl (.cI (aa s)) (by simp)).Al (a:=.sl (s.ay.map cm)) (by simp[aa])
  simpa using h1.len
 clear hl
 (try((repeat(revert hN;revert N;apply Pn.out));refine wk @aa.eq_1 ?_;(repeat(refine Pn.mk ?_;intro N hN))))
 refine aQ (fun n env st=>∃k:Nat,n=(s.ay.length)-k/\k<=(s.ay.length)/\env 5=.int .i64 (k:Int)/\(∀j:Nat,j<k->∀h:j<s.ay.length,decide (s.ay[j].aD=nm)=false)) (s.ay.length) ⟨0,by omega,by omega,sl @aa.eq_1,fun _ h=>absurd h (Nat.not_lt_zero _)⟩ ?_
 rintro n_a env_a st_a ⟨k,rfl,ale,a5,lp⟩ dY
 have a0:=dY 0 (by kernel_rfl);have a1:=dY 1 (by kernel_rfl)
 simp only[go_sem, ↓reduceIte,Nat.reduceEqDiff,Nat.reduceAdd,Nat.reduceSub,Nat.reduceLeDiff,reduceCtorEq,aa]at a0 a1
 clear dY
 by_cases hk:(k:Int)<(s.ay.length:Int)
 ·have cH:∀{e:Env},(e 5=.int .i64 (IntKind.i64.wrap ((k:Int)+1)))->(∀h:k<s.ay.length,decide (s.ay[k].aD=nm)=false)->∃m0,m0<(s.ay.length)-k/\∃k:Nat,m0=(s.ay.length)-k/\k<=(s.ay.length)/\e 5=.int .i64 (k:Int)/\(∀j:Nat,j<k->∀h:j<s.ay.length,decide (s.ay[j].aD=nm)=false):=fun x1 x2=>⟨_,by omega,k+1,rfl,by omega,(by rw[x1,aA (by omega)]),(all_succ lp x2)⟩
  have fG:k<s.ay.length:=by omega
  have eJ:=ya fG
  have e:=x9 fG
  cases hd:decide ((oI s k).aD=nm)
  ·have Qf:=of_decide_eq_false hd
   (try((repeat(revert hN;revert N;apply Pn.out));refine wk (tw @a5 (tw @a0 (tw @a1 (tw @hk (tw @eJ (tw @Qf (tw @hd (tw @cm.eq_1 @aa.eq_1)))))))) ?_;(repeat(refine Pn.mk ?_;intro N hN))))
   exact cH (sd (tw @a5 (tw @a0 @a1))) (fun _=>by rw[e]at hd;exact hd)
  ·have Qf:=of_decide_eq_true hd
   have hw:IntKind.i64.wrap ((k:Int)+1)=(k:Int)+1:=bW (by omega)
   (try((repeat(revert hN;revert N;apply Pn.out));refine wk (tw @a5 (tw @a0 (tw @a1 (tw @hk (tw @eJ (tw @hd (tw @hw (tw @cm.eq_1 @aa.eq_1)))))))) ?_;(repeat(refine Pn.mk ?_;intro N hN))))
   exact bZ (b:=(k:Int)+1) (.inl rfl) (sd @Nat.zero_add) (by rw[IE,s6 fG (by rw[e]at hd;exact hd) fun j h hj=>lp j hj h])
 ·(try((repeat(revert hN;revert N;apply Pn.out));refine wk (tw @a5 (tw @a0 (tw @a1 (tw @hk @aa.eq_1)))) ?_;(repeat(refine Pn.mk ?_;intro N hN))))
  exact bZ (b:=0) (.inl rfl) (sd @Nat.zero_add) (by rw[IE,wK fun j h=>lp j (by omega) h];rfl)
theorem EP (s:au) (nm:ByteArray):aj Tryz.prog 191 [.cI (aa s),.str nm] (.int .i64 (K0 s nm)):=by
 refine aj.body eI rfl fun hl n0=>?_
 have hlen:s.ai.length<=9223372036854775807:=by
  have h1:=(hl (.cI (aa s)) (by simp)).Al (a:=.sl (s.ai.map bq)) (by simp[aa])
  simpa using h1.len
 clear hl
 (try((repeat(revert hN;revert N;apply Pn.out));refine wk @aa.eq_1 ?_;(repeat(refine Pn.mk ?_;intro N hN))))
 refine aQ (fun n env st=>∃k:Nat,n=(s.ai.length)-k/\k<=(s.ai.length)/\env 5=.int .i64 (k:Int)/\(∀j:Nat,j<k->∀h:j<s.ai.length,decide (s.ai[j].aD=nm)=false)) (s.ai.length) ⟨0,by omega,by omega,sl @aa.eq_1,fun _ h=>absurd h (Nat.not_lt_zero _)⟩ ?_
 rintro n_a env_a st_a ⟨k,rfl,ale,a5,lp⟩ dY
 have a0:=dY 0 (by kernel_rfl);have a1:=dY 1 (by kernel_rfl)
 simp only[go_sem, ↓reduceIte,Nat.reduceEqDiff,Nat.reduceAdd,Nat.reduceSub,Nat.reduceLeDiff,reduceCtorEq,aa]at a0 a1
 clear dY
 by_cases hk:(k:Int)<(s.ai.length:Int)
 ·have cH:∀{e:Env},(e 5=.int .i64 (IntKind.i64.wrap ((k:Int)+1)))->(∀h:k<s.ai.length,decide (s.ai[k].aD=nm)=false)->∃m0,m0<(s.ai.length)-k/\∃k:Nat,m0=(s.ai.length)-k/\k<=(s.ai.length)/\e 5=.int .i64 (k:Int)/\(∀j:Nat,j<k->∀h:j<s.ai.length,decide (s.ai[j].aD=nm)=false):=fun x1 x2=>⟨_,by omega,k+1,rfl,by omega,(by rw[x1,aA (by omega)]),(all_succ lp x2)⟩
  have fG:k<s.ai.length:=by omega
  have eJ:=yU fG
  have e:=yT fG
  cases hd:decide ((nV s k).aD=nm)
  ·(try((repeat(revert hN;revert N;apply Pn.out));refine wk (tw @a5 (tw @a0 (tw @a1 (tw @hk (tw @eJ (tw @hd (tw @bq.eq_1 @aa.eq_1))))))) ?_;(repeat(refine Pn.mk ?_;intro N hN))))
   exact cH (sd (tw @a5 (tw @a0 @a1))) (fun _=>by rw[e]at hd;exact hd)
  ·(try((repeat(revert hN;revert N;apply Pn.out));refine wk (tw @a5 (tw @a0 (tw @a1 (tw @hk (tw @eJ (tw @hd (tw @bq.eq_1 @aa.eq_1))))))) ?_;(repeat(refine Pn.mk ?_;intro N hN))))
   exact bZ (b:=(k:Int)) (.inl rfl) (sd @Nat.zero_add) (by rw[K0,s6 fG (by rw[e]at hd;exact hd) fun j h hj=>lp j hj h])
 ·(try((repeat(revert hN;revert N;apply Pn.out));refine wk (tw @a5 (tw @a0 (tw @a1 (tw @hk @aa.eq_1)))) ?_;(repeat(refine Pn.mk ?_;intro N hN))))
  exact bZ (b:=-1) (.inl rfl) (sd @Nat.zero_add) (by rw[K0,wK fun j h=>lp j (by omega) h])
theorem LD {s:au} {i:Nat} (h:i<s.ay.length):IE s (oI s i).aD=i↔∀j,j<i->(oI s j).aD≠(oI s i).aD:=by
 constructor
 ·intro he j hj hc
  have gM:j<s.ay.length:=by omega
  have:s.ay.findIdx (fun g:gK=>decide (g.aD=(oI s i).aD))<=j:=by
   rcases Nat.lt_or_ge j (s.ay.findIdx fun g:gK=>decide (g.aD=(oI s i).aD))with dE|pq
   ·have:=List.not_of_lt_findIdx dE
    rw[<-x9 gM]at this
    simp[hc]at this
   ·exact pq
  unfold IE jR at he
  split at he<;>omega
 ·intro hd
  exact s6 h (by rw[<-x9 h];simp) fun j gM hj=>by rw[<-x9 gM];simpa using hd j hj
theorem MO {s:au} {i:Nat} (h:i<s.ai.length):K0 s (nV s i).aD=i↔∀j,j<i->(nV s j).aD≠(nV s i).aD:=by
 constructor
 ·intro he j hj hc
  have gM:j<s.ai.length:=by omega
  have:s.ai.findIdx (fun g:e5=>decide (g.aD=(nV s i).aD))<=j:=by
   rcases Nat.lt_or_ge j (s.ai.findIdx fun g:e5=>decide (g.aD=(nV s i).aD))with dE|pq
   ·have:=List.not_of_lt_findIdx dE
    rw[<-yT gM]at this
    simp[hc]at this
   ·exact pq
  unfold K0 jR at he
  split at he<;>omega
 ·intro hd
  exact s6 h (by rw[<-yT h];simp) fun j gM hj=>by rw[<-yT gM];simpa using hd j hj
theorem JL (s:au) (hn:gx s) (hg:s.ay.length<=1048576) (ht:s.ai.length<=1048576):aj Tryz.prog 156 [.cI (aa s)] (.bool (pK s)):=by
 refine aj.body eI rfl fun hl n0=>?_
 clear hl
 have OD:∀i,i<s.ay.length->(oI s i).aD.size<=9223372036854775807:=fun i hi=>hn.1 _ (by simp[oI,List.getD_eq_getElem?_getD,hi])
 have OY:∀i,i<s.ai.length->(nV s i).aD.size<=9223372036854775807:=fun i hi=>hn.2 _ (by simp[nV,List.getD_eq_getElem?_getD,hi])
 by_cases h1:(200:Int)<(s.ay.length:Int)
 ·(try((repeat(revert hN;revert N;apply Pn.out));refine wk (tw @aa.eq_1 @h1) ?_;(repeat(refine Pn.mk ?_;intro N hN))))
  exact aM (b:=false) (.inl rfl) (sd @Nat.zero_add) (fh fun h=>by have:=h.ub;omega)
 by_cases h2:(s.ai.length:Int)<1
 ·(try((repeat(revert hN;revert N;apply Pn.out));refine wk (tw @aa.eq_1 (tw @h1 @h2)) ?_;(repeat(refine Pn.mk ?_;intro N hN))))
  exact aM (b:=false) (.inl rfl) (sd @Nat.zero_add) (fh fun h=>by have:=h.some;omega)
 by_cases h3:(160:Int)<(s.ai.length:Int)
 ·(try((repeat(revert hN;revert N;apply Pn.out));refine wk (tw @aa.eq_1 (tw @h1 (tw @h2 @h3))) ?_;(repeat(refine Pn.mk ?_;intro N hN))))
  exact aM (b:=false) (.inl rfl) (sd @Nat.zero_add) (fh fun h=>by have:=h.Ik;omega)
 (try((repeat(revert hN;revert N;apply Pn.out));refine wk (tw @aa.eq_1 (tw @h1 (tw @h2 @h3))) ?_;(repeat(refine Pn.mk ?_;intro N hN))))
 refine aQ (fun n env st=>∃k:Nat,n=(s.ay.length)-k/\k<=(s.ay.length)/\env 3=.int .i64 (k:Int)/\(∀j:Nat,j<k->Bk s j)) (s.ay.length) ⟨0,by omega,by omega,sl @aa.eq_1,fun _ h=>absurd h (Nat.not_lt_zero _)⟩ ?_
 rintro n_a env_a st_a ⟨k,rfl,ale,a3,lp⟩ dY
 have a0:=dY 0 (by kernel_rfl)
 simp only[go_sem, ↓reduceIte,Nat.reduceEqDiff,Nat.reduceAdd,Nat.reduceSub,Nat.reduceLeDiff,reduceCtorEq,aa]at a0
 clear dY
 by_cases hk:(k:Int)<(s.ay.length:Int)
 ·have cH:∀{e:Env},(e 3=.int .i64 (IntKind.i64.wrap ((k:Int)+1)))->(Bk s k)->∃m0,m0<(s.ay.length)-k/\∃k:Nat,m0=(s.ay.length)-k/\k<=(s.ay.length)/\e 3=.int .i64 (k:Int)/\(∀j:Nat,j<k->Bk s j):=fun x1 x2=>⟨_,by omega,k+1,rfl,by omega,(by rw[x1,aA (by omega)]),(all_succ lp x2)⟩
  have fG:k<s.ay.length:=by omega
  have eJ:=ya fG
  have qQ:=DN (oI s k).aD (OD k fG)
  have IT:=kW (oI s k).eA 1 4
  have EB:=EO s (oI s k).aD
  have qf:=LD fG
  have kG:(¬Bk s k)->¬ig s:=fun h hp=>h (hp.PW k fG)
  have hw:IntKind.i64.wrap ((k:Int)+1)=(k:Int)+1:=bW (by omega)
  generalize te:oI s k=gl at *
  cases hb:jm gl.aD
  ·rw[hb]at qQ
   (repeat(first|((repeat(revert hN;revert N;apply Pn.out));refine wk (tw @a3 (tw @a0 (tw @hk (tw @eJ (tw @cm.eq_1 @aa.eq_1))))) ?_;(repeat(refine Pn.mk ?_;intro N hN)))|((try apply Or.inl);refine⟨_,aj.x (qQ) (sd (tw @a3 (tw @a0 (tw @hk (tw @eJ (tw @cm.eq_1 @aa.eq_1)))))),?_⟩;refine hN _ _ ?_;clear hN N)))
   exact aM (b:=false) (.inl rfl) (sd @Nat.zero_add) (fh (kG fun h=>by rw[Bk,te,hb]at h;cases h.1))
  rw[hb]at qQ
  cases dv:iI gl.eA 1 4
  ·rw[dv]at IT
   (repeat(first|((repeat(revert hN;revert N;apply Pn.out));refine wk (tw @a3 (tw @a0 (tw @hk (tw @eJ (tw @cm.eq_1 @aa.eq_1))))) ?_;(repeat(refine Pn.mk ?_;intro N hN)))|((try apply Or.inl);refine⟨_,aj.x (qQ) (sd (tw @a3 (tw @a0 (tw @hk (tw @eJ (tw @cm.eq_1 @aa.eq_1)))))),?_⟩;refine hN _ _ ?_;clear hN N)|((try apply Or.inl);refine⟨_,aj.x (IT) (sd (tw @a3 (tw @a0 (tw @hk (tw @eJ (tw @cm.eq_1 @aa.eq_1)))))),?_⟩;refine hN _ _ ?_;clear hN N)))
   exact aM (b:=false) (.inl rfl) (sd @Nat.zero_add) (fh (kG fun h=>by rw[Bk,te,dv]at h;cases h.2.1))
  rw[dv]at IT
  rw[aa]at EB
  by_cases hq:IE s gl.aD=(k:Int)
  ·have hd:decide (IE s gl.aD+1=(k:Int)+1)=true:=decide_eq_true (by omega)
   have mM:decide (IE s gl.aD=(k:Int))=true:=decide_eq_true hq
   (repeat(first|((repeat(revert hN;revert N;apply Pn.out));refine wk (tw @a3 (tw @a0 (tw @hk (tw @eJ (tw @hw (tw @hd (tw @mM (tw @cm.eq_1 @aa.eq_1)))))))) ?_;(repeat(refine Pn.mk ?_;intro N hN)))|((try apply Or.inl);refine⟨_,aj.x (qQ) (sd (tw @a3 (tw @a0 (tw @hk (tw @eJ (tw @hw (tw @hd (tw @mM (tw @cm.eq_1 @aa.eq_1))))))))),?_⟩;refine hN _ _ ?_;clear hN N)|((try apply Or.inl);refine⟨_,aj.x (IT) (sd (tw @a3 (tw @a0 (tw @hk (tw @eJ (tw @hw (tw @hd (tw @mM (tw @cm.eq_1 @aa.eq_1))))))))),?_⟩;refine hN _ _ ?_;clear hN N)|((try apply Or.inl);refine⟨_,aj.x (EB) (sd (tw @a3 (tw @a0 (tw @hk (tw @eJ (tw @hw (tw @hd (tw @mM (tw @cm.eq_1 @aa.eq_1))))))))),?_⟩;refine hN _ _ ?_;clear hN N)))
   exact cH (sd (tw @a3 (tw @a0 @hw))) (⟨by rw[te];exact hb,by rw[te];exact dv,fun j hj=>by rw[te];exact qf.1 hq j hj⟩)
  ·have hd:decide (IE s gl.aD+1=(k:Int)+1)=false:=decide_eq_false (by omega)
   have mM:decide (IE s gl.aD=(k:Int))=false:=decide_eq_false hq
   (repeat(first|((repeat(revert hN;revert N;apply Pn.out));refine wk (tw @a3 (tw @a0 (tw @hk (tw @eJ (tw @hw (tw @hd (tw @mM (tw @cm.eq_1 @aa.eq_1)))))))) ?_;(repeat(refine Pn.mk ?_;intro N hN)))|((try apply Or.inl);refine⟨_,aj.x (qQ) (sd (tw @a3 (tw @a0 (tw @hk (tw @eJ (tw @hw (tw @hd (tw @mM (tw @cm.eq_1 @aa.eq_1))))))))),?_⟩;refine hN _ _ ?_;clear hN N)|((try apply Or.inl);refine⟨_,aj.x (IT) (sd (tw @a3 (tw @a0 (tw @hk (tw @eJ (tw @hw (tw @hd (tw @mM (tw @cm.eq_1 @aa.eq_1))))))))),?_⟩;refine hN _ _ ?_;clear hN N)|((try apply Or.inl);refine⟨_,aj.x (EB) (sd (tw @a3 (tw @a0 (tw @hk (tw @eJ (tw @hw (tw @hd (tw @mM (tw @cm.eq_1 @aa.eq_1))))))))),?_⟩;refine hN _ _ ?_;clear hN N)))
   exact aM (b:=false) (.inl rfl) (sd @Nat.zero_add) (fh (kG fun h=>by
    rw[Bk,te]at h
    exact hq (qf.2 h.2.2)))
 ·have lq:k=s.ay.length:=by omega
  (try((repeat(revert hN;revert N;apply Pn.out));refine wk (tw @a3 (tw @a0 (tw @hk @aa.eq_1))) ?_;(repeat(refine Pn.mk ?_;intro N hN))))
  refine aQ (fun n env st=>∃j:Nat,n=(s.ai.length)-j/\j<=(s.ai.length)/\env 5=.int .i64 (j:Int)/\(∀i:Nat,i<j->zr s i)) (s.ai.length) ⟨0,by omega,by omega,sl (tw @a3 (tw @a0 @aa.eq_1)),fun _ h=>absurd h (Nat.not_lt_zero _)⟩ ?_
  rintro n_b env_b st_b ⟨j,rfl,ble,b5,bA0⟩ fE
  have b0:=fE 0 (by kernel_rfl)
  simp only[go_sem, ↓reduceIte,Nat.reduceEqDiff,Nat.reduceAdd,Nat.reduceSub,Nat.reduceLeDiff,reduceCtorEq,a3,a0,aa]at b0
  clear fE
  by_cases hj:(j:Int)<(s.ai.length:Int)
  ·have fK:∀{e:Env},(e 5=.int .i64 (IntKind.i64.wrap ((j:Int)+1)))->(zr s j)->∃m0,m0<(s.ai.length)-j/\∃j:Nat,m0=(s.ai.length)-j/\j<=(s.ai.length)/\e 5=.int .i64 (j:Int)/\(∀i:Nat,i<j->zr s i):=fun x1 x2=>⟨_,by omega,j+1,rfl,by omega,(by rw[x1,aA (by omega)]),(all_succ bA0 x2)⟩
   have mW:j<s.ai.length:=by omega
   have mQ:=yU mW
   have qQ:=DN (nV s j).aD (OY j mW)
   have EB:=EP s (nV s j).aD
   have qf:=MO mW
   have kG:(¬zr s j)->¬ig s:=fun h hp=>h (hp.tok j mW)
   generalize htd:nV s j=tl at *
   cases hb:jm tl.aD
   ·rw[hb]at qQ
    (repeat(first|((repeat(revert hN;revert N;apply Pn.out));refine wk (tw @b5 (tw @b0 (tw @hj (tw @mQ (tw @bq.eq_1 @aa.eq_1))))) ?_;(repeat(refine Pn.mk ?_;intro N hN)))|((try apply Or.inl);refine⟨_,aj.x (qQ) (sd (tw @b5 (tw @b0 (tw @hj (tw @mQ (tw @bq.eq_1 @aa.eq_1)))))),?_⟩;refine hN _ _ ?_;clear hN N)))
    exact aM (b:=false) (.inl rfl) (sd @Nat.zero_add) (fh (kG fun h=>by rw[zr,htd,hb]at h;cases h.1))
   rw[hb]at qQ
   by_cases h4:(tl.bV.length:Int)=4
   ·have yd:decide ((tl.bV.length:Int)=4)=true:=decide_eq_true h4
    rw[aa]at EB
    by_cases hq:K0 s tl.aD=(j:Int)
    ·have hd:decide (K0 s tl.aD=(j:Int))=true:=decide_eq_true hq
     (repeat(first|((repeat(revert hN;revert N;apply Pn.out));refine wk (tw @b5 (tw @b0 (tw @hj (tw @mQ (tw @yd (tw @hd (tw @bq.eq_1 @aa.eq_1))))))) ?_;(repeat(refine Pn.mk ?_;intro N hN)))|((try apply Or.inl);refine⟨_,aj.x (qQ) (sd (tw @b5 (tw @b0 (tw @hj (tw @mQ (tw @yd (tw @hd (tw @bq.eq_1 @aa.eq_1)))))))),?_⟩;refine hN _ _ ?_;clear hN N)|((try apply Or.inl);refine⟨_,aj.x (EB) (sd (tw @b5 (tw @b0 (tw @hj (tw @mQ (tw @yd (tw @hd (tw @bq.eq_1 @aa.eq_1)))))))),?_⟩;refine hN _ _ ?_;clear hN N)))
     refine aQ (fun n env st=>∃i:Nat,n=(4)-i/\i<=(4)/\env 7=.int .i64 (i:Int)/\st.get ⟨156012007,st_b.next+1⟩=some ⟨true,2,[bq tl]⟩/\(∀x:Nat,x<i->iI (tl.bV.getD x 0) 0 s.ay.length=true)) (4) ⟨0,by omega,by omega,sl (tw @b5 (tw @b0 (tw @bq.eq_1 @aa.eq_1))),sl (tw @b5 (tw @b0 (tw @bq.eq_1 @aa.eq_1))),fun _ h=>absurd h (Nat.not_lt_zero _)⟩ ?_
     rintro n_c env_c st_c ⟨i,rfl,cle,c7,cg0,cA0⟩ cfr
     have c0:=cfr 0 (by kernel_rfl);have c5:=cfr 5 (by kernel_rfl);have c6:=cfr 6 (by kernel_rfl)
     simp only[go_sem, ↓reduceIte,Nat.reduceEqDiff,Nat.reduceAdd,Nat.reduceSub,Nat.reduceLeDiff,reduceCtorEq,b5,b0,bq,aa]at c0 c5 c6
     clear cfr
     by_cases hi:(i:Int)<4
     ·have gO:∀{e:Env} {gg:Rows},(e 7=.int .i64 (IntKind.i64.wrap ((i:Int)+1)))->(gg ⟨156012007,st_b.next+1⟩=some ⟨true,2,[bq tl]⟩)->(iI (tl.bV.getD i 0) 0 s.ay.length=true)->∃m0,m0<(4)-i/\∃i:Nat,m0=(4)-i/\i<=(4)/\e 7=.int .i64 (i:Int)/\gg ⟨156012007,st_b.next+1⟩=some ⟨true,2,[bq tl]⟩/\(∀x:Nat,x<i->iI (tl.bV.getD x 0) 0 s.ay.length=true):=fun x1 x2 x3=>⟨_,by omega,i+1,rfl,by omega,(by rw[x1,aA (by omega)]),x2,(all_succ cA0 x3)⟩
      have e9:i<tl.bV.length:=by omega
      have jJ:(tl.bV.map br)[i]? =some (br (tl.bV.getD i 0)):=getD_map br e9
      have rC:tl.bV.getD i 0∈tl.bV:=by rw[List.getD_eq_getElem?_getD,List.getElem?_eq_getElem e9];exact List.getElem_mem e9
      have GY:=kW (tl.bV.getD i 0) 0 s.ay.length
      generalize L0:tl.bV.getD i 0=gv at *
      cases hv:iI gv 0 s.ay.length
      ·rw[hv]at GY
       (repeat(first|((repeat(revert hN;revert N;apply Pn.out));refine wk (tw @c7 (tw @cg0 (tw @c0 (tw @c5 (tw @c6 (tw @hi (tw @jJ (tw @br.eq_1 (tw @bq.eq_1 @aa.eq_1))))))))) ?_;(repeat(refine Pn.mk ?_;intro N hN)))|((try apply Or.inl);refine⟨_,aj.x (GY) (sd (tw @c7 (tw @cg0 (tw @c0 (tw @c5 (tw @c6 (tw @hi (tw @jJ (tw @br.eq_1 (tw @bq.eq_1 @aa.eq_1)))))))))),?_⟩;refine hN _ _ ?_;clear hN N)))
       exact aM (b:=false) (.inl rfl) (sd @Nat.zero_add) (fh (kG fun h=>by
        rw[zr,htd]at h
        have:=h.2.2.2 gv rC
        rw[hv]at this;cases this))
      ·rw[hv]at GY
       (repeat(first|((repeat(revert hN;revert N;apply Pn.out));refine wk (tw @c7 (tw @cg0 (tw @c0 (tw @c5 (tw @c6 (tw @hi (tw @jJ (tw @br.eq_1 (tw @bq.eq_1 @aa.eq_1))))))))) ?_;(repeat(refine Pn.mk ?_;intro N hN)))|((try apply Or.inl);refine⟨_,aj.x (GY) (sd (tw @c7 (tw @cg0 (tw @c0 (tw @c5 (tw @c6 (tw @hi (tw @jJ (tw @br.eq_1 (tw @bq.eq_1 @aa.eq_1)))))))))),?_⟩;refine hN _ _ ?_;clear hN N)))
       refine gO ?_ ?_ (hv)
       all_goals simp only[go_sem, ↓reduceIte,Nat.reduceEqDiff,Nat.reduceAdd,Nat.reduceSub,Nat.reduceLeDiff,reduceCtorEq,c7,cg0,c0,c5,c6]
     ·have hi4:i=4:=by omega
      (try((repeat(revert hN;revert N;apply Pn.out));refine wk (tw @c7 (tw @cg0 (tw @c0 (tw @c5 (tw @c6 (tw @hi (tw @bq.eq_1 @aa.eq_1))))))) ?_;(repeat(refine Pn.mk ?_;intro N hN))))
      exact fK (sd (tw @b5 (tw @b0 (tw @c7 (tw @cg0 (tw @c0 (tw @c5 @c6))))))) (⟨by rw[htd];exact hb,by rw[htd];omega,fun x hx=>(by rw[htd];exact qf.1 hq x hx),fun g hg=>by
       rw[htd]at hg
       obtain⟨x,hx,rfl⟩:=List.getElem_of_mem hg
       have:=cA0 x (by omega)
       rwa [List.getD_eq_getElem?_getD,List.getElem?_eq_getElem hx]at this⟩)
    ·have hd:decide (K0 s tl.aD=(j:Int))=false:=decide_eq_false hq
     (repeat(first|((repeat(revert hN;revert N;apply Pn.out));refine wk (tw @b5 (tw @b0 (tw @hj (tw @mQ (tw @yd (tw @hd (tw @bq.eq_1 @aa.eq_1))))))) ?_;(repeat(refine Pn.mk ?_;intro N hN)))|((try apply Or.inl);refine⟨_,aj.x (qQ) (sd (tw @b5 (tw @b0 (tw @hj (tw @mQ (tw @yd (tw @hd (tw @bq.eq_1 @aa.eq_1)))))))),?_⟩;refine hN _ _ ?_;clear hN N)|((try apply Or.inl);refine⟨_,aj.x (EB) (sd (tw @b5 (tw @b0 (tw @hj (tw @mQ (tw @yd (tw @hd (tw @bq.eq_1 @aa.eq_1)))))))),?_⟩;refine hN _ _ ?_;clear hN N)))
     exact aM (b:=false) (.inl rfl) (sd @Nat.zero_add) (fh (kG fun h=>by
      rw[zr,htd]at h
      exact hq (qf.2 h.2.2.1)))
   ·have yd:decide ((tl.bV.length:Int)=4)=false:=decide_eq_false h4
    (repeat(first|((repeat(revert hN;revert N;apply Pn.out));refine wk (tw @b5 (tw @b0 (tw @hj (tw @mQ (tw @yd (tw @bq.eq_1 @aa.eq_1)))))) ?_;(repeat(refine Pn.mk ?_;intro N hN)))|((try apply Or.inl);refine⟨_,aj.x (qQ) (sd (tw @b5 (tw @b0 (tw @hj (tw @mQ (tw @yd (tw @bq.eq_1 @aa.eq_1))))))),?_⟩;refine hN _ _ ?_;clear hN N)))
    exact aM (b:=false) (.inl rfl) (sd @Nat.zero_add) (fh (kG fun h=>by rw[zr,htd]at h;have:=h.2.1;omega))
  ·(try((repeat(revert hN;revert N;apply Pn.out));refine wk (tw @b5 (tw @b0 (tw @hj @aa.eq_1))) ?_;(repeat(refine Pn.mk ?_;intro N hN))))
   exact aM (b:=true) (.inl rfl) (sd @Nat.zero_add) (AO ⟨by omega,by omega,by omega,fun i hi=>lp i (by omega),fun i hi=>bA0 i (by omega)⟩)
end Go.Proofs.YtgoelphibofcmaaGreat.V

namespace Go.Proofs.YtgoelphibofcmaaGreat.V
def jl (a b:aB):Bool:=decide (a.eH<b.eH)||(decide (a.eH=b.eH)&&decide (a.eS<b.eS))
theorem tk {a b:aB}:jl a b=true↔a.eH<b.eH∨(a.eH=b.eH/\a.eS<b.eS):=by simp[jl]
theorem oi {a b:aB}:jl a b=false↔¬(a.eH<b.eH∨(a.eH=b.eH/\a.eS<b.eS)):=by rw[<-tk,Bool.not_eq_true]
theorem Cr {a b:aB} (h1:a.eS=b.eS) (h2:a.eH=b.eH):a=b:=by cases a;cases b;simp_all
theorem jv {a b c:aB} (h:jl a b=true) (k:jl b c=true):jl a c=true:=by rw[tk]at *;omega
theorem l6 {a:aB}:jl a a=false:=by rw[oi];omega
theorem Ht {a b:aB} (h:jl a b=true):jl b a=false:=by rw[tk]at h;rw[oi];omega
theorem DH {a b:aB} (h:jl a b=false) (gI:a≠b):jl b a=true:=by
 rw[oi]at h;rw[tk]
 by_cases hy:a.eH=b.eH
 ·by_cases hx:a.eS=b.eS
  ·exact absurd (Cr hx hy) gI
  ·omega
 ·omega
def p9 (a b:Int):Int:=if a<b then -1 else if b<a then 1 else 0
def JZ (a b:Int):Int:=if a=0 then b else a
def qa (a b:aB):Int:=JZ (p9 a.eH b.eH) (p9 a.eS b.eS)
theorem s5 (a b:aB):decide (qa a b<0)=jl a b:=by
 unfold qa JZ p9 jl
 by_cases h1:a.eH<b.eH
 ·simp[h1]
 ·by_cases h2:b.eH<a.eH
  ·have:¬a.eH=b.eH:=by omega
   simp[h1,h2,this]
  ·have:a.eH=b.eH:=by omega
   by_cases h3:a.eS<b.eS
   ·simp[h1,h2,this,h3]
   ·by_cases h4:b.eS<a.eS<;>simp[h1,h2,this,h3,h4]
theorem Ef (a b:aB):(qa a b=0)↔a=b:=by
 cases a;cases b
 unfold qa JZ p9
 simp only[aB.mk.injEq]
 split<;>(try split)<;>(try split)<;>(try split)<;>omega
def Hx:ad:=⟨⟨0,0⟩,0⟩
def aE (l:List ad) (i:Nat):ad:=l.getD i Hx
theorem eV {l:List ad} {i:Nat} (h:i<l.length):aE l i=l[i]:=by simp[aE,List.getD_eq_getElem?_getD,h]
theorem gj {l:List ad} {i:Nat} (h:i<l.length):aE l i∈l:=by rw[eV h];exact List.getElem_mem h
def mD (l:List ad):Prop:=∀i j:Nat,i<j->j<l.length->jl (aE l i).aJ (aE l j).aJ=true
def oM (l:List ad) (p:aB):Nat:=l.findIdx fun c=>decide (c.aJ=p)
def dZ (l:List ad) (p:aB):Int:=if oM l p<l.length then(oM l p:Int)else -1
def lH (l:List ad) (p:aB):Nat:=l.findIdx fun c=> !jl c.aJ p
theorem yw {l:List ad} {p:aB} {i:Nat} (hi:i<=l.length) (h1:∀x,x<i->jl (aE l x).aJ p=true) (h2:i<l.length->jl (aE l i).aJ p=false):lH l p=i:=by
 unfold lH
 by_cases h:i<l.length
 ·rw[List.findIdx_eq h]
  refine⟨by have:=h2 h;rw[eV h]at this;simp[this],fun j hj=>?_⟩
  have:=h1 j hj
  rw[eV (by omega)]at this
  simp[this]
 ·have:i=l.length:=by omega
  subst this
  refine List.findIdx_eq_length_of_false fun x hx=>?_
  obtain⟨j,hj,rfl⟩:=List.getElem_of_mem hx
  have:=h1 j hj
  rw[eV hj]at this
  simp[this]
theorem yy {l:List ad} {p:aB} (hR:mD l):dZ l p=if lH l p<l.length/\(aE l (lH l p)).aJ=p then(lH l p:Int)else -1:=by
 by_cases h:∃i,i<l.length/\(aE l i).aJ=p
 ·obtain⟨i,hi,hp⟩:=h
  have h1:lH l p=i:=yw (by omega) (fun x hx=>by rw[<-hp];exact hR x i hx hi) fun _=>by rw[hp];exact l6
  have h2:oM l p=i:=by
   rw[oM,List.findIdx_eq hi]
   refine⟨by rw[eV hi]at hp;simpa using hp,fun j hj=>?_⟩
   have:=hR j i hj hi
   rw[hp,eV (by omega)]at this
   simp only[decide_eq_false_iff_not]
   intro hc
   rw[hc,l6]at this
   cases this
  rw[dZ,h1,h2,if_pos hi,if_pos ⟨hi,hp⟩]
 ·have h2:¬oM l p<l.length:=by
   rw[oM,List.findIdx_lt_length]
   rintro⟨c,hc,he⟩
   obtain⟨j,hj,rfl⟩:=List.getElem_of_mem hc
   exact h ⟨j,hj,by rw[eV hj];simpa using he⟩
  rw[dZ,if_neg h2,if_neg]
  rintro⟨h3,h4⟩
  exact h ⟨_,h3,h4⟩
theorem kU {l:List ad} {p:aB} (h:0<=dZ l p):(dZ l p).toNat<l.length/\(aE l (dZ l p).toNat).aJ=p:=by
 unfold dZ at h ⊢
 split at h
 ·rename_i hc
  rw[if_pos hc]
  refine⟨by omega,?_⟩
  have:=of_decide_eq_true (List.findIdx_getElem (p:=fun c:ad=>decide (c.aJ=p)) (xs:=l) (w:=hc))
  rw[Int.toNat_natCast,eV hc]
  exact this
 ·omega
def fY (l:List ad) (p:aB):Int:=if 0<=dZ l p then(aE l (dZ l p).toNat).aN else -1
end Go.Proofs.YtgoelphibofcmaaGreat.V

namespace Go.Proofs.YtgoelphibofcmaaGreat.V
open Go.RowKit
attribute [local irreducible] dx wpOps gp Call
attribute [local go_sem] aH fC eG fW fV cF upd cj K.av cJ AV.cells AV.cell rowOf rowsOf part ld rowAt bj bY dz eb gT bE cZ er fS eU dp eh cX cW dR dS bH aW cN bG cQ cP ee ei ef cL bP cY ec bF aL cU cw gS bl cG bI aP dd aU dB AV.undef bw bB dV ea dI dG cE ep ev cq ek ej cR cV List.getD_cons_zero List.getD_cons_succ List.getD_nil List.all_cons List.all_nil Bool.and_true Bool.true_and Bool.and_self Bool.not_true Bool.not_false Option.map_some Option.map_none Option.bind_some Option.bind_none List.length_cons List.length_nil List.take_succ_cons List.take_zero List.take_nil List.drop_succ_cons List.drop_zero List.drop_nil List.head?_cons List.map_cons List.map_nil List.getElem?_cons_zero List.getElem?_cons_succ List.cons_append List.nil_append List.append_nil List.length_map List.set_cons_zero List.set_cons_succ Nat.reduceMul eq_self Int.toNat_natCast Int.natCast_nonneg and_self true_and and_true decide_true decide_false Bool.false_eq_true Nat.zero_add Nat.add_zero List.contains_cons List.contains_nil Bool.or_false Bool.false_or beq_self_eq_true Nat.reduceBEq ne_eq not_true_eq_false not_false_eq_true Id.mk.injEq false_and and_false Nat.reduceLT Int.reduceLE Int.reduceLT Int.reduceToNat Int.reduceNeg Int.reduceAdd Nat.le_refl List.length_append beq_true beq_false Bool.not_eq_eq_eq_not or_false false_or dO ah aq aI aZ bt ck aS bf aO aY cK bK
theorem nh (a b:aB):aj Tryz.prog 160 [.agg (ae a),.agg (ae b)] (.bool (jl a b)):=by
 refine aj.body eI rfl fun hl n0=>?_
 clear hl
 by_cases h0:a.eH<b.eH
 ·(try((repeat(revert hN;revert N;apply Pn.out));refine wk (tw @ae.eq_1 @h0) ?_;(repeat(refine Pn.mk ?_;intro N hN))))
  exact aM (b:=true) (.inl rfl) (sd @Nat.zero_add) (by simp[jl,h0])
 ·by_cases h1:a.eH=b.eH
  ·have h2:¬b.eH<b.eH:=by omega
   (try((repeat(revert hN;revert N;apply Pn.out));refine wk (tw @ae.eq_1 (tw @h1 @h2)) ?_;(repeat(refine Pn.mk ?_;intro N hN))))
   exact aM (b:=decide (a.eS<b.eS)) (.inl rfl) (sd @Nat.zero_add) (by simp[jl,h1])
  ·(try((repeat(revert hN;revert N;apply Pn.out));refine wk (tw @ae.eq_1 (tw @h0 @h1)) ?_;(repeat(refine Pn.mk ?_;intro N hN))))
   exact aM (b:=false) (.inl rfl) (sd @Nat.zero_add) (by simp[jl,h0,h1])
end Go.Proofs.YtgoelphibofcmaaGreat.V

namespace Go.Proofs.YtgoelphibofcmaaGreat.V
open Go.RowKit
attribute [local irreducible] dx wpOps gp Call
attribute [local go_sem] aH fC eG fW fV cF upd cj K.av cJ AV.cells AV.cell rowOf rowsOf part ld rowAt bj bY dz eb gT bE cZ er fS eU dp eh cX cW dR dS bH aW cN bG cQ cP ee ei ef cL bP cY ec bF aL cU cw gS bl cG bI aP dd aU dB AV.undef bw bB dV ea dI dG cE ep ev cq ek ej cR cV List.getD_cons_zero List.getD_cons_succ List.getD_nil List.all_cons List.all_nil Bool.and_true Bool.true_and Bool.and_self Bool.not_true Bool.not_false Option.map_some Option.map_none Option.bind_some Option.bind_none List.length_cons List.length_nil List.take_succ_cons List.take_zero List.take_nil List.drop_succ_cons List.drop_zero List.drop_nil List.head?_cons List.map_cons List.map_nil List.getElem?_cons_zero List.getElem?_cons_succ List.cons_append List.nil_append List.append_nil List.length_map List.set_cons_zero List.set_cons_succ Nat.reduceMul eq_self Int.toNat_natCast Int.natCast_nonneg and_self true_and and_true decide_true decide_false Bool.false_eq_true Nat.zero_add Nat.add_zero List.contains_cons List.contains_nil Bool.or_false Bool.false_or beq_self_eq_true Nat.reduceBEq ne_eq not_true_eq_false not_false_eq_true Id.mk.injEq false_and and_false Nat.reduceLT Int.reduceLE Int.reduceLT Int.reduceToNat Int.reduceNeg Int.reduceAdd Nat.le_refl List.length_append beq_true beq_false Bool.not_eq_eq_eq_not or_false false_or dO ah aq aI aZ bt ck aS bf aO aY cK bK
theorem fa {l:List ad} {i:Nat} (h:i<l.length):(l.map ab)[i]? =some (ab (aE l i)):=getD_map ab h
def C2 (l:List ad) (i:Nat):Prop:=AH (aE l i).aJ=true/\iI (aE l i).aN 0 159=true/\(0<i->jl (aE l (i-1)).aJ (aE l i).aJ=true)
structure jg (l:List ad):Prop where
 rf:l.length<=500
 ok:∀i,i<l.length->C2 l i
noncomputable def nD (l:List ad):Bool:=@decide (jg l) (Classical.propDecidable _)
theorem rh {l:List ad}:nD l=true↔jg l:=by simp[nD]
theorem jH {l:List ad} (h:¬jg l):false=nD l:=by simp[nD,h]
theorem wM {l:List ad} (h:jg l):true=nD l:=by simp[nD,h]
theorem jg.Ff {l:List ad} (h:jg l):mD l:=by
 intro i j BZ hj
 induction j with
 |zero=>omega
 |succ j ih=>
  have h1:=(h.ok (j+1) hj).2.2 (by omega)
  rw[Nat.add_sub_cancel]at h1
  by_cases he:i=j
  ·subst he;exact h1
  ·exact jv (ih (by omega) (by omega)) h1
theorem jg.pt {l:List ad} (h:jg l) {i:Nat} (hi:i<l.length):AH (aE l i).aJ=true:=(h.ok i hi).1
theorem rN {p:aB} (h:AH p=true):iB p.eS/\iB p.eH:=by
 unfold AH at h
 simp only[Bool.and_eq_true]at h
 have:=dW h.1;have:=dW h.2
 unfold iB;omega
theorem ER (l:List ad):aj Tryz.prog 159 [.cI [.sl (l.map ab)]] (.bool (nD l)):=by
 refine aj.body eI rfl fun hl n0=>?_
 clear hl
 by_cases h1:(500:Int)<(l.length:Int)
 ·(try((repeat(revert hN;revert N;apply Pn.out));refine wk @h1 ?_;(repeat(refine Pn.mk ?_;intro N hN))))
  exact aM (b:=false) (.inl rfl) (sd @Nat.zero_add) (jH fun h=>by have:=h.rf;omega)
 (try((repeat(revert hN;revert N;apply Pn.out));refine wk @h1 ?_;(repeat(refine Pn.mk ?_;intro N hN))))
 refine aQ (fun n env st=>∃k:Nat,n=(l.length)-k/\k<=(l.length)/\env 3=.int .i64 (k:Int)/\(∀j:Nat,j<k->C2 l j)) (l.length) ⟨0,by omega,by omega,sl @Nat.zero_add,fun _ h=>absurd h (Nat.not_lt_zero _)⟩ ?_
 rintro n_a env_a st_a ⟨k,rfl,ale,a3,lp⟩ dY
 have a0:=dY 0 (by kernel_rfl)
 simp only[go_sem, ↓reduceIte,Nat.reduceEqDiff,Nat.reduceAdd,Nat.reduceSub,Nat.reduceLeDiff,reduceCtorEq]at a0
 clear dY
 by_cases hk:(k:Int)<(l.length:Int)
 ·have cH:∀{e:Env},(e 3=.int .i64 (IntKind.i64.wrap ((k:Int)+1)))->(C2 l k)->∃m0,m0<(l.length)-k/\∃k:Nat,m0=(l.length)-k/\k<=(l.length)/\e 3=.int .i64 (k:Int)/\(∀j:Nat,j<k->C2 l j):=fun x1 x2=>⟨_,by omega,k+1,rfl,by omega,(by rw[x1,aA (by omega)]),(all_succ lp x2)⟩
  have fG:k<l.length:=by omega
  have eJ:=fa fG
  have kG:(¬C2 l k)->¬jg l:=fun h hp=>h (hp.ok k fG)
  have hp:=ur (aE l k).aJ
  have ht:=kW (aE l k).aN 0 159
  cases b1:AH (aE l k).aJ
  ·rw[b1]at hp
   (repeat(first|((repeat(revert hN;revert N;apply Pn.out));refine wk (tw @a3 (tw @a0 (tw @hk (tw @eJ (tw @ab.eq_1 @ae.eq_1))))) ?_;(repeat(refine Pn.mk ?_;intro N hN)))|((try apply Or.inl);refine⟨_,aj.x (hp) (sd (tw @a3 (tw @a0 (tw @hk (tw @eJ (tw @ab.eq_1 @ae.eq_1)))))),?_⟩;refine hN _ _ ?_;clear hN N)))
   exact aM (b:=false) (.inl rfl) (sd @Nat.zero_add) (jH (kG fun h=>by rw[C2,b1]at h;cases h.1))
  rw[b1]at hp
  cases b2:iI (aE l k).aN 0 159
  ·rw[b2]at ht
   (repeat(first|((repeat(revert hN;revert N;apply Pn.out));refine wk (tw @a3 (tw @a0 (tw @hk (tw @eJ (tw @ab.eq_1 @ae.eq_1))))) ?_;(repeat(refine Pn.mk ?_;intro N hN)))|((try apply Or.inl);refine⟨_,aj.x (hp) (sd (tw @a3 (tw @a0 (tw @hk (tw @eJ (tw @ab.eq_1 @ae.eq_1)))))),?_⟩;refine hN _ _ ?_;clear hN N)|((try apply Or.inl);refine⟨_,aj.x (ht) (sd (tw @a3 (tw @a0 (tw @hk (tw @eJ (tw @ab.eq_1 @ae.eq_1)))))),?_⟩;refine hN _ _ ?_;clear hN N)))
   exact aM (b:=false) (.inl rfl) (sd @Nat.zero_add) (jH (kG fun h=>by rw[C2,b2]at h;cases h.2.1))
  rw[b2]at ht
  by_cases h0:(0:Int)<(k:Int)
  ·have uf:=fa (l:=l) (i:=k-1) (by omega)
   have hw:IntKind.i64.wrap ((k:Int)-1)=((k-1:Nat):Int):=by rw[bW (by have:=fG;omega)];omega
   have hq:=nh (aE l (k-1)).aJ (aE l k).aJ
   cases b3:jl (aE l (k-1)).aJ (aE l k).aJ
   ·rw[b3]at hq
    (repeat(first|((repeat(revert hN;revert N;apply Pn.out));refine wk (tw @a3 (tw @a0 (tw @hk (tw @eJ (tw @uf (tw @h0 (tw @hw (tw @ab.eq_1 @ae.eq_1)))))))) ?_;(repeat(refine Pn.mk ?_;intro N hN)))|((try apply Or.inl);refine⟨_,aj.x (hp) (sd (tw @a3 (tw @a0 (tw @hk (tw @eJ (tw @uf (tw @h0 (tw @hw (tw @ab.eq_1 @ae.eq_1))))))))),?_⟩;refine hN _ _ ?_;clear hN N)|((try apply Or.inl);refine⟨_,aj.x (ht) (sd (tw @a3 (tw @a0 (tw @hk (tw @eJ (tw @uf (tw @h0 (tw @hw (tw @ab.eq_1 @ae.eq_1))))))))),?_⟩;refine hN _ _ ?_;clear hN N)|((try apply Or.inl);refine⟨_,aj.x (hq) (sd (tw @a3 (tw @a0 (tw @hk (tw @eJ (tw @uf (tw @h0 (tw @hw (tw @ab.eq_1 @ae.eq_1))))))))),?_⟩;refine hN _ _ ?_;clear hN N)))
    exact aM (b:=false) (.inl rfl) (sd @Nat.zero_add) (jH (kG fun h=>by have:=h.2.2 (by omega);rw[b3]at this;cases this))
   ·rw[b3]at hq
    (repeat(first|((repeat(revert hN;revert N;apply Pn.out));refine wk (tw @a3 (tw @a0 (tw @hk (tw @eJ (tw @uf (tw @h0 (tw @hw (tw @ab.eq_1 @ae.eq_1)))))))) ?_;(repeat(refine Pn.mk ?_;intro N hN)))|((try apply Or.inl);refine⟨_,aj.x (hp) (sd (tw @a3 (tw @a0 (tw @hk (tw @eJ (tw @uf (tw @h0 (tw @hw (tw @ab.eq_1 @ae.eq_1))))))))),?_⟩;refine hN _ _ ?_;clear hN N)|((try apply Or.inl);refine⟨_,aj.x (ht) (sd (tw @a3 (tw @a0 (tw @hk (tw @eJ (tw @uf (tw @h0 (tw @hw (tw @ab.eq_1 @ae.eq_1))))))))),?_⟩;refine hN _ _ ?_;clear hN N)|((try apply Or.inl);refine⟨_,aj.x (hq) (sd (tw @a3 (tw @a0 (tw @hk (tw @eJ (tw @uf (tw @h0 (tw @hw (tw @ab.eq_1 @ae.eq_1))))))))),?_⟩;refine hN _ _ ?_;clear hN N)))
    exact cH (sd (tw @a3 @a0)) (⟨b1,b2,fun _=>b3⟩)
  ·have vw:k=0:=by omega
   (repeat(first|((repeat(revert hN;revert N;apply Pn.out));refine wk (tw @a3 (tw @a0 (tw @hk (tw @eJ (tw @h0 (tw @ab.eq_1 @ae.eq_1)))))) ?_;(repeat(refine Pn.mk ?_;intro N hN)))|((try apply Or.inl);refine⟨_,aj.x (hp) (sd (tw @a3 (tw @a0 (tw @hk (tw @eJ (tw @h0 (tw @ab.eq_1 @ae.eq_1))))))),?_⟩;refine hN _ _ ?_;clear hN N)|((try apply Or.inl);refine⟨_,aj.x (ht) (sd (tw @a3 (tw @a0 (tw @hk (tw @eJ (tw @h0 (tw @ab.eq_1 @ae.eq_1))))))),?_⟩;refine hN _ _ ?_;clear hN N)))
   exact cH (sd (tw @a3 @a0)) (⟨b1,b2,fun h=>by omega⟩)
 ·(try((repeat(revert hN;revert N;apply Pn.out));refine wk (tw @a3 (tw @a0 @hk)) ?_;(repeat(refine Pn.mk ?_;intro N hN))))
  exact aM (b:=true) (.inl rfl) (sd @Nat.zero_add) (wM ⟨by omega,fun i hi=>lp i (by omega)⟩)
theorem wJ (a b:Int):aj Tryz.prog 178 [.int .i64 a,.int .i64 b] (.int .i64 (p9 a b)):=by
 have nan:∀x:Int,aj Tryz.prog 208 [.int .i64 x] (.bool false):=fun x=>by
  refine aj.body eI rfl fun hl n0=>?_
  clear hl
  have e:decide (x=x)=true:=decide_eq_true rfl
  (try((repeat(revert hN;revert N;apply Pn.out));refine wk @e ?_;(repeat(refine Pn.mk ?_;intro N hN))))
  exact aM (b:=false) (.inl rfl) (sd @Nat.zero_add) rfl
 refine aj.body eI rfl fun hl n0=>?_
 clear hl
 have ha:=nan a
 have hb:=nan b
 by_cases h1:a<b
 ·(repeat(first|((repeat(revert hN;revert N;apply Pn.out));refine wk @h1 ?_;(repeat(refine Pn.mk ?_;intro N hN)))|((try apply Or.inl);refine⟨_,aj.x (ha) (sd @h1),?_⟩;refine hN _ _ ?_;clear hN N)|((try apply Or.inl);refine⟨_,aj.x (hb) (sd @h1),?_⟩;refine hN _ _ ?_;clear hN N)))
  exact bZ (b:=-1) (.inl rfl) (sd @Nat.zero_add) (by rw[p9,if_pos h1])
 by_cases h2:b<a
 ·(repeat(first|((repeat(revert hN;revert N;apply Pn.out));refine wk (tw @h1 @h2) ?_;(repeat(refine Pn.mk ?_;intro N hN)))|((try apply Or.inl);refine⟨_,aj.x (ha) (sd (tw @h1 @h2)),?_⟩;refine hN _ _ ?_;clear hN N)|((try apply Or.inl);refine⟨_,aj.x (hb) (sd (tw @h1 @h2)),?_⟩;refine hN _ _ ?_;clear hN N)))
  exact bZ (b:=1) (.inl rfl) (sd @Nat.zero_add) (by rw[p9,if_neg h1,if_pos h2])
 ·(repeat(first|((repeat(revert hN;revert N;apply Pn.out));refine wk (tw @h1 @h2) ?_;(repeat(refine Pn.mk ?_;intro N hN)))|((try apply Or.inl);refine⟨_,aj.x (ha) (sd (tw @h1 @h2)),?_⟩;refine hN _ _ ?_;clear hN N)|((try apply Or.inl);refine⟨_,aj.x (hb) (sd (tw @h1 @h2)),?_⟩;refine hN _ _ ?_;clear hN N)))
  exact bZ (b:=0) (.inl rfl) (sd @Nat.zero_add) (by rw[p9,if_neg h1,if_neg h2])
def FQ:List Int->Int
 |[]=>0
 |a::r=>if a=0 then FQ r else a
theorem HC:∀{l:List Int} {k:Nat} (hk:k<l.length),l[k]≠0->(∀j (h:j<l.length),j<k->l[j]=0)->FQ l=l[k]
 |a::r,0,_,h,_=>by
  have h':a≠0:=h
  rw[FQ,if_neg h'];rfl
 |a::r,k+1,hk,h,h0=>by
  have h':a=0:=h0 0 (by simp) (by omega)
  rw[FQ,if_pos h',HC (k:=k) (by simpa using hk) h fun j hj wR=>h0 (j+1) (by simpa using hj) (by omega)];rfl
theorem AE:∀{l:List Int},(∀j (h:j<l.length),l[j]=0)->FQ l=0
 |[],_=>rfl
 |a::r,h=>by
  have h':a=0:=h 0 (by simp)
  rw[FQ,if_pos h',AE fun j hj=>h (j+1) (by simpa using hj)]
theorem J0 (a b:Int):FQ [a,b]=JZ a b:=by
 unfold JZ
 by_cases h:a=0
 ·rw[FQ,if_pos h,if_pos h,FQ,FQ];split<;>simp_all
 ·rw[FQ,if_neg h,if_neg h]
theorem I7 (l:List Int):aj Tryz.prog 177 [.sl (l.map br)] (.int .i64 (FQ l)):=by
 refine aj.body eI rfl fun hl n0=>?_
 have hlen:l.length<=9223372036854775807:=by simpa using(hl (.sl (l.map br)) (by simp)).len
 clear hl
 (try((repeat(revert hN;revert N;apply Pn.out));refine wk @Nat.zero_add ?_;(repeat(refine Pn.mk ?_;intro N hN))))
 refine aQ (fun n env st=>∃k:Nat,n=(l.length)-k/\k<=(l.length)/\env 8=.int .i64 (k:Int)/\(∀j:Nat,j<k->∀h:j<l.length,l[j]=0)) (l.length) ⟨0,by omega,by omega,sl @Nat.zero_add,fun _ h=>absurd h (Nat.not_lt_zero _)⟩ ?_
 rintro n_a env_a st_a ⟨k,rfl,ale,a8,lp⟩ dY
 have a3:=dY 3 (by kernel_rfl);have a6:=dY 6 (by kernel_rfl);have a7:=dY 7 (by kernel_rfl)
 simp only[go_sem, ↓reduceIte,Nat.reduceEqDiff,Nat.reduceAdd,Nat.reduceSub,Nat.reduceLeDiff,reduceCtorEq]at a3 a6 a7
 clear dY
 by_cases hk:(k:Int)<(l.length:Int)
 ·have cH:∀{e:Env},(e 8=.int .i64 (IntKind.i64.wrap ((k:Int)+1)))->(∀h:k<l.length,l[k]=0)->∃m0,m0<(l.length)-k/\∃k:Nat,m0=(l.length)-k/\k<=(l.length)/\e 8=.int .i64 (k:Int)/\(∀j:Nat,j<k->∀h:j<l.length,l[j]=0):=fun x1 x2=>⟨_,by omega,k+1,rfl,by omega,(by rw[x1,aA (by omega)]),(all_succ lp x2)⟩
  have fG:k<l.length:=by omega
  have eJ:(l.map br)[k]? =some (br l[k]):=by simp[fG]
  generalize hv:l[k]=v at eJ
  by_cases h0:v=0
  ·have e:decide (v=0)=true:=decide_eq_true h0
   (try((repeat(revert hN;revert N;apply Pn.out));refine wk (tw @a8 (tw @a3 (tw @a6 (tw @a7 (tw @e (tw @hk (tw @eJ @br.eq_1))))))) ?_;(repeat(refine Pn.mk ?_;intro N hN))))
   exact cH (sd (tw @a8 (tw @a3 (tw @a6 @a7)))) (fun _=>hv.trans h0)
  ·have e:decide (v=0)=false:=decide_eq_false h0
   (try((repeat(revert hN;revert N;apply Pn.out));refine wk (tw @a8 (tw @a3 (tw @a6 (tw @a7 (tw @e (tw @hk (tw @eJ @br.eq_1))))))) ?_;(repeat(refine Pn.mk ?_;intro N hN))))
   exact bZ (b:=v) (.inl rfl) (sd @Nat.zero_add) (by rw[HC fG (by rw[hv];exact h0) fun j h hj=>lp j hj h,hv])
 ·(try((repeat(revert hN;revert N;apply Pn.out));refine wk (tw @a8 (tw @a3 (tw @a6 (tw @a7 @hk)))) ?_;(repeat(refine Pn.mk ?_;intro N hN))))
  exact bZ (b:=0) (.inl rfl) (sd @Nat.zero_add) (by rw[AE fun j h=>lp j (by omega) h])
section
attribute [local go_sem] List.drop_zero List.take_succ_cons List.take_zero List.length_cons List.length_nil gW x8 nF
theorem mu (a b:aB):aj Tryz.prog 130 [.agg (ae a),.agg (ae b)] (.int .i64 (qa a b)):=by
 refine aj.body eI rfl fun hl n0=>?_
 clear hl
 have h1:=wJ a.eH b.eH
 have h2:=wJ a.eS b.eS
 have h3:=I7 [p9 a.eH b.eH,p9 a.eS b.eS]
 rw[J0,List.map_cons,List.map_cons,List.map_nil,br,br]at h3
 (repeat(first|((repeat(revert hN;revert N;apply Pn.out));refine wk @ae.eq_1 ?_;(repeat(refine Pn.mk ?_;intro N hN)))|((try apply Or.inl);refine⟨_,aj.x (h1) (sd @ae.eq_1),?_⟩;refine hN _ _ ?_;clear hN N)|((try apply Or.inl);refine⟨_,aj.x (h2) (sd @ae.eq_1),?_⟩;refine hN _ _ ?_;clear hN N)|((try apply Or.inl);refine⟨_,aj.x (h3) (sd @ae.eq_1),?_⟩;refine hN _ _ ?_;clear hN N)))
 exact bZ (b:=qa a b) (.inl rfl) (by simp only[go_sem, ↓reduceIte,Nat.reduceEqDiff,Nat.reduceAdd,Nat.reduceSub,Nat.reduceLeDiff,reduceCtorEq,qa]) rfl
end
theorem JE (a b:aB):aj Tryz.prog 201 [.agg (ae a),.agg (ae b)] (.bool (jl a b)):=by
 refine aj.body eI rfl fun hl n0=>?_
 clear hl
 have h1:=mu a b
 rw[ae,ae]at h1
 (repeat(first|((repeat(revert hN;revert N;apply Pn.out));refine wk @ae.eq_1 ?_;(repeat(refine Pn.mk ?_;intro N hN)))|((try apply Or.inl);refine⟨_,aj.x (h1) (sd @ae.eq_1),?_⟩;refine hN _ _ ?_;clear hN N)))
 exact aM (b:=decide (qa a b<0)) (.inl rfl) (sd @Nat.zero_add) (s5 a b)
theorem jQ (t:ad) (p:aB):aj Tryz.prog 143 [.agg (ab t),.agg (ae p)] (.int .i64 (qa t.aJ p)):=by
 refine aj.body eI rfl fun hl n0=>?_
 clear hl
 have h1:=mu t.aJ p
 rw[ae,ae]at h1
 (repeat(first|((repeat(revert hN;revert N;apply Pn.out));refine wk (tw @ab.eq_1 @ae.eq_1) ?_;(repeat(refine Pn.mk ?_;intro N hN)))|((try apply Or.inl);refine⟨_,aj.x (h1) (sd (tw @ab.eq_1 @ae.eq_1)),?_⟩;refine hN _ _ ?_;clear hN N)))
 exact bZ (b:=qa t.aJ p) (.inl rfl) (sd @Nat.zero_add) rfl
theorem rl (l:List ad):aj Tryz.prog 165 [.agg [.sl (l.map ab)]] (.bool (nD l)):=by
 refine aj.body eI rfl fun hl n0=>?_
 have hlen:l.length<=9223372036854775807:=by
  have h1:=(hl (.agg [.sl (l.map ab)]) (by simp)).Lj (a:=.sl (l.map ab)) (by simp)
  simpa using h1.len
 clear hl
 (try((repeat(revert hN;revert N;apply Pn.out));refine wk @Nat.zero_add ?_;(repeat(refine Pn.mk ?_;intro N hN))))
 refine aQ (fun n env st=>∃k:Nat,n=(l.length)-k/\k<=(l.length)/\env 8=.int .i64 (k:Int)/\st.get ⟨165000000,n0⟩=some ⟨true,1,[[.sl (l.map ab)]]⟩/\(∀j:Nat,j<k->C2 l j)) (l.length) ⟨0,by omega,by omega,sl @Nat.zero_add,sl @Nat.zero_add,fun _ h=>absurd h (Nat.not_lt_zero _)⟩ ?_
 rintro n_a env_a st_a ⟨k,rfl,ale,a8,ag0,lp⟩ dY
 have a1:=dY 1 (by kernel_rfl);have a6:=dY 6 (by kernel_rfl);have a7:=dY 7 (by kernel_rfl)
 simp only[go_sem, ↓reduceIte,Nat.reduceEqDiff,Nat.reduceAdd,Nat.reduceSub,Nat.reduceLeDiff,reduceCtorEq]at a1 a6 a7
 clear dY
 by_cases hk:(k:Int)<(l.length:Int)
 ·have cH:∀{e:Env} {gg:Rows},(e 8=.int .i64 (IntKind.i64.wrap ((k:Int)+1)))->(gg ⟨165000000,n0⟩=some ⟨true,1,[[.sl (l.map ab)]]⟩)->(C2 l k)->∃m0,m0<(l.length)-k/\∃k:Nat,m0=(l.length)-k/\k<=(l.length)/\e 8=.int .i64 (k:Int)/\gg ⟨165000000,n0⟩=some ⟨true,1,[[.sl (l.map ab)]]⟩/\(∀j:Nat,j<k->C2 l j):=fun x1 x2 x3=>⟨_,by omega,k+1,rfl,by omega,(by rw[x1,aA (by omega)]),x2,(all_succ lp x3)⟩
  have fG:k<l.length:=by omega
  have eJ:=fa fG
  have kG:(¬C2 l k)->¬jg l:=fun h hp=>h (hp.ok k fG)
  have hp:=pT (aE l k).aJ
  have ht:=w9 (aE l k).aN 160 (by omega) (by omega)
  rw[show(160:Int)-1=159 from rfl]at ht
  cases b1:AH (aE l k).aJ
  ·rw[b1]at hp
   (repeat(first|((repeat(revert hN;revert N;apply Pn.out));refine wk (tw @a8 (tw @ag0 (tw @a1 (tw @a6 (tw @a7 (tw @hk (tw @eJ (tw @ab.eq_1 @ae.eq_1)))))))) ?_;(repeat(refine Pn.mk ?_;intro N hN)))|((try apply Or.inl);refine⟨_,aj.x (hp) (sd (tw @a8 (tw @ag0 (tw @a1 (tw @a6 (tw @a7 (tw @hk (tw @eJ (tw @ab.eq_1 @ae.eq_1))))))))),?_⟩;refine hN _ _ ?_;clear hN N)))
   exact aM (b:=false) (.inl rfl) (sd @Nat.zero_add) (jH (kG fun h=>by rw[C2,b1]at h;cases h.1))
  rw[b1]at hp
  cases b2:iI (aE l k).aN 0 159
  ·rw[b2]at ht
   (repeat(first|((repeat(revert hN;revert N;apply Pn.out));refine wk (tw @a8 (tw @ag0 (tw @a1 (tw @a6 (tw @a7 (tw @hk (tw @eJ (tw @ab.eq_1 @ae.eq_1)))))))) ?_;(repeat(refine Pn.mk ?_;intro N hN)))|((try apply Or.inl);refine⟨_,aj.x (hp) (sd (tw @a8 (tw @ag0 (tw @a1 (tw @a6 (tw @a7 (tw @hk (tw @eJ (tw @ab.eq_1 @ae.eq_1))))))))),?_⟩;refine hN _ _ ?_;clear hN N)|((try apply Or.inl);refine⟨_,aj.x (ht) (sd (tw @a8 (tw @ag0 (tw @a1 (tw @a6 (tw @a7 (tw @hk (tw @eJ (tw @ab.eq_1 @ae.eq_1))))))))),?_⟩;refine hN _ _ ?_;clear hN N)))
   exact aM (b:=false) (.inl rfl) (sd @Nat.zero_add) (jH (kG fun h=>by rw[C2,b2]at h;cases h.2.1))
  rw[b2]at ht
  by_cases h0:(0:Int)<(k:Int)
  ·have uf:=fa (l:=l) (i:=k-1) (by omega)
   have hw:IntKind.i64.wrap ((k:Int)-1)=((k-1:Nat):Int):=by rw[bW (by omega)];omega
   have hq:=JE (aE l (k-1)).aJ (aE l k).aJ
   cases b3:jl (aE l (k-1)).aJ (aE l k).aJ
   ·rw[b3]at hq
    (repeat(first|((repeat(revert hN;revert N;apply Pn.out));refine wk (tw @a8 (tw @ag0 (tw @a1 (tw @a6 (tw @a7 (tw @hk (tw @eJ (tw @uf (tw @h0 (tw @hw (tw @ab.eq_1 @ae.eq_1))))))))))) ?_;(repeat(refine Pn.mk ?_;intro N hN)))|((try apply Or.inl);refine⟨_,aj.x (hp) (sd (tw @a8 (tw @ag0 (tw @a1 (tw @a6 (tw @a7 (tw @hk (tw @eJ (tw @uf (tw @h0 (tw @hw (tw @ab.eq_1 @ae.eq_1)))))))))))),?_⟩;refine hN _ _ ?_;clear hN N)|((try apply Or.inl);refine⟨_,aj.x (ht) (sd (tw @a8 (tw @ag0 (tw @a1 (tw @a6 (tw @a7 (tw @hk (tw @eJ (tw @uf (tw @h0 (tw @hw (tw @ab.eq_1 @ae.eq_1)))))))))))),?_⟩;refine hN _ _ ?_;clear hN N)|((try apply Or.inl);refine⟨_,aj.x (hq) (sd (tw @a8 (tw @ag0 (tw @a1 (tw @a6 (tw @a7 (tw @hk (tw @eJ (tw @uf (tw @h0 (tw @hw (tw @ab.eq_1 @ae.eq_1)))))))))))),?_⟩;refine hN _ _ ?_;clear hN N)))
    exact aM (b:=false) (.inl rfl) (sd @Nat.zero_add) (jH (kG fun h=>by have:=h.2.2 (by omega);rw[b3]at this;cases this))
   ·rw[b3]at hq
    (repeat(first|((repeat(revert hN;revert N;apply Pn.out));refine wk (tw @a8 (tw @ag0 (tw @a1 (tw @a6 (tw @a7 (tw @hk (tw @eJ (tw @uf (tw @h0 (tw @hw (tw @ab.eq_1 @ae.eq_1))))))))))) ?_;(repeat(refine Pn.mk ?_;intro N hN)))|((try apply Or.inl);refine⟨_,aj.x (hp) (sd (tw @a8 (tw @ag0 (tw @a1 (tw @a6 (tw @a7 (tw @hk (tw @eJ (tw @uf (tw @h0 (tw @hw (tw @ab.eq_1 @ae.eq_1)))))))))))),?_⟩;refine hN _ _ ?_;clear hN N)|((try apply Or.inl);refine⟨_,aj.x (ht) (sd (tw @a8 (tw @ag0 (tw @a1 (tw @a6 (tw @a7 (tw @hk (tw @eJ (tw @uf (tw @h0 (tw @hw (tw @ab.eq_1 @ae.eq_1)))))))))))),?_⟩;refine hN _ _ ?_;clear hN N)|((try apply Or.inl);refine⟨_,aj.x (hq) (sd (tw @a8 (tw @ag0 (tw @a1 (tw @a6 (tw @a7 (tw @hk (tw @eJ (tw @uf (tw @h0 (tw @hw (tw @ab.eq_1 @ae.eq_1)))))))))))),?_⟩;refine hN _ _ ?_;clear hN N)))
    refine cH ?_ ?_ (⟨b1,b2,fun _=>b3⟩)
    all_goals simp only[go_sem, ↓reduceIte,Nat.reduceEqDiff,Nat.reduceAdd,Nat.reduceSub,Nat.reduceLeDiff,reduceCtorEq,a8,ag0,a1,a6,a7]
  ·have vw:k=0:=by omega
   (repeat(first|((repeat(revert hN;revert N;apply Pn.out));refine wk (tw @a8 (tw @ag0 (tw @a1 (tw @a6 (tw @a7 (tw @hk (tw @eJ (tw @h0 (tw @ab.eq_1 @ae.eq_1))))))))) ?_;(repeat(refine Pn.mk ?_;intro N hN)))|((try apply Or.inl);refine⟨_,aj.x (hp) (sd (tw @a8 (tw @ag0 (tw @a1 (tw @a6 (tw @a7 (tw @hk (tw @eJ (tw @h0 (tw @ab.eq_1 @ae.eq_1)))))))))),?_⟩;refine hN _ _ ?_;clear hN N)|((try apply Or.inl);refine⟨_,aj.x (ht) (sd (tw @a8 (tw @ag0 (tw @a1 (tw @a6 (tw @a7 (tw @hk (tw @eJ (tw @h0 (tw @ab.eq_1 @ae.eq_1)))))))))),?_⟩;refine hN _ _ ?_;clear hN N)))
   refine cH ?_ ?_ (⟨b1,b2,fun h=>by omega⟩)
   all_goals simp only[go_sem, ↓reduceIte,Nat.reduceEqDiff,Nat.reduceAdd,Nat.reduceSub,Nat.reduceLeDiff,reduceCtorEq,a8,ag0,a1,a6,a7]
 ·(try((repeat(revert hN;revert N;apply Pn.out));refine wk (tw @a8 (tw @ag0 (tw @a1 (tw @a6 (tw @a7 @hk))))) ?_;(repeat(refine Pn.mk ?_;intro N hN))))
  refine aM (b:=decide ((l.length:Int)<=500)) (.inl rfl) (sd @Nat.zero_add) ?_
  by_cases h5:(l.length:Int)<=500
  ·rw[decide_eq_true h5];exact wM ⟨by omega,fun i hi=>lp i (by omega)⟩
  ·rw[decide_eq_false h5];exact jH fun h=>by have:=h.rf;omega
end Go.Proofs.YtgoelphibofcmaaGreat.V

namespace Go.Proofs.YtgoelphibofcmaaGreat.V
open Go.RowKit
attribute [local irreducible] dx wpOps gp Call
attribute [local go_sem] aH fC eG fW fV cF upd cj K.av cJ AV.cells AV.cell rowOf rowsOf part ld rowAt bj bY dz eb gT bE cZ er fS eU dp eh cX cW dR dS bH aW cN bG cQ cP ee ei ef cL bP cY ec bF aL cU cw gS bl cG bI aP dd aU dB AV.undef bw bB dV ea dI dG cE ep ev cq ek ej cR cV List.getD_cons_zero List.getD_cons_succ List.getD_nil List.all_cons List.all_nil Bool.and_true Bool.true_and Bool.and_self Bool.not_true Bool.not_false Option.map_some Option.map_none Option.bind_some Option.bind_none List.length_cons List.length_nil List.take_succ_cons List.take_zero List.take_nil List.drop_succ_cons List.drop_zero List.drop_nil List.head?_cons List.map_cons List.map_nil List.getElem?_cons_zero List.getElem?_cons_succ List.cons_append List.nil_append List.append_nil List.length_map List.set_cons_zero List.set_cons_succ Nat.reduceMul eq_self Int.toNat_natCast Int.natCast_nonneg and_self true_and and_true decide_true decide_false Bool.false_eq_true Nat.zero_add Nat.add_zero List.contains_cons List.contains_nil Bool.or_false Bool.false_or beq_self_eq_true Nat.reduceBEq ne_eq not_true_eq_false not_false_eq_true Id.mk.injEq false_and and_false Nat.reduceLT Int.reduceLE Int.reduceLT Int.reduceToNat Int.reduceNeg Int.reduceAdd Nat.le_refl List.length_append beq_true beq_false Bool.not_eq_eq_eq_not or_false false_or dO ah aq aI aZ bt ck aS bf aO aY cK bK
theorem wG (cells:List ad) (p:aB) (hR:mD cells) (Ew:cells.length<=1048576):
  aj Tryz.prog 142 [.sl (cells.map ab),.agg (ae p),.fn 143 []] (.gn [.int .i64 (lH cells p),.bool (decide (lH cells p<cells.length)&&decide ((aE cells (lH cells p)).aJ=p))]):=by
 refine aj.body eI rfl fun hl n0=>?_
 clear hl
 (try((repeat(revert hN;revert N;apply Pn.out));refine wk @ae.eq_1 ?_;(repeat(refine Pn.mk ?_;intro N hN))))
 refine aQ (fun n env st=>∃i j:Nat,n=j-i/\i<=j/\j<=cells.length/\(∀x,x<i->jl (aE cells x).aJ p=true)/\(∀x,j<=x->x<cells.length->jl (aE cells x).aJ p=false)/\env 9=.int .i64 i/\env 10=.int .i64 j/\st.get ⟨142000000,n0⟩=some ⟨true,2,[ae p]⟩) cells.length ⟨0,cells.length,by omega,by omega,by omega,fun x h=>by omega,fun x h1 h2=>by omega,by(simp only[go_sem, ↓reduceIte,Nat.reduceEqDiff,Nat.reduceAdd,Nat.reduceSub,Nat.reduceLeDiff,reduceCtorEq])<;>rfl,sd @Nat.zero_add,sd @ae.eq_1⟩ ?_
 rintro n env st ⟨i,j,rfl,BZ,hj,jS,Bc,h9,h10,hg⟩ fr
 have h0:=fr 0 (by kernel_rfl)
 have h2:=fr 2 (by kernel_rfl)
 have h4:=fr 4 (by kernel_rfl)
 have h8:=fr 8 (by kernel_rfl)
 simp only[go_sem, ↓reduceIte,Nat.reduceEqDiff,Nat.reduceAdd,Nat.reduceSub,Nat.reduceLeDiff,reduceCtorEq]at h0 h2 h4 h8
 clear fr
 by_cases dE:(i:Int)<(j:Int)
 ·have e1:IntKind.i64.wrap ((i:Int)+j)=((i+j:Nat):Int):=by rw[bW (by omega)];rfl
  have hm:(i+j) / 2<cells.length:=by omega
  have gL:(cells.map ab)[(i+j) / 2]? =some (ab (aE cells ((i+j) / 2))):=fa (l:=cells) hm
  have e2:IntKind.i64.wrap ((IntKind.u64.wrap ((i+j:Nat):Int)).fdiv (2 ^ min 1 IntKind.u64.bits))=(((i+j) / 2:Nat):Int):=by
   have h:IntKind.u64.wrap ((i+j:Nat):Int)=((i+j:Nat):Int):=by rw[IntKind.wrap_u64];omega
   rw[h,show min 1 IntKind.u64.bits=1 from rfl,show((2:Int) ^ 1)=2 from rfl,Int.fdiv_eq_ediv_of_nonneg _ (by omega)]
   rw[bW (by omega)];omega
  have N1:IntKind.i64.wrap ((IntKind.u64.wrap ((i+j:Nat):Int)).fdiv (2 ^ min 1 64))=(((i+j) / 2:Nat):Int):=e2
  have e3:=aA (k:=(i+j) / 2) (by omega)
  by_cases hc:qa (aE cells ((i+j) / 2)).aJ p<0
  ·have hl:jl (aE cells ((i+j) / 2)).aJ p=true:=by rw[<-s5];simpa using hc
   (repeat(first|((repeat(revert hN;revert N;apply Pn.out));refine wk (tw @h0 (tw @h2 (tw @h4 (tw @h8 (tw @h9 (tw @h10 (tw @hg (tw @dE (tw @e1 (tw @e2 (tw @N1 (tw @gL (tw @hc (tw @ab.eq_1 @ae.eq_1)))))))))))))) ?_;(repeat(refine Pn.mk ?_;intro N hN)))|((try apply Or.inl);refine⟨_,aj.x (jQ (aE cells ((i+j) / 2)) p) (sd (tw @h0 (tw @h2 (tw @h4 (tw @h8 (tw @h9 (tw @h10 (tw @hg (tw @dE (tw @e1 (tw @e2 (tw @N1 (tw @gL (tw @hc (tw @ab.eq_1 @ae.eq_1))))))))))))))),?_⟩;refine hN _ _ ?_;clear hN N)))
   refine⟨_,?_,(i+j) / 2+1,j,rfl,by omega,hj,fun x hx=>?_,Bc,sd @e3,sd @h10,sd (tw @hg @ae.eq_1)⟩
   ·omega
   ·by_cases Mo:x=(i+j) / 2
    ·subst Mo;exact hl
    ·exact jv (hR x _ (by omega) hm) hl
  ·have hl:jl (aE cells ((i+j) / 2)).aJ p=false:=by rw[<-s5];simpa using hc
   (repeat(first|((repeat(revert hN;revert N;apply Pn.out));refine wk (tw @h0 (tw @h2 (tw @h4 (tw @h8 (tw @h9 (tw @h10 (tw @hg (tw @dE (tw @e1 (tw @e2 (tw @N1 (tw @gL (tw @hc (tw @ab.eq_1 @ae.eq_1)))))))))))))) ?_;(repeat(refine Pn.mk ?_;intro N hN)))|((try apply Or.inl);refine⟨_,aj.x (jQ (aE cells ((i+j) / 2)) p) (sd (tw @h0 (tw @h2 (tw @h4 (tw @h8 (tw @h9 (tw @h10 (tw @hg (tw @dE (tw @e1 (tw @e2 (tw @N1 (tw @gL (tw @hc (tw @ab.eq_1 @ae.eq_1))))))))))))))),?_⟩;refine hN _ _ ?_;clear hN N)))
   refine⟨_,?_,i,(i+j) / 2,rfl,by omega,by omega,jS,fun x h1 h2=>?_,sd @h9,sd (tw @e2 @N1),sd (tw @hg @ae.eq_1)⟩
   ·omega
   ·by_cases Mo:x=(i+j) / 2
    ·subst Mo;exact hl
    ·rw[Bool.eq_false_iff]
     intro hc
     have h3:=jv (hR ((i+j) / 2) x (by omega) h2) hc
     rw[hl]at h3;cases h3
 ·have L4:i=j:=by omega
  subst L4
  have zZ:lH cells p=i:=yw hj jS fun h=>Bc i (Nat.le_refl _) h
  by_cases hn:(i:Int)<(cells.length:Int)
  ·have e9:i<cells.length:=by omega
   have gL:(cells.map ab)[i]? =some (ab (aE cells i)):=fa (l:=cells) e9
   have hd:decide (qa (aE cells i).aJ p=0)=decide ((aE cells i).aJ=p):=by simp only[Ef]
   (repeat(first|((repeat(revert hN;revert N;apply Pn.out));refine wk (tw @h0 (tw @h2 (tw @h4 (tw @h8 (tw @h9 (tw @h10 (tw @hg (tw @dE (tw @hn (tw @gL (tw @ab.eq_1 @ae.eq_1))))))))))) ?_;(repeat(refine Pn.mk ?_;intro N hN)))|((try apply Or.inl);refine⟨_,aj.x (jQ (aE cells i) p) (sd (tw @h0 (tw @h2 (tw @h4 (tw @h8 (tw @h9 (tw @h10 (tw @hg (tw @dE (tw @hn (tw @gL (tw @ab.eq_1 @ae.eq_1)))))))))))),?_⟩;refine hN _ _ ?_;clear hN N)))
   refine gP (.inl rfl) (r1:=.int .i64 i) (r2:=.bool (decide ((aE cells i).aJ=p))) ?_ ?_ ?_
   ·simp only[go_sem, ↓reduceIte,Nat.reduceEqDiff,Nat.reduceAdd,Nat.reduceSub,Nat.reduceLeDiff,reduceCtorEq]
   ·simp only[go_sem, ↓reduceIte,Nat.reduceEqDiff,Nat.reduceAdd,Nat.reduceSub,Nat.reduceLeDiff,reduceCtorEq,hd]
   ·simp only[eo,aX,bD,dQ,eF,Option.map_some,zZ,e9,decide_true,Bool.true_and]
  ·have e9:¬i<cells.length:=by omega
   (try((repeat(revert hN;revert N;apply Pn.out));refine wk (tw @h0 (tw @h2 (tw @h4 (tw @h8 (tw @h9 (tw @h10 (tw @hg (tw @dE (tw @hn (tw @ab.eq_1 @ae.eq_1)))))))))) ?_;(repeat(refine Pn.mk ?_;intro N hN))))
   refine gP (.inl rfl) (r1:=.int .i64 i) (r2:=.bool false) ?_ ?_ ?_
   ·simp only[go_sem, ↓reduceIte,Nat.reduceEqDiff,Nat.reduceAdd,Nat.reduceSub,Nat.reduceLeDiff,reduceCtorEq]
   ·simp only[go_sem, ↓reduceIte,Nat.reduceEqDiff,Nat.reduceAdd,Nat.reduceSub,Nat.reduceLeDiff,reduceCtorEq]
   ·simp only[eo,aX,bD,dQ,eF,Option.map_some,zZ,e9,decide_false,Bool.false_and]
theorem E7 (l:List ad) (p:aB) (hR:mD l) (Ew:l.length<=1048576):aj Tryz.prog 265 [.agg [.sl (l.map ab)],.agg (ae p)] (.int .i64 (dZ l p)):=by
 refine aj.body eI rfl fun hl n0=>?_
 clear hl
 rw[yy hR]
 have hb:=wG l p hR Ew
 rw[ae]at hb
 cases hf:(decide (lH l p<l.length)&&decide ((aE l (lH l p)).aJ=p))
 ·rw[hf]at hb
  (repeat(first|((repeat(revert hN;revert N;apply Pn.out));refine wk @ae.eq_1 ?_;(repeat(refine Pn.mk ?_;intro N hN)))|((try apply Or.inl);refine⟨_,aj.x (hb) (sd @ae.eq_1),?_⟩;refine hN _ _ ?_;clear hN N)))
  exact bZ (b:=-1) (.inl rfl) (sd @Nat.zero_add) (by rw[if_neg];intro h;simp[h.1,h.2]at hf)
 ·rw[hf]at hb
  (repeat(first|((repeat(revert hN;revert N;apply Pn.out));refine wk @ae.eq_1 ?_;(repeat(refine Pn.mk ?_;intro N hN)))|((try apply Or.inl);refine⟨_,aj.x (hb) (sd @ae.eq_1),?_⟩;refine hN _ _ ?_;clear hN N)))
  exact bZ (b:=(lH l p:Int)) (.inl rfl) (sd @Nat.zero_add) (by rw[if_pos];simpa using hf)
theorem QY (l:List ad) (p:aB) (hR:mD l) (Ew:l.length<=1048576):aj Tryz.prog 117 [.agg [.sl (l.map ab)],.agg (ae p)] (.int .i64 (fY l p)):=by
 refine aj.body eI rfl fun hl n0=>?_
 clear hl
 have hi:=yy (l:=l) (p:=p) hR
 have hb:=wG l p hR Ew
 rw[ae]at hb
 cases hf:(decide (lH l p<l.length)&&decide ((aE l (lH l p)).aJ=p))
 ·rw[hf]at hb
  (repeat(first|((repeat(revert hN;revert N;apply Pn.out));refine wk @ae.eq_1 ?_;(repeat(refine Pn.mk ?_;intro N hN)))|((try apply Or.inl);refine⟨_,aj.x (hb) (sd @ae.eq_1),?_⟩;refine hN _ _ ?_;clear hN N)))
  exact bZ (b:=-1) (.inl rfl) (sd @Nat.zero_add) (by
   have hx:dZ l p= -1:=by rw[hi,if_neg (by intro h;simp[h.1,h.2]at hf)]
   rw[fY,hx];rfl)
 ·rw[hf]at hb
  have hc:lH l p<l.length/\(aE l (lH l p)).aJ=p:=by simpa using hf
  have hg:=fa hc.1
  (repeat(first|((repeat(revert hN;revert N;apply Pn.out));refine wk (tw @ae.eq_1 (tw @hg @ab.eq_1)) ?_;(repeat(refine Pn.mk ?_;intro N hN)))|((try apply Or.inl);refine⟨_,aj.x (hb) (sd (tw @ae.eq_1 (tw @hg @ab.eq_1))),?_⟩;refine hN _ _ ?_;clear hN N)))
  exact bZ (b:=(aE l (lH l p)).aN) (.inl rfl) (sd @Nat.zero_add) (by
   have hx:dZ l p=(lH l p:Int):=by rw[hi,if_pos hc]
   rw[fY,hx,if_pos (by omega),Int.toNat_natCast])
theorem pD (l:List ad) (p:aB) (hR:mD l) (Ew:l.length<=1048576):aj Tryz.prog 124 [.cI [.sl (l.map ab)],.agg (ae p)] (.int .i64 (dZ l p)):=by
 refine aj.body eI rfl fun hl n0=>?_
 clear hl
 rw[yy hR]
 (try((repeat(revert hN;revert N;apply Pn.out));refine wk @ae.eq_1 ?_;(repeat(refine Pn.mk ?_;intro N hN))))
 refine aQ (fun n env st=>∃i j:Nat,n=j-i/\i<=j/\j<=l.length/\(∀x,x<i->jl (aE l x).aJ p=true)/\(∀x,j<=x->x<l.length->jl (aE l x).aJ p=false)/\env 5=.int .i64 i/\env 6=.int .i64 j/\st.get ⟨124000000,n0⟩=some ⟨true,2,[ae p]⟩) l.length ⟨0,l.length,by omega,by omega,by omega,fun x h=>by omega,fun x h1 h2=>by omega,by(simp only[go_sem, ↓reduceIte,Nat.reduceEqDiff,Nat.reduceAdd,Nat.reduceSub,Nat.reduceLeDiff,reduceCtorEq])<;>rfl,sd @Nat.zero_add,sd @ae.eq_1⟩ ?_
 rintro n env st ⟨i,j,rfl,BZ,hj,jS,Bc,h5,h6,hg⟩ fr
 have h0:=fr 0 (by kernel_rfl)
 have h3:=fr 3 (by kernel_rfl)
 simp only[go_sem, ↓reduceIte,Nat.reduceEqDiff,Nat.reduceAdd,Nat.reduceSub,Nat.reduceLeDiff,reduceCtorEq]at h0 h3
 clear fr
 by_cases dE:(i:Int)<(j:Int)
 ·have e1:IntKind.i64.wrap ((i:Int)+j)=((i+j:Nat):Int):=by rw[bW (by omega)];rfl
  have hm:(i+j) / 2<l.length:=by omega
  have gL:=fa hm
  have e2:IntKind.i64.wrap (((i+j:Nat):Int).tdiv 2)=(((i+j) / 2:Nat):Int):=by
   rw[Int.tdiv_eq_ediv_of_nonneg (by omega),bW (by omega)];omega
  have e3:=aA (k:=(i+j) / 2) (by omega)
  have hq:=nh (aE l ((i+j) / 2)).aJ p
  cases hl:jl (aE l ((i+j) / 2)).aJ p
  ·rw[hl]at hq
   (repeat(first|((repeat(revert hN;revert N;apply Pn.out));refine wk (tw @h0 (tw @h3 (tw @h5 (tw @h6 (tw @hg (tw @dE (tw @e1 (tw @e2 (tw @gL (tw @ab.eq_1 @ae.eq_1)))))))))) ?_;(repeat(refine Pn.mk ?_;intro N hN)))|((try apply Or.inl);refine⟨_,aj.x (hq) (sd (tw @h0 (tw @h3 (tw @h5 (tw @h6 (tw @hg (tw @dE (tw @e1 (tw @e2 (tw @gL (tw @ab.eq_1 @ae.eq_1))))))))))),?_⟩;refine hN _ _ ?_;clear hN N)))
   refine⟨_,?_,i,(i+j) / 2,rfl,by omega,by omega,jS,fun x h1 h2=>?_,sd @h5,sd @e2,sd (tw @hg @ae.eq_1)⟩
   ·omega
   ·by_cases Mo:x=(i+j) / 2
    ·subst Mo;exact hl
    ·rw[Bool.eq_false_iff]
     intro hc
     have h3:=jv (hR ((i+j) / 2) x (by omega) h2) hc
     rw[hl]at h3;cases h3
  ·rw[hl]at hq
   (repeat(first|((repeat(revert hN;revert N;apply Pn.out));refine wk (tw @h0 (tw @h3 (tw @h5 (tw @h6 (tw @hg (tw @dE (tw @e1 (tw @e2 (tw @gL (tw @ab.eq_1 @ae.eq_1)))))))))) ?_;(repeat(refine Pn.mk ?_;intro N hN)))|((try apply Or.inl);refine⟨_,aj.x (hq) (sd (tw @h0 (tw @h3 (tw @h5 (tw @h6 (tw @hg (tw @dE (tw @e1 (tw @e2 (tw @gL (tw @ab.eq_1 @ae.eq_1))))))))))),?_⟩;refine hN _ _ ?_;clear hN N)))
   refine⟨_,?_,(i+j) / 2+1,j,rfl,by omega,hj,fun x hx=>?_,Bc,sd @e3,sd @h6,sd (tw @hg @ae.eq_1)⟩
   ·omega
   ·by_cases Mo:x=(i+j) / 2
    ·subst Mo;exact hl
    ·exact jv (hR x _ (by omega) hm) hl
 ·have L4:i=j:=by omega
  subst L4
  have zZ:lH l p=i:=yw hj jS fun h=>Bc i (Nat.le_refl _) h
  by_cases hn:(i:Int)<(l.length:Int)
  ·have e9:i<l.length:=by omega
   have gL:=fa e9
   by_cases hp:(aE l i).aJ=p
   ·have hx:decide ((aE l i).aJ.eS=p.eS)=true:=decide_eq_true (by rw[hp])
    have hy:decide ((aE l i).aJ.eH=p.eH)=true:=decide_eq_true (by rw[hp])
    (try((repeat(revert hN;revert N;apply Pn.out));refine wk (tw @h0 (tw @h3 (tw @h5 (tw @h6 (tw @hg (tw @dE (tw @hn (tw @gL (tw @hx (tw @hy (tw @ab.eq_1 @ae.eq_1))))))))))) ?_;(repeat(refine Pn.mk ?_;intro N hN))))
    exact bZ (b:=(i:Int)) (.inl rfl) (sd @Nat.zero_add) (by rw[zZ,if_pos ⟨e9,hp⟩])
   ·by_cases hx:(aE l i).aJ.eS=p.eS
    ·have th:decide ((aE l i).aJ.eS=p.eS)=true:=decide_eq_true hx
     have hy':decide ((aE l i).aJ.eH=p.eH)=false:=decide_eq_false fun h=>hp (Cr hx h)
     (try((repeat(revert hN;revert N;apply Pn.out));refine wk (tw @h0 (tw @h3 (tw @h5 (tw @h6 (tw @hg (tw @dE (tw @hn (tw @gL (tw @th (tw @hy' (tw @ab.eq_1 @ae.eq_1))))))))))) ?_;(repeat(refine Pn.mk ?_;intro N hN))))
     exact bZ (b:=-1) (.inl rfl) (sd @Nat.zero_add) (by rw[zZ,if_neg fun h=>hp h.2])
    ·have th:decide ((aE l i).aJ.eS=p.eS)=false:=decide_eq_false hx
     (try((repeat(revert hN;revert N;apply Pn.out));refine wk (tw @h0 (tw @h3 (tw @h5 (tw @h6 (tw @hg (tw @dE (tw @hn (tw @gL (tw @th (tw @Bool.false_and (tw @ab.eq_1 @ae.eq_1))))))))))) ?_;(repeat(refine Pn.mk ?_;intro N hN))))
     exact bZ (b:=-1) (.inl rfl) (sd @Nat.zero_add) (by rw[zZ,if_neg fun h=>hp h.2])
  ·have e9:¬i<l.length:=by omega
   (try((repeat(revert hN;revert N;apply Pn.out));refine wk (tw @h0 (tw @h3 (tw @h5 (tw @h6 (tw @hg (tw @dE (tw @hn (tw @ab.eq_1 @ae.eq_1)))))))) ?_;(repeat(refine Pn.mk ?_;intro N hN))))
   exact bZ (b:=-1) (.inl rfl) (sd @Nat.zero_add) (by rw[zZ,if_neg fun h=>e9 h.1])
theorem DD (l:List ad) (p:aB) (hR:mD l) (Ew:l.length<=1048576):aj Tryz.prog 98 [.cI [.sl (l.map ab)],.agg (ae p)] (.int .i64 (fY l p)):=by
 refine aj.body eI rfl fun hl n0=>?_
 clear hl
 have hb:=pD l p hR Ew
 by_cases hi:dZ l p<0
 ·rw[ae]at hb
  (repeat(first|((repeat(revert hN;revert N;apply Pn.out));refine wk (tw @ae.eq_1 @hi) ?_;(repeat(refine Pn.mk ?_;intro N hN)))|((try apply Or.inl);refine⟨_,aj.x (hb) (sd (tw @ae.eq_1 @hi)),?_⟩;refine hN _ _ ?_;clear hN N)))
  exact bZ (b:=-1) (.inl rfl) (sd @Nat.zero_add) (by rw[fY,if_neg (by omega)])
 ·have h0:0<=dZ l p:=by omega
  have hg:=fa (kU h0).1
  rw[ae]at hb
  (repeat(first|((repeat(revert hN;revert N;apply Pn.out));refine wk (tw @ae.eq_1 (tw @hi (tw @h0 (tw @hg @ab.eq_1)))) ?_;(repeat(refine Pn.mk ?_;intro N hN)))|((try apply Or.inl);refine⟨_,aj.x (hb) (sd (tw @ae.eq_1 (tw @hi (tw @h0 (tw @hg @ab.eq_1))))),?_⟩;refine hN _ _ ?_;clear hN N)))
  exact bZ (b:=(aE l (dZ l p).toNat).aN) (.inl rfl) (sd @Nat.zero_add) (by rw[fY,if_pos h0])
def jn (s:au) (l:List ad):Prop:=jg l/\∀t∈l,eC s t.aN=true
noncomputable def oH (s:au) (l:List ad):Bool:=nD l&&l.all fun t=>eC s t.aN
theorem ly {s:au} {l:List ad}:oH s l=true↔jn s l:=by simp[oH,jn,rh]
theorem tT:NP ab (fun c=>.agg (ab c)) 3 true:=⟨fun _=>rfl,fun _=>rfl,fun x g=>by simp only[ab,ah,aq,bf,aI,Option.map_some]⟩
theorem E0 (s:au) (t:ad) (hs:s.ai.length<=1048576):aj Tryz.prog 167 [.agg (ab t),.cI (aa s)] (.bool (!eC s t.aN)):=by
 refine aj.body eI rfl fun hl n0=>?_
 clear hl
 have h:=Hg s t.aN
 rw[aa]at h
 (repeat(first|((repeat(revert hN;revert N;apply Pn.out));refine wk (tw @ab.eq_1 @aa.eq_1) ?_;(repeat(refine Pn.mk ?_;intro N hN)))|((try apply Or.inl);refine⟨_,aj.x (h) (sd (tw @ab.eq_1 @aa.eq_1)),?_⟩;refine hN _ _ ?_;clear hN N)))
 exact aM (b:= !eC s t.aN) (.inl rfl) (sd @Nat.zero_add) rfl
theorem Kg (s:au) (l:List ad) (hs:s.ai.length<=1048576) (hl:l.length<=1048576):aj Tryz.prog 166 [.sl (l.map ab),.fn 167 [.cI (aa s)]] (.bool (l.any fun t=> !eC s t.aN)):=
 kb tT (show mV Tryz.prog 166=some (yf 166 202) by kernel_rfl)
  (show mV Tryz.prog 202=some (rF 202 3 true) by kernel_rfl) l hl _ _ _ rfl (fun g=>by rw[ah,aO,aq];rfl) (fun x _=>E0 s x hs) fun g=>by rw[ah,aO,aq];rfl
theorem C4 {α:Type} (p:α->Bool) (l:List α):(!l.any fun t=> !p t)=l.all p:=by
 induction l with
 |nil=>rfl
 |cons x l ih=>simp only[List.any_cons,List.all_cons,<-ih];cases p x<;>simp
theorem mm (s:au) (l:List ad) (hn:gx s) (hg:s.ay.length<=1048576) (ht:s.ai.length<=1048576) (hs:∀t∈s.ai,t.bV.length<=1048576) (hl:l.length<=1048576):aj Tryz.prog 106 [.agg (aa s),.agg [.sl (l.map ab)]] (.bool (pK s&&oH s l)):=by
 refine aj.body eI rfl fun hl n0=>?_
 clear hl
 have h1:=Bp s hn hg ht hs
 have h2:=rl l
 have h3:=Kg s l ht hl
 rw[aa]at h1 h3
 cases b1:pK s
 ·rw[b1]at h1
  (repeat(first|((repeat(revert hN;revert N;apply Pn.out));refine wk @aa.eq_1 ?_;(repeat(refine Pn.mk ?_;intro N hN)))|((try apply Or.inl);refine⟨_,aj.x (h1) (sd @aa.eq_1),?_⟩;refine hN _ _ ?_;clear hN N)))
  exact aM (b:=false) (.inl rfl) (sd @Nat.zero_add) rfl
 rw[b1]at h1
 cases b2:nD l
 ·rw[b2]at h2
  (repeat(first|((repeat(revert hN;revert N;apply Pn.out));refine wk @aa.eq_1 ?_;(repeat(refine Pn.mk ?_;intro N hN)))|((try apply Or.inl);refine⟨_,aj.x (h1) (sd @aa.eq_1),?_⟩;refine hN _ _ ?_;clear hN N)|((try apply Or.inl);refine⟨_,aj.x (h2) (sd @aa.eq_1),?_⟩;refine hN _ _ ?_;clear hN N)))
  exact aM (b:=false) (.inl rfl) (sd @Nat.zero_add) (by rw[oH,b2];rfl)
 rw[b2]at h2
 (repeat(first|((repeat(revert hN;revert N;apply Pn.out));refine wk @aa.eq_1 ?_;(repeat(refine Pn.mk ?_;intro N hN)))|((try apply Or.inl);refine⟨_,aj.x (h1) (sd @aa.eq_1),?_⟩;refine hN _ _ ?_;clear hN N)|((try apply Or.inl);refine⟨_,aj.x (h2) (sd @aa.eq_1),?_⟩;refine hN _ _ ?_;clear hN N)|((try apply Or.inl);refine⟨_,aj.x (h3) (sd @aa.eq_1),?_⟩;refine hN _ _ ?_;clear hN N)))
 exact aM (b:= !(l.any fun t=> !eC s t.aN)) (.inl rfl) (sd @Nat.zero_add) (by rw[C4,oH,b2];rfl)
theorem DE (s:au) (l:List ad):aj Tryz.prog 97 [.cI (aa s),.cI [.sl (l.map ab)]] (.bool (oH s l)):=by
 refine aj.body eI rfl fun hl n0=>?_
 have hlen:l.length<=9223372036854775807:=by
  have h1:=(hl (.cI [.sl (l.map ab)]) (by simp)).Al (a:=.sl (l.map ab)) (by simp)
  simpa using h1.len
 clear hl
 have h2:=ER l
 cases b2:nD l
 ·rw[b2]at h2
  (repeat(first|((repeat(revert hN;revert N;apply Pn.out));refine wk @Nat.zero_add ?_;(repeat(refine Pn.mk ?_;intro N hN)))|((try apply Or.inl);refine⟨_,aj.x (h2) (sd @Nat.zero_add),?_⟩;refine hN _ _ ?_;clear hN N)))
  exact aM (b:=false) (.inl rfl) (sd @Nat.zero_add) (by rw[oH,b2];rfl)
 rw[b2]at h2
 (repeat(first|((repeat(revert hN;revert N;apply Pn.out));refine wk @Nat.zero_add ?_;(repeat(refine Pn.mk ?_;intro N hN)))|((try apply Or.inl);refine⟨_,aj.x (h2) (sd @Nat.zero_add),?_⟩;refine hN _ _ ?_;clear hN N)))
 refine aQ (fun n env st=>∃k:Nat,n=(l.length)-k/\k<=(l.length)/\env 5=.int .i64 (k:Int)/\(∀j:Nat,j<k->eC s (aE l j).aN=true)) (l.length) ⟨0,by omega,by omega,sl @Nat.zero_add,fun _ h=>absurd h (Nat.not_lt_zero _)⟩ ?_
 rintro n_a env_a st_a ⟨k,rfl,ale,a5,lp⟩ dY
 have a0:=dY 0 (by kernel_rfl);have a1:=dY 1 (by kernel_rfl)
 simp only[go_sem, ↓reduceIte,Nat.reduceEqDiff,Nat.reduceAdd,Nat.reduceSub,Nat.reduceLeDiff,reduceCtorEq]at a0 a1
 clear dY
 by_cases hk:(k:Int)<(l.length:Int)
 ·have cH:∀{e:Env},(e 5=.int .i64 (IntKind.i64.wrap ((k:Int)+1)))->(eC s (aE l k).aN=true)->∃m0,m0<(l.length)-k/\∃k:Nat,m0=(l.length)-k/\k<=(l.length)/\e 5=.int .i64 (k:Int)/\(∀j:Nat,j<k->eC s (aE l j).aN=true):=fun x1 x2=>⟨_,by omega,k+1,rfl,by omega,(by rw[x1,aA (by omega)]),(all_succ lp x2)⟩
  have fG:k<l.length:=by omega
  have eJ:=fa fG
  have ht:=uu s (aE l k).aN
  cases b3:eC s (aE l k).aN
  ·rw[b3]at ht
   (repeat(first|((repeat(revert hN;revert N;apply Pn.out));refine wk (tw @a5 (tw @a0 (tw @a1 (tw @hk (tw @eJ @ab.eq_1))))) ?_;(repeat(refine Pn.mk ?_;intro N hN)))|((try apply Or.inl);refine⟨_,aj.x (ht) (sd (tw @a5 (tw @a0 (tw @a1 (tw @hk (tw @eJ @ab.eq_1)))))),?_⟩;refine hN _ _ ?_;clear hN N)))
   exact aM (b:=false) (.inl rfl) (sd @Nat.zero_add) (by
    have:l.all (fun t=>eC s t.aN)=false:=List.all_eq_false.2 ⟨_,gj fG,by rw[b3];simp⟩
    rw[oH,this,Bool.and_false])
  ·rw[b3]at ht
   (repeat(first|((repeat(revert hN;revert N;apply Pn.out));refine wk (tw @a5 (tw @a0 (tw @a1 (tw @hk (tw @eJ @ab.eq_1))))) ?_;(repeat(refine Pn.mk ?_;intro N hN)))|((try apply Or.inl);refine⟨_,aj.x (ht) (sd (tw @a5 (tw @a0 (tw @a1 (tw @hk (tw @eJ @ab.eq_1)))))),?_⟩;refine hN _ _ ?_;clear hN N)))
   exact cH (sd (tw @a5 (tw @a0 @a1))) (b3)
 ·(try((repeat(revert hN;revert N;apply Pn.out));refine wk (tw @a5 (tw @a0 (tw @a1 @hk))) ?_;(repeat(refine Pn.mk ?_;intro N hN))))
  exact aM (b:=true) (.inl rfl) (sd @Nat.zero_add) (by
   have:l.all (fun t=>eC s t.aN)=true:=List.all_eq_true.2 fun t ht=>by
    obtain⟨j,hj,rfl⟩:=List.getElem_of_mem ht
    have:=lp j (by omega)
    rwa [eV hj]at this
   rw[oH,b2,this];rfl)
theorem wb (l:List ad) (hF:jg l) (i:Nat) (d:Int) (hi:i<l.length) (hd:iI d 0 3=true):aj Tryz.prog 217 [.cI [.sl (l.map ab)],.int .i64 i,.int .i64 d] (.int .i64 (dZ l (dm (aE l i).aJ d))):=by
 refine aj.body eI rfl fun hl n0=>?_
 clear hl
 have hg:=fa hi
 have hp:=rN (hF.pt hi)
 have h1:=xc (aE l i).aJ d hd hp.1 hp.2
 have h2:=pD l (dm (aE l i).aJ d) hF.Ff (by have:=hF.rf;omega)
 rw[ae]at h1 h2
 (repeat(first|((repeat(revert hN;revert N;apply Pn.out));refine wk (tw @ab.eq_1 (tw @hg @ae.eq_1)) ?_;(repeat(refine Pn.mk ?_;intro N hN)))|((try apply Or.inl);refine⟨_,aj.x (h1) (sd (tw @ab.eq_1 (tw @hg @ae.eq_1))),?_⟩;refine hN _ _ ?_;clear hN N)|((try apply Or.inl);refine⟨_,aj.x (h2) (sd (tw @ab.eq_1 (tw @hg @ae.eq_1))),?_⟩;refine hN _ _ ?_;clear hN N)))
 exact bZ (b:=dZ l (dm (aE l i).aJ d)) (.inl rfl) (sd @Nat.zero_add) rfl
end Go.Proofs.YtgoelphibofcmaaGreat.V

namespace Go.Proofs.YtgoelphibofcmaaGreat.V
open Go.RowKit
def isApp:fX->Bool
 | .append .. =>true
 |_=>false
variable {P:Program} {X:fq} {K:Env->ar->Prop} {env:Env} {σ:ar}
theorem K3 {draw:Bool} {o:aT} {r:List aT} (_:isApp o.op=false) (h:∀N:AV->ar->Prop,(∀v s,wpOps X draw r K (upd env o.dst v) s->N v s)->if aH o.guard env then fC X draw o env σ N else N .undef σ):wpOps X draw (o::r) K env σ:=MZ h
end Go.Proofs.YtgoelphibofcmaaGreat.V

namespace Go.Proofs.YtgoelphibofcmaaGreat.V
open Go.RowKit
section
variable {α:Type} {enc:α->List AV} {sz:Nat} {g g':Rows} {a:AV} {xs:List α} {ids:List Id}
end
abbrev FG (α:Type):=Rows->List AV->α->List Id->Prop
structure xI {α:Type} (R:FG α) (sz:Nat):Prop where
 frame:∀{g g':Rows} {cs x ids},R g cs x ids->(∀i∈ids,g' i=g i)->R g' cs x ids
 len:∀{g cs x ids},R g cs x ids->cs.length=sz
 cell:∀{g cs x ids},R g cs x ids->cs.all AV.cell=true
 live:∀{g cs x ids},R g cs x ids->∀i∈ids,∃r,g i=some r/\r.w=true/\r.sz<qp
 small:sz<qp
inductive eL {α:Type} (R:FG α) (g:Rows):List (List AV)->List α->List Id->Prop
 |nil:eL R g [] [] []
 |cons {cs x i1 rs xs i2}:R g cs x i1->eL R g rs xs i2->eL R g (cs::rs) (x::xs) (i1++i2)
section
variable {α:Type} {R:FG α} {sz:Nat} {g g':Rows} {rows r1 r2:List (List AV)} {xs x1 x2:List α} {ids i1 i2:List Id}
theorem eL.len (h:eL R g rows xs ids):rows.length=xs.length:=by
 induction h with
 |nil=>rfl
 |cons _ _ ih=>simp[ih]
theorem eL.frame (ok:xI R sz) (h:eL R g rows xs ids) (hf:∀i∈ids,g' i=g i):eL R g' rows xs ids:=by
 induction h with
 |nil=>exact .nil
 |cons h1 _ ih=>exact .cons (ok.frame h1 fun i hi=>hf i (List.mem_append_left _ hi)) (ih fun i hi=>hf i (List.mem_append_right _ hi))
theorem eL.app (h1:eL R g r1 x1 i1) (h2:eL R g r2 x2 i2):eL R g (r1++r2) (x1++x2) (i1++i2):=by
 induction h1 with
 |nil=>exact h2
 |cons h _ ih=>rw[List.append_assoc];exact .cons h ih
theorem eL.one {cs:List AV} {x:α} (h:R g cs x ids):eL R g [cs] [x] ids:=by
 have:=eL.cons h eL.nil
 rwa [List.append_nil]at this
theorem eL.split (h:eL R g rows xs ids):∀k (hk:k<xs.length),∃r1 cs r2 i1 ic i2,rows=r1++cs::r2/\r1.length=k/\ids=i1++(ic++i2)/\eL R g r1 (xs.take k) i1/\R g cs xs[k] ic/\eL R g r2 (xs.drop (k+1)) i2:=by
 induction h with
 |nil=>intro k hk;simp at hk
 |cons h1 h2 ih=>
  rename_i cs x j1 rs xs j2
  intro k hk
  cases k with
  |zero=>exact⟨[],cs,rs,[],j1,j2,rfl,rfl,rfl,.nil,h1,h2⟩
  |succ k=>
   obtain⟨r1,oP,r2,i1,ic,i2,rfl,hl,rfl,h3,h4,h5⟩:=ih k (by simpa using hk)
   exact⟨cs::r1,oP,r2,j1++i1,ic,i2,rfl,by simp[hl],by rw[List.append_assoc],.cons h1 h3,h4,h5⟩
theorem eL.at_ (h:eL R g rows xs ids) (k:Nat) (hk:k<xs.length):∃cs ic,rows[k]? =some cs/\R g cs xs[k] ic/\∀i∈ic,i∈ids:=by
 obtain⟨r1,cs,r2,i1,ic,i2,rfl,hl,rfl,h3,h4,h5⟩:=h.split k hk
 refine⟨cs,ic,by rw[List.getElem?_append_right (by omega)];simp[hl],h4,fun i hi=>by simp[hi]⟩
theorem eL.fz {n:Nat} {e:α->List AV} (h:eL R g rows xs ids) (hz:∀{cs x ids},R g cs x ids->da (dO g) n cs=some (e x)):dM (dO g) n rows=some (xs.map e):=by
 induction h with
 |nil=>rw[dM];rfl
 |cons h1 _ ih=>rw[dM,hz h1,ih];rfl
end
section
variable {α:Type} {R:FG α} {sz:Nat} {g g':Rows} {a:AV} {xs:List α} {ids:List Id}
end
end Go.Proofs.YtgoelphibofcmaaGreat.V

namespace Go.Proofs.YtgoelphibofcmaaGreat.V
open Go.RowKit
variable {P:Program} {X:fq} {K:Env->ar->Prop} {env:Env} {σ:ar}
def lV {α:Type} (enc:α->List AV) (sz:Nat) (x:AV) (g:Rows) (S:Id->Prop) (L:List α):Prop:=∃o:Id,S o/\x=.own o 0 L.length/\g o=some ⟨true,sz,L.map enc⟩
section
variable {α:Type} {enc:α->List AV} {sz:Nat} {x:AV} {g g':Rows} {S:Id->Prop} {L L':List α}
theorem lV.cast (h:lV enc sz x g S L) (hL:L'=L):lV enc sz x g S L':=by subst hL;exact h
theorem lV.frame (h:lV enc sz x g S L) (hg:∀o:Id,S o->g' o=g o):lV enc sz x g' S L:=by
 obtain⟨o,h1,h2,h3⟩:=h
 exact⟨o,h1,h2,(hg o h1).trans h3⟩
theorem lV.app (hz:∀a,(enc a).length=sz/\(enc a).all AV.cell=true) (h:lV enc sz x g S L) (id:Id) (hid:S id) (M:List α) (hlen:L.length+M.length<=dB):
  ∃v g',aP g id sz x (M.map enc)=some (v,g')/\lV enc sz v g' S (L++M)/\∀j:Id,¬S j->g' j=g j:=by
 obtain⟨o,h1,rfl,h4⟩:=h
 refine⟨.own id 0 (L.length+(M.map enc).length),bj (bY g o) id ⟨true,sz,L.map enc++M.map enc⟩,?_,⟨id,hid,by simp,by simp[bj]⟩,fun j hj=>?_⟩
 ·have ha:=all_map (l:=M) hz
  simp only[aP,h4,Option.bind_some]
  rw[if_pos ⟨trivial,trivial,by simp,by simpa using hlen,ha⟩]
 ·have e1:¬j=id:=fun h=>hj (h▸hid)
  have e2:¬j=o:=fun h=>hj (h▸h1)
  simp[bj,bY,e1,e2]
theorem MX {draw:Bool} {o:aT} {r:List aT} {x' y:O} {xv:AV} (M:List α) (ho:o.op=.append sz x' y) (hw:aH o.guard env=true) (hx:cF env x'=xv) (hO:lV enc sz xv σ.get S L)
  (hy:bl σ.get (cF env y)=some (M.map enc)) (hz:∀a,(enc a).length=sz/\(enc a).all AV.cell=true) (hid:S ⟨o.site,σ.next⟩) (hlen:L.length+M.length<=dB)
  (next:∀v g',lV enc sz v g' S (L++M)->(∀j:Id,¬S j->g' j=σ.get j)->wpOps X draw r K (upd env o.dst v) ⟨g',σ.next⟩):wpOps X draw (o::r) K env σ:=by
 obtain⟨v,g',h1,h2,h3⟩:=hO.app hz ⟨o.site,σ.next⟩ hid M hlen
 unfold wpOps
 rw[if_pos hw]
 unfold fC
 simp only[ho,fW,hy,hx,Option.bind_some,h1]
 exact next v g' h2 h3
theorem lV.fZ {n:Nat} (h:lV enc sz x g S L) (he:∀a,dU g n (enc a)=some (enc a)):fZ g (n+1) x=some (.sl (L.map enc)):=by
 obtain⟨o,_,rfl,h3⟩:=h
 exact fj h3 rfl he
end
theorem cr {a b:Id} (h:a.bQ<b.bQ):(a=b)=False/\(b=a)=False:=by
 constructor<;>(simp only[eq_iff_iff,iff_false];rintro rfl;omega)
theorem yO {o:Id} {a:Nat} (h:o.site=a) {b v:Nat} (po:(a==b)=false):(o=⟨b,v⟩)=False:=by
 simp only[eq_iff_iff,iff_false]
 rintro rfl
 simp only at h
 subst h
 simp at po
def eN (n:Nat):List AV:=[.int .i64 n]
theorem fzN (g:Rows) (n:Nat) (a:Nat):da g (n+1) (eN a)=some (eN a):=by simp[eN,ah,aq,aI]
theorem LC (g:Rows) (n:Nat) (a:Nat):dU g (n+1) (eN a)=some (eN a):=by simp[eN,aX,bD,dQ]
def Nj:FG (List Nat):=fun g cs x ids=>∃id,cs=[.own id 0 x.length]/\g id=some ⟨true,1,x.map eN⟩/\ids=[id]
theorem JP:xI Nj 1 where
 frame:=fun⟨id,h1,h2,h3⟩ hf=>by subst h3;exact⟨id,h1,(hf id (by simp)).trans h2,rfl⟩
 len:=fun⟨id,h1,_⟩=>by subst h1;rfl
 cell:=fun⟨id,h1,_⟩=>by subst h1;rfl
 live:=fun⟨id,h1,h2,h3⟩ i hi=>by
  subst h3
  have:i=id:=by simpa using hi
  subst this
  exact⟨_,h2,rfl,by simp[qp]⟩
 small:=by simp[qp]
def zg (l:List Nat):List AV:=[.sl (l.map eN)]
theorem Hs {g:Rows} {rows:List (List AV)} {xs:List (List Nat)} {ids:List Id} (n:Nat) (h:eL Nj g rows xs ids):gN g (n+2) rows=some (xs.map zg):=by
 induction h with
 |nil=>rw[gN];rfl
 |cons h1 _ ih=>
  obtain⟨id,rfl,h2,_⟩:=h1
  rw[gN,ih,aX,bD,fj (e:=eN) (sz:=1) h2 rfl fun a=>LC g n a];rfl
end Go.Proofs.YtgoelphibofcmaaGreat.V

namespace Go.Proofs.YtgoelphibofcmaaGreat.V
def bi (b:Bool):Int:=if b then 1 else 0
def lk (f:Nat->Int):Nat->Int
 |0=>0
 |n+1=>lk f n+f n
theorem fQ {f g:Nat->Int}:∀{n:Nat},(∀i,i<n->f i=g i)->lk f n=lk g n
 |0,_=>rfl
 |n+1,h=>by
  simp only[lk]
  rw[fQ fun i hi=>h i (by omega),h n (by omega)]
theorem qF {f g:Nat->Int}:∀{n:Nat},(∀i,i<n->f i<=g i)->lk f n<=lk g n
 |0,_=>Int.le_refl _
 |n+1,h=>by
  simp only[lk]
  have:=qF (n:=n) fun i hi=>h i (by omega)
  have:=h n (by omega)
  omega
theorem jz:∀{n:Nat} {f:Nat->Int},(∀i,i<n->f i=0)->lk f n=0
 |0,_,_=>rfl
 |n+1,f,h=>by
  simp only[lk]
  rw[jz fun i hi=>h i (by omega),h n (by omega)];rfl
theorem oD {f:Nat->Int} {a:Nat} {d:Int}:∀n,lk (fun i=>f i+if i=a then d else 0) n=lk f n+if a<n then d else 0
 |0=>by simp[lk]
 |n+1=>by
  simp only[lk]
  rw[oD n]
  by_cases h:n=a
  ·subst h;simp;omega
  ·rw[if_neg h]
   by_cases h2:a<n
   ·rw[if_pos h2,if_pos (by omega)];omega
   ·rw[if_neg h2,if_neg (by omega)];omega
def lE (n:Nat) (S:Nat->Bool) (f:Nat->Nat->Int):Int:=lk (fun u=>lk (fun v=>if S u&& !S v then f u v else 0) n) n
def bump (f:Nat->Nat->Int) (a b:Nat) (d:Int):Nat->Nat->Int:=fun u v=>f u v+if u=a/\v=b then d else 0
theorem od {n:Nat} {S:Nat->Bool} {f:Nat->Nat->Int} {a b:Nat} {d:Int} (ha:a<n) (hb:b<n):lE n S (bump f a b d)=lE n S f+if S a&& !S b then d else 0:=by
 unfold lE
 have h1:∀u,u<n->lk (fun v=>if S u&& !S v then bump f a b d u v else 0) n=lk (fun v=>if S u&& !S v then f u v else 0) n+if u=a then(if S a&& !S b then d else 0)else 0:=by
  intro u hu
  by_cases h:u=a
  ·subst h
   have h2:∀v,v<n->(if S u&& !S v then bump f u b d u v else 0)=(fun v=>if S u&& !S v then f u v else 0) v+if v=b then(if S u&& !S b then d else 0)else 0:=by
    intro v hv
    unfold bump
    by_cases h3:v=b
    ·subst h3;simp only[and_self,if_true];split<;>omega
    ·simp only[h3,and_false,if_false];split<;>omega
   rw[fQ h2,oD,if_pos hb,if_pos rfl]
  ·rw[if_neg h,Int.add_zero]
   refine fQ fun v hv=>?_
   unfold bump
   simp[h]
 rw[fQ h1,oD,if_pos ha]
theorem Ja {n:Nat} {S:Nat->Bool} {f c:Nat->Nat->Int} (h:∀u v,u<n->v<n->f u v<=c u v):lE n S f<=lE n S c:=
 qF fun u hu=>qF fun v hv=>by split;exact h u v hu hv;exact Int.le_refl _
theorem I9 {n:Nat} {S:Nat->Bool} {f c:Nat->Nat->Int} (h:∀u v,u<n->v<n->S u=true->S v=false->f u v=c u v):lE n S f=lE n S c:=
 fQ fun u hu=>fQ fun v hv=>by
  split
  ·rename_i hc
   simp only[Bool.and_eq_true,Bool.not_eq_true']at hc
   exact h u v hu hv hc.1 hc.2
  ·rfl
def jX (f:Nat->Nat->Int) (a b:Nat):Nat->Nat->Int:=bump (bump f a b 1) b a (-1)
theorem Ej {n:Nat} {S:Nat->Bool} {f:Nat->Nat->Int} {a b:Nat} (ha:a<n) (hb:b<n):lE n S (jX f a b)=lE n S f+bi (S a)-bi (S b):=by
 unfold jX
 rw[od hb ha,od ha hb]
 cases S a<;>cases S b<;>simp[bi]<;>omega
def lz (f:Nat->Nat->Int):List Nat->Nat->Nat->Int
 |a::b::r=>lz (jX f a b) (b::r)
 |_=>f
def pQ (f c:Nat->Nat->Int):List Nat->Prop
 |a::b::r=>f a b<c a b/\pQ f c (b::r)
 |_=>True
theorem zz {n:Nat} {S:Nat->Bool}:∀(r:List Nat) (a:Nat) (f:Nat->Nat->Int),(∀x∈a::r,x<n)->lE n S (lz f (a::r))=lE n S f+bi (S a)-bi (S ((a::r).getLast (by simp)))
 |[],a,f,_=>by simp[lz]
 |b::r,a,f,h=>by
  rw[lz,zz r b (jX f a b) fun x hx=>h x (List.mem_cons_of_mem _ hx),Ej (h a (by simp)) (h b (by simp)),List.getLast_cons_cons]
  generalize bi (S b)=q
  omega
theorem pQ.less {f g c:Nat->Nat->Int}:∀{p:List Nat},pQ f c p->(∀u,u∈p->∀v,g u v<=f u v)->pQ g c p
 |[],_,_=>trivial
 |[_],_,_=>trivial
 |a::b::r,h,hl=>⟨Int.lt_of_le_of_lt (hl a (by simp) b) h.1,pQ.less (p:=b::r) h.2 fun u hu=>hl u (List.mem_cons_of_mem _ hu)⟩
theorem C5 {n:Nat} {c:Nat->Nat->Int}:∀(p:List Nat) (f:Nat->Nat->Int),p.Nodup->pQ f c p->(∀u v,u<n->v<n->f u v<=c u v)->∀u v,u<n->v<n->lz f p u v<=c u v
 |[],f,_,_,h=>h
 |[_],f,_,_,h=>h
 |a::b::r,f,hn,hr,h=>by
  rw[lz]
  have po:a∉b::r:=(List.nodup_cons.1 hn).1
  refine C5 (b::r) _ (List.nodup_cons.1 hn).2 (hr.2.less fun u hu v=>?_) fun u v hu hv=>?_
  ·unfold jX bump
   have:u≠a:=by rintro rfl;exact po hu
   simp only[this,false_and,if_false]
   split<;>omega
  ·have h0:=h u v hu hv
   have h1:=hr.1
   unfold jX bump
   by_cases e:u=a/\v=b
   ·obtain⟨rfl,rfl⟩:=e
    rw[if_pos ⟨rfl,rfl⟩];split<;>omega
   ·rw[if_neg e];split<;>omega
structure kK (n:Nat) (c f:Nat->Nat->Int) (x y:Nat) (val:Int):Prop where
 le:∀u v,u<n->v<n->f u v<=c u v
 cut:∀S:Nat->Bool,S x=true->S y=false->lE n S f=val
theorem kK.zero {n:Nat} {c:Nat->Nat->Int} {x y:Nat} (h:∀u v,u<n->v<n->0<=c u v):kK n c (fun _ _=>0) x y 0:=
 ⟨h,fun S _ _=>jz fun u hu=>jz fun v hv=>by split<;>rfl⟩
theorem kK.congr {n:Nat} {c f g:Nat->Nat->Int} {x y:Nat} {val:Int} (h:kK n c f x y val) (e:∀u v,u<n->v<n->g u v=f u v):kK n c g x y val:=
 ⟨fun u v hu hv=>by rw[e u v hu hv];exact h.le u v hu hv,fun S hx hy=>by
  rw[<-h.cut S hx hy]
  exact fQ fun u hu=>fQ fun v hv=>by rw[e u v hu hv]⟩
theorem kK.aug {n:Nat} {c f:Nat->Nat->Int} {x y:Nat} {val:Int} (h:kK n c f x y val) {r:List Nat} (hl:(x::r).getLast (by simp)=y) (hn:(x::r).Nodup) (hr:pQ f c (x::r)) (hb:∀v∈x::r,v<n):kK n c (lz f (x::r)) x y (val+1):=
 ⟨C5 _ _ hn hr h.le,fun S hx hy=>by rw[zz r x f hb,hl,h.cut S hx hy,hx,hy];simp[bi]⟩
theorem kK.bound {n:Nat} {c f:Nat->Nat->Int} {x y:Nat} {val:Int} (h:kK n c f x y val) {S:Nat->Bool} (hx:S x=true) (hy:S y=false):val<=lE n S c:=by
 rw[<-h.cut S hx hy];exact Ja h.le
theorem kK.full {n:Nat} {c f:Nat->Nat->Int} {x y:Nat} {val:Int} (h:kK n c f x y val) {S:Nat->Bool} (hx:S x=true) (hy:S y=false) (hS:∀u v,u<n->v<n->S u=true->S v=false->¬f u v<c u v):val=lE n S c:=by
 rw[<-h.cut S hx hy]
 exact I9 fun u v hu hv h1 h2=>by have:=hS u v hu hv h1 h2;have:=h.le u v hu hv;omega
structure PB where
 a:Nat
 b:Nat
 s:Int
 deriving Inhabited
def bU (bs:List PB) (i:Nat):PB:=bs.getD i default
def iM (S:Nat->Bool) (bs:List PB):Int:=(bs.map fun b=>if S b.a=S b.b then 0 else b.s).sum
def mH (c:Nat->Nat->Int) (b:PB):Nat->Nat->Int:=bump (bump c b.a b.b b.s) b.b b.a b.s
def kp (bs:List PB):Nat->Nat->Int:=bs.foldl mH fun _ _=>0
theorem Cx (bs:List PB) (b:PB):kp (bs++[b])=mH (kp bs) b:=by simp[kp]
theorem zI {n:Nat} {S:Nat->Bool}:∀(bs:List PB) (c:Nat->Nat->Int),(∀b∈bs,b.a<n/\b.b<n)->lE n S (bs.foldl mH c)=lE n S c+iM S bs
 |[],c,_=>by simp[iM]
 |b::bs,c,h=>by
  have hb:=h b (by simp)
  rw[List.foldl_cons,zI bs _ fun x hx=>h x (List.mem_cons_of_mem _ hx)]
  unfold mH iM
  rw[od hb.2 hb.1,od hb.1 hb.2,List.map_cons,List.sum_cons]
  cases S b.a<;>cases S b.b<;>simp<;>omega
theorem zJ {n:Nat} {S:Nat->Bool} {bs:List PB} (h:∀b∈bs,b.a<n/\b.b<n):lE n S (kp bs)=iM S bs:=by
 rw[kp,zI bs _ h]
 have:lE n S (fun _ _=>0)=0:=jz fun u hu=>jz fun v hv=>by split<;>rfl
 omega
theorem yK:∀(bs:List PB) (c:Nat->Nat->Int),(∀b∈bs,0<=b.s)->(∀u v,0<=c u v)->∀u v,0<=bs.foldl mH c u v
 |[],c,_,h=>h
 |b::bs,c,hb,h=>by
  rw[List.foldl_cons]
  refine yK bs _ (fun x hx=>hb x (List.mem_cons_of_mem _ hx)) fun u v=>?_
  have:=hb b (by simp);have:=h u v
  unfold mH bump
  split<;>split<;>omega
theorem room_le:∀(bs:List PB) (c:Nat->Nat->Int) (m:Int),(∀b∈bs,b.s<=4)->(∀u v,c u v<=m)->0<=m->∀u v,bs.foldl mH c u v<=m+8*bs.length
 |[],c,m,_,h,_=>fun u v=>by have:=h u v;simp;omega
 |b::bs,c,m,hb,h,h0=>fun u v=>by
  rw[List.foldl_cons]
  have:=room_le bs (mH c b) (m+8) (fun x hx=>hb x (List.mem_cons_of_mem _ hx)) (fun u v=>by
   have:=hb b (by simp);have:=h u v
   unfold mH bump
   split<;>split<;>omega) (by omega) u v
  simp only[List.length_cons];omega
def j7 (n:Nat) (bs:List PB) (t:Int):Prop:=∀S:Nat->Bool,S 0=true->(∃y,y<n/\S y=false)->t<=iM S bs
def Eh (S:Nat->Bool) (bs:List PB) (f:Nat->Int):Int:=lk (fun i=>f i*(bi (S (bU bs i).a)-bi (S (bU bs i).b))) bs.length
structure jE (bs:List PB) (f:Nat->Int) (x y:Nat) (val:Int):Prop where
 le:∀i,i<bs.length->f i<=(bU bs i).s/\-(bU bs i).s<=f i
 cut:∀S:Nat->Bool,S x=true->S y=false->Eh S bs f=val
theorem tL (S:Nat->Bool):∀bs:List PB,iM S bs=lk (fun i=>if S (bU bs i).a=S (bU bs i).b then 0 else(bU bs i).s) bs.length:=by
 intro bs
 have key:∀n,n<=bs.length->iM S (bs.take n)=lk (fun i=>if S (bU bs i).a=S (bU bs i).b then 0 else(bU bs i).s) n:=by
  intro n
  induction n with
  |zero=>intro _;rfl
  |succ n ih=>
   intro h
   have e:bU bs n=bs[n]:=by simp[bU,List.getD_eq_getElem?_getD,List.getElem?_eq_getElem (show n<bs.length by omega)]
   rw[List.take_succ_eq_append_getElem (by omega),lk,<-ih (by omega),e]
   unfold iM
   rw[List.map_append,List.sum_append]
   simp only[List.map_cons,List.map_nil,List.sum_cons,List.sum_nil,Int.add_zero]
 have:=key bs.length (Nat.le_refl _)
 rwa [List.take_length]at this
theorem jE.bound {bs:List PB} {f:Nat->Int} {x y:Nat} {val:Int} (h:jE bs f x y val) {S:Nat->Bool} (hx:S x=true) (hy:S y=false):val<=iM S bs:=by
 rw[<-h.cut S hx hy,tL]
 refine qF fun i hi=>?_
 have:=h.le i hi
 cases S (bU bs i).a<;>cases S (bU bs i).b<;>simp[bi]<;>omega
def fm (bs:List PB) (f:Nat->Int) (i u:Nat):Int:=if (bU bs i).a=u then(bU bs i).s-f i else(bU bs i).s+f i
def bz (bs:List PB) (i u:Nat):Nat:=if (bU bs i).a=u then(bU bs i).b else(bU bs i).a
theorem jE.full {bs:List PB} {f:Nat->Int} {x y:Nat} {val:Int} (h:jE bs f x y val) {S:Nat->Bool} (hx:S x=true) (hy:S y=false)
  (hS:∀i,i<bs.length->((bU bs i).a≠(bU bs i).b->(S (bU bs i).a=true->S (bU bs i).b=false->¬0<fm bs f i (bU bs i).a)/\(S (bU bs i).b=true->S (bU bs i).a=false->¬0<fm bs f i (bU bs i).b))):val=iM S bs:=by
 rw[<-h.cut S hx hy,tL]
 refine fQ fun i hi=>?_
 have h1:=h.le i hi
 by_cases po:(bU bs i).a=(bU bs i).b
 ·rw[po];simp
 ·have h2:=hS i hi po
  unfold fm at h2
  rw[if_pos rfl,if_neg po]at h2
  cases ha:S (bU bs i).a<;>cases hb:S (bU bs i).b<;>rw[ha,hb]at h2<;>simp[bi]at h2 ⊢ <;>omega
def sF (bs:List PB) (f:Nat->Int) (i u:Nat):Nat->Int:=fun j=>f j+if j=i then(if (bU bs i).a=u then 1 else -1)else 0
theorem Ei {S:Nat->Bool} {bs:List PB} {f:Nat->Int} {i u:Nat} (hi:i<bs.length) (hu:(bU bs i).a=u∨(bU bs i).b=u):Eh S bs (sF bs f i u)=Eh S bs f+bi (S u)-bi (S (bz bs i u)):=by
 unfold Eh sF
 have e:∀j,j<bs.length->(f j+if j=i then(if (bU bs i).a=u then 1 else -1)else 0)*(bi (S (bU bs j).a)-bi (S (bU bs j).b))=(fun j=>f j*(bi (S (bU bs j).a)-bi (S (bU bs j).b))) j+if j=i then(if (bU bs i).a=u then 1 else -1)*(bi (S (bU bs i).a)-bi (S (bU bs i).b))else 0:=by
  intro j hj
  by_cases h:j=i
  ·subst h;simp only[if_true];rw[Int.add_mul]
  ·simp only[h,if_false];simp
 rw[fQ e,oD,if_pos hi]
 unfold bz
 by_cases ha:(bU bs i).a=u
 ·rw[if_pos ha,if_pos ha,ha];omega
 ·rw[if_neg ha,if_neg ha]
  rcases hu with hu|hu
  ·exact absurd hu ha
  ·rw[hu];omega
theorem nM:∀(n:Nat) (l:List Nat),l.Nodup->(∀x∈l,x<n)->l.length<=n
 |0,l,_,h=>by
  cases l with
  |nil=>simp
  |cons x l=>exact absurd (h x (by simp)) (by omega)
 |n+1,l,hn,h=>by
  have h1:=nM n (l.erase n) (hn.erase _) fun x hx=>by
   have h2:=(hn.mem_erase_iff).1 hx
   have h3:=h x h2.2
   have h4:=h2.1
   omega
  rw[List.length_erase]at h1
  split at h1<;>omega
end Go.Proofs.YtgoelphibofcmaaGreat.V

namespace Go.Proofs.YtgoelphibofcmaaGreat.V
def eE (L:Nat->Nat) (b:PB):Nat->Nat:=fun k=>if L k=max (L b.a) (L b.b)then min (L b.a) (L b.b)else L k
def dX (bs:List PB):Nat->Nat:=bs.foldl eE id
theorem uv (bs:List PB) (b:PB):dX (bs++[b])=eE (dX bs) b:=by simp[dX]
structure ji (L:Nat->Nat):Prop where
 le:∀k,L k<=k
 idem:∀k,L (L k)=L k
theorem ji.step {L:Nat->Nat} (h:ji L) (b:PB):ji (eE L b):=by
 have ha:=h.idem b.a
 have hb:=h.idem b.b
 refine⟨fun k=>?_,fun k=>?_⟩
 ·have:=h.le k
  unfold eE
  split<;>omega
 ·have hk:=h.idem k
  have hm:L (min (L b.a) (L b.b))=min (L b.a) (L b.b):=by
   rcases Nat.le_total (L b.a) (L b.b)with h1|h1
   ·rw[Nat.min_eq_left h1,ha]
   ·rw[Nat.min_eq_right h1,hb]
  unfold eE
  by_cases h1:L k=max (L b.a) (L b.b)
  ·rw[if_pos h1,hm];split<;>rfl
  ·rw[if_neg h1,hk,if_neg h1]
theorem uw:∀(bs:List PB) (L:Nat->Nat),ji L->ji (bs.foldl eE L)
 |[],_,h=>h
 |b::bs,L,h=>uw bs _ (h.step b)
theorem su (bs:List PB):ji (dX bs):=uw bs id ⟨fun _=>Nat.le_refl _,fun _=>rfl⟩
def leads (n:Nat) (L:Nat->Nat):List Nat:=(List.range n).filter fun i=>L i==i
def members (n:Nat) (L:Nat->Nat) (i:Nat):List Nat:=(List.range n).filter fun k=>L k==i
def fb (n:Nat) (L:Nat->Nat):List (List Nat):=(leads n L).map (members n L)
def bx (L:Nat->Nat) (k:Nat):Nat:=(leads (L k) L).length
theorem gC (n:Nat) (L:Nat->Nat):leads (n+1) L=leads n L++if L n=n then[n]else[]:=by
 unfold leads
 rw[List.range_succ,List.filter_append]
 congr 1
 by_cases h:L n=n<;>simp[h]
theorem ja (n:Nat) (L:Nat->Nat) (i:Nat):members (n+1) L i=members n L i++if L n=i then[n]else[]:=by
 unfold members
 rw[List.range_succ,List.filter_append]
 congr 1
 by_cases h:L n=i<;>simp[h]
theorem l7 {L:Nat->Nat} (h:ji L) {n i:Nat} (hn:n<=i):members n L i=[]:=by
 unfold members
 rw[List.filter_eq_nil_iff]
 intro k hk
 have:=h.le k
 have:=List.mem_range.1 hk
 simp;omega
theorem sw (n:Nat) (L:Nat->Nat):(leads n L).Nodup:=List.nodup_range.filter _
theorem xg {n:Nat} {L:Nat->Nat} {i:Nat}:i∈leads n L↔i<n/\L i=i:=by simp[leads]
theorem kY {n:Nat} {L:Nat->Nat} {i k:Nat}:k∈members n L i↔k<n/\L k=i:=by simp[members]
theorem EV {L:Nat->Nat} {m n:Nat} (h:m<=n):∃r,leads n L=leads m L++r:=by
 obtain⟨d,rfl⟩:=Nat.le.dest h
 clear h
 induction d with
 |zero=>exact⟨[],by simp⟩
 |succ d ih=>
  obtain⟨r,hr⟩:=ih
  exact⟨r++if L (m+d)=m+d then[m+d]else[],by rw[<-Nat.add_assoc,gC,hr,List.append_assoc]⟩
theorem oh {L:Nat->Nat} (h:ji L) {n k:Nat} (hk:k<n):(leads n L)[bx L k]? =some (L k):=by
 have h1:=h.le k
 obtain⟨r,hr⟩:=EV (L:=L) (show L k+1<=n by omega)
 rw[hr,gC,if_pos (h.idem k),List.append_assoc]
 unfold bx
 rw[List.getElem?_append_right (Nat.le_refl _),Nat.sub_self];rfl
theorem jM {L:Nat->Nat} (h:ji L) {n k:Nat} (hk:k<n):bx L k<(leads n L).length:=(List.getElem?_eq_some_iff.1 (oh h hk)).1
theorem rK {L:Nat->Nat} (h:ji L) {n k i:Nat} (hk:k<n) (hi:i<(leads n L).length):k∈members n L (leads n L)[i]↔bx L k=i:=by
 rw[kY]
 have h1:=oh h hk
 rw[List.getElem?_eq_getElem (jM h hk)]at h1
 injection h1 with h1
 constructor
 ·rintro⟨_,h2⟩
  rw[<-h1]at h2
  exact(List.getElem_inj (sw n L)).1 h2
 ·rintro rfl
  exact⟨hk,h1.symm⟩
def dh (L:Nat->Nat) (bs:List PB):List PB:=bs.filterMap fun b=>if bx L b.a=bx L b.b then none else some ⟨bx L b.a,bx L b.b,b.s⟩
def eP (L:Nat->Nat) (bs:List PB):List PB:=bs.filterMap fun b=>if bx L b.a=bx L b.b then none else some ⟨min (bx L b.a) (bx L b.b),max (bx L b.a) (bx L b.b),b.s⟩
theorem yM (L:Nat->Nat) (bs:List PB) (b:PB):dh L (bs++[b])=dh L bs++if bx L b.a=bx L b.b then[]else[⟨bx L b.a,bx L b.b,b.s⟩]:=by
 unfold dh
 rw[List.filterMap_append]
 congr 1
 by_cases h:bx L b.a=bx L b.b<;>simp[h]
theorem yN (L:Nat->Nat) (bs:List PB) (b:PB):eP L (bs++[b])=eP L bs++if bx L b.a=bx L b.b then[]else[⟨min (bx L b.a) (bx L b.b),max (bx L b.a) (bx L b.b),b.s⟩]:=by
 unfold eP
 rw[List.filterMap_append]
 congr 1
 by_cases h:bx L b.a=bx L b.b<;>simp[h]
theorem q9 (S:Nat->Bool) (b:PB) (bs:List PB):iM S (b::bs)=(if S b.a=S b.b then 0 else b.s)+iM S bs:=by simp[iM]
theorem wH (S:Nat->Bool) (L:Nat->Nat):∀bs:List PB,iM S (eP L bs)=iM S (dh L bs)
 |[]=>rfl
 |b::bs=>by
  have ih:=wH S L bs
  unfold eP dh at ih ⊢
  rw[List.filterMap_cons,List.filterMap_cons]
  by_cases h:bx L b.a=bx L b.b
  ·simp only[h,if_true];exact ih
  ·simp only[h,if_false]
   rw[q9,q9,ih]
   congr 1
   simp only
   rcases Nat.le_total (bx L b.a) (bx L b.b)with h1|h1
   ·rw[Nat.min_eq_left h1,Nat.max_eq_right h1]
   ·rw[Nat.min_eq_right h1,Nat.max_eq_left h1]
    cases S (bx L b.a)<;>cases S (bx L b.b)<;>rfl
theorem CB {L:Nat->Nat} (h:ji L) {n:Nat} {bs:List PB} (hb:∀b∈bs,b.a<n/\b.b<n):∀b∈dh L bs,b.a<(leads n L).length/\b.b<(leads n L).length/\b.a≠b.b/\∃c∈bs,b.s=c.s:=by
 intro b hm
 unfold dh at hm
 obtain⟨c,hc,he⟩:=List.mem_filterMap.1 hm
 split at he
 ·cases he
 ·rename_i gI
  simp only[Option.some.injEq]at he
  subst he
  exact⟨jM h (hb c hc).1,jM h (hb c hc).2,gI,c,hc,rfl⟩
theorem CC {L:Nat->Nat} (h:ji L) {n:Nat} {bs:List PB} (hb:∀b∈bs,b.a<n/\b.b<n):∀b∈eP L bs,b.a<(leads n L).length/\b.b<(leads n L).length/\b.a≠b.b/\∃c∈bs,b.s=c.s:=by
 intro b hm
 unfold eP at hm
 obtain⟨c,hc,he⟩:=List.mem_filterMap.1 hm
 split at he
 ·cases he
 ·rename_i gI
  simp only[Option.some.injEq]at he
  subst he
  have h1:=jM h (hb c hc).1
  have h2:=jM h (hb c hc).2
  refine⟨by simp only;omega,by simp only;omega,by simp only;omega,c,hc,rfl⟩
theorem mb (L:Nat->Nat) (bs:List PB):(dh L bs).length<=bs.length/\(eP L bs).length<=bs.length:=⟨List.length_filterMap_le ..,List.length_filterMap_le ..⟩
theorem ju (n:Nat) (L:Nat->Nat):(leads n L).length<=n:=by
 have:=List.length_filter_le (fun i=>L i==i) (List.range n)
 simpa[leads]using this
def aF (t:Int) (bs:List PB):List PB:=bs.filter fun b=>decide (t<=b.s)
def n9 (n:Nat) (bs:List PB) (t:Int):Prop:=
 (leads n (dX (aF t bs))).length<=64/\j7 (leads n (dX (aF t bs))).length (dh (dX (aF t bs)) bs) t
theorem B3 {n:Nat} {L:Nat->Nat} {bs:List PB} {t:Int}:j7 n (eP L bs) t↔j7 n (dh L bs) t:=by
 unfold j7
 constructor<;>intro h S h0 hy<;>have:=h S h0 hy<;>rw[wH]at *<;>exact this
end Go.Proofs.YtgoelphibofcmaaGreat.V

namespace Go.Proofs.YtgoelphibofcmaaGreat.V
open Go.RowKit
attribute [local irreducible] dx wpOps gp Call
attribute [local go_sem] aH fC eG fW fV cF upd cj K.av cJ AV.cells AV.cell rowOf rowsOf part ld rowAt bj bY dz eb gT bE cZ er fS eU dp eh cX cW dR dS bH aW cN bG cQ cP ee ei ef cL bP cY ec bF aL cU cw gS bl cG bI aP dd aU dB AV.undef bw bB dV ea dI dG cE ep ev cq ek ej cR cV List.getD_cons_zero List.getD_cons_succ List.getD_nil List.all_cons List.all_nil Bool.and_true Bool.true_and Bool.and_self Bool.not_true Bool.not_false Option.map_some Option.map_none Option.bind_some Option.bind_none List.length_cons List.length_nil List.take_succ_cons List.take_zero List.take_nil List.drop_succ_cons List.drop_zero List.drop_nil List.head?_cons List.map_cons List.map_nil List.getElem?_cons_zero List.getElem?_cons_succ List.cons_append List.nil_append List.append_nil List.length_map List.set_cons_zero List.set_cons_succ Nat.reduceMul eq_self Int.toNat_natCast Int.natCast_nonneg and_self true_and and_true decide_true decide_false Bool.false_eq_true Nat.zero_add Nat.add_zero List.contains_cons List.contains_nil Bool.or_false Bool.false_or beq_self_eq_true Nat.reduceBEq ne_eq not_true_eq_false not_false_eq_true Id.mk.injEq false_and and_false Nat.reduceLT Int.reduceLE Int.reduceLT Int.reduceToNat Int.reduceNeg Int.reduceAdd Nat.le_refl List.length_append beq_true beq_false Bool.not_eq_eq_eq_not or_false false_or dO ah aq aI aZ bt ck aS bf aO aY cK bK
def aw (b:PB):List AV:=[.int .i64 b.a,.int .i64 b.b,.int .i64 b.s]
theorem K5:∀b:PB,(aw b).length=3/\(aw b).all AV.cell=true:=fun _=>⟨rfl,rfl⟩
theorem x7 (g:Rows) (n:Nat) (b:PB):da g (n+1) (aw b)=some (aw b):=by simp[aw,ah,aq,aI]
theorem s7 (g:Rows) (n:Nat) (b:PB):dU g (n+1) (aw b)=some (aw b):=by simp[aw,aX,bD,dQ]
theorem Gr:NP aw (fun c=>.agg (aw c)) 3 true:=⟨fun _=>rfl,fun _=>rfl,fun x g=>by simp only[aw,ah,aq,bf,aI,Option.map_some]⟩
def lY (s:au) (l:List ad) (i:Nat) (d:Int):List PB:=
 if 0<=dZ l (dm (aE l i).aJ d)/\0<gF s (aE l i).aN d (aE l (dZ l (dm (aE l i).aJ d)).toNat).aN then
  [⟨i,(dZ l (dm (aE l i).aJ d)).toNat,gF s (aE l i).aN d (aE l (dZ l (dm (aE l i).aJ d)).toNat).aN⟩]else[]
def fF (s:au) (l:List ad) (i m:Nat):List PB:=(List.range m).flatMap fun j:Nat=>lY s l i (1-(j:Int))
def gy (s:au) (l:List ad) (n:Nat):List PB:=(List.range n).flatMap fun i=>fF s l i 2
def cz (s:au) (l:List ad):List PB:=gy s l l.length
theorem oO (s:au) (l:List ad) (i m:Nat):fF s l i (m+1)=fF s l i m++lY s l i (1-(m:Int)):=by simp[fF,List.range_succ]
theorem pW (s:au) (l:List ad) (n:Nat):gy s l (n+1)=gy s l n++fF s l n 2:=by simp[gy,List.range_succ]
theorem Bw (s:au) (l:List ad) (i:Nat) (d:Int):(lY s l i d).length<=1:=by unfold lY;split<;>simp
theorem pV (s:au) (l:List ad) (i m:Nat):(fF s l i m).length<=m:=by
 induction m with
 |zero=>simp[fF]
 |succ m ih=>rw[oO,List.length_append];have:=Bw s l i (1-(m:Int));omega
theorem r9 (s:au) (l:List ad) (n:Nat):(gy s l n).length<=2*n:=by
 induction n with
 |zero=>simp[gy]
 |succ n ih=>rw[pW,List.length_append];have:=pV s l n 2;omega
def sB:Id->Prop:=fun o=>o.site=193001000∨o.site=193012006
theorem Cd (s:au) (l:List ad) (hS:j6 s) (hA:jn s l):aj Tryz.prog 193 [.cI (aa s),.cI [.sl (l.map ab)]] (.sl ((cz s l).map aw)):=by
 refine aj.body eI rfl fun hl n0=>?_
 clear hl
 have hF:=hA.1
 have GQ:=hF.rf
 (try((repeat(revert hN;revert N;apply Pn.out));refine wk @Nat.zero_add ?_;(repeat(refine Pn.mk ?_;intro N hN))))
 refine aQ (fun n env st=>∃k:Nat,n=(l.length)-k/\k<=(l.length)/\env 6=.int .i64 (k:Int)/\(lV aw 3 (env 5) st.get sB (gy s l k))) (l.length) ⟨0,by omega,by omega,sl @Nat.zero_add,⟨⟨193001000,n0+1⟩,.inl rfl,by simp only[go_sem, ↓reduceIte,Nat.reduceEqDiff,Nat.reduceAdd,Nat.reduceSub,Nat.reduceLeDiff,reduceCtorEq];rfl,by simp only[go_sem, ↓reduceIte,Nat.reduceEqDiff,Nat.reduceAdd,Nat.reduceSub,Nat.reduceLeDiff,reduceCtorEq];rfl⟩⟩ ?_
 rintro n_a env_a st_a ⟨k,rfl,ale,a6,pU⟩ dY
 have a0:=dY 0 (by kernel_rfl);have a1:=dY 1 (by kernel_rfl)
 simp only[go_sem, ↓reduceIte,Nat.reduceEqDiff,Nat.reduceAdd,Nat.reduceSub,Nat.reduceLeDiff,reduceCtorEq]at a0 a1
 clear dY
 by_cases hk:(k:Int)<(l.length:Int)
 ·have cH:∀{e:Env} {gg:Rows},(e 6=.int .i64 (IntKind.i64.wrap ((k:Int)+1)))->(lV aw 3 (e 5) gg sB (gy s l (k+1)))->∃m0,m0<(l.length)-k/\∃k:Nat,m0=(l.length)-k/\k<=(l.length)/\e 6=.int .i64 (k:Int)/\(lV aw 3 (e 5) gg sB (gy s l k)):=fun x1 x2=>⟨_,by omega,k+1,rfl,by omega,(by rw[x1,aA (by omega)]),x2⟩
  have fG:k<l.length:=by omega
  have eJ:=fa fG
  have QA:=r9 s l k
  (try((repeat(revert hN;revert N;apply Pn.out));refine wk (tw @a6 (tw @a0 (tw @a1 @hk))) ?_;(repeat(refine Pn.mk ?_;intro N hN))))
  refine aQ (fun n env st=>∃m:Nat,n=(2)-m/\m<=(2)/\env 7=(.int .i64 (1-(m:Int)))/\(lV aw 3 (env 5) st.get sB (gy s l k++fF s l k m))) (2) ⟨0,by omega,by omega,sl (tw @a6 (tw @a0 @a1)),by(simp only[go_sem, ↓reduceIte,Nat.reduceEqDiff,Nat.reduceAdd,Nat.reduceSub,Nat.reduceLeDiff,reduceCtorEq];exact pU.cast (by simp[fF]))⟩ ?_
  rintro n_b env_b st_b ⟨m,rfl,ble,b7,bI0⟩ fE
  have b0:=fE 0 (by kernel_rfl);have b1:=fE 1 (by kernel_rfl);have b6:=fE 6 (by kernel_rfl)
  simp only[go_sem, ↓reduceIte,Nat.reduceEqDiff,Nat.reduceAdd,Nat.reduceSub,Nat.reduceLeDiff,reduceCtorEq,a6,a0,a1]at b0 b1 b6
  clear fE
  have Qg:=pV s l k m
  have kT:=oO s l k m
  by_cases hm:(m:Int)<2
  ·have fK:∀{e:Env} {gg:Rows},(e 7=(.int .i64 (1-((m+1):Int))))->(lV aw 3 (e 5) gg sB (gy s l k++fF s l k (m+1)))->∃m0,m0<(2)-m/\∃m:Nat,m0=(2)-m/\m<=(2)/\e 7=(.int .i64 (1-(m:Int)))/\(lV aw 3 (e 5) gg sB (gy s l k++fF s l k m)):=fun x1 x2=>⟨_,by omega,m+1,rfl,by omega,x1,x2⟩
   have pq:(0:Int)<=1-(m:Int):=by omega
   have hd:iI (1-(m:Int)) 0 3=true:=kg (by omega)
   have hw:IntKind.i64.wrap (1-(m:Int)-1)=1-((m:Int)+1):=by rw[bW (by omega)];omega
   have Qs:=wb l hF k (1-(m:Int)) fG hd
   unfold lY at kT
   have hT:=hA.2 _ (gj fG)
   generalize EB:dZ l (dm (aE l k).aJ (1-(m:Int)))=ix at *
   by_cases hi:ix<0
   ·rw[if_neg (by omega),List.append_nil]at kT
    (repeat(first|((repeat(revert hN;revert N;apply Pn.out));refine wk (tw @b7 (tw @b0 (tw @b1 (tw @b6 (tw @pq (tw @hw @hi)))))) ?_;(repeat(refine Pn.mk ?_;intro N hN)))|((try apply Or.inl);refine⟨_,aj.x (Qs) (sd (tw @b7 (tw @b0 (tw @b1 (tw @b6 (tw @pq (tw @hw @hi))))))),?_⟩;refine hN _ _ ?_;clear hN N)))
    exact fK (sd (tw @b7 (tw @b0 (tw @b1 (tw @b6 @hw))))) (by(simp only[go_sem, ↓reduceIte,Nat.reduceEqDiff,Nat.reduceAdd,Nat.reduceSub,Nat.reduceLeDiff,reduceCtorEq];exact bI0.cast (by rw[kT])))
   ·have FJ:0<=ix:=by omega
    have L5:=kU (l:=l) (p:=dm (aE l k).aJ (1-(m:Int))) (by omega)
    rw[EB]at L5
    have jJ:=fa L5.1
    have vp:=xd s hS (aE l k).aN (1-(m:Int)) (aE l ix.toNat).aN hT (hA.2 _ (gj L5.1)) hd
    generalize Qd:gF s (aE l k).aN (1-(m:Int)) (aE l ix.toNat).aN=bv at *
    by_cases hb:0<bv
    ·rw[if_pos ⟨FJ,hb⟩]at kT
     (repeat(first|((repeat(revert hN;revert N;apply Pn.out));refine wa (tw @b7 (tw @b0 (tw @b1 (tw @b6 (tw @pq (tw @hw (tw @hi (tw @FJ (tw @eJ (tw @jJ (tw @hb @ab.eq_1))))))))))) ?_;(repeat(refine Pn.mk ?_;intro N hN)))|((try apply Or.inl);refine⟨_,aj.x (Qs) (sd (tw @b7 (tw @b0 (tw @b1 (tw @b6 (tw @pq (tw @hw (tw @hi (tw @FJ (tw @eJ (tw @jJ (tw @hb @ab.eq_1)))))))))))),?_⟩;refine hN _ _ ?_;clear hN N)|((try apply Or.inl);refine⟨_,aj.x (vp) (sd (tw @b7 (tw @b0 (tw @b1 (tw @b6 (tw @pq (tw @hw (tw @hi (tw @FJ (tw @eJ (tw @jJ (tw @hb @ab.eq_1)))))))))))),?_⟩;refine hN _ _ ?_;clear hN N)))
     refine MX (enc:=aw) (S:=sB) (L:=gy s l k++fF s l k m) (xv:=env_b 5) [⟨k,ix.toNat,bv⟩] rfl rfl (sd @Nat.zero_add) (bI0.frame fun o ho=>by rcases ho with ho|ho<;>simp only[go_sem, ↓reduceIte,Nat.reduceEqDiff,Nat.reduceAdd,Nat.reduceSub,Nat.reduceLeDiff,reduceCtorEq,yO ho]) (sd (tw @aw.eq_1 (Int.toNat_of_nonneg FJ))) K5 (.inr rfl) (by simp only[dB,List.length_append,List.length_cons,List.length_nil];omega) fun v g' hO js=>?_
     rw[List.append_assoc,<-kT]at hO
     clear js
     (try((repeat(revert hN;revert N;apply Pn.out));refine wk (tw @b7 (tw @b0 (tw @b1 (tw @b6 @hw)))) ?_;(repeat(refine Pn.mk ?_;intro N hN))))
     exact fK (sd (tw @b7 (tw @b0 (tw @b1 (tw @b6 @hw))))) (by(simp only[go_sem, ↓reduceIte,Nat.reduceEqDiff,Nat.reduceAdd,Nat.reduceSub,Nat.reduceLeDiff,reduceCtorEq];exact hO))
    ·rw[if_neg fun h=>hb h.2,List.append_nil]at kT
     (repeat(first|((repeat(revert hN;revert N;apply Pn.out));refine wk (tw @b7 (tw @b0 (tw @b1 (tw @b6 (tw @pq (tw @hw (tw @hi (tw @FJ (tw @eJ (tw @jJ (tw @hb @ab.eq_1))))))))))) ?_;(repeat(refine Pn.mk ?_;intro N hN)))|((try apply Or.inl);refine⟨_,aj.x (Qs) (sd (tw @b7 (tw @b0 (tw @b1 (tw @b6 (tw @pq (tw @hw (tw @hi (tw @FJ (tw @eJ (tw @jJ (tw @hb @ab.eq_1)))))))))))),?_⟩;refine hN _ _ ?_;clear hN N)|((try apply Or.inl);refine⟨_,aj.x (vp) (sd (tw @b7 (tw @b0 (tw @b1 (tw @b6 (tw @pq (tw @hw (tw @hi (tw @FJ (tw @eJ (tw @jJ (tw @hb @ab.eq_1)))))))))))),?_⟩;refine hN _ _ ?_;clear hN N)))
     exact fK (sd (tw @b7 (tw @b0 (tw @b1 (tw @b6 @hw))))) (by(simp only[go_sem, ↓reduceIte,Nat.reduceEqDiff,Nat.reduceAdd,Nat.reduceSub,Nat.reduceLeDiff,reduceCtorEq];exact bI0.cast (by rw[kT])))
  ·have IP:m=2:=by omega
   subst IP
   have dE:¬(0:Int)<=1-((2:Nat):Int):=by omega
   (try((repeat(revert hN;revert N;apply Pn.out));refine wk (tw @b7 (tw @b0 (tw @b1 (tw @b6 @dE)))) ?_;(repeat(refine Pn.mk ?_;intro N hN))))
   exact cH (sd (tw @a6 (tw @a0 (tw @a1 (tw @b7 (tw @b0 (tw @b1 @b6))))))) (by(simp only[go_sem, ↓reduceIte,Nat.reduceEqDiff,Nat.reduceAdd,Nat.reduceSub,Nat.reduceLeDiff,reduceCtorEq];exact bI0.cast (by rw[pW])))
 ·have lq:k=l.length:=by omega
  (try((repeat(revert hN;revert N;apply Pn.out));refine wk (tw @a6 (tw @a0 (tw @a1 @hk))) ?_;(repeat(refine Pn.mk ?_;intro N hN))))
  exact uN (.inl rfl) (by simp only[go_sem, ↓reduceIte,Nat.reduceEqDiff,Nat.reduceAdd,Nat.reduceSub,Nat.reduceLeDiff,reduceCtorEq];rfl) (by rw[lq]at pU;exact pU.fZ fun b=>s7 _ _ b)
end Go.Proofs.YtgoelphibofcmaaGreat.V

namespace Go.Proofs.YtgoelphibofcmaaGreat.V
open Go.RowKit
attribute [local irreducible] dx wpOps gp Call
attribute [local go_sem] aH fC eG fW fV cF upd cj K.av cJ AV.cells AV.cell rowOf rowsOf part ld rowAt bj bY dz eb gT bE cZ er fS eU dp eh cX cW dR dS bH aW cN bG cQ cP ee ei ef cL bP cY ec bF aL cU cw gS bl cG bI aP dd aU dB AV.undef bw bB dV ea dI dG cE ep ev cq ek ej cR cV List.getD_cons_zero List.getD_cons_succ List.getD_nil List.all_cons List.all_nil Bool.and_true Bool.true_and Bool.and_self Bool.not_true Bool.not_false Option.map_some Option.map_none Option.bind_some Option.bind_none List.length_cons List.length_nil List.take_succ_cons List.take_zero List.take_nil List.drop_succ_cons List.drop_zero List.drop_nil List.head?_cons List.map_cons List.map_nil List.getElem?_cons_zero List.getElem?_cons_succ List.cons_append List.nil_append List.append_nil List.length_map List.set_cons_zero List.set_cons_succ Nat.reduceMul eq_self Int.toNat_natCast Int.natCast_nonneg and_self true_and and_true decide_true decide_false Bool.false_eq_true Nat.zero_add Nat.add_zero List.contains_cons List.contains_nil Bool.or_false Bool.false_or beq_self_eq_true Nat.reduceBEq ne_eq not_true_eq_false not_false_eq_true Id.mk.injEq false_and and_false Nat.reduceLT Int.reduceLE Int.reduceLT Int.reduceToNat Int.reduceNeg Int.reduceAdd Nat.le_refl List.length_append beq_true beq_false Bool.not_eq_eq_eq_not or_false false_or dO ah aq aI aZ bt ck aS bf aO aY cK bK
theorem An (a b:Nat):aj Tryz.prog 215 [.int .i64 a,.int .i64 b] (.int .i64 (min a b:Nat)):=by
 refine aj.body eI rfl fun hl n0=>?_
 clear hl
 by_cases h:(a:Int)<(b:Int)
 ·(try((repeat(revert hN;revert N;apply Pn.out));refine wk @h ?_;(repeat(refine Pn.mk ?_;intro N hN))))
  exact bZ (b:=(a:Int)) (.inl rfl) (sd @Nat.zero_add) (by omega)
 ·(try((repeat(revert hN;revert N;apply Pn.out));refine wk @h ?_;(repeat(refine Pn.mk ?_;intro N hN))))
  exact bZ (b:=(b:Int)) (.inl rfl) (sd @Nat.zero_add) (by omega)
theorem Am (a b:Nat):aj Tryz.prog 216 [.int .i64 a,.int .i64 b] (.int .i64 (max a b:Nat)):=by
 refine aj.body eI rfl fun hl n0=>?_
 clear hl
 by_cases h:(b:Int)<(a:Int)
 ·(try((repeat(revert hN;revert N;apply Pn.out));refine wk @h ?_;(repeat(refine Pn.mk ?_;intro N hN))))
  exact bZ (b:=(a:Int)) (.inl rfl) (sd @Nat.zero_add) (by omega)
 ·(try((repeat(revert hN;revert N;apply Pn.out));refine wk @h ?_;(repeat(refine Pn.mk ?_;intro N hN))))
  exact bZ (b:=(b:Int)) (.inl rfl) (sd @Nat.zero_add) (by omega)
def du (f:Nat->Nat) (n:Nat):List (List AV):=(List.range n).map fun i=>eN (f i)
theorem fM (f:Nat->Nat) (n:Nat):(du f n).length=n:=by simp[du]
theorem eY {f:Nat->Nat} {n i:Nat} (h:i<n):(du f n)[i]? =some (eN (f i)):=by simp[du,h]
theorem gJ {f g:Nat->Nat} {n:Nat} (h:∀i,i<n->f i=g i):du f n=du g n:=List.map_congr_left fun i hi=>by rw[h i (List.mem_range.1 hi)]
theorem oE {f g:Nat->Nat} {n k v:Nat} (hk:k<n) (hv:g k=v) (h:∀i,i<n->i≠k->g i=f i):(du f n).set k (eN v)=du g n:=by
 refine List.ext_getElem? fun i=>?_
 rw[List.getElem?_set]
 by_cases hi:k=i
 ·subst hi
  rw[if_pos rfl,fM,if_pos hk,eY hk,hv]
 ·rw[if_neg hi]
  by_cases e9:i<n
  ·rw[eY e9,eY e9,h i e9 (fun h=>hi h.symm)]
  ·rw[List.getElem?_eq_none (by rw[fM];omega),List.getElem?_eq_none (by rw[fM];omega)]
theorem Ap (cnt:Nat) (hn:cnt<=1048576) (bs:List PB) (hb:∀b∈bs,b.a<cnt/\b.b<cnt) (oQ:bs.length<=1048576):aj Tryz.prog 214 [.int .i64 cnt,.sl (bs.map aw)] (.sl ((fb cnt (dX bs)).map zg)):=by
 refine aj.body eI rfl fun hl n0=>?_
 clear hl
 (try((repeat(revert hN;revert N;apply Pn.out));refine wk @Nat.zero_add ?_;(repeat(refine Pn.mk ?_;intro N hN))))
 refine aQ (fun n env st=>∃k:Nat,n=(cnt)-k/\k<=(cnt)/\env 6=.int .i64 (k:Int)/\(∃o:Id,env 5=.own o 0 k/\st.get o=some ⟨true,1,du id k⟩/\o.bQ<st.next)) (cnt) ⟨0,by omega,by omega,sl @Nat.zero_add,⟨⟨214001000,n0+1⟩,sd @Nat.zero_add,by simp only[go_sem, ↓reduceIte,Nat.reduceEqDiff,Nat.reduceAdd,Nat.reduceSub,Nat.reduceLeDiff,reduceCtorEq];rfl,by(try dsimp only);omega⟩⟩ ?_
 rintro n_a env_a st_a ⟨k,rfl,ale,a6,pU⟩ dY
 have a0:=dY 0 (by kernel_rfl);have a1:=dY 1 (by kernel_rfl)
 simp only[go_sem, ↓reduceIte,Nat.reduceEqDiff,Nat.reduceAdd,Nat.reduceSub,Nat.reduceLeDiff,reduceCtorEq]at a0 a1
 clear dY
 obtain⟨o,a5,ag,yj⟩:=pU
 have tl:=fM id k
 have qR:=dD yj
 by_cases hk:(k:Int)<(cnt:Int)
 ·have cH:∀{e:Env} {gg:Rows} {nx:Nat},(e 6=.int .i64 (IntKind.i64.wrap ((k:Int)+1)))->(∃o:Id,e 5=.own o 0 (k+1)/\gg o=some ⟨true,1,du id (k+1)⟩/\o.bQ<nx)->∃m0,m0<(cnt)-k/\∃k:Nat,m0=(cnt)-k/\k<=(cnt)/\e 6=.int .i64 (k:Int)/\(∃o:Id,e 5=.own o 0 k/\gg o=some ⟨true,1,du id k⟩/\o.bQ<nx):=fun x1 x2=>⟨_,by omega,k+1,rfl,by omega,(by rw[x1,aA (by omega)]),x2⟩
  have fG:k<cnt:=by omega
  have e1:k+1<=16777216:=by omega
  have rD:du id k++[[.int .i64 (k:Int)]]=du id (k+1):=by simp[du,List.range_succ,eN]
  (try((repeat(revert hN;revert N;apply Pn.out));refine wk (tw @a6 (tw @a0 (tw @a1 (tw @a5 (tw @ag (tw @qR (tw @hk (tw @tl (tw @e1 @rD))))))))) ?_;(repeat(refine Pn.mk ?_;intro N hN))))
  exact cH (sd (tw @a6 (tw @a0 @a1))) (⟨⟨214005003,st_a.next+1⟩,sd @Nat.zero_add,sd @rD,by(try dsimp only);omega⟩)
 have lq:k=cnt:=by omega
 subst lq
 have R6:st_a.get o=some ⟨true,1,du (dX (bs.take 0)) k⟩:=ag
 clear ag
 (try((repeat(revert hN;revert N;apply Pn.out));refine wk (tw @a6 (tw @a0 (tw @a1 @hk))) ?_;(repeat(refine Pn.mk ?_;intro N hN))))
 refine aQ (fun n env st=>∃j:Nat,n=(bs.length)-j/\j<=(bs.length)/\env 7=.int .i64 (j:Int)/\st.get o=some ⟨true,1,du (dX (bs.take j)) k⟩/\(o.bQ<st.next)) (bs.length) ⟨0,by omega,by omega,sl (tw @a6 (tw @a0 (tw @a1 (tw @a5 @R6)))),sl (tw @a6 (tw @a0 (tw @a1 (tw @a5 @R6)))),(by(try dsimp only);omega)⟩ ?_
 rintro n_b env_b st_b ⟨j,rfl,ble,b7,bg0,bI0⟩ fE
 have b0:=fE 0 (by kernel_rfl);have b1:=fE 1 (by kernel_rfl);have b5:=fE 5 (by kernel_rfl)
 simp only[go_sem, ↓reduceIte,Nat.reduceEqDiff,Nat.reduceAdd,Nat.reduceSub,Nat.reduceLeDiff,reduceCtorEq,a6,a0,a1,a5,R6]at b0 b1 b5
 clear fE
 by_cases hj:(j:Int)<(bs.length:Int)
 ·have fK:∀{e:Env} {gg:Rows} {nx:Nat},(e 7=.int .i64 (IntKind.i64.wrap ((j:Int)+1)))->(gg o=some ⟨true,1,du (dX (bs.take (j+1))) k⟩)->(o.bQ<nx)->∃m0,m0<(bs.length)-j/\∃j:Nat,m0=(bs.length)-j/\j<=(bs.length)/\e 7=.int .i64 (j:Int)/\gg o=some ⟨true,1,du (dX (bs.take j)) k⟩/\(o.bQ<nx):=fun x1 x2 x3=>⟨_,by omega,j+1,rfl,by omega,(by rw[x1,aA (by omega)]),x2,x3⟩
  have mW:j<bs.length:=by omega
  have FI:(bs.map aw)[j]? =some (aw bs[j]):=by simp[mW]
  have KE:=hb _ (List.getElem_mem mW)
  have mQ:bs.take (j+1)=bs.take j++[bs[j]]:=List.take_succ_eq_append_getElem mW
  have kT:dX (bs.take (j+1))=eE (dX (bs.take j)) bs[j]:=by rw[mQ,uv]
  generalize dX (bs.take j)=L at *
  generalize bs[j]=b at *
  have hA:=eY (f:=L) KE.1
  have hB:=eY (f:=L) KE.2
  have P4:=An (L b.a) (L b.b)
  have P5:=Am (L b.a) (L b.b)
  have tl:=fM L k
  have gq:(b.a:Int)<(k:Int):=by omega
  have fA:(b.b:Int)<(k:Int):=by omega
  (try((repeat(revert hN;revert N;apply Pn.out));refine wk (tw @b7 (tw @bg0 (tw @b0 (tw @b1 (tw @b5 (tw @hj (tw @FI (tw @aw.eq_1 (tw @hA (tw @hB (tw @gq (tw @fA (tw @tl @eN.eq_1))))))))))))) ?_;(repeat(refine Pn.mk ?_;intro N hN))))
  refine aQ (fun n env st=>∃i:Nat,n=(k)-i/\i<=(k)/\env 10=.int .i64 (i:Int)/\st.get o=some ⟨true,1,du (fun x=>if x<i then eE L b x else L x) k⟩/\(o.bQ<st.next)) (k) ⟨0,by omega,by omega,sl (tw @b7 (tw @bg0 (tw @b0 (tw @b1 (tw @b5 @Nat.not_lt_zero))))),sl (tw @b7 (tw @bg0 (tw @b0 (tw @b1 (tw @b5 @Nat.not_lt_zero))))),(by(try dsimp only);omega)⟩ ?_
  rintro n_c env_c st_c ⟨i,rfl,cle,jd,cg0,cI0⟩ cfr
  have c0:=cfr 0 (by kernel_rfl);have c1:=cfr 1 (by kernel_rfl);have c5:=cfr 5 (by kernel_rfl);have c7:=cfr 7 (by kernel_rfl);have c8:=cfr 8 (by kernel_rfl);have c9:=cfr 9 (by kernel_rfl)
  simp only[go_sem, ↓reduceIte,Nat.reduceEqDiff,Nat.reduceAdd,Nat.reduceSub,Nat.reduceLeDiff,reduceCtorEq,b7,bg0,b0,b1,b5,Nat.not_lt_zero]at c0 c1 c5 c7 c8 c9
  clear cfr
  have hC:=eY (f:=fun x=>if x<i then eE L b x else L x) (n:=k) (i:=i)
  have tc:=fM (fun x=>if x<i then eE L b x else L x) k
  by_cases hi:(i:Int)<(k:Int)
  ·have gO:∀{e:Env} {gg:Rows} {nx:Nat},(e 10=.int .i64 (IntKind.i64.wrap ((i:Int)+1)))->(gg o=some ⟨true,1,du (fun x=>if x<(i+1)then eE L b x else L x) k⟩)->(o.bQ<nx)->∃m0,m0<(k)-i/\∃i:Nat,m0=(k)-i/\i<=(k)/\e 10=.int .i64 (i:Int)/\gg o=some ⟨true,1,du (fun x=>if x<i then eE L b x else L x) k⟩/\(o.bQ<nx):=fun x1 x2 x3=>⟨_,by omega,i+1,rfl,by omega,(by rw[x1,aA (by omega)]),x2,x3⟩
   have e9:i<k:=by omega
   replace hC:=hC e9
   rw[if_neg (Nat.lt_irrefl i)]at hC
   by_cases he:L i=max (L b.a) (L b.b)
   ·have td:decide ((L i:Int)=((max (L b.a) (L b.b):Nat):Int))=true:=decide_eq_true (by rw[he])
    have fc:(du (fun x=>if x<i then eE L b x else L x) k).set i (eN (min (L b.a) (L b.b)))=du (fun x=>if x<i+1 then eE L b x else L x) k:=oE e9 (by rw[if_pos (by omega),eE,if_pos he]) fun x hx Bg=>by
     by_cases h:x<i
     ·rw[if_pos h,if_pos (by omega)]
     ·rw[if_neg h,if_neg (by omega)]
    rw[eN]at fc hC
    (repeat(first|((repeat(revert hN;revert N;apply Pn.out));refine wk (tw @jd (tw @cg0 (tw @c0 (tw @c1 (tw @c5 (tw @c7 (tw @c8 (tw @c9 (tw @hi (tw @hC (tw @tc (tw @td @fc)))))))))))) ?_;(repeat(refine Pn.mk ?_;intro N hN)))|((try apply Or.inl);refine⟨_,aj.x (P4) (sd (tw @jd (tw @cg0 (tw @c0 (tw @c1 (tw @c5 (tw @c7 (tw @c8 (tw @c9 (tw @hi (tw @hC (tw @tc (tw @td @fc))))))))))))),?_⟩;refine hN _ _ ?_;clear hN N)|((try apply Or.inl);refine⟨_,aj.x (P5) (sd (tw @jd (tw @cg0 (tw @c0 (tw @c1 (tw @c5 (tw @c7 (tw @c8 (tw @c9 (tw @hi (tw @hC (tw @tc (tw @td @fc))))))))))))),?_⟩;refine hN _ _ ?_;clear hN N)))
    refine gO ?_ ?_ (by(try dsimp only);omega)
    all_goals simp only[go_sem, ↓reduceIte,Nat.reduceEqDiff,Nat.reduceAdd,Nat.reduceSub,Nat.reduceLeDiff,reduceCtorEq,jd,cg0,c0,c1,c5,c7,c8,c9]
   ·have td:decide ((L i:Int)=((max (L b.a) (L b.b):Nat):Int))=false:=decide_eq_false fun h=>he (by omega)
    have lF:du (fun x=>if x<i then eE L b x else L x) k=du (fun x=>if x<i+1 then eE L b x else L x) k:=gJ fun x hx=>by
     by_cases h:x<i
     ·rw[if_pos h,if_pos (by omega)]
     ·by_cases Bg:x=i
      ·subst Bg;rw[if_neg h,if_pos (by omega),eE,if_neg he]
      ·rw[if_neg h,if_neg (by omega)]
    rw[eN]at hC
    (repeat(first|((repeat(revert hN;revert N;apply Pn.out));refine wk (tw @jd (tw @cg0 (tw @c0 (tw @c1 (tw @c5 (tw @c7 (tw @c8 (tw @c9 (tw @hi (tw @hC (tw @tc @td))))))))))) ?_;(repeat(refine Pn.mk ?_;intro N hN)))|((try apply Or.inl);refine⟨_,aj.x (P4) (sd (tw @jd (tw @cg0 (tw @c0 (tw @c1 (tw @c5 (tw @c7 (tw @c8 (tw @c9 (tw @hi (tw @hC (tw @tc @td)))))))))))),?_⟩;refine hN _ _ ?_;clear hN N)|((try apply Or.inl);refine⟨_,aj.x (P5) (sd (tw @jd (tw @cg0 (tw @c0 (tw @c1 (tw @c5 (tw @c7 (tw @c8 (tw @c9 (tw @hi (tw @hC (tw @tc @td)))))))))))),?_⟩;refine hN _ _ ?_;clear hN N)))
    rw[lF]at cg0
    refine gO ?_ ?_ (by(try dsimp only);omega)
    all_goals simp only[go_sem, ↓reduceIte,Nat.reduceEqDiff,Nat.reduceAdd,Nat.reduceSub,Nat.reduceLeDiff,reduceCtorEq,jd,cg0,c0,c1,c5,c7,c8,c9]
  ·have wQ:i=k:=by omega
   subst wQ
   have dy:du (fun x=>if x<i then eE L b x else L x) i=du (eE L b) i:=gJ fun x hx=>if_pos hx
   rw[dy]at cg0
   rw[<-kT]at cg0
   (try((repeat(revert hN;revert N;apply Pn.out));refine wk (tw @jd (tw @cg0 (tw @c0 (tw @c1 (tw @c5 (tw @c7 (tw @c8 (tw @c9 (tw @hi @tc))))))))) ?_;(repeat(refine Pn.mk ?_;intro N hN))))
   refine fK ?_ ?_ (by(try dsimp only);omega)
   all_goals simp only[go_sem, ↓reduceIte,Nat.reduceEqDiff,Nat.reduceAdd,Nat.reduceSub,Nat.reduceLeDiff,reduceCtorEq,b7,bg0,b0,b1,b5,jd,cg0,c0,c1,c5,c7,c8,c9]
 have gM:j=bs.length:=by omega
 subst gM
 rw[List.take_length]at bg0
 have hL:=su bs
 generalize dX bs=L at *
 have tl:=fM L k
 (try((repeat(revert hN;revert N;apply Pn.out));refine wk (tw @b7 (tw @bg0 (tw @b0 (tw @b1 (tw @b5 @hj))))) ?_;(repeat(refine Pn.mk ?_;intro N hN))))
 have R7:o.bQ<st_b.next:=bI0
 refine aQ (fun n env st=>∃i:Nat,n=(k)-i/\i<=(k)/\env 12=.int .i64 (i:Int)/\st.get o=some ⟨true,1,du L k⟩/\(∃oo rows ids,env 11=.own oo 0 rows.length/\st.get oo=some ⟨true,1,rows⟩/\eL Nj st.get rows ((leads i L).map (members k L)) ids/\(∀x∈oo::ids,st_b.next<=x.bQ/\x.bQ<st.next)/\st_b.next<=st.next/\oo∉ids)) (k) ⟨0,by omega,by omega,sl (tw @b7 (tw @bg0 (tw @b0 (tw @b1 (tw @b5 (dD R7)))))),sl (tw @b7 (tw @bg0 (tw @b0 (tw @b1 (tw @b5 (dD R7)))))),⟨⟨214016000,st_b.next+1⟩,[],[],by(simp only[go_sem, ↓reduceIte,Nat.reduceEqDiff,Nat.reduceAdd,Nat.reduceSub,Nat.reduceLeDiff,reduceCtorEq])<;>rfl,sd @Nat.zero_add,.nil,fun x hx=>by rw[List.mem_singleton.1 hx];(try dsimp only);omega,by(try dsimp only);omega,by simp⟩⟩ ?_
 rintro n_d env_d st_d ⟨i,rfl,dle,d12,dg0,dI0⟩ dfr
 have d0:=dfr 0 (by kernel_rfl);have d5:=dfr 5 (by kernel_rfl)
 simp only[go_sem, ↓reduceIte,Nat.reduceEqDiff,Nat.reduceAdd,Nat.reduceSub,Nat.reduceLeDiff,reduceCtorEq,b7,bg0,b0,b1,b5,dD R7]at d0 d5
 clear dfr
 obtain⟨oo,rows,ids,d11,dg,hR,mU,hle,qg⟩:=dI0
 have rD:=gC i L
 have tf:=hR.len
 by_cases hi:(i:Int)<(k:Int)
 ·have sD:∀{e:Env} {gg:Rows} {nx:Nat},(e 12=.int .i64 (IntKind.i64.wrap ((i:Int)+1)))->(gg o=some ⟨true,1,du L k⟩)->(∃oo rows ids,e 11=.own oo 0 rows.length/\gg oo=some ⟨true,1,rows⟩/\eL Nj gg rows ((leads (i+1) L).map (members k L)) ids/\(∀x∈oo::ids,st_b.next<=x.bQ/\x.bQ<nx)/\st_b.next<=nx/\oo∉ids)->∃m0,m0<(k)-i/\∃i:Nat,m0=(k)-i/\i<=(k)/\e 12=.int .i64 (i:Int)/\gg o=some ⟨true,1,du L k⟩/\(∃oo rows ids,e 11=.own oo 0 rows.length/\gg oo=some ⟨true,1,rows⟩/\eL Nj gg rows ((leads i L).map (members k L)) ids/\(∀x∈oo::ids,st_b.next<=x.bQ/\x.bQ<nx)/\st_b.next<=nx/\oo∉ids):=fun x1 x2 x3=>⟨_,by omega,i+1,rfl,by omega,(by rw[x1,aA (by omega)]),x2,x3⟩
  have e9:i<k:=by omega
  have hC:=eY (f:=L) e9
  have oL:=dD (i:=o) (n:=st_d.next) (by omega)
  have O0:=dD (i:=oo) (n:=st_d.next) (mU oo (by simp)).2
  by_cases he:L i=i
  ·rw[if_pos he]at rD
   have td:decide ((L i:Int)=(i:Int))=true:=decide_eq_true (by rw[he])
   rw[eN]at hC
   (try((repeat(revert hN;revert N;apply Pn.out));refine wk (tw @d12 (tw @dg0 (tw @d0 (tw @d5 (tw @d11 (tw @dg (tw @hi (tw @hC (tw @tl (tw @td (tw @oL @O0))))))))))) ?_;(repeat(refine Pn.mk ?_;intro N hN))))
   refine aQ (fun n env st=>∃m:Nat,n=((k-i))-m/\m<=((k-i))/\env 14=(.int .i64 ((i+m:Nat):Int))/\(∃pp:Id,env 13=.own pp 0 (members (i+m) L i).length/\st.get pp=some ⟨true,1,(members (i+m) L i).map eN⟩/\st_d.next<=pp.bQ/\pp.bQ<st.next/\(∀x:Id,x.bQ<st_d.next->st.get x=st_d.get x)/\st_d.next<=st.next)) ((k-i)) ⟨0,by omega,by omega,sl (tw @d12 (tw @dg0 (tw @d0 (tw @d5 @d11)))),⟨⟨214021000,st_d.next+1+1⟩,by rw[show members (i+0) L i=[]from l7 hL (Nat.le_refl i)];(simp only[go_sem, ↓reduceIte,Nat.reduceEqDiff,Nat.reduceAdd,Nat.reduceSub,Nat.reduceLeDiff,reduceCtorEq])<;>rfl,by rw[show members (i+0) L i=[]from l7 hL (Nat.le_refl i)];(simp only[go_sem, ↓reduceIte,Nat.reduceEqDiff,Nat.reduceAdd,Nat.reduceSub,Nat.reduceLeDiff,reduceCtorEq])<;>rfl,by(try dsimp only);omega,by(try dsimp only);omega,fun x hx=>sd (dD hx),by(try dsimp only);omega⟩⟩ ?_
   rintro n_f env_f st_f ⟨m,rfl,fle,f14,fI0⟩ ffr
   have f0:=ffr 0 (by kernel_rfl);have f5:=ffr 5 (by kernel_rfl);have f11:=ffr 11 (by kernel_rfl);have f12:=ffr 12 (by kernel_rfl)
   simp only[go_sem, ↓reduceIte,Nat.reduceEqDiff,Nat.reduceAdd,Nat.reduceSub,Nat.reduceLeDiff,reduceCtorEq,d12,dg0,d0,d5,d11]at f0 f5 f11 f12
   clear ffr
   obtain⟨pp,f13,fg,Ma,G1,js,pr⟩:=fI0
   have qe:st_f.get o=some ⟨true,1,du L k⟩:=(js o (by omega)).trans dg0
   have RL:st_f.get oo=some ⟨true,1,rows⟩:=(js oo (mU oo (by simp)).2).trans dg
   have zk:=dD G1
   have Ae:=dD (i:=o) (n:=st_f.next) (by omega)
   have O1:=dD (i:=oo) (n:=st_f.next) (by have:=(mU oo (by simp)).2;omega)
   have Nx:members (i+(m+1)) L i=members (i+m) L i++if L (i+m)=i then[i+m]else[]:=ja (i+m) L i
   have RW:(members (i+m) L i).length<=i+m:=by
    have:=List.length_filter_le (fun k=>L k==i) (List.range (i+m))
    simpa[members]using this
   have x1:=cr (a:=o) (b:=pp) (by omega)
   have x2:=cr (a:=oo) (b:=pp) (by have:=(mU oo (by simp)).2;omega)
   have x3:=cr (a:=o) (b:=oo) (by have:=(mU oo (by simp)).1;omega)
   by_cases hm:m<k-i
   ·have qt:∀{e:Env} {gg:Rows} {nx:Nat},(e 14=(.int .i64 ((i+(m+1):Nat):Int)))->(∃pp:Id,e 13=.own pp 0 (members (i+(m+1)) L i).length/\gg pp=some ⟨true,1,(members (i+(m+1)) L i).map eN⟩/\st_d.next<=pp.bQ/\pp.bQ<nx/\(∀x:Id,x.bQ<st_d.next->gg x=st_d.get x)/\st_d.next<=nx)->∃m0,m0<((k-i))-m/\∃m:Nat,m0=((k-i))-m/\m<=((k-i))/\e 14=(.int .i64 ((i+m:Nat):Int))/\(∃pp:Id,e 13=.own pp 0 (members (i+m) L i).length/\gg pp=some ⟨true,1,(members (i+m) L i).map eN⟩/\st_d.next<=pp.bQ/\pp.bQ<nx/\(∀x:Id,x.bQ<st_d.next->gg x=st_d.get x)/\st_d.next<=nx):=fun x1 x2=>⟨_,by omega,m+1,rfl,by omega,x1,x2⟩
    have Qr:((i+m:Nat):Int)<(k:Int):=by omega
    have Q9:=eY (f:=L) (show i+m<k by omega)
    have hw:IntKind.i64.wrap (((i+m:Nat):Int)+1)=((i+(m+1):Nat):Int):=by rw[bW (by omega)];omega
    rw[eN]at Q9
    by_cases hq:L (i+m)=i
    ·have mM:decide ((L (i+m):Int)=(i:Int))=true:=decide_eq_true (by rw[hq])
     rw[if_pos hq]at Nx
     have e1:(members (i+m) L i).length+1<=16777216:=by omega
     have kR:((members (i+m) L i).map eN).length=(members (i+m) L i).length:=by simp
     (try((repeat(revert hN;revert N;apply Pn.out));refine wk (tw @f14 (tw @f0 (tw @f5 (tw @f11 (tw @f12 (tw @f13 (tw @fg (tw @qe (tw @Qr (tw @Q9 (tw @tl (tw @mM (tw @zk (tw @Ae (tw @x1 (tw @e1 @kR)))))))))))))))) ?_;(repeat(refine Pn.mk ?_;intro N hN))))
     exact qt (sd (tw @f14 (tw @f0 (tw @f5 (tw @f11 (tw @f12 (tw @qe (tw @hw (tw @Ae @x1))))))))) (⟨⟨214026003,st_f.next+1+1⟩,by rw[Nx,List.length_append];simp only[go_sem, ↓reduceIte,Nat.reduceEqDiff,Nat.reduceAdd,Nat.reduceSub,Nat.reduceLeDiff,reduceCtorEq,List.length_cons,List.length_nil],by rw[Nx,List.map_append,List.map_cons,List.map_nil];simp only[go_sem, ↓reduceIte,Nat.reduceEqDiff,Nat.reduceAdd,Nat.reduceSub,Nat.reduceLeDiff,reduceCtorEq,eN],by(try dsimp only);omega,by(try dsimp only);omega,fun x hx=>by
      have y1:=js x hx
      have y2:=cr (a:=x) (b:=pp) (by omega)
      simp only[go_sem, ↓reduceIte,Nat.reduceEqDiff,Nat.reduceAdd,Nat.reduceSub,Nat.reduceLeDiff,reduceCtorEq,dD (show x.bQ<st_f.next by omega),y1,y2],by(try dsimp only);omega⟩)
    ·have mM:decide ((L (i+m):Int)=(i:Int))=false:=decide_eq_false fun h=>hq (by omega)
     rw[if_neg hq,List.append_nil]at Nx
     (try((repeat(revert hN;revert N;apply Pn.out));refine wk (tw @f14 (tw @f0 (tw @f5 (tw @f11 (tw @f12 (tw @f13 (tw @fg (tw @qe (tw @Qr (tw @Q9 (tw @tl (tw @mM (tw @zk (tw @Ae @x1)))))))))))))) ?_;(repeat(refine Pn.mk ?_;intro N hN))))
     exact qt (sd (tw @f14 (tw @f0 (tw @f5 (tw @f11 (tw @f12 (tw @qe @hw))))))) (⟨pp,by rw[Nx];simp only[go_sem, ↓reduceIte,Nat.reduceEqDiff,Nat.reduceAdd,Nat.reduceSub,Nat.reduceLeDiff,reduceCtorEq,f13],by rw[Nx];simp only[go_sem, ↓reduceIte,Nat.reduceEqDiff,Nat.reduceAdd,Nat.reduceSub,Nat.reduceLeDiff,reduceCtorEq,fg],Ma,by(try dsimp only);omega,js,by(try dsimp only);omega⟩)
   ·have hmk:i+m=k:=by omega
    have Qr:¬((i+m:Nat):Int)<(k:Int):=by omega
    rw[hmk]at f13 fg RW
    have e1:rows.length+1<=16777216:=by
     have:=ju i L
     rw[tf,List.length_map];omega
    (try((repeat(revert hN;revert N;apply Pn.out));refine wk (tw @f14 (tw @f0 (tw @f5 (tw @f11 (tw @f12 (tw @f13 (tw @fg (tw @qe (tw @RL (tw @Qr (tw @zk (tw @Ae (tw @O1 (tw @x1 (tw @x2 @e1))))))))))))))) ?_;(repeat(refine Pn.mk ?_;intro N hN))))
    refine sD ?_ ?_ (⟨⟨214027003,st_f.next+1⟩,rows++[[.own pp 0 (members k L i).length]],ids++[pp],by rw[List.length_append];simp only[go_sem, ↓reduceIte,Nat.reduceEqDiff,Nat.reduceAdd,Nat.reduceSub,Nat.reduceLeDiff,reduceCtorEq,List.length_cons,List.length_nil],sd @Nat.zero_add,by
      rw[rD,List.map_append]
      refine(hR.frame JP fun x hx=>?_).app (.one ⟨pp,rfl,?_,rfl⟩)
      ·have h1:=mU x (by simp[hx])
       have y1:=js x h1.2
       have y2:=cr (a:=x) (b:=pp) (by omega)
       have y3:(x=oo)=False:=by
        simp only[eq_iff_iff,iff_false]
        rintro rfl
        exact qg hx
       simp only[go_sem, ↓reduceIte,Nat.reduceEqDiff,Nat.reduceAdd,Nat.reduceSub,Nat.reduceLeDiff,reduceCtorEq,dD (show x.bQ<st_f.next by omega),y1,y2,y3]
      ·simp only[go_sem, ↓reduceIte,Nat.reduceEqDiff,Nat.reduceAdd,Nat.reduceSub,Nat.reduceLeDiff,reduceCtorEq,zk,x2,fg],fun x hx=>by
      rcases List.mem_cons.1 hx with rfl|hx
      ·(try dsimp only);omega
      ·rcases List.mem_append.1 hx with hx|hx
       ·have:=mU x (by simp[hx]);(try dsimp only);omega
       ·rw[List.mem_singleton.1 hx];(try dsimp only);omega,by(try dsimp only);omega,fun hc=>by
      rcases List.mem_append.1 hc with hc|hc
      ·have:=(mU _ (List.mem_cons_of_mem _ hc)).2;(try dsimp only at this);omega
      ·have:=List.mem_singleton.1 hc;rw[<-this]at G1;(try dsimp only at G1);omega⟩)
    all_goals simp only[go_sem, ↓reduceIte,Nat.reduceEqDiff,Nat.reduceAdd,Nat.reduceSub,Nat.reduceLeDiff,reduceCtorEq,f14,f0,f5,f11,f12,qe,Ae,x3]
  ·rw[if_neg he,List.append_nil]at rD
   have td:decide ((L i:Int)=(i:Int))=false:=decide_eq_false fun h=>he (by omega)
   rw[eN]at hC
   (try((repeat(revert hN;revert N;apply Pn.out));refine wk (tw @d12 (tw @dg0 (tw @d0 (tw @d5 (tw @d11 (tw @dg (tw @hi (tw @hC (tw @tl (tw @td (tw @oL @O0))))))))))) ?_;(repeat(refine Pn.mk ?_;intro N hN))))
   refine sD ?_ ?_ (⟨oo,rows,ids,sd @d11,sd @dg,by rw[rD];exact hR,fun x hx=>by have:=mU x hx;(try dsimp only);omega,by(try dsimp only);omega,qg⟩)
   all_goals simp only[go_sem, ↓reduceIte,Nat.reduceEqDiff,Nat.reduceAdd,Nat.reduceSub,Nat.reduceLeDiff,reduceCtorEq,d12,dg0,d0,d5]
 ·have wQ:i=k:=by omega
  (try((repeat(revert hN;revert N;apply Pn.out));refine wk (tw @d12 (tw @dg0 (tw @d0 (tw @d5 (tw @d11 (tw @dg @hi)))))) ?_;(repeat(refine Pn.mk ?_;intro N hN))))
  refine uN (.inl rfl) (by simp only[go_sem, ↓reduceIte,Nat.reduceEqDiff,Nat.reduceAdd,Nat.reduceSub,Nat.reduceLeDiff,reduceCtorEq];rfl) ?_
  rw[s8 dg (by simp) (rows':=(fb k L).map zg) (by rw[List.drop_zero,List.take_of_length_le (Nat.le_refl _)];rw[wQ]at hR;exact Hs 3 hR)]
end Go.Proofs.YtgoelphibofcmaaGreat.V

namespace Go.Proofs.YtgoelphibofcmaaGreat.V
open Go.RowKit
attribute [local irreducible] dx wpOps gp Call
attribute [local go_sem] aH fC eG fW fV cF upd cj K.av cJ AV.cells AV.cell rowOf rowsOf part ld rowAt bj bY dz eb gT bE cZ er fS eU dp eh cX cW dR dS bH aW cN bG cQ cP ee ei ef cL bP cY ec bF aL cU cw gS bl cG bI aP dd aU dB AV.undef bw bB dV ea dI dG cE ep ev cq ek ej cR cV List.getD_cons_zero List.getD_cons_succ List.getD_nil List.all_cons List.all_nil Bool.and_true Bool.true_and Bool.and_self Bool.not_true Bool.not_false Option.map_some Option.map_none Option.bind_some Option.bind_none List.length_cons List.length_nil List.take_succ_cons List.take_zero List.take_nil List.drop_succ_cons List.drop_zero List.drop_nil List.head?_cons List.map_cons List.map_nil List.getElem?_cons_zero List.getElem?_cons_succ List.cons_append List.nil_append List.append_nil List.length_map List.set_cons_zero List.set_cons_succ Nat.reduceMul eq_self Int.toNat_natCast Int.natCast_nonneg and_self true_and and_true decide_true decide_false Bool.false_eq_true Nat.zero_add Nat.add_zero List.contains_cons List.contains_nil Bool.or_false Bool.false_or beq_self_eq_true Nat.reduceBEq ne_eq not_true_eq_false not_false_eq_true Id.mk.injEq false_and and_false Nat.reduceLT Int.reduceLE Int.reduceLT Int.reduceToNat Int.reduceNeg Int.reduceAdd Nat.le_refl List.length_append beq_true beq_false Bool.not_eq_eq_eq_not or_false false_or dO ah aq aI aZ bt ck aS bf aO aY cK bK
theorem u9 (n:Nat):List.replicate n [AV.int .i64 0]=du (fun _=>0) n:=by
 refine List.ext_getElem? fun i=>?_
 by_cases h:i<n
 ·rw[eY h,List.getElem?_replicate,if_pos h];rfl
 ·rw[List.getElem?_eq_none (by simp;omega),List.getElem?_eq_none (by rw[fM];omega)]
def cD (cnt:Nat) (L:Nat->Nat) (i m:Nat):Nat->Nat:=fun x=>if bx L x<i then bx L x else if x∈(members cnt L ((leads cnt L).getD i 0)).take m then i else 0
theorem nL (cnt:Nat) (L:Nat->Nat):cD cnt L 0 0=fun _=>0:=by funext x;simp[cD]
theorem sI (t:Int) (bs:List PB) (k:Nat) (h:k<bs.length):aF t (bs.take (k+1))=aF t (bs.take k)++if t<=(bs[k]).s then[bs[k]]else[]:=by
 unfold aF
 rw[List.take_succ_eq_append_getElem h,List.filter_append]
 congr 1
 by_cases h:t<=bs[k].s<;>simp[h]
theorem uW {t:Int} {bs:List PB} {b:PB} (h:b∈aF t bs):b∈bs:=(List.mem_filter.1 h).1
theorem mc (t:Int) (bs:List PB):(aF t bs).length<=bs.length:=List.length_filter_le _ _
theorem Ar (cnt:Nat) (hn:cnt<=1048576) (bs:List PB) (hb:∀b∈bs,b.a<cnt/\b.b<cnt) (oQ:bs.length<=1048576) (t:Int):aj Tryz.prog 192 [.int .i64 cnt,.sl (bs.map aw),.int .i64 t] (.gn [.int .i64 (leads cnt (dX (aF t bs))).length,.sl ((eP (dX (aF t bs)) bs).map aw)]):=by
 refine aj.body eI rfl fun hl n0=>?_
 clear hl
 (try((repeat(revert hN;revert N;apply Pn.out));refine wk @Nat.zero_add ?_;(repeat(refine Pn.mk ?_;intro N hN))))
 refine aQ (fun n env st=>∃k:Nat,n=(bs.length)-k/\k<=(bs.length)/\env 9=.int .i64 (k:Int)/\(∃o:Id,env 8=.own o 0 (aF t (bs.take k)).length/\st.get o=some ⟨true,3,(aF t (bs.take k)).map aw⟩/\o.bQ<st.next)) (bs.length) ⟨0,by omega,by omega,sl @Nat.zero_add,⟨⟨192001000,n0+1⟩,by(simp only[go_sem, ↓reduceIte,Nat.reduceEqDiff,Nat.reduceAdd,Nat.reduceSub,Nat.reduceLeDiff,reduceCtorEq])<;>rfl,by(simp only[go_sem, ↓reduceIte,Nat.reduceEqDiff,Nat.reduceAdd,Nat.reduceSub,Nat.reduceLeDiff,reduceCtorEq])<;>rfl,by(try dsimp only);omega⟩⟩ ?_
 rintro n_a env_a st_a ⟨k,rfl,ale,a9,pU⟩ dY
 have a0:=dY 0 (by kernel_rfl);have a1:=dY 1 (by kernel_rfl);have a2:=dY 2 (by kernel_rfl)
 simp only[go_sem, ↓reduceIte,Nat.reduceEqDiff,Nat.reduceAdd,Nat.reduceSub,Nat.reduceLeDiff,reduceCtorEq]at a0 a1 a2
 clear dY
 obtain⟨o,a8,ag,yj⟩:=pU
 have qR:=dD yj
 by_cases hk:(k:Int)<(bs.length:Int)
 ·have cH:∀{e:Env} {gg:Rows} {nx:Nat},(e 9=.int .i64 (IntKind.i64.wrap ((k:Int)+1)))->(∃o:Id,e 8=.own o 0 (aF t (bs.take (k+1))).length/\gg o=some ⟨true,3,(aF t (bs.take (k+1))).map aw⟩/\o.bQ<nx)->∃m0,m0<(bs.length)-k/\∃k:Nat,m0=(bs.length)-k/\k<=(bs.length)/\e 9=.int .i64 (k:Int)/\(∃o:Id,e 8=.own o 0 (aF t (bs.take k)).length/\gg o=some ⟨true,3,(aF t (bs.take k)).map aw⟩/\o.bQ<nx):=fun x1 x2=>⟨_,by omega,k+1,rfl,by omega,(by rw[x1,aA (by omega)]),x2⟩
  have fG:k<bs.length:=by omega
  have eJ:(bs.map aw)[k]? =some (aw bs[k]):=by simp[fG]
  have hs:=sI t bs k fG
  have Be:=mc t (bs.take k)
  rw[List.length_take]at Be
  by_cases hc:t<=(bs[k]).s
  ·rw[if_pos hc]at hs
   have e1:(aF t (bs.take k)).length+1<=16777216:=by omega
   have kR:((aF t (bs.take k)).map aw).length=(aF t (bs.take k)).length:=by simp
   generalize bs[k]=b at *
   (try((repeat(revert hN;revert N;apply Pn.out));refine wk (tw @a9 (tw @a0 (tw @a1 (tw @a2 (tw @a8 (tw @ag (tw @qR (tw @hk (tw @eJ (tw @hc (tw @e1 (tw @kR @aw.eq_1)))))))))))) ?_;(repeat(refine Pn.mk ?_;intro N hN))))
   exact cH (sd (tw @a9 (tw @a0 (tw @a1 @a2)))) (⟨⟨192006006,st_a.next+1+1⟩,by rw[hs,List.length_append];simp only[go_sem, ↓reduceIte,Nat.reduceEqDiff,Nat.reduceAdd,Nat.reduceSub,Nat.reduceLeDiff,reduceCtorEq,List.length_cons,List.length_nil],by rw[hs,List.map_append,List.map_cons,List.map_nil];simp only[go_sem, ↓reduceIte,Nat.reduceEqDiff,Nat.reduceAdd,Nat.reduceSub,Nat.reduceLeDiff,reduceCtorEq,aw],by(try dsimp only);omega⟩)
  ·rw[if_neg hc,List.append_nil]at hs
   generalize bs[k]=b at *
   (try((repeat(revert hN;revert N;apply Pn.out));refine wk (tw @a9 (tw @a0 (tw @a1 (tw @a2 (tw @a8 (tw @ag (tw @qR (tw @hk (tw @eJ (tw @hc @aw.eq_1)))))))))) ?_;(repeat(refine Pn.mk ?_;intro N hN))))
   exact cH (sd (tw @a9 (tw @a0 (tw @a1 @a2)))) (⟨o,by rw[hs];simp only[go_sem, ↓reduceIte,Nat.reduceEqDiff,Nat.reduceAdd,Nat.reduceSub,Nat.reduceLeDiff,reduceCtorEq,a8],by rw[hs];simp only[go_sem, ↓reduceIte,Nat.reduceEqDiff,Nat.reduceAdd,Nat.reduceSub,Nat.reduceLeDiff,reduceCtorEq,ag],by(try dsimp only);omega⟩)
 have lq:k=bs.length:=by omega
 subst lq
 rw[List.take_length]at a8 ag
 have Bb:=Ap cnt hn (aF t bs) (fun b h=>hb b (uW h)) (by have:=mc t bs;omega)
 have hL:=su (aF t bs)
 have A9:fz (dO st_a.get) 6 (.own o 0 (aF t bs).length)=some (.sl ((aF t bs).map aw)):=gz (sz:=3) (by simp[dO,ag]) rfl fun b=>x7 _ 4 b
 have RJ:∀x,da (dO st_a.get) 6 [.int .i64 x,.own o 0 (aF t bs).length]=some [.int .i64 x,.sl ((aF t bs).map aw)]:=fun x=>by simp only[ah,aq,aI,A9,Option.map_some]
 (try((repeat(revert hN;revert N;apply Pn.out));refine wk (tw @a9 (tw @a0 (tw @a1 (tw @a2 (tw @a8 @hk))))) ?_;(repeat(refine Pn.mk ?_;intro N hN))))
 refine .inl ⟨_,aj.x Bb (RJ _),?_⟩
 refine hN _ _ ?_
 clear hN N
 generalize dX (aF t bs)=L at *
 have rz:((fb cnt L).map zg).length=(leads cnt L).length:=by simp[fb]
 have Qo:=ju cnt L
 have jk:(0:Int)<=(cnt:Int):=by omega
 have oR:(cnt:Int)<=((16777216:Nat):Int):=by omega
 have gr:List.replicate cnt [AV.int .i64 0]=du (cD cnt L 0 0) cnt:=by rw[u9,nL]
 (try((repeat(revert hN;revert N;apply Pn.out));refine wk (tw @a9 (tw @a0 (tw @a1 (tw @a2 (tw @jk (tw @oR @Int.le_refl)))))) ?_;(repeat(refine Pn.mk ?_;intro N hN))))
 refine aQ (fun n env st=>∃i:Nat,n=((leads cnt L).length)-i/\i<=((leads cnt L).length)/\env 12=.int .i64 (i:Int)/\st.get ⟨192008001,st_a.next+1+1⟩=some ⟨true,1,du (cD cnt L i 0) cnt⟩/\(st_a.next+1+1<st.next)) ((leads cnt L).length) ⟨0,by omega,by omega,sl (tw @a9 (tw @a0 (tw @a1 (tw @a2 @gr)))),sl (tw @a9 (tw @a0 (tw @a1 (tw @a2 @gr)))),(by(try dsimp only);omega)⟩ ?_
 rintro n_c env_c st_c ⟨i,rfl,cle,xS,cg0,cI0⟩ cfr
 have c1:=cfr 1 (by kernel_rfl);have jd:=cfr 10 (by kernel_rfl);have mK:=cfr 11 (by kernel_rfl)
 simp only[go_sem, ↓reduceIte,Nat.reduceEqDiff,Nat.reduceAdd,Nat.reduceSub,Nat.reduceLeDiff,reduceCtorEq,a9,a0,a1,a2,gr]at c1 jd mK
 clear cfr
 by_cases hi:(i:Int)<((leads cnt L).length:Int)
 ·have gO:∀{e:Env} {gg:Rows} {nx:Nat},(e 12=.int .i64 (IntKind.i64.wrap ((i:Int)+1)))->(gg ⟨192008001,st_a.next+1+1⟩=some ⟨true,1,du (cD cnt L (i+1) 0) cnt⟩)->(st_a.next+1+1<nx)->∃m0,m0<((leads cnt L).length)-i/\∃i:Nat,m0=((leads cnt L).length)-i/\i<=((leads cnt L).length)/\e 12=.int .i64 (i:Int)/\gg ⟨192008001,st_a.next+1+1⟩=some ⟨true,1,du (cD cnt L i 0) cnt⟩/\(st_a.next+1+1<nx):=fun x1 x2 x3=>⟨_,by omega,i+1,rfl,by omega,(by rw[x1,aA (by omega)]),x2,x3⟩
  have e9:i<(leads cnt L).length:=by omega
  have jJ:((fb cnt L).map zg)[i]? =some (zg (members cnt L (leads cnt L)[i])):=by simp[fb,e9]
  have te:(leads cnt L).getD i 0=(leads cnt L)[i]:=by simp[List.getD_eq_getElem?_getD,e9]
  have kE:∀m,cD cnt L i m=fun x=>if bx L x<i then bx L x else if x∈(members cnt L (leads cnt L)[i]).take m then i else 0:=fun m=>by unfold cD;rw[te]
  have qf:=fun x (hx:x<cnt)=>rK hL (n:=cnt) (k:=x) (i:=i) hx e9
  have oe:(members cnt L (leads cnt L)[i]).Nodup:=List.nodup_range.filter _
  have L7:∀x∈members cnt L (leads cnt L)[i],x<cnt:=fun x hx=>(kY.1 hx).1
  have hMc:(members cnt L (leads cnt L)[i]).length<=cnt:=by
   have:=List.length_filter_le (fun k=>L k==(leads cnt L)[i]) (List.range cnt)
   simpa[members]using this
  generalize members cnt L (leads cnt L)[i]=M at *
  have A8:(M.map eN).length=M.length:=by simp
  (try((repeat(revert hN;revert N;apply Pn.out));refine wk (tw @xS (tw @cg0 (tw @c1 (tw @jd (tw @mK (tw @hi @rz)))))) ?_;(repeat(refine Pn.mk ?_;intro N hN))))
  refine aQ (fun n env st=>∃m:Nat,n=(M.length)-m/\m<=(M.length)/\env 13=.int .i64 (m:Int)/\st.get ⟨192008001,st_a.next+1+1⟩=some ⟨true,1,du (cD cnt L i m) cnt⟩/\(st_a.next+1+1<st.next)) (M.length) ⟨0,by omega,by omega,sl (tw @xS (tw @cg0 (tw @c1 (tw @jd @mK)))),sl (tw @xS (tw @cg0 (tw @c1 (tw @jd @mK)))),(by(try dsimp only);omega)⟩ ?_
  rintro n_d env_d st_d ⟨m,rfl,dle,d13,dg0,dI0⟩ dfr
  have d1:=dfr 1 (by kernel_rfl);have d10:=dfr 10 (by kernel_rfl);have d11:=dfr 11 (by kernel_rfl);have d12:=dfr 12 (by kernel_rfl)
  simp only[go_sem, ↓reduceIte,Nat.reduceEqDiff,Nat.reduceAdd,Nat.reduceSub,Nat.reduceLeDiff,reduceCtorEq,xS,cg0,c1,jd,mK]at d1 d10 d11 d12
  clear dfr
  have tl:=fM (cD cnt L i m) cnt
  by_cases hm:(m:Int)<(M.length:Int)
  ·have sD:∀{e:Env} {gg:Rows} {nx:Nat},(e 13=.int .i64 (IntKind.i64.wrap ((m:Int)+1)))->(gg ⟨192008001,st_a.next+1+1⟩=some ⟨true,1,du (cD cnt L i (m+1)) cnt⟩)->(st_a.next+1+1<nx)->∃m0,m0<(M.length)-m/\∃m:Nat,m0=(M.length)-m/\m<=(M.length)/\e 13=.int .i64 (m:Int)/\gg ⟨192008001,st_a.next+1+1⟩=some ⟨true,1,du (cD cnt L i m) cnt⟩/\(st_a.next+1+1<nx):=fun x1 x2 x3=>⟨_,by omega,m+1,rfl,by omega,(by rw[x1,aA (by omega)]),x2,x3⟩
   have yi:m<M.length:=by omega
   have uf:(M.map eN)[m]? =some (eN M[m]):=by simp[yi]
   have um:=L7 _ (List.getElem_mem yi)
   have Bg:(M[m]:Int)<(cnt:Int):=by omega
   have Bf:=eY (f:=cD cnt L i m) um
   have fc:(du (cD cnt L i m) cnt).set M[m] (eN i)=du (cD cnt L i (m+1)) cnt:=oE um (by
    have h1:=(qf _ um).1 (List.getElem_mem yi)
    rw[kE]
    simp only[]
    rw[if_neg (by omega),if_pos (by rw[List.take_succ_eq_append_getElem yi];exact List.mem_append_right _ (List.mem_singleton.2 rfl))]) fun x hx gI=>by
    rw[kE,kE]
    simp only[]
    rw[List.take_succ_eq_append_getElem yi]
    simp only[List.mem_append,List.mem_singleton,gI,or_false]
   rw[eN]at fc Bf
   generalize M[m]=xm at *
   (try((repeat(revert hN;revert N;apply Pn.out));refine wk (tw @d13 (tw @dg0 (tw @d1 (tw @d10 (tw @d11 (tw @d12 (tw @hm (tw @hi (tw @jJ (tw @rz (tw @uf (tw @A8 (tw @Bg (tw @Bf (tw @tl (tw @fc (tw @zg.eq_1 @eN.eq_1))))))))))))))))) ?_;(repeat(refine Pn.mk ?_;intro N hN))))
   refine sD ?_ ?_ (by(try dsimp only);omega)
   all_goals simp only[go_sem, ↓reduceIte,Nat.reduceEqDiff,Nat.reduceAdd,Nat.reduceSub,Nat.reduceLeDiff,reduceCtorEq,d13,dg0,d1,d10,d11,d12,fc]
  ·have kR:m=M.length:=by omega
   subst kR
   have pr:du (cD cnt L i M.length) cnt=du (cD cnt L (i+1) 0) cnt:=gJ fun x hx=>by
    rw[kE,List.take_length]
    simp only[cD,List.take_zero,List.not_mem_nil,if_false]
    have h1:=qf x hx
    by_cases h2:bx L x<i
    ·rw[if_pos h2,if_pos (by omega)]
    ·rw[if_neg h2]
     by_cases h3:x∈M
     ·rw[if_pos h3,if_pos (by have:=h1.1 h3;omega),h1.1 h3]
     ·rw[if_neg h3,if_neg fun h4=>h3 (h1.2 (by omega))]
   (try((repeat(revert hN;revert N;apply Pn.out));refine wk (tw @d13 (tw @dg0 (tw @d1 (tw @d10 (tw @d11 (tw @d12 (tw @hm (tw @hi (tw @jJ (tw @rz (tw @A8 @zg.eq_1))))))))))) ?_;(repeat(refine Pn.mk ?_;intro N hN))))
   refine gO ?_ ?_ (by(try dsimp only);omega)
   all_goals simp only[go_sem, ↓reduceIte,Nat.reduceEqDiff,Nat.reduceAdd,Nat.reduceSub,Nat.reduceLeDiff,reduceCtorEq,xS,cg0,c1,jd,mK,d13,dg0,d1,d10,d11,d12,pr]
 have kQ:i=(leads cnt L).length:=by omega
 subst kQ
 have qg:du (cD cnt L (leads cnt L).length 0) cnt=du (bx L) cnt:=gJ fun x hx=>by rw[cD,if_pos (jM hL hx)]
 rw[qg]at cg0
 have tl:=fM (bx L) cnt
 (try((repeat(revert hN;revert N;apply Pn.out));refine wk (tw @xS (tw @cg0 (tw @c1 (tw @jd (tw @mK (tw @hi @rz)))))) ?_;(repeat(refine Pn.mk ?_;intro N hN))))
 have Qe:st_a.next+1+1<st_c.next:=cI0
 refine aQ (fun n env st=>∃j:Nat,n=(bs.length)-j/\j<=(bs.length)/\env 15=.int .i64 (j:Int)/\st.get ⟨192008001,st_a.next+1+1⟩=some ⟨true,1,du (bx L) cnt⟩/\(∃p:Id,env 14=.own p 0 (eP L (bs.take j)).length/\st.get p=some ⟨true,3,(eP L (bs.take j)).map aw⟩/\st_c.next<=p.bQ/\p.bQ<st.next)) (bs.length) ⟨0,by omega,by omega,sl (tw @xS (tw @cg0 (tw @c1 (tw @jd @mK)))),sl (tw @xS (tw @cg0 (tw @c1 (tw @jd @mK)))),⟨⟨192016000,st_c.next+1⟩,by(simp only[go_sem, ↓reduceIte,Nat.reduceEqDiff,Nat.reduceAdd,Nat.reduceSub,Nat.reduceLeDiff,reduceCtorEq])<;>rfl,by(simp only[go_sem, ↓reduceIte,Nat.reduceEqDiff,Nat.reduceAdd,Nat.reduceSub,Nat.reduceLeDiff,reduceCtorEq])<;>rfl,by(try dsimp only);omega,by(try dsimp only);omega⟩⟩ ?_
 rintro n_f env_f st_f ⟨j,rfl,fle,f15,fg0,fI0⟩ ffr
 have f1:=ffr 1 (by kernel_rfl);have f10:=ffr 10 (by kernel_rfl);have f11:=ffr 11 (by kernel_rfl)
 simp only[go_sem, ↓reduceIte,Nat.reduceEqDiff,Nat.reduceAdd,Nat.reduceSub,Nat.reduceLeDiff,reduceCtorEq,xS,cg0,c1,jd,mK]at f1 f10 f11
 clear ffr
 obtain⟨p,f14,fg,Ma,G1⟩:=fI0
 have x1:=cr (a:=⟨192008001,st_a.next+1+1⟩) (b:=p) (by(try dsimp only);omega)
 have zk:=dD G1
 have hvn:st_a.next+1+1<st_f.next:=by omega
 have Hc:=dD (i:=⟨192008001,st_a.next+1+1⟩) (n:=st_f.next) hvn
 have Be:=(mb L (bs.take j)).2
 rw[List.length_take]at Be
 by_cases hj:(j:Int)<(bs.length:Int)
 ·have qt:∀{e:Env} {gg:Rows} {nx:Nat},(e 15=.int .i64 (IntKind.i64.wrap ((j:Int)+1)))->(gg ⟨192008001,st_a.next+1+1⟩=some ⟨true,1,du (bx L) cnt⟩)->(∃p:Id,e 14=.own p 0 (eP L (bs.take (j+1))).length/\gg p=some ⟨true,3,(eP L (bs.take (j+1))).map aw⟩/\st_c.next<=p.bQ/\p.bQ<nx)->∃m0,m0<(bs.length)-j/\∃j:Nat,m0=(bs.length)-j/\j<=(bs.length)/\e 15=.int .i64 (j:Int)/\gg ⟨192008001,st_a.next+1+1⟩=some ⟨true,1,du (bx L) cnt⟩/\(∃p:Id,e 14=.own p 0 (eP L (bs.take j)).length/\gg p=some ⟨true,3,(eP L (bs.take j)).map aw⟩/\st_c.next<=p.bQ/\p.bQ<nx):=fun x1 x2 x3=>⟨_,by omega,j+1,rfl,by omega,(by rw[x1,aA (by omega)]),x2,x3⟩
  have mW:j<bs.length:=by omega
  have FI:(bs.map aw)[j]? =some (aw bs[j]):=by simp[mW]
  have KE:=hb _ (List.getElem_mem mW)
  have hs:=yN L (bs.take j) bs[j]
  rw[<-List.take_succ_eq_append_getElem mW]at hs
  generalize bs[j]=b at *
  have hA:=eY (f:=bx L) KE.1
  have hB:=eY (f:=bx L) KE.2
  have gq:(b.a:Int)<(cnt:Int):=by omega
  have fA:(b.b:Int)<(cnt:Int):=by omega
  have P4:=An (bx L b.a) (bx L b.b)
  have P5:=Am (bx L b.a) (bx L b.b)
  rw[eN]at hA hB
  by_cases he:bx L b.a=bx L b.b
  ·rw[if_pos he,List.append_nil]at hs
   have td:decide ((bx L b.a:Int)=(bx L b.b:Int))=true:=decide_eq_true (by rw[he])
   (try((repeat(revert hN;revert N;apply Pn.out));refine wk (tw @f15 (tw @fg0 (tw @f1 (tw @f10 (tw @f11 (tw @f14 (tw @fg (tw @hj (tw @FI (tw @hA (tw @hB (tw @gq (tw @fA (tw @tl (tw @td (tw @x1 (tw @zk @aw.eq_1))))))))))))))))) ?_;(repeat(refine Pn.mk ?_;intro N hN))))
   refine qt ?_ ?_ (⟨p,by rw[hs];simp only[go_sem, ↓reduceIte,Nat.reduceEqDiff,Nat.reduceAdd,Nat.reduceSub,Nat.reduceLeDiff,reduceCtorEq,f14],by rw[hs];simp only[go_sem, ↓reduceIte,Nat.reduceEqDiff,Nat.reduceAdd,Nat.reduceSub,Nat.reduceLeDiff,reduceCtorEq,fg],Ma,by(try dsimp only);omega⟩)
   all_goals simp only[go_sem, ↓reduceIte,Nat.reduceEqDiff,Nat.reduceAdd,Nat.reduceSub,Nat.reduceLeDiff,reduceCtorEq,f15,fg0,f1,f10,f11]
  ·rw[if_neg he]at hs
   have td:decide ((bx L b.a:Int)=(bx L b.b:Int))=false:=decide_eq_false fun h=>he (by omega)
   have e1:(eP L (bs.take j)).length+1<=16777216:=by omega
   have kR:((eP L (bs.take j)).map aw).length=(eP L (bs.take j)).length:=by simp
   (repeat(first|((repeat(revert hN;revert N;apply Pn.out));refine wk (tw @f15 (tw @fg0 (tw @f1 (tw @f10 (tw @f11 (tw @f14 (tw @fg (tw @hj (tw @FI (tw @hA (tw @hB (tw @gq (tw @fA (tw @tl (tw @td (tw @x1 (tw @zk (tw @Hc (tw @e1 (tw @kR @aw.eq_1)))))))))))))))))))) ?_;(repeat(refine Pn.mk ?_;intro N hN)))|((try apply Or.inl);refine⟨_,aj.x (P4) (sd (tw @f15 (tw @fg0 (tw @f1 (tw @f10 (tw @f11 (tw @f14 (tw @fg (tw @hj (tw @FI (tw @hA (tw @hB (tw @gq (tw @fA (tw @tl (tw @td (tw @x1 (tw @zk (tw @Hc (tw @e1 (tw @kR @aw.eq_1))))))))))))))))))))),?_⟩;refine hN _ _ ?_;clear hN N)|((try apply Or.inl);refine⟨_,aj.x (P5) (sd (tw @f15 (tw @fg0 (tw @f1 (tw @f10 (tw @f11 (tw @f14 (tw @fg (tw @hj (tw @FI (tw @hA (tw @hB (tw @gq (tw @fA (tw @tl (tw @td (tw @x1 (tw @zk (tw @Hc (tw @e1 (tw @kR @aw.eq_1))))))))))))))))))))),?_⟩;refine hN _ _ ?_;clear hN N)))
   refine qt ?_ ?_ (⟨⟨192023014,st_f.next+1+1+1+1⟩,by rw[hs,List.length_append];simp only[go_sem, ↓reduceIte,Nat.reduceEqDiff,Nat.reduceAdd,Nat.reduceSub,Nat.reduceLeDiff,reduceCtorEq,List.length_cons,List.length_nil],by rw[hs,List.map_append,List.map_cons,List.map_nil];simp only[go_sem, ↓reduceIte,Nat.reduceEqDiff,Nat.reduceAdd,Nat.reduceSub,Nat.reduceLeDiff,reduceCtorEq,aw],by(try dsimp only);omega,by(try dsimp only);omega⟩)
   all_goals simp only[go_sem, ↓reduceIte,Nat.reduceEqDiff,Nat.reduceAdd,Nat.reduceSub,Nat.reduceLeDiff,reduceCtorEq,f15,fg0,f1,f10,f11,x1,Hc]
 ·have gM:j=bs.length:=by omega
  subst gM
  rw[List.take_length]at f14 fg
  (try((repeat(revert hN;revert N;apply Pn.out));refine wk (tw @f15 (tw @fg0 (tw @f1 (tw @f10 (tw @f11 (tw @f14 (tw @hj @rz))))))) ?_;(repeat(refine Pn.mk ?_;intro N hN))))
  refine gP (.inl rfl) (r1:=.int .i64 ((leads cnt L).length:Int)) (sd @Nat.zero_add) (by simp only[go_sem, ↓reduceIte,Nat.reduceEqDiff,Nat.reduceAdd,Nat.reduceSub,Nat.reduceLeDiff,reduceCtorEq];rfl) ?_
  have h1:fZ st_f.get 5 (.own p 0 (eP L bs).length)=some (.sl ((eP L bs).map aw)):=fj (sz:=3) fg rfl fun b=>s7 _ 3 b
  simp only[eo,aX,bD,dQ,h1,Option.map_some]
end Go.Proofs.YtgoelphibofcmaaGreat.V

namespace Go.Proofs.YtgoelphibofcmaaGreat.V
def C0 (bs:List PB) (e v:Nat):Prop:=(bU bs e).a=v∨(bU bs e).b=v
def iC (bs:List PB) (m v:Nat):List Nat:=(List.range m).filter fun i=>(bU bs i).a==v||(bU bs i).b==v
theorem qk {bs:List PB} {m v e:Nat}:e∈iC bs m v↔e<m/\C0 bs e v:=by simp[iC,C0]
theorem EK (bs:List PB) (m v:Nat):iC bs (m+1) v=iC bs m v++if (bU bs m).a=v∨(bU bs m).b=v then[m]else[]:=by
 unfold iC
 rw[List.range_succ,List.filter_append]
 congr 1
 by_cases h:(bU bs m).a=v<;>by_cases h2:(bU bs m).b=v<;>simp[h,h2]
theorem qj (bs:List PB) (m v:Nat):(iC bs m v).length<=m:=by
 have:=List.length_filter_le (fun i=>(bU bs i).a==v||(bU bs i).b==v) (List.range m)
 simpa[iC]using this
def mj (cnt:Nat) (bs:List PB):Prop:=∀e,e<bs.length->(bU bs e).a<cnt/\(bU bs e).b<cnt/\(bU bs e).a≠(bU bs e).b
theorem nO {cnt:Nat} {bs:List PB} (h:mj cnt bs) {e v:Nat} (he:e<bs.length):bz bs e v<cnt:=by
 have:=h e he;unfold bz;split;exact this.2.1;exact this.1
theorem HD {cnt:Nat} {bs:List PB} (h:mj cnt bs) {e v:Nat} (he:e<bs.length) (hi:C0 bs e v):bz bs e v≠v:=by
 have h1:=(h e he).2.2
 unfold bz
 split
 ·rename_i ha;rw[<-ha];exact fun h=>h1 h.symm
 ·rename_i ha;rcases hi with hi|hi
  ·exact absurd hi ha
  ·rw[<-hi];exact h1
theorem xo {bs:List PB} {e v:Nat}:C0 bs e (bz bs e v):=by
 unfold bz C0;split
 ·exact .inr rfl
 ·exact .inl rfl
theorem nP {cnt:Nat} {bs:List PB} (h:mj cnt bs) {e v:Nat} (he:e<bs.length) (hi:C0 bs e v):bz bs e (bz bs e v)=v:=by
 have h1:=(h e he).2.2
 unfold bz
 by_cases ha:(bU bs e).a=v
 ·rw[if_pos ha,if_neg h1];exact ha
 ·rw[if_neg ha,if_pos rfl]
  rcases hi with hi|hi
  ·exact absurd hi ha
  ·exact hi
structure xL (cnt:Nat) (bs:List PB) (f:Nat->Int) (y:Nat) (out:Nat->Int):Prop where
 lo:∀v,v<cnt->-1<=out v/\out v<=cnt
 first:out y=0
 zero:∀v,v<cnt->out v=0->v=y
 down:∀v,v<cnt->0<out v->∃e,e<bs.length/\C0 bs e v/\0<fm bs f e v/\out (bz bs e v)=out v-1
 shut:∀e v,e<bs.length->C0 bs e v->0<=out (bz bs e v)->0<fm bs f e v->0<=out v
structure zb (cnt:Nat) (bs:List PB) (f:Nat->Int) (y:Nat) (out:Nat->Int) (Q:List Nat) (i:Nat):Prop where
 nd:Q.Nodup
 lt:∀x∈Q,x<cnt
 iff:∀v,v<cnt->(0<=out v↔v∈Q)
 lo:∀v,v<cnt->-1<=out v
 first:out y=0
 up:∀j (h:j<Q.length),out Q[j]<=j
 zero:∀v,v<cnt->out v=0->v=y
 down:∀v,v<cnt->0<out v->∃e,e<bs.length/\C0 bs e v/\0<fm bs f e v/\out (bz bs e v)=out v-1
 shut:∀j (h:j<Q.length),j<i->∀e,e<bs.length->C0 bs e Q[j]->0<fm bs f e (bz bs e Q[j])->0<=out (bz bs e Q[j])
section
variable {cnt:Nat} {bs:List PB} {f:Nat->Int} {y:Nat} {out:Nat->Int} {Q:List Nat} {i:Nat}
theorem zb.start (hy:y<cnt):zb cnt bs f y (fun v=>if v=y then 0 else -1) [y] 0 where
 nd:=by simp
 lt:=fun x hx=>by rw[List.mem_singleton.1 hx];exact hy
 iff:=fun v _=>by
  by_cases h:v=y<;>simp[h]
 lo:=fun v _=>by split<;>omega
 first:=if_pos rfl
 up:=fun j h=>by
  have:j=0:=by simp at h;omega
  subst this;simp
 zero:=fun v _ h=>by
  by_cases hv:v=y
  ·exact hv
  ·rw[if_neg hv]at h;omega
 down:=fun v _ h=>by
  by_cases hv:v=y
  ·rw[if_pos hv]at h;omega
  ·rw[if_neg hv]at h;omega
 shut:=fun j h hj=>by omega
theorem zb.len (h:zb cnt bs f y out Q i):Q.length<=cnt:=nM cnt Q h.nd h.lt
theorem zb.visit (h:zb cnt bs f y out Q i) (ok:mj cnt bs) (hi:i<Q.length) {e:Nat} (he:e<bs.length) (oK:C0 bs e Q[i]) (jK:out (bz bs e Q[i])<0) (fU:0<fm bs f e (bz bs e Q[i])):
  zb cnt bs f y (fun v=>if v=bz bs e Q[i]then out Q[i]+1 else out v) (Q++[bz bs e Q[i]]) i:=by
 have KO:0<=out Q[i]:=(h.iff _ (h.lt _ (List.getElem_mem hi))).2 (List.getElem_mem hi)
 have hq:=nO ok (v:=Q[i]) he
 have gI:=HD ok he oK
 have Qu:=nP ok he oK
 have R0:bz bs e Q[i]∉Q:=fun hm=>by have:=(h.iff _ hq).2 hm;omega
 have kE:=h.up i hi
 generalize hw:bz bs e Q[i]=w at *
 have pB:∀v,0<=out v->(if v=w then out Q[i]+1 else out v)=out v:=fun v hv=>by
  rw[if_neg];rintro rfl;omega
 have mono:∀v,0<=out v->0<=(if v=w then out Q[i]+1 else out v):=fun v hv=>by rw[pB v hv];exact hv
 refine⟨?_,?_,?_,?_,?_,?_,?_,?_,?_⟩
 ·rw[List.nodup_append]
  exact⟨h.nd,by simp,fun a ha b hb=>by rw[List.mem_singleton.1 hb];rintro rfl;exact R0 ha⟩
 ·intro x hx
  rcases List.mem_append.1 hx with hx|hx
  ·exact h.lt x hx
  ·rw[List.mem_singleton.1 hx];exact hq
 ·intro v hv
  by_cases FO:v=w
  ·subst FO;simp;omega
  ·rw[if_neg FO,h.iff v hv];simp[FO]
 ·intro v hv
  by_cases FO:v=w
  ·rw[if_pos FO];omega
  ·rw[if_neg FO];exact h.lo v hv
 ·rw[pB y (by rw[h.first];exact Int.le_refl _)];exact h.first
 ·intro j hj
  by_cases gM:j<Q.length
  ·rw[List.getElem_append_left gM,pB _ ((h.iff _ (h.lt _ (List.getElem_mem gM))).2 (List.getElem_mem gM))]
   exact h.up j gM
  ·have Jp:j=Q.length:=by simp at hj;omega
   subst Jp
   simp
   omega
 ·intro v hv h0
  by_cases FO:v=w
  ·rw[if_pos FO]at h0;omega
  ·rw[if_neg FO]at h0;exact h.zero v hv h0
 ·intro v hv h0
  by_cases FO:v=w
  ·subst FO
   rw[if_pos rfl]
   refine⟨e,he,by rw[<-hw];exact xo,fU,?_⟩
   rw[Qu,pB _ KO];omega
  ·rw[if_neg FO]at h0 ⊢
   obtain⟨e',h1,h2,h3,h4⟩:=h.down v hv h0
   exact⟨e',h1,h2,h3,by rw[pB _ (by omega)];exact h4⟩
 ·intro j hj lT e' Jk KI hr
  have gM:j<Q.length:=by omega
  rw[List.getElem_append_left gM]at KI hr ⊢
  exact mono _ (h.shut j gM lT e' Jk KI hr)
theorem zb.next (h:zb cnt bs f y out Q i) (hi:i<Q.length) (hs:∀e∈iC bs bs.length Q[i],0<fm bs f e (bz bs e Q[i])->0<=out (bz bs e Q[i])):zb cnt bs f y out Q (i+1):=
 ⟨h.nd,h.lt,h.iff,h.lo,h.first,h.up,h.zero,h.down,fun j hj lT e he oK hr=>by
  by_cases Jp:j=i
  ·subst Jp;exact hs e (qk.2 ⟨he,oK⟩) hr
  ·exact h.shut j hj (by omega) e he oK hr⟩
theorem zb.done (h:zb cnt bs f y out Q i) (ok:mj cnt bs) (hi:Q.length<=i):xL cnt bs f y out where
 lo:=fun v hv=>⟨h.lo v hv,by
  by_cases h0:0<=out v
  ·obtain⟨j,hj,rfl⟩:=List.getElem_of_mem ((h.iff v hv).1 h0)
   have:=h.up j hj
   have:=h.len
   omega
  ·omega⟩
 first:=h.first
 zero:=h.zero
 down:=h.down
 shut:=fun e v he oK h0 hr=>by
  obtain⟨j,hj,Nv⟩:=List.getElem_of_mem ((h.iff _ (nO ok he)).1 h0)
  have h2:=h.shut j hj (by omega) e he (by rw[Nv];exact xo)
  rw[Nv,nP ok he oK]at h2
  exact h2 hr
end
end Go.Proofs.YtgoelphibofcmaaGreat.V

namespace Go.Proofs.YtgoelphibofcmaaGreat.V
open Go.RowKit
def AV.clean:AV->Bool
 | .int .. | .bool _| .str _| .b4| .gD| .iD| .iQ| .own .. | .ptr .. | .map .. | .p7 _=>true
 | .sl l=>l.isEmpty
 |_=>false
def AV.xW:AV->Bool
 | .agg cs=>cs.all AV.clean
 | .gn cs=>cs.all fun a=>match a with
  | .agg cs=>cs.all AV.clean
  |a=>a.clean
 |a=>a.clean
def xE (ids:List Id) (g g':Rows):Rows:=fun id=>if id∈ids then g' id else g id
theorem vd {ids:List Id} {g g':Rows} {id:Id} (h:id∈ids):xE ids g g' id=g' id:=if_pos h
theorem rV {ids:List Id} {g g':Rows} {id:Id} (h:id∉ids):xE ids g g' id=g id:=if_neg h
section
variable {P:Program} {w w':World} {D D' D1 D2:Nat->Prop} {ι ι1 ι2:Names}
theorem jx {a:AV} {v:Value} (hp:a.clean=true) (h:cu P w D1 ι1 a v):cu P w D2 ι1 a v:=by
 cases h with
 |eD a v h=>
  cases h with
  |int=>exact .eD _ _ (.int _ _)
  |bool=>exact .eD _ _ (.bool _)
  |str=>exact .eD _ _ (.str _)
  |b4=>exact .eD _ _ .b4
  |gD=>exact .eD _ _ .gD
  |iD=>exact .eD _ _ .iD
  |iQ=>exact .eD _ _ .iQ
  |zm a c h=>exact .eD _ _ (.zm a c h)
  |sl rows b o n c sz vs h1 h2 h3=>
   have:rows=[]:=by simpa[AV.clean]using hp
   subst this
   simp only[List.length_nil]at h1
   subst h1
   exact .eD _ _ (.zm _ _ h3)
  |cI=>simp[AV.clean]at hp
  |agg=>simp[AV.clean]at hp
  |fn=>simp[AV.clean]at hp
 |own id off len o cap B h1 h2 h3 h4 h5 h6=>exact .own id off len o cap B h1 h2 h3 h4 h5 h6
 |map id m B h1 h2=>exact .map id m B h1 h2
 |p7 id c B h1 h2=>exact .p7 id c B h1 h2
 |ptr id i off B h1 h2=>exact .ptr id i off B h1 h2
 |agg=>simp[AV.clean]at hp
 |gn=>simp[AV.clean]at hp
 |fn=>simp[AV.clean]at hp
 |sC=>simp[AV.clean]at hp
theorem lh {cs:List AV} {v:Value} (hc:cs.all AV.clean=true) (h:cu P w D1 ι1 (.agg cs) v):cu P w D2 ι1 (.agg cs) v:=by
 obtain⟨vs,f,rfl,h1,h2,h3,h4⟩:=iw h
 rw[List.all_eq_true]at hc
 exact .agg cs vs f h1 h2 h3 fun j a ha=>jx (hc a (List.mem_of_getElem? ha)) (h4 j a ha)
theorem Ct {a:AV} {v:Value} (hp:a.xW=true) (h:cu P w D1 ι1 a v):cu P w D2 ι1 a v:=by
 cases a with
 |agg cs=>exact lh hp h
 |gn cs=>
  obtain⟨vs,f,rfl,h1,h3,h4⟩:=tp h
  simp only[AV.xW,List.all_eq_true]at hp
  refine .gn cs vs f h1 h3 fun j a ha=>?_
  have:=hp a (List.mem_of_getElem? ha)
  split at this
  ·exact lh this (h4 j _ ha)
  ·exact jx this (h4 j _ ha)
 |_=>exact jx hp h
theorem Cq {ag:Bool} {n:Nat} {cs:List AV} {x:AV} {v:Value} (hc:∀a∈cs,a.clean=true) (hp:part ag n cs=some x) (hr:cu P w D1 ι1 x v):cu P w D2 ι1 x v:=by
 unfold part at hp
 split at hp
 ·split at hp
  ·simp only[Option.some.injEq]at hp;subst hp
   exact lh (List.all_eq_true.2 fun a ha=>hc a (List.mem_of_mem_take ha)) hr
  ·cases hp
 ·exact jx (hc x (List.mem_of_mem_head? hp)) hr
theorem gu.clean {B:qO} {r:Row} (R:gu P w D1 ι1 B r) (h:∀cs∈r.rows,∀a∈cs,a.clean=true):gu P w D2 ι1 B r:=
 ⟨R.sz,R.flat,fun hk=>⟨R.sz,(R.row hk).vJ,(R.row hk).fits,(R.row hk).len,R.flat,fun i j cs a hi hj=>by
  obtain⟨v,q1,q2⟩:=(R.row hk).at_ i j cs a hi hj
  exact⟨v,q1,jx (h cs (List.mem_of_getElem? hi) a (List.mem_of_getElem? hj)) q2⟩⟩,fun m hm=>by
  obtain⟨h1,es,c,h2,h3,h5,h4⟩:=R.map m hm
  refine⟨h1,es,c,h2,h3,h5,fun i cs hi=>?_⟩
  obtain⟨e,kv,vv,q1,q2,q3,q4,q5⟩:=h4 i cs hi
  have hc:=h cs (List.mem_of_getElem? hi)
  exact⟨e,kv,vv,q1,q2,q3,Cq hc q2 q4,jx (hc vv (List.mem_of_getElem? q3)) q5⟩,fun c hc=>by
  obtain⟨h1,buf,s,q,h2,h3,h4⟩:=R.chan c hc
  refine⟨h1,buf,s,q,h2,h3,fun i cs hi=>?_⟩
  obtain⟨a,u,rfl,q2,q3⟩:=h4 i cs hi
  exact⟨a,u,rfl,q2,jx (h [a] (List.mem_of_getElem? hi) a (by simp)) q3⟩⟩
def Handed (ids:List Id) (g:Rows):Prop:=∀id∈ids,∃r,g id=some r/\r.w=true/\∀cs∈r.rows,∀a∈cs,a.clean=true
theorem FC {f:Nat} {args eB:List AV} {g:Rows} {n:Nat} {K:AV->ar->Prop} (hv:da (dO g) 6 args=some eB)
  (h:Sound P f eB ⟨fun _=>none,n⟩ fun r σ'=>∃ids,r.xW=true/\Handed ids σ'.get/\K r ⟨xE ids g σ'.get,σ'.next⟩):Sound P f args ⟨g,n⟩ K:=by
 intro hs D ι w vs S U A
 let E:Nat->Prop:=fun b=>D b∨∃id r B,g id=some r/\ι id=some B/\b=B.b
 have lt:∀id r B,g id=some r->ι id=some B->B.b<w.heap.size:=fun id r B h1 h2=>by
  obtain⟨B',dr,R,_⟩:=S.row id r h1
  rw[h2]at dr;injection dr with dr;subst dr
  exact R.lt
 have S0:fR P w.heap.size E ι (fun _=>none) w:=⟨Nat.le_refl _,fun b hb=>by
  rcases hb with hb|⟨id,r,B,h1,h2,rfl⟩
  ·exact S.dead b hb
  ·exact lt id r B h1 h2,fun id r h=>(by cases h),fun id jB r r' B B' h=>(by cases h)⟩
 obtain⟨l1,l2⟩:=gi hv
 have A':e6 P w E ι eB vs:=⟨by rw[A.1,l1],fun j a hj=>by
  obtain⟨a0,kD,hz⟩:=l2 j a hj
  obtain⟨u,hu,hr⟩:=A.2 j a0 kD
  refine⟨u,hu,(qc (D2:=E) (ι2:=ι) (fun b h=>.inl h) (fun id row hg hw=>?_) 6 a0 u a hr hz).1⟩
  unfold dO at hg
  simp only[Option.map_eq_some_iff]at hg
  obtain⟨r,mY,rfl⟩:=hg
  obtain⟨B,hB,R,_,_⟩:=S.row id r mY
  exact⟨B,hB,R.flag true,.inr ⟨id,r,B,mY,hB,rfl⟩⟩⟩
 refine(h w.heap.size E ι w vs S0 U A').mono ?_
 rintro e w' ⟨r0,g',n',D2,ι1,u,rfl,⟨ids,nH,hid,hK⟩,T,S1,U1,hn,hR⟩
 have hb:∀b,b<w.heap.size->w'.heap[b]? =w.heap[b]? :=T.below.block
 have hz:=T.below.size
 have frame:∀{a v},cu P w D ι a v->cu P w' D ι1 a v:=fun h=>h.frame (fun b hd=>hb b (S.dead b hd)) (fun _ h=>h) T.names
 refine⟨r0,_,n',D,ι1,u,rfl,hK,⟨T.below.mono S.lo,fun b hd=>hb b (S.dead b hd),fun _ h=>h,T.names,fun _ h=>.inl h⟩,⟨Nat.le_trans S.lo hz,fun b hd=>Nat.lt_of_lt_of_le (S.dead b hd) hz,fun id r hr=>?_,fun Pb id2 r1 r2 B1 B2 h1 h2 hw zh oJ KD=>?_⟩,U1,hn,Ct nH hR⟩
 ·by_cases hi:id∈ids
  ·rw[vd hi]at hr
   obtain⟨r',mY,hw,hcr⟩:=hid id hi
   rw[hr]at mY;injection mY with mY;subst mY
   obtain⟨B,hB,R,k1,k2⟩:=S1.row id r hr
   have jS:=k1 hw
   exact⟨B,hB,R.clean hcr,fun _=>Nat.le_trans S.lo jS,fun _ hd=>Nat.lt_irrefl _ (Nat.lt_of_lt_of_le (S.dead _ hd) jS)⟩
  ·rw[rV hi]at hr
   obtain⟨B,hB,R,k1,k2⟩:=S.row id r hr
   have PX:=lt id r B hr hB
   exact⟨B,T.names _ _ hB,R.frame (hb _ PX) fun a v h=>frame h,k1,k2⟩
 ·have new:∀{id r B},id∈ids->xE ids g g' id=some r->ι1 id=some B->w.heap.size<=B.b/\g' id=some r/\r.w=true:=fun {id r B} hi hr hB=>by
   rw[vd hi]at hr
   obtain⟨r',mY,hw,_⟩:=hid id hi
   replace mY:g' id=some r':=mY
   rw[hr]at mY;injection mY with mY;subst mY
   obtain⟨B',dr,_,k1,_⟩:=S1.row id r hr
   rw[hB]at dr;injection dr with dr;subst dr
   exact⟨k1 hw,hr,hw⟩
  have xl:∀{id r B},id∉ids->xE ids g g' id=some r->ι1 id=some B->B.b<w.heap.size/\g id=some r/\ι id=some B:=fun {id r B} hi hr hB=>by
   rw[rV hi]at hr
   obtain⟨B',dr,_⟩:=S.row id r hr
   have:=T.names _ _ dr
   rw[hB]at this;injection this with this;subst this
   exact⟨lt id r _ hr dr,hr,dr⟩
  by_cases i1:Pb∈ids
  ·obtain⟨a1,a2,a3⟩:=new i1 h1 zh
   by_cases i2:id2∈ids
   ·obtain⟨b1,b2,b3⟩:=new i2 h2 oJ
    exact S1.inj Pb id2 r1 r2 B1 B2 a2 b2 hw zh oJ KD
   ·obtain⟨b1,_⟩:=xl i2 h2 oJ
    omega
  ·obtain⟨a1,a2,a3⟩:=xl i1 h1 zh
   by_cases i2:id2∈ids
   ·obtain⟨b1,_⟩:=new i2 h2 oJ
    omega
   ·obtain⟨b1,b2,b3⟩:=xl i2 h2 oJ
    exact S.inj Pb id2 r1 r2 B1 B2 a2 b2 hw a3 b3 KD
theorem FW (hm:P.follows .mixedOrders=true) {f:Nat} {args eB:List AV} {σ:ar} {K:AV->ar->Prop} (hv:da (dO σ.get) 6 args=some eB)
  (h:Call P f eB ⟨fun _=>none,σ.next⟩ fun r σ'=>∃ids,r.xW=true/\Handed ids σ'.get/\K r ⟨xE ids σ.get σ'.get,σ'.next⟩):Call P f args σ K:=
 gw (FC hv (fP hm h))
end
end Go.Proofs.YtgoelphibofcmaaGreat.V

namespace Go.Proofs.YtgoelphibofcmaaGreat.V
open Go.RowKit
attribute [local irreducible] dx wpOps gp Call
attribute [local go_sem] aH fC eG fW fV cF upd cj K.av cJ AV.cells AV.cell rowOf rowsOf part ld rowAt bj bY dz eb gT bE cZ er fS eU dp eh cX cW dR dS bH aW cN bG cQ cP ee ei ef cL bP cY ec bF aL cU cw gS bl cG bI aP dd aU dB AV.undef bw bB dV ea dI dG cE ep ev cq ek ej cR cV List.getD_cons_zero List.getD_cons_succ List.getD_nil List.all_cons List.all_nil Bool.and_true Bool.true_and Bool.and_self Bool.not_true Bool.not_false Option.map_some Option.map_none Option.bind_some Option.bind_none List.length_cons List.length_nil List.take_succ_cons List.take_zero List.take_nil List.drop_succ_cons List.drop_zero List.drop_nil List.head?_cons List.map_cons List.map_nil List.getElem?_cons_zero List.getElem?_cons_succ List.cons_append List.nil_append List.append_nil List.length_map List.set_cons_zero List.set_cons_succ Nat.reduceMul eq_self Int.toNat_natCast Int.natCast_nonneg and_self true_and and_true decide_true decide_false Bool.false_eq_true Nat.zero_add Nat.add_zero List.contains_cons List.contains_nil Bool.or_false Bool.false_or beq_self_eq_true Nat.reduceBEq ne_eq not_true_eq_false not_false_eq_true Id.mk.injEq false_and and_false Nat.reduceLT Int.reduceLE Int.reduceLT Int.reduceToNat Int.reduceNeg Int.reduceAdd Nat.le_refl List.length_append beq_true beq_false Bool.not_eq_eq_eq_not or_false false_or dO ah aq aI aZ bt ck aS bf aO aY cK bK
def lv (P:Program) (f:Nat) (args:List AV) (R:AV->Prop):Prop:=∀n:Nat,Call P f args ⟨fun _=>none,n⟩ fun r0 σ'=>∃r',fZ σ'.get 6 r0=some r'/\R r'
theorem aj.r {P:Program} {f:Nat} {args:List AV} {r:AV} (h:aj P f args r):lv P f args (fun r'=>r'=r):=h
theorem Et {P:Program} {f:Nat} {args eB:List AV} {g:Rows} {n:Nat} {R:AV->Prop} (hv:da (dO g) 6 args=some eB) (h:Sound P f eB ⟨fun _=>none,n⟩ fun r0 σ'=>∃r',fZ σ'.get 6 r0=some r'/\R r'):Sound P f args ⟨g,n⟩ fun r σ'=>R r/\σ'=⟨g,n⟩:=by
 intro hs D ι w vs S U A
 refine(wm (g0:=g) (K:=R) ⟨eB,hv,h⟩ (fun _ _ h=>h) S U A).mono ?_
 rintro e w' ⟨r,D',u,rfl,hR,T,S',hr⟩
 exact⟨r,g,n,D',ι,u,rfl,⟨hR,rfl⟩,T,S',U,Nat.le_refl _,hr⟩
theorem lv.x {P:Program} (hm:P.follows .mixedOrders=true) {f:Nat} {args eB:List AV} {R:AV->Prop} (h:lv P f eB R) {σ:ar} (hv:da (dO σ.get) 6 args=some eB):Call P f args σ fun r σ'=>R r/\σ'=σ:=
 gw (Et hv (fP hm (h σ.next)))
theorem lv.body {P:Program} {f:Nat} {args:List AV} {R:AV->Prop} {nt na:Nat} {body:VC} {res:List mE} (hf:mV P f=some ⟨nt,na,body,res⟩) (ha:na=args.length) (h:(∀a∈args,eu a)->∀n:Nat,dx (Call P) body (j0 res fun r0 σ'=>∃r',fZ σ'.get 6 r0=some r'/\R r') (cj args) ⟨fun _=>none,n⟩):lv P f args R:=fun n=>lx hf ha fun hl=>h hl n
def dH (f:Nat->Int) (n:Nat):List (List AV):=(List.range n).map fun i=>br (f i)
theorem dt (f:Nat->Int) (n:Nat):(dH f n).length=n:=by simp[dH]
theorem dC {f:Nat->Int} {n i:Nat} (h:i<n):(dH f n)[i]? =some (br (f i)):=by simp[dH,h]
theorem kA {f g:Nat->Int} {n k:Nat} {v:Int} (hk:k<n) (hv:g k=v) (h:∀i,i<n->i≠k->g i=f i):(dH f n).set k (br v)=dH g n:=by
 refine List.ext_getElem? fun i=>?_
 rw[List.getElem?_set]
 by_cases hi:k=i
 ·subst hi
  rw[if_pos rfl,dt,if_pos hk,dC hk,hv]
 ·rw[if_neg hi]
  by_cases e9:i<n
  ·rw[dC e9,dC e9,h i e9 (fun h=>hi h.symm)]
  ·rw[List.getElem?_eq_none (by rw[dt];omega),List.getElem?_eq_none (by rw[dt];omega)]
theorem Fv (f:Nat->Int) (n:Nat):dH f (n+1)=dH f n++[br (f n)]:=by simp[dH,List.range_succ]
theorem fzI (g:Rows) (n:Nat) (a:Int):da g (n+1) (br a)=some (br a):=by simp[br,ah,aq,aI]
theorem Q5 (g:Rows) (n:Nat) (a:Int):dU g (n+1) (br a)=some (br a):=by simp[br,aX,bD,dQ]
theorem Ig {g:Rows} {f:Nat->Int} {n m:Nat}:gN g (m+1) (dH f n)=some (dH f n):=by
 have:dH f n=((List.range n).map f).map br:=by simp[dH]
 rw[this];exact sk fun x=>Q5 g m x
theorem yV {g:Rows} {f:Nat->Int} {n m:Nat}:dM g (m+1) (dH f n)=some (dH f n):=by
 have:dH f n=((List.range n).map f).map br:=by simp[dH]
 rw[this];exact pg fun x=>fzI g m x
def MJ (l:List Nat):AV:=if l=[]then .b4 else .sl (l.map eN)
def oY (cnt:Nat) (bs:List PB) (m:Nat):List (List AV):=(List.range cnt).map fun v=>[MJ (iC bs m v)]
theorem Bs {cnt:Nat} {bs:List PB} {m v:Nat} (h:v<cnt):(oY cnt bs m)[v]? =some [MJ (iC bs m v)]:=by simp[oY,h]
def fy (cnt:Nat) (bs:List PB) (f:Nat->Int):List AV:=[.int .i64 cnt,.sl (bs.map aw),.sl (oY cnt bs bs.length),.sl (dH f bs.length)]
theorem sY {bs:List PB} {e:Nat} (h:e<bs.length):(bs.map aw)[e]? =some (aw (bU bs e)):=getD_map aw h
def Small (bs:List PB) (f:Nat->Int):Prop:=∀e,e<bs.length->(0<=(bU bs e).s/\(bU bs e).s<=4)/\-4<=f e/\f e<=4
theorem HX (cnt:Nat) (bs:List PB) (f:Nat->Int) (hs:Small bs f) (e v:Nat) (he:e<bs.length):aj Tryz.prog 260 [.cI (fy cnt bs f),.int .i64 v,.int .i64 e] (.gn [.int .i64 (fm bs f e v),.int .i64 (bz bs e v)]):=by
 refine aj.body eI rfl fun hl n0=>?_
 clear hl
 have hb:=sY he
 have hf:=dC (f:=f) he
 obtain⟨⟨s0,s1⟩,s2,s3⟩:=hs e he
 have w1:IntKind.i64.wrap ((bU bs e).s-f e)=(bU bs e).s-f e:=bW (by omega)
 have w2:IntKind.i64.wrap ((bU bs e).s+f e)=(bU bs e).s+f e:=bW (by omega)
 unfold fm bz
 generalize bU bs e=b at *
 by_cases h:b.a=v
 ·have hd:decide ((b.a:Int)=(v:Int))=true:=decide_eq_true (by rw[h])
  (try((repeat(revert hN;revert N;apply Pn.out));refine wk (tw @fy.eq_1 (tw @hb (tw @hf (tw @aw.eq_1 (tw @br.eq_1 (tw @hd (tw @w1 @w2))))))) ?_;(repeat(refine Pn.mk ?_;intro N hN))))
  refine gP (.inl rfl) (by simp only[go_sem, ↓reduceIte,Nat.reduceEqDiff,Nat.reduceAdd,Nat.reduceSub,Nat.reduceLeDiff,reduceCtorEq];rfl) (by simp only[go_sem, ↓reduceIte,Nat.reduceEqDiff,Nat.reduceAdd,Nat.reduceSub,Nat.reduceLeDiff,reduceCtorEq];rfl) ?_
  simp only[eo,aX,bD,dQ,Option.map_some,if_pos h]
 ·have hd:decide ((b.a:Int)=(v:Int))=false:=decide_eq_false fun hc=>h (by omega)
  (try((repeat(revert hN;revert N;apply Pn.out));refine wk (tw @fy.eq_1 (tw @hb (tw @hf (tw @aw.eq_1 (tw @br.eq_1 (tw @hd (tw @w1 @w2))))))) ?_;(repeat(refine Pn.mk ?_;intro N hN))))
  refine gP (.inl rfl) (by simp only[go_sem, ↓reduceIte,Nat.reduceEqDiff,Nat.reduceAdd,Nat.reduceSub,Nat.reduceLeDiff,reduceCtorEq];rfl) (by simp only[go_sem, ↓reduceIte,Nat.reduceEqDiff,Nat.reduceAdd,Nat.reduceSub,Nat.reduceLeDiff,reduceCtorEq];rfl) ?_
  simp only[eo,aX,bD,dQ,Option.map_some,if_neg h]
theorem DO (cnt:Nat) (hn:cnt<=1048576) (bs:List PB) (ok:mj cnt bs) (oQ:bs.length<=1048576) (f:Nat->Int) (hs:Small bs f) (y:Nat) (hy:y<cnt):
  lv Tryz.prog 239 [.cI (fy cnt bs f),.int .i64 y] fun r=>∃out,r=.sl (dH out cnt)/\xL cnt bs f y out:=by
 refine lv.body eI rfl fun hl n0=>?_
 clear hl
 (try((repeat(revert hN;revert N;apply Pn.out));refine wk @fy.eq_1 ?_;(repeat(refine Pn.mk ?_;intro N hN))))
 refine aQ (fun n env st=>∃k:Nat,n=(cnt)-k/\k<=(cnt)/\env 6=.int .i64 (k:Int)/\(∃o:Id,env 5=.own o 0 k/\st.get o=some ⟨true,1,dH (fun _=>-1) k⟩/\o.bQ<st.next)) (cnt) ⟨0,by omega,by omega,sl @fy.eq_1,⟨⟨239001000,n0+1⟩,by(simp only[go_sem, ↓reduceIte,Nat.reduceEqDiff,Nat.reduceAdd,Nat.reduceSub,Nat.reduceLeDiff,reduceCtorEq])<;>rfl,by(simp only[go_sem, ↓reduceIte,Nat.reduceEqDiff,Nat.reduceAdd,Nat.reduceSub,Nat.reduceLeDiff,reduceCtorEq])<;>rfl,by(try dsimp only);omega⟩⟩ ?_
 rintro n_a env_a st_a ⟨k,rfl,ale,a6,pU⟩ dY
 have a0:=dY 0 (by kernel_rfl);have a1:=dY 1 (by kernel_rfl)
 simp only[go_sem, ↓reduceIte,Nat.reduceEqDiff,Nat.reduceAdd,Nat.reduceSub,Nat.reduceLeDiff,reduceCtorEq,fy]at a0 a1
 clear dY
 obtain⟨o,a5,ag,yj⟩:=pU
 have tl:=dt (fun _=>-1) k
 have qR:=dD yj
 by_cases hk:(k:Int)<(cnt:Int)
 ·have cH:∀{e:Env} {gg:Rows} {nx:Nat},(e 6=.int .i64 (IntKind.i64.wrap ((k:Int)+1)))->(∃o:Id,e 5=.own o 0 (k+1)/\gg o=some ⟨true,1,dH (fun _=>-1) (k+1)⟩/\o.bQ<nx)->∃m0,m0<(cnt)-k/\∃k:Nat,m0=(cnt)-k/\k<=(cnt)/\e 6=.int .i64 (k:Int)/\(∃o:Id,e 5=.own o 0 k/\gg o=some ⟨true,1,dH (fun _=>-1) k⟩/\o.bQ<nx):=fun x1 x2=>⟨_,by omega,k+1,rfl,by omega,(by rw[x1,aA (by omega)]),x2⟩
  have e1:k+1<=16777216:=by omega
  have rD:dH (fun _=>-1) k++[[.int .i64 (-1)]]=dH (fun _=>-1) (k+1):=(Fv _ _).symm
  (try((repeat(revert hN;revert N;apply Pn.out));refine wk (tw @a6 (tw @a0 (tw @a1 (tw @a5 (tw @ag (tw @qR (tw @hk (tw @tl (tw @e1 (tw @rD @fy.eq_1)))))))))) ?_;(repeat(refine Pn.mk ?_;intro N hN))))
  exact cH (sd (tw @a6 (tw @a0 (tw @a1 @fy.eq_1)))) (⟨⟨239005002,st_a.next+1⟩,sd @Nat.zero_add,sd @rD,by(try dsimp only);omega⟩)
 have lq:k=cnt:=by omega
 subst lq
 have QF:(y:Int)<(k:Int):=by omega
 have hym:=dC (f:=fun _=>-1) hy
 have Ac:(dH (fun _=>-1) k).set y (br 0)=dH (fun v=>if v=y then 0 else -1) k:=kA hy (if_pos rfl) fun i _ hi=>if_neg hi
 rw[br]at Ac hym
 (try((repeat(revert hN;revert N;apply Pn.out));refine wk (tw @a6 (tw @a0 (tw @a1 (tw @a5 (tw @ag (tw @qR (tw @hk (tw @tl (tw @QF (tw @hym (tw @Ac @fy.eq_1))))))))))) ?_;(repeat(refine Pn.mk ?_;intro N hN))))
 refine aQ (fun m env st=>∃(i:Nat) (out:Nat->Int) (Q:List Nat) (p:Id),m=k-i/\env 8=.int .i64 (i:Int)/\env 7=.own p 0 Q.length/\st.get p=some ⟨true,1,Q.map eN⟩/\st.get o=some ⟨true,1,dH out k⟩/\o.bQ<p.bQ/\p.bQ<st.next/\zb k bs f y out Q i/\i<=Q.length) k ⟨0,_,[y],⟨239007001,st_a.next+1+1⟩,by omega,by(simp only[go_sem, ↓reduceIte,Nat.reduceEqDiff,Nat.reduceAdd,Nat.reduceSub,Nat.reduceLeDiff,reduceCtorEq])<;>rfl,by(simp only[go_sem, ↓reduceIte,Nat.reduceEqDiff,Nat.reduceAdd,Nat.reduceSub,Nat.reduceLeDiff,reduceCtorEq])<;>rfl,by(simp only[go_sem, ↓reduceIte,Nat.reduceEqDiff,Nat.reduceAdd,Nat.reduceSub,Nat.reduceLeDiff,reduceCtorEq])<;>rfl,sd @qR,by(try dsimp only);omega,by(try dsimp only);omega,zb.start hy,by simp⟩ ?_
 rintro n env_b st_b ⟨i,out,Q,p,rfl,b8,b7,bgp,bgo,dP,hpn,hB,hiq⟩ fE
 have b0:=fE 0 (by kernel_rfl)
 have b5:=fE 5 (by kernel_rfl)
 simp only[go_sem, ↓reduceIte,Nat.reduceEqDiff,Nat.reduceAdd,Nat.reduceSub,Nat.reduceLeDiff,reduceCtorEq,a6,a0,a1,a5,fy]at b0 b5
 clear fE
 have hql:=hB.len
 have QK:=dt out k
 have hqm:(Q.map eN).length=Q.length:=by simp
 have zk:=dD hpn
 have oL:=dD (i:=o) (n:=st_b.next) (by omega)
 by_cases hi:(i:Int)<(Q.length:Int)
 ·have e9:i<Q.length:=by omega
  have jJ:(Q.map eN)[i]? =some (eN Q[i]):=by simp[e9]
  have KO:=hB.lt _ (List.getElem_mem e9)
  obtain⟨vt,Ml⟩:∃vt,vt=Q[i]:=⟨_,rfl⟩
  rw[<-Ml]at jJ KO
  have hA:=Bs (cnt:=k) (bs:=bs) (m:=bs.length) KO
  have JC:(vt:Int)<(k:Int):=by omega
  have kQ:=qj bs bs.length vt
  have hme:∀x,x<(iC bs bs.length vt).length->(iC bs bs.length vt).getD x 0<bs.length/\C0 bs ((iC bs bs.length vt).getD x 0) vt:=fun x hx=>by
   rw[List.getD_eq_getElem?_getD,List.getElem?_eq_getElem hx]
   exact qk.1 (List.getElem_mem hx)
  have OJ:∀e∈iC bs bs.length vt,∃x,x<(iC bs bs.length vt).length/\(iC bs bs.length vt).getD x 0=e:=fun e he=>by
   obtain⟨x,hx,rfl⟩:=List.getElem_of_mem he
   exact⟨x,hx,by rw[List.getD_eq_getElem?_getD,List.getElem?_eq_getElem hx];rfl⟩
  generalize hIn:iC bs bs.length vt=I at *
  unfold MJ at hA
  by_cases Ji:I=[]
  ·rw[if_pos Ji]at hA
   have hI1:I.length=0:=by rw[Ji];rfl
   (try((repeat(revert hN;revert N;apply Pn.out));refine wk (tw @b0 (tw @b5 (tw @b7 (tw @b8 (tw @bgp (tw @hi (tw @jJ (tw @hqm (tw @eN.eq_1 @fy.eq_1))))))))) ?_;(repeat(refine Pn.mk ?_;intro N hN))))
   refine aQ (fun n env st=>∃x:Nat,n=(I.length)-x/\x<=(I.length)/\env 10=.int .i64 (x:Int)/\(∃(iv:Nat->Int) (Q':List Nat) (p':Id),env 7=.own p' 0 Q'.length/\st.get p'=some ⟨true,1,Q'.map eN⟩/\st.get o=some ⟨true,1,dH iv k⟩/\o.bQ<p'.bQ/\p'.bQ<st.next/\zb k bs f y iv Q' i/\(∃h:i<Q'.length,Q'[i]=vt)/\(∀z,z<x->0<fm bs f (I.getD z 0) (bz bs (I.getD z 0) vt)->0<=iv (bz bs (I.getD z 0) vt)))) (I.length) ⟨0,by omega,by omega,sl (tw @b0 (tw @b5 (tw @b8 @fy.eq_1))),⟨out,Q,p,sd @b7,sd @bgp,sd @bgo,dP,by(try dsimp only);omega,hB,⟨e9,Ml.symm⟩,fun z hz=>by omega⟩⟩ ?_
   rintro n_c env_c st_c ⟨x,rfl,cle,jd,cI0⟩ cfr
   have c0:=cfr 0 (by kernel_rfl);have c5:=cfr 5 (by kernel_rfl);have c8:=cfr 8 (by kernel_rfl);have c9:=cfr 9 (by kernel_rfl)
   simp only[go_sem, ↓reduceIte,Nat.reduceEqDiff,Nat.reduceAdd,Nat.reduceSub,Nat.reduceLeDiff,reduceCtorEq,b0,b5,b8,fy]at c0 c5 c8 c9
   clear cfr
   obtain⟨iv,Q',p',c7,Gn,wI,B4,Mb,dr,⟨vU,pz⟩,IS⟩:=cI0
   have Se:=dr.len
   have MS:=dt iv k
   have Mc:(Q'.map eN).length=Q'.length:=by simp
   have yl:=dD Mb
   have lG:=dD (i:=o) (n:=st_c.next) (by omega)
   have x1:=cr B4
   have hx:¬(x:Int)<((0:Nat):Int):=by omega
   have hxe:x=I.length:=by omega
   have hw:IntKind.i64.wrap ((i:Int)+1)=((i+1:Nat):Int):=aA (by omega)
   (try((repeat(revert hN;revert N;apply Pn.out));refine wk (tw @jd (tw @c0 (tw @c5 (tw @c8 (tw @c9 (tw @c7 (tw @hx (tw @hA (tw @JC @fy.eq_1))))))))) ?_;(repeat(refine Pn.mk ?_;intro N hN))))
   refine⟨_,?_,i+1,iv,Q',p',rfl,sd (tw @jd (tw @c0 (tw @c5 (tw @c8 (tw @c9 @hw))))),sd @c7,sd @Gn,sd @wI,B4,by(try dsimp only);omega,dr.next vU fun e he hr=>?_,by omega⟩
   ·omega
   ·rw[pz,hIn]at he
    rw[pz]at hr ⊢
    obtain⟨z,hz,rfl⟩:=OJ e he
    exact IS z (by omega) hr
  ·rw[if_neg Ji]at hA
   have pk:(I.map eN).length=I.length:=by simp
   (try((repeat(revert hN;revert N;apply Pn.out));refine wk (tw @b0 (tw @b5 (tw @b7 (tw @b8 (tw @bgp (tw @hi (tw @jJ (tw @hqm (tw @eN.eq_1 @fy.eq_1))))))))) ?_;(repeat(refine Pn.mk ?_;intro N hN))))
   refine aQ (fun n env st=>∃x:Nat,n=(I.length)-x/\x<=(I.length)/\env 10=.int .i64 (x:Int)/\(∃(iv:Nat->Int) (Q':List Nat) (p':Id),env 7=.own p' 0 Q'.length/\st.get p'=some ⟨true,1,Q'.map eN⟩/\st.get o=some ⟨true,1,dH iv k⟩/\o.bQ<p'.bQ/\p'.bQ<st.next/\zb k bs f y iv Q' i/\(∃h:i<Q'.length,Q'[i]=vt)/\(∀z,z<x->0<fm bs f (I.getD z 0) (bz bs (I.getD z 0) vt)->0<=iv (bz bs (I.getD z 0) vt)))) (I.length) ⟨0,by omega,by omega,sl (tw @b0 (tw @b5 (tw @b8 @fy.eq_1))),⟨out,Q,p,sd @b7,sd @bgp,sd @bgo,dP,by(try dsimp only);omega,hB,⟨e9,Ml.symm⟩,fun z hz=>by omega⟩⟩ ?_
   rintro n_c env_c st_c ⟨x,rfl,cle,jd,cI0⟩ cfr
   have c0:=cfr 0 (by kernel_rfl);have c5:=cfr 5 (by kernel_rfl);have c8:=cfr 8 (by kernel_rfl);have c9:=cfr 9 (by kernel_rfl)
   simp only[go_sem, ↓reduceIte,Nat.reduceEqDiff,Nat.reduceAdd,Nat.reduceSub,Nat.reduceLeDiff,reduceCtorEq,b0,b5,b8,fy]at c0 c5 c8 c9
   clear cfr
   obtain⟨iv,Q',p',c7,Gn,wI,B4,Mb,dr,⟨vU,pz⟩,IS⟩:=cI0
   have Se:=dr.len
   have MS:=dt iv k
   have Mc:(Q'.map eN).length=Q'.length:=by simp
   have yl:=dD Mb
   have lG:=dD (i:=o) (n:=st_c.next) (by omega)
   have x1:=cr B4
   by_cases hx:(x:Int)<(I.length:Int)
   ·have gO:∀{e:Env} {gg:Rows} {nx:Nat},(e 10=.int .i64 (IntKind.i64.wrap ((x:Int)+1)))->(∃(iv:Nat->Int) (Q':List Nat) (p':Id),e 7=.own p' 0 Q'.length/\gg p'=some ⟨true,1,Q'.map eN⟩/\gg o=some ⟨true,1,dH iv k⟩/\o.bQ<p'.bQ/\p'.bQ<nx/\zb k bs f y iv Q' i/\(∃h:i<Q'.length,Q'[i]=vt)/\(∀z,z<(x+1)->0<fm bs f (I.getD z 0) (bz bs (I.getD z 0) vt)->0<=iv (bz bs (I.getD z 0) vt)))->∃m0,m0<(I.length)-x/\∃x:Nat,m0=(I.length)-x/\x<=(I.length)/\e 10=.int .i64 (x:Int)/\(∃(iv:Nat->Int) (Q':List Nat) (p':Id),e 7=.own p' 0 Q'.length/\gg p'=some ⟨true,1,Q'.map eN⟩/\gg o=some ⟨true,1,dH iv k⟩/\o.bQ<p'.bQ/\p'.bQ<nx/\zb k bs f y iv Q' i/\(∃h:i<Q'.length,Q'[i]=vt)/\(∀z,z<x->0<fm bs f (I.getD z 0) (bz bs (I.getD z 0) vt)->0<=iv (bz bs (I.getD z 0) vt))):=fun x1 x2=>⟨_,by omega,x+1,rfl,by omega,(by rw[x1,aA (by omega)]),x2⟩
    have NJ:x<I.length:=by omega
    have LI:(I.map eN)[x]? =some (eN (I.getD x 0)):=getD_map eN NJ
    obtain⟨he,oK⟩:=hme x NJ
    obtain⟨e,Qh⟩:∃e,e=I.getD x 0:=⟨_,rfl⟩
    rw[<-Qh]at LI he oK
    have iq:=sY he
    have hq:=nO ok (v:=vt) he
    have Qu:=nP ok he oK
    have Me:=HX k bs f hs e (bz bs e vt) he
    have Oy:=ok e he
    have tg:IntKind.i64.wrap (((bU bs e).a:Int)+((bU bs e).b:Int))=((bU bs e).a:Int)+((bU bs e).b:Int):=bW (by omega)
    have uk:IntKind.i64.wrap (((bU bs e).a:Int)+((bU bs e).b:Int)-(vt:Int))=(bz bs e vt:Int):=by
     rw[bW (by omega)]
     unfold bz
     rcases oK with h1|h1
     ·rw[if_pos h1];omega
     ·rw[if_neg fun h2=>Oy.2.2 (h2.trans h1.symm)];omega
    have NB:(bz bs e vt:Int)<(k:Int):=by omega
    have LZ:=dC (f:=iv) hq
    have Jm:=dC (f:=iv) KO
    rw[fy]at Me
    have kE:=dr.up i vU
    rw[pz]at kE
    have jS:=dr.lo vt KO
    have hw3:IntKind.i64.wrap (iv vt+1)=iv vt+1:=bW (by omega)
    rw[br]at LZ Jm
    generalize vp:bU bs e=b at *
    by_cases jK:iv (bz bs e vt)<0
    ·by_cases fU:0<fm bs f e (bz bs e vt)
     ·have hV:=dr.visit ok vU (e:=e) he (by rw[pz];exact oK) (by rw[pz];exact jK) (by rw[pz];exact fU)
      rw[pz]at hV
      have fc:(dH iv k).set (bz bs e vt) (br (iv vt+1))=dH (fun v=>if v=bz bs e vt then iv vt+1 else iv v) k:=kA hq (if_pos rfl) fun v _ hv=>if_neg hv
      rw[br]at fc
      have e1:Q'.length+1<=16777216:=by omega
      (repeat(first|((repeat(revert hN;revert N;apply Pn.out));refine wk (tw @jd (tw @c0 (tw @c5 (tw @c8 (tw @c9 (tw @c7 (tw @Gn (tw @wI (tw @hx (tw @hA (tw @pk (tw @LI (tw @JC (tw @iq (tw @tg (tw @uk (tw @NB (tw @LZ (tw @Jm (tw @jK (tw @fU (tw @hw3 (tw @fc (tw @Mc (tw @MS (tw @yl (tw @lG (tw @x1 (tw @e1 (tw @eN.eq_1 (tw @aw.eq_1 @fy.eq_1))))))))))))))))))))))))))))))) ?_;(repeat(refine Pn.mk ?_;intro N hN)))|((try apply Or.inl);refine⟨_,aj.x (Me) (sd (tw @jd (tw @c0 (tw @c5 (tw @c8 (tw @c9 (tw @c7 (tw @Gn (tw @wI (tw @hx (tw @hA (tw @pk (tw @LI (tw @JC (tw @iq (tw @tg (tw @uk (tw @NB (tw @LZ (tw @Jm (tw @jK (tw @fU (tw @hw3 (tw @fc (tw @Mc (tw @MS (tw @yl (tw @lG (tw @x1 (tw @e1 (tw @eN.eq_1 (tw @aw.eq_1 @fy.eq_1)))))))))))))))))))))))))))))))),?_⟩;refine hN _ _ ?_;clear hN N)))
      exact gO (sd (tw @jd (tw @c0 (tw @c5 (tw @c8 @c9))))) (⟨_,Q'++[bz bs e vt],⟨239020003,st_c.next+1+1+1+1+1+1⟩,by rw[List.length_append];simp only[go_sem, ↓reduceIte,Nat.reduceEqDiff,Nat.reduceAdd,Nat.reduceSub,Nat.reduceLeDiff,reduceCtorEq,List.length_cons,List.length_nil],by rw[List.map_append,List.map_cons,List.map_nil];simp only[go_sem, ↓reduceIte,Nat.reduceEqDiff,Nat.reduceAdd,Nat.reduceSub,Nat.reduceLeDiff,reduceCtorEq,eN],sd (tw @lG @x1),by(try dsimp only);omega,by(try dsimp only);omega,hV,⟨by simp;omega,by rw[List.getElem_append_left vU];exact pz⟩,fun z hz hr=>by
       by_cases Pa:z=x
       ·subst Pa
        rw[<-Qh,if_pos rfl]
        have:=(dr.iff vt KO).2 (by rw[<-pz];exact List.getElem_mem vU)
        omega
       ·have:=IS z (by omega) hr
        split
        ·have:=(dr.iff vt KO).2 (by rw[<-pz];exact List.getElem_mem vU)
         omega
        ·exact this⟩)
     ·(repeat(first|((repeat(revert hN;revert N;apply Pn.out));refine wk (tw @jd (tw @c0 (tw @c5 (tw @c8 (tw @c9 (tw @c7 (tw @Gn (tw @wI (tw @hx (tw @hA (tw @pk (tw @LI (tw @JC (tw @iq (tw @tg (tw @uk (tw @NB (tw @LZ (tw @jK (tw @fU (tw @MS (tw @yl (tw @lG (tw @x1 (tw @eN.eq_1 (tw @aw.eq_1 @fy.eq_1)))))))))))))))))))))))))) ?_;(repeat(refine Pn.mk ?_;intro N hN)))|((try apply Or.inl);refine⟨_,aj.x (Me) (sd (tw @jd (tw @c0 (tw @c5 (tw @c8 (tw @c9 (tw @c7 (tw @Gn (tw @wI (tw @hx (tw @hA (tw @pk (tw @LI (tw @JC (tw @iq (tw @tg (tw @uk (tw @NB (tw @LZ (tw @jK (tw @fU (tw @MS (tw @yl (tw @lG (tw @x1 (tw @eN.eq_1 (tw @aw.eq_1 @fy.eq_1))))))))))))))))))))))))))),?_⟩;refine hN _ _ ?_;clear hN N)))
      exact gO (sd (tw @jd (tw @c0 (tw @c5 (tw @c8 @c9))))) (⟨iv,Q',p',sd @c7,sd (tw @Gn @yl),sd (tw @wI @lG),B4,by(try dsimp only);omega,dr,⟨vU,pz⟩,fun z hz hr=>by
       by_cases Pa:z=x
       ·subst Pa;rw[<-Qh]at hr;exact absurd hr fU
       ·exact IS z (by omega) hr⟩)
    ·(repeat(first|((repeat(revert hN;revert N;apply Pn.out));refine wk (tw @jd (tw @c0 (tw @c5 (tw @c8 (tw @c9 (tw @c7 (tw @Gn (tw @wI (tw @hx (tw @hA (tw @pk (tw @LI (tw @JC (tw @iq (tw @tg (tw @uk (tw @NB (tw @LZ (tw @jK (tw @MS (tw @yl (tw @lG (tw @x1 (tw @eN.eq_1 (tw @aw.eq_1 @fy.eq_1))))))))))))))))))))))))) ?_;(repeat(refine Pn.mk ?_;intro N hN)))|((try apply Or.inl);refine⟨_,aj.x (Me) (sd (tw @jd (tw @c0 (tw @c5 (tw @c8 (tw @c9 (tw @c7 (tw @Gn (tw @wI (tw @hx (tw @hA (tw @pk (tw @LI (tw @JC (tw @iq (tw @tg (tw @uk (tw @NB (tw @LZ (tw @jK (tw @MS (tw @yl (tw @lG (tw @x1 (tw @eN.eq_1 (tw @aw.eq_1 @fy.eq_1)))))))))))))))))))))))))),?_⟩;refine hN _ _ ?_;clear hN N)))
     exact gO (sd (tw @jd (tw @c0 (tw @c5 (tw @c8 @c9))))) (⟨iv,Q',p',sd @c7,sd (tw @Gn @yl),sd (tw @wI @lG),B4,by(try dsimp only);omega,dr,⟨vU,pz⟩,fun z hz hr=>by
      by_cases Pa:z=x
      ·subst Pa;rw[<-Qh];omega
      ·exact IS z (by omega) hr⟩)
   ·have hxe:x=I.length:=by omega
    have hw:IntKind.i64.wrap ((i:Int)+1)=((i+1:Nat):Int):=aA (by omega)
    (try((repeat(revert hN;revert N;apply Pn.out));refine wk (tw @jd (tw @c0 (tw @c5 (tw @c8 (tw @c9 (tw @c7 (tw @hx (tw @hA (tw @pk (tw @JC @fy.eq_1)))))))))) ?_;(repeat(refine Pn.mk ?_;intro N hN))))
    refine⟨_,?_,i+1,iv,Q',p',rfl,sd (tw @jd (tw @c0 (tw @c5 (tw @c8 (tw @c9 @hw))))),sd @c7,sd @Gn,sd @wI,B4,by(try dsimp only);omega,dr.next vU fun e he hr=>?_,by omega⟩
    ·omega
    ·rw[pz,hIn]at he
     rw[pz]at hr ⊢
     obtain⟨z,hz,rfl⟩:=OJ e he
     exact IS z (by omega) hr
 ·(try((repeat(revert hN;revert N;apply Pn.out));refine wk (tw @b0 (tw @b5 (tw @b7 (tw @b8 (tw @hi @fy.eq_1))))) ?_;(repeat(refine Pn.mk ?_;intro N hN))))
  have rn:fZ st_b.get 6 (.own o 0 k)=some (.sl (dH out k)):=s8 bgo (by rw[QK];omega) (by rw[List.drop_zero,List.take_of_length_le (by rw[QK];omega)];exact Ig)
  exact⟨_,rfl,_,by simp only[go_sem, ↓reduceIte,Nat.reduceEqDiff,Nat.reduceAdd,Nat.reduceSub,Nat.reduceLeDiff,reduceCtorEq,fo];exact rn,out,rfl,hB.done ok (by omega)⟩
end Go.Proofs.YtgoelphibofcmaaGreat.V

namespace Go.Proofs.YtgoelphibofcmaaGreat.V
open Go.RowKit
attribute [local irreducible] dx wpOps gp Call
attribute [local go_sem] aH fC eG fW fV cF upd cj K.av cJ AV.cells AV.cell rowOf rowsOf part ld rowAt bj bY dz eb gT bE cZ er fS eU dp eh cX cW dR dS bH aW cN bG cQ cP ee ei ef cL bP cY ec bF aL cU cw gS bl cG bI aP dd aU dB AV.undef bw bB dV ea dI dG cE ep ev cq ek ej cR cV List.getD_cons_zero List.getD_cons_succ List.getD_nil List.all_cons List.all_nil Bool.and_true Bool.true_and Bool.and_self Bool.not_true Bool.not_false Option.map_some Option.map_none Option.bind_some Option.bind_none List.length_cons List.length_nil List.take_succ_cons List.take_zero List.take_nil List.drop_succ_cons List.drop_zero List.drop_nil List.head?_cons List.map_cons List.map_nil List.getElem?_cons_zero List.getElem?_cons_succ List.cons_append List.nil_append List.append_nil List.length_map List.set_cons_zero List.set_cons_succ eq_self Int.toNat_natCast Int.natCast_nonneg and_self true_and and_true decide_true decide_false Bool.false_eq_true Nat.zero_add Nat.add_zero List.contains_cons List.contains_nil Bool.or_false Bool.false_or beq_self_eq_true ne_eq not_true_eq_false not_false_eq_true Id.mk.injEq false_and and_false Nat.le_refl List.length_append beq_true beq_false Bool.not_eq_eq_eq_not or_false false_or dO ah aq aI aZ bt ck aS bf aO aY cK bK
def Ni:FG (List Nat):=fun g cs x ids=>(x=[]/\cs=[.b4]/\ids=[])∨∃id,cs=[.own id 0 x.length]/\0<x.length/\g id=some ⟨true,1,x.map eN⟩/\ids=[id]
theorem KX:xI Ni 1 where
 frame:=fun h hf=>by
  rcases h with h|⟨id,h1,h0,h2,h3⟩
  ·exact .inl h
  ·subst h3;exact .inr ⟨id,h1,h0,(hf id (by simp)).trans h2,rfl⟩
 len:=fun h=>by rcases h with⟨_,h,_⟩|⟨id,h,_⟩<;>subst h<;>rfl
 cell:=fun h=>by rcases h with⟨_,h,_⟩|⟨id,h,_⟩<;>subst h<;>rfl
 live:=fun h i hi=>by
  rcases h with⟨_,_,h⟩|⟨id,h1,h0,h2,h3⟩
  ·subst h;cases hi
  ·subst h3
   have:i=id:=by simpa using hi
   subst this
   exact⟨_,h2,rfl,by simp[qp]⟩
 small:=by simp[qp]
theorem Mt {g:Rows} {rows:List (List AV)} {xs:List (List Nat)} {ids:List Id} (n:Nat) (h:eL Ni g rows xs ids):dM (dO g) (n+2) rows=some (xs.map fun l=>[MJ l]):=
 h.fz (fun {cs x ids} h=>by
  rcases h with⟨h0,h1,_⟩|⟨id,h1,h0,h2,_⟩
  ·subst h0 h1;rw[ah,aq,aS];rfl
  ·have gI:x≠[]:=by rintro rfl;simp at h0
   subst h1
   rw[ah,aq,gz (e:=eN) (sz:=1) (by simp[dO,h2]) rfl fun a=>fzN _ n a]
   simp[MJ,gI])
theorem eL.Pr {α:Type} {R:FG α} {sz:Nat} {g:Rows} {rows:List (List AV)} {xs:List α} {ids:List Id} (ok:xI R sz) (h:eL R g rows xs ids) (oe:ids.Nodup) (k:Nat) (hk:k<xs.length):
  ∃cs ic,rows[k]? =some cs/\R g cs xs[k] ic/\(∀i∈ic,i∈ids)/\∀(g':Rows) oP x' NL,R g' oP x' NL->(∀i∈ids,i∉ic->g' i=g i)->NL.Nodup->(∀i∈NL,i∉ids)->∃B9,eL R g' (rows.set k oP) (xs.set k x') B9/\B9.Nodup/\∀i∈B9,i∈NL∨i∈ids:=by
 obtain⟨r1,cs,r2,i1,ic,i2,rfl,rfl,rfl,h3,h4,h5⟩:=h.split k hk
 obtain⟨n1,n2,n3⟩:=List.nodup_append.1 oe
 obtain⟨nc,n5,n4⟩:=List.nodup_append.1 n2
 refine⟨cs,ic,by simp,h4,fun i hi=>by simp[hi],fun g' oP x' NL hR hf hn' jT=>⟨i1++(NL++i2),?_,?_,fun i hi=>?_⟩⟩
 ·have e:xs.set r1.length x'=xs.take r1.length++x'::xs.drop (r1.length+1):=by rw[List.set_eq_take_append_cons_drop,if_pos hk]
  have e2:(r1++cs::r2).set r1.length oP=r1++oP::r2:=by simp
  rw[e,e2]
  refine(h3.frame ok fun i hi=>hf i (by simp[hi]) fun hc=>n3 i hi i (by simp[hc]) rfl).app (.cons hR (h5.frame ok fun i hi=>hf i (by simp[hi]) fun hc=>n4 i hc i hi rfl))
 ·rw[List.nodup_append,List.nodup_append]
  refine⟨n1,⟨hn',n5,fun x hx y hy he=>?_⟩,fun x hx y hy he=>?_⟩
  ·subst he;exact jT x hx (by simp[hy])
  ·subst he
   rcases List.mem_append.1 hy with hy|hy
   ·exact jT x hy (by simp[hx])
   ·exact n3 x hx x (by simp[hy]) rfl
 ·rcases List.mem_append.1 hi with hi|hi
  ·exact .inr (by simp[hi])
  ·rcases List.mem_append.1 hi with hi|hi
   ·exact .inl hi
   ·exact .inr (by simp[hi])
def pP (A:Id) (lo:Nat) (L:List (List Nat)) (g:Rows) (nx:Nat):Prop:=∃rows ids,g A=some ⟨true,1,rows⟩/\eL Ni g rows L ids/\ids.Nodup/\∀i∈ids,lo<i.bQ/\i.bQ<nx
def bh (cnt:Nat) (bs:List PB) (A F:Id):List AV:=[.int .i64 cnt,.sl (bs.map aw),.own A 0 cnt,.own F 0 bs.length]
def kH (cnt:Nat) (bs:List PB) (m:Nat):List (List Nat):=(List.range cnt).map fun v=>iC bs m v
theorem iY (cnt:Nat) (bs:List PB) (m:Nat):(kH cnt bs m).length=cnt:=by simp[kH]
structure nj (cnt:Nat) (bs:List PB) (f:Nat->Int) (X A F:Id) (g:Rows) (nx:Nat):Prop where
 x:g X=some ⟨true,4,[bh cnt bs A F]⟩
 a:pP A F.bQ (kH cnt bs bs.length) g nx
 f:g F=some ⟨true,1,dH f bs.length⟩
 xa:X.bQ<A.bQ
 af:A.bQ<F.bQ
 fn:F.bQ<nx
theorem pP.fz {A:Id} {lo cnt:Nat} {bs:List PB} {m nx n:Nat} {g:Rows} (h:pP A lo (kH cnt bs m) g nx):V.fz (dO g) (n+3) (.own A 0 cnt)=some (.sl (oY cnt bs m)):=by
 obtain⟨rows,ids,h1,h2,_,_⟩:=h
 have hl:=h2.len
 rw[iY]at hl
 rw[gW]
 simp only[dO,h1,Option.map_some,if_true]
 rw[if_pos (by omega),List.drop_zero,List.take_of_length_le (by omega)]
 have:=Mt n h2
 rw[this]
 simp[kH,oY]
theorem nj.fz {cnt:Nat} {bs:List PB} {f:Nat->Int} {X A F:Id} {g:Rows} {nx:Nat} (h:nj cnt bs f X A F g nx):V.fz (dO g) 6 (.ptr X 0 0)=some (.cI (fy cnt bs f)):=by
 have hF:dO g F=some ⟨true,1,dH f bs.length⟩:=by simp[dO,h.f]
 have hX:dO g X=some ⟨true,4,[bh cnt bs A F]⟩:=by simp[dO,h.x]
 have hf:V.fz (dO g) 5 (.own F 0 bs.length)=some (.sl (dH f bs.length)):=by
  rw[gW]
  simp only[hF,if_true]
  rw[if_pos (by rw[dt];omega),List.drop_zero,List.take_of_length_le (by rw[dt];omega),yV];rfl
 have ha:=h.a.fz (n:=2)
 rw[aY]
 simp only[hX,if_true,List.getElem?_cons_zero,List.drop_zero,bh,ah,aq,aI,ck,ha,hf,Option.map_some,fy]
theorem EJ (cnt:Nat) (bs:List PB):kH cnt bs 0=List.replicate cnt []:=by
 refine List.ext_getElem? fun i=>?_
 simp only[kH,List.getElem?_map,List.getElem?_replicate]
 by_cases h:i<cnt
 ·rw[List.getElem?_range h,if_pos h];rfl
 ·rw[List.getElem?_eq_none (by simpa using h),if_neg h];rfl
theorem xz (g:Rows):∀n:Nat,eL Ni g (List.replicate n [.b4]) (List.replicate n []) []
 |0=>.nil
 |n+1=>.cons (i1:=[]) (.inl ⟨rfl,rfl,rfl⟩) (xz g n)
def v7 (cnt:Nat) (bs:List PB) (m:Nat):List (List Nat):=(kH cnt bs m).set (bU bs m).a (iC bs m (bU bs m).a++[m])
theorem Aj {cnt:Nat} {bs:List PB} {m v:Nat} (hv:v<cnt) (gI:(bU bs m).a≠v):(v7 cnt bs m)[v]? =some (iC bs m v):=by
 unfold v7
 rw[List.getElem?_set_ne gI]
 simp[kH,hv]
theorem EI {cnt:Nat} {bs:List PB} {m:Nat} (ha:(bU bs m).a<cnt) (hb:(bU bs m).b<cnt) (gI:(bU bs m).a≠(bU bs m).b):(v7 cnt bs m).set (bU bs m).b (iC bs m (bU bs m).b++[m])=kH cnt bs (m+1):=by
 refine List.ext_getElem? fun i=>?_
 by_cases hi:i<cnt
 ·have hr:(kH cnt bs (m+1))[i]? =some (iC bs (m+1) i):=by simp[kH,hi]
  rw[hr,EK]
  by_cases h1:(bU bs m).b=i
  ·rw[List.getElem?_set,if_pos h1,if_pos (by simp[v7,iY];omega),if_pos (.inr h1),h1]
  ·rw[List.getElem?_set_ne h1]
   by_cases h2:(bU bs m).a=i
   ·unfold v7
    rw[List.getElem?_set,if_pos h2,if_pos (by rw[iY];omega),if_pos (.inl h2),h2]
   ·rw[Aj hi h2,if_neg (fun h=>h.elim h2 h1),List.append_nil]
 ·rw[List.getElem?_eq_none (by simp[v7,iY];omega),List.getElem?_eq_none (by rw[iY];omega)]
theorem kd {α:Type} {l:List α} {k:Nat} {x:α} (h:l[k]? =some x) (hk:k<l.length):l[k]=x:=by
 rw[List.getElem?_eq_getElem hk]at h;exact Option.some.inj h
theorem DG {A K:Id} {lo Pm nx k j:Nat} {L:List (List Nat)} {La:List Nat} {g:Rows} {rows:List (List AV)} {ids:List Id} (hR:eL Ni g rows L ids) (oe:ids.Nodup) (mU:∀i∈ids,lo<i.bQ/\i.bQ<Pm) (hA:A.bQ<=lo) (hL:L[k]? =some La) (hK1:Pm<=K.bQ) (LS:K.bQ<nx) (jS:lo<Pm):
  ∃cs,rows[k]? =some cs/\((La=[]/\cs=[.b4])∨∃id:Id,cs=[.own id 0 La.length]/\0<La.length/\g id=some ⟨true,1,La.map eN⟩/\id.bQ<Pm/\lo<id.bQ)/\
   ∀g':Rows,g' A=some ⟨true,1,rows.set k [.own K 0 (La.length+1)]⟩->g' K=some ⟨true,1,La.map eN++[[.int .i64 j]]⟩->(∀i:Id,i.bQ<Pm->(i=A)=False->(∀id,cs=[.own id 0 La.length]->(i=id)=False)->g' i=g i)->pP A lo (L.set k (La++[j])) g' nx:=by
 have hk:k<L.length:=(List.getElem?_eq_some_iff.1 hL).1
 have Rm:=kd hL hk
 obtain⟨cs,ic,dn,Nt,OE,uj⟩:=hR.Pr KX oe k hk
 rw[Rm]at Nt
 refine⟨cs,dn,?_,fun g' h1 h2 h3=>?_⟩
 ·rcases Nt with⟨h1,h2,_⟩|⟨id,h1,h2,h3,h4⟩
  ·exact .inl ⟨h1,h2⟩
  ·subst h4
   have:=mU id (OE id (by simp))
   exact .inr ⟨id,h1,h2,h3,this.2,this.1⟩
 ·obtain⟨B9,q1,q2,q3⟩:=uj g' [.own K 0 (La.length+1)] (La++[j]) [K] (.inr ⟨K,by simp,by simp,by rw[h2];simp[eN],rfl⟩) (fun i hi Qt=>by
   refine h3 i (mU i hi).2 ?_ fun id hid=>?_
   ·simp only[eq_iff_iff,iff_false];rintro rfl;have:=mU _ hi;omega
   ·simp only[eq_iff_iff,iff_false]
    rintro rfl
    rcases Nt with⟨_,h4,_⟩|⟨jB,h4,_,_,h5⟩
    ·rw[hid]at h4;cases h4
    ·rw[hid]at h4
     simp only[List.cons.injEq,AV.own.injEq,and_true]at h4
     rw[h5,h4]at Qt
     exact Qt (by simp)) (by simp) fun i hi hc=>by
   rw[List.mem_singleton.1 hi]at hc;have:=mU _ hc;omega
  refine⟨_,B9,h1,q1,q2,fun i hi=>?_⟩
  rcases q3 i hi with h|h
  ·rw[List.mem_singleton.1 h];omega
  ·have:=mU i h;omega
theorem Ki {P:Program} {Q:Ex->Env->ar->Prop} {c:VC} {env:Env} {σ:ar} (I:Env->ar->Prop) (h2:∀e s,I e s->Q .normal e s) (h1:∀N':Env->ar->Prop,(∀e s,I e s->N' e s)->dx (Call P) c (dd N' Q) env σ):dx (Call P) c Q env σ:=by
 refine jc (fun _ _ _ _ h=>h) bp c _ _ env σ (fun x e s h=>?_) (h1 I fun _ _ h=>h)
 cases x with
 |normal=>exact h2 e s h
 |exit id=>exact h
 |ret=>exact h
end Go.Proofs.YtgoelphibofcmaaGreat.V
