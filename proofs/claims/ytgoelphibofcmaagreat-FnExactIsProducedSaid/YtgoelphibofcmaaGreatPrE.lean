/- Points: a copy, and equal neighbours are struck out. -/
import Derived.Test.YtgoelphibofcmaaGreatPrB
import Derived.Test.YtgoelphibofcmaaGreatPrD
import Derived.RangeFuncNested
import Derived.RangeFuncBound
import Derived.RangeFuncCalls
import Derived.RangeFuncLeaves
import Derived.Shelf.Abstract
import Derived.Shelf.RegionOpen
import Derived.WalkKit
import Derived.OwnWalkIn
import Derived.TacticsInMore
import Derived.LoopNIn
import Derived.LoopIn
import Derived.BigQuiet
import Derived.Test.YtgoelphibofcmaaGreatPrC
import Derived.RangeFuncBox
import Derived.RangeFuncWrites
import Derived.Maps.AppendAt
import Derived.OrdersIn
set_option linter.unusedVariables false
set_option linter.unusedSimpArgs false
set_option maxRecDepth 100000
set_option maxHeartbeats 16000000
namespace Go.Proofs.YtgoelphibofcmaaGreat.V
open Go.RowKit
attribute [local irreducible] dx wpOps gp Call
attribute [local go_sem] aH fC eG fW fV cF upd cj K.av cJ AV.cells AV.cell rowOf rowsOf part ld rowAt bj bY dz eb gT bE cZ er fS eU dp eh cX cW dR dS bH aW cN bG cQ cP ee ei ef cL bP cY ec bF aL cU cw gS bl cG bI aP dd aU dB AV.undef bw bB dV ea dI dG cE ep ev cq ek ej cR cV List.getD_cons_zero List.getD_cons_succ List.getD_nil List.all_cons List.all_nil Bool.and_true Bool.true_and Bool.and_self Bool.not_true Bool.not_false Option.map_some Option.map_none Option.bind_some Option.bind_none List.length_cons List.length_nil List.take_succ_cons List.take_zero List.take_nil List.drop_succ_cons List.drop_zero List.drop_nil List.head?_cons List.map_cons List.map_nil List.getElem?_cons_zero List.getElem?_cons_succ List.cons_append List.nil_append List.append_nil List.length_map List.set_cons_zero List.set_cons_succ Nat.reduceMul eq_self Int.toNat_natCast Int.natCast_nonneg and_self true_and and_true decide_true decide_false Bool.false_eq_true Nat.zero_add Nat.add_zero List.contains_cons List.contains_nil Bool.or_false Bool.false_or beq_self_eq_true Nat.reduceBEq ne_eq not_true_eq_false not_false_eq_true Id.mk.injEq false_and and_false Nat.reduceLT Int.reduceLE Int.reduceLT Int.reduceToNat Int.reduceNeg Int.reduceAdd Nat.le_refl List.length_append beq_true beq_false Bool.not_eq_eq_eq_not or_false false_or dO ah aq aI aZ bt ck aS bf aO aY cK bK
end Go.Proofs.YtgoelphibofcmaaGreat.V

namespace Go.Proofs.YtgoelphibofcmaaGreat.V
open Go.RowKit
attribute [local irreducible] dx wpOps gp Call
attribute [local go_sem] aH fC eG fW fV cF upd cj K.av cJ AV.cells AV.cell rowOf rowsOf part ld rowAt bj bY dz eb gT bE cZ er fS eU dp eh cX cW dR dS bH aW cN bG cQ cP ee ei ef cL bP cY ec bF aL cU cw gS bl cG bI aP dd aU dB AV.undef bw bB dV ea dI dG cE ep ev cq ek ej cR cV List.getD_cons_zero List.getD_cons_succ List.getD_nil List.all_cons List.all_nil Bool.and_true Bool.true_and Bool.and_self Bool.not_true Bool.not_false Option.map_some Option.map_none Option.bind_some Option.bind_none List.length_cons List.length_nil List.take_succ_cons List.take_zero List.take_nil List.drop_succ_cons List.drop_zero List.drop_nil List.head?_cons List.map_cons List.map_nil List.getElem?_cons_zero List.getElem?_cons_succ List.cons_append List.nil_append List.append_nil List.length_map List.set_cons_zero List.set_cons_succ Nat.reduceMul eq_self Int.toNat_natCast Int.natCast_nonneg and_self true_and and_true decide_true decide_false Bool.false_eq_true Nat.zero_add Nat.add_zero List.contains_cons List.contains_nil Bool.or_false Bool.false_or beq_self_eq_true Nat.reduceBEq ne_eq not_true_eq_false not_false_eq_true Id.mk.injEq false_and and_false Nat.reduceLT Int.reduceLE Int.reduceLT Int.reduceToNat Int.reduceNeg Int.reduceAdd Nat.le_refl List.length_append beq_true beq_false Bool.not_eq_eq_eq_not or_false false_or dO ah aq aI aZ bt ck aS bf aO aY cK bK
end Go.Proofs.YtgoelphibofcmaaGreat.V

namespace Go.Proofs.YtgoelphibofcmaaGreat.V
open Go.RowKit
attribute [local irreducible] dx wpOps gp Call
attribute [local go_sem] aH fC eG fW fV cF upd cj K.av cJ AV.cells AV.cell rowOf rowsOf part ld rowAt bj bY dz eb gT bE cZ er fS eU dp eh cX cW dR dS bH aW cN bG cQ cP ee ei ef cL bP cY ec bF aL cU cw gS bl cG bI aP dd aU dB AV.undef bw bB dV ea dI dG cE ep ev cq ek ej cR cV List.getD_cons_zero List.getD_cons_succ List.getD_nil List.all_cons List.all_nil Bool.and_true Bool.true_and Bool.and_self Bool.not_true Bool.not_false Option.map_some Option.map_none Option.bind_some Option.bind_none List.length_cons List.length_nil List.take_succ_cons List.take_zero List.take_nil List.drop_succ_cons List.drop_zero List.drop_nil List.head?_cons List.map_cons List.map_nil List.getElem?_cons_zero List.getElem?_cons_succ List.cons_append List.nil_append List.append_nil List.length_map List.set_cons_zero List.set_cons_succ Nat.reduceMul eq_self Int.toNat_natCast Int.natCast_nonneg and_self true_and and_true decide_true decide_false Bool.false_eq_true Nat.zero_add Nat.add_zero List.contains_cons List.contains_nil Bool.or_false Bool.false_or beq_self_eq_true Nat.reduceBEq ne_eq not_true_eq_false not_false_eq_true Id.mk.injEq false_and and_false Nat.reduceLT Int.reduceLE Int.reduceLT Int.reduceToNat Int.reduceNeg Int.reduceAdd Nat.le_refl List.length_append beq_true beq_false Bool.not_eq_eq_eq_not or_false false_or dO ah aq aI aZ bt ck aS bf aO aY cK bK
end Go.Proofs.YtgoelphibofcmaaGreat.V

namespace Go.Proofs.YtgoelphibofcmaaGreat.V
open Go.RowKit
attribute [local irreducible] dx wpOps gp Call
attribute [local go_sem] aH fC eG fW fV cF upd cj K.av cJ AV.cells AV.cell rowOf rowsOf part ld rowAt bj bY dz eb gT bE cZ er fS eU dp eh cX cW dR dS bH aW cN bG cQ cP ee ei ef cL bP cY ec bF aL cU cw gS bl cG bI aP dd aU dB AV.undef bw bB dV ea dI dG cE ep ev cq ek ej cR cV List.getD_cons_zero List.getD_cons_succ List.getD_nil List.all_cons List.all_nil Bool.and_true Bool.true_and Bool.and_self Bool.not_true Bool.not_false Option.map_some Option.map_none Option.bind_some Option.bind_none List.length_cons List.length_nil List.take_succ_cons List.take_zero List.take_nil List.drop_succ_cons List.drop_zero List.drop_nil List.head?_cons List.map_cons List.map_nil List.getElem?_cons_zero List.getElem?_cons_succ List.cons_append List.nil_append List.append_nil List.length_map List.set_cons_zero List.set_cons_succ Nat.reduceMul eq_self Int.toNat_natCast Int.natCast_nonneg and_self true_and and_true decide_true decide_false Bool.false_eq_true Nat.zero_add Nat.add_zero List.contains_cons List.contains_nil Bool.or_false Bool.false_or beq_self_eq_true Nat.reduceBEq ne_eq not_true_eq_false not_false_eq_true Id.mk.injEq false_and and_false Nat.reduceLT Int.reduceLE Int.reduceLT Int.reduceToNat Int.reduceNeg Int.reduceAdd Nat.le_refl List.length_append beq_true beq_false Bool.not_eq_eq_eq_not or_false false_or dO ah aq aI aZ bt ck aS bf aO aY cK bK
theorem xw:∀{ps qs:List ad},(ps.Pairwise fun a b=>jl a.aJ b.aJ=true)->(qs.Pairwise fun a b=>jl a.aJ b.aJ=true)->(∀x,x∈ps↔x∈qs)->ps=qs
 |[],[],_,_,_=>rfl
 |[],q::qs,_,_,h=>absurd ((h q).2 (by simp)) (by simp)
 |p::ps,[],_,_,h=>absurd ((h p).1 (by simp)) (by simp)
 |p::ps,q::qs,hp,hq,h=>by
  obtain⟨p1,p2⟩:=List.pairwise_cons.1 hp
  obtain⟨q1,q2⟩:=List.pairwise_cons.1 hq
  have e:p=q:=by
   rcases List.mem_cons.1 ((h p).1 (by simp))with e|e
   ·exact e
   ·rcases List.mem_cons.1 ((h q).2 (by simp))with e'|e'
    ·exact e'.symm
    ·have:=Ht (q1 p e)
     rw[p1 q e']at this;cases this
  subst e
  congr 1
  refine xw p2 q2 fun x=>⟨fun hx=>?_,fun hx=>?_⟩
  ·rcases List.mem_cons.1 ((h x).1 (List.mem_cons_of_mem _ hx))with e|e
   ·subst e;have:=p1 x hx;rw[l6]at this;cases this
   ·exact e
  ·rcases List.mem_cons.1 ((h x).2 (List.mem_cons_of_mem _ hx))with e|e
   ·subst e;have:=q1 x hx;rw[l6]at this;cases this
   ·exact e
theorem CE {L qs:List ad} (hR:mD L) (hp:qs.Perm L) (hs:∀i j:Nat,i<j->j<qs.length->jl (aE qs j).aJ (aE qs i).aJ=false):qs=L:=by
 rw[qw]at hR
 have hd:L.Pairwise fun a b=>a.aJ≠b.aJ:=hR.imp fun {a b} h e=>by rw[e,l6]at h;cases h
 have hdq:qs.Pairwise fun a b=>a.aJ≠b.aJ:=hp.symm.pairwise hd fun {a b} h e=>h e.symm
 refine xw ?_ hR fun x=>hp.mem_iff
 rw[List.pairwise_iff_getElem]at hdq ⊢
 intro i j hi hj BZ
 have h1:=hs i j BZ hj
 rw[eV hj,eV hi]at h1
 exact DH h1 fun e=>hdq i j hi hj BZ e.symm
theorem BB (ps:List ad) (h0:ps≠[]) (hlen:ps.length<=1048576) (σ:ar) (id:Id) (hv:id.bQ<σ.next) (hg:σ.get id=some ⟨true,3,ps.map ab⟩):
  Call Tryz.prog 145 [.own id 0 ps.length] σ fun a σ'=>∃o:Id,a=.own o 0 ps.length/\σ'.get o=some ⟨true,3,ps.map ab⟩/\σ.next<=o.bQ/\o.bQ<σ'.next/\∀x:Id,x.bQ<σ.next->σ'.get x=σ.get x:=by
 refine iF eI rfl fun hl=>?_
 clear hl
 have h2:ps.length<=16777216:=by omega
 have hm:(ps.map ab).length=ps.length:=by simp
 have v1:=dD hv
 have ht:(ps.map ab).take ps.length=ps.map ab:=by rw[<-hm,List.take_length]
 have ha:(ps.map ab).all (fun c=>c.length==3&&c.all AV.cell)=true:=all_map fun x=>by simp[ab,AV.cell]
 (try((repeat(revert hN;revert N;apply Pn.out));refine wk (tw @hg (tw @h2 (tw @hm (tw @v1 (tw @ht @ha))))) ?_;(repeat(refine Pn.mk ?_;intro N hN))))
 exact iE (vs:=[.own ⟨145003002,σ.next+2⟩ 0 ps.length]) (.inl rfl) (sd @Nat.zero_add) ⟨_,rfl,sd @Nat.zero_add,by(try dsimp only);omega,by(try dsimp only);omega,fun x hx=>by
  have:=dD hx
  simp only[go_sem, ↓reduceIte,Nat.reduceEqDiff,Nat.reduceAdd,Nat.reduceSub,Nat.reduceLeDiff,reduceCtorEq,this]⟩
theorem xO (ps L:List ad) (hlen:ps.length<=1000000) (h0:ps≠[]) (hR:mD L) (hp:ps.Perm L) (σ:ar) (id:Id) (hv:id.bQ<σ.next) (hg:σ.get id=some ⟨true,3,ps.map ab⟩):
  Call Tryz.prog 180 [.own id 0 ps.length] σ fun a σ'=>∃o:Id,a=.agg [.own o 0 L.length]/\σ'.get o=some ⟨true,3,L.map ab⟩/\σ.next<=o.bQ/\o.bQ<σ'.next/\∀x:Id,x.bQ<σ.next->σ'.get x=σ.get x:=by
 refine iF eI rfl fun hl=>?_
 clear hl
 have v1:=dD hv
 (try((repeat(revert hN;revert N;apply Pn.out));refine wk (tw @hg @v1) ?_;(repeat(refine Pn.mk ?_;intro N hN))))
 refine .inr (bp _ _ _ _ _ (fun r σ1 hq=>?_) (BB ps h0 (by omega) ⟨_,_⟩ id (by(try dsimp only);omega) (sd (tw @v1 @hg))))
 obtain⟨g1,x1⟩:=σ1
 obtain⟨o,rfl,q1,q2,q3,q4⟩:=hq
 (try dsimp only at q1 q2 q3 q4)
 have k2:=q4 ⟨180000000,σ.next⟩ (by(try dsimp only);omega)
 simp only[go_sem, ↓reduceIte,Nat.reduceEqDiff,Nat.reduceAdd,Nat.reduceSub,Nat.reduceLeDiff,reduceCtorEq]at k2
 refine hN _ _ ?_
 clear hN N
 (try((repeat(revert hN;revert N;apply Pn.out));refine wk @Nat.zero_add ?_;(repeat(refine Pn.mk ?_;intro N hN))))
 refine .inr (bp _ _ _ _ _ (fun r σ2 hq=>?_) (Fm ML MM ps (by omega) ⟨g1,_⟩ o q1))
 obtain⟨g2,x2⟩:=σ2
 obtain⟨u1,u2,ss,u3,u4,u5,u6⟩:=hq
 (try dsimp only at u1 u2 u3)
 have hss:ss=L:=CE hR (u5.trans hp) u6
 rw[hss]at u3 u4
 have o2:(⟨180000000,σ.next⟩:Id)≠o:=fun e=>by rw[<-e]at q2;(try dsimp only at q2);omega
 have k3:=(u2 _ o2).trans k2
 have of:=eq_false (fun e:o=(⟨180000000,σ.next⟩:Id)=>o2 e.symm)
 refine hN _ _ ?_
 clear hN N
 (try((repeat(revert hN;revert N;apply Pn.out));refine wk @k3 ?_;(repeat(refine Pn.mk ?_;intro N hN))))
 exact iE (.inl rfl) (vs:=[.agg [.own o 0 ps.length]]) (sd @Nat.zero_add) ⟨o,by rw[u4];rfl,sd (tw @of @u3),by omega,by(try dsimp only);omega,fun x hx=>by
  have h1:x≠o:=fun e=>by rw[e]at hx;omega
  have h2:=u2 x h1
  have h3:=q4 x (by(try dsimp only);omega)
  have h4:=dD hx
  simp only[go_sem, ↓reduceIte,Nat.reduceEqDiff,Nat.reduceAdd,Nat.reduceSub,Nat.reduceLeDiff,reduceCtorEq,h4]at h3
  simp only[go_sem, ↓reduceIte,Nat.reduceEqDiff,Nat.reduceAdd,Nat.reduceSub,Nat.reduceLeDiff,reduceCtorEq,h4,h2,h3]⟩
end Go.Proofs.YtgoelphibofcmaaGreat.V

namespace Go.Proofs.YtgoelphibofcmaaGreat.V
open Go.RowKit
attribute [local irreducible] dx wpOps gp Call
attribute [local go_sem] aH fC eG fW fV cF upd cj K.av cJ AV.cells AV.cell rowOf rowsOf part ld rowAt bj bY dz eb gT bE cZ er fS eU dp eh cX cW dR dS bH aW cN bG cQ cP ee ei ef cL bP cY ec bF aL cU cw gS bl cG bI aP dd aU dB AV.undef bw bB dV ea dI dG cE ep ev cq ek ej cR cV List.getD_cons_zero List.getD_cons_succ List.getD_nil List.all_cons List.all_nil Bool.and_true Bool.true_and Bool.and_self Bool.not_true Bool.not_false Option.map_some Option.map_none Option.bind_some Option.bind_none List.length_cons List.length_nil List.take_succ_cons List.take_zero List.take_nil List.drop_succ_cons List.drop_zero List.drop_nil List.head?_cons List.map_cons List.map_nil List.getElem?_cons_zero List.getElem?_cons_succ List.cons_append List.nil_append List.append_nil List.length_map List.set_cons_zero List.set_cons_succ Nat.reduceMul eq_self Int.toNat_natCast Int.natCast_nonneg and_self true_and and_true decide_true decide_false Bool.false_eq_true Nat.zero_add Nat.add_zero List.contains_cons List.contains_nil Bool.or_false Bool.false_or beq_self_eq_true Nat.reduceBEq ne_eq not_true_eq_false not_false_eq_true Id.mk.injEq false_and and_false Nat.reduceLT Int.reduceLE Int.reduceLT Int.reduceToNat Int.reduceNeg Int.reduceAdd Nat.le_refl List.length_append beq_true beq_false Bool.not_eq_eq_eq_not or_false false_or dO ah aq aI aZ bt ck aS bf aO aY cK bK
def AsI (σ:ar) (T:Id) (ts:List ad) (pre:List (List AV)) (e0:Env) (s0:ar):Prop:=
 ∃l':List ad,pre=l'.map ab/\((l'=[]/\e0 3=.b4)∨∃o:Id,e0 3=.own o 0 l'.length/\s0.get o=some ⟨true,3,l'.map ab⟩/\σ.next<o.bQ/\o.bQ<s0.next)/\σ.next<s0.next/\(∀x:Id,x.bQ<σ.next->x≠T->s0.get x=σ.get x)/\s0.get T=some ⟨false,mP.oq,ts.map ab⟩/\s0.get ⟨135000000,σ.next⟩=some ⟨true,1,[[.b4]]⟩/\e0 2=.ptr ⟨135000000,σ.next⟩ 0 0
theorem EW (L:List ad) (x:ad):(L++[x]).length=L.length+1:=by rw[List.length_append];rfl
theorem Br {σ:ar} {c T O:Id} {s:aC} {ts L:List ad} (h:k9 σ.get σ.next c T O s ts) (hlen:ts.length<=100000) (h0:ts≠[]) (hR:mD L) (hp:ts.Perm L):
  Call Tryz.prog 135 [.ptr c 0 0] σ (fun r σ'=>∃o:Id,r=.agg [.own o 0 L.length]/\σ'.get o=some ⟨true,3,L.map ab⟩/\σ.next<=o.bQ/\o.bQ<σ'.next/\σ.next<=σ'.next/\∀x:Id,x.bQ<σ.next->x≠T->σ'.get x=σ.get x):=by
 refine MD rfl mP ?_
 have fH:=h.row
 have Mj:=h.tl
 have v1:=dD h.cv
 have v2:=dD h.tv
 unfold MF
 rw[CV]
 (try((repeat(revert hN;revert N;apply Pn.out));refine wk (tw @fH @v1) ?_;(repeat(refine Pn.mk ?_;intro N hN))))
 refine A5 (Pz (id:=T) (r:=⟨true,mP.oq,ts.map ab⟩) (AsI σ T ts) (sd @CP.eq_1) (sd (tw @Mj @v2)) rfl (by decide) ?_ ?_ ?_)
 ·have vT:(T=(⟨135000000,σ.next⟩:Id))=False:=eq_false fun e=>by have:=h.tv;rw[e]at this;(try dsimp only at this);omega
  have vT2:((⟨135000000,σ.next⟩:Id)=T)=False:=eq_false fun e=>by have:=h.tv;rw[<-e]at this;(try dsimp only at this);omega
  exact⟨[],rfl,.inl ⟨rfl,sd @Nat.zero_add⟩,by(try dsimp only);omega,fun x hx hT=>by
   have h1:=dD hx
   have h2:=eq_false hT
   simp only[go_sem, ↓reduceIte,Nat.reduceEqDiff,Nat.reduceAdd,Nat.reduceSub,Nat.reduceLeDiff,reduceCtorEq,h1,h2],sd @Nat.zero_add,sd @vT2,sd @Nat.zero_add⟩
 ·rintro pre cs rest e0 s0 kv vv hpp ⟨l',rfl,hout,FM,js,hT,h5,e2⟩ hK hpart hvv
  have rC:cs∈ts.map ab:=hpp.subset (by simp)
  obtain⟨tl,hx,rfl⟩:=List.mem_map.1 rC
  have FL:=hpp.length_eq
  simp only[List.length_append,List.length_map,List.length_cons]at FL
  simp[part,ab,MK.ks]at hpart hvv
  subst hpart hvv
  rw[yX,yY]
  have P8:=h.tv
  have vT:=dD (i:=T) (n:=s0.next) (by omega)
  have v5:=dD (i:=⟨135000000,σ.next⟩) (n:=s0.next) (by(try dsimp only);omega)
  clear hpp rC hK
  have hm1:l'.map ab++[ab tl]=(l'++[tl]).map ab:=by simp
  have vV:=EW l' tl
  have qg:(l'++[tl]).map ab=l'.map ab++[[.int .i64 tl.aJ.eS,.int .i64 tl.aJ.eH,.int .i64 tl.aN]]:=by rw[List.map_append];rfl
  rcases hout with⟨KJ,e3⟩|⟨o,e3,og,on,ov⟩
  ·subst KJ
   (try((repeat(revert hN;revert N;apply Pn.out));refine wk (tw @e3 @e2) ?_;(repeat(refine Pn.mk ?_;intro N hN))))
   exact⟨[]++[tl],hm1,.inr ⟨⟨135005005,s0.next+1+1⟩,sl @Nat.zero_add,sl @Nat.zero_add,by(try dsimp only);omega,by(try dsimp only);omega⟩,by(try dsimp only);omega,fun y hy O7=>by
    have h1:=dD (i:=y) (n:=s0.next) (by omega)
    have h2:=js y hy O7
    simp only[go_sem, ↓reduceIte,Nat.reduceEqDiff,Nat.reduceAdd,Nat.reduceSub,Nat.reduceLeDiff,reduceCtorEq,h1,h2],sd (tw @vT @hT),sd (tw @v5 @h5),sd @e2⟩
  ·have vo:=dD ov
   have oT:=cr (a:=T) (b:=o) (by omega)
   have o5:=cr (a:=⟨135000000,σ.next⟩) (b:=o) (by(try dsimp only);omega)
   have kR:(l'.map ab).length=l'.length:=by simp
   have e1:l'.length<=16777215:=by omega
   (try((repeat(revert hN;revert N;apply Pn.out));refine wk (tw @e3 (tw @e2 (tw @og (tw @vo (tw @kR @e1))))) ?_;(repeat(refine Pn.mk ?_;intro N hN))))
   exact⟨l'++[tl],hm1,.inr ⟨⟨135005005,s0.next+1+1⟩,by rw[vV];simp only[go_sem, ↓reduceIte,Nat.reduceEqDiff,Nat.reduceAdd,Nat.reduceSub,Nat.reduceLeDiff,reduceCtorEq]<;>rfl,by rw[qg];simp only[go_sem, ↓reduceIte,Nat.reduceEqDiff,Nat.reduceAdd,Nat.reduceSub,Nat.reduceLeDiff,reduceCtorEq]<;>rfl,by(try dsimp only);omega,by(try dsimp only);omega⟩,by(try dsimp only);omega,fun y hy O7=>by
    have h1:=dD (i:=y) (n:=s0.next) (by omega)
    have h2:=js y hy O7
    have h3:=cr (a:=y) (b:=o) (by omega)
    simp only[go_sem, ↓reduceIte,Nat.reduceEqDiff,Nat.reduceAdd,Nat.reduceSub,Nat.reduceLeDiff,reduceCtorEq,h1,h2,h3],sd (tw @vT (tw @oT @hT)),sd (tw @v5 (tw @o5 @h5)),sd @e2⟩
 ·rintro pre e0 s0 hpp ⟨l',rfl,hout,FM,js,hT,h5,e2⟩ hK
  clear hK
  have lr:l'.Perm ts:=by
   have:∀{a b:List ad},(a.map ab).Perm (b.map ab)->a.Perm b:=fun {a b} po=>by
    have h2:=po.map (fun cs:List AV=>match cs with|[.int _ x,.int _ y,.int _ t]=>(⟨⟨x,y⟩,t⟩:ad)|_=>default)
    simpa[List.map_map,Function.comp_def,ab]using h2
   exact this hpp
  have RQ:=lr.length_eq
  rcases hout with⟨KJ,e3⟩|⟨o,e3,og,on,ov⟩
  ·exfalso
   subst KJ
   exact h0 (List.eq_nil_of_length_eq_zero RQ.symm)
  have gI:l'≠[]:=fun e=>h0 (List.eq_nil_of_length_eq_zero (by rw[<-RQ,e];rfl))
  (try((repeat(revert hN;revert N;apply Pn.out));refine wk (tw @yZ.eq_1 (tw @y5.eq_1 (tw @e3 @e2))) ?_;(repeat(refine Pn.mk ?_;intro N hN))))
  refine .inr (bp _ _ _ _ _ (fun r σ1 hq=>?_) (xO l' L (by omega) gI hR (lr.trans hp) ⟨s0.get,_⟩ o (by(try dsimp only);omega) og))
  obtain⟨g1,x1⟩:=σ1
  obtain⟨o2,rfl,q1,q2,q3,q4⟩:=hq
  (try dsimp only at q1 q2 q3 q4)
  have k5:=(q4 ⟨135000000,σ.next⟩ (by(try dsimp only);omega)).trans h5
  have o25:=cr (a:=⟨135000000,σ.next⟩) (b:=o2) (by(try dsimp only);omega)
  refine hN _ _ ?_
  clear hN N
  (try((repeat(revert hN;revert N;apply Pn.out));refine wk (tw @yZ.eq_1 (tw @y5.eq_1 (tw @e2 @k5))) ?_;(repeat(refine Pn.mk ?_;intro N hN))))
  exact iE (.inl rfl) (vs:=[.agg [.own o2 0 L.length]]) (by rw[y5];simp only[eZ,gR,go_sem, ↓reduceIte,Nat.reduceEqDiff,Nat.reduceAdd,Nat.reduceSub,Nat.reduceLeDiff,reduceCtorEq,e2]) ⟨o2,rfl,sd (tw @o25 @q1),by omega,by(try dsimp only);omega,by(try dsimp only);omega,fun y hy O7=>by
   have h1:=dD (i:=y) (n:=σ.next) hy
   simp only[go_sem, ↓reduceIte,Nat.reduceEqDiff,Nat.reduceAdd,Nat.reduceSub,Nat.reduceLeDiff,reduceCtorEq,h1]
   exact(q4 y (by omega)).trans (js y hy O7)⟩
end Go.Proofs.YtgoelphibofcmaaGreat.V

namespace Go.Proofs.YtgoelphibofcmaaGreat.V
open Go.RowKit
attribute [local irreducible] dx wpOps gp Call
attribute [local go_sem] aH fC eG fW fV cF upd cj K.av cJ AV.cells AV.cell rowOf rowsOf part ld rowAt bj bY dz eb gT bE cZ er fS eU dp eh cX cW dR dS bH aW cN bG cQ cP ee ei ef cL bP cY ec bF aL cU cw gS bl cG bI aP dd aU dB AV.undef bw bB dV ea dI dG cE ep ev cq ek ej cR cV List.getD_cons_zero List.getD_cons_succ List.getD_nil List.all_cons List.all_nil Bool.and_true Bool.true_and Bool.and_self Bool.not_true Bool.not_false Option.map_some Option.map_none Option.bind_some Option.bind_none List.length_cons List.length_nil List.take_succ_cons List.take_zero List.take_nil List.drop_succ_cons List.drop_zero List.drop_nil List.head?_cons List.map_cons List.map_nil List.getElem?_cons_zero List.getElem?_cons_succ List.cons_append List.nil_append List.append_nil List.length_map List.set_cons_zero List.set_cons_succ Nat.reduceMul eq_self Int.toNat_natCast Int.natCast_nonneg and_self true_and and_true decide_true decide_false Bool.false_eq_true Nat.zero_add Nat.add_zero List.contains_cons List.contains_nil Bool.or_false Bool.false_or beq_self_eq_true Nat.reduceBEq ne_eq not_true_eq_false not_false_eq_true Id.mk.injEq false_and and_false Nat.reduceLT Int.reduceLE Int.reduceLT Int.reduceToNat Int.reduceNeg Int.reduceAdd Nat.le_refl List.length_append beq_true beq_false Bool.not_eq_eq_eq_not or_false false_or dO ah aq aI aZ bt ck aS bf aO aY cK bK
theorem k9.three {g g':Rows} {n n':Nat} {c T O:Id} {s:aC} {ts:List ad} (h:k9 g n c T O s ts) (hn:n<=n') (hc:g' c=g c) (hT:g' T=g T) (hO:g' O=g O):k9 g' n' c T O s ts:=
 ⟨hc.trans h.row,hT.trans h.tl,by rw[hO];exact h.op,Nat.lt_of_lt_of_le h.cv hn,Nat.lt_of_lt_of_le h.tv hn,Nat.lt_of_lt_of_le h.ov hn,h.cT,h.cO,h.TO⟩
theorem xq (q:ad):∀l:List ad,(l++[q]).Perm (gY l q)
 |[]=>List.Perm.refl _
 |x::l=>by
  have ih:=xq q l
  rw[gY]
  split
  ·exact List.perm_append_comm (l₁:=x::l) (l₂:=[q])
  ·exact ih.cons x
structure nq (s:aC) (S:iL):Prop where
 at_:∀q,fY (s.bc.ai++S.1) q=fY S.2 q
 perm:(s.bc.ai++S.1).Perm S.2
theorem nq.fit {s:aC} {S:iL} (h:nq s S) (p:aB) (t:Int):jG s (s.bc.ai++S.1) p t=jG s S.2 p t:=by
 have e:fY (s.bc.ai++S.1)=fY S.2:=funext h.at_
 unfold jG
 rw[e]
theorem nq.no {s:aC} {S:iL} (h:nq s S) {p:aB} (h0:dZ S.2 p<0):dZ (s.bc.ai++S.1) p<0:=kV.2 fun t ht=>kV.1 h0 t (h.perm.subset ht)
theorem nq.put {s:aC} {S:iL} (h:nq s S) {x:ad} (h0:dZ S.2 x.aJ<0):nq s (S.1++[x],gY S.2 x) where
 at_ q:=by
  show fY (s.bc.ai++(S.1++[x])) q=fY (gY S.2 x) q
  rw[<-List.append_assoc,xP q (kV.1 (h.no h0)),zw q (kV.1 h0),h.at_]
 perm:=by
  show(s.bc.ai++(S.1++[x])).Perm (gY S.2 x)
  rw[<-List.append_assoc]
  exact(h.perm.append_right [x]).trans (xq x S.2)
structure K9 (σ:ar) (m:Nat) (c T O:Id) (s:aC) (l:List ad) (S:iL) (e7:AV) (g:Rows) (n:Nat):Prop where
 vn:k9 g n c T O s (s.bc.ai++S.1)
 u:(S.1=[]/\e7=.b4)∨∃u:Id,e7=.own u 0 S.1.length/\g u=some ⟨true,3,S.1.map ab⟩/\m<=u.bQ/\u.bQ<n/\0<S.1.length
 lo:m<=n
 fr:∀x:Id,x.bQ<m->x≠T->x≠O->x≠c->g x=σ.get x
theorem K9.frame {σ:ar} {m:Nat} {c T O:Id} {s:aC} {l:List ad} {S:iL} {e7 N2:AV} {g g':Rows} {n n':Nat} (h:K9 σ m c T O s l S e7 g n) (he:N2=e7) (hn:n<=n') (hf:∀x:Id,x.bQ<n->g' x=g x):K9 σ m c T O s l S N2 g' n' where
 vn:=h.vn.frame hn hf
 u:=by
  subst he
  rcases h.u with h1|⟨u,h1,h2,h3,h4,h5⟩
  ·exact .inl h1
  ·exact .inr ⟨u,h1,(hf u h4).trans h2,h3,by omega,h5⟩
 lo:=Nat.le_trans h.lo hn
 fr x hx h1 h2 h3:=(hf x (Nat.lt_of_lt_of_le hx h.lo)).trans (h.fr x hx h1 h2 h3)
theorem He (s:aC) (hP:vH s) (l:List ad) (hA:jn s.aK l) (hW:j5 s.bc.ai l=true) (σ:ar):Call Tryz.prog 78 [.agg (ax s),.agg [.sl (l.map ab)]] σ (fun r σ'=>∃v o,r=.gn [v,.agg [.own o 0 (jZ s l).2.length]]/\(((jZ s l).1=[]/\v=.b4)∨∃u:Id,v=.own u 0 (jZ s l).1.length/\σ'.get u=some ⟨true,3,(jZ s l).1.map ab⟩/\σ.next<=u.bQ/\u.bQ<σ'.next/\u.bQ<o.bQ/\0<(jZ s l).1.length)/\σ'.get o=some ⟨true,3,(jZ s l).2.map ab⟩/\σ.next<=o.bQ/\o.bQ<σ'.next/\∀x:Id,x.bQ<σ.next->σ'.get x=σ.get x):=by
 refine iF eI rfl fun mN=>?_
 clear mN
 have GQ:=hA.1.rf
 have Ji:=w8 hP hA hW
 have OS:=Ji.rf
 (try dsimp only at OS)
 have hsf:=hP.yL
 (try((repeat(revert hN;revert N;apply Pn.out));refine wk @ax.eq_1 ?_;(repeat(refine Pn.mk ?_;intro N hN))))
 have hc:=fun σ=>yD s hP.set s.bc.ai hP.yL σ
 rw[ax]at hc
 refine .inr (bp _ _ _ _ _ (fun r σ1 hq=>?_) (hc _))
 obtain⟨g1,x1⟩:=σ1
 obtain⟨c,T,O,rfl,hC,Ry,P8,hOv,pr,js⟩:=hq
 (try dsimp only at hC Ry P8 hOv pr js)
 have k3:=js ⟨78000001,σ.next⟩ (by(try dsimp only);omega)
 have k5:=js ⟨78000003,σ.next⟩ (by(try dsimp only);omega)
 simp only[go_sem, ↓reduceIte,Nat.reduceEqDiff,Nat.reduceAdd,Nat.reduceSub,Nat.reduceLeDiff,reduceCtorEq]at k3 k5
 have hcx:=hC.cv
 have hTx:=hC.tv
 have hOx:=hC.ov
 refine hN _ _ ?_
 clear hN N
 (try((repeat(revert hN;revert N;apply Pn.out));refine wk (tw @k3 (tw @k5 @ax.eq_1)) ?_;(repeat(refine Pn.mk ?_;intro N hN))))
 refine aQ (fun n env st=>∃(S:iL) (m:Nat) (go:Bool),n=(if go then m else 0)/\env 8=.bool go/\(go=true->ym s l m S=jZ s l/\nE l S.2<m)/\(go=false->S=jZ s l)/\pO s l S/\nq s S/\K9 ⟨g1,x1⟩ x1 c T O s l S (env 7) st.get st.next) (l.length+1) ⟨([],s.bc.ai),l.length+1,true,rfl,sd @Nat.zero_add,fun _=>⟨rfl,by have:=Di l s.bc.ai;(try dsimp only);omega⟩,fun h=>(by cases h),Ji,⟨fun q=>by simp,by simp⟩,?_⟩ ?_
 ·refine⟨?_,.inl ⟨rfl,sd @Nat.zero_add⟩,by(try dsimp only);omega,fun x hx h1 h2 h3=>sd @Nat.zero_add⟩
  have:=hC.frame (g':=g1) (n':=x1+1+1+1) (by omega) fun x hx=>rfl
  simpa using this
 rintro n1 e1 st1 ⟨S,m,go,rfl,e8,qe,hend,hI,hSm,hR⟩ hk
 have c3:=hk 3 (by kernel_rfl)
 have c5:=hk 5 (by kernel_rfl)
 have c6:=hk 6 (by kernel_rfl)
 simp only[go_sem, ↓reduceIte,Nat.reduceEqDiff,Nat.reduceAdd,Nat.reduceSub,Nat.reduceLeDiff,reduceCtorEq]at c3 c5 c6
 clear hk hc
 have nv:∀{x y:Id},x.bQ<y.bQ->x≠y:=fun h e=>by rw[e]at h;omega
 have b3:=(hR.fr ⟨78000001,σ.next⟩ (by(try dsimp only);omega) (nv (by(try dsimp only);omega)) (nv (by(try dsimp only);omega)) (nv (by(try dsimp only);omega))).trans k3
 have b5:=(hR.fr ⟨78000003,σ.next⟩ (by(try dsimp only);omega) (nv (by(try dsimp only);omega)) (nv (by(try dsimp only);omega)) (nv (by(try dsimp only);omega))).trans k5
 have hRl:=hR.lo
 cases go
 ·have hS:=hend rfl
  subst hS
  clear hend qe
  (try((repeat(revert hN;revert N;apply Pn.out));refine wk (tw @e8 @c6) ?_;(repeat(refine Pn.mk ?_;intro N hN))))
  have Be:=hI.len
  have hsf2:=hI.rf
  refine .inr (bp _ _ _ _ _ (fun r σ2 hq=>?_) (Br (σ:=⟨st1.get,_⟩) (L:=(jZ s l).2) (hR.vn.frame (by(try dsimp only);omega) fun x _=>rfl) (by rw[List.length_append];omega) (fun e=>by have:=congrArg List.length e;rw[List.length_append,List.length_nil]at this;have:=hP.some;omega) hI.Ff hSm.perm))
  obtain⟨g2,x2⟩:=σ2
  obtain⟨o,rfl,q1,q2,q3,q4,q5⟩:=hq
  (try dsimp only at q1 q2 q3 q4 q5)
  have d5:=(q5 ⟨78000003,σ.next⟩ (by(try dsimp only);omega) (nv (by(try dsimp only);omega))).trans b5
  refine hN _ _ ?_
  clear hN N
  (try((repeat(revert hN;revert N;apply Pn.out));refine wk (tw @c5 (tw @d5 @c6)) ?_;(repeat(refine Pn.mk ?_;intro N hN))))
  have vv:∀x:Id,σ.next<x.bQ->(x=(⟨78000003,σ.next⟩:Id))=False:=fun x hx=>eq_false fun e=>by rw[e]at hx;(try dsimp only at hx);omega
  have vo:=vv o (by omega)
  refine iE (.inl rfl) (vs:=[e1 7,.agg [.own o 0 (jZ s l).2.length]]) (sd @c5) ⟨_,o,rfl,?_,sd (tw @vo @q1),by omega,by(try dsimp only);omega,fun x hx=>?_⟩
  ·rcases hR.u with h1|⟨u,h1,h2,h3,h4,h40⟩
   ·exact .inl h1
   ·have vu:=vv u (by omega)
    have h5:=(q5 u (by(try dsimp only);omega) (fun e=>by rw[e]at h3;omega)).trans h2
    exact .inr ⟨u,h1,sd (tw @vu @h5),by omega,by(try dsimp only);omega,by(try dsimp only at q2);omega,h40⟩
  ·have h1:=dD hx
   have h2:=q5 x (by omega) (nv (by omega))
   have h3:=hR.fr x (by omega) (nv (by omega)) (nv (by omega)) (nv (by omega))
   have h4:=js x (by(try dsimp only);omega)
   simp only[go_sem, ↓reduceIte,Nat.reduceEqDiff,Nat.reduceAdd,Nat.reduceSub,Nat.reduceLeDiff,reduceCtorEq,h1]at h4
   (try dsimp only at h3)
   simp only[go_sem, ↓reduceIte,Nat.reduceEqDiff,Nat.reduceAdd,Nat.reduceSub,Nat.reduceLeDiff,reduceCtorEq,h1]
   exact h2.trans (h3.trans h4)
 ·obtain⟨hF,hm⟩:=qe rfl
  clear hend qe
  have G8:fw s l S 0=S:=by simp[fw]
  (try((repeat(revert hN;revert N;apply Pn.out));refine wk (tw @e8 (tw @c3 @b3)) ?_;(repeat(refine Pn.mk ?_;intro N hN))))
  refine aQ (fun n env st=>∃i:Nat,n=(l.length)-i/\i<=(l.length)/\env 19=.int .i64 (i:Int)/\(env 8=.bool (decide ((fw s l S i).1.length≠S.1.length))/\nq s (fw s l S i)/\K9 ⟨g1,x1⟩ x1 c T O s l (fw s l S i) (env 7) st.get st.next)) (l.length) ⟨0,by omega,by omega,sl (tw @c3 (tw @c5 @c6)),by(try dsimp only);exact⟨by rw[G8];simp only[go_sem, ↓reduceIte,Nat.reduceEqDiff,Nat.reduceAdd,Nat.reduceSub,Nat.reduceLeDiff,reduceCtorEq]<;>simp,by rw[G8];exact hSm,by rw[G8];exact hR.frame (sd @Nat.zero_add) (by(try dsimp only);omega) fun x _=>rfl⟩⟩ ?_
  rintro n_b env_b st_b ⟨i,rfl,ble,b19,bI0⟩ fE
  have b3:=fE 3 (by kernel_rfl);have b5:=fE 5 (by kernel_rfl);have b6:=fE 6 (by kernel_rfl);have IC:=fE 17 (by kernel_rfl);have ID:=fE 18 (by kernel_rfl)
  simp only[go_sem, ↓reduceIte,Nat.reduceEqDiff,Nat.reduceAdd,Nat.reduceSub,Nat.reduceLeDiff,reduceCtorEq,c3,c5,c6]at b3 b5 b6 IC ID
  clear fE
  obtain⟨b8,bS,bR⟩:=bI0
  obtain⟨zi,GV,Bb⟩:=yW hI hA i (by omega)
  by_cases hi:(i:Int)<(l.length:Int)
  ·have fK:∀{e:Env} {gg:Rows} {nx:Nat},(e 19=.int .i64 (IntKind.i64.wrap ((i:Int)+1)))->(e 8=.bool (decide ((fw s l S (i+1)).1.length≠S.1.length))/\nq s (fw s l S (i+1))/\K9 ⟨g1,x1⟩ x1 c T O s l (fw s l S (i+1)) (e 7) gg nx)->∃m0,m0<(l.length)-i/\∃i:Nat,m0=(l.length)-i/\i<=(l.length)/\e 19=.int .i64 (i:Int)/\(e 8=.bool (decide ((fw s l S i).1.length≠S.1.length))/\nq s (fw s l S i)/\K9 ⟨g1,x1⟩ x1 c T O s l (fw s l S i) (e 7) gg nx):=fun x1 x2=>⟨_,by omega,i+1,rfl,by omega,(by rw[x1,aA (by omega)]),x2⟩
   have e9:i<l.length:=by omega
   have wV:=pA s l S e9
   have hx:=gj e9
   have ht:=hA.2 _ hx
   have jJ:=fa e9
   have Od:=zi.asm hA
   have kR:(l.map ab).length=l.length:=by simp
   have Rq:=zi.rf
   have Rr:=zi.len
   have Jw:AH (aE l i).aJ=true:=hA.1.pt e9
   generalize fw s l S i=U at zi Od wV Rq Rr Bb b8 bS bR
   have hFU:∀q,0<=fY (s.bc.ai++U.1) q->eC s.aK (fY (s.bc.ai++U.1) q)=true:=fun q hq=>by
    rw[bS.at_]at hq ⊢
    exact ig.Kt Od q hq
   (try((repeat(revert hN;revert N;apply Pn.out));refine wk (tw @b19 (tw @b3 (tw @b5 (tw @b6 (tw @IC (tw @ID (tw @hi (tw @jJ (tw @kR @ab.eq_1))))))))) ?_;(repeat(refine Pn.mk ?_;intro N hN))))
   have rq:=bS.fit (aE l i).aJ (aE l i).aN
   refine .inl ⟨_,GA (bR.vn.vn.frame (by(try dsimp only);omega) (by(have:=dD bR.vn.cv);simp only[go_sem, ↓reduceIte,Nat.reduceEqDiff,Nat.reduceAdd,Nat.reduceSub,Nat.reduceLeDiff,reduceCtorEq,this]) (by(have:=dD bR.vn.tv);simp only[go_sem, ↓reduceIte,Nat.reduceEqDiff,Nat.reduceAdd,Nat.reduceSub,Nat.reduceLeDiff,reduceCtorEq,this])) hP.set hFU (aE l i).aJ (aE l i).aN ht,?_⟩
   refine hN _ _ ?_
   clear hN N
   cases hf:jG s U.2 (aE l i).aJ (aE l i).aN
   ·rw[uq hf]at wV
    rw[hf]at rq
    (try((repeat(revert hN;revert N;apply Pn.out));refine wk (tw @b19 (tw @b3 (tw @b5 (tw @b6 (tw @IC (tw @ID (tw @rq @jJ))))))) ?_;(repeat(refine Pn.mk ?_;intro N hN))))
    exact fK (sd (tw @b19 (tw @b3 (tw @b5 (tw @b6 (tw @IC @ID)))))) (by(try dsimp only);exact⟨by rw[wV];simp only[go_sem, ↓reduceIte,Nat.reduceEqDiff,Nat.reduceAdd,Nat.reduceSub,Nat.reduceLeDiff,reduceCtorEq,b8],by rw[wV];exact bS,by rw[wV];exact bR.frame (sd @Nat.zero_add) (by(try dsimp only);omega) (fun y hy=>by
     have h9:=dD hy
     simp only[go_sem, ↓reduceIte,Nat.reduceEqDiff,Nat.reduceAdd,Nat.reduceSub,Nat.reduceLeDiff,reduceCtorEq,h9])⟩)
   ·rw[sr hf]at wV
    rw[hf]at rq
    (try((repeat(revert hN;revert N;apply Pn.out));refine wk (tw @b19 (tw @b3 (tw @b5 (tw @b6 (tw @IC (tw @ID (tw @rq @jJ))))))) ?_;(repeat(refine Pn.mk ?_;intro N hN))))
    have h0:=bS.no (nC hA zi.sub hf)
    have zZ:=bR.lo
    have cx:=bR.vn.cv
    have Tx:=bR.vn.tv
    have Ox:=bR.vn.ov
    refine .inr (bp _ _ _ _ _ (fun r σ2 hq=>?_) (Pp (σ:=⟨bj (bj st_b.get ⟨78008002,st_b.next+1⟩ ⟨true,3,[[.int .i64 0,.int .i64 0,.int .i64 0]]⟩) ⟨78008002,st_b.next+1⟩ ⟨true,3,[[.int .i64 (aE l i).aJ.eS,.int .i64 (aE l i).aJ.eH,.int .i64 (aE l i).aN]]⟩,st_b.next+1+1+1+1⟩) (bR.vn.frame (by(try dsimp only);omega) fun x hx=>by
     have h9:=dD hx
     simp only[go_sem, ↓reduceIte,Nat.reduceEqDiff,Nat.reduceAdd,Nat.reduceSub,Nat.reduceLeDiff,reduceCtorEq,h9]) hP.set hFU (aE l i).aJ Jw (aE l i).aN ht h0))
    obtain⟨g2,x2⟩:=σ2
    obtain⟨rfl,GH,OK,II⟩:=hq
    (try dsimp only at GH OK II)
    have kt:=II ⟨78008002,st_b.next+1⟩ (by(try dsimp only);omega) (fun e=>by rw[<-e]at Tx;(try dsimp only at Tx);omega) (fun e=>by rw[<-e]at Ox;(try dsimp only at Ox);omega)
    simp only[go_sem, ↓reduceIte,Nat.reduceEqDiff,Nat.reduceAdd,Nat.reduceSub,Nat.reduceLeDiff,reduceCtorEq]at kt
    have wY:(⟨(aE l i).aJ,(aE l i).aN⟩:ad)=aE l i:=rfl
    rw[wY,List.append_assoc]at GH
    have hd:decide ((U.1++[aE l i]).length≠S.1.length)=true:=decide_eq_true (by rw[iu];omega)
    have vV:=iu U.1 (aE l i)
    have qg:=qo U.1 (aE l i)
    have QM:=dD (i:=⟨78008002,st_b.next+1⟩) (n:=x2) (by(try dsimp only);omega)
    have c2:=dD GH.cv
    have T2:=dD GH.tv
    have O2:=dD GH.ov
    have GR:∀y:Id,y.bQ<x1->y≠T->y≠O->g2 y=st_b.get y:=fun y hy h1 h2=>by
     have h3:=II y (by omega) h1 h2
     have h4:=dD (i:=y) (n:=st_b.next) (by omega)
     simp only[go_sem, ↓reduceIte,Nat.reduceEqDiff,Nat.reduceAdd,Nat.reduceSub,Nat.reduceLeDiff,reduceCtorEq,h4]at h3
     exact h3
    refine hN _ _ ?_
    clear hN N
    rcases bR.u with⟨hU,b7⟩|⟨u,b7,bu,hu3,hu4,_⟩
    ·(try((repeat(revert hN;revert N;apply Pn.out));refine wk (tw @b19 (tw @b3 (tw @b5 (tw @b6 (tw @IC (tw @ID (tw @b7 (tw @kt @QM)))))))) ?_;(repeat(refine Pn.mk ?_;intro N hN))))
     exact fK (sd (tw @b19 (tw @b3 (tw @b5 (tw @b6 (tw @IC @ID)))))) (by(try dsimp only);exact⟨by rw[wV,hd]<;>simp only[go_sem, ↓reduceIte,Nat.reduceEqDiff,Nat.reduceAdd,Nat.reduceSub,Nat.reduceLeDiff,reduceCtorEq],by rw[wV];exact bS.put (nC hA zi.sub hf),by
      rw[wV]
      refine⟨GH.three (by(try dsimp only);omega) (sd @c2) (sd @T2) (sd @O2),.inr ⟨⟨78011003,x2+1⟩,by rw[vV,hU];simp only[go_sem, ↓reduceIte,Nat.reduceEqDiff,Nat.reduceAdd,Nat.reduceSub,Nat.reduceLeDiff,reduceCtorEq]<;>rfl,by rw[qg,hU];simp only[go_sem, ↓reduceIte,Nat.reduceEqDiff,Nat.reduceAdd,Nat.reduceSub,Nat.reduceLeDiff,reduceCtorEq]<;>rfl,by(try dsimp only);omega,by(try dsimp only);omega,by(try dsimp only);rw[iu];omega⟩,by(try dsimp only);omega,fun y hy h1 h2 h3=>?_⟩
      have h4:=dD (i:=y) (n:=x2) (by omega)
      have h5:=GR y hy h1 h2
      have h6:=bR.fr y hy h1 h2 h3
      (try dsimp only at h6)
      simp only[go_sem, ↓reduceIte,Nat.reduceEqDiff,Nat.reduceAdd,Nat.reduceSub,Nat.reduceLeDiff,reduceCtorEq,h4,h5,h6]⟩)
    ·have ku:=II u (by(try dsimp only);omega) (fun e=>by rw[e]at hu3;omega) (fun e=>by rw[e]at hu3;omega)
     have vu:=dD hu4
     simp only[go_sem, ↓reduceIte,Nat.reduceEqDiff,Nat.reduceAdd,Nat.reduceSub,Nat.reduceLeDiff,reduceCtorEq,vu,bu]at ku
     have SE:=dD (i:=u) (n:=x2) (by omega)
     have ut:=cr (a:=u) (b:=⟨78008002,st_b.next+1⟩) (by(try dsimp only);omega)
     have Sm:(U.1.map ab).length=U.1.length:=by simp
     have QA:U.1.length<=16777215:=by omega
     have uc:=cr (a:=c) (b:=u) (by omega)
     have uT:=cr (a:=T) (b:=u) (by omega)
     have uO:=cr (a:=O) (b:=u) (by omega)
     (try((repeat(revert hN;revert N;apply Pn.out));refine wk (tw @b19 (tw @b3 (tw @b5 (tw @b6 (tw @IC (tw @ID (tw @b7 (tw @kt (tw @QM (tw @ku (tw @SE (tw @ut (tw @Sm @QA))))))))))))) ?_;(repeat(refine Pn.mk ?_;intro N hN))))
     exact fK (sd (tw @b19 (tw @b3 (tw @b5 (tw @b6 (tw @IC @ID)))))) (by(try dsimp only);exact⟨by rw[wV,hd]<;>simp only[go_sem, ↓reduceIte,Nat.reduceEqDiff,Nat.reduceAdd,Nat.reduceSub,Nat.reduceLeDiff,reduceCtorEq],by rw[wV];exact bS.put (nC hA zi.sub hf),by
      rw[wV]
      refine⟨GH.three (by(try dsimp only);omega) (sd (tw @c2 @uc)) (sd (tw @T2 @uT)) (sd (tw @O2 @uO)),.inr ⟨⟨78011003,x2+1⟩,by rw[vV];simp only[go_sem, ↓reduceIte,Nat.reduceEqDiff,Nat.reduceAdd,Nat.reduceSub,Nat.reduceLeDiff,reduceCtorEq]<;>rfl,by rw[qg];simp only[go_sem, ↓reduceIte,Nat.reduceEqDiff,Nat.reduceAdd,Nat.reduceSub,Nat.reduceLeDiff,reduceCtorEq]<;>rfl,by(try dsimp only);omega,by(try dsimp only);omega,by(try dsimp only);rw[iu];omega⟩,by(try dsimp only);omega,fun y hy h1 h2 h3=>?_⟩
      have h4:=dD (i:=y) (n:=x2) (by omega)
      have h5:=GR y hy h1 h2
      have h6:=bR.fr y hy h1 h2 h3
      have h7:=cr (a:=y) (b:=u) (by omega)
      (try dsimp only at h6)
      simp only[go_sem, ↓reduceIte,Nat.reduceEqDiff,Nat.reduceAdd,Nat.reduceSub,Nat.reduceLeDiff,reduceCtorEq,h4,h5,h6,h7]⟩)
  ·have kQ:i=l.length:=by omega
   subst kQ
   rw[rH]at zi b8 GV bS bR
   have pr:=w7 hI hA hm
   (try((repeat(revert hN;revert N;apply Pn.out));refine wk (tw @b19 (tw @b3 (tw @b5 (tw @b6 (tw @IC (tw @ID @hi)))))) ?_;(repeat(refine Pn.mk ?_;intro N hN))))
   by_cases he:(ga s l S).1.length=S.1.length
   ·refine⟨0,by show 0<m;omega,ga s l S,0,false,rfl,?_,fun h=>(by cases h),fun _=>(pr.1 he).symm.trans hF,zi,bS,bR.frame (sd @Nat.zero_add) (by(try dsimp only);omega) fun x _=>rfl⟩
    simp only[go_sem, ↓reduceIte,Nat.reduceEqDiff,Nat.reduceAdd,Nat.reduceSub,Nat.reduceLeDiff,reduceCtorEq,b8,he]<;>simp
   ·obtain⟨m',rfl,Jg,IP⟩:=pr.2 he
    refine⟨m',Nat.lt_succ_self _,ga s l S,m',true,rfl,?_,fun _=>⟨Jg.symm.trans hF,IP⟩,fun h=>(by cases h),zi,bS,bR.frame (sd @Nat.zero_add) (by(try dsimp only);omega) fun x _=>rfl⟩
    have hd:=decide_eq_true he
    simp only[go_sem, ↓reduceIte,Nat.reduceEqDiff,Nat.reduceAdd,Nat.reduceSub,Nat.reduceLeDiff,reduceCtorEq,b8]
    rw[hd]
end Go.Proofs.YtgoelphibofcmaaGreat.V

namespace Go.Proofs.YtgoelphibofcmaaGreat.V
open Go.RowKit
attribute [local irreducible] dx wpOps gp Call
attribute [local go_sem] aH fC eG fW fV cF upd cj K.av cJ AV.cells AV.cell rowOf rowsOf part ld rowAt bj bY dz eb gT bE cZ er fS eU dp eh cX cW dR dS bH aW cN bG cQ cP ee ei ef cL bP cY ec bF aL cU cw gS bl cG bI aP dd aU dB AV.undef bw bB dV ea dI dG cE ep ev cq ek ej cR cV List.getD_cons_zero List.getD_cons_succ List.getD_nil List.all_cons List.all_nil Bool.and_true Bool.true_and Bool.and_self Bool.not_true Bool.not_false Option.map_some Option.map_none Option.bind_some Option.bind_none List.length_cons List.length_nil List.take_succ_cons List.take_zero List.take_nil List.drop_succ_cons List.drop_zero List.drop_nil List.head?_cons List.map_cons List.map_nil List.getElem?_cons_zero List.getElem?_cons_succ List.cons_append List.nil_append List.append_nil List.length_map List.set_cons_zero List.set_cons_succ Nat.reduceMul eq_self Int.toNat_natCast Int.natCast_nonneg and_self true_and and_true decide_true decide_false Bool.false_eq_true Nat.zero_add Nat.add_zero List.contains_cons List.contains_nil Bool.or_false Bool.false_or beq_self_eq_true Nat.reduceBEq ne_eq not_true_eq_false not_false_eq_true Id.mk.injEq false_and and_false Nat.reduceLT Int.reduceLE Int.reduceLT Int.reduceToNat Int.reduceNeg Int.reduceAdd Nat.le_refl List.length_append beq_true beq_false Bool.not_eq_eq_eq_not or_false false_or dO ah aq aI aZ bt ck aS bf aO aY cK bK
end Go.Proofs.YtgoelphibofcmaaGreat.V

namespace Go.Proofs.YtgoelphibofcmaaGreat.V
open Go.RowKit
attribute [local irreducible] dx wpOps gp Call
attribute [local go_sem] aH fC eG fW fV cF upd cj K.av cJ AV.cells AV.cell rowOf rowsOf part ld rowAt bj bY dz eb gT bE cZ er fS eU dp eh cX cW dR dS bH aW cN bG cQ cP ee ei ef cL bP cY ec bF aL cU cw gS bl cG bI aP dd aU dB AV.undef bw bB dV ea dI dG cE ep ev cq ek ej cR cV List.getD_cons_zero List.getD_cons_succ List.getD_nil List.all_cons List.all_nil Bool.and_true Bool.true_and Bool.and_self Bool.not_true Bool.not_false Option.map_some Option.map_none Option.bind_some Option.bind_none List.length_cons List.length_nil List.take_succ_cons List.take_zero List.take_nil List.drop_succ_cons List.drop_zero List.drop_nil List.head?_cons List.map_cons List.map_nil List.getElem?_cons_zero List.getElem?_cons_succ List.cons_append List.nil_append List.append_nil List.length_map List.set_cons_zero List.set_cons_succ Nat.reduceMul eq_self Int.toNat_natCast Int.natCast_nonneg and_self true_and and_true decide_true decide_false Bool.false_eq_true Nat.zero_add Nat.add_zero List.contains_cons List.contains_nil Bool.or_false Bool.false_or beq_self_eq_true Nat.reduceBEq ne_eq not_true_eq_false not_false_eq_true Id.mk.injEq false_and and_false Nat.reduceLT Int.reduceLE Int.reduceLT Int.reduceToNat Int.reduceNeg Int.reduceAdd Nat.le_refl List.length_append beq_true beq_false Bool.not_eq_eq_eq_not or_false false_or dO ah aq aI aZ bt ck aS bf aO aY cK bK
end Go.Proofs.YtgoelphibofcmaaGreat.V

namespace Go.Proofs.YtgoelphibofcmaaGreat.V
open Go.RowKit
attribute [local irreducible] dx wpOps gp Call
attribute [local go_sem] aH fC eG fW fV cF upd cj K.av cJ AV.cells AV.cell rowOf rowsOf part ld rowAt bj bY dz eb gT bE cZ er fS eU dp eh cX cW dR dS bH aW cN bG cQ cP ee ei ef cL bP cY ec bF aL cU cw gS bl cG bI aP dd aU dB AV.undef bw bB dV ea dI dG cE ep ev cq ek ej cR cV List.getD_cons_zero List.getD_cons_succ List.getD_nil List.all_cons List.all_nil Bool.and_true Bool.true_and Bool.and_self Bool.not_true Bool.not_false Option.map_some Option.map_none Option.bind_some Option.bind_none List.length_cons List.length_nil List.take_succ_cons List.take_zero List.take_nil List.drop_succ_cons List.drop_zero List.drop_nil List.head?_cons List.map_cons List.map_nil List.getElem?_cons_zero List.getElem?_cons_succ List.cons_append List.nil_append List.append_nil List.length_map List.set_cons_zero List.set_cons_succ Nat.reduceMul eq_self Int.toNat_natCast Int.natCast_nonneg and_self true_and and_true decide_true decide_false Bool.false_eq_true Nat.zero_add Nat.add_zero List.contains_cons List.contains_nil Bool.or_false Bool.false_or beq_self_eq_true Nat.reduceBEq ne_eq not_true_eq_false not_false_eq_true Id.mk.injEq false_and and_false Nat.reduceLT Int.reduceLE Int.reduceLT Int.reduceToNat Int.reduceNeg Int.reduceAdd Nat.le_refl List.length_append beq_true beq_false Bool.not_eq_eq_eq_not or_false false_or dO ah aq aI aZ bt ck aS bf aO aY cK bK
end Go.Proofs.YtgoelphibofcmaaGreat.V

namespace Go.Proofs.YtgoelphibofcmaaGreat.V
open Go.RowKit
attribute [local irreducible] dx wpOps gp Call
attribute [local go_sem] aH fC eG fW fV cF upd cj K.av cJ AV.cells AV.cell rowOf rowsOf part ld rowAt bj bY dz eb gT bE cZ er fS eU dp eh cX cW dR dS bH aW cN bG cQ cP ee ei ef cL bP cY ec bF aL cU cw gS bl cG bI aP dd aU dB AV.undef bw bB dV ea dI dG cE ep ev cq ek ej cR cV List.getD_cons_zero List.getD_cons_succ List.getD_nil List.all_cons List.all_nil Bool.and_true Bool.true_and Bool.and_self Bool.not_true Bool.not_false Option.map_some Option.map_none Option.bind_some Option.bind_none List.length_cons List.length_nil List.take_succ_cons List.take_zero List.take_nil List.drop_succ_cons List.drop_zero List.drop_nil List.head?_cons List.map_cons List.map_nil List.getElem?_cons_zero List.getElem?_cons_succ List.cons_append List.nil_append List.append_nil List.length_map List.set_cons_zero List.set_cons_succ Nat.reduceMul eq_self Int.toNat_natCast Int.natCast_nonneg and_self true_and and_true decide_true decide_false Bool.false_eq_true Nat.zero_add Nat.add_zero List.contains_cons List.contains_nil Bool.or_false Bool.false_or beq_self_eq_true Nat.reduceBEq ne_eq not_true_eq_false not_false_eq_true Id.mk.injEq false_and and_false Nat.reduceLT Int.reduceLE Int.reduceLT Int.reduceToNat Int.reduceNeg Int.reduceAdd Nat.le_refl List.length_append beq_true beq_false Bool.not_eq_eq_eq_not or_false false_or dO ah aq aI aZ bt ck aS bf aO aY cK bK
structure Nk (g:Rows) (n:Nat) (A S C c T O:Id) (s:aC) (l:List ad):Prop where
 a:∃b,g A=some ⟨b,1,[[.sl (l.map ab)]]⟩
 sy:∃b,g S=some ⟨b,4,[ax s]⟩
 p:∃b,g C=some ⟨b,1,[[.ptr c 0 0]]⟩
 vn:A6 g n c T O s l
 av:A.bQ<n
 sv:S.bQ<n
 pv:C.bQ<n
theorem Nk.ro {g:Rows} {n:Nat} {A S C c T O:Id} {s:aC} {l:List ad} (h:Nk g n A S C c T O s l):Nk (V.ro g) n A S C c T O s l:=by
 obtain⟨b,h1⟩:=h.a
 obtain⟨b2,h2⟩:=h.sy
 obtain⟨b3,h3⟩:=h.p
 exact⟨⟨false,by simp[V.ro,h1]⟩,⟨false,by simp[V.ro,h2]⟩,⟨false,by simp[V.ro,h3]⟩,h.vn.ro,h.av,h.sv,h.pv⟩
theorem Nk.frame {g g':Rows} {n n':Nat} {A S C c T O:Id} {s:aC} {l:List ad} (h:Nk g n A S C c T O s l) (hn:n<=n') (hf:∀x:Id,x.bQ<n->g' x=g x):Nk g' n' A S C c T O s l:=
 ⟨by rw[hf _ h.av];exact h.a,by rw[hf _ h.sv];exact h.sy,by rw[hf _ h.pv];exact h.p,h.vn.frame hn (hf _ h.vn.cv) (hf _ h.vn.tv),Nat.lt_of_lt_of_le h.av hn,Nat.lt_of_lt_of_le h.sv hn,Nat.lt_of_lt_of_le h.pv hn⟩
end Go.Proofs.YtgoelphibofcmaaGreat.V

namespace Go.Proofs.YtgoelphibofcmaaGreat.V
open Go.RowKit
attribute [local irreducible] dx wpOps gp Call
attribute [local go_sem] aH fC eG fW fV cF upd cj K.av cJ AV.cells AV.cell rowOf rowsOf part ld rowAt bj bY dz eb gT bE cZ er fS eU dp eh cX cW dR dS bH aW cN bG cQ cP ee ei ef cL bP cY ec bF aL cU cw gS bl cG bI aP dd aU dB AV.undef bw bB dV ea dI dG cE ep ev cq ek ej cR cV List.getD_cons_zero List.getD_cons_succ List.getD_nil List.all_cons List.all_nil Bool.and_true Bool.true_and Bool.and_self Bool.not_true Bool.not_false Option.map_some Option.map_none Option.bind_some Option.bind_none List.length_cons List.length_nil List.take_succ_cons List.take_zero List.take_nil List.drop_succ_cons List.drop_zero List.drop_nil List.head?_cons List.map_cons List.map_nil List.getElem?_cons_zero List.getElem?_cons_succ List.cons_append List.nil_append List.append_nil List.length_map List.set_cons_zero List.set_cons_succ Nat.reduceMul eq_self Int.toNat_natCast Int.natCast_nonneg and_self true_and and_true decide_true decide_false Bool.false_eq_true Nat.zero_add Nat.add_zero List.contains_cons List.contains_nil Bool.or_false Bool.false_or beq_self_eq_true Nat.reduceBEq ne_eq not_true_eq_false not_false_eq_true Id.mk.injEq false_and and_false Nat.reduceLT Int.reduceLE Int.reduceLT Int.reduceToNat Int.reduceNeg Int.reduceAdd Nat.le_refl List.length_append beq_true beq_false Bool.not_eq_eq_eq_not or_false false_or dO ah aq aI aZ bt ck aS bf aO aY cK bK
def ir (p:aB->Bool) (l:List aB):List aB:=l.filter fun x=> !p x
theorem pC {p:aB->Bool} {l:List aB} {j:Nat} (hj:j<l.length):ir p (l.take (j+1))=ir p (l.take j)++if p l[j]=true then[]else[l[j]]:=by
 unfold ir
 rw[List.take_succ_eq_append_getElem hj,List.filter_append]
 congr 1
 cases h:p l[j]<;>simp[h]
theorem Cc {p:aB->Bool} {l:List aB} (h:∀b∈l,p b=false):ir p l=l:=by
 unfold ir
 rw[List.filter_eq_self]
 intro b hb
 rw[h b hb];rfl
structure IB (p:aB->Bool) (bs:List aB) (j:Nat) (R:List aB):Prop where
 len:R.length=bs.length
 pre:R.take (ir p (bs.take j)).length=ir p (bs.take j)
 post:∀x,j<=x->R[x]? =bs[x]?
 lt:(ir p (bs.take j)).length<j
theorem IB.start {p:aB->Bool} {bs:List aB} {i:Nat} (hi:i<bs.length) (hw:p bs[i]=true) (hp:∀x (h:x<i),p bs[x]=false):IB p bs (i+1) bs/\(ir p (bs.take (i+1))).length=i:=by
 have h1:ir p (bs.take i)=bs.take i:=Cc fun b hb=>by
  obtain⟨x,hx,rfl⟩:=List.getElem_of_mem hb
  rw[List.length_take]at hx
  rw[List.getElem_take]
  exact hp x (by omega)
 have h2:ir p (bs.take (i+1))=bs.take i:=by rw[pC hi,if_pos hw,List.append_nil,h1]
 have h3:(bs.take i).length=i:=by rw[List.length_take];omega
 exact⟨⟨rfl,by rw[h2,h3],fun _ _=>rfl,by rw[h2,h3];omega⟩,by rw[h2,h3]⟩
theorem IB.PD {p:aB->Bool} {bs R:List aB} {j:Nat} (h:IB p bs j R) (hj:j<bs.length) (hw:p bs[j]=true):IB p bs (j+1) R/\(ir p (bs.take (j+1))).length=(ir p (bs.take j)).length:=by
 have h2:ir p (bs.take (j+1))=ir p (bs.take j):=by rw[pC hj,if_pos hw,List.append_nil]
 exact⟨⟨h.len,by rw[h2];exact h.pre,fun x hx=>h.post x (by omega),by rw[h2];have:=h.lt;omega⟩,by rw[h2]⟩
theorem IB.pB {p:aB->Bool} {bs R:List aB} {j:Nat} (h:IB p bs j R) (hj:j<bs.length) (hw:p bs[j]=false):IB p bs (j+1) (R.set (ir p (bs.take j)).length bs[j])/\(ir p (bs.take (j+1))).length=(ir p (bs.take j)).length+1:=by
 have h2:ir p (bs.take (j+1))=ir p (bs.take j)++[bs[j]]:=by rw[pC hj,hw];rfl
 have dE:=h.lt
 have hlen:=h.len
 have sS:=h.pre
 generalize hc:(ir p (bs.take j)).length=c at *
 refine⟨⟨by rw[List.length_set];exact hlen,?_,fun x hx=>?_,by rw[h2,List.length_append,hc];simp;omega⟩,by rw[h2,List.length_append,hc];rfl⟩
 ·rw[h2,List.length_append,hc,List.length_singleton,List.take_succ_eq_append_getElem (by rw[List.length_set];omega),List.getElem_set_self,List.take_set_of_le (Nat.le_refl _),sS]
 ·rw[List.getElem?_set_ne (by omega)];exact h.post x (by omega)
theorem IB.at_ {p:aB->Bool} {bs R:List aB} {j:Nat} (h:IB p bs j R) (hj:j<bs.length):(R.map ae)[j]? =some (ae bs[j]):=by
 rw[List.getElem?_map,h.post j (Nat.le_refl j),List.getElem?_eq_getElem hj];rfl
end Go.Proofs.YtgoelphibofcmaaGreat.V

namespace Go.Proofs.YtgoelphibofcmaaGreat.V
open Go.RowKit
attribute [local irreducible] dx wpOps gp Call
attribute [local go_sem] aH fC eG fW fV cF upd cj K.av cJ AV.cells AV.cell rowOf rowsOf part ld rowAt bj bY dz eb gT bE cZ er fS eU dp eh cX cW dR dS bH aW cN bG cQ cP ee ei ef cL bP cY ec bF aL cU cw gS bl cG bI aP dd aU dB AV.undef bw bB dV ea dI dG cE ep ev cq ek ej cR cV List.getD_cons_zero List.getD_cons_succ List.getD_nil List.all_cons List.all_nil Bool.and_true Bool.true_and Bool.and_self Bool.not_true Bool.not_false Option.map_some Option.map_none Option.bind_some Option.bind_none List.length_cons List.length_nil List.take_succ_cons List.take_zero List.take_nil List.drop_succ_cons List.drop_zero List.drop_nil List.head?_cons List.map_cons List.map_nil List.getElem?_cons_zero List.getElem?_cons_succ List.cons_append List.nil_append List.append_nil List.length_map List.set_cons_zero List.set_cons_succ Nat.reduceMul eq_self Int.toNat_natCast Int.natCast_nonneg and_self true_and and_true decide_true decide_false Bool.false_eq_true Nat.zero_add Nat.add_zero List.contains_cons List.contains_nil Bool.or_false Bool.false_or beq_self_eq_true Nat.reduceBEq ne_eq not_true_eq_false not_false_eq_true Id.mk.injEq false_and and_false Nat.reduceLT Int.reduceLE Int.reduceLT Int.reduceToNat Int.reduceNeg Int.reduceAdd Nat.le_refl List.length_append beq_true beq_false Bool.not_eq_eq_eq_not or_false false_or dO ah aq aI aZ bt ck aS bf aO aY cK bK
structure ml (n:Nat) (px:Nat->Option Nat) (L:Nat->Nat):Prop where
 top:∀k,k<n->px k=none->L k=k
 up:∀k j,k<n->px k=some j->j<k/\L j=L k
theorem ml.root {n:Nat} {px:Nat->Option Nat} {L:Nat->Nat} (h:ml n px L) (hL:ji L) {k:Nat} (hk:k<n) (hr:L k=k):px k=none:=by
 rcases hp:px k with _|j
 ·rfl
 ·obtain⟨h1,h2⟩:=h.up k j hk hp
  have:=hL.le j
  omega
theorem ml.start (n:Nat):ml n (fun _=>none) id:=⟨fun _ _ _=>rfl,fun _ _ _ h=>by cases h⟩
theorem ml.join {n:Nat} {px:Nat->Option Nat} {L:Nat->Nat} (h:ml n px L) (hL:ji L) (b:PB) (dE:min (L b.a) (L b.b)<max (L b.a) (L b.b)):ml n (fun k=>if k=max (L b.a) (L b.b)then some (min (L b.a) (L b.b))else px k) (eE L b):=by
 have ha:=hL.idem b.a
 have hb:=hL.idem b.b
 have yi:L (min (L b.a) (L b.b))=min (L b.a) (L b.b):=by
  rcases Nat.le_total (L b.a) (L b.b)with h|h
  ·rw[Nat.min_eq_left h,ha]
  ·rw[Nat.min_eq_right h,hb]
 have OJ:L (max (L b.a) (L b.b))=max (L b.a) (L b.b):=by
  rcases Nat.le_total (L b.a) (L b.b)with h|h
  ·rw[Nat.max_eq_right h,hb]
  ·rw[Nat.max_eq_left h,ha]
 unfold eE
 generalize min (L b.a) (L b.b)=lo at *
 generalize max (L b.a) (L b.b)=hi at *
 refine⟨fun k hk hp=>?_,fun k j hk hp=>?_⟩
 ·by_cases IL:k=hi
  ·rw[if_pos IL]at hp;cases hp
  ·rw[if_neg IL]at hp
   have:=h.top k hk hp
   rw[if_neg (by omega)];exact this
 ·by_cases IL:k=hi
  ·rw[if_pos IL]at hp
   cases hp
   subst IL
   exact⟨dE,by rw[if_neg (by omega),if_pos OJ,yi]⟩
  ·rw[if_neg IL]at hp
   obtain⟨h1,h2⟩:=h.up k j hk hp
   exact⟨h1,by rw[h2]⟩
theorem yu {L:Nat->Nat} {b:PB} (h:L b.a=L b.b):eE L b=L:=by
 funext k
 unfold eE
 rw[h,Nat.max_self,Nat.min_self]
 split
 ·rename_i h;exact h.symm
 ·rfl
def rj (G:Nat->Id) (px:Nat->Option Nat) (k:Nat):List AV:=[match px k with|none=>.gD|some j=>.ptr (G j) 0 0,.int .i64 (k:Int)]
def sK (g:Rows) (G:Nat->Id) (n:Nat) (px:Nat->Option Nat):Prop:=∀k,k<n->g (G k)=some ⟨true,2,[rj G px k]⟩
theorem sK.frame {g g':Rows} {G:Nat->Id} {n:Nat} {px:Nat->Option Nat} (h:sK g G n px) (hf:∀k,k<n->g' (G k)=g (G k)):sK g' G n px:=fun k hk=>(hf k hk).trans (h k hk)
theorem kP {G:Nat->Id} {px:Nat->Option Nat} {k:Nat} (h:px k=none):rj G px k=[.gD,.int .i64 (k:Int)]:=by rw[rj,h]
theorem sn {G:Nat->Id} {px:Nat->Option Nat} {k j:Nat} (h:px k=some j):rj G px k=[.ptr (G j) 0 0,.int .i64 (k:Int)]:=by rw[rj,h]
theorem xZ (G:Nat->Id) (n:Nat) (px:Nat->Option Nat) (L:Nat->Nat) (h:ml n px L) (k:Nat) (hk:k<n) (σ:ar) (hG:sK σ.get G n px):
  Call Tryz.prog 262 [.ptr (G k) 0 0] σ fun r σ'=>r=.ptr (G (L k)) 0 0/\σ'.get=σ.get/\σ.next<=σ'.next:=by
 refine iF eI rfl fun hl=>?_
 clear hl
 (try((repeat(revert hN;revert N;apply Pn.out));refine wk @Nat.zero_add ?_;(repeat(refine Pn.mk ?_;intro N hN))))
 refine aQ (fun m env st=>∃j:Nat,m=j/\j<n/\env 0=.ptr (G j) 0 0/\L j=L k/\st.get=σ.get/\σ.next<=st.next) k ⟨k,rfl,hk,sd @Nat.zero_add,rfl,by(try dsimp only),by(try dsimp only);omega⟩ ?_
 rintro m env_b st_b ⟨j,rfl,hj,b0,hLj,hg,hle⟩ fE
 clear fE
 have fH:=hG m hj
 rcases hp:px m with _|j
 ·rw[kP hp]at fH
  (try((repeat(revert hN;revert N;apply Pn.out));refine wk (tw @b0 (tw @hg @fH)) ?_;(repeat(refine Pn.mk ?_;intro N hN))))
  exact iE (.inl rfl) (vs:=[.ptr (G m) 0 0]) (sd @Nat.zero_add) ⟨by rw[<-hLj,h.top m hj hp];rfl,by first|trivial|rfl|exact hg,by(try dsimp only);omega⟩
 ·rw[sn hp]at fH
  obtain⟨h1,h2⟩:=h.up m j hj hp
  (try((repeat(revert hN;revert N;apply Pn.out));refine wk (tw @b0 (tw @hg @fH)) ?_;(repeat(refine Pn.mk ?_;intro N hN))))
  exact⟨j,h1,j,rfl,by omega,sd @Nat.zero_add,by omega,by first|trivial|rfl|exact hg,by(try dsimp only);omega⟩
end Go.Proofs.YtgoelphibofcmaaGreat.V

namespace Go.Proofs.YtgoelphibofcmaaGreat.V
open Go.RowKit
attribute [local irreducible] dx wpOps gp Call
attribute [local go_sem] aH fC eG fW fV cF upd cj K.av cJ AV.cells AV.cell rowOf rowsOf part ld rowAt bj bY dz eb gT bE cZ er fS eU dp eh cX cW dR dS bH aW cN bG cQ cP ee ei ef cL bP cY ec bF aL cU cw gS bl cG bI aP dd aU dB AV.undef bw bB dV ea dI dG cE ep ev cq ek ej cR cV List.getD_cons_zero List.getD_cons_succ List.getD_nil List.all_cons List.all_nil Bool.and_true Bool.true_and Bool.and_self Bool.not_true Bool.not_false Option.map_some Option.map_none Option.bind_some Option.bind_none List.length_cons List.length_nil List.take_succ_cons List.take_zero List.take_nil List.drop_succ_cons List.drop_zero List.drop_nil List.head?_cons List.map_cons List.map_nil List.getElem?_cons_zero List.getElem?_cons_succ List.cons_append List.nil_append List.append_nil List.length_map List.set_cons_zero List.set_cons_succ eq_self Int.toNat_natCast Int.natCast_nonneg and_self true_and and_true decide_true decide_false Bool.false_eq_true Nat.zero_add Nat.add_zero List.contains_cons List.contains_nil Bool.or_false Bool.false_or beq_self_eq_true ne_eq not_true_eq_false not_false_eq_true Id.mk.injEq false_and and_false Nat.le_refl List.length_append beq_true beq_false Bool.not_eq_eq_eq_not or_false false_or dO ah aq aI aZ bt ck aS bf aO aY cK bK
abbrev mI:MK:=⟨false,[.tI]⟩
def rG (l:List (Nat×Nat)):List (List AV):=l.map fun p=>[.int .i64 (p.1:Int),.int .i64 (p.2:Int)]
theorem Ai (r:Nat):∀(l:List (Nat×Nat)) (i:Nat),((∀p∈l,p.1≠r)->fJ mI [.int .i64 (r:Int)] (rG l) i=some none)/\(∀j v,l[j]? =some (r,v)->(∀x y,x<j->l[x]? =some y->y.1≠r)->fJ mI [.int .i64 (r:Int)] (rG l) i=some (some (i+j)))
 |[],i=>⟨fun _=>rfl,fun j v h=>by simp at h⟩
 |p::l,i=>by
  obtain⟨h1,h2⟩:=Ai r l (i+1)
  by_cases h:p.1=r
  ·refine⟨fun hp=>absurd h (hp p (by simp)),fun j v hj hf=>?_⟩
   have hj0:j=0:=by
    rcases Nat.eq_zero_or_pos j with h0|h0
    ·exact h0
    ·exact absurd h (hf 0 p h0 (by simp))
   subst hj0
   simp[rG,fJ,eU,fS,MK.ks,h]
  ·have hd:¬((r:Int)=(p.1:Int)):=by omega
   have mM:¬r=p.1:=fun he=>h he.symm
   have step:fJ mI [.int .i64 (r:Int)] (rG (p::l)) i=fJ mI [.int .i64 (r:Int)] (rG l) (i+1):=by
    unfold rG
    simp[fJ,MK.ks,eU,fS,hd,mM,h]
   rw[step]
   refine⟨fun hp=>h1 fun q hq=>hp q (by simp[hq]),fun j v hj hf=>?_⟩
   cases j with
   |zero=>simp at hj;rw[hj]at h;exact absurd rfl h
   |succ j=>
    rw[h2 j v (by simpa using hj) fun x y hx hy=>hf (x+1) y (by omega) (by simpa using hy)]
    congr 2;omega
theorem w6 {r:Nat} {l:List (Nat×Nat)}:((∀p∈l,p.1≠r)->fx mI (.int .i64 (r:Int)) (rG l)=some none)/\(∀j v,l[j]? =some (r,v)->(∀x y,x<j->l[x]? =some y->y.1≠r)->fx mI (.int .i64 (r:Int)) (rG l)=some (some j)):=by
 have e:fx mI (.int .i64 (r:Int)) (rG l)=fJ mI [.int .i64 (r:Int)] (rG l) 0:=by
  unfold fx
  rw[if_pos ⟨rfl,rfl,rfl⟩];rfl
 obtain⟨h1,h2⟩:=Ai r l 0
 rw[e]
 exact⟨h1,fun j v hj hf=>by rw[h2 j v hj hf,Nat.zero_add]⟩
def kh (k:Nat) (L:Nat->Nat):List (List AV):=rG (leads k L).zipIdx
theorem Cg {k:Nat} {L:Nat->Nat} (h:L k=k):kh (k+1) L=kh k L++[[.int .i64 (k:Int),.int .i64 ((leads k L).length:Int)]]:=by
 unfold kh
 rw[gC,if_pos h,List.zipIdx_append]
 simp[rG]
theorem Cf {k:Nat} {L:Nat->Nat} (h:L k≠k):kh (k+1) L=kh k L:=by
 unfold kh
 rw[gC,if_neg h,List.append_nil]
theorem EU {k:Nat} {L:Nat->Nat} (h:L k=k):fx mI (.int .i64 (k:Int)) (kh k L)=some none:=by
 refine w6.1 fun p hp=>?_
 have:=List.fst_mem_of_mem_zipIdx hp
 have:=(xg.1 this).1
 omega
theorem xf {n:Nat} {L:Nat->Nat} {x y:Nat} (hx:x<(leads n L).length) (hy:y<(leads n L).length) (h:(leads n L)[x]=(leads n L)[y]):x=y:=by
 have hp:=List.pairwise_iff_getElem.1 (sw n L)
 rcases Nat.lt_trichotomy x y with dE|he|dE
 ·exact absurd h (hp x y hx hy dE)
 ·exact he
 ·exact absurd h.symm (hp y x hy hx dE)
theorem xe {k:Nat} {L:Nat->Nat} (hL:ji L) (h:L k≠k):fx mI (.int .i64 (L k:Int)) (kh k L)=some (some (bx L k))/\(kh k L)[bx L k]? =some [.int .i64 (L k:Int),.int .i64 (bx L k:Int)]/\bx L k<(leads k L).length:=by
 have dE:L k<k:=Nat.lt_of_le_of_ne (hL.le k) h
 have hn:bx L (L k)=bx L k:=by rw[bx,hL.idem,bx]
 have hg:=oh hL dE
 rw[hn,hL.idem]at hg
 have hl:bx L k<(leads k L).length:=(List.getElem?_eq_some_iff.1 hg).1
 have hz:(leads k L).zipIdx[bx L k]? =some (L k,bx L k):=by simp[List.getElem?_zipIdx,hg]
 refine⟨w6.2 _ _ hz fun x y hx hy=>?_,by unfold kh rG;rw[List.getElem?_map,hz];rfl,hl⟩
 intro he
 rw[List.getElem?_zipIdx]at hy
 have NI:x<(leads k L).length:=by omega
 rw[List.getElem?_eq_getElem NI]at hy
 simp at hy
 rw[<-hy]at he
 simp at he
 have e2:(leads k L)[bx L k]=L k:=(List.getElem?_eq_some_iff.1 hg).2
 have:=xf NI hl (he.trans e2.symm)
 omega
def jq (k:Nat) (L:Nat->Nat):List (List Nat):=(leads k L).map (members k L)
theorem pj (k:Nat) (L:Nat->Nat):(jq k L).length=(leads k L).length:=by simp[jq]
theorem BP {k:Nat} {L:Nat->Nat} (hL:ji L) (h:L k=k):jq (k+1) L=jq k L++[[k]]:=by
 unfold jq
 rw[gC,if_pos h,List.map_append,List.map_cons,List.map_nil,ja,if_pos h,l7 hL (Nat.le_refl k),List.nil_append]
 congr 1
 refine List.map_congr_left fun r hr=>?_
 have:=(xg.1 hr).1
 rw[ja,if_neg (by omega),List.append_nil]
theorem BQ {k:Nat} {L:Nat->Nat} (hL:ji L) (h:L k≠k):(jq k L)[bx L k]? =some (members k L (L k))/\jq (k+1) L=(jq k L).set (bx L k) (members k L (L k)++[k]):=by
 obtain⟨_,_,hl⟩:=xe hL h
 have dE:L k<k:=Nat.lt_of_le_of_ne (hL.le k) h
 have hg:=oh hL dE
 have hn:bx L (L k)=bx L k:=by rw[bx,hL.idem,bx]
 rw[hn,hL.idem]at hg
 refine⟨by unfold jq;rw[List.getElem?_map,hg];rfl,?_⟩
 unfold jq
 rw[gC,if_neg h,List.append_nil]
 refine List.ext_getElem? fun i=>?_
 rw[List.getElem?_set,List.getElem?_map,List.length_map]
 by_cases hi:bx L k=i
 ·subst hi
  rw[if_pos rfl,if_pos hl,hg,Option.map_some,ja,if_pos rfl]
 ·rw[if_neg hi,List.getElem?_map]
  rcases hr:(leads k L)[i]? with _|r
  ·rfl
  ·rw[Option.map_some,Option.map_some,ja,if_neg,List.append_nil]
   rintro rfl
   obtain⟨kQ,he⟩:=List.getElem?_eq_some_iff.1 hr
   have e2:(leads k L)[bx L k]=L k:=(List.getElem?_eq_some_iff.1 hg).2
   exact hi (xf hl kQ (e2.trans he.symm))
theorem Av (k:Nat) (L:Nat->Nat) (r:Nat):(members k L r).length<=k:=by
 have:=List.length_filter_le (fun x=>L x==r) (List.range k)
 simpa[members]using this
def DY (g:Rows) (o:Id) (L:List (List Nat)) (nx:Nat):Prop:=∃rows ids,g o=some ⟨true,1,rows⟩/\eL Nj g rows L ids/\ids.Nodup/\(∀i∈ids,i.site=240026008/\i.bQ<nx)/\o.site=240025002/\o.bQ<nx
theorem DY.frame {g g':Rows} {o:Id} {L:List (List Nat)} {nx tn:Nat} (h:DY g o L nx) (hn:nx<=tn) (hf:∀i:Id,(i.site=240026008∨i.site=240025002)->i.bQ<nx->g' i=g i):DY g' o L tn:=by
 obtain⟨rows,ids,h1,h2,h3,h4,h5,h6⟩:=h
 exact⟨rows,ids,(hf o (.inr h5) h6).trans h1,h2.frame JP fun i hi=>hf i (.inl (h4 i hi).1) (h4 i hi).2,h3,fun i hi=>⟨(h4 i hi).1,by have:=(h4 i hi).2;omega⟩,h5,by omega⟩
theorem Jf {g':Rows} {v v' tn j:Nat} (h1:g' ⟨240025002,v⟩=some ⟨true,1,[[.own ⟨240026008,v'⟩ 0 1]]⟩) (h2:g' ⟨240026008,v'⟩=some ⟨true,1,[eN j]⟩) (hv:v<tn) (mT:v'<tn):DY g' ⟨240025002,v⟩ [[j]] tn:=
 ⟨_,[⟨240026008,v'⟩],h1,.one ⟨_,rfl,h2,rfl⟩,by simp,fun i hi=>by rw[List.mem_singleton.1 hi];exact⟨rfl,mT⟩,rfl,hv⟩
theorem DY.new {g:Rows} {o:Id} {L:List (List Nat)} {nx:Nat} (h:DY g o L nx) (j:Nat):∃rows,g o=some ⟨true,1,rows⟩/\rows.length=L.length/\∀(g':Rows) (v v' tn:Nat),nx<=v'->v<tn->v'<tn->g' ⟨240025002,v⟩=some ⟨true,1,rows++[[.own ⟨240026008,v'⟩ 0 1]]⟩->g' ⟨240026008,v'⟩=some ⟨true,1,[eN j]⟩->(∀i:Id,i.site=240026008->i.bQ<nx->g' i=g i)->DY g' ⟨240025002,v⟩ (L++[[j]]) tn:=by
 obtain⟨rows,ids,h1,h2,h3,h4,h5,h6⟩:=h
 refine⟨rows,h1,h2.len,fun g' v v' tn hv wW Mm q1 q2 q3=>⟨_,ids++[⟨240026008,v'⟩],q1,(h2.frame JP fun i hi=>q3 i (h4 i hi).1 (h4 i hi).2).app (.one ⟨_,rfl,q2,rfl⟩),?_,fun i hi=>?_,rfl,wW⟩⟩
 ·refine List.nodup_append.2 ⟨h3,by simp,fun a ha b hb po=>?_⟩
  rw[List.mem_singleton.1 hb]at po
  have:=(h4 a ha).2
  rw[po]at this
  simp only at this
  omega
 ·rcases List.mem_append.1 hi with hi|hi
  ·have:=h4 i hi;exact⟨this.1,by omega⟩
  ·rw[List.mem_singleton.1 hi];exact⟨rfl,Mm⟩
theorem DY.add {g:Rows} {o:Id} {L:List (List Nat)} {nx k:Nat} {La:List Nat} (h:DY g o L nx) (hk:L[k]? =some La) (j:Nat):∃rows id,g o=some ⟨true,1,rows⟩/\rows.length=L.length/\rows[k]? =some [.own id 0 La.length]/\g id=some ⟨true,1,La.map eN⟩/\id.site=240026008/\id.bQ<nx/\∀(g':Rows) (v' tn:Nat),nx<=v'->v'<tn->g' o=some ⟨true,1,rows.set k [.own ⟨240026008,v'⟩ 0 (La.length+1)]⟩->g' ⟨240026008,v'⟩=some ⟨true,1,La.map eN++[[.int .i64 (j:Int)]]⟩->(∀i:Id,i.site=240026008->i.bQ<nx->(i=id)=False->g' i=g i)->DY g' o (L.set k (La++[j])) tn:=by
 obtain⟨rows,ids,h1,h2,h3,h4,h5,h6⟩:=h
 have lq:k<L.length:=(List.getElem?_eq_some_iff.1 hk).1
 have Rm:=kd hk lq
 obtain⟨cs,ic,dn,Nt,OE,uj⟩:=h2.Pr JP h3 k lq
 rw[Rm]at Nt
 obtain⟨id,rfl,q1,rfl⟩:=Nt
 have hid:=h4 id (OE id (by simp))
 refine⟨rows,id,h1,h2.len,dn,q1,hid.1,hid.2,fun g' v' tn hv wW r1 r2 r3=>?_⟩
 obtain⟨B9,s1,s2,s3⟩:=uj g' [.own ⟨240026008,v'⟩ 0 (La.length+1)] (La++[j]) [⟨240026008,v'⟩] ⟨_,by simp,by rw[r2];simp[eN],rfl⟩ (fun i hi Qt=>r3 i (h4 i hi).1 (h4 i hi).2 (by
  simp only[eq_iff_iff,iff_false];rintro rfl;exact Qt (by simp))) (by simp) fun i hi hc=>by
   rw[List.mem_singleton.1 hi]at hc
   have:=(h4 _ hc).2
   simp only at this
   omega
 refine⟨_,B9,r1,s1,s2,fun i hi=>?_,h5,by omega⟩
 rcases s3 i hi with h|h
 ·rw[List.mem_singleton.1 h];exact⟨rfl,wW⟩
 ·have:=h4 i h;exact⟨this.1,by omega⟩
def ll (G:Nat->Id) (n k:Nat):List (List AV):=(List.range n).map fun i=>[if i<k then .ptr (G i) 0 0 else .gD]
theorem lP (G:Nat->Id) (n k:Nat):(ll G n k).length=n:=by simp[ll]
theorem Fu (G:Nat->Id) (n:Nat):List.replicate n [AV.gD]=ll G n 0:=by
 refine List.ext_getElem? fun i=>?_
 by_cases h:i<n
 ·rw[List.getElem?_replicate,if_pos h];simp[ll,h]
 ·rw[List.getElem?_eq_none (by simp;omega),List.getElem?_eq_none (by rw[lP];omega)]
theorem uZ {G:Nat->Id} {n i:Nat} (h:i<n):(ll G n n)[i]? =some [.ptr (G i) 0 0]:=by simp[ll,h]
theorem Ie {G:Nat->Id} {n k:Nat} (h:k<n):(ll G n k).set k [.ptr (G k) 0 0]=ll G n (k+1):=by
 refine List.ext_getElem? fun i=>?_
 rw[List.getElem?_set,lP]
 by_cases hi:k=i
 ·subst hi;rw[if_pos rfl,if_pos h];simp[ll,h]
 ·rw[if_neg hi]
  by_cases e9:i<n
  ·simp only[ll,List.getElem?_map,List.getElem?_range e9,Option.map_some]
   by_cases wQ:i<k
   ·rw[if_pos wQ,if_pos (by omega)]
   ·rw[if_neg wQ,if_neg (by omega)]
  ·rw[List.getElem?_eq_none (by rw[lP];omega),List.getElem?_eq_none (by rw[lP];omega)]
end Go.Proofs.YtgoelphibofcmaaGreat.V

namespace Go.Proofs.YtgoelphibofcmaaGreat.V
open Go.RowKit
attribute [local irreducible] dx wpOps gp Call
attribute [local go_sem] aH fC eG fW fV cF upd cj K.av cJ AV.cells AV.cell rowOf rowsOf part ld rowAt bj bY dz eb gT bE cZ er fS eU dp eh cX cW dR dS bH aW cN bG cQ cP ee ei ef cL bP cY ec bF aL cU cw gS bl cG bI aP dd aU dB AV.undef bw bB dV ea dI dG cE ep ev cq ek ej cR cV List.getD_cons_zero List.getD_cons_succ List.getD_nil List.all_cons List.all_nil Bool.and_true Bool.true_and Bool.and_self Bool.not_true Bool.not_false Option.map_some Option.map_none Option.bind_some Option.bind_none List.length_cons List.length_nil List.take_succ_cons List.take_zero List.take_nil List.drop_succ_cons List.drop_zero List.drop_nil List.head?_cons List.map_cons List.map_nil List.getElem?_cons_zero List.getElem?_cons_succ List.cons_append List.nil_append List.append_nil List.length_map List.set_cons_zero List.set_cons_succ Nat.reduceMul eq_self Int.toNat_natCast Int.natCast_nonneg and_self true_and and_true decide_true decide_false Bool.false_eq_true Nat.zero_add Nat.add_zero List.contains_cons List.contains_nil Bool.or_false Bool.false_or beq_self_eq_true Nat.reduceBEq ne_eq not_true_eq_false not_false_eq_true Id.mk.injEq false_and and_false Nat.reduceLT Int.reduceLE Int.reduceLT Int.reduceToNat Int.reduceNeg Int.reduceAdd Nat.le_refl List.length_append beq_true beq_false Bool.not_eq_eq_eq_not or_false false_or dO ah aq aI aZ bt ck aS bf aO aY cK bK
theorem gG {o:Id} {a:Nat} (h:o.site=a) {b v:Nat} (po:(a==b)=false):(o=⟨b,v⟩)=False/\((⟨b,v⟩:Id)=o)=False:=by
 have h1:=yO h (v:=v) po
 refine⟨h1,?_⟩
 simp only[eq_iff_iff,iff_false]at h1 ⊢
 exact fun h=>h1 h.symm
theorem ud (cnt:Nat) (wS:1<=cnt) (hn:cnt<=1048576) (bs:List PB) (hb:∀b∈bs,b.a<cnt/\b.b<cnt) (oQ:bs.length<=1048576):aj Tryz.prog 240 [.int .i64 cnt,.sl (bs.map aw)] (.sl ((fb cnt (dX bs)).map zg)):=by
 intro n0
 refine FV Lr rfl fun hl=>?_
 try simp only[q]
 clear hl
 have jk:(0:Int)<=(cnt:Int):=by omega
 have oR:(cnt:Int)<=((16777216:Nat):Int):=by omega
 obtain⟨G,hG⟩:∃G:Nat->Id,G=fun k=>⟨240005004,n0+3+4*k+2⟩:=⟨_,rfl⟩
 have P0:∀k,(G k).site=240005004:=fun k=>by rw[hG]
 have Rh:∀k,(G k).bQ=n0+3+4*k+2:=fun k=>by rw[hG]
 have Rf:∀i j,i≠j->(G i=G j)=False:=fun i j h=>by
  simp only[eq_iff_iff,iff_false]
  intro he
  have h1:=Rh i
  rw[he,Rh j]at h1
  omega
 have Jh:∀i s v,(240005004==s)=false->(G i=⟨s,v⟩)=False:=fun i s v h=>yO (P0 i) h
 have hz:=Fu G cnt
 (try((repeat(revert hN;revert N;apply Pn.out));refine wk (tw @jk (tw @oR (tw @Int.le_refl @hz))) ?_;(repeat(refine Pn.mk ?_;intro N hN))))
 refine aQ (fun n env st=>∃k:Nat,n=(cnt)-k/\k<=(cnt)/\env 21=.int .i64 (k:Int)/\st.get ⟨240001001,n0+1⟩=some ⟨true,1,ll G cnt k⟩/\(st.next=n0+3+4*k/\∀j:Nat,j<k->st.get (G j)=some ⟨true,2,[[.gD,.int .i64 (j:Int)]]⟩)) (cnt) ⟨0,by omega,by omega,sl @hz,sl @hz,⟨rfl,fun j hj=>by omega⟩⟩ ?_
 rintro n_a env_a st_a ⟨k,rfl,ale,a21,ag0,pU⟩ dY
 have a0:=dY 0 (by kernel_rfl);have a1:=dY 1 (by kernel_rfl);have a5:=dY 5 (by kernel_rfl);have Li:=dY 19 (by kernel_rfl);have a20:=dY 20 (by kernel_rfl)
 simp only[go_sem, ↓reduceIte,Nat.reduceEqDiff,Nat.reduceAdd,Nat.reduceSub,Nat.reduceLeDiff,reduceCtorEq,hz]at a0 a1 a5 Li a20
 clear dY
 obtain⟨pU,lp⟩:=pU
 by_cases hk:(k:Int)<(cnt:Int)
 ·have cH:∀{e:Env} {gg:Rows} {nx:Nat},(e 21=.int .i64 (IntKind.i64.wrap ((k:Int)+1)))->(gg ⟨240001001,n0+1⟩=some ⟨true,1,ll G cnt (k+1)⟩)->(nx=n0+3+4*(k+1)/\∀j:Nat,j<(k+1)->gg (G j)=some ⟨true,2,[[.gD,.int .i64 (j:Int)]]⟩)->∃m0,m0<(cnt)-k/\∃k:Nat,m0=(cnt)-k/\k<=(cnt)/\e 21=.int .i64 (k:Int)/\gg ⟨240001001,n0+1⟩=some ⟨true,1,ll G cnt k⟩/\(nx=n0+3+4*k/\∀j:Nat,j<k->gg (G j)=some ⟨true,2,[[.gD,.int .i64 (j:Int)]]⟩):=fun x1 x2 x3=>⟨_,by omega,k+1,rfl,by omega,(by rw[x1,aA (by omega)]),x2,x3⟩
  have fG:k<cnt:=by omega
  have tl:=lP G cnt k
  have fc:=Ie (G:=G) fG
  have eJ:(ll G cnt k)[k]? =some [.gD]:=by simp[ll,fG]
  have PY:(⟨240005004,st_a.next+1+1⟩:Id)=G k:=by rw[hG,pU]
  have hGf:∀j,j<k->(G j=G k)=False:=fun j hj=>Rf j k (by omega)
  have ye:∀j,(G j=(⟨240001001,n0+1⟩:Id))=False:=fun j=>Jh j _ _ (by decide)
  have BS:∀j,((⟨240001001,n0+1⟩:Id)=G j)=False:=fun j=>by
   have:=ye j
   simp only[eq_iff_iff,iff_false]at this ⊢
   exact fun h=>this h.symm
  (try((repeat(revert hN;revert N;apply Pn.out));refine wk (tw @a21 (tw @ag0 (tw @a0 (tw @a1 (tw @a5 (tw @Li (tw @a20 (tw @hk (tw @tl (tw @PY (tw @ye (tw @BS (tw @fc @eJ))))))))))))) ?_;(repeat(refine Pn.mk ?_;intro N hN))))
  refine cH ?_ ?_ (by
   refine⟨by(try dsimp only)<;>omega,fun j hj=>?_⟩
   by_cases wR:j=k
   ·subst wR;simp only[go_sem, ↓reduceIte,Nat.reduceEqDiff,Nat.reduceAdd,Nat.reduceSub,Nat.reduceLeDiff,reduceCtorEq,PY,ye,BS]
   ·have hold:=lp j (by omega)
    have gI:=hGf j (by omega)
    simp only[go_sem, ↓reduceIte,Nat.reduceEqDiff,Nat.reduceAdd,Nat.reduceSub,Nat.reduceLeDiff,reduceCtorEq,PY,ye,BS,gI,hold])
  all_goals simp only[go_sem, ↓reduceIte,Nat.reduceEqDiff,Nat.reduceAdd,Nat.reduceSub,Nat.reduceLeDiff,reduceCtorEq,a21,ag0,a0,a1,a5,Li,a20,PY,ye,BS,fc]
 have lq:cnt=k:=by omega
 subst lq
 (try((repeat(revert hN;revert N;apply Pn.out));refine wk (tw @a21 (tw @ag0 (tw @a0 (tw @a1 (tw @a5 (tw @Li (tw @a20 @hk))))))) ?_;(repeat(refine Pn.mk ?_;intro N hN))))
 refine aQ (fun n env st=>∃i:Nat,n=(bs.length)-i/\i<=(bs.length)/\env 33=.int .i64 (i:Int)/\st.get ⟨240001001,n0+1⟩=some ⟨true,1,ll G cnt cnt⟩/\(n0+3+4*cnt<=st.next)/\(∃px,ml cnt px (dX (bs.take i))/\sK st.get G cnt px)) (bs.length) ⟨0,by omega,by omega,sl (tw @a21 (tw @ag0 (tw @a0 (tw @a1 (tw @a5 (tw @Li @a20)))))),sl (tw @a21 (tw @ag0 (tw @a0 (tw @a1 (tw @a5 (tw @Li @a20)))))),(by(try dsimp only);omega),⟨fun _=>none,ml.start cnt,lp⟩⟩ ?_
 rintro n_b env_b st_b ⟨i,rfl,ble,sL,bg0,bI0,bI1⟩ fE
 have b0:=fE 0 (by kernel_rfl);have b1:=fE 1 (by kernel_rfl);have b5:=fE 5 (by kernel_rfl);have wz:=fE 31 (by kernel_rfl);have r7:=fE 32 (by kernel_rfl)
 simp only[go_sem, ↓reduceIte,Nat.reduceEqDiff,Nat.reduceAdd,Nat.reduceSub,Nat.reduceLeDiff,reduceCtorEq,a21,ag0,a0,a1,a5,Li,a20]at b0 b1 b5 wz r7
 clear fE
 obtain⟨px,IQ,PZ⟩:=bI1
 have tl:=lP G cnt cnt
 have Oa:∀j v,(G j=(⟨240009002,v⟩:Id))=False:=fun j v=>Jh j _ v (by decide)
 have ye:∀j v,(G j=(⟨240001001,v⟩:Id))=False:=fun j v=>Jh j _ v (by decide)
 have BS:∀j v,((⟨240001001,v⟩:Id)=G j)=False:=fun j v=>by
  have:=ye j v
  simp only[eq_iff_iff,iff_false]at this ⊢
  exact fun h=>this h.symm
 have hGn:∀j,j<cnt->(G j).bQ<st_b.next:=fun j hj=>by rw[Rh];omega
 by_cases hi:(i:Int)<(bs.length:Int)
 ·have fK:∀{e:Env} {gg:Rows} {nx:Nat},(e 33=.int .i64 (IntKind.i64.wrap ((i:Int)+1)))->(gg ⟨240001001,n0+1⟩=some ⟨true,1,ll G cnt cnt⟩)->(n0+3+4*cnt<=nx)->(∃px,ml cnt px (dX (bs.take (i+1)))/\sK gg G cnt px)->∃m0,m0<(bs.length)-i/\∃i:Nat,m0=(bs.length)-i/\i<=(bs.length)/\e 33=.int .i64 (i:Int)/\gg ⟨240001001,n0+1⟩=some ⟨true,1,ll G cnt cnt⟩/\(n0+3+4*cnt<=nx)/\(∃px,ml cnt px (dX (bs.take i))/\sK gg G cnt px):=fun x1 x2 x3 x4=>⟨_,by omega,i+1,rfl,by omega,(by rw[x1,aA (by omega)]),x2,x3,x4⟩
  have e9:i<bs.length:=by omega
  have jJ:(bs.map aw)[i]? =some (aw bs[i]):=by simp[e9]
  have Ey:=hb _ (List.getElem_mem e9)
  have mQ:bs.take (i+1)=bs.take i++[bs[i]]:=List.take_succ_eq_append_getElem e9
  have kT:dX (bs.take (i+1))=eE (dX (bs.take i)) bs[i]:=by rw[mQ,uv]
  have hL:=su (bs.take i)
  generalize dX (bs.take i)=L at *
  generalize bs[i]=b at *
  have gA:=uZ (G:=G) Ey.1
  have gB:=uZ (G:=G) Ey.2
  have gq:(b.a:Int)<(cnt:Int):=by omega
  have fA:(b.b:Int)<(cnt:Int):=by omega
  (try((repeat(revert hN;revert N;apply Pn.out));refine wk (tw @sL (tw @bg0 (tw @b0 (tw @b1 (tw @b5 (tw @wz (tw @r7 (tw @hi (tw @jJ (tw @aw.eq_1 (tw @gA (tw @gB (tw @gq (tw @fA @tl)))))))))))))) ?_;(repeat(refine Pn.mk ?_;intro N hN))))
  refine Iv (fun e s=>e 0=.int .i64 cnt/\e 1=.sl (bs.map aw)/\e 5=.own ⟨240001001,n0+1⟩ 0 cnt/\e 31=.sl (bs.map aw)/\e 32=.int .i64 bs.length/\e 33=.int .i64 i/\e 9=.ptr (G (L b.a)) 0 0/\e 10=.ptr (G (L b.b)) 0 0/\(∀j:Id,j.bQ<st_b.next->s.get j=st_b.get j)/\st_b.next<=s.next) ?_ ?_
  ·rintro e1 s1 ⟨m0,m1,m5,m31,m32,m33,m9,m10,mf,mn⟩
   refine hN _ _ ?_
   clear hN N
   have mG:sK s1.get G cnt px:=PZ.frame fun k hk=>mf _ (hGn k hk)
   have mt:=(mf ⟨240001001,n0+1⟩ (by(try dsimp only);omega)).trans bg0
   have RS:L b.a<cnt:=Nat.lt_of_le_of_lt (hL.le _) Ey.1
   have OH:L b.b<cnt:=Nat.lt_of_le_of_lt (hL.le _) Ey.2
   have ra:=mG _ RS
   have rb:=mG _ OH
   rw[kP (IQ.root hL RS (hL.idem _))]at ra
   rw[kP (IQ.root hL OH (hL.idem _))]at rb
   have put:∀(g':Rows) (lo hi:Nat),hi<cnt->g' (G hi)=some ⟨true,2,[[.ptr (G lo) 0 0,.int .i64 (hi:Int)]]⟩->(∀k,k≠hi->k<cnt->g' (G k)=s1.get (G k))->sK g' G cnt (fun k=>if k=hi then some lo else px k):=fun g' lo hi _ h1 h2 k hk=>by
    by_cases IL:k=hi
    ·subst IL;rw[h1,sn (j:=lo) (if_pos rfl)]
    ·rw[h2 k IL hk,mG k hk]
     unfold rj
     simp only[if_neg IL]
   rcases Nat.lt_trichotomy (L b.a) (L b.b)with dE|heq|dE
   ·have L6:(L b.a:Int)<(L b.b:Int):=by omega
    have hj:=IQ.join hL b (by omega)
    rw[Nat.max_eq_right (by omega),Nat.min_eq_left (by omega),<-kT]at hj
    (try((repeat(revert hN;revert N;apply Pn.out));refine wk (tw @m0 (tw @m1 (tw @m5 (tw @m31 (tw @m32 (tw @m33 (tw @m9 (tw @m10 (tw @ra (tw @rb @L6)))))))))) ?_;(repeat(refine Pn.mk ?_;intro N hN))))
    refine fK ?_ ?_ (by(try dsimp only);omega) (⟨_,hj,put _ _ _ OH (sd @Nat.zero_add) (fun k hk _=>by
     have gI:=Rf k _ hk
     simp only[go_sem, ↓reduceIte,Nat.reduceEqDiff,Nat.reduceAdd,Nat.reduceSub,Nat.reduceLeDiff,reduceCtorEq,gI])⟩)
    all_goals simp only[go_sem, ↓reduceIte,Nat.reduceEqDiff,Nat.reduceAdd,Nat.reduceSub,Nat.reduceLeDiff,reduceCtorEq,m0,m1,m5,m31,m32,m33,mt,ye,BS]
   ·have wS:¬(L b.a:Int)<(L b.b:Int):=by omega
    have OK:¬(L b.b:Int)<(L b.a:Int):=by omega
    have JB:=yu heq
    rw[JB]at kT
    (try((repeat(revert hN;revert N;apply Pn.out));refine wk (tw @m0 (tw @m1 (tw @m5 (tw @m31 (tw @m32 (tw @m33 (tw @m9 (tw @m10 (tw @ra (tw @rb (tw @wS @OK))))))))))) ?_;(repeat(refine Pn.mk ?_;intro N hN))))
    refine fK ?_ ?_ (by(try dsimp only);omega) (⟨_,kT▸IQ,mG.frame fun k hk=>rfl⟩)
    all_goals simp only[go_sem, ↓reduceIte,Nat.reduceEqDiff,Nat.reduceAdd,Nat.reduceSub,Nat.reduceLeDiff,reduceCtorEq,m0,m1,m5,m31,m32,m33,mt]
   ·have L6:(L b.b:Int)<(L b.a:Int):=by omega
    have wS:¬(L b.a:Int)<(L b.b:Int):=by omega
    have hj:=IQ.join hL b (by omega)
    rw[Nat.max_eq_left (by omega),Nat.min_eq_right (by omega),<-kT]at hj
    (try((repeat(revert hN;revert N;apply Pn.out));refine wk (tw @m0 (tw @m1 (tw @m5 (tw @m31 (tw @m32 (tw @m33 (tw @m9 (tw @m10 (tw @ra (tw @rb (tw @L6 @wS))))))))))) ?_;(repeat(refine Pn.mk ?_;intro N hN))))
    refine fK ?_ ?_ (by(try dsimp only);omega) (⟨_,hj,put _ _ _ RS (sd @Nat.zero_add) (fun k hk _=>by
     have gI:=Rf k _ hk
     simp only[go_sem, ↓reduceIte,Nat.reduceEqDiff,Nat.reduceAdd,Nat.reduceSub,Nat.reduceLeDiff,reduceCtorEq,gI])⟩)
    all_goals simp only[go_sem, ↓reduceIte,Nat.reduceEqDiff,Nat.reduceAdd,Nat.reduceSub,Nat.reduceLeDiff,reduceCtorEq,m0,m1,m5,m31,m32,m33,mt,ye,BS]
  ·intro N hN
   refine eT ?_ ?_<;>(try((repeat(revert hN;revert N;apply Pn.out));refine wk (tw @sL (tw @bg0 (tw @b0 (tw @b1 (tw @b5 (tw @wz (tw @r7 (tw @hi (tw @jJ (tw @aw.eq_1 (tw @gA (tw @gB (tw @gq (tw @fA @tl)))))))))))))) ?_;(repeat(refine Pn.mk ?_;intro N hN))))<;>(try refine eT ?_ ?_)<;>(try((repeat(revert hN;revert N;apply Pn.out));refine wk (tw @sL (tw @bg0 (tw @b0 (tw @b1 (tw @b5 (tw @wz (tw @r7 (tw @hi (tw @jJ (tw @aw.eq_1 (tw @gA (tw @gB (tw @gq (tw @fA @tl)))))))))))))) ?_;(repeat(refine Pn.mk ?_;intro N hN))))<;>(try refine eT ?_ ?_)<;>(try((repeat(revert hN;revert N;apply Pn.out));refine wk (tw @sL (tw @bg0 (tw @b0 (tw @b1 (tw @b5 (tw @wz (tw @r7 (tw @hi (tw @jJ (tw @aw.eq_1 (tw @gA (tw @gB (tw @gq (tw @fA @tl)))))))))))))) ?_;(repeat(refine Pn.mk ?_;intro N hN))))
   all_goals
    refine .inr (bp _ _ _ _ _ (fun r σ1 hq=>?_) (xZ G cnt px L IQ b.a Ey.1 _ (PZ.frame fun k hk=>sd @Oa)))
    obtain⟨g1,x1⟩:=σ1
    obtain⟨rfl,BV,ED⟩:=hq
    (try dsimp only at BV ED)
    subst BV
    refine hN _ _ ?_
    clear hN N
    (try((repeat(revert hN;revert N;apply Pn.out));refine wk (tw @sL (tw @bg0 (tw @b0 (tw @b1 (tw @b5 (tw @wz (tw @r7 (tw @hi (tw @jJ (tw @aw.eq_1 (tw @gA (tw @gB (tw @gq (tw @fA @tl)))))))))))))) ?_;(repeat(refine Pn.mk ?_;intro N hN))))
    refine .inr (bp _ _ _ _ _ (fun r σ1 hq=>?_) (xZ G cnt px L IQ b.b Ey.2 _ (PZ.frame fun k hk=>sd @Oa)))
    obtain⟨g1,x2⟩:=σ1
    obtain⟨rfl,BV,l5⟩:=hq
    (try dsimp only at BV l5)
    subst BV
    refine hN _ _ ?_
    clear hN N
    (try((repeat(revert hN;revert N;apply Pn.out));refine wk (tw @sL (tw @bg0 (tw @b0 (tw @b1 (tw @b5 (tw @wz (tw @r7 (tw @hi (tw @jJ (tw @aw.eq_1 (tw @gA (tw @gB (tw @gq (tw @fA @tl)))))))))))))) ?_;(repeat(refine Pn.mk ?_;intro N hN))))
    exact⟨sd (tw @sL (tw @bg0 (tw @b0 (tw @b1 (tw @b5 (tw @wz @r7)))))),sd (tw @sL (tw @bg0 (tw @b0 (tw @b1 (tw @b5 (tw @wz @r7)))))),sd (tw @sL (tw @bg0 (tw @b0 (tw @b1 (tw @b5 (tw @wz @r7)))))),sd (tw @sL (tw @bg0 (tw @b0 (tw @b1 (tw @b5 (tw @wz @r7)))))),sd (tw @sL (tw @bg0 (tw @b0 (tw @b1 (tw @b5 (tw @wz @r7)))))),sd (tw @sL (tw @bg0 (tw @b0 (tw @b1 (tw @b5 (tw @wz @r7)))))),sd (tw @sL (tw @bg0 (tw @b0 (tw @b1 (tw @b5 (tw @wz @r7)))))),sd (tw @sL (tw @bg0 (tw @b0 (tw @b1 (tw @b5 (tw @wz @r7)))))),fun j hj=>by
     have hv:=dD hj
     simp only[go_sem, ↓reduceIte,Nat.reduceEqDiff,Nat.reduceAdd,Nat.reduceSub,Nat.reduceLeDiff,reduceCtorEq,hv],by(try dsimp only);omega⟩
 have kQ:i=bs.length:=by omega
 subst kQ
 rw[List.take_length]at IQ
 have hL:=su bs
 generalize dX bs=L at *
 (try((repeat(revert hN;revert N;apply Pn.out));refine wk (tw @sL (tw @bg0 (tw @b0 (tw @b1 (tw @b5 (tw @wz (tw @r7 (tw @hi @tl)))))))) ?_;(repeat(refine Pn.mk ?_;intro N hN))))
 have l0:kh 0 L=[]:=rfl
 have oS:(none:Option Nat).isSome=false:=rfl
 have oT:∀a:Nat,(some a).isSome=true:=fun _=>rfl
 refine aQ (fun n env st=>∃x:Nat,n=(cnt)-x/\x<=(cnt)/\env 81=.int .i64 (x:Int)/\st.get ⟨240001001,n0+1⟩=some ⟨true,1,ll G cnt cnt⟩/\st.get ⟨240017000,st_b.next+1+1⟩=some ⟨true,mI.oq,kh x L⟩/\(st_b.next+3<=st.next/\sK st.get G cnt px)/\((x=0/\env 11=.b4)∨∃o:Id,env 11=.own o 0 (leads x L).length/\DY st.get o (jq x L) st.next)) (cnt) ⟨0,by omega,by omega,sl (tw @sL (tw @bg0 (tw @b0 (tw @b1 (tw @b5 (tw @wz (tw @r7 @l0))))))),sl (tw @sL (tw @bg0 (tw @b0 (tw @b1 (tw @b5 (tw @wz (tw @r7 @l0))))))),sl (tw @sL (tw @bg0 (tw @b0 (tw @b1 (tw @b5 (tw @wz (tw @r7 @l0))))))),⟨by(try dsimp only);omega,PZ.frame fun k hk=>by(have gI:=Jh k 240017000 (st_b.next+1+1) (by decide));simp only[go_sem, ↓reduceIte,Nat.reduceEqDiff,Nat.reduceAdd,Nat.reduceSub,Nat.reduceLeDiff,reduceCtorEq,gI]⟩,.inl ⟨rfl,sd @Nat.zero_add⟩⟩ ?_
 rintro n_c env_c st_c ⟨x,rfl,cle,c81,cg0,cg1,cI0,cI1⟩ cfr
 have xS:=cfr 12 (by kernel_rfl);have I4:=cfr 79 (by kernel_rfl);have I5:=cfr 80 (by kernel_rfl)
 simp only[go_sem, ↓reduceIte,Nat.reduceEqDiff,Nat.reduceAdd,Nat.reduceSub,Nat.reduceLeDiff,reduceCtorEq,sL,bg0,b0,b1,b5,wz,r7,l0]at xS I4 I5
 clear cfr
 obtain⟨pr,NX⟩:=cI0
 have LQ:∀j v,(G j=(⟨240017000,v⟩:Id))=False:=fun j v=>Jh j _ v (by decide)
 have LM:∀j v,(G j=(⟨240025002,v⟩:Id))=False:=fun j v=>Jh j _ v (by decide)
 have LO:∀j v,(G j=(⟨240025001,v⟩:Id))=False:=fun j v=>Jh j _ v (by decide)
 have LP:∀j v,(G j=(⟨240026007,v⟩:Id))=False:=fun j v=>Jh j _ v (by decide)
 have LN:∀j v,(G j=(⟨240026008,v⟩:Id))=False:=fun j v=>Jh j _ v (by decide)
 by_cases hx:(x:Int)<(cnt:Int)
 ·have gO:∀{e:Env} {gg:Rows} {nx:Nat},(e 81=.int .i64 (IntKind.i64.wrap ((x:Int)+1)))->(gg ⟨240001001,n0+1⟩=some ⟨true,1,ll G cnt cnt⟩)->(gg ⟨240017000,st_b.next+1+1⟩=some ⟨true,mI.oq,kh (x+1) L⟩)->(st_b.next+3<=nx/\sK gg G cnt px)->(((x+1)=0/\e 11=.b4)∨∃o:Id,e 11=.own o 0 (leads (x+1) L).length/\DY gg o (jq (x+1) L) nx)->∃m0,m0<(cnt)-x/\∃x:Nat,m0=(cnt)-x/\x<=(cnt)/\e 81=.int .i64 (x:Int)/\gg ⟨240001001,n0+1⟩=some ⟨true,1,ll G cnt cnt⟩/\gg ⟨240017000,st_b.next+1+1⟩=some ⟨true,mI.oq,kh x L⟩/\(st_b.next+3<=nx/\sK gg G cnt px)/\((x=0/\e 11=.b4)∨∃o:Id,e 11=.own o 0 (leads x L).length/\DY gg o (jq x L) nx):=fun x1 x2 x3 x4 x5=>⟨_,by omega,x+1,rfl,by omega,(by rw[x1,aA (by omega)]),x2,x3,x4,x5⟩
  have NJ:x<cnt:=by omega
  have gX:=uZ (G:=G) NJ
  have hlx:L x<cnt:=Nat.lt_of_le_of_lt (hL.le _) NJ
  have ra:=NX _ hlx
  rw[kP (IQ.root hL hlx (hL.idem _))]at ra
  have kR:=ju x L
  (try((repeat(revert hN;revert N;apply Pn.out));refine wk (tw @c81 (tw @cg0 (tw @cg1 (tw @xS (tw @I4 (tw @I5 (tw @hx (tw @gX @tl)))))))) ?_;(repeat(refine Pn.mk ?_;intro N hN))))
  refine .inr (bp _ _ _ _ _ (fun r σ1 hq=>?_) (xZ G cnt px L IQ x NJ _ (NX.frame fun k hk=>sd @Nat.zero_add)))
  obtain⟨g1,x1⟩:=σ1
  obtain⟨rfl,BV,ED⟩:=hq
  (try dsimp only at BV ED)
  subst BV
  refine hN _ _ ?_
  clear hN N
  by_cases hr:L x=x
  ·rw[hr]at ra ⊢
   have lr:=EU hr
   have Qq:(leads (x+1) L).length=(leads x L).length+1:=by rw[gC,if_pos hr];simp
   have ND:=Cg hr
   have Qk:=BP hL hr
   rcases cI1 with⟨rfl,mK⟩|⟨o,mK,cS⟩
   ·have Si:kh 1 L=[[.int .i64 ((0:Nat):Int),.int .i64 ((0:Nat):Int)]]:=ND
    (try((repeat(revert hN;revert N;apply Pn.out));refine wk (tw @c81 (tw @cg0 (tw @cg1 (tw @xS (tw @I4 (tw @I5 (tw @mK (tw @ra (tw @lr (tw @l0 (tw @oS (tw @oT (tw @Bool.not_false @Bool.not_true))))))))))))) ?_;(repeat(refine Pn.mk ?_;intro N hN))))
    refine gO ?_ ?_ ?_ (by(try dsimp only);exact⟨by omega,NX.frame fun k hk=>sd (tw @LQ (tw @LM (tw @LN (tw @LO @LP))))⟩) (.inr ⟨⟨240025002,x1+1+1+1+1⟩,by simp only[go_sem, ↓reduceIte,Nat.reduceEqDiff,Nat.reduceAdd,Nat.reduceSub,Nat.reduceLeDiff,reduceCtorEq,Qq];rfl,by rw[Qk];exact Jf (v':=x1+1+1+1+1+1) (sd @Nat.zero_add) (sd @eN.eq_1) (by(try dsimp only);omega) (by(try dsimp only);omega)⟩)
    all_goals simp only[go_sem, ↓reduceIte,Nat.reduceEqDiff,Nat.reduceAdd,Nat.reduceSub,Nat.reduceLeDiff,reduceCtorEq,c81,cg0,cg1,xS,I4,I5,Si]
   ·obtain⟨rows,qe,tf,jT⟩:=cS.new x
    rw[pj]at tf
    have vW:o.site=240025002:=by obtain⟨_,_,_,_,_,_,h,_⟩:=cS;exact h
    have yj:o.bQ<x1:=by obtain⟨_,_,_,_,_,_,_,h⟩:=cS;omega
    have qR:=dD yj
    have ON:=gG (o:=o) vW (b:=240017000) (v:=st_b.next+1+1) (by decide)
    have Ny:=gG (o:=o) vW (b:=240001001) (v:=n0+1) (by decide)
    have LR:∀k,(G k=o)=False:=fun k=>by simp only[eq_iff_iff,iff_false];intro h;have h1:=P0 k;rw[h,vW]at h1;cases h1
    have rz:(rows++[[AV.b4]])[(leads x L).length]? =some [.b4]:=by rw[<-tf];simp
    have Be:∀a:List AV,(rows++[[AV.b4]]).set (leads x L).length a=rows++[a]:=fun a=>by rw[<-tf];simp
    have e1:(leads x L).length+1<=16777216:=by omega
    have e2:((leads x L).length:Int)<(((leads x L).length+1:Nat):Int):=by omega
    (try((repeat(revert hN;revert N;apply Pn.out));refine wk (tw @c81 (tw @cg0 (tw @cg1 (tw @xS (tw @I4 (tw @I5 (tw @mK (tw @ra (tw @lr (tw @qe (tw @tf (tw @qR (tw @ON (tw @rz (tw @Be (tw @e1 (tw @e2 (tw @oS (tw @oT (tw @Bool.not_false @Bool.not_true)))))))))))))))))))) ?_;(repeat(refine Pn.mk ?_;intro N hN))))
    refine gO ?_ ?_ ?_ (by(try dsimp only);exact⟨by omega,NX.frame fun k hk=>sd (tw @LQ (tw @LM (tw @LN (tw @LO (tw @LP @LR)))))⟩) (.inr ⟨⟨240025002,x1+1+1+1+1⟩,sd @Qq,by rw[Qk];exact jT _ _ (x1+1+1+1+1+1) _ (by omega) (by(try dsimp only);omega) (by(try dsimp only);omega) (sd @Be) (sd @eN.eq_1) (fun j hj hv=>by
     have q1:=dD (i:=j) (n:=x1) (by omega)
     have q2:=gG hj (b:=240017000) (v:=st_b.next+1+1) (by decide)
     have q3:(j=o)=False:=by simp only[eq_iff_iff,iff_false];intro h;rw[h,vW]at hj;cases hj
     simp only[go_sem, ↓reduceIte,Nat.reduceEqDiff,Nat.reduceAdd,Nat.reduceSub,Nat.reduceLeDiff,reduceCtorEq,q1,q2,q3])⟩)
    all_goals simp only[go_sem, ↓reduceIte,Nat.reduceEqDiff,Nat.reduceAdd,Nat.reduceSub,Nat.reduceLeDiff,reduceCtorEq,c81,cg0,cg1,xS,I4,I5,ND,qR,ON,Ny]
  ·obtain⟨lr,G7,dE⟩:=xe hL hr
   obtain⟨OB,Qk⟩:=BQ hL hr
   have Qq:(leads (x+1) L).length=(leads x L).length:=by rw[gC,if_neg hr];simp
   have JB:=Cf hr
   rcases cI1 with⟨rfl,mK⟩|⟨o,mK,cS⟩
   ·exact absurd (Nat.le_zero.1 (hL.le 0)) hr
   ·obtain⟨rows,id,qe,tf,hrk,hid,GW,hidv,Rt⟩:=cS.add OB x
    rw[pj]at tf
    have vW:o.site=240025002:=by obtain⟨_,_,_,_,_,_,h,_⟩:=cS;exact h
    have yj:o.bQ<x1:=by obtain⟨_,_,_,_,_,_,_,h⟩:=cS;omega
    have qR:=dD yj
    have wW:=dD (i:=id) (n:=x1) (by omega)
    have jJ:(bx L x:Int)<((leads x L).length:Int):=by omega
    have OJ:=Av x L (L x)
    have hma:((members x L (L x)).map eN).length=(members x L (L x)).length:=by simp
    have e1:(members x L (L x)).length+1<=16777216:=by omega
    have hoi:(o=id)=False:=by simp only[eq_iff_iff,iff_false];rintro rfl;rw[GW]at vW;cases vW
    have hio:(id=o)=False:=by simp only[eq_iff_iff,iff_false];rintro rfl;rw[GW]at vW;cases vW
    have ON:=gG (o:=o) vW (b:=240017000) (v:=st_b.next+1+1) (by decide)
    have Ny:=gG (o:=o) vW (b:=240001001) (v:=n0+1) (by decide)
    have hiM:=gG (o:=id) GW (b:=240017000) (v:=st_b.next+1+1) (by decide)
    have hiT:=gG (o:=id) GW (b:=240001001) (v:=n0+1) (by decide)
    have LR:∀k,(G k=o)=False:=fun k=>by simp only[eq_iff_iff,iff_false];intro h;have h1:=P0 k;rw[h,vW]at h1;cases h1
    have Rg:∀k,(G k=id)=False:=fun k=>by simp only[eq_iff_iff,iff_false];intro h;have h1:=P0 k;rw[h,GW]at h1;cases h1
    (try((repeat(revert hN;revert N;apply Pn.out));refine wk (tw @c81 (tw @cg0 (tw @cg1 (tw @xS (tw @I4 (tw @I5 (tw @mK (tw @ra (tw @lr (tw @G7 (tw @qe (tw @tf (tw @hrk (tw @hid (tw @qR (tw @wW (tw @jJ (tw @hma (tw @e1 (tw @hoi (tw @hio (tw @ON (tw @Ny (tw @hiM (tw @hiT (tw @oS (tw @oT (tw @Bool.not_false @Bool.not_true)))))))))))))))))))))))))))) ?_;(repeat(refine Pn.mk ?_;intro N hN))))
    refine gO ?_ ?_ ?_ (by(try dsimp only);exact⟨by omega,NX.frame fun k hk=>sd (tw @LQ (tw @LM (tw @LN (tw @LO (tw @LP (tw @LR @Rg))))))⟩) (.inr ⟨o,sd (tw @Qq @mK),by rw[Qk];exact Rt _ (x1+1+1) _ (by omega) (by(try dsimp only);omega) (sd @Nat.zero_add) (sd (tw @qR (tw @wW (tw @hoi @hio)))) (fun j hj hv lT=>by
     have q1:=dD (i:=j) (n:=x1) (by omega)
     have q2:=gG hj (b:=240017000) (v:=st_b.next+1+1) (by decide)
     have q3:(j=o)=False:=by simp only[eq_iff_iff,iff_false];intro h;rw[h,vW]at hj;cases hj
     simp only[go_sem, ↓reduceIte,Nat.reduceEqDiff,Nat.reduceAdd,Nat.reduceSub,Nat.reduceLeDiff,reduceCtorEq,q1,q2,q3,lT])⟩)
    all_goals simp only[go_sem, ↓reduceIte,Nat.reduceEqDiff,Nat.reduceAdd,Nat.reduceSub,Nat.reduceLeDiff,reduceCtorEq,c81,cg0,cg1,xS,I4,I5,JB,qR,wW,ON,Ny,hiM,hiT]
 have Su:x=cnt:=by omega
 rcases cI1 with⟨h0,_⟩|⟨o,mK,rows,ids,qe,hR,_,_,_,_⟩
 ·omega
 have tf:=hR.len
 rw[pj]at tf
 (try((repeat(revert hN;revert N;apply Pn.out));refine wk (tw @c81 (tw @cg0 (tw @cg1 (tw @xS (tw @I4 (tw @I5 (tw @hx (tw @mK @qe)))))))) ?_;(repeat(refine Pn.mk ?_;intro N hN))))
 refine uN (.inl rfl) (by simp only[go_sem, ↓reduceIte,Nat.reduceEqDiff,Nat.reduceAdd,Nat.reduceSub,Nat.reduceLeDiff,reduceCtorEq];rfl) ?_
 rw[s8 qe (by omega) (rows':=(fb cnt L).map zg) (by
  rw[List.drop_zero,List.take_of_length_le (by omega)]
  rw[Su]at hR;exact Hs 3 hR)]
end Go.Proofs.YtgoelphibofcmaaGreat.V

namespace Go.Proofs.YtgoelphibofcmaaGreat.V
open Go.RowKit
attribute [local irreducible] dx wpOps gp Call
attribute [local go_sem] aH fC eG fW fV cF upd cj K.av cJ AV.cells AV.cell rowOf rowsOf part ld rowAt bj bY dz eb gT bE cZ er fS eU dp eh cX cW dR dS bH aW cN bG cQ cP ee ei ef cL bP cY ec bF aL cU cw gS bl cG bI aP dd aU dB AV.undef bw bB dV ea dI dG cE ep ev cq ek ej cR cV List.getD_cons_zero List.getD_cons_succ List.getD_nil List.all_cons List.all_nil Bool.and_true Bool.true_and Bool.and_self Bool.not_true Bool.not_false Option.map_some Option.map_none Option.bind_some Option.bind_none List.length_cons List.length_nil List.take_succ_cons List.take_zero List.take_nil List.drop_succ_cons List.drop_zero List.drop_nil List.head?_cons List.map_cons List.map_nil List.getElem?_cons_zero List.getElem?_cons_succ List.cons_append List.nil_append List.append_nil List.length_map List.set_cons_zero List.set_cons_succ Nat.reduceMul eq_self Int.toNat_natCast Int.natCast_nonneg and_self true_and and_true decide_true decide_false Bool.false_eq_true Nat.zero_add Nat.add_zero List.contains_cons List.contains_nil Bool.or_false Bool.false_or beq_self_eq_true Nat.reduceBEq ne_eq not_true_eq_false not_false_eq_true Id.mk.injEq false_and and_false Nat.reduceLT Int.reduceLE Int.reduceLT Int.reduceToNat Int.reduceNeg Int.reduceAdd Nat.le_refl List.length_append beq_true beq_false Bool.not_eq_eq_eq_not or_false false_or dO ah aq aI aZ bt ck aS bf aO aY cK bK
theorem Iw (b:PB) (t:Int):aj Tryz.prog 243 [.agg (aw b),.cI [.int .i64 t]] (.bool (decide (b.s<t))):=by
 refine aj.body eI rfl fun hl n0=>?_
 clear hl
 (try((repeat(revert hN;revert N;apply Pn.out));refine wk @aw.eq_1 ?_;(repeat(refine Pn.mk ?_;intro N hN))))
 exact aM (b:=decide (b.s<t)) (.inl rfl) (sd @Nat.zero_add) rfl
theorem w5 (bs:List PB) (t:Int) (hl:bs.length<=1048576):aj Tryz.prog 263 [.sl (bs.map aw),.fn 243 [.cI [.int .i64 t]]] (.int .i64 (jR (fun b:PB=>decide (b.s<t)) bs)):=
 sq Gr (show mV Tryz.prog 263=some (rF 263 3 true) by kernel_rfl) bs hl 243 _ _ (fun x _=>Iw x t) fun g=>by simp only[ah,aq,aO,Option.map_some]
theorem Gp (bs:List PB) (hp:0<bs.length) (hl:bs.length<=1048576) (σ:ar):
  Call Tryz.prog 242 [.sl (bs.map aw)] σ fun r σ'=>∃o:Id,r=.own o 0 bs.length/\σ'.get o=some ⟨true,3,bs.map aw⟩/\σ.next<=o.bQ/\o.bQ<σ'.next/\∀i:Id,i.bQ<σ.next->σ'.get i=σ.get i:=by
 refine iF eI rfl fun hl=>?_
 clear hl
 have hz:=all_map (l:=bs) K5
 obtain⟨b,r,rfl⟩:∃b r,bs=b::r:=by
  cases bs with
  |nil=>simp at hp
  |cons b r=>exact⟨b,r,rfl⟩
 have kR:(List.map aw (b::r)).length=(b::r).length:=by simp
 have e1:r.length<=16777215:=by simp at hl;omega
 rw[List.map_cons]at hz kR ⊢
 (try((repeat(revert hN;revert N;apply Pn.out));refine wk (tw @hz (tw @kR @e1)) ?_;(repeat(refine Pn.mk ?_;intro N hN))))
 refine iE (.inl rfl) (vs:=[.own ⟨242003002,σ.next+1+1⟩ 0 (b::r).length]) (by simp only[eZ,gR,go_sem, ↓reduceIte,Nat.reduceEqDiff,Nat.reduceAdd,Nat.reduceSub,Nat.reduceLeDiff,reduceCtorEq,List.length_cons]) ⟨⟨242003002,σ.next+1+1⟩,rfl,sd @Nat.zero_add,by(try dsimp only);omega,by(try dsimp only);omega,fun i hi=>?_⟩
 have hv:=dD hi
 simp only[go_sem, ↓reduceIte,Nat.reduceEqDiff,Nat.reduceAdd,Nat.reduceSub,Nat.reduceLeDiff,reduceCtorEq,hv]
theorem nU {t:Int} {bs:List PB} {j:Nat} (hj:j<bs.length):aF t (bs.take (j+1))=aF t (bs.take j)++if decide (bs[j].s<t)=true then[]else[bs[j]]:=by
 rw[sI t bs j hj]
 congr 1
 by_cases h:bs[j].s<t
 ·rw[if_neg (by omega),if_pos (decide_eq_true h)]
 ·rw[if_pos (by omega),if_neg (by simp only[decide_eq_true_eq];exact h)]
theorem sH {t:Int} {bs:List PB} (h:∀b∈bs,¬b.s<t):aF t bs=bs:=by
 unfold aF
 rw[List.filter_eq_self]
 intro b hb
 have:=h b hb
 exact decide_eq_true (by omega)
structure sJ (t:Int) (bs:List PB) (j:Nat) (R:List PB):Prop where
 len:R.length=bs.length
 pre:R.take (aF t (bs.take j)).length=aF t (bs.take j)
 post:∀x,j<=x->R[x]? =bs[x]?
 lt:(aF t (bs.take j)).length<j
theorem sJ.start {t:Int} {bs:List PB} {i:Nat} (hi:i<bs.length) (hw:bs[i].s<t) (hp:∀x (h:x<i),¬bs[x].s<t):sJ t bs (i+1) bs/\(aF t (bs.take (i+1))).length=i:=by
 have h1:aF t (bs.take i)=bs.take i:=sH fun b hb=>by
  obtain⟨x,hx,rfl⟩:=List.getElem_of_mem hb
  rw[List.length_take]at hx
  rw[List.getElem_take]
  exact hp x (by omega)
 have h2:aF t (bs.take (i+1))=bs.take i:=by rw[nU hi,if_pos (decide_eq_true hw),List.append_nil,h1]
 have h3:(bs.take i).length=i:=by rw[List.length_take];omega
 exact⟨⟨rfl,by rw[h2,h3],fun _ _=>rfl,by rw[h2,h3];omega⟩,by rw[h2,h3]⟩
theorem sJ.PD {t:Int} {bs R:List PB} {j:Nat} (h:sJ t bs j R) (hj:j<bs.length) (hw:bs[j].s<t):sJ t bs (j+1) R/\(aF t (bs.take (j+1))).length=(aF t (bs.take j)).length:=by
 have h2:aF t (bs.take (j+1))=aF t (bs.take j):=by rw[nU hj,if_pos (decide_eq_true hw),List.append_nil]
 exact⟨⟨h.len,by rw[h2];exact h.pre,fun x hx=>h.post x (by omega),by rw[h2];have:=h.lt;omega⟩,by rw[h2]⟩
theorem sJ.pB {t:Int} {bs R:List PB} {j:Nat} (h:sJ t bs j R) (hj:j<bs.length) (hw:¬bs[j].s<t):sJ t bs (j+1) (R.set (aF t (bs.take j)).length bs[j])/\(aF t (bs.take (j+1))).length=(aF t (bs.take j)).length+1:=by
 have h2:aF t (bs.take (j+1))=aF t (bs.take j)++[bs[j]]:=by rw[nU hj,if_neg (by simp only[decide_eq_true_eq];exact hw)]
 have dE:=h.lt
 have hlen:=h.len
 have sS:=h.pre
 generalize hc:(aF t (bs.take j)).length=c at *
 refine⟨⟨by rw[List.length_set];exact hlen,?_,fun x hx=>?_,by rw[h2,List.length_append,hc];simp;omega⟩,by rw[h2,List.length_append,hc];rfl⟩
 ·rw[h2,List.length_append,hc,List.length_singleton,List.take_succ_eq_append_getElem (by rw[List.length_set];omega),List.getElem_set_self,List.take_set_of_le (Nat.le_refl _),sS]
 ·rw[List.getElem?_set_ne (by omega)];exact h.post x (by omega)
theorem sJ.at_ {t:Int} {bs R:List PB} {j:Nat} (h:sJ t bs j R) (hj:j<bs.length):(R.map aw)[j]? =some (aw bs[j]):=by
 rw[List.getElem?_map,h.post j (Nat.le_refl j),List.getElem?_eq_getElem hj];rfl
theorem BF {p:PB->Bool} {bs:List PB} (h:¬0<=jR p bs):∀b∈bs,p b=false:=by
 intro b hb
 unfold jR at h
 split at h
 ·omega
 ·rename_i h1
  rw[List.findIdx_lt_length]at h1
  cases hp:p b
  ·rfl
  ·exact absurd ⟨b,hb,hp⟩ h1
theorem BG {p:PB->Bool} {bs:List PB} (h:0<=jR p bs):∃i,∃hi:i<bs.length,jR p bs=(i:Int)/\p bs[i]=true/\∀x (hx:x<i),p (bs[x]'(by omega))=false:=by
 unfold jR at h ⊢
 split
 ·rename_i h1
  exact⟨bs.findIdx p,h1,rfl,List.findIdx_getElem,fun x hx=>by simpa using List.not_of_lt_findIdx hx⟩
 ·rename_i h1;rw[if_neg h1]at h;omega
theorem El (bs:List PB) (t:Int) (hl:bs.length<=1048576) (o T:Id) (σ:ar) (ho:σ.get o=some ⟨true,3,bs.map aw⟩) (hT:σ.get T=some ⟨true,1,[[.int .i64 t]]⟩) (yj:o.bQ<σ.next) (P8:T.bQ<σ.next) (Ny:o≠T):
  Call Tryz.prog 241 [.own o 0 bs.length,.fn 243 [.ptr T 0 0]] σ fun r σ'=>∃rows,r=.own o 0 (aF t bs).length/\σ'.get o=some ⟨true,3,rows⟩/\rows.take (aF t bs).length=(aF t bs).map aw/\(aF t bs).length<=rows.length/\σ.next<=σ'.next/\∀i:Id,i.bQ<σ.next->i≠o->σ'.get i=σ.get i:=by
 refine iF eI rfl fun mN=>?_
 clear mN
 have EB:=w5 bs t hl
 have hzT:∀(g:Rows),g T=some ⟨true,1,[[.int .i64 t]]⟩->V.fz (dO g) 5 (.ptr T 0 0)=some (.cI [.int .i64 t]):=fun g hg=>ua (sz:=1) (rows:=[[.int .i64 t]]) (by simp[dO,hg]) rfl (by simp only[List.drop_zero,ah,aq,aI,Option.map_some])
 have zl:∀(g:Rows),g T=some ⟨true,1,[[.int .i64 t]]⟩->g o=some ⟨true,3,bs.map aw⟩->da (dO g) 6 [.own o 0 bs.length,.fn 243 [.ptr T 0 0]]=some [.sl (bs.map aw),.fn 243 [.cI [.int .i64 t]]]:=fun g h1 h2=>by
  have q1:=gz (g:=dO g) (n:=5) (e:=aw) (sz:=3) (len:=bs.length) (l:=bs) (id:=o) (by simp[dO,h2]) rfl fun b=>x7 _ 4 b
  have q2:=hzT g h1
  simp only[ah,aq,q1,cK,List.all_cons,List.all_nil,AV.cell,Bool.and_true,if_true,q2,Option.map_some]
 have lu:∀(g:Rows),g T=some ⟨true,1,[[.int .i64 t]]⟩->∀b:PB,da (dO g) 6 [.agg (aw b),.ptr T 0 0]=some [.agg (aw b),.cI [.int .i64 t]]:=fun g h1 b=>by
  have q3:V.fz (dO g) 6 (.ptr T 0 0)=some (.cI [.int .i64 t]):=ua (sz:=1) (rows:=[[.int .i64 t]]) (by simp[dO,h1]) rfl (by simp only[List.drop_zero,ah,aq,aI,Option.map_some])
  simp only[ah,aq,bf,x7,q3,Option.map_some]
 (try((repeat(revert hN;revert N;apply Pn.out));refine wk @Nat.zero_add ?_;(repeat(refine Pn.mk ?_;intro N hN))))
 refine .inl ⟨_,aj.x EB (zl _ hT ho),?_⟩
 refine hN _ _ ?_
 clear hN N
 by_cases h0:0<=jR (fun b:PB=>decide (b.s<t)) bs
 ·obtain⟨i,hi,FK,hpi,Jw⟩:=BG h0
  rw[FK]at *
  have Jr:decide ((i:Int)= -1)=false:=decide_eq_false (by omega)
  have O4:IntKind.i64.wrap ((i:Int)+1)=((i+1:Nat):Int):=aA (by omega)
  obtain⟨dv,Be⟩:=sJ.start (t:=t) hi (by simpa using hpi) (fun x hx=>by simpa using Jw x hx)
  (try((repeat(revert hN;revert N;apply Pn.out));refine wk (tw @Jr @O4) ?_;(repeat(refine Pn.mk ?_;intro N hN))))
  refine aQ (fun m env st=>∃(j:Nat) (R:List PB),m=bs.length-j/\env 6=.int .i64 (j:Int)/\env 5=.int .i64 ((aF t (bs.take j)).length:Int)/\st.get o=some ⟨true,3,R.map aw⟩/\sJ t bs j R/\j<=bs.length/\σ.next<=st.next/\∀x:Id,x.bQ<σ.next->(x=o)=False->st.get x=σ.get x) (bs.length-(i+1)) ⟨i+1,bs,rfl,sd @O4,sd @Be,sd @ho,dv,by omega,by(try dsimp only);omega,fun x _ _=>sd @Nat.zero_add⟩ ?_
  rintro m env_b st_b ⟨j,R,rfl,b6,b5,bg,hD,gM,hle,js⟩ fE
  have b0:=fE 0 (by kernel_rfl)
  have b1:=fE 1 (by kernel_rfl)
  simp only[go_sem, ↓reduceIte,Nat.reduceEqDiff,Nat.reduceAdd,Nat.reduceSub,Nat.reduceLeDiff,reduceCtorEq]at b0 b1
  clear fE
  have bT:=(js T P8 (by simp only[eq_iff_iff,iff_false];exact fun h=>Ny h.symm)).trans hT
  have oL:=dD (i:=o) (n:=st_b.next) (by omega)
  have Sp:=dD (i:=T) (n:=st_b.next) (by omega)
  have hRl:=hD.len
  have Rp:(R.map aw).length=bs.length:=by rw[List.length_map,hRl]
  have dE:=hD.lt
  by_cases hj:(j:Int)<(bs.length:Int)
  ·have mW:j<bs.length:=by omega
   have FI:=hD.at_ mW
   have Mn:=Iw bs[j] t
   have QE:IntKind.i64.wrap ((j:Int)+1)=((j+1:Nat):Int):=aA (by omega)
   have hD1:=hD.PD mW
   have hD2:=hD.pB mW
   generalize bs[j]=b at *
   (try((repeat(revert hN;revert N;apply Pn.out));refine wk (tw @b0 (tw @b1 (tw @b5 (tw @b6 (tw @bg (tw @hj (tw @FI (tw @aw.eq_1 (tw @oL (tw @Sp @Rp)))))))))) ?_;(repeat(refine Pn.mk ?_;intro N hN))))
   refine .inl ⟨_,aj.x Mn (lu _ (sd (tw @Sp @bT)) b),?_⟩
   refine hN _ _ ?_
   clear hN N
   by_cases hw:b.s<t
   ·obtain⟨Rc,Rb⟩:=hD1 hw
    have hd:decide (b.s<t)=true:=decide_eq_true hw
    (try((repeat(revert hN;revert N;apply Pn.out));refine wk (tw @b0 (tw @b1 (tw @b5 (tw @b6 (tw @hd @QE))))) ?_;(repeat(refine Pn.mk ?_;intro N hN))))
    refine⟨_,?_,j+1,R,rfl,sd @QE,sd (tw @b5 @Rb),sd (tw @bg @oL),Rc,by omega,by(try dsimp only);omega,fun x hx FP=>?_⟩
    ·omega
    ·have NF:=dD (i:=x) (n:=st_b.next) (by omega)
     have:=js x hx FP
     simp only[go_sem, ↓reduceIte,Nat.reduceEqDiff,Nat.reduceAdd,Nat.reduceSub,Nat.reduceLeDiff,reduceCtorEq,NF,this]
   ·obtain⟨Rc,Rb⟩:=hD2 hw
    have hd:decide (b.s<t)=false:=decide_eq_false hw
    have Rv:((aF t (bs.take j)).length:Int)<(bs.length:Int):=by omega
    have hwc:IntKind.i64.wrap (((aF t (bs.take j)).length:Int)+1)=(((aF t (bs.take j)).length+1:Nat):Int):=aA (by omega)
    have fc:(R.map aw).set (aF t (bs.take j)).length [.int .i64 (b.a:Int),.int .i64 (b.b:Int),.int .i64 b.s]=(R.set (aF t (bs.take j)).length b).map aw:=by rw[List.map_set];rfl
    have Qj:∃y,(R.map aw)[(aF t (bs.take j)).length]? =some (aw y):=⟨R[(aF t (bs.take j)).length]'(by omega),by rw[List.getElem?_map,List.getElem?_eq_getElem (by omega)];rfl⟩
    obtain⟨y,Qj⟩:=Qj
    rw[aw]at Qj
    (try((repeat(revert hN;revert N;apply Pn.out));refine wk (tw @b0 (tw @b1 (tw @b5 (tw @b6 (tw @bg (tw @hd (tw @QE (tw @hwc (tw @Rv (tw @fc (tw @Qj (tw @oL (tw @Sp @Rp))))))))))))) ?_;(repeat(refine Pn.mk ?_;intro N hN))))
    refine⟨_,?_,j+1,_,rfl,sd @QE,sd (tw @hwc @Rb),sd @fc,Rc,by omega,by(try dsimp only);omega,fun x hx FP=>?_⟩
    ·omega
    ·have NF:=dD (i:=x) (n:=st_b.next) (by omega)
     have:=js x hx FP
     simp only[go_sem, ↓reduceIte,Nat.reduceEqDiff,Nat.reduceAdd,Nat.reduceSub,Nat.reduceLeDiff,reduceCtorEq,NF,this,FP]
  ·have gM:j=bs.length:=by omega
   subst gM
   have sS:=hD.pre
   rw[List.take_length]at b5 dE sS
   have Rv:((aF t bs).length:Int)<=(bs.length:Int):=by omega
   have Qe:(aF t bs).length<=bs.length:=by omega
   have pw:(aF t bs).length+(bs.length-(aF t bs).length)=bs.length:=by omega
   have Be:=mc t bs
   (try((repeat(revert hN;revert N;apply Pn.out));refine wk (tw @b0 (tw @b1 (tw @b5 (tw @b6 (tw @bg (tw @hj (tw @Rp (tw @Rv (tw @Qe (tw @pw (tw @Nat.le_refl (tw @Nat.sub_zero (tw @Int.le_refl @oL))))))))))))) ?_;(repeat(refine Pn.mk ?_;intro N hN))))
   refine iE (.inl rfl) (vs:=[.own o 0 (aF t bs).length]) (sd @Nat.zero_add) ⟨_,rfl,by simp only[go_sem, ↓reduceIte,Nat.reduceEqDiff,Nat.reduceAdd,Nat.reduceSub,Nat.reduceLeDiff,reduceCtorEq];rfl,?_,?_,by(try dsimp only);omega,fun x hx FP=>?_⟩
   ·have hm:List.take (aF t bs).length (List.map aw R)=(aF t bs).map aw:=by rw[<-List.map_take,sS]
    rw[hm,List.append_assoc,List.take_append_of_le_length (by simp),List.take_of_length_le (by simp)]
   ·have hm:List.take (aF t bs).length (List.map aw R)=(aF t bs).map aw:=by rw[<-List.map_take,sS]
    rw[hm]
    simp only[List.length_append,List.length_map]
    omega
   ·have O5:(x=o)=False:=by simp only[eq_iff_iff,iff_false];exact FP
    have:=js x hx O5
    simp only[go_sem, ↓reduceIte,Nat.reduceEqDiff,Nat.reduceAdd,Nat.reduceSub,Nat.reduceLeDiff,reduceCtorEq,O5,this]
 ·have hn:=BF h0
  have dv:=sH (t:=t) (bs:=bs) fun b hb=>by simpa using hn b hb
  have hd:decide (jR (fun b:PB=>decide (b.s<t)) bs= -1)=true:=decide_eq_true (by
   unfold jR at h0 ⊢
   split
   ·rename_i h;rw[if_pos h]at h0;omega
   ·rfl)
  (try((repeat(revert hN;revert N;apply Pn.out));refine wk @hd ?_;(repeat(refine Pn.mk ?_;intro N hN))))
  refine iE (.inl rfl) (vs:=[.own o 0 bs.length]) (sd @Nat.zero_add) ⟨bs.map aw,by rw[dv];rfl,sd @ho,by rw[dv,List.take_of_length_le (by simp)],by rw[dv];simp,by(try dsimp only);omega,fun x _ _=>rfl⟩
end Go.Proofs.YtgoelphibofcmaaGreat.V

namespace Go.Proofs.YtgoelphibofcmaaGreat.V
open Go.RowKit
attribute [local irreducible] dx wpOps gp Call
attribute [local go_sem] aH fC eG fW fV cF upd cj K.av cJ AV.cells AV.cell rowOf rowsOf part ld rowAt bj bY dz eb gT bE cZ er fS eU dp eh cX cW dR dS bH aW cN bG cQ cP ee ei ef cL bP cY ec bF aL cU cw gS bl cG bI aP dd aU dB AV.undef bw bB dV ea dI dG cE ep ev cq ek ej cR cV List.getD_cons_zero List.getD_cons_succ List.getD_nil List.all_cons List.all_nil Bool.and_true Bool.true_and Bool.and_self Bool.not_true Bool.not_false Option.map_some Option.map_none Option.bind_some Option.bind_none List.length_cons List.length_nil List.take_succ_cons List.take_zero List.take_nil List.drop_succ_cons List.drop_zero List.drop_nil List.head?_cons List.map_cons List.map_nil List.getElem?_cons_zero List.getElem?_cons_succ List.cons_append List.nil_append List.append_nil List.length_map List.set_cons_zero List.set_cons_succ Nat.reduceMul eq_self Int.toNat_natCast Int.natCast_nonneg and_self true_and and_true decide_true decide_false Bool.false_eq_true Nat.zero_add Nat.add_zero List.contains_cons List.contains_nil Bool.or_false Bool.false_or beq_self_eq_true Nat.reduceBEq ne_eq not_true_eq_false not_false_eq_true Id.mk.injEq false_and and_false Nat.reduceLT Int.reduceLE Int.reduceLT Int.reduceToNat Int.reduceNeg Int.reduceAdd Nat.le_refl List.length_append beq_true beq_false Bool.not_eq_eq_eq_not or_false false_or dO ah aq aI aZ bt ck aS bf aO aY cK bK
end Go.Proofs.YtgoelphibofcmaaGreat.V

namespace Go.Proofs.YtgoelphibofcmaaGreat.V
open Go.RowKit
attribute [local irreducible] dx wpOps gp Call
attribute [local go_sem] aH fC eG fW fV cF upd cj K.av cJ AV.cells AV.cell rowOf rowsOf part ld rowAt bj bY dz eb gT bE cZ er fS eU dp eh cX cW dR dS bH aW cN bG cQ cP ee ei ef cL bP cY ec bF aL cU cw gS bl cG bI aP dd aU dB AV.undef bw bB dV ea dI dG cE ep ev cq ek ej cR cV List.getD_cons_zero List.getD_cons_succ List.getD_nil List.all_cons List.all_nil Bool.and_true Bool.true_and Bool.and_self Bool.not_true Bool.not_false Option.map_some Option.map_none Option.bind_some Option.bind_none List.length_cons List.length_nil List.take_succ_cons List.take_zero List.take_nil List.drop_succ_cons List.drop_zero List.drop_nil List.head?_cons List.map_cons List.map_nil List.getElem?_cons_zero List.getElem?_cons_succ List.cons_append List.nil_append List.append_nil List.length_map List.set_cons_zero List.set_cons_succ Nat.reduceMul eq_self Int.toNat_natCast Int.natCast_nonneg and_self true_and and_true decide_true decide_false Bool.false_eq_true Nat.zero_add Nat.add_zero List.contains_cons List.contains_nil Bool.or_false Bool.false_or beq_self_eq_true Nat.reduceBEq ne_eq not_true_eq_false not_false_eq_true Id.mk.injEq false_and and_false Nat.reduceLT Int.reduceLE Int.reduceLT Int.reduceToNat Int.reduceNeg Int.reduceAdd Nat.le_refl List.length_append beq_true beq_false Bool.not_eq_eq_eq_not or_false false_or dO ah aq aI aZ bt ck aS bf aO aY cK bK
end Go.Proofs.YtgoelphibofcmaaGreat.V

namespace Go.Proofs.YtgoelphibofcmaaGreat.V
open Go.RowKit Go.Shelf
attribute [local go_sem] Oper.semAt_some
structure oG (W:World) (v:Value) (l:List ad):Prop where
 sl:∃A c,v=.slice A l.length c/\(l.length<=c/\c<=maxLen)/\(l=[]∨∃b o,A=some ⟨b,o,none⟩/\∀i,i<l.length->W.cell? ⟨b,o+(i*3+0),none⟩=some (.int .i64 (aE l i).aJ.eS)/\W.cell? ⟨b,o+(i*3+1),none⟩=some (.int .i64 (aE l i).aJ.eH)/\W.cell? ⟨b,o+(i*3+2),none⟩=some (.int .i64 (aE l i).aN))
structure FZ (K:World->World->Prop) (v:Value) (l:List ad):Prop where
 refl:∀W,K W W
 trans:∀{A B C:World},K A B->K B C->K A C
 of:∀{W W':World},Below W.heap.size W W'->K W W'
 size:∀{W W':World},K W W'->W.heap.size<=W'.heap.size
 typed:∀{W W':World},K W W'->∀(b:Nat) (cells:Array Value) (T:TypeId) (fr:Nat×Nat),W.heap[b]? =some (Obj.cells cells T fr)->T≠226->T≠246->W'.heap[b]? =W.heap[b]?
 pl:∀{W W':World},K W W'->oG W v l->oG W' v l
theorem sZ {W:World} {b x:Nat} {v:Value} (h:W.cell? ⟨b,x,none⟩=some v):b<W.heap.size:=by
 rcases Nat.lt_or_ge b W.heap.size with h1|h1
 ·exact h1
 ·simp[World.cell?,Array.getElem?_eq_none h1]at h
theorem oG.below {W W':World} {v:Value} {l:List ad} (h:oG W v l) (k:Below W.heap.size W W'):oG W' v l:=by
 obtain⟨A,c,rfl,hm,hc⟩:=h.sl
 refine⟨A,c,rfl,hm,?_⟩
 rcases hc with h0|⟨b,o,rfl,jW⟩
 ·exact .inl h0
 ·refine .inr ⟨b,o,rfl,fun i hi=>?_⟩
  obtain⟨h1,h2,h3⟩:=jW i hi
  have hb:=sZ h1
  exact⟨(k.cell (p:=⟨b,_,none⟩) hb).trans h1,(k.cell (p:=⟨b,_,none⟩) hb).trans h2,(k.cell (p:=⟨b,_,none⟩) hb).trans h3⟩
theorem oG.eD {P:Program} {W:World} {v:Value} {l:List ad} (h:oG W v l):jh P W (fun b=>b<W.heap.size) (.sl (l.map ab)) v:=by
 obtain⟨A,c,rfl,hm,hc⟩:=h.sl
 rcases hc with rfl|⟨b,o,rfl,jW⟩
 ·exact .zm A c (by simpa using hm.2)
 by_cases KJ:l=[]
 ·subst KJ;exact .zm _ c (by simpa using hm.2)
 ·have jU:0<l.length:=List.length_pos_iff.2 KJ
  have hb:=sZ (jW 0 jU).1
  refine .sl (l.map ab) b o l.length c 3 (fun i j=>if j=0 then .int .i64 (aE l i).aJ.eS else if j=1 then .int .i64 (aE l i).aJ.eH else .int .i64 (aE l i).aN) (by simp) hm.1 hm.2 hb (fun cs dn=>?_) (fun cs dn a ha=>?_) (fun i j hi hj=>?_) (fun i j cs a hi hj=>?_)
  ·obtain⟨x,_,rfl⟩:=List.mem_map.1 dn;rfl
  ·obtain⟨x,_,rfl⟩:=List.mem_map.1 dn
   simp[ab]at ha
   rcases ha with rfl|rfl|rfl<;>rfl
  ·obtain⟨h1,h2,h3⟩:=jW i hi
   match j,hj with
   |0,_=>exact h1
   |1,_=>exact h2
   |2,_=>exact h3
   |j+3,hj=>omega
  ·have kQ:i<l.length:=by have:=(List.getElem?_eq_some_iff.1 hi).1;simpa using this
   rw[fa kQ]at hi
   injection hi with hi
   subst hi
   match j,hj with
   |0,hj=>simp[ab]at hj;subst hj;exact .int _ _
   |1,hj=>simp[ab]at hj;subst hj;exact .int _ _
   |2,hj=>simp[ab]at hj;subst hj;exact .int _ _
   |j+3,hj=>simp[ab]at hj
theorem zE {P:Program} (hm:P.follows .mixedOrders=true) {f:Nat} {args:List AV} {vs:Array Value} {w:World} {r:AV} (h:aj P f args r) (hr:∀g r0,fZ g 6 r0=some r->r0=r) (hA:e6 P w (fun b=>b<w.heap.size) (fun _=>none) args vs):
  Calls P f vs w fun e w'=>∃D ι u,e=.returned u/\cu P w' D ι r u/\Below w.heap.size w w':=by
 have hs:=fP hm (h 0) w.heap.size (fun b=>b<w.heap.size) (fun _=>none) w vs ⟨Nat.le_refl _,fun _ h=>h,fun id r h=>(by cases h),fun id jB r r' B B' h=>(by cases h)⟩ (fun id h=>absurd rfl h) hA
 refine hs.mono ?_
 rintro e w' ⟨r0,g',n',D',ι',u,rfl,⟨r',hz,rfl⟩,dv,hsim,_,_,gr⟩
 have:=hr _ _ hz
 subst this
 exact⟨D',ι',u,rfl,gr,dv.below⟩
theorem nG {g:Rows} {n:Nat} {a:AV} {k:IntKind} {m:Int} (h:fZ g (n+1) a=some (.int k m)):a=.int k m:=by
 cases a<;>rw[fZ]at h<;>simp_all
 all_goals (repeat' (split at h))<;>simp_all
theorem BN {g:Rows} {a:AV} {x y:Int} (h:fZ g 6 a=some (.agg [.int .i64 x,.int .i64 y])):a=.agg [.int .i64 x,.int .i64 y]:=by
 cases a with
 |agg cs=>
  rw[Dj]at h
  simp only[Option.map_eq_some_iff,AV.agg.injEq,exists_eq_right]at h
  match cs,h with
  |[],h=>rw[bD]at h;simp at h
  |[a],h=>
   rw[aX,bD]at h
   cases ha:fZ g 5 a<;>simp[ha]at h
  |[a,b],h=>
   rw[aX,aX,bD]at h
   cases ha:fZ g 5 a<;>cases hb:fZ g 5 b<;>simp[ha,hb]at h
   obtain⟨rfl,rfl⟩:=h
   rw[nG ha,nG hb]
  |a::b::c::r,h=>
   rw[aX,aX,aX]at h
   cases ha:fZ g 5 a<;>cases hb:fZ g 5 b<;>cases hc:fZ g 5 c<;>cases hd:dU g 5 r<;>simp[ha,hb,hc,hd]at h
 |_=>rw[fZ]at h<;>simp_all<;>(repeat' (split at h))<;>simp_all
theorem CF (W:World) (p:aB) (d:Int) (hd:iI d 0 3=true) (hx:iB p.eS) (hy:iB p.eH):Calls Tryz.prog 149 #[.agg #[.int .i64 p.eS,.int .i64 p.eH],.int .i64 d] W fun e W'=>e=.returned (.agg #[.int .i64 (dm p d).eS,.int .i64 (dm p d).eH])/\Below W.heap.size W W':=by
 refine(zE mixed (CH p d hd hx hy) (fun g r0 h=>BN h) ?_:Calls _ _ _ _ _).mono ?_
 ·exact lK (vs:= #[.int .i64 d]) (.agg _ _ (fun j=>if j=0 then .int .i64 p.eS else .int .i64 p.eH) rfl (fun a ha=>by simp[ae]at ha;rcases ha with rfl|rfl<;>rfl) (fun j hj=>by match j,hj with|0,_=>rfl|1,_=>rfl|j+2,hj=>simp[ae]at hj;omega) (fun j a ha=>by match j,ha with|0,ha=>simp[ae]at ha;subst ha;exact .int _ _|1,ha=>simp[ae]at ha;subst ha;exact .int _ _|j+2,ha=>simp[ae]at ha)) (lK (vs:= #[]) (.int _ _) uJ)
 ·rintro e W' ⟨D,ι,u,rfl,hr,hB⟩
  refine⟨?_,hB⟩
  obtain⟨vs,f,rfl,eW,_,h1,h2⟩:=iw hr
  have v0:=h1 0 (by simp[ae])
  have v1:=h1 1 (by simp[ae])
  rw[de (h2 0 _ rfl)]at v0
  rw[de (h2 1 _ rfl)]at v1
  obtain⟨vl⟩:=vs
  match vl,eW with
  |[a,b],_=>
   simp at v0 v1
   rw[v0,v1]
theorem wc (W:World) (l:List ad) (v:Value) (hP:oG W v l) (p:aB) (hR:mD l) (Ew:l.length<=1048576):Calls Tryz.prog 265 #[.agg #[v],.agg #[.int .i64 p.eS,.int .i64 p.eH]] W fun e W'=>e=.returned (.int .i64 (dZ l p))/\Below W.heap.size W W':=by
 refine(zE mixed (E7 l p hR Ew) (fun g r0 h=>nG h) ?_:Calls _ _ _ _ _).mono ?_
 ·exact lK (vs:= #[.agg #[.int .i64 p.eS,.int .i64 p.eH]]) (.agg _ _ (fun _=>v) rfl (fun a ha=>by simp at ha;rw[ha];rfl) (fun j hj=>by match j,hj with|0,_=>rfl|j+1,hj=>simp at hj) (fun j a ha=>by match j,ha with|0,ha=>simp at ha;subst ha;exact hP.eD|j+1,ha=>simp at ha)) (lK (vs:= #[]) (.agg _ _ (fun j=>if j=0 then .int .i64 p.eS else .int .i64 p.eH) rfl (fun a ha=>by simp[ae]at ha;rcases ha with rfl|rfl<;>rfl) (fun j hj=>by match j,hj with|0,_=>rfl|1,_=>rfl|j+2,hj=>simp[ae]at hj;omega) (fun j a ha=>by match j,ha with|0,ha=>simp[ae]at ha;subst ha;exact .int _ _|1,ha=>simp[ae]at ha;subst ha;exact .int _ _|j+2,ha=>simp[ae]at ha)) uJ)
 ·rintro e W' ⟨D,ι,u,rfl,hr,hB⟩
  exact⟨by rw[de hr],hB⟩
theorem grown_of {W W':World} (h:Below W.heap.size W W'):W.grownBy W' none:=⟨h.os,h.tape,h.output,h.size,fun k hk _=>h.block k hk⟩
def Az (l:List ad) (i:Nat) (d:Int):List (Nat×Nat×Int):=if 0<=dZ l (dm (aE l i).aJ d)then[(i,(dZ l (dm (aE l i).aJ d)).toNat,d)]else[]
def kj (l:List ad) (i m:Nat):List (Nat×Nat×Int):=(List.range m).flatMap fun j:Nat=>Az l i (1-(j:Int))
def kI (l:List ad) (n:Nat):List (Nat×Nat×Int):=(List.range n).flatMap fun i=>kj l i 2
theorem lI (l:List ad) (n:Nat):kI l (n+1)=kI l n++kj l n 2:=by simp[kI,List.range_succ]
theorem l8 (l:List ad) (i m:Nat):kj l i (m+1)=kj l i m++Az l i (1-(m:Int)):=by simp[kj,List.range_succ]
theorem Mv (l:List ad) {k m:Nat} (hk:k<l.length) (hm:m<=2):kI l k++kj l k m <+:kI l l.length:=by
 have h1:∀d,kI l k <+:kI l (k+d):=fun d=>by
  induction d with
  |zero=>exact List.prefix_refl _
  |succ d ih=>rw[<-Nat.add_assoc,lI l (k+d)];exact ih.trans (List.prefix_append _ _)
 have h2:∀d,kI l (k+1) <+:kI l (k+1+d):=fun d=>by
  induction d with
  |zero=>exact List.prefix_refl _
  |succ d ih=>rw[<-Nat.add_assoc,lI l (k+1+d)];exact ih.trans (List.prefix_append _ _)
 have h3:=h2 (l.length-(k+1))
 rw[show k+1+(l.length-(k+1))=l.length by omega,lI]at h3
 refine List.IsPrefix.trans ?_ h3
 have h4:kj l k m <+:kj l k 2:=by
  have:m=0∨m=1∨m=2:=by omega
  rcases this with rfl|rfl|rfl
  ·exact List.nil_prefix
  ·rw[l8 l k 1];exact List.prefix_append _ _
  ·exact List.prefix_refl _
 exact(List.prefix_append_right_inj _).2 h4
def NQ (l:List ad) (x:Nat×Nat×Int):Prop:=x.1<l.length/\x.2.1<l.length/\(0<=x.2.2/\x.2.2<=1)
def Db (x:Nat×Nat×Int):Array Value:= #[.agg #[.int .i64 (x.1:Int),.int .i64 (x.2.1:Int)],.int .i64 x.2.2]
theorem JG (l:List ad) (p:aB) (h:0<l.length:=by omega):dZ l p<(l.length:Int):=by
 unfold dZ
 split<;>omega
theorem Pk (l:List ad) (hA:jg l) (q Ba:Nat) (vS:Value) (K:World->World->Prop) (kl:FZ K vS l) (J Jx:List (Nat×Nat×Int)->World->Prop) (n:Nat) (hn:1<=n)
  (hY:∀pre x W,J pre W->pre.length<(kI l l.length).length->NQ l x->YieldAt Fence.wide (n-1) Tryz.prog q (Db x) W fun e W'=>
   (e=.returned (.bool true)/\J (pre++[x]) W'/\K W W')∨(e=.returned (.bool false)/\Jx (pre++[x]) W'))
  (W:World) (hJ:AbidesFrom W.heap.size J) (LK:W.heap[Ba]? =some (.cells #[vS] 41 (0,0))) (hP:oG W vS l) (h0:J [] W):
  CallsIn Fence.wide n Tryz.prog 264 #[.func (.yield q) #[] #[],.pointer (some ⟨Ba,0,none⟩)] W fun e W'=>(∃v,e=.returned v)/\
   ((∃ys,ys=kI l l.length/\J ys W')∨(∃pre,pre <+:kI l l.length/\Jx pre W')):=by
 obtain⟨A,cp,rfl,_,_⟩:=hP.sl
 refine callsIn_of_wp Tryz.func264 rfl trivial ?_ rfl
 simp only[Tryz.ntmps264,List.size_toArray,List.length_cons,List.length_nil,Nat.reduceAdd,Nat.reduceSub,Array.replicate_succ,Array.replicate_zero,List.push_toArray,List.append_toArray,List.nil_append,List.cons_append]
 have jk:W.cell? ⟨Ba,0,none⟩=some (.slice A l.length cp):=by simp[World.cell?,LK]
 gi_wp2
 gi_loopw [11] (fun i wr=>∃k:Nat,k<=l.length/\i=.int .i64 k/\J (kI l k) wr/\K W wr)
  (fun i _=>l.length-(intOf i).toNat)
 case atStart=>exact⟨0,Nat.zero_le _,rfl,h0,kl.refl _⟩
 case round=>
  obtain⟨k,hk,rfl,hJs,hKt⟩:=hrel
  by_cases dE:k<l.length
  ·have dn:∃b o,A=some ⟨b,o,none⟩/\wr.cell? ⟨b,o+k*3,none⟩=some (.int .i64 (aE l k).aJ.eS)/\wr.cell? ⟨b,o+k*3+1,none⟩=some (.int .i64 (aE l k).aJ.eH)/\wr.cell? ⟨b,o+k*3+2,none⟩=some (.int .i64 (aE l k).aN):=by
    obtain⟨A',c',hv,_,hc⟩:=(kl.pl hKt hP).sl
    cases hv
    rcases hc with rfl|⟨b,o,rfl,jW⟩
    ·simp at dE
    ·obtain⟨h1,h2,h3⟩:=jW k dE
     exact⟨b,o,rfl,by simpa using h1,by rw[Nat.add_assoc];exact h2,by rw[Nat.add_assoc];exact h3⟩
   obtain⟨b,o,rfl,hx,hy',ht⟩:=dn
   gi_wp2
   obtain⟨W2,Of⟩:∃W2,(wr.alloc (.cells #[.int .i64 (aE l k).aJ.eS,.int .i64 (aE l k).aJ.eH,.int .i64 (aE l k).aN] 137)).alloc (.cells #[.int .i64 1,.int .i64 0] 2)=W2:=⟨_,rfl⟩
   have oJ:Below wr.heap.size wr W2:=by rw[<-Of];exact((Below.refl _ wr).alloc (Nat.le_refl _) _).alloc (by simp) _
   have Rj:W2.heap[wr.heap.size]? =some (.cells #[.int .i64 (aE l k).aJ.eS,.int .i64 (aE l k).aJ.eH,.int .i64 (aE l k).aN] 137 (0,0)):=by
    rw[<-Of,Below.heap_alloc _ _ _ (by simp)];exact World.alloc_heap_new _ _
   have Ri:W2.heap[wr.heap.size+1]? =some (.cells #[.int .i64 1,.int .i64 0] 2 (0,0)):=by
    have:=World.alloc_heap_new (wr.alloc (.cells #[.int .i64 (aE l k).aJ.eS,.int .i64 (aE l k).aJ.eH,.int .i64 (aE l k).aN] 137)) (.cells #[.int .i64 1,.int .i64 0] 2)
    rw[World.size_alloc]at this
    rw[<-Of];exact this
   have LS:K W W2:=kl.trans hKt (kl.of oJ)
   have hJ2:J (kI l k++kj l k 0) W2:=by
    have:=hJ _ _ _ none hJs (grown_of oJ) (fun r h=>by cases h)
    simpa[kj]using this
   rw[Of]
   clear Of
   generalize wr=w1 at *
   gi_loopw [18] (fun j wr=>∃m:Nat,m<=2/\j=.int .i64 m/\J (kI l k++kj l k m) wr/\K W2 wr)
    (fun j _=>2-(intOf j).toNat)
   case atStart=>exact⟨0,by omega,rfl,hJ2,kl.refl _⟩
   case round=>
    obtain⟨m,hm,rfl,hJm,Kz⟩:=hrel
    have hm0:m=0∨m=1∨m=2:=by omega
    by_cases IP:m<2
    ·have hkd:=kl.typed Kz _ _ _ _ Ri (by decide) (by decide)
     have Jq:=kl.typed Kz _ _ _ _ Rj (by decide) (by decide)
     have hka:=kl.typed (kl.trans LS Kz) _ _ _ _ LK (by decide) (by decide)
     have cd:wr.cell? ⟨w1.heap.size+1,m,none⟩=some (.int .i64 (1-(m:Int))):=by
      rw[World.cell?_of_block hkd]
      rcases hm0 with rfl|rfl|rfl
      ·simp[World.cell?,Ri]
      ·simp[World.cell?,Ri]
      ·omega
     have ct0:wr.cell? ⟨w1.heap.size,0,none⟩=some (.int .i64 (aE l k).aJ.eS):=by rw[World.cell?_of_block Jq];simp[World.cell?,Rj]
     have ct1:wr.cell? ⟨w1.heap.size,1,none⟩=some (.int .i64 (aE l k).aJ.eH):=by rw[World.cell?_of_block Jq];simp[World.cell?,Rj]
     have ca:wr.cell? ⟨Ba,0,none⟩=some (.slice (some ⟨b,o,none⟩) l.length cp):=by rw[World.cell?_of_block hka];simp[World.cell?,LK]
     have hPw:oG wr (.slice (some ⟨b,o,none⟩) l.length cp) l:=kl.pl (kl.trans LS Kz) hP
     have hba:Ba<wr.heap.size:=by
      have h1:=(Array.getElem?_eq_some_iff.1 LK).1
      have h2:=kl.size (kl.trans LS Kz)
      omega
     have hdm:iI (1-(m:Int)) 0 3=true:=kg (by omega)
     have OO:=rN (hA.pt dE)
     have ND:=fun w0=>CF w0 (aE l k).aJ (1-(m:Int)) hdm OO.1 OO.2
     have hPd:oG wr.drew (.slice (some ⟨b,o,none⟩) l.length cp) l:=hPw.below ⟨rfl,rfl,rfl,Nat.le_refl _,fun _ _=>rfl⟩
     have cad:wr.drew.cell? ⟨Ba,0,none⟩=some (.slice (some ⟨b,o,none⟩) l.length cp):=ca
     have ctd0:wr.drew.cell? ⟨w1.heap.size,0,none⟩=some (.int .i64 (aE l k).aJ.eS):=ct0
     have ctd1:wr.drew.cell? ⟨w1.heap.size,1,none⟩=some (.int .i64 (aE l k).aJ.eH):=ct1
     have hfw:=hA.rf
     have OH:=hA.Ff
     have RV:=mixed
     gi_wp2
     gi_region_with_o (first|(refine⟨trivial,?_⟩;gi_at_call 149;refine(callsIn_wide.2 (ND _)).mono ?_;rintro e w3 ⟨rfl,zV⟩;have ca3:=(zV.cell (p:=⟨Ba,0,none⟩) hba).trans cad)|(refine⟨trivial,?_⟩;gi_at_call 265;refine(callsIn_wide.2 (wc _ l _ (hPd.below zV) (dm (aE l k).aJ (1-(m:Int))) OH (by omega))).mono ?_;rintro e w4 ⟨rfl,hB4⟩))
     all_goals
      have LJ:Below wr.heap.size wr w4:=(show Below wr.heap.size wr wr.drew from⟨rfl,rfl,rfl,Nat.le_refl _,fun _ _=>rfl⟩).trans (zV.trans (hB4.mono zV.size))
      have hJ4:J (kI l k++kj l k m) w4:=hJ _ _ _ none hJm (grown_of LJ) (fun r h=>by cases h)
      have sS:=Mv l dE (m:=m+1) (by omega)
      rw[l8,<-List.append_assoc]at sS
      have pr:=l8 l k m
      have hw:wrap64 ((m:Int)+1)=((m+1:Nat):Int):=by unfold wrap64;omega
      by_cases yh:0<=dZ l (dm (aE l k).aJ (1-(m:Int)))
      ·have e9:((dZ l (dm (aE l k).aJ (1-(m:Int)))).toNat:Int)=dZ l (dm (aE l k).aJ (1-(m:Int))):=by omega
       rw[Az,if_pos yh]at sS pr
       obtain⟨fn,tmps,assign,body,hy,hR⟩:=hY _ (k,(dZ l (dm (aE l k).aJ (1-(m:Int)))).toNat,1-(m:Int)) w4 hJ4 (by
        have:=sS.length_le
        simp only[List.length_append,List.length_cons,List.length_nil]at this ⊢
        omega) ⟨dE,by
        have:dZ l (dm (aE l k).aJ (1-(m:Int)))<(l.length:Int):=JG _ _
        show(dZ l (dm (aE l k).aJ (1-(m:Int)))).toNat<l.length
        omega,by show 0<=1-(m:Int);omega,by show 1-(m:Int)<=1;omega⟩
       simp only[Db,e9]at hy
       gi_wp2
       refine hR.mono ?_
       rintro e W3 (⟨rfl,hJ3,hk3⟩|⟨rfl,hJx3⟩)
       ·gi_wp2
        go_roundw
        case rel=>exact⟨m+1,by omega,by simp,by rw[pr,<-List.append_assoc];exact hJ3,kl.trans (kl.trans Kz (kl.of LJ)) hk3⟩
        case measure=>simp[intOf];omega
       ·gi_wp2
        refine bodyPost_ret (results_none rfl _ _ _) rfl ?_
        exact⟨⟨_,rfl⟩,.inr ⟨_,sS,hJx3⟩⟩
      ·rw[Az,if_neg yh,List.append_nil]at pr
       gi_wp2
       refine⟨fun _ h=>(by cases h),?_⟩
       gi_wp2
       go_roundw
       case rel=>exact⟨m+1,by omega,by simp,by rw[pr];exact hJ4,kl.trans Kz (kl.of LJ)⟩
       case measure=>simp[intOf];omega
    ·obtain rfl:m=2:=by omega
     have hfw:=hA.rf
     gi_wp2
     go_roundw
     case rel=>exact⟨k+1,by omega,by simp,by rw[lI];exact hJm,kl.trans LS Kz⟩
     case measure=>simp[intOf];omega
  ·obtain rfl:k=l.length:=by omega
   gi_wp2
   go_end0
   exact⟨⟨_,rfl⟩,.inl ⟨_,rfl,hJs⟩⟩
end Go.Proofs.YtgoelphibofcmaaGreat.V

namespace Go.Proofs.YtgoelphibofcmaaGreat.V
open Go.RowKit Go.Shelf
attribute [local go_sem] Oper.semAt_some
theorem yC (n:Nat) (vS:Value) (w:World):CallsIn Fence.wide n Tryz.prog 244 #[.agg #[vS]] w fun e w'=>e=.returned (.func (.func 264) #[] #[.pointer (some ⟨w.heap.size,0,none⟩)])/\w'=w.alloc (.cells #[vS] 41):=by
 refine callsIn_of_wp Tryz.func244 rfl trivial ?_ rfl
 simp only[Tryz.ntmps244,List.size_toArray,List.length_cons,List.length_nil,Nat.reduceAdd,Nat.reduceSub,Array.replicate_succ,Array.replicate_zero,List.push_toArray,List.append_toArray,List.nil_append,List.cons_append]
 gi_wp2
 go_ret
 exact⟨rfl,rfl⟩
abbrev Ld (l:List ad):Type:={x:Nat×Nat×Int // NQ l x}
theorem Hw (l:List ad) (hA:jg l) (Ba n:Nat) (hn:1<=n) (vS:Value) (K:World->World->Prop) (kl:FZ K vS l) (w:World) (LK:w.heap[Ba]? =some (.cells #[vS] 41 (0,0))) (hP:oG w vS l):
  SeqStopsK Fence.wide n Tryz.prog 264 #[.pointer (some ⟨Ba,0,none⟩)] (fun x:Ld l=>Db x.1) K (fun ys=>ys.map (·.1)=kI l l.length) (fun _=>True) (kI l l.length).length w:=fun q J Jx W hW hJ _ hY h0=>by
 refine(Pk l hA q Ba vS K kl (fun ys W=>∃zs:List (Ld l),zs.map (·.1)=ys/\J zs W) (fun ys W=>∃zs:List (Ld l),zs.map (·.1)=ys/\Jx zs W) n hn (fun pre x W1 hJ1 dE ui=>?_) W (fun s A B row ⟨zs,e,h⟩ hg hr=>⟨zs,e,hJ zs A B row h hg hr⟩) ((hW.block Ba (Array.getElem?_eq_some_iff.1 LK).1).trans LK) (hP.below hW) ⟨[],rfl,h0⟩).mono ?_
 ·obtain⟨zs,rfl,h1⟩:=hJ1
  refine YieldAt.mono (hY zs ⟨x,ui⟩ W1 h1 (by simpa using dE)) ?_
  rintro e W' (⟨h2,h3,h4⟩|⟨h2,h3⟩)
  ·exact .inl ⟨h2,⟨zs++[⟨x,ui⟩],by simp,h3⟩,h4⟩
  ·exact .inr ⟨h2,⟨zs++[⟨x,ui⟩],by simp,h3⟩⟩
 ·rintro e W' ⟨h1,⟨ys,rfl,zs,h2,h3⟩|⟨pre,_,zs,h2,h3⟩⟩
  ·exact⟨h1,.inl ⟨zs,h2,h3⟩⟩
  ·exact⟨h1,.inr ⟨zs,trivial,h3⟩⟩
def xR (s:au) (l:List ad) (x:Nat×Nat×Int):List PB:=if 0<gF s (aE l x.1).aN x.2.2 (aE l x.2.1).aN then[⟨x.1,x.2.1,gF s (aE l x.1).aN x.2.2 (aE l x.2.1).aN⟩]else[]
theorem Gl (s:au) (l:List ad):cz s l=(kI l l.length).flatMap (xR s l):=by
 have h1:∀i d,lY s l i d=(Az l i d).flatMap (xR s l):=fun i d=>by
  unfold lY Az
  by_cases h:0<=dZ l (dm (aE l i).aJ d)
  ·rw[if_pos h]
   simp only[List.flatMap_cons,List.flatMap_nil,List.append_nil,xR]
   by_cases h2:0<gF s (aE l i).aN d (aE l (dZ l (dm (aE l i).aJ d)).toNat).aN
   ·rw[if_pos ⟨h,h2⟩,if_pos h2]
   ·rw[if_neg fun hc=>h2 hc.2,if_neg h2]
  ·rw[if_neg h,if_neg fun hc=>h hc.1];rfl
 unfold cz gy kI
 rw[List.flatMap_assoc]
 congr 1
 funext i
 unfold fF kj
 rw[List.flatMap_assoc]
 congr 1
 funext j
 exact h1 i _
end Go.Proofs.YtgoelphibofcmaaGreat.V

namespace Go.Proofs.YtgoelphibofcmaaGreat.V
open Go.RowKit
attribute [local irreducible] dx wpOps gp Call
attribute [local go_sem] aH fC eG fW fV cF upd cj K.av cJ AV.cells AV.cell rowOf rowsOf part ld rowAt bj bY dz eb gT bE cZ er fS eU dp eh cX cW dR dS bH aW cN bG cQ cP ee ei ef cL bP cY ec bF aL cU cw gS bl cG bI aP dd aU dB AV.undef bw bB dV ea dI dG cE ep ev cq ek ej cR cV List.getD_cons_zero List.getD_cons_succ List.getD_nil List.all_cons List.all_nil Bool.and_true Bool.true_and Bool.and_self Bool.not_true Bool.not_false Option.map_some Option.map_none Option.bind_some Option.bind_none List.length_cons List.length_nil List.take_succ_cons List.take_zero List.take_nil List.drop_succ_cons List.drop_zero List.drop_nil List.head?_cons List.map_cons List.map_nil List.getElem?_cons_zero List.getElem?_cons_succ List.cons_append List.nil_append List.append_nil List.length_map List.set_cons_zero List.set_cons_succ Nat.reduceMul eq_self Int.toNat_natCast Int.natCast_nonneg and_self true_and and_true decide_true decide_false Bool.false_eq_true Nat.zero_add Nat.add_zero List.contains_cons List.contains_nil Bool.or_false Bool.false_or beq_self_eq_true Nat.reduceBEq ne_eq not_true_eq_false not_false_eq_true Id.mk.injEq false_and and_false Nat.reduceLT Int.reduceLE Int.reduceLT Int.reduceToNat Int.reduceNeg Int.reduceAdd Nat.le_refl List.length_append beq_true beq_false Bool.not_eq_eq_eq_not or_false false_or dO ah aq aI aZ bt ck aS bf aO aY cK bK
def yP (bs:List PB):AV:=if bs=[]then .b4 else .sl (bs.map aw)
theorem Kb:yP []=.b4:=rfl
theorem yQ {bs:List PB} (h:0<bs.length):yP bs=.sl (bs.map aw):=by
 unfold yP
 rw[if_neg (by rintro rfl;simp at h)]
theorem vO (cnt:Nat) (wS:1<=cnt) (hn:cnt<=1048576) (bs:List PB) (hb:∀b∈bs,b.a<cnt/\b.b<cnt) (hp:0<bs.length) (oQ:bs.length<=1048576) (t:Int):aj Tryz.prog 221 [.int .i64 cnt,.sl (bs.map aw),.int .i64 t] (.gn [.int .i64 (leads cnt (dX (aF t bs))).length,yP (dh (dX (aF t bs)) bs)]):=by
 refine aj.body eI rfl fun hl n0=>?_
 clear hl
 (try((repeat(revert hN;revert N;apply Pn.out));refine wk @Nat.zero_add ?_;(repeat(refine Pn.mk ?_;intro N hN))))
 refine .inr (bp _ _ _ _ _ (fun r σ1 hq=>?_) (Gp bs hp oQ _))
 obtain⟨o,rfl,ho,Ju,Jv,OA⟩:=hq
 (try dsimp only at ho Ju Jv OA)
 refine hN _ _ ?_
 clear hN N
 (try((repeat(revert hN;revert N;apply Pn.out));refine wk @Nat.zero_add ?_;(repeat(refine Pn.mk ?_;intro N hN))))
 refine .inr (bp _ _ _ _ _ (fun r σ2 hq=>?_) (El bs t oQ o ⟨221000000,n0⟩ _ ho (by rw[OA _ (by(try dsimp only);omega)];simp only[go_sem, ↓reduceIte,Nat.reduceEqDiff,Nat.reduceAdd,Nat.reduceSub,Nat.reduceLeDiff,reduceCtorEq]) (by(try dsimp only);omega) (by(try dsimp only);omega) (by rintro rfl;simp only at Ju;omega)))
 obtain⟨rows,rfl,fH,hrt,tf,l5,GU⟩:=hq
 (try dsimp only at l5 GU)
 refine hN _ _ ?_
 clear hN N
 have Bb:=ud cnt wS hn (aF t bs) (fun b h=>hb b (uW h)) (by have:=mc t bs;omega)
 have hL:=su (aF t bs)
 have hz:∀x,da (dO σ2.get) 6 [.int .i64 x,.own o 0 (aF t bs).length]=some [.int .i64 x,.sl ((aF t bs).map aw)]:=fun x=>by
  have:V.fz (dO σ2.get) 6 (.own o 0 (aF t bs).length)=some (.sl ((aF t bs).map aw)):=by
   rw[gW];simp only[dO,fH,Option.map_some,if_true]
   rw[if_pos (by omega),List.drop_zero,hrt,pg fun b=>x7 _ 4 b];rfl
  simp only[ah,aq,aI,this,Option.map_some]
 (try((repeat(revert hN;revert N;apply Pn.out));refine wk @Nat.zero_add ?_;(repeat(refine Pn.mk ?_;intro N hN))))
 refine .inl ⟨_,aj.x Bb (hz _),?_⟩
 refine hN _ _ ?_
 clear hN N
 generalize dX (aF t bs)=L at *
 have rz:((fb cnt L).map zg).length=(leads cnt L).length:=by simp[fb]
 have Qo:=ju cnt L
 have jk:(0:Int)<=(cnt:Int):=by omega
 have oR:(cnt:Int)<=((16777216:Nat):Int):=by omega
 have gr:List.replicate cnt [AV.int .i64 0]=du (cD cnt L 0 0) cnt:=by rw[u9,nL]
 (try((repeat(revert hN;revert N;apply Pn.out));refine wk (tw @jk (tw @oR (tw @Int.le_refl (tw @rz @gr)))) ?_;(repeat(refine Pn.mk ?_;intro N hN))))
 refine aQ (fun n env st=>∃i:Nat,n=((leads cnt L).length)-i/\i<=((leads cnt L).length)/\env 27=.int .i64 (i:Int)/\st.get ⟨221002001,σ2.next+1⟩=some ⟨true,1,du (cD cnt L i 0) cnt⟩/\(σ2.next+1<st.next)) ((leads cnt L).length) ⟨0,by omega,by omega,sl (tw @gr @rz),sl (tw @gr @rz),(by(try dsimp only);omega)⟩ ?_
 rintro n_c env_c st_c ⟨i,rfl,cle,c27,cg0,cI0⟩ cfr
 have c1:=cfr 1 (by kernel_rfl);have c8:=cfr 8 (by kernel_rfl);have c9:=cfr 9 (by kernel_rfl);have vK:=cfr 25 (by kernel_rfl);have vL:=cfr 26 (by kernel_rfl)
 simp only[go_sem, ↓reduceIte,Nat.reduceEqDiff,Nat.reduceAdd,Nat.reduceSub,Nat.reduceLeDiff,reduceCtorEq,gr,rz]at c1 c8 c9 vK vL
 clear cfr
 by_cases hi:(i:Int)<((leads cnt L).length:Int)
 ·have gO:∀{e:Env} {gg:Rows} {nx:Nat},(e 27=.int .i64 (IntKind.i64.wrap ((i:Int)+1)))->(gg ⟨221002001,σ2.next+1⟩=some ⟨true,1,du (cD cnt L (i+1) 0) cnt⟩)->(σ2.next+1<nx)->∃m0,m0<((leads cnt L).length)-i/\∃i:Nat,m0=((leads cnt L).length)-i/\i<=((leads cnt L).length)/\e 27=.int .i64 (i:Int)/\gg ⟨221002001,σ2.next+1⟩=some ⟨true,1,du (cD cnt L i 0) cnt⟩/\(σ2.next+1<nx):=fun x1 x2 x3=>⟨_,by omega,i+1,rfl,by omega,(by rw[x1,aA (by omega)]),x2,x3⟩
  have e9:i<(leads cnt L).length:=by omega
  have jJ:((fb cnt L).map zg)[i]? =some (zg (members cnt L (leads cnt L)[i])):=by simp[fb,e9]
  have te:(leads cnt L).getD i 0=(leads cnt L)[i]:=by simp[List.getD_eq_getElem?_getD,e9]
  have kE:∀m,cD cnt L i m=fun x=>if bx L x<i then bx L x else if x∈(members cnt L (leads cnt L)[i]).take m then i else 0:=fun m=>by unfold cD;rw[te]
  have qf:=fun x (hx:x<cnt)=>rK hL (n:=cnt) (k:=x) (i:=i) hx e9
  have oe:(members cnt L (leads cnt L)[i]).Nodup:=List.nodup_range.filter _
  have L7:∀x∈members cnt L (leads cnt L)[i],x<cnt:=fun x hx=>(kY.1 hx).1
  have hMc:(members cnt L (leads cnt L)[i]).length<=cnt:=by
   have:=List.length_filter_le (fun k=>L k==(leads cnt L)[i]) (List.range cnt)
   simpa[members]using this
  generalize members cnt L (leads cnt L)[i]=M at *
  have A8:(M.map eN).length=M.length:=by simp
  (try((repeat(revert hN;revert N;apply Pn.out));refine wk (tw @c27 (tw @cg0 (tw @c1 (tw @c8 (tw @c9 (tw @vK (tw @vL (tw @hi (tw @rz (tw @jJ (tw @zg.eq_1 @A8))))))))))) ?_;(repeat(refine Pn.mk ?_;intro N hN))))
  refine aQ (fun n env st=>∃m:Nat,n=(M.length)-m/\m<=(M.length)/\env 34=.int .i64 (m:Int)/\st.get ⟨221002001,σ2.next+1⟩=some ⟨true,1,du (cD cnt L i m) cnt⟩/\(σ2.next+1<st.next)) (M.length) ⟨0,by omega,by omega,sl (tw @c27 (tw @cg0 (tw @c1 (tw @c8 (tw @c9 (tw @vK (tw @vL @A8))))))),sl (tw @c27 (tw @cg0 (tw @c1 (tw @c8 (tw @c9 (tw @vK (tw @vL @A8))))))),(by(try dsimp only);omega)⟩ ?_
  rintro n_d env_d st_d ⟨m,rfl,dle,d34,dg0,dI0⟩ dfr
  have d1:=dfr 1 (by kernel_rfl);have d8:=dfr 8 (by kernel_rfl);have d9:=dfr 9 (by kernel_rfl);have d10:=dfr 10 (by kernel_rfl);have d25:=dfr 25 (by kernel_rfl);have d26:=dfr 26 (by kernel_rfl);have d27:=dfr 27 (by kernel_rfl);have d32:=dfr 32 (by kernel_rfl);have d33:=dfr 33 (by kernel_rfl)
  simp only[go_sem, ↓reduceIte,Nat.reduceEqDiff,Nat.reduceAdd,Nat.reduceSub,Nat.reduceLeDiff,reduceCtorEq,c27,cg0,c1,c8,c9,vK,vL,A8]at d1 d8 d9 d10 d25 d26 d27 d32 d33
  clear dfr
  have tl:=fM (cD cnt L i m) cnt
  by_cases hm:(m:Int)<(M.length:Int)
  ·have sD:∀{e:Env} {gg:Rows} {nx:Nat},(e 34=.int .i64 (IntKind.i64.wrap ((m:Int)+1)))->(gg ⟨221002001,σ2.next+1⟩=some ⟨true,1,du (cD cnt L i (m+1)) cnt⟩)->(σ2.next+1<nx)->∃m0,m0<(M.length)-m/\∃m:Nat,m0=(M.length)-m/\m<=(M.length)/\e 34=.int .i64 (m:Int)/\gg ⟨221002001,σ2.next+1⟩=some ⟨true,1,du (cD cnt L i m) cnt⟩/\(σ2.next+1<nx):=fun x1 x2 x3=>⟨_,by omega,m+1,rfl,by omega,(by rw[x1,aA (by omega)]),x2,x3⟩
   have yi:m<M.length:=by omega
   have uf:(M.map eN)[m]? =some (eN M[m]):=by simp[yi]
   have um:=L7 _ (List.getElem_mem yi)
   have Bg:(M[m]:Int)<(cnt:Int):=by omega
   have Bf:=eY (f:=cD cnt L i m) um
   have fc:(du (cD cnt L i m) cnt).set M[m] (eN i)=du (cD cnt L i (m+1)) cnt:=oE um (by
    have h1:=(qf _ um).1 (List.getElem_mem yi)
    rw[kE]
    simp only[]
    rw[if_neg (by omega),if_pos (by rw[List.take_succ_eq_append_getElem yi];exact List.mem_append_right _ (List.mem_singleton.2 rfl))]) fun x hx gI=>by
    rw[kE,kE]
    simp only[]
    rw[List.take_succ_eq_append_getElem yi]
    simp only[List.mem_append,List.mem_singleton,gI,or_false]
   rw[eN]at fc Bf
   generalize M[m]=xm at *
   (try((repeat(revert hN;revert N;apply Pn.out));refine wk (tw @d34 (tw @dg0 (tw @d1 (tw @d8 (tw @d9 (tw @d10 (tw @d25 (tw @d26 (tw @d27 (tw @d32 (tw @d33 (tw @hm (tw @hi (tw @uf (tw @A8 (tw @Bg (tw @Bf (tw @tl (tw @fc @eN.eq_1))))))))))))))))))) ?_;(repeat(refine Pn.mk ?_;intro N hN))))
   refine sD ?_ ?_ (by(try dsimp only);omega)
   all_goals simp only[go_sem, ↓reduceIte,Nat.reduceEqDiff,Nat.reduceAdd,Nat.reduceSub,Nat.reduceLeDiff,reduceCtorEq,d34,dg0,d1,d8,d9,d10,d25,d26,d27,d32,d33,fc]
  ·have kR:m=M.length:=by omega
   subst kR
   have pr:du (cD cnt L i M.length) cnt=du (cD cnt L (i+1) 0) cnt:=gJ fun x hx=>by
    rw[kE,List.take_length]
    simp only[cD,List.take_zero,List.not_mem_nil,if_false]
    have h1:=qf x hx
    by_cases h2:bx L x<i
    ·rw[if_pos h2,if_pos (by omega)]
    ·rw[if_neg h2]
     by_cases h3:x∈M
     ·rw[if_pos h3,if_pos (by have:=h1.1 h3;omega),h1.1 h3]
     ·rw[if_neg h3,if_neg fun h4=>h3 (h1.2 (by omega))]
   (try((repeat(revert hN;revert N;apply Pn.out));refine wk (tw @d34 (tw @dg0 (tw @d1 (tw @d8 (tw @d9 (tw @d10 (tw @d25 (tw @d26 (tw @d27 (tw @d32 (tw @d33 (tw @hm (tw @hi (tw @rz @A8)))))))))))))) ?_;(repeat(refine Pn.mk ?_;intro N hN))))
   refine gO ?_ ?_ (by(try dsimp only);omega)
   all_goals simp only[go_sem, ↓reduceIte,Nat.reduceEqDiff,Nat.reduceAdd,Nat.reduceSub,Nat.reduceLeDiff,reduceCtorEq,c27,cg0,c1,c8,c9,vK,vL,d34,dg0,d1,d8,d9,d10,d25,d26,d27,d32,d33,pr]
 have kQ:i=(leads cnt L).length:=by omega
 subst kQ
 have qg:du (cD cnt L (leads cnt L).length 0) cnt=du (bx L) cnt:=gJ fun x hx=>by rw[cD,if_pos (jM hL hx)]
 rw[qg]at cg0
 have tl:=fM (bx L) cnt
 have Qb:(bs.map aw).length=bs.length:=by simp
 (try((repeat(revert hN;revert N;apply Pn.out));refine wk (tw @c27 (tw @cg0 (tw @c1 (tw @c8 (tw @c9 (tw @vK (tw @vL (tw @hi (tw @rz @Qb))))))))) ?_;(repeat(refine Pn.mk ?_;intro N hN))))
 have Qe:σ2.next+1<st_c.next:=cI0
 refine aQ (fun n env st=>∃j:Nat,n=(bs.length)-j/\j<=(bs.length)/\env 46=.int .i64 (j:Int)/\st.get ⟨221002001,σ2.next+1⟩=some ⟨true,1,du (bx L) cnt⟩/\(st_c.next<=st.next/\((dh L (bs.take j)=[]/\env 14=.b4)∨∃p:Id,env 14=.own p 0 (dh L (bs.take j)).length/\st.get p=some ⟨true,3,(dh L (bs.take j)).map aw⟩/\st_c.next<=p.bQ/\p.bQ<st.next/\0<(dh L (bs.take j)).length))) (bs.length) ⟨0,by omega,by omega,sl (tw @c27 (tw @cg0 (tw @c1 (tw @c8 (tw @c9 (tw @vK (tw @vL @Qb))))))),sl (tw @c27 (tw @cg0 (tw @c1 (tw @c8 (tw @c9 (tw @vK (tw @vL @Qb))))))),⟨by(try dsimp only);omega,.inl ⟨rfl,by(simp only[go_sem, ↓reduceIte,Nat.reduceEqDiff,Nat.reduceAdd,Nat.reduceSub,Nat.reduceLeDiff,reduceCtorEq])⟩⟩⟩ ?_
 rintro n_f env_f st_f ⟨j,rfl,fle,f46,fg0,fI0⟩ ffr
 have f1:=ffr 1 (by kernel_rfl);have f8:=ffr 8 (by kernel_rfl);have f9:=ffr 9 (by kernel_rfl);have f44:=ffr 44 (by kernel_rfl);have f45:=ffr 45 (by kernel_rfl)
 simp only[go_sem, ↓reduceIte,Nat.reduceEqDiff,Nat.reduceAdd,Nat.reduceSub,Nat.reduceLeDiff,reduceCtorEq,c27,cg0,c1,c8,c9,vK,vL,Qb]at f1 f8 f9 f44 f45
 clear ffr
 obtain⟨Nu,fO⟩:=fI0
 have Hc:=dD (i:=⟨221002001,σ2.next+1⟩) (n:=st_f.next) (by(try dsimp only);omega)
 have Be:=(mb L (bs.take j)).1
 rw[List.length_take]at Be
 by_cases hj:(j:Int)<(bs.length:Int)
 ·have qt:∀{e:Env} {gg:Rows} {nx:Nat},(e 46=.int .i64 (IntKind.i64.wrap ((j:Int)+1)))->(gg ⟨221002001,σ2.next+1⟩=some ⟨true,1,du (bx L) cnt⟩)->(st_c.next<=nx/\((dh L (bs.take (j+1))=[]/\e 14=.b4)∨∃p:Id,e 14=.own p 0 (dh L (bs.take (j+1))).length/\gg p=some ⟨true,3,(dh L (bs.take (j+1))).map aw⟩/\st_c.next<=p.bQ/\p.bQ<nx/\0<(dh L (bs.take (j+1))).length))->∃m0,m0<(bs.length)-j/\∃j:Nat,m0=(bs.length)-j/\j<=(bs.length)/\e 46=.int .i64 (j:Int)/\gg ⟨221002001,σ2.next+1⟩=some ⟨true,1,du (bx L) cnt⟩/\(st_c.next<=nx/\((dh L (bs.take j)=[]/\e 14=.b4)∨∃p:Id,e 14=.own p 0 (dh L (bs.take j)).length/\gg p=some ⟨true,3,(dh L (bs.take j)).map aw⟩/\st_c.next<=p.bQ/\p.bQ<nx/\0<(dh L (bs.take j)).length)):=fun x1 x2 x3=>⟨_,by omega,j+1,rfl,by omega,(by rw[x1,aA (by omega)]),x2,x3⟩
  have mW:j<bs.length:=by omega
  have FI:(bs.map aw)[j]? =some (aw bs[j]):=by simp[mW]
  have KE:=hb _ (List.getElem_mem mW)
  have hs:=yM L (bs.take j) bs[j]
  rw[<-List.take_succ_eq_append_getElem mW]at hs
  generalize bs[j]=b at *
  have hA:=eY (f:=bx L) KE.1
  have hB:=eY (f:=bx L) KE.2
  have gq:(b.a:Int)<(cnt:Int):=by omega
  have fA:(b.b:Int)<(cnt:Int):=by omega
  rw[eN]at hA hB
  have e1:(dh L (bs.take j)).length+1<=16777216:=by omega
  have kR:((dh L (bs.take j)).map aw).length=(dh L (bs.take j)).length:=by simp
  by_cases he:bx L b.a=bx L b.b
  ·rw[if_pos he,List.append_nil]at hs
   have td:decide ((bx L b.a:Int)=(bx L b.b:Int))=true:=decide_eq_true (by rw[he])
   (try((repeat(revert hN;revert N;apply Pn.out));refine wk (tw @f46 (tw @fg0 (tw @f1 (tw @f8 (tw @f9 (tw @f44 (tw @f45 (tw @hj (tw @FI (tw @hA (tw @hB (tw @gq (tw @fA (tw @tl (tw @td (tw @Hc (tw @aw.eq_1 (tw @Bool.not_true @Bool.not_false)))))))))))))))))) ?_;(repeat(refine Pn.mk ?_;intro N hN))))
   refine qt ?_ ?_ (by(try dsimp only);exact⟨by omega,by
    rw[hs]
    rcases fO with⟨h1,h2⟩|⟨p,h1,h2,h3,h4,h5⟩
    ·exact .inl ⟨h1,sd @h2⟩
    ·have zk:=dD h4
     exact .inr ⟨p,sd @h1,sd (tw @h2 @zk),h3,by omega,h5⟩⟩)
   all_goals simp only[go_sem, ↓reduceIte,Nat.reduceEqDiff,Nat.reduceAdd,Nat.reduceSub,Nat.reduceLeDiff,reduceCtorEq,f46,fg0,f1,f8,f9,f44,f45,Hc]
  ·rw[if_neg he]at hs
   have td:decide ((bx L b.a:Int)=(bx L b.b:Int))=false:=decide_eq_false fun h=>he (by omega)
   rcases fO with⟨h1,f14⟩|⟨p,f14,fg,Ma,G1,hp3⟩
   ·rw[h1]at hs
    (try((repeat(revert hN;revert N;apply Pn.out));refine wk (tw @f46 (tw @fg0 (tw @f1 (tw @f8 (tw @f9 (tw @f44 (tw @f45 (tw @f14 (tw @hj (tw @FI (tw @hA (tw @hB (tw @gq (tw @fA (tw @tl (tw @td (tw @Hc (tw @aw.eq_1 (tw @Bool.not_true @Bool.not_false))))))))))))))))))) ?_;(repeat(refine Pn.mk ?_;intro N hN))))
    refine qt ?_ ?_ (by(try dsimp only);exact⟨by omega,.inr ⟨⟨221017015,st_f.next+1+1+1⟩,by rw[hs];simp only[go_sem, ↓reduceIte,Nat.reduceEqDiff,Nat.reduceAdd,Nat.reduceSub,Nat.reduceLeDiff,reduceCtorEq,List.nil_append,List.length_cons,List.length_nil],by rw[hs];simp only[go_sem, ↓reduceIte,Nat.reduceEqDiff,Nat.reduceAdd,Nat.reduceSub,Nat.reduceLeDiff,reduceCtorEq,aw,List.nil_append,List.map_cons,List.map_nil],by(try dsimp only);omega,by(try dsimp only);omega,by rw[hs];simp⟩⟩)
    all_goals simp only[go_sem, ↓reduceIte,Nat.reduceEqDiff,Nat.reduceAdd,Nat.reduceSub,Nat.reduceLeDiff,reduceCtorEq,f46,fg0,f1,f8,f9,f44,f45,Hc]
   ·have x1:=cr (a:=⟨221002001,σ2.next+1⟩) (b:=p) (by(try dsimp only);omega)
    have zk:=dD G1
    (try((repeat(revert hN;revert N;apply Pn.out));refine wk (tw @f46 (tw @fg0 (tw @f1 (tw @f8 (tw @f9 (tw @f44 (tw @f45 (tw @f14 (tw @fg (tw @hj (tw @FI (tw @hA (tw @hB (tw @gq (tw @fA (tw @tl (tw @td (tw @x1 (tw @zk (tw @Hc (tw @e1 (tw @kR (tw @aw.eq_1 (tw @Bool.not_true @Bool.not_false)))))))))))))))))))))))) ?_;(repeat(refine Pn.mk ?_;intro N hN))))
    refine qt ?_ ?_ (by(try dsimp only);exact⟨by omega,.inr ⟨⟨221017015,st_f.next+1+1+1⟩,by rw[hs,List.length_append];simp only[go_sem, ↓reduceIte,Nat.reduceEqDiff,Nat.reduceAdd,Nat.reduceSub,Nat.reduceLeDiff,reduceCtorEq,List.length_cons,List.length_nil],by rw[hs,List.map_append,List.map_cons,List.map_nil];simp only[go_sem, ↓reduceIte,Nat.reduceEqDiff,Nat.reduceAdd,Nat.reduceSub,Nat.reduceLeDiff,reduceCtorEq,aw],by(try dsimp only);omega,by(try dsimp only);omega,by rw[hs];simp⟩⟩)
    all_goals simp only[go_sem, ↓reduceIte,Nat.reduceEqDiff,Nat.reduceAdd,Nat.reduceSub,Nat.reduceLeDiff,reduceCtorEq,f46,fg0,f1,f8,f9,f44,f45,x1,Hc]
 ·have gM:j=bs.length:=by omega
  subst gM
  rw[List.take_length]at fO
  rcases fO with⟨h1,f14⟩|⟨p,f14,fg,Ma,G1,hp3⟩
  ·(try((repeat(revert hN;revert N;apply Pn.out));refine wk (tw @f46 (tw @fg0 (tw @f1 (tw @f8 (tw @f9 (tw @f44 (tw @f45 (tw @f14 (tw @hj @rz))))))))) ?_;(repeat(refine Pn.mk ?_;intro N hN))))
   refine gP (.inl rfl) (r1:=.int .i64 ((leads cnt L).length:Int)) (sd @Nat.zero_add) (by simp only[go_sem, ↓reduceIte,Nat.reduceEqDiff,Nat.reduceAdd,Nat.reduceSub,Nat.reduceLeDiff,reduceCtorEq];rfl) ?_
   simp only[eo,aX,bD,dQ,kc,h1,Kb,Option.map_some]
  ·(try((repeat(revert hN;revert N;apply Pn.out));refine wk (tw @f46 (tw @fg0 (tw @f1 (tw @f8 (tw @f9 (tw @f44 (tw @f45 (tw @f14 (tw @hj @rz))))))))) ?_;(repeat(refine Pn.mk ?_;intro N hN))))
   refine gP (.inl rfl) (r1:=.int .i64 ((leads cnt L).length:Int)) (sd @Nat.zero_add) (by simp only[go_sem, ↓reduceIte,Nat.reduceEqDiff,Nat.reduceAdd,Nat.reduceSub,Nat.reduceLeDiff,reduceCtorEq];rfl) ?_
   have h1:fZ st_f.get 5 (.own p 0 (dh L bs).length)=some (.sl ((dh L bs).map aw)):=fj (sz:=3) fg rfl fun b=>s7 _ 3 b
   simp only[eo,aX,bD,dQ,h1,yQ hp3,Option.map_some]
theorem vN (cnt:Nat) (wS:1<=cnt) (hn:cnt<=1048576) (t:Int):aj Tryz.prog 221 [.int .i64 cnt,.b4,.int .i64 t] (.gn [.int .i64 cnt,.b4]):=by
 refine aj.body eI rfl fun hl n0=>?_
 clear hl
 have h1:aj Tryz.prog 242 [.b4] .b4:=by
  refine aj.body eI rfl fun hl n0=>?_
  clear hl
  (try((repeat(revert hN;revert N;apply Pn.out));refine wk @Nat.zero_add ?_;(repeat(refine Pn.mk ?_;intro N hN))))
  exact uN (.inl rfl) (r0:=.b4) (sd @Nat.zero_add) (kc _ _)
 have h2:aj Tryz.prog 241 [.b4,.fn 243 [.cI [.int .i64 t]]] .b4:=by
  have EB:=(w5 [] t (by simp)).cut mixed (.b4 (.same _ .nil))
  refine aj.body eI rfl fun hl n0=>?_
  clear hl
  (try((repeat(revert hN;revert N;apply Pn.out));refine wk @Nat.zero_add ?_;(repeat(refine Pn.mk ?_;intro N hN))))
  refine .inl ⟨_,aj.x EB (by simp only[ah,aq,aS,cK,aO,List.all_cons,List.all_nil,AV.cell,Bool.and_true,if_true,Option.map_some]),?_⟩
  refine hN _ _ ?_
  clear hN N
  have hd:decide (jR (fun b:PB=>decide (b.s<t)) []= -1)=true:=rfl
  (try((repeat(revert hN;revert N;apply Pn.out));refine wk @hd ?_;(repeat(refine Pn.mk ?_;intro N hN))))
  exact uN (.inl rfl) (r0:=.b4) (sd @Nat.zero_add) (kc _ _)
 have Bb:=(ud cnt wS hn [] (fun b h=>by cases h) (by simp)).cut mixed (.same _ (.b4 .nil))
 (repeat(first|((repeat(revert hN;revert N;apply Pn.out));refine wk @Nat.zero_add ?_;(repeat(refine Pn.mk ?_;intro N hN)))|((try apply Or.inl);refine⟨_,aj.x (h1) (sd @Nat.zero_add),?_⟩;refine hN _ _ ?_;clear hN N)))
 refine .inl ⟨_,aj.x h2 ?_,?_⟩
 ·have:V.fz (dO (bj (fun _=>none) ⟨221000000,n0⟩ ⟨true,1,[[.int .i64 t]]⟩)) 5 (.ptr ⟨221000000,n0⟩ 0 0)=some (.cI [.int .i64 t]):=ua (sz:=1) (rows:=[[.int .i64 t]]) (by simp[dO,bj]) rfl (by simp only[List.drop_zero,ah,aq,aI,Option.map_some])
  simp only[ah,aq,aS,cK,this,List.all_cons,List.all_nil,AV.cell,Bool.and_true,if_true,Option.map_some]
 refine hN _ _ ?_
 clear hN N
 have fA:dX ([]:List PB)=id:=rfl
 rw[fA]at Bb
 have hL:ji id:=fA▸su ([]:List PB)
 have Nw:(leads cnt id).length=cnt:=by rw[leads,List.filter_eq_self.2 (fun a _=>by simp)];simp
 generalize (id:Nat->Nat)=L at *
 have rz:((fb cnt L).map zg).length=(leads cnt L).length:=by simp[fb]
 have Qo:=ju cnt L
 have jk:(0:Int)<=(cnt:Int):=by omega
 have oR:(cnt:Int)<=((16777216:Nat):Int):=by omega
 have gr:List.replicate cnt [AV.int .i64 0]=du (cD cnt L 0 0) cnt:=by rw[u9,nL]
 (repeat(first|((repeat(revert hN;revert N;apply Pn.out));refine wk (tw @jk (tw @oR (tw @Int.le_refl (tw @rz @gr)))) ?_;(repeat(refine Pn.mk ?_;intro N hN)))|((try apply Or.inl);refine⟨_,aj.x (Bb) (sd (tw @jk (tw @oR (tw @Int.le_refl (tw @rz @gr))))),?_⟩;refine hN _ _ ?_;clear hN N)))
 refine aQ (fun n env st=>∃i:Nat,n=((leads cnt L).length)-i/\i<=((leads cnt L).length)/\env 27=.int .i64 (i:Int)/\st.get ⟨221002001,n0+1+1⟩=some ⟨true,1,du (cD cnt L i 0) cnt⟩/\(n0+1+1<st.next)) ((leads cnt L).length) ⟨0,by omega,by omega,sl (tw @gr @rz),sl (tw @gr @rz),(by(try dsimp only);omega)⟩ ?_
 rintro n_c env_c st_c ⟨i,rfl,cle,c27,cg0,cI0⟩ cfr
 have c1:=cfr 1 (by kernel_rfl);have c8:=cfr 8 (by kernel_rfl);have c9:=cfr 9 (by kernel_rfl);have vK:=cfr 25 (by kernel_rfl);have vL:=cfr 26 (by kernel_rfl)
 simp only[go_sem, ↓reduceIte,Nat.reduceEqDiff,Nat.reduceAdd,Nat.reduceSub,Nat.reduceLeDiff,reduceCtorEq,gr,rz]at c1 c8 c9 vK vL
 clear cfr
 by_cases hi:(i:Int)<((leads cnt L).length:Int)
 ·have gO:∀{e:Env} {gg:Rows} {nx:Nat},(e 27=.int .i64 (IntKind.i64.wrap ((i:Int)+1)))->(gg ⟨221002001,n0+1+1⟩=some ⟨true,1,du (cD cnt L (i+1) 0) cnt⟩)->(n0+1+1<nx)->∃m0,m0<((leads cnt L).length)-i/\∃i:Nat,m0=((leads cnt L).length)-i/\i<=((leads cnt L).length)/\e 27=.int .i64 (i:Int)/\gg ⟨221002001,n0+1+1⟩=some ⟨true,1,du (cD cnt L i 0) cnt⟩/\(n0+1+1<nx):=fun x1 x2 x3=>⟨_,by omega,i+1,rfl,by omega,(by rw[x1,aA (by omega)]),x2,x3⟩
  have e9:i<(leads cnt L).length:=by omega
  have jJ:((fb cnt L).map zg)[i]? =some (zg (members cnt L (leads cnt L)[i])):=by simp[fb,e9]
  have te:(leads cnt L).getD i 0=(leads cnt L)[i]:=by simp[List.getD_eq_getElem?_getD,e9]
  have kE:∀m,cD cnt L i m=fun x=>if bx L x<i then bx L x else if x∈(members cnt L (leads cnt L)[i]).take m then i else 0:=fun m=>by unfold cD;rw[te]
  have qf:=fun x (hx:x<cnt)=>rK hL (n:=cnt) (k:=x) (i:=i) hx e9
  have oe:(members cnt L (leads cnt L)[i]).Nodup:=List.nodup_range.filter _
  have L7:∀x∈members cnt L (leads cnt L)[i],x<cnt:=fun x hx=>(kY.1 hx).1
  have hMc:(members cnt L (leads cnt L)[i]).length<=cnt:=by
   have:=List.length_filter_le (fun k=>L k==(leads cnt L)[i]) (List.range cnt)
   simpa[members]using this
  generalize members cnt L (leads cnt L)[i]=M at *
  have A8:(M.map eN).length=M.length:=by simp
  (try((repeat(revert hN;revert N;apply Pn.out));refine wk (tw @c27 (tw @cg0 (tw @c1 (tw @c8 (tw @c9 (tw @vK (tw @vL (tw @hi (tw @rz (tw @jJ (tw @zg.eq_1 @A8))))))))))) ?_;(repeat(refine Pn.mk ?_;intro N hN))))
  refine aQ (fun n env st=>∃m:Nat,n=(M.length)-m/\m<=(M.length)/\env 34=.int .i64 (m:Int)/\st.get ⟨221002001,n0+1+1⟩=some ⟨true,1,du (cD cnt L i m) cnt⟩/\(n0+1+1<st.next)) (M.length) ⟨0,by omega,by omega,sl (tw @c27 (tw @cg0 (tw @c1 (tw @c8 (tw @c9 (tw @vK (tw @vL @A8))))))),sl (tw @c27 (tw @cg0 (tw @c1 (tw @c8 (tw @c9 (tw @vK (tw @vL @A8))))))),(by(try dsimp only);omega)⟩ ?_
  rintro n_d env_d st_d ⟨m,rfl,dle,d34,dg0,dI0⟩ dfr
  have d1:=dfr 1 (by kernel_rfl);have d8:=dfr 8 (by kernel_rfl);have d9:=dfr 9 (by kernel_rfl);have d10:=dfr 10 (by kernel_rfl);have d25:=dfr 25 (by kernel_rfl);have d26:=dfr 26 (by kernel_rfl);have d27:=dfr 27 (by kernel_rfl);have d32:=dfr 32 (by kernel_rfl);have d33:=dfr 33 (by kernel_rfl)
  simp only[go_sem, ↓reduceIte,Nat.reduceEqDiff,Nat.reduceAdd,Nat.reduceSub,Nat.reduceLeDiff,reduceCtorEq,c27,cg0,c1,c8,c9,vK,vL,A8]at d1 d8 d9 d10 d25 d26 d27 d32 d33
  clear dfr
  have tl:=fM (cD cnt L i m) cnt
  by_cases hm:(m:Int)<(M.length:Int)
  ·have sD:∀{e:Env} {gg:Rows} {nx:Nat},(e 34=.int .i64 (IntKind.i64.wrap ((m:Int)+1)))->(gg ⟨221002001,n0+1+1⟩=some ⟨true,1,du (cD cnt L i (m+1)) cnt⟩)->(n0+1+1<nx)->∃m0,m0<(M.length)-m/\∃m:Nat,m0=(M.length)-m/\m<=(M.length)/\e 34=.int .i64 (m:Int)/\gg ⟨221002001,n0+1+1⟩=some ⟨true,1,du (cD cnt L i m) cnt⟩/\(n0+1+1<nx):=fun x1 x2 x3=>⟨_,by omega,m+1,rfl,by omega,(by rw[x1,aA (by omega)]),x2,x3⟩
   have yi:m<M.length:=by omega
   have uf:(M.map eN)[m]? =some (eN M[m]):=by simp[yi]
   have um:=L7 _ (List.getElem_mem yi)
   have Bg:(M[m]:Int)<(cnt:Int):=by omega
   have Bf:=eY (f:=cD cnt L i m) um
   have fc:(du (cD cnt L i m) cnt).set M[m] (eN i)=du (cD cnt L i (m+1)) cnt:=oE um (by
    have h1:=(qf _ um).1 (List.getElem_mem yi)
    rw[kE]
    simp only[]
    rw[if_neg (by omega),if_pos (by rw[List.take_succ_eq_append_getElem yi];exact List.mem_append_right _ (List.mem_singleton.2 rfl))]) fun x hx gI=>by
    rw[kE,kE]
    simp only[]
    rw[List.take_succ_eq_append_getElem yi]
    simp only[List.mem_append,List.mem_singleton,gI,or_false]
   rw[eN]at fc Bf
   generalize M[m]=xm at *
   (try((repeat(revert hN;revert N;apply Pn.out));refine wk (tw @d34 (tw @dg0 (tw @d1 (tw @d8 (tw @d9 (tw @d10 (tw @d25 (tw @d26 (tw @d27 (tw @d32 (tw @d33 (tw @hm (tw @hi (tw @uf (tw @A8 (tw @Bg (tw @Bf (tw @tl (tw @fc @eN.eq_1))))))))))))))))))) ?_;(repeat(refine Pn.mk ?_;intro N hN))))
   refine sD ?_ ?_ (by(try dsimp only);omega)
   all_goals simp only[go_sem, ↓reduceIte,Nat.reduceEqDiff,Nat.reduceAdd,Nat.reduceSub,Nat.reduceLeDiff,reduceCtorEq,d34,dg0,d1,d8,d9,d10,d25,d26,d27,d32,d33,fc]
  ·have kR:m=M.length:=by omega
   subst kR
   have pr:du (cD cnt L i M.length) cnt=du (cD cnt L (i+1) 0) cnt:=gJ fun x hx=>by
    rw[kE,List.take_length]
    simp only[cD,List.take_zero,List.not_mem_nil,if_false]
    have h1:=qf x hx
    by_cases h2:bx L x<i
    ·rw[if_pos h2,if_pos (by omega)]
    ·rw[if_neg h2]
     by_cases h3:x∈M
     ·rw[if_pos h3,if_pos (by have:=h1.1 h3;omega),h1.1 h3]
     ·rw[if_neg h3,if_neg fun h4=>h3 (h1.2 (by omega))]
   (try((repeat(revert hN;revert N;apply Pn.out));refine wk (tw @d34 (tw @dg0 (tw @d1 (tw @d8 (tw @d9 (tw @d10 (tw @d25 (tw @d26 (tw @d27 (tw @d32 (tw @d33 (tw @hm (tw @hi (tw @rz @A8)))))))))))))) ?_;(repeat(refine Pn.mk ?_;intro N hN))))
   refine gO ?_ ?_ (by(try dsimp only);omega)
   all_goals simp only[go_sem, ↓reduceIte,Nat.reduceEqDiff,Nat.reduceAdd,Nat.reduceSub,Nat.reduceLeDiff,reduceCtorEq,c27,cg0,c1,c8,c9,vK,vL,d34,dg0,d1,d8,d9,d10,d25,d26,d27,d32,d33,pr]
 have kQ:i=(leads cnt L).length:=by omega
 subst kQ
 have qg:du (cD cnt L (leads cnt L).length 0) cnt=du (bx L) cnt:=gJ fun x hx=>by rw[cD,if_pos (jM hL hx)]
 rw[qg]at cg0
 have tl:=fM (bx L) cnt
 (try((repeat(revert hN;revert N;apply Pn.out));refine wk (tw @c27 (tw @cg0 (tw @c1 (tw @c8 (tw @c9 (tw @vK (tw @vL (tw @hi @rz)))))))) ?_;(repeat(refine Pn.mk ?_;intro N hN))))
 refine aQ (fun n env st=>∃j:Nat,n=(0)-j/\j<=(0)/\env 46=.int .i64 (j:Int)/\env 14=.b4) (0) ⟨0,by omega,by omega,sl (tw @c27 (tw @cg0 (tw @c1 (tw @c8 (tw @c9 (tw @vK @vL)))))),sl (tw @c27 (tw @cg0 (tw @c1 (tw @c8 (tw @c9 (tw @vK @vL))))))⟩ ?_
 rintro n_f env_f st_f ⟨j,rfl,fle,f46,f14⟩ ffr
 have f8:=ffr 8 (by kernel_rfl);have f44:=ffr 44 (by kernel_rfl);have f45:=ffr 45 (by kernel_rfl)
 simp only[go_sem, ↓reduceIte,Nat.reduceEqDiff,Nat.reduceAdd,Nat.reduceSub,Nat.reduceLeDiff,reduceCtorEq,c27,cg0,c1,c8,c9,vK,vL]at f8 f44 f45
 clear ffr
 have hj:¬(j:Int)<((0:Nat):Int):=by omega
 (try((repeat(revert hN;revert N;apply Pn.out));refine wk (tw @f46 (tw @f14 (tw @f8 (tw @f44 (tw @f45 (tw @hj @rz)))))) ?_;(repeat(refine Pn.mk ?_;intro N hN))))
 refine gP (.inl rfl) (r1:=.int .i64 ((leads cnt L).length:Int)) (r2:=.b4) (sd @Nat.zero_add) (sd @Nat.zero_add) ?_
 simp only[eo,aX,bD,dQ,kc,Nw,Option.map_some]
theorem xX (cnt:Nat) (wS:1<=cnt) (hn:cnt<=1048576) (bs:List PB) (hb:∀b∈bs,b.a<cnt/\b.b<cnt) (oQ:bs.length<=1048576) (t:Int):aj Tryz.prog 221 [.int .i64 cnt,yP bs,.int .i64 t] (.gn [.int .i64 (leads cnt (dX (aF t bs))).length,yP (dh (dX (aF t bs)) bs)]):=by
 cases bs with
 |nil=>
  have h:=vN cnt wS hn t
  have Nw:(leads cnt (dX (aF t []))).length=cnt:=by
   show(leads cnt id).length=cnt
   rw[leads,List.filter_eq_self.2 (fun a _=>by simp)];simp
  rw[Nw]
  exact h
 |cons b r=>
  rw[yQ (by simp)]
  exact vO cnt wS hn (b::r) hb (by simp) oQ t
end Go.Proofs.YtgoelphibofcmaaGreat.V

namespace Go.Proofs.YtgoelphibofcmaaGreat.V
open Go.RowKit
attribute [local irreducible] dx wpOps gp Call
attribute [local go_sem] aH fC eG fW fV cF upd cj K.av cJ AV.cells AV.cell rowOf rowsOf part ld rowAt bj bY dz eb gT bE cZ er fS eU dp eh cX cW dR dS bH aW cN bG cQ cP ee ei ef cL bP cY ec bF aL cU cw gS bl cG bI aP dd aU dB AV.undef bw bB dV ea dI dG cE ep ev cq ek ej cR cV List.getD_cons_zero List.getD_cons_succ List.getD_nil List.all_cons List.all_nil Bool.and_true Bool.true_and Bool.and_self Bool.not_true Bool.not_false Option.map_some Option.map_none Option.bind_some Option.bind_none List.length_cons List.length_nil List.take_succ_cons List.take_zero List.take_nil List.drop_succ_cons List.drop_zero List.drop_nil List.head?_cons List.map_cons List.map_nil List.getElem?_cons_zero List.getElem?_cons_succ List.cons_append List.nil_append List.append_nil List.length_map List.set_cons_zero List.set_cons_succ Nat.reduceMul eq_self Int.toNat_natCast Int.natCast_nonneg and_self true_and and_true decide_true decide_false Bool.false_eq_true Nat.zero_add Nat.add_zero List.contains_cons List.contains_nil Bool.or_false Bool.false_or beq_self_eq_true Nat.reduceBEq ne_eq not_true_eq_false not_false_eq_true Id.mk.injEq false_and and_false Nat.reduceLT Int.reduceLE Int.reduceLT Int.reduceToNat Int.reduceNeg Int.reduceAdd Nat.le_refl List.length_append beq_true beq_false Bool.not_eq_eq_eq_not or_false false_or dO ah aq aI aZ bt ck aS bf aO aY cK bK
attribute [local go_sem] DS
section
attribute [-go_sem] dz
theorem JT (n:Nat) (hn:n<=1048576):aj Tryz.prog 277 [.int .u64 1,.int .u64 n] (.gn [.int .u64 0,.int .u64 n]):=by
 refine aj.body eI rfl fun hl n0=>?_
 clear hl
 have b1:(BitVec.ofInt 64 (n:Int)&&& BitVec.ofInt 64 4294967295).toNat=n:=by
  rw[BitVec.toNat_and]
  have e1:(BitVec.ofInt 64 (n:Int)).toNat=n:=by rw[BitVec.toNat_ofInt];omega
  have e2:(BitVec.ofInt 64 4294967295).toNat=2 ^ 32-1:=by decide
  rw[e1,e2]
  exact Nat.and_two_pow_sub_one_of_lt_two_pow (by omega)
 have zn:IntKind.u64.wrap (n:Int)=n:=by rw[IntKind.wrap_u64];omega
 have i1:dz .and .u64 (n:Int) 4294967295=some (.int .u64 n):=by
  show some (AV.int .u64 (IntKind.u64.wrap (((BitVec.ofInt 64 (n:Int)&&& BitVec.ofInt 64 4294967295).toNat:Nat):Int)))= _
  rw[b1,zn]
 have i2:dz .and .u64 1 4294967295=some (.int .u64 1):=rfl
 have i3:dz .and .u64 0 4294967295=some (.int .u64 0):=rfl
 have i4:dz .mul .u64 1 (n:Int)=some (.int .u64 n):=by simp only[dz,Int.one_mul,zn]
 have i5:dz .mul .u64 0 (n:Int)=some (.int .u64 0):=by simp only[dz,Int.zero_mul];rfl
 have i6:dz .mul .u64 1 0=some (.int .u64 0):=rfl
 have i7:dz .mul .u64 0 0=some (.int .u64 0):=rfl
 have i8:dz .add .u64 0 0=some (.int .u64 0):=rfl
 have a3:Int.fdiv 1 (2 ^ min 32 64)=0:=by decide
 have a4:Int.fdiv (n:Int) (2 ^ min 32 64)=0:=by
  rw[Int.fdiv_eq_ediv_of_nonneg _ (by decide)]
  have h32:(2:Int) ^ min 32 64=4294967296:=by decide
  exact Int.ediv_eq_zero_of_lt (by omega) (by omega)
 have z1:Int.fdiv 0 (2 ^ min 32 64)=0:=by decide
 (try((repeat(revert hN;revert N;apply Pn.out));refine wk (tw @i1 (tw @i2 (tw @i3 (tw @i4 (tw @i5 (tw @i6 (tw @i7 (tw @i8 (tw @a3 (tw @a4 @z1)))))))))) ?_;(repeat(refine Pn.mk ?_;intro N hN))))
 refine gP (.inl rfl) (r1:=.int .u64 0) (r2:=.int .u64 n) (sd @Nat.zero_add) (sd @Nat.zero_add) ?_
 simp only[eo,aX,bD,dQ,Option.map_some]
end
theorem Pj (n:Nat) (hn:n<=1048576):aj Tryz.prog 275 [.int .u64 1,.int .u64 n] (.gn [.int .u64 0,.int .u64 n]):=by
 refine aj.body eI rfl fun hl n0=>?_
 clear hl
 have h:=JT n hn
 (repeat(first|((repeat(revert hN;revert N;apply Pn.out));refine wk @Nat.zero_add ?_;(repeat(refine Pn.mk ?_;intro N hN)))|((try apply Or.inl);refine⟨_,aj.x (h) (sd @Nat.zero_add),?_⟩;refine hN _ _ ?_;clear hN N)))
 refine gP (.inl rfl) (r1:=.int .u64 0) (r2:=.int .u64 n) (sd @Nat.zero_add) (sd @Nat.zero_add) ?_
 simp only[eo,aX,bD,dQ,Option.map_some]
theorem HS (cnt:Nat) (wS:1<=cnt) (hn:cnt<=1048576) (v:Int) (x:Id) (σ:ar) (hx:σ.get x=some ⟨true,1,[[.int .i64 v]]⟩) (Mp:x.bQ<σ.next):
  Call Tryz.prog 271 [.own x 0 1,.int .i64 cnt] σ fun r σ'=>∃o:Id,r=.own o 0 cnt/\σ'.get o=some ⟨true,1,List.replicate cnt [.int .i64 v]⟩/\σ.next<=o.bQ/\o.bQ<σ'.next/\∀i:Id,i.bQ<σ.next->σ'.get i=σ.get i:=by
 refine iF eI rfl fun hl=>?_
 clear hl
 have h:=Pj cnt hn
 have w1:IntKind.u64.wrap (cnt:Int)=cnt:=by rw[IntKind.wrap_u64];omega
 have w2:IntKind.i64.wrap (cnt:Int)=cnt:=Ix (by omega)
 have w0:IntKind.u64.wrap ((1:Nat):Int)=1:=by decide
 have g1:¬(cnt:Int)<0:=by omega
 have g2:¬(9223372036854775807:Int)<cnt:=by omega
 have jk:(0:Int)<=(cnt:Int):=by omega
 have oR:(cnt:Int)<=((16777216:Nat):Int):=by omega
 have NF:=dD Mp
 have tf:(List.replicate cnt [AV.int .i64 0]).length=cnt:=List.length_replicate
 have m1:min 1 cnt=1:=by omega
 (repeat(first|((repeat(revert hN;revert N;apply Pn.out));refine wk (tw @w0 (tw @w1 (tw @w2 (tw @g1 (tw @g2 (tw @jk (tw @oR (tw @Int.le_refl (tw @Nat.le_refl (tw @hx (tw @NF (tw @tf @m1)))))))))))) ?_;(repeat(refine Pn.mk ?_;intro N hN)))|((try apply Or.inl);refine⟨_,aj.x (h) (sd (tw @w0 (tw @w1 (tw @w2 (tw @g1 (tw @g2 (tw @jk (tw @oR (tw @Int.le_refl (tw @Nat.le_refl (tw @hx (tw @NF (tw @tf @m1))))))))))))),?_⟩;refine hN _ _ ?_;clear hN N)))
 refine aQ (fun m env st=>∃k:Nat,m=cnt-k/\1<=k/\k<=cnt/\env 8=.int .i64 (k:Int)/\st.get ⟨271006002,σ.next+1+1+1+1⟩=some ⟨true,1,List.replicate k [.int .i64 v]++List.replicate (cnt-k) [.int .i64 0]⟩/\σ.next+4<st.next/\∀i:Id,i.bQ<σ.next->st.get i=σ.get i) (cnt-1) ⟨1,rfl,Nat.le_refl _,wS,by(simp only[go_sem, ↓reduceIte,Nat.reduceEqDiff,Nat.reduceAdd,Nat.reduceSub,Nat.reduceLeDiff,reduceCtorEq,m1])<;>rfl,?_,by(try dsimp only);omega,fun i hi=>?_⟩ ?_
 ·simp only[go_sem, ↓reduceIte,Nat.reduceEqDiff,Nat.reduceAdd,Nat.reduceSub,Nat.reduceLeDiff,reduceCtorEq]
  rw[List.drop_replicate];rfl
 ·have B6:=dD hi
  simp only[go_sem, ↓reduceIte,Nat.reduceEqDiff,Nat.reduceAdd,Nat.reduceSub,Nat.reduceLeDiff,reduceCtorEq,B6]
 rintro m env_b st_b ⟨k,rfl,vz,ug,b8,bg,bn,fE⟩ bkp
 have b7:=bkp 7 (by kernel_rfl)
 simp only[go_sem, ↓reduceIte,Nat.reduceEqDiff,Nat.reduceAdd,Nat.reduceSub,Nat.reduceLeDiff,reduceCtorEq]at b7
 clear bkp
 have OQ:(List.replicate k [AV.int .i64 v]++List.replicate (cnt-k) [AV.int .i64 0]).length=cnt:=by simp;omega
 by_cases hk:(k:Int)<(cnt:Int)
 ·have fG:k<cnt:=by omega
  have vw:(k:Int)<=(cnt:Int):=by omega
  have hw:IntKind.i64.wrap ((k:Int)+((min k (cnt-k):Nat):Int))=((k+min k (cnt-k):Nat):Int):=by rw[bW (by omega)];omega
  have mQ:List.take k (List.replicate k [AV.int .i64 v]++List.replicate (cnt-k) [AV.int .i64 0])=List.replicate k [AV.int .i64 v]:=List.take_left' (by simp)
  have dy:(List.replicate k [AV.int .i64 v]).all (fun c=>c.length==1&&c.all AV.cell)=true:=List.all_eq_true.2 fun c hc=>by rw[List.eq_of_mem_replicate hc];rfl
  have hlr:(List.replicate k [AV.int .i64 v]).length=k:=List.length_replicate
  have Sj:k+(cnt-k)=cnt:=by omega
  have uj:List.replicate k [AV.int .i64 v]++List.take (min k (cnt-k)) (List.replicate k [AV.int .i64 v])++List.drop (k+min k (cnt-k)) (List.replicate k [AV.int .i64 v]++List.replicate (cnt-k) [AV.int .i64 0])=List.replicate (k+min k (cnt-k)) [AV.int .i64 v]++List.replicate (cnt-(k+min k (cnt-k))) [AV.int .i64 0]:=by
   rw[List.take_replicate,List.drop_append,List.drop_of_length_le (by simp),List.nil_append,hlr,List.drop_replicate,List.replicate_append_replicate]
   congr 2
   ·omega
   ·omega
  (try((repeat(revert hN;revert N;apply Pn.out));refine wk (tw @b7 (tw @b8 (tw @bg (tw @OQ (tw @hk (tw @vw (tw @ug (tw @hw (tw @fG (tw @Nat.sub_zero (tw @mQ (tw @dy (tw @hlr (tw @Sj (tw @Nat.le_refl @uj))))))))))))))) ?_;(repeat(refine Pn.mk ?_;intro N hN))))
  refine⟨_,?_,k+min k (cnt-k),rfl,by omega,by omega,sd @hw,sd @uj,by(try dsimp only);omega,fun i hi=>?_⟩
  ·omega
  ·have B6:=dD hi
   have:=fE i hi
   simp only[go_sem, ↓reduceIte,Nat.reduceEqDiff,Nat.reduceAdd,Nat.reduceSub,Nat.reduceLeDiff,reduceCtorEq,B6,this]
 ·have lq:k=cnt:=by omega
  subst lq
  (try((repeat(revert hN;revert N;apply Pn.out));refine wk (tw @b7 (tw @b8 (tw @bg (tw @OQ @hk)))) ?_;(repeat(refine Pn.mk ?_;intro N hN))))
  refine iE (.inl rfl) (vs:=[.own ⟨271006002,σ.next+1+1+1+1⟩ 0 k]) (sd @Nat.zero_add) ⟨⟨271006002,σ.next+1+1+1+1⟩,rfl,by simp only[go_sem, ↓reduceIte,Nat.reduceEqDiff,Nat.reduceAdd,Nat.reduceSub,Nat.reduceLeDiff,reduceCtorEq,bg];simp,by(try dsimp only);omega,by(try dsimp only);omega,fun i hi=>fE i hi⟩
end Go.Proofs.YtgoelphibofcmaaGreat.V

namespace Go.Proofs.YtgoelphibofcmaaGreat.V
open Go.RowKit
attribute [local irreducible] dx wpOps gp Call
attribute [local go_sem] aH fC eG fW fV cF upd cj K.av cJ AV.cells AV.cell rowOf rowsOf part ld rowAt bj bY dz eb gT bE cZ er fS eU dp eh cX cW dR dS bH aW cN bG cQ cP ee ei ef cL bP cY ec bF aL cU cw gS bl cG bI aP dd aU dB AV.undef bw bB dV ea dI dG cE ep ev cq ek ej cR cV List.getD_cons_zero List.getD_cons_succ List.getD_nil List.all_cons List.all_nil Bool.and_true Bool.true_and Bool.and_self Bool.not_true Bool.not_false Option.map_some Option.map_none Option.bind_some Option.bind_none List.length_cons List.length_nil List.take_succ_cons List.take_zero List.take_nil List.drop_succ_cons List.drop_zero List.drop_nil List.head?_cons List.map_cons List.map_nil List.getElem?_cons_zero List.getElem?_cons_succ List.cons_append List.nil_append List.append_nil List.length_map List.set_cons_zero List.set_cons_succ Nat.reduceMul eq_self Int.toNat_natCast Int.natCast_nonneg and_self true_and and_true decide_true decide_false Bool.false_eq_true Nat.zero_add Nat.add_zero List.contains_cons List.contains_nil Bool.or_false Bool.false_or beq_self_eq_true Nat.reduceBEq ne_eq not_true_eq_false not_false_eq_true Id.mk.injEq false_and and_false Nat.reduceLT Int.reduceLE Int.reduceLT Int.reduceToNat Int.reduceNeg Int.reduceAdd Nat.le_refl List.length_append beq_true beq_false Bool.not_eq_eq_eq_not or_false false_or dO ah aq aI aZ bt ck aS bf aO aY cK bK
def kz (R:Nat->Id) (n k:Nat):List (List AV):=(List.range k).map fun i=>[.own (R i) 0 n]
theorem jO (R:Nat->Id) (n k:Nat):(kz R n k).length=k:=by simp[kz]
theorem qH {R:Nat->Id} {n k i:Nat} (h:i<k):(kz R n k)[i]? =some [.own (R i) 0 n]:=by simp[kz,h]
theorem rU (R:Nat->Id) (n k:Nat):kz R n (k+1)=kz R n k++[[.own (R k) 0 n]]:=by simp[kz,List.range_succ]
def wi (c:Nat->Nat->Int) (n:Nat):List (List AV):=(List.range n).map fun i=>[.sl (dH (c i) n)]
theorem AU {c:Nat->Nat->Int} {n i:Nat} (h:i<n):(wi c n)[i]? =some [.sl (dH (c i) n)]:=by simp[wi,h]
theorem u7 (c:Nat->Nat->Int) (n:Nat):(wi c n).length=n:=by simp[wi]
structure D5 (X o1 o2:Id) (R1 R2:Nat->Id) (n nb:Nat):Prop where
 sx:X.site=245001001
 s1:o1.site=245004008
 s2:o2.site=245005008
 QJ:∀i,i<n->(R1 i).site=245004006
 KY:∀i,i<n->(R2 i).site=245005006
 i1:∀i j,i<n->j<n->R1 i=R1 j->i=j
 i2:∀i j,i<n->j<n->R2 i=R2 j->i=j
 vx:X.bQ<nb
 v1:o1.bQ<nb
 v2:o2.bQ<nb
 QL:∀i,i<n->(R1 i).bQ<nb
 NO:∀i,i<n->(R2 i).bQ<nb
structure mC (g:Rows) (X o1 o2:Id) (R1 R2:Nat->Id) (n:Nat) (c f:Nat->Nat->Int):Prop where
 x:g X=some ⟨true,2,[[.own o1 0 n,.own o2 0 n]]⟩
 t1:g o1=some ⟨true,1,kz R1 n n⟩
 t2:g o2=some ⟨true,1,kz R2 n n⟩
 r1:∀i,i<n->g (R1 i)=some ⟨true,1,dH (c i) n⟩
 r2:∀i,i<n->g (R2 i)=some ⟨true,1,dH (f i) n⟩
theorem mC.frame {g g':Rows} {X o1 o2:Id} {R1 R2:Nat->Id} {n nb:Nat} {c f:Nat->Nat->Int} (I:D5 X o1 o2 R1 R2 n nb) (h:mC g X o1 o2 R1 R2 n c f) (hf:∀i:Id,i.bQ<nb->g' i=g i):mC g' X o1 o2 R1 R2 n c f:=
 ⟨(hf _ I.vx).trans h.x,(hf _ I.v1).trans h.t1,(hf _ I.v2).trans h.t2,fun i hi=>(hf _ (I.QL i hi)).trans (h.r1 i hi),fun i hi=>(hf _ (I.NO i hi)).trans (h.r2 i hi)⟩
theorem nw {f:Nat->Nat->Int} {a b:Nat} {d:Int} {n:Nat} (hb:b<n):(dH (f a) n).set b (br (f a b+d))=dH (bump f a b d a) n:=kA hb (by simp[bump]) fun i _ hi=>by simp[bump,hi]
theorem jF {f:Nat->Nat->Int} {a b i:Nat} {d:Int} (h:i≠a):bump f a b d i=f i:=by funext v;simp[bump,h]
theorem mC.add {g g':Rows} {X o1 o2:Id} {R1 R2:Nat->Id} {n nb:Nat} {c f:Nat->Nat->Int} (I:D5 X o1 o2 R1 R2 n nb) (h:mC g X o1 o2 R1 R2 n c f) (b:PB) (ha:b.a<n) (hb:b.b<n) (hA:b.a≠b.b->g' (R1 b.a)=some ⟨true,1,dH (bump c b.a b.b b.s b.a) n⟩) (hB:g' (R1 b.b)=some ⟨true,1,dH (mH c b b.b) n⟩) (hf:∀i:Id,i.bQ<nb->(i=R1 b.a)=False->(i=R1 b.b)=False->g' i=g i):mC g' X o1 o2 R1 R2 n (mH c b) f:=by
 have ne:∀{i:Id} {s:Nat},i.site=s->(s==245004006)=false->∀a,a<n->(i=R1 a)=False:=fun {i s} hi hs a ha=>by
  simp only[eq_iff_iff,iff_false]
  rintro rfl
  rw[I.QJ a ha]at hi
  subst hi
  simp at hs
 refine⟨(hf _ I.vx (ne I.sx (by decide) _ ha) (ne I.sx (by decide) _ hb)).trans h.x,(hf _ I.v1 (ne I.s1 (by decide) _ ha) (ne I.s1 (by decide) _ hb)).trans h.t1,(hf _ I.v2 (ne I.s2 (by decide) _ ha) (ne I.s2 (by decide) _ hb)).trans h.t2,fun i hi=>?_,fun i hi=>(hf _ (I.NO i hi) (ne (I.KY i hi) (by decide) _ ha) (ne (I.KY i hi) (by decide) _ hb)).trans (h.r2 i hi)⟩
 by_cases IJ:i=b.b
 ·subst IJ;exact hB
 ·by_cases L3:i=b.a
  ·subst L3
   rw[hA IJ,mH,jF IJ]
  ·rw[mH,jF IJ,jF L3,hf _ (I.QL i hi) (by simp only[eq_iff_iff,iff_false];exact fun he=>L3 (I.i1 i _ hi ha he)) (by simp only[eq_iff_iff,iff_false];exact fun he=>IJ (I.i1 i _ hi hb he))]
   exact h.r1 i hi
def kO (n:Nat) (c f:Nat->Nat->Int):List AV:=[.sl (wi c n),.sl (wi f n)]
theorem DQ {g:Rows} {R:Nat->Id} {n k:Nat} {c:Nat->Nat->Int} (h:∀i,i<k->g (R i)=some ⟨true,1,dH (c i) n⟩) (m:Nat):dM (dO g) (m+3) (kz R n k)=some ((List.range k).map fun i=>[.sl (dH (c i) n)]):=by
 induction k with
 |zero=>rw[show kz R n 0=[]from rfl,dM];rfl
 |succ k ih=>
  have e1:V.fz (dO g) (m+3) (.own (R k) 0 n)=some (.sl (dH (c k) n)):=by
   rw[gW];simp only[dO,h k (by omega),Option.map_some,if_true]
   rw[if_pos (by rw[dt];omega),List.drop_zero,List.take_of_length_le (by rw[dt];omega),yV];rfl
  have app:∀(xs ys:List (List AV)) (QN PO:List (List AV)),dM (dO g) (m+3) xs=some QN->dM (dO g) (m+3) ys=some PO->dM (dO g) (m+3) (xs++ys)=some (QN++PO):=by
   intro xs
   induction xs with
   |nil=>intro ys QN PO h1 h2;rw[dM]at h1;cases h1;exact h2
   |cons a xs ih2=>
    intro ys QN PO h1 h2
    rw[dM]at h1
    rw[List.cons_append,dM]
    cases ha:da (dO g) (m+3) a with
    |none=>simp[ha]at h1
    |some a'=>
     cases hb:dM (dO g) (m+3) xs with
     |none=>simp[ha,hb]at h1
     |some b'=>
      simp[ha,hb]at h1
      subst h1
      rw[ih2 ys b' PO hb h2];rfl
  rw[rU,List.range_succ,List.map_append]
  refine app _ _ _ _ (ih fun i hi=>h i (by omega)) ?_
  rw[dM,ah,aq,e1,dM];rfl
theorem mC.fz {g:Rows} {X o1 o2:Id} {R1 R2:Nat->Id} {n:Nat} {c f:Nat->Nat->Int} (h:mC g X o1 o2 R1 R2 n c f):V.fz (dO g) 6 (.ptr X 0 0)=some (.cI (kO n c f)):=by
 refine ua (sz:=2) (rows:=[[.own o1 0 n,.own o2 0 n]]) (by simp[dO,h.x]) rfl ?_
 have e1:V.fz (dO g) 5 (.own o1 0 n)=some (.sl (wi c n)):=by
  rw[gW];simp only[dO,h.t1,Option.map_some,if_true]
  rw[if_pos (by rw[jO];omega),List.drop_zero,List.take_of_length_le (by rw[jO];omega)]
  rw[show dM _ 4 _=some (wi c n)from DQ h.r1 1];rfl
 have e2:V.fz (dO g) 5 (.own o2 0 n)=some (.sl (wi f n)):=by
  rw[gW];simp only[dO,h.t2,Option.map_some,if_true]
  rw[if_pos (by rw[jO];omega),List.drop_zero,List.take_of_length_le (by rw[jO];omega)]
  rw[show dM _ 4 _=some (wi f n)from DQ h.r2 1];rfl
 simp only[List.drop_zero,ah,aq,e1,e2,kO,Option.map_some]
theorem LB (n:Nat) (c f:Nat->Nat->Int) (u v:Nat) (hu:u<n) (hv:v<n):aj Tryz.prog 272 [.cI (kO n c f),.int .i64 u,.int .i64 v] (.bool (decide (f u v<c u v))):=by
 refine aj.body eI rfl fun hl n0=>?_
 clear hl
 have h1:=AU (c:=c) hu
 have h2:=AU (c:=f) hu
 have h3:=dC (f:=c u) hv
 have h4:=dC (f:=f u) hv
 have hui:(u:Int)<(n:Int):=by omega
 have B6:(v:Int)<(n:Int):=by omega
 have l1:=u7 c n
 have l2:=u7 f n
 have l3:=dt (c u) n
 have l4:=dt (f u) n
 rw[br]at h3 h4
 (try((repeat(revert hN;revert N;apply Pn.out));refine wk (tw @kO.eq_1 (tw @h1 (tw @h2 (tw @h3 (tw @h4 (tw @hui (tw @B6 (tw @l1 (tw @l2 (tw @l3 @l4)))))))))) ?_;(repeat(refine Pn.mk ?_;intro N hN))))
 exact aM (b:=decide (f u v<c u v)) (.inl rfl) (sd @Nat.zero_add) rfl
end Go.Proofs.YtgoelphibofcmaaGreat.V

namespace Go.Proofs.YtgoelphibofcmaaGreat.V
open Go.RowKit
attribute [local irreducible] dx wpOps gp Call
attribute [local go_sem] aH fC eG fW fV cF upd cj K.av cJ AV.cells AV.cell rowOf rowsOf part ld rowAt bj bY dz eb gT bE cZ er fS eU dp eh cX cW dR dS bH aW cN bG cQ cP ee ei ef cL bP cY ec bF aL cU cw gS bl cG bI aP dd aU dB AV.undef bw bB dV ea dI dG cE ep ev cq ek ej cR cV List.getD_cons_zero List.getD_cons_succ List.getD_nil List.all_cons List.all_nil Bool.and_true Bool.true_and Bool.and_self Bool.not_true Bool.not_false Option.map_some Option.map_none Option.bind_some Option.bind_none List.length_cons List.length_nil List.take_succ_cons List.take_zero List.take_nil List.drop_succ_cons List.drop_zero List.drop_nil List.head?_cons List.map_cons List.map_nil List.getElem?_cons_zero List.getElem?_cons_succ List.cons_append List.nil_append List.append_nil List.length_map List.set_cons_zero List.set_cons_succ Nat.reduceMul eq_self Int.toNat_natCast Int.natCast_nonneg and_self true_and and_true decide_true decide_false Bool.false_eq_true Nat.zero_add Nat.add_zero List.contains_cons List.contains_nil Bool.or_false Bool.false_or beq_self_eq_true Nat.reduceBEq ne_eq not_true_eq_false not_false_eq_true Id.mk.injEq false_and and_false Nat.reduceLT Int.reduceLE Int.reduceLT Int.reduceToNat Int.reduceNeg Int.reduceAdd Nat.le_refl List.length_append beq_true beq_false Bool.not_eq_eq_eq_not or_false false_or dO ah aq aI aZ bt ck aS bf aO aY cK bK
theorem Fw (n:Nat):List.replicate n [AV.int .i64 0]=dH (fun _=>0) n:=by
 refine List.ext_getElem? fun i=>?_
 by_cases h:i<n
 ·rw[dC h,List.getElem?_replicate,if_pos h];rfl
 ·rw[List.getElem?_eq_none (by simp;omega),List.getElem?_eq_none (by rw[dt];omega)]
theorem yS {i j:Id} {s t:Nat} (hi:i.site=s) (hj:j.site=t) (h:(s==t)=false):(i=j)=False/\(j=i)=False:=by
 constructor<;>(simp only[eq_iff_iff,iff_false];rintro rfl;rw[hi]at hj;subst hj;simp at h)
theorem AB (cnt:Nat) (wS:1<=cnt) (hn:cnt<=1048576) (bs:List PB) (hb:∀b∈bs,b.a<cnt/\b.b<cnt) (dv:∀b∈bs,0<=b.s/\b.s<=4) (oQ:bs.length<=1048576) (σ:ar):
  Call Tryz.prog 245 [.int .i64 cnt,.sl (bs.map aw)] σ fun r σ'=>∃X o1 o2 R1 R2,r=.ptr X 0 0/\D5 X o1 o2 R1 R2 cnt σ'.next/\σ.next<=σ'.next/\mC σ'.get X o1 o2 R1 R2 cnt (kp bs) (fun _ _=>0)/\∀i:Id,i.bQ<σ.next->σ'.get i=σ.get i:=by
 refine iF eI rfl fun hl=>?_
 clear hl
 (try((repeat(revert hN;revert N;apply Pn.out));refine wk @Nat.zero_add ?_;(repeat(refine Pn.mk ?_;intro N hN))))
 obtain⟨X,hX⟩:∃X:Id,X=⟨245001001,σ.next+1⟩:=⟨_,rfl⟩
 obtain⟨R1,Rn⟩:∃R:Nat->Id,R=fun k=>⟨245004006,σ.next+3+4*k+1⟩:=⟨_,rfl⟩
 obtain⟨R2,Ro⟩:∃R:Nat->Id,R=fun k=>⟨245005006,σ.next+3+4*k+2⟩:=⟨_,rfl⟩
 have sX:X.site=245001001:=by rw[hX]
 have vX:X.bQ=σ.next+1:=by rw[hX]
 have s1:∀k,(R1 k).site=245004006:=fun k=>by rw[Rn]
 have s2:∀k,(R2 k).site=245005006:=fun k=>by rw[Ro]
 have v1:∀k,(R1 k).bQ=σ.next+3+4*k+1:=fun k=>by rw[Rn]
 have v2:∀k,(R2 k).bQ=σ.next+3+4*k+2:=fun k=>by rw[Ro]
 have jk:(0:Int)<=(cnt:Int):=by omega
 have oR:(cnt:Int)<=((16777216:Nat):Int):=by omega
 have hz:=Fw cnt
 have t1:kz R1 cnt 0=[]:=rfl
 have t2:kz R2 cnt 0=[]:=rfl
 refine aQ (fun n env st=>∃k:Nat,n=(cnt)-k/\k<=(cnt)/\env 11=.int .i64 (k:Int)/\env 5=(.ptr X 0 0)/\(st.next=σ.next+3+4*k/\(∀i:Id,i.bQ<σ.next->st.get i=σ.get i)/\∀j,j<k->st.get (R1 j)=some ⟨true,1,dH (fun _=>0) cnt⟩/\st.get (R2 j)=some ⟨true,1,dH (fun _=>0) cnt⟩)/\((k=0/\st.get X=some ⟨true,2,[[.b4,.b4]]⟩)∨∃o1 o2:Id,o1.site=245004008/\o2.site=245005008/\o1.bQ<st.next/\o2.bQ<st.next/\σ.next<=o1.bQ/\σ.next<=o2.bQ/\st.get X=some ⟨true,2,[[.own o1 0 k,.own o2 0 k]]⟩/\st.get o1=some ⟨true,1,kz R1 cnt k⟩/\st.get o2=some ⟨true,1,kz R2 cnt k⟩)) (cnt) ⟨0,by omega,by omega,sl @hX,sl @hX,⟨rfl,fun i hi=>by(have B6:=dD hi);simp only[go_sem, ↓reduceIte,Nat.reduceEqDiff,Nat.reduceAdd,Nat.reduceSub,Nat.reduceLeDiff,reduceCtorEq,B6],fun j hj=>absurd hj (Nat.not_lt_zero j)⟩,.inl ⟨rfl,by rw[hX];simp only[go_sem, ↓reduceIte,Nat.reduceEqDiff,Nat.reduceAdd,Nat.reduceSub,Nat.reduceLeDiff,reduceCtorEq]⟩⟩ ?_
 rintro n_a env_a st_a ⟨k,rfl,ale,a11,a5,pU,aI1⟩ dY
 have a0:=dY 0 (by kernel_rfl);have a1:=dY 1 (by kernel_rfl);have wq:=dY 10 (by kernel_rfl)
 simp only[go_sem, ↓reduceIte,Nat.reduceEqDiff,Nat.reduceAdd,Nat.reduceSub,Nat.reduceLeDiff,reduceCtorEq,hX]at a0 a1 wq
 clear dY
 obtain⟨anx,dY,aR⟩:=pU
 have wX:=dD (i:=X) (n:=st_a.next) (by omega)
 by_cases hk:(k:Int)<(cnt:Int)
 ·have cH:∀{e:Env} {gg:Rows} {nx:Nat},(e 11=.int .i64 (IntKind.i64.wrap ((k:Int)+1)))->(e 5=(.ptr X 0 0))->(nx=σ.next+3+4*(k+1)/\(∀i:Id,i.bQ<σ.next->gg i=σ.get i)/\∀j,j<(k+1)->gg (R1 j)=some ⟨true,1,dH (fun _=>0) cnt⟩/\gg (R2 j)=some ⟨true,1,dH (fun _=>0) cnt⟩)->(((k+1)=0/\gg X=some ⟨true,2,[[.b4,.b4]]⟩)∨∃o1 o2:Id,o1.site=245004008/\o2.site=245005008/\o1.bQ<nx/\o2.bQ<nx/\σ.next<=o1.bQ/\σ.next<=o2.bQ/\gg X=some ⟨true,2,[[.own o1 0 (k+1),.own o2 0 (k+1)]]⟩/\gg o1=some ⟨true,1,kz R1 cnt (k+1)⟩/\gg o2=some ⟨true,1,kz R2 cnt (k+1)⟩)->∃m0,m0<(cnt)-k/\∃k:Nat,m0=(cnt)-k/\k<=(cnt)/\e 11=.int .i64 (k:Int)/\e 5=(.ptr X 0 0)/\(nx=σ.next+3+4*k/\(∀i:Id,i.bQ<σ.next->gg i=σ.get i)/\∀j,j<k->gg (R1 j)=some ⟨true,1,dH (fun _=>0) cnt⟩/\gg (R2 j)=some ⟨true,1,dH (fun _=>0) cnt⟩)/\((k=0/\gg X=some ⟨true,2,[[.b4,.b4]]⟩)∨∃o1 o2:Id,o1.site=245004008/\o2.site=245005008/\o1.bQ<nx/\o2.bQ<nx/\σ.next<=o1.bQ/\σ.next<=o2.bQ/\gg X=some ⟨true,2,[[.own o1 0 k,.own o2 0 k]]⟩/\gg o1=some ⟨true,1,kz R1 cnt k⟩/\gg o2=some ⟨true,1,kz R2 cnt k⟩):=fun x1 x2 x3 x4=>⟨_,by omega,k+1,rfl,by omega,(by rw[x1,aA (by omega)]),x2,x3,x4⟩
  have fG:k<cnt:=by omega
  have vz:R1 k=⟨245004006,st_a.next+1⟩:=by rw[Rn,anx]
  have ug:R2 k=⟨245005006,st_a.next+1+1⟩:=by rw[Ro,anx]
  have Dt:kz R1 cnt (k+1)=kz R1 cnt k++[[.own ⟨245004006,st_a.next+1⟩ 0 cnt]]:=by rw[rU,vz]
  have NC:kz R2 cnt (k+1)=kz R2 cnt k++[[.own ⟨245005006,st_a.next+1+1⟩ 0 cnt]]:=by rw[rU,ug]
  rcases aI1 with⟨rfl,NU⟩|⟨o1,o2,so1,so2,vo1,Py,vn1,vn2,NU,ag1,ag2⟩
  ·(try((repeat(revert hN;revert N;apply Pn.out));refine wk (tw @a11 (tw @a5 (tw @a0 (tw @a1 (tw @wq (tw @hk (tw @wX (tw @NU (tw @jk (tw @oR (tw @Int.le_refl @hz))))))))))) ?_;(repeat(refine Pn.mk ?_;intro N hN))))
   refine cH ?_ ?_ (by
    (try dsimp only)
    refine⟨by omega,fun i hi=>?_,fun j hj=>?_⟩
    ·have q1:=dD (i:=i) (n:=st_a.next) (by omega)
     have q2:=cr (a:=i) (b:=X) (by omega)
     have:=dY i hi
     simp only[go_sem, ↓reduceIte,Nat.reduceEqDiff,Nat.reduceAdd,Nat.reduceSub,Nat.reduceLeDiff,reduceCtorEq,q1,q2,this]
    ·by_cases wR:j=0
     ·subst wR
      rw[vz,ug]
      have q1:=gG sX (b:=245004006) (v:=st_a.next+1) (by decide)
      have q2:=gG sX (b:=245005006) (v:=st_a.next+1+1) (by decide)
      simp only[go_sem, ↓reduceIte,Nat.reduceEqDiff,Nat.reduceAdd,Nat.reduceSub,Nat.reduceLeDiff,reduceCtorEq,q1,q2]
     ·obtain⟨r1,r2⟩:=aR j (by omega)
      have q1:=dD (i:=R1 j) (n:=st_a.next) (by rw[v1];omega)
      have q2:=dD (i:=R2 j) (n:=st_a.next) (by rw[v2];omega)
      have q3:=yS (s1 j) sX (by decide)
      have q4:=yS (s2 j) sX (by decide)
      constructor
      ·simp only[go_sem, ↓reduceIte,Nat.reduceEqDiff,Nat.reduceAdd,Nat.reduceSub,Nat.reduceLeDiff,reduceCtorEq,q1,q3,r1]
      ·simp only[go_sem, ↓reduceIte,Nat.reduceEqDiff,Nat.reduceAdd,Nat.reduceSub,Nat.reduceLeDiff,reduceCtorEq,q2,q4,r2]) (.inr ⟨⟨245004008,st_a.next+1⟩,⟨245005008,st_a.next+1+1⟩,rfl,rfl,by(try dsimp only);omega,by(try dsimp only);omega,by(try dsimp only);omega,by(try dsimp only);omega,sd @wX,by rw[Dt,t1];simp only[go_sem, ↓reduceIte,Nat.reduceEqDiff,Nat.reduceAdd,Nat.reduceSub,Nat.reduceLeDiff,reduceCtorEq,wX,List.nil_append],by rw[NC,t2];simp only[go_sem, ↓reduceIte,Nat.reduceEqDiff,Nat.reduceAdd,Nat.reduceSub,Nat.reduceLeDiff,reduceCtorEq,wX,List.nil_append]⟩)
   all_goals simp only[go_sem, ↓reduceIte,Nat.reduceEqDiff,Nat.reduceAdd,Nat.reduceSub,Nat.reduceLeDiff,reduceCtorEq,a11,a5,a0,a1,wq,wX]
  ·have l1:=jO R1 cnt k
   have l2:=jO R2 cnt k
   have e1:k+1<=16777216:=by omega
   have w1:=dD vo1
   have w2:=dD Py
   have x1:=yS sX so1 (by decide)
   have x2:=yS sX so2 (by decide)
   have x3:=yS so1 so2 (by decide)
   (try((repeat(revert hN;revert N;apply Pn.out));refine wk (tw @a11 (tw @a5 (tw @a0 (tw @a1 (tw @wq (tw @hk (tw @wX (tw @NU (tw @ag1 (tw @ag2 (tw @l1 (tw @l2 (tw @e1 (tw @w1 (tw @w2 (tw @x1 (tw @x2 (tw @x3 (tw @jk (tw @oR (tw @Int.le_refl @hz))))))))))))))))))))) ?_;(repeat(refine Pn.mk ?_;intro N hN))))
   refine cH ?_ ?_ (by
    (try dsimp only)
    refine⟨by omega,fun i hi=>?_,fun j hj=>?_⟩
    ·have q1:=dD (i:=i) (n:=st_a.next) (by omega)
     have q2:=cr (a:=i) (b:=X) (by omega)
     have q3:=cr (a:=i) (b:=o1) (by omega)
     have q4:=cr (a:=i) (b:=o2) (by omega)
     have:=dY i hi
     simp only[go_sem, ↓reduceIte,Nat.reduceEqDiff,Nat.reduceAdd,Nat.reduceSub,Nat.reduceLeDiff,reduceCtorEq,q1,q2,this,q3,q4]
    ·by_cases wR:j=k
     ·subst wR
      rw[vz,ug]
      have q1:=gG sX (b:=245004006) (v:=st_a.next+1) (by decide)
      have q2:=gG sX (b:=245005006) (v:=st_a.next+1+1) (by decide)
      simp only[go_sem, ↓reduceIte,Nat.reduceEqDiff,Nat.reduceAdd,Nat.reduceSub,Nat.reduceLeDiff,reduceCtorEq,q1,q2,w1,w2]
     ·obtain⟨r1,r2⟩:=aR j (by omega)
      have q1:=dD (i:=R1 j) (n:=st_a.next) (by rw[v1];omega)
      have q2:=dD (i:=R2 j) (n:=st_a.next) (by rw[v2];omega)
      have q3:=yS (s1 j) sX (by decide)
      have q4:=yS (s2 j) sX (by decide)
      have q5:=yS (s1 j) so1 (by decide)
      have q6:=yS (s1 j) so2 (by decide)
      have q7:=yS (s2 j) so1 (by decide)
      have q8:=yS (s2 j) so2 (by decide)
      constructor
      ·simp only[go_sem, ↓reduceIte,Nat.reduceEqDiff,Nat.reduceAdd,Nat.reduceSub,Nat.reduceLeDiff,reduceCtorEq,q1,q3,r1,q5,q6]
      ·simp only[go_sem, ↓reduceIte,Nat.reduceEqDiff,Nat.reduceAdd,Nat.reduceSub,Nat.reduceLeDiff,reduceCtorEq,q2,q4,r2,q7,q8]) (.inr ⟨⟨245004008,st_a.next+1⟩,⟨245005008,st_a.next+1+1⟩,rfl,rfl,by(try dsimp only);omega,by(try dsimp only);omega,by(try dsimp only);omega,by(try dsimp only);omega,sd @wX,by rw[Dt];simp only[go_sem, ↓reduceIte,Nat.reduceEqDiff,Nat.reduceAdd,Nat.reduceSub,Nat.reduceLeDiff,reduceCtorEq,wX,w1,w2],by rw[NC];simp only[go_sem, ↓reduceIte,Nat.reduceEqDiff,Nat.reduceAdd,Nat.reduceSub,Nat.reduceLeDiff,reduceCtorEq,wX,w1,w2]⟩)
   all_goals simp only[go_sem, ↓reduceIte,Nat.reduceEqDiff,Nat.reduceAdd,Nat.reduceSub,Nat.reduceLeDiff,reduceCtorEq,a11,a5,a0,a1,wq,wX,w1,w2,x1,x2,x3]
 have lq:cnt=k:=by omega
 subst lq
 rcases aI1 with⟨h0,_⟩|⟨o1,o2,so1,so2,vo1,Py,vn1,vn2,NU,ag1,ag2⟩
 ·omega
 (try((repeat(revert hN;revert N;apply Pn.out));refine wk (tw @a11 (tw @a5 (tw @a0 (tw @a1 (tw @wq @hk))))) ?_;(repeat(refine Pn.mk ?_;intro N hN))))
 have I:D5 X o1 o2 R1 R2 cnt st_a.next:=⟨sX,so1,so2,fun i _=>s1 i,fun i _=>s2 i,fun i j _ _ h=>by have:=v1 i;rw[h,v1]at this;omega,fun i j _ _ h=>by have:=v2 i;rw[h,v2]at this;omega,by omega,vo1,Py,fun i hi=>by rw[v1];omega,fun i hi=>by rw[v2];omega⟩
 refine aQ (fun n env st=>∃i:Nat,n=(bs.length)-i/\i<=(bs.length)/\env 38=.int .i64 (i:Int)/\(st_a.next<=st.next/\(∀x:Id,x.bQ<σ.next->st.get x=σ.get x)/\mC st.get X o1 o2 R1 R2 cnt (kp (bs.take i)) (fun _ _=>0))) (bs.length) ⟨0,by omega,by omega,sl (tw @a11 (tw @a5 (tw @a0 (tw @a1 @wq)))),⟨by(try dsimp only);omega,dY,NU,ag1,ag2,fun j hj=>(aR j hj).1,fun j hj=>(aR j hj).2⟩⟩ ?_
 rintro n_b env_b st_b ⟨i,rfl,ble,b38,bI0⟩ fE
 have b0:=fE 0 (by kernel_rfl);have b1:=fE 1 (by kernel_rfl);have b5:=fE 5 (by kernel_rfl);have Np:=fE 36 (by kernel_rfl);have Nq:=fE 37 (by kernel_rfl)
 simp only[go_sem, ↓reduceIte,Nat.reduceEqDiff,Nat.reduceAdd,Nat.reduceSub,Nat.reduceLeDiff,reduceCtorEq,a11,a5,a0,a1,wq]at b0 b1 b5 Np Nq
 clear fE
 obtain⟨bn,Lm,bM⟩:=bI0
 by_cases hi:(i:Int)<(bs.length:Int)
 ·have fK:∀{e:Env} {gg:Rows} {nx:Nat},(e 38=.int .i64 (IntKind.i64.wrap ((i:Int)+1)))->(st_a.next<=nx/\(∀x:Id,x.bQ<σ.next->gg x=σ.get x)/\mC gg X o1 o2 R1 R2 cnt (kp (bs.take (i+1))) (fun _ _=>0))->∃m0,m0<(bs.length)-i/\∃i:Nat,m0=(bs.length)-i/\i<=(bs.length)/\e 38=.int .i64 (i:Int)/\(st_a.next<=nx/\(∀x:Id,x.bQ<σ.next->gg x=σ.get x)/\mC gg X o1 o2 R1 R2 cnt (kp (bs.take i)) (fun _ _=>0)):=fun x1 x2=>⟨_,by omega,i+1,rfl,by omega,(by rw[x1,aA (by omega)]),x2⟩
  have e9:i<bs.length:=by omega
  have jJ:(bs.map aw)[i]? =some (aw bs[i]):=by simp[e9]
  have fA:=hb _ (List.getElem_mem e9)
  have hsi:=dv _ (List.getElem_mem e9)
  have rD:kp (bs.take (i+1))=mH (kp (bs.take i)) bs[i]:=by rw[List.take_succ_eq_append_getElem e9,Cx]
  have pq:=yK (bs.take i) (fun _ _=>0) (fun b hb=>(dv b (List.mem_of_mem_take hb)).1) (fun _ _=>Int.le_refl _)
  have hle:=room_le (bs.take i) (fun _ _=>0) 0 (fun b hb=>(dv b (List.mem_of_mem_take hb)).2) (fun _ _=>Int.le_refl _) (Int.le_refl _)
  rw[List.length_take]at hle
  have fU:(bs.take i).foldl mH (fun _ _=>0)=kp (bs.take i):=rfl
  rw[fU]at pq hle
  generalize kp (bs.take i)=c at *
  generalize bs[i]=b at *
  obtain⟨ha,rm⟩:=fA
  have gA:=qH (R:=R1) (n:=cnt) ha
  have gB:=qH (R:=R1) (n:=cnt) rm
  have rA:=bM.r1 _ ha
  have rB:=bM.r1 _ rm
  have cA:=dC (f:=c b.a) rm
  have cB:=dC (f:=c b.b) ha
  have sA:=nw (f:=c) (a:=b.a) (d:=b.s) rm
  have gX:=bM.x
  have g1:=bM.t1
  have gq:(b.a:Int)<(cnt:Int):=by omega
  have fA:(b.b:Int)<(cnt:Int):=by omega
  have qX:=dD (i:=X) (n:=st_b.next) (by omega)
  have q1:=dD (i:=o1) (n:=st_b.next) (by omega)
  have qA:=dD (i:=R1 b.a) (n:=st_b.next) (by rw[v1];omega)
  have qB:=dD (i:=R1 b.b) (n:=st_b.next) (by rw[v1];omega)
  have xA:=yS sX (s1 b.a) (by decide)
  have xB:=yS sX (s1 b.b) (by decide)
  have yA:=yS so1 (s1 b.a) (by decide)
  have yB:=yS so1 (s1 b.b) (by decide)
  have l1:=jO R1 cnt cnt
  have lA:=dt (c b.a) cnt
  have lB:=dt (c b.b) cnt
  have hAB:=hle b.a b.b
  have hBA:=hle b.b b.a
  have gAB:=pq b.a b.b
  have gBA:=pq b.b b.a
  have wA:IntKind.i64.wrap (c b.a b.b+b.s)=c b.a b.b+b.s:=bW (by omega)
  by_cases po:b.a=b.b
  ·obtain⟨ba,bb,s⟩:=b
   dsimp only at *
   subst po
   have Mf:=nw (f:=bump c ba ba s) (a:=ba) (b:=ba) (d:=s) (n:=cnt) ha
   have Ru:=dC (f:=bump c ba ba s ba) ha
   have hv:bump c ba ba s ba ba=c ba ba+s:=by simp[bump]
   have lC:=dt (bump c ba ba s ba) cnt
   have wB:IntKind.i64.wrap (c ba ba+s+s)=c ba ba+s+s:=bW (by omega)
   rw[hv]at Mf Ru
   have rn:mH c ⟨ba,ba,s⟩ ba=bump (bump c ba ba s) ba ba s ba:=rfl
   rw[br]at cA sA Mf Ru
   (try((repeat(revert hN;revert N;apply Pn.out));refine wk (tw @b38 (tw @b0 (tw @b1 (tw @b5 (tw @Np (tw @Nq (tw @hi (tw @jJ (tw @aw.eq_1 (tw @gA (tw @rA (tw @cA (tw @sA (tw @gX (tw @g1 (tw @gq (tw @qX (tw @q1 (tw @qA (tw @xA (tw @yA (tw @l1 (tw @lA (tw @wA (tw @Mf (tw @Ru (tw @lC @wB))))))))))))))))))))))))))) ?_;(repeat(refine Pn.mk ?_;intro N hN))))
   exact fK (sd (tw @b38 (tw @b0 (tw @b1 (tw @b5 (tw @Np @Nq)))))) (by
    (try dsimp only)
    refine⟨by omega,fun x hx=>?_,?_⟩
    ·have p1:=dD (i:=x) (n:=st_b.next) (by omega)
     have p2:=cr (a:=x) (b:=R1 ba) (by rw[v1];omega)
     have:=Lm x hx
     simp only[go_sem, ↓reduceIte,Nat.reduceEqDiff,Nat.reduceAdd,Nat.reduceSub,Nat.reduceLeDiff,reduceCtorEq,p1,p2,this]
    ·rw[rD]
     refine bM.add I ⟨ba,ba,s⟩ ha ha (fun h=>absurd rfl h) ?_ fun x hx h1 h2=>?_
     ·rw[rn]
      simp only[go_sem, ↓reduceIte,Nat.reduceEqDiff,Nat.reduceAdd,Nat.reduceSub,Nat.reduceLeDiff,reduceCtorEq]
     ·have p1:=dD (i:=x) (n:=st_b.next) (by omega)
      (try dsimp only at h2)
      simp only[go_sem, ↓reduceIte,Nat.reduceEqDiff,Nat.reduceAdd,Nat.reduceSub,Nat.reduceLeDiff,reduceCtorEq,p1,h2])
  ·have gI:(R1 b.a=R1 b.b)=False:=by simp only[eq_iff_iff,iff_false];exact fun h=>po (I.i1 _ _ ha rm h)
   have GZ:(R1 b.b=R1 b.a)=False:=by simp only[eq_iff_iff,iff_false];exact fun h=>po (I.i1 _ _ ha rm h.symm)
   have L8:bump c b.a b.b b.s b.b=c b.b:=jF fun h=>po h.symm
   have Mf:=nw (f:=bump c b.a b.b b.s) (a:=b.b) (b:=b.a) (d:=b.s) (n:=cnt) ha
   rw[L8]at Mf
   have wB:IntKind.i64.wrap (c b.b b.a+b.s)=c b.b b.a+b.s:=bW (by omega)
   have rn:mH c b b.b=bump (bump c b.a b.b b.s) b.b b.a b.s b.b:=rfl
   rw[br]at cA cB sA Mf
   (try((repeat(revert hN;revert N;apply Pn.out));refine wk (tw @b38 (tw @b0 (tw @b1 (tw @b5 (tw @Np (tw @Nq (tw @hi (tw @jJ (tw @aw.eq_1 (tw @gA (tw @gB (tw @rA (tw @rB (tw @cA (tw @cB (tw @sA (tw @gX (tw @g1 (tw @gq (tw @fA (tw @qX (tw @q1 (tw @qA (tw @qB (tw @xA (tw @xB (tw @yA (tw @yB (tw @l1 (tw @lA (tw @lB (tw @wA (tw @Mf (tw @wB (tw @gI @GZ))))))))))))))))))))))))))))))))))) ?_;(repeat(refine Pn.mk ?_;intro N hN))))
   exact fK (sd (tw @b38 (tw @b0 (tw @b1 (tw @b5 (tw @Np @Nq)))))) (by
    (try dsimp only)
    refine⟨by omega,fun x hx=>?_,?_⟩
    ·have p1:=dD (i:=x) (n:=st_b.next) (by omega)
     have p2:=cr (a:=x) (b:=R1 b.b) (by rw[v1];omega)
     have p3:=cr (a:=x) (b:=R1 b.a) (by rw[v1];omega)
     have:=Lm x hx
     simp only[go_sem, ↓reduceIte,Nat.reduceEqDiff,Nat.reduceAdd,Nat.reduceSub,Nat.reduceLeDiff,reduceCtorEq,p1,p2,p3,this]
    ·rw[rD]
     refine bM.add I b ha rm (fun h=>?_) ?_ fun x hx h1 h2=>?_
     ·simp only[go_sem, ↓reduceIte,Nat.reduceEqDiff,Nat.reduceAdd,Nat.reduceSub,Nat.reduceLeDiff,reduceCtorEq,gI]
     ·rw[rn]
      simp only[go_sem, ↓reduceIte,Nat.reduceEqDiff,Nat.reduceAdd,Nat.reduceSub,Nat.reduceLeDiff,reduceCtorEq,gI]
     ·have p1:=dD (i:=x) (n:=st_b.next) (by omega)
      simp only[go_sem, ↓reduceIte,Nat.reduceEqDiff,Nat.reduceAdd,Nat.reduceSub,Nat.reduceLeDiff,reduceCtorEq,p1,h1,h2])
 ·have kQ:i=bs.length:=by omega
  subst kQ
  rw[List.take_length]at bM
  (try((repeat(revert hN;revert N;apply Pn.out));refine wk (tw @b38 (tw @b0 (tw @b1 (tw @b5 (tw @Np (tw @Nq @hi)))))) ?_;(repeat(refine Pn.mk ?_;intro N hN))))
  exact iE (.inl rfl) (vs:=[.ptr X 0 0]) (sd @Nat.zero_add) ⟨X,o1,o2,R1,R2,rfl,⟨I.sx,I.s1,I.s2,I.QJ,I.KY,I.i1,I.i2,by have:=I.vx;(try dsimp only);omega,by have:=I.v1;(try dsimp only);omega,by have:=I.v2;(try dsimp only);omega,fun j hj=>by have:=I.QL j hj;(try dsimp only);omega,fun j hj=>by have:=I.NO j hj;(try dsimp only);omega⟩,by(try dsimp only);omega,bM,Lm⟩
end Go.Proofs.YtgoelphibofcmaaGreat.V

namespace Go.Proofs.YtgoelphibofcmaaGreat.V
structure Bq (n:Nat) (c f:Nat->Nat->Int) (x:Nat) (par:Nat->Int) (Q:List Nat) (i:Nat):Prop where
 nodup:Q.Nodup
 lt:∀v∈Q,v<n
 root:par x=(x:Int)
 mem:x∈Q
 iff:∀v,v<n->(0<=par v↔v∈Q)
 up:∀v∈Q,v≠x->∃u,u∈Q/\par v=(u:Int)/\Q.idxOf u<Q.idxOf v/\f u v<c u v
 done:∀j (_:j<i) (hl:j<Q.length) (v:Nat),v<n->f Q[j] v<c Q[j] v->v∈Q
 ile:i<=Q.length
section
variable {n:Nat} {c f:Nat->Nat->Int} {x:Nat} {par:Nat->Int} {Q:List Nat} {i:Nat}
theorem Bq.len (h:Bq n c f x par Q i):Q.length<=n:=nM n Q h.nodup h.lt
theorem Bq.start (hx:x<n):Bq n c f x (fun v=>if v=x then(x:Int)else -1) [x] 0:=by
 refine⟨by simp,fun v hv=>by simp at hv;omega,by simp,by simp,fun v hv=>?_,fun v hv gI=>absurd (by simpa using hv) gI,fun j hj=>by omega,by simp⟩
 by_cases h:v=x
 ·simp[h]
 ·simp[h]
theorem Bq.visit (h:Bq n c f x par Q i) (hi:i<Q.length) {v:Nat} (hv:v<n) (hp:par v<0) (hr:f Q[i] v<c Q[i] v):Bq n c f x (fun w=>if w=v then(Q[i]:Int)else par w) (Q++[v]) i:=by
 have Sn:v∉Q:=fun hm=>by have:=(h.iff v hv).2 hm;omega
 have Mp:x≠v:=fun e=>Sn (e▸h.mem)
 have yh:∀u∈Q,(Q++[v]).idxOf u=Q.idxOf u:=fun u hu=>by rw[List.idxOf_append,if_pos hu]
 have uh:(Q++[v]).idxOf v=Q.length:=by rw[List.idxOf_append,if_neg Sn];simp
 refine⟨?_,fun w hw=>?_,by simp only[if_neg Mp];exact h.root,by simp[h.mem],fun w hw=>?_,fun w hw gI=>?_,fun j hj hl w hw G7=>?_,by simp;omega⟩
 ·refine List.nodup_append.2 ⟨h.nodup,by simp,fun a ha b hb=>?_⟩
  rw[List.mem_singleton.1 hb]
  rintro rfl;exact Sn ha
 ·rcases List.mem_append.1 hw with hw|hw
  ·exact h.lt w hw
  ·rw[List.mem_singleton.1 hw];exact hv
 ·by_cases Dv:w=v
  ·subst Dv;simp
  ·rw[if_neg Dv,h.iff w hw];simp[Dv]
 ·by_cases Dv:w=v
  ·subst Dv
   refine⟨Q[i],by simp,by simp,?_,hr⟩
   rw[yh _ (List.getElem_mem hi),uh]
   exact List.idxOf_lt_length_of_mem (List.getElem_mem hi)
  ·have hwQ:w∈Q:=by
    rcases List.mem_append.1 hw with hw|hw
    ·exact hw
    ·exact absurd (List.mem_singleton.1 hw) Dv
   obtain⟨u,h1,h2,h3,h4⟩:=h.up w hwQ gI
   exact⟨u,by simp[h1],by rw[if_neg Dv];exact h2,by rw[yh u h1,yh w hwQ];exact h3,h4⟩
 ·have gM:j<Q.length:=by have:=h.ile;omega
  rw[List.getElem_append_left gM]at G7
  exact List.mem_append_left _ (h.done j hj gM w hw G7)
theorem Bq.next (h:Bq n c f x par Q i) (hi:i<Q.length) (dy:∀v,v<n->f Q[i] v<c Q[i] v->0<=par v):Bq n c f x par Q (i+1):=by
 refine⟨h.nodup,h.lt,h.root,h.mem,h.iff,h.up,fun j hj hl v hv hr=>?_,by omega⟩
 by_cases lT:j=i
 ·subst lT;exact(h.iff v hv).1 (dy v hv hr)
 ·exact h.done j (by omega) hl v hv hr
theorem Bq.cut (h:Bq n c f x par Q Q.length) {y:Nat} (hy:y<n) (hp:par y<0):∃S:Nat->Bool,S x=true/\S y=false/\∀u v,u<n->v<n->S u=true->S v=false->¬f u v<c u v:=by
 refine⟨fun v=>decide (v∈Q),by simp[h.mem],?_,fun u v hu hv h1 h2 hr=>?_⟩
 ·have:y∉Q:=fun hm=>by have:=(h.iff y hy).2 hm;omega
  simp[this]
 ·simp only[decide_eq_true_eq,decide_eq_false_iff_not]at h1 h2
  obtain⟨j,hj,rfl⟩:=List.getElem_of_mem h1
  exact h2 (h.done j hj hj v hv hr)
def tt (c f:Nat->Nat->Int) (Q:List Nat) (y k:Nat) (out:List Nat):Prop:=∃rest,out.reverse=k::rest/\(k::rest).getLast (by simp)=y/\pQ f c (k::rest)/\(k::rest).Pairwise (fun a b=>Q.idxOf a<Q.idxOf b)/\∀v∈k::rest,v∈Q
theorem tt.start {y:Nat} (hy:y∈Q):tt c f Q y y [y]:=⟨[],rfl,rfl,trivial,by simp,by simpa using hy⟩
theorem tt.step {y k u:Nat} {out:List Nat} (h:tt c f Q y k out) (hu:u∈Q) (hi:Q.idxOf u<Q.idxOf k) (hr:f u k<c u k):tt c f Q y u (out++[u]):=by
 obtain⟨rest,h1,h2,h3,h4,h5⟩:=h
 refine⟨k::rest,by rw[List.reverse_append,h1];rfl,by rw[List.getLast_cons (by simp)];exact h2,⟨hr,h3⟩,?_,?_⟩
 ·refine List.pairwise_cons.2 ⟨fun b hb=>?_,h4⟩
  rcases List.mem_cons.1 hb with rfl|hb
  ·exact hi
  ·have:=(List.pairwise_cons.1 h4).1 b hb;omega
 ·intro v hv
  rcases List.mem_cons.1 hv with rfl|hv
  ·exact hu
  ·exact h5 v hv
theorem tt.len {y k:Nat} {out:List Nat} (h:tt c f Q y k out) (hq:∀v∈Q,v<n):out.length<=n:=by
 obtain⟨rest,h1,_,_,h4,h5⟩:=h
 rw[<-List.length_reverse,h1]
 refine nM n _ (h4.imp fun dE he=>?_) fun v hv=>hq v (h5 v hv)
 subst he;omega
structure NT (n:Nat) (c f:Nat->Nat->Int) (x y:Nat) (p:List Nat):Prop where
 way:∃r,p=x::r/\(x::r).getLast (by simp)=y
 nodup:p.Nodup
 room:pQ f c p
 lt:∀v∈p,v<n
theorem tt.way {y:Nat} {out:List Nat} (h:tt c f Q y x out) (hq:∀v∈Q,v<n):NT n c f x y out.reverse:=by
 obtain⟨rest,h1,h2,h3,h4,h5⟩:=h
 rw[h1]
 exact⟨⟨rest,rfl,h2⟩,h4.imp fun dE he=>by subst he;omega,h3,fun v hv=>hq v (h5 v hv)⟩
end
end Go.Proofs.YtgoelphibofcmaaGreat.V

namespace Go.Proofs.YtgoelphibofcmaaGreat.V
open Go.RowKit
attribute [local irreducible] dx wpOps gp Call
attribute [local go_sem] aH fC eG fW fV cF upd cj K.av cJ AV.cells AV.cell rowOf rowsOf part ld rowAt bj bY dz eb gT bE cZ er fS eU dp eh cX cW dR dS bH aW cN bG cQ cP ee ei ef cL bP cY ec bF aL cU cw gS bl cG bI aP dd aU dB AV.undef bw bB dV ea dI dG cE ep ev cq ek ej cR cV List.getD_cons_zero List.getD_cons_succ List.getD_nil List.all_cons List.all_nil Bool.and_true Bool.true_and Bool.and_self Bool.not_true Bool.not_false Option.map_some Option.map_none Option.bind_some Option.bind_none List.length_cons List.length_nil List.take_succ_cons List.take_zero List.take_nil List.drop_succ_cons List.drop_zero List.drop_nil List.head?_cons List.map_cons List.map_nil List.getElem?_cons_zero List.getElem?_cons_succ List.cons_append List.nil_append List.append_nil List.length_map List.set_cons_zero List.set_cons_succ Nat.reduceMul eq_self Int.toNat_natCast Int.natCast_nonneg and_self true_and and_true decide_true decide_false Bool.false_eq_true Nat.zero_add Nat.add_zero List.contains_cons List.contains_nil Bool.or_false Bool.false_or beq_self_eq_true Nat.reduceBEq ne_eq not_true_eq_false not_false_eq_true Id.mk.injEq false_and and_false Nat.reduceLT Int.reduceLE Int.reduceLT Int.reduceToNat Int.reduceNeg Int.reduceAdd Nat.le_refl List.length_append beq_true beq_false Bool.not_eq_eq_eq_not or_false false_or dO ah aq aI aZ bt ck aS bf aO aY cK bK
def lj (l:List Nat) (i x:Nat):Nat:=if x<i∨l.length-i<=x then l.getD (l.length-1-x) 0 else l.getD x 0
theorem xD (l:List Nat):l.map eN=du (fun x=>l.getD x 0) l.length:=by
 refine List.ext_getElem? fun i=>?_
 by_cases h:i<l.length
 ·rw[eY h,List.getElem?_map,List.getElem?_eq_getElem h];simp[List.getD_eq_getElem?_getD,h]
 ·rw[List.getElem?_eq_none (by simp;omega),List.getElem?_eq_none (by rw[fM];omega)]
theorem Fc (l:List Nat):du (lj l 0) l.length=l.map eN:=by
 rw[xD]
 exact gJ fun x hx=>by unfold lj;rw[if_neg (by omega)]
theorem HU (l:List Nat) {i:Nat} (h:l.length<=2*i+1) (hi:i<=l.length):du (lj l i) l.length=l.reverse.map eN:=by
 rw[xD l.reverse,List.length_reverse]
 refine gJ fun x hx=>?_
 have hr:l.reverse.getD x 0=l.getD (l.length-1-x) 0:=by
  rw[List.getD_eq_getElem?_getD,List.getElem?_reverse hx,List.getD_eq_getElem?_getD]
 rw[hr]
 unfold lj
 by_cases hc:x<i∨l.length-i<=x
 ·rw[if_pos hc]
 ·rw[if_neg hc]
  have:x=l.length-1-x:=by omega
  rw[<-this]
theorem Fe (l:List Nat) (hp:0<l.length) (hl:l.length<=1048576) (o:Id) (σ:ar) (ho:σ.get o=some ⟨true,1,l.map eN⟩) (yj:o.bQ<σ.next):
  Call Tryz.prog 273 [.own o 0 l.length] σ fun r σ'=>σ'.get o=some ⟨true,1,l.reverse.map eN⟩/\σ.next<=σ'.next/\∀i:Id,i.bQ<σ.next->(i=o)=False->σ'.get i=σ.get i:=by
 refine iF eI rfl fun mN=>?_
 clear mN
 rw[<-Fc]at ho
 have QD:IntKind.i64.wrap ((l.length:Int)-1)=((l.length-1:Nat):Int):=by rw[bW (by omega)];omega
 (try((repeat(revert hN;revert N;apply Pn.out));refine wk @QD ?_;(repeat(refine Pn.mk ?_;intro N hN))))
 refine aQ (fun m env st=>∃i:Nat,m=l.length-i/\2*i<=l.length+1/\i<=l.length/\env 2=.int .i64 (i:Int)/\env 3=.int .i64 ((l.length:Int)-1-i)/\st.get o=some ⟨true,1,du (lj l i) l.length⟩/\σ.next<=st.next/\∀x:Id,x.bQ<σ.next->(x=o)=False->st.get x=σ.get x) l.length ⟨0,rfl,by omega,by omega,by(simp only[go_sem, ↓reduceIte,Nat.reduceEqDiff,Nat.reduceAdd,Nat.reduceSub,Nat.reduceLeDiff,reduceCtorEq])<;>rfl,by(simp only[go_sem, ↓reduceIte,Nat.reduceEqDiff,Nat.reduceAdd,Nat.reduceSub,Nat.reduceLeDiff,reduceCtorEq,QD]);congr 1;omega,ho,by(try dsimp only);omega,fun x _ _=>rfl⟩ ?_
 rintro m env_b st_b ⟨i,rfl,wP,kQ,b2,b3,bg,bn,fE⟩ bkp
 have b0:=bkp 0 (by kernel_rfl)
 simp only[go_sem, ↓reduceIte,Nat.reduceEqDiff,Nat.reduceAdd,Nat.reduceSub,Nat.reduceLeDiff,reduceCtorEq]at b0
 clear bkp
 have tl:=fM (lj l i) l.length
 have oL:=dD (i:=o) (n:=st_b.next) (by omega)
 by_cases hi:(i:Int)<(l.length:Int)-1-i
 ·have e9:i<l.length:=by omega
  obtain⟨j,hj⟩:∃j,j=l.length-1-i:=⟨_,rfl⟩
  have mW:j<l.length:=by omega
  have Jp:(l.length:Int)-1-i=(j:Int):=by omega
  rw[Jp]at b3 hi
  have g1:=eY (f:=lj l i) e9
  have g2:=eY (f:=lj l i) mW
  have e1:lj l i i=l.getD i 0:=by unfold lj;rw[if_neg (by omega)]
  have e2:lj l i j=l.getD j 0:=by unfold lj;rw[if_neg (by omega)]
  have KN:(du (lj l i) l.length).set i (eN (l.getD j 0))=du (fun x=>if x=i then l.getD j 0 else lj l i x) l.length:=oE e9 (if_pos rfl) fun x _ hx=>if_neg hx
  have G9:(du (fun x=>if x=i then l.getD j 0 else lj l i x) l.length).set j (eN (l.getD i 0))=du (lj l (i+1)) l.length:=oE mW (by unfold lj;rw[if_pos (by omega)];congr 1;omega) fun x hx NH=>by
   by_cases Bg:x=i
   ·rw[if_pos Bg];unfold lj;rw[if_pos (by omega)];congr 1;omega
   ·rw[if_neg Bg];unfold lj
    by_cases hc:x<i∨l.length-i<=x
    ·rw[if_pos hc,if_pos (by omega)]
    ·rw[if_neg hc,if_neg (by omega)]
  have QK:=fM (fun x=>if x=i then l.getD j 0 else lj l i x) l.length
  have g3:=eY (f:=fun x=>if x=i then l.getD j 0 else lj l i x) mW
  rw[e1]at g1
  rw[e2]at g2
  rw[if_neg (by omega),e2]at g3
  rw[eN]at g1 g2 g3 KN G9
  have hii:(i:Int)<(l.length:Int):=by omega
  have lT:(j:Int)<(l.length:Int):=by omega
  have tg:IntKind.i64.wrap ((i:Int)+1)=((i+1:Nat):Int):=aA (by omega)
  have uk:IntKind.i64.wrap ((j:Int)-1)=(l.length:Int)-1-((i+1:Nat):Int):=by rw[bW (by omega)];omega
  (try((repeat(revert hN;revert N;apply Pn.out));refine wk (tw @b0 (tw @b2 (tw @b3 (tw @bg (tw @hi (tw @hii (tw @lT (tw @g1 (tw @g2 (tw @g3 (tw @KN (tw @G9 (tw @tl (tw @QK (tw @oL (tw @tg @uk)))))))))))))))) ?_;(repeat(refine Pn.mk ?_;intro N hN))))
  refine⟨_,?_,i+1,rfl,by omega,by omega,sd @tg,sd @uk,sd @G9,by(try dsimp only);omega,fun x hx FP=>?_⟩
  ·omega
  ·have:=fE x hx FP
   simp only[go_sem, ↓reduceIte,Nat.reduceEqDiff,Nat.reduceAdd,Nat.reduceSub,Nat.reduceLeDiff,reduceCtorEq,FP,this]
 ·rw[HU l (by omega) kQ]at bg
  (try((repeat(revert hN;revert N;apply Pn.out));refine wk (tw @b0 (tw @b2 (tw @b3 (tw @bg @hi)))) ?_;(repeat(refine Pn.mk ?_;intro N hN))))
  exact iE (.inr rfl) (vs:=[]) (by simp only[eZ,go_sem, ↓reduceIte,Nat.reduceEqDiff,Nat.reduceAdd,Nat.reduceSub,Nat.reduceLeDiff,reduceCtorEq]) ⟨bg,by(try dsimp only);omega,fE⟩
end Go.Proofs.YtgoelphibofcmaaGreat.V

namespace Go.Proofs.YtgoelphibofcmaaGreat.V
open Go.RowKit
attribute [local irreducible] dx wpOps gp Call
attribute [local go_sem] aH fC eG fW fV cF upd cj K.av cJ AV.cells AV.cell rowOf rowsOf part ld rowAt bj bY dz eb gT bE cZ er fS eU dp eh cX cW dR dS bH aW cN bG cQ cP ee ei ef cL bP cY ec bF aL cU cw gS bl cG bI aP dd aU dB AV.undef bw bB dV ea dI dG cE ep ev cq ek ej cR cV List.getD_cons_zero List.getD_cons_succ List.getD_nil List.all_cons List.all_nil Bool.and_true Bool.true_and Bool.and_self Bool.not_true Bool.not_false Option.map_some Option.map_none Option.bind_some Option.bind_none List.length_cons List.length_nil List.take_succ_cons List.take_zero List.take_nil List.drop_succ_cons List.drop_zero List.drop_nil List.head?_cons List.map_cons List.map_nil List.getElem?_cons_zero List.getElem?_cons_succ List.cons_append List.nil_append List.append_nil List.length_map List.set_cons_zero List.set_cons_succ Nat.reduceMul eq_self Int.toNat_natCast Int.natCast_nonneg and_self true_and and_true decide_true decide_false Bool.false_eq_true Nat.zero_add Nat.add_zero List.contains_cons List.contains_nil Bool.or_false Bool.false_or beq_self_eq_true Nat.reduceBEq ne_eq not_true_eq_false not_false_eq_true Id.mk.injEq false_and and_false Nat.reduceLT Int.reduceLE Int.reduceLT Int.reduceToNat Int.reduceNeg Int.reduceAdd Nat.le_refl List.length_append beq_true beq_false Bool.not_eq_eq_eq_not or_false false_or dO ah aq aI aZ bt ck aS bf aO aY cK bK
theorem PA (cnt:Nat) (wS:1<=cnt) (hn:cnt<=1048576) (c f:Nat->Nat->Int) (x y:Nat) (hx:x<cnt) (hy:y<cnt):
  lv Tryz.prog 266 [.cI (kO cnt c f),.int .i64 x,.int .i64 y] fun r=>(r=.b4/\∃S:Nat->Bool,S x=true/\S y=false/\∀u v,u<cnt->v<cnt->S u=true->S v=false->¬f u v<c u v)∨∃p:List Nat,r=.sl (p.map eN)/\NT cnt c f x y p:=by
 refine lv.body eI rfl fun hl n0=>?_
 clear hl
 have lM:=u7 c cnt
 have jk:(0:Int)<=(cnt:Int):=by omega
 have Bg:(x:Int)<(cnt:Int):=by omega
 have QF:(y:Int)<(cnt:Int):=by omega
 (try((repeat(revert hN;revert N;apply Pn.out));refine wk (tw @kO.eq_1 @lM) ?_;(repeat(refine Pn.mk ?_;intro N hN))))
 refine .inr (bp _ _ _ _ _ (fun r σ1 hq=>?_) (HS cnt wS hn (-1) ⟨266002000,n0+1+1⟩ _ (sd @Nat.zero_add) (by(try dsimp only);omega)))
 obtain⟨o,rfl,ho,Ju,Jv,js⟩:=hq
 (try dsimp only at ho Ju Jv js)
 refine hN _ _ ?_
 clear hN N
 have oL:=dD Jv
 have oR:(cnt:Int)<=1048576:=by omega
 have Oo:pd<pd+cnt:=by omega
 have gr:List.replicate cnt [AV.int .i64 (-1)]=dH (fun _=>-1) cnt:=by
  refine List.ext_getElem? fun i=>?_
  by_cases h:i<cnt
  ·rw[dC h,List.getElem?_replicate,if_pos h];rfl
  ·rw[List.getElem?_eq_none (by simp;omega),List.getElem?_eq_none (by rw[dt];omega)]
 rw[gr]at ho
 have Ac:(dH (fun _=>-1) cnt).set x (br (x:Int))=dH (fun v=>if v=x then(x:Int)else -1) cnt:=kA hx (if_pos rfl) fun v _ hv=>if_neg hv
 have hg0:=dC (f:=fun _=>-1) hx
 have tl0:=dt (fun _=>-1) cnt
 rw[br]at Ac hg0
 (try((repeat(revert hN;revert N;apply Pn.out));refine wk (tw @kO.eq_1 (tw @lM (tw @jk (tw @oR @oL)))) ?_;(repeat(refine Pn.mk ?_;intro N hN))))
 refine It ?_
 simp only[go_sem, ↓reduceIte,Nat.reduceEqDiff,Nat.reduceAdd,Nat.reduceSub,Nat.reduceLeDiff,reduceCtorEq,Oo]
 refine hN _ _ ?_
 clear hN N
 (try((repeat(revert hN;revert N;apply Pn.out));refine wk (tw @ho (tw @oL (tw @Ac (tw @hg0 (tw @tl0 @Bg))))) ?_;(repeat(refine Pn.mk ?_;intro N hN))))
 obtain⟨C,hC⟩:∃C:Id,C=⟨266003001,σ1.next+1⟩:=⟨_,rfl⟩
 have OM:=cr (a:=o) (b:=C) (by rw[hC];(try dsimp only);omega)
 have hCv:C.bQ=σ1.next+1:=by rw[hC]
 refine aQ (fun m env st=>∃(par:Nat->Int) (Q:List Nat) (i:Nat),m=cnt-i/\Bq cnt c f x par Q i/\st.get o=some ⟨true,1,dH par cnt⟩/\st.get C=some ⟨true,pd+cnt,(Q.drop i).map eN⟩/\σ1.next+1<st.next) cnt ⟨_,[x],0,rfl,Bq.start hx,sd @oL,by rw[hC];simp only[go_sem, ↓reduceIte,Nat.reduceEqDiff,Nat.reduceAdd,Nat.reduceSub,Nat.reduceLeDiff,reduceCtorEq,oL];rfl,by(try dsimp only);omega⟩ ?_
 rintro m env_b st_b ⟨par,Q,i,rfl,hB,bgo,bgC,bn⟩ bkp
 have b0:=bkp 0 (by kernel_rfl)
 have b1:=bkp 1 (by kernel_rfl)
 have b2:=bkp 2 (by kernel_rfl)
 have b7:=bkp 7 (by kernel_rfl)
 have b8:=bkp 8 (by kernel_rfl)
 have b9:=bkp 9 (by kernel_rfl)
 rw[<-hC]at b9
 simp only[go_sem, ↓reduceIte,Nat.reduceEqDiff,Nat.reduceAdd,Nat.reduceSub,Nat.reduceLeDiff,reduceCtorEq]at b0 b1 b2 b7 b8 b9
 clear bkp
 have hQn:=hB.len
 have kQ:=hB.ile
 have Qg:((Q.drop i).map eN).length=Q.length-i:=by simp
 by_cases hi:i<Q.length
 ·have jU:(0:Int)<((Q.length-i:Nat):Int):=by omega
  have qP:Q.drop i=Q[i]::Q.drop (i+1):=List.drop_eq_getElem_cons hi
  obtain⟨u,hu⟩:∃u,u=Q[i]:=⟨_,rfl⟩
  have hun:u<cnt:=by rw[hu];exact hB.lt _ (List.getElem_mem hi)
  rw[<-hu]at qP
  (try((repeat(revert hN;revert N;apply Pn.out));refine wk (tw @b0 (tw @b1 (tw @b2 (tw @b7 (tw @b8 (tw @b9 (tw @bgC (tw @Qg @jU)))))))) ?_;(repeat(refine Pn.mk ?_;intro N hN))))
  refine It ?_
  rw[qP,List.map_cons,show eN u=[.int .i64 (u:Int)]from rfl]at bgC
  simp only[go_sem, ↓reduceIte,Nat.reduceEqDiff,Nat.reduceAdd,Nat.reduceSub,Nat.reduceLeDiff,reduceCtorEq,b9,bgC]
  refine hN _ _ ?_
  clear hN N
  (try((repeat(revert hN;revert N;apply Pn.out));refine wk @b7 ?_;(repeat(refine Pn.mk ?_;intro N hN))))
  refine aQ (fun m env st=>∃(v:Nat) (par':Nat->Int) (Q':List Nat),m=cnt-v/\v<=cnt/\env 36=.int .i64 (v:Int)/\Bq cnt c f x par' Q' i/\(∃h:i<Q'.length,Q'[i]=u)/\st.get o=some ⟨true,1,dH par' cnt⟩/\st.get C=some ⟨true,pd+cnt,(Q'.drop (i+1)).map eN⟩/\σ1.next+1<st.next/\∀w,w<v->f u w<c u w->0<=par' w) cnt ⟨0,par,Q,rfl,Nat.zero_le _,by(simp only[go_sem, ↓reduceIte,Nat.reduceEqDiff,Nat.reduceAdd,Nat.reduceSub,Nat.reduceLeDiff,reduceCtorEq])<;>rfl,hB,⟨hi,hu.symm⟩,sd (tw @OM @bgo),sd @OM,by(try dsimp only);omega,fun w hw=>absurd hw (Nat.not_lt_zero w)⟩ ?_
  rintro m env_c st_c ⟨v,par',Q',rfl,hvn,c36,dr,⟨pN,Du⟩,wI,cgC,cn,dy⟩ ckp
  have c0:=ckp 0 (by kernel_rfl)
  have c1:=ckp 1 (by kernel_rfl)
  have c2:=ckp 2 (by kernel_rfl)
  have c7:=ckp 7 (by kernel_rfl)
  have c8:=ckp 8 (by kernel_rfl)
  have c9:=ckp 9 (by kernel_rfl)
  have jd:=ckp 10 (by kernel_rfl)
  have Lp:=ckp 35 (by kernel_rfl)
  simp only[go_sem, ↓reduceIte,Nat.reduceEqDiff,Nat.reduceAdd,Nat.reduceSub,Nat.reduceLeDiff,reduceCtorEq,b0,b1,b2,b7,b8,b9]at c0 c1 c2 c7 c8 c9 jd Lp
  clear ckp
  have tl:=dt par' cnt
  by_cases hv:(v:Int)<(cnt:Int)
  ·have B7:v<cnt:=by omega
   have L0:=dC (f:=par') B7
   have js:=LB cnt c f u v hun B7
   have hw:IntKind.i64.wrap ((v:Int)+1)=((v+1:Nat):Int):=aA (by omega)
   rw[br]at L0
   rw[kO]at js
   by_cases jK:par' v<0
   ·by_cases hr:f u v<c u v
    ·rw[decide_eq_true hr]at js
     have fc:(dH par' cnt).set v (br (u:Int))=dH (fun w=>if w=v then(u:Int)else par' w) cnt:=kA B7 (if_pos rfl) fun w _ hw=>if_neg hw
     rw[br]at fc
     have oJ:=dr.visit pN B7 jK (by rw[Du];exact hr)
     rw[Du]at oJ
     have hQ2:=oJ.len
     rw[List.length_append]at hQ2
     simp only[List.length_singleton]at hQ2
     have fU:pd+(Q'.drop (i+1)).length<pd+cnt:=by rw[List.length_drop];omega
     (repeat(first|((repeat(revert hN;revert N;apply Pn.out));refine wk (tw @kO.eq_1 (tw @c0 (tw @c7 (tw @c8 (tw @c9 (tw @jd (tw @c36 (tw @Lp (tw @hv (tw @wI (tw @L0 (tw @tl (tw @jK @fc))))))))))))) ?_;(repeat(refine Pn.mk ?_;intro N hN)))|((try apply Or.inl);refine⟨_,aj.x (js) (sd (tw @kO.eq_1 (tw @c0 (tw @c7 (tw @c8 (tw @c9 (tw @jd (tw @c36 (tw @Lp (tw @hv (tw @wI (tw @L0 (tw @tl (tw @jK @fc)))))))))))))),?_⟩;refine hN _ _ ?_;clear hN N)))
     refine It ?_
     have hq:(Q'.drop (i+1)).map eN++[[.int .i64 (v:Int)]]=((Q'++[v]).drop (i+1)).map eN:=by rw[List.drop_append_of_le_length (by omega),List.map_append];rfl
     simp only[go_sem, ↓reduceIte,Nat.reduceEqDiff,Nat.reduceAdd,Nat.reduceSub,Nat.reduceLeDiff,reduceCtorEq,c9,cgC,fU,OM,hq]
     refine hN _ _ ?_
     clear hN N
     (try((repeat(revert hN;revert N;apply Pn.out));refine wk (tw @c36 @hw) ?_;(repeat(refine Pn.mk ?_;intro N hN))))
     refine⟨_,?_,v+1,_,_,rfl,B7,sd @hw,oJ,⟨by rw[List.length_append];omega,by rw[List.getElem_append_left pN];exact Du⟩,sd @OM,sd @OM,by(try dsimp only);omega,fun w hw G7=>?_⟩
     ·omega
     ·by_cases Dv:w=v
      ·rw[if_pos Dv];omega
      ·rw[if_neg Dv];exact dy w (by omega) G7
    ·rw[decide_eq_false hr]at js
     (repeat(first|((repeat(revert hN;revert N;apply Pn.out));refine wk (tw @kO.eq_1 (tw @c0 (tw @c7 (tw @c8 (tw @c9 (tw @jd (tw @c36 (tw @Lp (tw @hv (tw @wI (tw @L0 (tw @tl (tw @jK @hw))))))))))))) ?_;(repeat(refine Pn.mk ?_;intro N hN)))|((try apply Or.inl);refine⟨_,aj.x (js) (sd (tw @kO.eq_1 (tw @c0 (tw @c7 (tw @c8 (tw @c9 (tw @jd (tw @c36 (tw @Lp (tw @hv (tw @wI (tw @L0 (tw @tl (tw @jK @hw)))))))))))))),?_⟩;refine hN _ _ ?_;clear hN N)))
     refine⟨_,?_,v+1,par',Q',rfl,B7,sd @hw,dr,⟨pN,Du⟩,sd @wI,sd @cgC,by(try dsimp only);omega,fun w hw G7=>?_⟩
     ·omega
     ·by_cases Dv:w=v
      ·subst Dv;exact absurd G7 hr
      ·exact dy w (by omega) G7
   ·(try((repeat(revert hN;revert N;apply Pn.out));refine wk (tw @kO.eq_1 (tw @c0 (tw @c7 (tw @c8 (tw @c9 (tw @jd (tw @c36 (tw @Lp (tw @hv (tw @wI (tw @L0 (tw @tl (tw @jK @hw))))))))))))) ?_;(repeat(refine Pn.mk ?_;intro N hN))))
    refine⟨_,?_,v+1,par',Q',rfl,B7,sd @hw,dr,⟨pN,Du⟩,sd @wI,sd @cgC,by(try dsimp only);omega,fun w hw G7=>?_⟩
    ·omega
    ·by_cases Dv:w=v
     ·subst Dv;omega
     ·exact dy w (by omega) G7
  ·have hvc:v=cnt:=by omega
   subst hvc
   (try((repeat(revert hN;revert N;apply Pn.out));refine wk (tw @c36 (tw @Lp @hv)) ?_;(repeat(refine Pn.mk ?_;intro N hN))))
   refine⟨_,?_,par',Q',i+1,rfl,dr.next pN fun w hw hr=>dy w hw (by rw[<-Du];exact hr),sd @wI,sd @cgC,by(try dsimp only);omega⟩
   omega
 ·have hiQ:i=Q.length:=by omega
  subst hiQ
  have jU:¬(0:Int)<((Q.length-Q.length:Nat):Int):=by omega
  have RN:=dC (f:=par) hy
  have tl:=dt par cnt
  rw[br]at RN
  by_cases jK:par y<0
  ·(try((repeat(revert hN;revert N;apply Pn.out));refine wk (tw @b0 (tw @b1 (tw @b2 (tw @b7 (tw @b8 (tw @b9 (tw @bgC (tw @Qg (tw @jU (tw @bgo (tw @RN (tw @tl (tw @QF @jK))))))))))))) ?_;(repeat(refine Pn.mk ?_;intro N hN))))
   exact⟨[.b4],sd @Nat.zero_add,.b4,kc _ _,.inl ⟨rfl,hB.cut hy jK⟩⟩
  ·(try((repeat(revert hN;revert N;apply Pn.out));refine wk (tw @b0 (tw @b1 (tw @b2 (tw @b7 (tw @b8 (tw @b9 (tw @bgC (tw @Qg (tw @jU (tw @bgo (tw @RN (tw @tl (tw @QF @jK))))))))))))) ?_;(repeat(refine Pn.mk ?_;intro N hN))))
   refine aQ (fun m env st=>∃(k:Nat) (out:List Nat) (p:Id),m=Q.idxOf k/\env 13=.int .i64 (k:Int)/\env 12=.own p 0 out.length/\st.get p=some ⟨true,1,out.map eN⟩/\p.bQ<st.next/\st_b.next<=p.bQ/\k∈Q/\tt c f Q y k out/\st.get o=some ⟨true,1,dH par cnt⟩) (Q.idxOf y) ⟨y,[y],⟨266017001,st_b.next+1+1⟩,rfl,by(simp only[go_sem, ↓reduceIte,Nat.reduceEqDiff,Nat.reduceAdd,Nat.reduceSub,Nat.reduceLeDiff,reduceCtorEq]),by(simp only[go_sem, ↓reduceIte,Nat.reduceEqDiff,Nat.reduceAdd,Nat.reduceSub,Nat.reduceLeDiff,reduceCtorEq])<;>rfl,by(simp only[go_sem, ↓reduceIte,Nat.reduceEqDiff,Nat.reduceAdd,Nat.reduceSub,Nat.reduceLeDiff,reduceCtorEq])<;>rfl,by(try dsimp only);omega,by(try dsimp only);omega,(hB.iff y hy).1 (by omega),tt.start ((hB.iff y hy).1 (by omega)),by(have Sq:=dD (i:=o) (n:=st_b.next) (by omega));simp only[go_sem, ↓reduceIte,Nat.reduceEqDiff,Nat.reduceAdd,Nat.reduceSub,Nat.reduceLeDiff,reduceCtorEq,Sq,bgo]⟩ ?_
   rintro m env_d st_d ⟨k,out,p,rfl,d13,d12,dgp,dpn,dpo,hkQ,ta,dgo⟩ dkp
   have d1:=dkp 1 (by kernel_rfl)
   have d8:=dkp 8 (by kernel_rfl)
   simp only[go_sem, ↓reduceIte,Nat.reduceEqDiff,Nat.reduceAdd,Nat.reduceSub,Nat.reduceLeDiff,reduceCtorEq,b1,b8]at d1 d8
   clear dkp
   have zk:=dD dpn
   have Ae:=dD (i:=o) (n:=st_d.next) (by omega)
   have dP:=cr (a:=o) (b:=p) (by omega)
   have Js:=ta.len hB.lt
   have fG:=hB.lt k hkQ
   have kR:(out.map eN).length=out.length:=by simp
   by_cases Qm:k=x
   ·have hd:decide ((k:Int)=(x:Int))=true:=decide_eq_true (by rw[Qm])
    have Sa:0<out.length:=by
     obtain⟨rest,h1,_⟩:=ta
     rw[<-List.length_reverse,h1];simp
    (try((repeat(revert hN;revert N;apply Pn.out));refine wk (tw @d1 (tw @d8 (tw @d12 (tw @d13 (tw @hd @Bool.not_true))))) ?_;(repeat(refine Pn.mk ?_;intro N hN))))
    refine .inr (bp _ _ _ _ _ (fun r σ2 hq=>?_) (Fe out Sa (by omega) p _ dgp (by(try dsimp only);omega)))
    obtain⟨RK,l5,GU⟩:=hq
    refine hN _ _ ?_
    clear hN N
    (try((repeat(revert hN;revert N;apply Pn.out));refine wk @d12 ?_;(repeat(refine Pn.mk ?_;intro N hN))))
    refine⟨[.own p 0 out.length],sd @d12,.sl (out.reverse.map eN),?_,.inr ⟨out.reverse,rfl,by subst Qm;exact ta.way hB.lt⟩⟩
    exact fj (sz:=1) RK (by simp) fun a=>LC _ 4 a
   ·have hd:decide ((k:Int)=(x:Int))=false:=decide_eq_false fun h=>Qm (by omega)
    obtain⟨u,huQ,hpu,yh,hr⟩:=hB.up k hkQ Qm
    have eJ:=dC (f:=par) fG
    rw[br,hpu]at eJ
    have hki:(k:Int)<(cnt:Int):=by omega
    have e1:out.length+1<=16777216:=by omega
    (try((repeat(revert hN;revert N;apply Pn.out));refine wk (tw @d1 (tw @d8 (tw @d12 (tw @d13 (tw @hd (tw @Bool.not_false (tw @dgo (tw @dgp (tw @eJ (tw @tl (tw @hki (tw @zk (tw @Ae (tw @dP (tw @kR @e1))))))))))))))) ?_;(repeat(refine Pn.mk ?_;intro N hN))))
    refine⟨_,yh,u,out++[u],⟨266021003,st_d.next+1+1⟩,rfl,sd @Nat.zero_add,by rw[List.length_append];simp only[go_sem, ↓reduceIte,Nat.reduceEqDiff,Nat.reduceAdd,Nat.reduceSub,Nat.reduceLeDiff,reduceCtorEq,List.length_cons,List.length_nil],by rw[List.map_append,List.map_cons,List.map_nil];simp only[go_sem, ↓reduceIte,Nat.reduceEqDiff,Nat.reduceAdd,Nat.reduceSub,Nat.reduceLeDiff,reduceCtorEq,eN],by(try dsimp only);omega,by(try dsimp only);omega,huQ,ta.step huQ yh hr,sd (tw @Ae (tw @dP @dgo))⟩
end Go.Proofs.YtgoelphibofcmaaGreat.V

namespace Go.Proofs.YtgoelphibofcmaaGreat.V
open Go.RowKit
attribute [local irreducible] dx wpOps gp Call
attribute [local go_sem] aH fC eG fW fV cF upd cj K.av cJ AV.cells AV.cell rowOf rowsOf part ld rowAt bj bY dz eb gT bE cZ er fS eU dp eh cX cW dR dS bH aW cN bG cQ cP ee ei ef cL bP cY ec bF aL cU cw gS bl cG bI aP dd aU dB AV.undef bw bB dV ea dI dG cE ep ev cq ek ej cR cV List.getD_cons_zero List.getD_cons_succ List.getD_nil List.all_cons List.all_nil Bool.and_true Bool.true_and Bool.and_self Bool.not_true Bool.not_false Option.map_some Option.map_none Option.bind_some Option.bind_none List.length_cons List.length_nil List.take_succ_cons List.take_zero List.take_nil List.drop_succ_cons List.drop_zero List.drop_nil List.head?_cons List.map_cons List.map_nil List.getElem?_cons_zero List.getElem?_cons_succ List.cons_append List.nil_append List.append_nil List.length_map List.set_cons_zero List.set_cons_succ Nat.reduceMul eq_self Int.toNat_natCast Int.natCast_nonneg and_self true_and and_true decide_true decide_false Bool.false_eq_true Nat.zero_add Nat.add_zero List.contains_cons List.contains_nil Bool.or_false Bool.false_or beq_self_eq_true Nat.reduceBEq ne_eq not_true_eq_false not_false_eq_true Id.mk.injEq false_and and_false Nat.reduceLT Int.reduceLE Int.reduceLT Int.reduceToNat Int.reduceNeg Int.reduceAdd Nat.le_refl List.length_append beq_true beq_false Bool.not_eq_eq_eq_not or_false false_or dO ah aq aI aZ bt ck aS bf aO aY cK bK
theorem zy (b:Nat):∀(l:List Nat) (a:Nat) (f:Nat->Nat->Int),lz f ((a::l)++[b])=jX (lz f (a::l)) ((a::l).getLast (by simp)) b
 |[],a,f=>rfl
 |c::l,a,f=>by
  rw[List.cons_append,List.cons_append,lz,<-List.cons_append,zy b l c (jX f a c),lz,List.getLast_cons_cons]
theorem Ea {p:List Nat} {f:Nat->Nat->Int} {i:Nat} (h1:1<=i) (hi:i<p.length):lz f (p.take (i+1))=jX (lz f (p.take i)) (p[i-1]'(by omega)) p[i]:=by
 rw[List.take_succ_eq_append_getElem hi]
 have gI:p.take i≠[]:=by
  intro h
  have:(p.take i).length=0:=by rw[h];rfl
  rw[List.length_take]at this;omega
 obtain⟨a,l,Qa⟩:∃a l,p.take i=a::l:=by
  cases h:p.take i with
  |nil=>exact absurd h gI
  |cons a l=>exact⟨a,l,rfl⟩
 have uh:(p.take i).getLast gI=p[i-1]'(by omega):=by
  rw[List.getLast_eq_getElem,List.getElem_take]
  congr 1
  rw[List.length_take];omega
 simp only[Qa]at uh ⊢
 rw[zy,uh]
theorem E9 (f:Nat->Nat->Int) (a b u v:Nat):jX f a b u v<=f u v+1/\f u v-1<=jX f a b u v:=by
 unfold jX bump
 split<;>split<;>constructor<;>omega
theorem lD:∀(p:List Nat) (f:Nat->Nat->Int) (u v:Nat),lz f p u v<=f u v+p.length/\f u v-p.length<=lz f p u v
 |[],f,u,v=>by simp[lz]
 |[_],f,u,v=>by simp[lz];omega
 |a::b::r,f,u,v=>by
  rw[lz]
  have h1:=lD (b::r) (jX f a b) u v
  have h2:=E9 f a b u v
  simp only[List.length_cons]at h1 ⊢
  omega
theorem mC.push {g g':Rows} {X o1 o2:Id} {R1 R2:Nat->Id} {n nb:Nat} {c f:Nat->Nat->Int} (I:D5 X o1 o2 R1 R2 n nb) (h:mC g X o1 o2 R1 R2 n c f) {a b:Nat} (ha:a<n) (hb:b<n) (po:a≠b) (hA:g' (R2 a)=some ⟨true,1,dH (bump f a b 1 a) n⟩) (hB:g' (R2 b)=some ⟨true,1,dH (bump (bump f a b 1) b a (-1) b) n⟩) (hf:∀i:Id,i.bQ<nb->(i=R2 a)=False->(i=R2 b)=False->g' i=g i):mC g' X o1 o2 R1 R2 n c (jX f a b):=by
 have ne:∀{i:Id} {s:Nat},i.site=s->(s==245005006)=false->∀a,a<n->(i=R2 a)=False:=fun {i s} hi hs a ha=>by
  simp only[eq_iff_iff,iff_false]
  rintro rfl
  rw[I.KY a ha]at hi
  subst hi
  simp at hs
 refine⟨(hf _ I.vx (ne I.sx (by decide) _ ha) (ne I.sx (by decide) _ hb)).trans h.x,(hf _ I.v1 (ne I.s1 (by decide) _ ha) (ne I.s1 (by decide) _ hb)).trans h.t1,(hf _ I.v2 (ne I.s2 (by decide) _ ha) (ne I.s2 (by decide) _ hb)).trans h.t2,fun i hi=>(hf _ (I.QL i hi) (ne (I.QJ i hi) (by decide) _ ha) (ne (I.QJ i hi) (by decide) _ hb)).trans (h.r1 i hi),fun i hi=>?_⟩
 by_cases IJ:i=b
 ·subst IJ;exact hB
 ·by_cases L3:i=a
  ·subst L3
   rw[hA,jX,jF IJ]
  ·rw[jX,jF IJ,jF L3,hf _ (I.NO i hi) (by simp only[eq_iff_iff,iff_false];exact fun he=>L3 (I.i2 i _ hi ha he)) (by simp only[eq_iff_iff,iff_false];exact fun he=>IJ (I.i2 i _ hi hb he))]
   exact h.r2 i hi
theorem MG (cnt:Nat) (wS:1<=cnt) (hn:cnt<=1048576) (c:Nat->Nat->Int) (hc:∀u v,u<cnt->v<cnt->0<=c u v/\c u v<=16777216) (x y:Nat) (hx:x<cnt) (hy:y<cnt) (O6:x≠y) (t:Int) (ht:t<=1099511627776)
  (X o1 o2:Id) (R1 R2:Nat->Id) (nb:Nat) (I:D5 X o1 o2 R1 R2 cnt nb) (σ:ar) (hM:mC σ.get X o1 o2 R1 R2 cnt c (fun _ _=>0)) (Qs:nb<=σ.next):
  Call Tryz.prog 246 [.ptr X 0 0,.int .i64 x,.int .i64 y,.int .i64 t] σ fun r σ'=>∃val:Int,r=.int .i64 val/\(val<t↔∃S:Nat->Bool,S x=true/\S y=false/\lE cnt S c<t)/\σ.next<=σ'.next:=by
 refine iF eI rfl fun hl=>?_
 clear hl
 have hxS:(fun v=>decide (v=x)) x=true:=by simp
 have hyS:(fun v=>decide (v=x)) y=false:=by simp;exact fun h=>O6 h.symm
 obtain⟨top,Sk⟩:∃top,top=lE cnt (fun v=>decide (v=x)) c:=⟨_,rfl⟩
 (try((repeat(revert hN;revert N;apply Pn.out));refine wk @Nat.zero_add ?_;(repeat(refine Pn.mk ?_;intro N hN))))
 refine aQ (fun m env st=>∃(k:Nat) (f:Nat->Nat->Int),m=(top-k).toNat/\env 9=.int .i64 (k:Int)/\kK cnt c f x y k/\mC st.get X o1 o2 R1 R2 cnt c f/\σ.next<=st.next/\(0<k->(k:Int)<=t)/\∀u v,-((k:Int)*(cnt:Int))<=f u v) (top-0).toNat ⟨0,fun _ _=>0,rfl,by(simp only[go_sem, ↓reduceIte,Nat.reduceEqDiff,Nat.reduceAdd,Nat.reduceSub,Nat.reduceLeDiff,reduceCtorEq])<;>rfl,kK.zero fun u v hu hv=>(hc u v hu hv).1,hM,by(try dsimp only);omega,fun h=>absurd h (Nat.lt_irrefl 0),fun u v=>by simp⟩ ?_
 rintro m env_b st_b ⟨k,f,rfl,b9,hF,bM,bn,bk,blo⟩ bkp
 have b0:=bkp 0 (by kernel_rfl)
 have b1:=bkp 1 (by kernel_rfl)
 have b2:=bkp 2 (by kernel_rfl)
 have b3:=bkp 3 (by kernel_rfl)
 simp only[go_sem, ↓reduceIte,Nat.reduceEqDiff,Nat.reduceAdd,Nat.reduceSub,Nat.reduceLeDiff,reduceCtorEq]at b0 b1 b2 b3
 clear bkp
 have hz:da (dO st_b.get) 6 [.ptr X 0 0,.int .i64 (x:Int),.int .i64 (y:Int)]=some [.cI (kO cnt c f),.int .i64 x,.int .i64 y]:=by simp only[ah,aq,bM.fz,aI,Option.map_some]
 (try((repeat(revert hN;revert N;apply Pn.out));refine wk (tw @b0 (tw @b1 (tw @b2 (tw @b3 @b9)))) ?_;(repeat(refine Pn.mk ?_;intro N hN))))
 refine .inr (bp _ _ _ _ _ (fun r σ1 hq=>?_) ((PA cnt wS hn c f x y hx hy).x mixed hz))
 obtain⟨Md,rfl⟩:=hq
 refine hN _ _ ?_
 clear hN N
 rcases Md with⟨rfl,S,LU,LV,P7⟩|⟨p,rfl,hW⟩
 ·(try((repeat(revert hN;revert N;apply Pn.out));refine wk (tw @b0 (tw @b1 (tw @b2 (tw @b3 (tw @b9 (tw @Bool.not_true @Bool.not_false)))))) ?_;(repeat(refine Pn.mk ?_;intro N hN))))
  refine iE (.inl rfl) (vs:=[.int .i64 (k:Int)]) (sd @Nat.zero_add) ⟨(k:Int),rfl,⟨fun h=>⟨S,LU,LV,by rw[<-hF.full LU LV P7];exact h⟩,fun⟨S',h1,h2,h3⟩=>by have:=hF.bound h1 h2;omega⟩,by(try dsimp only);omega⟩
 ·obtain⟨⟨rs,rfl,uh⟩,oe,fU,hplt⟩:=hW
  by_cases Jq:t<=(k:Int)
  ·(try((repeat(revert hN;revert N;apply Pn.out));refine wk (tw @b0 (tw @b1 (tw @b2 (tw @b3 (tw @b9 (tw @Jq (tw @Bool.not_true @Bool.not_false))))))) ?_;(repeat(refine Pn.mk ?_;intro N hN))))
   refine iE (.inl rfl) (vs:=[.int .i64 (k:Int)]) (sd @Nat.zero_add) ⟨(k:Int),rfl,⟨fun h=>by omega,fun⟨S',h1,h2,h3⟩=>by have:=hF.bound h1 h2;omega⟩,by(try dsimp only);omega⟩
  ·(try((repeat(revert hN;revert N;apply Pn.out));refine wk (tw @b0 (tw @b1 (tw @b2 (tw @b3 (tw @b9 (tw @Jq (tw @Bool.not_true @Bool.not_false))))))) ?_;(repeat(refine Pn.mk ?_;intro N hN))))
   have lr:=nM cnt _ oe hplt
   have hkc:(k:Int)*(cnt:Int)<=1099511627776*1048576:=Int.mul_le_mul (by omega) (by omega) (by omega) (by omega)
   have hfb:=hF.bound (S:=fun v=>decide (v=x)) hxS hyS
   have hnear:=lD
   obtain⟨p,hp⟩:∃p,p=x::rs:=⟨_,rfl⟩
   have hmp:eN x::List.map eN rs=p.map eN:=by rw[hp];rfl
   rw[hmp]
   have Ma:1<=p.length:=by rw[hp];simp
   have Jg:=hF.aug uh oe fU hplt
   rw[<-hp]at Jg oe fU hplt lr
   have Mi:p.take 1=[x]:=by rw[hp];rfl
   clear hmp uh
   refine aQ (fun m env st=>∃i:Nat,m=p.length-i/\1<=i/\i<=p.length/\env 11=.int .i64 (i:Int)/\mC st.get X o1 o2 R1 R2 cnt c (lz f (p.take i))/\st_b.next<=st.next) (p.length-1) ⟨1,rfl,Nat.le_refl _,Ma,by(simp only[go_sem, ↓reduceIte,Nat.reduceEqDiff,Nat.reduceAdd,Nat.reduceSub,Nat.reduceLeDiff,reduceCtorEq])<;>rfl,by rw[Mi];exact bM,by(try dsimp only);omega⟩ ?_
   rintro m env_c st_c ⟨i,rfl,Jn,kQ,mK,cM,cn⟩ ckp
   have c0:=ckp 0 (by kernel_rfl)
   have c1:=ckp 1 (by kernel_rfl)
   have c2:=ckp 2 (by kernel_rfl)
   have c3:=ckp 3 (by kernel_rfl)
   have c9:=ckp 9 (by kernel_rfl)
   have jd:=ckp 10 (by kernel_rfl)
   simp only[go_sem, ↓reduceIte,Nat.reduceEqDiff,Nat.reduceAdd,Nat.reduceSub,Nat.reduceLeDiff,reduceCtorEq,b0,b1,b2,b3,b9]at c0 c1 c2 c3 c9 jd
   clear ckp
   have kR:(p.map eN).length=p.length:=by simp
   by_cases hi:(i:Int)<(p.length:Int)
   ·have e9:i<p.length:=by omega
    have vZ:=Ea (f:=f) Jn e9
    obtain⟨a,ha⟩:∃a,a=p[i-1]'(by omega):=⟨_,rfl⟩
    obtain⟨b,hb⟩:∃b,b=p[i]:=⟨_,rfl⟩
    have Dk:a<cnt:=by rw[ha];exact hplt _ (List.getElem_mem _)
    have Dm:b<cnt:=by rw[hb];exact hplt _ (List.getElem_mem _)
    have po:a≠b:=by
     rw[ha,hb]
     exact List.pairwise_iff_getElem.1 oe (i-1) i (by omega) e9 (by omega)
    have OB:(p.map eN)[i-1]? =some [.int .i64 (a:Int)]:=by rw[List.getElem?_map,List.getElem?_eq_getElem (by omega),ha];rfl
    have OC:(p.map eN)[i]? =some [.int .i64 (b:Int)]:=by rw[List.getElem?_map,List.getElem?_eq_getElem e9,hb];rfl
    rw[<-ha,<-hb]at vZ
    have RY:=lD (p.take i) f a b
    have RZ:=lD (p.take i) f b a
    rw[List.length_take]at RY RZ
    have hl1:=blo b a
    have RQ:=blo a b
    have OZ:=hF.le a b Dk Dm
    have hu2:=hF.le b a Dm Dk
    have hca:=hc a b Dk Dm
    have Dn:=hc b a Dm Dk
    generalize lz f (p.take i)=fl at *
    have gA:=qH (R:=R2) (n:=cnt) Dk
    have gB:=qH (R:=R2) (n:=cnt) Dm
    have rA:=cM.r2 _ Dk
    have rB:=cM.r2 _ Dm
    have cA:=dC (f:=fl a) Dm
    have cB:=dC (f:=fl b) Dk
    have sA:=nw (f:=fl) (a:=a) (d:=1) Dm
    have L8:bump fl a b 1 b=fl b:=jF fun h=>po h.symm
    have sB:=nw (f:=bump fl a b 1) (a:=b) (b:=a) (d:=-1) (n:=cnt) Dk
    rw[L8]at sB
    have gX:=cM.x
    have g2:=cM.t2
    have gq:(a:Int)<(cnt:Int):=by omega
    have fA:(b:Int)<(cnt:Int):=by omega
    have QD:IntKind.i64.wrap ((i:Int)-1)=((i-1:Nat):Int):=by rw[bW (by omega)];omega
    have wP:((i-1:Nat):Int)<(p.length:Int):=by omega
    have wA:IntKind.i64.wrap (fl a b+1)=fl a b+1:=bW (by omega)
    have wB:IntKind.i64.wrap (fl b a-1)=fl b a+-1:=by rw[bW (by omega)];omega
    have O4:IntKind.i64.wrap ((i:Int)+1)=((i+1:Nat):Int):=aA (by omega)
    have l2:=jO R2 cnt cnt
    have lA:=dt (fl a) cnt
    have lB:=dt (fl b) cnt
    have gI:(R2 a=R2 b)=False:=by simp only[eq_iff_iff,iff_false];exact fun h=>po (I.i2 _ _ Dk Dm h)
    have GZ:(R2 b=R2 a)=False:=by simp only[eq_iff_iff,iff_false];exact fun h=>po (I.i2 _ _ Dk Dm h.symm)
    have xA:=yS I.sx (I.KY a Dk) (by decide)
    have xB:=yS I.sx (I.KY b Dm) (by decide)
    have yA:=yS I.s2 (I.KY a Dk) (by decide)
    have yB:=yS I.s2 (I.KY b Dm) (by decide)
    have qX:=dD (i:=X) (n:=st_c.next) (by have:=I.vx;omega)
    have q2:=dD (i:=o2) (n:=st_c.next) (by have:=I.v2;omega)
    have qA:=dD (i:=R2 a) (n:=st_c.next) (by have:=I.NO a Dk;omega)
    have qB:=dD (i:=R2 b) (n:=st_c.next) (by have:=I.NO b Dm;omega)
    rw[br]at cA cB sA sB
    (try((repeat(revert hN;revert N;apply Pn.out));refine wk (tw @c0 (tw @c9 (tw @jd (tw @mK (tw @kR (tw @hi (tw @wP (tw @OB (tw @OC (tw @gA (tw @gB (tw @rA (tw @rB (tw @cA (tw @cB (tw @sA (tw @sB (tw @gX (tw @g2 (tw @gq (tw @fA (tw @QD (tw @wA (tw @wB (tw @O4 (tw @l2 (tw @lA (tw @lB (tw @gI (tw @GZ (tw @xA (tw @xB (tw @yA (tw @yB (tw @qX (tw @q2 (tw @qA @qB))))))))))))))))))))))))))))))))))))) ?_;(repeat(refine Pn.mk ?_;intro N hN))))
    refine⟨_,?_,i+1,rfl,by omega,by omega,sd @O4,?_,by(try dsimp only);omega⟩
    ·omega
    ·rw[vZ]
     refine cM.push I Dk Dm po ?_ ?_ fun j hj h1 h2=>?_
     ·simp only[go_sem, ↓reduceIte,Nat.reduceEqDiff,Nat.reduceAdd,Nat.reduceSub,Nat.reduceLeDiff,reduceCtorEq,gI]
     ·simp only[go_sem, ↓reduceIte,Nat.reduceEqDiff,Nat.reduceAdd,Nat.reduceSub,Nat.reduceLeDiff,reduceCtorEq,gI]
     ·simp only[go_sem, ↓reduceIte,Nat.reduceEqDiff,Nat.reduceAdd,Nat.reduceSub,Nat.reduceLeDiff,reduceCtorEq,h1,h2]
   ·have FK:i=p.length:=by omega
    subst FK
    rw[List.take_length]at cM
    have Mn:IntKind.i64.wrap ((k:Int)+1)=((k+1:Nat):Int):=aA (by omega)
    have RG:=Jg.bound (S:=fun v=>decide (v=x)) hxS hyS
    (try((repeat(revert hN;revert N;apply Pn.out));refine wk (tw @c0 (tw @c9 (tw @jd (tw @mK (tw @kR (tw @hi @Mn)))))) ?_;(repeat(refine Pn.mk ?_;intro N hN))))
    refine⟨_,?_,k+1,_,rfl,sd @Mn,by rw[Int.natCast_add];exact Jg,cM,by(try dsimp only);omega,fun _=>by omega,fun u v=>?_⟩
    ·rw[<-Sk]at RG;omega
    ·have h1:=(lD p f u v).2
     have h2:=blo u v
     rw[Int.natCast_add,Int.add_mul]
     omega
end Go.Proofs.YtgoelphibofcmaaGreat.V

namespace Go.Proofs.YtgoelphibofcmaaGreat.V
open Go.RowKit
attribute [local irreducible] dx wpOps gp Call
attribute [local go_sem] aH fC eG fW fV cF upd cj K.av cJ AV.cells AV.cell rowOf rowsOf part ld rowAt bj bY dz eb gT bE cZ er fS eU dp eh cX cW dR dS bH aW cN bG cQ cP ee ei ef cL bP cY ec bF aL cU cw gS bl cG bI aP dd aU dB AV.undef bw bB dV ea dI dG cE ep ev cq ek ej cR cV List.getD_cons_zero List.getD_cons_succ List.getD_nil List.all_cons List.all_nil Bool.and_true Bool.true_and Bool.and_self Bool.not_true Bool.not_false Option.map_some Option.map_none Option.bind_some Option.bind_none List.length_cons List.length_nil List.take_succ_cons List.take_zero List.take_nil List.drop_succ_cons List.drop_zero List.drop_nil List.head?_cons List.map_cons List.map_nil List.getElem?_cons_zero List.getElem?_cons_succ List.cons_append List.nil_append List.append_nil List.length_map List.set_cons_zero List.set_cons_succ Nat.reduceMul eq_self Int.toNat_natCast Int.natCast_nonneg and_self true_and and_true decide_true decide_false Bool.false_eq_true Nat.zero_add Nat.add_zero List.contains_cons List.contains_nil Bool.or_false Bool.false_or beq_self_eq_true Nat.reduceBEq ne_eq not_true_eq_false not_false_eq_true Id.mk.injEq false_and and_false Nat.reduceLT Int.reduceLE Int.reduceLT Int.reduceToNat Int.reduceNeg Int.reduceAdd Nat.le_refl List.length_append beq_true beq_false Bool.not_eq_eq_eq_not or_false false_or dO ah aq aI aZ bt ck aS bf aO aY cK bK
noncomputable def so (n:Nat) (bs:List PB) (t:Int):Bool:=@decide (j7 n bs t) (Classical.propDecidable _)
theorem wT {n:Nat} {bs:List PB} {t:Int} (h:j7 n bs t):true=so n bs t:=by simp[so,h]
theorem z8 {n:Nat} {bs:List PB} {t:Int} (h:¬j7 n bs t):false=so n bs t:=by simp[so,h]
theorem Jt (cnt:Nat) (hn:cnt<=1048576) (bs:List PB) (hb:∀b∈bs,b.a<cnt/\b.b<cnt) (dv:∀b∈bs,0<=b.s/\b.s<=4) (oQ:bs.length<=1048576) (t:Int) (ht:t<=1099511627776):
  aj Tryz.prog 223 [.int .i64 cnt,.sl (bs.map aw),.int .i64 t] (.bool (so cnt bs t)):=by
 refine aj.body eI rfl fun hl n0=>?_
 clear hl
 have pq:=yK bs (fun _ _=>0) (fun b h=>(dv b h).1) (fun _ _=>Int.le_refl _)
 have hle:=room_le bs (fun _ _=>0) 0 (fun b h=>(dv b h).2) (fun _ _=>Int.le_refl _) (Int.le_refl _)
 have fU:bs.foldl mH (fun _ _=>0)=kp bs:=rfl
 rw[fU]at pq hle
 (try((repeat(revert hN;revert N;apply Pn.out));refine wk @Nat.zero_add ?_;(repeat(refine Pn.mk ?_;intro N hN))))
 refine aQ (fun m env st=>∃y:Nat,m=cnt+1-y/\1<=y/\env 7=.int .i64 (y:Int)/\y<=cnt+1/\∀z,1<=z->z<y->z<cnt->∀S:Nat->Bool,S 0=true->S z=false->t<=iM S bs) (cnt+1-1) ⟨1,rfl,Nat.le_refl _,by(simp only[go_sem, ↓reduceIte,Nat.reduceEqDiff,Nat.reduceAdd,Nat.reduceSub,Nat.reduceLeDiff,reduceCtorEq])<;>rfl,by omega,fun z h1 h2=>by omega⟩ ?_
 rintro m env_b st_b ⟨y,rfl,hy1,b7,hyl,dy⟩ bkp
 have b0:=bkp 0 (by kernel_rfl)
 have b1:=bkp 1 (by kernel_rfl)
 have b2:=bkp 2 (by kernel_rfl)
 simp only[go_sem, ↓reduceIte,Nat.reduceEqDiff,Nat.reduceAdd,Nat.reduceSub,Nat.reduceLeDiff,reduceCtorEq]at b0 b1 b2
 clear bkp
 by_cases hy:(y:Int)<(cnt:Int)
 ·have hyn:y<cnt:=by omega
  (try((repeat(revert hN;revert N;apply Pn.out));refine wk (tw @b0 (tw @b1 (tw @b2 (tw @b7 @hy)))) ?_;(repeat(refine Pn.mk ?_;intro N hN))))
  refine .inr (bp _ _ _ _ _ (fun r σ1 hq=>?_) (AB cnt (by omega) hn bs hb dv oQ _))
  obtain⟨X,o1,o2,R1,R2,rfl,I,ED,hM,_⟩:=hq
  refine hN _ _ ?_
  clear hN N
  (try((repeat(revert hN;revert N;apply Pn.out));refine wk (tw @b0 (tw @b1 (tw @b2 @b7))) ?_;(repeat(refine Pn.mk ?_;intro N hN))))
  have OS:=MG cnt (by omega) hn (kp bs) (fun u v _ _=>⟨pq u v,by have:=hle u v;omega⟩) 0 y (by omega) hyn (by omega) t ht X o1 o2 R1 R2 σ1.next I
  refine .inr (bp _ _ _ _ _ (fun r σ2 hq=>?_) (OS _ hM (by(try dsimp only);omega)))
  obtain⟨val,rfl,rE,l5⟩:=hq
  refine hN _ _ ?_
  clear hN N
  by_cases dE:val<t
  ·(try((repeat(revert hN;revert N;apply Pn.out));refine wk (tw @b0 (tw @b1 (tw @b2 (tw @b7 @dE)))) ?_;(repeat(refine Pn.mk ?_;intro N hN))))
   obtain⟨S,h1,h2,h3⟩:=rE.1 dE
   rw[zJ hb]at h3
   exact aM (b:=false) (.inl rfl) (sd @Nat.zero_add) (z8 fun h=>by have:=h S h1 ⟨y,hyn,h2⟩;omega)
  ·have hw:IntKind.i64.wrap ((y:Int)+1)=((y+1:Nat):Int):=aA (by omega)
   (try((repeat(revert hN;revert N;apply Pn.out));refine wk (tw @b0 (tw @b1 (tw @b2 (tw @b7 (tw @dE @hw))))) ?_;(repeat(refine Pn.mk ?_;intro N hN))))
   refine⟨_,?_,y+1,rfl,by omega,sd (tw @b7 @hw),by omega,fun z h1 h2 h3 S LU LV=>?_⟩
   ·omega
   ·by_cases hzy:z=y
    ·subst hzy
     rcases Int.lt_or_le (iM S bs) t with h|h
     ·exact absurd (rE.2 ⟨S,LU,LV,by rw[zJ hb];exact h⟩) dE
     ·exact h
    ·exact dy z h1 (by omega) h3 S LU LV
 ·(try((repeat(revert hN;revert N;apply Pn.out));refine wk (tw @b0 (tw @b1 (tw @b2 (tw @b7 @hy)))) ?_;(repeat(refine Pn.mk ?_;intro N hN))))
  exact aM (b:=true) (.inl rfl) (sd @Nat.zero_add) (wT fun S h0 ⟨z,hz,hzf⟩=>by
   have:z≠0:=by rintro rfl;rw[h0]at hzf;cases hzf
   exact dy z (by omega) (by omega) hz S h0 hzf)
theorem G0 (cnt:Nat) (hn:cnt<=1048576) (bs:List PB) (hb:∀b∈bs,b.a<cnt/\b.b<cnt) (dv:∀b∈bs,0<=b.s/\b.s<=4) (oQ:bs.length<=1048576) (t:Int) (ht:t<=1099511627776):
  aj Tryz.prog 223 [.int .i64 cnt,yP bs,.int .i64 t] (.bool (so cnt bs t)):=by
 have h:=Jt cnt hn bs hb dv oQ t ht
 cases bs with
 |nil=>exact h.cut mixed (.same _ (.b4 (.same _ .nil)))
 |cons b r=>rw[yQ (by simp)];exact h
end Go.Proofs.YtgoelphibofcmaaGreat.V

namespace Go.Proofs.YtgoelphibofcmaaGreat.V
open Go.RowKit
attribute [local irreducible] dx wpOps gp Call
attribute [local go_sem] aH fC eG fW fV cF upd cj K.av cJ AV.cells AV.cell rowOf rowsOf part ld rowAt bj bY dz eb gT bE cZ er fS eU dp eh cX cW dR dS bH aW cN bG cQ cP ee ei ef cL bP cY ec bF aL cU cw gS bl cG bI aP dd aU dB AV.undef bw bB dV ea dI dG cE ep ev cq ek ej cR cV List.getD_cons_zero List.getD_cons_succ List.getD_nil List.all_cons List.all_nil Bool.and_true Bool.true_and Bool.and_self Bool.not_true Bool.not_false Option.map_some Option.map_none Option.bind_some Option.bind_none List.length_cons List.length_nil List.take_succ_cons List.take_zero List.take_nil List.drop_succ_cons List.drop_zero List.drop_nil List.head?_cons List.map_cons List.map_nil List.getElem?_cons_zero List.getElem?_cons_succ List.cons_append List.nil_append List.append_nil List.length_map List.set_cons_zero List.set_cons_succ Nat.reduceMul eq_self Int.toNat_natCast Int.natCast_nonneg and_self true_and and_true decide_true decide_false Bool.false_eq_true Nat.zero_add Nat.add_zero List.contains_cons List.contains_nil Bool.or_false Bool.false_or beq_self_eq_true Nat.reduceBEq ne_eq not_true_eq_false not_false_eq_true Id.mk.injEq false_and and_false Nat.reduceLT Int.reduceLE Int.reduceLT Int.reduceToNat Int.reduceNeg Int.reduceAdd Nat.le_refl List.length_append beq_true beq_false Bool.not_eq_eq_eq_not or_false false_or dO ah aq aI aZ bt ck aS bf aO aY cK bK
def Bh:Prop:=∀(s:au) (l:List ad),ig s->jn s l->aj Tryz.prog 222 [.agg (aa s),.agg [.sl (l.map ab)]] (yP (cz s l))
noncomputable def tj (s:au) (l:List ad) (t:Int):Bool:=if 64<gU s l t then false else so (gU s l t) (dh (dX (aF t (cz s l))) (cz s l)) t
theorem Ca (s:au) (l:List ad) (t:Int):tj s l t=mB s l t:=by
 letI:=Classical.propDecidable (n9 l.length (cz s l) t)
 unfold tj
 by_cases h:64<gU s l t
 ·rw[if_pos h]
  exact(lO (p:=False) ⟨False.elim,fun k=>by have:=k.1;unfold gU at h;omega⟩).symm.trans (by simp) |>.symm
 ·rw[if_neg h]
  by_cases hp:j7 (gU s l t) (dh (dX (aF t (cz s l))) (cz s l)) t
  ·rw[<-wT hp]
   exact((lO (p:=True) ⟨fun _=>⟨by unfold gU at h;omega,hp⟩,fun _=>trivial⟩).symm.trans (by simp)).symm
  ·rw[<-z8 hp]
   exact((lO (p:=False) ⟨False.elim,fun k=>hp k.2⟩).symm.trans (by simp)).symm
theorem H3 (Q8:Bh) (s:au) (l:List ad) (t:Int) (ht:t<=1099511627776) (h1:1<=l.length) (hS:ig s) (hA:jn s l):aj Tryz.prog 197 [.agg (aa s),.agg [.sl (l.map ab)],.int .i64 t] (.gn [.bool (mB s l t),.bool (decide ¬64<gU s l t)]):=by
 rw[<-Ca]
 refine aj.body eI rfl fun hl n0=>?_
 clear hl
 have hb:=wD (l:=l) hS
 have oQ:=oZ (s:=s) hA.1
 have GQ:=hA.1.rf
 have vp:=Q8 s l hS hA
 have Oo:=xX l.length h1 (by omega) (cz s l) (fun b h=>⟨(hb b h).1,(hb b h).2.1⟩) (by omega) t
 have hL:=su (aF t (cz s l))
 have e9:=CB hL (fun b h=>⟨(hb b h).1,(hb b h).2.1⟩)
 have hlen:=(mb (dX (aF t (cz s l))) (cz s l)).1
 have nH:=ju l.length (dX (aF t (cz s l)))
 have hho:=G0 (gU s l t) (by unfold gU;omega) (dh (dX (aF t (cz s l))) (cz s l)) (fun b h=>⟨(e9 b h).1,(e9 b h).2.1⟩) (fun b h=>by
  obtain⟨_,_,_,c,hc,dn⟩:=e9 b h
  rw[dn];have:=hb c hc;omega) (by omega) t ht
 have fH:(l.map ab).length=l.length:=by simp
 have hzB:∀(g:Rows) (n:Nat) (bs:List PB),V.fz g (n+1) (yP bs)=some (yP bs):=fun g n bs=>by
  unfold yP;split
  ·exact aS _ _
  ·exact ck _ _ _
 rw[aa]at vp
 rw[<-gU]at Oo
 have wZ:∀(g:Rows) (x:Int),da (dO g) 6 [.int .i64 l.length,yP (cz s l),.int .i64 x]=some [.int .i64 l.length,yP (cz s l),.int .i64 x]:=fun g x=>by simp only[ah,aq,aI,hzB,Option.map_some]
 have hzh:∀(g:Rows) (x y:Int),da (dO g) 6 [.int .i64 x,yP (dh (dX (aF t (cz s l))) (cz s l)),.int .i64 y]=some [.int .i64 x,yP (dh (dX (aF t (cz s l))) (cz s l)),.int .i64 y]:=fun g x y=>by simp only[ah,aq,aI,hzB,Option.map_some]
 generalize yP (cz s l)=B1 at *
 generalize yP (dh (dX (aF t (cz s l))) (cz s l))=B2 at *
 by_cases sP:(64:Int)<(gU s l t:Int)
 ·have sQ:64<gU s l t:=by omega
  (repeat(first|((repeat(revert hN;revert N;apply Pn.out));refine wk (tw @aa.eq_1 (tw @sP @fH)) ?_;(repeat(refine Pn.mk ?_;intro N hN)))|((try apply Or.inl);refine⟨_,aj.x (vp) (sd (tw @aa.eq_1 (tw @sP @fH))),?_⟩;refine hN _ _ ?_;clear hN N)))
  refine⟨_,aj.x Oo (wZ _ _),?_⟩
  refine hN _ _ ?_
  clear hN N
  (try((repeat(revert hN;revert N;apply Pn.out));refine wk @sP ?_;(repeat(refine Pn.mk ?_;intro N hN))))
  exact gP (.inl rfl) (r1:=.bool false) (r2:=.bool false) (sd @Nat.zero_add) (sd @Nat.zero_add) (by rw[tj,if_pos sQ,decide_eq_false fun h=>h sQ];simp only[eo,aX,bD,eF,Option.map_some])
 ·have sQ:¬64<gU s l t:=by omega
  (repeat(first|((repeat(revert hN;revert N;apply Pn.out));refine wk (tw @aa.eq_1 (tw @sP @fH)) ?_;(repeat(refine Pn.mk ?_;intro N hN)))|((try apply Or.inl);refine⟨_,aj.x (vp) (sd (tw @aa.eq_1 (tw @sP @fH))),?_⟩;refine hN _ _ ?_;clear hN N)))
  refine⟨_,aj.x Oo (wZ _ _),?_⟩
  refine hN _ _ ?_
  clear hN N
  (try((repeat(revert hN;revert N;apply Pn.out));refine wk @sP ?_;(repeat(refine Pn.mk ?_;intro N hN))))
  refine .inl ⟨_,aj.x hho (hzh _ _ _),?_⟩
  refine hN _ _ ?_
  clear hN N
  (try((repeat(revert hN;revert N;apply Pn.out));refine wk @Nat.zero_add ?_;(repeat(refine Pn.mk ?_;intro N hN))))
  exact gP (.inl rfl) (r1:=.bool (so (gU s l t) (dh (dX (aF t (cz s l))) (cz s l)) t)) (r2:=.bool true) (sd @Nat.zero_add) (sd @Nat.zero_add) (by rw[tj,if_neg sQ,decide_eq_true sQ];simp only[eo,aX,bD,eF,Option.map_some])
theorem sU (t:Int):aj Tryz.prog 196 [.int .i64 t] (.bool (iI t 1 16)):=by
 refine aj.body eI rfl fun hl n0=>?_
 clear hl
 have h:=kB t 1 16
 (repeat(first|((repeat(revert hN;revert N;apply Pn.out));refine wk @Nat.zero_add ?_;(repeat(refine Pn.mk ?_;intro N hN)))|((try apply Or.inl);refine⟨_,aj.x (h) (sd @Nat.zero_add),?_⟩;refine hN _ _ ?_;clear hN N)))
 exact aM (b:=iI t 1 16) (.inl rfl) (sd @Nat.zero_add) rfl
theorem vI (Q8:Bh) (s:aC) (hn:gx s.aK) (hg:s.aK.ay.length<=1048576) (ht:s.aK.ai.length<=1048576) (hs:∀t∈s.aK.ai,t.bV.length<=1048576) (hl:s.bc.ai.length<=1048576):aj Tryz.prog 105 [.agg (ax s)] (.bool (me s)):=by
 refine aj.body eI rfl fun mN n0=>?_
 clear mN
 by_cases h0:(s.bc.ai.length:Int)=0
 ·have hd:decide ((s.bc.ai.length:Int)=0)=true:=decide_eq_true h0
  (try((repeat(revert hN;revert N;apply Pn.out));refine wk (tw @ax.eq_1 @hd) ?_;(repeat(refine Pn.mk ?_;intro N hN))))
  exact aM (b:=false) (.inl rfl) (sd @Nat.zero_add) (jD fun h=>by have:=h.some;omega)
 have hd:decide ((s.bc.ai.length:Int)=0)=false:=decide_eq_false h0
 have LW:=mm s.aK s.bc.ai hn hg ht hs hl
 have Oe:=sU s.az
 have key:aj Tryz.prog 163 [.agg (aa s.aK),.agg [.sl (s.bc.ai.map ab)],.int .i64 s.az] (.gn [.bool (me s),.int .i64 (if pK s.aK&&oH s.aK s.bc.ai then(if iI s.az 1 16 then(if 64<gU s.aK s.bc.ai s.az then 4 else 0)else 2)else 1)]):=by
  refine aj.body eI rfl fun mN n0=>?_
  clear mN
  rw[aa]at LW
  cases hA:pK s.aK&&oH s.aK s.bc.ai
  ·rw[hA]at LW
   have kG:me s=false:=(jD fun h=>by rw[lN.2 h.set,ly.2 h.yL]at hA;cases hA).symm
   (repeat(first|((repeat(revert hN;revert N;apply Pn.out));refine wk @aa.eq_1 ?_;(repeat(refine Pn.mk ?_;intro N hN)))|((try apply Or.inl);refine⟨_,aj.x (LW) (sd @aa.eq_1),?_⟩;refine hN _ _ ?_;clear hN N)))
   exact gP (.inl rfl) (r1:=.bool false) (r2:=.int .i64 1) (sd @Nat.zero_add) (sd @Nat.zero_add) (by rw[kG];simp only[eo,aX,bD,eF,dQ,Option.map_some];rfl)
  rw[hA]at LW
  simp only[Bool.and_eq_true]at hA
  have hS:=lN.1 hA.1
  have hP:=ly.1 hA.2
  cases hT:iI s.az 1 16
  ·rw[hT]at Oe
   have kG:me s=false:=(jD fun h=>by have:=h.MP;rw[hT]at this;cases this).symm
   (repeat(first|((repeat(revert hN;revert N;apply Pn.out));refine wk @aa.eq_1 ?_;(repeat(refine Pn.mk ?_;intro N hN)))|((try apply Or.inl);refine⟨_,aj.x (LW) (sd @aa.eq_1),?_⟩;refine hN _ _ ?_;clear hN N)|((try apply Or.inl);refine⟨_,aj.x (Oe) (sd @aa.eq_1),?_⟩;refine hN _ _ ?_;clear hN N)))
   exact gP (.inl rfl) (r1:=.bool false) (r2:=.int .i64 2) (sd @Nat.zero_add) (sd @Nat.zero_add) (by rw[kG];simp only[eo,aX,bD,eF,dQ,Option.map_some];rfl)
  have JC:=dW hT
  rw[hT]at Oe
  have dv:=H3 Q8 s.aK s.bc.ai s.az (by omega) (by omega) hS hP
  rw[aa]at dv
  have hsy:me s=mB s.aK s.bc.ai s.az:=by
   cases hB:mB s.aK s.bc.ai s.az
   ·exact(jD fun h=>by have:=oy.2 h.holds;rw[hB]at this;cases this).symm
   ·exact(AR ⟨hS,hP,by omega,hT,oy.1 hB⟩).symm
  by_cases sP:64<gU s.aK s.bc.ai s.az
  ·rw[decide_eq_false fun h=>h sP]at dv
   have kG:me s=false:=(jD fun h=>by have:=h.holds.1;unfold gU at sP;omega).symm
   (repeat(first|((repeat(revert hN;revert N;apply Pn.out));refine wk @aa.eq_1 ?_;(repeat(refine Pn.mk ?_;intro N hN)))|((try apply Or.inl);refine⟨_,aj.x (LW) (sd @aa.eq_1),?_⟩;refine hN _ _ ?_;clear hN N)|((try apply Or.inl);refine⟨_,aj.x (Oe) (sd @aa.eq_1),?_⟩;refine hN _ _ ?_;clear hN N)|((try apply Or.inl);refine⟨_,aj.x (dv) (sd @aa.eq_1),?_⟩;refine hN _ _ ?_;clear hN N)))
   exact gP (.inl rfl) (r1:=.bool false) (r2:=.int .i64 4) (sd @Nat.zero_add) (sd @Nat.zero_add) (by rw[kG,if_pos sP];simp only[eo,aX,bD,eF,dQ,Option.map_some])
  ·rw[decide_eq_true sP,<-hsy]at dv
   (repeat(first|((repeat(revert hN;revert N;apply Pn.out));refine wk @aa.eq_1 ?_;(repeat(refine Pn.mk ?_;intro N hN)))|((try apply Or.inl);refine⟨_,aj.x (LW) (sd @aa.eq_1),?_⟩;refine hN _ _ ?_;clear hN N)|((try apply Or.inl);refine⟨_,aj.x (Oe) (sd @aa.eq_1),?_⟩;refine hN _ _ ?_;clear hN N)|((try apply Or.inl);refine⟨_,aj.x (dv) (sd @aa.eq_1),?_⟩;refine hN _ _ ?_;clear hN N)))
   exact gP (.inl rfl) (r1:=.bool (me s)) (r2:=.int .i64 0) (sd @Nat.zero_add) (sd @Nat.zero_add) (by rw[if_neg sP];simp only[eo,aX,bD,eF,dQ,Option.map_some])
 generalize hcode:(if pK s.aK&&oH s.aK s.bc.ai then(if iI s.az 1 16 then(if 64<gU s.aK s.bc.ai s.az then(4:Int)else 0)else 2)else 1)=code at key
 rw[aa]at key
 cases hB:me s
 ·rw[hB]at key
  (repeat(first|((repeat(revert hN;revert N;apply Pn.out));refine wk (tw @ax.eq_1 @hd) ?_;(repeat(refine Pn.mk ?_;intro N hN)))|((try apply Or.inl);refine⟨_,aj.x (key) (sd (tw @ax.eq_1 @hd)),?_⟩;refine hN _ _ ?_;clear hN N)))
  exact aM (b:=false) (.inl rfl) (sd @Nat.zero_add) rfl
 ·rw[hB]at key
  have hP:=uY.1 hB
  have hc:code=0:=by
   rw[<-hcode,lN.2 hP.set,ly.2 hP.yL,hP.MP]
   have:=hP.holds.1
   simp only[Bool.and_self,if_true]
   rw[if_neg (by unfold gU;omega)]
  rw[hc]at key
  (repeat(first|((repeat(revert hN;revert N;apply Pn.out));refine wk (tw @ax.eq_1 @hd) ?_;(repeat(refine Pn.mk ?_;intro N hN)))|((try apply Or.inl);refine⟨_,aj.x (key) (sd (tw @ax.eq_1 @hd)),?_⟩;refine hN _ _ ?_;clear hN N)))
  exact aM (b:=true) (.inl rfl) (sd @Nat.zero_add) rfl
end Go.Proofs.YtgoelphibofcmaaGreat.V

namespace Go.Proofs.YtgoelphibofcmaaGreat.V
open Go.RowKit
variable {P:Program} {hs:Nat}
theorem FE {q n i:Nat} {ops:Array Oper} {Q:Exit->Act->World->Prop} {K K':Act->World->Prop} {a:Act} {w:World} (oe:∀(j:Nat) (o:Oper),ops[j]? =some o->∀c,o.op≠.defer c) (kG:¬LetsOut Q) (hK:∀a w,K a w->K' a w) (h:wpOp P ops Q i K a w):wpOpIn (Fence.wide.inRound q) n P ops Q i K' a w:=by
 unfold wpOp at h
 unfold wpOpIn
 split at h
 ·rename_i ho;simp only[ho];exact hK _ _ h
 ·rename_i o ho
  simp only[ho]
  split at h
  ·rename_i hw
   rw[if_pos hw]
   replace h:=h.resolve_right fun hc=>kG hc.2
   refine⟨fun _ _=>trivial,?_⟩
   rw[Oper.semAt_eq _ _ _ (oe i o ho)]
   unfold Oper.wp at h
   generalize (execOp a.eval o).run P w=r at *
   cases r with
   |ok m w'=>
    cases m<;>simp only[Oper.upon,Oper.uponIn]at h ⊢
    case value=>exact hK _ _ h
    case skip=>exact hK _ _ h
    case defer=>exact hK _ _ h
    case enter f args=>
     refine⟨fun h=>by simp[Fence.wide]at h,CallsIn.inRound q (callsIn_wide.2 (h.mono fun e IU he=>?_))⟩
     cases e with
     |returned v=>exact hK _ _ he
     |panicked c=>exact he
     |outgrown=>exact he
    case row r args=>exact⟨fun h=>by simp[Fence.wide]at h,fun c cs _=>let ⟨v,IU,h1,s⟩:=h c cs;⟨v,IU,hK _ _ h1,stepsIn_wide.2 s⟩⟩
   |halt x w'=>cases x<;>simp only[Oper.upon,Oper.uponIn]at h ⊢;exact h
  ·rename_i hw
   rw[if_neg hw]
   exact⟨fun _ _=>trivial,hK _ _ h⟩
theorem vm {q n:Nat} {md:Region.Mode} {ops:Array Oper} {Q:Exit->Act->World->Prop} (oe:∀(j:Nat) (o:Oper),ops[j]? =some o->∀c,o.op≠.defer c) (kG:¬LetsOut Q):∀(fuel:Nat) (listed:Array Bool) (a:Act) (w:World),wpAny P md ops Q fuel listed a w->wpAnyIn (Fence.wide.inRound q) n P md ops Q fuel listed a w
 |0,_,_,_,h=>h
 |fuel+1,listed,_,_,h=>⟨h.1,fun i hi=>FE oe kG (fun a w=>vm oe kG fuel _ a w) (h.2 i hi)⟩
def Dz:Op->Bool
 | .defer _=>true
 |_=>false
theorem Hy {ops:Array Oper} (h:(ops.all fun o=> !Dz o.op)=true):∀(j:Nat) (o:Oper),ops[j]? =some o->∀c,o.op≠.defer c:=fun j o hj c hc=>by
 have:=Array.all_eq_true_iff_forall_mem.1 h o (Array.mem_of_getElem? hj)
 rw[hc]at this
 simp[Dz]at this
theorem yI (hm:P.follows .mixedOrders=true) {nt site0 id q n:Nat} {ops:Array Oper} {vl:List aT} (h:p4 P nt site0 ops true false=some vl) (oe:∀(j:Nat) (o:Oper),ops[j]? =some o->∀c,o.op≠.defer c)
  {K:Env->ar->Prop} {env:Env} {σ:ar} {a:Act} {w:World} {D:Nat->Prop} {ι:Names} {Q:Exit->Act->World->Prop} (hv:wpOps (Sound P) true vl K env σ) (dv:St P hs nt D ι env σ a w)
  (hK:∀ik σ' a' w' D' ι',K ik σ'->Step hs D ι w D' ι' w'->St P hs nt D' ι' ik σ' a' w'->a'.defers=a.defers->Q .normal a' w'):(Code.region id ops true).wpIn (Fence.wide.inRound q) n P Q a w:=by
 have dy:∃hidden rX,allM (j9 P ops nt site0 true false (je ops) hidden) ops.toList 0=some rX/\vl=rX/\nz ops rX (je ops)=true:=by
  unfold p4 at h
  simp only[if_true,Bool.not_true,Bool.false_or]at h
  split at h
  ·rename_i rX h'
   split at h
   ·rename_i ui;simp at h;exact⟨_,rX,h',h.symm,ui⟩
   ·cases h
  ·cases h
 obtain⟨hidden,rX,dy,rfl,ui⟩:=dy
 obtain⟨qh,T0⟩:=dv.drew
 obtain⟨hlen,_⟩:=ns dy
 have kf:vl.length=ops.size:=by rw[hlen];simp
 have BR:=vh (X:=Sound P) (K:=K) (n:=σ.next) ui kf vl 0 (Array.replicate ops.size false) env σ.get (by simp) (by simp) (fun i hi=>by simp[hi]) (by simp[kf]) (fun k i h=>by
  exfalso
  rcases Nat.lt_or_ge k ops.size with hk|hk
  ·simp[hk]at h
  ·simp[Nat.not_lt.2 hk]at h) hv
 rw[kf]at BR
 have hw:=wu (Q:=fun e a w=>e=.normal/\Q .normal a w) dy ops.size _ env σ.get a w.drew D ι (fun _=>False) BR qh.rQ qh.used (fun _ h=>h.elim) qh.env qh.size fun iN g1 a1 w1 D1 ι1 U1 hk T S1 QU E1 zl hd=>⟨rfl,hK iN ⟨g1,σ.next+1⟩ a1 w1 D1 ι1 hk (T0.trans T) ⟨S1,QU.next,E1,zl⟩ hd⟩
 have e9:=vm (q:=q) (n:=n) (Q:=fun e a w=>e=.normal/\Q .normal a w) oe (by rintro⟨_,_,hc,_⟩;cases hc) ops.size _ a w.drew hw
 refine wpIn_mono (wpIn_region_any (id:=id) hm e9) ?_
 rintro e a w ⟨rfl,h⟩
 exact h
end Go.Proofs.YtgoelphibofcmaaGreat.V

namespace Go.Proofs.YtgoelphibofcmaaGreat.V
open Go.RowKit Go.Shelf
attribute [local go_sem] Oper.semAt_some
def gQ (n₀:Nat) (W W':World):Prop:=W.heap.size<=W'.heap.size/\(∀(b:Nat) (cells:Array Value) (T:TypeId) (fr:Nat×Nat),W.heap[b]? =some (Obj.cells cells T fr)->T≠226->T≠246->W'.heap[b]? =W.heap[b]?)/\∀k,k<n₀->k<W.heap.size->W'.heap[k]? =W.heap[k]?
theorem gQ.trans {n₀:Nat} {A B C:World} (h:gQ n₀ A B) (k:gQ n₀ B C):gQ n₀ A C:=⟨Nat.le_trans h.1 k.1,fun b cells T fr hb h1 h2=>by
 have e:=h.2.1 b cells T fr hb h1 h2
 rw[<-e]at hb ⊢
 exact k.2.1 b cells T fr hb h1 h2,fun b hb hs=>(k.2.2 b hb (Nat.lt_of_lt_of_le hs h.1)).trans (h.2.2 b hb hs)⟩
theorem gQ.of {n₀:Nat} {W W':World} (h:Below W.heap.size W W'):gQ n₀ W W':=⟨h.size,fun b cells T fr hb _ _=>h.block b (Array.getElem?_eq_some_iff.1 hb).1,fun k _ hs=>h.block k hs⟩
theorem gQ.refl (n₀:Nat) (W:World):gQ n₀ W W:=⟨Nat.le_refl _,fun _ _ _ _ _ _ _=>rfl,fun _ _ _=>rfl⟩
theorem gQ.b {n₀ m:Nat} (hm:n₀<=m) (W:World) (l:Nat) (o o':Obj) (hl:m<=l) (h:W.heap[l]? =some o) (hc:o.isCells=false) (_:o.isWalk=false):gQ n₀ W (W.putObj l o'):=by
 refine⟨by simp,fun b cells T fr hb _ _=>?_,fun k hk _=>World.putObj_heap_other (by omega)⟩
 by_cases oQ:b=l
 ·subst oQ;rw[h]at hb;cases hb;cases hc
 ·exact World.putObj_heap_other oQ
def I0 (bs:List PB):List Value:=bs.flatMap fun b=>[.int .i64 b.a,.int .i64 b.b,.int .i64 b.s]
theorem Gf (bs:List PB) (b:PB):I0 (bs++[b])=I0 bs++[.int .i64 b.a,.int .i64 b.b,.int .i64 b.s]:=by simp[I0]
def mJ (s:au) (l:List ad) (pre:List (Ld l)):List PB:=(pre.map (·.1)).flatMap (xR s l)
theorem wC (s:au) (l:List ad) (pre:List (Ld l)) (x:Ld l):mJ s l (pre++[x])=mJ s l pre++xR s l x.1:=by simp[mJ]
theorem Ge (s:au) (l:List ad) (x:Nat×Nat×Int):(xR s l x).length<=1:=by
 unfold xR;split<;>simp
theorem Gg (s:au) (l:List ad) (pre:List (Ld l)):(mJ s l pre).length<=pre.length:=by
 unfold mJ
 induction pre with
 |nil=>simp
 |cons x r ih=>
  have:=Ge s l x.1
  simp only[List.map_cons,List.flatMap_cons,List.length_append,List.length_cons]at ih ⊢
  omega
theorem xj (l:List ad) (i:Nat):∀m,(kj l i m).length<=m
 |0=>by simp[kj]
 |m+1=>by
  rw[l8,List.length_append]
  have:=xj l i m
  have:(Az l i (1-(m:Int))).length<=1:=by unfold Az;split<;>simp
  omega
theorem AA (l:List ad):∀n,(kI l n).length<=n*2
 |0=>by simp[kI]
 |n+1=>by
  rw[lI,List.length_append]
  have:=AA l n
  have:=xj l n 2
  omega
theorem zX {β:Type} (B:Nat) (c:Array Value) (t:TypeId) (fr:Nat×Nat):Own (fun(_:β) W=>W.heap[B]? =some (.cells c t fr)):=fun _ X _ row h hg hr=>(hg.block B (Array.getElem?_eq_some_iff.1 h).1 (fun e=>by
 obtain⟨o,ho,hc⟩:=hr B e.symm
 rw[h]at ho;cases ho;cases hc)).trans h
theorem gQ.app {n₀:Nat} {W w1:World} {B k:Nat} {v v':Value} {xs:List Value} {tmp:Obj} (hv:Boxed W B 226 v) (fH:W.ownsRow n₀ 246 3 v k xs) (Dp:(W.alloc tmp).grownBy w1 v.ownBlock) (hb:Below n₀ W (w1.setCell ⟨B,0,none⟩ v')):gQ n₀ W (w1.setCell ⟨B,0,none⟩ v'):=by
 refine⟨hb.size,fun b cells T fr h h1 h2=>?_,fun k hk _=>hb.block k hk⟩
 have dE:=(Array.getElem?_eq_some_iff.1 h).1
 have hbB:b≠B:=by
  rintro rfl
  rw[show W.heap[b]? = _ from hv]at h
  cases h
  exact h1 rfl
 have Qc:some b≠v.ownBlock:=by
  rcases fH.2 with⟨rfl,_⟩|⟨g,cap,cur,rfl,_,hg,_⟩
  ·simp[Value.ownBlock]
  ·intro e
   obtain rfl:b=g:=by simpa[Value.ownBlock]using e
   rw[hg]at h;cases h
   exact h2 rfl
 refine(Below.heap_setCell w1 ⟨B,0,none⟩ v' b hbB).trans ?_
 exact(Dp.block b (by simp;omega) Qc).trans (Below.heap_alloc W tmp b dE)
theorem Pc {w:World} {vS:Value} {l:List ad} (hP:oG w vS l):FZ (gQ w.heap.size) vS l where
 refl:=gQ.refl _
 trans:=gQ.trans
 of:=gQ.of
 size h:=h.1
 typed h:=h.2.1
 pl {W W'} h hp:=by
  obtain⟨A,c,rfl,hm,hc⟩:=hp.sl
  refine⟨A,c,rfl,hm,?_⟩
  by_cases hl:l=[]
  ·exact .inl hl
  have jU:0<l.length:=List.length_pos_iff.2 hl
  rcases hc with h0|⟨b,o,rfl,jW⟩
  ·exact absurd h0 hl
  obtain⟨A',c',e,_,ke⟩:=hP.sl
  cases e
  rcases ke with h0|⟨b',o',e,hcell'⟩
  ·exact absurd h0 hl
  cases e
  have hb:=sZ (hcell' 0 jU).1
  have hk:=h.2.2 b hb (sZ (jW 0 jU).1)
  refine .inr ⟨b,o,rfl,fun i hi=>?_⟩
  have zW:∀x,W'.cell? ⟨b,x,none⟩=W.cell? ⟨b,x,none⟩:=fun x=>World.cell?_of_block hk
  rw[zW,zW,zW]
  exact jW i hi
theorem rrE {P:Program} {nt site0:Nat} {ops:Array Oper} {vl:List aT} (_:xT P ops site0 false (je ops) (qm P false ops.toList 0) ops.toList 0=some vl:=by(conv=>lhs;cbv)<;>exact rfl) (h:p4 P nt site0 ops true false=some vl:=by kernel_rfl):p4 P nt site0 ops true false=some vl:=h
theorem Hq (l:List Value) (d:Value):l=(List.range l.length).map fun i=>(⟨l⟩:Array Value).getD i d:=by
 refine List.ext_getElem (by simp) fun i h1 h2=>?_
 simp[h1]
theorem Co {X:fq} {d:Bool} {ops:List aT} {K:Env->ar->Prop} {env:Env} {σ:ar} (h:dx X (.ew d ops) (fun _=>K) env σ):wpOps X d ops K env σ:=h
theorem tM (W:World) (T:TypeId) (x y z:Value):∀(j:Nat) (u:Value),[x,y,z][j]? =some u->(W.alloc (.cells #[x,y,z] T)).cell? ((⟨W.heap.size,0,none⟩:Addr).add j)=some u:=fun j u h=>by
 have hb:(W.alloc (.cells #[x,y,z] T)).heap[W.heap.size]? =some (.cells #[x,y,z] T (0,0)):=World.alloc_heap_new _ _
 have e:∀k,(W.alloc (.cells #[x,y,z] T)).cell? ⟨W.heap.size,k,none⟩=(#[x,y,z]:Array Value)[k]? :=fun k=>by
  unfold World.cell?
  rw[show(W.alloc (.cells #[x,y,z] T)).heap[(⟨W.heap.size,k,none⟩:Addr).block]? = _ from hb]
  rfl
 rw[show(⟨W.heap.size,0,none⟩:Addr).add j=⟨W.heap.size,j,none⟩ by simp[Addr.add];exact fun h=>h.symm,e]
 simpa using h
def Gm (n b:Nat):Names:=fun id=>if id=⟨1,0⟩then some ⟨n,2,2,none⟩else if id=⟨2,0⟩then some ⟨n+1,1,1,none⟩else if id=⟨3,0⟩then some ⟨n+1+1,1,1,none⟩else if id=⟨4,0⟩then some ⟨b,2,2,none⟩else if id=⟨5,0⟩then some ⟨n+1+1+1,1,1,none⟩else none
def Ku (s:au) (l:List ad) (i k:Nat):Rows:=fun id=>if id=⟨1,0⟩then some ⟨false,2,[aa s]⟩else if id=⟨2,0⟩then some ⟨false,1,[[.sl (l.map ab)]]⟩else if id=⟨4,0⟩then some ⟨false,2,[[.int .i64 (i:Int),.int .i64 (k:Int)]]⟩else none
def Lo (s:au) (l:List ad) (i k:Nat) (d:Int):Env:=cj [.agg (aa s),.agg [.sl (l.map ab)],.ptr ⟨1,0⟩ 0 0,.ptr ⟨2,0⟩ 0 0,.b4,.ptr ⟨3,0⟩ 0 0,.ptr ⟨4,0⟩ 0 0,.int .i64 d,.undef,.agg [.sl (l.map ab)],.fn 264 [.ptr ⟨5,0⟩ 0 0],.agg [.int .i64 (i:Int),.int .i64 (k:Int)],.int .i64 d]
theorem Cy {P:Program} {W:World} {D:Nat->Prop} {ι:Names} {B:qO} {cells:Array Value} {T:TypeId} {cs:List AV} (hk:B.k=none) (hb:W.heap[B.b]? =some (.cells cells T (0,0))) (hC:cells.size=B.C) (hz:B.sz=cs.length) (hl:cs.length=cells.size) (hf:∀a∈cs,a.cell=true) (hr:∀(j:Nat) (a:AV),cs[j]? =some a->∃v,cells[j]? =some v/\cu P W D ι a v):gu P W D ι B ⟨false,cs.length,[cs]⟩:=
 kM.obj ⟨hz,⟨cells,T,hb,hC⟩,by simp;omega,fun c hc=>by simp at hc;rw[hc],fun c hc=>by simp at hc;rw[hc];exact hf,fun i j c a hi hj=>by
  match i,hi with
  |0,hi=>
   simp at hi;subst hi
   obtain⟨v,h1,h2⟩:=hr j a hj
   exact⟨v,by simp[World.cell?,hb,h1],h2⟩
  |i+1,hi=>simp at hi⟩ hk
theorem Hd:(Tryz.prog.info? 246).map (fun i=>(i.zero,i.size,i.bytes))=some (some (.agg #[.int .i64 0,.int .i64 0,.int .i64 0]),3,24):=by kernel_rfl
end Go.Proofs.YtgoelphibofcmaaGreat.V
