/- The laws' helpers of systems: copies and comparisons. -/
import Derived.Test.YtihgaadadaekmaaGreatMcB
import Derived.Test.YtihgaadadaekmaaGreatChecked
set_option linter.unusedVariables false
set_option linter.unusedSimpArgs false
set_option maxRecDepth 100000
set_option maxHeartbeats 16000000
namespace Go.Proofs.YtihgaadadaekmaaGreat.V
open Go.RowKit
attribute [local irreducible] eb wpOps gH Call
attribute [local go_sem] aM fI eM fX fV cE upd cm K.av cK AV.cells AV.cell rowOf rowsOf part ld rowAt bS bZ dH ei ij bK dc eA fZ e8 du ep cY cX dU dW bQ bf cQ bP cT cR ek er eo cP bU cZ ej bL aQ cV cw ig bt cH bR bc dF bq dI AV.undef bD bF dX eh dQ dZ cF ez eE cr ev eu cU cW List.getD_cons_zero List.getD_cons_succ List.getD_nil List.all_cons List.all_nil Bool.and_true Bool.true_and Bool.and_self Bool.not_true Bool.not_false Option.map_some Option.map_none Option.bind_some Option.bind_none List.length_cons List.length_nil List.take_succ_cons List.take_zero List.take_nil List.drop_succ_cons List.drop_zero List.drop_nil List.head?_cons List.map_cons List.map_nil List.getElem?_cons_zero List.getElem?_cons_succ List.cons_append List.nil_append List.append_nil List.length_map List.set_cons_zero List.set_cons_succ Nat.reduceMul eq_self Int.toNat_natCast Int.natCast_nonneg and_self true_and and_true decide_true decide_false Bool.false_eq_true Nat.zero_add Nat.add_zero List.contains_cons List.contains_nil Bool.or_false Bool.false_or beq_self_eq_true Nat.reduceBEq ne_eq not_true_eq_false not_false_eq_true Id.mk.injEq false_and and_false Nat.reduceLT Int.reduceLE Int.reduceLT Int.reduceToNat Int.reduceNeg Int.reduceAdd Nat.le_refl List.length_append beq_true beq_false Bool.not_eq_eq_eq_not or_false false_or dD ad aj aH bC b4 aX bo aY bl cL bE
theorem J5 (x:fc) (g:Rows):cq g 5 (bh x)=some (bh x):=by simp[bh,ad,aj,bC,aH]
theorem J6 (x:eJ) (g:Rows):cq g 5 (aW x)=some (aW x):=by simp[aW,ad,aj,bC,b4]
theorem Fl (x:ak) (g:Rows):cq g 5 (ai x)=some (ai x):=by simp[ai,ad,aj,aH]
theorem w9 (p:bH):j0 Tryz.prog 96 [.agg (ao p)] (.agg (ao p)):=by
 refine j0.body dY rfl fun hl σ=>?_
 clear hl
 (try((repeat(revert hN;revert N;apply Pn.out));refine wk @ao.eq_1 ?_;(repeat(refine Pn.mk ?_;intro N hN))))
 exact qq (.inl rfl) (vs:=[.agg (ao p)]) (by simp only[go_sem, ↓reduceIte,Nat.reduceEqDiff,Nat.reduceAdd,Nat.reduceSub,Nat.reduceLeDiff,reduceCtorEq,fb,gY,ao]) (by simp[dr,ao,bo,ad,aj,aH])
theorem CC (p:ak):j0 Tryz.prog 59 [.agg (ai p)] (.agg (ai p)):=by
 refine j0.body dY rfl fun hl σ=>?_
 clear hl
 have h:=w9 p.cI
 rw[ao]at h
 (repeat(first|((repeat(revert hN;revert N;apply Pn.out));refine wk @ai.eq_1 ?_;(repeat(refine Pn.mk ?_;intro N hN)))|((try apply Or.inl);refine⟨_,j0.x (h) _,?_⟩;refine hN _ _ ?_;clear hN N)))
 exact qq (.inl rfl) (vs:=[.agg (ai p)]) (by simp only[go_sem, ↓reduceIte,Nat.reduceEqDiff,Nat.reduceAdd,Nat.reduceSub,Nat.reduceLeDiff,reduceCtorEq,fb,gY,ai]) (by simp[dr,ai,bo,ad,aj,aH])
theorem HX (p:fc):j0 Tryz.prog 94 [.agg (bh p)] (.agg (bh p)):=by
 refine j0.body dY rfl fun hl σ=>?_
 clear hl
 (try((repeat(revert hN;revert N;apply Pn.out));refine wk @bh.eq_1 ?_;(repeat(refine Pn.mk ?_;intro N hN))))
 exact qq (.inl rfl) (vs:=[.agg (bh p)]) (by simp only[go_sem, ↓reduceIte,Nat.reduceEqDiff,Nat.reduceAdd,Nat.reduceSub,Nat.reduceLeDiff,reduceCtorEq,fb,gY,bh]) (by simp[dr,bh,bo,ad,aj,aH,bC])
theorem HZ (xs:List Int) (h:xs.length<=1048576):j0 Tryz.prog 127 [.sl (xs.map ay)] (.sl (xs.map ay)):=
 PF (show l5 Tryz.prog 127=some (H0 127 (.int .i64 0)) by kernel_rfl) xs h
def qT (t:eJ):Prop:=t.bm.length<=1048576
theorem H4 (p:eJ) (hs:qT p):j0 Tryz.prog 95 [.agg (aW p)] (.agg (aW p)):=by
 refine j0.body dY rfl fun hl σ=>?_
 clear hl
 have h:=HZ p.bm hs
 (repeat(first|((repeat(revert hN;revert N;apply Pn.out));refine wk @aW.eq_1 ?_;(repeat(refine Pn.mk ?_;intro N hN)))|((try apply Or.inl);refine⟨_,j0.x (h) _,?_⟩;refine hN _ _ ?_;clear hN N)))
 exact qq (.inl rfl) (vs:=[.agg (aW p)]) (by simp only[go_sem, ↓reduceIte,Nat.reduceEqDiff,Nat.reduceAdd,Nat.reduceSub,Nat.reduceLeDiff,reduceCtorEq,fb,gY,aW]) (by simp[dr,aW,bo,ad,aj,b4,bC])
theorem zh (xs ys:List Int):ah Tryz.prog 63 [.sl (xs.map ay),.sl (ys.map ay)] (.bool (decide (xs=ys))):=
 Ol (show l5 Tryz.prog 63=some (KC 63 .tI) by kernel_rfl) xs ys
theorem Gw (a b:eJ):ah Tryz.prog 106 [.agg (aW a),.agg (aW b)] (.bool (decide (a=b))):=by
 refine ah.body dY rfl fun hl n0=>?_
 clear hl
 have h:=zh a.bm b.bm
 by_cases h1:a.aB=b.aB
 ·have e1:decide (a.aB=b.aB)=true:=decide_eq_true h1
  by_cases h2:a.bm=b.bm
  ·rw[decide_eq_true h2]at h
   (repeat(first|((repeat(revert hN;revert N;apply Pn.out));refine wk (tw @aW.eq_1 @e1) ?_;(repeat(refine Pn.mk ?_;intro N hN)))|((try apply Or.inl);refine⟨_,ah.x (h) (sd (tw @aW.eq_1 @e1)),?_⟩;refine hN _ _ ?_;clear hN N)))
   exact aO (b:=true) (.inl rfl) (sd @Nat.zero_add) (decide_eq_true (by cases a;cases b;simp_all)).symm
  ·rw[decide_eq_false h2]at h
   (repeat(first|((repeat(revert hN;revert N;apply Pn.out));refine wk (tw @aW.eq_1 @e1) ?_;(repeat(refine Pn.mk ?_;intro N hN)))|((try apply Or.inl);refine⟨_,ah.x (h) (sd (tw @aW.eq_1 @e1)),?_⟩;refine hN _ _ ?_;clear hN N)))
   exact aO (b:=false) (.inl rfl) (sd @Nat.zero_add) (decide_eq_false (by rintro rfl;exact h2 rfl)).symm
 ·have e1:decide (a.aB=b.aB)=false:=decide_eq_false h1
  (try((repeat(revert hN;revert N;apply Pn.out));refine wk (tw @aW.eq_1 @e1) ?_;(repeat(refine Pn.mk ?_;intro N hN))))
  exact aO (b:=false) (.inl rfl) (sd @Nat.zero_add) (decide_eq_false (by rintro rfl;exact h1 rfl)).symm
theorem FD (xs:List fc) (h:xs.length<=1048576):j0 Tryz.prog 57 [.sl (xs.map bh)] (.sl (xs.map bh)):=
 CD (show l5 Tryz.prog 57=some (ss 57 94 2 [.str [],.int .i64 0]) by kernel_rfl) rfl (fun _=>rfl) (fun _=>rfl) J5 xs h fun x _=>HX x
theorem FF (xs:List eJ) (h:xs.length<=1048576) (hs:∀t∈xs,qT t):j0 Tryz.prog 58 [.sl (xs.map aW)] (.sl (xs.map aW)):=
 CD (show l5 Tryz.prog 58=some (ss 58 95 2 [.str [],.br]) by kernel_rfl) rfl (fun _=>rfl) (fun _=>rfl) J6 xs h fun x hx=>H4 x (hs x hx)
theorem An (xs:List ak) (h:xs.length<=1048576):j0 Tryz.prog 29 [.sl (xs.map ai)] (.sl (xs.map ai)):=
 CD (show l5 Tryz.prog 29=some (ss 29 59 3 [.int .i64 0,.int .i64 0,.int .i64 0]) by kernel_rfl) rfl (fun _=>rfl) (fun _=>rfl) Fl xs h fun x _=>CC x
structure F6 (s:aq):Prop where
 g:s.au.length<=1048576
 t:s.ae.length<=1048576
 s:∀t∈s.ae,qT t
structure rU (y:cl):Prop where
 s:F6 y.aI
 a:y.ck.ae.length<=1048576
theorem Ap (p:aq) (hs:F6 p):j0 Tryz.prog 28 [.agg (aa p)] (.agg (aa p)):=by
 refine j0.body dY rfl fun hl σ=>?_
 clear hl
 have h1:=FD p.au hs.g
 have h2:=FF p.ae hs.t hs.s
 (repeat(first|((repeat(revert hN;revert N;apply Pn.out));refine wk @aa.eq_1 ?_;(repeat(refine Pn.mk ?_;intro N hN)))|((try apply Or.inl);refine⟨_,j0.x (h1) _,?_⟩;refine hN _ _ ?_;clear hN N)|((try apply Or.inl);refine⟨_,j0.x (h2) _,?_⟩;refine hN _ _ ?_;clear hN N)))
 exact qq (.inl rfl) (vs:=[.agg (aa p)]) (by simp only[go_sem, ↓reduceIte,Nat.reduceEqDiff,Nat.reduceAdd,Nat.reduceSub,Nat.reduceLeDiff,reduceCtorEq,fb,gY,aa]) (by simp[dr,aa,bo,ad,aj,b4])
theorem qJ (p:dm) (hs:p.ae.length<=1048576):j0 Tryz.prog 9 [.agg (aD p)] (.agg (aD p)):=by
 refine j0.body dY rfl fun hl σ=>?_
 clear hl
 have h1:=An p.ae hs
 (repeat(first|((repeat(revert hN;revert N;apply Pn.out));refine wk @aD.eq_1 ?_;(repeat(refine Pn.mk ?_;intro N hN)))|((try apply Or.inl);refine⟨_,j0.x (h1) _,?_⟩;refine hN _ _ ?_;clear hN N)))
 exact qq (.inl rfl) (vs:=[.agg (aD p)]) (by simp only[go_sem, ↓reduceIte,Nat.reduceEqDiff,Nat.reduceAdd,Nat.reduceSub,Nat.reduceLeDiff,reduceCtorEq,fb,gY,aD]) (by simp[dr,aD,bo,ad,aj,b4])
theorem CF (p:cl) (hs:rU p):j0 Tryz.prog 8 [.agg (az p)] (.agg (az p)):=by
 refine j0.body dY rfl fun hl σ=>?_
 clear hl
 have h1:=Ap p.aI hs.s
 have h2:=qJ p.ck hs.a
 rw[aa]at h1
 rw[aD]at h2
 (repeat(first|((repeat(revert hN;revert N;apply Pn.out));refine wk @az.eq_1 ?_;(repeat(refine Pn.mk ?_;intro N hN)))|((try apply Or.inl);refine⟨_,j0.x (h1) _,?_⟩;refine hN _ _ ?_;clear hN N)|((try apply Or.inl);refine⟨_,j0.x (h2) _,?_⟩;refine hN _ _ ?_;clear hN N)))
 exact qq (.inl rfl) (vs:=[.agg (az p)]) (by simp only[go_sem, ↓reduceIte,Nat.reduceEqDiff,Nat.reduceAdd,Nat.reduceSub,Nat.reduceLeDiff,reduceCtorEq,fb,gY,az]) (by simp[dr,az,bo,ad,aj,b4,aH])
theorem Gv (a b:fc):ah Tryz.prog 105 [.agg (bh a),.agg (bh b)] (.bool (decide (a=b))):=by
 refine ah.body dY rfl fun hl n0=>?_
 clear hl
 by_cases h1:a.aB=b.aB
 ·have e1:decide (a.aB=b.aB)=true:=decide_eq_true h1
  by_cases h2:a.dS=b.dS
  ·have e2:decide (a.dS=b.dS)=true:=decide_eq_true h2
   (try((repeat(revert hN;revert N;apply Pn.out));refine wk (tw @bh.eq_1 (tw @e1 @e2)) ?_;(repeat(refine Pn.mk ?_;intro N hN))))
   exact aO (b:=true) (.inl rfl) (sd @Nat.zero_add) (decide_eq_true (by cases a;cases b;simp_all)).symm
  ·have e2:decide (a.dS=b.dS)=false:=decide_eq_false h2
   (try((repeat(revert hN;revert N;apply Pn.out));refine wk (tw @bh.eq_1 (tw @e1 @e2)) ?_;(repeat(refine Pn.mk ?_;intro N hN))))
   exact aO (b:=false) (.inl rfl) (sd @Nat.zero_add) (decide_eq_false (by rintro rfl;exact h2 rfl)).symm
 ·have e1:decide (a.aB=b.aB)=false:=decide_eq_false h1
  (try((repeat(revert hN;revert N;apply Pn.out));refine wk (tw @bh.eq_1 @e1) ?_;(repeat(refine Pn.mk ?_;intro N hN))))
  exact aO (b:=false) (.inl rfl) (sd @Nat.zero_add) (decide_eq_false (by rintro rfl;exact h1 rfl)).symm
theorem Ej (a b:bH):ah Tryz.prog 107 [.agg (ao a),.agg (ao b)] (.bool (decide (a=b))):=by
 refine ah.body dY rfl fun hl n0=>?_
 clear hl
 by_cases h1:a.gu=b.gu
 ·have e1:decide (a.gu=b.gu)=true:=decide_eq_true h1
  by_cases h2:a.fN=b.fN
  ·have e2:decide (a.fN=b.fN)=true:=decide_eq_true h2
   (try((repeat(revert hN;revert N;apply Pn.out));refine wk (tw @ao.eq_1 (tw @e1 @e2)) ?_;(repeat(refine Pn.mk ?_;intro N hN))))
   exact aO (b:=true) (.inl rfl) (sd @Nat.zero_add) (decide_eq_true (by cases a;cases b;simp_all)).symm
  ·have e2:decide (a.fN=b.fN)=false:=decide_eq_false h2
   (try((repeat(revert hN;revert N;apply Pn.out));refine wk (tw @ao.eq_1 (tw @e1 @e2)) ?_;(repeat(refine Pn.mk ?_;intro N hN))))
   exact aO (b:=false) (.inl rfl) (sd @Nat.zero_add) (decide_eq_false (by rintro rfl;exact h2 rfl)).symm
 ·have e1:decide (a.gu=b.gu)=false:=decide_eq_false h1
  (try((repeat(revert hN;revert N;apply Pn.out));refine wk (tw @ao.eq_1 @e1) ?_;(repeat(refine Pn.mk ?_;intro N hN))))
  exact aO (b:=false) (.inl rfl) (sd @Nat.zero_add) (decide_eq_false (by rintro rfl;exact h1 rfl)).symm
theorem A6 (a b:ak):ah Tryz.prog 66 [.agg (ai a),.agg (ai b)] (.bool (decide (a=b))):=by
 refine ah.body dY rfl fun hl n0=>?_
 clear hl
 have h:=Ej a.cI b.cI
 rw[ao,ao]at h
 by_cases h1:a.cI=b.cI
 ·rw[decide_eq_true h1]at h
  by_cases h2:a.bJ=b.bJ
  ·have e2:decide (a.bJ=b.bJ)=true:=decide_eq_true h2
   (repeat(first|((repeat(revert hN;revert N;apply Pn.out));refine wk (tw @ai.eq_1 @e2) ?_;(repeat(refine Pn.mk ?_;intro N hN)))|((try apply Or.inl);refine⟨_,ah.x (h) (sd (tw @ai.eq_1 @e2)),?_⟩;refine hN _ _ ?_;clear hN N)))
   exact aO (b:=true) (.inl rfl) (sd @Nat.zero_add) (decide_eq_true (by cases a;cases b;simp_all)).symm
  ·have e2:decide (a.bJ=b.bJ)=false:=decide_eq_false h2
   (repeat(first|((repeat(revert hN;revert N;apply Pn.out));refine wk (tw @ai.eq_1 @e2) ?_;(repeat(refine Pn.mk ?_;intro N hN)))|((try apply Or.inl);refine⟨_,ah.x (h) (sd (tw @ai.eq_1 @e2)),?_⟩;refine hN _ _ ?_;clear hN N)))
   exact aO (b:=false) (.inl rfl) (sd @Nat.zero_add) (decide_eq_false (by rintro rfl;exact h2 rfl)).symm
 ·rw[decide_eq_false h1]at h
  (repeat(first|((repeat(revert hN;revert N;apply Pn.out));refine wk @ai.eq_1 ?_;(repeat(refine Pn.mk ?_;intro N hN)))|((try apply Or.inl);refine⟨_,ah.x (h) (sd @ai.eq_1),?_⟩;refine hN _ _ ?_;clear hN N)))
  exact aO (b:=false) (.inl rfl) (sd @Nat.zero_add) (decide_eq_false (by rintro rfl;exact h1 rfl)).symm
theorem Ei (xs ys:List fc):ah Tryz.prog 64 [.sl (xs.map bh),.sl (ys.map bh)] (.bool (decide (xs=ys))):=
 A7 (show l5 Tryz.prog 64=some (C1 64 105 2) by kernel_rfl) (fun _=>rfl) zr xs ys Gv
theorem Ek (xs ys:List eJ):ah Tryz.prog 65 [.sl (xs.map aW),.sl (ys.map aW)] (.bool (decide (xs=ys))):=
 A7 (show l5 Tryz.prog 65=some (C1 65 106 2) by kernel_rfl) (fun _=>rfl) zt xs ys Gw
theorem rY (xs ys:List ak):ah Tryz.prog 35 [.sl (xs.map ai),.sl (ys.map ai)] (.bool (decide (xs=ys))):=
 A7 (show l5 Tryz.prog 35=some (C1 35 66 3) by kernel_rfl) (fun _=>rfl) Bl xs ys A6
theorem A8 (a:cl):ah Tryz.prog 12 [.agg (az a),.agg (az a)] (.bool true):=by
 have q1:ah Tryz.prog 34 [.agg (aa a.aI),.agg (aa a.aI)] (.bool true):=by
  refine ah.body dY rfl fun hl n0=>?_
  clear hl
  have h1:=Ei a.aI.au a.aI.au
  have h2:=Ek a.aI.ae a.aI.ae
  rw[decide_eq_true rfl]at h1 h2
  (repeat(first|((repeat(revert hN;revert N;apply Pn.out));refine wk @aa.eq_1 ?_;(repeat(refine Pn.mk ?_;intro N hN)))|((try apply Or.inl);refine⟨_,ah.x (h1) (sd @aa.eq_1),?_⟩;refine hN _ _ ?_;clear hN N)|((try apply Or.inl);refine⟨_,ah.x (h2) (sd @aa.eq_1),?_⟩;refine hN _ _ ?_;clear hN N)))
  exact aO (b:=true) (.inl rfl) (sd @Nat.zero_add) rfl
 have q2:ah Tryz.prog 13 [.agg (aD a.ck),.agg (aD a.ck)] (.bool true):=by
  refine ah.body dY rfl fun hl n0=>?_
  clear hl
  have h1:=rY a.ck.ae a.ck.ae
  rw[decide_eq_true rfl]at h1
  (repeat(first|((repeat(revert hN;revert N;apply Pn.out));refine wk @aD.eq_1 ?_;(repeat(refine Pn.mk ?_;intro N hN)))|((try apply Or.inl);refine⟨_,ah.x (h1) (sd @aD.eq_1),?_⟩;refine hN _ _ ?_;clear hN N)))
  exact aO (b:=true) (.inl rfl) (sd @Nat.zero_add) rfl
 rw[aa]at q1
 rw[aD]at q2
 refine ah.body dY rfl fun hl n0=>?_
 clear hl
 have e:decide (a.aJ=a.aJ)=true:=decide_eq_true rfl
 (repeat(first|((repeat(revert hN;revert N;apply Pn.out));refine wk (tw @az.eq_1 @e) ?_;(repeat(refine Pn.mk ?_;intro N hN)))|((try apply Or.inl);refine⟨_,ah.x (q1) (sd (tw @az.eq_1 @e)),?_⟩;refine hN _ _ ?_;clear hN N)|((try apply Or.inl);refine⟨_,ah.x (q2) (sd (tw @az.eq_1 @e)),?_⟩;refine hN _ _ ?_;clear hN N)))
 exact aO (b:=true) (.inl rfl) (sd @Nat.zero_add) rfl
end Go.Proofs.YtihgaadadaekmaaGreat.V

namespace Go.Proofs.YtihgaadadaekmaaGreat.V
open Go.RowKit
def isApp:fP->Bool
 | .append .. =>true
 |_=>false
variable {P:Program} {X:fj} {K:Env->aw->Prop} {env:Env} {σ:aw}
theorem Le {draw:Bool} {o:bj} {r:List bj} (_:isApp o.op=false) (h:∀N:AV->aw->Prop,(∀v s,wpOps X draw r K (upd env o.dst v) s->N v s)->if aM o.guard env then fI X draw o env σ N else N .undef σ):wpOps X draw (o::r) K env σ:=Nb h
end Go.Proofs.YtihgaadadaekmaaGreat.V

namespace Go.Proofs.YtihgaadadaekmaaGreat.V
open Go.RowKit
section
variable {α:Type} {enc:α->List AV} {sz:Nat} {g g':Rows} {a:AV} {xs:List α} {ids:List Id}
end
abbrev uV (α:Type):=Rows->List AV->α->List Id->Prop
structure oR {α:Type} (R:uV α) (sz:Nat):Prop where
 frame:∀{g g':Rows} {cs x ids},R g cs x ids->(∀i∈ids,g' i=g i)->R g' cs x ids
 len:∀{g cs x ids},R g cs x ids->cs.length=sz
 cell:∀{g cs x ids},R g cs x ids->cs.all AV.cell=true
 live:∀{g cs x ids},R g cs x ids->∀i∈ids,∃r,g i=some r/\r.w=true/\r.sz<m4
 small:sz<m4
inductive dd {α:Type} (R:uV α) (g:Rows):List (List AV)->List α->List Id->Prop
 |nil:dd R g [] [] []
 |cons {cs x i1 rs xs i2}:R g cs x i1->dd R g rs xs i2->dd R g (cs::rs) (x::xs) (i1++i2)
section
variable {α:Type} {R:uV α} {sz:Nat} {g g':Rows} {rows r1 r2:List (List AV)} {xs x1 x2:List α} {ids i1 i2:List Id}
theorem dd.len (h:dd R g rows xs ids):rows.length=xs.length:=by
 induction h with
 |nil=>rfl
 |cons _ _ ih=>simp[ih]
theorem dd.frame (ok:oR R sz) (h:dd R g rows xs ids) (hf:∀i∈ids,g' i=g i):dd R g' rows xs ids:=by
 induction h with
 |nil=>exact .nil
 |cons h1 _ ih=>exact .cons (ok.frame h1 fun i hi=>hf i (List.mem_append_left _ hi)) (ih fun i hi=>hf i (List.mem_append_right _ hi))
theorem dd.app (h1:dd R g r1 x1 i1) (h2:dd R g r2 x2 i2):dd R g (r1++r2) (x1++x2) (i1++i2):=by
 induction h1 with
 |nil=>exact h2
 |cons h _ ih=>rw[List.append_assoc];exact .cons h ih
theorem dd.one {cs:List AV} {x:α} (h:R g cs x ids):dd R g [cs] [x] ids:=by
 have:=dd.cons h dd.nil
 rwa [List.append_nil]at this
theorem dd.split (h:dd R g rows xs ids):∀k (hk:k<xs.length),∃r1 cs r2 i1 ic i2,rows=r1++cs::r2/\r1.length=k/\ids=i1++(ic++i2)/\dd R g r1 (xs.take k) i1/\R g cs xs[k] ic/\dd R g r2 (xs.drop (k+1)) i2:=by
 induction h with
 |nil=>intro k hk;simp at hk
 |cons h1 h2 ih=>
  rename_i cs x j1 rs xs j2
  intro k hk
  cases k with
  |zero=>exact⟨[],cs,rs,[],j1,j2,rfl,rfl,rfl,.nil,h1,h2⟩
  |succ k=>
   obtain⟨r1,oI,r2,i1,ic,i2,rfl,hl,rfl,h3,h4,h5⟩:=ih k (by simpa using hk)
   exact⟨cs::r1,oI,r2,j1++i1,ic,i2,rfl,by simp[hl],by rw[List.append_assoc],.cons h1 h3,h4,h5⟩
theorem dd.at_ (h:dd R g rows xs ids) (k:Nat) (hk:k<xs.length):∃cs ic,rows[k]? =some cs/\R g cs xs[k] ic/\∀i∈ic,i∈ids:=by
 obtain⟨r1,cs,r2,i1,ic,i2,rfl,hl,rfl,h3,h4,h5⟩:=h.split k hk
 refine⟨cs,ic,by rw[List.getElem?_append_right ab];simp[hl],h4,fun i hi=>by simp[hi]⟩
theorem dd.fz {n:Nat} {e:α->List AV} (h:dd R g rows xs ids) (hz:∀{cs x ids},R g cs x ids->cq (dD g) n cs=some (e x)):dM (dD g) n rows=some (xs.map e):=by
 induction h with
 |nil=>rw[dM];rfl
 |cons h1 _ ih=>rw[dM,hz h1,ih];rfl
end
section
variable {α:Type} {R:uV α} {sz:Nat} {g g':Rows} {a:AV} {xs:List α} {ids:List Id}
end
variable {P:Program} {X:fj} {K:Env->aw->Prop} {env:Env} {σ:aw}
def lU {α:Type} (enc:α->List AV) (sz:Nat) (x:AV) (g:Rows) (S:Id->Prop) (L:List α):Prop:=∃o:Id,S o/\x=.own o 0 L.length/\g o=some ⟨true,sz,L.map enc⟩
section
variable {α:Type} {enc:α->List AV} {sz:Nat} {x:AV} {g g':Rows} {S:Id->Prop} {L L':List α}
theorem lU.cast (h:lU enc sz x g S L) (hL:L'=L):lU enc sz x g S L':=by subst hL;exact h
theorem lU.frame (h:lU enc sz x g S L) (hg:∀o:Id,S o->g' o=g o):lU enc sz x g' S L:=by
 obtain⟨o,h1,h2,h3⟩:=h
 exact⟨o,h1,h2,(hg o h1).trans h3⟩
theorem lU.app (hz:∀a,(enc a).length=sz/\(enc a).all AV.cell=true) (h:lU enc sz x g S L) (id:Id) (hid:S id) (M:List α) (hlen:L.length+M.length<=dI):
  ∃v g',bc g id sz x (M.map enc)=some (v,g')/\lU enc sz v g' S (L++M)/\∀j:Id,¬S j->g' j=g j:=by
 obtain⟨o,h1,rfl,h4⟩:=h
 refine⟨.own id 0 (L.length+(M.map enc).length),bS (bZ g o) id ⟨true,sz,L.map enc++M.map enc⟩,?_,⟨id,hid,by simp,by simp[bS]⟩,fun j hj=>?_⟩
 ·have ha:=all_map (l:=M) hz
  simp only[bc,h4,Option.bind_some]
  rw[if_pos ⟨trivial,trivial,by simp,by simpa using hlen,ha⟩]
 ·have e1:¬j=id:=fun h=>hj (h▸hid)
  have e2:¬j=o:=fun h=>hj (h▸h1)
  simp[bS,bZ,e1,e2]
theorem M8 {draw:Bool} {o:bj} {r:List bj} {x' y:O} {xv:AV} (M:List α) (ho:o.op=.append sz x' y) (hw:aM o.guard env=true) (hx:cE env x'=xv) (hO:lU enc sz xv σ.get S L)
  (hy:bt σ.get (cE env y)=some (M.map enc)) (hz:∀a,(enc a).length=sz/\(enc a).all AV.cell=true) (hid:S ⟨o.site,σ.next⟩) (hlen:L.length+M.length<=dI)
  (next:∀v g',lU enc sz v g' S (L++M)->(∀j:Id,¬S j->g' j=σ.get j)->wpOps X draw r K (upd env o.dst v) ⟨g',σ.next⟩):wpOps X draw (o::r) K env σ:=by
 obtain⟨v,g',h1,h2,h3⟩:=hO.app hz ⟨o.site,σ.next⟩ hid M hlen
 unfold wpOps
 rw[if_pos hw]
 unfold fI
 simp only[ho,fX,hy,hx,Option.bind_some,h1]
 exact next v g' h2 h3
theorem lU.fu {n:Nat} (h:lU enc sz x g S L) (he:∀a,dB g n (enc a)=some (enc a)):fu g (n+1) x=some (.sl (L.map enc)):=by
 obtain⟨o,_,rfl,h3⟩:=h
 exact eW h3 rfl he
end
theorem dx {a b:Id} (h:a.bY<b.bY):(a=b)=False/\(b=a)=False:=by
 constructor<;>(simp only[eq_iff_iff,iff_false];rintro rfl;omega)
theorem yi {o:Id} {a:Nat} (h:o.site=a) {b v:Nat} (sa:(a==b)=false):(o=⟨b,v⟩)=False:=by
 simp only[eq_iff_iff,iff_false]
 rintro rfl
 simp only at h
 subst h
 simp at sa
def eN (n:Nat):List AV:=[.int .i64 n]
theorem fzN (g:Rows) (n:Nat) (a:Nat):cq g (n+1) (eN a)=some (eN a):=by simp[eN,ad,aj,aH]
theorem LP (g:Rows) (n:Nat) (a:Nat):dB g (n+1) (eN a)=some (eN a):=by simp[eN,aC,aL,cC]
def Nw:uV (List Nat):=fun g cs x ids=>∃id,cs=[.own id 0 x.length]/\g id=some ⟨true,1,x.map eN⟩/\ids=[id]
theorem ME:oR Nw 1 where
 frame:=fun⟨id,h1,h2,h3⟩ hf=>by subst h3;exact⟨id,h1,(hf id (by simp)).trans h2,rfl⟩
 len:=fun⟨id,h1,_⟩=>by subst h1;rfl
 cell:=fun⟨id,h1,_⟩=>by subst h1;rfl
 live:=fun⟨id,h1,h2,h3⟩ i hi=>by
  subst h3
  have:i=id:=by simpa using hi
  subst this
  exact⟨_,h2,rfl,by simp[m4]⟩
 small:=by simp[m4]
def yF (l:List Nat):List AV:=[.sl (l.map eN)]
theorem Hh {g:Rows} {rows:List (List AV)} {xs:List (List Nat)} {ids:List Id} (n:Nat) (h:dd Nw g rows xs ids):fE g (n+2) rows=some (xs.map yF):=by
 induction h with
 |nil=>rw[fE];rfl
 |cons h1 _ ih=>
  obtain⟨id,rfl,h2,_⟩:=h1
  rw[fE,ih,aC,aL,eW (e:=eN) (sz:=1) h2 rfl fun a=>LP g n a];rfl
end Go.Proofs.YtihgaadadaekmaaGreat.V

namespace Go.Proofs.YtihgaadadaekmaaGreat.V
open Go.RowKit
attribute [local irreducible] eb wpOps gH Call
attribute [local go_sem] aM fI eM fX fV cE upd cm K.av cK AV.cells AV.cell rowOf rowsOf part ld rowAt bS bZ dH ei ij bK dc eA fZ e8 du ep cY cX dU dW bQ bf cQ bP cT cR ek er eo cP bU cZ ej bL aQ cV cw ig bt cH bR bc dF bq dI AV.undef bD bF dX eh dQ dZ cF ez eE cr ev eu cU cW List.getD_cons_zero List.getD_cons_succ List.getD_nil List.all_cons List.all_nil Bool.and_true Bool.true_and Bool.and_self Bool.not_true Bool.not_false Option.map_some Option.map_none Option.bind_some Option.bind_none List.length_cons List.length_nil List.take_succ_cons List.take_zero List.take_nil List.drop_succ_cons List.drop_zero List.drop_nil List.head?_cons List.map_cons List.map_nil List.getElem?_cons_zero List.getElem?_cons_succ List.cons_append List.nil_append List.append_nil List.length_map List.set_cons_zero List.set_cons_succ Nat.reduceMul eq_self Int.toNat_natCast Int.natCast_nonneg and_self true_and and_true decide_true decide_false Bool.false_eq_true Nat.zero_add Nat.add_zero List.contains_cons List.contains_nil Bool.or_false Bool.false_or beq_self_eq_true Nat.reduceBEq ne_eq not_true_eq_false not_false_eq_true Id.mk.injEq false_and and_false Nat.reduceLT Int.reduceLE Int.reduceLT Int.reduceToNat Int.reduceNeg Int.reduceAdd Nat.le_refl List.length_append beq_true beq_false Bool.not_eq_eq_eq_not or_false false_or dD ad aj aH bC b4 aX bo aY bl cL bE
variable {P:Program}
def IJ {α:Type} (R:uV α) (x:α) (σ:aw) (r:AV) (σ':aw):Prop:=∃cs ids,r=.agg cs/\R σ'.get cs x ids/\eP σ.next σ'.next ids/\Kept σ σ'
def fM {α:Type} (R:uV α) (z:Nat) (g:Rows) (a:AV) (xs:List α) (ids:List Id):Prop:=∃o rows is,a=.own o 0 xs.length/\g o=some ⟨true,z,rows⟩/\dd R g rows xs is/\ids=o::is
def IK {α:Type} (R:uV α) (z:Nat) (xs:List α) (σ:aw) (r:AV) (σ':aw):Prop:=∃ids,fM R z σ'.get r xs ids/\eP σ.next σ'.next ids/\Kept σ σ'
theorem fM.frame {α:Type} {R:uV α} {z:Nat} {g g':Rows} {a:AV} {xs:List α} {ids:List Id} (ok:oR R z) (h:fM R z g a xs ids) (hf:∀i∈ids,g' i=g i):fM R z g' a xs ids:=by
 obtain⟨o,rows,is,h1,h2,h3,rfl⟩:=h
 exact⟨o,rows,is,h1,(hf o (by simp)).trans h2,h3.frame ok fun i hi=>hf i (by simp[hi]),rfl⟩
theorem fM.fz {α:Type} {R:uV α} {z n:Nat} {e:α->List AV} {g:Rows} {a:AV} {xs:List α} {ids:List Id} (h:fM R z g a xs ids) (hz:∀{cs x ids},R g cs x ids->cq (dD g) n cs=some (e x)):V.fz (dD g) (n+1) a=some (.sl (xs.map e)):=by
 obtain⟨o,rows,is,rfl,h2,h3,rfl⟩:=h
 rw[gC]
 simp only[dD,h2,Option.map_some,if_true]
 rw[if_pos (by rw[h3.len];omega),List.drop_zero,List.take_of_length_le (by rw[h3.len];exact Nat.le_refl _),h3.fz hz];rfl
def kQ {α:Type} (e:α->List AV):uV α:=fun _ cs x ids=>cs=e x/\ids=[]
theorem Gz {α:Type} {e:α->List AV} {z:Nat} (hz:∀x,(e x).length=z) (hc:∀x,(e x).all AV.cell=true) (hs:z<m4):oR (kQ e) z where
 frame:=fun h _=>h
 len:=fun h=>by rw[h.1];exact hz _
 cell:=fun h=>by rw[h.1];exact hc _
 live:=fun h i hi=>by rw[h.2]at hi;cases hi
 small:=hs
def nk:uV eJ:=fun g cs t ids=>∃i,cs=[.str t.aB,.own i 0 t.bm.length]/\g i=some ⟨true,1,t.bm.map ay⟩/\ids=[i]
theorem pB:oR nk 2 where
 frame:=fun⟨i,h1,h2,h3⟩ hf=>⟨i,h1,(hf i (by rw[h3];simp)).trans h2,h3⟩
 len:=fun⟨i,h1,_⟩=>by rw[h1];rfl
 cell:=fun⟨i,h1,_⟩=>by rw[h1];rfl
 live:=fun⟨i,h1,h2,h3⟩ j hj=>by
  rw[h3]at hj
  have:j=i:=by simpa using hj
  subst this
  exact⟨_,h2,rfl,by simp[m4]⟩
 small:=by simp[m4]
theorem Kk {g:Rows} {cs:List AV} {t:eJ} {ids:List Id} (n:Nat) (h:nk g cs t ids):cq (dD g) (n+2) cs=some (aW t):=by
 obtain⟨i,rfl,h2,_⟩:=h
 have h3:V.fz (dD g) (n+2) (.own i 0 t.bm.length)=some (.sl (t.bm.map ay)):=eT (e:=ay) (sz:=1) (by simp[dD,h2]) rfl fun x=>by simp[ay,ad,aj,aH]
 simp only[ad,aj,bC,h3,Option.map_some,aW]
theorem Kf {α:Type} {a b:List α} {x y:α} {k:Nat} (hk:a.length=k):(a++x::b).set k y=a++[y]++b:=by subst hk;simp
theorem yu {α:Type} {R:uV α} {en:α->List AV} {z fk gk:Nat} {zero:List K} (ok:oR R z) (hc:l5 P fk=some (ss fk gk z zero)) (FW:zero.length=z) (hz:∀x,(en x).length=z) (xs:List α) (hlen:xs.length<=1048576)
  (hg:∀x∈xs,∀σ,Call P gk [.agg (en x)] σ (IJ R x σ)) (σ:aw):Call P fk [.sl (xs.map en)] σ (IK R z xs σ):=by
 refine fh hc rfl fun hl=>?_
 try simp only[q]
 clear hl
 have hm:(xs.length:Int)<=((16777216:Nat):Int):=ab
 have h0:(0:Int)<=(xs.length:Int):=ab
 (try((repeat(revert hN;revert N;apply Pn.out));refine wk (tw @hm (tw @h0 (tw @Int.le_refl @FW))) ?_;(repeat(refine Pn.mk ?_;intro N hN))))
 refine aT (fun n env st=>∃k:Nat,n=(xs.length)-k/\k<=(xs.length)/\env 4=.int .i64 (k:Int)/\(σ.next+2<=st.next/\(∀y:Id,y.bY<σ.next->st.get y=σ.get y)/\∃rows is,st.get ⟨fk*1000000+1002,σ.next+1⟩=some ⟨true,z,rows++List.replicate (xs.length-k) (zero.map K.av)⟩/\dd R st.get rows (xs.take k) is/\eP (σ.next+2) st.next is)) (xs.length) ⟨0,ab,ab,sl @Nat.zero_add,by(try dsimp only);exact⟨ab,fun y hy=>by
  have h1:=eC hy
  simp only[go_sem, ↓reduceIte,Nat.reduceEqDiff,Nat.reduceAdd,Nat.reduceSub,Nat.reduceLeDiff,reduceCtorEq,h1],[],[],sl @Nat.zero_add,.nil,List.nodup_nil,fun i hi=>by cases hi⟩⟩ ?_
 rintro n_a env_a st_a ⟨k,rfl,ale,a4,k5⟩ dE
 have a0:=dE 0 (by kernel_rfl);have a3:=dE 3 (by kernel_rfl)
 simp only[go_sem, ↓reduceIte,Nat.reduceEqDiff,Nat.reduceAdd,Nat.reduceSub,Nat.reduceLeDiff,reduceCtorEq]at a0 a3
 clear dE
 obtain⟨an,aK,rows,is,ag,aR,aN⟩:=k5
 have qP:rows.length=k:=by rw[aR.len,List.length_take];omega
 by_cases hk:(k:Int)<(xs.length:Int)
 ·have bW:∀{e:Env} {gg:Rows} {nx:Nat},(e 4=.int .i64 (IntKind.i64.wrap ((k:Int)+1)))->(σ.next+2<=nx/\(∀y:Id,y.bY<σ.next->gg y=σ.get y)/\∃rows is,gg ⟨fk*1000000+1002,σ.next+1⟩=some ⟨true,z,rows++List.replicate (xs.length-(k+1)) (zero.map K.av)⟩/\dd R gg rows (xs.take (k+1)) is/\eP (σ.next+2) nx is)->∃m0,m0<(xs.length)-k/\∃k:Nat,m0=(xs.length)-k/\k<=(xs.length)/\e 4=.int .i64 (k:Int)/\(σ.next+2<=nx/\(∀y:Id,y.bY<σ.next->gg y=σ.get y)/\∃rows is,gg ⟨fk*1000000+1002,σ.next+1⟩=some ⟨true,z,rows++List.replicate (xs.length-k) (zero.map K.av)⟩/\dd R gg rows (xs.take k) is/\eP (σ.next+2) nx is):=fun x1 x2=>⟨_,ab,k+1,rfl,ab,(by rw[x1,aA ab]),x2⟩
  have fw:k<xs.length:=ab
  have eO:(xs.map en)[k]? =some (en xs[k]):=by simp[fw]
  have sf:=hz xs[k]
  have ht:(en xs[k]).take z=en xs[k]:=by rw[<-sf,List.take_length]
  have gL:=hg _ (List.getElem_mem fw)
  obtain⟨m,KR⟩:∃m,xs.length-k=m+1:=⟨xs.length-k-1,ab⟩
  rw[KR,List.replicate_succ]at ag
  generalize hex:en xs[k]=c at gL eO sf ht
  (try((repeat(revert hN;revert N;apply Pn.out));refine wk (tw @a4 (tw @a0 (tw @a3 (tw @hk (tw @eO (tw @sf (tw @ht @Nat.le_refl))))))) ?_;(repeat(refine Pn.mk ?_;intro N hN))))
  refine .inr (aV _ _ _ _ _ (fun r σ1 hq=>?_) (gL _))
  obtain⟨cs,ids,rfl,hR,hI,hK⟩:=hq
  obtain⟨g1,x1⟩:=σ1
  (try dsimp only at hR hI hK)
  have yH:=(hK.2 ⟨fk*1000000+1002,σ.next+1⟩ bw)
  simp only[go_sem, ↓reduceIte,Nat.reduceEqDiff,Nat.reduceAdd,Nat.reduceSub,Nat.reduceLeDiff,reduceCtorEq,ag]at yH
  have mW:=ok.len hR
  have uZ:=ok.cell hR
  have dp:(rows++zero.map K.av::List.replicate m (zero.map K.av))[k]? =some (zero.map K.av):=by rw[List.getElem?_append_right ab,qP,Nat.sub_self];rfl
  have ew:(rows++zero.map K.av::List.replicate m (zero.map K.av)).set k cs=rows++[cs]++List.replicate m (zero.map K.av):=Kf qP
  have GM:(zero.map K.av).drop z=[]:=List.drop_of_length_le (by simp[FW])
  have Ez:(rows++zero.map K.av::List.replicate m (zero.map K.av)).length=xs.length:=by simp[qP];omega
  refine hN _ _ ?_
  clear hN N
  (try((repeat(revert hN;revert N;apply Pn.out));refine wk (tw @a4 (tw @a0 (tw @a3 (tw @hk (tw @yH (tw @dp (tw @ew (tw @Ez (tw @GM (tw @tr (tw @mW (tw @uZ (tw @Nat.le_refl @FW))))))))))))) ?_;(repeat(refine Pn.mk ?_;intro N hN))))
  have vC:=hK.1
  have Il:∀i∈is,(i=⟨fk*1000000+1002,σ.next+1⟩)=False:=fun i hi=>eq_false fun e=>by
   have:=(aN.2 i hi).1
   subst e;(try dsimp only at this);omega
  have uY:∀i∈ids,(i=⟨fk*1000000+1002,σ.next+1⟩)=False:=fun i hi=>eq_false fun e=>by
   have:=(hI.2 i hi).1
   subst e;(try dsimp only at this);omega
  exact bW (sd (tw @a4 (tw @a0 @a3))) (by(try dsimp only at *);exact⟨ab,fun y hy=>by
   have h1:=eC hy
   have h2:=hK.2 y bw
   have h3:=aK y hy
   simp only[go_sem, ↓reduceIte,Nat.reduceEqDiff,Nat.reduceAdd,Nat.reduceSub,Nat.reduceLeDiff,reduceCtorEq]at h2
   simp only[go_sem, ↓reduceIte,Nat.reduceEqDiff,Nat.reduceAdd,Nat.reduceSub,Nat.reduceLeDiff,reduceCtorEq,h1,h2,h3],rows++[cs],is++ids,by
    rw[show xs.length-(k+1)=m by omega]
    simp only[go_sem, ↓reduceIte,Nat.reduceEqDiff,Nat.reduceAdd,Nat.reduceSub,Nat.reduceLeDiff,reduceCtorEq]<;>rfl,by
    rw[List.take_succ_eq_append_getElem fw]
    refine((aR.frame ok fun i hi=>?_).app (.one (ok.frame hR fun i hi=>?_)))
    ·have h1:=Il i hi
     have h2:=hK.2 i (by(try dsimp only);have:=(aN.2 i hi).2;omega)
     simp only[go_sem, ↓reduceIte,Nat.reduceEqDiff,Nat.reduceAdd,Nat.reduceSub,Nat.reduceLeDiff,reduceCtorEq]at h2
     simp only[go_sem, ↓reduceIte,Nat.reduceEqDiff,Nat.reduceAdd,Nat.reduceSub,Nat.reduceLeDiff,reduceCtorEq,h1,h2]
    ·have h1:=uY i hi
     simp only[go_sem, ↓reduceIte,Nat.reduceEqDiff,Nat.reduceAdd,Nat.reduceSub,Nat.reduceLeDiff,reduceCtorEq,h1],(aN.app hI bw ab bw).wide (Nat.le_refl _) bw⟩)
 ·(try((repeat(revert hN;revert N;apply Pn.out));refine wk (tw @a4 (tw @a0 (tw @a3 @hk))) ?_;(repeat(refine Pn.mk ?_;intro N hN))))
  have fw:k=xs.length:=ab
  subst fw
  rw[Nat.sub_self,List.replicate_zero,List.append_nil]at ag
  rw[List.take_length]at aR
  refine fy (.inl rfl) (vs:=[.own ⟨fk*1000000+1002,σ.next+1⟩ 0 xs.length]) (sd (tw @a4 (tw @a0 @a3))) ?_
  exact⟨_,⟨_,rows,is,rfl,ag,aR,rfl⟩,⟨List.nodup_cons.2 ⟨fun hi=>by have:=(aN.2 _ hi).1;(try dsimp only at this);omega,aN.1⟩,fun i hi=>by
   rcases List.mem_cons.1 hi with rfl|hi
   ·(try dsimp only);omega
   ·have:=aN.2 i hi;(try dsimp only);omega⟩,⟨bw,fun j hj=>aK j hj⟩⟩
end Go.Proofs.YtihgaadadaekmaaGreat.V

namespace Go.Proofs.YtihgaadadaekmaaGreat.V
open Go.RowKit
attribute [local irreducible] eb wpOps gH Call
attribute [local go_sem] aM fI eM fX fV cE upd cm K.av cK AV.cells AV.cell rowOf rowsOf part ld rowAt bS bZ dH ei ij bK dc eA fZ e8 du ep cY cX dU dW bQ bf cQ bP cT cR ek er eo cP bU cZ ej bL aQ cV cw ig bt cH bR bc dF bq dI AV.undef bD bF dX eh dQ dZ cF ez eE cr ev eu cU cW List.getD_cons_zero List.getD_cons_succ List.getD_nil List.all_cons List.all_nil Bool.and_true Bool.true_and Bool.and_self Bool.not_true Bool.not_false Option.map_some Option.map_none Option.bind_some Option.bind_none List.length_cons List.length_nil List.take_succ_cons List.take_zero List.take_nil List.drop_succ_cons List.drop_zero List.drop_nil List.head?_cons List.map_cons List.map_nil List.getElem?_cons_zero List.getElem?_cons_succ List.cons_append List.nil_append List.append_nil List.length_map List.set_cons_zero List.set_cons_succ Nat.reduceMul eq_self Int.toNat_natCast Int.natCast_nonneg and_self true_and and_true decide_true decide_false Bool.false_eq_true Nat.zero_add Nat.add_zero List.contains_cons List.contains_nil Bool.or_false Bool.false_or beq_self_eq_true Nat.reduceBEq ne_eq not_true_eq_false not_false_eq_true Id.mk.injEq false_and and_false Nat.reduceLT Int.reduceLE Int.reduceLT Int.reduceToNat Int.reduceNeg Int.reduceAdd Nat.le_refl List.length_append beq_true beq_false Bool.not_eq_eq_eq_not or_false false_or dD ad aj aH bC b4 aX bo aY bl cL bE
theorem fM.kj {α:Type} {R:uV α} {z:Nat} {g:Rows} {a:AV} {xs:List α} {ids:List Id} (h:fM R z g a xs ids):∃o,a=.own o 0 xs.length:=by
 obtain⟨o,rows,is,rfl,_⟩:=h;exact⟨o,rfl⟩
theorem HY (xs:List Int) (hlen:xs.length<=1048576) (σ:aw):Call Tryz.prog 127 [.sl (xs.map ay)] σ (fun r σ'=>∃i,r=.own i 0 xs.length/\σ'.get i=some ⟨true,1,xs.map ay⟩/\eP σ.next σ'.next [i]/\Kept σ σ'):=by
 refine fh (show l5 Tryz.prog 127=some (H0 127 (.int .i64 0)) by kernel_rfl) rfl fun hl=>?_
 try simp only[q]
 clear hl
 obtain⟨en,Iq⟩:∃en:Int->List AV,en=ay:=⟨_,rfl⟩
 rw[<-Iq]
 have hm:(xs.length:Int)<=((16777216:Nat):Int):=ab
 have h0:(0:Int)<=(xs.length:Int):=ab
 (try((repeat(revert hN;revert N;apply Pn.out));refine wk (tw @hm (tw @h0 (tw @Int.le_refl (ny en [AV.int .i64 0] xs)))) ?_;(repeat(refine Pn.mk ?_;intro N hN))))
 refine aT (fun n env st=>∃k:Nat,n=(xs.length)-k/\k<=(xs.length)/\env 4=.int .i64 (k:Int)/\st.get ⟨127*1000000+1002,σ.next+1⟩=some ⟨true,1,gi en [AV.int .i64 0] xs k⟩/\(σ.next+2<=st.next/\∀y:Id,y.bY<σ.next->st.get y=σ.get y)) (xs.length) ⟨0,ab,ab,sl @Nat.zero_add,sl @Nat.zero_add,by(try dsimp only);exact⟨ab,fun y hy=>by
  have h1:=eC hy
  simp only[go_sem, ↓reduceIte,Nat.reduceEqDiff,Nat.reduceAdd,Nat.reduceSub,Nat.reduceLeDiff,reduceCtorEq,h1]⟩⟩ ?_
 rintro n_a env_a st_a ⟨k,rfl,ale,a4,ag0,k5⟩ dE
 have a0:=dE 0 (by kernel_rfl);have a3:=dE 3 (by kernel_rfl)
 simp only[go_sem, ↓reduceIte,Nat.reduceEqDiff,Nat.reduceAdd,Nat.reduceSub,Nat.reduceLeDiff,reduceCtorEq]at a0 a3
 clear dE
 obtain⟨an,aK⟩:=k5
 by_cases hk:(k:Int)<(xs.length:Int)
 ·have bW:∀{e:Env} {gg:Rows} {nx:Nat},(e 4=.int .i64 (IntKind.i64.wrap ((k:Int)+1)))->(gg ⟨127*1000000+1002,σ.next+1⟩=some ⟨true,1,gi en [AV.int .i64 0] xs (k+1)⟩)->(σ.next+2<=nx/\∀y:Id,y.bY<σ.next->gg y=σ.get y)->∃m0,m0<(xs.length)-k/\∃k:Nat,m0=(xs.length)-k/\k<=(xs.length)/\e 4=.int .i64 (k:Int)/\gg ⟨127*1000000+1002,σ.next+1⟩=some ⟨true,1,gi en [AV.int .i64 0] xs k⟩/\(σ.next+2<=nx/\∀y:Id,y.bY<σ.next->gg y=σ.get y):=fun x1 x2 x3=>⟨_,ab,k+1,rfl,ab,(by rw[x1,aA ab]),x2,x3⟩
  have fw:k<xs.length:=ab
  have eO:(xs.map en)[k]? =some [AV.int .i64 xs[k]]:=by simp[fw,Iq,ay]
  have fa:=o9 en [AV.int .i64 0] xs fw
  have ew:=pa en [AV.int .i64 0] xs fw
  rw[show en xs[k]=[AV.int .i64 xs[k]] by rw[Iq];rfl]at ew
  (try((repeat(revert hN;revert N;apply Pn.out));refine wk (tw @a4 (tw @ag0 (tw @a0 (tw @a3 (tw @hk (tw @eO (tw @fa @ew))))))) ?_;(repeat(refine Pn.mk ?_;intro N hN))))
  refine bW ?_ ?_ (by(try dsimp only);exact⟨ab,fun y hy=>by
   have h1:=eC hy
   have h3:=aK y hy
   simp only[go_sem, ↓reduceIte,Nat.reduceEqDiff,Nat.reduceAdd,Nat.reduceSub,Nat.reduceLeDiff,reduceCtorEq,h1,h3]⟩)
  all_goals simp only[go_sem, ↓reduceIte,Nat.reduceEqDiff,Nat.reduceAdd,Nat.reduceSub,Nat.reduceLeDiff,reduceCtorEq,a4,ag0,a0,a3]
 ·(try((repeat(revert hN;revert N;apply Pn.out));refine wk (tw @a4 (tw @ag0 (tw @a0 (tw @a3 @hk)))) ?_;(repeat(refine Pn.mk ?_;intro N hN))))
  have fw:k=xs.length:=ab
  subst fw
  refine fy (.inl rfl) (vs:=[.own ⟨127*1000000+1002,σ.next+1⟩ 0 xs.length]) (sd (tw @a4 (tw @ag0 (tw @a0 @a3)))) ?_
  rw[o8]at ag0
  exact⟨_,rfl,ag0,⟨List.nodup_cons.2 ⟨by simp,List.nodup_nil⟩,fun i hi=>by
   rw[List.mem_singleton.1 hi];(try dsimp only);omega⟩,⟨bw,fun j hj=>aK j hj⟩⟩
theorem H3 (p:eJ) (hs:qT p) (σ:aw):Call Tryz.prog 95 [.agg (aW p)] σ (IJ nk p σ):=by
 refine fh dY rfl fun hl=>?_
 clear hl
 (try((repeat(revert hN;revert N;apply Pn.out));refine wk @aW.eq_1 ?_;(repeat(refine Pn.mk ?_;intro N hN))))
 refine .inr (aV _ _ _ _ _ (fun r σ1 hq=>?_) (HY p.bm hs _))
 obtain⟨i,rfl,hg,hI,hK⟩:=hq
 obtain⟨g1,x1⟩:=σ1
 (try dsimp only at hg hI hK)
 have hn:=hK.1
 refine hN _ _ ?_
 clear hN N
 have hi:=hI.2 i (by simp)
 have k2:=hK.2 ⟨95000001,σ.next⟩ bw
 have k3:=hK.2 ⟨95001000,σ.next+1⟩ bw
 simp only[go_sem, ↓reduceIte,Nat.reduceEqDiff,Nat.reduceAdd,Nat.reduceSub,Nat.reduceLeDiff,reduceCtorEq]at k2 k3
 (try((repeat(revert hN;revert N;apply Pn.out));refine wk (tw @aW.eq_1 (tw @k2 @k3)) ?_;(repeat(refine Pn.mk ?_;intro N hN))))
 refine fy (.inl rfl) (vs:=[.agg [.str p.aB,.own i 0 p.bm.length]]) (sd @Nat.zero_add) ?_
 refine⟨_,[i],rfl,⟨i,rfl,?_,rfl⟩,⟨hI.1,fun j hj=>?_⟩,⟨?_,fun j hj=>?_⟩⟩
 ·have i2:=dx (b:=i) (a:=⟨95000001,σ.next⟩) (by(try dsimp only at *);omega)
  have i3:=dx (b:=i) (a:=⟨95001000,σ.next+1⟩) (by(try dsimp only at *);omega)
  simp only[go_sem, ↓reduceIte,Nat.reduceEqDiff,Nat.reduceAdd,Nat.reduceSub,Nat.reduceLeDiff,reduceCtorEq,i2,i3,hg]
 ·rw[List.mem_singleton.1 hj]
  (try dsimp only at *);omega
 ·(try dsimp only at *);omega
 ·have h2:=hK.2 j bw
  have h1:=eC hj
  simp only[go_sem, ↓reduceIte,Nat.reduceEqDiff,Nat.reduceAdd,Nat.reduceSub,Nat.reduceLeDiff,reduceCtorEq,h1]at h2
  simp only[go_sem, ↓reduceIte,Nat.reduceEqDiff,Nat.reduceAdd,Nat.reduceSub,Nat.reduceLeDiff,reduceCtorEq,h1,h2]
theorem zo:oR (kQ bh) 2:=Gz (fun _=>rfl) (fun _=>rfl) (by simp[m4])
theorem wj:oR (kQ ai) 3:=Gz (fun _=>rfl) (fun _=>rfl) (by simp[m4])
theorem HW (p:fc) (σ:aw):Call Tryz.prog 94 [.agg (bh p)] σ (IJ (kQ bh) p σ):=by
 refine fh dY rfl fun hl=>?_
 clear hl
 (try((repeat(revert hN;revert N;apply Pn.out));refine wk @bh.eq_1 ?_;(repeat(refine Pn.mk ?_;intro N hN))))
 refine fy (.inl rfl) (vs:=[.agg (bh p)]) (sd @bh.eq_1) ?_
 exact⟨_,[],rfl,⟨rfl,rfl⟩,⟨List.nodup_nil,fun i hi=>by cases hi⟩,⟨bw,fun j hj=>by
  have h1:=eC hj
  simp only[go_sem, ↓reduceIte,Nat.reduceEqDiff,Nat.reduceAdd,Nat.reduceSub,Nat.reduceLeDiff,reduceCtorEq,h1]⟩⟩
theorem CB (p:ak) (σ:aw):Call Tryz.prog 59 [.agg (ai p)] σ (IJ (kQ ai) p σ):=by
 refine fh dY rfl fun hl=>?_
 clear hl
 have h:=w9 p.cI
 rw[ao]at h
 (repeat(first|((repeat(revert hN;revert N;apply Pn.out));refine wk @ai.eq_1 ?_;(repeat(refine Pn.mk ?_;intro N hN)))|((try apply Or.inl);refine⟨_,j0.x (h) _,?_⟩;refine hN _ _ ?_;clear hN N)))
 refine fy (.inl rfl) (vs:=[.agg (ai p)]) (sd @ai.eq_1) ?_
 exact⟨_,[],rfl,⟨rfl,rfl⟩,⟨List.nodup_nil,fun i hi=>by cases hi⟩,⟨bw,fun j hj=>by
  have h1:=eC hj
  simp only[go_sem, ↓reduceIte,Nat.reduceEqDiff,Nat.reduceAdd,Nat.reduceSub,Nat.reduceLeDiff,reduceCtorEq,h1]⟩⟩
theorem FC (xs:List fc) (h:xs.length<=1048576) (σ:aw):Call Tryz.prog 57 [.sl (xs.map bh)] σ (IK (kQ bh) 2 xs σ):=
 yu zo (show l5 Tryz.prog 57=some (ss 57 94 2 [.str [],.int .i64 0]) by kernel_rfl) rfl (fun _=>rfl) xs h (fun x _ σ=>HW x σ) σ
theorem FE (xs:List eJ) (h:xs.length<=1048576) (hs:∀t∈xs,qT t) (σ:aw):Call Tryz.prog 58 [.sl (xs.map aW)] σ (IK nk 2 xs σ):=
 yu pB (show l5 Tryz.prog 58=some (ss 58 95 2 [.str [],.br]) by kernel_rfl) rfl (fun _=>rfl) xs h (fun x hx σ=>H3 x (hs x hx) σ) σ
theorem Am (xs:List ak) (h:xs.length<=1048576) (σ:aw):Call Tryz.prog 29 [.sl (xs.map ai)] σ (IK (kQ ai) 3 xs σ):=
 yu wj (show l5 Tryz.prog 29=some (ss 29 59 3 [.int .i64 0,.int .i64 0,.int .i64 0]) by kernel_rfl) rfl (fun _=>rfl) xs h (fun x _ σ=>CB x σ) σ
def xc (g:Rows) (v:AV) (a:dm) (ids:List Id):Prop:=∃x,v=.agg [x]/\fM (kQ ai) 3 g x a.ae ids
structure yR (g:Rows) (v:AV) (s:cl) (ids:List Id):Prop where
 ex:∃a b c i1 i2 i3,v=.agg [a,b,c,.int .i64 s.aJ]/\fM (kQ bh) 2 g a s.aI.au i1/\fM nk 2 g b s.aI.ae i2/\fM (kQ ai) 3 g c s.ck.ae i3/\ids=i1++(i2++i3)
theorem xc.frame {g g':Rows} {v:AV} {a:dm} {ids:List Id} (h:xc g v a ids) (hf:∀i∈ids,g' i=g i):xc g' v a ids:=by
 obtain⟨x,h1,h2⟩:=h
 exact⟨x,h1,h2.frame wj hf⟩
theorem yR.frame {g g':Rows} {v:AV} {s:cl} {ids:List Id} (h:yR g v s ids) (hf:∀i∈ids,g' i=g i):yR g' v s ids:=by
 obtain⟨a,b,c,i1,i2,i3,h1,h2,h3,h4,rfl⟩:=h.ex
 exact⟨a,b,c,i1,i2,i3,h1,h2.frame zo fun i hi=>hf i (by simp[hi]),h3.frame pB fun i hi=>hf i (by simp[hi]),h4.frame wj fun i hi=>hf i (by simp[hi]),rfl⟩
theorem xc.fz {g:Rows} {v:AV} {a:dm} {ids:List Id} (n:Nat) (h:xc g v a ids):V.fz (dD g) (n+4) v=some (.agg (aD a)):=by
 obtain⟨x,rfl,h2⟩:=h
 have h3:=h2.fz (n:=n+2) (e:=ai) fun hc=>by rw[hc.1];simp[ai,ad,aj,aH]
 simp only[bo,ad,aj,h3,Option.map_some,aD]
theorem yR.fz {g:Rows} {v:AV} {s:cl} {ids:List Id} (n:Nat) (h:yR g v s ids):V.fz (dD g) (n+5) v=some (.agg (az s)):=by
 obtain⟨a,b,c,i1,i2,i3,rfl,h2,h3,h4,rfl⟩:=h.ex
 have q1:=h2.fz (n:=n+3) (e:=bh) fun hc=>by rw[hc.1];simp[bh,ad,aj,aH,bC]
 have q2:=h3.fz (n:=n+3) (e:=aW) fun hc=>Kk (n+1) hc
 have q3:=h4.fz (n:=n+3) (e:=ai) fun hc=>by rw[hc.1];simp[ai,ad,aj,aH]
 simp only[bo,ad,aj,q1,q2,q3,aH,Option.map_some,az]
theorem qI (p:dm) (hs:p.ae.length<=1048576) (σ:aw):Call Tryz.prog 9 [.agg (aD p)] σ (fun r σ'=>∃ids,xc σ'.get r p ids/\eP σ.next σ'.next ids/\Kept σ σ'):=by
 refine fh dY rfl fun hl=>?_
 clear hl
 (try((repeat(revert hN;revert N;apply Pn.out));refine wk @aD.eq_1 ?_;(repeat(refine Pn.mk ?_;intro N hN))))
 refine .inr (aV _ _ _ _ _ (fun r σ1 hq=>?_) (Am p.ae hs _))
 obtain⟨ids,hR,hI,hK⟩:=hq
 obtain⟨g1,x1⟩:=σ1
 (try dsimp only at hR hI hK)
 have hn:=hK.1
 obtain⟨o,rows,is,rfl,hg,Rl,rfl⟩:=hR
 refine hN _ _ ?_
 clear hN N
 have k2:=hK.2 ⟨9000001,σ.next⟩ bw
 have k3:=hK.2 ⟨9001000,σ.next+1⟩ bw
 simp only[go_sem, ↓reduceIte,Nat.reduceEqDiff,Nat.reduceAdd,Nat.reduceSub,Nat.reduceLeDiff,reduceCtorEq]at k2 k3
 (try((repeat(revert hN;revert N;apply Pn.out));refine wk (tw @aD.eq_1 (tw @k2 @k3)) ?_;(repeat(refine Pn.mk ?_;intro N hN))))
 refine fy (.inl rfl) (vs:=[.agg [.own o 0 p.ae.length]]) (sd @Nat.zero_add) ?_
 have hb:=hI.2
 (try dsimp only at hb hn)
 refine⟨_,⟨_,rfl,fM.frame wj ⟨o,rows,is,rfl,hg,Rl,rfl⟩ fun j hj=>?_⟩,⟨hI.1,fun j hj=>?_⟩,⟨?_,fun j hj=>?_⟩⟩
 ·have hj2:=hb j hj
  have i2:=dx (b:=j) (a:=⟨9000001,σ.next⟩) bw
  have i3:=dx (b:=j) (a:=⟨9001000,σ.next+1⟩) bw
  simp only[go_sem, ↓reduceIte,Nat.reduceEqDiff,Nat.reduceAdd,Nat.reduceSub,Nat.reduceLeDiff,reduceCtorEq,i2,i3]
 ·have:=hb j hj
  (try dsimp only);omega
 ·(try dsimp only);omega
 ·have h2:=hK.2 j bw
  have h1:=eC hj
  simp only[go_sem, ↓reduceIte,Nat.reduceEqDiff,Nat.reduceAdd,Nat.reduceSub,Nat.reduceLeDiff,reduceCtorEq,h1]at h2
  simp only[go_sem, ↓reduceIte,Nat.reduceEqDiff,Nat.reduceAdd,Nat.reduceSub,Nat.reduceLeDiff,reduceCtorEq,h1,h2]
theorem Ao (p:aq) (hs:F6 p) (σ:aw):Call Tryz.prog 28 [.agg (aa p)] σ (fun r σ'=>∃a b i1 i2,r=.agg [a,b]/\fM (kQ bh) 2 σ'.get a p.au i1/\fM nk 2 σ'.get b p.ae i2/\eP σ.next σ'.next (i1++i2)/\Kept σ σ'):=by
 refine fh dY rfl fun hl=>?_
 clear hl
 (try((repeat(revert hN;revert N;apply Pn.out));refine wk @aa.eq_1 ?_;(repeat(refine Pn.mk ?_;intro N hN))))
 refine .inr (aV _ _ _ _ _ (fun r σ1 hq=>?_) (FC p.au hs.g _))
 obtain⟨i1,hR,hI,hK⟩:=hq
 obtain⟨g1,x1⟩:=σ1
 (try dsimp only at hR hI hK)
 have hn:=hK.1
 obtain⟨o,rows,is,rfl,hg,Rl,rfl⟩:=hR
 have hb:=hI.2
 (try dsimp only at hb hn)
 refine hN _ _ ?_
 clear hN N
 have k1:=hK.2 ⟨28000000,σ.next⟩ bw
 have k2:=hK.2 ⟨28000001,σ.next⟩ bw
 have k3:=hK.2 ⟨28001000,σ.next+1⟩ bw
 simp only[go_sem, ↓reduceIte,Nat.reduceEqDiff,Nat.reduceAdd,Nat.reduceSub,Nat.reduceLeDiff,reduceCtorEq]at k1 k2 k3
 (try((repeat(revert hN;revert N;apply Pn.out));refine wk (tw @aa.eq_1 (tw @k1 (tw @k2 @k3))) ?_;(repeat(refine Pn.mk ?_;intro N hN))))
 refine .inr (aV _ _ _ _ _ (fun r σ2 hq=>?_) (FE p.ae hs.t hs.s _))
 obtain⟨i2,hS,hJ,hL⟩:=hq
 obtain⟨g2,x2⟩:=σ2
 (try dsimp only at hS hJ hL)
 have OY:=hL.1
 obtain⟨o2,HJ,Sf,rfl,OO,hS',rfl⟩:=hS
 have hc:=hJ.2
 (try dsimp only at hc OY)
 refine hN _ _ ?_
 clear hN N
 have l2:=hL.2 ⟨28000001,σ.next⟩ bw
 have l3:=hL.2 ⟨28001000,σ.next+1⟩ bw
 simp only[go_sem, ↓reduceIte,Nat.reduceEqDiff,Nat.reduceAdd,Nat.reduceSub,Nat.reduceLeDiff,reduceCtorEq,k2,k3]at l2 l3
 (try((repeat(revert hN;revert N;apply Pn.out));refine wk (tw @aa.eq_1 (tw @l2 @l3)) ?_;(repeat(refine Pn.mk ?_;intro N hN))))
 refine fy (.inl rfl) (vs:=[.agg [.own o 0 p.au.length,.own o2 0 p.ae.length]]) (sd @Nat.zero_add) ?_
 have fr:∀x:Id,σ.next+2<=x.bY->(x=⟨28000001,σ.next⟩)=False/\(x=⟨28001000,σ.next+1⟩)=False:=fun x hx=>⟨(dx (a:=⟨28000001,σ.next⟩) (b:=x) bw).2,(dx (a:=⟨28001000,σ.next+1⟩) (b:=x) bw).2⟩
 refine⟨_,_,_,_,rfl,fM.frame (g:=g1) zo ⟨o,rows,is,rfl,hg,Rl,rfl⟩ fun i hi=>?_,fM.frame (g:=g2) pB ⟨o2,HJ,Sf,rfl,OO,hS',rfl⟩ fun i hi=>?_,?_,⟨bw,fun j hj=>?_⟩⟩
 ·have h1:=hb i hi
  have h2:=hL.2 i bw
  have h3:=fr i ab
  simp only[go_sem, ↓reduceIte,Nat.reduceEqDiff,Nat.reduceAdd,Nat.reduceSub,Nat.reduceLeDiff,reduceCtorEq,h3]at h2
  simp only[go_sem, ↓reduceIte,Nat.reduceEqDiff,Nat.reduceAdd,Nat.reduceSub,Nat.reduceLeDiff,reduceCtorEq,h2,h3]
 ·have h1:=hc i hi
  have h3:=fr i ab
  simp only[go_sem, ↓reduceIte,Nat.reduceEqDiff,Nat.reduceAdd,Nat.reduceSub,Nat.reduceLeDiff,reduceCtorEq,h3]
 ·(try dsimp only at *)
  exact(hI.app hJ ab ab ab).wide ab ab
 ·have h1:=eC hj
  have h2:=hL.2 j bw
  have h3:=hK.2 j bw
  simp only[go_sem, ↓reduceIte,Nat.reduceEqDiff,Nat.reduceAdd,Nat.reduceSub,Nat.reduceLeDiff,reduceCtorEq,h1]at h2 h3
  simp only[go_sem, ↓reduceIte,Nat.reduceEqDiff,Nat.reduceAdd,Nat.reduceSub,Nat.reduceLeDiff,reduceCtorEq,h1,h2,h3]
theorem CE (p:cl) (hs:rU p) (σ:aw):Call Tryz.prog 8 [.agg (az p)] σ (fun r σ'=>∃ids,yR σ'.get r p ids/\eP σ.next σ'.next ids/\Kept σ σ'):=by
 refine fh dY rfl fun hl=>?_
 clear hl
 have t1:=fun σ=>Ao p.aI hs.s σ
 have t2:=fun σ=>qI p.ck hs.a σ
 rw[aa]at t1
 rw[aD]at t2
 (try((repeat(revert hN;revert N;apply Pn.out));refine wk @az.eq_1 ?_;(repeat(refine Pn.mk ?_;intro N hN))))
 refine .inr (aV _ _ _ _ _ (fun r σ1 hq=>?_) (t1 _))
 obtain⟨a,b,i1,i2,rfl,hA,hB,hI,hK⟩:=hq
 obtain⟨g1,x1⟩:=σ1
 (try dsimp only at hA hB hI hK)
 have hn:=hK.1
 have hb:=hI.2
 (try dsimp only at hb hn)
 refine hN _ _ ?_
 clear hN N
 have k1:=hK.2 ⟨8000000,σ.next⟩ bw
 have k2:=hK.2 ⟨8000001,σ.next⟩ bw
 have k3:=hK.2 ⟨8001000,σ.next+1⟩ bw
 simp only[go_sem, ↓reduceIte,Nat.reduceEqDiff,Nat.reduceAdd,Nat.reduceSub,Nat.reduceLeDiff,reduceCtorEq]at k1 k2 k3
 obtain⟨oa,rfl⟩:=hA.kj
 obtain⟨ob,rfl⟩:=hB.kj
 (try((repeat(revert hN;revert N;apply Pn.out));refine wk (tw @az.eq_1 (tw @k1 (tw @k2 @k3))) ?_;(repeat(refine Pn.mk ?_;intro N hN))))
 refine .inr (aV _ _ _ _ _ (fun r σ2 hq=>?_) (t2 _))
 obtain⟨i3,hC,hJ,hL⟩:=hq
 obtain⟨g2,x2⟩:=σ2
 (try dsimp only at hC hJ hL)
 have OY:=hL.1
 have hc:=hJ.2
 (try dsimp only at hc OY)
 obtain⟨c,rfl,hC⟩:=hC
 obtain⟨oc,rfl⟩:=hC.kj
 refine hN _ _ ?_
 clear hN N
 have l1:=hL.2 ⟨8000000,σ.next⟩ bw
 have l2:=hL.2 ⟨8000001,σ.next⟩ bw
 have l3:=hL.2 ⟨8001000,σ.next+1⟩ bw
 simp only[go_sem, ↓reduceIte,Nat.reduceEqDiff,Nat.reduceAdd,Nat.reduceSub,Nat.reduceLeDiff,reduceCtorEq,k1,k2,k3]at l1 l2 l3
 (try((repeat(revert hN;revert N;apply Pn.out));refine wk (tw @az.eq_1 (tw @l1 (tw @l2 @l3))) ?_;(repeat(refine Pn.mk ?_;intro N hN))))
 refine fy (.inl rfl) (vs:=[.agg [.own oa 0 p.aI.au.length,.own ob 0 p.aI.ae.length,.own oc 0 p.ck.ae.length,.int .i64 p.aJ]]) (sd @Nat.zero_add) ?_
 have fr:∀x:Id,σ.next+2<=x.bY->(x=⟨8000001,σ.next⟩)=False/\(x=⟨8001000,σ.next+1⟩)=False:=fun x hx=>⟨(dx (a:=⟨8000001,σ.next⟩) (b:=x) bw).2,(dx (a:=⟨8001000,σ.next+1⟩) (b:=x) bw).2⟩
 have NB:∀i∈i1++i2,g2 i=g1 i:=fun i hi=>by
  have h1:=hb i hi
  have h2:=hL.2 i bw
  have h3:=fr i ab
  simp only[go_sem, ↓reduceIte,Nat.reduceEqDiff,Nat.reduceAdd,Nat.reduceSub,Nat.reduceLeDiff,reduceCtorEq,h3]at h2
  exact h2
 refine⟨i1++(i2++i3),⟨_,_,_,i1,i2,i3,rfl,hA.frame zo fun i hi=>?_,hB.frame pB fun i hi=>?_,hC.frame wj fun i hi=>?_,rfl⟩,?_,⟨bw,fun j hj=>?_⟩⟩
 ·have h1:=hb i (by simp[hi])
  have h2:=NB i (by simp[hi])
  have h3:=fr i ab
  simp only[go_sem, ↓reduceIte,Nat.reduceEqDiff,Nat.reduceAdd,Nat.reduceSub,Nat.reduceLeDiff,reduceCtorEq,h2,h3]
 ·have h1:=hb i (by simp[hi])
  have h2:=NB i (by simp[hi])
  have h3:=fr i ab
  simp only[go_sem, ↓reduceIte,Nat.reduceEqDiff,Nat.reduceAdd,Nat.reduceSub,Nat.reduceLeDiff,reduceCtorEq,h2,h3]
 ·have h1:=hc i hi
  have h3:=fr i ab
  simp only[go_sem, ↓reduceIte,Nat.reduceEqDiff,Nat.reduceAdd,Nat.reduceSub,Nat.reduceLeDiff,reduceCtorEq,h3]
 ·(try dsimp only at *)
  rw[<-List.append_assoc]
  exact(hI.app hJ ab ab ab).wide ab ab
 ·have h1:=eC hj
  have h2:=hL.2 j bw
  have h3:=hK.2 j bw
  simp only[go_sem, ↓reduceIte,Nat.reduceEqDiff,Nat.reduceAdd,Nat.reduceSub,Nat.reduceLeDiff,reduceCtorEq,h1]at h2 h3
  simp only[go_sem, ↓reduceIte,Nat.reduceEqDiff,Nat.reduceAdd,Nat.reduceSub,Nat.reduceLeDiff,reduceCtorEq,h1,h2,h3]
end Go.Proofs.YtihgaadadaekmaaGreat.V

namespace Go.Proofs.YtihgaadadaekmaaGreat
open Go.RowKit
def kn (n:Int):Bool:=(decide (97<=n)&&decide (n<=122))||(decide (65<=n)&&decide (n<=90))
def jn (n:Int):Bool:=decide (48<=n)&&decide (n<=57)
def sE (i:Nat) (n:Int):Prop:=kn n=true∨(0<i/\(jn n=true∨n=95))
def tk (s:ByteArray):Prop:=(1<=s.size/\s.size<=12)/\∀i (h:i<s.size),sE i s[i].toNat
open Classical in
noncomputable def jm (s:ByteArray):Bool:=decide (tk s)
theorem B9 {s:ByteArray} (h:tk s):true=jm s:=by simp[jm,h]
theorem dL {s:ByteArray} (h:¬tk s):false=jm s:=by simp[jm,h]
theorem z5 {s:ByteArray} {b:Bool} (hb:b=true) (h:tk s):b=jm s:=by simp[jm,h,hb]
theorem qn {s:ByteArray} {b:Bool} (hb:b=false) (h:¬tk s):b=jm s:=by simp[jm,h,hb]
theorem uc (w:World) (n:Int):Calls Tryz.prog 148 #[.int .u8 n] w fun e w'=>e=.returned (.bool (kn n))/\w=w':=by
 go_enter Tryz.func148,Tryz.ntmps148
 go_wp2_with fail
 all_goals
  go_ret
  exact⟨gW (by unfold kn;simp[*];try omega),rfl⟩
theorem Ef (w:World) (n:Int):Calls Tryz.prog 126 #[.int .u8 n] w fun e w'=>e=.returned (.bool (jn n))/\w=w':=by
 go_enter Tryz.func126,Tryz.ntmps126
 go_wp2_with fail
 all_goals
  go_ret
  exact⟨gW (by unfold jn;simp[*];try omega),rfl⟩
theorem Ae (w:World) (s:ByteArray) (hs:s.size<=9223372036854775807):Calls Tryz.prog 119 #[.string s] w fun e w'=>e=.returned (.bool (jm s))/\Below w.heap.size w w':=by
 by_cases h1:1<=s.size
 case neg=>
  go_enter Tryz.func119,Tryz.ntmps119
  go_wp2_with fail
  go_ret
  exact⟨gW (dL fun h=>h1 h.1.1),Below.refl _ _⟩
 by_cases h2:s.size<=12
 case neg=>
  go_enter Tryz.func119,Tryz.ntmps119
  go_wp2_with fail
  go_ret
  exact⟨gW (dL fun h=>h2 h.1.2),Below.refl _ _⟩
 go_enter Tryz.func119,Tryz.ntmps119
 go_wp2_with fail
 refine(uc _ _).mono ?_
 rintro e w' ⟨rfl,rfl⟩
 cases h3:kn s[0].toNat
 ·go_wp2_with fail
  go_ret
  exact⟨gW (dL fun h=>by have:=h.2 0 (by omega);simp only[sE]at this;rw[h3]at this;simp at this),Below.refl _ _⟩
 ·replace h3:=Lib.hid h3
  go_wp2_with fail
  go_loop [3] (fun i=>∃k:Nat,1<=k/\k<=s.size/\i=.int .i64 k/\Hid (∀j (h:j<s.size),j<k->sE j s[j].toNat)) (fun i=>s.size-(intOf i).toNat)
  case atStart=>exact⟨1,by omega,by omega,rfl,Lib.hid fun j h hj=>by
   obtain rfl:j=0:=by omega
   exact .inl h3.out⟩
  case round=>
   obtain⟨k,p9,hk,rfl,dt⟩:=hrel
   by_cases dR:k<s.size
   ·go_wp2_with fail
    refine(uc _ _).mono ?_
    rintro e w' ⟨rfl,rfl⟩
    have gR:sE k s[k].toNat∨¬sE k s[k].toNat:=Classical.em _
    cases hl:kn s[k].toNat
    ·go_wp2_with fail
     refine(Ef _ _).mono ?_
     rintro e w' ⟨rfl,rfl⟩
     cases hd:jn s[k].toNat
     ·by_cases sJ:(s[k].toNat:Int)=95
      ·have Q5:((s[k].toNat:Int) !=95)=false:=by simp;omega
       replace sJ:=Lib.hid sJ
       replace hl:=Lib.hid hl
       replace hd:=Lib.hid hd
       go_wp2_with fail
       go_round
       case rel=>exact⟨k+1,by omega,by omega,by go_num,Lib.hid fun j h hj=>by
        by_cases wC:j=k
        ·subst wC;exact .inr ⟨by omega,.inr sJ.out⟩
        ·exact dt.out j h (by omega)⟩
       case measure=>simp[intOf];omega
      ·have Q5:((s[k].toNat:Int) !=95)=true:=by simp;omega
       replace sJ:=Lib.hid sJ
       replace hl:=Lib.hid hl
       replace hd:=Lib.hid hd
       go_wp2_with fail
       go_ret
       exact⟨gW (dL fun h=>by
        have:=h.2 k dR;simp only[sE,hl.out,hd.out]at this;exact sJ.out (by simp at this;exact this.2)),Below.refl _ _⟩
     ·replace hl:=Lib.hid hl
      replace hd:=Lib.hid hd
      go_wp2_with fail
      go_round
      case rel=>exact⟨k+1,by omega,by omega,by go_num,Lib.hid fun j h hj=>by
       by_cases wC:j=k
       ·subst wC;exact .inr ⟨by omega,.inl hd.out⟩
       ·exact dt.out j h (by omega)⟩
      case measure=>simp[intOf];omega
    ·replace hl:=Lib.hid hl
     go_wp2_with fail
     go_round
     case rel=>exact⟨k+1,by omega,by omega,by go_num,Lib.hid fun j h hj=>by
      by_cases wC:j=k
      ·subst wC;exact .inl hl.out
      ·exact dt.out j h (by omega)⟩
     case measure=>simp[intOf];omega
   ·go_wp2_with fail
    go_ret
    exact⟨gW (B9 ⟨⟨h1,h2⟩,fun i h=>dt.out i h (by omega)⟩),Below.refl _ _⟩
theorem zL (w:World) (s:ByteArray) (hs:s.size<=9223372036854775807):Calls Tryz.prog 130 #[.string s] w fun e w'=>e=.returned (.bool (jm s))/\w=w':=by
 go_enter Tryz.func130,Tryz.ntmps130
 go_wp2_with fail
 go_loop [8] (fun i=>∃k:Nat,k<=s.size/\i=.int .i64 k/\Hid (∀j (h:j<s.size),j<k->sE j s[j].toNat)) (fun i=>s.size-(intOf i).toNat)
 case atStart=>exact⟨0,by omega,rfl,Lib.hid fun j h hj=>by omega⟩
 case round=>
  obtain⟨k,hk,rfl,dt⟩:=hrel
  by_cases dR:k<s.size
  ·have hc:(s[k].toNat:Int)<48∨(48<=(s[k].toNat:Int)/\(s[k].toNat:Int)<=57)∨(58<=(s[k].toNat:Int)/\(s[k].toNat:Int)<=64)∨(65<=(s[k].toNat:Int)/\(s[k].toNat:Int)<=90)∨(91<=(s[k].toNat:Int)/\(s[k].toNat:Int)<=94)∨(95<=(s[k].toNat:Int)/\(s[k].toNat:Int)<=95)∨(96<=(s[k].toNat:Int)/\(s[k].toNat:Int)<=96)∨(97<=(s[k].toNat:Int)/\(s[k].toNat:Int)<=122)∨123<=(s[k].toNat:Int):=by omega
   by_cases s8:k=0
   ·subst s8
    rcases hc with h|⟨h,h'⟩|⟨h,h'⟩|⟨h,h'⟩|⟨h,h'⟩|⟨h,h'⟩|⟨h,h'⟩|⟨h,h'⟩|h
    ·have sJ:((s[0].toNat:Int) !=95)=true:=by simp;try omega
     go_wp2_with fail
     all_goals first
      |(go_ret;exact⟨gW (dL fun hh=>by have:=hh.2 0 dR;simp[sE,kn,jn]at this;omega),rfl⟩)
      |(exfalso;simp_all;done)
      |(exfalso;simp_all;omega)
    ·have sJ:((s[0].toNat:Int) !=95)=true:=by simp;try omega
     go_wp2_with fail
     all_goals first
      |(go_ret;exact⟨gW (dL fun hh=>by have:=hh.2 0 dR;simp[sE,kn,jn]at this;omega),rfl⟩)
      |(exfalso;simp_all;done)
      |(exfalso;simp_all;omega)
    ·have sJ:((s[0].toNat:Int) !=95)=true:=by simp;try omega
     go_wp2_with fail
     all_goals first
      |(go_ret;exact⟨gW (dL fun hh=>by have:=hh.2 0 dR;simp[sE,kn,jn]at this;omega),rfl⟩)
      |(exfalso;simp_all;done)
      |(exfalso;simp_all;omega)
    ·have sJ:((s[0].toNat:Int) !=95)=true:=by simp;try omega
     go_wp2_with fail
     go_round
     case rel=>exact⟨0+1,by omega,by go_num,Lib.hid fun j hj wC=>by
      by_cases GU:j=0
      ·subst GU;simp[sE,kn,jn];omega
      ·exact dt.out j hj (by omega)⟩
     case measure=>simp[intOf];try omega
    ·have sJ:((s[0].toNat:Int) !=95)=true:=by simp;try omega
     go_wp2_with fail
     all_goals first
      |(go_ret;exact⟨gW (dL fun hh=>by have:=hh.2 0 dR;simp[sE,kn,jn]at this;omega),rfl⟩)
      |(exfalso;simp_all;done)
      |(exfalso;simp_all;omega)
    ·have sJ:((s[0].toNat:Int) !=95)=false:=by simp;try omega
     go_wp2_with fail
     all_goals first
      |(go_ret;exact⟨gW (dL fun hh=>by have:=hh.2 0 dR;simp[sE,kn,jn]at this;omega),rfl⟩)
      |(exfalso;simp_all;done)
      |(exfalso;simp_all;omega)
    ·have sJ:((s[0].toNat:Int) !=95)=true:=by simp;try omega
     go_wp2_with fail
     all_goals first
      |(go_ret;exact⟨gW (dL fun hh=>by have:=hh.2 0 dR;simp[sE,kn,jn]at this;omega),rfl⟩)
      |(exfalso;simp_all;done)
      |(exfalso;simp_all;omega)
    ·have sJ:((s[0].toNat:Int) !=95)=true:=by simp;try omega
     go_wp2_with fail
     go_round
     case rel=>exact⟨0+1,by omega,by go_num,Lib.hid fun j hj wC=>by
      by_cases GU:j=0
      ·subst GU;simp[sE,kn,jn];omega
      ·exact dt.out j hj (by omega)⟩
     case measure=>simp[intOf];try omega
    ·have sJ:((s[0].toNat:Int) !=95)=true:=by simp;try omega
     go_wp2_with fail
     all_goals first
      |(go_ret;exact⟨gW (dL fun hh=>by have:=hh.2 0 dR;simp[sE,kn,jn]at this;omega),rfl⟩)
      |(exfalso;simp_all;done)
      |(exfalso;simp_all;omega)
   ·have hz:((k:Int)==0)=false:=by simpa using s8
    have p9:1<=k:=by omega
    clear s8
    rcases hc with h|⟨h,h'⟩|⟨h,h'⟩|⟨h,h'⟩|⟨h,h'⟩|⟨h,h'⟩|⟨h,h'⟩|⟨h,h'⟩|h
    ·have sJ:((s[k].toNat:Int) !=95)=true:=by simp;try omega
     go_wp2_with fail
     all_goals first
      |(go_ret;exact⟨gW (dL fun hh=>by have:=hh.2 k dR;simp[sE,kn,jn]at this;omega),rfl⟩)
      |(exfalso;simp_all;done)
      |(exfalso;simp_all;omega)
    ·have sJ:((s[k].toNat:Int) !=95)=true:=by simp;try omega
     go_wp2_with fail
     go_round
     case rel=>exact⟨k+1,by omega,by go_num,Lib.hid fun j hj wC=>by
      by_cases GU:j=k
      ·subst GU;simp[sE,kn,jn];omega
      ·exact dt.out j hj (by omega)⟩
     case measure=>simp[intOf];try omega
    ·have sJ:((s[k].toNat:Int) !=95)=true:=by simp;try omega
     go_wp2_with fail
     all_goals first
      |(go_ret;exact⟨gW (dL fun hh=>by have:=hh.2 k dR;simp[sE,kn,jn]at this;omega),rfl⟩)
      |(exfalso;simp_all;done)
      |(exfalso;simp_all;omega)
    ·have sJ:((s[k].toNat:Int) !=95)=true:=by simp;try omega
     go_wp2_with fail
     go_round
     case rel=>exact⟨k+1,by omega,by go_num,Lib.hid fun j hj wC=>by
      by_cases GU:j=k
      ·subst GU;simp[sE,kn,jn];omega
      ·exact dt.out j hj (by omega)⟩
     case measure=>simp[intOf];try omega
    ·have sJ:((s[k].toNat:Int) !=95)=true:=by simp;try omega
     go_wp2_with fail
     all_goals first
      |(go_ret;exact⟨gW (dL fun hh=>by have:=hh.2 k dR;simp[sE,kn,jn]at this;omega),rfl⟩)
      |(exfalso;simp_all;done)
      |(exfalso;simp_all;omega)
    ·have sJ:((s[k].toNat:Int) !=95)=false:=by simp;try omega
     go_wp2_with fail
     go_round
     case rel=>exact⟨k+1,by omega,by go_num,Lib.hid fun j hj wC=>by
      by_cases GU:j=k
      ·subst GU;simp[sE,kn,jn];omega
      ·exact dt.out j hj (by omega)⟩
     case measure=>simp[intOf];try omega
    ·have sJ:((s[k].toNat:Int) !=95)=true:=by simp;try omega
     go_wp2_with fail
     all_goals first
      |(go_ret;exact⟨gW (dL fun hh=>by have:=hh.2 k dR;simp[sE,kn,jn]at this;omega),rfl⟩)
      |(exfalso;simp_all;done)
      |(exfalso;simp_all;omega)
    ·have sJ:((s[k].toNat:Int) !=95)=true:=by simp;try omega
     go_wp2_with fail
     go_round
     case rel=>exact⟨k+1,by omega,by go_num,Lib.hid fun j hj wC=>by
      by_cases GU:j=k
      ·subst GU;simp[sE,kn,jn];omega
      ·exact dt.out j hj (by omega)⟩
     case measure=>simp[intOf];try omega
    ·have sJ:((s[k].toNat:Int) !=95)=true:=by simp;try omega
     go_wp2_with fail
     all_goals first
      |(go_ret;exact⟨gW (dL fun hh=>by have:=hh.2 k dR;simp[sE,kn,jn]at this;omega),rfl⟩)
      |(exfalso;simp_all;done)
      |(exfalso;simp_all;omega)
  ·by_cases h1:1<=s.size
   ·by_cases h2:s.size<=12
    ·go_wp2_with fail
     go_ret
     exact⟨gW (z5 (by simp<;>omega) ⟨⟨h1,h2⟩,fun i h=>dt.out i h (by omega)⟩),rfl⟩
    ·go_wp2_with fail
     go_ret
     exact⟨gW (qn (by simp<;>omega) fun h=>h2 h.1.2),rfl⟩
   ·go_wp2_with fail
    go_ret
    exact⟨gW (qn (by simp<;>omega) fun h=>h1 h.1.1),rfl⟩
end Go.Proofs.YtihgaadadaekmaaGreat

namespace Go.Proofs.YtihgaadadaekmaaGreat.V
open Go.RowKit
theorem mixed:Tryz.prog.follows .mixedOrders=true:=by kernel_rfl
variable {P:Program} {w:World} {D:Nat->Prop} {ι:Names}
theorem jA {f:Nat} {args:List AV} {r:AV} {vs0:Array Value} {u0:Value} (mM:∀(w:World) (D:Nat->Prop) (ι:Names) vs,e7 P w D ι args vs->vs=vs0) (hr:∀(w:World) (D:Nat->Prop) (ι:Names),cG P w D ι r u0) (Db:∀g,fu g 6 r=some r)
  (h:∀w,Calls P f vs0 w fun e w'=>e=.returned u0/\Below w.heap.size w w'):ah P f args r:=by
 intro n
 refine iw fun hs D ι w vs S U A=>?_
 have:=mM w D ι vs A
 subst this
 refine(h w).mono ?_
 rintro e w' ⟨rfl,hb⟩
 exact⟨r,_,n,D,ι,u0,rfl,⟨r,Db _,rfl⟩,Step.stay S hb.block hb.size hb.os hb.tape hb.output (fun _ h=>h) (fun _ h=>.inl h) (fun _ _ h=>h),
  S.stay hb.block hb.size (fun _ h=>h) (fun b hd=>Nat.lt_of_lt_of_le (S.dead b hd) hb.size) (fun _ h=>.inl h) (fun _ _ h=>h),U,Nat.le_refl _,hr _ _ _⟩
theorem Ac {s:ByteArray} {vs:Array Value} (h:e7 P w D ι [.str s] vs):vs= #[.string s]:=by
 obtain⟨h1,h2⟩:=h
 obtain⟨u,hu,hr⟩:=h2 0 _ rfl
 rw[eV hr]at hu
 obtain⟨l⟩:=vs
 cases l with
 |nil=>simp at h1
 |cons a l=>cases l with
  |nil=>simp at hu;subst hu;rfl
  |cons b l=>simp at h1
theorem Dz (s:ByteArray) (hs:s.size<=9223372036854775807):ah Tryz.prog 119 [.str s] (.bool (jm s)):=
 jA (fun _ _ _ _=>Ac) (fun _ _ _=>.eK _ _ (.bool _)) (fun g=>cz g 5 _) fun w=>Ae w s hs
theorem Dp (s:ByteArray) (hs:s.size<=9223372036854775807):ah Tryz.prog 130 [.str s] (.bool (jm s)):=
 jA (fun _ _ _ _=>Ac) (fun _ _ _=>.eK _ _ (.bool _)) (fun g=>cz g 5 _) fun w=>(zL w s hs).mono (by rintro e w' ⟨rfl,rfl⟩;exact⟨rfl,Below.refl _ _⟩)
end Go.Proofs.YtihgaadadaekmaaGreat.V

namespace Go.Proofs.YtihgaadadaekmaaGreat
open Go.RowKit
def sG (n:Nat):List UInt8:=if h:n=0 then[]else sG (n / 10)++[UInt8.ofNat (48+n % 10)]
termination_by n
decreasing_by omega
def nJ (k:Int):ByteArray:=if k<=0 then⟨#[109,48]⟩else⟨(109::sG k.toNat).toArray⟩
theorem Eg:sG 0=[]:=by unfold sG;simp
theorem Gq {n:Nat} (h:n≠0):sG n=sG (n / 10)++[UInt8.ofNat (48+n % 10)]:=by
 conv=>lhs;unfold sG
 rw[dif_neg h]
theorem wh (c:UInt8) (l:ByteArray):((⟨#[c]⟩++l:ByteArray)).data.toList=c::l.data.toList:=by
 simp[ByteArray.data_append]
theorem ze:∀(m n:Nat),n<10 ^ m->(sG n).length<=m
 |0,n,h=>by
  have:n=0:=by simpa using h
  subst this;simp[sG]
 |m+1,n,h=>by
  unfold sG
  split
  ·simp
  ·have:=ze m (n / 10) (by rw[Nat.pow_succ]at h;omega)
   simp;omega
theorem x8 (w:World) (k:Int) (h0:0<=k) (h1:k<=4611686018427387904):
  Calls Tryz.prog 108 #[.int .i64 k] w fun e w'=>e=.returned (.string (nJ k))/\Below w.heap.size w w':=by
 by_cases hk:k<=0
 ·go_enter Tryz.func108,Tryz.ntmps108
  go_wp2_with fail
  go_ret
  exact⟨by simp[nJ,hk],Below.refl _ _⟩
 ·go_enter Tryz.func108,Tryz.ntmps108
  go_wp2_with fail
  go_loopw [0,3] (fun a s wr=>∃(j:Int) (l:ByteArray),a=.int .i64 j/\s=.string l/\0<=j/\j<=4611686018427387904/\Hid (sG j.toNat++l.data.toList=sG k.toNat)/\Below w.heap.size w wr) (fun a _ _=>(intOf a).toNat)
  case atStart=>exact⟨k,⟨#[]⟩,rfl,rfl,h0,h1,Lib.hid (by simp),Below.refl _ _⟩
  case round=>
   obtain⟨j,l,rfl,rfl,hj0,hj1,hd,hb⟩:=hrel
   have fA:l.size<=19:=by
    have h1:=congrArg List.length hd.out
    have h2:=ze 19 k.toNat (by omega)
    rw[List.length_append]at h1
    have:l.data.toList.length=l.size:=by rw[Array.length_toList];rfl
    omega
   by_cases hj:0<j
   ·have hcv:∀v:Int,(convert 197 9 (.slice (some ⟨wr.heap.size,0,none⟩) 1 1)).run Tryz.prog (wr.alloc (.cells #[.int .u8 v] 5))=.ok (.string ⟨#[UInt8.ofNat v.toNat]⟩) (wr.alloc (.cells #[.int .u8 v] 5)):=by
     intro v
     rw[run_convert_bytes_string _ _ _ 5 _ _ _ Tryz.underlying197 Tryz.underlying5 Tryz.underlying9,run_bytesToString _ _ _ _ [v] (by simp[loadCells,loadCellsFrom,go_sem])]
     rfl
    have hr:=fA
    go_wp2_with fail
    go_roundw
    case rel=>
     refine⟨_,_,rfl,rfl,by omega,by omega,Lib.hid ?_,hb.alloc hb.size _⟩
     rw[<-hd.out,wh,Gq (show j.toNat≠0 by omega),show(j / 10).toNat=j.toNat / 10 by omega,show(48+j % 10).toNat=48+j.toNat % 10 by omega]
     simp
    case measure=>simp[intOf];omega
   ·go_wp2_with fail
    go_ret
    refine⟨?_,hb⟩
    have h1:=hd.out
    rw[show j.toNat=0 by omega,Eg,List.nil_append]at h1
    have h2:(⟨#[109]⟩++l:ByteArray)=nJ k:=by
     rw[nJ,if_neg (by omega)]
     refine ByteArray.ext (Array.ext' ?_)
     rw[wh,h1]
    rw[h2];rfl
end Go.Proofs.YtihgaadadaekmaaGreat

namespace Go.Proofs.YtihgaadadaekmaaGreat.V
open Go.RowKit
attribute [local irreducible] eb wpOps gH Call
attribute [local go_sem] aM fI eM fX fV cE upd cm K.av cK AV.cells AV.cell rowOf rowsOf part ld rowAt bS bZ dH ei ij bK dc eA fZ e8 du ep cY cX dU dW bQ bf cQ bP cT cR ek er eo cP bU cZ ej bL aQ cV cw ig bt cH bR bc dF bq dI AV.undef bD bF dX eh dQ dZ cF ez eE cr ev eu cU cW List.getD_cons_zero List.getD_cons_succ List.getD_nil List.all_cons List.all_nil Bool.and_true Bool.true_and Bool.and_self Bool.not_true Bool.not_false Option.map_some Option.map_none Option.bind_some Option.bind_none List.length_cons List.length_nil List.take_succ_cons List.take_zero List.take_nil List.drop_succ_cons List.drop_zero List.drop_nil List.head?_cons List.map_cons List.map_nil List.getElem?_cons_zero List.getElem?_cons_succ List.cons_append List.nil_append List.append_nil List.length_map List.set_cons_zero List.set_cons_succ Nat.reduceMul eq_self Int.toNat_natCast Int.natCast_nonneg and_self true_and and_true decide_true decide_false Bool.false_eq_true Nat.zero_add Nat.add_zero List.contains_cons List.contains_nil Bool.or_false Bool.false_or beq_self_eq_true Nat.reduceBEq ne_eq not_true_eq_false not_false_eq_true Id.mk.injEq false_and and_false Nat.reduceLT Int.reduceLE Int.reduceLT Int.reduceToNat Int.reduceNeg Int.reduceAdd Nat.le_refl List.length_append beq_true beq_false Bool.not_eq_eq_eq_not or_false false_or dD ad aj aH bC b4 aX bo aY bl cL bE
def pH (σ:aw) (ids:List Id) (g:Rows) (n:Nat):Prop:=σ.next<=n/\∀x:Id,x.bY<σ.next->x∉ids->g x=σ.get x
theorem uE (l:List (List AV)) (i:Nat) (a b:List AV):(l.set i a).set i b=l.set i b:=List.set_set ..
theorem zg {l:List Int} {j:Nat} (h:j<l.length):(l.map ay)[j]? =some [.int .i64 l[j]]:=by simp[h,ay]
theorem J7 {P:Program} {w:World} {D:Nat->Prop} {ι:Names} {k:Int} {vs:Array Value} (h:e7 P w D ι [.int .i64 k] vs):vs= #[.int .i64 k]:=by
 obtain⟨h1,h2⟩:=h
 obtain⟨u,hu,hr⟩:=h2 0 _ rfl
 rw[dj hr]at hu
 obtain⟨l⟩:=vs
 cases l with
 |nil=>simp at h1
 |cons a l=>cases l with
  |nil=>simp at hu;subst hu;rfl
  |cons b l=>simp at h1
theorem ug (k:Int) (h0:0<=k) (h1:k<=4611686018427387904):ah Tryz.prog 108 [.int .i64 k] (.str (nJ k)):=
 jA (vs0:= #[.int .i64 k]) (u0:=.string (nJ k)) (fun _ _ _ _=>J7) (fun w D ι=>.eK _ _ (.str _)) (fun g=>jy g 5 _) fun w=>x8 w k h0 h1
theorem B7 (i:Id) (l:List Int) (k:Int) (h0:0<=k) (h1:k+l.length<=4611686018427387904) (σ:aw) (hv:i.bY<σ.next) (hg:σ.get i=some ⟨true,1,l.map ay⟩):
  Call Tryz.prog 38 [.own i 0 l.length,.int .i64 k] σ (fun r σ'=>r=.int .i64 (k+l.length)/\pH σ [i] σ'.get σ'.next):=by
 refine fh dY rfl fun hl=>?_
 clear hl
 obtain⟨nn,hn⟩:∃nn,l.length=nn:=⟨_,rfl⟩
 rw[hn]at h1 ⊢
 (try((repeat(revert hN;revert N;apply Pn.out));refine wk @Nat.zero_add ?_;(repeat(refine Pn.mk ?_;intro N hN))))
 refine aT (fun n env st=>∃j:Nat,n=(nn)-j/\j<=(nn)/\env 5=.int .i64 (j:Int)/\env 1=.int .i64 (k+j)/\(pH σ [i] st.get st.next/\∃l':List Int,l'.length=nn/\st.get i=some ⟨true,1,l'.map ay⟩)) (nn) ⟨0,ab,ab,sl (tw @Int.add_zero @Int.natCast_zero),sl (tw @Int.add_zero @Int.natCast_zero),by(try dsimp only);exact⟨⟨bw,fun x _ _=>rfl⟩,l,hn,hg⟩⟩ ?_
 rintro n_a env_a st_a ⟨j,rfl,ale,a5,a1,k5⟩ dE
 have a0:=dE 0 (by kernel_rfl)
 simp only[go_sem, ↓reduceIte,Nat.reduceEqDiff,Nat.reduceAdd,Nat.reduceSub,Nat.reduceLeDiff,reduceCtorEq,Int.add_zero,Int.natCast_zero]at a0
 clear dE
 obtain⟨⟨an,aF⟩,l',al,ag⟩:=k5
 by_cases hj:(j:Int)<(nn:Int)
 ·have bW:∀{e:Env} {gg:Rows} {nx:Nat},(e 5=.int .i64 (IntKind.i64.wrap ((j:Int)+1)))->(e 1=.int .i64 (k+(j+1)))->(pH σ [i] gg nx/\∃l':List Int,l'.length=nn/\gg i=some ⟨true,1,l'.map ay⟩)->∃m0,m0<(nn)-j/\∃j:Nat,m0=(nn)-j/\j<=(nn)/\e 5=.int .i64 (j:Int)/\e 1=.int .i64 (k+j)/\(pH σ [i] gg nx/\∃l':List Int,l'.length=nn/\gg i=some ⟨true,1,l'.map ay⟩):=fun x1 x2 x3=>⟨_,ab,j+1,rfl,ab,(by rw[x1,aA ab]),x2,x3⟩
  have gw:j<l'.length:=ab
  have dp:=zg gw
  have ew:(l'.map ay).set j [.int .i64 (k+j)]=(l'.set j (k+j)).map ay:=by rw[List.map_set];rfl
  have hw:IntKind.i64.wrap (k+(j:Int)+1)=k+((j:Int)+1):=by rw[bd ab];omega
  (try((repeat(revert hN;revert N;apply Pn.out));refine wk (tw @a5 (tw @a1 (tw @a0 (tw @hj (tw @ag (tw @dp (tw @ew @hw))))))) ?_;(repeat(refine Pn.mk ?_;intro N hN))))
  refine bW ?_ ?_ (by(try dsimp only);exact⟨⟨bw,fun x hx hi=>by
   have h2:=aF x hx hi
   have h3:(x=i)=False:=eq_false fun e=>hi (by simp[e])
   simp only[go_sem, ↓reduceIte,Nat.reduceEqDiff,Nat.reduceAdd,Nat.reduceSub,Nat.reduceLeDiff,reduceCtorEq,h2,h3]⟩,l'.set j (k+j),by simp[al],sl @Nat.zero_add⟩)
  all_goals simp only[go_sem, ↓reduceIte,Nat.reduceEqDiff,Nat.reduceAdd,Nat.reduceSub,Nat.reduceLeDiff,reduceCtorEq,a5,a1,a0,hw]
 ·have gw:j=nn:=ab
  subst gw
  (try((repeat(revert hN;revert N;apply Pn.out));refine wk (tw @a5 (tw @a1 (tw @a0 @hj))) ?_;(repeat(refine Pn.mk ?_;intro N hN))))
  exact fy (.inl rfl) (vs:=[.int .i64 (k+j)]) (sd (tw @a5 (tw @a1 @a0))) ⟨rfl,⟨bw,fun x hx hi=>aF x hx hi⟩⟩
def JS (k:Int) (n:Nat):List ak:=(List.range n).map fun j:Nat=>⟨⟨k+3*(j:Int),k+3*(j:Int)+1⟩,k+3*(j:Int)+2⟩
theorem qm (k:Int) (n:Nat):(JS k n).length=n:=by simp[JS]
theorem Hl (k:Int) (n:Nat):JS k (n+1)=JS k n++[⟨⟨k+3*(n:Int),k+3*(n:Int)+1⟩,k+3*(n:Int)+2⟩]:=by simp[JS,List.range_succ]
def me (k:Int) (l:List ak) (j:Nat):List ak:=JS k j++l.drop j
theorem Hm {k:Int} {l:List ak} {j:Nat} (h:j<=l.length):(me k l j).length=l.length:=by simp[me,qm];omega
theorem JT {k:Int} {l:List ak} {j:Nat} (h:j<l.length):((me k l j).map ai)[j]? =some [.int .i64 l[j].cI.gu,.int .i64 l[j].cI.fN,.int .i64 l[j].bJ]:=by
 rw[List.getElem?_map,me,List.getElem?_append_right (by rw[qm];omega),qm,Nat.sub_self,List.getElem?_drop,Nat.add_zero,List.getElem?_eq_getElem h];rfl
theorem Hn {k:Int} {l:List ak} {j:Nat} (h:j<l.length):((me k l j).map ai).set j [.int .i64 (k+3*(j:Int)),.int .i64 (k+3*(j:Int)+1),.int .i64 (k+3*(j:Int)+2)]=(me k l (j+1)).map ai:=by
 have:(me k l j).set j ⟨⟨k+3*(j:Int),k+3*(j:Int)+1⟩,k+3*(j:Int)+2⟩=me k l (j+1):=by
  rw[me,List.set_append_right _ _ (by rw[qm];omega),qm,Nat.sub_self,List.drop_eq_getElem_cons h,List.set_cons_zero,me,Hl,List.append_assoc];rfl
 rw[<-this,List.map_set];rfl
theorem x7 (i:Id) (l:List ak) (k:Int) (h0:0<=k) (h1:k+3*l.length<=4611686018427387904) (σ:aw) (hv:i.bY<σ.next) (hg:σ.get i=some ⟨true,3,l.map ai⟩):
  Call Tryz.prog 37 [.own i 0 l.length,.int .i64 k] σ (fun r σ'=>r=.int .i64 (k+3*l.length)/\pH σ [i] σ'.get σ'.next/\σ'.get i=some ⟨true,3,(JS k l.length).map ai⟩):=by
 refine fh dY rfl fun hl=>?_
 clear hl
 have hz:me k l 0=l:=by simp[me,JS]
 (try((repeat(revert hN;revert N;apply Pn.out));refine wk @Nat.zero_add ?_;(repeat(refine Pn.mk ?_;intro N hN))))
 refine aT (fun n env st=>∃j:Nat,n=(l.length)-j/\j<=(l.length)/\env 5=.int .i64 (j:Int)/\env 1=.int .i64 (k+3*j)/\st.get i=some ⟨true,3,(me k l j).map ai⟩/\(pH σ [i] st.get st.next)) (l.length) ⟨0,ab,ab,sl (tw @Int.add_zero (tw @Int.natCast_zero (tw @Int.mul_zero (tw @hz @hg)))),sl (tw @Int.add_zero (tw @Int.natCast_zero (tw @Int.mul_zero (tw @hz @hg)))),sl (tw @Int.add_zero (tw @Int.natCast_zero (tw @Int.mul_zero (tw @hz @hg)))),by(try dsimp only);exact⟨bw,fun x _ _=>rfl⟩⟩ ?_
 rintro n_a env_a st_a ⟨j,rfl,ale,a5,a1,ag0,k5⟩ dE
 have a0:=dE 0 (by kernel_rfl)
 simp only[go_sem, ↓reduceIte,Nat.reduceEqDiff,Nat.reduceAdd,Nat.reduceSub,Nat.reduceLeDiff,reduceCtorEq,Int.add_zero,Int.natCast_zero,Int.mul_zero,hz,hg]at a0
 clear dE
 obtain⟨an,aF⟩:=k5
 by_cases hj:(j:Int)<(l.length:Int)
 ·have bW:∀{e:Env} {gg:Rows} {nx:Nat},(e 5=.int .i64 (IntKind.i64.wrap ((j:Int)+1)))->(e 1=.int .i64 (k+3*(j+1)))->(gg i=some ⟨true,3,(me k l (j+1)).map ai⟩)->(pH σ [i] gg nx)->∃m0,m0<(l.length)-j/\∃j:Nat,m0=(l.length)-j/\j<=(l.length)/\e 5=.int .i64 (j:Int)/\e 1=.int .i64 (k+3*j)/\gg i=some ⟨true,3,(me k l j).map ai⟩/\(pH σ [i] gg nx):=fun x1 x2 x3 x4=>⟨_,ab,j+1,rfl,ab,(by rw[x1,aA ab]),x2,x3,x4⟩
  have gw:j<l.length:=ab
  have dp:=JT (k:=k) gw
  have ew:=Hn (k:=k) gw
  have oM:IntKind.i64.wrap (k+3*(j:Int)+1)=k+3*(j:Int)+1:=bd ab
  have qS:IntKind.i64.wrap (k+3*(j:Int)+1+1)=k+3*(j:Int)+2:=by rw[bd ab];omega
  have Pc:IntKind.i64.wrap (k+3*(j:Int)+2+1)=k+3*((j:Int)+1):=by rw[bd ab];omega
  have hlen:((me k l j).map ai).length=l.length:=by rw[List.length_map,Hm ab]
  have GQ:∀c:List AV,(((me k l j).map ai).set j c)[j]? =some c:=fun c=>by rw[List.getElem?_set_self (by rw[hlen];exact gw)]
  (try((repeat(revert hN;revert N;apply Pn.out));refine wk (tw @a5 (tw @a1 (tw @ag0 (tw @a0 (tw @hj (tw @dp (tw @GQ (tw @ew (tw @oM (tw @qS (tw @Pc (tw @hlen @uE)))))))))))) ?_;(repeat(refine Pn.mk ?_;intro N hN))))
  refine bW ?_ ?_ ?_ (by(try dsimp only);exact⟨bw,fun x hx hi=>by
   have h2:=aF x hx hi
   have h3:(x=i)=False:=eq_false fun e=>hi (by simp[e])
   simp only[go_sem, ↓reduceIte,Nat.reduceEqDiff,Nat.reduceAdd,Nat.reduceSub,Nat.reduceLeDiff,reduceCtorEq,h2,h3]⟩)
  all_goals simp only[go_sem, ↓reduceIte,Nat.reduceEqDiff,Nat.reduceAdd,Nat.reduceSub,Nat.reduceLeDiff,reduceCtorEq,a5,a1,ag0,a0,Pc,ew]
 ·have gw:j=l.length:=ab
  subst gw
  (try((repeat(revert hN;revert N;apply Pn.out));refine wk (tw @a5 (tw @a1 (tw @ag0 (tw @a0 @hj)))) ?_;(repeat(refine Pn.mk ?_;intro N hN))))
  have lp:me k l l.length=JS k l.length:=by simp[me]
  rw[lp]at ag0
  exact fy (.inl rfl) (vs:=[.int .i64 (k+3*l.length)]) (sd (tw @a5 (tw @a1 (tw @ag0 @a0)))) ⟨rfl,⟨bw,fun x hx hi=>aF x hx hi⟩,ag0⟩
theorem zY (i:Id) (l:List fc) (k:Int) (h0:0<=k) (h1:k+2*l.length<=4611686018427387904) (σ:aw) (hv:i.bY<σ.next) (hg:σ.get i=some ⟨true,2,l.map bh⟩):
  Call Tryz.prog 67 [.own i 0 l.length,.int .i64 k] σ (fun r σ'=>r=.int .i64 (k+2*l.length)/\pH σ [i] σ'.get σ'.next):=by
 refine fh dY rfl fun hl=>?_
 clear hl
 obtain⟨nn,hn⟩:∃nn,l.length=nn:=⟨_,rfl⟩
 rw[hn]at h1 ⊢
 (try((repeat(revert hN;revert N;apply Pn.out));refine wk @Nat.zero_add ?_;(repeat(refine Pn.mk ?_;intro N hN))))
 refine aT (fun n env st=>∃j:Nat,n=(nn)-j/\j<=(nn)/\env 5=.int .i64 (j:Int)/\env 1=.int .i64 (k+2*j)/\(pH σ [i] st.get st.next/\∃l':List fc,l'.length=nn/\st.get i=some ⟨true,2,l'.map bh⟩)) (nn) ⟨0,ab,ab,sl (tw @Int.add_zero (tw @Int.natCast_zero @Int.mul_zero)),sl (tw @Int.add_zero (tw @Int.natCast_zero @Int.mul_zero)),by(try dsimp only);exact⟨⟨bw,fun x _ _=>rfl⟩,l,hn,hg⟩⟩ ?_
 rintro n_a env_a st_a ⟨j,rfl,ale,a5,a1,k5⟩ dE
 have a0:=dE 0 (by kernel_rfl)
 simp only[go_sem, ↓reduceIte,Nat.reduceEqDiff,Nat.reduceAdd,Nat.reduceSub,Nat.reduceLeDiff,reduceCtorEq,Int.add_zero,Int.natCast_zero,Int.mul_zero]at a0
 clear dE
 obtain⟨⟨an,aF⟩,l',al,ag⟩:=k5
 by_cases hj:(j:Int)<(nn:Int)
 ·have bW:∀{e:Env} {gg:Rows} {nx:Nat},(e 5=.int .i64 (IntKind.i64.wrap ((j:Int)+1)))->(e 1=.int .i64 (k+2*(j+1)))->(pH σ [i] gg nx/\∃l':List fc,l'.length=nn/\gg i=some ⟨true,2,l'.map bh⟩)->∃m0,m0<(nn)-j/\∃j:Nat,m0=(nn)-j/\j<=(nn)/\e 5=.int .i64 (j:Int)/\e 1=.int .i64 (k+2*j)/\(pH σ [i] gg nx/\∃l':List fc,l'.length=nn/\gg i=some ⟨true,2,l'.map bh⟩):=fun x1 x2 x3=>⟨_,ab,j+1,rfl,ab,(by rw[x1,aA ab]),x2,x3⟩
  have gw:j<l'.length:=ab
  have dp:(l'.map bh)[j]? =some [.str l'[j].aB,.int .i64 l'[j].dS]:=by simp[gw,bh]
  have hlen:(l'.map bh).length=nn:=by rw[List.length_map,al]
  have GQ:∀c:List AV,((l'.map bh).set j c)[j]? =some c:=fun c=>by rw[List.getElem?_set_self (by rw[List.length_map];exact gw)]
  have ht:=ug (k+2*(j:Int)) ab ab
  have oM:IntKind.i64.wrap (k+2*(j:Int)+1)=k+2*(j:Int)+1:=bd ab
  have qS:IntKind.i64.wrap (k+2*(j:Int)+1+1)=k+2*((j:Int)+1):=by rw[bd ab];omega
  generalize nJ (k+2*(j:Int))=mt at ht
  have ew:(l'.map bh).set j [.str mt,.int .i64 (k+2*(j:Int)+1)]=(l'.set j ⟨mt,k+2*(j:Int)+1⟩).map bh:=by rw[List.map_set];rfl
  (repeat(first|((repeat(revert hN;revert N;apply Pn.out));refine wk (tw @a5 (tw @a1 (tw @a0 (tw @hj (tw @ag (tw @dp (tw @GQ (tw @ew (tw @oM (tw @qS (tw @hlen @uE))))))))))) ?_;(repeat(refine Pn.mk ?_;intro N hN)))|((try apply Or.inl);refine⟨_,ah.x (ht) (sd (tw @a5 (tw @a1 (tw @a0 (tw @hj (tw @ag (tw @dp (tw @GQ (tw @ew (tw @oM (tw @qS (tw @hlen @uE)))))))))))),?_⟩;refine hN _ _ ?_;clear hN N)))
  refine bW ?_ ?_ (by(try dsimp only);exact⟨⟨bw,fun x hx hi=>by
   have h2:=aF x hx hi
   have h3:(x=i)=False:=eq_false fun e=>hi (by simp[e])
   simp only[go_sem, ↓reduceIte,Nat.reduceEqDiff,Nat.reduceAdd,Nat.reduceSub,Nat.reduceLeDiff,reduceCtorEq,h2,h3]⟩,l'.set j ⟨mt,k+2*(j:Int)+1⟩,by simp[al],sl @Nat.zero_add⟩)
  all_goals simp only[go_sem, ↓reduceIte,Nat.reduceEqDiff,Nat.reduceAdd,Nat.reduceSub,Nat.reduceLeDiff,reduceCtorEq,a5,a1,a0,qS,ew]
 ·have gw:j=nn:=ab
  subst gw
  (try((repeat(revert hN;revert N;apply Pn.out));refine wk (tw @a5 (tw @a1 (tw @a0 @hj))) ?_;(repeat(refine Pn.mk ?_;intro N hN))))
  exact fy (.inl rfl) (vs:=[.int .i64 (k+2*j)]) (sd (tw @a5 (tw @a1 @a0))) ⟨rfl,⟨bw,fun x hx hi=>aF x hx hi⟩⟩
theorem fM.flat {α:Type} {e:α->List AV} {z:Nat} {g:Rows} {a:AV} {xs:List α} {ids:List Id} (h:fM (kQ e) z g a xs ids):∃o,a=.own o 0 xs.length/\g o=some ⟨true,z,xs.map e⟩/\ids=[o]:=by
 obtain⟨o,rows,is,h1,h2,h3,rfl⟩:=h
 have:∀{rows:List (List AV)} {xs:List α} {is:List Id},dd (kQ e) g rows xs is->rows=xs.map e/\is=[]:=fun h=>by
  induction h with
  |nil=>exact⟨rfl,rfl⟩
  |cons h1 _ ih=>obtain⟨rfl,rfl⟩:=h1;obtain⟨rfl,rfl⟩:=ih;exact⟨rfl,rfl⟩
 obtain⟨rfl,rfl⟩:=this h3
 exact⟨o,h1,h2,rfl⟩
def fS (t:eJ):Nat:=1+t.bm.length
theorem zZ (a:AV) (l:List eJ) (ids:List Id) (k:Int) (h0:0<=k) (NJ:l.length<=1048576) (h1:k+(l.map fS).sum<=4611686018427387904) (σ:aw) (hv:∀i∈ids,i.bY<σ.next) (k7:ids.Nodup) (hg:fM nk 2 σ.get a l ids):
  Call Tryz.prog 68 [a,.int .i64 k] σ (fun r σ'=>r=.int .i64 (k+(l.map fS).sum)/\pH σ ids σ'.get σ'.next):=by
 obtain⟨o,rows,is,rfl,ho,hR,rfl⟩:=hg
 refine fh dY rfl fun hl=>?_
 clear hl
 have se:=hv o (by simp)
 have AB:=jv fS l
 (try((repeat(revert hN;revert N;apply Pn.out));refine wk @Nat.zero_add ?_;(repeat(refine Pn.mk ?_;intro N hN))))
 refine aT (fun n env st=>∃j:Nat,n=(l.length)-j/\j<=(l.length)/\env 5=.int .i64 (j:Int)/\env 1=.int .i64 (k+eH fS l j)/\(pH σ (o::is) st.get st.next/\∃pre rest ir,st.get o=some ⟨true,2,pre++rest⟩/\pre.length=j/\dd nk st.get rest (l.drop j) ir/\(o::ir).Nodup/\∀i∈ir,i∈is)) (l.length) ⟨0,ab,ab,sl (tw @Int.add_zero (tw @Int.natCast_zero @AB)),sl (tw @Int.add_zero (tw @Int.natCast_zero @AB)),by(try dsimp only);exact⟨⟨bw,fun x _ _=>rfl⟩,[],rows,is,ho,rfl,hR,k7,fun _ h=>h⟩⟩ ?_
 rintro n_a env_a st_a ⟨j,rfl,ale,a5,a1,k5⟩ dE
 have a0:=dE 0 (by kernel_rfl)
 simp only[go_sem, ↓reduceIte,Nat.reduceEqDiff,Nat.reduceAdd,Nat.reduceSub,Nat.reduceLeDiff,reduceCtorEq,Int.add_zero,Int.natCast_zero,AB]at a0
 clear dE
 obtain⟨⟨an,aF⟩,pre,rest,ir,ag,apl,aR,aN,aS⟩:=k5
 by_cases hj:(j:Int)<(l.length:Int)
 ·have bW:∀{e:Env} {gg:Rows} {nx:Nat},(e 5=.int .i64 (IntKind.i64.wrap ((j:Int)+1)))->(e 1=.int .i64 (k+eH fS l (j+1)))->(pH σ (o::is) gg nx/\∃pre rest ir,gg o=some ⟨true,2,pre++rest⟩/\pre.length=(j+1)/\dd nk gg rest (l.drop (j+1)) ir/\(o::ir).Nodup/\∀i∈ir,i∈is)->∃m0,m0<(l.length)-j/\∃j:Nat,m0=(l.length)-j/\j<=(l.length)/\e 5=.int .i64 (j:Int)/\e 1=.int .i64 (k+eH fS l j)/\(pH σ (o::is) gg nx/\∃pre rest ir,gg o=some ⟨true,2,pre++rest⟩/\pre.length=j/\dd nk gg rest (l.drop j) ir/\(o::ir).Nodup/\∀i∈ir,i∈is):=fun x1 x2 x3=>⟨_,ab,j+1,rfl,ab,(by rw[x1,aA ab]),x2,x3⟩
  have gw:j<l.length:=ab
  have ED:=mo fS gw
  have hle:=jB fS l (j+1)
  obtain⟨t,htj⟩:∃t,l[j]=t:=⟨_,rfl⟩
  rw[List.drop_eq_getElem_cons gw,htj]at aR
  rw[htj]at ED
  cases aR with
  | @cons cs _ ic rs _ i2 hT Je=>
  obtain⟨i,rfl,hi,rfl⟩:=hT
  rw[List.singleton_append]at aN aS
  obtain⟨n1,n2⟩:=List.nodup_cons.1 aN
  obtain⟨n3,n4⟩:=List.nodup_cons.1 n2
  have Mi:(o=i)=False:=eq_false fun e=>n1 (by simp[e])
  have Iw:(i=o)=False:=eq_false fun e=>n1 (by simp[e])
  have hiv:i.bY<σ.next:=hv i (by simp[aS i (by simp)])
  have OW:fS t=1+t.bm.length:=rfl
  have ht:=ug (k+(eH fS l j:Nat)) ab ab
  have oM:IntKind.i64.wrap (k+(eH fS l j:Nat)+1)=k+(eH fS l j:Nat)+1:=bd ab
  generalize nJ (k+(eH fS l j:Nat))=mt at ht
  have dp:(pre++[.str t.aB,.own i 0 t.bm.length]::rs)[j]? =some [.str t.aB,.own i 0 t.bm.length]:=by subst apl;simp
  have ew:(pre++[.str t.aB,.own i 0 t.bm.length]::rs).set j [.str mt,.own i 0 t.bm.length]=pre++[.str mt,.own i 0 t.bm.length]::rs:=by subst apl;simp
  have KL:(pre++[.str mt,.own i 0 t.bm.length]::rs)[j]? =some [.str mt,.own i 0 t.bm.length]:=by subst apl;simp
  (repeat(first|((repeat(revert hN;revert N;apply Pn.out));refine wk (tw @a5 (tw @a1 (tw @a0 (tw @hj (tw @ag (tw @dp (tw @ew (tw @KL (tw @oM (tw @Mi (tw @Iw @hi))))))))))) ?_;(repeat(refine Pn.mk ?_;intro N hN)))|((try apply Or.inl);refine⟨_,ah.x (ht) (sd (tw @a5 (tw @a1 (tw @a0 (tw @hj (tw @ag (tw @dp (tw @ew (tw @KL (tw @oM (tw @Mi (tw @Iw @hi)))))))))))),?_⟩;refine hN _ _ ?_;clear hN N)))
  refine .inr (aV _ _ _ _ _ (fun r σ1 hq=>?_) (B7 i t.bm (k+(eH fS l j:Nat)+1) ab ab _ bw (sd (tw @Mi (tw @Iw @hi)))))
  obtain⟨g1,x1⟩:=σ1
  obtain⟨rfl,AA,mb⟩:=hq
  (try dsimp only at AA mb)
  refine hN _ _ ?_
  clear hN N
  have RJ:k+(eH fS l j:Nat)+1+t.bm.length=k+(eH fS l (j+1):Nat):=ab
  (try((repeat(revert hN;revert N;apply Pn.out));refine wk (tw @a5 (tw @a1 (tw @a0 @RJ))) ?_;(repeat(refine Pn.mk ?_;intro N hN))))
  have gk:∀x:Id,x.bY<σ.next->x≠o->x≠i->g1 x=st_a.get x:=fun x hx h3 h4=>by
   have h2:=mb x bw (by simp[h4])
   have h5:=eq_false h3
   simp only[go_sem, ↓reduceIte,Nat.reduceEqDiff,Nat.reduceAdd,Nat.reduceSub,Nat.reduceLeDiff,reduceCtorEq,h5]at h2
   exact h2
  have go:=mb o bw (by simp only[List.mem_singleton];exact fun e=>n1 (by simp[e]))
  simp only[go_sem, ↓reduceIte,Nat.reduceEqDiff,Nat.reduceAdd,Nat.reduceSub,Nat.reduceLeDiff,reduceCtorEq]at go
  refine bW ?_ ?_ (by(try dsimp only);exact⟨⟨bw,fun x hx hi=>by
   have h3:x≠o:=fun e=>hi (by simp[e])
   have h4:x≠i:=fun e=>hi (by simp[e,aS i (by simp)])
   rw[gk x hx h3 h4]
   exact aF x hx hi⟩,pre++[[.str mt,.own i 0 t.bm.length]],rs,i2,by rw[go];simp,by simp[apl],Je.frame pB (fun x hx=>gk x (hv x (by simp[aS x (by simp[hx])])) (fun e=>n1 (by simp[<-e,hx])) (fun e=>n3 (by rw[<-e];exact hx))),List.nodup_cons.2 ⟨fun h=>n1 (by simp[h]),n4⟩,fun x hx=>aS x (by simp[hx])⟩)
  all_goals simp only[go_sem, ↓reduceIte,Nat.reduceEqDiff,Nat.reduceAdd,Nat.reduceSub,Nat.reduceLeDiff,reduceCtorEq,a5,a1,a0,RJ]
 ·have gw:j=l.length:=ab
  subst gw
  have dt:=qE fS l
  rw[dt]at a1
  (try((repeat(revert hN;revert N;apply Pn.out));refine wk (tw @a5 (tw @a1 (tw @a0 @hj))) ?_;(repeat(refine Pn.mk ?_;intro N hN))))
  exact fy (.inl rfl) (vs:=[.int .i64 (k+(l.map fS).sum)]) (sd (tw @a5 (tw @a1 @a0))) ⟨rfl,⟨bw,fun x hx hi=>aF x hx hi⟩⟩
theorem wR (v:AV) (p:dm) (ids:List Id) (k:Int) (h0:0<=k) (h1:k+3*p.ae.length<=4611686018427387904) (σ:aw) (hv:∀i∈ids,i.bY<σ.next) (hg:xc σ.get v p ids):
  Call Tryz.prog 15 [v,.int .i64 k] σ (fun r σ'=>r=.int .i64 (k+3*p.ae.length)/\pH σ ids σ'.get σ'.next):=by
 obtain⟨c,rfl,hc⟩:=hg
 obtain⟨o,rfl,ho,rfl⟩:=hc.flat
 refine fh dY rfl fun hl=>?_
 clear hl
 have se:=eC (hv o (by simp))
 have Js:=hv o (by simp)
 (try((repeat(revert hN;revert N;apply Pn.out));refine wk @Nat.zero_add ?_;(repeat(refine Pn.mk ?_;intro N hN))))
 refine .inr (aV _ _ _ _ _ (fun r σ1 hq=>?_) (x7 o p.ae k h0 h1 _ bw (sd (tw @se @ho))))
 obtain⟨g1,x1⟩:=σ1
 obtain⟨rfl,⟨AA,mb⟩,_⟩:=hq
 (try dsimp only at AA mb)
 refine hN _ _ ?_
 clear hN N
 (try((repeat(revert hN;revert N;apply Pn.out));refine wk @Nat.zero_add ?_;(repeat(refine Pn.mk ?_;intro N hN))))
 exact fy (.inl rfl) (vs:=[.int .i64 (k+3*p.ae.length)]) (sd @Nat.zero_add) ⟨rfl,⟨bw,fun x hx hi=>by
  have h2:=mb x bw hi
  have h3:=eC hx
  simp only[go_sem, ↓reduceIte,Nat.reduceEqDiff,Nat.reduceAdd,Nat.reduceSub,Nat.reduceLeDiff,reduceCtorEq,h3]at h2
  exact h2⟩⟩
def zX (s:cl):Nat:=2*s.aI.au.length+(s.aI.ae.map fS).sum+3*s.ck.ae.length
theorem E7 (a b:AV) (p:aq) (i1 i2:List Id) (k:Int) (h0:0<=k) (NJ:p.ae.length<=1048576) (h1:k+2*p.au.length+(p.ae.map fS).sum<=4611686018427387904) (σ:aw) (hv:∀i∈i1++i2,i.bY<σ.next) (k7:(i1++i2).Nodup)
  (hA:fM (kQ bh) 2 σ.get a p.au i1) (hB:fM nk 2 σ.get b p.ae i2):
  Call Tryz.prog 36 [.agg [a,b],.int .i64 k] σ (fun r σ'=>r=.int .i64 (k+2*p.au.length+(p.ae.map fS).sum)/\pH σ (i1++i2) σ'.get σ'.next):=by
 obtain⟨_,n2,n3⟩:=List.nodup_append.1 k7
 obtain⟨o,rfl,ho,rfl⟩:=hA.flat
 obtain⟨ob,rfl⟩:=hB.kj
 refine fh dY rfl fun hl=>?_
 clear hl
 have Js:=hv o (by simp)
 have se:=eC Js
 (try((repeat(revert hN;revert N;apply Pn.out));refine wk @Nat.zero_add ?_;(repeat(refine Pn.mk ?_;intro N hN))))
 refine .inr (aV _ _ _ _ _ (fun r σ1 hq=>?_) (zY o p.au k h0 ab _ bw (sd (tw @se @ho))))
 obtain⟨g1,x1⟩:=σ1
 obtain⟨rfl,AA,mb⟩:=hq
 (try dsimp only at AA mb)
 refine hN _ _ ?_
 clear hN N
 have k1:=mb ⟨36000000,σ.next⟩ bw (by simp only[List.mem_singleton];intro e;rw[<-e]at Js;(try dsimp only at Js);omega)
 simp only[go_sem, ↓reduceIte,Nat.reduceEqDiff,Nat.reduceAdd,Nat.reduceSub,Nat.reduceLeDiff,reduceCtorEq]at k1
 (try((repeat(revert hN;revert N;apply Pn.out));refine wk @k1 ?_;(repeat(refine Pn.mk ?_;intro N hN))))
 have hf:∀x:Id,x.bY<σ.next->x≠o->g1 x=σ.get x:=fun x hx ho=>by
  have h2:=mb x bw (by simp[ho])
  have h3:=eC hx
  simp only[go_sem, ↓reduceIte,Nat.reduceEqDiff,Nat.reduceAdd,Nat.reduceSub,Nat.reduceLeDiff,reduceCtorEq,h3]at h2
  exact h2
 refine .inr (aV _ _ _ _ _ (fun r σ2 hq=>?_) (zZ _ p.ae i2 (k+2*p.au.length) ab NJ h1 _ (fun i hi=>by have:=hv i (by simp[hi]);(try dsimp only);omega) n2 (hB.frame pB fun i hi=>hf i (hv i (by simp[hi])) fun e=>n3 o (by simp) i hi e.symm)))
 obtain⟨g2,x2⟩:=σ2
 obtain⟨rfl,O4,BI⟩:=hq
 (try dsimp only at O4 BI)
 refine hN _ _ ?_
 clear hN N
 (try((repeat(revert hN;revert N;apply Pn.out));refine wk @Nat.zero_add ?_;(repeat(refine Pn.mk ?_;intro N hN))))
 exact fy (.inl rfl) (vs:=[.int .i64 (k+2*p.au.length+(p.ae.map fS).sum)]) (sd @Nat.zero_add) ⟨rfl,⟨bw,fun x hx hi=>(BI x bw fun h=>hi (by simp[h])).trans (hf x hx fun e=>hi (by simp[e]))⟩⟩
theorem E8 (v:AV) (p:cl) (ids:List Id) (k:Int) (h0:0<=k) (NJ:p.aI.ae.length<=1048576) (h1:k+zX p<=4611686018427387904) (σ:aw) (hv:∀i∈ids,i.bY<σ.next) (k7:ids.Nodup) (hg:yR σ.get v p ids):
  Call Tryz.prog 14 [v,.int .i64 k] σ (fun r σ'=>r=.int .i64 (k+zX p)/\pH σ ids σ'.get σ'.next):=by
 obtain⟨a,b,c,i1,i2,i3,rfl,hA,hB,hC,rfl⟩:=hg.ex
 rw[<-List.append_assoc]at k7
 obtain⟨n1,_,n3⟩:=List.nodup_append.1 k7
 obtain⟨oa,rfl⟩:=hA.kj
 obtain⟨ob,rfl⟩:=hB.kj
 obtain⟨oc,rfl⟩:=hC.kj
 have hm:(zX p:Int)=2*p.aI.au.length+(p.aI.ae.map fS).sum+3*p.ck.ae.length:=by simp[zX]
 refine fh dY rfl fun hl=>?_
 clear hl
 have Q1:∀x∈i1++(i2++i3),bS σ.get ⟨14000000,σ.next⟩ ⟨true,4,[[.own oa 0 p.aI.au.length,.own ob 0 p.aI.ae.length,.own oc 0 p.ck.ae.length,.int .i64 p.aJ]]⟩ x=σ.get x:=fun x hx=>by
  have:=eC (hv x hx)
  simp only[go_sem, ↓reduceIte,Nat.reduceEqDiff,Nat.reduceAdd,Nat.reduceSub,Nat.reduceLeDiff,reduceCtorEq,this]
 (try((repeat(revert hN;revert N;apply Pn.out));refine wk @Nat.zero_add ?_;(repeat(refine Pn.mk ?_;intro N hN))))
 refine .inr (aV _ _ _ _ _ (fun r σ1 hq=>?_) (E7 _ _ p.aI i1 i2 k h0 NJ ab _ (fun i hi=>by have:=hv i (by rcases List.mem_append.1 hi with h|h<;>simp[h]);(try dsimp only);omega) n1 (hA.frame zo fun i hi=>Q1 i (by simp[hi])) (hB.frame pB fun i hi=>Q1 i (by simp[hi]))))
 obtain⟨g1,x1⟩:=σ1
 obtain⟨rfl,AA,mb⟩:=hq
 (try dsimp only at AA mb)
 refine hN _ _ ?_
 clear hN N
 have k1:=mb ⟨14000000,σ.next⟩ bw (fun h=>by
  have:=hv ⟨14000000,σ.next⟩ (by rcases List.mem_append.1 h with h|h<;>simp[h])
  (try dsimp only at this);omega)
 simp only[go_sem, ↓reduceIte,Nat.reduceEqDiff,Nat.reduceAdd,Nat.reduceSub,Nat.reduceLeDiff,reduceCtorEq]at k1
 (try((repeat(revert hN;revert N;apply Pn.out));refine wk @k1 ?_;(repeat(refine Pn.mk ?_;intro N hN))))
 refine .inr (aV _ _ _ _ _ (fun r σ2 hq=>?_) (wR _ p.ck i3 (k+2*p.aI.au.length+(p.aI.ae.map fS).sum) ab ab _ (fun i hi=>by have:=hv i (by simp[hi]);(try dsimp only);omega) ⟨_,rfl,hC.frame wj fun i hi=>?_⟩))
 rotate_left
 ·exact(mb i (by have:=hv i (by simp[hi]);(try dsimp only);omega) fun h=>n3 i h i hi rfl).trans (Q1 i (by simp[hi]))
 obtain⟨g2,x2⟩:=σ2
 obtain⟨rfl,O4,BI⟩:=hq
 (try dsimp only at O4 BI)
 refine hN _ _ ?_
 clear hN N
 (try((repeat(revert hN;revert N;apply Pn.out));refine wk @Nat.zero_add ?_;(repeat(refine Pn.mk ?_;intro N hN))))
 exact fy (.inl rfl) (vs:=[.int .i64 (k+2*p.aI.au.length+(p.aI.ae.map fS).sum+3*p.ck.ae.length)]) (sd @Nat.zero_add) ⟨by rw[hm];exact congrArg (AV.int .i64) ab,⟨bw,fun x hx hi=>by
  have h2:=BI x bw fun h=>hi (by simp[h])
  have h3:=mb x bw fun h=>hi (by rcases List.mem_append.1 h with h|h<;>simp[h])
  have h4:=eC hx
  simp only[go_sem, ↓reduceIte,Nat.reduceEqDiff,Nat.reduceAdd,Nat.reduceSub,Nat.reduceLeDiff,reduceCtorEq,h4]at h3
  exact h2.trans h3⟩⟩
end Go.Proofs.YtihgaadadaekmaaGreat.V

namespace Go.Proofs.YtihgaadadaekmaaGreat.V
open Go.RowKit
def AV.clean:AV->Bool
 | .int .. | .bool _| .str _| .br| .gy| .iY| .jh| .own .. | .ptr .. | .map .. | .rf _=>true
 | .sl l=>l.isEmpty
 |_=>false
def AV.rh:AV->Bool
 | .agg cs=>cs.all AV.clean
 | .gE cs=>cs.all fun a=>match a with
  | .agg cs=>cs.all AV.clean
  |a=>a.clean
 |a=>a.clean
def w7 (ids:List Id) (g g':Rows):Rows:=fun id=>if id∈ids then g' id else g id
theorem uN {ids:List Id} {g g':Rows} {id:Id} (h:id∈ids):w7 ids g g' id=g' id:=if_pos h
theorem rM {ids:List Id} {g g':Rows} {id:Id} (h:id∉ids):w7 ids g g' id=g id:=if_neg h
section
variable {P:Program} {w w':World} {D D' D1 D2:Nat->Prop} {ι ι1 ι2:Names}
theorem jt {a:AV} {v:Value} (hp:a.clean=true) (h:cG P w D1 ι1 a v):cG P w D2 ι1 a v:=by
 cases h with
 |eK a v h=>
  cases h with
  |int=>exact .eK _ _ (.int _ _)
  |bool=>exact .eK _ _ (.bool _)
  |str=>exact .eK _ _ (.str _)
  |br=>exact .eK _ _ .br
  |gy=>exact .eK _ _ .gy
  |iY=>exact .eK _ _ .iY
  |jh=>exact .eK _ _ .jh
  |AF a c h=>exact .eK _ _ (.AF a c h)
  |sl rows b o n c sz vs h1 h2 h3=>
   have:rows=[]:=by simpa[AV.clean]using hp
   subst this
   simp only[List.length_nil]at h1
   subst h1
   exact .eK _ _ (.AF _ _ h3)
  |de=>simp[AV.clean]at hp
  |agg=>simp[AV.clean]at hp
  |fn=>simp[AV.clean]at hp
 |own id off len o cap B h1 h2 h3 h4 h5 h6=>exact .own id off len o cap B h1 h2 h3 h4 h5 h6
 |map id m B h1 h2=>exact .map id m B h1 h2
 |rf id c B h1 h2=>exact .rf id c B h1 h2
 |ptr id i off B h1 h2=>exact .ptr id i off B h1 h2
 |agg=>simp[AV.clean]at hp
 |gE=>simp[AV.clean]at hp
 |fn=>simp[AV.clean]at hp
 |u4=>simp[AV.clean]at hp
theorem k9 {cs:List AV} {v:Value} (hc:cs.all AV.clean=true) (h:cG P w D1 ι1 (.agg cs) v):cG P w D2 ι1 (.agg cs) v:=by
 obtain⟨vs,f,rfl,h1,h2,h3,h4⟩:=iv h
 rw[List.all_eq_true]at hc
 exact .agg cs vs f h1 h2 h3 fun j a ha=>jt (hc a (List.mem_of_getElem? ha)) (h4 j a ha)
theorem Cj {a:AV} {v:Value} (hp:a.rh=true) (h:cG P w D1 ι1 a v):cG P w D2 ι1 a v:=by
 cases a with
 |agg cs=>exact k9 hp h
 |gE cs=>
  obtain⟨vs,f,rfl,h1,h3,h4⟩:=tb h
  simp only[AV.rh,List.all_eq_true]at hp
  refine .gE cs vs f h1 h3 fun j a ha=>?_
  have:=hp a (List.mem_of_getElem? ha)
  split at this
  ·exact k9 this (h4 j _ ha)
  ·exact jt this (h4 j _ ha)
 |_=>exact jt hp h
theorem Cf {ag:Bool} {n:Nat} {cs:List AV} {x:AV} {v:Value} (hc:∀a∈cs,a.clean=true) (hp:part ag n cs=some x) (hr:cG P w D1 ι1 x v):cG P w D2 ι1 x v:=by
 unfold part at hp
 split at hp
 ·split at hp
  ·simp only[Option.some.injEq]at hp;subst hp
   exact k9 (List.all_eq_true.2 fun a ha=>hc a (List.mem_of_mem_take ha)) hr
  ·cases hp
 ·exact jt (hc x (List.mem_of_mem_head? hp)) hr
theorem ik.clean {B:rQ} {r:Row} (R:ik P w D1 ι1 B r) (h:∀cs∈r.rows,∀a∈cs,a.clean=true):ik P w D2 ι1 B r:=
 ⟨R.sz,R.flat,fun hk=>⟨R.sz,(R.row hk).DW,(R.row hk).fits,(R.row hk).len,R.flat,fun i j cs a hi hj=>by
  obtain⟨v,q1,q2⟩:=(R.row hk).at_ i j cs a hi hj
  exact⟨v,q1,jt (h cs (List.mem_of_getElem? hi) a (List.mem_of_getElem? hj)) q2⟩⟩,fun m hm=>by
  obtain⟨h1,es,c,h2,h3,h5,h4⟩:=R.map m hm
  refine⟨h1,es,c,h2,h3,h5,fun i cs hi=>?_⟩
  obtain⟨e,kv,vv,q1,q2,q3,q4,q5⟩:=h4 i cs hi
  have hc:=h cs (List.mem_of_getElem? hi)
  exact⟨e,kv,vv,q1,q2,q3,Cf hc q2 q4,jt (hc vv (List.mem_of_getElem? q3)) q5⟩,fun c hc=>by
  obtain⟨h1,buf,s,q,h2,h3,h4⟩:=R.chan c hc
  refine⟨h1,buf,s,q,h2,h3,fun i cs hi=>?_⟩
  obtain⟨a,u,rfl,q2,q3⟩:=h4 i cs hi
  exact⟨a,u,rfl,q2,jt (h [a] (List.mem_of_getElem? hi) a (by simp)) q3⟩⟩
def Handed (ids:List Id) (g:Rows):Prop:=∀id∈ids,∃r,g id=some r/\r.w=true/\∀cs∈r.rows,∀a∈cs,a.clean=true
theorem FI {f:Nat} {args eU:List AV} {g:Rows} {n:Nat} {K:AV->aw->Prop} (hv:cq (dD g) 6 args=some eU)
  (h:Sound P f eU ⟨fun _=>none,n⟩ fun r σ'=>∃ids,r.rh=true/\Handed ids σ'.get/\K r ⟨w7 ids g σ'.get,σ'.next⟩):Sound P f args ⟨g,n⟩ K:=by
 intro hs D ι w vs S U A
 let E:Nat->Prop:=fun b=>D b∨∃id r B,g id=some r/\ι id=some B/\b=B.b
 have lt:∀id r B,g id=some r->ι id=some B->B.b<w.heap.size:=fun id r B h1 h2=>by
  obtain⟨B',dz,R,_⟩:=S.row id r h1
  rw[h2]at dz;injection dz with dz;subst dz
  exact R.lt
 have S0:fW P w.heap.size E ι (fun _=>none) w:=⟨Nat.le_refl _,fun b hb=>by
  rcases hb with hb|⟨id,r,B,h1,h2,rfl⟩
  ·exact S.dead b hb
  ·exact lt id r B h1 h2,fun id r h=>(by cases h),fun id ki r r' B B' h=>(by cases h)⟩
 obtain⟨l1,l2⟩:=fR hv
 have A':e7 P w E ι eU vs:=⟨by rw[A.1,l1],fun j a hj=>by
  obtain⟨a0,kK,hz⟩:=l2 j a hj
  obtain⟨u,hu,hr⟩:=A.2 j a0 kK
  refine⟨u,hu,(pY (D2:=E) (ι2:=ι) (fun b h=>.inl h) (fun id row hg hw=>?_) 6 a0 u a hr hz).1⟩
  unfold dD at hg
  simp only[Option.map_eq_some_iff]at hg
  obtain⟨r,m7,rfl⟩:=hg
  obtain⟨B,hB,R,_,_⟩:=S.row id r m7
  exact⟨B,hB,R.flag true,.inr ⟨id,r,B,m7,hB,rfl⟩⟩⟩
 refine(h w.heap.size E ι w vs S0 U A').mono ?_
 rintro e w' ⟨r0,g',n',D2,ι1,u,rfl,⟨ids,mW,hid,hK⟩,T,S1,U1,hn,hR⟩
 have hb:∀b,b<w.heap.size->w'.heap[b]? =w.heap[b]? :=T.below.block
 have hz:=T.below.size
 have frame:∀{a v},cG P w D ι a v->cG P w' D ι1 a v:=fun h=>h.frame (fun b hd=>hb b (S.dead b hd)) (fun _ h=>h) T.names
 refine⟨r0,_,n',D,ι1,u,rfl,hK,⟨T.below.mono S.lo,fun b hd=>hb b (S.dead b hd),fun _ h=>h,T.names,fun _ h=>.inl h⟩,⟨Nat.le_trans S.lo hz,fun b hd=>Nat.lt_of_lt_of_le (S.dead b hd) hz,fun id r hr=>?_,fun Pj id2 r1 r2 B1 B2 h1 h2 hw yG oD KG=>?_⟩,U1,hn,Cj mW hR⟩
 ·by_cases hi:id∈ids
  ·rw[uN hi]at hr
   obtain⟨r',m7,hw,Rt⟩:=hid id hi
   rw[hr]at m7;injection m7 with m7;subst m7
   obtain⟨B,hB,R,k1,k2⟩:=S1.row id r hr
   have jS:=k1 hw
   exact⟨B,hB,R.clean Rt,fun _=>Nat.le_trans S.lo jS,fun _ hd=>Nat.lt_irrefl _ (Nat.lt_of_lt_of_le (S.dead _ hd) jS)⟩
  ·rw[rM hi]at hr
   obtain⟨B,hB,R,k1,k2⟩:=S.row id r hr
   have hBl:=lt id r B hr hB
   exact⟨B,T.names _ _ hB,R.frame (hb _ hBl) fun a v h=>frame h,k1,k2⟩
 ·have new:∀{id r B},id∈ids->w7 ids g g' id=some r->ι1 id=some B->w.heap.size<=B.b/\g' id=some r/\r.w=true:=fun {id r B} hi hr hB=>by
   rw[uN hi]at hr
   obtain⟨r',m7,hw,_⟩:=hid id hi
   replace m7:g' id=some r':=m7
   rw[hr]at m7;injection m7 with m7;subst m7
   obtain⟨B',dz,_,k1,_⟩:=S1.row id r hr
   rw[hB]at dz;injection dz with dz;subst dz
   exact⟨k1 hw,hr,hw⟩
  have z9:∀{id r B},id∉ids->w7 ids g g' id=some r->ι1 id=some B->B.b<w.heap.size/\g id=some r/\ι id=some B:=fun {id r B} hi hr hB=>by
   rw[rM hi]at hr
   obtain⟨B',dz,_⟩:=S.row id r hr
   have:=T.names _ _ dz
   rw[hB]at this;injection this with this;subst this
   exact⟨lt id r _ hr dz,hr,dz⟩
  by_cases i1:Pj∈ids
  ·obtain⟨a1,a2,a3⟩:=new i1 h1 yG
   by_cases i2:id2∈ids
   ·obtain⟨b1,b2,b3⟩:=new i2 h2 oD
    exact S1.inj Pj id2 r1 r2 B1 B2 a2 b2 hw yG oD KG
   ·obtain⟨b1,_⟩:=z9 i2 h2 oD
    omega
  ·obtain⟨a1,a2,a3⟩:=z9 i1 h1 yG
   by_cases i2:id2∈ids
   ·obtain⟨b1,_⟩:=new i2 h2 oD
    omega
   ·obtain⟨b1,b2,b3⟩:=z9 i2 h2 oD
    exact S.inj Pj id2 r1 r2 B1 B2 a2 b2 hw a3 b3 KG
theorem FZ (hm:P.follows .mixedOrders=true) {f:Nat} {args eU:List AV} {σ:aw} {K:AV->aw->Prop} (hv:cq (dD σ.get) 6 args=some eU)
  (h:Call P f eU ⟨fun _=>none,σ.next⟩ fun r σ'=>∃ids,r.rh=true/\Handed ids σ'.get/\K r ⟨w7 ids σ.get σ'.get,σ'.next⟩):Call P f args σ K:=
 iw (FI hv (gJ hm h))
end
inductive oQ:List AV->List AV->Prop
 |nil:oQ [] []
 |same (a) {l l'}:oQ l l'->oQ (a::l) (a::l')
 |ptr (cs rest) {l l'}:oQ l l'->oQ (.de (cs++rest)::l) (.de cs::l')
 |br {l l'}:oQ l l'->oQ (.br::l) (.sl []::l')
theorem Kb {P:Program} {w:World} {D:Nat->Prop} {ι:Names} {cs rest:List AV} {v:Value} (h:cG P w D ι (.de (cs++rest)) v):cG P w D ι (.de cs) v:=by
 obtain⟨b,o,vs,rfl,h1,h2,h3,h4⟩:=kA h
 exact .eK _ _ (.de cs b o vs h1 (fun a ha=>h2 a (List.mem_append_left _ ha)) (fun j hj=>h3 j (by rw[List.length_append];omega)) fun j a ha=>h4 j a (by
  have:=(List.getElem?_eq_some_iff.1 ha).1
  rw[List.getElem?_append_left this];exact ha))
theorem Ke {P:Program} {w:World} {D:Nat->Prop} {ι:Names} {v:Value} (h:cG P w D ι .br v):cG P w D ι (.sl []) v:=by
 cases h with
 |eK _ _ h=>
  cases h with
  |br=>exact .eK _ _ (.AF none 0 (Nat.zero_le _))
theorem oQ.len {l l':List AV} (h:oQ l l'):l'.length=l.length:=by induction h<;>simp_all
theorem oQ.get {P:Program} {w:World} {D:Nat->Prop} {ι:Names} {l l':List AV} (h:oQ l l'):∀{j:Nat} {a':AV},l'[j]? =some a'->∃a,l[j]? =some a/\∀v,cG P w D ι a v->cG P w D ι a' v:=by
 induction h with
 |nil=>intro j a' hj;simp at hj
 |same a _ ih=>
  intro j a' hj
  cases j with
  |zero=>simp at hj;subst hj;exact⟨a,rfl,fun _ h=>h⟩
  |succ j=>exact ih (by simpa using hj)
 |ptr cs rest _ ih=>
  intro j a' hj
  cases j with
  |zero=>simp at hj;subst hj;exact⟨_,rfl,fun _ h=>Kb h⟩
  |succ j=>exact ih (by simpa using hj)
 |br _ ih=>
  intro j a' hj
  cases j with
  |zero=>simp at hj;subst hj;exact⟨_,rfl,fun _ h=>Ke h⟩
  |succ j=>exact ih (by simpa using hj)
theorem Call.cut {P:Program} (hm:P.follows .mixedOrders=true) {f:Nat} {args eU:List AV} {σ:aw} {K:AV->aw->Prop} (hc:oQ args eU) (h:Call P f eU σ K):Call P f args σ K:=
 iw fun hs D ι w vs S U A=>gJ hm h hs D ι w vs S U ⟨by rw[A.1,hc.len],fun j a' hj=>by
  obtain⟨a,ha,hr⟩:=hc.get (P:=P) (w:=w) (D:=D) (ι:=ι) hj
  obtain⟨u,hu,hv⟩:=A.2 j a ha
  exact⟨u,hu,hr u hv⟩⟩
theorem ah.cut {P:Program} (hm:P.follows .mixedOrders=true) {f:Nat} {args eU:List AV} {r:AV} (hc:oQ args eU) (h:ah P f eU r):ah P f args r:=fun n=>(h n).cut hm hc
end Go.Proofs.YtihgaadadaekmaaGreat.V

namespace Go.Proofs.YtihgaadadaekmaaGreat.V
open Go.RowKit
attribute [local irreducible] eb wpOps gH Call
attribute [local go_sem] aM fI eM fX fV cE upd cm K.av cK AV.cells AV.cell rowOf rowsOf part ld rowAt bS bZ dH ei ij bK dc eA fZ e8 du ep cY cX dU dW bQ bf cQ bP cT cR ek er eo cP bU cZ ej bL aQ cV cw ig bt cH bR bc dF bq dI AV.undef bD bF dX eh dQ dZ cF ez eE cr ev eu cU cW List.getD_cons_zero List.getD_cons_succ List.getD_nil List.all_cons List.all_nil Bool.and_true Bool.true_and Bool.and_self Bool.not_true Bool.not_false Option.map_some Option.map_none Option.bind_some Option.bind_none List.length_cons List.length_nil List.take_succ_cons List.take_zero List.take_nil List.drop_succ_cons List.drop_zero List.drop_nil List.head?_cons List.map_cons List.map_nil List.getElem?_cons_zero List.getElem?_cons_succ List.cons_append List.nil_append List.append_nil List.length_map List.set_cons_zero List.set_cons_succ eq_self Int.toNat_natCast Int.natCast_nonneg and_self true_and and_true decide_true decide_false Bool.false_eq_true Nat.zero_add Nat.add_zero List.contains_cons List.contains_nil Bool.or_false Bool.false_or beq_self_eq_true ne_eq not_true_eq_false not_false_eq_true Id.mk.injEq false_and and_false Nat.le_refl List.length_append beq_true beq_false Bool.not_eq_eq_eq_not or_false false_or dD ad aj aH bC b4 aX bo aY bl cL bE
section
variable {P:Program} {α:Type} {e:α->List AV} {z:Nat} {g g':Rows} {v:AV} {L:List α} {ids:List Id}
def N5 (e:α->List AV) (z:Nat) (g:Rows) (v:AV) (L:List α) (ids:List Id):Prop:=(L=[]/\v=.br/\ids=[])∨∃o,v=.own o 0 L.length/\g o=some ⟨true,z,L.map e⟩/\ids=[o]/\0<L.length
def MJ (e:α->List AV) (L:List α):AV:=if L.length=0 then .br else .sl (L.map e)
def mD (e:α->List AV) (L:List α) (w:AV):Prop:=(w=.br/\L=[])∨w=.sl (L.map e)
def QO (P:Program) (f:Nat) (args:List AV) (e:α->List AV) (z:Nat) (L:List α) (c:Int):Prop:=
 ∀n:Nat,Call P f args ⟨fun _=>none,n⟩ (fun r σ'=>∃v ids,r=.gE [v,.int .i64 c]/\N5 e z σ'.get v L ids/\eP n σ'.next ids)
theorem DO (hm:P.follows .mixedOrders=true) {f:Nat} {args:List AV} {σ:aw} {K:AV->aw->Prop} (h:Call P f args σ K):Call P f args σ (fun r σ'=>K r σ'/\σ.next<=σ'.next):=
 iw fun hs D ι w vs S U A=>(gJ hm h hs D ι w vs S U A).mono (by
  rintro e w' ⟨r,g',n',D2,ι1,u,rfl,hK,T,S1,U1,hn,hR⟩
  exact⟨r,g',n',D2,ι1,u,rfl,⟨hK,hn⟩,T,S1,U1,hn,hR⟩)
theorem Hq:mD e L (MJ e L):=by
 unfold MJ
 split
 ·rename_i h;exact .inl ⟨rfl,List.eq_nil_of_length_eq_zero h⟩
 ·exact .inr rfl
end
theorem mD.cut {α:Type} {e:α->List AV} {L:List α} {w:AV} (h:mD e L w) {l l':List AV} (hl:oQ l l'):oQ (w::l) (.sl (L.map e)::l'):=by
 rcases h with⟨rfl,rfl⟩|rfl
 ·exact .br hl
 ·exact .same _ hl
end Go.Proofs.YtihgaadadaekmaaGreat.V

namespace Go.Proofs.YtihgaadadaekmaaGreat.V
open Go.RowKit
attribute [local irreducible] eb wpOps gH Call
attribute [local go_sem] aM fI eM fX fV cE upd cm K.av cK AV.cells AV.cell rowOf rowsOf part ld rowAt bS bZ dH ei ij bK dc eA fZ e8 du ep cY cX dU dW bQ bf cQ bP cT cR ek er eo cP bU cZ ej bL aQ cV cw ig bt cH bR bc dF bq dI AV.undef bD bF dX eh dQ dZ cF ez eE cr ev eu cU cW List.getD_cons_zero List.getD_cons_succ List.getD_nil List.all_cons List.all_nil Bool.and_true Bool.true_and Bool.and_self Bool.not_true Bool.not_false Option.map_some Option.map_none Option.bind_some Option.bind_none List.length_cons List.length_nil List.take_succ_cons List.take_zero List.take_nil List.drop_succ_cons List.drop_zero List.drop_nil List.head?_cons List.map_cons List.map_nil List.getElem?_cons_zero List.getElem?_cons_succ List.cons_append List.nil_append List.append_nil List.length_map List.set_cons_zero List.set_cons_succ Nat.reduceMul eq_self Int.toNat_natCast Int.natCast_nonneg and_self true_and and_true decide_true decide_false Bool.false_eq_true Nat.zero_add Nat.add_zero List.contains_cons List.contains_nil Bool.or_false Bool.false_or beq_self_eq_true Nat.reduceBEq ne_eq not_true_eq_false not_false_eq_true Id.mk.injEq false_and and_false Nat.reduceLT Int.reduceLE Int.reduceLT Int.reduceToNat Int.reduceNeg Int.reduceAdd Nat.le_refl List.length_append beq_true beq_false Bool.not_eq_eq_eq_not or_false false_or dD ad aj aH bC b4 aX bo aY bl cL bE
end Go.Proofs.YtihgaadadaekmaaGreat.V

namespace Go.Proofs.YtihgaadadaekmaaGreat.V
open Go.RowKit
variable {P:Program}
theorem MC (hm:P.follows .mixedOrders=true) {f:Nat} {args:List AV} {vs:Array Value} {w:World} (h:ah P f args (.bool true)) (hA:e7 P w (fun b=>b<w.heap.size) (fun _=>none) args vs):
  Calls P f vs w fun e w'=>e=.returned (.bool true)/\Below w.heap.size w w':=by
 have hs:=gJ hm (h 0) w.heap.size (fun b=>b<w.heap.size) (fun _=>none) w vs ⟨Nat.le_refl _,fun _ h=>h,fun id r h=>(by cases h),fun id ki r r' B B' h=>(by cases h)⟩ (fun id h=>absurd rfl h) hA
 refine hs.mono ?_
 rintro e w' ⟨r,g',n',D',ι',u,rfl,⟨r',hz,rfl⟩,eB,hsim,_,_,gx⟩
 have hr:r=.bool true:=by
  cases r<;>rw[fu]at hz<;>simp_all
  all_goals (repeat' (split at hz))<;>simp_all
 subst hr
 exact⟨by rw[eS gx],eB.below⟩
theorem kz {xs:List AV} {w:World} {D:Nat->Prop} {ι:Names} {a:AV} {v:Value} {vs:Array Value} (h:jE P w D a v) (k:e7 P w D ι xs vs):e7 P w D ι (a::xs) (#[v]++vs):=
 nQ (xs:=[a]) ⟨rfl,fun j b hj=>by
  cases j with
  |zero=>simp at hj;subst hj;exact⟨v,rfl,.eK _ _ h⟩
  |succ j=>simp at hj⟩ k
end Go.Proofs.YtihgaadadaekmaaGreat.V

namespace Go.Proofs.YtihgaadadaekmaaGreat.V
open Go.RowKit
attribute [local irreducible] eb wpOps gH Call
attribute [local go_sem] aM fI eM fX fV cE upd cm K.av cK AV.cells AV.cell rowOf rowsOf part ld rowAt bS bZ dH ei ij bK dc eA fZ e8 du ep cY cX dU dW bQ bf cQ bP cT cR ek er eo cP bU cZ ej bL aQ cV cw ig bt cH bR bc dF bq dI AV.undef bD bF dX eh dQ dZ cF ez eE cr ev eu cU cW List.getD_cons_zero List.getD_cons_succ List.getD_nil List.all_cons List.all_nil Bool.and_true Bool.true_and Bool.and_self Bool.not_true Bool.not_false Option.map_some Option.map_none Option.bind_some Option.bind_none List.length_cons List.length_nil List.take_succ_cons List.take_zero List.take_nil List.drop_succ_cons List.drop_zero List.drop_nil List.head?_cons List.map_cons List.map_nil List.getElem?_cons_zero List.getElem?_cons_succ List.cons_append List.nil_append List.append_nil List.length_map List.set_cons_zero List.set_cons_succ Nat.reduceMul eq_self Int.toNat_natCast Int.natCast_nonneg and_self true_and and_true decide_true decide_false Bool.false_eq_true Nat.zero_add Nat.add_zero List.contains_cons List.contains_nil Bool.or_false Bool.false_or beq_self_eq_true Nat.reduceBEq ne_eq not_true_eq_false not_false_eq_true Id.mk.injEq false_and and_false Nat.reduceLT Int.reduceLE Int.reduceLT Int.reduceToNat Int.reduceNeg Int.reduceAdd Nat.le_refl List.length_append beq_true beq_false Bool.not_eq_eq_eq_not or_false false_or dD ad aj aH bC b4 aX bo aY bl cL bE
theorem M0 {α:Type} (f:α->Nat) {xs:List α} {x:α} (h:x∈xs):f x<=(xs.map f).sum:=by
 induction xs with
 |nil=>cases h
 |cons y ys ih=>
  simp only[List.map_cons,List.sum_cons]
  rcases List.mem_cons.1 h with rfl|h
  ·omega
  ·have:=ih h;omega
theorem Fw {s:cl} (h:uT s<=1048576):rU s:=by
 unfold uT sS at h
 refine⟨⟨ab,ab,fun t ht=>?_⟩,ab⟩
 have:=M0 jZ ht
 have h2:t.bm.length<=jZ t:=by unfold jZ;omega
 unfold qT
 omega
theorem xx (a:dm):ah Tryz.prog 13 [.agg (aD a),.agg (aD a)] (.bool true):=by
 refine ah.body dY rfl fun hl n0=>?_
 clear hl
 have h1:=rY a.ae a.ae
 rw[decide_eq_true rfl]at h1
 (repeat(first|((repeat(revert hN;revert N;apply Pn.out));refine wk @aD.eq_1 ?_;(repeat(refine Pn.mk ?_;intro N hN)))|((try apply Or.inl);refine⟨_,ah.x (h1) (sd @aD.eq_1),?_⟩;refine hN _ _ ?_;clear hN N)))
 exact aO (b:=true) (.inl rfl) (sd @Nat.zero_add) rfl
end Go.Proofs.YtihgaadadaekmaaGreat.V

namespace Go.Proofs.YtihgaadadaekmaaGreat.V
open Go.RowKit
attribute [local irreducible] eb wpOps gH Call
attribute [local go_sem] aM fI eM fX fV cE upd cm K.av cK AV.cells AV.cell rowOf rowsOf part ld rowAt bS bZ dH ei ij bK dc eA fZ e8 du ep cY cX dU dW bQ bf cQ bP cT cR ek er eo cP bU cZ ej bL aQ cV cw ig bt cH bR bc dF bq dI AV.undef bD bF dX eh dQ dZ cF ez eE cr ev eu cU cW List.getD_cons_zero List.getD_cons_succ List.getD_nil List.all_cons List.all_nil Bool.and_true Bool.true_and Bool.and_self Bool.not_true Bool.not_false Option.map_some Option.map_none Option.bind_some Option.bind_none List.length_cons List.length_nil List.take_succ_cons List.take_zero List.take_nil List.drop_succ_cons List.drop_zero List.drop_nil List.head?_cons List.map_cons List.map_nil List.getElem?_cons_zero List.getElem?_cons_succ List.cons_append List.nil_append List.append_nil List.length_map List.set_cons_zero List.set_cons_succ eq_self Int.toNat_natCast Int.natCast_nonneg and_self true_and and_true decide_true decide_false Bool.false_eq_true Nat.zero_add Nat.add_zero List.contains_cons List.contains_nil Bool.or_false Bool.false_or beq_self_eq_true ne_eq not_true_eq_false not_false_eq_true Id.mk.injEq false_and and_false Nat.le_refl List.length_append beq_true beq_false Bool.not_eq_eq_eq_not or_false false_or dD ad aj aH bC b4 aX bo aY bl cL bE
theorem Kj {g:Rows} {v w:AV} {s:cl} {i:List Id} (hX:yR g v s i) (hw:fz (dD g) 6 w=some w):cq (dD g) 6 [v,w]=some [.agg (az s),w]:=by
 simp only[ad,aj,hX.fz 1,hw,Option.map_some]
theorem IP {g:Rows} {v w:AV} {s:dm} {i:List Id} (hX:xc g v s i) (hw:fz (dD g) 6 w=some w):cq (dD g) 6 [v,w]=some [.agg (aD s),w]:=by
 simp only[ad,aj,hX.fz 2,hw,Option.map_some]
theorem CW (g:Rows) (s:cl):fz g 6 (.agg (az s))=some (.agg (az s)):=by simp[az,bo,ad,aj,b4,aH]
theorem CV (g:Rows) (s:dm):fz g 6 (.agg (aD s))=some (.agg (aD s)):=by simp[aD,bo,ad,aj,b4]
theorem uP {g:Rows} {v w v' w':AV} (h1:fz g 6 v=some v') (h2:fz g 6 w=some w'):cq g 6 [v,w]=some [v',w']:=by
 simp only[ad,aj,h1,h2,Option.map_some]
theorem JN (s:cl):zX s<=3*uT s:=by
 have h:∀l:List eJ,(l.map fS).sum<=l.length+(l.map jZ).sum:=fun l=>by
  induction l with
  |nil=>simp
  |cons t l ih=>simp only[List.map_cons,List.sum_cons,List.length_cons,fS,jZ]at *;omega
 have:=h s.aI.ae
 unfold zX uT sS
 omega
theorem eP.not {a b:Nat} {ids:List Id} (h:eP a b ids) {x:Id} (hx:x.bY<a∨b<=x.bY):x∉ids:=fun hc=>by
 have:=h.2 x hc;omega
theorem mD.fz {α:Type} {e:α->List AV} {L:List α} {w:AV} (h:mD e L w) (g:Rows):V.fz g 6 w=some w:=by
 rcases h with⟨rfl,rfl⟩|rfl
 ·exact aX _ _
 ·exact b4 _ _ _
end Go.Proofs.YtihgaadadaekmaaGreat.V

namespace Go.Proofs.YtihgaadadaekmaaGreat.V
open Go.RowKit
attribute [local irreducible] eb wpOps gH Call
attribute [local go_sem] aM fI eM fX fV cE upd cm K.av cK AV.cells AV.cell rowOf rowsOf part ld rowAt bS bZ dH ei ij bK dc eA fZ e8 du ep cY cX dU dW bQ bf cQ bP cT cR ek er eo cP bU cZ ej bL aQ cV cw ig bt cH bR bc dF bq dI AV.undef bD bF dX eh dQ dZ cF ez eE cr ev eu cU cW List.getD_cons_zero List.getD_cons_succ List.getD_nil List.all_cons List.all_nil Bool.and_true Bool.true_and Bool.and_self Bool.not_true Bool.not_false Option.map_some Option.map_none Option.bind_some Option.bind_none List.length_cons List.length_nil List.take_succ_cons List.take_zero List.take_nil List.drop_succ_cons List.drop_zero List.drop_nil List.head?_cons List.map_cons List.map_nil List.getElem?_cons_zero List.getElem?_cons_succ List.cons_append List.nil_append List.append_nil List.length_map List.set_cons_zero List.set_cons_succ Nat.reduceMul eq_self Int.toNat_natCast Int.natCast_nonneg and_self true_and and_true decide_true decide_false Bool.false_eq_true Nat.zero_add Nat.add_zero List.contains_cons List.contains_nil Bool.or_false Bool.false_or beq_self_eq_true Nat.reduceBEq ne_eq not_true_eq_false not_false_eq_true Id.mk.injEq false_and and_false Nat.reduceLT Int.reduceLE Int.reduceLT Int.reduceToNat Int.reduceNeg Int.reduceAdd Nat.le_refl List.length_append beq_true beq_false Bool.not_eq_eq_eq_not or_false false_or dD ad aj aH bC b4 aX bo aY bl cL bE
end Go.Proofs.YtihgaadadaekmaaGreat.V

namespace Go.Proofs.YtihgaadadaekmaaGreat.V
open Go.RowKit
attribute [local irreducible] eb wpOps gH Call
attribute [local go_sem] aM fI eM fX fV cE upd cm K.av cK AV.cells AV.cell rowOf rowsOf part ld rowAt bS bZ dH ei ij bK dc eA fZ e8 du ep cY cX dU dW bQ bf cQ bP cT cR ek er eo cP bU cZ ej bL aQ cV cw ig bt cH bR bc dF bq dI AV.undef bD bF dX eh dQ dZ cF ez eE cr ev eu cU cW List.getD_cons_zero List.getD_cons_succ List.getD_nil List.all_cons List.all_nil Bool.and_true Bool.true_and Bool.and_self Bool.not_true Bool.not_false Option.map_some Option.map_none Option.bind_some Option.bind_none List.length_cons List.length_nil List.take_succ_cons List.take_zero List.take_nil List.drop_succ_cons List.drop_zero List.drop_nil List.head?_cons List.map_cons List.map_nil List.getElem?_cons_zero List.getElem?_cons_succ List.cons_append List.nil_append List.append_nil List.length_map List.set_cons_zero List.set_cons_succ eq_self Int.toNat_natCast Int.natCast_nonneg and_self true_and and_true decide_true decide_false Bool.false_eq_true Nat.zero_add Nat.add_zero List.contains_cons List.contains_nil Bool.or_false Bool.false_or beq_self_eq_true ne_eq not_true_eq_false not_false_eq_true Id.mk.injEq false_and and_false Nat.le_refl List.length_append beq_true beq_false Bool.not_eq_eq_eq_not or_false false_or dD ad aj aH bC b4 aX bo aY bl cL bE
end Go.Proofs.YtihgaadadaekmaaGreat.V

namespace Go.Proofs.YtihgaadadaekmaaGreat.V
open Go.RowKit
attribute [local irreducible] eb wpOps gH Call
attribute [local go_sem] aM fI eM fX fV cE upd cm K.av cK AV.cells AV.cell rowOf rowsOf part ld rowAt bS bZ dH ei ij bK dc eA fZ e8 du ep cY cX dU dW bQ bf cQ bP cT cR ek er eo cP bU cZ ej bL aQ cV cw ig bt cH bR bc dF bq dI AV.undef bD bF dX eh dQ dZ cF ez eE cr ev eu cU cW List.getD_cons_zero List.getD_cons_succ List.getD_nil List.all_cons List.all_nil Bool.and_true Bool.true_and Bool.and_self Bool.not_true Bool.not_false Option.map_some Option.map_none Option.bind_some Option.bind_none List.length_cons List.length_nil List.take_succ_cons List.take_zero List.take_nil List.drop_succ_cons List.drop_zero List.drop_nil List.head?_cons List.map_cons List.map_nil List.getElem?_cons_zero List.getElem?_cons_succ List.cons_append List.nil_append List.append_nil List.length_map List.set_cons_zero List.set_cons_succ Nat.reduceMul eq_self Int.toNat_natCast Int.natCast_nonneg and_self true_and and_true decide_true decide_false Bool.false_eq_true Nat.zero_add Nat.add_zero List.contains_cons List.contains_nil Bool.or_false Bool.false_or beq_self_eq_true Nat.reduceBEq ne_eq not_true_eq_false not_false_eq_true Id.mk.injEq false_and and_false Nat.reduceLT Int.reduceLE Int.reduceLT Int.reduceToNat Int.reduceNeg Int.reduceAdd Nat.le_refl List.length_append beq_true beq_false Bool.not_eq_eq_eq_not or_false false_or dD ad aj aH bC b4 aX bo aY bl cL bE
theorem DN {P:Program} {K:AV->Rows->List Id->Prop} (hm:P.follows .mixedOrders=true) {f:Nat} {args eU:List AV} {σ:aw}
  (mW:∀r g ids,K r g ids->r.rh=true/\Handed ids g) (mN:∀r g g' ids,K r g ids->(∀i∈ids,g' i=g i)->K r g' ids)
  (h:∀n:Nat,Call P f eU ⟨fun _=>none,n⟩ (fun r σ'=>∃ids,K r σ'.get ids/\eP n σ'.next ids)) (hv:cq (dD σ.get) 6 args=some eU):
  Call P f args σ (fun r σ'=>∃ids,K r σ'.get ids/\eP σ.next σ'.next ids/\Kept σ σ'):=by
 refine FZ hm hv (aV _ _ _ _ _ (fun r σ' hq=>?_) (DO hm (h σ.next)))
 obtain⟨⟨ids,hK,hi⟩,hn⟩:=hq
 obtain⟨c1,c2⟩:=mW _ _ _ hK
 exact⟨ids,c1,c2,ids,mN _ _ _ _ hK (fun i hi=>uN hi),hi,hn,fun j hj=>rM fun hc=>by have:=(hi.2 j hc).1;omega⟩
theorem Handed.app {i j:List Id} {g:Rows} (h:Handed i g) (k:Handed j g):Handed (i++j) g:=fun x hx=>by
 rcases List.mem_append.1 hx with h1|h1
 ·exact h x h1
 ·exact k x h1
theorem Handed.nil {g:Rows}:Handed [] g:=fun x hx=>by cases hx
section
variable {P:Program} {α:Type} {e:α->List AV} {z:Nat} {g g':Rows} {v:AV} {L:List α} {ids:List Id}
def OutT (e:α->List AV) (z:Nat) (g:Rows) (v:AV) (L:List α) (ids:List Id):Prop:=(L=[]/\v=.br/\ids=[])∨∃(o:Id) (J:List α),v=.own o 0 L.length/\g o=some ⟨true,z,(L++J).map e⟩/\ids=[o]/\0<L.length
def DD (e:α->List AV) (v:AV) (L:List α):AV:=match v with| .br=>.br|_=>.sl (L.map e)
theorem KE {n:Nat} {o:Id} {J:List α} (h2:g o=some ⟨true,z,(L++J).map e⟩) (he:∀x g,cq g n (e x)=some (e x)):V.fz (dD g) (n+1) (.own o 0 L.length)=some (.sl (L.map e)):=by
 rw[gC]
 have:dD g o=some ⟨true,z,(L++J).map e⟩:=by simp[dD,h2]
 simp only[this,if_true]
 have h4:((L++J).map e).take L.length=L.map e:=by rw[<-List.map_take,List.take_append_of_le_length (Nat.le_refl _),List.take_length]
 rw[if_pos (by simp),List.drop_zero,h4,l7 fun x=>he x _];rfl
end
def xq (a:AV):Bool:=match a with| .agg cs=>cs.all AV.clean|a=>a.clean
theorem AY (cs:List AV):(AV.gE cs).rh=cs.all xq:=rfl
theorem D5 {a:AV} (h:a.clean=true):xq a=true:=by
 cases a<;>first|exact h|(simp[AV.clean]at h)
theorem AX (k:IntKind) (n:Int):xq (.int k n)=true:=rfl
theorem za (b:Bool):xq (.bool b)=true:=rfl
theorem Ox {g:Rows} {u v w u' v' w':AV} (h0:V.fz g 6 u=some u') (h1:V.fz g 6 v=some v') (h2:V.fz g 6 w=some w'):cq g 6 [u,v,w]=some [u',v',w']:=by simp only[ad,aj,h0,h1,h2,Option.map_some]
theorem QW (x:ak):(ai x).all AV.clean=true:=rfl
end Go.Proofs.YtihgaadadaekmaaGreat.V

namespace Go.Proofs.YtihgaadadaekmaaGreat.V
open Go.RowKit
attribute [local irreducible] eb wpOps gH Call
attribute [local go_sem] aM fI eM fX fV cE upd cm K.av cK AV.cells AV.cell rowOf rowsOf part ld rowAt bS bZ dH ei ij bK dc eA fZ e8 du ep cY cX dU dW bQ bf cQ bP cT cR ek er eo cP bU cZ ej bL aQ cV cw ig bt cH bR bc dF bq dI AV.undef bD bF dX eh dQ dZ cF ez eE cr ev eu cU cW List.getD_cons_zero List.getD_cons_succ List.getD_nil List.all_cons List.all_nil Bool.and_true Bool.true_and Bool.and_self Bool.not_true Bool.not_false Option.map_some Option.map_none Option.bind_some Option.bind_none List.length_cons List.length_nil List.take_succ_cons List.take_zero List.take_nil List.drop_succ_cons List.drop_zero List.drop_nil List.head?_cons List.map_cons List.map_nil List.getElem?_cons_zero List.getElem?_cons_succ List.cons_append List.nil_append List.append_nil List.length_map List.set_cons_zero List.set_cons_succ eq_self Int.toNat_natCast Int.natCast_nonneg and_self true_and and_true decide_true decide_false Bool.false_eq_true Nat.zero_add Nat.add_zero List.contains_cons List.contains_nil Bool.or_false Bool.false_or beq_self_eq_true ne_eq not_true_eq_false not_false_eq_true Id.mk.injEq false_and and_false Nat.le_refl List.length_append beq_true beq_false Bool.not_eq_eq_eq_not or_false false_or dD ad aj aH bC b4 aX bo aY bl cL bE
section
variable {P:Program} {α:Type} {R:uV α} {e:α->List AV} {z:Nat} {g g':Rows} {v:AV} {L:List α} {ids:List Id}
def kM (R:uV α) (z:Nat) (g:Rows) (v:AV) (L:List α) (ids:List Id):Prop:=(L=[]/\v=.br/\ids=[])∨(fM R z g v L ids/\0<L.length)
theorem kM.frame (ok:oR R z) (h:kM R z g v L ids) (hf:∀i∈ids,g' i=g i):kM R z g' v L ids:=by
 rcases h with h|⟨h,hp⟩
 ·exact .inl h
 ·exact .inr ⟨h.frame ok hf,hp⟩
theorem kM.EY (h:kM R z g v L ids):mD e L (DD e v L):=by
 rcases h with⟨rfl,rfl,_⟩|⟨⟨o,rows,is,rfl,_⟩,_⟩
 ·exact .inl ⟨rfl,rfl⟩
 ·exact .inr rfl
theorem kM.NC (h:kM R z g v L ids) {n:Nat} (hz:∀{cs x ids},R g cs x ids->cq (dD g) n cs=some (e x)):V.fz (dD g) (n+1) v=some (DD e v L):=by
 rcases h with⟨rfl,rfl,_⟩|⟨h,_⟩
 ·exact aX _ _
 ·rw[h.fz hz]
  obtain⟨o,rows,is,rfl,_⟩:=h;rfl
theorem kM.clean (h:kM R z g v L ids):v.clean=true:=by
 rcases h with⟨_,rfl,_⟩|⟨⟨o,rows,is,rfl,_⟩,_⟩<;>rfl
theorem dd.hand {rows:List (List AV)} (h:dd R g rows L ids) (hc:∀{cs x ids},R g cs x ids->cs.all AV.clean=true/\Handed ids g):(∀cs∈rows,∀a∈cs,a.clean=true)/\Handed ids g:=by
 induction h with
 |nil=>exact⟨fun cs h=>(by cases h),Handed.nil⟩
 |cons h1 _ ih=>
  obtain⟨c1,c2⟩:=hc h1
  refine⟨fun cs dn a ha=>?_,c2.app ih.2⟩
  rcases List.mem_cons.1 dn with rfl|dn
  ·exact List.all_eq_true.1 c1 a ha
  ·exact ih.1 cs dn a ha
theorem kM.hand (h:kM R z g v L ids) (hc:∀{cs x ids},R g cs x ids->cs.all AV.clean=true/\Handed ids g):Handed ids g:=by
 rcases h with⟨_,_,rfl⟩|⟨⟨o,rows,is,_,h2,h3,rfl⟩,_⟩
 ·exact Handed.nil
 ·obtain⟨c1,c2⟩:=h3.hand hc
  intro i hi
  rcases List.mem_cons.1 hi with rfl|hi
  ·exact⟨_,h2,rfl,c1⟩
  ·exact c2 i hi
theorem dd.fu {n:Nat} {rows:List (List AV)} (h:dd R g rows L ids) (hz:∀{cs x ids},R g cs x ids->dB g n cs=some (e x)):fE g n rows=some (L.map e):=by
 induction h with
 |nil=>rw[fE];rfl
 |cons h1 _ ih=>rw[fE,hz h1,ih];rfl
theorem kM.s (h:kM R z g v L ids) {n:Nat} (hz:∀{cs x ids},R g cs x ids->dB g n cs=some (e x)):fu g (n+1) v=some (MJ e L):=by
 rcases h with⟨rfl,rfl,_⟩|⟨⟨o,rows,is,rfl,h2,h3,_⟩,hp⟩
 ·rw[il];rfl
 ·rw[pW (sz:=z) (rows:=rows) (rows':=L.map e) h2 (by rw[h3.len];omega) (by
   rw[List.drop_zero,List.take_of_length_le (by rw[h3.len];exact Nat.le_refl _),h3.fu hz]),MJ,if_neg ab]
end
def xw (R:List ak):List AV:=[.sl (R.map ai)]
def tn:uV (List ak):=fun g cs R ids=>∃u,cs=[.own u 0 R.length]/\g u=some ⟨true,3,R.map ai⟩/\ids=[u]
theorem QI:oR tn 1 where
 frame:=fun⟨i,h1,h2,h3⟩ hf=>⟨i,h1,(hf i (by rw[h3];simp)).trans h2,h3⟩
 len:=fun⟨i,h1,_⟩=>by rw[h1];rfl
 cell:=fun⟨i,h1,_⟩=>by rw[h1];rfl
 live:=fun⟨i,h1,h2,h3⟩ j hj=>by
  rw[h3]at hj
  have:j=i:=by simpa using hj
  subst this
  exact⟨_,h2,rfl,by simp[m4]⟩
 small:=by simp[m4]
theorem PE {g:Rows} {cs:List AV} {x:List ak} {ids:List Id} (n:Nat) (h:tn g cs x ids):cq (dD g) (n+2) cs=some (xw x):=by
 obtain⟨i,rfl,h2,_⟩:=h
 have h3:V.fz (dD g) (n+2) (.own i 0 x.length)=some (.sl (x.map ai)):=eT (e:=ai) (sz:=3) (by simp[dD,h2]) rfl fun y=>by simp[ai,ad,aj,aH]
 simp only[ad,aj,h3,Option.map_some,xw]
theorem N2 {g:Rows} {cs:List AV} {x:List ak} {ids:List Id} (n:Nat) (h:tn g cs x ids):dB g (n+2) cs=some (xw x):=by
 obtain⟨i,rfl,h2,_⟩:=h
 have h3:fu g (n+2) (.own i 0 x.length)=some (.sl (x.map ai)):=eW (e:=ai) h2 rfl fun y=>by simp[ai,aC,aL,cC]
 simp only[aC,aL,h3,Option.map_some,xw]
theorem MS {g:Rows} {cs:List AV} {x:List ak} {ids:List Id} (h:tn g cs x ids):cs.all AV.clean=true/\Handed ids g:=by
 obtain⟨i,rfl,h2,rfl⟩:=h
 refine⟨rfl,fun j hj=>?_⟩
 rw[List.mem_singleton.1 hj]
 refine⟨_,h2,rfl,fun cs dn a ha=>?_⟩
 obtain⟨y,_,rfl⟩:=List.mem_map.1 dn
 exact List.all_eq_true.1 (QW y) a ha
def OutRs (g:Rows) (v:AV) (L:List (List ak)) (ids:List Id):Prop:=kM tn 1 g v L ids
section
variable {g g':Rows} {v:AV} {L:List (List ak)} {ids:List Id}
end
end Go.Proofs.YtihgaadadaekmaaGreat.V

namespace Go.Proofs.YtihgaadadaekmaaGreat.V
open Go.RowKit
attribute [local irreducible] eb wpOps gH Call
attribute [local go_sem] aM fI eM fX fV cE upd cm K.av cK AV.cells AV.cell rowOf rowsOf part ld rowAt bS bZ dH ei ij bK dc eA fZ e8 du ep cY cX dU dW bQ bf cQ bP cT cR ek er eo cP bU cZ ej bL aQ cV cw ig bt cH bR bc dF bq dI AV.undef bD bF dX eh dQ dZ cF ez eE cr ev eu cU cW List.getD_cons_zero List.getD_cons_succ List.getD_nil List.all_cons List.all_nil Bool.and_true Bool.true_and Bool.and_self Bool.not_true Bool.not_false Option.map_some Option.map_none Option.bind_some Option.bind_none List.length_cons List.length_nil List.take_succ_cons List.take_zero List.take_nil List.drop_succ_cons List.drop_zero List.drop_nil List.head?_cons List.map_cons List.map_nil List.getElem?_cons_zero List.getElem?_cons_succ List.cons_append List.nil_append List.append_nil List.length_map List.set_cons_zero List.set_cons_succ Nat.reduceMul eq_self Int.toNat_natCast Int.natCast_nonneg and_self true_and and_true decide_true decide_false Bool.false_eq_true Nat.zero_add Nat.add_zero List.contains_cons List.contains_nil Bool.or_false Bool.false_or beq_self_eq_true Nat.reduceBEq ne_eq not_true_eq_false not_false_eq_true Id.mk.injEq false_and and_false Nat.reduceLT Int.reduceLE Int.reduceLT Int.reduceToNat Int.reduceNeg Int.reduceAdd Nat.le_refl List.length_append beq_true beq_false Bool.not_eq_eq_eq_not or_false false_or dD ad aj aH bC b4 aX bo aY bl cL bE
def Dx (k:Int) (n:Nat):List Int:=(List.range n).map fun j:Nat=>k+(j:Int)
theorem iX (k:Int) (n:Nat):(Dx k n).length=n:=by simp[Dx]
def iW (k:Int) (l:List Int) (j:Nat):List Int:=Dx k j++l.drop j
theorem wS {k:Int} {l:List Int} {j:Nat} (h:j<=l.length):(iW k l j).length=l.length:=by simp[iW,iX];omega
theorem Hk {k:Int} {l:List Int} {j:Nat} (h:j<l.length):((iW k l j).map ay)[j]? =some [.int .i64 l[j]]:=by
 have h2:j<(iW k l j).length:=by rw[wS ab];exact h
 have h3:(iW k l j)[j]'h2=l[j]:=by simp[iW,List.getElem_append,iX]
 rw[zg h2,h3]
theorem Fa {k:Int} {l:List Int} {j:Nat} (h:j<l.length):((iW k l j).map ay).set j [.int .i64 (k+(j:Int))]=(iW k l (j+1)).map ay:=by
 have h1:(iW k l j).set j (k+(j:Int))=iW k l (j+1):=by
  unfold iW
  rw[List.set_append_right _ _ (by rw[iX];omega),iX,Nat.sub_self]
  have h2:l.drop j=l[j]::l.drop (j+1):=List.drop_eq_getElem_cons h
  rw[h2,List.set_cons_zero]
  simp[Dx,List.range_succ]
 rw[<-h1,List.map_set];rfl
theorem JQ (i:Id) (l:List Int) (k:Int) (h0:0<=k) (h1:k+l.length<=4611686018427387904) (σ:aw) (hv:i.bY<σ.next) (hg:σ.get i=some ⟨true,1,l.map ay⟩):
  Call Tryz.prog 38 [.own i 0 l.length,.int .i64 k] σ (fun r σ'=>r=.int .i64 (k+l.length)/\pH σ [i] σ'.get σ'.next/\σ'.get i=some ⟨true,1,(Dx k l.length).map ay⟩):=by
 refine fh dY rfl fun hl=>?_
 clear hl
 have hz:iW k l 0=l:=by simp[iW,Dx]
 (try((repeat(revert hN;revert N;apply Pn.out));refine wk @Nat.zero_add ?_;(repeat(refine Pn.mk ?_;intro N hN))))
 refine aT (fun n env st=>∃j:Nat,n=(l.length)-j/\j<=(l.length)/\env 5=.int .i64 (j:Int)/\env 1=.int .i64 (k+j)/\st.get i=some ⟨true,1,(iW k l j).map ay⟩/\(pH σ [i] st.get st.next)) (l.length) ⟨0,ab,ab,sl (tw @Int.add_zero (tw @Int.natCast_zero (tw @hz @hg))),sl (tw @Int.add_zero (tw @Int.natCast_zero (tw @hz @hg))),sl (tw @Int.add_zero (tw @Int.natCast_zero (tw @hz @hg))),by(try dsimp only);exact⟨bw,fun x _ _=>rfl⟩⟩ ?_
 rintro n_a env_a st_a ⟨j,rfl,ale,a5,a1,ag0,k5⟩ dE
 have a0:=dE 0 (by kernel_rfl)
 simp only[go_sem, ↓reduceIte,Nat.reduceEqDiff,Nat.reduceAdd,Nat.reduceSub,Nat.reduceLeDiff,reduceCtorEq,Int.add_zero,Int.natCast_zero,hz,hg]at a0
 clear dE
 obtain⟨an,aF⟩:=k5
 by_cases hj:(j:Int)<(l.length:Int)
 ·have bW:∀{e:Env} {gg:Rows} {nx:Nat},(e 5=.int .i64 (IntKind.i64.wrap ((j:Int)+1)))->(e 1=.int .i64 (k+(j+1)))->(gg i=some ⟨true,1,(iW k l (j+1)).map ay⟩)->(pH σ [i] gg nx)->∃m0,m0<(l.length)-j/\∃j:Nat,m0=(l.length)-j/\j<=(l.length)/\e 5=.int .i64 (j:Int)/\e 1=.int .i64 (k+j)/\gg i=some ⟨true,1,(iW k l j).map ay⟩/\(pH σ [i] gg nx):=fun x1 x2 x3 x4=>⟨_,ab,j+1,rfl,ab,(by rw[x1,aA ab]),x2,x3,x4⟩
  have gw:j<l.length:=ab
  have dp:=Hk (k:=k) gw
  have ew:=Fa (k:=k) gw
  have hw:IntKind.i64.wrap (k+(j:Int)+1)=k+((j:Int)+1):=by rw[bd ab];omega
  have hlen:((iW k l j).map ay).length=l.length:=by rw[List.length_map,wS ab]
  (try((repeat(revert hN;revert N;apply Pn.out));refine wk (tw @a5 (tw @a1 (tw @ag0 (tw @a0 (tw @hj (tw @dp (tw @ew (tw @hw @hlen)))))))) ?_;(repeat(refine Pn.mk ?_;intro N hN))))
  refine bW ?_ ?_ ?_ (by(try dsimp only);exact⟨bw,fun x hx hi=>by
   have h2:=aF x hx hi
   have h3:(x=i)=False:=eq_false fun e=>hi (by simp[e])
   simp only[go_sem, ↓reduceIte,Nat.reduceEqDiff,Nat.reduceAdd,Nat.reduceSub,Nat.reduceLeDiff,reduceCtorEq,h2,h3]⟩)
  all_goals simp only[go_sem, ↓reduceIte,Nat.reduceEqDiff,Nat.reduceAdd,Nat.reduceSub,Nat.reduceLeDiff,reduceCtorEq,a5,a1,ag0,a0,hw,ew]
 ·have gw:j=l.length:=ab
  subst gw
  (try((repeat(revert hN;revert N;apply Pn.out));refine wk (tw @a5 (tw @a1 (tw @ag0 (tw @a0 @hj)))) ?_;(repeat(refine Pn.mk ?_;intro N hN))))
  have lp:iW k l l.length=Dx k l.length:=by simp[iW]
  rw[lp]at ag0
  exact fy (.inl rfl) (vs:=[.int .i64 (k+l.length)]) (sd (tw @a5 (tw @a1 (tw @ag0 @a0)))) ⟨rfl,⟨bw,fun x hx hi=>aF x hx hi⟩,ag0⟩
theorem MH (k:Int) {n j:Nat} (h:j<n):((Dx k n).map ay)[j]? =some [.int .i64 (k+(j:Int))]:=by
 simp[Dx,h,ay]
theorem Jk (k:Int) (n:Nat) (h0:0<=k) (h1:k+n<=4611686018427387904):ah Tryz.prog 39 [.sl ((Dx k n).map ay),.int .i64 k] (.int .i64 (k+n)):=by
 refine ah.body dY rfl fun hl n0=>?_
 clear hl
 obtain⟨m,hm⟩:∃m,n=m:=⟨_,rfl⟩
 rw[hm]at h1 ⊢
 (try((repeat(revert hN;revert N;apply Pn.out));refine wk @iX ?_;(repeat(refine Pn.mk ?_;intro N hN))))
 refine aT (fun n env st=>∃j:Nat,n=(m)-j/\j<=(m)/\env 5=.int .i64 (j:Int)/\env 1=.int .i64 (k+j)) (m) ⟨0,ab,ab,sl (tw @Int.add_zero (tw @Int.natCast_zero @iX)),sl (tw @Int.add_zero (tw @Int.natCast_zero @iX))⟩ ?_
 rintro n_a env_a st_a ⟨j,rfl,ale,a5,a1⟩ dE
 have a0:=dE 0 (by kernel_rfl)
 simp only[go_sem, ↓reduceIte,Nat.reduceEqDiff,Nat.reduceAdd,Nat.reduceSub,Nat.reduceLeDiff,reduceCtorEq,Int.add_zero,Int.natCast_zero,iX]at a0
 clear dE
 by_cases hj:(j:Int)<(m:Int)
 ·have bW:∀{e:Env},(e 5=.int .i64 (IntKind.i64.wrap ((j:Int)+1)))->(e 1=.int .i64 (k+(j+1)))->∃m0,m0<(m)-j/\∃j:Nat,m0=(m)-j/\j<=(m)/\e 5=.int .i64 (j:Int)/\e 1=.int .i64 (k+j):=fun x1 x2=>⟨_,ab,j+1,rfl,ab,(by rw[x1,aA ab]),x2⟩
  have dp:=MH k (n:=m) (j:=j) ab
  have hw:IntKind.i64.wrap (k+(j:Int)+1)=k+((j:Int)+1):=by rw[bd ab];omega
  have e1:decide (k+(j:Int)=k+(j:Int))=true:=decide_eq_true rfl
  (try((repeat(revert hN;revert N;apply Pn.out));refine wk (tw @a5 (tw @a1 (tw @a0 (tw @hj (tw @dp (tw @hw (tw @iX @e1))))))) ?_;(repeat(refine Pn.mk ?_;intro N hN))))
  refine bW ?_ ?_
  all_goals simp only[go_sem, ↓reduceIte,Nat.reduceEqDiff,Nat.reduceAdd,Nat.reduceSub,Nat.reduceLeDiff,reduceCtorEq,a5,a1,a0,hw]
 ·have gw:j=m:=ab
  subst gw
  (try((repeat(revert hN;revert N;apply Pn.out));refine wk (tw @a5 (tw @a1 (tw @a0 (tw @hj @iX)))) ?_;(repeat(refine Pn.mk ?_;intro N hN))))
  exact bG (b:=k+(j:Int)) (.inl rfl) (sd (tw @a5 (tw @a1 @a0))) rfl
theorem clI (x:Int):(ay x).all AV.clean=true:=rfl
def P3 (R:List Int):List AV:=[.sl (R.map ay)]
def yN:uV (List Int):=fun g cs R ids=>∃u,cs=[.own u 0 R.length]/\g u=some ⟨true,1,R.map ay⟩/\ids=[u]
theorem Se:oR yN 1 where
 frame:=fun⟨i,h1,h2,h3⟩ hf=>⟨i,h1,(hf i (by rw[h3];simp)).trans h2,h3⟩
 len:=fun⟨i,h1,_⟩=>by rw[h1];rfl
 cell:=fun⟨i,h1,_⟩=>by rw[h1];rfl
 live:=fun⟨i,h1,h2,h3⟩ j hj=>by
  rw[h3]at hj
  have:j=i:=by simpa using hj
  subst this
  exact⟨_,h2,rfl,by simp[m4]⟩
 small:=by simp[m4]
theorem QF {g:Rows} {cs:List AV} {x:List Int} {ids:List Id} (n:Nat) (h:yN g cs x ids):cq (dD g) (n+2) cs=some (P3 x):=by
 obtain⟨i,rfl,h2,_⟩:=h
 have h3:V.fz (dD g) (n+2) (.own i 0 x.length)=some (.sl (x.map ay)):=eT (e:=ay) (sz:=1) (by simp[dD,h2]) rfl fun y=>by simp[ay,ad,aj,aH]
 simp only[ad,aj,h3,Option.map_some,P3]
theorem Pk {g:Rows} {cs:List AV} {x:List Int} {ids:List Id} (n:Nat) (h:yN g cs x ids):dB g (n+2) cs=some (P3 x):=by
 obtain⟨i,rfl,h2,_⟩:=h
 have h3:fu g (n+2) (.own i 0 x.length)=some (.sl (x.map ay)):=eW (e:=ay) h2 rfl fun y=>by simp[ay,aC,aL,cC]
 simp only[aC,aL,h3,Option.map_some,P3]
theorem NY {g:Rows} {cs:List AV} {x:List Int} {ids:List Id} (h:yN g cs x ids):cs.all AV.clean=true/\Handed ids g:=by
 obtain⟨i,rfl,h2,rfl⟩:=h
 refine⟨rfl,fun j hj=>?_⟩
 rw[List.mem_singleton.1 hj]
 refine⟨_,h2,rfl,fun cs dn a ha=>?_⟩
 obtain⟨y,_,rfl⟩:=List.mem_map.1 dn
 exact List.all_eq_true.1 (clI y) a ha
def OutIs (g:Rows) (v:AV) (L:List (List Int)) (ids:List Id):Prop:=kM yN 1 g v L ids
section
variable {g g':Rows} {v:AV} {L:List (List Int)} {ids:List Id}
end
structure fY where
 t:List Int
 n:Int
 d:Int
def eD (x:fY):List AV:=[.sl (x.t.map ay),.int .i64 x.n,.int .i64 x.d]
def jU:uV fY:=fun g cs x ids=>∃u,cs=[.own u 0 x.t.length,.int .i64 x.n,.int .i64 x.d]/\g u=some ⟨true,1,x.t.map ay⟩/\ids=[u]
theorem o7:oR jU 3 where
 frame:=fun⟨i,h1,h2,h3⟩ hf=>⟨i,h1,(hf i (by rw[h3];simp)).trans h2,h3⟩
 len:=fun⟨i,h1,_⟩=>by rw[h1];rfl
 cell:=fun⟨i,h1,_⟩=>by rw[h1];rfl
 live:=fun⟨i,h1,h2,h3⟩ j hj=>by
  rw[h3]at hj
  have:j=i:=by simpa using hj
  subst this
  exact⟨_,h2,rfl,by simp[m4]⟩
 small:=by simp[m4]
theorem IY {g:Rows} {cs:List AV} {x:fY} {ids:List Id} (n:Nat) (h:jU g cs x ids):cq (dD g) (n+2) cs=some (eD x):=by
 obtain⟨i,rfl,h2,_⟩:=h
 have h3:V.fz (dD g) (n+2) (.own i 0 x.t.length)=some (.sl (x.t.map ay)):=eT (e:=ay) (sz:=1) (by simp[dD,h2]) rfl fun y=>by simp[ay,ad,aj,aH]
 simp only[ad,aj,h3,aH,Option.map_some,eD]
theorem Gn {g:Rows} {cs:List AV} {x:fY} {ids:List Id} (n:Nat) (h:jU g cs x ids):dB g (n+2) cs=some (eD x):=by
 obtain⟨i,rfl,h2,_⟩:=h
 have h3:fu g (n+2) (.own i 0 x.t.length)=some (.sl (x.t.map ay)):=eW (e:=ay) h2 rfl fun y=>by simp[ay,aC,aL,cC]
 simp only[aC,aL,h3,cC,Option.map_some,eD]
theorem D8 {g:Rows} {cs:List AV} {x:fY} {ids:List Id} (h:jU g cs x ids):cs.all AV.clean=true/\Handed ids g:=by
 obtain⟨i,rfl,h2,rfl⟩:=h
 refine⟨rfl,fun j hj=>?_⟩
 rw[List.mem_singleton.1 hj]
 refine⟨_,h2,rfl,fun cs dn a ha=>?_⟩
 obtain⟨y,_,rfl⟩:=List.mem_map.1 dn
 exact List.all_eq_true.1 (clI y) a ha
def iK (g:Rows) (v:AV) (L:List fY) (ids:List Id):Prop:=kM jU 3 g v L ids
section
variable {g g':Rows} {v:AV} {L:List fY} {ids:List Id}
theorem iK.frame (h:iK g v L ids) (hf:∀i∈ids,g' i=g i):iK g' v L ids:=kM.frame o7 h hf
theorem iK.EY (h:iK g v L ids):mD eD L (DD eD v L):=kM.EY h
theorem iK.NC (h:iK g v L ids):V.fz (dD g) 6 v=some (DD eD v L):=kM.NC h fun h=>IY 3 h
theorem iK.clean (h:iK g v L ids):v.clean=true:=kM.clean h
theorem iK.hand (h:iK g v L ids):Handed ids g:=kM.hand h fun h=>D8 h
theorem iK.s (h:iK g v L ids):fu g 5 v=some (MJ eD L):=kM.s h fun h=>Gn 2 h
end
def iG (x:fY):Nat:=x.t.length+2
theorem yy:∀L:List fY,L.length<=(L.map iG).sum
 |[]=>Nat.le_refl _
 |x::L=>by
  have:=yy L
  simp only[List.map_cons,List.sum_cons,List.length_cons,iG];omega
def jT (k:Int):List fY->List fY
 |[]=>[]
 |x::L=>⟨Dx k x.t.length,k+(x.t.length:Int),k+(x.t.length:Int)+1⟩::jT (k+(x.t.length:Int)+2) L
theorem lJ:∀(k:Int) (L:List fY),(jT k L).length=L.length
 |_,[]=>rfl
 |k,x::L=>by rw[jT,List.length_cons,lJ,List.length_cons]
theorem uh:∀(k:Int) (A B:List fY),jT k (A++B)=jT k A++jT (k+((A.map iG).sum:Nat)) B
 |k,[],B=>by simp[jT]
 |k,x::A,B=>by
  rw[List.cons_append,jT,jT,uh,List.cons_append]
  congr 3
  simp only[List.map_cons,List.sum_cons,iG];omega
theorem E9 {k:Int} {L:List fY} {j:Nat} (h:j<L.length):jT k (L.take (j+1))=jT k (L.take j)++[⟨Dx (k+(eH iG L j:Nat)) L[j].t.length,k+(eH iG L j:Nat)+(L[j].t.length:Int),k+(eH iG L j:Nat)+(L[j].t.length:Int)+1⟩]:=by
 rw[List.take_succ_eq_append_getElem h,uh];rfl
theorem E6 (v:AV) (L:List fY) (ids:List Id) (k:Int) (h0:0<=k) (h1:k+(L.map iG).sum<=4611686018427387904) (σ:aw) (hv:∀i∈ids,i.bY<σ.next) (k7:ids.Nodup) (hg:fM jU 3 σ.get v L ids):
  Call Tryz.prog 16 [v,.int .i64 k] σ (fun r σ'=>r=.int .i64 (k+(L.map iG).sum)/\pH σ ids σ'.get σ'.next/\fM jU 3 σ'.get v (jT k L) ids):=by
 obtain⟨o,rows,is,rfl,ho,hR,rfl⟩:=hg
 refine fh dY rfl fun hl=>?_
 clear hl
 have se:=hv o (by simp)
 have AB:=jv iG L
 have hlw:=yy L
 (try((repeat(revert hN;revert N;apply Pn.out));refine wk @Nat.zero_add ?_;(repeat(refine Pn.mk ?_;intro N hN))))
 refine aT (fun n env st=>∃j:Nat,n=(L.length)-j/\j<=(L.length)/\env 5=.int .i64 (j:Int)/\env 1=.int .i64 (k+eH iG L j)/\(pH σ (o::is) st.get st.next/\∃pre rest i1 i2,st.get o=some ⟨true,3,pre++rest⟩/\dd jU st.get pre (jT k (L.take j)) i1/\dd jU st.get rest (L.drop j) i2/\is=i1++i2)) (L.length) ⟨0,ab,ab,sl (tw @Int.add_zero (tw @Int.natCast_zero @AB)),sl (tw @Int.add_zero (tw @Int.natCast_zero @AB)),by(try dsimp only);exact⟨⟨bw,fun x _ _=>rfl⟩,[],rows,[],is,ho,.nil,hR,rfl⟩⟩ ?_
 rintro n_a env_a st_a ⟨j,rfl,ale,a5,a1,k5⟩ dE
 have a0:=dE 0 (by kernel_rfl)
 simp only[go_sem, ↓reduceIte,Nat.reduceEqDiff,Nat.reduceAdd,Nat.reduceSub,Nat.reduceLeDiff,reduceCtorEq,Int.add_zero,Int.natCast_zero,AB]at a0
 clear dE
 obtain⟨⟨an,aF⟩,pre,rest,i1,i2,ag,aP,aR,his⟩:=k5
 have lk:pre.length=j:=by rw[aP.len,lJ,List.length_take];omega
 by_cases hj:(j:Int)<(L.length:Int)
 ·have bW:∀{e:Env} {gg:Rows} {nx:Nat},(e 5=.int .i64 (IntKind.i64.wrap ((j:Int)+1)))->(e 1=.int .i64 (k+eH iG L (j+1)))->(pH σ (o::is) gg nx/\∃pre rest i1 i2,gg o=some ⟨true,3,pre++rest⟩/\dd jU gg pre (jT k (L.take (j+1))) i1/\dd jU gg rest (L.drop (j+1)) i2/\is=i1++i2)->∃m0,m0<(L.length)-j/\∃j:Nat,m0=(L.length)-j/\j<=(L.length)/\e 5=.int .i64 (j:Int)/\e 1=.int .i64 (k+eH iG L j)/\(pH σ (o::is) gg nx/\∃pre rest i1 i2,gg o=some ⟨true,3,pre++rest⟩/\dd jU gg pre (jT k (L.take j)) i1/\dd jU gg rest (L.drop j) i2/\is=i1++i2):=fun x1 x2 x3=>⟨_,ab,j+1,rfl,ab,(by rw[x1,aA ab]),x2,x3⟩
  have gw:j<L.length:=ab
  have ED:=mo iG gw
  have hle:=jB iG L (j+1)
  have Di:=E9 (k:=k) gw
  obtain⟨x,hx⟩:∃x,L[j]=x:=⟨_,rfl⟩
  rw[List.drop_eq_getElem_cons gw,hx]at aR
  rw[hx]at ED Di
  cases aR with
  | @cons cs _ ic rs _ i3 hT Je=>
  obtain⟨i,rfl,hi,rfl⟩:=hT
  have OZ:=k7
  rw[his]at OZ
  have Mx:∀y,y∈i1++([i]++i3)->y.bY<σ.next:=fun y hy=>hv y (by rw[his];simp only[List.mem_cons];exact .inr hy)
  obtain⟨n1,n2⟩:=List.nodup_cons.1 OZ
  obtain⟨n3,n4,n5⟩:=List.nodup_append.1 n2
  obtain⟨n6,n7⟩:=List.nodup_cons.1 n4
  have Iw:i≠o:=fun e=>n1 (by simp[e])
  have Mi:=eq_false (fun e:o=i=>Iw e.symm)
  have hiv:i.bY<σ.next:=Mx i (by simp)
  have hwx:iG x=x.t.length+2:=rfl
  have dp:(pre++[.own i 0 x.t.length,.int .i64 x.n,.int .i64 x.d]::rs)[j]? =some [.own i 0 x.t.length,.int .i64 x.n,.int .i64 x.d]:=by subst lk;simp
  have oM:IntKind.i64.wrap (k+(eH iG L j:Nat)+(x.t.length:Int)+1)=k+(eH iG L j:Nat)+(x.t.length:Int)+1:=bd ab
  have qS:IntKind.i64.wrap (k+(eH iG L j:Nat)+(x.t.length:Int)+1+1)=k+(eH iG L (j+1):Nat):=by rw[bd ab];omega
  (try((repeat(revert hN;revert N;apply Pn.out));refine wk (tw @a5 (tw @a1 (tw @a0 (tw @hj (tw @ag @dp))))) ?_;(repeat(refine Pn.mk ?_;intro N hN))))
  refine .inr (aV _ _ _ _ _ (fun r σ1 hq=>?_) (JQ i x.t (k+(eH iG L j:Nat)) ab ab _ bw hi))
  obtain⟨g1,x1⟩:=σ1
  obtain⟨rfl,⟨AA,mb⟩,De⟩:=hq
  (try dsimp only at AA mb De)
  refine hN _ _ ?_
  clear hN N
  have go:=(mb o bw (by simp only[List.mem_singleton];exact fun e=>Iw e.symm)).trans ag
  have Dh:∀c:List AV,(pre++[.own i 0 x.t.length,.int .i64 x.n,.int .i64 x.d]::rs).set j c=pre++c::rs:=fun c=>by subst lk;simp
  have GQ:∀c:List AV,(pre++c::rs)[j]? =some c:=fun c=>by subst lk;simp
  have hss:∀c d:List AV,(pre++c::rs).set j d=pre++d::rs:=fun c d=>by subst lk;simp
  (try((repeat(revert hN;revert N;apply Pn.out));refine wk (tw @a5 (tw @a1 (tw @a0 (tw @hj (tw @go (tw @dp (tw @Dh (tw @GQ (tw @hss (tw @oM @qS)))))))))) ?_;(repeat(refine Pn.mk ?_;intro N hN))))
  have fr:∀y:Id,y.bY<σ.next->y≠o->y≠i->g1 y=st_a.get y:=fun y hy h3 h4=>mb y bw (by simp[h4])
  have io:=eq_false Iw
  refine bW ?_ ?_ (by(try dsimp only);exact⟨⟨bw,fun y hy vq=>by
   have h3:y≠o:=fun e=>vq (by simp[e])
   have h4:y≠i:=fun e=>vq (by rw[his];simp[e])
   have h5:=eq_false h3
   simp only[go_sem, ↓reduceIte,Nat.reduceEqDiff,Nat.reduceAdd,Nat.reduceSub,Nat.reduceLeDiff,reduceCtorEq,h5]
   rw[fr y hy h3 h4]
   exact aF y hy vq⟩,pre++[[.own i 0 x.t.length,.int .i64 (k+(eH iG L j:Nat)+(x.t.length:Int)),.int .i64 (k+(eH iG L j:Nat)+(x.t.length:Int)+1)]],rs,i1++[i],i3,by simp only[go_sem, ↓reduceIte,Nat.reduceEqDiff,Nat.reduceAdd,Nat.reduceSub,Nat.reduceLeDiff,reduceCtorEq]<;>simp,by
    rw[Di]
    refine dd.app (aP.frame o7 fun y hy=>?_) (dd.one ⟨i,by rw[iX],sd (tw @io @De),rfl⟩)
    have h3:y≠o:=fun e=>n1 (by simp[<-e,hy])
    have h4:y≠i:=fun e=>n5 y hy i (by simp) e
    have h5:=eq_false h3
    simp only[go_sem, ↓reduceIte,Nat.reduceEqDiff,Nat.reduceAdd,Nat.reduceSub,Nat.reduceLeDiff,reduceCtorEq,h5]
    exact fr y (Mx y (by simp[hy])) h3 h4,Je.frame o7 (fun y hy=>by
     have h3:y≠o:=fun e=>n1 (by simp[<-e,hy])
     have h4:y≠i:=fun e=>n6 (by rw[<-e];exact hy)
     have h5:=eq_false h3
     simp only[go_sem, ↓reduceIte,Nat.reduceEqDiff,Nat.reduceAdd,Nat.reduceSub,Nat.reduceLeDiff,reduceCtorEq,h5]
     exact fr y (Mx y (by simp[hy])) h3 h4),by rw[his];simp⟩)
  all_goals simp only[go_sem, ↓reduceIte,Nat.reduceEqDiff,Nat.reduceAdd,Nat.reduceSub,Nat.reduceLeDiff,reduceCtorEq,a5,a1,a0,qS]
 ·have gw:j=L.length:=ab
  subst gw
  have dt:=qE iG L
  rw[dt]at a1
  rw[List.take_length]at aP
  rw[List.drop_length]at aR
  cases aR
  rw[List.append_nil]at his ag
  (try((repeat(revert hN;revert N;apply Pn.out));refine wk (tw @a5 (tw @a1 (tw @a0 @hj))) ?_;(repeat(refine Pn.mk ?_;intro N hN))))
  exact fy (.inl rfl) (vs:=[.int .i64 (k+(L.map iG).sum)]) (sd (tw @a5 (tw @a1 @a0))) ⟨rfl,⟨bw,fun x hx hi=>aF x hx hi⟩,⟨o,pre,i1,by rw[lJ],ag,aP,by rw[his]⟩⟩
theorem B6 (k:Int) (σ:aw):Call Tryz.prog 16 [.br,.int .i64 k] σ (fun r σ'=>r=.int .i64 k/\pH σ [] σ'.get σ'.next):=by
 refine fh dY rfl fun hl=>?_
 clear hl
 (try((repeat(revert hN;revert N;apply Pn.out));refine wk @Nat.zero_add ?_;(repeat(refine Pn.mk ?_;intro N hN))))
 refine aT (fun n env st=>(env 1=.int .i64 k/\env 5=.int .i64 0/\env 0=.br)/\σ.next<=st.next/\∀x:Id,st.get x=σ.get x) 0 ⟨⟨sd @Nat.zero_add,sd @Nat.zero_add,sd @Nat.zero_add⟩,bw,fun _=>rfl⟩ ?_
 rintro m e st ⟨⟨a1,a5,a0⟩,an,aF⟩ -
 have d0:decide ((0:Int)<((0:Nat):Int))=false:=rfl
 (try((repeat(revert hN;revert N;apply Pn.out));refine wk (tw @a0 (tw @a1 (tw @a5 @d0))) ?_;(repeat(refine Pn.mk ?_;intro N hN))))
 exact fy (.inl rfl) (vs:=[.int .i64 k]) (sd @a1) ⟨rfl,⟨bw,fun x hx hi=>aF x⟩⟩
theorem E5 {v:AV} {L:List fY} {ids:List Id} (k:Int) (h0:0<=k) (h1:k+(L.map iG).sum<=4611686018427387904) (σ:aw) (hv:∀i∈ids,i.bY<σ.next) (k7:ids.Nodup) (h:iK σ.get v L ids):
  Call Tryz.prog 16 [v,.int .i64 k] σ (fun r σ'=>r=.int .i64 (k+(L.map iG).sum)/\pH σ ids σ'.get σ'.next/\iK σ'.get v (jT k L) ids):=by
 rcases h with⟨rfl,rfl,rfl⟩|⟨h,hp⟩
 ·refine aV _ _ _ _ _ (fun r σ' hq=>?_) (B6 k σ)
  obtain⟨rfl,hB⟩:=hq
  exact⟨by simp,hB,.inl ⟨rfl,rfl,rfl⟩⟩
 ·refine aV _ _ _ _ _ (fun r σ' hq=>?_) (E6 v L ids k h0 h1 σ hv k7 h)
  obtain⟨rfl,hB,hg⟩:=hq
  exact⟨rfl,hB,.inr ⟨hg,by rw[lJ];exact hp⟩⟩
theorem JR {k:Int} {L:List fY} {j:Nat} (h:j<L.length):((jT k L).map eD)[j]? =some [.sl ((Dx (k+(eH iG L j:Nat)) L[j].t.length).map ay),.int .i64 (k+(eH iG L j:Nat)+(L[j].t.length:Int)),.int .i64 (k+(eH iG L j:Nat)+(L[j].t.length:Int)+1)]:=by
 have h1:(jT k (L.take j)).length=j:=by rw[lJ,List.length_take];omega
 have h2:L=L.take j++L[j]::L.drop (j+1):=by rw[<-List.drop_eq_getElem_cons h,List.take_append_drop]
 have h3:jT k L=jT k (L.take j)++jT (k+(((L.take j).map iG).sum:Nat)) (L[j]::L.drop (j+1)):=by rw[<-uh,<-h2]
 rw[h3,List.map_append,List.getElem?_append_right (by rw[List.length_map,h1];omega),List.length_map,h1,Nat.sub_self,jT]
 rfl
theorem Eu (k:Int) (L:List fY) (h0:0<=k) (h1:k+(L.map iG).sum<=4611686018427387904):ah Tryz.prog 17 [.sl ((jT k L).map eD),.int .i64 k] (.int .i64 (k+(L.map iG).sum)):=by
 refine ah.body dY rfl fun hl n0=>?_
 clear hl
 have AB:=jv iG L
 have hlw:=yy L
 have jI:((jT k L).map eD).length=L.length:=by rw[List.length_map,lJ]
 (try((repeat(revert hN;revert N;apply Pn.out));refine wk @jI ?_;(repeat(refine Pn.mk ?_;intro N hN))))
 refine aT (fun n env st=>∃j:Nat,n=(L.length)-j/\j<=(L.length)/\env 5=.int .i64 (j:Int)/\env 1=.int .i64 (k+eH iG L j)) (L.length) ⟨0,ab,ab,sl (tw @Int.add_zero (tw @Int.natCast_zero (tw @AB @jI))),sl (tw @Int.add_zero (tw @Int.natCast_zero (tw @AB @jI)))⟩ ?_
 rintro n_a env_a st_a ⟨j,rfl,ale,a5,a1⟩ dE
 have a0:=dE 0 (by kernel_rfl)
 simp only[go_sem, ↓reduceIte,Nat.reduceEqDiff,Nat.reduceAdd,Nat.reduceSub,Nat.reduceLeDiff,reduceCtorEq,Int.add_zero,Int.natCast_zero,AB,jI]at a0
 clear dE
 by_cases hj:(j:Int)<(L.length:Int)
 ·have bW:∀{e:Env},(e 5=.int .i64 (IntKind.i64.wrap ((j:Int)+1)))->(e 1=.int .i64 (k+eH iG L (j+1)))->∃m0,m0<(L.length)-j/\∃j:Nat,m0=(L.length)-j/\j<=(L.length)/\e 5=.int .i64 (j:Int)/\e 1=.int .i64 (k+eH iG L j):=fun x1 x2=>⟨_,ab,j+1,rfl,ab,(by rw[x1,aA ab]),x2⟩
  have gw:j<L.length:=ab
  have ED:=mo iG gw
  have hle:=jB iG L (j+1)
  have dp:=JR (k:=k) gw
  have hwx:iG L[j]=L[j].t.length+2:=rfl
  have hh:=Jk (k+(eH iG L j:Nat)) L[j].t.length ab ab
  have hp:¬k+(eH iG L j:Nat)+(L[j].t.length:Int)<0:=ab
  have oM:IntKind.i64.wrap (k+(eH iG L j:Nat)+(L[j].t.length:Int)+1)=k+(eH iG L j:Nat)+(L[j].t.length:Int)+1:=bd ab
  have qS:IntKind.i64.wrap (k+(eH iG L j:Nat)+(L[j].t.length:Int)+1+1)=k+(eH iG L (j+1):Nat):=by rw[bd ab];omega
  have d1:decide (k+(eH iG L j:Nat)+(L[j].t.length:Int)=k+(eH iG L j:Nat)+(L[j].t.length:Int))=true:=decide_eq_true rfl
  have d2:decide (k+(eH iG L j:Nat)+(L[j].t.length:Int)+1=k+(eH iG L j:Nat)+(L[j].t.length:Int)+1)=true:=decide_eq_true rfl
  generalize (Dx (k+(eH iG L j:Nat)) L[j].t.length).map ay=M at dp hh
  (repeat(first|((repeat(revert hN;revert N;apply Pn.out));refine wk (tw @a5 (tw @a1 (tw @a0 (tw @hj (tw @dp (tw @jI (tw @hp (tw @oM (tw @qS (tw @d1 @d2)))))))))) ?_;(repeat(refine Pn.mk ?_;intro N hN)))|((try apply Or.inl);refine⟨_,ah.x (hh) (sd (tw @a5 (tw @a1 (tw @a0 (tw @hj (tw @dp (tw @jI (tw @hp (tw @oM (tw @qS (tw @d1 @d2))))))))))),?_⟩;refine hN _ _ ?_;clear hN N)))
  refine bW ?_ ?_
  all_goals simp only[go_sem, ↓reduceIte,Nat.reduceEqDiff,Nat.reduceAdd,Nat.reduceSub,Nat.reduceLeDiff,reduceCtorEq,a5,a1,a0,jI,qS]
 ·have gw:j=L.length:=ab
  subst gw
  have dt:=qE iG L
  rw[dt]at a1
  (try((repeat(revert hN;revert N;apply Pn.out));refine wk (tw @a5 (tw @a1 (tw @a0 (tw @hj @jI)))) ?_;(repeat(refine Pn.mk ?_;intro N hN))))
  exact bG (b:=k+(L.map iG).sum) (.inl rfl) (sd (tw @a5 (tw @a1 @a0))) rfl
theorem wv {w:AV} (k:Int) (L:List fY) (h0:0<=k) (h1:k+(L.map iG).sum<=4611686018427387904) (hw:mD eD (jT k L) w):ah Tryz.prog 17 [w,.int .i64 k] (.int .i64 (k+(L.map iG).sum)):=
 (Eu k L h0 h1).cut mixed (hw.cut (.same _ .nil))
theorem Gu (x:fY):ah Tryz.prog 33 [.agg (eD x),.agg (eD x)] (.bool true):=by
 refine ah.body dY rfl fun hl n0=>?_
 clear hl
 have h1:=zh x.t x.t
 rw[decide_eq_true rfl]at h1
 have d1:decide (x.n=x.n)=true:=decide_eq_true rfl
 have d2:decide (x.d=x.d)=true:=decide_eq_true rfl
 rw[eD]
 generalize x.t.map ay=M at h1 ⊢
 (repeat(first|((repeat(revert hN;revert N;apply Pn.out));refine wk (tw @d1 @d2) ?_;(repeat(refine Pn.mk ?_;intro N hN)))|((try apply Or.inl);refine⟨_,ah.x (h1) (sd (tw @d1 @d2)),?_⟩;refine hN _ _ ?_;clear hN N)))
 exact aO (b:=true) (.inl rfl) (sd @Nat.zero_add) rfl
theorem I6 (L:List fY):ah Tryz.prog 11 [.sl (L.map eD),.sl (L.map eD)] (.bool true):=by
 refine ah.body dY rfl fun hl n0=>?_
 have hL:L.length<=9223372036854775807:=by simpa using(hl (.sl (L.map eD)) (by simp)).len
 clear hl
 have jI:(L.map eD).length=L.length:=by simp
 have d0:decide ((L.length:Int)=(L.length:Int))=true:=decide_eq_true rfl
 (try((repeat(revert hN;revert N;apply Pn.out));refine wk (tw @jI @d0) ?_;(repeat(refine Pn.mk ?_;intro N hN))))
 refine aT (fun n env st=>∃j:Nat,n=(L.length)-j/\j<=(L.length)/\env 5=.int .i64 (j:Int)) (L.length) ⟨0,ab,ab,sl @jI⟩ ?_
 rintro n_a env_a st_a ⟨j,rfl,ale,a5⟩ dE
 have a0:=dE 0 (by kernel_rfl);have a1:=dE 1 (by kernel_rfl)
 simp only[go_sem, ↓reduceIte,Nat.reduceEqDiff,Nat.reduceAdd,Nat.reduceSub,Nat.reduceLeDiff,reduceCtorEq,jI]at a0 a1
 clear dE
 by_cases hj:(j:Int)<(L.length:Int)
 ·have bW:∀{e:Env},(e 5=.int .i64 (IntKind.i64.wrap ((j:Int)+1)))->∃m0,m0<(L.length)-j/\∃j:Nat,m0=(L.length)-j/\j<=(L.length)/\e 5=.int .i64 (j:Int):=fun x1=>⟨_,ab,j+1,rfl,ab,(by rw[x1,aA ab])⟩
  have gw:j<L.length:=ab
  have dp:(L.map eD)[j]? =some (eD L[j]):=by simp[gw]
  have hh:=Gu L[j]
  rw[eD]at dp hh
  generalize L[j]=x at dp hh
  (repeat(first|((repeat(revert hN;revert N;apply Pn.out));refine wk (tw @a5 (tw @a0 (tw @a1 (tw @hj (tw @dp @jI))))) ?_;(repeat(refine Pn.mk ?_;intro N hN)))|((try apply Or.inl);refine⟨_,ah.x (hh) (sd (tw @a5 (tw @a0 (tw @a1 (tw @hj (tw @dp @jI)))))),?_⟩;refine hN _ _ ?_;clear hN N)))
  exact bW (sd (tw @a5 (tw @a0 (tw @a1 @jI))))
 ·have gw:j=L.length:=ab
  subst gw
  (try((repeat(revert hN;revert N;apply Pn.out));refine wk (tw @a5 (tw @a0 (tw @a1 (tw @hj @jI)))) ?_;(repeat(refine Pn.mk ?_;intro N hN))))
  exact aO (b:=true) (.inl rfl) (sd @Nat.zero_add) rfl
theorem xz {L:List fY} {v w:AV} (hv:mD eD L v) (hw:mD eD L w):ah Tryz.prog 11 [v,w] (.bool true):=
 (I6 L).cut mixed (hv.cut (hw.cut .nil))
theorem JJ (Lr:cl->dm->Int->List fY×Int)
  (O7:∀s a w,eX s.aI->rU s->a.ae.length<=1048576->∃w0,mD eD (Lr s a w).1 w0/\j0 Tryz.prog 7 [.agg (az s),.agg (aD a),.int .i64 w] (.gE [w0,.int .i64 (Lr s a w).2]))
  (OS:∀s a w,eX s.aI->rU s->a.ae.length<=1048576->∀n:Nat,Call Tryz.prog 10 [.agg (az s),.agg (aD a),.int .i64 w] ⟨fun _=>none,n⟩ (fun r σ'=>∃ids,(∃v0 i0,r=.gE [v0,.int .i64 (Lr s a w).2]/\iK σ'.get v0 (Lr s a w).1 i0/\ids=i0)/\eP n σ'.next ids))
  (KQ:∀s a w,eX s.aI->rU s->a.ae.length<=1048576->((Lr s a w).1.map iG).sum<=1099511627776)
  (s:cl) (a:dm) (w:Int) (hn:eX s.aI):ah Tryz.prog 3 [.agg (az s),.agg (aD a),.int .i64 w] (.bool true):=by
 refine ah.body dY rfl fun hl n0=>?_
 clear hl
 have h1:=CA s 1048576 ab ab hn
 by_cases OK:((uT s:Nat):Int)<=1048576
 ·rw[gT OK]at h1
  have Ev:¬(1048576:Int)-((uT s:Nat):Int)<0:=ab
  have h2:=qG a (1048576-((uT s:Nat):Int)) ab ab
  by_cases KI:((a.ae.length:Nat):Int)<=1048576-((uT s:Nat):Int)
  ·rw[gT KI]at h2
   have L7:¬(1048576:Int)-((uT s:Nat):Int)-((a.ae.length:Nat):Int)<0:=ab
   have sm:=Fw (s:=s) ab
   have ma:a.ae.length<=1048576:=ab
   have t1:=CF s sm
   have t2:=qJ a ma
   obtain⟨w0,FU,r1⟩:=O7 s a w hn sm ma
   have r2:=OS s a w hn sm ma
   have q1:=A8 s
   have q2:=xx a
   have L4:=KQ s a w hn sm ma
   obtain⟨L0,hR0⟩:∃R,(Lr s a w).1=R:=⟨_,rfl⟩
   obtain⟨c1,OB⟩:∃R,(Lr s a w).2=R:=⟨_,rfl⟩
   simp only[hR0,OB]at r1 r2 FU L4
   have o1:=fun σ=>CE s sm σ
   rw[az]at o1
   have o2:=fun σ=>qI a ma σ
   rw[aD]at o2
   have Ij:decide (c1=c1)=true:=by simp
   rw[az]at h1
   rw[aD]at h2
   (repeat(first|((repeat(revert hN;revert N;apply Pn.out));refine wk (tw @az.eq_1 (tw @aD.eq_1 (tw @Ev @L7))) ?_;(repeat(refine Pn.mk ?_;intro N hN)))|((try apply Or.inl);refine⟨_,ah.x (h1) (sd (tw @az.eq_1 (tw @aD.eq_1 (tw @Ev @L7)))),?_⟩;refine hN _ _ ?_;clear hN N)|((try apply Or.inl);refine⟨_,ah.x (h2) (sd (tw @az.eq_1 (tw @aD.eq_1 (tw @Ev @L7)))),?_⟩;refine hN _ _ ?_;clear hN N)))
   refine⟨_,j0.x (by rw[az]at t1;exact t1) _,?_⟩
   refine hN _ _ ?_
   clear hN N
   (try((repeat(revert hN;revert N;apply Pn.out));refine wk (tw @az.eq_1 @aD.eq_1) ?_;(repeat(refine Pn.mk ?_;intro N hN))))
   refine⟨_,j0.x (by rw[aD]at t2;exact t2) _,?_⟩
   refine hN _ _ ?_
   clear hN N
   (try((repeat(revert hN;revert N;apply Pn.out));refine wk @Nat.zero_add ?_;(repeat(refine Pn.mk ?_;intro N hN))))
   refine⟨_,j0.x (by rw[az,aD]at r1;exact r1) _,?_⟩
   refine hN _ _ ?_
   clear hN N
   (try((repeat(revert hN;revert N;apply Pn.out));refine wk @Nat.zero_add ?_;(repeat(refine Pn.mk ?_;intro N hN))))
   refine .inr (aV _ _ _ _ _ (fun r' σ1 hq=>?_) (o1 _))
   obtain⟨is,Hs,Ns,Ks⟩:=hq
   obtain⟨g1,x1⟩:=σ1
   (try dsimp only at Hs Ns Ks)
   obtain⟨As,Bs,Cs,j1s,j2s,j3s,rfl,hAs,C5,hCs,-⟩:=Hs.ex
   obtain⟨oAs,rfl⟩:=hAs.kj
   obtain⟨oBs,rfl⟩:=C5.kj
   obtain⟨oCs,rfl⟩:=hCs.kj
   clear hAs C5 hCs
   have ns:=Ks.1
   have bs:=Ns.2
   (try dsimp only at ns bs)
   have LJ:=Ks.2 ⟨3000000,n0⟩ bw
   have LK:=Ks.2 ⟨3000001,n0⟩ bw
   simp only[go_sem, ↓reduceIte,Nat.reduceEqDiff,Nat.reduceAdd,Nat.reduceSub,Nat.reduceLeDiff,reduceCtorEq]at LJ LK
   clear Ks
   refine hN _ _ ?_
   clear hN N
   (try((repeat(revert hN;revert N;apply Pn.out));refine wk (tw @LJ @LK) ?_;(repeat(refine Pn.mk ?_;intro N hN))))
   refine .inr (aV _ _ _ _ _ (fun r' σ2 hq=>?_) (o2 _))
   obtain⟨ia,Ha,Na,Ka⟩:=hq
   obtain⟨g2,x2⟩:=σ2
   (try dsimp only at Ha Na Ka)
   obtain⟨Da,hDa⟩:=Ha
   obtain⟨rfl,Rb⟩:=hDa
   obtain⟨oDa,rfl⟩:=Rb.kj
   have Ha:xc g2 (.agg [.own oDa 0 a.ae.length]) a ia:=⟨_,rfl,Rb⟩
   clear Rb
   have na:=Ka.1
   have ba:=Na.2
   (try dsimp only at na ba)
   have NB:∀i:Id,i.bY<x1->g2 i=g1 i:=fun i hi=>by
    have h4:=Ka.2 i bw
    have h5:=eC (i:=i) (n:=x1) hi
    simp only[go_sem, ↓reduceIte,Nat.reduceEqDiff,Nat.reduceAdd,Nat.reduceSub,Nat.reduceLeDiff,reduceCtorEq,h5]at h4
    exact h4
   have On:=(NB ⟨3000000,n0⟩ bw).trans LJ
   have Oo:=(NB ⟨3000001,n0⟩ bw).trans LK
   have LL:=Ka.2 ⟨3009002,x1⟩ bw
   simp only[go_sem, ↓reduceIte,Nat.reduceEqDiff,Nat.reduceAdd,Nat.reduceSub,Nat.reduceLeDiff,reduceCtorEq]at LL
   have Hs:=Hs.frame (g':=g2) fun i hi=>NB i (by have:=bs i hi;omega)
   clear Ka
   refine hN _ _ ?_
   clear hN N
   (try((repeat(revert hN;revert N;apply Pn.out));refine wk (tw @On (tw @Oo @LL)) ?_;(repeat(refine Pn.mk ?_;intro N hN))))
   refine .inr (aV _ _ _ _ _ (fun r' σ3 hq=>?_) (DN mixed (K:=fun r g ids=>(∃v0 i0,r=.gE [v0,.int .i64 c1]/\iK g v0 L0 i0/\ids=i0)) (by
    rintro r g ids ⟨v0,i0,rfl,k0,rfl⟩
    exact⟨by simp[AY,D5 k0.clean,AX,za],(k0.hand)⟩) (by
    rintro r g g' ids ⟨v0,i0,rfl,k0,rfl⟩ hf
    exact⟨v0,ids,rfl,k0.frame (fun i hi=>hf i (by simp[hi])),rfl⟩) r2 (Ox ((Hs.frame fun i hi=>by
    have h5:=eC (i:=i) (n:=x2) (by have:=bs i hi;omega)
    simp only[go_sem, ↓reduceIte,Nat.reduceEqDiff,Nat.reduceAdd,Nat.reduceSub,Nat.reduceLeDiff,reduceCtorEq,h5]).fz 1) ((Ha.frame fun i hi=>by
    have h5:=eC (i:=i) (n:=x2) (by have:=ba i hi;omega)
    simp only[go_sem, ↓reduceIte,Nat.reduceEqDiff,Nat.reduceAdd,Nat.reduceSub,Nat.reduceLeDiff,reduceCtorEq,h5]).fz 2) (aH _ _ _ _))))
   obtain⟨iZ,⟨v0,iZ0,rfl,Z0,rfl⟩,NZ,KZ⟩:=hq
   obtain⟨g3,x3⟩:=σ3
   (try dsimp only at Z0 NZ KZ)
   have nZ:=KZ.1
   (try dsimp only at nZ)
   have N0:=NZ
   have b0:=N0.2
   (try dsimp only at b0)
   have Ov:∀i:Id,i.bY<x2->g3 i=g2 i:=fun i hi=>by
    have h4:=KZ.2 i bw
    have h5:=eC (i:=i) (n:=x2) hi
    simp only[go_sem, ↓reduceIte,Nat.reduceEqDiff,Nat.reduceAdd,Nat.reduceSub,Nat.reduceLeDiff,reduceCtorEq,h5]at h4
    exact h4
   have A9:=(Ov ⟨3000000,n0⟩ bw).trans On
   have Bb:=(Ov ⟨3000001,n0⟩ bw).trans Oo
   have El:=(Ov ⟨3009002,x1⟩ bw).trans LL
   have zj:=KZ.2 ⟨3010002,x2⟩ bw
   simp only[go_sem, ↓reduceIte,Nat.reduceEqDiff,Nat.reduceAdd,Nat.reduceSub,Nat.reduceLeDiff,reduceCtorEq]at zj
   have Hs:=Hs.frame (g':=g3) fun i hi=>Ov i (by have:=bs i hi;omega)
   have Ha:=Ha.frame (g':=g3) fun i hi=>Ov i (by have:=ba i hi;omega)
   clear KZ
   refine hN _ _ ?_
   clear hN N
   (try((repeat(revert hN;revert N;apply Pn.out));refine wk (tw @A9 (tw @Bb (tw @El @zj))) ?_;(repeat(refine Pn.mk ?_;intro N hN))))
   refine .inl ⟨_,ah.x (xz Z0.EY FU) (uP ((Z0.frame fun i hi=>by
    have h5:=eC (i:=i) (n:=x3) (by have:=b0 i hi;omega)
    simp only[go_sem, ↓reduceIte,Nat.reduceEqDiff,Nat.reduceAdd,Nat.reduceSub,Nat.reduceLeDiff,reduceCtorEq,h5]).NC) (FU.fz _)),?_⟩
   refine hN _ _ ?_
   clear hN N
   (try((repeat(revert hN;revert N;apply Pn.out));refine wk (tw @A9 (tw @Bb (tw @El (tw @zj @Ij)))) ?_;(repeat(refine Pn.mk ?_;intro N hN))))
   refine⟨_,j0.x (by rw[az]at t1;exact t1) _,?_⟩
   refine hN _ _ ?_
   clear hN N
   (try((repeat(revert hN;revert N;apply Pn.out));refine wk (tw @A9 (tw @Bb (tw @El (tw @zj @Ij)))) ?_;(repeat(refine Pn.mk ?_;intro N hN))))
   refine⟨_,ah.x (by rw[az]at q1;exact q1) (by rw[<-az];exact Kj (Hs.frame fun i hi=>by
    have h5:=eC (i:=i) (n:=x3) (by have:=bs i hi;omega)
    simp only[go_sem, ↓reduceIte,Nat.reduceEqDiff,Nat.reduceAdd,Nat.reduceSub,Nat.reduceLeDiff,reduceCtorEq,h5]) (CW _ _)),?_⟩
   refine hN _ _ ?_
   clear hN N
   (try((repeat(revert hN;revert N;apply Pn.out));refine wk (tw @A9 (tw @Bb (tw @El (tw @zj @Ij)))) ?_;(repeat(refine Pn.mk ?_;intro N hN))))
   refine⟨_,j0.x (by rw[aD]at t2;exact t2) _,?_⟩
   refine hN _ _ ?_
   clear hN N
   (try((repeat(revert hN;revert N;apply Pn.out));refine wk (tw @A9 (tw @Bb (tw @El (tw @zj @Ij)))) ?_;(repeat(refine Pn.mk ?_;intro N hN))))
   refine⟨_,ah.x (by rw[aD]at q2;exact q2) (by rw[<-aD];exact IP (Ha.frame fun i hi=>by
    have h5:=eC (i:=i) (n:=x3) (by have:=ba i hi;omega)
    simp only[go_sem, ↓reduceIte,Nat.reduceEqDiff,Nat.reduceAdd,Nat.reduceSub,Nat.reduceLeDiff,reduceCtorEq,h5]) (CV _ _)),?_⟩
   refine hN _ _ ?_
   clear hN N
   (try((repeat(revert hN;revert N;apply Pn.out));refine wk (tw @A9 (tw @Bb (tw @El (tw @zj @Ij)))) ?_;(repeat(refine Pn.mk ?_;intro N hN))))
   have Mg:=JN s
   refine .inr (aV _ _ _ _ _ (fun r' σ4 hq=>?_) (E8 _ s _ 1 ab sm.s.t ab _ (fun i hi=>by have:=bs i hi;(try dsimp only);omega) Ns.1 (Hs.frame fun i hi=>by
    have h5:=eC (i:=i) (n:=x3) (by have:=bs i hi;omega)
    simp only[go_sem, ↓reduceIte,Nat.reduceEqDiff,Nat.reduceAdd,Nat.reduceSub,Nat.reduceLeDiff,reduceCtorEq,h5])))
   obtain⟨rfl,hM⟩:=hq
   obtain⟨g4,x4⟩:=σ4
   (try dsimp only at hM)
   have nM4:=hM.1
   (try dsimp only at nM4)
   have Ow:∀i:Id,i.bY<x3->i∉is->g4 i=g3 i:=fun i hi hx=>hM.2 i bw hx
   have Oq:=(Ow ⟨3000000,n0⟩ bw (Ns.not bw)).trans A9
   have Ot:=(Ow ⟨3000001,n0⟩ bw (Ns.not bw)).trans Bb
   have QZ:=(Ow ⟨3010002,x2⟩ bw (Ns.not bw)).trans zj
   have Ha:=Ha.frame (g':=g4) fun i hi=>Ow i (by have:=ba i hi;omega) (Ns.not (by have:=ba i hi;omega))
   have Z0:=Z0.frame (g':=g4) fun i hi=>Ow i (by have:=b0 i hi;omega) (Ns.not (by have:=b0 i hi;omega))
   clear hM
   refine hN _ _ ?_
   clear hN N
   (try((repeat(revert hN;revert N;apply Pn.out));refine wk (tw @Oq (tw @Ot @QZ)) ?_;(repeat(refine Pn.mk ?_;intro N hN))))
   refine .inr (aV _ _ _ _ _ (fun r' σ5 hq=>?_) (wR _ a _ (1+zX s) ab ab _ (fun i hi=>by have:=ba i hi;(try dsimp only);omega) Ha))
   obtain⟨rfl,hM⟩:=hq
   obtain⟨g5,x5⟩:=σ5
   (try dsimp only at hM)
   have nM5:=hM.1
   (try dsimp only at nM5)
   have Q2:∀i:Id,i.bY<x4->i∉ia->g5 i=g4 i:=fun i hi hx=>hM.2 i bw hx
   have LM:=(Q2 ⟨3000000,n0⟩ bw (Na.not bw)).trans Oq
   have LN:=(Q2 ⟨3000001,n0⟩ bw (Na.not bw)).trans Ot
   have Z0:=Z0.frame (g':=g5) fun i hi=>Q2 i (by have:=b0 i hi;omega) (Na.not (by have:=b0 i hi;omega))
   clear hM
   have e3:decide (1+((zX s:Nat):Int)+3*(a.ae.length:Int)<0)=false:=decide_eq_false ab
   refine hN _ _ ?_
   clear hN N
   (try((repeat(revert hN;revert N;apply Pn.out));refine wk (tw @LM (tw @LN @e3)) ?_;(repeat(refine Pn.mk ?_;intro N hN))))
   refine .inl ⟨_,ah.x (xz Z0.EY FU) (uP (Z0.NC) (FU.fz _)),?_⟩
   refine hN _ _ ?_
   clear hN N
   (try((repeat(revert hN;revert N;apply Pn.out));refine wk (tw @LM (tw @LN (tw @Ij @e3))) ?_;(repeat(refine Pn.mk ?_;intro N hN))))
   refine .inr (aV _ _ _ _ _ (fun r' σ6 hq=>?_) (E5 1 ab ab _ (fun i hi=>by have:=b0 i hi;(try dsimp only);omega) N0.1 Z0))
   obtain⟨rfl,hM,Y0⟩:=hq
   obtain⟨g6,x6⟩:=σ6
   (try dsimp only at hM Y0)
   have nM6:=hM.1
   (try dsimp only at nM6)
   have fr6:∀i:Id,i.bY<x5->i∉iZ->g6 i=g5 i:=fun i hi hx=>hM.2 i bw hx
   have Bc:=(fr6 ⟨3000000,n0⟩ bw (N0.not bw)).trans LM
   have Bd:=(fr6 ⟨3000001,n0⟩ bw (N0.not bw)).trans LN
   clear hM
   refine hN _ _ ?_
   clear hN N
   (try((repeat(revert hN;revert N;apply Pn.out));refine wk (tw @Bc @Bd) ?_;(repeat(refine Pn.mk ?_;intro N hN))))
   have P0:decide (1+(((L0.map iG).sum:Nat):Int)<0)=false:=decide_eq_false ab
   refine .inl ⟨_,ah.x (wv 1 L0 ab ab Y0.EY) (uP (Y0.NC) (aH _ _ _ _)),?_⟩
   refine hN _ _ ?_
   clear hN N
   have e5:decide (1+(((L0.map iG).sum:Nat):Int)=1+(((L0.map iG).sum:Nat):Int))=true:=decide_eq_true rfl
   (try((repeat(revert hN;revert N;apply Pn.out));refine wk (tw @Bc (tw @Bd (tw @P0 @e5))) ?_;(repeat(refine Pn.mk ?_;intro N hN))))
   refine⟨_,j0.x (by rw[az]at t1;exact t1) _,?_⟩
   refine hN _ _ ?_
   clear hN N
   (try((repeat(revert hN;revert N;apply Pn.out));refine wk (tw @Bc (tw @Bd (tw @P0 @e5))) ?_;(repeat(refine Pn.mk ?_;intro N hN))))
   refine⟨_,j0.x (by rw[aD]at t2;exact t2) _,?_⟩
   refine hN _ _ ?_
   clear hN N
   (try((repeat(revert hN;revert N;apply Pn.out));refine wk (tw @Bc (tw @Bd (tw @P0 @e5))) ?_;(repeat(refine Pn.mk ?_;intro N hN))))
   have rs:ah Tryz.prog 10 [.agg (az s),.agg (aD a),.int .i64 w] (.gE [MJ eD L0,.int .i64 c1]):=fun n=>aV _ _ _ _ _ (fun r σ' hq=>by
    obtain⟨ids,⟨v0,i0,rfl,k0,rfl⟩,-⟩:=hq
    exact⟨_,by simp only[cJ,aC,aL,j3,k0.s,cC,cz,Option.map_some]<;>rfl,rfl⟩) (r2 n)
   refine⟨_,ah.x (by rw[az,aD]at rs;exact rs) (Ox (by rw[<-az];exact CW _ _) (by rw[<-aD];exact CV _ _) (aH _ _ _ _)),?_⟩
   refine hN _ _ ?_
   clear hN N
   have IA:=(Hq (e:=eD) (L:=L0))
   generalize MJ eD L0=u0 at IA ⊢
   (try((repeat(revert hN;revert N;apply Pn.out));refine wk (tw @Bc (tw @Bd @Ij)) ?_;(repeat(refine Pn.mk ?_;intro N hN))))
   refine .inl ⟨_,ah.x (xz IA FU) (uP (IA.fz _) (FU.fz _)),?_⟩
   refine hN _ _ ?_
   clear hN N
   (try((repeat(revert hN;revert N;apply Pn.out));refine wk (tw @Bc (tw @Bd @Ij)) ?_;(repeat(refine Pn.mk ?_;intro N hN))))
   refine .inl ⟨_,ah.x (wv 1 L0 ab ab Y0.EY) (uP ((Y0.frame fun i hi=>by
    have h5:=eC (i:=i) (n:=x6) (by have:=b0 i hi;omega)
    simp only[go_sem, ↓reduceIte,Nat.reduceEqDiff,Nat.reduceAdd,Nat.reduceSub,Nat.reduceLeDiff,reduceCtorEq,h5]).NC) (aH _ _ _ _)),?_⟩
   refine hN _ _ ?_
   clear hN N
   (try((repeat(revert hN;revert N;apply Pn.out));refine wk (tw @Bc (tw @Bd (tw @P0 @e5))) ?_;(repeat(refine Pn.mk ?_;intro N hN))))
   exact aO (b:=true) (.inl rfl) (sd @Nat.zero_add) rfl
  ·rw[hZ KI]at h2
   rw[az]at h1
   rw[aD]at h2
   (repeat(first|((repeat(revert hN;revert N;apply Pn.out));refine wk (tw @az.eq_1 (tw @aD.eq_1 @Ev)) ?_;(repeat(refine Pn.mk ?_;intro N hN)))|((try apply Or.inl);refine⟨_,ah.x (h1) (sd (tw @az.eq_1 (tw @aD.eq_1 @Ev))),?_⟩;refine hN _ _ ?_;clear hN N)|((try apply Or.inl);refine⟨_,ah.x (h2) (sd (tw @az.eq_1 (tw @aD.eq_1 @Ev))),?_⟩;refine hN _ _ ?_;clear hN N)))
   exact aO (b:=true) (.inl rfl) (sd @Nat.zero_add) rfl
 ·rw[hZ OK]at h1
  rw[az]at h1
  (repeat(first|((repeat(revert hN;revert N;apply Pn.out));refine wk (tw @az.eq_1 @aD.eq_1) ?_;(repeat(refine Pn.mk ?_;intro N hN)))|((try apply Or.inl);refine⟨_,ah.x (h1) (sd (tw @az.eq_1 @aD.eq_1)),?_⟩;refine hN _ _ ?_;clear hN N)))
  exact aO (b:=true) (.inl rfl) (sd @Nat.zero_add) rfl
def g9 (n lo hi:Int):Bool:=decide (lo<=n)&&decide (n<=hi)
theorem dO {n lo hi:Int} (h:g9 n lo hi=true):lo<=n/\n<=hi:=by simpa[g9]using h
theorem nI {n lo hi:Int} (h:lo<=n/\n<=hi):g9 n lo hi=true:=by simpa[g9]using h
def Cg (p:bH):Bool:=g9 p.gu (-60) 60&&g9 p.fN (-60) 60
theorem j6 (n lo hi:Int):ah Tryz.prog 26 [.int .i64 n,.int .i64 lo,.int .i64 hi] (.bool (g9 n lo hi)):=by
 refine ah.body dY rfl fun hl n0=>?_
 clear hl
 by_cases h1:lo<=n
 ·(try((repeat(revert hN;revert N;apply Pn.out));refine wk @h1 ?_;(repeat(refine Pn.mk ?_;intro N hN))))
  exact aO (b:=decide (n<=hi)) (.inl rfl) (sd @Nat.zero_add) (by simp[g9,h1])
 ·(try((repeat(revert hN;revert N;apply Pn.out));refine wk @h1 ?_;(repeat(refine Pn.mk ?_;intro N hN))))
  exact aO (b:=false) (.inl rfl) (sd @Nat.zero_add) (by simp[g9,h1])
theorem jN (n lo hi:Int):ah Tryz.prog 31 [.int .i64 n,.int .i64 lo,.int .i64 hi] (.bool (g9 n lo hi)):=by
 refine ah.body dY rfl fun hl n0=>?_
 clear hl
 by_cases h1:lo<=n
 ·(try((repeat(revert hN;revert N;apply Pn.out));refine wk @h1 ?_;(repeat(refine Pn.mk ?_;intro N hN))))
  exact aO (b:=decide (n<=hi)) (.inl rfl) (sd @Nat.zero_add) (by simp[g9,h1])
 ·(try((repeat(revert hN;revert N;apply Pn.out));refine wk @h1 ?_;(repeat(refine Pn.mk ?_;intro N hN))))
  exact aO (b:=false) (.inl rfl) (sd @Nat.zero_add) (by simp[g9,h1])
theorem G9 (d:Int):ah Tryz.prog 141 [.int .i64 d] (.bool (g9 d 0 3)):=by
 refine ah.body dY rfl fun hl n0=>?_
 clear hl
 have h:=j6 d 0 3
 (repeat(first|((repeat(revert hN;revert N;apply Pn.out));refine wk @Nat.zero_add ?_;(repeat(refine Pn.mk ?_;intro N hN)))|((try apply Or.inl);refine⟨_,ah.x (h) (sd @Nat.zero_add),?_⟩;refine hN _ _ ?_;clear hN N)))
 exact aO (b:=g9 d 0 3) (.inl rfl) (sd @Nat.zero_add) rfl
theorem BS (p:bH):ah Tryz.prog 125 [.agg (ao p)] (.bool (Cg p)):=by
 refine ah.body dY rfl fun hl n0=>?_
 clear hl
 have h1:=j6 p.gu (-60) 60
 have h2:=j6 p.fN (-60) 60
 by_cases q:g9 p.gu (-60) 60=true
 ·rw[q]at h1
  (repeat(first|((repeat(revert hN;revert N;apply Pn.out));refine wk @ao.eq_1 ?_;(repeat(refine Pn.mk ?_;intro N hN)))|((try apply Or.inl);refine⟨_,ah.x (h1) (sd @ao.eq_1),?_⟩;refine hN _ _ ?_;clear hN N)|((try apply Or.inl);refine⟨_,ah.x (h2) (sd @ao.eq_1),?_⟩;refine hN _ _ ?_;clear hN N)))
  exact aO (b:=g9 p.fN (-60) 60) (.inl rfl) (sd @Nat.zero_add) (by rw[Cg,q];rfl)
 ·rw[Bool.not_eq_true]at q
  rw[q]at h1
  (repeat(first|((repeat(revert hN;revert N;apply Pn.out));refine wk @ao.eq_1 ?_;(repeat(refine Pn.mk ?_;intro N hN)))|((try apply Or.inl);refine⟨_,ah.x (h1) (sd @ao.eq_1),?_⟩;refine hN _ _ ?_;clear hN N)|((try apply Or.inl);refine⟨_,ah.x (h2) (sd @ao.eq_1),?_⟩;refine hN _ _ ?_;clear hN N)))
  exact aO (b:=false) (.inl rfl) (sd @Nat.zero_add) (by rw[Cg,q];rfl)
theorem xh (p:bH):ah Tryz.prog 133 [.agg (ao p)] (.bool (Cg p)):=by
 refine ah.body dY rfl fun hl n0=>?_
 clear hl
 have h1:=jN p.gu (-60) 60
 have h2:=jN p.fN (-60) 60
 by_cases q:g9 p.gu (-60) 60=true
 ·rw[q]at h1
  (repeat(first|((repeat(revert hN;revert N;apply Pn.out));refine wk @ao.eq_1 ?_;(repeat(refine Pn.mk ?_;intro N hN)))|((try apply Or.inl);refine⟨_,ah.x (h1) (sd @ao.eq_1),?_⟩;refine hN _ _ ?_;clear hN N)|((try apply Or.inl);refine⟨_,ah.x (h2) (sd @ao.eq_1),?_⟩;refine hN _ _ ?_;clear hN N)))
  exact aO (b:=g9 p.fN (-60) 60) (.inl rfl) (sd @Nat.zero_add) (by rw[Cg,q];rfl)
 ·rw[Bool.not_eq_true]at q
  rw[q]at h1
  (repeat(first|((repeat(revert hN;revert N;apply Pn.out));refine wk @ao.eq_1 ?_;(repeat(refine Pn.mk ?_;intro N hN)))|((try apply Or.inl);refine⟨_,ah.x (h1) (sd @ao.eq_1),?_⟩;refine hN _ _ ?_;clear hN N)|((try apply Or.inl);refine⟨_,ah.x (h2) (sd @ao.eq_1),?_⟩;refine hN _ _ ?_;clear hN N)))
  exact aO (b:=false) (.inl rfl) (sd @Nat.zero_add) (by rw[Cg,q];rfl)
def rG (d:Int):Int:=if g9 d 0 3 then(d+2) % 4 else -1
def eL (p:bH) (d:Int):bH:=
 if d=0 then⟨p.gu,p.fN+1⟩else if d=1 then⟨p.gu+1,p.fN⟩else if d=2 then⟨p.gu,p.fN-1⟩else if d=3 then⟨p.gu-1,p.fN⟩else p
def iB (n:Int):Prop:=-4611686018427387904<=n/\n<=4611686018427387904
theorem EN (p:bH) (d:Int) (hd:g9 d 0 3=true) (hx:iB p.gu) (hy:iB p.fN):ah Tryz.prog 72 [.agg (ao p),.int .i64 d] (.agg (ao (eL p d))):=by
 refine ah.body dY rfl fun hl n0=>?_
 clear hl
 obtain⟨x1,x2⟩:=hx
 obtain⟨y1,y2⟩:=hy
 have w1:IntKind.i64.wrap (p.gu+1)=p.gu+1:=bd ab
 have w2:IntKind.i64.wrap (p.gu-1)=p.gu-1:=bd ab
 have w3:IntKind.i64.wrap (p.fN+1)=p.fN+1:=bd ab
 have w4:IntKind.i64.wrap (p.fN-1)=p.fN-1:=bd ab
 have hb:=dO hd
 have hc:d=0∨d=1∨d=2∨d=3:=ab
 rcases hc with rfl|rfl|rfl|rfl
 ·(try((repeat(revert hN;revert N;apply Pn.out));refine wk (tw @ao.eq_1 @w3) ?_;(repeat(refine Pn.mk ?_;intro N hN))))
  exact eQ (.inl rfl) (vs:=[.agg (ao (eL p 0))]) (by simp only[go_sem, ↓reduceIte,Nat.reduceEqDiff,Nat.reduceAdd,Nat.reduceSub,Nat.reduceLeDiff,reduceCtorEq,fb,gY,ao,eL]) (by simp[dr,ao,fu,dB])
 ·(try((repeat(revert hN;revert N;apply Pn.out));refine wk (tw @ao.eq_1 @w1) ?_;(repeat(refine Pn.mk ?_;intro N hN))))
  exact eQ (.inl rfl) (vs:=[.agg (ao (eL p 1))]) (by simp[fb,gY,ao,eL,ld,rowAt,bS,upd,part]) (by simp[dr,ao,fu,dB])
 ·(try((repeat(revert hN;revert N;apply Pn.out));refine wk (tw @ao.eq_1 @w4) ?_;(repeat(refine Pn.mk ?_;intro N hN))))
  exact eQ (.inl rfl) (vs:=[.agg (ao (eL p 2))]) (by simp[fb,gY,ao,eL,ld,rowAt,bS,upd,part]) (by simp[dr,ao,fu,dB])
 ·(try((repeat(revert hN;revert N;apply Pn.out));refine wk (tw @ao.eq_1 @w2) ?_;(repeat(refine Pn.mk ?_;intro N hN))))
  exact eQ (.inl rfl) (vs:=[.agg (ao (eL p 3))]) (by simp[fb,gY,ao,eL,ld,rowAt,bS,upd,part]) (by simp[dr,ao,fu,dB])
theorem yd (p p2:bH) (x y:Int) (hx:IntKind.i64.wrap (p.gu+p2.gu)=x) (hy:IntKind.i64.wrap (p.fN+p2.fN)=y):ah Tryz.prog 85 [.agg (ao p),.agg (ao p2)] (.agg [.int .i64 x,.int .i64 y]):=by
 refine ah.body dY rfl fun hl n0=>?_
 clear hl
 (try((repeat(revert hN;revert N;apply Pn.out));refine wk (tw @ao.eq_1 (tw @hx @hy)) ?_;(repeat(refine Pn.mk ?_;intro N hN))))
 exact eQ (.inl rfl) (vs:=[.agg [.int .i64 x,.int .i64 y]]) (by simp only[go_sem, ↓reduceIte,Nat.reduceEqDiff,Nat.reduceAdd,Nat.reduceSub,Nat.reduceLeDiff,reduceCtorEq,fb,gY,ao]) (by simp[dr,fu,dB])
theorem MZ (p:bH) (d:Int) (hd:g9 d 0 3=true) (hx:iB p.gu) (hy:iB p.fN):ah Tryz.prog 49 [.agg (ao p),.int .i64 d] (.agg (ao (eL p d))):=by
 refine ah.body dY rfl fun hl n0=>?_
 clear hl
 obtain⟨x1,x2⟩:=hx
 obtain⟨y1,y2⟩:=hy
 have hb:=dO hd
 have hc:d=0∨d=1∨d=2∨d=3:=ab
 rcases hc with rfl|rfl|rfl|rfl
 ·have h:=yd p ⟨0,1⟩ (p.gu) (p.fN+1) (by rw[bd (by constructor<;>simp only<;>omega)]<;>(try simp only)<;>(try omega)) (by rw[bd (by constructor<;>simp only<;>omega)]<;>(try simp only)<;>(try omega))
  simp only[ao]at h
  (repeat(first|((repeat(revert hN;revert N;apply Pn.out));refine wk @ao.eq_1 ?_;(repeat(refine Pn.mk ?_;intro N hN)))|((try apply Or.inl);refine⟨_,ah.x (h) (sd @ao.eq_1),?_⟩;refine hN _ _ ?_;clear hN N)))
  exact eQ (.inl rfl) (vs:=[.agg (ao (eL p 0))]) (by simp[fb,gY,ao,eL,ld,rowAt,bS,upd,part]) (by simp[dr,ao,fu,dB])
 ·have h:=yd p ⟨1,0⟩ (p.gu+1) (p.fN) (by rw[bd (by constructor<;>simp only<;>omega)]<;>(try simp only)<;>(try omega)) (by rw[bd (by constructor<;>simp only<;>omega)]<;>(try simp only)<;>(try omega))
  simp only[ao]at h
  (repeat(first|((repeat(revert hN;revert N;apply Pn.out));refine wk @ao.eq_1 ?_;(repeat(refine Pn.mk ?_;intro N hN)))|((try apply Or.inl);refine⟨_,ah.x (h) (sd @ao.eq_1),?_⟩;refine hN _ _ ?_;clear hN N)))
  exact eQ (.inl rfl) (vs:=[.agg (ao (eL p 1))]) (by simp[fb,gY,ao,eL,ld,rowAt,bS,upd,part]) (by simp[dr,ao,fu,dB])
 ·have h:=yd p ⟨0,(-1)⟩ (p.gu) (p.fN-1) (by rw[bd (by constructor<;>simp only<;>omega)]<;>(try simp only)<;>(try omega)) (by rw[bd (by constructor<;>simp only<;>omega)]<;>(try simp only)<;>(try omega))
  simp only[ao]at h
  (repeat(first|((repeat(revert hN;revert N;apply Pn.out));refine wk @ao.eq_1 ?_;(repeat(refine Pn.mk ?_;intro N hN)))|((try apply Or.inl);refine⟨_,ah.x (h) (sd @ao.eq_1),?_⟩;refine hN _ _ ?_;clear hN N)))
  exact eQ (.inl rfl) (vs:=[.agg (ao (eL p 2))]) (by simp[fb,gY,ao,eL,ld,rowAt,bS,upd,part]) (by simp[dr,ao,fu,dB])
 ·have h:=yd p ⟨(-1),0⟩ (p.gu-1) (p.fN) (by rw[bd (by constructor<;>simp only<;>omega)]<;>(try simp only)<;>(try omega)) (by rw[bd (by constructor<;>simp only<;>omega)]<;>(try simp only)<;>(try omega))
  simp only[ao]at h
  (repeat(first|((repeat(revert hN;revert N;apply Pn.out));refine wk @ao.eq_1 ?_;(repeat(refine Pn.mk ?_;intro N hN)))|((try apply Or.inl);refine⟨_,ah.x (h) (sd @ao.eq_1),?_⟩;refine hN _ _ ?_;clear hN N)))
  exact eQ (.inl rfl) (vs:=[.agg (ao (eL p 3))]) (by simp[fb,gY,ao,eL,ld,rowAt,bS,upd,part]) (by simp[dr,ao,fu,dB])
theorem Cc (d:Int) (hd:g9 d 0 3=true):ah Tryz.prog 50 [.int .i64 d] (.int .i64 (rG d)):=by
 refine ah.body dY rfl fun hl n0=>?_
 clear hl
 have hb:=dO hd
 have hw:IntKind.i64.wrap (d+2)=d+2:=bd ab
 have ht:Int.tmod (d+2) 4=(d+2) % 4:=Int.tmod_eq_emod_of_nonneg ab
 have h4:¬((4:Int)=0):=ab
 (try((repeat(revert hN;revert N;apply Pn.out));refine wk (tw @hw (tw @ht @h4)) ?_;(repeat(refine Pn.mk ?_;intro N hN))))
 exact bG (b:=(d+2) % 4) (.inl rfl) (sd @Nat.zero_add) (by rw[rG,if_pos hd])
theorem AL (d:Int) (hd:g9 d 0 3=true):ah Tryz.prog 112 [.int .i64 d] (.int .i64 (rG d)):=by
 refine ah.body dY rfl fun hl n0=>?_
 clear hl
 have hb:=dO hd
 have hw:IntKind.i64.wrap (d+2)=d+2:=bd ab
 have ht:Int.tmod (d+2) 4=(d+2) % 4:=Int.tmod_eq_emod_of_nonneg ab
 have h4:¬((4:Int)=0):=ab
 have h:=G9 d
 rw[hd]at h
 (repeat(first|((repeat(revert hN;revert N;apply Pn.out));refine wk (tw @hw (tw @ht @h4)) ?_;(repeat(refine Pn.mk ?_;intro N hN)))|((try apply Or.inl);refine⟨_,ah.x (h) (sd (tw @hw (tw @ht @h4))),?_⟩;refine hN _ _ ?_;clear hN N)))
 exact bG (b:=(d+2) % 4) (.inl rfl) (sd @Nat.zero_add) (by rw[rG,if_pos hd])
def gp (s:aq) (t:Int):Bool:=g9 t 0 ((s.ae.length:Int)-1)
theorem BT (s:aq) (t:Int):ah Tryz.prog 92 [.de (aa s),.int .i64 t] (.bool (gp s t)):=by
 refine ah.body dY rfl fun hl n0=>?_
 have hn:s.ae.length<=9223372036854775807:=by
  have h1:=(hl (.de (aa s)) (by simp)).wL (a:=.sl (s.ae.map aW)) (by simp[aa])
  simpa using h1.len
 clear hl
 have hw:IntKind.i64.wrap ((s.ae.length:Int)-1)=(s.ae.length:Int)-1:=bd ab
 have h:=j6 t 0 ((s.ae.length:Int)-1)
 (repeat(first|((repeat(revert hN;revert N;apply Pn.out));refine wk (tw @aa.eq_1 @hw) ?_;(repeat(refine Pn.mk ?_;intro N hN)))|((try apply Or.inl);refine⟨_,ah.x (h) (sd (tw @aa.eq_1 @hw)),?_⟩;refine hN _ _ ?_;clear hN N)))
 exact aO (b:=gp s t) (.inl rfl) (by simp only[go_sem, ↓reduceIte,Nat.reduceEqDiff,Nat.reduceAdd,Nat.reduceSub,Nat.reduceLeDiff,reduceCtorEq,gp]) rfl
theorem wM (t n:Int) (h0:0<=n) (h1:n<=9223372036854775807):ah Tryz.prog 134 [.int .i64 t,.int .i64 n] (.bool (g9 t 0 (n-1))):=by
 refine ah.body dY rfl fun hl n0=>?_
 clear hl
 have hw:IntKind.i64.wrap (n-1)=n-1:=bd ab
 have h:=jN t 0 (n-1)
 (repeat(first|((repeat(revert hN;revert N;apply Pn.out));refine wk @hw ?_;(repeat(refine Pn.mk ?_;intro N hN)))|((try apply Or.inl);refine⟨_,ah.x (h) (sd @hw),?_⟩;refine hN _ _ ?_;clear hN N)))
 exact aO (b:=g9 t 0 (n-1)) (.inl rfl) (sd @Nat.zero_add) rfl
theorem G8 (s:aq) (t:Int):ah Tryz.prog 102 [.agg (aa s),.int .i64 t] (.bool (gp s t)):=by
 refine ah.body dY rfl fun hl n0=>?_
 have hn:s.ae.length<=9223372036854775807:=by
  have h1:=(hl (.agg (aa s)) (by simp)).IM (a:=.sl (s.ae.map aW)) (by simp[aa])
  simpa using h1.len
 clear hl
 have h:=wM t s.ae.length ab ab
 (repeat(first|((repeat(revert hN;revert N;apply Pn.out));refine wk @aa.eq_1 ?_;(repeat(refine Pn.mk ?_;intro N hN)))|((try apply Or.inl);refine⟨_,ah.x (h) (sd @aa.eq_1),?_⟩;refine hN _ _ ?_;clear hN N)))
 exact aO (b:=gp s t) (.inl rfl) (by simp only[go_sem, ↓reduceIte,Nat.reduceEqDiff,Nat.reduceAdd,Nat.reduceSub,Nat.reduceLeDiff,reduceCtorEq,gp]) rfl
def Ca:eJ:=⟨⟨#[]⟩,[]⟩
def dh (s:aq) (t:Int):eJ:=s.ae.getD t.toNat Ca
def di (t:eJ) (d:Int):Int:=t.bm.getD d.toNat 0
def g7 (s:aq) (g:Int):fc:=s.au.getD g.toNat ⟨⟨#[]⟩,0⟩
def uH (s:aq) (g:Int):Int:=if g=0 then 0 else(g7 s (g-1)).dS
def iP (s:aq) (a d b:Int):Int:=if di (dh s a) d=di (dh s b) (rG d)then uH s (di (dh s a) d)else 0
structure fQ (s:aq):Prop where
 nS:∀t∈s.ae,t.bm.length=4
 r8:∀t∈s.ae,∀g∈t.bm,0<=g/\g<=s.au.length
theorem getD_map {α β:Type} (e:α->β) {l:List α} {k:Nat} {d:α} (h:k<l.length):(l.map e)[k]? =some (e (l.getD k d)):=by simp[List.getD_eq_getElem?_getD,h]
theorem vK (s:aq) (g:Int) (h0:0<=g) (h1:g<=s.au.length):ah Tryz.prog 165 [.de (aa s),.int .i64 g] (.int .i64 (uH s g)):=by
 refine ah.body dY rfl fun hl n0=>?_
 have hn:s.au.length<=9223372036854775807:=by
  have h1:=(hl (.de (aa s)) (by simp)).wL (a:=.sl (s.au.map bh)) (by simp[aa])
  simpa using h1.len
 clear hl
 by_cases hg:g=0
 ·have e:decide (g=0)=true:=decide_eq_true hg
  (try((repeat(revert hN;revert N;apply Pn.out));refine wk (tw @aa.eq_1 @e) ?_;(repeat(refine Pn.mk ?_;intro N hN))))
  exact bG (b:=0) (.inl rfl) (sd @Nat.zero_add) (by rw[uH,if_pos hg])
 ·have e:decide (g=0)=false:=decide_eq_false hg
  have hw:IntKind.i64.wrap (g-1)=g-1:=bd ab
  have jO:0<=g-1:=ab
  have dp:(s.au.map bh)[(g-1).toNat]? =some (bh (g7 s (g-1))):=getD_map bh ab
  (try((repeat(revert hN;revert N;apply Pn.out));refine wk (tw @aa.eq_1 (tw @e (tw @hw (tw @jO (tw @dp @bh.eq_1))))) ?_;(repeat(refine Pn.mk ?_;intro N hN))))
  exact bG (b:=(g7 s (g-1)).dS) (.inl rfl) (sd @Nat.zero_add) (by rw[uH,if_neg hg])
theorem kH {s:aq} {a:Int} (h:gp s a=true):0<=a/\(s.ae.map aW)[a.toNat]? =some (aW (dh s a))/\dh s a∈s.ae:=by
 have h':=dO h
 have dR:a.toNat<s.ae.length:=ab
 refine⟨h'.1,getD_map aW dR,?_⟩
 unfold dh
 rw[List.getD_eq_getElem?_getD,List.getElem?_eq_getElem dR]
 exact List.getElem_mem dR
theorem kD {t:eJ} {d:Int} (h:t.bm.length=4) (hd:g9 d 0 3=true):(t.bm.map ay)[d.toNat]? =some [.int .i64 (di t d)]:=by
 have:=dO hd
 exact getD_map ay ab
theorem qz {t:eJ} {d:Int} (h:t.bm.length=4) (hd:g9 d 0 3=true):di t d∈t.bm:=by
 have:=dO hd
 have dR:d.toNat<t.bm.length:=ab
 unfold di
 rw[List.getD_eq_getElem?_getD,List.getElem?_eq_getElem dR]
 exact List.getElem_mem dR
theorem ya {d:Int} (hd:g9 d 0 3=true):g9 (rG d) 0 3=true:=by
 have:=dO hd
 refine nI ?_
 rw[rG,if_pos hd];omega
theorem EO (s:aq) (hF:fQ s) (a d b:Int) (ha:gp s a=true) (hb:gp s b=true) (hd:g9 d 0 3=true):ah Tryz.prog 152 [.de (aa s),.int .i64 a,.int .i64 d,.int .i64 b] (.int .i64 (iP s a d b)):=by
 refine ah.body dY rfl fun hl n0=>?_
 clear hl
 obtain⟨a0,a1,a2⟩:=kH ha
 obtain⟨b0,b1,b2⟩:=kH hb
 have s1:=kD (hF.nS _ a2) hd
 have s2:=kD (hF.nS _ b2) (ya hd)
 have gl:=hF.r8 _ a2 _ (qz (hF.nS _ a2) hd)
 have d0:=(dO hd).1
 have d1:=(dO (ya hd)).1
 have h:=AL d hd
 have hs:=vK s (di (dh s a) d) gl.1 gl.2
 rw[aa]at hs
 by_cases e:di (dh s a) d=di (dh s b) (rG d)
 ·have e':decide (di (dh s a) d=di (dh s b) (rG d))=true:=decide_eq_true e
  (repeat(first|((repeat(revert hN;revert N;apply Pn.out));refine wk (tw @aa.eq_1 (tw @aW.eq_1 (tw @a0 (tw @a1 (tw @b0 (tw @b1 (tw @s1 (tw @s2 (tw @d0 (tw @d1 @e')))))))))) ?_;(repeat(refine Pn.mk ?_;intro N hN)))|((try apply Or.inl);refine⟨_,ah.x (h) (sd (tw @aa.eq_1 (tw @aW.eq_1 (tw @a0 (tw @a1 (tw @b0 (tw @b1 (tw @s1 (tw @s2 (tw @d0 (tw @d1 @e'))))))))))),?_⟩;refine hN _ _ ?_;clear hN N)|((try apply Or.inl);refine⟨_,ah.x (hs) (sd (tw @aa.eq_1 (tw @aW.eq_1 (tw @a0 (tw @a1 (tw @b0 (tw @b1 (tw @s1 (tw @s2 (tw @d0 (tw @d1 @e'))))))))))),?_⟩;refine hN _ _ ?_;clear hN N)))
  exact bG (b:=uH s (di (dh s a) d)) (.inl rfl) (sd @Nat.zero_add) (by rw[iP,if_pos e])
 ·have e':decide (di (dh s a) d=di (dh s b) (rG d))=false:=decide_eq_false e
  (repeat(first|((repeat(revert hN;revert N;apply Pn.out));refine wk (tw @aa.eq_1 (tw @aW.eq_1 (tw @a0 (tw @a1 (tw @b0 (tw @b1 (tw @s1 (tw @s2 (tw @d0 (tw @d1 @e')))))))))) ?_;(repeat(refine Pn.mk ?_;intro N hN)))|((try apply Or.inl);refine⟨_,ah.x (h) (sd (tw @aa.eq_1 (tw @aW.eq_1 (tw @a0 (tw @a1 (tw @b0 (tw @b1 (tw @s1 (tw @s2 (tw @d0 (tw @d1 @e'))))))))))),?_⟩;refine hN _ _ ?_;clear hN N)))
  exact bG (b:=0) (.inl rfl) (sd @Nat.zero_add) (by rw[iP,if_neg e])
theorem Cy (s:aq) (hF:fQ s) (a d:Int) (ha:gp s a=true) (hd:g9 d 0 3=true):ah Tryz.prog 192 [.agg (aa s),.int .i64 a,.int .i64 d] (.int .i64 (uH s (di (dh s a) d))):=by
 refine ah.body dY rfl fun hl n0=>?_
 have hn:s.au.length<=9223372036854775807:=by
  have h1:=(hl (.agg (aa s)) (by simp)).IM (a:=.sl (s.au.map bh)) (by simp[aa])
  simpa using h1.len
 clear hl
 obtain⟨a0,a1,a2⟩:=kH ha
 have s1:=kD (hF.nS _ a2) hd
 have gl:=hF.r8 _ a2 _ (qz (hF.nS _ a2) hd)
 have d0:=(dO hd).1
 by_cases hg:di (dh s a) d=0
 ·have e:¬(0<di (dh s a) d):=ab
  (try((repeat(revert hN;revert N;apply Pn.out));refine wk (tw @aa.eq_1 (tw @aW.eq_1 (tw @a0 (tw @a1 (tw @s1 (tw @d0 @e)))))) ?_;(repeat(refine Pn.mk ?_;intro N hN))))
  exact bG (b:=0) (.inl rfl) (sd @Nat.zero_add) (by rw[uH,if_pos hg])
 ·have e:0<di (dh s a) d:=ab
  have hw:IntKind.i64.wrap (di (dh s a) d-1)=di (dh s a) d-1:=bd ab
  have jO:0<=di (dh s a) d-1:=ab
  have dp:(s.au.map bh)[(di (dh s a) d-1).toNat]? =some (bh (g7 s (di (dh s a) d-1))):=getD_map bh ab
  (try((repeat(revert hN;revert N;apply Pn.out));refine wk (tw @aa.eq_1 (tw @aW.eq_1 (tw @a0 (tw @a1 (tw @s1 (tw @d0 (tw @e (tw @hw (tw @jO (tw @dp @bh.eq_1)))))))))) ?_;(repeat(refine Pn.mk ?_;intro N hN))))
  exact bG (b:=(g7 s (di (dh s a) d-1)).dS) (.inl rfl) (sd @Nat.zero_add) (by rw[uH,if_neg hg])
theorem Lv (s:aq) (hF:fQ s) (a d b:Int) (ha:gp s a=true) (hb:gp s b=true) (hd:g9 d 0 3=true):ah Tryz.prog 173 [.agg (aa s),.int .i64 a,.int .i64 d,.int .i64 b] (.int .i64 (iP s a d b)):=by
 refine ah.body dY rfl fun hl n0=>?_
 clear hl
 obtain⟨a0,a1,a2⟩:=kH ha
 obtain⟨b0,b1,b2⟩:=kH hb
 have s1:=kD (hF.nS _ a2) hd
 have s2:=kD (hF.nS _ b2) (ya hd)
 have d0:=(dO hd).1
 have d1:=(dO (ya hd)).1
 have h:=Cc d hd
 have hs:=Cy s hF a d ha hd
 rw[aa]at hs
 by_cases e:di (dh s a) d=di (dh s b) (rG d)
 ·have e':decide (di (dh s a) d=di (dh s b) (rG d))=true:=decide_eq_true e
  (repeat(first|((repeat(revert hN;revert N;apply Pn.out));refine wk (tw @aa.eq_1 (tw @aW.eq_1 (tw @a0 (tw @a1 (tw @b0 (tw @b1 (tw @s1 (tw @s2 (tw @d0 (tw @d1 @e')))))))))) ?_;(repeat(refine Pn.mk ?_;intro N hN)))|((try apply Or.inl);refine⟨_,ah.x (h) (sd (tw @aa.eq_1 (tw @aW.eq_1 (tw @a0 (tw @a1 (tw @b0 (tw @b1 (tw @s1 (tw @s2 (tw @d0 (tw @d1 @e'))))))))))),?_⟩;refine hN _ _ ?_;clear hN N)|((try apply Or.inl);refine⟨_,ah.x (hs) (sd (tw @aa.eq_1 (tw @aW.eq_1 (tw @a0 (tw @a1 (tw @b0 (tw @b1 (tw @s1 (tw @s2 (tw @d0 (tw @d1 @e'))))))))))),?_⟩;refine hN _ _ ?_;clear hN N)))
  exact bG (b:=uH s (di (dh s a) d)) (.inl rfl) (sd @Nat.zero_add) (by rw[iP,if_pos e])
 ·have e':decide (di (dh s a) d=di (dh s b) (rG d))=false:=decide_eq_false e
  (repeat(first|((repeat(revert hN;revert N;apply Pn.out));refine wk (tw @aa.eq_1 (tw @aW.eq_1 (tw @a0 (tw @a1 (tw @b0 (tw @b1 (tw @s1 (tw @s2 (tw @d0 (tw @d1 @e')))))))))) ?_;(repeat(refine Pn.mk ?_;intro N hN)))|((try apply Or.inl);refine⟨_,ah.x (h) (sd (tw @aa.eq_1 (tw @aW.eq_1 (tw @a0 (tw @a1 (tw @b0 (tw @b1 (tw @s1 (tw @s2 (tw @d0 (tw @d1 @e'))))))))))),?_⟩;refine hN _ _ ?_;clear hN N)))
  exact bG (b:=0) (.inl rfl) (sd @Nat.zero_add) (by rw[iP,if_neg e])
def oJ (s:aq) (i:Nat):fc:=s.au.getD i ⟨⟨#[]⟩,0⟩
def nU (s:aq) (i:Nat):eJ:=s.ae.getD i Ca
def AJ (s:aq) (i:Nat):Prop:=jm (oJ s i).aB=true/\g9 (oJ s i).dS 1 4=true/\∀j,j<i->(oJ s j).aB≠(oJ s i).aB
def yS (s:aq) (i:Nat):Prop:=jm (nU s i).aB=true/\(nU s i).bm.length=4/\(∀j,j<i->(nU s j).aB≠(nU s i).aB)/\∀g∈(nU s i).bm,g9 g 0 s.au.length=true
structure lV (s:aq):Prop where
 r8:s.au.length<=200
 some:1<=s.ae.length
 K9:s.ae.length<=160
 Q4:∀i,i<s.au.length->AJ s i
 tok:∀i,i<s.ae.length->yS s i
noncomputable def pA (s:aq):Bool:=@decide (lV s) (Classical.propDecidable _)
theorem lN {s:aq}:pA s=true↔lV s:=by simp[pA]
theorem fe {s:aq} (h:¬lV s):false=pA s:=by simp[pA,h]
theorem Af {s:aq} (h:lV s):true=pA s:=by simp[pA,h]
theorem yp {s:aq} {i:Nat} (h:i<s.ae.length):(s.ae.map aW)[i]? =some (aW (nU s i)):=getD_map aW h
theorem xH {s:aq} {i:Nat} (h:i<s.au.length):(s.au.map bh)[i]? =some (bh (oJ s i)):=getD_map bh h
theorem lV.form {s:aq} (h:lV s):fQ s:=by
 have key:∀t∈s.ae,∃i,i<s.ae.length/\t=nU s i:=fun t ht=>by
  obtain⟨i,hi,rfl⟩:=List.getElem_of_mem ht
  exact⟨i,hi,by simp[nU,List.getD_eq_getElem?_getD,hi]⟩
 refine⟨fun t ht=>?_,fun t ht g hg=>?_⟩
 ·obtain⟨i,hi,rfl⟩:=key t ht
  exact(h.tok i hi).2.1
 ·obtain⟨i,hi,rfl⟩:=key t ht
  exact dO ((h.tok i hi).2.2.2 g hg)
def dq (l:List ByteArray):List (List AV):=l.map fun n=>[.str n,.bool true]
abbrev mS:MK:=⟨false,[.tS]⟩
theorem w5 (n:ByteArray):∀(l:List ByteArray) (i:Nat),∃r,gV mS [.str n] (dq l) i=some r/\((r=none/\n∉l)∨∃j,r=some (i+j)/\n∈l/\(dq l)[j]? =some [.str n,.bool true])
 |[],i=>⟨none,rfl,.inl ⟨rfl,by simp⟩⟩
 |m::l,i=>by
  obtain⟨r,h1,h2⟩:=w5 n l (i+1)
  by_cases h:n=m
  ·subst h
   exact⟨some i,by simp[dq,gV,e8,fZ,MK.ks],.inr ⟨0,rfl,by simp,rfl⟩⟩
  ·refine⟨r,?_,?_⟩
   ·unfold dq at h1 ⊢
    simp only[List.map_cons,gV,MK.ks,List.length_cons,List.length_nil,Nat.zero_add,List.take_succ_cons,List.take_zero,e8,fZ,h,decide_false,Bool.and_true]
    exact h1
   ·rcases h2 with⟨rfl,h2⟩|⟨j,rfl,h2,h3⟩
    ·exact .inl ⟨rfl,by simp[h,h2]⟩
    ·exact .inr ⟨j+1,by congr 1;omega,by simp[h2],by simpa[dq]using h3⟩
theorem uD (n:ByteArray) (l:List ByteArray):(n∉l/\gN mS (.str n) (dq l)=some none)∨∃j,n∈l/\gN mS (.str n) (dq l)=some (some j)/\(dq l)[j]? =some [.str n,.bool true]:=by
 obtain⟨r,h1,h2⟩:=w5 n l 0
 have e:gN mS (.str n) (dq l)=some r:=by
  unfold gN
  rw[if_pos ⟨rfl,rfl,rfl⟩];exact h1
 rcases h2 with⟨rfl,h2⟩|⟨j,rfl,h2,h3⟩
 ·exact .inl ⟨h2,e⟩
 ·exact .inr ⟨j,h2,by rw[e,Nat.zero_add],h3⟩
theorem MX (s:aq) (g:Int):ah Tryz.prog 132 [.int .i64 g,.de (aa s)] (.bool (!g9 g 0 s.au.length)):=by
 refine ah.body dY rfl fun hl n0=>?_
 clear hl
 have h:=jN g 0 s.au.length
 (repeat(first|((repeat(revert hN;revert N;apply Pn.out));refine wk @aa.eq_1 ?_;(repeat(refine Pn.mk ?_;intro N hN)))|((try apply Or.inl);refine⟨_,ah.x (h) (sd @aa.eq_1),?_⟩;refine hN _ _ ?_;clear hN N)))
 exact aO (b:= !g9 g 0 s.au.length) (.inl rfl) (sd @Nat.zero_add) rfl
theorem I5:N3 ay (fun c=>.int .i64 c) 1 false:=⟨fun _=>rfl,fun _=>rfl,fun x g=>by rw[ad,aH,aj];rfl⟩
theorem Kg (s:aq) (l:List Int) (hl:l.length<=1048576):ah Tryz.prog 131 [.sl (l.map ay),.fn 132 [.de (aa s)]] (.bool (l.any fun g=> !g9 g 0 s.au.length)):=
 nw I5 (show l5 Tryz.prog 131=some (Bu 131 159) by kernel_rfl)
  (show l5 Tryz.prog 159=some (tW 159 1 false) by kernel_rfl) l hl _ _ _ rfl (fun g=>by rw[ad,aY,aj];rfl) (fun x _=>MX s x) fun g=>by rw[ad,aY,aj];rfl
theorem uk {α:Type} (f:Nat->α) (n k:Nat) (x:α):x∉(List.range k).map f↔∀j,j<k->f j≠x:=by
 constructor
 ·intro h j hj he
  exact h (List.mem_map.2 ⟨j,List.mem_range.2 hj,he⟩)
 ·intro h hm
  obtain⟨j,hj,he⟩:=List.mem_map.1 hm
  exact h j (List.mem_range.1 hj) he
theorem AN (s:aq) (hn:eX s) (hg:s.au.length<=1048576) (ht:s.ae.length<=1048576) (hs:∀t∈s.ae,t.bm.length<=1048576):ah Tryz.prog 98 [.agg (aa s)] (.bool (pA s)):=by
 refine ah.body dY rfl fun hl n0=>?_
 clear hl
 have OR:∀i,i<s.au.length->(oJ s i).aB.size<=9223372036854775807:=fun i hi=>hn.1 _ (by simp[oJ,List.getD_eq_getElem?_getD,hi])
 have R6:∀i,i<s.ae.length->(nU s i).aB.size<=9223372036854775807:=fun i hi=>hn.2 _ (by simp[nU,List.getD_eq_getElem?_getD,hi])
 have vH:∀i,i<s.ae.length->(nU s i).bm.length<=1048576:=fun i hi=>hs _ (by simp[nU,List.getD_eq_getElem?_getD,hi])
 have hw:=jN (s.ae.length:Int) 1 160
 by_cases h1:(200:Int)<(s.au.length:Int)
 ·(try((repeat(revert hN;revert N;apply Pn.out));refine wk (tw @aa.eq_1 @h1) ?_;(repeat(refine Pn.mk ?_;intro N hN))))
  exact aO (b:=false) (.inl rfl) (sd @Nat.zero_add) (fe fun h=>by have:=h.r8;omega)
 by_cases h2:g9 (s.ae.length:Int) 1 160=true
 ·have Aw:=dO h2
  rw[h2]at hw
  (repeat(first|((repeat(revert hN;revert N;apply Pn.out));refine wk (tw @aa.eq_1 @h1) ?_;(repeat(refine Pn.mk ?_;intro N hN)))|((try apply Or.inl);refine⟨_,ah.x (hw) (sd (tw @aa.eq_1 @h1)),?_⟩;refine hN _ _ ?_;clear hN N)))
  refine aT (fun n env st=>∃k:Nat,n=(s.au.length)-k/\k<=(s.au.length)/\env 24=.int .i64 (k:Int)/\st.get ⟨98000000,n0⟩=some ⟨true,2,[aa s]⟩/\st.get ⟨98003000,n0+1+1⟩=some ⟨true,mS.Co,dq ((List.range k).map fun i=>(oJ s i).aB)⟩/\(∀j:Nat,j<k->AJ s j)) (s.au.length) ⟨0,ab,ab,by(try simp only[go_sem, ↓reduceIte,Nat.reduceEqDiff,Nat.reduceAdd,Nat.reduceSub,Nat.reduceLeDiff,reduceCtorEq,aa,List.range_zero,List.map_nil,dq]);try rfl,by(try simp only[go_sem, ↓reduceIte,Nat.reduceEqDiff,Nat.reduceAdd,Nat.reduceSub,Nat.reduceLeDiff,reduceCtorEq,aa,List.range_zero,List.map_nil,dq]);try rfl,by(try simp only[go_sem, ↓reduceIte,Nat.reduceEqDiff,Nat.reduceAdd,Nat.reduceSub,Nat.reduceLeDiff,reduceCtorEq,aa,List.range_zero,List.map_nil,dq]);try rfl,fun _ h=>absurd h (Nat.not_lt_zero _)⟩ ?_
  rintro n_a env_a st_a ⟨k,rfl,ale,a24,ag0,ag1,kZ⟩ dE
  have a1:=dE 1 (by kernel_rfl);have a3:=dE 3 (by kernel_rfl);have yU:=dE 22 (by kernel_rfl);have yV:=dE 23 (by kernel_rfl)
  simp only[go_sem, ↓reduceIte,Nat.reduceEqDiff,Nat.reduceAdd,Nat.reduceSub,Nat.reduceLeDiff,reduceCtorEq,aa,List.range_zero,List.map_nil,dq]at a1 a3 yU yV
  clear dE
  by_cases hk:(k:Int)<(s.au.length:Int)
  ·have bW:∀{e:Env} {gg:Rows},(e 24=.int .i64 (IntKind.i64.wrap ((k:Int)+1)))->(gg ⟨98000000,n0⟩=some ⟨true,2,[aa s]⟩)->(gg ⟨98003000,n0+1+1⟩=some ⟨true,mS.Co,dq ((List.range (k+1)).map fun i=>(oJ s i).aB)⟩)->(AJ s k)->∃m0,m0<(s.au.length)-k/\∃k:Nat,m0=(s.au.length)-k/\k<=(s.au.length)/\e 24=.int .i64 (k:Int)/\gg ⟨98000000,n0⟩=some ⟨true,2,[aa s]⟩/\gg ⟨98003000,n0+1+1⟩=some ⟨true,mS.Co,dq ((List.range k).map fun i=>(oJ s i).aB)⟩/\(∀j:Nat,j<k->AJ s j):=fun x1 x2 x3 x4=>⟨_,ab,k+1,rfl,ab,(by rw[x1,aA ab]),x2,x3,(all_succ kZ x4)⟩
   have fw:k<s.au.length:=ab
   have eO:=xH fw
   have qO:=Dp (oJ s k).aB (OR k fw)
   have IE:=jN (oJ s k).dS 1 4
   have zH:=uD (oJ s k).aB ((List.range k).map fun i=>(oJ s i).aB)
   rw[uk _ k]at zH
   have gR:(¬AJ s k)->¬lV s:=fun h hp=>h (hp.Q4 k fw)
   generalize s7:oJ s k=gl at *
   cases hb:jm gl.aB
   ·rw[hb]at qO
    (repeat(first|((repeat(revert hN;revert N;apply Pn.out));refine wk (tw @a24 (tw @ag0 (tw @ag1 (tw @a1 (tw @a3 (tw @yU (tw @yV (tw @hk (tw @eO (tw @bh.eq_1 @aa.eq_1)))))))))) ?_;(repeat(refine Pn.mk ?_;intro N hN)))|((try apply Or.inl);refine⟨_,ah.x (qO) (sd (tw @a24 (tw @ag0 (tw @ag1 (tw @a1 (tw @a3 (tw @yU (tw @yV (tw @hk (tw @eO (tw @bh.eq_1 @aa.eq_1))))))))))),?_⟩;refine hN _ _ ?_;clear hN N)))
    exact aO (b:=false) (.inl rfl) (sd @Nat.zero_add) (fe (gR fun h=>by rw[AJ,s7,hb]at h;cases h.1))
   ·rw[hb]at qO
    rcases zH with⟨Bz,lk⟩|⟨j,fJ,lk,fa⟩
    ·cases eB:g9 gl.dS 1 4
     ·rw[eB]at IE
      (repeat(first|((repeat(revert hN;revert N;apply Pn.out));refine wk (tw @a24 (tw @ag0 (tw @ag1 (tw @a1 (tw @a3 (tw @yU (tw @yV (tw @hk (tw @eO (tw @lk (tw @bh.eq_1 @aa.eq_1))))))))))) ?_;(repeat(refine Pn.mk ?_;intro N hN)))|((try apply Or.inl);refine⟨_,ah.x (qO) (sd (tw @a24 (tw @ag0 (tw @ag1 (tw @a1 (tw @a3 (tw @yU (tw @yV (tw @hk (tw @eO (tw @lk (tw @bh.eq_1 @aa.eq_1)))))))))))),?_⟩;refine hN _ _ ?_;clear hN N)|((try apply Or.inl);refine⟨_,ah.x (IE) (sd (tw @a24 (tw @ag0 (tw @ag1 (tw @a1 (tw @a3 (tw @yU (tw @yV (tw @hk (tw @eO (tw @lk (tw @bh.eq_1 @aa.eq_1)))))))))))),?_⟩;refine hN _ _ ?_;clear hN N)))
      exact aO (b:=false) (.inl rfl) (sd @Nat.zero_add) (fe (gR fun h=>by rw[AJ,s7,eB]at h;cases h.2.1))
     ·rw[eB]at IE
      have vD:dq ((List.range k).map fun i=>(oJ s i).aB)++[[.str gl.aB,.bool true]]=dq (List.map (fun i=>(oJ s i).aB) (List.range k++[k])):=by simp[dq,s7]
      (repeat(first|((repeat(revert hN;revert N;apply Pn.out));refine wk (tw @a24 (tw @ag0 (tw @ag1 (tw @a1 (tw @a3 (tw @yU (tw @yV (tw @hk (tw @eO (tw @lk (tw @bh.eq_1 @aa.eq_1))))))))))) ?_;(repeat(refine Pn.mk ?_;intro N hN)))|((try apply Or.inl);refine⟨_,ah.x (qO) (sd (tw @a24 (tw @ag0 (tw @ag1 (tw @a1 (tw @a3 (tw @yU (tw @yV (tw @hk (tw @eO (tw @lk (tw @bh.eq_1 @aa.eq_1)))))))))))),?_⟩;refine hN _ _ ?_;clear hN N)|((try apply Or.inl);refine⟨_,ah.x (IE) (sd (tw @a24 (tw @ag0 (tw @ag1 (tw @a1 (tw @a3 (tw @yU (tw @yV (tw @hk (tw @eO (tw @lk (tw @bh.eq_1 @aa.eq_1)))))))))))),?_⟩;refine hN _ _ ?_;clear hN N)))
      refine bW ?_ ?_ ?_ (⟨by rw[s7];exact hb,by rw[s7];exact eB,fun j hj=>by rw[s7];exact Bz j hj⟩)
      all_goals simp only[go_sem, ↓reduceIte,Nat.reduceEqDiff,Nat.reduceAdd,Nat.reduceSub,Nat.reduceLeDiff,reduceCtorEq,a24,ag0,ag1,a1,a3,yU,yV,lk,vD]
    ·(repeat(first|((repeat(revert hN;revert N;apply Pn.out));refine wk (tw @a24 (tw @ag0 (tw @ag1 (tw @a1 (tw @a3 (tw @yU (tw @yV (tw @hk (tw @eO (tw @lk (tw @fa (tw @bh.eq_1 @aa.eq_1)))))))))))) ?_;(repeat(refine Pn.mk ?_;intro N hN)))|((try apply Or.inl);refine⟨_,ah.x (qO) (sd (tw @a24 (tw @ag0 (tw @ag1 (tw @a1 (tw @a3 (tw @yU (tw @yV (tw @hk (tw @eO (tw @lk (tw @fa (tw @bh.eq_1 @aa.eq_1))))))))))))),?_⟩;refine hN _ _ ?_;clear hN N)))
     exact aO (b:=false) (.inl rfl) (sd @Nat.zero_add) (fe (gR fun h=>by
      rw[AJ,s7]at h
      obtain⟨i,hi,he⟩:=List.mem_map.1 fJ
      exact h.2.2 i (List.mem_range.1 hi) he))
  ·have lS:k=s.au.length:=ab
   (try((repeat(revert hN;revert N;apply Pn.out));refine wk (tw @a24 (tw @ag0 (tw @ag1 (tw @a1 (tw @a3 (tw @yU (tw @yV (tw @hk @aa.eq_1)))))))) ?_;(repeat(refine Pn.mk ?_;intro N hN))))
   refine aT (fun n env st=>∃j:Nat,n=(s.ae.length)-j/\j<=(s.ae.length)/\env 52=.int .i64 (j:Int)/\st.get ⟨98000000,n0⟩=some ⟨true,2,[aa s]⟩/\st.get ⟨98011000,st_a.next+1⟩=some ⟨true,mS.Co,dq ((List.range j).map fun i=>(nU s i).aB)⟩/\(∀i:Nat,i<j->yS s i)/\(st_a.next<st.next)) (s.ae.length) ⟨0,ab,ab,by(try simp only[go_sem, ↓reduceIte,Nat.reduceEqDiff,Nat.reduceAdd,Nat.reduceSub,Nat.reduceLeDiff,reduceCtorEq,a24,ag0,ag1,a1,a3,yU,yV,aa,List.range_zero,List.map_nil,dq]);try rfl,by(try simp only[go_sem, ↓reduceIte,Nat.reduceEqDiff,Nat.reduceAdd,Nat.reduceSub,Nat.reduceLeDiff,reduceCtorEq,a24,ag0,ag1,a1,a3,yU,yV,aa,List.range_zero,List.map_nil,dq]);try rfl,by(try simp only[go_sem, ↓reduceIte,Nat.reduceEqDiff,Nat.reduceAdd,Nat.reduceSub,Nat.reduceLeDiff,reduceCtorEq,a24,ag0,ag1,a1,a3,yU,yV,aa,List.range_zero,List.map_nil,dq]);try rfl,fun _ h=>absurd h (Nat.not_lt_zero _),bw⟩ ?_
   rintro n_b env_b st_b ⟨j,rfl,ble,b52,bg0,bg1,bA0,bI0⟩ bfr
   have b1:=bfr 1 (by kernel_rfl);have b6:=bfr 6 (by kernel_rfl);have AP:=bfr 50 (by kernel_rfl);have AQ:=bfr 51 (by kernel_rfl)
   simp only[go_sem, ↓reduceIte,Nat.reduceEqDiff,Nat.reduceAdd,Nat.reduceSub,Nat.reduceLeDiff,reduceCtorEq,a24,ag0,ag1,a1,a3,yU,yV,aa,List.range_zero,List.map_nil,dq]at b1 b6 AP AQ
   clear bfr
   by_cases hj:(j:Int)<(s.ae.length:Int)
   ·have jX:∀{e:Env} {gg:Rows} {nx:Nat},(e 52=.int .i64 (IntKind.i64.wrap ((j:Int)+1)))->(gg ⟨98000000,n0⟩=some ⟨true,2,[aa s]⟩)->(gg ⟨98011000,st_a.next+1⟩=some ⟨true,mS.Co,dq ((List.range (j+1)).map fun i=>(nU s i).aB)⟩)->(yS s j)->(st_a.next<nx)->∃m0,m0<(s.ae.length)-j/\∃j:Nat,m0=(s.ae.length)-j/\j<=(s.ae.length)/\e 52=.int .i64 (j:Int)/\gg ⟨98000000,n0⟩=some ⟨true,2,[aa s]⟩/\gg ⟨98011000,st_a.next+1⟩=some ⟨true,mS.Co,dq ((List.range j).map fun i=>(nU s i).aB)⟩/\(∀i:Nat,i<j->yS s i)/\(st_a.next<nx):=fun x1 x2 x3 x4 x5=>⟨_,ab,j+1,rfl,ab,(by rw[x1,aA ab]),x2,x3,(all_succ bA0 x4),x5⟩
    have gw:j<s.ae.length:=ab
    have pg:=yp gw
    have qO:=Dp (nU s j).aB (R6 j gw)
    have Qy:=Kg s (nU s j).bm (vH j gw)
    have zH:=uD (nU s j).aB ((List.range j).map fun i=>(nU s i).aB)
    rw[uk _ j]at zH
    have gR:(¬yS s j)->¬lV s:=fun h hp=>h (hp.tok j gw)
    have gU:(⟨98011000,st_a.next+1⟩:Id)≠⟨98000000,n0⟩:=by simp
    generalize htd:nU s j=tl at *
    cases hb:jm tl.aB
    ·rw[hb]at qO
     (repeat(first|((repeat(revert hN;revert N;apply Pn.out));refine wk (tw @b52 (tw @bg0 (tw @bg1 (tw @b1 (tw @b6 (tw @AP (tw @AQ (tw @hj (tw @pg (tw @aW.eq_1 @aa.eq_1)))))))))) ?_;(repeat(refine Pn.mk ?_;intro N hN)))|((try apply Or.inl);refine⟨_,ah.x (qO) (sd (tw @b52 (tw @bg0 (tw @bg1 (tw @b1 (tw @b6 (tw @AP (tw @AQ (tw @hj (tw @pg (tw @aW.eq_1 @aa.eq_1))))))))))),?_⟩;refine hN _ _ ?_;clear hN N)))
     exact aO (b:=false) (.inl rfl) (sd @Nat.zero_add) (fe (gR fun h=>by rw[yS,htd,hb]at h;cases h.1))
    ·rw[hb]at qO
     rcases zH with⟨Bz,lk⟩|⟨i,fJ,lk,fa⟩
     ·by_cases h4:(tl.bm.length:Int)=4
      ·have xJ:decide ((tl.bm.length:Int)=4)=true:=decide_eq_true h4
       cases hany:tl.bm.any fun g=> !g9 g 0 s.au.length
       ·rw[hany]at Qy
        have vD:dq ((List.range j).map fun i=>(nU s i).aB)++[[.str tl.aB,.bool true]]=dq (List.map (fun i=>(nU s i).aB) (List.range j++[j])):=by simp[dq,htd]
        (repeat(first|((repeat(revert hN;revert N;apply Pn.out));refine wk (tw @b52 (tw @bg0 (tw @bg1 (tw @b1 (tw @b6 (tw @AP (tw @AQ (tw @hj (tw @pg (tw @lk (tw @xJ (tw @aW.eq_1 @aa.eq_1)))))))))))) ?_;(repeat(refine Pn.mk ?_;intro N hN)))|((try apply Or.inl);refine⟨_,ah.x (qO) (sd (tw @b52 (tw @bg0 (tw @bg1 (tw @b1 (tw @b6 (tw @AP (tw @AQ (tw @hj (tw @pg (tw @lk (tw @xJ (tw @aW.eq_1 @aa.eq_1))))))))))))),?_⟩;refine hN _ _ ?_;clear hN N)|((try apply Or.inl);refine⟨_,ah.x (Qy) (sd (tw @b52 (tw @bg0 (tw @bg1 (tw @b1 (tw @b6 (tw @AP (tw @AQ (tw @hj (tw @pg (tw @lk (tw @xJ (tw @aW.eq_1 @aa.eq_1))))))))))))),?_⟩;refine hN _ _ ?_;clear hN N)))
        refine jX ?_ ?_ ?_ (⟨by rw[htd];exact hb,by rw[htd];omega,fun i hi=>(by rw[htd];exact Bz i hi),fun g hg=>by rw[htd]at hg;have:=List.any_eq_false.1 hany g hg;simpa using this⟩) bw
        all_goals simp only[go_sem, ↓reduceIte,Nat.reduceEqDiff,Nat.reduceAdd,Nat.reduceSub,Nat.reduceLeDiff,reduceCtorEq,b52,bg0,bg1,b1,b6,AP,AQ,lk,vD]
       ·rw[hany]at Qy
        (repeat(first|((repeat(revert hN;revert N;apply Pn.out));refine wk (tw @b52 (tw @bg0 (tw @bg1 (tw @b1 (tw @b6 (tw @AP (tw @AQ (tw @hj (tw @pg (tw @lk (tw @xJ (tw @aW.eq_1 @aa.eq_1)))))))))))) ?_;(repeat(refine Pn.mk ?_;intro N hN)))|((try apply Or.inl);refine⟨_,ah.x (qO) (sd (tw @b52 (tw @bg0 (tw @bg1 (tw @b1 (tw @b6 (tw @AP (tw @AQ (tw @hj (tw @pg (tw @lk (tw @xJ (tw @aW.eq_1 @aa.eq_1))))))))))))),?_⟩;refine hN _ _ ?_;clear hN N)|((try apply Or.inl);refine⟨_,ah.x (Qy) (sd (tw @b52 (tw @bg0 (tw @bg1 (tw @b1 (tw @b6 (tw @AP (tw @AQ (tw @hj (tw @pg (tw @lk (tw @xJ (tw @aW.eq_1 @aa.eq_1))))))))))))),?_⟩;refine hN _ _ ?_;clear hN N)))
        exact aO (b:=false) (.inl rfl) (sd @Nat.zero_add) (fe (gR fun h=>by
         rw[yS,htd]at h
         obtain⟨g,hg,hq⟩:=List.any_eq_true.1 hany
         have:=h.2.2.2 g hg
         rw[this]at hq;cases hq))
      ·have xJ:decide ((tl.bm.length:Int)=4)=false:=decide_eq_false h4
       (repeat(first|((repeat(revert hN;revert N;apply Pn.out));refine wk (tw @b52 (tw @bg0 (tw @bg1 (tw @b1 (tw @b6 (tw @AP (tw @AQ (tw @hj (tw @pg (tw @lk (tw @xJ (tw @aW.eq_1 @aa.eq_1)))))))))))) ?_;(repeat(refine Pn.mk ?_;intro N hN)))|((try apply Or.inl);refine⟨_,ah.x (qO) (sd (tw @b52 (tw @bg0 (tw @bg1 (tw @b1 (tw @b6 (tw @AP (tw @AQ (tw @hj (tw @pg (tw @lk (tw @xJ (tw @aW.eq_1 @aa.eq_1))))))))))))),?_⟩;refine hN _ _ ?_;clear hN N)))
       exact aO (b:=false) (.inl rfl) (sd @Nat.zero_add) (fe (gR fun h=>by rw[yS,htd]at h;have:=h.2.1;omega))
     ·(repeat(first|((repeat(revert hN;revert N;apply Pn.out));refine wk (tw @b52 (tw @bg0 (tw @bg1 (tw @b1 (tw @b6 (tw @AP (tw @AQ (tw @hj (tw @pg (tw @lk (tw @fa (tw @aW.eq_1 @aa.eq_1)))))))))))) ?_;(repeat(refine Pn.mk ?_;intro N hN)))|((try apply Or.inl);refine⟨_,ah.x (qO) (sd (tw @b52 (tw @bg0 (tw @bg1 (tw @b1 (tw @b6 (tw @AP (tw @AQ (tw @hj (tw @pg (tw @lk (tw @fa (tw @aW.eq_1 @aa.eq_1))))))))))))),?_⟩;refine hN _ _ ?_;clear hN N)))
      exact aO (b:=false) (.inl rfl) (sd @Nat.zero_add) (fe (gR fun h=>by
       rw[yS,htd]at h
       obtain⟨i,hi,he⟩:=List.mem_map.1 fJ
       exact h.2.2.1 i (List.mem_range.1 hi) he))
   ·(try((repeat(revert hN;revert N;apply Pn.out));refine wk (tw @b52 (tw @bg0 (tw @bg1 (tw @b1 (tw @b6 (tw @AP (tw @AQ (tw @hj @aa.eq_1)))))))) ?_;(repeat(refine Pn.mk ?_;intro N hN))))
    exact aO (b:=true) (.inl rfl) (sd @Nat.zero_add) (Af ⟨ab,ab,ab,fun i hi=>kZ i ab,fun i hi=>bA0 i ab⟩)
 ·rw[Bool.not_eq_true]at h2
  rw[h2]at hw
  (repeat(first|((repeat(revert hN;revert N;apply Pn.out));refine wk (tw @aa.eq_1 @h1) ?_;(repeat(refine Pn.mk ?_;intro N hN)))|((try apply Or.inl);refine⟨_,ah.x (hw) (sd (tw @aa.eq_1 @h1)),?_⟩;refine hN _ _ ?_;clear hN N)))
  exact aO (b:=false) (.inl rfl) (sd @Nat.zero_add) (fe fun h=>by
   have h3:=h.some
   have h4:=h.K9
   rw[nI ⟨ab,ab⟩]at h2;cases h2)
theorem sY {α:Type} {p:α->Bool} {xs:List α} {k:Nat} (hk:k<xs.length) (h1:p xs[k]=true) (h2:∀j (h:j<xs.length),j<k->p xs[j]=false):jR p xs=k:=by
 have:xs.findIdx p=k:=by rw[List.findIdx_eq hk];exact⟨h1,fun j hj=>h2 j ab hj⟩
 rw[jR,this,if_pos hk]
theorem wi {α:Type} {p:α->Bool} {xs:List α} (h:∀j (h:j<xs.length),p xs[j]=false):jR p xs= -1:=by
 rw[jR,if_neg]
 rw[List.findIdx_lt_length]
 rintro⟨x,hx,Mn⟩
 obtain⟨j,hj,rfl⟩:=List.getElem_of_mem hx
 rw[h j hj]at Mn;cases Mn
theorem xG {s:aq} {i:Nat} (h:i<s.au.length):oJ s i=s.au[i]:=by simp[oJ,List.getD_eq_getElem?_getD,h]
theorem yn {s:aq} {i:Nat} (h:i<s.ae.length):nU s i=s.ae[i]:=by simp[nU,List.getD_eq_getElem?_getD,h]
def Ik (s:aq) (n:ByteArray):Int:=jR (fun g:fc=>decide (g.aB=n)) s.au
def K8 (s:aq) (n:ByteArray):Int:=jR (fun t:eJ=>decide (t.aB=n)) s.ae
theorem EP (s:aq) (nm:ByteArray):ah Tryz.prog 120 [.de (aa s),.str nm] (.int .i64 (Ik s nm+1)):=by
 refine ah.body dY rfl fun hl n0=>?_
 have hlen:s.au.length<=9223372036854775807:=by
  have h1:=(hl (.de (aa s)) (by simp)).wL (a:=.sl (s.au.map bh)) (by simp[aa])
  simpa using h1.len
 clear hl
 (try((repeat(revert hN;revert N;apply Pn.out));refine wk @aa.eq_1 ?_;(repeat(refine Pn.mk ?_;intro N hN))))
 refine aT (fun n env st=>∃k:Nat,n=(s.au.length)-k/\k<=(s.au.length)/\env 5=.int .i64 (k:Int)/\(∀j:Nat,j<k->∀h:j<s.au.length,decide (s.au[j].aB=nm)=false)) (s.au.length) ⟨0,ab,ab,sl @aa.eq_1,fun _ h=>absurd h (Nat.not_lt_zero _)⟩ ?_
 rintro n_a env_a st_a ⟨k,rfl,ale,a5,kZ⟩ dE
 have a0:=dE 0 (by kernel_rfl);have a1:=dE 1 (by kernel_rfl)
 simp only[go_sem, ↓reduceIte,Nat.reduceEqDiff,Nat.reduceAdd,Nat.reduceSub,Nat.reduceLeDiff,reduceCtorEq,aa]at a0 a1
 clear dE
 by_cases hk:(k:Int)<(s.au.length:Int)
 ·have bW:∀{e:Env},(e 5=.int .i64 (IntKind.i64.wrap ((k:Int)+1)))->(∀h:k<s.au.length,decide (s.au[k].aB=nm)=false)->∃m0,m0<(s.au.length)-k/\∃k:Nat,m0=(s.au.length)-k/\k<=(s.au.length)/\e 5=.int .i64 (k:Int)/\(∀j:Nat,j<k->∀h:j<s.au.length,decide (s.au[j].aB=nm)=false):=fun x1 x2=>⟨_,ab,k+1,rfl,ab,(by rw[x1,aA ab]),(all_succ kZ x2)⟩
  have fw:k<s.au.length:=ab
  have eO:=xH fw
  have e:=xG fw
  cases hd:decide ((oJ s k).aB=nm)
  ·have Qh:=of_decide_eq_false hd
   (try((repeat(revert hN;revert N;apply Pn.out));refine wk (tw @a5 (tw @a0 (tw @a1 (tw @hk (tw @eO (tw @Qh (tw @hd (tw @bh.eq_1 @aa.eq_1)))))))) ?_;(repeat(refine Pn.mk ?_;intro N hN))))
   exact bW (sd (tw @a5 (tw @a0 @a1))) (fun _=>by rw[e]at hd;exact hd)
  ·have Qh:=of_decide_eq_true hd
   have hw:IntKind.i64.wrap ((k:Int)+1)=(k:Int)+1:=bd ab
   (try((repeat(revert hN;revert N;apply Pn.out));refine wk (tw @a5 (tw @a0 (tw @a1 (tw @hk (tw @eO (tw @hd (tw @hw (tw @bh.eq_1 @aa.eq_1)))))))) ?_;(repeat(refine Pn.mk ?_;intro N hN))))
   exact bG (b:=(k:Int)+1) (.inl rfl) (sd @Nat.zero_add) (by rw[Ik,sY fw (by rw[e]at hd;exact hd) fun j h hj=>kZ j hj h])
 ·(try((repeat(revert hN;revert N;apply Pn.out));refine wk (tw @a5 (tw @a0 (tw @a1 (tw @hk @aa.eq_1)))) ?_;(repeat(refine Pn.mk ?_;intro N hN))))
  exact bG (b:=0) (.inl rfl) (sd @Nat.zero_add) (by rw[Ik,wi fun j h=>kZ j ab h];rfl)
theorem ER (s:aq) (nm:ByteArray):ah Tryz.prog 121 [.de (aa s),.str nm] (.int .i64 (K8 s nm)):=by
 refine ah.body dY rfl fun hl n0=>?_
 have hlen:s.ae.length<=9223372036854775807:=by
  have h1:=(hl (.de (aa s)) (by simp)).wL (a:=.sl (s.ae.map aW)) (by simp[aa])
  simpa using h1.len
 clear hl
 (try((repeat(revert hN;revert N;apply Pn.out));refine wk @aa.eq_1 ?_;(repeat(refine Pn.mk ?_;intro N hN))))
 refine aT (fun n env st=>∃k:Nat,n=(s.ae.length)-k/\k<=(s.ae.length)/\env 5=.int .i64 (k:Int)/\(∀j:Nat,j<k->∀h:j<s.ae.length,decide (s.ae[j].aB=nm)=false)) (s.ae.length) ⟨0,ab,ab,sl @aa.eq_1,fun _ h=>absurd h (Nat.not_lt_zero _)⟩ ?_
 rintro n_a env_a st_a ⟨k,rfl,ale,a5,kZ⟩ dE
 have a0:=dE 0 (by kernel_rfl);have a1:=dE 1 (by kernel_rfl)
 simp only[go_sem, ↓reduceIte,Nat.reduceEqDiff,Nat.reduceAdd,Nat.reduceSub,Nat.reduceLeDiff,reduceCtorEq,aa]at a0 a1
 clear dE
 by_cases hk:(k:Int)<(s.ae.length:Int)
 ·have bW:∀{e:Env},(e 5=.int .i64 (IntKind.i64.wrap ((k:Int)+1)))->(∀h:k<s.ae.length,decide (s.ae[k].aB=nm)=false)->∃m0,m0<(s.ae.length)-k/\∃k:Nat,m0=(s.ae.length)-k/\k<=(s.ae.length)/\e 5=.int .i64 (k:Int)/\(∀j:Nat,j<k->∀h:j<s.ae.length,decide (s.ae[j].aB=nm)=false):=fun x1 x2=>⟨_,ab,k+1,rfl,ab,(by rw[x1,aA ab]),(all_succ kZ x2)⟩
  have fw:k<s.ae.length:=ab
  have eO:=yp fw
  have e:=yn fw
  cases hd:decide ((nU s k).aB=nm)
  ·(try((repeat(revert hN;revert N;apply Pn.out));refine wk (tw @a5 (tw @a0 (tw @a1 (tw @hk (tw @eO (tw @hd (tw @aW.eq_1 @aa.eq_1))))))) ?_;(repeat(refine Pn.mk ?_;intro N hN))))
   exact bW (sd (tw @a5 (tw @a0 @a1))) (fun _=>by rw[e]at hd;exact hd)
  ·(try((repeat(revert hN;revert N;apply Pn.out));refine wk (tw @a5 (tw @a0 (tw @a1 (tw @hk (tw @eO (tw @hd (tw @aW.eq_1 @aa.eq_1))))))) ?_;(repeat(refine Pn.mk ?_;intro N hN))))
   exact bG (b:=(k:Int)) (.inl rfl) (sd @Nat.zero_add) (by rw[K8,sY fw (by rw[e]at hd;exact hd) fun j h hj=>kZ j hj h])
 ·(try((repeat(revert hN;revert N;apply Pn.out));refine wk (tw @a5 (tw @a0 (tw @a1 (tw @hk @aa.eq_1)))) ?_;(repeat(refine Pn.mk ?_;intro N hN))))
  exact bG (b:=-1) (.inl rfl) (sd @Nat.zero_add) (by rw[K8,wi fun j h=>kZ j ab h])
theorem LQ {s:aq} {i:Nat} (h:i<s.au.length):Ik s (oJ s i).aB=i↔∀j,j<i->(oJ s j).aB≠(oJ s i).aB:=by
 constructor
 ·intro he j hj hc
  have gG:j<s.au.length:=ab
  have:s.au.findIdx (fun g:fc=>decide (g.aB=(oJ s i).aB))<=j:=by
   rcases Nat.lt_or_ge j (s.au.findIdx fun g:fc=>decide (g.aB=(oJ s i).aB))with dR|jO
   ·have:=List.not_of_lt_findIdx dR
    rw[<-xG gG]at this
    simp[hc]at this
   ·exact jO
  unfold Ik jR at he
  split at he<;>omega
 ·intro hd
  exact sY h (by rw[<-xG h];simp) fun j gG hj=>by rw[<-xG gG];simpa using hd j hj
theorem M1 {s:aq} {i:Nat} (h:i<s.ae.length):K8 s (nU s i).aB=i↔∀j,j<i->(nU s j).aB≠(nU s i).aB:=by
 constructor
 ·intro he j hj hc
  have gG:j<s.ae.length:=ab
  have:s.ae.findIdx (fun g:eJ=>decide (g.aB=(nU s i).aB))<=j:=by
   rcases Nat.lt_or_ge j (s.ae.findIdx fun g:eJ=>decide (g.aB=(nU s i).aB))with dR|jO
   ·have:=List.not_of_lt_findIdx dR
    rw[<-yn gG]at this
    simp[hc]at this
   ·exact jO
  unfold K8 jR at he
  split at he<;>omega
 ·intro hd
  exact sY h (by rw[<-yn h];simp) fun j gG hj=>by rw[<-yn gG];simpa using hd j hj
theorem JG (s:aq) (hn:eX s) (hg:s.au.length<=1048576) (ht:s.ae.length<=1048576):ah Tryz.prog 88 [.de (aa s)] (.bool (pA s)):=by
 refine ah.body dY rfl fun hl n0=>?_
 clear hl
 have OR:∀i,i<s.au.length->(oJ s i).aB.size<=9223372036854775807:=fun i hi=>hn.1 _ (by simp[oJ,List.getD_eq_getElem?_getD,hi])
 have R6:∀i,i<s.ae.length->(nU s i).aB.size<=9223372036854775807:=fun i hi=>hn.2 _ (by simp[nU,List.getD_eq_getElem?_getD,hi])
 by_cases h1:(200:Int)<(s.au.length:Int)
 ·(try((repeat(revert hN;revert N;apply Pn.out));refine wk (tw @aa.eq_1 @h1) ?_;(repeat(refine Pn.mk ?_;intro N hN))))
  exact aO (b:=false) (.inl rfl) (sd @Nat.zero_add) (fe fun h=>by have:=h.r8;omega)
 by_cases h2:(s.ae.length:Int)<1
 ·(try((repeat(revert hN;revert N;apply Pn.out));refine wk (tw @aa.eq_1 (tw @h1 @h2)) ?_;(repeat(refine Pn.mk ?_;intro N hN))))
  exact aO (b:=false) (.inl rfl) (sd @Nat.zero_add) (fe fun h=>by have:=h.some;omega)
 by_cases h3:(160:Int)<(s.ae.length:Int)
 ·(try((repeat(revert hN;revert N;apply Pn.out));refine wk (tw @aa.eq_1 (tw @h1 (tw @h2 @h3))) ?_;(repeat(refine Pn.mk ?_;intro N hN))))
  exact aO (b:=false) (.inl rfl) (sd @Nat.zero_add) (fe fun h=>by have:=h.K9;omega)
 (try((repeat(revert hN;revert N;apply Pn.out));refine wk (tw @aa.eq_1 (tw @h1 (tw @h2 @h3))) ?_;(repeat(refine Pn.mk ?_;intro N hN))))
 refine aT (fun n env st=>∃k:Nat,n=(s.au.length)-k/\k<=(s.au.length)/\env 3=.int .i64 (k:Int)/\(∀j:Nat,j<k->AJ s j)) (s.au.length) ⟨0,ab,ab,sl @aa.eq_1,fun _ h=>absurd h (Nat.not_lt_zero _)⟩ ?_
 rintro n_a env_a st_a ⟨k,rfl,ale,a3,kZ⟩ dE
 have a0:=dE 0 (by kernel_rfl)
 simp only[go_sem, ↓reduceIte,Nat.reduceEqDiff,Nat.reduceAdd,Nat.reduceSub,Nat.reduceLeDiff,reduceCtorEq,aa]at a0
 clear dE
 by_cases hk:(k:Int)<(s.au.length:Int)
 ·have bW:∀{e:Env},(e 3=.int .i64 (IntKind.i64.wrap ((k:Int)+1)))->(AJ s k)->∃m0,m0<(s.au.length)-k/\∃k:Nat,m0=(s.au.length)-k/\k<=(s.au.length)/\e 3=.int .i64 (k:Int)/\(∀j:Nat,j<k->AJ s j):=fun x1 x2=>⟨_,ab,k+1,rfl,ab,(by rw[x1,aA ab]),(all_succ kZ x2)⟩
  have fw:k<s.au.length:=ab
  have eO:=xH fw
  have qO:=Dz (oJ s k).aB (OR k fw)
  have IE:=j6 (oJ s k).dS 1 4
  have Ey:=EP s (oJ s k).aB
  have p7:=LQ fw
  have gR:(¬AJ s k)->¬lV s:=fun h hp=>h (hp.Q4 k fw)
  have hw:IntKind.i64.wrap ((k:Int)+1)=(k:Int)+1:=bd ab
  generalize s7:oJ s k=gl at *
  cases hb:jm gl.aB
  ·rw[hb]at qO
   (repeat(first|((repeat(revert hN;revert N;apply Pn.out));refine wk (tw @a3 (tw @a0 (tw @hk (tw @eO (tw @bh.eq_1 @aa.eq_1))))) ?_;(repeat(refine Pn.mk ?_;intro N hN)))|((try apply Or.inl);refine⟨_,ah.x (qO) (sd (tw @a3 (tw @a0 (tw @hk (tw @eO (tw @bh.eq_1 @aa.eq_1)))))),?_⟩;refine hN _ _ ?_;clear hN N)))
   exact aO (b:=false) (.inl rfl) (sd @Nat.zero_add) (fe (gR fun h=>by rw[AJ,s7,hb]at h;cases h.1))
  rw[hb]at qO
  cases eB:g9 gl.dS 1 4
  ·rw[eB]at IE
   (repeat(first|((repeat(revert hN;revert N;apply Pn.out));refine wk (tw @a3 (tw @a0 (tw @hk (tw @eO (tw @bh.eq_1 @aa.eq_1))))) ?_;(repeat(refine Pn.mk ?_;intro N hN)))|((try apply Or.inl);refine⟨_,ah.x (qO) (sd (tw @a3 (tw @a0 (tw @hk (tw @eO (tw @bh.eq_1 @aa.eq_1)))))),?_⟩;refine hN _ _ ?_;clear hN N)|((try apply Or.inl);refine⟨_,ah.x (IE) (sd (tw @a3 (tw @a0 (tw @hk (tw @eO (tw @bh.eq_1 @aa.eq_1)))))),?_⟩;refine hN _ _ ?_;clear hN N)))
   exact aO (b:=false) (.inl rfl) (sd @Nat.zero_add) (fe (gR fun h=>by rw[AJ,s7,eB]at h;cases h.2.1))
  rw[eB]at IE
  rw[aa]at Ey
  by_cases hq:Ik s gl.aB=(k:Int)
  ·have hd:decide (Ik s gl.aB+1=(k:Int)+1)=true:=decide_eq_true ab
   have sK:decide (Ik s gl.aB=(k:Int))=true:=decide_eq_true hq
   (repeat(first|((repeat(revert hN;revert N;apply Pn.out));refine wk (tw @a3 (tw @a0 (tw @hk (tw @eO (tw @hw (tw @hd (tw @sK (tw @bh.eq_1 @aa.eq_1)))))))) ?_;(repeat(refine Pn.mk ?_;intro N hN)))|((try apply Or.inl);refine⟨_,ah.x (qO) (sd (tw @a3 (tw @a0 (tw @hk (tw @eO (tw @hw (tw @hd (tw @sK (tw @bh.eq_1 @aa.eq_1))))))))),?_⟩;refine hN _ _ ?_;clear hN N)|((try apply Or.inl);refine⟨_,ah.x (IE) (sd (tw @a3 (tw @a0 (tw @hk (tw @eO (tw @hw (tw @hd (tw @sK (tw @bh.eq_1 @aa.eq_1))))))))),?_⟩;refine hN _ _ ?_;clear hN N)|((try apply Or.inl);refine⟨_,ah.x (Ey) (sd (tw @a3 (tw @a0 (tw @hk (tw @eO (tw @hw (tw @hd (tw @sK (tw @bh.eq_1 @aa.eq_1))))))))),?_⟩;refine hN _ _ ?_;clear hN N)))
   exact bW (sd (tw @a3 (tw @a0 @hw))) (⟨by rw[s7];exact hb,by rw[s7];exact eB,fun j hj=>by rw[s7];exact p7.1 hq j hj⟩)
  ·have hd:decide (Ik s gl.aB+1=(k:Int)+1)=false:=decide_eq_false ab
   have sK:decide (Ik s gl.aB=(k:Int))=false:=decide_eq_false hq
   (repeat(first|((repeat(revert hN;revert N;apply Pn.out));refine wk (tw @a3 (tw @a0 (tw @hk (tw @eO (tw @hw (tw @hd (tw @sK (tw @bh.eq_1 @aa.eq_1)))))))) ?_;(repeat(refine Pn.mk ?_;intro N hN)))|((try apply Or.inl);refine⟨_,ah.x (qO) (sd (tw @a3 (tw @a0 (tw @hk (tw @eO (tw @hw (tw @hd (tw @sK (tw @bh.eq_1 @aa.eq_1))))))))),?_⟩;refine hN _ _ ?_;clear hN N)|((try apply Or.inl);refine⟨_,ah.x (IE) (sd (tw @a3 (tw @a0 (tw @hk (tw @eO (tw @hw (tw @hd (tw @sK (tw @bh.eq_1 @aa.eq_1))))))))),?_⟩;refine hN _ _ ?_;clear hN N)|((try apply Or.inl);refine⟨_,ah.x (Ey) (sd (tw @a3 (tw @a0 (tw @hk (tw @eO (tw @hw (tw @hd (tw @sK (tw @bh.eq_1 @aa.eq_1))))))))),?_⟩;refine hN _ _ ?_;clear hN N)))
   exact aO (b:=false) (.inl rfl) (sd @Nat.zero_add) (fe (gR fun h=>by
    rw[AJ,s7]at h
    exact hq (p7.2 h.2.2)))
 ·have lS:k=s.au.length:=ab
  (try((repeat(revert hN;revert N;apply Pn.out));refine wk (tw @a3 (tw @a0 (tw @hk @aa.eq_1))) ?_;(repeat(refine Pn.mk ?_;intro N hN))))
  refine aT (fun n env st=>∃j:Nat,n=(s.ae.length)-j/\j<=(s.ae.length)/\env 5=.int .i64 (j:Int)/\(∀i:Nat,i<j->yS s i)) (s.ae.length) ⟨0,ab,ab,sl (tw @a3 (tw @a0 @aa.eq_1)),fun _ h=>absurd h (Nat.not_lt_zero _)⟩ ?_
  rintro n_b env_b st_b ⟨j,rfl,ble,b5,bA0⟩ bfr
  have b0:=bfr 0 (by kernel_rfl)
  simp only[go_sem, ↓reduceIte,Nat.reduceEqDiff,Nat.reduceAdd,Nat.reduceSub,Nat.reduceLeDiff,reduceCtorEq,a3,a0,aa]at b0
  clear bfr
  by_cases hj:(j:Int)<(s.ae.length:Int)
  ·have jX:∀{e:Env},(e 5=.int .i64 (IntKind.i64.wrap ((j:Int)+1)))->(yS s j)->∃m0,m0<(s.ae.length)-j/\∃j:Nat,m0=(s.ae.length)-j/\j<=(s.ae.length)/\e 5=.int .i64 (j:Int)/\(∀i:Nat,i<j->yS s i):=fun x1 x2=>⟨_,ab,j+1,rfl,ab,(by rw[x1,aA ab]),(all_succ bA0 x2)⟩
   have gw:j<s.ae.length:=ab
   have pg:=yp gw
   have qO:=Dz (nU s j).aB (R6 j gw)
   have Ey:=ER s (nU s j).aB
   have p7:=M1 gw
   have gR:(¬yS s j)->¬lV s:=fun h hp=>h (hp.tok j gw)
   generalize htd:nU s j=tl at *
   cases hb:jm tl.aB
   ·rw[hb]at qO
    (repeat(first|((repeat(revert hN;revert N;apply Pn.out));refine wk (tw @b5 (tw @b0 (tw @hj (tw @pg (tw @aW.eq_1 @aa.eq_1))))) ?_;(repeat(refine Pn.mk ?_;intro N hN)))|((try apply Or.inl);refine⟨_,ah.x (qO) (sd (tw @b5 (tw @b0 (tw @hj (tw @pg (tw @aW.eq_1 @aa.eq_1)))))),?_⟩;refine hN _ _ ?_;clear hN N)))
    exact aO (b:=false) (.inl rfl) (sd @Nat.zero_add) (fe (gR fun h=>by rw[yS,htd,hb]at h;cases h.1))
   rw[hb]at qO
   by_cases h4:(tl.bm.length:Int)=4
   ·have xJ:decide ((tl.bm.length:Int)=4)=true:=decide_eq_true h4
    rw[aa]at Ey
    by_cases hq:K8 s tl.aB=(j:Int)
    ·have hd:decide (K8 s tl.aB=(j:Int))=true:=decide_eq_true hq
     (repeat(first|((repeat(revert hN;revert N;apply Pn.out));refine wk (tw @b5 (tw @b0 (tw @hj (tw @pg (tw @xJ (tw @hd (tw @aW.eq_1 @aa.eq_1))))))) ?_;(repeat(refine Pn.mk ?_;intro N hN)))|((try apply Or.inl);refine⟨_,ah.x (qO) (sd (tw @b5 (tw @b0 (tw @hj (tw @pg (tw @xJ (tw @hd (tw @aW.eq_1 @aa.eq_1)))))))),?_⟩;refine hN _ _ ?_;clear hN N)|((try apply Or.inl);refine⟨_,ah.x (Ey) (sd (tw @b5 (tw @b0 (tw @hj (tw @pg (tw @xJ (tw @hd (tw @aW.eq_1 @aa.eq_1)))))))),?_⟩;refine hN _ _ ?_;clear hN N)))
     refine aT (fun n env st=>∃i:Nat,n=(4)-i/\i<=(4)/\env 7=.int .i64 (i:Int)/\st.get ⟨88012007,st_b.next+1⟩=some ⟨true,2,[aW tl]⟩/\(∀x:Nat,x<i->g9 (tl.bm.getD x 0) 0 s.au.length=true)) (4) ⟨0,ab,ab,sl (tw @b5 (tw @b0 (tw @aW.eq_1 @aa.eq_1))),sl (tw @b5 (tw @b0 (tw @aW.eq_1 @aa.eq_1))),fun _ h=>absurd h (Nat.not_lt_zero _)⟩ ?_
     rintro n_c env_c st_c ⟨i,rfl,cle,c7,cg0,cA0⟩ cfr
     have c0:=cfr 0 (by kernel_rfl);have c5:=cfr 5 (by kernel_rfl);have c6:=cfr 6 (by kernel_rfl)
     simp only[go_sem, ↓reduceIte,Nat.reduceEqDiff,Nat.reduceAdd,Nat.reduceSub,Nat.reduceLeDiff,reduceCtorEq,b5,b0,aW,aa]at c0 c5 c6
     clear cfr
     by_cases hi:(i:Int)<4
     ·have gD:∀{e:Env} {gg:Rows},(e 7=.int .i64 (IntKind.i64.wrap ((i:Int)+1)))->(gg ⟨88012007,st_b.next+1⟩=some ⟨true,2,[aW tl]⟩)->(g9 (tl.bm.getD i 0) 0 s.au.length=true)->∃m0,m0<(4)-i/\∃i:Nat,m0=(4)-i/\i<=(4)/\e 7=.int .i64 (i:Int)/\gg ⟨88012007,st_b.next+1⟩=some ⟨true,2,[aW tl]⟩/\(∀x:Nat,x<i->g9 (tl.bm.getD x 0) 0 s.au.length=true):=fun x1 x2 x3=>⟨_,ab,i+1,rfl,ab,(by rw[x1,aA ab]),x2,(all_succ cA0 x3)⟩
      have fJ:i<tl.bm.length:=ab
      have oe:(tl.bm.map ay)[i]? =some (ay (tl.bm.getD i 0)):=getD_map ay fJ
      have vz:tl.bm.getD i 0∈tl.bm:=by rw[List.getD_eq_getElem?_getD,List.getElem?_eq_getElem fJ];exact List.getElem_mem fJ
      have GV:=j6 (tl.bm.getD i 0) 0 s.au.length
      generalize Ma:tl.bm.getD i 0=gv at *
      cases hv:g9 gv 0 s.au.length
      ·rw[hv]at GV
       (repeat(first|((repeat(revert hN;revert N;apply Pn.out));refine wk (tw @c7 (tw @cg0 (tw @c0 (tw @c5 (tw @c6 (tw @hi (tw @oe (tw @ay.eq_1 (tw @aW.eq_1 @aa.eq_1))))))))) ?_;(repeat(refine Pn.mk ?_;intro N hN)))|((try apply Or.inl);refine⟨_,ah.x (GV) (sd (tw @c7 (tw @cg0 (tw @c0 (tw @c5 (tw @c6 (tw @hi (tw @oe (tw @ay.eq_1 (tw @aW.eq_1 @aa.eq_1)))))))))),?_⟩;refine hN _ _ ?_;clear hN N)))
       exact aO (b:=false) (.inl rfl) (sd @Nat.zero_add) (fe (gR fun h=>by
        rw[yS,htd]at h
        have:=h.2.2.2 gv vz
        rw[hv]at this;cases this))
      ·rw[hv]at GV
       (repeat(first|((repeat(revert hN;revert N;apply Pn.out));refine wk (tw @c7 (tw @cg0 (tw @c0 (tw @c5 (tw @c6 (tw @hi (tw @oe (tw @ay.eq_1 (tw @aW.eq_1 @aa.eq_1))))))))) ?_;(repeat(refine Pn.mk ?_;intro N hN)))|((try apply Or.inl);refine⟨_,ah.x (GV) (sd (tw @c7 (tw @cg0 (tw @c0 (tw @c5 (tw @c6 (tw @hi (tw @oe (tw @ay.eq_1 (tw @aW.eq_1 @aa.eq_1)))))))))),?_⟩;refine hN _ _ ?_;clear hN N)))
       refine gD ?_ ?_ (hv)
       all_goals simp only[go_sem, ↓reduceIte,Nat.reduceEqDiff,Nat.reduceAdd,Nat.reduceSub,Nat.reduceLeDiff,reduceCtorEq,c7,cg0,c0,c5,c6]
     ·have hi4:i=4:=ab
      (try((repeat(revert hN;revert N;apply Pn.out));refine wk (tw @c7 (tw @cg0 (tw @c0 (tw @c5 (tw @c6 (tw @hi (tw @aW.eq_1 @aa.eq_1))))))) ?_;(repeat(refine Pn.mk ?_;intro N hN))))
      exact jX (sd (tw @b5 (tw @b0 (tw @c7 (tw @cg0 (tw @c0 (tw @c5 @c6))))))) (⟨by rw[htd];exact hb,by rw[htd];omega,fun x hx=>(by rw[htd];exact p7.1 hq x hx),fun g hg=>by
       rw[htd]at hg
       obtain⟨x,hx,rfl⟩:=List.getElem_of_mem hg
       have:=cA0 x ab
       rwa [List.getD_eq_getElem?_getD,List.getElem?_eq_getElem hx]at this⟩)
    ·have hd:decide (K8 s tl.aB=(j:Int))=false:=decide_eq_false hq
     (repeat(first|((repeat(revert hN;revert N;apply Pn.out));refine wk (tw @b5 (tw @b0 (tw @hj (tw @pg (tw @xJ (tw @hd (tw @aW.eq_1 @aa.eq_1))))))) ?_;(repeat(refine Pn.mk ?_;intro N hN)))|((try apply Or.inl);refine⟨_,ah.x (qO) (sd (tw @b5 (tw @b0 (tw @hj (tw @pg (tw @xJ (tw @hd (tw @aW.eq_1 @aa.eq_1)))))))),?_⟩;refine hN _ _ ?_;clear hN N)|((try apply Or.inl);refine⟨_,ah.x (Ey) (sd (tw @b5 (tw @b0 (tw @hj (tw @pg (tw @xJ (tw @hd (tw @aW.eq_1 @aa.eq_1)))))))),?_⟩;refine hN _ _ ?_;clear hN N)))
     exact aO (b:=false) (.inl rfl) (sd @Nat.zero_add) (fe (gR fun h=>by
      rw[yS,htd]at h
      exact hq (p7.2 h.2.2.1)))
   ·have xJ:decide ((tl.bm.length:Int)=4)=false:=decide_eq_false h4
    (repeat(first|((repeat(revert hN;revert N;apply Pn.out));refine wk (tw @b5 (tw @b0 (tw @hj (tw @pg (tw @xJ (tw @aW.eq_1 @aa.eq_1)))))) ?_;(repeat(refine Pn.mk ?_;intro N hN)))|((try apply Or.inl);refine⟨_,ah.x (qO) (sd (tw @b5 (tw @b0 (tw @hj (tw @pg (tw @xJ (tw @aW.eq_1 @aa.eq_1))))))),?_⟩;refine hN _ _ ?_;clear hN N)))
    exact aO (b:=false) (.inl rfl) (sd @Nat.zero_add) (fe (gR fun h=>by rw[yS,htd]at h;have:=h.2.1;omega))
  ·(try((repeat(revert hN;revert N;apply Pn.out));refine wk (tw @b5 (tw @b0 (tw @hj @aa.eq_1))) ?_;(repeat(refine Pn.mk ?_;intro N hN))))
   exact aO (b:=true) (.inl rfl) (sd @Nat.zero_add) (Af ⟨ab,ab,ab,fun i hi=>kZ i ab,fun i hi=>bA0 i ab⟩)
end Go.Proofs.YtihgaadadaekmaaGreat.V

namespace Go.Proofs.YtihgaadadaekmaaGreat.V
def qi (a b:bH):Bool:=decide (a.fN<b.fN)||(decide (a.fN=b.fN)&&decide (a.gu<b.gu))
theorem Dv {a b:bH}:qi a b=true↔a.fN<b.fN∨(a.fN=b.fN/\a.gu<b.gu):=by simp[qi]
theorem EZ {a b:bH}:qi a b=false↔¬(a.fN<b.fN∨(a.fN=b.fN/\a.gu<b.gu)):=by rw[<-Dv,Bool.not_eq_true]
theorem MN {a b:bH} (h1:a.gu=b.gu) (h2:a.fN=b.fN):a=b:=by cases a;cases b;simp_all
theorem lE {a b c:bH} (h:qi a b=true) (k:qi b c=true):qi a c=true:=by rw[Dv]at *;omega
theorem Dw {a:bH}:qi a a=false:=by rw[EZ];omega
def ve (a b:Int):Int:=if a<b then -1 else if b<a then 1 else 0
def Px (a b:Int):Int:=if a=0 then b else a
def sF (a b:bH):Int:=Px (ve a.fN b.fN) (ve a.gu b.gu)
theorem xr (a b:bH):decide (sF a b<0)=qi a b:=by
 unfold sF Px ve qi
 by_cases h1:a.fN<b.fN
 ·simp[h1]
 ·by_cases h2:b.fN<a.fN
  ·have:¬a.fN=b.fN:=ab
   simp[h1,h2,this]
  ·have:a.fN=b.fN:=ab
   by_cases h3:a.gu<b.gu
   ·simp[h1,h2,this,h3]
   ·by_cases h4:b.gu<a.gu<;>simp[h1,h2,this,h3,h4]
theorem D6 (a b:bH):(sF a b=0)↔a=b:=by
 cases a;cases b
 unfold sF Px ve
 simp only[bH.mk.injEq]
 split<;>(try split)<;>(try split)<;>(try split)<;>omega
def Hr:ak:=⟨⟨0,0⟩,0⟩
def bB (l:List ak) (i:Nat):ak:=l.getD i Hr
theorem j7 {l:List ak} {i:Nat} (h:i<l.length):bB l i=l[i]:=by simp[bB,List.getD_eq_getElem?_getD,h]
theorem nP {l:List ak} {i:Nat} (h:i<l.length):bB l i∈l:=by rw[j7 h];exact List.getElem_mem h
def yQ (l:List ak):Prop:=∀i j:Nat,i<j->j<l.length->qi (bB l i).cI (bB l j).cI=true
def EF (l:List ak) (p:bH):Nat:=l.findIdx fun c=>decide (c.cI=p)
def fK (l:List ak) (p:bH):Int:=if EF l p<l.length then(EF l p:Int)else -1
def lD (l:List ak) (p:bH):Nat:=l.findIdx fun c=> !qi c.cI p
theorem xU {l:List ak} {p:bH} {i:Nat} (hi:i<=l.length) (h1:∀x,x<i->qi (bB l x).cI p=true) (h2:i<l.length->qi (bB l i).cI p=false):lD l p=i:=by
 unfold lD
 by_cases h:i<l.length
 ·rw[List.findIdx_eq h]
  refine⟨by have:=h2 h;rw[j7 h]at this;simp[this],fun j hj=>?_⟩
  have:=h1 j hj
  rw[j7 ab]at this
  simp[this]
 ·have:i=l.length:=ab
  subst this
  refine List.findIdx_eq_length_of_false fun x hx=>?_
  obtain⟨j,hj,rfl⟩:=List.getElem_of_mem hx
  have:=h1 j hj
  rw[j7 hj]at this
  simp[this]
theorem xV {l:List ak} {p:bH} (hR:yQ l):fK l p=if lD l p<l.length/\(bB l (lD l p)).cI=p then(lD l p:Int)else -1:=by
 by_cases h:∃i,i<l.length/\(bB l i).cI=p
 ·obtain⟨i,hi,hp⟩:=h
  have h1:lD l p=i:=xU ab (fun x hx=>by rw[<-hp];exact hR x i hx hi) fun _=>by rw[hp];exact Dw
  have h2:EF l p=i:=by
   rw[EF,List.findIdx_eq hi]
   refine⟨by rw[j7 hi]at hp;simpa using hp,fun j hj=>?_⟩
   have:=hR j i hj hi
   rw[hp,j7 ab]at this
   simp only[decide_eq_false_iff_not]
   intro hc
   rw[hc,Dw]at this
   cases this
  rw[fK,h1,h2,if_pos hi,if_pos ⟨hi,hp⟩]
 ·have h2:¬EF l p<l.length:=by
   rw[EF,List.findIdx_lt_length]
   rintro⟨c,hc,he⟩
   obtain⟨j,hj,rfl⟩:=List.getElem_of_mem hc
   exact h ⟨j,hj,by rw[j7 hj];simpa using he⟩
  rw[fK,if_neg h2,if_neg]
  rintro⟨h3,h4⟩
  exact h ⟨_,h3,h4⟩
theorem og {l:List ak} {p:bH} (h:0<=fK l p):(fK l p).toNat<l.length/\(bB l (fK l p).toNat).cI=p:=by
 unfold fK at h ⊢
 split at h
 ·rename_i hc
  rw[if_pos hc]
  refine⟨ab,?_⟩
  have:=of_decide_eq_true (List.findIdx_getElem (p:=fun c:ak=>decide (c.cI=p)) (xs:=l) (w:=hc))
  rw[Int.toNat_natCast,j7 hc]
  exact this
 ·omega
def u7 (l:List ak) (p:bH):Int:=if 0<=fK l p then(bB l (fK l p).toNat).bJ else -1
end Go.Proofs.YtihgaadadaekmaaGreat.V

namespace Go.Proofs.YtihgaadadaekmaaGreat.V
open Go.RowKit
attribute [local irreducible] eb wpOps gH Call
attribute [local go_sem] aM fI eM fX fV cE upd cm K.av cK AV.cells AV.cell rowOf rowsOf part ld rowAt bS bZ dH ei ij bK dc eA fZ e8 du ep cY cX dU dW bQ bf cQ bP cT cR ek er eo cP bU cZ ej bL aQ cV cw ig bt cH bR bc dF bq dI AV.undef bD bF dX eh dQ dZ cF ez eE cr ev eu cU cW List.getD_cons_zero List.getD_cons_succ List.getD_nil List.all_cons List.all_nil Bool.and_true Bool.true_and Bool.and_self Bool.not_true Bool.not_false Option.map_some Option.map_none Option.bind_some Option.bind_none List.length_cons List.length_nil List.take_succ_cons List.take_zero List.take_nil List.drop_succ_cons List.drop_zero List.drop_nil List.head?_cons List.map_cons List.map_nil List.getElem?_cons_zero List.getElem?_cons_succ List.cons_append List.nil_append List.append_nil List.length_map List.set_cons_zero List.set_cons_succ Nat.reduceMul eq_self Int.toNat_natCast Int.natCast_nonneg and_self true_and and_true decide_true decide_false Bool.false_eq_true Nat.zero_add Nat.add_zero List.contains_cons List.contains_nil Bool.or_false Bool.false_or beq_self_eq_true Nat.reduceBEq ne_eq not_true_eq_false not_false_eq_true Id.mk.injEq false_and and_false Nat.reduceLT Int.reduceLE Int.reduceLT Int.reduceToNat Int.reduceNeg Int.reduceAdd Nat.le_refl List.length_append beq_true beq_false Bool.not_eq_eq_eq_not or_false false_or dD ad aj aH bC b4 aX bo aY bl cL bE
theorem rS (a b:bH):ah Tryz.prog 111 [.agg (ao a),.agg (ao b)] (.bool (qi a b)):=by
 refine ah.body dY rfl fun hl n0=>?_
 clear hl
 by_cases h0:a.fN<b.fN
 ·(try((repeat(revert hN;revert N;apply Pn.out));refine wk (tw @ao.eq_1 @h0) ?_;(repeat(refine Pn.mk ?_;intro N hN))))
  exact aO (b:=true) (.inl rfl) (sd @Nat.zero_add) (by simp[qi,h0])
 ·by_cases h1:a.fN=b.fN
  ·have h2:¬b.fN<b.fN:=ab
   (try((repeat(revert hN;revert N;apply Pn.out));refine wk (tw @ao.eq_1 (tw @h1 @h2)) ?_;(repeat(refine Pn.mk ?_;intro N hN))))
   exact aO (b:=decide (a.gu<b.gu)) (.inl rfl) (sd @Nat.zero_add) (by simp[qi,h1])
  ·(try((repeat(revert hN;revert N;apply Pn.out));refine wk (tw @ao.eq_1 (tw @h0 @h1)) ?_;(repeat(refine Pn.mk ?_;intro N hN))))
   exact aO (b:=false) (.inl rfl) (sd @Nat.zero_add) (by simp[qi,h0,h1])
theorem gz {l:List ak} {i:Nat} (h:i<l.length):(l.map ai)[i]? =some (ai (bB l i)):=getD_map ai h
def DR (l:List ak) (i:Nat):Prop:=Cg (bB l i).cI=true/\g9 (bB l i).bJ 0 159=true/\(0<i->qi (bB l (i-1)).cI (bB l i).cI=true)
structure j9 (l:List ak):Prop where
 FN:l.length<=500
 ok:∀i,i<l.length->DR l i
noncomputable def nD (l:List ak):Bool:=@decide (j9 l) (Classical.propDecidable _)
theorem Em {l:List ak}:nD l=true↔j9 l:=by simp[nD]
theorem jH {l:List ak} (h:¬j9 l):false=nD l:=by simp[nD,h]
theorem wo {l:List ak} (h:j9 l):true=nD l:=by simp[nD,h]
theorem j9.QH {l:List ak} (h:j9 l):yQ l:=by
 intro i j Qo hj
 induction j with
 |zero=>omega
 |succ j ih=>
  have h1:=(h.ok (j+1) hj).2.2 ab
  rw[Nat.add_sub_cancel]at h1
  by_cases he:i=j
  ·subst he;exact h1
  ·exact lE (ih ab ab) h1
theorem j9.pt {l:List ak} (h:j9 l) {i:Nat} (hi:i<l.length):Cg (bB l i).cI=true:=(h.ok i hi).1
theorem HC {p:bH} (h:Cg p=true):iB p.gu/\iB p.fN:=by
 unfold Cg at h
 simp only[Bool.and_eq_true]at h
 have:=dO h.1;have:=dO h.2
 unfold iB;omega
theorem ES (l:List ak):ah Tryz.prog 91 [.de [.sl (l.map ai)]] (.bool (nD l)):=by
 refine ah.body dY rfl fun hl n0=>?_
 clear hl
 by_cases h1:(500:Int)<(l.length:Int)
 ·(try((repeat(revert hN;revert N;apply Pn.out));refine wk @h1 ?_;(repeat(refine Pn.mk ?_;intro N hN))))
  exact aO (b:=false) (.inl rfl) (sd @Nat.zero_add) (jH fun h=>by have:=h.FN;omega)
 (try((repeat(revert hN;revert N;apply Pn.out));refine wk @h1 ?_;(repeat(refine Pn.mk ?_;intro N hN))))
 refine aT (fun n env st=>∃k:Nat,n=(l.length)-k/\k<=(l.length)/\env 3=.int .i64 (k:Int)/\(∀j:Nat,j<k->DR l j)) (l.length) ⟨0,ab,ab,sl @Nat.zero_add,fun _ h=>absurd h (Nat.not_lt_zero _)⟩ ?_
 rintro n_a env_a st_a ⟨k,rfl,ale,a3,kZ⟩ dE
 have a0:=dE 0 (by kernel_rfl)
 simp only[go_sem, ↓reduceIte,Nat.reduceEqDiff,Nat.reduceAdd,Nat.reduceSub,Nat.reduceLeDiff,reduceCtorEq]at a0
 clear dE
 by_cases hk:(k:Int)<(l.length:Int)
 ·have bW:∀{e:Env},(e 3=.int .i64 (IntKind.i64.wrap ((k:Int)+1)))->(DR l k)->∃m0,m0<(l.length)-k/\∃k:Nat,m0=(l.length)-k/\k<=(l.length)/\e 3=.int .i64 (k:Int)/\(∀j:Nat,j<k->DR l j):=fun x1 x2=>⟨_,ab,k+1,rfl,ab,(by rw[x1,aA ab]),(all_succ kZ x2)⟩
  have fw:k<l.length:=ab
  have eO:=gz fw
  have gR:(¬DR l k)->¬j9 l:=fun h hp=>h (hp.ok k fw)
  have hp:=BS (bB l k).cI
  have ht:=j6 (bB l k).bJ 0 159
  cases b1:Cg (bB l k).cI
  ·rw[b1]at hp
   (repeat(first|((repeat(revert hN;revert N;apply Pn.out));refine wk (tw @a3 (tw @a0 (tw @hk (tw @eO (tw @ai.eq_1 @ao.eq_1))))) ?_;(repeat(refine Pn.mk ?_;intro N hN)))|((try apply Or.inl);refine⟨_,ah.x (hp) (sd (tw @a3 (tw @a0 (tw @hk (tw @eO (tw @ai.eq_1 @ao.eq_1)))))),?_⟩;refine hN _ _ ?_;clear hN N)))
   exact aO (b:=false) (.inl rfl) (sd @Nat.zero_add) (jH (gR fun h=>by rw[DR,b1]at h;cases h.1))
  rw[b1]at hp
  cases b2:g9 (bB l k).bJ 0 159
  ·rw[b2]at ht
   (repeat(first|((repeat(revert hN;revert N;apply Pn.out));refine wk (tw @a3 (tw @a0 (tw @hk (tw @eO (tw @ai.eq_1 @ao.eq_1))))) ?_;(repeat(refine Pn.mk ?_;intro N hN)))|((try apply Or.inl);refine⟨_,ah.x (hp) (sd (tw @a3 (tw @a0 (tw @hk (tw @eO (tw @ai.eq_1 @ao.eq_1)))))),?_⟩;refine hN _ _ ?_;clear hN N)|((try apply Or.inl);refine⟨_,ah.x (ht) (sd (tw @a3 (tw @a0 (tw @hk (tw @eO (tw @ai.eq_1 @ao.eq_1)))))),?_⟩;refine hN _ _ ?_;clear hN N)))
   exact aO (b:=false) (.inl rfl) (sd @Nat.zero_add) (jH (gR fun h=>by rw[DR,b2]at h;cases h.2.1))
  rw[b2]at ht
  by_cases h0:(0:Int)<(k:Int)
  ·have tQ:=gz (l:=l) (i:=k-1) ab
   have hw:IntKind.i64.wrap ((k:Int)-1)=((k-1:Nat):Int):=by rw[bd (by have:=fw;omega)];omega
   have hq:=rS (bB l (k-1)).cI (bB l k).cI
   cases b3:qi (bB l (k-1)).cI (bB l k).cI
   ·rw[b3]at hq
    (repeat(first|((repeat(revert hN;revert N;apply Pn.out));refine wk (tw @a3 (tw @a0 (tw @hk (tw @eO (tw @tQ (tw @h0 (tw @hw (tw @ai.eq_1 @ao.eq_1)))))))) ?_;(repeat(refine Pn.mk ?_;intro N hN)))|((try apply Or.inl);refine⟨_,ah.x (hp) (sd (tw @a3 (tw @a0 (tw @hk (tw @eO (tw @tQ (tw @h0 (tw @hw (tw @ai.eq_1 @ao.eq_1))))))))),?_⟩;refine hN _ _ ?_;clear hN N)|((try apply Or.inl);refine⟨_,ah.x (ht) (sd (tw @a3 (tw @a0 (tw @hk (tw @eO (tw @tQ (tw @h0 (tw @hw (tw @ai.eq_1 @ao.eq_1))))))))),?_⟩;refine hN _ _ ?_;clear hN N)|((try apply Or.inl);refine⟨_,ah.x (hq) (sd (tw @a3 (tw @a0 (tw @hk (tw @eO (tw @tQ (tw @h0 (tw @hw (tw @ai.eq_1 @ao.eq_1))))))))),?_⟩;refine hN _ _ ?_;clear hN N)))
    exact aO (b:=false) (.inl rfl) (sd @Nat.zero_add) (jH (gR fun h=>by have:=h.2.2 ab;rw[b3]at this;cases this))
   ·rw[b3]at hq
    (repeat(first|((repeat(revert hN;revert N;apply Pn.out));refine wk (tw @a3 (tw @a0 (tw @hk (tw @eO (tw @tQ (tw @h0 (tw @hw (tw @ai.eq_1 @ao.eq_1)))))))) ?_;(repeat(refine Pn.mk ?_;intro N hN)))|((try apply Or.inl);refine⟨_,ah.x (hp) (sd (tw @a3 (tw @a0 (tw @hk (tw @eO (tw @tQ (tw @h0 (tw @hw (tw @ai.eq_1 @ao.eq_1))))))))),?_⟩;refine hN _ _ ?_;clear hN N)|((try apply Or.inl);refine⟨_,ah.x (ht) (sd (tw @a3 (tw @a0 (tw @hk (tw @eO (tw @tQ (tw @h0 (tw @hw (tw @ai.eq_1 @ao.eq_1))))))))),?_⟩;refine hN _ _ ?_;clear hN N)|((try apply Or.inl);refine⟨_,ah.x (hq) (sd (tw @a3 (tw @a0 (tw @hk (tw @eO (tw @tQ (tw @h0 (tw @hw (tw @ai.eq_1 @ao.eq_1))))))))),?_⟩;refine hN _ _ ?_;clear hN N)))
    exact bW (sd (tw @a3 @a0)) (⟨b1,b2,fun _=>b3⟩)
  ·have s8:k=0:=ab
   (repeat(first|((repeat(revert hN;revert N;apply Pn.out));refine wk (tw @a3 (tw @a0 (tw @hk (tw @eO (tw @h0 (tw @ai.eq_1 @ao.eq_1)))))) ?_;(repeat(refine Pn.mk ?_;intro N hN)))|((try apply Or.inl);refine⟨_,ah.x (hp) (sd (tw @a3 (tw @a0 (tw @hk (tw @eO (tw @h0 (tw @ai.eq_1 @ao.eq_1))))))),?_⟩;refine hN _ _ ?_;clear hN N)|((try apply Or.inl);refine⟨_,ah.x (ht) (sd (tw @a3 (tw @a0 (tw @hk (tw @eO (tw @h0 (tw @ai.eq_1 @ao.eq_1))))))),?_⟩;refine hN _ _ ?_;clear hN N)))
   exact bW (sd (tw @a3 @a0)) (⟨b1,b2,fun h=>ab⟩)
 ·(try((repeat(revert hN;revert N;apply Pn.out));refine wk (tw @a3 (tw @a0 @hk)) ?_;(repeat(refine Pn.mk ?_;intro N hN))))
  exact aO (b:=true) (.inl rfl) (sd @Nat.zero_add) (wo ⟨ab,fun i hi=>kZ i ab⟩)
theorem wg (a b:Int):ah Tryz.prog 147 [.int .i64 a,.int .i64 b] (.int .i64 (ve a b)):=by
 have nan:∀x:Int,ah Tryz.prog 164 [.int .i64 x] (.bool false):=fun x=>by
  refine ah.body dY rfl fun hl n0=>?_
  clear hl
  have e:decide (x=x)=true:=decide_eq_true rfl
  (try((repeat(revert hN;revert N;apply Pn.out));refine wk @e ?_;(repeat(refine Pn.mk ?_;intro N hN))))
  exact aO (b:=false) (.inl rfl) (sd @Nat.zero_add) rfl
 refine ah.body dY rfl fun hl n0=>?_
 clear hl
 have ha:=nan a
 have hb:=nan b
 by_cases h1:a<b
 ·(repeat(first|((repeat(revert hN;revert N;apply Pn.out));refine wk @h1 ?_;(repeat(refine Pn.mk ?_;intro N hN)))|((try apply Or.inl);refine⟨_,ah.x (ha) (sd @h1),?_⟩;refine hN _ _ ?_;clear hN N)|((try apply Or.inl);refine⟨_,ah.x (hb) (sd @h1),?_⟩;refine hN _ _ ?_;clear hN N)))
  exact bG (b:=-1) (.inl rfl) (sd @Nat.zero_add) (by rw[ve,if_pos h1])
 by_cases h2:b<a
 ·(repeat(first|((repeat(revert hN;revert N;apply Pn.out));refine wk (tw @h1 @h2) ?_;(repeat(refine Pn.mk ?_;intro N hN)))|((try apply Or.inl);refine⟨_,ah.x (ha) (sd (tw @h1 @h2)),?_⟩;refine hN _ _ ?_;clear hN N)|((try apply Or.inl);refine⟨_,ah.x (hb) (sd (tw @h1 @h2)),?_⟩;refine hN _ _ ?_;clear hN N)))
  exact bG (b:=1) (.inl rfl) (sd @Nat.zero_add) (by rw[ve,if_neg h1,if_pos h2])
 ·(repeat(first|((repeat(revert hN;revert N;apply Pn.out));refine wk (tw @h1 @h2) ?_;(repeat(refine Pn.mk ?_;intro N hN)))|((try apply Or.inl);refine⟨_,ah.x (ha) (sd (tw @h1 @h2)),?_⟩;refine hN _ _ ?_;clear hN N)|((try apply Or.inl);refine⟨_,ah.x (hb) (sd (tw @h1 @h2)),?_⟩;refine hN _ _ ?_;clear hN N)))
  exact bG (b:=0) (.inl rfl) (sd @Nat.zero_add) (by rw[ve,if_neg h1,if_neg h2])
def FX:List Int->Int
 |[]=>0
 |a::r=>if a=0 then FX r else a
theorem Hy:∀{l:List Int} {k:Nat} (hk:k<l.length),l[k]≠0->(∀j (h:j<l.length),j<k->l[j]=0)->FX l=l[k]
 |a::r,0,_,h,_=>by
  have h':a≠0:=h
  rw[FX,if_neg h'];rfl
 |a::r,k+1,hk,h,h0=>by
  have h':a=0:=h0 0 (by simp) ab
  rw[FX,if_pos h',Hy (k:=k) (by simpa using hk) h fun j hj wC=>h0 (j+1) (by simpa using hj) ab];rfl
theorem Aa:∀{l:List Int},(∀j (h:j<l.length),l[j]=0)->FX l=0
 |[],_=>rfl
 |a::r,h=>by
  have h':a=0:=h 0 (by simp)
  rw[FX,if_pos h',Aa fun j hj=>h (j+1) (by simpa using hj)]
theorem J1 (a b:Int):FX [a,b]=Px a b:=by
 unfold Px
 by_cases h:a=0
 ·rw[FX,if_pos h,if_pos h,FX,FX];split<;>simp_all
 ·rw[FX,if_neg h,if_neg h]
theorem IW (l:List Int):ah Tryz.prog 146 [.sl (l.map ay)] (.int .i64 (FX l)):=by
 refine ah.body dY rfl fun hl n0=>?_
 have hlen:l.length<=9223372036854775807:=by simpa using(hl (.sl (l.map ay)) (by simp)).len
 clear hl
 (try((repeat(revert hN;revert N;apply Pn.out));refine wk @Nat.zero_add ?_;(repeat(refine Pn.mk ?_;intro N hN))))
 refine aT (fun n env st=>∃k:Nat,n=(l.length)-k/\k<=(l.length)/\env 8=.int .i64 (k:Int)/\(∀j:Nat,j<k->∀h:j<l.length,l[j]=0)) (l.length) ⟨0,ab,ab,sl @Nat.zero_add,fun _ h=>absurd h (Nat.not_lt_zero _)⟩ ?_
 rintro n_a env_a st_a ⟨k,rfl,ale,a8,kZ⟩ dE
 have a3:=dE 3 (by kernel_rfl);have a6:=dE 6 (by kernel_rfl);have a7:=dE 7 (by kernel_rfl)
 simp only[go_sem, ↓reduceIte,Nat.reduceEqDiff,Nat.reduceAdd,Nat.reduceSub,Nat.reduceLeDiff,reduceCtorEq]at a3 a6 a7
 clear dE
 by_cases hk:(k:Int)<(l.length:Int)
 ·have bW:∀{e:Env},(e 8=.int .i64 (IntKind.i64.wrap ((k:Int)+1)))->(∀h:k<l.length,l[k]=0)->∃m0,m0<(l.length)-k/\∃k:Nat,m0=(l.length)-k/\k<=(l.length)/\e 8=.int .i64 (k:Int)/\(∀j:Nat,j<k->∀h:j<l.length,l[j]=0):=fun x1 x2=>⟨_,ab,k+1,rfl,ab,(by rw[x1,aA ab]),(all_succ kZ x2)⟩
  have fw:k<l.length:=ab
  have eO:(l.map ay)[k]? =some (ay l[k]):=by simp[fw]
  generalize hv:l[k]=v at eO
  by_cases h0:v=0
  ·have e:decide (v=0)=true:=decide_eq_true h0
   (try((repeat(revert hN;revert N;apply Pn.out));refine wk (tw @a8 (tw @a3 (tw @a6 (tw @a7 (tw @e (tw @hk (tw @eO @ay.eq_1))))))) ?_;(repeat(refine Pn.mk ?_;intro N hN))))
   exact bW (sd (tw @a8 (tw @a3 (tw @a6 @a7)))) (fun _=>hv.trans h0)
  ·have e:decide (v=0)=false:=decide_eq_false h0
   (try((repeat(revert hN;revert N;apply Pn.out));refine wk (tw @a8 (tw @a3 (tw @a6 (tw @a7 (tw @e (tw @hk (tw @eO @ay.eq_1))))))) ?_;(repeat(refine Pn.mk ?_;intro N hN))))
   exact bG (b:=v) (.inl rfl) (sd @Nat.zero_add) (by rw[Hy fw (by rw[hv];exact h0) fun j h hj=>kZ j hj h,hv])
 ·(try((repeat(revert hN;revert N;apply Pn.out));refine wk (tw @a8 (tw @a3 (tw @a6 (tw @a7 @hk)))) ?_;(repeat(refine Pn.mk ?_;intro N hN))))
  exact bG (b:=0) (.inl rfl) (sd @Nat.zero_add) (by rw[Aa fun j h=>kZ j ab h])
section
attribute [local go_sem] List.drop_zero List.take_succ_cons List.take_zero List.length_cons List.length_nil gC xE nE
theorem mL (a b:bH):ah Tryz.prog 117 [.agg (ao a),.agg (ao b)] (.int .i64 (sF a b)):=by
 refine ah.body dY rfl fun hl n0=>?_
 clear hl
 have h1:=wg a.fN b.fN
 have h2:=wg a.gu b.gu
 have h3:=IW [ve a.fN b.fN,ve a.gu b.gu]
 rw[J1,List.map_cons,List.map_cons,List.map_nil,ay,ay]at h3
 (repeat(first|((repeat(revert hN;revert N;apply Pn.out));refine wk @ao.eq_1 ?_;(repeat(refine Pn.mk ?_;intro N hN)))|((try apply Or.inl);refine⟨_,ah.x (h1) (sd @ao.eq_1),?_⟩;refine hN _ _ ?_;clear hN N)|((try apply Or.inl);refine⟨_,ah.x (h2) (sd @ao.eq_1),?_⟩;refine hN _ _ ?_;clear hN N)|((try apply Or.inl);refine⟨_,ah.x (h3) (sd @ao.eq_1),?_⟩;refine hN _ _ ?_;clear hN N)))
 exact bG (b:=sF a b) (.inl rfl) (by simp only[go_sem, ↓reduceIte,Nat.reduceEqDiff,Nat.reduceAdd,Nat.reduceSub,Nat.reduceLeDiff,reduceCtorEq,sF]) rfl
end
theorem Jy (a b:bH):ah Tryz.prog 135 [.agg (ao a),.agg (ao b)] (.bool (qi a b)):=by
 refine ah.body dY rfl fun hl n0=>?_
 clear hl
 have h1:=mL a b
 rw[ao,ao]at h1
 (repeat(first|((repeat(revert hN;revert N;apply Pn.out));refine wk @ao.eq_1 ?_;(repeat(refine Pn.mk ?_;intro N hN)))|((try apply Or.inl);refine⟨_,ah.x (h1) (sd @ao.eq_1),?_⟩;refine hN _ _ ?_;clear hN N)))
 exact aO (b:=decide (sF a b<0)) (.inl rfl) (sd @Nat.zero_add) (xr a b)
theorem jQ (t:ak) (p:bH):ah Tryz.prog 84 [.agg (ai t),.agg (ao p)] (.int .i64 (sF t.cI p)):=by
 refine ah.body dY rfl fun hl n0=>?_
 clear hl
 have h1:=mL t.cI p
 rw[ao,ao]at h1
 (repeat(first|((repeat(revert hN;revert N;apply Pn.out));refine wk (tw @ai.eq_1 @ao.eq_1) ?_;(repeat(refine Pn.mk ?_;intro N hN)))|((try apply Or.inl);refine⟨_,ah.x (h1) (sd (tw @ai.eq_1 @ao.eq_1)),?_⟩;refine hN _ _ ?_;clear hN N)))
 exact bG (b:=sF t.cI p) (.inl rfl) (sd @Nat.zero_add) rfl
theorem Er (l:List ak):ah Tryz.prog 99 [.agg [.sl (l.map ai)]] (.bool (nD l)):=by
 refine ah.body dY rfl fun hl n0=>?_
 have hlen:l.length<=9223372036854775807:=by
  have h1:=(hl (.agg [.sl (l.map ai)]) (by simp)).IM (a:=.sl (l.map ai)) (by simp)
  simpa using h1.len
 clear hl
 (try((repeat(revert hN;revert N;apply Pn.out));refine wk @Nat.zero_add ?_;(repeat(refine Pn.mk ?_;intro N hN))))
 refine aT (fun n env st=>∃k:Nat,n=(l.length)-k/\k<=(l.length)/\env 8=.int .i64 (k:Int)/\st.get ⟨99000000,n0⟩=some ⟨true,1,[[.sl (l.map ai)]]⟩/\(∀j:Nat,j<k->DR l j)) (l.length) ⟨0,ab,ab,sl @Nat.zero_add,sl @Nat.zero_add,fun _ h=>absurd h (Nat.not_lt_zero _)⟩ ?_
 rintro n_a env_a st_a ⟨k,rfl,ale,a8,ag0,kZ⟩ dE
 have a1:=dE 1 (by kernel_rfl);have a6:=dE 6 (by kernel_rfl);have a7:=dE 7 (by kernel_rfl)
 simp only[go_sem, ↓reduceIte,Nat.reduceEqDiff,Nat.reduceAdd,Nat.reduceSub,Nat.reduceLeDiff,reduceCtorEq]at a1 a6 a7
 clear dE
 by_cases hk:(k:Int)<(l.length:Int)
 ·have bW:∀{e:Env} {gg:Rows},(e 8=.int .i64 (IntKind.i64.wrap ((k:Int)+1)))->(gg ⟨99000000,n0⟩=some ⟨true,1,[[.sl (l.map ai)]]⟩)->(DR l k)->∃m0,m0<(l.length)-k/\∃k:Nat,m0=(l.length)-k/\k<=(l.length)/\e 8=.int .i64 (k:Int)/\gg ⟨99000000,n0⟩=some ⟨true,1,[[.sl (l.map ai)]]⟩/\(∀j:Nat,j<k->DR l j):=fun x1 x2 x3=>⟨_,ab,k+1,rfl,ab,(by rw[x1,aA ab]),x2,(all_succ kZ x3)⟩
  have fw:k<l.length:=ab
  have eO:=gz fw
  have gR:(¬DR l k)->¬j9 l:=fun h hp=>h (hp.ok k fw)
  have hp:=xh (bB l k).cI
  have ht:=wM (bB l k).bJ 160 ab ab
  rw[show(160:Int)-1=159 from rfl]at ht
  cases b1:Cg (bB l k).cI
  ·rw[b1]at hp
   (repeat(first|((repeat(revert hN;revert N;apply Pn.out));refine wk (tw @a8 (tw @ag0 (tw @a1 (tw @a6 (tw @a7 (tw @hk (tw @eO (tw @ai.eq_1 @ao.eq_1)))))))) ?_;(repeat(refine Pn.mk ?_;intro N hN)))|((try apply Or.inl);refine⟨_,ah.x (hp) (sd (tw @a8 (tw @ag0 (tw @a1 (tw @a6 (tw @a7 (tw @hk (tw @eO (tw @ai.eq_1 @ao.eq_1))))))))),?_⟩;refine hN _ _ ?_;clear hN N)))
   exact aO (b:=false) (.inl rfl) (sd @Nat.zero_add) (jH (gR fun h=>by rw[DR,b1]at h;cases h.1))
  rw[b1]at hp
  cases b2:g9 (bB l k).bJ 0 159
  ·rw[b2]at ht
   (repeat(first|((repeat(revert hN;revert N;apply Pn.out));refine wk (tw @a8 (tw @ag0 (tw @a1 (tw @a6 (tw @a7 (tw @hk (tw @eO (tw @ai.eq_1 @ao.eq_1)))))))) ?_;(repeat(refine Pn.mk ?_;intro N hN)))|((try apply Or.inl);refine⟨_,ah.x (hp) (sd (tw @a8 (tw @ag0 (tw @a1 (tw @a6 (tw @a7 (tw @hk (tw @eO (tw @ai.eq_1 @ao.eq_1))))))))),?_⟩;refine hN _ _ ?_;clear hN N)|((try apply Or.inl);refine⟨_,ah.x (ht) (sd (tw @a8 (tw @ag0 (tw @a1 (tw @a6 (tw @a7 (tw @hk (tw @eO (tw @ai.eq_1 @ao.eq_1))))))))),?_⟩;refine hN _ _ ?_;clear hN N)))
   exact aO (b:=false) (.inl rfl) (sd @Nat.zero_add) (jH (gR fun h=>by rw[DR,b2]at h;cases h.2.1))
  rw[b2]at ht
  by_cases h0:(0:Int)<(k:Int)
  ·have tQ:=gz (l:=l) (i:=k-1) ab
   have hw:IntKind.i64.wrap ((k:Int)-1)=((k-1:Nat):Int):=by rw[bd ab];omega
   have hq:=Jy (bB l (k-1)).cI (bB l k).cI
   cases b3:qi (bB l (k-1)).cI (bB l k).cI
   ·rw[b3]at hq
    (repeat(first|((repeat(revert hN;revert N;apply Pn.out));refine wk (tw @a8 (tw @ag0 (tw @a1 (tw @a6 (tw @a7 (tw @hk (tw @eO (tw @tQ (tw @h0 (tw @hw (tw @ai.eq_1 @ao.eq_1))))))))))) ?_;(repeat(refine Pn.mk ?_;intro N hN)))|((try apply Or.inl);refine⟨_,ah.x (hp) (sd (tw @a8 (tw @ag0 (tw @a1 (tw @a6 (tw @a7 (tw @hk (tw @eO (tw @tQ (tw @h0 (tw @hw (tw @ai.eq_1 @ao.eq_1)))))))))))),?_⟩;refine hN _ _ ?_;clear hN N)|((try apply Or.inl);refine⟨_,ah.x (ht) (sd (tw @a8 (tw @ag0 (tw @a1 (tw @a6 (tw @a7 (tw @hk (tw @eO (tw @tQ (tw @h0 (tw @hw (tw @ai.eq_1 @ao.eq_1)))))))))))),?_⟩;refine hN _ _ ?_;clear hN N)|((try apply Or.inl);refine⟨_,ah.x (hq) (sd (tw @a8 (tw @ag0 (tw @a1 (tw @a6 (tw @a7 (tw @hk (tw @eO (tw @tQ (tw @h0 (tw @hw (tw @ai.eq_1 @ao.eq_1)))))))))))),?_⟩;refine hN _ _ ?_;clear hN N)))
    exact aO (b:=false) (.inl rfl) (sd @Nat.zero_add) (jH (gR fun h=>by have:=h.2.2 ab;rw[b3]at this;cases this))
   ·rw[b3]at hq
    (repeat(first|((repeat(revert hN;revert N;apply Pn.out));refine wk (tw @a8 (tw @ag0 (tw @a1 (tw @a6 (tw @a7 (tw @hk (tw @eO (tw @tQ (tw @h0 (tw @hw (tw @ai.eq_1 @ao.eq_1))))))))))) ?_;(repeat(refine Pn.mk ?_;intro N hN)))|((try apply Or.inl);refine⟨_,ah.x (hp) (sd (tw @a8 (tw @ag0 (tw @a1 (tw @a6 (tw @a7 (tw @hk (tw @eO (tw @tQ (tw @h0 (tw @hw (tw @ai.eq_1 @ao.eq_1)))))))))))),?_⟩;refine hN _ _ ?_;clear hN N)|((try apply Or.inl);refine⟨_,ah.x (ht) (sd (tw @a8 (tw @ag0 (tw @a1 (tw @a6 (tw @a7 (tw @hk (tw @eO (tw @tQ (tw @h0 (tw @hw (tw @ai.eq_1 @ao.eq_1)))))))))))),?_⟩;refine hN _ _ ?_;clear hN N)|((try apply Or.inl);refine⟨_,ah.x (hq) (sd (tw @a8 (tw @ag0 (tw @a1 (tw @a6 (tw @a7 (tw @hk (tw @eO (tw @tQ (tw @h0 (tw @hw (tw @ai.eq_1 @ao.eq_1)))))))))))),?_⟩;refine hN _ _ ?_;clear hN N)))
    refine bW ?_ ?_ (⟨b1,b2,fun _=>b3⟩)
    all_goals simp only[go_sem, ↓reduceIte,Nat.reduceEqDiff,Nat.reduceAdd,Nat.reduceSub,Nat.reduceLeDiff,reduceCtorEq,a8,ag0,a1,a6,a7]
  ·have s8:k=0:=ab
   (repeat(first|((repeat(revert hN;revert N;apply Pn.out));refine wk (tw @a8 (tw @ag0 (tw @a1 (tw @a6 (tw @a7 (tw @hk (tw @eO (tw @h0 (tw @ai.eq_1 @ao.eq_1))))))))) ?_;(repeat(refine Pn.mk ?_;intro N hN)))|((try apply Or.inl);refine⟨_,ah.x (hp) (sd (tw @a8 (tw @ag0 (tw @a1 (tw @a6 (tw @a7 (tw @hk (tw @eO (tw @h0 (tw @ai.eq_1 @ao.eq_1)))))))))),?_⟩;refine hN _ _ ?_;clear hN N)|((try apply Or.inl);refine⟨_,ah.x (ht) (sd (tw @a8 (tw @ag0 (tw @a1 (tw @a6 (tw @a7 (tw @hk (tw @eO (tw @h0 (tw @ai.eq_1 @ao.eq_1)))))))))),?_⟩;refine hN _ _ ?_;clear hN N)))
   refine bW ?_ ?_ (⟨b1,b2,fun h=>ab⟩)
   all_goals simp only[go_sem, ↓reduceIte,Nat.reduceEqDiff,Nat.reduceAdd,Nat.reduceSub,Nat.reduceLeDiff,reduceCtorEq,a8,ag0,a1,a6,a7]
 ·(try((repeat(revert hN;revert N;apply Pn.out));refine wk (tw @a8 (tw @ag0 (tw @a1 (tw @a6 (tw @a7 @hk))))) ?_;(repeat(refine Pn.mk ?_;intro N hN))))
  refine aO (b:=decide ((l.length:Int)<=500)) (.inl rfl) (sd @Nat.zero_add) ?_
  by_cases h5:(l.length:Int)<=500
  ·rw[decide_eq_true h5];exact wo ⟨ab,fun i hi=>kZ i ab⟩
  ·rw[decide_eq_false h5];exact jH fun h=>by have:=h.FN;omega
end Go.Proofs.YtihgaadadaekmaaGreat.V
