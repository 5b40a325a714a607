/- The laws' helpers of systems: sizes. -/
import Derived.Test.YtgoelphibofcmaaGreatAwB
import Derived.Test.YtgoelphibofcmaaGreatChecked
import Derived.OwnWalk
import Derived.Test.YtgoelphibofcmaaGreatAwA
import Derived.Shelf.RegionOpenPlain
import Derived.Lib.Walk
import Derived.Lib.SliceRun
import Derived.Lib.AppendZerosOnto
import Derived.Lib.Overlaps
import Derived.Laws.Externs
import Derived.Laws.IdiomCopy
import Derived.Laws.NewBlocks
set_option linter.unusedVariables false
set_option linter.unusedSimpArgs false
set_option maxRecDepth 100000
set_option maxHeartbeats 16000000
namespace Go.Proofs.YtgoelphibofcmaaGreat.V
open Go.RowKit
attribute [local irreducible] eh wpOps fI Call
attribute [local go_sem] aM fj eJ fF fE da upd cu K.av cI AV.cells AV.cell rowOf rowsOf part ld rowAt bK bV dq dM gy bD cY dY fA eS dk dR cW cV dD dE bG bc cL bF cP cN dO dS dQ cK bL cX dN bE aO cR cz gx bm cH bH aY dp bl dr AV.undef bt bz dF dL dy dC cF dX eb cw dV dU cQ cU List.getD_cons_zero List.getD_cons_succ List.getD_nil List.all_cons List.all_nil Bool.and_true Bool.true_and Bool.and_self Bool.not_true Bool.not_false Option.map_some Option.map_none Option.bind_some Option.bind_none List.length_cons List.length_nil List.take_succ_cons List.take_zero List.take_nil List.drop_succ_cons List.drop_zero List.drop_nil List.head?_cons List.map_cons List.map_nil List.getElem?_cons_zero List.getElem?_cons_succ List.cons_append List.nil_append List.append_nil List.length_map List.set_cons_zero List.set_cons_succ Nat.reduceMul eq_self Int.toNat_natCast Int.natCast_nonneg and_self true_and and_true decide_true decide_false Bool.false_eq_true Nat.zero_add Nat.add_zero List.contains_cons List.contains_nil Bool.or_false Bool.false_or beq_self_eq_true Nat.reduceBEq ne_eq not_true_eq_false not_false_eq_true Id.mk.injEq false_and and_false Nat.reduceLT Int.reduceLE Int.reduceLT Int.reduceToNat Int.reduceNeg Int.reduceAdd Nat.le_refl List.length_append beq_true beq_false Bool.not_eq_eq_eq_not or_false false_or dK aj ar aH bd br bW aT aZ aU bf cJ bw
theorem A6 (x:fy) (g:Rows):dd g 6 [.agg (bU x)]=some [.agg (bU x)]:=by simp[bU,aj,ar,aZ,br,aH]
theorem A7 (x:eR) (g:Rows):dd g 6 [.agg (bR x)]=some [.agg (bR x)]:=by simp[bR,aj,ar,aZ,br,bW]
theorem C1 (x:ah) (g:Rows):dd g 6 [.agg (aa x)]=some [.agg (aa x)]:=by simp[aa,aj,ar,aZ,aH]
theorem iv {n:Nat} {l:Int} (h:(n:Int)<=l):xG n l=l-n:=if_pos h
theorem iE {n:Nat} {l:Int} (h:¬(n:Int)<=l):xG n l= -1:=if_neg h
def ke (t:eR):Nat:=t.aL.size+t.bI.length
def uh (s:ax):Nat:=(s.aA.length+(s.aA.map fun g=>g.aL.size).sum)+(s.aq.length+(s.aq.map ke).sum)
def wY (s:aI):Nat:=uh s.aD+s.bx.aq.length
def fm (s:ax):Prop:=(∀g∈s.aA,g.aL.size<=9223372036854775807)/\∀t∈s.aq,t.aL.size<=9223372036854775807
theorem Jl (g:fy) (l:Int) (h0:0<=l) (h1:l<=1048576) (hs:g.aL.size<=9223372036854775807):au Tryz.prog 154 [.agg (bU g),.int .i64 l] (.int .i64 (xG g.aL.size l)):=by
 refine au.body eG rfl fun hl n0=>?_
 clear hl
 have hw:IntKind.i64.wrap (l-(g.aL.size:Int))=l-g.aL.size:=bQ (by omega)
 by_cases hf:(g.aL.size:Int)<=l
 ·have kg:¬l-(g.aL.size:Int)<0:=by omega
  (try((repeat(revert hN;revert N;apply Pn.out));refine wk (tw @bU.eq_1 (tw @hw @kg)) ?_;(repeat(refine Pn.mk ?_;intro N hN))))
  exact cm (b:=l-(g.aL.size:Int)) (.inl rfl) (sd @Nat.zero_add) (iv hf).symm
 ·have kg:l-(g.aL.size:Int)<0:=by omega
  (try((repeat(revert hN;revert N;apply Pn.out));refine wk (tw @bU.eq_1 (tw @hw @kg)) ?_;(repeat(refine Pn.mk ?_;intro N hN))))
  exact cm (b:=-1) (.inl rfl) (sd @Nat.zero_add) (iE hf).symm
theorem Jm (xs:List Int) (l:Int) (h0:0<=l) (h1:l<=1048576):au Tryz.prog 188 [.sl (xs.map bu),.int .i64 l] (.int .i64 (xG xs.length l)):=by
 have h:=Jo (show lZ Tryz.prog 188=some (Jn 188) by kernel_rfl) (xs.map bu) l h0 h1
 rwa [List.length_map]at h
theorem Jr (t:eR) (l:Int) (h0:0<=l) (h1:l<=1048576) (hs:t.aL.size<=9223372036854775807):au Tryz.prog 155 [.agg (bR t),.int .i64 l] (.int .i64 (xG (ke t) l)):=by
 refine au.body eG rfl fun hl n0=>?_
 clear hl
 have hw:IntKind.i64.wrap (l-(t.aL.size:Int))=l-t.aL.size:=bQ (by omega)
 by_cases hf:(t.aL.size:Int)<=l
 ·have kg:¬l-(t.aL.size:Int)<0:=by omega
  have hc:=Jm t.bI (l-t.aL.size) (by omega) (by omega)
  by_cases hg:(t.bI.length:Int)<=l-t.aL.size
  ·rw[iv hg]at hc
   have EH:¬l-(t.aL.size:Int)-(t.bI.length:Int)<0:=by omega
   (repeat(first|((repeat(revert hN;revert N;apply Pn.out));refine wk (tw @bR.eq_1 (tw @hw (tw @kg @EH))) ?_;(repeat(refine Pn.mk ?_;intro N hN)))|((try apply Or.inl);refine⟨_,au.x (hc) (sd (tw @bR.eq_1 (tw @hw (tw @kg @EH)))),?_⟩;refine hN _ _ ?_;clear hN N)))
   exact cm (b:=l-(t.aL.size:Int)-(t.bI.length:Int)) (.inl rfl) (sd @Nat.zero_add) (by rw[iv (by unfold ke;omega)];unfold ke;omega)
  ·rw[iE hg]at hc
   (repeat(first|((repeat(revert hN;revert N;apply Pn.out));refine wk (tw @bR.eq_1 (tw @hw @kg)) ?_;(repeat(refine Pn.mk ?_;intro N hN)))|((try apply Or.inl);refine⟨_,au.x (hc) (sd (tw @bR.eq_1 (tw @hw @kg))),?_⟩;refine hN _ _ ?_;clear hN N)))
   exact cm (b:=-1) (.inl rfl) (sd @Nat.zero_add) (iE (by unfold ke;omega)).symm
 ·have kg:l-(t.aL.size:Int)<0:=by omega
  (try((repeat(revert hN;revert N;apply Pn.out));refine wk (tw @bR.eq_1 (tw @hw @kg)) ?_;(repeat(refine Pn.mk ?_;intro N hN))))
  exact cm (b:=-1) (.inl rfl) (sd @Nat.zero_add) (iE (by unfold ke;omega)).symm
theorem GG (xs:List fy) (l:Int) (h0:0<=l) (h1:l<=1048576) (hs:∀g∈xs,g.aL.size<=9223372036854775807):au Tryz.prog 94 [.sl (xs.map bU),.int .i64 l] (.int .i64 (xG (xs.length+(xs.map fun g=>g.aL.size).sum) l)):=
 Jq (fun g:fy=>g.aL.size) (show lZ Tryz.prog 94=some (Jp 94 154 2) by kernel_rfl) (fun _=>rfl) A6 xs l h0 h1 fun x hx l a b=>Jl x l a b (hs x hx)
theorem GH (xs:List eR) (l:Int) (h0:0<=l) (h1:l<=1048576) (hs:∀t∈xs,t.aL.size<=9223372036854775807):au Tryz.prog 95 [.sl (xs.map bR),.int .i64 l] (.int .i64 (xG (xs.length+(xs.map ke).sum) l)):=
 Jq ke (show lZ Tryz.prog 95=some (Jp 95 155 2) by kernel_rfl) (fun _=>rfl) A7 xs l h0 h1 fun x hx l a b=>Jr x l a b (hs x hx)
theorem DZ (xs:List ah) (l:Int) (h0:0<=l) (h1:l<=1048576):au Tryz.prog 57 [.sl (xs.map aa),.int .i64 l] (.int .i64 (xG xs.length l)):=by
 have h:=Jo (show lZ Tryz.prog 57=some (Jn 57) by kernel_rfl) (xs.map aa) l h0 h1
 rwa [List.length_map]at h
theorem B8 (s:ax) (l:Int) (h0:0<=l) (h1:l<=1048576) (hs:fm s):au Tryz.prog 56 [.agg (ae s),.int .i64 l] (.int .i64 (xG (uh s) l)):=by
 refine au.body eG rfl fun hl n0=>?_
 clear hl
 have ha:=GG s.aA l h0 h1 hs.1
 have he:uh s=(s.aA.length+(s.aA.map fun g=>g.aL.size).sum)+(s.aq.length+(s.aq.map ke).sum):=rfl
 by_cases hf:((s.aA.length+(s.aA.map fun g=>g.aL.size).sum:Nat):Int)<=l
 ·rw[iv hf]at ha
  obtain⟨A,hA⟩:∃A:Int,A=l-((s.aA.length+(s.aA.map fun g=>g.aL.size).sum:Nat):Int):=⟨_,rfl⟩
  rw[<-hA]at ha
  have kg:¬A<0:=by omega
  have hb:=GH s.aq A (by omega) (by omega) hs.2
  by_cases hg:((s.aq.length+(s.aq.map ke).sum:Nat):Int)<=A
  ·rw[iv hg]at hb
   obtain⟨B,hB⟩:∃B:Int,B=A-((s.aq.length+(s.aq.map ke).sum:Nat):Int):=⟨_,rfl⟩
   rw[<-hB]at hb
   have EH:¬B<0:=by omega
   (repeat(first|((repeat(revert hN;revert N;apply Pn.out));refine wk (tw @ae.eq_1 (tw @kg @EH)) ?_;(repeat(refine Pn.mk ?_;intro N hN)))|((try apply Or.inl);refine⟨_,au.x (ha) (sd (tw @ae.eq_1 (tw @kg @EH))),?_⟩;refine hN _ _ ?_;clear hN N)|((try apply Or.inl);refine⟨_,au.x (hb) (sd (tw @ae.eq_1 (tw @kg @EH))),?_⟩;refine hN _ _ ?_;clear hN N)))
   exact cm (b:=B) (.inl rfl) (sd @Nat.zero_add) (by rw[iv (by omega)];omega)
  ·rw[iE hg]at hb
   (repeat(first|((repeat(revert hN;revert N;apply Pn.out));refine wk (tw @ae.eq_1 @kg) ?_;(repeat(refine Pn.mk ?_;intro N hN)))|((try apply Or.inl);refine⟨_,au.x (ha) (sd (tw @ae.eq_1 @kg)),?_⟩;refine hN _ _ ?_;clear hN N)|((try apply Or.inl);refine⟨_,au.x (hb) (sd (tw @ae.eq_1 @kg)),?_⟩;refine hN _ _ ?_;clear hN N)))
   exact cm (b:=-1) (.inl rfl) (sd @Nat.zero_add) (iE (by omega)).symm
 ·rw[iE hf]at ha
  (repeat(first|((repeat(revert hN;revert N;apply Pn.out));refine wk @ae.eq_1 ?_;(repeat(refine Pn.mk ?_;intro N hN)))|((try apply Or.inl);refine⟨_,au.x (ha) (sd @ae.eq_1),?_⟩;refine hN _ _ ?_;clear hN N)))
  exact cm (b:=-1) (.inl rfl) (sd @Nat.zero_add) (iE (by omega)).symm
theorem rX (a:ee) (l:Int) (h0:0<=l) (h1:l<=1048576):au Tryz.prog 15 [.agg (aV a),.int .i64 l] (.int .i64 (xG a.aq.length l)):=by
 refine au.body eG rfl fun hl n0=>?_
 clear hl
 have ha:=DZ a.aq l h0 h1
 by_cases hf:(a.aq.length:Int)<=l
 ·rw[iv hf]at ha
  have kg:¬l-(a.aq.length:Int)<0:=by omega
  (repeat(first|((repeat(revert hN;revert N;apply Pn.out));refine wk (tw @aV.eq_1 @kg) ?_;(repeat(refine Pn.mk ?_;intro N hN)))|((try apply Or.inl);refine⟨_,au.x (ha) (sd (tw @aV.eq_1 @kg)),?_⟩;refine hN _ _ ?_;clear hN N)))
  exact cm (b:=l-(a.aq.length:Int)) (.inl rfl) (sd @Nat.zero_add) (iv hf).symm
 ·rw[iE hf]at ha
  (repeat(first|((repeat(revert hN;revert N;apply Pn.out));refine wk @aV.eq_1 ?_;(repeat(refine Pn.mk ?_;intro N hN)))|((try apply Or.inl);refine⟨_,au.x (ha) (sd @aV.eq_1),?_⟩;refine hN _ _ ?_;clear hN N)))
  exact cm (b:=-1) (.inl rfl) (sd @Nat.zero_add) (iE hf).symm
theorem D4 (s:aI) (l:Int) (h0:0<=l) (h1:l<=1048576) (hs:fm s.aD):au Tryz.prog 14 [.agg (az s),.int .i64 l] (.int .i64 (xG (wY s) l)):=by
 refine au.body eG rfl fun hl n0=>?_
 clear hl
 have ha:=B8 s.aD l h0 h1 hs
 rw[ae]at ha
 have he:wY s=uh s.aD+s.bx.aq.length:=rfl
 by_cases hf:(uh s.aD:Int)<=l
 ·rw[iv hf]at ha
  have kg:¬l-(uh s.aD:Int)<0:=by omega
  have hb:=rX s.bx (l-uh s.aD) (by omega) (by omega)
  rw[aV]at hb
  by_cases hg:(s.bx.aq.length:Int)<=l-uh s.aD
  ·rw[iv hg]at hb
   have EH:¬l-(uh s.aD:Int)-(s.bx.aq.length:Int)<0:=by omega
   (repeat(first|((repeat(revert hN;revert N;apply Pn.out));refine wk (tw @az.eq_1 (tw @kg @EH)) ?_;(repeat(refine Pn.mk ?_;intro N hN)))|((try apply Or.inl);refine⟨_,au.x (ha) (sd (tw @az.eq_1 (tw @kg @EH))),?_⟩;refine hN _ _ ?_;clear hN N)|((try apply Or.inl);refine⟨_,au.x (hb) (sd (tw @az.eq_1 (tw @kg @EH))),?_⟩;refine hN _ _ ?_;clear hN N)))
   exact cm (b:=l-(uh s.aD:Int)-(s.bx.aq.length:Int)) (.inl rfl) (sd @Nat.zero_add) (by rw[iv (by omega)];omega)
  ·rw[iE hg]at hb
   (repeat(first|((repeat(revert hN;revert N;apply Pn.out));refine wk (tw @az.eq_1 @kg) ?_;(repeat(refine Pn.mk ?_;intro N hN)))|((try apply Or.inl);refine⟨_,au.x (ha) (sd (tw @az.eq_1 @kg)),?_⟩;refine hN _ _ ?_;clear hN N)|((try apply Or.inl);refine⟨_,au.x (hb) (sd (tw @az.eq_1 @kg)),?_⟩;refine hN _ _ ?_;clear hN N)))
   exact cm (b:=-1) (.inl rfl) (sd @Nat.zero_add) (iE (by omega)).symm
 ·rw[iE hf]at ha
  (repeat(first|((repeat(revert hN;revert N;apply Pn.out));refine wk @az.eq_1 ?_;(repeat(refine Pn.mk ?_;intro N hN)))|((try apply Or.inl);refine⟨_,au.x (ha) (sd @az.eq_1),?_⟩;refine hN _ _ ?_;clear hN N)))
  exact cm (b:=-1) (.inl rfl) (sd @Nat.zero_add) (iE (by omega)).symm
end Go.Proofs.YtgoelphibofcmaaGreat.V

namespace Go.Proofs.YtgoelphibofcmaaGreat.V
open Go.RowKit
attribute [local irreducible] eh wpOps fI Call
attribute [local go_sem] aM fj eJ fF fE da upd cu K.av cI AV.cells AV.cell rowOf rowsOf part ld rowAt bK bV dq dM gy bD cY dY fA eS dk dR cW cV dD dE bG bc cL bF cP cN dO dS dQ cK bL cX dN bE aO cR cz gx bm cH bH aY dp bl dr AV.undef bt bz dF dL dy dC cF dX eb cw dV dU cQ cU List.getD_cons_zero List.getD_cons_succ List.getD_nil List.all_cons List.all_nil Bool.and_true Bool.true_and Bool.and_self Bool.not_true Bool.not_false Option.map_some Option.map_none Option.bind_some Option.bind_none List.length_cons List.length_nil List.take_succ_cons List.take_zero List.take_nil List.drop_succ_cons List.drop_zero List.drop_nil List.head?_cons List.map_cons List.map_nil List.getElem?_cons_zero List.getElem?_cons_succ List.cons_append List.nil_append List.append_nil List.length_map List.set_cons_zero List.set_cons_succ Nat.reduceMul eq_self Int.toNat_natCast Int.natCast_nonneg and_self true_and and_true decide_true decide_false Bool.false_eq_true Nat.zero_add Nat.add_zero List.contains_cons List.contains_nil Bool.or_false Bool.false_or beq_self_eq_true Nat.reduceBEq ne_eq not_true_eq_false not_false_eq_true Id.mk.injEq false_and and_false Nat.reduceLT Int.reduceLE Int.reduceLT Int.reduceToNat Int.reduceNeg Int.reduceAdd Nat.le_refl List.length_append beq_true beq_false Bool.not_eq_eq_eq_not or_false false_or dK aj ar aH bd br bW aT aZ aU bf cJ bw
theorem Ls (x:fy) (g:Rows):dd g 5 (bU x)=some (bU x):=by simp[bU,aj,ar,br,aH]
theorem Lt (x:eR) (g:Rows):dd g 5 (bR x)=some (bR x):=by simp[bR,aj,ar,br,bW]
theorem Gu (x:ah) (g:Rows):dd g 5 (aa x)=some (aa x):=by simp[aa,aj,ar,aH]
theorem s9 (p:aE):iU Tryz.prog 82 [.agg (ai p)] (.agg (ai p)):=by
 refine iU.body eG rfl fun hl σ=>?_
 clear hl
 (try((repeat(revert hN;revert N;apply Pn.out));refine wk @ai.eq_1 ?_;(repeat(refine Pn.mk ?_;intro N hN))))
 exact wD (.inl rfl) (vs:=[.agg (ai p)]) (by simp only[go_sem, ↓reduceIte,Nat.reduceEqDiff,Nat.reduceAdd,Nat.reduceSub,Nat.reduceLeDiff,reduceCtorEq,ft,ij,ai]) (by simp[fh,ai,aZ,aj,ar,aH])
theorem D7 (p:ah):iU Tryz.prog 104 [.agg (aa p)] (.agg (aa p)):=by
 refine iU.body eG rfl fun hl σ=>?_
 clear hl
 have h:=s9 p.aW
 rw[ai]at h
 (repeat(first|((repeat(revert hN;revert N;apply Pn.out));refine wk @aa.eq_1 ?_;(repeat(refine Pn.mk ?_;intro N hN)))|((try apply Or.inl);refine⟨_,iU.x (h) _,?_⟩;refine hN _ _ ?_;clear hN N)))
 exact wD (.inl rfl) (vs:=[.agg (aa p)]) (by simp only[go_sem, ↓reduceIte,Nat.reduceEqDiff,Nat.reduceAdd,Nat.reduceSub,Nat.reduceLeDiff,reduceCtorEq,ft,ij,aa]) (by simp[fh,aa,aZ,aj,ar,aH])
theorem JB (p:fy):iU Tryz.prog 161 [.agg (bU p)] (.agg (bU p)):=by
 refine iU.body eG rfl fun hl σ=>?_
 clear hl
 (try((repeat(revert hN;revert N;apply Pn.out));refine wk @bU.eq_1 ?_;(repeat(refine Pn.mk ?_;intro N hN))))
 exact wD (.inl rfl) (vs:=[.agg (bU p)]) (by simp only[go_sem, ↓reduceIte,Nat.reduceEqDiff,Nat.reduceAdd,Nat.reduceSub,Nat.reduceLeDiff,reduceCtorEq,ft,ij,bU]) (by simp[fh,bU,aZ,aj,ar,aH,br])
theorem JD (xs:List Int) (h:xs.length<=1048576):iU Tryz.prog 195 [.sl (xs.map bu)] (.sl (xs.map bu)):=
 QQ (show lZ Tryz.prog 195=some (JE 195 (.int .i64 0)) by kernel_rfl) xs h
def sk (t:eR):Prop:=t.bI.length<=1048576
theorem JG (p:eR) (hs:sk p):iU Tryz.prog 162 [.agg (bR p)] (.agg (bR p)):=by
 refine iU.body eG rfl fun hl σ=>?_
 clear hl
 have h:=JD p.bI hs
 (repeat(first|((repeat(revert hN;revert N;apply Pn.out));refine wk @bR.eq_1 ?_;(repeat(refine Pn.mk ?_;intro N hN)))|((try apply Or.inl);refine⟨_,iU.x (h) _,?_⟩;refine hN _ _ ?_;clear hN N)))
 exact wD (.inl rfl) (vs:=[.agg (bR p)]) (by simp only[go_sem, ↓reduceIte,Nat.reduceEqDiff,Nat.reduceAdd,Nat.reduceSub,Nat.reduceLeDiff,reduceCtorEq,ft,ij,bR]) (by simp[fh,bR,aZ,aj,ar,bW,br])
theorem HN (xs ys:List Int):au Tryz.prog 30 [.sl (xs.map bu),.sl (ys.map bu)] (.bool (decide (xs=ys))):=
 Pz (show lZ Tryz.prog 30=some (LX 30 .tI) by kernel_rfl) xs ys
theorem HO (a b:eR):au Tryz.prog 170 [.agg (bR a),.agg (bR b)] (.bool (decide (a=b))):=by
 refine au.body eG rfl fun hl n0=>?_
 clear hl
 have h:=HN a.bI b.bI
 by_cases h1:a.aL=b.aL
 ·have e1:decide (a.aL=b.aL)=true:=decide_eq_true h1
  by_cases h2:a.bI=b.bI
  ·rw[decide_eq_true h2]at h
   (repeat(first|((repeat(revert hN;revert N;apply Pn.out));refine wk (tw @bR.eq_1 @e1) ?_;(repeat(refine Pn.mk ?_;intro N hN)))|((try apply Or.inl);refine⟨_,au.x (h) (sd (tw @bR.eq_1 @e1)),?_⟩;refine hN _ _ ?_;clear hN N)))
   exact aX (b:=true) (.inl rfl) (sd @Nat.zero_add) (decide_eq_true (by cases a;cases b;simp_all)).symm
  ·rw[decide_eq_false h2]at h
   (repeat(first|((repeat(revert hN;revert N;apply Pn.out));refine wk (tw @bR.eq_1 @e1) ?_;(repeat(refine Pn.mk ?_;intro N hN)))|((try apply Or.inl);refine⟨_,au.x (h) (sd (tw @bR.eq_1 @e1)),?_⟩;refine hN _ _ ?_;clear hN N)))
   exact aX (b:=false) (.inl rfl) (sd @Nat.zero_add) (decide_eq_false (by rintro rfl;exact h2 rfl)).symm
 ·have e1:decide (a.aL=b.aL)=false:=decide_eq_false h1
  (try((repeat(revert hN;revert N;apply Pn.out));refine wk (tw @bR.eq_1 @e1) ?_;(repeat(refine Pn.mk ?_;intro N hN))))
  exact aX (b:=false) (.inl rfl) (sd @Nat.zero_add) (decide_eq_false (by rintro rfl;exact h1 rfl)).symm
theorem GM (xs:List fy) (h:xs.length<=1048576):iU Tryz.prog 102 [.sl (xs.map bU)] (.sl (xs.map bU)):=
 D8 (show lZ Tryz.prog 102=some (tO 102 161 2 [.str [],.int .i64 0]) by kernel_rfl) rfl (fun _=>rfl) (fun _=>rfl) Ls xs h fun x _=>JB x
theorem GO (xs:List eR) (h:xs.length<=1048576) (hs:∀t∈xs,sk t):iU Tryz.prog 103 [.sl (xs.map bR)] (.sl (xs.map bR)):=
 D8 (show lZ Tryz.prog 103=some (tO 103 162 2 [.str [],.bq]) by kernel_rfl) rfl (fun _=>rfl) (fun _=>rfl) Lt xs h fun x hx=>JG x (hs x hx)
theorem Cc (xs:List ah) (h:xs.length<=1048576):iU Tryz.prog 62 [.sl (xs.map aa)] (.sl (xs.map aa)):=
 D8 (show lZ Tryz.prog 62=some (tO 62 104 3 [.int .i64 0,.int .i64 0,.int .i64 0]) by kernel_rfl) rfl (fun _=>rfl) (fun _=>rfl) Gu xs h fun x _=>D7 x
structure Hl (s:ax):Prop where
 g:s.aA.length<=1048576
 t:s.aq.length<=1048576
 s:∀t∈s.aq,sk t
structure nu (y:aI):Prop where
 s:Hl y.aD
 a:y.bx.aq.length<=1048576
theorem Ce (p:ax) (hs:Hl p):iU Tryz.prog 61 [.agg (ae p)] (.agg (ae p)):=by
 refine iU.body eG rfl fun hl σ=>?_
 clear hl
 have h1:=GM p.aA hs.g
 have h2:=GO p.aq hs.t hs.s
 (repeat(first|((repeat(revert hN;revert N;apply Pn.out));refine wk @ae.eq_1 ?_;(repeat(refine Pn.mk ?_;intro N hN)))|((try apply Or.inl);refine⟨_,iU.x (h1) _,?_⟩;refine hN _ _ ?_;clear hN N)|((try apply Or.inl);refine⟨_,iU.x (h2) _,?_⟩;refine hN _ _ ?_;clear hN N)))
 exact wD (.inl rfl) (vs:=[.agg (ae p)]) (by simp only[go_sem, ↓reduceIte,Nat.reduceEqDiff,Nat.reduceAdd,Nat.reduceSub,Nat.reduceLeDiff,reduceCtorEq,ft,ij,ae]) (by simp[fh,ae,aZ,aj,ar,bW])
theorem r5 (p:ee) (hs:p.aq.length<=1048576):iU Tryz.prog 18 [.agg (aV p)] (.agg (aV p)):=by
 refine iU.body eG rfl fun hl σ=>?_
 clear hl
 have h1:=Cc p.aq hs
 (repeat(first|((repeat(revert hN;revert N;apply Pn.out));refine wk @aV.eq_1 ?_;(repeat(refine Pn.mk ?_;intro N hN)))|((try apply Or.inl);refine⟨_,iU.x (h1) _,?_⟩;refine hN _ _ ?_;clear hN N)))
 exact wD (.inl rfl) (vs:=[.agg (aV p)]) (by simp only[go_sem, ↓reduceIte,Nat.reduceEqDiff,Nat.reduceAdd,Nat.reduceSub,Nat.reduceLeDiff,reduceCtorEq,ft,ij,aV]) (by simp[fh,aV,aZ,aj,ar,bW])
theorem Ea (p:aI) (hs:nu p):iU Tryz.prog 17 [.agg (az p)] (.agg (az p)):=by
 refine iU.body eG rfl fun hl σ=>?_
 clear hl
 have h1:=Ce p.aD hs.s
 have h2:=r5 p.bx hs.a
 rw[ae]at h1
 rw[aV]at h2
 (repeat(first|((repeat(revert hN;revert N;apply Pn.out));refine wk @az.eq_1 ?_;(repeat(refine Pn.mk ?_;intro N hN)))|((try apply Or.inl);refine⟨_,iU.x (h1) _,?_⟩;refine hN _ _ ?_;clear hN N)|((try apply Or.inl);refine⟨_,iU.x (h2) _,?_⟩;refine hN _ _ ?_;clear hN N)))
 exact wD (.inl rfl) (vs:=[.agg (az p)]) (by simp only[go_sem, ↓reduceIte,Nat.reduceEqDiff,Nat.reduceAdd,Nat.reduceSub,Nat.reduceLeDiff,reduceCtorEq,ft,ij,az]) (by simp[fh,az,aZ,aj,ar,bW,aH])
theorem HM (a b:fy):au Tryz.prog 169 [.agg (bU a),.agg (bU b)] (.bool (decide (a=b))):=by
 refine au.body eG rfl fun hl n0=>?_
 clear hl
 by_cases h1:a.aL=b.aL
 ·have e1:decide (a.aL=b.aL)=true:=decide_eq_true h1
  by_cases h2:a.eB=b.eB
  ·have e2:decide (a.eB=b.eB)=true:=decide_eq_true h2
   (try((repeat(revert hN;revert N;apply Pn.out));refine wk (tw @bU.eq_1 (tw @e1 @e2)) ?_;(repeat(refine Pn.mk ?_;intro N hN))))
   exact aX (b:=true) (.inl rfl) (sd @Nat.zero_add) (decide_eq_true (by cases a;cases b;simp_all)).symm
  ·have e2:decide (a.eB=b.eB)=false:=decide_eq_false h2
   (try((repeat(revert hN;revert N;apply Pn.out));refine wk (tw @bU.eq_1 (tw @e1 @e2)) ?_;(repeat(refine Pn.mk ?_;intro N hN))))
   exact aX (b:=false) (.inl rfl) (sd @Nat.zero_add) (decide_eq_false (by rintro rfl;exact h2 rfl)).symm
 ·have e1:decide (a.aL=b.aL)=false:=decide_eq_false h1
  (try((repeat(revert hN;revert N;apply Pn.out));refine wk (tw @bU.eq_1 @e1) ?_;(repeat(refine Pn.mk ?_;intro N hN))))
  exact aX (b:=false) (.inl rfl) (sd @Nat.zero_add) (decide_eq_false (by rintro rfl;exact h1 rfl)).symm
theorem FF (a b:aE):au Tryz.prog 29 [.agg (ai a),.agg (ai b)] (.bool (decide (a=b))):=by
 refine au.body eG rfl fun hl n0=>?_
 clear hl
 by_cases h1:a.eZ=b.eZ
 ·have e1:decide (a.eZ=b.eZ)=true:=decide_eq_true h1
  by_cases h2:a.eT=b.eT
  ·have e2:decide (a.eT=b.eT)=true:=decide_eq_true h2
   (try((repeat(revert hN;revert N;apply Pn.out));refine wk (tw @ai.eq_1 (tw @e1 @e2)) ?_;(repeat(refine Pn.mk ?_;intro N hN))))
   exact aX (b:=true) (.inl rfl) (sd @Nat.zero_add) (decide_eq_true (by cases a;cases b;simp_all)).symm
  ·have e2:decide (a.eT=b.eT)=false:=decide_eq_false h2
   (try((repeat(revert hN;revert N;apply Pn.out));refine wk (tw @ai.eq_1 (tw @e1 @e2)) ?_;(repeat(refine Pn.mk ?_;intro N hN))))
   exact aX (b:=false) (.inl rfl) (sd @Nat.zero_add) (decide_eq_false (by rintro rfl;exact h2 rfl)).symm
 ·have e1:decide (a.eZ=b.eZ)=false:=decide_eq_false h1
  (try((repeat(revert hN;revert N;apply Pn.out));refine wk (tw @ai.eq_1 @e1) ?_;(repeat(refine Pn.mk ?_;intro N hN))))
  exact aX (b:=false) (.inl rfl) (sd @Nat.zero_add) (decide_eq_false (by rintro rfl;exact h1 rfl)).symm
theorem CQ (a b:ah):au Tryz.prog 110 [.agg (aa a),.agg (aa b)] (.bool (decide (a=b))):=by
 refine au.body eG rfl fun hl n0=>?_
 clear hl
 have h:=FF a.aW b.aW
 rw[ai,ai]at h
 by_cases h1:a.aW=b.aW
 ·rw[decide_eq_true h1]at h
  by_cases h2:a.aP=b.aP
  ·have e2:decide (a.aP=b.aP)=true:=decide_eq_true h2
   (repeat(first|((repeat(revert hN;revert N;apply Pn.out));refine wk (tw @aa.eq_1 @e2) ?_;(repeat(refine Pn.mk ?_;intro N hN)))|((try apply Or.inl);refine⟨_,au.x (h) (sd (tw @aa.eq_1 @e2)),?_⟩;refine hN _ _ ?_;clear hN N)))
   exact aX (b:=true) (.inl rfl) (sd @Nat.zero_add) (decide_eq_true (by cases a;cases b;simp_all)).symm
  ·have e2:decide (a.aP=b.aP)=false:=decide_eq_false h2
   (repeat(first|((repeat(revert hN;revert N;apply Pn.out));refine wk (tw @aa.eq_1 @e2) ?_;(repeat(refine Pn.mk ?_;intro N hN)))|((try apply Or.inl);refine⟨_,au.x (h) (sd (tw @aa.eq_1 @e2)),?_⟩;refine hN _ _ ?_;clear hN N)))
   exact aX (b:=false) (.inl rfl) (sd @Nat.zero_add) (decide_eq_false (by rintro rfl;exact h2 rfl)).symm
 ·rw[decide_eq_false h1]at h
  (repeat(first|((repeat(revert hN;revert N;apply Pn.out));refine wk @aa.eq_1 ?_;(repeat(refine Pn.mk ?_;intro N hN)))|((try apply Or.inl);refine⟨_,au.x (h) (sd @aa.eq_1),?_⟩;refine hN _ _ ?_;clear hN N)))
  exact aX (b:=false) (.inl rfl) (sd @Nat.zero_add) (decide_eq_false (by rintro rfl;exact h1 rfl)).symm
theorem FE (xs ys:List fy):au Tryz.prog 108 [.sl (xs.map bU),.sl (ys.map bU)] (.bool (decide (xs=ys))):=
 CR (show lZ Tryz.prog 108=some (Ez 108 169 2) by kernel_rfl) (fun _=>rfl) A6 xs ys HM
theorem FH (xs ys:List eR):au Tryz.prog 109 [.sl (xs.map bR),.sl (ys.map bR)] (.bool (decide (xs=ys))):=
 CR (show lZ Tryz.prog 109=some (Ez 109 170 2) by kernel_rfl) (fun _=>rfl) A7 xs ys HO
theorem oE (xs ys:List ah):au Tryz.prog 66 [.sl (xs.map aa),.sl (ys.map aa)] (.bool (decide (xs=ys))):=
 CR (show lZ Tryz.prog 66=some (Ez 66 110 3) by kernel_rfl) (fun _=>rfl) C1 xs ys CQ
theorem CT (a:aI):au Tryz.prog 20 [.agg (az a),.agg (az a)] (.bool true):=by
 have q1:au Tryz.prog 65 [.agg (ae a.aD),.agg (ae a.aD)] (.bool true):=by
  refine au.body eG rfl fun hl n0=>?_
  clear hl
  have h1:=FE a.aD.aA a.aD.aA
  have h2:=FH a.aD.aq a.aD.aq
  rw[decide_eq_true rfl]at h1 h2
  (repeat(first|((repeat(revert hN;revert N;apply Pn.out));refine wk @ae.eq_1 ?_;(repeat(refine Pn.mk ?_;intro N hN)))|((try apply Or.inl);refine⟨_,au.x (h1) (sd @ae.eq_1),?_⟩;refine hN _ _ ?_;clear hN N)|((try apply Or.inl);refine⟨_,au.x (h2) (sd @ae.eq_1),?_⟩;refine hN _ _ ?_;clear hN N)))
  exact aX (b:=true) (.inl rfl) (sd @Nat.zero_add) rfl
 have q2:au Tryz.prog 21 [.agg (aV a.bx),.agg (aV a.bx)] (.bool true):=by
  refine au.body eG rfl fun hl n0=>?_
  clear hl
  have h1:=oE a.bx.aq a.bx.aq
  rw[decide_eq_true rfl]at h1
  (repeat(first|((repeat(revert hN;revert N;apply Pn.out));refine wk @aV.eq_1 ?_;(repeat(refine Pn.mk ?_;intro N hN)))|((try apply Or.inl);refine⟨_,au.x (h1) (sd @aV.eq_1),?_⟩;refine hN _ _ ?_;clear hN N)))
  exact aX (b:=true) (.inl rfl) (sd @Nat.zero_add) rfl
 rw[ae]at q1
 rw[aV]at q2
 refine au.body eG rfl fun hl n0=>?_
 clear hl
 have e:decide (a.ay=a.ay)=true:=decide_eq_true rfl
 (repeat(first|((repeat(revert hN;revert N;apply Pn.out));refine wk (tw @az.eq_1 @e) ?_;(repeat(refine Pn.mk ?_;intro N hN)))|((try apply Or.inl);refine⟨_,au.x (q1) (sd (tw @az.eq_1 @e)),?_⟩;refine hN _ _ ?_;clear hN N)|((try apply Or.inl);refine⟨_,au.x (q2) (sd (tw @az.eq_1 @e)),?_⟩;refine hN _ _ ?_;clear hN N)))
 exact aX (b:=true) (.inl rfl) (sd @Nat.zero_add) rfl
end Go.Proofs.YtgoelphibofcmaaGreat.V

namespace Go.Proofs.YtgoelphibofcmaaGreat.V
open Go.RowKit
def isApp:gp->Bool
 | .append .. =>true
 |_=>false
variable {P:Program} {X:fJ} {K:Env->aw->Prop} {env:Env} {σ:aw}
theorem My {draw:Bool} {o:bB} {r:List bB} (_:isApp o.op=false) (h:∀N:AV->aw->Prop,(∀v s,wpOps X draw r K (upd env o.dst v) s->N v s)->if aM o.guard env then fj X draw o env σ N else N .undef σ):wpOps X draw (o::r) K env σ:=Ol h
end Go.Proofs.YtgoelphibofcmaaGreat.V

namespace Go.Proofs.YtgoelphibofcmaaGreat.V
open Go.RowKit
section
variable {α:Type} {enc:α->List AV} {sz:Nat} {g g':Rows} {a:AV} {xs:List α} {ids:List Id}
end
abbrev Cl (α:Type):=Rows->List AV->α->List Id->Prop
structure xe {α:Type} (R:Cl α) (sz:Nat):Prop where
 frame:∀{g g':Rows} {cs x ids},R g cs x ids->(∀i∈ids,g' i=g i)->R g' cs x ids
 len:∀{g cs x ids},R g cs x ids->cs.length=sz
 cell:∀{g cs x ids},R g cs x ids->cs.all AV.cell=true
 live:∀{g cs x ids},R g cs x ids->∀i∈ids,∃r,g i=some r/\r.w=true/\r.sz<pO
 small:sz<pO
inductive eI {α:Type} (R:Cl α) (g:Rows):List (List AV)->List α->List Id->Prop
 |nil:eI R g [] [] []
 |cons {cs x i1 rs xs i2}:R g cs x i1->eI R g rs xs i2->eI R g (cs::rs) (x::xs) (i1++i2)
section
variable {α:Type} {R:Cl α} {sz:Nat} {g g':Rows} {rows r1 r2:List (List AV)} {xs x1 x2:List α} {ids i1 i2:List Id}
theorem eI.len (h:eI R g rows xs ids):rows.length=xs.length:=by
 induction h with
 |nil=>rfl
 |cons _ _ ih=>simp[ih]
theorem eI.frame (ok:xe R sz) (h:eI R g rows xs ids) (hf:∀i∈ids,g' i=g i):eI R g' rows xs ids:=by
 induction h with
 |nil=>exact .nil
 |cons h1 _ ih=>exact .cons (ok.frame h1 fun i hi=>hf i (List.mem_append_left _ hi)) (ih fun i hi=>hf i (List.mem_append_right _ hi))
theorem eI.app (h1:eI R g r1 x1 i1) (h2:eI R g r2 x2 i2):eI R g (r1++r2) (x1++x2) (i1++i2):=by
 induction h1 with
 |nil=>exact h2
 |cons h _ ih=>rw[List.append_assoc];exact .cons h ih
theorem eI.one {cs:List AV} {x:α} (h:R g cs x ids):eI R g [cs] [x] ids:=by
 have:=eI.cons h eI.nil
 rwa [List.append_nil]at this
theorem eI.split (h:eI R g rows xs ids):∀k (hk:k<xs.length),∃r1 cs r2 i1 ic i2,rows=r1++cs::r2/\r1.length=k/\ids=i1++(ic++i2)/\eI R g r1 (xs.take k) i1/\R g cs xs[k] ic/\eI R g r2 (xs.drop (k+1)) i2:=by
 induction h with
 |nil=>intro k hk;simp at hk
 |cons h1 h2 ih=>
  rename_i cs x j1 rs xs j2
  intro k hk
  cases k with
  |zero=>exact⟨[],cs,rs,[],j1,j2,rfl,rfl,rfl,.nil,h1,h2⟩
  |succ k=>
   obtain⟨r1,pR,r2,i1,ic,i2,rfl,hl,rfl,h3,h4,h5⟩:=ih k (by simpa using hk)
   exact⟨cs::r1,pR,r2,j1++i1,ic,i2,rfl,by simp[hl],by rw[List.append_assoc],.cons h1 h3,h4,h5⟩
theorem eI.at_ (h:eI R g rows xs ids) (k:Nat) (hk:k<xs.length):∃cs ic,rows[k]? =some cs/\R g cs xs[k] ic/\∀i∈ic,i∈ids:=by
 obtain⟨r1,cs,r2,i1,ic,i2,rfl,hl,rfl,h3,h4,h5⟩:=h.split k hk
 refine⟨cs,ic,by rw[List.getElem?_append_right (by omega)];simp[hl],h4,fun i hi=>by simp[hi]⟩
theorem eI.fz {n:Nat} {e:α->List AV} (h:eI R g rows xs ids) (hz:∀{cs x ids},R g cs x ids->dd (dK g) n cs=some (e x)):ev (dK g) n rows=some (xs.map e):=by
 induction h with
 |nil=>rw[ev];rfl
 |cons h1 _ ih=>rw[ev,hz h1,ih];rfl
end
section
variable {α:Type} {R:Cl α} {sz:Nat} {g g':Rows} {a:AV} {xs:List α} {ids:List Id}
end
end Go.Proofs.YtgoelphibofcmaaGreat.V

namespace Go.Proofs.YtgoelphibofcmaaGreat.V
open Go.RowKit
variable {P:Program} {X:fJ} {K:Env->aw->Prop} {env:Env} {σ:aw}
def mu {α:Type} (enc:α->List AV) (sz:Nat) (x:AV) (g:Rows) (S:Id->Prop) (L:List α):Prop:=∃o:Id,S o/\x=.own o 0 L.length/\g o=some ⟨true,sz,L.map enc⟩
section
variable {α:Type} {enc:α->List AV} {sz:Nat} {x:AV} {g g':Rows} {S:Id->Prop} {L L':List α}
theorem mu.cast (h:mu enc sz x g S L) (hL:L'=L):mu enc sz x g S L':=by subst hL;exact h
theorem mu.frame (h:mu enc sz x g S L) (hg:∀o:Id,S o->g' o=g o):mu enc sz x g' S L:=by
 obtain⟨o,h1,h2,h3⟩:=h
 exact⟨o,h1,h2,(hg o h1).trans h3⟩
theorem mu.app (hz:∀a,(enc a).length=sz/\(enc a).all AV.cell=true) (h:mu enc sz x g S L) (id:Id) (hid:S id) (M:List α) (hlen:L.length+M.length<=dr):
  ∃v g',aY g id sz x (M.map enc)=some (v,g')/\mu enc sz v g' S (L++M)/\∀j:Id,¬S j->g' j=g j:=by
 obtain⟨o,h1,rfl,h4⟩:=h
 refine⟨.own id 0 (L.length+(M.map enc).length),bK (bV g o) id ⟨true,sz,L.map enc++M.map enc⟩,?_,⟨id,hid,by simp,by simp[bK]⟩,fun j hj=>?_⟩
 ·have ha:=all_map (l:=M) hz
  simp only[aY,h4,Option.bind_some]
  rw[if_pos ⟨trivial,trivial,by simp,by simpa using hlen,ha⟩]
 ·have e1:¬j=id:=fun h=>hj (h▸hid)
  have e2:¬j=o:=fun h=>hj (h▸h1)
  simp[bK,bV,e1,e2]
theorem Oi {draw:Bool} {o:bB} {r:List bB} {x' y:O} {xv:AV} (M:List α) (ho:o.op=.append sz x' y) (hw:aM o.guard env=true) (hx:da env x'=xv) (hO:mu enc sz xv σ.get S L)
  (hy:bm σ.get (da env y)=some (M.map enc)) (hz:∀a,(enc a).length=sz/\(enc a).all AV.cell=true) (hid:S ⟨o.site,σ.next⟩) (hlen:L.length+M.length<=dr)
  (next:∀v g',mu enc sz v g' S (L++M)->(∀j:Id,¬S j->g' j=σ.get j)->wpOps X draw r K (upd env o.dst v) ⟨g',σ.next⟩):wpOps X draw (o::r) K env σ:=by
 obtain⟨v,g',h1,h2,h3⟩:=hO.app hz ⟨o.site,σ.next⟩ hid M hlen
 unfold wpOps
 rw[if_pos hw]
 unfold fj
 simp only[ho,fF,hy,hx,Option.bind_some,h1]
 exact next v g' h2 h3
theorem mu.gn {n:Nat} (h:mu enc sz x g S L) (he:∀a,ew g n (enc a)=some (enc a)):gn g (n+1) x=some (.sl (L.map enc)):=by
 obtain⟨o,_,rfl,h3⟩:=h
 exact fG h3 rfl he
end
theorem cZ {a b:Id} (h:a.cq<b.cq):(a=b)=False/\(b=a)=False:=by
 constructor<;>(simp only[eq_iff_iff,iff_false];rintro rfl;omega)
theorem zU {o:Id} {a:Nat} (h:o.site=a) {b v:Nat} (rh:(a==b)=false):(o=⟨b,v⟩)=False:=by
 simp only[eq_iff_iff,iff_false]
 rintro rfl
 simp only at h
 subst h
 simp at rh
def eN (n:Nat):List AV:=[.int .i64 n]
theorem fzN (g:Rows) (n:Nat) (a:Nat):dd g (n+1) (eN a)=some (eN a):=by simp[eN,aj,ar,aH]
theorem M3 (g:Rows) (n:Nat) (a:Nat):ew g (n+1) (eN a)=some (eN a):=by simp[eN,bJ,cD,eA]
def OH:Cl (List Nat):=fun g cs x ids=>∃id,cs=[.own id 0 x.length]/\g id=some ⟨true,1,x.map eN⟩/\ids=[id]
theorem Lc:xe OH 1 where
 frame:=fun⟨id,h1,h2,h3⟩ hf=>by subst h3;exact⟨id,h1,(hf id (by simp)).trans h2,rfl⟩
 len:=fun⟨id,h1,_⟩=>by subst h1;rfl
 cell:=fun⟨id,h1,_⟩=>by subst h1;rfl
 live:=fun⟨id,h1,h2,h3⟩ i hi=>by
  subst h3
  have:i=id:=by simpa using hi
  subst this
  exact⟨_,h2,rfl,by simp[pO]⟩
 small:=by simp[pO]
def Aj (l:List Nat):List AV:=[.sl (l.map eN)]
theorem IJ {g:Rows} {rows:List (List AV)} {xs:List (List Nat)} {ids:List Id} (n:Nat) (h:eI OH g rows xs ids):gU g (n+2) rows=some (xs.map Aj):=by
 induction h with
 |nil=>rw[gU];rfl
 |cons h1 _ ih=>
  obtain⟨id,rfl,h2,_⟩:=h1
  rw[gU,ih,bJ,cD,fG (e:=eN) (sz:=1) h2 rfl fun a=>M3 g n a];rfl
end Go.Proofs.YtgoelphibofcmaaGreat.V

namespace Go.Proofs.YtgoelphibofcmaaGreat.V
open Go.RowKit
attribute [local irreducible] eh wpOps fI Call
attribute [local go_sem] aM fj eJ fF fE da upd cu K.av cI AV.cells AV.cell rowOf rowsOf part ld rowAt bK bV dq dM gy bD cY dY fA eS dk dR cW cV dD dE bG bc cL bF cP cN dO dS dQ cK bL cX dN bE aO cR cz gx bm cH bH aY dp bl dr AV.undef bt bz dF dL dy dC cF dX eb cw dV dU cQ cU List.getD_cons_zero List.getD_cons_succ List.getD_nil List.all_cons List.all_nil Bool.and_true Bool.true_and Bool.and_self Bool.not_true Bool.not_false Option.map_some Option.map_none Option.bind_some Option.bind_none List.length_cons List.length_nil List.take_succ_cons List.take_zero List.take_nil List.drop_succ_cons List.drop_zero List.drop_nil List.head?_cons List.map_cons List.map_nil List.getElem?_cons_zero List.getElem?_cons_succ List.cons_append List.nil_append List.append_nil List.length_map List.set_cons_zero List.set_cons_succ Nat.reduceMul eq_self Int.toNat_natCast Int.natCast_nonneg and_self true_and and_true decide_true decide_false Bool.false_eq_true Nat.zero_add Nat.add_zero List.contains_cons List.contains_nil Bool.or_false Bool.false_or beq_self_eq_true Nat.reduceBEq ne_eq not_true_eq_false not_false_eq_true Id.mk.injEq false_and and_false Nat.reduceLT Int.reduceLE Int.reduceLT Int.reduceToNat Int.reduceNeg Int.reduceAdd Nat.le_refl List.length_append beq_true beq_false Bool.not_eq_eq_eq_not or_false false_or dK aj ar aH bd br bW aT aZ aU bf cJ bw
variable {P:Program}
def Ka {α:Type} (R:Cl α) (x:α) (σ:aw) (r:AV) (σ':aw):Prop:=∃cs ids,r=.agg cs/\R σ'.get cs x ids/\fU σ.next σ'.next ids/\Kept σ σ'
def iw {α:Type} (R:Cl α) (z:Nat) (g:Rows) (a:AV) (xs:List α) (ids:List Id):Prop:=∃o rows is,a=.own o 0 xs.length/\g o=some ⟨true,z,rows⟩/\eI R g rows xs is/\ids=o::is
def Kb {α:Type} (R:Cl α) (z:Nat) (xs:List α) (σ:aw) (r:AV) (σ':aw):Prop:=∃ids,iw R z σ'.get r xs ids/\fU σ.next σ'.next ids/\Kept σ σ'
theorem iw.frame {α:Type} {R:Cl α} {z:Nat} {g g':Rows} {a:AV} {xs:List α} {ids:List Id} (ok:xe R z) (h:iw R z g a xs ids) (hf:∀i∈ids,g' i=g i):iw R z g' a xs ids:=by
 obtain⟨o,rows,is,h1,h2,h3,rfl⟩:=h
 exact⟨o,rows,is,h1,(hf o (by simp)).trans h2,h3.frame ok fun i hi=>hf i (by simp[hi]),rfl⟩
theorem iw.fz {α:Type} {R:Cl α} {z n:Nat} {e:α->List AV} {g:Rows} {a:AV} {xs:List α} {ids:List Id} (h:iw R z g a xs ids) (hz:∀{cs x ids},R g cs x ids->dd (dK g) n cs=some (e x)):V.fz (dK g) (n+1) a=some (.sl (xs.map e)):=by
 obtain⟨o,rows,is,rfl,h2,h3,rfl⟩:=h
 rw[im]
 simp only[dK,h2,Option.map_some,if_true]
 rw[if_pos (by rw[h3.len];omega),List.drop_zero,List.take_of_length_le (by rw[h3.len];exact Nat.le_refl _),h3.fz hz];rfl
def lk {α:Type} (e:α->List AV):Cl α:=fun _ cs x ids=>cs=e x/\ids=[]
theorem HS {α:Type} {e:α->List AV} {z:Nat} (hz:∀x,(e x).length=z) (hc:∀x,(e x).all AV.cell=true) (hs:z<pO):xe (lk e) z where
 frame:=fun h _=>h
 len:=fun h=>by rw[h.1];exact hz _
 cell:=fun h=>by rw[h.1];exact hc _
 live:=fun h i hi=>by rw[h.2]at hi;cases hi
 small:=hs
def oi:Cl eR:=fun g cs t ids=>∃i,cs=[.str t.aL,.own i 0 t.bI.length]/\g i=some ⟨true,1,t.bI.map bu⟩/\ids=[i]
theorem qJ:xe oi 2 where
 frame:=fun⟨i,h1,h2,h3⟩ hf=>⟨i,h1,(hf i (by rw[h3];simp)).trans h2,h3⟩
 len:=fun⟨i,h1,_⟩=>by rw[h1];rfl
 cell:=fun⟨i,h1,_⟩=>by rw[h1];rfl
 live:=fun⟨i,h1,h2,h3⟩ j hj=>by
  rw[h3]at hj
  have:j=i:=by simpa using hj
  subst this
  exact⟨_,h2,rfl,by simp[pO]⟩
 small:=by simp[pO]
theorem LJ {g:Rows} {cs:List AV} {t:eR} {ids:List Id} (n:Nat) (h:oi g cs t ids):dd (dK g) (n+2) cs=some (bR t):=by
 obtain⟨i,rfl,h2,_⟩:=h
 have h3:V.fz (dK g) (n+2) (.own i 0 t.bI.length)=some (.sl (t.bI.map bu)):=gG (e:=bu) (sz:=1) (by simp[dK,h2]) rfl fun x=>by simp[bu,aj,ar,aH]
 simp only[aj,ar,br,h3,Option.map_some,bR]
theorem LB {α:Type} {a b:List α} {x y:α} {k:Nat} (hk:a.length=k):(a++x::b).set k y=a++[y]++b:=by subst hk;simp
theorem z8 {α:Type} {R:Cl α} {en:α->List AV} {z fk gk:Nat} {zero:List K} (ok:xe R z) (hc:lZ P fk=some (tO fk gk z zero)) (Cu:zero.length=z) (hz:∀x,(en x).length=z) (xs:List α) (hlen:xs.length<=1048576)
  (hg:∀x∈xs,∀σ,Call P gk [.agg (en x)] σ (Ka R x σ)) (σ:aw):Call P fk [.sl (xs.map en)] σ (Kb R z xs σ):=by
 refine fc hc rfl fun hl=>?_
 try simp only[q]
 clear hl
 have hm:(xs.length:Int)<=((16777216:Nat):Int):=by omega
 have h0:(0:Int)<=(xs.length:Int):=by omega
 (try((repeat(revert hN;revert N;apply Pn.out));refine wk (tw @hm (tw @h0 (tw @Int.le_refl @Cu))) ?_;(repeat(refine Pn.mk ?_;intro N hN))))
 refine bh (fun n env st=>∃k:Nat,n=(xs.length)-k/\k<=(xs.length)/\env 4=.int .i64 (k:Int)/\(σ.next+2<=st.next/\(∀y:Id,y.cq<σ.next->st.get y=σ.get y)/\∃rows is,st.get ⟨fk*1000000+1002,σ.next+1⟩=some ⟨true,z,rows++List.replicate (xs.length-k) (zero.map K.av)⟩/\eI R st.get rows (xs.take k) is/\fU (σ.next+2) st.next is)) (xs.length) ⟨0,by omega,by omega,sl @Nat.zero_add,by(try dsimp only);exact⟨by omega,fun y hy=>by
  have h1:=dP hy
  simp only[go_sem, ↓reduceIte,Nat.reduceEqDiff,Nat.reduceAdd,Nat.reduceSub,Nat.reduceLeDiff,reduceCtorEq,h1],[],[],sl @Nat.zero_add,.nil,List.nodup_nil,fun i hi=>by cases hi⟩⟩ ?_
 rintro n_a env_a st_a ⟨k,rfl,ale,a4,lS⟩ dW
 have a0:=dW 0 (by kernel_rfl);have a3:=dW 3 (by kernel_rfl)
 simp only[go_sem, ↓reduceIte,Nat.reduceEqDiff,Nat.reduceAdd,Nat.reduceSub,Nat.reduceLeDiff,reduceCtorEq]at a0 a3
 clear dW
 obtain⟨an,aK,rows,is,ag,aR,aN⟩:=lS
 have se:rows.length=k:=by rw[aR.len,List.length_take];omega
 by_cases hk:(k:Int)<(xs.length:Int)
 ·have cG:∀{e:Env} {gg:Rows} {nx:Nat},(e 4=.int .i64 (IntKind.i64.wrap ((k:Int)+1)))->(σ.next+2<=nx/\(∀y:Id,y.cq<σ.next->gg y=σ.get y)/\∃rows is,gg ⟨fk*1000000+1002,σ.next+1⟩=some ⟨true,z,rows++List.replicate (xs.length-(k+1)) (zero.map K.av)⟩/\eI R gg rows (xs.take (k+1)) is/\fU (σ.next+2) nx is)->∃m0,m0<(xs.length)-k/\∃k:Nat,m0=(xs.length)-k/\k<=(xs.length)/\e 4=.int .i64 (k:Int)/\(σ.next+2<=nx/\(∀y:Id,y.cq<σ.next->gg y=σ.get y)/\∃rows is,gg ⟨fk*1000000+1002,σ.next+1⟩=some ⟨true,z,rows++List.replicate (xs.length-k) (zero.map K.av)⟩/\eI R gg rows (xs.take k) is/\fU (σ.next+2) nx is):=fun x1 x2=>⟨_,by omega,k+1,rfl,by omega,(by rw[x1,aC (by omega)]),x2⟩
  have fw:k<xs.length:=by omega
  have eQ:(xs.map en)[k]? =some (en xs[k]):=by simp[fw]
  have tC:=hz xs[k]
  have ht:(en xs[k]).take z=en xs[k]:=by rw[<-tC,List.take_length]
  have ig:=hg _ (List.getElem_mem fw)
  obtain⟨m,EJ⟩:∃m,xs.length-k=m+1:=⟨xs.length-k-1,by omega⟩
  rw[EJ,List.replicate_succ]at ag
  generalize hex:en xs[k]=c at ig eQ tC ht
  (try((repeat(revert hN;revert N;apply Pn.out));refine wk (tw @a4 (tw @a0 (tw @a3 (tw @hk (tw @eQ (tw @tC (tw @ht @Nat.le_refl))))))) ?_;(repeat(refine Pn.mk ?_;intro N hN))))
  refine .inr (aJ _ _ _ _ _ (fun r σ1 hq=>?_) (ig _))
  obtain⟨cs,ids,rfl,hR,hI,hK⟩:=hq
  obtain⟨g1,x1⟩:=σ1
  (try dsimp only at hR hI hK)
  have Al:=(hK.2 ⟨fk*1000000+1002,σ.next+1⟩ (by(try dsimp only);omega))
  simp only[go_sem, ↓reduceIte,Nat.reduceEqDiff,Nat.reduceAdd,Nat.reduceSub,Nat.reduceLeDiff,reduceCtorEq,ag]at Al
  have mL:=ok.len hR
  have zp:=ok.cell hR
  have fu:(rows++zero.map K.av::List.replicate m (zero.map K.av))[k]? =some (zero.map K.av):=by rw[List.getElem?_append_right (by omega),se,Nat.sub_self];rfl
  have eP:(rows++zero.map K.av::List.replicate m (zero.map K.av)).set k cs=rows++[cs]++List.replicate m (zero.map K.av):=LB se
  have H8:(zero.map K.av).drop z=[]:=List.drop_of_length_le (by simp[Cu])
  have G7:(rows++zero.map K.av::List.replicate m (zero.map K.av)).length=xs.length:=by simp[se];omega
  refine hN _ _ ?_
  clear hN N
  (try((repeat(revert hN;revert N;apply Pn.out));refine wk (tw @a4 (tw @a0 (tw @a3 (tw @hk (tw @Al (tw @fu (tw @eP (tw @G7 (tw @H8 (tw @uQ (tw @mL (tw @zp (tw @Nat.le_refl @Cu))))))))))))) ?_;(repeat(refine Pn.mk ?_;intro N hN))))
  have vM:=hK.1
  have G1:∀i∈is,(i=⟨fk*1000000+1002,σ.next+1⟩)=False:=fun i hi=>eq_false fun e=>by
   have:=(aN.2 i hi).1
   subst e;(try dsimp only at this);omega
  have G2:∀i∈ids,(i=⟨fk*1000000+1002,σ.next+1⟩)=False:=fun i hi=>eq_false fun e=>by
   have:=(hI.2 i hi).1
   subst e;(try dsimp only at this);omega
  exact cG (sd (tw @a4 (tw @a0 @a3))) (by(try dsimp only at *);exact⟨by omega,fun y hy=>by
   have h1:=dP hy
   have h2:=hK.2 y (by(try dsimp only);omega)
   have h3:=aK y hy
   simp only[go_sem, ↓reduceIte,Nat.reduceEqDiff,Nat.reduceAdd,Nat.reduceSub,Nat.reduceLeDiff,reduceCtorEq]at h2
   simp only[go_sem, ↓reduceIte,Nat.reduceEqDiff,Nat.reduceAdd,Nat.reduceSub,Nat.reduceLeDiff,reduceCtorEq,h1,h2,h3],rows++[cs],is++ids,by
    rw[show xs.length-(k+1)=m by omega]
    simp only[go_sem, ↓reduceIte,Nat.reduceEqDiff,Nat.reduceAdd,Nat.reduceSub,Nat.reduceLeDiff,reduceCtorEq]<;>rfl,by
    rw[List.take_succ_eq_append_getElem fw]
    refine((aR.frame ok fun i hi=>?_).app (.one (ok.frame hR fun i hi=>?_)))
    ·have h1:=G1 i hi
     have h2:=hK.2 i (by(try dsimp only);have:=(aN.2 i hi).2;omega)
     simp only[go_sem, ↓reduceIte,Nat.reduceEqDiff,Nat.reduceAdd,Nat.reduceSub,Nat.reduceLeDiff,reduceCtorEq]at h2
     simp only[go_sem, ↓reduceIte,Nat.reduceEqDiff,Nat.reduceAdd,Nat.reduceSub,Nat.reduceLeDiff,reduceCtorEq,h1,h2]
    ·have h1:=G2 i hi
     simp only[go_sem, ↓reduceIte,Nat.reduceEqDiff,Nat.reduceAdd,Nat.reduceSub,Nat.reduceLeDiff,reduceCtorEq,h1],(aN.app hI (by(try dsimp only);omega) (by omega) (by(try dsimp only);omega)).wide (Nat.le_refl _) (by(try dsimp only);omega)⟩)
 ·(try((repeat(revert hN;revert N;apply Pn.out));refine wk (tw @a4 (tw @a0 (tw @a3 @hk))) ?_;(repeat(refine Pn.mk ?_;intro N hN))))
  have fw:k=xs.length:=by omega
  subst fw
  rw[Nat.sub_self,List.replicate_zero,List.append_nil]at ag
  rw[List.take_length]at aR
  refine eV (.inl rfl) (vs:=[.own ⟨fk*1000000+1002,σ.next+1⟩ 0 xs.length]) (sd (tw @a4 (tw @a0 @a3))) ?_
  exact⟨_,⟨_,rows,is,rfl,ag,aR,rfl⟩,⟨List.nodup_cons.2 ⟨fun hi=>by have:=(aN.2 _ hi).1;(try dsimp only at this);omega,aN.1⟩,fun i hi=>by
   rcases List.mem_cons.1 hi with rfl|hi
   ·(try dsimp only);omega
   ·have:=aN.2 i hi;(try dsimp only);omega⟩,⟨by(try dsimp only);omega,fun j hj=>aK j hj⟩⟩
end Go.Proofs.YtgoelphibofcmaaGreat.V

namespace Go.Proofs.YtgoelphibofcmaaGreat.V
open Go.RowKit
attribute [local irreducible] eh wpOps fI Call
attribute [local go_sem] aM fj eJ fF fE da upd cu K.av cI AV.cells AV.cell rowOf rowsOf part ld rowAt bK bV dq dM gy bD cY dY fA eS dk dR cW cV dD dE bG bc cL bF cP cN dO dS dQ cK bL cX dN bE aO cR cz gx bm cH bH aY dp bl dr AV.undef bt bz dF dL dy dC cF dX eb cw dV dU cQ cU List.getD_cons_zero List.getD_cons_succ List.getD_nil List.all_cons List.all_nil Bool.and_true Bool.true_and Bool.and_self Bool.not_true Bool.not_false Option.map_some Option.map_none Option.bind_some Option.bind_none List.length_cons List.length_nil List.take_succ_cons List.take_zero List.take_nil List.drop_succ_cons List.drop_zero List.drop_nil List.head?_cons List.map_cons List.map_nil List.getElem?_cons_zero List.getElem?_cons_succ List.cons_append List.nil_append List.append_nil List.length_map List.set_cons_zero List.set_cons_succ Nat.reduceMul eq_self Int.toNat_natCast Int.natCast_nonneg and_self true_and and_true decide_true decide_false Bool.false_eq_true Nat.zero_add Nat.add_zero List.contains_cons List.contains_nil Bool.or_false Bool.false_or beq_self_eq_true Nat.reduceBEq ne_eq not_true_eq_false not_false_eq_true Id.mk.injEq false_and and_false Nat.reduceLT Int.reduceLE Int.reduceLT Int.reduceToNat Int.reduceNeg Int.reduceAdd Nat.le_refl List.length_append beq_true beq_false Bool.not_eq_eq_eq_not or_false false_or dK aj ar aH bd br bW aT aZ aU bf cJ bw
theorem iw.kH {α:Type} {R:Cl α} {z:Nat} {g:Rows} {a:AV} {xs:List α} {ids:List Id} (h:iw R z g a xs ids):∃o,a=.own o 0 xs.length:=by
 obtain⟨o,rows,is,rfl,_⟩:=h;exact⟨o,rfl⟩
theorem JC (xs:List Int) (hlen:xs.length<=1048576) (σ:aw):Call Tryz.prog 195 [.sl (xs.map bu)] σ (fun r σ'=>∃i,r=.own i 0 xs.length/\σ'.get i=some ⟨true,1,xs.map bu⟩/\fU σ.next σ'.next [i]/\Kept σ σ'):=by
 refine fc (show lZ Tryz.prog 195=some (JE 195 (.int .i64 0)) by kernel_rfl) rfl fun hl=>?_
 try simp only[q]
 clear hl
 obtain⟨en,JW⟩:∃en:Int->List AV,en=bu:=⟨_,rfl⟩
 rw[<-JW]
 have hm:(xs.length:Int)<=((16777216:Nat):Int):=by omega
 have h0:(0:Int)<=(xs.length:Int):=by omega
 (try((repeat(revert hN;revert N;apply Pn.out));refine wk (tw @hm (tw @h0 (tw @Int.le_refl (ow en [AV.int .i64 0] xs)))) ?_;(repeat(refine Pn.mk ?_;intro N hN))))
 refine bh (fun n env st=>∃k:Nat,n=(xs.length)-k/\k<=(xs.length)/\env 4=.int .i64 (k:Int)/\st.get ⟨195*1000000+1002,σ.next+1⟩=some ⟨true,1,gF en [AV.int .i64 0] xs k⟩/\(σ.next+2<=st.next/\∀y:Id,y.cq<σ.next->st.get y=σ.get y)) (xs.length) ⟨0,by omega,by omega,sl @Nat.zero_add,sl @Nat.zero_add,by(try dsimp only);exact⟨by omega,fun y hy=>by
  have h1:=dP hy
  simp only[go_sem, ↓reduceIte,Nat.reduceEqDiff,Nat.reduceAdd,Nat.reduceSub,Nat.reduceLeDiff,reduceCtorEq,h1]⟩⟩ ?_
 rintro n_a env_a st_a ⟨k,rfl,ale,a4,ag0,lS⟩ dW
 have a0:=dW 0 (by kernel_rfl);have a3:=dW 3 (by kernel_rfl)
 simp only[go_sem, ↓reduceIte,Nat.reduceEqDiff,Nat.reduceAdd,Nat.reduceSub,Nat.reduceLeDiff,reduceCtorEq]at a0 a3
 clear dW
 obtain⟨an,aK⟩:=lS
 by_cases hk:(k:Int)<(xs.length:Int)
 ·have cG:∀{e:Env} {gg:Rows} {nx:Nat},(e 4=.int .i64 (IntKind.i64.wrap ((k:Int)+1)))->(gg ⟨195*1000000+1002,σ.next+1⟩=some ⟨true,1,gF en [AV.int .i64 0] xs (k+1)⟩)->(σ.next+2<=nx/\∀y:Id,y.cq<σ.next->gg y=σ.get y)->∃m0,m0<(xs.length)-k/\∃k:Nat,m0=(xs.length)-k/\k<=(xs.length)/\e 4=.int .i64 (k:Int)/\gg ⟨195*1000000+1002,σ.next+1⟩=some ⟨true,1,gF en [AV.int .i64 0] xs k⟩/\(σ.next+2<=nx/\∀y:Id,y.cq<σ.next->gg y=σ.get y):=fun x1 x2 x3=>⟨_,by omega,k+1,rfl,by omega,(by rw[x1,aC (by omega)]),x2,x3⟩
  have fw:k<xs.length:=by omega
  have eQ:(xs.map en)[k]? =some [AV.int .i64 xs[k]]:=by simp[fw,JW,bu]
  have fY:=qh en [AV.int .i64 0] xs fw
  have eP:=qi en [AV.int .i64 0] xs fw
  rw[show en xs[k]=[AV.int .i64 xs[k]] by rw[JW];rfl]at eP
  (try((repeat(revert hN;revert N;apply Pn.out));refine wk (tw @a4 (tw @ag0 (tw @a0 (tw @a3 (tw @hk (tw @eQ (tw @fY @eP))))))) ?_;(repeat(refine Pn.mk ?_;intro N hN))))
  refine cG ?_ ?_ (by(try dsimp only);exact⟨by omega,fun y hy=>by
   have h1:=dP hy
   have h3:=aK y hy
   simp only[go_sem, ↓reduceIte,Nat.reduceEqDiff,Nat.reduceAdd,Nat.reduceSub,Nat.reduceLeDiff,reduceCtorEq,h1,h3]⟩)
  all_goals simp only[go_sem, ↓reduceIte,Nat.reduceEqDiff,Nat.reduceAdd,Nat.reduceSub,Nat.reduceLeDiff,reduceCtorEq,a4,ag0,a0,a3]
 ·(try((repeat(revert hN;revert N;apply Pn.out));refine wk (tw @a4 (tw @ag0 (tw @a0 (tw @a3 @hk)))) ?_;(repeat(refine Pn.mk ?_;intro N hN))))
  have fw:k=xs.length:=by omega
  subst fw
  refine eV (.inl rfl) (vs:=[.own ⟨195*1000000+1002,σ.next+1⟩ 0 xs.length]) (sd (tw @a4 (tw @ag0 (tw @a0 @a3)))) ?_
  rw[qg]at ag0
  exact⟨_,rfl,ag0,⟨List.nodup_cons.2 ⟨by simp,List.nodup_nil⟩,fun i hi=>by
   rw[List.mem_singleton.1 hi];(try dsimp only);omega⟩,⟨by(try dsimp only);omega,fun j hj=>aK j hj⟩⟩
theorem JF (p:eR) (hs:sk p) (σ:aw):Call Tryz.prog 162 [.agg (bR p)] σ (Ka oi p σ):=by
 refine fc eG rfl fun hl=>?_
 clear hl
 (try((repeat(revert hN;revert N;apply Pn.out));refine wk @bR.eq_1 ?_;(repeat(refine Pn.mk ?_;intro N hN))))
 refine .inr (aJ _ _ _ _ _ (fun r σ1 hq=>?_) (JC p.bI hs _))
 obtain⟨i,rfl,hg,hI,hK⟩:=hq
 obtain⟨g1,x1⟩:=σ1
 (try dsimp only at hg hI hK)
 have hn:=hK.1
 refine hN _ _ ?_
 clear hN N
 have hi:=hI.2 i (by simp)
 have k2:=hK.2 ⟨162000001,σ.next⟩ (by(try dsimp only);omega)
 have k3:=hK.2 ⟨162001000,σ.next+1⟩ (by(try dsimp only);omega)
 simp only[go_sem, ↓reduceIte,Nat.reduceEqDiff,Nat.reduceAdd,Nat.reduceSub,Nat.reduceLeDiff,reduceCtorEq]at k2 k3
 (try((repeat(revert hN;revert N;apply Pn.out));refine wk (tw @bR.eq_1 (tw @k2 @k3)) ?_;(repeat(refine Pn.mk ?_;intro N hN))))
 refine eV (.inl rfl) (vs:=[.agg [.str p.aL,.own i 0 p.bI.length]]) (sd @Nat.zero_add) ?_
 refine⟨_,[i],rfl,⟨i,rfl,?_,rfl⟩,⟨hI.1,fun j hj=>?_⟩,⟨?_,fun j hj=>?_⟩⟩
 ·have i2:=cZ (b:=i) (a:=⟨162000001,σ.next⟩) (by(try dsimp only at *);omega)
  have i3:=cZ (b:=i) (a:=⟨162001000,σ.next+1⟩) (by(try dsimp only at *);omega)
  simp only[go_sem, ↓reduceIte,Nat.reduceEqDiff,Nat.reduceAdd,Nat.reduceSub,Nat.reduceLeDiff,reduceCtorEq,i2,i3,hg]
 ·rw[List.mem_singleton.1 hj]
  (try dsimp only at *);omega
 ·(try dsimp only at *);omega
 ·have h2:=hK.2 j (by(try dsimp only);omega)
  have h1:=dP hj
  simp only[go_sem, ↓reduceIte,Nat.reduceEqDiff,Nat.reduceAdd,Nat.reduceSub,Nat.reduceLeDiff,reduceCtorEq,h1]at h2
  simp only[go_sem, ↓reduceIte,Nat.reduceEqDiff,Nat.reduceAdd,Nat.reduceSub,Nat.reduceLeDiff,reduceCtorEq,h1,h2]
theorem AZ:xe (lk bU) 2:=HS (fun _=>rfl) (fun _=>rfl) (by simp[pO])
theorem xZ:xe (lk aa) 3:=HS (fun _=>rfl) (fun _=>rfl) (by simp[pO])
theorem JA (p:fy) (σ:aw):Call Tryz.prog 161 [.agg (bU p)] σ (Ka (lk bU) p σ):=by
 refine fc eG rfl fun hl=>?_
 clear hl
 (try((repeat(revert hN;revert N;apply Pn.out));refine wk @bU.eq_1 ?_;(repeat(refine Pn.mk ?_;intro N hN))))
 refine eV (.inl rfl) (vs:=[.agg (bU p)]) (sd @bU.eq_1) ?_
 exact⟨_,[],rfl,⟨rfl,rfl⟩,⟨List.nodup_nil,fun i hi=>by cases hi⟩,⟨by(try dsimp only);omega,fun j hj=>by
  have h1:=dP hj
  simp only[go_sem, ↓reduceIte,Nat.reduceEqDiff,Nat.reduceAdd,Nat.reduceSub,Nat.reduceLeDiff,reduceCtorEq,h1]⟩⟩
theorem D6 (p:ah) (σ:aw):Call Tryz.prog 104 [.agg (aa p)] σ (Ka (lk aa) p σ):=by
 refine fc eG rfl fun hl=>?_
 clear hl
 have h:=s9 p.aW
 rw[ai]at h
 (repeat(first|((repeat(revert hN;revert N;apply Pn.out));refine wk @aa.eq_1 ?_;(repeat(refine Pn.mk ?_;intro N hN)))|((try apply Or.inl);refine⟨_,iU.x (h) _,?_⟩;refine hN _ _ ?_;clear hN N)))
 refine eV (.inl rfl) (vs:=[.agg (aa p)]) (sd @aa.eq_1) ?_
 exact⟨_,[],rfl,⟨rfl,rfl⟩,⟨List.nodup_nil,fun i hi=>by cases hi⟩,⟨by(try dsimp only);omega,fun j hj=>by
  have h1:=dP hj
  simp only[go_sem, ↓reduceIte,Nat.reduceEqDiff,Nat.reduceAdd,Nat.reduceSub,Nat.reduceLeDiff,reduceCtorEq,h1]⟩⟩
theorem GL (xs:List fy) (h:xs.length<=1048576) (σ:aw):Call Tryz.prog 102 [.sl (xs.map bU)] σ (Kb (lk bU) 2 xs σ):=
 z8 AZ (show lZ Tryz.prog 102=some (tO 102 161 2 [.str [],.int .i64 0]) by kernel_rfl) rfl (fun _=>rfl) xs h (fun x _ σ=>JA x σ) σ
theorem GN (xs:List eR) (h:xs.length<=1048576) (hs:∀t∈xs,sk t) (σ:aw):Call Tryz.prog 103 [.sl (xs.map bR)] σ (Kb oi 2 xs σ):=
 z8 qJ (show lZ Tryz.prog 103=some (tO 103 162 2 [.str [],.bq]) by kernel_rfl) rfl (fun _=>rfl) xs h (fun x hx σ=>JF x (hs x hx) σ) σ
theorem Cb (xs:List ah) (h:xs.length<=1048576) (σ:aw):Call Tryz.prog 62 [.sl (xs.map aa)] σ (Kb (lk aa) 3 xs σ):=
 z8 xZ (show lZ Tryz.prog 62=some (tO 62 104 3 [.int .i64 0,.int .i64 0,.int .i64 0]) by kernel_rfl) rfl (fun _=>rfl) xs h (fun x _ σ=>D6 x σ) σ
def xd (g:Rows) (v:AV) (a:ee) (ids:List Id):Prop:=∃x,v=.agg [x]/\iw (lk aa) 3 g x a.aq ids
structure yU (g:Rows) (v:AV) (s:aI) (ids:List Id):Prop where
 ex:∃a b c i1 i2 i3,v=.agg [a,b,c,.int .i64 s.ay]/\iw (lk bU) 2 g a s.aD.aA i1/\iw oi 2 g b s.aD.aq i2/\iw (lk aa) 3 g c s.bx.aq i3/\ids=i1++(i2++i3)
theorem xd.frame {g g':Rows} {v:AV} {a:ee} {ids:List Id} (h:xd g v a ids) (hf:∀i∈ids,g' i=g i):xd g' v a ids:=by
 obtain⟨x,h1,h2⟩:=h
 exact⟨x,h1,h2.frame xZ hf⟩
theorem yU.frame {g g':Rows} {v:AV} {s:aI} {ids:List Id} (h:yU g v s ids) (hf:∀i∈ids,g' i=g i):yU g' v s ids:=by
 obtain⟨a,b,c,i1,i2,i3,h1,h2,h3,h4,rfl⟩:=h.ex
 exact⟨a,b,c,i1,i2,i3,h1,h2.frame AZ fun i hi=>hf i (by simp[hi]),h3.frame qJ fun i hi=>hf i (by simp[hi]),h4.frame xZ fun i hi=>hf i (by simp[hi]),rfl⟩
theorem xd.fz {g:Rows} {v:AV} {a:ee} {ids:List Id} (n:Nat) (h:xd g v a ids):V.fz (dK g) (n+4) v=some (.agg (aV a)):=by
 obtain⟨x,rfl,h2⟩:=h
 have h3:=h2.fz (n:=n+2) (e:=aa) fun hc=>by rw[hc.1];simp[aa,aj,ar,aH]
 simp only[aZ,aj,ar,h3,Option.map_some,aV]
theorem yU.fz {g:Rows} {v:AV} {s:aI} {ids:List Id} (n:Nat) (h:yU g v s ids):V.fz (dK g) (n+5) v=some (.agg (az s)):=by
 obtain⟨a,b,c,i1,i2,i3,rfl,h2,h3,h4,rfl⟩:=h.ex
 have q1:=h2.fz (n:=n+3) (e:=bU) fun hc=>by rw[hc.1];simp[bU,aj,ar,aH,br]
 have q2:=h3.fz (n:=n+3) (e:=bR) fun hc=>LJ (n+1) hc
 have q3:=h4.fz (n:=n+3) (e:=aa) fun hc=>by rw[hc.1];simp[aa,aj,ar,aH]
 simp only[aZ,aj,ar,q1,q2,q3,aH,Option.map_some,az]
theorem r4 (p:ee) (hs:p.aq.length<=1048576) (σ:aw):Call Tryz.prog 18 [.agg (aV p)] σ (fun r σ'=>∃ids,xd σ'.get r p ids/\fU σ.next σ'.next ids/\Kept σ σ'):=by
 refine fc eG rfl fun hl=>?_
 clear hl
 (try((repeat(revert hN;revert N;apply Pn.out));refine wk @aV.eq_1 ?_;(repeat(refine Pn.mk ?_;intro N hN))))
 refine .inr (aJ _ _ _ _ _ (fun r σ1 hq=>?_) (Cb p.aq hs _))
 obtain⟨ids,hR,hI,hK⟩:=hq
 obtain⟨g1,x1⟩:=σ1
 (try dsimp only at hR hI hK)
 have hn:=hK.1
 obtain⟨o,rows,is,rfl,hg,SH,rfl⟩:=hR
 refine hN _ _ ?_
 clear hN N
 have k2:=hK.2 ⟨18000001,σ.next⟩ (by(try dsimp only);omega)
 have k3:=hK.2 ⟨18001000,σ.next+1⟩ (by(try dsimp only);omega)
 simp only[go_sem, ↓reduceIte,Nat.reduceEqDiff,Nat.reduceAdd,Nat.reduceSub,Nat.reduceLeDiff,reduceCtorEq]at k2 k3
 (try((repeat(revert hN;revert N;apply Pn.out));refine wk (tw @aV.eq_1 (tw @k2 @k3)) ?_;(repeat(refine Pn.mk ?_;intro N hN))))
 refine eV (.inl rfl) (vs:=[.agg [.own o 0 p.aq.length]]) (sd @Nat.zero_add) ?_
 have hb:=hI.2
 (try dsimp only at hb hn)
 refine⟨_,⟨_,rfl,iw.frame xZ ⟨o,rows,is,rfl,hg,SH,rfl⟩ fun j hj=>?_⟩,⟨hI.1,fun j hj=>?_⟩,⟨?_,fun j hj=>?_⟩⟩
 ·have hj2:=hb j hj
  have i2:=cZ (b:=j) (a:=⟨18000001,σ.next⟩) (by(try dsimp only);omega)
  have i3:=cZ (b:=j) (a:=⟨18001000,σ.next+1⟩) (by(try dsimp only);omega)
  simp only[go_sem, ↓reduceIte,Nat.reduceEqDiff,Nat.reduceAdd,Nat.reduceSub,Nat.reduceLeDiff,reduceCtorEq,i2,i3]
 ·have:=hb j hj
  (try dsimp only);omega
 ·(try dsimp only);omega
 ·have h2:=hK.2 j (by(try dsimp only);omega)
  have h1:=dP hj
  simp only[go_sem, ↓reduceIte,Nat.reduceEqDiff,Nat.reduceAdd,Nat.reduceSub,Nat.reduceLeDiff,reduceCtorEq,h1]at h2
  simp only[go_sem, ↓reduceIte,Nat.reduceEqDiff,Nat.reduceAdd,Nat.reduceSub,Nat.reduceLeDiff,reduceCtorEq,h1,h2]
theorem Cd (p:ax) (hs:Hl p) (σ:aw):Call Tryz.prog 61 [.agg (ae p)] σ (fun r σ'=>∃a b i1 i2,r=.agg [a,b]/\iw (lk bU) 2 σ'.get a p.aA i1/\iw oi 2 σ'.get b p.aq i2/\fU σ.next σ'.next (i1++i2)/\Kept σ σ'):=by
 refine fc eG rfl fun hl=>?_
 clear hl
 (try((repeat(revert hN;revert N;apply Pn.out));refine wk @ae.eq_1 ?_;(repeat(refine Pn.mk ?_;intro N hN))))
 refine .inr (aJ _ _ _ _ _ (fun r σ1 hq=>?_) (GL p.aA hs.g _))
 obtain⟨i1,hR,hI,hK⟩:=hq
 obtain⟨g1,x1⟩:=σ1
 (try dsimp only at hR hI hK)
 have hn:=hK.1
 obtain⟨o,rows,is,rfl,hg,SH,rfl⟩:=hR
 have hb:=hI.2
 (try dsimp only at hb hn)
 refine hN _ _ ?_
 clear hN N
 have k1:=hK.2 ⟨61000000,σ.next⟩ (by(try dsimp only);omega)
 have k2:=hK.2 ⟨61000001,σ.next⟩ (by(try dsimp only);omega)
 have k3:=hK.2 ⟨61001000,σ.next+1⟩ (by(try dsimp only);omega)
 simp only[go_sem, ↓reduceIte,Nat.reduceEqDiff,Nat.reduceAdd,Nat.reduceSub,Nat.reduceLeDiff,reduceCtorEq]at k1 k2 k3
 (try((repeat(revert hN;revert N;apply Pn.out));refine wk (tw @ae.eq_1 (tw @k1 (tw @k2 @k3))) ?_;(repeat(refine Pn.mk ?_;intro N hN))))
 refine .inr (aJ _ _ _ _ _ (fun r σ2 hq=>?_) (GN p.aq hs.t hs.s _))
 obtain⟨i2,hS,hJ,hL⟩:=hq
 obtain⟨g2,x2⟩:=σ2
 (try dsimp only at hS hJ hL)
 have KM:=hL.1
 obtain⟨o2,Mt,is2,rfl,P0,hS',rfl⟩:=hS
 have hc:=hJ.2
 (try dsimp only at hc KM)
 refine hN _ _ ?_
 clear hN N
 have l2:=hL.2 ⟨61000001,σ.next⟩ (by(try dsimp only);omega)
 have l3:=hL.2 ⟨61001000,σ.next+1⟩ (by(try dsimp only);omega)
 simp only[go_sem, ↓reduceIte,Nat.reduceEqDiff,Nat.reduceAdd,Nat.reduceSub,Nat.reduceLeDiff,reduceCtorEq,k2,k3]at l2 l3
 (try((repeat(revert hN;revert N;apply Pn.out));refine wk (tw @ae.eq_1 (tw @l2 @l3)) ?_;(repeat(refine Pn.mk ?_;intro N hN))))
 refine eV (.inl rfl) (vs:=[.agg [.own o 0 p.aA.length,.own o2 0 p.aq.length]]) (sd @Nat.zero_add) ?_
 have fr:∀x:Id,σ.next+2<=x.cq->(x=⟨61000001,σ.next⟩)=False/\(x=⟨61001000,σ.next+1⟩)=False:=fun x hx=>⟨(cZ (a:=⟨61000001,σ.next⟩) (b:=x) (by(try dsimp only);omega)).2,(cZ (a:=⟨61001000,σ.next+1⟩) (b:=x) (by(try dsimp only);omega)).2⟩
 refine⟨_,_,_,_,rfl,iw.frame (g:=g1) AZ ⟨o,rows,is,rfl,hg,SH,rfl⟩ fun i hi=>?_,iw.frame (g:=g2) qJ ⟨o2,Mt,is2,rfl,P0,hS',rfl⟩ fun i hi=>?_,?_,⟨by(try dsimp only);omega,fun j hj=>?_⟩⟩
 ·have h1:=hb i hi
  have h2:=hL.2 i (by(try dsimp only);omega)
  have h3:=fr i (by omega)
  simp only[go_sem, ↓reduceIte,Nat.reduceEqDiff,Nat.reduceAdd,Nat.reduceSub,Nat.reduceLeDiff,reduceCtorEq,h3]at h2
  simp only[go_sem, ↓reduceIte,Nat.reduceEqDiff,Nat.reduceAdd,Nat.reduceSub,Nat.reduceLeDiff,reduceCtorEq,h2,h3]
 ·have h1:=hc i hi
  have h3:=fr i (by omega)
  simp only[go_sem, ↓reduceIte,Nat.reduceEqDiff,Nat.reduceAdd,Nat.reduceSub,Nat.reduceLeDiff,reduceCtorEq,h3]
 ·(try dsimp only at *)
  exact(hI.app hJ (by omega) (by omega) (by omega)).wide (by omega) (by omega)
 ·have h1:=dP hj
  have h2:=hL.2 j (by(try dsimp only);omega)
  have h3:=hK.2 j (by(try dsimp only);omega)
  simp only[go_sem, ↓reduceIte,Nat.reduceEqDiff,Nat.reduceAdd,Nat.reduceSub,Nat.reduceLeDiff,reduceCtorEq,h1]at h2 h3
  simp only[go_sem, ↓reduceIte,Nat.reduceEqDiff,Nat.reduceAdd,Nat.reduceSub,Nat.reduceLeDiff,reduceCtorEq,h1,h2,h3]
theorem D9 (p:aI) (hs:nu p) (σ:aw):Call Tryz.prog 17 [.agg (az p)] σ (fun r σ'=>∃ids,yU σ'.get r p ids/\fU σ.next σ'.next ids/\Kept σ σ'):=by
 refine fc eG rfl fun hl=>?_
 clear hl
 have t1:=fun σ=>Cd p.aD hs.s σ
 have t2:=fun σ=>r4 p.bx hs.a σ
 rw[ae]at t1
 rw[aV]at t2
 (try((repeat(revert hN;revert N;apply Pn.out));refine wk @az.eq_1 ?_;(repeat(refine Pn.mk ?_;intro N hN))))
 refine .inr (aJ _ _ _ _ _ (fun r σ1 hq=>?_) (t1 _))
 obtain⟨a,b,i1,i2,rfl,hA,hB,hI,hK⟩:=hq
 obtain⟨g1,x1⟩:=σ1
 (try dsimp only at hA hB hI hK)
 have hn:=hK.1
 have hb:=hI.2
 (try dsimp only at hb hn)
 refine hN _ _ ?_
 clear hN N
 have k1:=hK.2 ⟨17000000,σ.next⟩ (by(try dsimp only);omega)
 have k2:=hK.2 ⟨17000001,σ.next⟩ (by(try dsimp only);omega)
 have k3:=hK.2 ⟨17001000,σ.next+1⟩ (by(try dsimp only);omega)
 simp only[go_sem, ↓reduceIte,Nat.reduceEqDiff,Nat.reduceAdd,Nat.reduceSub,Nat.reduceLeDiff,reduceCtorEq]at k1 k2 k3
 obtain⟨oa,rfl⟩:=hA.kH
 obtain⟨ob,rfl⟩:=hB.kH
 (try((repeat(revert hN;revert N;apply Pn.out));refine wk (tw @az.eq_1 (tw @k1 (tw @k2 @k3))) ?_;(repeat(refine Pn.mk ?_;intro N hN))))
 refine .inr (aJ _ _ _ _ _ (fun r σ2 hq=>?_) (t2 _))
 obtain⟨i3,hC,hJ,hL⟩:=hq
 obtain⟨g2,x2⟩:=σ2
 (try dsimp only at hC hJ hL)
 have KM:=hL.1
 have hc:=hJ.2
 (try dsimp only at hc KM)
 obtain⟨c,rfl,hC⟩:=hC
 obtain⟨oc,rfl⟩:=hC.kH
 refine hN _ _ ?_
 clear hN N
 have l1:=hL.2 ⟨17000000,σ.next⟩ (by(try dsimp only);omega)
 have l2:=hL.2 ⟨17000001,σ.next⟩ (by(try dsimp only);omega)
 have l3:=hL.2 ⟨17001000,σ.next+1⟩ (by(try dsimp only);omega)
 simp only[go_sem, ↓reduceIte,Nat.reduceEqDiff,Nat.reduceAdd,Nat.reduceSub,Nat.reduceLeDiff,reduceCtorEq,k1,k2,k3]at l1 l2 l3
 (try((repeat(revert hN;revert N;apply Pn.out));refine wk (tw @az.eq_1 (tw @l1 (tw @l2 @l3))) ?_;(repeat(refine Pn.mk ?_;intro N hN))))
 refine eV (.inl rfl) (vs:=[.agg [.own oa 0 p.aD.aA.length,.own ob 0 p.aD.aq.length,.own oc 0 p.bx.aq.length,.int .i64 p.ay]]) (sd @Nat.zero_add) ?_
 have fr:∀x:Id,σ.next+2<=x.cq->(x=⟨17000001,σ.next⟩)=False/\(x=⟨17001000,σ.next+1⟩)=False:=fun x hx=>⟨(cZ (a:=⟨17000001,σ.next⟩) (b:=x) (by(try dsimp only);omega)).2,(cZ (a:=⟨17001000,σ.next+1⟩) (b:=x) (by(try dsimp only);omega)).2⟩
 have fr2:∀i∈i1++i2,g2 i=g1 i:=fun i hi=>by
  have h1:=hb i hi
  have h2:=hL.2 i (by(try dsimp only);omega)
  have h3:=fr i (by omega)
  simp only[go_sem, ↓reduceIte,Nat.reduceEqDiff,Nat.reduceAdd,Nat.reduceSub,Nat.reduceLeDiff,reduceCtorEq,h3]at h2
  exact h2
 refine⟨i1++(i2++i3),⟨_,_,_,i1,i2,i3,rfl,hA.frame AZ fun i hi=>?_,hB.frame qJ fun i hi=>?_,hC.frame xZ fun i hi=>?_,rfl⟩,?_,⟨by(try dsimp only);omega,fun j hj=>?_⟩⟩
 ·have h1:=hb i (by simp[hi])
  have h2:=fr2 i (by simp[hi])
  have h3:=fr i (by omega)
  simp only[go_sem, ↓reduceIte,Nat.reduceEqDiff,Nat.reduceAdd,Nat.reduceSub,Nat.reduceLeDiff,reduceCtorEq,h2,h3]
 ·have h1:=hb i (by simp[hi])
  have h2:=fr2 i (by simp[hi])
  have h3:=fr i (by omega)
  simp only[go_sem, ↓reduceIte,Nat.reduceEqDiff,Nat.reduceAdd,Nat.reduceSub,Nat.reduceLeDiff,reduceCtorEq,h2,h3]
 ·have h1:=hc i hi
  have h3:=fr i (by omega)
  simp only[go_sem, ↓reduceIte,Nat.reduceEqDiff,Nat.reduceAdd,Nat.reduceSub,Nat.reduceLeDiff,reduceCtorEq,h3]
 ·(try dsimp only at *)
  rw[<-List.append_assoc]
  exact(hI.app hJ (by omega) (by omega) (by omega)).wide (by omega) (by omega)
 ·have h1:=dP hj
  have h2:=hL.2 j (by(try dsimp only);omega)
  have h3:=hK.2 j (by(try dsimp only);omega)
  simp only[go_sem, ↓reduceIte,Nat.reduceEqDiff,Nat.reduceAdd,Nat.reduceSub,Nat.reduceLeDiff,reduceCtorEq,h1]at h2 h3
  simp only[go_sem, ↓reduceIte,Nat.reduceEqDiff,Nat.reduceAdd,Nat.reduceSub,Nat.reduceLeDiff,reduceCtorEq,h1,h2,h3]
end Go.Proofs.YtgoelphibofcmaaGreat.V

namespace Go.Proofs.YtgoelphibofcmaaGreat
open Go.RowKit
def kJ (n:Int):Bool:=(decide (97<=n)&&decide (n<=122))||(decide (65<=n)&&decide (n<=90))
def k8 (n:Int):Bool:=decide (48<=n)&&decide (n<=57)
def tW (i:Nat) (n:Int):Prop:=kJ n=true∨(0<i/\(k8 n=true∨n=95))
def uK (s:ByteArray):Prop:=(1<=s.size/\s.size<=12)/\∀i (h:i<s.size),tW i s[i].toNat
open Classical in
noncomputable def jH (s:ByteArray):Bool:=decide (uK s)
theorem Dz {s:ByteArray} (h:uK s):true=jH s:=by simp[jH,h]
theorem eu {s:ByteArray} (h:¬uK s):false=jH s:=by simp[jH,h]
theorem BO {s:ByteArray} {b:Bool} (hb:b=true) (h:uK s):b=jH s:=by simp[jH,h,hb]
theorem rM {s:ByteArray} {b:Bool} (hb:b=false) (h:¬uK s):b=jH s:=by simp[jH,h,hb]
theorem vU (w:World) (n:Int):Calls Tryz.prog 212 #[.int .u8 n] w fun e w'=>e=.returned (.bool (kJ n))/\w=w':=by
 go_enter Tryz.func212,Tryz.ntmps212
 go_wp2_with fail
 all_goals
  go_ret
  exact⟨iz (by unfold kJ;simp[*];try omega),rfl⟩
theorem FB (w:World) (n:Int):Calls Tryz.prog 213 #[.int .u8 n] w fun e w'=>e=.returned (.bool (k8 n))/\w=w':=by
 go_enter Tryz.func213,Tryz.ntmps213
 go_wp2_with fail
 all_goals
  go_ret
  exact⟨iz (by unfold k8;simp[*];try omega),rfl⟩
theorem BZ (w:World) (s:ByteArray) (hs:s.size<=9223372036854775807):Calls Tryz.prog 189 #[.string s] w fun e w'=>e=.returned (.bool (jH s))/\Below w.heap.size w w':=by
 by_cases h1:1<=s.size
 case neg=>
  go_enter Tryz.func189,Tryz.ntmps189
  go_wp2_with fail
  go_ret
  exact⟨iz (eu fun h=>h1 h.1.1),Below.refl _ _⟩
 by_cases h2:s.size<=12
 case neg=>
  go_enter Tryz.func189,Tryz.ntmps189
  go_wp2_with fail
  go_ret
  exact⟨iz (eu fun h=>h2 h.1.2),Below.refl _ _⟩
 go_enter Tryz.func189,Tryz.ntmps189
 go_wp2_with fail
 refine(vU _ _).mono ?_
 rintro e w' ⟨rfl,rfl⟩
 cases h3:kJ s[0].toNat
 ·go_wp2_with fail
  go_ret
  exact⟨iz (eu fun h=>by have:=h.2 0 (by omega);simp only[tW]at this;rw[h3]at this;simp at this),Below.refl _ _⟩
 ·replace h3:=Lib.hid h3
  go_wp2_with fail
  go_loop [3] (fun i=>∃k:Nat,1<=k/\k<=s.size/\i=.int .i64 k/\Hid (∀j (h:j<s.size),j<k->tW j s[j].toNat)) (fun i=>s.size-(intOf i).toNat)
  case atStart=>exact⟨1,by omega,by omega,rfl,Lib.hid fun j h hj=>by
   obtain rfl:j=0:=by omega
   exact .inl h3.out⟩
  case round=>
   obtain⟨k,vI,hk,rfl,ef⟩:=hrel
   by_cases eo:k<s.size
   ·go_wp2_with fail
    refine(vU _ _).mono ?_
    rintro e w' ⟨rfl,rfl⟩
    have lF:tW k s[k].toNat∨¬tW k s[k].toNat:=Classical.em _
    cases hl:kJ s[k].toNat
    ·go_wp2_with fail
     refine(FB _ _).mono ?_
     rintro e w' ⟨rfl,rfl⟩
     cases hd:k8 s[k].toNat
     ·by_cases ur:(s[k].toNat:Int)=95
      ·have Ss:((s[k].toNat:Int) !=95)=false:=by simp;omega
       replace ur:=Lib.hid ur
       replace hl:=Lib.hid hl
       replace hd:=Lib.hid hd
       go_wp2_with fail
       go_round
       case rel=>exact⟨k+1,by omega,by omega,by go_num,Lib.hid fun j h hj=>by
        by_cases yf:j=k
        ·subst yf;exact .inr ⟨by omega,.inr ur.out⟩
        ·exact ef.out j h (by omega)⟩
       case measure=>simp[intOf];omega
      ·have Ss:((s[k].toNat:Int) !=95)=true:=by simp;omega
       replace ur:=Lib.hid ur
       replace hl:=Lib.hid hl
       replace hd:=Lib.hid hd
       go_wp2_with fail
       go_ret
       exact⟨iz (eu fun h=>by
        have:=h.2 k eo;simp only[tW,hl.out,hd.out]at this;exact ur.out (by simp at this;exact this.2)),Below.refl _ _⟩
     ·replace hl:=Lib.hid hl
      replace hd:=Lib.hid hd
      go_wp2_with fail
      go_round
      case rel=>exact⟨k+1,by omega,by omega,by go_num,Lib.hid fun j h hj=>by
       by_cases yf:j=k
       ·subst yf;exact .inr ⟨by omega,.inl hd.out⟩
       ·exact ef.out j h (by omega)⟩
      case measure=>simp[intOf];omega
    ·replace hl:=Lib.hid hl
     go_wp2_with fail
     go_round
     case rel=>exact⟨k+1,by omega,by omega,by go_num,Lib.hid fun j h hj=>by
      by_cases yf:j=k
      ·subst yf;exact .inl hl.out
      ·exact ef.out j h (by omega)⟩
     case measure=>simp[intOf];omega
   ·go_wp2_with fail
    go_ret
    exact⟨iz (Dz ⟨⟨h1,h2⟩,fun i h=>ef.out i h (by omega)⟩),Below.refl _ _⟩
theorem Bo (w:World) (s:ByteArray) (hs:s.size<=9223372036854775807):Calls Tryz.prog 198 #[.string s] w fun e w'=>e=.returned (.bool (jH s))/\w=w':=by
 go_enter Tryz.func198,Tryz.ntmps198
 go_wp2_with fail
 go_loop [8] (fun i=>∃k:Nat,k<=s.size/\i=.int .i64 k/\Hid (∀j (h:j<s.size),j<k->tW j s[j].toNat)) (fun i=>s.size-(intOf i).toNat)
 case atStart=>exact⟨0,by omega,rfl,Lib.hid fun j h hj=>by omega⟩
 case round=>
  obtain⟨k,hk,rfl,ef⟩:=hrel
  by_cases eo:k<s.size
  ·have hc:(s[k].toNat:Int)<48∨(48<=(s[k].toNat:Int)/\(s[k].toNat:Int)<=57)∨(58<=(s[k].toNat:Int)/\(s[k].toNat:Int)<=64)∨(65<=(s[k].toNat:Int)/\(s[k].toNat:Int)<=90)∨(91<=(s[k].toNat:Int)/\(s[k].toNat:Int)<=94)∨(95<=(s[k].toNat:Int)/\(s[k].toNat:Int)<=95)∨(96<=(s[k].toNat:Int)/\(s[k].toNat:Int)<=96)∨(97<=(s[k].toNat:Int)/\(s[k].toNat:Int)<=122)∨123<=(s[k].toNat:Int):=by omega
   by_cases w8:k=0
   ·subst w8
    rcases hc with h|⟨h,h'⟩|⟨h,h'⟩|⟨h,h'⟩|⟨h,h'⟩|⟨h,h'⟩|⟨h,h'⟩|⟨h,h'⟩|h
    ·have ur:((s[0].toNat:Int) !=95)=true:=by simp;try omega
     go_wp2_with fail
     all_goals first
      |(go_ret;exact⟨iz (eu fun hh=>by have:=hh.2 0 eo;simp[tW,kJ,k8]at this;omega),rfl⟩)
      |(exfalso;simp_all;done)
      |(exfalso;simp_all;omega)
    ·have ur:((s[0].toNat:Int) !=95)=true:=by simp;try omega
     go_wp2_with fail
     all_goals first
      |(go_ret;exact⟨iz (eu fun hh=>by have:=hh.2 0 eo;simp[tW,kJ,k8]at this;omega),rfl⟩)
      |(exfalso;simp_all;done)
      |(exfalso;simp_all;omega)
    ·have ur:((s[0].toNat:Int) !=95)=true:=by simp;try omega
     go_wp2_with fail
     all_goals first
      |(go_ret;exact⟨iz (eu fun hh=>by have:=hh.2 0 eo;simp[tW,kJ,k8]at this;omega),rfl⟩)
      |(exfalso;simp_all;done)
      |(exfalso;simp_all;omega)
    ·have ur:((s[0].toNat:Int) !=95)=true:=by simp;try omega
     go_wp2_with fail
     go_round
     case rel=>exact⟨0+1,by omega,by go_num,Lib.hid fun j hj yf=>by
      by_cases Ij:j=0
      ·subst Ij;simp[tW,kJ,k8];omega
      ·exact ef.out j hj (by omega)⟩
     case measure=>simp[intOf];try omega
    ·have ur:((s[0].toNat:Int) !=95)=true:=by simp;try omega
     go_wp2_with fail
     all_goals first
      |(go_ret;exact⟨iz (eu fun hh=>by have:=hh.2 0 eo;simp[tW,kJ,k8]at this;omega),rfl⟩)
      |(exfalso;simp_all;done)
      |(exfalso;simp_all;omega)
    ·have ur:((s[0].toNat:Int) !=95)=false:=by simp;try omega
     go_wp2_with fail
     all_goals first
      |(go_ret;exact⟨iz (eu fun hh=>by have:=hh.2 0 eo;simp[tW,kJ,k8]at this;omega),rfl⟩)
      |(exfalso;simp_all;done)
      |(exfalso;simp_all;omega)
    ·have ur:((s[0].toNat:Int) !=95)=true:=by simp;try omega
     go_wp2_with fail
     all_goals first
      |(go_ret;exact⟨iz (eu fun hh=>by have:=hh.2 0 eo;simp[tW,kJ,k8]at this;omega),rfl⟩)
      |(exfalso;simp_all;done)
      |(exfalso;simp_all;omega)
    ·have ur:((s[0].toNat:Int) !=95)=true:=by simp;try omega
     go_wp2_with fail
     go_round
     case rel=>exact⟨0+1,by omega,by go_num,Lib.hid fun j hj yf=>by
      by_cases Ij:j=0
      ·subst Ij;simp[tW,kJ,k8];omega
      ·exact ef.out j hj (by omega)⟩
     case measure=>simp[intOf];try omega
    ·have ur:((s[0].toNat:Int) !=95)=true:=by simp;try omega
     go_wp2_with fail
     all_goals first
      |(go_ret;exact⟨iz (eu fun hh=>by have:=hh.2 0 eo;simp[tW,kJ,k8]at this;omega),rfl⟩)
      |(exfalso;simp_all;done)
      |(exfalso;simp_all;omega)
   ·have hz:((k:Int)==0)=false:=by simpa using w8
    have vI:1<=k:=by omega
    clear w8
    rcases hc with h|⟨h,h'⟩|⟨h,h'⟩|⟨h,h'⟩|⟨h,h'⟩|⟨h,h'⟩|⟨h,h'⟩|⟨h,h'⟩|h
    ·have ur:((s[k].toNat:Int) !=95)=true:=by simp;try omega
     go_wp2_with fail
     all_goals first
      |(go_ret;exact⟨iz (eu fun hh=>by have:=hh.2 k eo;simp[tW,kJ,k8]at this;omega),rfl⟩)
      |(exfalso;simp_all;done)
      |(exfalso;simp_all;omega)
    ·have ur:((s[k].toNat:Int) !=95)=true:=by simp;try omega
     go_wp2_with fail
     go_round
     case rel=>exact⟨k+1,by omega,by go_num,Lib.hid fun j hj yf=>by
      by_cases Ij:j=k
      ·subst Ij;simp[tW,kJ,k8];omega
      ·exact ef.out j hj (by omega)⟩
     case measure=>simp[intOf];try omega
    ·have ur:((s[k].toNat:Int) !=95)=true:=by simp;try omega
     go_wp2_with fail
     all_goals first
      |(go_ret;exact⟨iz (eu fun hh=>by have:=hh.2 k eo;simp[tW,kJ,k8]at this;omega),rfl⟩)
      |(exfalso;simp_all;done)
      |(exfalso;simp_all;omega)
    ·have ur:((s[k].toNat:Int) !=95)=true:=by simp;try omega
     go_wp2_with fail
     go_round
     case rel=>exact⟨k+1,by omega,by go_num,Lib.hid fun j hj yf=>by
      by_cases Ij:j=k
      ·subst Ij;simp[tW,kJ,k8];omega
      ·exact ef.out j hj (by omega)⟩
     case measure=>simp[intOf];try omega
    ·have ur:((s[k].toNat:Int) !=95)=true:=by simp;try omega
     go_wp2_with fail
     all_goals first
      |(go_ret;exact⟨iz (eu fun hh=>by have:=hh.2 k eo;simp[tW,kJ,k8]at this;omega),rfl⟩)
      |(exfalso;simp_all;done)
      |(exfalso;simp_all;omega)
    ·have ur:((s[k].toNat:Int) !=95)=false:=by simp;try omega
     go_wp2_with fail
     go_round
     case rel=>exact⟨k+1,by omega,by go_num,Lib.hid fun j hj yf=>by
      by_cases Ij:j=k
      ·subst Ij;simp[tW,kJ,k8];omega
      ·exact ef.out j hj (by omega)⟩
     case measure=>simp[intOf];try omega
    ·have ur:((s[k].toNat:Int) !=95)=true:=by simp;try omega
     go_wp2_with fail
     all_goals first
      |(go_ret;exact⟨iz (eu fun hh=>by have:=hh.2 k eo;simp[tW,kJ,k8]at this;omega),rfl⟩)
      |(exfalso;simp_all;done)
      |(exfalso;simp_all;omega)
    ·have ur:((s[k].toNat:Int) !=95)=true:=by simp;try omega
     go_wp2_with fail
     go_round
     case rel=>exact⟨k+1,by omega,by go_num,Lib.hid fun j hj yf=>by
      by_cases Ij:j=k
      ·subst Ij;simp[tW,kJ,k8];omega
      ·exact ef.out j hj (by omega)⟩
     case measure=>simp[intOf];try omega
    ·have ur:((s[k].toNat:Int) !=95)=true:=by simp;try omega
     go_wp2_with fail
     all_goals first
      |(go_ret;exact⟨iz (eu fun hh=>by have:=hh.2 k eo;simp[tW,kJ,k8]at this;omega),rfl⟩)
      |(exfalso;simp_all;done)
      |(exfalso;simp_all;omega)
  ·by_cases h1:1<=s.size
   ·by_cases h2:s.size<=12
    ·go_wp2_with fail
     go_ret
     exact⟨iz (BO (by simp<;>omega) ⟨⟨h1,h2⟩,fun i h=>ef.out i h (by omega)⟩),rfl⟩
    ·go_wp2_with fail
     go_ret
     exact⟨iz (rM (by simp<;>omega) fun h=>h2 h.1.2),rfl⟩
   ·go_wp2_with fail
    go_ret
    exact⟨iz (rM (by simp<;>omega) fun h=>h1 h.1.1),rfl⟩
end Go.Proofs.YtgoelphibofcmaaGreat

namespace Go.Proofs.YtgoelphibofcmaaGreat.V
open Go.RowKit
theorem mixed:Tryz.prog.follows .mixedOrders=true:=by kernel_rfl
variable {P:Program} {w:World} {D:Nat->Prop} {ι:Names}
theorem lI {f:Nat} {args:List AV} {r:AV} {vs0:Array Value} {u0:Value} (nz:∀(w:World) (D:Nat->Prop) (ι:Names) vs,eW P w D ι args vs->vs=vs0) (hr:∀(w:World) (D:Nat->Prop) (ι:Names),dj P w D ι r u0) (Bd:∀g,gn g 6 r=some r)
  (h:∀w,Calls P f vs0 w fun e w'=>e=.returned u0/\Below w.heap.size w w'):au P f args r:=by
 intro n
 refine gD fun hs D ι w vs S U A=>?_
 have:=nz w D ι vs A
 subst this
 refine(h w).mono ?_
 rintro e w' ⟨rfl,hb⟩
 exact⟨r,_,n,D,ι,u0,rfl,⟨r,Bd _,rfl⟩,Step.stay S hb.block hb.size hb.os hb.tape hb.output (fun _ h=>h) (fun _ h=>.inl h) (fun _ _ h=>h),
  S.stay hb.block hb.size (fun _ h=>h) (fun b hd=>Nat.lt_of_lt_of_le (S.dead b hd) hb.size) (fun _ h=>.inl h) (fun _ _ h=>h),U,Nat.le_refl _,hr _ _ _⟩
theorem BX {s:ByteArray} {vs:Array Value} (h:eW P w D ι [.str s] vs):vs= #[.string s]:=by
 obtain⟨h1,h2⟩:=h
 obtain⟨u,hu,hr⟩:=h2 0 _ rfl
 rw[fC hr]at hu
 obtain⟨l⟩:=vs
 cases l with
 |nil=>simp at h1
 |cons a l=>cases l with
  |nil=>simp at hu;subst hu;rfl
  |cons b l=>simp at h1
theorem E7 (s:ByteArray) (hs:s.size<=9223372036854775807):au Tryz.prog 189 [.str s] (.bool (jH s)):=
 lI (fun _ _ _ _=>BX) (fun _ _ _=>.eU _ _ (.bool _)) (fun g=>fN g 5 _) fun w=>BZ w s hs
theorem EU (s:ByteArray) (hs:s.size<=9223372036854775807):au Tryz.prog 198 [.str s] (.bool (jH s)):=
 lI (fun _ _ _ _=>BX) (fun _ _ _=>.eU _ _ (.bool _)) (fun g=>fN g 5 _) fun w=>(Bo w s hs).mono (by rintro e w' ⟨rfl,rfl⟩;exact⟨rfl,Below.refl _ _⟩)
end Go.Proofs.YtgoelphibofcmaaGreat.V

namespace Go.Proofs.YtgoelphibofcmaaGreat
open Go.RowKit
def tY (n:Nat):List UInt8:=if h:n=0 then[]else tY (n / 10)++[UInt8.ofNat (48+n % 10)]
termination_by n
decreasing_by omega
def oK (k:Int):ByteArray:=if k<=0 then⟨#[109,48]⟩else⟨(109::tY k.toNat).toArray⟩
theorem FC:tY 0=[]:=by unfold tY;simp
theorem HG {n:Nat} (h:n≠0):tY n=tY (n / 10)++[UInt8.ofNat (48+n % 10)]:=by
 conv=>lhs;unfold tY
 rw[dif_neg h]
theorem xX (c:UInt8) (l:ByteArray):((⟨#[c]⟩++l:ByteArray)).data.toList=c::l.data.toList:=by
 simp[ByteArray.data_append]
theorem AR:∀(m n:Nat),n<10 ^ m->(tY n).length<=m
 |0,n,h=>by
  have:n=0:=by simpa using h
  subst this;simp[tY]
 |m+1,n,h=>by
  unfold tY
  split
  ·simp
  ·have:=AR m (n / 10) (by rw[Nat.pow_succ]at h;omega)
   simp;omega
theorem zI (w:World) (k:Int) (h0:0<=k) (h1:k<=4611686018427387904):
  Calls Tryz.prog 179 #[.int .i64 k] w fun e w'=>e=.returned (.string (oK k))/\Below w.heap.size w w':=by
 by_cases hk:k<=0
 ·go_enter Tryz.func179,Tryz.ntmps179
  go_wp2_with fail
  go_ret
  exact⟨by simp[oK,hk],Below.refl _ _⟩
 ·go_enter Tryz.func179,Tryz.ntmps179
  go_wp2_with fail
  go_loopw [0,3] (fun a s wr=>∃(j:Int) (l:ByteArray),a=.int .i64 j/\s=.string l/\0<=j/\j<=4611686018427387904/\Hid (tY j.toNat++l.data.toList=tY k.toNat)/\Below w.heap.size w wr) (fun a _ _=>(intOf a).toNat)
  case atStart=>exact⟨k,⟨#[]⟩,rfl,rfl,h0,h1,Lib.hid (by simp),Below.refl _ _⟩
  case round=>
   obtain⟨j,l,rfl,rfl,hj0,hj1,hd,hb⟩:=hrel
   have eL:l.size<=19:=by
    have h1:=congrArg List.length hd.out
    have h2:=AR 19 k.toNat (by omega)
    rw[List.length_append]at h1
    have:l.data.toList.length=l.size:=by rw[Array.length_toList];rfl
    omega
   by_cases hj:0<j
   ·have G3:∀v:Int,(convert 241 9 (.slice (some ⟨wr.heap.size,0,none⟩) 1 1)).run Tryz.prog (wr.alloc (.cells #[.int .u8 v] 5))=.ok (.string ⟨#[UInt8.ofNat v.toNat]⟩) (wr.alloc (.cells #[.int .u8 v] 5)):=by
     intro v
     rw[run_convert_bytes_string _ _ _ 5 _ _ _ Tryz.underlying241 Tryz.underlying5 Tryz.underlying9,run_bytesToString _ _ _ _ [v] (by simp[loadCells,loadCellsFrom,go_sem])]
     rfl
    have hr:=eL
    go_wp2_with fail
    go_roundw
    case rel=>
     refine⟨_,_,rfl,rfl,by omega,by omega,Lib.hid ?_,hb.alloc hb.size _⟩
     rw[<-hd.out,xX,HG (show j.toNat≠0 by omega),show(j / 10).toNat=j.toNat / 10 by omega,show(48+j % 10).toNat=48+j.toNat % 10 by omega]
     simp
    case measure=>simp[intOf];omega
   ·go_wp2_with fail
    go_ret
    refine⟨?_,hb⟩
    have h1:=hd.out
    rw[show j.toNat=0 by omega,FC,List.nil_append]at h1
    have h2:(⟨#[109]⟩++l:ByteArray)=oK k:=by
     rw[oK,if_neg (by omega)]
     refine ByteArray.ext (Array.ext' ?_)
     rw[xX,h1]
    rw[h2];rfl
end Go.Proofs.YtgoelphibofcmaaGreat

namespace Go.Proofs.YtgoelphibofcmaaGreat.V
open Go.RowKit
attribute [local irreducible] eh wpOps fI Call
attribute [local go_sem] aM fj eJ fF fE da upd cu K.av cI AV.cells AV.cell rowOf rowsOf part ld rowAt bK bV dq dM gy bD cY dY fA eS dk dR cW cV dD dE bG bc cL bF cP cN dO dS dQ cK bL cX dN bE aO cR cz gx bm cH bH aY dp bl dr AV.undef bt bz dF dL dy dC cF dX eb cw dV dU cQ cU List.getD_cons_zero List.getD_cons_succ List.getD_nil List.all_cons List.all_nil Bool.and_true Bool.true_and Bool.and_self Bool.not_true Bool.not_false Option.map_some Option.map_none Option.bind_some Option.bind_none List.length_cons List.length_nil List.take_succ_cons List.take_zero List.take_nil List.drop_succ_cons List.drop_zero List.drop_nil List.head?_cons List.map_cons List.map_nil List.getElem?_cons_zero List.getElem?_cons_succ List.cons_append List.nil_append List.append_nil List.length_map List.set_cons_zero List.set_cons_succ Nat.reduceMul eq_self Int.toNat_natCast Int.natCast_nonneg and_self true_and and_true decide_true decide_false Bool.false_eq_true Nat.zero_add Nat.add_zero List.contains_cons List.contains_nil Bool.or_false Bool.false_or beq_self_eq_true Nat.reduceBEq ne_eq not_true_eq_false not_false_eq_true Id.mk.injEq false_and and_false Nat.reduceLT Int.reduceLE Int.reduceLT Int.reduceToNat Int.reduceNeg Int.reduceAdd Nat.le_refl List.length_append beq_true beq_false Bool.not_eq_eq_eq_not or_false false_or dK aj ar aH bd br bW aT aZ aU bf cJ bw
def qM (σ:aw) (ids:List Id) (g:Rows) (n:Nat):Prop:=σ.next<=n/\∀x:Id,x.cq<σ.next->x∉ids->g x=σ.get x
theorem qM.trans {a b:aw} {i j:List Id} {g:Rows} {n:Nat} (h:qM a i b.get b.next) (k:qM b j g n):qM a (i++j) g n:=
 ⟨Nat.le_trans h.1 k.1,fun x hx hi=>(k.2 x (Nat.lt_of_lt_of_le hx h.1) fun hc=>hi (by simp[hc])).trans (h.2 x hx fun hc=>hi (by simp[hc]))⟩
theorem qM.sub {a:aw} {i j:List Id} {g:Rows} {n:Nat} (h:qM a i g n) (hs:∀x∈i,x∈j):qM a j g n:=⟨h.1,fun x hx hj=>h.2 x hx fun hi=>hj (hs x hi)⟩
theorem wI (l:List (List AV)) (i:Nat) (a b:List AV):(l.set i a).set i b=l.set i b:=List.set_set ..
theorem HH {l:List Int} {j:Nat} (h:j<l.length):(l.map bu)[j]? =some [.int .i64 l[j]]:=by simp[h,bu]
theorem Lu {P:Program} {w:World} {D:Nat->Prop} {ι:Names} {k:Int} {vs:Array Value} (h:eW P w D ι [.int .i64 k] vs):vs= #[.int .i64 k]:=by
 obtain⟨h1,h2⟩:=h
 obtain⟨u,hu,hr⟩:=h2 0 _ rfl
 rw[dz hr]at hu
 obtain⟨l⟩:=vs
 cases l with
 |nil=>simp at h1
 |cons a l=>cases l with
  |nil=>simp at hu;subst hu;rfl
  |cons b l=>simp at h1
theorem vV (k:Int) (h0:0<=k) (h1:k<=4611686018427387904):au Tryz.prog 179 [.int .i64 k] (.str (oK k)):=
 lI (vs0:= #[.int .i64 k]) (u0:=.string (oK k)) (fun _ _ _ _=>Lu) (fun w D ι=>.eU _ _ (.str _)) (fun g=>Kv g 5 _) fun w=>zI w k h0 h1
theorem Dx (i:Id) (l:List Int) (k:Int) (h0:0<=k) (h1:k+l.length<=4611686018427387904) (σ:aw) (hv:i.cq<σ.next) (hg:σ.get i=some ⟨true,1,l.map bu⟩):
  Call Tryz.prog 33 [.own i 0 l.length,.int .i64 k] σ (fun r σ'=>r=.int .i64 (k+l.length)/\qM σ [i] σ'.get σ'.next):=by
 refine fc eG rfl fun hl=>?_
 clear hl
 obtain⟨nn,hn⟩:∃nn,l.length=nn:=⟨_,rfl⟩
 rw[hn]at h1 ⊢
 (try((repeat(revert hN;revert N;apply Pn.out));refine wk @Nat.zero_add ?_;(repeat(refine Pn.mk ?_;intro N hN))))
 refine bh (fun n env st=>∃j:Nat,n=(nn)-j/\j<=(nn)/\env 5=.int .i64 (j:Int)/\env 1=.int .i64 (k+j)/\(qM σ [i] st.get st.next/\∃l':List Int,l'.length=nn/\st.get i=some ⟨true,1,l'.map bu⟩)) (nn) ⟨0,by omega,by omega,sl (tw @Int.add_zero @Int.natCast_zero),sl (tw @Int.add_zero @Int.natCast_zero),by(try dsimp only);exact⟨⟨by(try dsimp only);omega,fun x _ _=>rfl⟩,l,hn,hg⟩⟩ ?_
 rintro n_a env_a st_a ⟨j,rfl,ale,a5,a1,lS⟩ dW
 have a0:=dW 0 (by kernel_rfl)
 simp only[go_sem, ↓reduceIte,Nat.reduceEqDiff,Nat.reduceAdd,Nat.reduceSub,Nat.reduceLeDiff,reduceCtorEq,Int.add_zero,Int.natCast_zero]at a0
 clear dW
 obtain⟨⟨an,aF⟩,l',al,ag⟩:=lS
 by_cases hj:(j:Int)<(nn:Int)
 ·have cG:∀{e:Env} {gg:Rows} {nx:Nat},(e 5=.int .i64 (IntKind.i64.wrap ((j:Int)+1)))->(e 1=.int .i64 (k+(j+1)))->(qM σ [i] gg nx/\∃l':List Int,l'.length=nn/\gg i=some ⟨true,1,l'.map bu⟩)->∃m0,m0<(nn)-j/\∃j:Nat,m0=(nn)-j/\j<=(nn)/\e 5=.int .i64 (j:Int)/\e 1=.int .i64 (k+j)/\(qM σ [i] gg nx/\∃l':List Int,l'.length=nn/\gg i=some ⟨true,1,l'.map bu⟩):=fun x1 x2 x3=>⟨_,by omega,j+1,rfl,by omega,(by rw[x1,aC (by omega)]),x2,x3⟩
  have jv:j<l'.length:=by omega
  have fu:=HH jv
  have eP:(l'.map bu).set j [.int .i64 (k+j)]=(l'.set j (k+j)).map bu:=by rw[List.map_set];rfl
  have hw:IntKind.i64.wrap (k+(j:Int)+1)=k+((j:Int)+1):=by rw[bQ (by omega)];omega
  (try((repeat(revert hN;revert N;apply Pn.out));refine wk (tw @a5 (tw @a1 (tw @a0 (tw @hj (tw @ag (tw @fu (tw @eP @hw))))))) ?_;(repeat(refine Pn.mk ?_;intro N hN))))
  refine cG ?_ ?_ (by(try dsimp only);exact⟨⟨by(try dsimp only);omega,fun x hx hi=>by
   have h2:=aF x hx hi
   have h3:(x=i)=False:=eq_false fun e=>hi (by simp[e])
   simp only[go_sem, ↓reduceIte,Nat.reduceEqDiff,Nat.reduceAdd,Nat.reduceSub,Nat.reduceLeDiff,reduceCtorEq,h2,h3]⟩,l'.set j (k+j),by simp[al],sl @Nat.zero_add⟩)
  all_goals simp only[go_sem, ↓reduceIte,Nat.reduceEqDiff,Nat.reduceAdd,Nat.reduceSub,Nat.reduceLeDiff,reduceCtorEq,a5,a1,a0,hw]
 ·have jv:j=nn:=by omega
  subst jv
  (try((repeat(revert hN;revert N;apply Pn.out));refine wk (tw @a5 (tw @a1 (tw @a0 @hj))) ?_;(repeat(refine Pn.mk ?_;intro N hN))))
  exact eV (.inl rfl) (vs:=[.int .i64 (k+j)]) (sd (tw @a5 (tw @a1 @a0))) ⟨rfl,⟨by(try dsimp only);omega,fun x hx hi=>aF x hx hi⟩⟩
def Cv (k:Int) (n:Nat):List ah:=(List.range n).map fun j:Nat=>⟨⟨k+3*(j:Int),k+3*(j:Int)+1⟩,k+3*(j:Int)+2⟩
theorem iq (k:Int) (n:Nat):(Cv k n).length=n:=by simp[Cv]
theorem IM (k:Int) (n:Nat):Cv k (n+1)=Cv k n++[⟨⟨k+3*(n:Int),k+3*(n:Int)+1⟩,k+3*(n:Int)+2⟩]:=by simp[Cv,List.range_succ]
def mT (k:Int) (l:List ah) (j:Nat):List ah:=Cv k j++l.drop j
theorem IP {k:Int} {l:List ah} {j:Nat} (h:j<=l.length):(mT k l j).length=l.length:=by simp[mT,iq];omega
theorem Lg {k:Int} {l:List ah} {j:Nat} (h:j<l.length):((mT k l j).map aa)[j]? =some [.int .i64 l[j].aW.eZ,.int .i64 l[j].aW.eT,.int .i64 l[j].aP]:=by
 rw[List.getElem?_map,mT,List.getElem?_append_right (by rw[iq];omega),iq,Nat.sub_self,List.getElem?_drop,Nat.add_zero,List.getElem?_eq_getElem h];rfl
theorem IQ {k:Int} {l:List ah} {j:Nat} (h:j<l.length):((mT k l j).map aa).set j [.int .i64 (k+3*(j:Int)),.int .i64 (k+3*(j:Int)+1),.int .i64 (k+3*(j:Int)+2)]=(mT k l (j+1)).map aa:=by
 have:(mT k l j).set j ⟨⟨k+3*(j:Int),k+3*(j:Int)+1⟩,k+3*(j:Int)+2⟩=mT k l (j+1):=by
  rw[mT,List.set_append_right _ _ (by rw[iq];omega),iq,Nat.sub_self,List.drop_eq_getElem_cons h,List.set_cons_zero,mT,IM,List.append_assoc];rfl
 rw[<-this,List.map_set];rfl
theorem rL (i:Id) (l:List ah) (k:Int) (h0:0<=k) (h1:k+3*l.length<=4611686018427387904) (σ:aw) (hv:i.cq<σ.next) (hg:σ.get i=some ⟨true,3,l.map aa⟩):
  Call Tryz.prog 77 [.own i 0 l.length,.int .i64 k] σ (fun r σ'=>r=.int .i64 (k+3*l.length)/\qM σ [i] σ'.get σ'.next/\σ'.get i=some ⟨true,3,(Cv k l.length).map aa⟩):=by
 refine fc eG rfl fun hl=>?_
 clear hl
 have hz:mT k l 0=l:=by simp[mT,Cv]
 (try((repeat(revert hN;revert N;apply Pn.out));refine wk @Nat.zero_add ?_;(repeat(refine Pn.mk ?_;intro N hN))))
 refine bh (fun n env st=>∃j:Nat,n=(l.length)-j/\j<=(l.length)/\env 5=.int .i64 (j:Int)/\env 1=.int .i64 (k+3*j)/\st.get i=some ⟨true,3,(mT k l j).map aa⟩/\(qM σ [i] st.get st.next)) (l.length) ⟨0,by omega,by omega,sl (tw @Int.add_zero (tw @Int.natCast_zero (tw @Int.mul_zero (tw @hz @hg)))),sl (tw @Int.add_zero (tw @Int.natCast_zero (tw @Int.mul_zero (tw @hz @hg)))),sl (tw @Int.add_zero (tw @Int.natCast_zero (tw @Int.mul_zero (tw @hz @hg)))),by(try dsimp only);exact⟨by(try dsimp only);omega,fun x _ _=>rfl⟩⟩ ?_
 rintro n_a env_a st_a ⟨j,rfl,ale,a5,a1,ag0,lS⟩ dW
 have a0:=dW 0 (by kernel_rfl)
 simp only[go_sem, ↓reduceIte,Nat.reduceEqDiff,Nat.reduceAdd,Nat.reduceSub,Nat.reduceLeDiff,reduceCtorEq,Int.add_zero,Int.natCast_zero,Int.mul_zero,hz,hg]at a0
 clear dW
 obtain⟨an,aF⟩:=lS
 by_cases hj:(j:Int)<(l.length:Int)
 ·have cG:∀{e:Env} {gg:Rows} {nx:Nat},(e 5=.int .i64 (IntKind.i64.wrap ((j:Int)+1)))->(e 1=.int .i64 (k+3*(j+1)))->(gg i=some ⟨true,3,(mT k l (j+1)).map aa⟩)->(qM σ [i] gg nx)->∃m0,m0<(l.length)-j/\∃j:Nat,m0=(l.length)-j/\j<=(l.length)/\e 5=.int .i64 (j:Int)/\e 1=.int .i64 (k+3*j)/\gg i=some ⟨true,3,(mT k l j).map aa⟩/\(qM σ [i] gg nx):=fun x1 x2 x3 x4=>⟨_,by omega,j+1,rfl,by omega,(by rw[x1,aC (by omega)]),x2,x3,x4⟩
  have jv:j<l.length:=by omega
  have fu:=Lg (k:=k) jv
  have eP:=IQ (k:=k) jv
  have pe:IntKind.i64.wrap (k+3*(j:Int)+1)=k+3*(j:Int)+1:=bQ (by omega)
  have yi:IntKind.i64.wrap (k+3*(j:Int)+1+1)=k+3*(j:Int)+2:=by rw[bQ (by omega)];omega
  have Mo:IntKind.i64.wrap (k+3*(j:Int)+2+1)=k+3*((j:Int)+1):=by rw[bQ (by omega)];omega
  have hlen:((mT k l j).map aa).length=l.length:=by rw[List.length_map,IP (by omega)]
  have KF:∀c:List AV,(((mT k l j).map aa).set j c)[j]? =some c:=fun c=>by rw[List.getElem?_set_self (by rw[hlen];exact jv)]
  (try((repeat(revert hN;revert N;apply Pn.out));refine wk (tw @a5 (tw @a1 (tw @ag0 (tw @a0 (tw @hj (tw @fu (tw @KF (tw @eP (tw @pe (tw @yi (tw @Mo (tw @hlen @wI)))))))))))) ?_;(repeat(refine Pn.mk ?_;intro N hN))))
  refine cG ?_ ?_ ?_ (by(try dsimp only);exact⟨by(try dsimp only);omega,fun x hx hi=>by
   have h2:=aF x hx hi
   have h3:(x=i)=False:=eq_false fun e=>hi (by simp[e])
   simp only[go_sem, ↓reduceIte,Nat.reduceEqDiff,Nat.reduceAdd,Nat.reduceSub,Nat.reduceLeDiff,reduceCtorEq,h2,h3]⟩)
  all_goals simp only[go_sem, ↓reduceIte,Nat.reduceEqDiff,Nat.reduceAdd,Nat.reduceSub,Nat.reduceLeDiff,reduceCtorEq,a5,a1,ag0,a0,Mo,eP]
 ·have jv:j=l.length:=by omega
  subst jv
  (try((repeat(revert hN;revert N;apply Pn.out));refine wk (tw @a5 (tw @a1 (tw @ag0 (tw @a0 @hj)))) ?_;(repeat(refine Pn.mk ?_;intro N hN))))
  have lP:mT k l l.length=Cv k l.length:=by simp[mT]
  rw[lP]at ag0
  exact eV (.inl rfl) (vs:=[.int .i64 (k+3*l.length)]) (sd (tw @a5 (tw @a1 (tw @ag0 @a0)))) ⟨rfl,⟨by(try dsimp only);omega,fun x hx hi=>aF x hx hi⟩,ag0⟩
theorem BI (i:Id) (l:List fy) (k:Int) (h0:0<=k) (h1:k+2*l.length<=4611686018427387904) (σ:aw) (hv:i.cq<σ.next) (hg:σ.get i=some ⟨true,2,l.map bU⟩):
  Call Tryz.prog 131 [.own i 0 l.length,.int .i64 k] σ (fun r σ'=>r=.int .i64 (k+2*l.length)/\qM σ [i] σ'.get σ'.next):=by
 refine fc eG rfl fun hl=>?_
 clear hl
 obtain⟨nn,hn⟩:∃nn,l.length=nn:=⟨_,rfl⟩
 rw[hn]at h1 ⊢
 (try((repeat(revert hN;revert N;apply Pn.out));refine wk @Nat.zero_add ?_;(repeat(refine Pn.mk ?_;intro N hN))))
 refine bh (fun n env st=>∃j:Nat,n=(nn)-j/\j<=(nn)/\env 5=.int .i64 (j:Int)/\env 1=.int .i64 (k+2*j)/\(qM σ [i] st.get st.next/\∃l':List fy,l'.length=nn/\st.get i=some ⟨true,2,l'.map bU⟩)) (nn) ⟨0,by omega,by omega,sl (tw @Int.add_zero (tw @Int.natCast_zero @Int.mul_zero)),sl (tw @Int.add_zero (tw @Int.natCast_zero @Int.mul_zero)),by(try dsimp only);exact⟨⟨by(try dsimp only);omega,fun x _ _=>rfl⟩,l,hn,hg⟩⟩ ?_
 rintro n_a env_a st_a ⟨j,rfl,ale,a5,a1,lS⟩ dW
 have a0:=dW 0 (by kernel_rfl)
 simp only[go_sem, ↓reduceIte,Nat.reduceEqDiff,Nat.reduceAdd,Nat.reduceSub,Nat.reduceLeDiff,reduceCtorEq,Int.add_zero,Int.natCast_zero,Int.mul_zero]at a0
 clear dW
 obtain⟨⟨an,aF⟩,l',al,ag⟩:=lS
 by_cases hj:(j:Int)<(nn:Int)
 ·have cG:∀{e:Env} {gg:Rows} {nx:Nat},(e 5=.int .i64 (IntKind.i64.wrap ((j:Int)+1)))->(e 1=.int .i64 (k+2*(j+1)))->(qM σ [i] gg nx/\∃l':List fy,l'.length=nn/\gg i=some ⟨true,2,l'.map bU⟩)->∃m0,m0<(nn)-j/\∃j:Nat,m0=(nn)-j/\j<=(nn)/\e 5=.int .i64 (j:Int)/\e 1=.int .i64 (k+2*j)/\(qM σ [i] gg nx/\∃l':List fy,l'.length=nn/\gg i=some ⟨true,2,l'.map bU⟩):=fun x1 x2 x3=>⟨_,by omega,j+1,rfl,by omega,(by rw[x1,aC (by omega)]),x2,x3⟩
  have jv:j<l'.length:=by omega
  have fu:(l'.map bU)[j]? =some [.str l'[j].aL,.int .i64 l'[j].eB]:=by simp[jv,bU]
  have hlen:(l'.map bU).length=nn:=by rw[List.length_map,al]
  have KF:∀c:List AV,((l'.map bU).set j c)[j]? =some c:=fun c=>by rw[List.getElem?_set_self (by rw[List.length_map];exact jv)]
  have ht:=vV (k+2*(j:Int)) (by omega) (by omega)
  have pe:IntKind.i64.wrap (k+2*(j:Int)+1)=k+2*(j:Int)+1:=bQ (by omega)
  have yi:IntKind.i64.wrap (k+2*(j:Int)+1+1)=k+2*((j:Int)+1):=by rw[bQ (by omega)];omega
  generalize oK (k+2*(j:Int))=mt at ht
  have eP:(l'.map bU).set j [.str mt,.int .i64 (k+2*(j:Int)+1)]=(l'.set j ⟨mt,k+2*(j:Int)+1⟩).map bU:=by rw[List.map_set];rfl
  (repeat(first|((repeat(revert hN;revert N;apply Pn.out));refine wk (tw @a5 (tw @a1 (tw @a0 (tw @hj (tw @ag (tw @fu (tw @KF (tw @eP (tw @pe (tw @yi (tw @hlen @wI))))))))))) ?_;(repeat(refine Pn.mk ?_;intro N hN)))|((try apply Or.inl);refine⟨_,au.x (ht) (sd (tw @a5 (tw @a1 (tw @a0 (tw @hj (tw @ag (tw @fu (tw @KF (tw @eP (tw @pe (tw @yi (tw @hlen @wI)))))))))))),?_⟩;refine hN _ _ ?_;clear hN N)))
  refine cG ?_ ?_ (by(try dsimp only);exact⟨⟨by(try dsimp only);omega,fun x hx hi=>by
   have h2:=aF x hx hi
   have h3:(x=i)=False:=eq_false fun e=>hi (by simp[e])
   simp only[go_sem, ↓reduceIte,Nat.reduceEqDiff,Nat.reduceAdd,Nat.reduceSub,Nat.reduceLeDiff,reduceCtorEq,h2,h3]⟩,l'.set j ⟨mt,k+2*(j:Int)+1⟩,by simp[al],sl @Nat.zero_add⟩)
  all_goals simp only[go_sem, ↓reduceIte,Nat.reduceEqDiff,Nat.reduceAdd,Nat.reduceSub,Nat.reduceLeDiff,reduceCtorEq,a5,a1,a0,yi,eP]
 ·have jv:j=nn:=by omega
  subst jv
  (try((repeat(revert hN;revert N;apply Pn.out));refine wk (tw @a5 (tw @a1 (tw @a0 @hj))) ?_;(repeat(refine Pn.mk ?_;intro N hN))))
  exact eV (.inl rfl) (vs:=[.int .i64 (k+2*j)]) (sd (tw @a5 (tw @a1 @a0))) ⟨rfl,⟨by(try dsimp only);omega,fun x hx hi=>aF x hx hi⟩⟩
end Go.Proofs.YtgoelphibofcmaaGreat.V

namespace Go.Proofs.YtgoelphibofcmaaGreat.V
open Go.RowKit
attribute [local irreducible] eh wpOps fI Call
attribute [local go_sem] aM fj eJ fF fE da upd cu K.av cI AV.cells AV.cell rowOf rowsOf part ld rowAt bK bV dq dM gy bD cY dY fA eS dk dR cW cV dD dE bG bc cL bF cP cN dO dS dQ cK bL cX dN bE aO cR cz gx bm cH bH aY dp bl dr AV.undef bt bz dF dL dy dC cF dX eb cw dV dU cQ cU List.getD_cons_zero List.getD_cons_succ List.getD_nil List.all_cons List.all_nil Bool.and_true Bool.true_and Bool.and_self Bool.not_true Bool.not_false Option.map_some Option.map_none Option.bind_some Option.bind_none List.length_cons List.length_nil List.take_succ_cons List.take_zero List.take_nil List.drop_succ_cons List.drop_zero List.drop_nil List.head?_cons List.map_cons List.map_nil List.getElem?_cons_zero List.getElem?_cons_succ List.cons_append List.nil_append List.append_nil List.length_map List.set_cons_zero List.set_cons_succ Nat.reduceMul eq_self Int.toNat_natCast Int.natCast_nonneg and_self true_and and_true decide_true decide_false Bool.false_eq_true Nat.zero_add Nat.add_zero List.contains_cons List.contains_nil Bool.or_false Bool.false_or beq_self_eq_true Nat.reduceBEq ne_eq not_true_eq_false not_false_eq_true Id.mk.injEq false_and and_false Nat.reduceLT Int.reduceLE Int.reduceLT Int.reduceToNat Int.reduceNeg Int.reduceAdd Nat.le_refl List.length_append beq_true beq_false Bool.not_eq_eq_eq_not or_false false_or dK aj ar aH bd br bW aT aZ aU bf cJ bw
theorem iw.flat {α:Type} {e:α->List AV} {z:Nat} {g:Rows} {a:AV} {xs:List α} {ids:List Id} (h:iw (lk e) z g a xs ids):∃o,a=.own o 0 xs.length/\g o=some ⟨true,z,xs.map e⟩/\ids=[o]:=by
 obtain⟨o,rows,is,h1,h2,h3,rfl⟩:=h
 have:∀{rows:List (List AV)} {xs:List α} {is:List Id},eI (lk e) g rows xs is->rows=xs.map e/\is=[]:=fun h=>by
  induction h with
  |nil=>exact⟨rfl,rfl⟩
  |cons h1 _ ih=>obtain⟨rfl,rfl⟩:=h1;obtain⟨rfl,rfl⟩:=ih;exact⟨rfl,rfl⟩
 obtain⟨rfl,rfl⟩:=this h3
 exact⟨o,h1,h2,rfl⟩
def gr (t:eR):Nat:=1+t.bI.length
theorem BJ (a:AV) (l:List eR) (ids:List Id) (k:Int) (h0:0<=k) (OV:l.length<=1048576) (h1:k+(l.map gr).sum<=4611686018427387904) (σ:aw) (hv:∀i∈ids,i.cq<σ.next) (mm:ids.Nodup) (hg:iw oi 2 σ.get a l ids):
  Call Tryz.prog 132 [a,.int .i64 k] σ (fun r σ'=>r=.int .i64 (k+(l.map gr).sum)/\qM σ ids σ'.get σ'.next):=by
 obtain⟨o,rows,is,rfl,ho,hR,rfl⟩:=hg
 refine fc eG rfl fun hl=>?_
 clear hl
 have sb:=hv o (by simp)
 have Mi:=mh gr l
 (try((repeat(revert hN;revert N;apply Pn.out));refine wk @Nat.zero_add ?_;(repeat(refine Pn.mk ?_;intro N hN))))
 refine bh (fun n env st=>∃j:Nat,n=(l.length)-j/\j<=(l.length)/\env 5=.int .i64 (j:Int)/\env 1=.int .i64 (k+iD gr l j)/\(qM σ (o::is) st.get st.next/\∃pre rest ir,st.get o=some ⟨true,2,pre++rest⟩/\pre.length=j/\eI oi st.get rest (l.drop j) ir/\(o::ir).Nodup/\∀i∈ir,i∈is)) (l.length) ⟨0,by omega,by omega,sl (tw @Int.add_zero (tw @Int.natCast_zero @Mi)),sl (tw @Int.add_zero (tw @Int.natCast_zero @Mi)),by(try dsimp only);exact⟨⟨by(try dsimp only);omega,fun x _ _=>rfl⟩,[],rows,is,ho,rfl,hR,mm,fun _ h=>h⟩⟩ ?_
 rintro n_a env_a st_a ⟨j,rfl,ale,a5,a1,lS⟩ dW
 have a0:=dW 0 (by kernel_rfl)
 simp only[go_sem, ↓reduceIte,Nat.reduceEqDiff,Nat.reduceAdd,Nat.reduceSub,Nat.reduceLeDiff,reduceCtorEq,Int.add_zero,Int.natCast_zero,Mi]at a0
 clear dW
 obtain⟨⟨an,aF⟩,pre,rest,ir,ag,apl,aR,aN,aS⟩:=lS
 by_cases hj:(j:Int)<(l.length:Int)
 ·have cG:∀{e:Env} {gg:Rows} {nx:Nat},(e 5=.int .i64 (IntKind.i64.wrap ((j:Int)+1)))->(e 1=.int .i64 (k+iD gr l (j+1)))->(qM σ (o::is) gg nx/\∃pre rest ir,gg o=some ⟨true,2,pre++rest⟩/\pre.length=(j+1)/\eI oi gg rest (l.drop (j+1)) ir/\(o::ir).Nodup/\∀i∈ir,i∈is)->∃m0,m0<(l.length)-j/\∃j:Nat,m0=(l.length)-j/\j<=(l.length)/\e 5=.int .i64 (j:Int)/\e 1=.int .i64 (k+iD gr l j)/\(qM σ (o::is) gg nx/\∃pre rest ir,gg o=some ⟨true,2,pre++rest⟩/\pre.length=j/\eI oi gg rest (l.drop j) ir/\(o::ir).Nodup/\∀i∈ir,i∈is):=fun x1 x2 x3=>⟨_,by omega,j+1,rfl,by omega,(by rw[x1,aC (by omega)]),x2,x3⟩
  have jv:j<l.length:=by omega
  have NN:=wM gr jv
  have hle:=pZ gr l (j+1)
  obtain⟨t,htj⟩:∃t,l[j]=t:=⟨_,rfl⟩
  rw[List.drop_eq_getElem_cons jv,htj]at aR
  rw[htj]at NN
  cases aR with
  | @cons cs _ ic rs _ i2 hT PK=>
  obtain⟨i,rfl,hi,rfl⟩:=hT
  rw[List.singleton_append]at aN aS
  obtain⟨n1,n2⟩:=List.nodup_cons.1 aN
  obtain⟨n3,n4⟩:=List.nodup_cons.1 n2
  have OZ:(o=i)=False:=eq_false fun e=>n1 (by simp[e])
  have OR:(i=o)=False:=eq_false fun e=>n1 (by simp[e])
  have hiv:i.cq<σ.next:=hv i (by simp[aS i (by simp)])
  have Qc:gr t=1+t.bI.length:=rfl
  have ht:=vV (k+(iD gr l j:Nat)) (by omega) (by omega)
  have pe:IntKind.i64.wrap (k+(iD gr l j:Nat)+1)=k+(iD gr l j:Nat)+1:=bQ (by omega)
  generalize oK (k+(iD gr l j:Nat))=mt at ht
  have fu:(pre++[.str t.aL,.own i 0 t.bI.length]::rs)[j]? =some [.str t.aL,.own i 0 t.bI.length]:=by subst apl;simp
  have eP:(pre++[.str t.aL,.own i 0 t.bI.length]::rs).set j [.str mt,.own i 0 t.bI.length]=pre++[.str mt,.own i 0 t.bI.length]::rs:=by subst apl;simp
  have Mb:(pre++[.str mt,.own i 0 t.bI.length]::rs)[j]? =some [.str mt,.own i 0 t.bI.length]:=by subst apl;simp
  (repeat(first|((repeat(revert hN;revert N;apply Pn.out));refine wk (tw @a5 (tw @a1 (tw @a0 (tw @hj (tw @ag (tw @fu (tw @eP (tw @Mb (tw @pe (tw @OZ (tw @OR @hi))))))))))) ?_;(repeat(refine Pn.mk ?_;intro N hN)))|((try apply Or.inl);refine⟨_,au.x (ht) (sd (tw @a5 (tw @a1 (tw @a0 (tw @hj (tw @ag (tw @fu (tw @eP (tw @Mb (tw @pe (tw @OZ (tw @OR @hi)))))))))))),?_⟩;refine hN _ _ ?_;clear hN N)))
  refine .inr (aJ _ _ _ _ _ (fun r σ1 hq=>?_) (Dx i t.bI (k+(iD gr l j:Nat)+1) (by omega) (by omega) _ (by(try dsimp only);omega) (sd (tw @OZ (tw @OR @hi)))))
  obtain⟨g1,x1⟩:=σ1
  obtain⟨rfl,EM,qu⟩:=hq
  (try dsimp only at EM qu)
  refine hN _ _ ?_
  clear hN N
  have OT:k+(iD gr l j:Nat)+1+t.bI.length=k+(iD gr l (j+1):Nat):=by omega
  (try((repeat(revert hN;revert N;apply Pn.out));refine wk (tw @a5 (tw @a1 (tw @a0 @OT))) ?_;(repeat(refine Pn.mk ?_;intro N hN))))
  have gk:∀x:Id,x.cq<σ.next->x≠o->x≠i->g1 x=st_a.get x:=fun x hx h3 h4=>by
   have h2:=qu x (by(try dsimp only);omega) (by simp[h4])
   have h5:=eq_false h3
   simp only[go_sem, ↓reduceIte,Nat.reduceEqDiff,Nat.reduceAdd,Nat.reduceSub,Nat.reduceLeDiff,reduceCtorEq,h5]at h2
   exact h2
  have go:=qu o (by(try dsimp only);omega) (by simp only[List.mem_singleton];exact fun e=>n1 (by simp[e]))
  simp only[go_sem, ↓reduceIte,Nat.reduceEqDiff,Nat.reduceAdd,Nat.reduceSub,Nat.reduceLeDiff,reduceCtorEq]at go
  refine cG ?_ ?_ (by(try dsimp only);exact⟨⟨by(try dsimp only);omega,fun x hx hi=>by
   have h3:x≠o:=fun e=>hi (by simp[e])
   have h4:x≠i:=fun e=>hi (by simp[e,aS i (by simp)])
   rw[gk x hx h3 h4]
   exact aF x hx hi⟩,pre++[[.str mt,.own i 0 t.bI.length]],rs,i2,by rw[go];simp,by simp[apl],PK.frame qJ (fun x hx=>gk x (hv x (by simp[aS x (by simp[hx])])) (fun e=>n1 (by simp[<-e,hx])) (fun e=>n3 (by rw[<-e];exact hx))),List.nodup_cons.2 ⟨fun h=>n1 (by simp[h]),n4⟩,fun x hx=>aS x (by simp[hx])⟩)
  all_goals simp only[go_sem, ↓reduceIte,Nat.reduceEqDiff,Nat.reduceAdd,Nat.reduceSub,Nat.reduceLeDiff,reduceCtorEq,a5,a1,a0,OT]
 ·have jv:j=l.length:=by omega
  subst jv
  have ef:=B6 gr l
  rw[ef]at a1
  (try((repeat(revert hN;revert N;apply Pn.out));refine wk (tw @a5 (tw @a1 (tw @a0 @hj))) ?_;(repeat(refine Pn.mk ?_;intro N hN))))
  exact eV (.inl rfl) (vs:=[.int .i64 (k+(l.map gr).sum)]) (sd (tw @a5 (tw @a1 @a0))) ⟨rfl,⟨by(try dsimp only);omega,fun x hx hi=>aF x hx hi⟩⟩
theorem yy (v:AV) (p:ee) (ids:List Id) (k:Int) (h0:0<=k) (h1:k+3*p.aq.length<=4611686018427387904) (σ:aw) (hv:∀i∈ids,i.cq<σ.next) (hg:xd σ.get v p ids):
  Call Tryz.prog 32 [v,.int .i64 k] σ (fun r σ'=>r=.int .i64 (k+3*p.aq.length)/\qM σ ids σ'.get σ'.next):=by
 obtain⟨c,rfl,hc⟩:=hg
 obtain⟨o,rfl,ho,rfl⟩:=hc.flat
 refine fc eG rfl fun hl=>?_
 clear hl
 have sb:=dP (hv o (by simp))
 have KQ:=hv o (by simp)
 (try((repeat(revert hN;revert N;apply Pn.out));refine wk @Nat.zero_add ?_;(repeat(refine Pn.mk ?_;intro N hN))))
 refine .inr (aJ _ _ _ _ _ (fun r σ1 hq=>?_) (rL o p.aq k h0 h1 _ (by(try dsimp only);omega) (sd (tw @sb @ho))))
 obtain⟨g1,x1⟩:=σ1
 obtain⟨rfl,⟨EM,qu⟩,_⟩:=hq
 (try dsimp only at EM qu)
 refine hN _ _ ?_
 clear hN N
 (try((repeat(revert hN;revert N;apply Pn.out));refine wk @Nat.zero_add ?_;(repeat(refine Pn.mk ?_;intro N hN))))
 exact eV (.inl rfl) (vs:=[.int .i64 (k+3*p.aq.length)]) (sd @Nat.zero_add) ⟨rfl,⟨by(try dsimp only);omega,fun x hx hi=>by
  have h2:=qu x (by(try dsimp only);omega) hi
  have h3:=dP hx
  simp only[go_sem, ↓reduceIte,Nat.reduceEqDiff,Nat.reduceAdd,Nat.reduceSub,Nat.reduceLeDiff,reduceCtorEq,h3]at h2
  exact h2⟩⟩
def BG (s:aI):Nat:=2*s.aD.aA.length+(s.aD.aq.map gr).sum+3*s.bx.aq.length
theorem Gh (a b:AV) (p:ax) (i1 i2:List Id) (k:Int) (h0:0<=k) (OV:p.aq.length<=1048576) (h1:k+2*p.aA.length+(p.aq.map gr).sum<=4611686018427387904) (σ:aw) (hv:∀i∈i1++i2,i.cq<σ.next) (mm:(i1++i2).Nodup)
  (hA:iw (lk bU) 2 σ.get a p.aA i1) (hB:iw oi 2 σ.get b p.aq i2):
  Call Tryz.prog 76 [.agg [a,b],.int .i64 k] σ (fun r σ'=>r=.int .i64 (k+2*p.aA.length+(p.aq.map gr).sum)/\qM σ (i1++i2) σ'.get σ'.next):=by
 obtain⟨_,n2,n3⟩:=List.nodup_append.1 mm
 obtain⟨o,rfl,ho,rfl⟩:=hA.flat
 obtain⟨ob,rfl⟩:=hB.kH
 refine fc eG rfl fun hl=>?_
 clear hl
 have KQ:=hv o (by simp)
 have sb:=dP KQ
 (try((repeat(revert hN;revert N;apply Pn.out));refine wk @Nat.zero_add ?_;(repeat(refine Pn.mk ?_;intro N hN))))
 refine .inr (aJ _ _ _ _ _ (fun r σ1 hq=>?_) (BI o p.aA k h0 (by omega) _ (by(try dsimp only);omega) (sd (tw @sb @ho))))
 obtain⟨g1,x1⟩:=σ1
 obtain⟨rfl,EM,qu⟩:=hq
 (try dsimp only at EM qu)
 refine hN _ _ ?_
 clear hN N
 have k1:=qu ⟨76000000,σ.next⟩ (by(try dsimp only);omega) (by simp only[List.mem_singleton];intro e;rw[<-e]at KQ;(try dsimp only at KQ);omega)
 simp only[go_sem, ↓reduceIte,Nat.reduceEqDiff,Nat.reduceAdd,Nat.reduceSub,Nat.reduceLeDiff,reduceCtorEq]at k1
 (try((repeat(revert hN;revert N;apply Pn.out));refine wk @k1 ?_;(repeat(refine Pn.mk ?_;intro N hN))))
 have hf:∀x:Id,x.cq<σ.next->x≠o->g1 x=σ.get x:=fun x hx ho=>by
  have h2:=qu x (by(try dsimp only);omega) (by simp[ho])
  have h3:=dP hx
  simp only[go_sem, ↓reduceIte,Nat.reduceEqDiff,Nat.reduceAdd,Nat.reduceSub,Nat.reduceLeDiff,reduceCtorEq,h3]at h2
  exact h2
 refine .inr (aJ _ _ _ _ _ (fun r σ2 hq=>?_) (BJ _ p.aq i2 (k+2*p.aA.length) (by omega) OV h1 _ (fun i hi=>by have:=hv i (by simp[hi]);(try dsimp only);omega) n2 (hB.frame qJ fun i hi=>hf i (hv i (by simp[hi])) fun e=>n3 o (by simp) i hi e.symm)))
 obtain⟨g2,x2⟩:=σ2
 obtain⟨rfl,Ql,Iq⟩:=hq
 (try dsimp only at Ql Iq)
 refine hN _ _ ?_
 clear hN N
 (try((repeat(revert hN;revert N;apply Pn.out));refine wk @Nat.zero_add ?_;(repeat(refine Pn.mk ?_;intro N hN))))
 exact eV (.inl rfl) (vs:=[.int .i64 (k+2*p.aA.length+(p.aq.map gr).sum)]) (sd @Nat.zero_add) ⟨rfl,⟨by(try dsimp only);omega,fun x hx hi=>(Iq x (by(try dsimp only);omega) fun h=>hi (by simp[h])).trans (hf x hx fun e=>hi (by simp[e]))⟩⟩
theorem Gi (v:AV) (p:aI) (ids:List Id) (k:Int) (h0:0<=k) (OV:p.aD.aq.length<=1048576) (h1:k+BG p<=4611686018427387904) (σ:aw) (hv:∀i∈ids,i.cq<σ.next) (mm:ids.Nodup) (hg:yU σ.get v p ids):
  Call Tryz.prog 31 [v,.int .i64 k] σ (fun r σ'=>r=.int .i64 (k+BG p)/\qM σ ids σ'.get σ'.next):=by
 obtain⟨a,b,c,i1,i2,i3,rfl,hA,hB,hC,rfl⟩:=hg.ex
 rw[<-List.append_assoc]at mm
 obtain⟨n1,_,n3⟩:=List.nodup_append.1 mm
 obtain⟨oa,rfl⟩:=hA.kH
 obtain⟨ob,rfl⟩:=hB.kH
 obtain⟨oc,rfl⟩:=hC.kH
 have hm:(BG p:Int)=2*p.aD.aA.length+(p.aD.aq.map gr).sum+3*p.bx.aq.length:=by simp[BG]
 refine fc eG rfl fun hl=>?_
 clear hl
 have Sp:∀x∈i1++(i2++i3),bK σ.get ⟨31000000,σ.next⟩ ⟨true,4,[[.own oa 0 p.aD.aA.length,.own ob 0 p.aD.aq.length,.own oc 0 p.bx.aq.length,.int .i64 p.ay]]⟩ x=σ.get x:=fun x hx=>by
  have:=dP (hv x hx)
  simp only[go_sem, ↓reduceIte,Nat.reduceEqDiff,Nat.reduceAdd,Nat.reduceSub,Nat.reduceLeDiff,reduceCtorEq,this]
 (try((repeat(revert hN;revert N;apply Pn.out));refine wk @Nat.zero_add ?_;(repeat(refine Pn.mk ?_;intro N hN))))
 refine .inr (aJ _ _ _ _ _ (fun r σ1 hq=>?_) (Gh _ _ p.aD i1 i2 k h0 OV (by omega) _ (fun i hi=>by have:=hv i (by rcases List.mem_append.1 hi with h|h<;>simp[h]);(try dsimp only);omega) n1 (hA.frame AZ fun i hi=>Sp i (by simp[hi])) (hB.frame qJ fun i hi=>Sp i (by simp[hi]))))
 obtain⟨g1,x1⟩:=σ1
 obtain⟨rfl,EM,qu⟩:=hq
 (try dsimp only at EM qu)
 refine hN _ _ ?_
 clear hN N
 have k1:=qu ⟨31000000,σ.next⟩ (by(try dsimp only);omega) (fun h=>by
  have:=hv ⟨31000000,σ.next⟩ (by rcases List.mem_append.1 h with h|h<;>simp[h])
  (try dsimp only at this);omega)
 simp only[go_sem, ↓reduceIte,Nat.reduceEqDiff,Nat.reduceAdd,Nat.reduceSub,Nat.reduceLeDiff,reduceCtorEq]at k1
 (try((repeat(revert hN;revert N;apply Pn.out));refine wk @k1 ?_;(repeat(refine Pn.mk ?_;intro N hN))))
 refine .inr (aJ _ _ _ _ _ (fun r σ2 hq=>?_) (yy _ p.bx i3 (k+2*p.aD.aA.length+(p.aD.aq.map gr).sum) (by omega) (by omega) _ (fun i hi=>by have:=hv i (by simp[hi]);(try dsimp only);omega) ⟨_,rfl,hC.frame xZ fun i hi=>?_⟩))
 rotate_left
 ·exact(qu i (by have:=hv i (by simp[hi]);(try dsimp only);omega) fun h=>n3 i h i hi rfl).trans (Sp i (by simp[hi]))
 obtain⟨g2,x2⟩:=σ2
 obtain⟨rfl,Ql,Iq⟩:=hq
 (try dsimp only at Ql Iq)
 refine hN _ _ ?_
 clear hN N
 (try((repeat(revert hN;revert N;apply Pn.out));refine wk @Nat.zero_add ?_;(repeat(refine Pn.mk ?_;intro N hN))))
 exact eV (.inl rfl) (vs:=[.int .i64 (k+2*p.aD.aA.length+(p.aD.aq.map gr).sum+3*p.bx.aq.length)]) (sd @Nat.zero_add) ⟨by rw[hm];exact congrArg (AV.int .i64) (by omega),⟨by(try dsimp only);omega,fun x hx hi=>by
  have h2:=Iq x (by(try dsimp only);omega) fun h=>hi (by simp[h])
  have h3:=qu x (by(try dsimp only);omega) fun h=>hi (by rcases List.mem_append.1 h with h|h<;>simp[h])
  have h4:=dP hx
  simp only[go_sem, ↓reduceIte,Nat.reduceEqDiff,Nat.reduceAdd,Nat.reduceSub,Nat.reduceLeDiff,reduceCtorEq,h4]at h3
  exact h2.trans h3⟩⟩
end Go.Proofs.YtgoelphibofcmaaGreat.V

namespace Go.Proofs.YtgoelphibofcmaaGreat.V
open Go.RowKit
def AV.clean:AV->Bool
 | .int .. | .bool _| .str _| .bq| .gJ| .iT| .je| .own .. | .ptr .. | .map .. | .qZ _=>true
 | .sl l=>l.isEmpty
 |_=>false
def AV.y7:AV->Bool
 | .agg cs=>cs.all AV.clean
 | .iO cs=>cs.all fun a=>match a with
  | .agg cs=>cs.all AV.clean
  |a=>a.clean
 |a=>a.clean
def yQ (ids:List Id) (g g':Rows):Rows:=fun id=>if id∈ids then g' id else g id
theorem rZ {ids:List Id} {g g':Rows} {id:Id} (h:id∈ids):yQ ids g g' id=g' id:=if_pos h
theorem pD {ids:List Id} {g g':Rows} {id:Id} (h:id∉ids):yQ ids g g' id=g id:=if_neg h
section
variable {P:Program} {w w':World} {D D' D1 D2:Nat->Prop} {ι ι1 ι2:Names}
theorem jN {a:AV} {v:Value} (hp:a.clean=true) (h:dj P w D1 ι1 a v):dj P w D2 ι1 a v:=by
 cases h with
 |eU a v h=>
  cases h with
  |int=>exact .eU _ _ (.int _ _)
  |bool=>exact .eU _ _ (.bool _)
  |str=>exact .eU _ _ (.str _)
  |bq=>exact .eU _ _ .bq
  |gJ=>exact .eU _ _ .gJ
  |iT=>exact .eU _ _ .iT
  |je=>exact .eU _ _ .je
  |As a c h=>exact .eU _ _ (.As a c h)
  |sl rows b o n c sz vs h1 h2 h3=>
   have:rows=[]:=by simpa[AV.clean]using hp
   subst this
   simp only[List.length_nil]at h1
   subst h1
   exact .eU _ _ (.As _ _ h3)
  |di=>simp[AV.clean]at hp
  |agg=>simp[AV.clean]at hp
  |fn=>simp[AV.clean]at hp
 |own id off len o cap B h1 h2 h3 h4 h5 h6=>exact .own id off len o cap B h1 h2 h3 h4 h5 h6
 |map id m B h1 h2=>exact .map id m B h1 h2
 |qZ id c B h1 h2=>exact .qZ id c B h1 h2
 |ptr id i off B h1 h2=>exact .ptr id i off B h1 h2
 |agg=>simp[AV.clean]at hp
 |iO=>simp[AV.clean]at hp
 |fn=>simp[AV.clean]at hp
 |tH=>simp[AV.clean]at hp
theorem lH {cs:List AV} {v:Value} (hc:cs.all AV.clean=true) (h:dj P w D1 ι1 (.agg cs) v):dj P w D2 ι1 (.agg cs) v:=by
 obtain⟨vs,f,rfl,h1,h2,h3,h4⟩:=iP h
 rw[List.all_eq_true]at hc
 exact .agg cs vs f h1 h2 h3 fun j a ha=>jN (hc a (List.mem_of_getElem? ha)) (h4 j a ha)
theorem DK {a:AV} {v:Value} (hp:a.y7=true) (h:dj P w D1 ι1 a v):dj P w D2 ι1 a v:=by
 cases a with
 |agg cs=>exact lH hp h
 |iO cs=>
  obtain⟨vs,f,rfl,h1,h3,h4⟩:=uB h
  simp only[AV.y7,List.all_eq_true]at hp
  refine .iO cs vs f h1 h3 fun j a ha=>?_
  have:=hp a (List.mem_of_getElem? ha)
  split at this
  ·exact lH this (h4 j _ ha)
  ·exact jN this (h4 j _ ha)
 |_=>exact jN hp h
theorem DH {ag:Bool} {n:Nat} {cs:List AV} {x:AV} {v:Value} (hc:∀a∈cs,a.clean=true) (hp:part ag n cs=some x) (hr:dj P w D1 ι1 x v):dj P w D2 ι1 x v:=by
 unfold part at hp
 split at hp
 ·split at hp
  ·simp only[Option.some.injEq]at hp;subst hp
   exact lH (List.all_eq_true.2 fun a ha=>hc a (List.mem_of_mem_take ha)) hr
  ·cases hp
 ·exact jN (hc x (List.mem_of_mem_head? hp)) hr
theorem ia.clean {B:r8} {r:Row} (R:ia P w D1 ι1 B r) (h:∀cs∈r.rows,∀a∈cs,a.clean=true):ia P w D2 ι1 B r:=
 ⟨R.sz,R.flat,fun hk=>⟨R.sz,(R.row hk).Cm,(R.row hk).fits,(R.row hk).len,R.flat,fun i j cs a hi hj=>by
  obtain⟨v,q1,q2⟩:=(R.row hk).at_ i j cs a hi hj
  exact⟨v,q1,jN (h cs (List.mem_of_getElem? hi) a (List.mem_of_getElem? hj)) q2⟩⟩,fun m hm=>by
  obtain⟨h1,es,c,h2,h3,h5,h4⟩:=R.map m hm
  refine⟨h1,es,c,h2,h3,h5,fun i cs hi=>?_⟩
  obtain⟨e,kv,vv,q1,q2,q3,q4,q5⟩:=h4 i cs hi
  have hc:=h cs (List.mem_of_getElem? hi)
  exact⟨e,kv,vv,q1,q2,q3,DH hc q2 q4,jN (hc vv (List.mem_of_getElem? q3)) q5⟩,fun c hc=>by
  obtain⟨h1,buf,s,q,h2,h3,h4⟩:=R.chan c hc
  refine⟨h1,buf,s,q,h2,h3,fun i cs hi=>?_⟩
  obtain⟨a,u,rfl,q2,q3⟩:=h4 i cs hi
  exact⟨a,u,rfl,q2,jN (h [a] (List.mem_of_getElem? hi) a (by simp)) q3⟩⟩
def Handed (ids:List Id) (g:Rows):Prop:=∀id∈ids,∃r,g id=some r/\r.w=true/\∀cs∈r.rows,∀a∈cs,a.clean=true
theorem GR {f:Nat} {args eF:List AV} {g:Rows} {n:Nat} {K:AV->aw->Prop} (hv:dd (dK g) 6 args=some eF)
  (h:Sound P f eF ⟨fun _=>none,n⟩ fun r σ'=>∃ids,r.y7=true/\Handed ids σ'.get/\K r ⟨yQ ids g σ'.get,σ'.next⟩):Sound P f args ⟨g,n⟩ K:=by
 intro hs D ι w vs S U A
 let E:Nat->Prop:=fun b=>D b∨∃id r B,g id=some r/\ι id=some B/\b=B.b
 have lt:∀id r B,g id=some r->ι id=some B->B.b<w.heap.size:=fun id r B h1 h2=>by
  obtain⟨B',dJ,R,_⟩:=S.row id r h1
  rw[h2]at dJ;injection dJ with dJ;subst dJ
  exact R.lt
 have S0:gi P w.heap.size E ι (fun _=>none) w:=⟨Nat.le_refl _,fun b hb=>by
  rcases hb with hb|⟨id,r,B,h1,h2,rfl⟩
  ·exact S.dead b hb
  ·exact lt id r B h1 h2,fun id r h=>(by cases h),fun id kF r r' B B' h=>(by cases h)⟩
 obtain⟨l1,l2⟩:=gq hv
 have A':eW P w E ι eF vs:=⟨by rw[A.1,l1],fun j a hj=>by
  obtain⟨a0,kZ,hz⟩:=l2 j a hj
  obtain⟨u,hu,hr⟩:=A.2 j a0 kZ
  refine⟨u,hu,(rf (D2:=E) (ι2:=ι) (fun b h=>.inl h) (fun id row hg hw=>?_) 6 a0 u a hr hz).1⟩
  unfold dK at hg
  simp only[Option.map_eq_some_iff]at hg
  obtain⟨r,nS,rfl⟩:=hg
  obtain⟨B,hB,R,_,_⟩:=S.row id r nS
  exact⟨B,hB,R.flag true,.inr ⟨id,r,B,nS,hB,rfl⟩⟩⟩
 refine(h w.heap.size E ι w vs S0 U A').mono ?_
 rintro e w' ⟨r0,g',n',D2,ι1,u,rfl,⟨ids,mL,hid,hK⟩,T,S1,U1,hn,hR⟩
 have hb:∀b,b<w.heap.size->w'.heap[b]? =w.heap[b]? :=T.below.block
 have hz:=T.below.size
 have frame:∀{a v},dj P w D ι a v->dj P w' D ι1 a v:=fun h=>h.frame (fun b hd=>hb b (S.dead b hd)) (fun _ h=>h) T.names
 refine⟨r0,_,n',D,ι1,u,rfl,hK,⟨T.below.mono S.lo,fun b hd=>hb b (S.dead b hd),fun _ h=>h,T.names,fun _ h=>.inl h⟩,⟨Nat.le_trans S.lo hz,fun b hd=>Nat.lt_of_lt_of_le (S.dead b hd) hz,fun id r hr=>?_,fun QA id2 r1 r2 B1 B2 h1 h2 hw Ak pJ L6=>?_⟩,U1,hn,DK mL hR⟩
 ·by_cases hi:id∈ids
  ·rw[rZ hi]at hr
   obtain⟨r',nS,hw,hcr⟩:=hid id hi
   rw[hr]at nS;injection nS with nS;subst nS
   obtain⟨B,hB,R,k1,k2⟩:=S1.row id r hr
   have kh:=k1 hw
   exact⟨B,hB,R.clean hcr,fun _=>Nat.le_trans S.lo kh,fun _ hd=>Nat.lt_irrefl _ (Nat.lt_of_lt_of_le (S.dead _ hd) kh)⟩
  ·rw[pD hi]at hr
   obtain⟨B,hB,R,k1,k2⟩:=S.row id r hr
   have hBl:=lt id r B hr hB
   exact⟨B,T.names _ _ hB,R.frame (hb _ hBl) fun a v h=>frame h,k1,k2⟩
 ·have new:∀{id r B},id∈ids->yQ ids g g' id=some r->ι1 id=some B->w.heap.size<=B.b/\g' id=some r/\r.w=true:=fun {id r B} hi hr hB=>by
   rw[rZ hi]at hr
   obtain⟨r',nS,hw,_⟩:=hid id hi
   replace nS:g' id=some r':=nS
   rw[hr]at nS;injection nS with nS;subst nS
   obtain⟨B',dJ,_,k1,_⟩:=S1.row id r hr
   rw[hB]at dJ;injection dJ with dJ;subst dJ
   exact⟨k1 hw,hr,hw⟩
  have BT:∀{id r B},id∉ids->yQ ids g g' id=some r->ι1 id=some B->B.b<w.heap.size/\g id=some r/\ι id=some B:=fun {id r B} hi hr hB=>by
   rw[pD hi]at hr
   obtain⟨B',dJ,_⟩:=S.row id r hr
   have:=T.names _ _ dJ
   rw[hB]at this;injection this with this;subst this
   exact⟨lt id r _ hr dJ,hr,dJ⟩
  by_cases i1:QA∈ids
  ·obtain⟨a1,a2,a3⟩:=new i1 h1 Ak
   by_cases i2:id2∈ids
   ·obtain⟨b1,b2,b3⟩:=new i2 h2 pJ
    exact S1.inj QA id2 r1 r2 B1 B2 a2 b2 hw Ak pJ L6
   ·obtain⟨b1,_⟩:=BT i2 h2 pJ
    omega
  ·obtain⟨a1,a2,a3⟩:=BT i1 h1 Ak
   by_cases i2:id2∈ids
   ·obtain⟨b1,_⟩:=new i2 h2 pJ
    omega
   ·obtain⟨b1,b2,b3⟩:=BT i2 h2 pJ
    exact S.inj QA id2 r1 r2 B1 B2 a2 b2 hw a3 b3 L6
theorem Au (hm:P.follows .mixedOrders=true) {f:Nat} {args eF:List AV} {σ:aw} {K:AV->aw->Prop} (hv:dd (dK σ.get) 6 args=some eF)
  (h:Call P f eF ⟨fun _=>none,σ.next⟩ fun r σ'=>∃ids,r.y7=true/\Handed ids σ'.get/\K r ⟨yQ ids σ.get σ'.get,σ'.next⟩):Call P f args σ K:=
 gD (GR hv (ib hm h))
end
end Go.Proofs.YtgoelphibofcmaaGreat.V

namespace Go.Proofs.YtgoelphibofcmaaGreat.V
open Go.RowKit
inductive nV:List AV->List AV->Prop
 |nil:nV [] []
 |same (a) {l l'}:nV l l'->nV (a::l) (a::l')
 |ptr (cs rest) {l l'}:nV l l'->nV (.di (cs++rest)::l) (.di cs::l')
 |bq {l l'}:nV l l'->nV (.bq::l) (.sl []::l')
theorem Lw {P:Program} {w:World} {D:Nat->Prop} {ι:Names} {cs rest:List AV} {v:Value} (h:dj P w D ι (.di (cs++rest)) v):dj P w D ι (.di cs) v:=by
 obtain⟨b,o,vs,rfl,h1,h2,h3,h4⟩:=kR h
 exact .eU _ _ (.di cs b o vs h1 (fun a ha=>h2 a (List.mem_append_left _ ha)) (fun j hj=>h3 j (by rw[List.length_append];omega)) fun j a ha=>h4 j a (by
  have:=(List.getElem?_eq_some_iff.1 ha).1
  rw[List.getElem?_append_left this];exact ha))
theorem Lz {P:Program} {w:World} {D:Nat->Prop} {ι:Names} {v:Value} (h:dj P w D ι .bq v):dj P w D ι (.sl []) v:=by
 cases h with
 |eU _ _ h=>
  cases h with
  |bq=>exact .eU _ _ (.As none 0 (Nat.zero_le _))
theorem nV.len {l l':List AV} (h:nV l l'):l'.length=l.length:=by induction h<;>simp_all
theorem nV.get {P:Program} {w:World} {D:Nat->Prop} {ι:Names} {l l':List AV} (h:nV l l'):∀{j:Nat} {a':AV},l'[j]? =some a'->∃a,l[j]? =some a/\∀v,dj P w D ι a v->dj P w D ι a' v:=by
 induction h with
 |nil=>intro j a' hj;simp at hj
 |same a _ ih=>
  intro j a' hj
  cases j with
  |zero=>simp at hj;subst hj;exact⟨a,rfl,fun _ h=>h⟩
  |succ j=>exact ih (by simpa using hj)
 |ptr cs rest _ ih=>
  intro j a' hj
  cases j with
  |zero=>simp at hj;subst hj;exact⟨_,rfl,fun _ h=>Lw h⟩
  |succ j=>exact ih (by simpa using hj)
 |bq _ ih=>
  intro j a' hj
  cases j with
  |zero=>simp at hj;subst hj;exact⟨_,rfl,fun _ h=>Lz h⟩
  |succ j=>exact ih (by simpa using hj)
theorem Call.cut {P:Program} (hm:P.follows .mixedOrders=true) {f:Nat} {args eF:List AV} {σ:aw} {K:AV->aw->Prop} (hc:nV args eF) (h:Call P f eF σ K):Call P f args σ K:=
 gD fun hs D ι w vs S U A=>ib hm h hs D ι w vs S U ⟨by rw[A.1,hc.len],fun j a' hj=>by
  obtain⟨a,ha,hr⟩:=hc.get (P:=P) (w:=w) (D:=D) (ι:=ι) hj
  obtain⟨u,hu,hv⟩:=A.2 j a ha
  exact⟨u,hu,hr u hv⟩⟩
theorem au.cut {P:Program} (hm:P.follows .mixedOrders=true) {f:Nat} {args eF:List AV} {r:AV} (hc:nV args eF) (h:au P f eF r):au P f args r:=fun n=>(h n).cut hm hc
theorem iU.cut {P:Program} (hm:P.follows .mixedOrders=true) {f:Nat} {args eF:List AV} {r:AV} (hc:nV args eF) (h:iU P f eF r):iU P f args r:=fun σ=>Call.cut hm hc (h σ)
end Go.Proofs.YtgoelphibofcmaaGreat.V

namespace Go.Proofs.YtgoelphibofcmaaGreat.V
open Go.RowKit
attribute [local irreducible] eh wpOps fI Call
attribute [local go_sem] aM fj eJ fF fE da upd cu K.av cI AV.cells AV.cell rowOf rowsOf part ld rowAt bK bV dq dM gy bD cY dY fA eS dk dR cW cV dD dE bG bc cL bF cP cN dO dS dQ cK bL cX dN bE aO cR cz gx bm cH bH aY dp bl dr AV.undef bt bz dF dL dy dC cF dX eb cw dV dU cQ cU List.getD_cons_zero List.getD_cons_succ List.getD_nil List.all_cons List.all_nil Bool.and_true Bool.true_and Bool.and_self Bool.not_true Bool.not_false Option.map_some Option.map_none Option.bind_some Option.bind_none List.length_cons List.length_nil List.take_succ_cons List.take_zero List.take_nil List.drop_succ_cons List.drop_zero List.drop_nil List.head?_cons List.map_cons List.map_nil List.getElem?_cons_zero List.getElem?_cons_succ List.cons_append List.nil_append List.append_nil List.length_map List.set_cons_zero List.set_cons_succ eq_self Int.toNat_natCast Int.natCast_nonneg and_self true_and and_true decide_true decide_false Bool.false_eq_true Nat.zero_add Nat.add_zero List.contains_cons List.contains_nil Bool.or_false Bool.false_or beq_self_eq_true ne_eq not_true_eq_false not_false_eq_true Id.mk.injEq false_and and_false Nat.le_refl List.length_append beq_true beq_false Bool.not_eq_eq_eq_not or_false false_or dK aj ar aH bd br bW aT aZ aU bf cJ bw
section
variable {P:Program} {α:Type} {e:α->List AV} {z:Nat} {g g':Rows} {v:AV} {L:List α} {ids:List Id}
def og (e:α->List AV) (z:Nat) (g:Rows) (v:AV) (L:List α) (ids:List Id):Prop:=(L=[]/\v=.bq/\ids=[])∨∃o,v=.own o 0 L.length/\g o=some ⟨true,z,L.map e⟩/\ids=[o]/\0<L.length
def N1 (e:α->List AV) (L:List α):AV:=if L.length=0 then .bq else .sl (L.map e)
theorem og.frame (h:og e z g v L ids) (hf:∀i∈ids,g' i=g i):og e z g' v L ids:=by
 rcases h with h|⟨o,h1,h2,rfl,hp⟩
 ·exact .inl h
 ·exact .inr ⟨o,h1,(hf o (by simp)).trans h2,rfl,hp⟩
def gT (e:α->List AV) (L:List α) (w:AV):Prop:=(w=.bq/\L=[])∨w=.sl (L.map e)
theorem og.fz (h:og e z g v L ids) (he:∀x g,dd g 5 (e x)=some (e x)):∃w,V.fz (dK g) 6 v=some w/\gT e L w:=by
 rcases h with⟨rfl,rfl,_⟩|⟨o,rfl,h2,_⟩
 ·exact⟨.bq,aT _ _,.inl ⟨rfl,rfl⟩⟩
 ·exact⟨_,gG (e:=e) (sz:=z) (by simp[dK,h2]) rfl fun x=>he x _,.inr rfl⟩
def Hh (P:Program) (f:Nat) (args:List AV) (e:α->List AV) (z:Nat) (L:List α) (c:Int):Prop:=
 ∀n:Nat,Call P f args ⟨fun _=>none,n⟩ (fun r σ'=>∃v ids,r=.iO [v,.int .i64 c]/\og e z σ'.get v L ids/\fU n σ'.next ids)
theorem xJ (hm:P.follows .mixedOrders=true) {f:Nat} {args:List AV} {σ:aw} {K:AV->aw->Prop} (h:Call P f args σ K):Call P f args σ (fun r σ'=>K r σ'/\σ.next<=σ'.next):=
 gD fun hs D ι w vs S U A=>(ib hm h hs D ι w vs S U A).mono (by
  rintro e w' ⟨r,g',n',D2,ι1,u,rfl,hK,T,S1,U1,hn,hR⟩
  exact⟨r,g',n',D2,ι1,u,rfl,⟨hK,hn⟩,T,S1,U1,hn,hR⟩)
theorem Hh.s {f:Nat} {args:List AV} {c:Int} (he:∀x g,ew g 4 (e x)=some (e x)) (h:Hh P f args e z L c):au P f args (.iO [N1 e L,.int .i64 c]):=fun n=>
 aJ _ _ _ _ _ (fun r σ' hq=>by
  obtain⟨v,ids,rfl,ho,hi⟩:=hq
  rcases ho with⟨rfl,rfl,_⟩|⟨o,rfl,h2,_,hp⟩
  ·exact⟨_,by simp only[eM,bJ,cD,jj,eA,Option.map_some];rfl,rfl⟩
  ·have:=fG (e:=e) (n:=4) h2 rfl fun x=>he x _
   exact⟨_,by simp only[eM,bJ,cD,this,eA,Option.map_some];rfl,by rw[N1,if_neg (by omega)]⟩) (h n)
theorem wc:gT e L (N1 e L):=by
 unfold N1
 split
 ·rename_i h;exact .inl ⟨rfl,List.eq_nil_of_length_eq_zero h⟩
 ·exact .inr rfl
end
theorem gT.two {α:Type} {e:α->List AV} {L:List α} {w:AV} (h:gT e L w):nV [w] [.sl (L.map e)]:=by
 rcases h with⟨rfl,rfl⟩|rfl
 ·exact .bq .nil
 ·exact .same _ .nil
theorem gT.cut {α:Type} {e:α->List AV} {L:List α} {w:AV} (h:gT e L w) {l l':List AV} (hl:nV l l'):nV (w::l) (.sl (L.map e)::l'):=by
 rcases h with⟨rfl,rfl⟩|rfl
 ·exact .bq hl
 ·exact .same _ hl
end Go.Proofs.YtgoelphibofcmaaGreat.V

namespace Go.Proofs.YtgoelphibofcmaaGreat.V
open Go.RowKit
attribute [local irreducible] eh wpOps fI Call
attribute [local go_sem] aM fj eJ fF fE da upd cu K.av cI AV.cells AV.cell rowOf rowsOf part ld rowAt bK bV dq dM gy bD cY dY fA eS dk dR cW cV dD dE bG bc cL bF cP cN dO dS dQ cK bL cX dN bE aO cR cz gx bm cH bH aY dp bl dr AV.undef bt bz dF dL dy dC cF dX eb cw dV dU cQ cU List.getD_cons_zero List.getD_cons_succ List.getD_nil List.all_cons List.all_nil Bool.and_true Bool.true_and Bool.and_self Bool.not_true Bool.not_false Option.map_some Option.map_none Option.bind_some Option.bind_none List.length_cons List.length_nil List.take_succ_cons List.take_zero List.take_nil List.drop_succ_cons List.drop_zero List.drop_nil List.head?_cons List.map_cons List.map_nil List.getElem?_cons_zero List.getElem?_cons_succ List.cons_append List.nil_append List.append_nil List.length_map List.set_cons_zero List.set_cons_succ Nat.reduceMul eq_self Int.toNat_natCast Int.natCast_nonneg and_self true_and and_true decide_true decide_false Bool.false_eq_true Nat.zero_add Nat.add_zero List.contains_cons List.contains_nil Bool.or_false Bool.false_or beq_self_eq_true Nat.reduceBEq ne_eq not_true_eq_false not_false_eq_true Id.mk.injEq false_and and_false Nat.reduceLT Int.reduceLE Int.reduceLT Int.reduceToNat Int.reduceNeg Int.reduceAdd Nat.le_refl List.length_append beq_true beq_false Bool.not_eq_eq_eq_not or_false false_or dK aj ar aH bd br bW aT aZ aU bf cJ bw
end Go.Proofs.YtgoelphibofcmaaGreat.V

namespace Go.Proofs.YtgoelphibofcmaaGreat.V
open Go.RowKit
variable {P:Program}
theorem NW (hm:P.follows .mixedOrders=true) {f:Nat} {args:List AV} {vs:Array Value} {w:World} (h:au P f args (.bool true)) (hA:eW P w (fun b=>b<w.heap.size) (fun _=>none) args vs):
  Calls P f vs w fun e w'=>e=.returned (.bool true)/\Below w.heap.size w w':=by
 have hs:=ib hm (h 0) w.heap.size (fun b=>b<w.heap.size) (fun _=>none) w vs ⟨Nat.le_refl _,fun _ h=>h,fun id r h=>(by cases h),fun id kF r r' B B' h=>(by cases h)⟩ (fun id h=>absurd rfl h) hA
 refine hs.mono ?_
 rintro e w' ⟨r,g',n',D',ι',u,rfl,⟨r',hz,rfl⟩,eC,hsim,_,_,gC⟩
 have hr:r=.bool true:=by
  cases r<;>rw[gn]at hz<;>simp_all
  all_goals (repeat' (split at hz))<;>simp_all
 subst hr
 exact⟨by rw[fa gC],eC.below⟩
theorem kQ {xs:List AV} {w:World} {D:Nat->Prop} {ι:Names} {a:AV} {v:Value} {vs:Array Value} (h:jw P w D a v) (k:eW P w D ι xs vs):eW P w D ι (a::xs) (#[v]++vs):=
 oQ (xs:=[a]) ⟨rfl,fun j b hj=>by
  cases j with
  |zero=>simp at hj;subst hj;exact⟨v,rfl,.eU _ _ h⟩
  |succ j=>simp at hj⟩ k
end Go.Proofs.YtgoelphibofcmaaGreat.V

namespace Go.Proofs.YtgoelphibofcmaaGreat.V
open Go.RowKit
attribute [local irreducible] eh wpOps fI Call
attribute [local go_sem] aM fj eJ fF fE da upd cu K.av cI AV.cells AV.cell rowOf rowsOf part ld rowAt bK bV dq dM gy bD cY dY fA eS dk dR cW cV dD dE bG bc cL bF cP cN dO dS dQ cK bL cX dN bE aO cR cz gx bm cH bH aY dp bl dr AV.undef bt bz dF dL dy dC cF dX eb cw dV dU cQ cU List.getD_cons_zero List.getD_cons_succ List.getD_nil List.all_cons List.all_nil Bool.and_true Bool.true_and Bool.and_self Bool.not_true Bool.not_false Option.map_some Option.map_none Option.bind_some Option.bind_none List.length_cons List.length_nil List.take_succ_cons List.take_zero List.take_nil List.drop_succ_cons List.drop_zero List.drop_nil List.head?_cons List.map_cons List.map_nil List.getElem?_cons_zero List.getElem?_cons_succ List.cons_append List.nil_append List.append_nil List.length_map List.set_cons_zero List.set_cons_succ Nat.reduceMul eq_self Int.toNat_natCast Int.natCast_nonneg and_self true_and and_true decide_true decide_false Bool.false_eq_true Nat.zero_add Nat.add_zero List.contains_cons List.contains_nil Bool.or_false Bool.false_or beq_self_eq_true Nat.reduceBEq ne_eq not_true_eq_false not_false_eq_true Id.mk.injEq false_and and_false Nat.reduceLT Int.reduceLE Int.reduceLT Int.reduceToNat Int.reduceNeg Int.reduceAdd Nat.le_refl List.length_append beq_true beq_false Bool.not_eq_eq_eq_not or_false false_or dK aj ar aH bd br bW aT aZ aU bf cJ bw
theorem Oc {α:Type} (f:α->Nat) {xs:List α} {x:α} (h:x∈xs):f x<=(xs.map f).sum:=by
 induction xs with
 |nil=>cases h
 |cons y ys ih=>
  simp only[List.map_cons,List.sum_cons]
  rcases List.mem_cons.1 h with rfl|h
  ·omega
  ·have:=ih h;omega
theorem GF {s:aI} (h:wY s<=1048576):nu s:=by
 unfold wY uh at h
 refine⟨⟨by omega,by omega,fun t ht=>?_⟩,by omega⟩
 have:=Oc ke ht
 have h2:t.bI.length<=ke t:=by unfold ke;omega
 unfold sk
 omega
theorem za (a:ee):au Tryz.prog 21 [.agg (aV a),.agg (aV a)] (.bool true):=by
 refine au.body eG rfl fun hl n0=>?_
 clear hl
 have h1:=oE a.aq a.aq
 rw[decide_eq_true rfl]at h1
 (repeat(first|((repeat(revert hN;revert N;apply Pn.out));refine wk @aV.eq_1 ?_;(repeat(refine Pn.mk ?_;intro N hN)))|((try apply Or.inl);refine⟨_,au.x (h1) (sd @aV.eq_1),?_⟩;refine hN _ _ ?_;clear hN N)))
 exact aX (b:=true) (.inl rfl) (sd @Nat.zero_add) rfl
end Go.Proofs.YtgoelphibofcmaaGreat.V

namespace Go.Proofs.YtgoelphibofcmaaGreat.V
open Go.RowKit
attribute [local irreducible] eh wpOps fI Call
attribute [local go_sem] aM fj eJ fF fE da upd cu K.av cI AV.cells AV.cell rowOf rowsOf part ld rowAt bK bV dq dM gy bD cY dY fA eS dk dR cW cV dD dE bG bc cL bF cP cN dO dS dQ cK bL cX dN bE aO cR cz gx bm cH bH aY dp bl dr AV.undef bt bz dF dL dy dC cF dX eb cw dV dU cQ cU List.getD_cons_zero List.getD_cons_succ List.getD_nil List.all_cons List.all_nil Bool.and_true Bool.true_and Bool.and_self Bool.not_true Bool.not_false Option.map_some Option.map_none Option.bind_some Option.bind_none List.length_cons List.length_nil List.take_succ_cons List.take_zero List.take_nil List.drop_succ_cons List.drop_zero List.drop_nil List.head?_cons List.map_cons List.map_nil List.getElem?_cons_zero List.getElem?_cons_succ List.cons_append List.nil_append List.append_nil List.length_map List.set_cons_zero List.set_cons_succ eq_self Int.toNat_natCast Int.natCast_nonneg and_self true_and and_true decide_true decide_false Bool.false_eq_true Nat.zero_add Nat.add_zero List.contains_cons List.contains_nil Bool.or_false Bool.false_or beq_self_eq_true ne_eq not_true_eq_false not_false_eq_true Id.mk.injEq false_and and_false Nat.le_refl List.length_append beq_true beq_false Bool.not_eq_eq_eq_not or_false false_or dK aj ar aH bd br bW aT aZ aU bf cJ bw
theorem LH {g:Rows} {v w:AV} {s:aI} {i:List Id} (hX:yU g v s i) (hw:fz (dK g) 6 w=some w):dd (dK g) 6 [v,w]=some [.agg (az s),w]:=by
 simp only[aj,ar,hX.fz 1,hw,Option.map_some]
theorem Kd {g:Rows} {v w:AV} {s:ee} {i:List Id} (hX:xd g v s i) (hw:fz (dK g) 6 w=some w):dd (dK g) 6 [v,w]=some [.agg (aV s),w]:=by
 simp only[aj,ar,hX.fz 2,hw,Option.map_some]
theorem Et (g:Rows) (s:aI):fz g 6 (.agg (az s))=some (.agg (az s)):=by simp[az,aZ,aj,ar,bW,aH]
theorem Es (g:Rows) (s:ee):fz g 6 (.agg (aV s))=some (.agg (aV s)):=by simp[aV,aZ,aj,ar,bW]
theorem wT {g:Rows} {v w v' w':AV} (h1:fz g 6 v=some v') (h2:fz g 6 w=some w'):dd g 6 [v,w]=some [v',w']:=by
 simp only[aj,ar,h1,h2,Option.map_some]
theorem Le (s:aI):BG s<=3*wY s:=by
 have h:∀l:List eR,(l.map gr).sum<=l.length+(l.map ke).sum:=fun l=>by
  induction l with
  |nil=>simp
  |cons t l ih=>simp only[List.map_cons,List.sum_cons,List.length_cons,gr,ke]at *;omega
 have:=h s.aD.aq
 unfold BG wY uh
 omega
theorem fU.not {a b:Nat} {ids:List Id} (h:fU a b ids) {x:Id} (hx:x.cq<a∨b<=x.cq):x∉ids:=fun hc=>by
 have:=h.2 x hc;omega
theorem gT.fz {α:Type} {e:α->List AV} {L:List α} {w:AV} (h:gT e L w) (g:Rows):V.fz g 6 w=some w:=by
 rcases h with⟨rfl,rfl⟩|rfl
 ·exact aT _ _
 ·exact bW _ _ _
end Go.Proofs.YtgoelphibofcmaaGreat.V

namespace Go.Proofs.YtgoelphibofcmaaGreat.V
open Go.RowKit
attribute [local irreducible] eh wpOps fI Call
attribute [local go_sem] aM fj eJ fF fE da upd cu K.av cI AV.cells AV.cell rowOf rowsOf part ld rowAt bK bV dq dM gy bD cY dY fA eS dk dR cW cV dD dE bG bc cL bF cP cN dO dS dQ cK bL cX dN bE aO cR cz gx bm cH bH aY dp bl dr AV.undef bt bz dF dL dy dC cF dX eb cw dV dU cQ cU List.getD_cons_zero List.getD_cons_succ List.getD_nil List.all_cons List.all_nil Bool.and_true Bool.true_and Bool.and_self Bool.not_true Bool.not_false Option.map_some Option.map_none Option.bind_some Option.bind_none List.length_cons List.length_nil List.take_succ_cons List.take_zero List.take_nil List.drop_succ_cons List.drop_zero List.drop_nil List.head?_cons List.map_cons List.map_nil List.getElem?_cons_zero List.getElem?_cons_succ List.cons_append List.nil_append List.append_nil List.length_map List.set_cons_zero List.set_cons_succ Nat.reduceMul eq_self Int.toNat_natCast Int.natCast_nonneg and_self true_and and_true decide_true decide_false Bool.false_eq_true Nat.zero_add Nat.add_zero List.contains_cons List.contains_nil Bool.or_false Bool.false_or beq_self_eq_true Nat.reduceBEq ne_eq not_true_eq_false not_false_eq_true Id.mk.injEq false_and and_false Nat.reduceLT Int.reduceLE Int.reduceLT Int.reduceToNat Int.reduceNeg Int.reduceAdd Nat.le_refl List.length_append beq_true beq_false Bool.not_eq_eq_eq_not or_false false_or dK aj ar aH bd br bW aT aZ aU bf cJ bw
theorem Lf (k:Int) {n j:Nat} (h:j<n):((Cv k n).map aa)[j]? =some [.int .i64 (k+3*(j:Int)),.int .i64 (k+3*(j:Int)+1),.int .i64 (k+3*(j:Int)+2)]:=by
 simp[Cv,h,aa]
theorem H9 (k:Int) (n:Nat) (h0:0<=k) (h1:k+3*n<=4611686018427387904):au Tryz.prog 79 [.sl ((Cv k n).map aa),.int .i64 k] (.int .i64 (k+3*n)):=by
 refine au.body eG rfl fun hl n0=>?_
 clear hl
 obtain⟨m,hm⟩:∃m,n=m:=⟨_,rfl⟩
 rw[hm]at h1 ⊢
 (try((repeat(revert hN;revert N;apply Pn.out));refine wk @iq ?_;(repeat(refine Pn.mk ?_;intro N hN))))
 refine bh (fun n env st=>∃j:Nat,n=(m)-j/\j<=(m)/\env 5=.int .i64 (j:Int)/\env 1=.int .i64 (k+3*j)) (m) ⟨0,by omega,by omega,sl (tw @Int.add_zero (tw @Int.natCast_zero (tw @Int.mul_zero @iq))),sl (tw @Int.add_zero (tw @Int.natCast_zero (tw @Int.mul_zero @iq)))⟩ ?_
 rintro n_a env_a st_a ⟨j,rfl,ale,a5,a1⟩ dW
 have a0:=dW 0 (by kernel_rfl)
 simp only[go_sem, ↓reduceIte,Nat.reduceEqDiff,Nat.reduceAdd,Nat.reduceSub,Nat.reduceLeDiff,reduceCtorEq,Int.add_zero,Int.natCast_zero,Int.mul_zero,iq]at a0
 clear dW
 by_cases hj:(j:Int)<(m:Int)
 ·have cG:∀{e:Env},(e 5=.int .i64 (IntKind.i64.wrap ((j:Int)+1)))->(e 1=.int .i64 (k+3*(j+1)))->∃m0,m0<(m)-j/\∃j:Nat,m0=(m)-j/\j<=(m)/\e 5=.int .i64 (j:Int)/\e 1=.int .i64 (k+3*j):=fun x1 x2=>⟨_,by omega,j+1,rfl,by omega,(by rw[x1,aC (by omega)]),x2⟩
  have fu:=Lf k (n:=m) (j:=j) (by omega)
  have pe:IntKind.i64.wrap (k+3*(j:Int)+1)=k+3*(j:Int)+1:=bQ (by omega)
  have yi:IntKind.i64.wrap (k+3*(j:Int)+1+1)=k+3*(j:Int)+2:=by rw[bQ (by omega)];omega
  have Mo:IntKind.i64.wrap (k+3*(j:Int)+2+1)=k+3*((j:Int)+1):=by rw[bQ (by omega)];omega
  have e1:decide (k+3*(j:Int)=k+3*(j:Int))=true:=decide_eq_true rfl
  have e2:decide (k+3*(j:Int)+1=k+3*(j:Int)+1)=true:=decide_eq_true rfl
  have e3:decide (k+3*(j:Int)+2=k+3*(j:Int)+2)=true:=decide_eq_true rfl
  (try((repeat(revert hN;revert N;apply Pn.out));refine wk (tw @a5 (tw @a1 (tw @a0 (tw @hj (tw @fu (tw @pe (tw @yi (tw @Mo (tw @iq (tw @e1 (tw @e2 @e3))))))))))) ?_;(repeat(refine Pn.mk ?_;intro N hN))))
  refine cG ?_ ?_
  all_goals simp only[go_sem, ↓reduceIte,Nat.reduceEqDiff,Nat.reduceAdd,Nat.reduceSub,Nat.reduceLeDiff,reduceCtorEq,a5,a1,a0,Mo]
 ·have jv:j=m:=by omega
  subst jv
  (try((repeat(revert hN;revert N;apply Pn.out));refine wk (tw @a5 (tw @a1 (tw @a0 (tw @hj @iq)))) ?_;(repeat(refine Pn.mk ?_;intro N hN))))
  exact cm (b:=k+3*(j:Int)) (.inl rfl) (sd (tw @a5 (tw @a1 @a0))) rfl
theorem Gg (k:Int) (σ:aw):Call Tryz.prog 77 [.bq,.int .i64 k] σ (fun r σ'=>r=.int .i64 k/\qM σ [] σ'.get σ'.next):=by
 refine fc eG rfl fun hl=>?_
 clear hl
 (try((repeat(revert hN;revert N;apply Pn.out));refine wk @Nat.zero_add ?_;(repeat(refine Pn.mk ?_;intro N hN))))
 refine bh (fun n env st=>(env 1=.int .i64 k/\env 5=.int .i64 0/\env 0=.bq)/\σ.next<=st.next/\∀x:Id,st.get x=σ.get x) 0 ⟨⟨sd @Nat.zero_add,sd @Nat.zero_add,sd @Nat.zero_add⟩,by(try dsimp only);omega,fun _=>rfl⟩ ?_
 rintro m e st ⟨⟨a1,a5,a0⟩,an,aF⟩ -
 have d0:decide ((0:Int)<((0:Nat):Int))=false:=rfl
 (try((repeat(revert hN;revert N;apply Pn.out));refine wk (tw @a0 (tw @a1 (tw @a5 @d0))) ?_;(repeat(refine Pn.mk ?_;intro N hN))))
 exact eV (.inl rfl) (vs:=[.int .i64 k]) (sd @a1) ⟨rfl,⟨by(try dsimp only);omega,fun x hx hi=>aF x⟩⟩
theorem yz {v:AV} {L:List ah} {ids:List Id} (k:Int) (h0:0<=k) (h1:k+3*L.length<=4611686018427387904) (σ:aw) (hv:∀i∈ids,i.cq<σ.next) (h:og aa 3 σ.get v L ids):
  Call Tryz.prog 77 [v,.int .i64 k] σ (fun r σ'=>r=.int .i64 (k+3*L.length)/\qM σ ids σ'.get σ'.next/\og aa 3 σ'.get v (Cv k L.length) ids):=by
 rcases h with⟨rfl,rfl,rfl⟩|⟨o,rfl,h2,rfl,hp⟩
 ·refine aJ _ _ _ _ _ (fun r σ' hq=>?_) (Gg k σ)
  obtain⟨rfl,hB⟩:=hq
  exact⟨by simp,hB,.inl ⟨rfl,rfl,rfl⟩⟩
 ·refine aJ _ _ _ _ _ (fun r σ' hq=>?_) (rL o L k h0 h1 σ (hv o (by simp)) h2)
  obtain⟨rfl,hB,hg⟩:=hq
  exact⟨rfl,hB,.inr ⟨o,by rw[iq],hg,rfl,by rw[iq];exact hp⟩⟩
theorem FP {w:AV} (k:Int) (n:Nat) (h0:0<=k) (h1:k+3*n<=4611686018427387904) (hw:gT aa (Cv k n) w):au Tryz.prog 79 [w,.int .i64 k] (.int .i64 (k+3*n)):=
 (H9 k n h0 h1).cut mixed (hw.cut (.same _ .nil))
theorem Kt {L:List ah} {v w:AV} (hv:gT aa L v) (hw:gT aa L w):au Tryz.prog 66 [v,w] (.bool true):=by
 have h:=oE L L
 rw[decide_eq_true rfl]at h
 exact h.cut mixed (hv.cut (hw.cut .nil))
theorem ve {L:List ah} {v w:AV} (hv:gT aa L v) (hw:gT aa L w):au Tryz.prog 21 [.agg [v],.agg [w]] (.bool true):=by
 refine au.body eG rfl fun hl n0=>?_
 clear hl
 have h:=Kt hv hw
 rcases hv with⟨rfl,hL⟩|rfl<;>rcases hw with⟨rfl,hL2⟩|rfl
 ·(repeat(first|((repeat(revert hN;revert N;apply Pn.out));refine wk @Nat.zero_add ?_;(repeat(refine Pn.mk ?_;intro N hN)))|((try apply Or.inl);refine⟨_,au.x (h) (sd @Nat.zero_add),?_⟩;refine hN _ _ ?_;clear hN N)))
  exact aX (b:=true) (.inl rfl) (sd @Nat.zero_add) rfl
 ·(repeat(first|((repeat(revert hN;revert N;apply Pn.out));refine wk @Nat.zero_add ?_;(repeat(refine Pn.mk ?_;intro N hN)))|((try apply Or.inl);refine⟨_,au.x (h) (sd @Nat.zero_add),?_⟩;refine hN _ _ ?_;clear hN N)))
  exact aX (b:=true) (.inl rfl) (sd @Nat.zero_add) rfl
 ·(repeat(first|((repeat(revert hN;revert N;apply Pn.out));refine wk @Nat.zero_add ?_;(repeat(refine Pn.mk ?_;intro N hN)))|((try apply Or.inl);refine⟨_,au.x (h) (sd @Nat.zero_add),?_⟩;refine hN _ _ ?_;clear hN N)))
  exact aX (b:=true) (.inl rfl) (sd @Nat.zero_add) rfl
 ·(repeat(first|((repeat(revert hN;revert N;apply Pn.out));refine wk @Nat.zero_add ?_;(repeat(refine Pn.mk ?_;intro N hN)))|((try apply Or.inl);refine⟨_,au.x (h) (sd @Nat.zero_add),?_⟩;refine hN _ _ ?_;clear hN N)))
  exact aX (b:=true) (.inl rfl) (sd @Nat.zero_add) rfl
theorem vE {w:AV} (k:Int) (n:Nat) (h0:0<=k) (h1:k+3*n<=4611686018427387904) (hw:gT aa (Cv k n) w):au Tryz.prog 37 [.agg [w],.int .i64 k] (.int .i64 (k+3*n)):=by
 refine au.body eG rfl fun hl n0=>?_
 clear hl
 have h:=FP k n h0 h1 hw
 have hp:¬k+3*(n:Int)<0:=by omega
 rcases hw with⟨rfl,hL⟩|rfl
 ·(repeat(first|((repeat(revert hN;revert N;apply Pn.out));refine wk @hp ?_;(repeat(refine Pn.mk ?_;intro N hN)))|((try apply Or.inl);refine⟨_,au.x (h) (sd @hp),?_⟩;refine hN _ _ ?_;clear hN N)))
  exact cm (b:=k+3*(n:Int)) (.inl rfl) (sd @Nat.zero_add) rfl
 ·(repeat(first|((repeat(revert hN;revert N;apply Pn.out));refine wk @hp ?_;(repeat(refine Pn.mk ?_;intro N hN)))|((try apply Or.inl);refine⟨_,au.x (h) (sd @hp),?_⟩;refine hN _ _ ?_;clear hN N)))
  exact cm (b:=k+3*(n:Int)) (.inl rfl) (sd @Nat.zero_add) rfl
theorem Dw {v:AV} {L:List ah} {ids:List Id} (k:Int) (h0:0<=k) (h1:k+3*L.length<=4611686018427387904) (σ:aw) (hv:∀i∈ids,i.cq<σ.next) (h:og aa 3 σ.get v L ids):
  Call Tryz.prog 32 [.agg [v],.int .i64 k] σ (fun r σ'=>r=.int .i64 (k+3*L.length)/\qM σ ids σ'.get σ'.next/\og aa 3 σ'.get v (Cv k L.length) ids):=by
 have ik:=h.frame (g':=bK σ.get ⟨32000000,σ.next⟩ ⟨true,1,[[v]]⟩) fun i hi=>by
  have:=dP (hv i hi)
  simp only[go_sem, ↓reduceIte,Nat.reduceEqDiff,Nat.reduceAdd,Nat.reduceSub,Nat.reduceLeDiff,reduceCtorEq,this]
 obtain⟨n,hn⟩:∃n,L.length=n:=⟨_,rfl⟩
 rcases h with⟨hL,rfl,ye⟩|⟨o,rfl,h2,ye,hp⟩
 ·clear hn
  refine fc eG rfl fun hl=>?_
  clear hl
  (try((repeat(revert hN;revert N;apply Pn.out));refine wk @Nat.zero_add ?_;(repeat(refine Pn.mk ?_;intro N hN))))
  refine .inr (aJ _ _ _ _ _ (fun r σ1 hq=>?_) (yz k h0 h1 _ (fun i hi=>by have:=hv i hi;(try dsimp only);omega) ik))
  obtain⟨g1,x1⟩:=σ1
  obtain⟨rfl,⟨EM,qu⟩,hO⟩:=hq
  (try dsimp only at EM qu hO)
  refine hN _ _ ?_
  clear hN N
  (try((repeat(revert hN;revert N;apply Pn.out));refine wk @Nat.zero_add ?_;(repeat(refine Pn.mk ?_;intro N hN))))
  exact eV (.inl rfl) (vs:=[.int .i64 (k+3*L.length)]) (sd @Nat.zero_add) ⟨rfl,⟨by(try dsimp only);omega,fun x hx hi=>by
   have h2:=qu x (by(try dsimp only);omega) hi
   have h3:=dP hx
   simp only[go_sem, ↓reduceIte,Nat.reduceEqDiff,Nat.reduceAdd,Nat.reduceSub,Nat.reduceLeDiff,reduceCtorEq,h3]at h2
   exact h2⟩,hO⟩
 ·clear hn
  refine fc eG rfl fun hl=>?_
  clear hl
  (try((repeat(revert hN;revert N;apply Pn.out));refine wk @Nat.zero_add ?_;(repeat(refine Pn.mk ?_;intro N hN))))
  refine .inr (aJ _ _ _ _ _ (fun r σ1 hq=>?_) (yz k h0 h1 _ (fun i hi=>by have:=hv i hi;(try dsimp only);omega) ik))
  obtain⟨g1,x1⟩:=σ1
  obtain⟨rfl,⟨EM,qu⟩,hO⟩:=hq
  (try dsimp only at EM qu hO)
  refine hN _ _ ?_
  clear hN N
  (try((repeat(revert hN;revert N;apply Pn.out));refine wk @Nat.zero_add ?_;(repeat(refine Pn.mk ?_;intro N hN))))
  exact eV (.inl rfl) (vs:=[.int .i64 (k+3*L.length)]) (sd @Nat.zero_add) ⟨rfl,⟨by(try dsimp only);omega,fun x hx hi=>by
   have h2:=qu x (by(try dsimp only);omega) hi
   have h3:=dP hx
   simp only[go_sem, ↓reduceIte,Nat.reduceEqDiff,Nat.reduceAdd,Nat.reduceSub,Nat.reduceLeDiff,reduceCtorEq,h3]at h2
   exact h2⟩,hO⟩
end Go.Proofs.YtgoelphibofcmaaGreat.V

namespace Go.Proofs.YtgoelphibofcmaaGreat
open Go.RowKit Go.Lib
variable {P:Program}
theorem nf (w:World) (dT sT ty elem:TypeId) (b o xo HF:Nat) (a:Addr) (nR zR k:Nat) (cs:List Value)
  (hu:P.underlying dT=some (.slice elem)) (hs:(P.info? elem).map (·.size)=some k) (hn:cs.length=Nat.min nR xo*k)
  (FW:∀j v,cs[j]? =some v->w.cell? (a.add j)=some v) (hc:∀j,j<cs.length->(w.cell? ⟨b,o+j,none⟩).isSome=true) (hf:∀j,j<cs.length->w.frozen? ⟨b,o+j,none⟩=false) (h1:∀v∈cs,v.oneCell'=true):
  (Builtin.copy_ #[dT,sT] ty #[.slice (some ⟨b,o,none⟩) xo HF,.slice (some a) nR zR]).run P w=.ok (goInt (Nat.min nR xo)) (w.setCells b o cs):=by
 have hl:=run_loadCells_list (P:=P) w a cs FW
 have eC:=run_storeCells_cells (P:=P) b o cs 0 w (by simpa using hc) (by simpa using hf) h1
 cases hq:P.info? elem with
 |none=>simp[hq]at hs
 |some i=>
  have hi:i.size=k:=by simpa[hq]using hs
  simp[Builtin.copy_,run_underlying hu,Builtin.lenOf,Builtin.firstCells,sizeOf,typeInfo,hq,hi,<-hn,hl,eC]
theorem nC (w:World) {ops:Array Oper} {rest:List Oper} {o:Oper} {a:Act} {Q:Exit->Act->World->Prop} (tu:o.guard=none) (d s:Operand) (t t':TypeId)
  (ho:o.op=.call {callee:=.builtin .copy,args:= #[d,s],argTypes:= #[t,t']}) (v u:Value) (hd:a.eval d=v) (hs:a.eval s=u) {v':Value} {w':World}
  (hr:(Builtin.copy_ #[t,t'] o.type #[v,u]).run P w=.ok v' w') (h:wpList P ops Q rest (a.put o.dst v') w'):wpList P ops Q (o::rest) a w:=
 wpList_plain tu fun K hK=>by
  unfold Oper.wp execOp
  simp only[ho,resolve,invoke,builtin,Sem.run_bind,Sem.run_pure,Result.andThen_ok,List.map_toArray,List.map_cons,List.map_nil,hd,hs,hr]
  exact hK _ _ h
theorem pV {ops:Array Oper} {o:Oper} {a:Act} {w:World} {K:Act->World->Prop} {Q:Exit->Act->World->Prop} {E:Prop}
  (hg:o.guard=none) (d x:Operand) (dT sT:TypeId) (er:o.op=Op.call {callee:=Callee.builtin Builtin.copy,args:= #[d,x],argTypes:= #[dT,sT]})
  (v u:Value) (hd:a.eval d=v) (hx:a.eval x=u) {v':Value} {w':World} (hr:(Builtin.copy_ #[dT,sT] o.type #[v,u]).run P w=.ok v' w') (hK:K (a.put o.dst v') w'):
  if Region.wanted o (yielded ops a.tmps)=true then Oper.wp P o a w K Q else E:=by
 have hw:Region.wanted o (yielded ops a.tmps)=true:=by simp[Region.wanted,hg]
 rw[if_pos hw]
 unfold Oper.wp
 simp[execOp,er,resolve,invoke,builtin,hd,hx,hr,Result.andThen]
 exact hK
theorem vP (b:Nat) (vs:List Value) (o:Nat) (w:World) (h:∀j,j<vs.length->(w.cell? ⟨b,o+j,none⟩).isSome=true) (k:Nat) (hk:(w.cell? ⟨b,k,none⟩).isSome=true):((w.setCells b o vs).cell? ⟨b,k,none⟩).isSome=true:=by
 by_cases fB:o<=k/\k<o+vs.length
 ·have:=World.cell?_setCells_in b vs o w h (k-o) (by omega)
  rw[show o+(k-o)=k by omega]at this
  rw[this];rfl
 ·rw[World.cell?_setCells_out b vs o w ⟨b,k,none⟩ (fun _ _=>by show k<o∨o+vs.length<=k;omega)]
  exact hk
theorem Bt (b n c i vb vc:Nat) (cs vs:List Value) (w:World) (hi:i<n) (eL:n+1<=c) (hc63:c<=9223372036854775807) (O5:vb≠b)
  (mL:cs.length=n*3) (nQ:vs.length=3)
  (du:∀j v,cs[j]? =some v->w.cell? ⟨b,j,none⟩=some v) (Iv:∀j,j<(n+1)*3->(w.cell? ⟨b,j,none⟩).isSome=true) (Bd:∀j,w.frozen? ⟨b,j,none⟩=false)
  (J6:∀j v,vs[j]? =some v->w.cell? ⟨vb,j,none⟩=some v) (PE:∀v∈cs,v.oneCell'=true) (Sr:∀v∈vs,v.oneCell'=true)
  (tA tB:TypeId) (kA kB:Nat) (hsa:w.shape? vb=some (tA,kA)) (hsb:w.shape? b=some (tB,kB)) (Rw:kB≠0) (FQ:w.frozen? ⟨vb,0,none⟩=false) (PX:w.frozen? ⟨vb,kA,none⟩=false):
  Calls Tryz.prog 144 #[.slice (some ⟨b,0,none⟩) n c,.int .i64 i,.slice (some ⟨vb,0,none⟩) 1 vc] w fun e w'=>
   e=.returned (.slice (some ⟨b,0,none⟩) (n+1) c)/\w'=(w.drew.setCells b ((i+1)*3) (cs.drop (i*3))).setCells b (i*3) vs:=by
 have hu:=Tryz.underlying39
 have fe:(Tryz.prog.info? 137).map (·.size)=some 3:=by kernel_rfl
 have lP:¬((i:Int)=(n:Int)):=by omega
 have sb:∀o lb cb,(callFunc 181 #[.slice (some ⟨vb,0,none⟩) 1 vc,.slice (some ⟨b,o,none⟩) lb cb]).run Tryz.prog w=.ok (.value (.bool false)) w:=fun o lb cb=>by
  rw[run_callFunc_extern Tryz.func181 (by kernel_rfl) (by kernel_rfl) (by kernel_rfl) (e:=Extern.SlicesOverlaps.overlaps #[39,39] #[4]) (by kernel_rfl),
   Lib.run_overlaps_apart w 39 4 137 hu 3 Tryz.sizeOf137 ⟨vb,0,none⟩ ⟨b,o,none⟩ 1 vc lb cb O5 tA tB kA kB hsa hsb Rw FQ PX]
  rfl
 have pe:IntKind.i64.wrap ((i:Int)+1)=(i:Int)+1:=by rw[IntKind.wrap_i64];omega
 have G1:(0:Int)<=(i:Int)+1:=by omega
 have NP:((i:Int)+1).toNat=i+1:=by omega
 have fB:i<=n:=by omega
 have G2:¬(c=i+1):=by omega
 have SP:(i:Int)<=(n:Int)+1:=by omega
 have hb4:¬(c=i):=by omega
 have G4:(cs.drop (i*3)).length=(n-i)*3:=by rw[List.length_drop,mL,<-Nat.sub_mul]
 have Qa:Nat.min (n+1-i) (n-i)=n-i:=by simp only[Nat.min_def];split<;>omega
 have EJ:Nat.min 1 (n+1-i)=1:=by simp only[Nat.min_def];split<;>omega
 have PS:∀ty dc sc,(Builtin.copy_ #[39,39] ty #[.slice (some ⟨b,(i+1)*3,none⟩) (n-i) dc,.slice (some ⟨b,i*3,none⟩) (n+1-i) sc]).run Tryz.prog w.drew=.ok (goInt (n-i:Nat)) (w.drew.setCells b ((i+1)*3) (cs.drop (i*3))):=fun ty dc sc=>by
  have h:=nf (P:=Tryz.prog) w.drew 39 39 ty 137 b ((i+1)*3) (n-i) dc ⟨b,i*3,none⟩ (n+1-i) sc 3 (cs.drop (i*3)) hu fe (by rw[G4,Qa])
   (fun j v hj=>by rw[Addr.add_lit];exact du (i*3+j) v (by rwa [List.getElem?_drop]at hj))
   (fun j hj=>Iv ((i+1)*3+j) (by rw[G4]at hj;omega)) (fun j hj=>Bd _) (fun v hv=>PE v (List.mem_of_mem_drop hv))
  rw[Qa]at h;exact h
 obtain⟨W1,G0⟩:∃W1,W1=w.drew.setCells b ((i+1)*3) (cs.drop (i*3)):=⟨_,rfl⟩
 have TB:∀k,k<(n+1)*3->(W1.cell? ⟨b,k,none⟩).isSome=true:=fun k hk=>by
  rw[G0]
  exact vP b _ _ w.drew (fun j hj=>Iv ((i+1)*3+j) (by rw[G4]at hj;omega)) _ (Iv k hk)
 have SS:∀(W:World),(∀x,W.cell? x=W1.cell? x)->(∀x,W.frozen? x=W1.frozen? x)->∀ty dc,(Builtin.copy_ #[39,39] ty #[.slice (some ⟨b,i*3,none⟩) (n+1-i) dc,.slice (some ⟨vb,0,none⟩) 1 vc]).run Tryz.prog W=.ok (goInt (1:Nat)) (W.setCells b (i*3) vs):=fun W L5 PN ty dc=>by
  have h:=nf (P:=Tryz.prog) W 39 39 ty 137 b (i*3) (n+1-i) dc ⟨vb,0,none⟩ 1 vc 3 vs hu fe (by rw[nQ,EJ])
   (fun j v hj=>by
    rw[Addr.add_lit,L5,G0,World.cell?_setCells_out b _ _ _ _ (fun h _=>absurd h O5),Nat.zero_add]
    exact J6 j v hj)
   (fun j hj=>by rw[L5];exact TB _ (by omega)) (fun j hj=>by rw[PN,G0,World.frozen?_setCells];exact Bd _) Sr
  rw[EJ]at h;exact h
 rw[<-G0]at PS ⊢
 have mixed:Tryz.prog.follows .mixedOrders=true:=by kernel_rfl
 go_enter Tryz.func144,Tryz.ntmps144
 go_wp2_with (simp only[sb])
 go_region_law_o (refine pV rfl _ _ 39 39 rfl _ _ (by simp[Act.eval,Act.put]) (by simp[Act.eval,Act.put]) (PS _ _ _) ?_)
 go_wp2_with (at_builtin;refine nC _ rfl _ _ 39 39 rfl _ _ rfl rfl (SS _ (fun _=>rfl) (fun _=>rfl) _ _) ?_)
 go_ret
 exact⟨rfl,by rw[G0]⟩
theorem rH:(Tryz.prog.info? 137).map (fun i=>(i.zero,i.size,i.bytes))=some (some (.agg #[.int .i64 0,.int .i64 0,.int .i64 0]),3,24):=by kernel_rfl
theorem Dm (b n c i vb vc:Nat) (cs vs:List Value) (w:World) (hi:i<n) (hnc:n<=c) (eL:c<n+1) (hbig:n<=1000000)
  (mL:cs.length=n*3) (nQ:vs.length=3)
  (du:∀j v,cs[j]? =some v->w.cell? ⟨b,j,none⟩=some v)
  (J6:∀j v,vs[j]? =some v->w.cell? ⟨vb,j,none⟩=some v) (PE:∀v∈cs,v.oneCell'=true) (Sr:∀v∈vs,v.oneCell'=true):
  Calls Tryz.prog 144 #[.slice (some ⟨b,0,none⟩) n c,.int .i64 i,.slice (some ⟨vb,0,none⟩) 1 vc] w fun e w'=>
   ∃G uM,n+1<=G/\G<=maxLen/\uM.size=G*3/\(∀j v,cs[j]? =some v->j<i*3->uM[j]? =some v)/\
   e=.returned (.slice (some ⟨w.heap.size,0,none⟩) (n+1) G)/\
   w'=(((w.alloc (.cells uM 137)).drew.setCells w.heap.size (i*3) vs).drew).setCells w.heap.size ((i+1)*3) (cs.drop (i*3)):=by
 have hu:=Tryz.underlying39
 obtain⟨i0,ye,Cu,Dj,RU⟩:=info_parts rH
 have fe:(Tryz.prog.info? 137).map (·.size)=some 3:=by rw[ye];simp[Dj]
 have lP:¬((i:Int)=(n:Int)):=by omega
 have hz3:(c:Int)<(n:Int)+1:=by omega
 have hbw:b<w.heap.size:=World.block_lt_of_cell? _ _ (du 0 _ (List.getElem?_eq_getElem (by omega)))
 have EP:vb<w.heap.size:=World.block_lt_of_cell? _ _ (J6 0 _ (List.getElem?_eq_getElem (by omega)))
 have OT:(n:Int)+1-(i:Int)=((n+1-i:Nat):Int):=by omega
 have uw:i+(n+1-i)=n+1:=by omega
 have hold:(Builtin.firstCells i0.size i (.slice (some ⟨b,0,none⟩) i c)).run Tryz.prog w.drew=.ok (cs.take (i*3)).toArray w.drew:=by
  rw[Dj]
  exact run_firstCells_some w.drew 3 i ⟨b,0,none⟩ i c (cs.take (i*3)) (by rw[List.length_take];omega) (fun j v hj=>by
   rw[Addr.add_lit,Nat.zero_add]
   rw[List.getElem?_take]at hj
   split at hj
   ·exact du j v hj
   ·cases hj)
 have RK:∀ty,(Builtin.append_ #[39,3] ty #[.slice (some ⟨b,0,none⟩) i c,.int .i64 ((n:Int)+1-(i:Int))]).run Tryz.prog w=
   .ok (.slice (some ⟨w.heap.size,0,none⟩) (n+1) (grownCap w (n+1) c 137)) (w.drew.alloc (.cells ((cs.take (i*3)).toArray++Builtin.zeroCells (Value.agg #[.int .i64 0,.int .i64 0,.int .i64 0]).cells (n+1-i)++Builtin.zeroCells (Value.agg #[.int .i64 0,.int .i64 0,.int .i64 0]).cells (grownCap w (n+1) c 137-(n+1))) 137)):=fun ty=>by
  have h:=Lib.run_append_grow_zeros (P:=Tryz.prog) w 39 3 ty 137 i0 _ .i64 .i64 hu Tryz.underlying3 ye Cu (some ⟨b,0,none⟩) i c (cs.take (i*3)) hold (n+1-i) (by omega) (by omega) (by omega) (by omega) (by rw[RU];omega) (by rw[RU,uw];exact growslice_fits eL (by omega))
  rw[uw]at h
  rw[OT]
  exact h
 obtain⟨G,hG⟩:∃G,G=grownCap w (n+1) c 137:=⟨_,rfl⟩
 obtain⟨uM,KB⟩:∃uM:Array Value,uM=(cs.take (i*3)).toArray++Builtin.zeroCells (Value.agg #[.int .i64 0,.int .i64 0,.int .i64 0]).cells (n+1-i)++Builtin.zeroCells (Value.agg #[.int .i64 0,.int .i64 0,.int .i64 0]).cells (G-(n+1)):=⟨_,rfl⟩
 rw[<-hG]at RK
 rw[<-KB]at RK
 have Sz:n+1<=G:=by rw[hG];exact grownCap_ge w _ _ _
 have L0:G<=maxLen:=by rw[hG];exact grownCap_le_maxLen w (n+1) c 137 (by unfold maxLen;omega)
 have hG63:G<=9223372036854775807:=by have:=L0;unfold maxLen at this;omega
 have hRs:uM.size=G*3:=by
  rw[KB]
  simp[Builtin.zeroCells,Value.cells]
  omega
 have hRh:∀j v,cs[j]? =some v->j<i*3->uM[j]? =some v:=fun j v hj hl=>by
  have gV:=(List.getElem?_eq_some_iff.1 hj).1
  rw[KB,Array.getElem?_append_left (by simp;omega),Array.getElem?_append_left (by simp;omega)]
  simp only[List.getElem?_toArray,List.getElem?_take,if_pos hl];exact hj
 obtain⟨W1,G0⟩:∃W1,W1=w.drew.alloc (.cells uM 137):=⟨_,rfl⟩
 rw[<-G0]at RK
 have hN:∀j,j<(n+1)*3->(W1.cell? ⟨w.heap.size,j,none⟩).isSome=true:=fun j hj=>by
  rw[G0,World.cell?_alloc_at (w:=w.drew) uM _ w.heap.size j rfl,Array.getElem?_eq_getElem (by rw[hRs];omega)];rfl
 have hNf:∀j,W1.frozen? ⟨w.heap.size,j,none⟩=false:=fun j=>by rw[G0];exact World.frozen?_alloc_at (w:=w.drew) uM _ w.heap.size j rfl
 have hOb:∀j v,w.cell? ⟨b,j,none⟩=some v->W1.cell? ⟨b,j,none⟩=some v:=fun j v h=>by rw[G0,World.cell?_alloc_past (w:=w.drew) _ b j hbw];exact h
 have HZ:∀j v,w.cell? ⟨vb,j,none⟩=some v->W1.cell? ⟨vb,j,none⟩=some v:=fun j v h=>by rw[G0,World.cell?_alloc_past (w:=w.drew) _ vb j EP];exact h
 have EJ:Nat.min 1 (n+1-i)=1:=by simp only[Nat.min_def];split<;>omega
 have Qa:Nat.min (n-i) (n-i)=n-i:=by simp
 have SU:∀(W:World),(∀x,W.cell? x=W1.cell? x)->(∀x,W.frozen? x=W1.frozen? x)->∀ty dc,(Builtin.copy_ #[39,39] ty #[.slice (some ⟨w.heap.size,i*3,none⟩) (n+1-i) dc,.slice (some ⟨vb,0,none⟩) 1 vc]).run Tryz.prog W=.ok (goInt (1:Nat)) (W.setCells w.heap.size (i*3) vs):=fun W L5 PN ty dc=>by
  have h:=nf (P:=Tryz.prog) W 39 39 ty 137 w.heap.size (i*3) (n+1-i) dc ⟨vb,0,none⟩ 1 vc 3 vs hu fe (by rw[nQ,EJ])
   (fun j v hj=>by rw[Addr.add_lit,L5,Nat.zero_add];exact HZ _ v (J6 j v hj))
   (fun j hj=>by rw[L5];exact hN _ (by omega)) (fun j hj=>by rw[PN];exact hNf _) Sr
  rw[EJ]at h;exact h
 have hbN:b≠w.heap.size:=by omega
 have G4:(cs.drop (i*3)).length=(n-i)*3:=by rw[List.length_drop,mL,<-Nat.sub_mul]
 have SV:∀(W:World),(∀x,W.cell? x=(W1.setCells w.heap.size (i*3) vs).cell? x)->(∀x,W.frozen? x=(W1.setCells w.heap.size (i*3) vs).frozen? x)->∀ty dc sc,(Builtin.copy_ #[39,39] ty #[.slice (some ⟨w.heap.size,(i+1)*3,none⟩) (n-i) dc,.slice (some ⟨b,i*3,none⟩) (n-i) sc]).run Tryz.prog W=.ok (goInt (n-i:Nat)) (W.setCells w.heap.size ((i+1)*3) (cs.drop (i*3))):=fun W L5 PN ty dc sc=>by
  have h:=nf (P:=Tryz.prog) W 39 39 ty 137 w.heap.size ((i+1)*3) (n-i) dc ⟨b,i*3,none⟩ (n-i) sc 3 (cs.drop (i*3)) hu fe (by rw[G4,Qa])
   (fun j v hj=>by
    rw[Addr.add_lit,L5,World.cell?_setCells_out _ _ _ _ _ (fun h _=>absurd h hbN)]
    exact hOb _ v (du (i*3+j) v (by rwa [List.getElem?_drop]at hj)))
   (fun j hj=>by rw[L5];exact vP _ _ _ _ (fun t ht=>hN (i*3+t) (by omega)) _ (hN ((i+1)*3+j) (by rw[G4]at hj;omega)))
   (fun j hj=>by rw[PN,World.frozen?_setCells];exact hNf _) (fun v hv=>PE v (List.mem_of_mem_drop hv))
  rw[Qa]at h;exact h
 subst G0
 have hE1:∀x,((w.alloc (.cells uM 137)).drew).cell? x=(w.drew.alloc (.cells uM 137)).cell? x:=fun x=>rfl
 have hE2:∀x,((w.alloc (.cells uM 137)).drew).frozen? x=(w.drew.alloc (.cells uM 137)).frozen? x:=fun x=>rfl
 have hF1:∀x,(((w.alloc (.cells uM 137)).drew.setCells w.heap.size (i*3) vs).drew).cell? x=((w.drew.alloc (.cells uM 137)).setCells w.heap.size (i*3) vs).cell? x:=fun x=>rfl
 have PG:∀x,(((w.alloc (.cells uM 137)).drew.setCells w.heap.size (i*3) vs).drew).frozen? x=((w.drew.alloc (.cells uM 137)).setCells w.heap.size (i*3) vs).frozen? x:=fun x=>rfl
 have pe:IntKind.i64.wrap ((i:Int)+1)=(i:Int)+1:=by rw[IntKind.wrap_i64];omega
 have G1:(0:Int)<=(i:Int)+1:=by omega
 have NP:((i:Int)+1).toNat=i+1:=by omega
 have fB:i<=n:=by omega
 have SP:(i:Int)<=(n:Int):=by omega
 have Rb:¬(G=i):=by omega
 have hGim:¬(G=i+1):=by omega
 have Ro:¬(c=i):=by omega
 have mixed:Tryz.prog.follows .mixedOrders=true:=by kernel_rfl
 clear OT uw hold KB hG
 go_enter Tryz.func144,Tryz.ntmps144
 go_wp2_with (first
  |(at_builtin;refine Lib.wpList_append_run _ rfl _ _ _ _ rfl _ _ rfl rfl _ _ (RK _) ?_)
  |(at_builtin;refine nC _ rfl _ _ 39 39 rfl _ _ rfl rfl (SU _ hE1 hE2 _ _) ?_))
 go_region_law_o (refine pV rfl _ _ 39 39 rfl (.slice (some ⟨w.heap.size,(i+1)*3,none⟩) (n-i) (G-(i+1))) (.slice (some ⟨b,i*3,none⟩) (n-i) (c-i)) (by simp[Act.eval,Act.put]) (by simp[Act.eval,Act.put]) (SV _ hF1 PG 3 (G-(i+1)) (c-i)) ?_)
 go_wp2
 go_ret
 exact⟨G,uM,Sz,L0,hRs,hRh,rfl,rfl⟩
theorem ym (A:Option Addr) (n c vb vc:Nat) (w w':World) (v':Value)
  (hr:∀ty,(Builtin.append_ #[39,39] ty #[.slice A n c,.slice (some ⟨vb,0,none⟩) 1 vc]).run Tryz.prog w=.ok v' w') (hn:n<=c):
  Calls Tryz.prog 144 #[.slice A n c,.int .i64 n,.slice (some ⟨vb,0,none⟩) 1 vc] w fun e w2=>e=.returned v'/\w2=w':=by
 have hu:=Tryz.underlying39
 cases A with
 |none=>
  go_enter Tryz.func144,Tryz.ntmps144
  go_wp2_with (at_builtin;refine Lib.wpList_append_run _ rfl _ _ _ _ rfl _ _ rfl rfl _ _ (hr _) ?_)
  all_goals (try go_ret)
  all_goals first|exact⟨rfl,rfl⟩|skip
 |some ad=>
  obtain⟨ab,ao,asp⟩:=ad
  go_enter Tryz.func144,Tryz.ntmps144
  go_wp2_with (at_builtin;refine Lib.wpList_append_run _ rfl _ _ _ _ rfl _ _ rfl rfl _ _ (hr _) ?_)
  all_goals (go_ret;exact⟨rfl,rfl⟩)
theorem DQ {w:World} {b o:Nat} {v:Value} {cur:Array Value} {T:TypeId} {f:Nat×Nat} (h:w.heap[b]? =some (.cells cur T f)):∃cur',(w.setCell ⟨b,o,none⟩ v).heap[b]? =some (.cells cur' T f)/\cur'.size=cur.size/\(∀t,t≠o->cur'[t]? =cur[t]?)/\(o<cur.size->cur'[o]? =some v):=by
 refine⟨_,by simp[World.setCell,Array.getElem?_modify,h];rfl,?_,fun t ht=>?_,fun ho=>?_⟩
 ·simp
 ·rw[Array.getElem?_setIfInBounds_ne (fun e=>ht e.symm)]
 ·rw[Array.getElem?_setIfInBounds_self_of_lt ho]
theorem j0 {b:Nat} {T:TypeId} {f:Nat×Nat}:∀(vs:List Value) (o:Nat) (w:World) (cur:Array Value),w.heap[b]? =some (.cells cur T f)->∃cur',(w.setCells b o vs).heap[b]? =some (.cells cur' T f)/\cur'.size=cur.size/\(∀t,t<o∨o+vs.length<=t->cur'[t]? =cur[t]?)/\∀(j:Nat) (v:Value),vs[j]? =some v->o+j<cur.size->cur'[o+j]? =some v
 |[],o,w,cur,h=>⟨cur,h,rfl,fun _ _=>rfl,fun j v hj=>by simp at hj⟩
 |v::r,o,w,cur,h=>by
  obtain⟨c1,h1,h2,h3,h4⟩:=DQ (o:=o) (v:=v) h
  obtain⟨c2,k1,k2,k3,k4⟩:=j0 r (o+1) _ c1 h1
  refine⟨c2,k1,k2.trans h2,fun t ht=>?_,fun j u hj hl=>?_⟩
  ·rw[k3 t (by simp only[List.length_cons]at ht;omega)]
   refine h3 t fun e=>?_
   simp only[List.length_cons]at ht;omega
  ·cases j with
   |zero=>
    simp at hj;subst hj
    rw[Nat.add_zero,k3 o (.inl (by omega))]
    exact h4 (by omega)
   |succ j=>
    have:=k4 j u (by simpa using hj) (by omega)
    rwa [show o+1+j=o+(j+1) by omega]at this
theorem iL {b k:Nat} (hk:k≠b):∀(vs:List Value) (o:Nat) (w:World),(w.setCells b o vs).heap[k]? =w.heap[k]?
 |[],_,_=>rfl
 |v::r,o,w=>(iL hk r (o+1) _).trans (Below.heap_setCell _ _ _ _ hk)
theorem iN (b:Nat):∀(vs:List Value) (o:Nat) (w:World),(w.setCells b o vs).heap.size=w.heap.size
 |[],_,_=>rfl
 |v::r,o,w=>(iN b r (o+1) _).trans (size_set _ _ _)
theorem iM (b:Nat):∀(vs:List Value) (o:Nat) (w:World),(w.setCells b o vs).os=w.os/\(w.setCells b o vs).tape=w.tape/\(w.setCells b o vs).output=w.output
 |[],_,_=>⟨rfl,rfl,rfl⟩
 |v::r,o,w=>iM b r (o+1) _
structure sj (w w':World) (b C:Nat) (T:TypeId) (cells:List Value):Prop where
 Cm:∃cur,w'.heap[b]? =some (.cells cur T (0,0))/\cur.size=C/\∀(t:Nat) (v:Value),cells[t]? =some v->cur[t]? =some v
 other:∀k,k≠b->k<w.heap.size->w'.heap[k]? =w.heap[k]?
 size:w.heap.size<=w'.heap.size
 rest:w'.os=w.os/\w'.tape=w.tape/\w'.output=w.output
theorem Cf {w w0:World} {b i k:Nat} {cur:Array Value} {T:TypeId} {cs vs:List Value} (h:w.heap[b]? =some (.cells cur T (0,0))) (h0:∀k,k≠b->k<w0.heap.size->w.heap[k]? =w0.heap[k]?) (hz:w0.heap.size<=w.heap.size) (hr:w.os=w0.os/\w.tape=w0.tape/\w.output=w0.output)
  (nQ:vs.length=k) (P6:∀j v,cs[j]? =some v->j<i*k->cur[j]? =some v) (xr:cs.length+k<=cur.size) (hi:i*k<=cs.length):
  ∀(flip:Bool),sj w0 (if flip then(w.setCells b ((i+1)*k) (cs.drop (i*k))).setCells b (i*k) vs else((w.setCells b (i*k) vs).drew).setCells b ((i+1)*k) (cs.drop (i*k))) b cur.size T (cs.take (i*k)++vs++cs.drop (i*k)):=by
 have vI:(i+1)*k=i*k+k:=Nat.succ_mul i k
 have G4:(cs.drop (i*k)).length=cs.length-i*k:=List.length_drop ..
 have jk:∀(c2:Array Value),(∀t:Nat,t<i*k->c2[t]? =cur[t]?)->(∀(j:Nat) (v:Value),vs[j]? =some v->c2[i*k+j]? =some v)->(∀(j:Nat) (v:Value),(cs.drop (i*k))[j]? =some v->c2[(i+1)*k+j]? =some v)->∀(t:Nat) (v:Value),(cs.take (i*k)++vs++cs.drop (i*k))[t]? =some v->c2[t]? =some v:=by
  intro c2 a1 a2 a3 t v ht
  have Mm:(cs.take (i*k)).length=i*k:=by rw[List.length_take];omega
  by_cases h1:t<i*k
  ·rw[List.append_assoc,List.getElem?_append_left (by omega),List.getElem?_take,if_pos h1]at ht
   rw[a1 t h1];exact P6 t v ht h1
  ·by_cases h2:t<i*k+k
   ·rw[List.getElem?_append_left (by rw[List.length_append];omega),List.getElem?_append_right (by omega),Mm]at ht
    have:=a2 _ v ht
    rwa [show i*k+(t-i*k)=t by omega]at this
   ·rw[List.getElem?_append_right (by rw[List.length_append];omega),List.length_append,Mm,nQ]at ht
    have:=a3 _ v ht
    rwa [show(i+1)*k+(t-(i*k+k))=t by omega]at this
 intro flip
 cases flip with
 |true=>
  obtain⟨c1,g1,g2,g3,g4⟩:=j0 (cs.drop (i*k)) ((i+1)*k) w cur h
  obtain⟨c2,e1,e2,e3,e4⟩:=j0 vs (i*k) _ c1 g1
  simp only[if_true]
  refine⟨⟨c2,e1,e2.trans g2,jk c2 (fun t ht=>?_) (fun j v hj=>e4 j v hj (by have:=(List.getElem?_eq_some_iff.1 hj).1;omega)) (fun j v hj=>?_)⟩,fun q hq RJ=>?_,?_,?_⟩
  ·rw[e3 t (.inl ht),g3 t (.inl (by omega))]
  ·have:=(List.getElem?_eq_some_iff.1 hj).1
   rw[e3 _ (.inr (by omega))];exact g4 j v hj (by omega)
  ·rw[iL hq,iL hq];exact h0 q hq RJ
  ·rw[iN,iN];exact hz
  ·have r1:=iM b vs (i*k) (w.setCells b ((i+1)*k) (cs.drop (i*k)))
   have r2:=iM b (cs.drop (i*k)) ((i+1)*k) w
   exact⟨(r1.1.trans r2.1).trans hr.1,(r1.2.1.trans r2.2.1).trans hr.2.1,(r1.2.2.trans r2.2.2).trans hr.2.2⟩
 |false=>
  obtain⟨c1,g1,g2,g3,g4⟩:=j0 vs (i*k) w cur h
  obtain⟨c2,e1,e2,e3,e4⟩:=j0 (cs.drop (i*k)) ((i+1)*k) ((w.setCells b (i*k) vs).drew) c1 g1
  simp only[Bool.false_eq_true,if_false]
  refine⟨⟨c2,e1,e2.trans g2,jk c2 (fun t ht=>?_) (fun j v hj=>?_) (fun j v hj=>e4 j v hj (by have:=(List.getElem?_eq_some_iff.1 hj).1;omega))⟩,fun q hq RJ=>?_,?_,?_⟩
  ·rw[e3 t (.inl (by omega)),g3 t (.inl ht)]
  ·have:=(List.getElem?_eq_some_iff.1 hj).1
   rw[e3 _ (.inl (by omega))];exact g4 j v hj (by omega)
  ·rw[iL hq]
   exact(iL hq vs (i*k) w).trans (h0 q hq RJ)
  ·rw[iN]
   exact Nat.le_trans hz (Nat.le_of_eq (iN b vs (i*k) w).symm)
  ·have r1:=iM b (cs.drop (i*k)) ((i+1)*k) ((w.setCells b (i*k) vs).drew)
   have r2:=iM b vs (i*k) w
   exact⟨(r1.1.trans r2.1).trans hr.1,(r1.2.1.trans r2.2.1).trans hr.2.1,(r1.2.2.trans r2.2.2).trans hr.2.2⟩
end Go.Proofs.YtgoelphibofcmaaGreat

namespace Go.Proofs.YtgoelphibofcmaaGreat.V
open Go.RowKit
variable {P:Program} {w w':World} {D:Nat->Prop} {ι:Names} {hs:Nat} {g:Rows}
theorem Ja {vs:Array Value} (h:eW P w D ι [] vs):vs= #[]:=Array.eq_empty_of_size_eq_zero h.1
theorem sZ {a:AV} {r:List AV} {vs:Array Value} (h:eW P w D ι (a::r) vs):∃u us,vs=(u::us).toArray/\dj P w D ι a u/\eW P w D ι r us.toArray:=by
 obtain⟨h1,h2⟩:=h
 obtain⟨l⟩:=vs
 cases l with
 |nil=>simp at h1
 |cons u us=>
  obtain⟨u',hu,hr⟩:=h2 0 a rfl
  simp at hu;subst hu
  exact⟨u,us,rfl,hr,by simpa using h1,fun j b hj=>by
   obtain⟨v,hv,lv⟩:=h2 (j+1) b (by simpa using hj)
   exact⟨v,by simpa using hv,lv⟩⟩
theorem NT (S:gi P hs D ι g w) {id:Id} {r r':Row} {B:r8} {cells:List Value} {cur:Array Value} {T:TypeId} (hid:g id=some r) (hw:r.w=true) (hB:ι id=some B) (hblk:w.heap[B.b]? =some (.cells cur T (0,0))) (hC:cur.size=B.C) (I:sj w w' B.b B.C T cells)
  (h0:r'.w=true) (h1:r'.sz=r.sz) (h2:r'.rows.length*r'.sz<=B.C) (h3:∀cs∈r'.rows,cs.length=r'.sz) (h4:∀cs∈r'.rows,∀a∈cs,a.cell=true) (hc:eW P w D ι r'.rows.flatten cells.toArray):
  gi P hs D ι (bK g id r') w'/\Step hs D ι w D ι w':=by
 obtain⟨cur',EE,zl,C6⟩:=I.Cm
 obtain⟨S1,T1⟩:=S.put (r':=r') (cur':=cur') hid hw hB hblk (by rw[zl,hC]) h0 h1 h2 h3 h4 (fun i j cs a hi hj=>by
  obtain⟨u,hu,hr⟩:=hc.2 _ _ (flat_get h3 hi hj)
  refine⟨u,C6 _ _ ?_,hr⟩
  rw[<-h1];simpa using hu)
 have hz:(w.setRow B.b cur').heap.size=w.heap.size:=by simp
 have hh:∀k,k<(w.setRow B.b cur').heap.size->w'.heap[k]? =(w.setRow B.b cur').heap[k]? :=fun k hk=>by
  by_cases Te:k=B.b
  ·subst Te
   rw[EE,setRow_heap w B.b cur cur' T _ hblk]
  ·rw[setRow_other w B.b k cur' Te]
   exact I.other k Te (by rw[hz]at hk;exact hk)
 have TN:(w.setRow B.b cur').heap.size<=w'.heap.size:=by rw[hz];exact I.size
 refine⟨S1.stay hh TN (fun _ h=>h) (fun b hb=>Nat.lt_of_lt_of_le (S1.dead b hb) TN) (fun _ h=>.inl h) (fun _ _ h=>h),T1.trans (Step.stay S1 hh TN ?_ ?_ ?_ (fun _ h=>h) (fun _ h=>.inl h) (fun _ _ h=>h))⟩
 ·rw[I.rest.1];simp[World.setRow]
 ·rw[I.rest.2.1];simp[World.setRow]
 ·rw[I.rest.2.2];simp[World.setRow]
theorem K1 (S:gi P hs D ι g w) {id:Id} {r':Row} {C:Nat} {cells:List Value} {T:TypeId} (hn:ι id=none) (I:sj w w' w.heap.size C T cells)
  (h2:r'.rows.length*r'.sz<=C) (h3:∀cs∈r'.rows,cs.length=r'.sz) (h4:∀cs∈r'.rows,∀a∈cs,a.cell=true) (hc:eW P w D ι r'.rows.flatten cells.toArray):
  gi P hs D (kc ι id ⟨w.heap.size,r'.sz,C,none⟩) (bK g id r') w'/\Step hs D ι w D (kc ι id ⟨w.heap.size,r'.sz,C,none⟩) w':=by
 obtain⟨cur',EE,zl,C6⟩:=I.Cm
 have hh:∀k,k<w.heap.size->w'.heap[k]? =w.heap[k]? :=fun k hk=>I.other k (by omega) hk
 have S':=S.stay (D':=D) (ι':=ι) hh I.size (fun _ h=>h) (fun b hb=>Nat.lt_of_lt_of_le (S.dead b hb) I.size) (fun _ h=>.inl h) (fun _ _ h=>h)
 refine⟨S.add S' hn (Nat.le_refl _) (kr.obj ⟨rfl,⟨cur',T,EE,zl⟩,h2,h3,h4,fun i j cs a hi hj=>?_⟩ rfl),Step.stay S hh I.size I.rest.1 I.rest.2.1 I.rest.2.2 (fun _ h=>h) (fun _ h=>.inl h) (fx hn)⟩
 obtain⟨u,hu,hr⟩:=hc.2 _ _ (flat_get h3 hi hj)
 refine⟨u,?_,hr.frame (fun b hb=>hh b (S.dead b hb)) (fun _ h=>h) (fx hn)⟩
 have hcu:=C6 _ _ (show cells[i*r'.sz+j]? =some u by simpa using hu)
 simp only[World.cell?,EE]
 exact hcu
theorem HT {rows:List (List AV)} {vr:List AV} {k i:Nat} (h:∀c∈rows,c.length=k) (hi:i<=rows.length):(rows.take i++vr::rows.drop i).flatten=rows.flatten.take (i*k)++vr++rows.flatten.drop (i*k):=by
 have e:rows.flatten=(rows.take i).flatten++(rows.drop i).flatten:=by rw[<-List.flatten_append,List.take_append_drop]
 have hl:(rows.take i).flatten.length=i*k:=by
  rw[vn fun c hc=>h c (List.mem_of_mem_take hc),List.length_take];congr 1;omega
 rw[List.flatten_append,List.flatten_cons,e,List.take_left' hl,List.drop_left' hl,List.append_assoc]
theorem eW.ins {xs vr:List AV} {cs vs:List Value} {m:Nat} (h:eW P w D ι xs cs.toArray) (hv:eW P w D ι vr vs.toArray) (hm:m<=xs.length):eW P w D ι (xs.take m++vr++xs.drop m) (cs.take m++vs++cs.drop m).toArray:=by
 have h1:cs.length=xs.length:=by simpa using h.1
 have h2:vs.length=vr.length:=by simpa using hv.1
 refine⟨by simp;omega,fun j a hj=>?_⟩
 have t1:(xs.take m).length=m:=by rw[List.length_take];omega
 have t2:(cs.take m).length=m:=by rw[List.length_take];omega
 simp only[List.getElem?_toArray]
 by_cases c1:j<m
 ·rw[List.append_assoc,List.getElem?_append_left (by omega),List.getElem?_take,if_pos c1]at hj
  obtain⟨u,hu,hr⟩:=h.2 j a hj
  refine⟨u,?_,hr⟩
  rw[List.append_assoc,List.getElem?_append_left (by omega),List.getElem?_take,if_pos c1];simpa using hu
 ·by_cases c2:j<m+vr.length
  ·rw[List.getElem?_append_left (by rw[List.length_append];omega),List.getElem?_append_right (by omega),t1]at hj
   obtain⟨u,hu,hr⟩:=hv.2 _ a hj
   refine⟨u,?_,hr⟩
   rw[List.getElem?_append_left (by rw[List.length_append];omega),List.getElem?_append_right (by omega),t2];simpa using hu
  ·rw[List.getElem?_append_right (by rw[List.length_append];omega),List.length_append,t1,List.getElem?_drop]at hj
   obtain⟨u,hu,hr⟩:=h.2 _ a hj
   refine⟨u,?_,hr⟩
   rw[List.getElem?_append_right (by rw[List.length_append];omega),List.length_append,t2,h2,List.getElem?_drop];simpa using hu
theorem sN (σ:aw) (Fp oY:Id) (rows:List (List AV)) (vr:List AV) (i:Nat) (hg:σ.get Fp=some ⟨true,3,rows⟩) (TH:σ.get oY=some ⟨true,3,[vr]⟩) (gM:¬Fp=oY) (hi:i<=rows.length) (Me:0<rows.length) (hn:rows.length<=1000):
  Call Tryz.prog 144 [.own Fp 0 rows.length,.int .i64 i,.own oY 0 1] σ fun r σ'=>∃BS,r=.own BS 0 (rows.length+1)/\σ'.get BS=some ⟨true,3,rows.take i++vr::rows.drop i⟩/\(BS=Fp∨(σ.next<=BS.cq/\BS.cq<σ'.next))/\σ.next<=σ'.next/\∀j:Id,j.cq<σ.next->j≠Fp->σ'.get j=σ.get j:=by
 refine gD fun hs D ι w vs S U A=>?_
 obtain⟨u1,us1,rfl,h1,h2⟩:=sZ A
 obtain⟨u2,us2,h3,h4,h5⟩:=sZ h2
 simp at h3;subst h3
 obtain⟨u3,us3,h6,h7,h8⟩:=sZ h5
 simp at h6;subst h6
 have:=Ja h8
 simp at this;subst this
 have e2:=dz h4
 subst e2
 obtain⟨B,hB,RO,kh,mm⟩:=S.row Fp _ hg
 obtain⟨Bv,hBv,RvO,hlov,hndv⟩:=S.row oY _ TH
 have Rw:=RO.cells (by(show(3:Nat)<pO);decide)
 have Td:=RvO.cells (by(show(3:Nat)<pO);decide)
 have R:=RO.row Rw
 have Rv:=RvO.row Td
 obtain⟨cur,T,hblk,hC,_⟩:=R.cur
 obtain⟨Sk,Tv,L8,hCv,_⟩:=Rv.cur
 have hlen:∀c∈rows,c.length=3:=R.len
 have Ie:∀c∈rows,∀a∈c,a.cell=true:=R.flat
 have nQ:∀c∈[vr],c.length=3:=Rv.len
 have hvf:∀c∈[vr],∀a∈c,a.cell=true:=Rv.flat
 obtain⟨o,cap,B',rfl,dJ,q1,q2,q3,q4,hkA⟩:=iu h1
 rw[hB]at dJ;injection dJ with dJ;subst dJ
 obtain⟨ov,cv,Bv',rfl,Ky,v1,v2,v3,v4,hkV⟩:=iu h7
 rw[hBv]at Ky;injection Ky with Ky;subst Ky
 have FL:B.sz=3:=R.sz
 have hBvs:Bv.sz=3:=Rv.sz
 have ho:o=0:=by rcases q2 with h|h<;>omega
 have sb:ov=0:=by rcases v2 with h|h<;>omega
 subst ho;subst sb
 have OP:Bv.b≠B.b:=fun e=>gM (S.inj Fp oY _ _ B Bv hg TH rfl hB hBv e.symm)
 obtain⟨A1,c1,e1,k1⟩:=mV (sz:=3) S h1 (ys:=rows) (by simp[bm,hg]) hlen Ie
 obtain⟨A2,c2,e3,k2⟩:=mV (sz:=3) S h7 (ys:=[vr]) (by simp[bm,TH]) nQ hvf
 rcases k1 with k1|⟨b1,o1,cs,rfl,cl,cc,cr,c1'⟩
 ·subst k1;simp at Me
 rcases k2 with k2|⟨b2,o2,vls,rfl,vl,vc,vrp,v1'⟩
 ·cases k2
 simp only[Value.slice.injEq,Option.some.injEq,Addr.mk.injEq]at e1 e3
 obtain⟨⟨rfl,rfl,_⟩,_,rfl⟩:=e1
 obtain⟨⟨rfl,rfl,_⟩,_,rfl⟩:=e3
 simp only[List.flatten_cons,List.flatten_nil,List.append_nil]at vrp
 simp only[List.length_cons,List.length_nil,Nat.zero_add,Nat.one_mul]at vl
 simp only[Nat.zero_add]at cc vc
 have rl:∀id:Id,ι id=none->ι id=none:=fun _ h=>h
 have vG:ι ⟨144000000,σ.next⟩=none:=by
  cases hq:ι ⟨144000000,σ.next⟩with
  |none=>rfl
  |some B0=>
   rcases U ⟨144000000,σ.next⟩ (by rw[hq];simp)with h|⟨_,h⟩
   ·simp at h
   ·exact h.elim
 have Ic:=HT (vr:=vr) hlen hi
 have jG:∀c∈rows.take i++vr::rows.drop i,c.length=3:=fun c hc=>by
  rcases List.mem_append.1 hc with hc|hc
  ·exact hlen c (List.mem_of_mem_take hc)
  ·rcases List.mem_cons.1 hc with rfl|hc
   ·exact nQ _ (by simp)
   ·exact hlen c (List.mem_of_mem_drop hc)
 have Ig:∀c∈rows.take i++vr::rows.drop i,∀a∈c,a.cell=true:=fun c hc=>by
  rcases List.mem_append.1 hc with hc|hc
  ·exact Ie c (List.mem_of_mem_take hc)
  ·rcases List.mem_cons.1 hc with rfl|hc
   ·exact hvf _ (by simp)
   ·exact Ie c (List.mem_of_mem_drop hc)
 have G7:(rows.take i++vr::rows.drop i).length=rows.length+1:=by simp;omega
 have hfll:rows.flatten.length=rows.length*3:=vn hlen
 have gC:eW Tryz.prog w D ι (rows.take i++vr::rows.drop i).flatten (cs.take (i*3)++vls++cs.drop (i*3)).toArray:=by
  rw[Ic];exact cr.ins vrp (by omega)
 have Nq:(rows.length+1)<=cap->(rows.length+1)*3<=cur.size:=fun h=>by rw[hC];rw[FL]at q3;omega
 have zx:∀w',sj w w' B.b B.C T (cs.take (i*3)++vls++cs.drop (i*3))->rows.length+1<=cap->∃r g' n' D' ι' u,Ending.returned (.slice (some ⟨B.b,0,none⟩) (rows.length+1) cap)=.returned u/\(∃BS,r=.own BS 0 (rows.length+1)/\g' BS=some ⟨true,3,rows.take i++vr::rows.drop i⟩/\(BS=Fp∨(σ.next<=BS.cq/\BS.cq<n'))/\σ.next<=n'/\∀j:Id,j.cq<σ.next->j≠Fp->g' j=σ.get j)/\Step hs D ι w D' ι' w'/\gi Tryz.prog hs D' ι' g' w'/\Used ι' n' (fun _=>False)/\σ.next<=n'/\dj Tryz.prog w' D' ι' r u:=fun w' I eL=>by
  obtain⟨S1,T1⟩:=NT (r':=⟨true,3,rows.take i++vr::rows.drop i⟩) S hg rfl hB hblk hC I rfl rfl (by rw[G7];have:=Nq eL;rw[hC]at this;exact this) jG Ig gC
  exact⟨.own Fp 0 (rows.length+1),_,σ.next,D,ι,_,rfl,⟨Fp,rfl,by simp[bK],.inl rfl,Nat.le_refl _,fun j _ hj=>by simp[bK,hj]⟩,T1,S1,U,Nat.le_refl _,.own _ _ _ _ _ B hB Rw eL (.inr (Nat.zero_mul _).symm) q3 q4⟩
 have MI:∀w' G T2,sj w w' w.heap.size (G*3) T2 (cs.take (i*3)++vls++cs.drop (i*3))->rows.length+1<=G->G<=maxLen->∃r g' n' D' ι' u,Ending.returned (.slice (some ⟨w.heap.size,0,none⟩) (rows.length+1) G)=.returned u/\(∃BS,r=.own BS 0 (rows.length+1)/\g' BS=some ⟨true,3,rows.take i++vr::rows.drop i⟩/\(BS=Fp∨(σ.next<=BS.cq/\BS.cq<n'))/\σ.next<=n'/\∀j:Id,j.cq<σ.next->j≠Fp->g' j=σ.get j)/\Step hs D ι w D' ι' w'/\gi Tryz.prog hs D' ι' g' w'/\Used ι' n' (fun _=>False)/\σ.next<=n'/\dj Tryz.prog w' D' ι' r u:=fun w' G T2 I hG hGm=>by
  obtain⟨S1,T1⟩:=K1 (id:=⟨144000000,σ.next⟩) (r':=⟨true,3,rows.take i++vr::rows.drop i⟩) S vG I (by show(rows.take i++vr::rows.drop i).length*3<=G*3;rw[G7];omega) jG Ig gC
  refine⟨.own ⟨144000000,σ.next⟩ 0 (rows.length+1),_,σ.next+1,D,_,_,rfl,⟨_,rfl,by simp[bK],.inr ⟨Nat.le_refl _,Nat.lt_succ_self _⟩,Nat.le_succ _,fun j hj _=>?_⟩,T1,S1,U.upd.next,Nat.le_succ _,.own _ _ _ _ _ _ (ez _ _ _) rfl hG (.inr (Nat.zero_mul _).symm) (by simp) hGm⟩
  have:¬j=⟨144000000,σ.next⟩:=fun e=>by subst e;simp at hj
  simp[bK,this]
 have rj:∀(j:Nat) (v:Value),cs[j]? =some v->cur[j]? =some v:=fun j v hj=>by
  have:=cc j v hj
  rwa [cell_of_row w B.b j cur T (0,0) hblk]at this
 have fz:∀j,w.frozen? ⟨B.b,j,none⟩=false:=fun j=>by simp only[World.frozen?,hblk];simp
 have fzv:∀j,w.frozen? ⟨Bv.b,j,none⟩=false:=fun j=>by simp only[World.frozen?,L8];simp
 obtain⟨i0,ye,Cu,Dj,RU⟩:=info_parts rH
 have hu:=Tryz.underlying39
 have qq:B.b<w.heap.size:=(Array.getElem?_eq_some_iff.1 hblk).1
 by_cases fB:i=rows.length
 ·subst fB
  have et:cs.take (rows.length*3)=cs:=List.take_of_length_le (by omega)
  have ed:cs.drop (rows.length*3)=[]:=List.drop_of_length_le (by omega)
  rw[et,ed,List.append_nil]at zx MI
  by_cases eL:rows.length+1<=cap
  ·have xr:=Nq eL
   have gH:=fun ty=>pS (P:=Tryz.prog) (w:=w) (ty:=ty) hu ye B.b rows.length cap cur hblk ⟨Bv.b,0,none⟩ 1 cv vls (by rw[Dj];omega) (fun j v hj=>by rw[Addr.add_lit,Nat.zero_add];exact vc j v hj) v1' eL (by rw[Dj];omega)
   simp only[Dj]at gH
   refine(ym (some ⟨B.b,0,none⟩) rows.length cap Bv.b cv w _ _ gH (by omega)).mono ?_
   rintro e w' ⟨rfl,rfl⟩
   have fe:(cur.toList.take (rows.length*3)++vls++cur.toList.drop (rows.length*3+vls.length)).toArray.size=cur.size:=by simp;omega
   have I:sj w (w.setRow B.b (cur.toList.take (rows.length*3)++vls++cur.toList.drop (rows.length*3+vls.length)).toArray) B.b B.C T (cs++vls):=by
    refine⟨⟨_,setRow_heap w B.b cur _ T _ hblk,by rw[fe,hC],fun t v ht=>?_⟩,fun k hk _=>setRow_other w B.b k _ hk,by simp,by simp[World.setRow],by simp[World.setRow],by simp[World.setRow]⟩
    simp only[List.getElem?_toArray]
    have Mm:(cur.toList.take (rows.length*3)).length=rows.length*3:=by simp;omega
    by_cases h1:t<rows.length*3
    ·rw[List.getElem?_append_left (by omega)]at ht
     rw[List.append_assoc,List.getElem?_append_left (by omega),List.getElem?_take,if_pos h1]
     have:=rj t v ht
     simpa using this
    ·rw[List.getElem?_append_right (by omega),cl]at ht
     have:=(List.getElem?_eq_some_iff.1 ht).1
     rw[List.getElem?_append_left (by rw[List.length_append];omega),List.getElem?_append_right (by omega),Mm];exact ht
   exact zx _ I eL
  ·have gH:=fun ty=>run_append_grow (P:=Tryz.prog) w 39 ty 137 i0 _ hu ye Cu ⟨B.b,0,none⟩ rows.length cap cs (by rw[Dj];omega) (fun j v hj=>by rw[Addr.add_lit,Nat.zero_add];exact cc j v hj) ⟨Bv.b,0,none⟩ 1 cv vls (by rw[Dj];omega) (fun j v hj=>by rw[Addr.add_lit,Nat.zero_add];exact vc j v hj) (by omega) (by omega) (growslice_fits (by omega) (by rw[RU];omega))
   refine(ym (some ⟨B.b,0,none⟩) rows.length cap Bv.b cv w _ _ gH (by omega)).mono ?_
   rintro e w' ⟨rfl,rfl⟩
   have g1:=grownCap_ge w (rows.length+1) cap 137
   have g2:=grownCap_le_maxLen w (rows.length+1) cap 137 (by unfold maxLen;omega)
   refine MI _ _ _ ⟨⟨_,heap_alloc_new w.drew _,?_,fun t v ht=>?_⟩,fun k _ hk=>Below.heap_alloc w.drew _ _ hk,by simp,rfl,rfl,rfl⟩ g1 g2
   ·simp[Builtin.zeroCells,Value.cells]
    omega
   ·rw[Array.getElem?_append_left (by have:=(List.getElem?_eq_some_iff.1 ht).1;simpa using this)]
    simpa using ht
 ·have nI:i<rows.length:=by omega
  by_cases eL:rows.length+1<=cap
  ·have xr:=Nq eL
   refine(Bt B.b rows.length cap i Bv.b cv cs vls w nI eL (by unfold maxLen at q4;omega) OP (by omega) vl cc (fun j hj=>by rw[cell_of_row w B.b j cur T (0,0) hblk,Array.getElem?_eq_getElem (by omega)];rfl) fz vc c1' v1' Tv T Sk.size cur.size (by simp[World.shape?,L8]) (by simp[World.shape?,hblk]) (by omega) (fzv _) (fzv _)).mono ?_
   rintro e w' ⟨rfl,rfl⟩
   have I:=Cf (w0:=w) (w:=w.drew) (b:=B.b) (i:=i) (k:=3) (cur:=cur) (T:=T) (cs:=cs) (vs:=vls) hblk (fun _ _ _=>rfl) (Nat.le_refl _) ⟨rfl,rfl,rfl⟩ vl (fun j v hj _=>rj j v hj) (by omega) (by omega) true
   rw[if_pos rfl,hC]at I
   exact zx _ I eL
  ·refine(Dm B.b rows.length cap i Bv.b cv cs vls w nI q1 (by omega) (by omega) (by omega) vl cc vc c1' v1').mono ?_
   rintro e w' ⟨G,uM,g1,g2,g3,g4,rfl,rfl⟩
   have I:=Cf (w0:=w) (w:=(w.alloc (.cells uM 137)).drew) (b:=w.heap.size) (i:=i) (k:=3) (cur:=uM) (T:=137) (cs:=cs) (vs:=vls) (heap_alloc_new w _) (fun k _ hk=>Below.heap_alloc w _ _ hk) (by simp) ⟨rfl,rfl,rfl⟩ vl g4 (by omega) (by omega) false
   rw[if_neg (by simp),g3]at I
   exact MI _ G _ I g1 g2
end Go.Proofs.YtgoelphibofcmaaGreat.V

namespace Go.Proofs.YtgoelphibofcmaaGreat.V
open Go.RowKit
attribute [local irreducible] eh wpOps fI Call
attribute [local go_sem] aM fj eJ fF fE da upd cu K.av cI AV.cells AV.cell rowOf rowsOf part ld rowAt bK bV dq dM gy bD cY dY fA eS dk dR cW cV dD dE bG bc cL bF cP cN dO dS dQ cK bL cX dN bE aO cR cz gx bm cH bH aY dp bl dr AV.undef bt bz dF dL dy dC cF dX eb cw dV dU cQ cU List.getD_cons_zero List.getD_cons_succ List.getD_nil List.all_cons List.all_nil Bool.and_true Bool.true_and Bool.and_self Bool.not_true Bool.not_false Option.map_some Option.map_none Option.bind_some Option.bind_none List.length_cons List.length_nil List.take_succ_cons List.take_zero List.take_nil List.drop_succ_cons List.drop_zero List.drop_nil List.head?_cons List.map_cons List.map_nil List.getElem?_cons_zero List.getElem?_cons_succ List.cons_append List.nil_append List.append_nil List.length_map List.set_cons_zero List.set_cons_succ Nat.reduceMul eq_self Int.toNat_natCast Int.natCast_nonneg and_self true_and and_true decide_true decide_false Bool.false_eq_true Nat.zero_add Nat.add_zero List.contains_cons List.contains_nil Bool.or_false Bool.false_or beq_self_eq_true Nat.reduceBEq ne_eq not_true_eq_false not_false_eq_true Id.mk.injEq false_and and_false Nat.reduceLT Int.reduceLE Int.reduceLT Int.reduceToNat Int.reduceNeg Int.reduceAdd Nat.le_refl List.length_append beq_true beq_false Bool.not_eq_eq_eq_not or_false false_or dK aj ar aH bd br bW aT aZ aU bf cJ bw
def iC (n lo hi:Int):Bool:=decide (lo<=n)&&decide (n<=hi)
theorem ej {n lo hi:Int} (h:iC n lo hi=true):lo<=n/\n<=hi:=by simpa[iC]using h
theorem kG {n lo hi:Int} (h:lo<=n/\n<=hi):iC n lo hi=true:=by simpa[iC]using h
def Ar (p:aE):Bool:=iC p.eZ (-60) 60&&iC p.eT (-60) 60
theorem ki (n lo hi:Int):au Tryz.prog 137 [.int .i64 n,.int .i64 lo,.int .i64 hi] (.bool (iC n lo hi)):=by
 refine au.body eG rfl fun hl n0=>?_
 clear hl
 by_cases h1:lo<=n
 ·(try((repeat(revert hN;revert N;apply Pn.out));refine wk @h1 ?_;(repeat(refine Pn.mk ?_;intro N hN))))
  exact aX (b:=decide (n<=hi)) (.inl rfl) (sd @Nat.zero_add) (by simp[iC,h1])
 ·(try((repeat(revert hN;revert N;apply Pn.out));refine wk @h1 ?_;(repeat(refine Pn.mk ?_;intro N hN))))
  exact aX (b:=false) (.inl rfl) (sd @Nat.zero_add) (by simp[iC,h1])
theorem j5 (n lo hi:Int):au Tryz.prog 141 [.int .i64 n,.int .i64 lo,.int .i64 hi] (.bool (iC n lo hi)):=by
 refine au.body eG rfl fun hl n0=>?_
 clear hl
 by_cases h1:lo<=n
 ·(try((repeat(revert hN;revert N;apply Pn.out));refine wk @h1 ?_;(repeat(refine Pn.mk ?_;intro N hN))))
  exact aX (b:=decide (n<=hi)) (.inl rfl) (sd @Nat.zero_add) (by simp[iC,h1])
 ·(try((repeat(revert hN;revert N;apply Pn.out));refine wk @h1 ?_;(repeat(refine Pn.mk ?_;intro N hN))))
  exact aX (b:=false) (.inl rfl) (sd @Nat.zero_add) (by simp[iC,h1])
theorem IC (d:Int):au Tryz.prog 173 [.int .i64 d] (.bool (iC d 0 3)):=by
 refine au.body eG rfl fun hl n0=>?_
 clear hl
 have h:=ki d 0 3
 (repeat(first|((repeat(revert hN;revert N;apply Pn.out));refine wk @Nat.zero_add ?_;(repeat(refine Pn.mk ?_;intro N hN)))|((try apply Or.inl);refine⟨_,au.x (h) (sd @Nat.zero_add),?_⟩;refine hN _ _ ?_;clear hN N)))
 exact aX (b:=iC d 0 3) (.inl rfl) (sd @Nat.zero_add) rfl
theorem qz (p:aE):au Tryz.prog 123 [.agg (ai p)] (.bool (Ar p)):=by
 refine au.body eG rfl fun hl n0=>?_
 clear hl
 have h1:=ki p.eZ (-60) 60
 have h2:=ki p.eT (-60) 60
 by_cases q:iC p.eZ (-60) 60=true
 ·rw[q]at h1
  (repeat(first|((repeat(revert hN;revert N;apply Pn.out));refine wk @ai.eq_1 ?_;(repeat(refine Pn.mk ?_;intro N hN)))|((try apply Or.inl);refine⟨_,au.x (h1) (sd @ai.eq_1),?_⟩;refine hN _ _ ?_;clear hN N)|((try apply Or.inl);refine⟨_,au.x (h2) (sd @ai.eq_1),?_⟩;refine hN _ _ ?_;clear hN N)))
  exact aX (b:=iC p.eT (-60) 60) (.inl rfl) (sd @Nat.zero_add) (by rw[Ar,q];rfl)
 ·rw[Bool.not_eq_true]at q
  rw[q]at h1
  (repeat(first|((repeat(revert hN;revert N;apply Pn.out));refine wk @ai.eq_1 ?_;(repeat(refine Pn.mk ?_;intro N hN)))|((try apply Or.inl);refine⟨_,au.x (h1) (sd @ai.eq_1),?_⟩;refine hN _ _ ?_;clear hN N)|((try apply Or.inl);refine⟨_,au.x (h2) (sd @ai.eq_1),?_⟩;refine hN _ _ ?_;clear hN N)))
  exact aX (b:=false) (.inl rfl) (sd @Nat.zero_add) (by rw[Ar,q];rfl)
theorem mz (p:aE):au Tryz.prog 140 [.agg (ai p)] (.bool (Ar p)):=by
 refine au.body eG rfl fun hl n0=>?_
 clear hl
 have h1:=j5 p.eZ (-60) 60
 have h2:=j5 p.eT (-60) 60
 by_cases q:iC p.eZ (-60) 60=true
 ·rw[q]at h1
  (repeat(first|((repeat(revert hN;revert N;apply Pn.out));refine wk @ai.eq_1 ?_;(repeat(refine Pn.mk ?_;intro N hN)))|((try apply Or.inl);refine⟨_,au.x (h1) (sd @ai.eq_1),?_⟩;refine hN _ _ ?_;clear hN N)|((try apply Or.inl);refine⟨_,au.x (h2) (sd @ai.eq_1),?_⟩;refine hN _ _ ?_;clear hN N)))
  exact aX (b:=iC p.eT (-60) 60) (.inl rfl) (sd @Nat.zero_add) (by rw[Ar,q];rfl)
 ·rw[Bool.not_eq_true]at q
  rw[q]at h1
  (repeat(first|((repeat(revert hN;revert N;apply Pn.out));refine wk @ai.eq_1 ?_;(repeat(refine Pn.mk ?_;intro N hN)))|((try apply Or.inl);refine⟨_,au.x (h1) (sd @ai.eq_1),?_⟩;refine hN _ _ ?_;clear hN N)|((try apply Or.inl);refine⟨_,au.x (h2) (sd @ai.eq_1),?_⟩;refine hN _ _ ?_;clear hN N)))
  exact aX (b:=false) (.inl rfl) (sd @Nat.zero_add) (by rw[Ar,q];rfl)
def sU (d:Int):Int:=if iC d 0 3 then(d+2) % 4 else -1
def dx (p:aE) (d:Int):aE:=
 if d=0 then⟨p.eZ,p.eT+1⟩else if d=1 then⟨p.eZ+1,p.eT⟩else if d=2 then⟨p.eZ,p.eT-1⟩else if d=3 then⟨p.eZ-1,p.eT⟩else p
def iB (n:Int):Prop:=-4611686018427387904<=n/\n<=4611686018427387904
theorem yp (p:aE) (d:Int) (hd:iC d 0 3=true) (hx:iB p.eZ) (hy:iB p.eT):au Tryz.prog 122 [.agg (ai p),.int .i64 d] (.agg (ai (dx p d))):=by
 refine au.body eG rfl fun hl n0=>?_
 clear hl
 obtain⟨x1,x2⟩:=hx
 obtain⟨y1,y2⟩:=hy
 have w1:IntKind.i64.wrap (p.eZ+1)=p.eZ+1:=bQ (by omega)
 have w2:IntKind.i64.wrap (p.eZ-1)=p.eZ-1:=bQ (by omega)
 have w3:IntKind.i64.wrap (p.eT+1)=p.eT+1:=bQ (by omega)
 have w4:IntKind.i64.wrap (p.eT-1)=p.eT-1:=bQ (by omega)
 have hb:=ej hd
 have hc:d=0∨d=1∨d=2∨d=3:=by omega
 rcases hc with rfl|rfl|rfl|rfl
 ·(try((repeat(revert hN;revert N;apply Pn.out));refine wk (tw @ai.eq_1 @w3) ?_;(repeat(refine Pn.mk ?_;intro N hN))))
  exact rP (.inl rfl) (vs:=[.agg (ai (dx p 0))]) (by simp only[go_sem, ↓reduceIte,Nat.reduceEqDiff,Nat.reduceAdd,Nat.reduceSub,Nat.reduceLeDiff,reduceCtorEq,ft,ij,ai,dx]) (by simp[fh,ai,gn,ew])
 ·(try((repeat(revert hN;revert N;apply Pn.out));refine wk (tw @ai.eq_1 @w1) ?_;(repeat(refine Pn.mk ?_;intro N hN))))
  exact rP (.inl rfl) (vs:=[.agg (ai (dx p 1))]) (by simp[ft,ij,ai,dx,ld,rowAt,bK,upd,part]) (by simp[fh,ai,gn,ew])
 ·(try((repeat(revert hN;revert N;apply Pn.out));refine wk (tw @ai.eq_1 @w4) ?_;(repeat(refine Pn.mk ?_;intro N hN))))
  exact rP (.inl rfl) (vs:=[.agg (ai (dx p 2))]) (by simp[ft,ij,ai,dx,ld,rowAt,bK,upd,part]) (by simp[fh,ai,gn,ew])
 ·(try((repeat(revert hN;revert N;apply Pn.out));refine wk (tw @ai.eq_1 @w2) ?_;(repeat(refine Pn.mk ?_;intro N hN))))
  exact rP (.inl rfl) (vs:=[.agg (ai (dx p 3))]) (by simp[ft,ij,ai,dx,ld,rowAt,bK,upd,part]) (by simp[fh,ai,gn,ew])
theorem zO (p p2:aE) (x y:Int) (hx:IntKind.i64.wrap (p.eZ+p2.eZ)=x) (hy:IntKind.i64.wrap (p.eT+p2.eT)=y):au Tryz.prog 184 [.agg (ai p),.agg (ai p2)] (.agg [.int .i64 x,.int .i64 y]):=by
 refine au.body eG rfl fun hl n0=>?_
 clear hl
 (try((repeat(revert hN;revert N;apply Pn.out));refine wk (tw @ai.eq_1 (tw @hx @hy)) ?_;(repeat(refine Pn.mk ?_;intro N hN))))
 exact rP (.inl rfl) (vs:=[.agg [.int .i64 x,.int .i64 y]]) (by simp only[go_sem, ↓reduceIte,Nat.reduceEqDiff,Nat.reduceAdd,Nat.reduceSub,Nat.reduceLeDiff,reduceCtorEq,ft,ij,ai]) (by simp[fh,gn,ew])
theorem DV (p:aE) (d:Int) (hd:iC d 0 3=true) (hx:iB p.eZ) (hy:iB p.eT):au Tryz.prog 149 [.agg (ai p),.int .i64 d] (.agg (ai (dx p d))):=by
 refine au.body eG rfl fun hl n0=>?_
 clear hl
 obtain⟨x1,x2⟩:=hx
 obtain⟨y1,y2⟩:=hy
 have hb:=ej hd
 have hc:d=0∨d=1∨d=2∨d=3:=by omega
 rcases hc with rfl|rfl|rfl|rfl
 ·have h:=zO p ⟨0,1⟩ (p.eZ) (p.eT+1) (by rw[bQ (by constructor<;>simp only<;>omega)]<;>(try simp only)<;>(try omega)) (by rw[bQ (by constructor<;>simp only<;>omega)]<;>(try simp only)<;>(try omega))
  simp only[ai]at h
  (repeat(first|((repeat(revert hN;revert N;apply Pn.out));refine wk @ai.eq_1 ?_;(repeat(refine Pn.mk ?_;intro N hN)))|((try apply Or.inl);refine⟨_,au.x (h) (sd @ai.eq_1),?_⟩;refine hN _ _ ?_;clear hN N)))
  exact rP (.inl rfl) (vs:=[.agg (ai (dx p 0))]) (by simp[ft,ij,ai,dx,ld,rowAt,bK,upd,part]) (by simp[fh,ai,gn,ew])
 ·have h:=zO p ⟨1,0⟩ (p.eZ+1) (p.eT) (by rw[bQ (by constructor<;>simp only<;>omega)]<;>(try simp only)<;>(try omega)) (by rw[bQ (by constructor<;>simp only<;>omega)]<;>(try simp only)<;>(try omega))
  simp only[ai]at h
  (repeat(first|((repeat(revert hN;revert N;apply Pn.out));refine wk @ai.eq_1 ?_;(repeat(refine Pn.mk ?_;intro N hN)))|((try apply Or.inl);refine⟨_,au.x (h) (sd @ai.eq_1),?_⟩;refine hN _ _ ?_;clear hN N)))
  exact rP (.inl rfl) (vs:=[.agg (ai (dx p 1))]) (by simp[ft,ij,ai,dx,ld,rowAt,bK,upd,part]) (by simp[fh,ai,gn,ew])
 ·have h:=zO p ⟨0,(-1)⟩ (p.eZ) (p.eT-1) (by rw[bQ (by constructor<;>simp only<;>omega)]<;>(try simp only)<;>(try omega)) (by rw[bQ (by constructor<;>simp only<;>omega)]<;>(try simp only)<;>(try omega))
  simp only[ai]at h
  (repeat(first|((repeat(revert hN;revert N;apply Pn.out));refine wk @ai.eq_1 ?_;(repeat(refine Pn.mk ?_;intro N hN)))|((try apply Or.inl);refine⟨_,au.x (h) (sd @ai.eq_1),?_⟩;refine hN _ _ ?_;clear hN N)))
  exact rP (.inl rfl) (vs:=[.agg (ai (dx p 2))]) (by simp[ft,ij,ai,dx,ld,rowAt,bK,upd,part]) (by simp[fh,ai,gn,ew])
 ·have h:=zO p ⟨(-1),0⟩ (p.eZ-1) (p.eT) (by rw[bQ (by constructor<;>simp only<;>omega)]<;>(try simp only)<;>(try omega)) (by rw[bQ (by constructor<;>simp only<;>omega)]<;>(try simp only)<;>(try omega))
  simp only[ai]at h
  (repeat(first|((repeat(revert hN;revert N;apply Pn.out));refine wk @ai.eq_1 ?_;(repeat(refine Pn.mk ?_;intro N hN)))|((try apply Or.inl);refine⟨_,au.x (h) (sd @ai.eq_1),?_⟩;refine hN _ _ ?_;clear hN N)))
  exact rP (.inl rfl) (vs:=[.agg (ai (dx p 3))]) (by simp[ft,ij,ai,dx,ld,rowAt,bK,upd,part]) (by simp[fh,ai,gn,ew])
theorem DE (d:Int) (hd:iC d 0 3=true):au Tryz.prog 153 [.int .i64 d] (.int .i64 (sU d)):=by
 refine au.body eG rfl fun hl n0=>?_
 clear hl
 have hb:=ej hd
 have hw:IntKind.i64.wrap (d+2)=d+2:=bQ (by omega)
 have ht:Int.tmod (d+2) 4=(d+2) % 4:=Int.tmod_eq_emod_of_nonneg (by omega)
 have h4:¬((4:Int)=0):=by omega
 (try((repeat(revert hN;revert N;apply Pn.out));refine wk (tw @hw (tw @ht @h4)) ?_;(repeat(refine Pn.mk ?_;intro N hN))))
 exact cm (b:=(d+2) % 4) (.inl rfl) (sd @Nat.zero_add) (by rw[sU,if_pos hd])
theorem CD (d:Int) (hd:iC d 0 3=true):au Tryz.prog 125 [.int .i64 d] (.int .i64 (sU d)):=by
 refine au.body eG rfl fun hl n0=>?_
 clear hl
 have hb:=ej hd
 have hw:IntKind.i64.wrap (d+2)=d+2:=bQ (by omega)
 have ht:Int.tmod (d+2) 4=(d+2) % 4:=Int.tmod_eq_emod_of_nonneg (by omega)
 have h4:¬((4:Int)=0):=by omega
 have h:=IC d
 rw[hd]at h
 (repeat(first|((repeat(revert hN;revert N;apply Pn.out));refine wk (tw @hw (tw @ht @h4)) ?_;(repeat(refine Pn.mk ?_;intro N hN)))|((try apply Or.inl);refine⟨_,au.x (h) (sd (tw @hw (tw @ht @h4))),?_⟩;refine hN _ _ ?_;clear hN N)))
 exact cm (b:=(d+2) % 4) (.inl rfl) (sd @Nat.zero_add) (by rw[sU,if_pos hd])
end Go.Proofs.YtgoelphibofcmaaGreat.V

namespace Go.Proofs.YtgoelphibofcmaaGreat.V
open Go.RowKit
attribute [local irreducible] eh wpOps fI Call
attribute [local go_sem] aM fj eJ fF fE da upd cu K.av cI AV.cells AV.cell rowOf rowsOf part ld rowAt bK bV dq dM gy bD cY dY fA eS dk dR cW cV dD dE bG bc cL bF cP cN dO dS dQ cK bL cX dN bE aO cR cz gx bm cH bH aY dp bl dr AV.undef bt bz dF dL dy dC cF dX eb cw dV dU cQ cU List.getD_cons_zero List.getD_cons_succ List.getD_nil List.all_cons List.all_nil Bool.and_true Bool.true_and Bool.and_self Bool.not_true Bool.not_false Option.map_some Option.map_none Option.bind_some Option.bind_none List.length_cons List.length_nil List.take_succ_cons List.take_zero List.take_nil List.drop_succ_cons List.drop_zero List.drop_nil List.head?_cons List.map_cons List.map_nil List.getElem?_cons_zero List.getElem?_cons_succ List.cons_append List.nil_append List.append_nil List.length_map List.set_cons_zero List.set_cons_succ Nat.reduceMul eq_self Int.toNat_natCast Int.natCast_nonneg and_self true_and and_true decide_true decide_false Bool.false_eq_true Nat.zero_add Nat.add_zero List.contains_cons List.contains_nil Bool.or_false Bool.false_or beq_self_eq_true Nat.reduceBEq ne_eq not_true_eq_false not_false_eq_true Id.mk.injEq false_and and_false Nat.reduceLT Int.reduceLE Int.reduceLT Int.reduceToNat Int.reduceNeg Int.reduceAdd Nat.le_refl List.length_append beq_true beq_false Bool.not_eq_eq_eq_not or_false false_or dK aj ar aH bd br bW aT aZ aU bf cJ bw
def ea (s:ax) (t:Int):Bool:=iC t 0 ((s.aq.length:Int)-1)
theorem qC (s:ax) (t:Int):au Tryz.prog 136 [.di (ae s),.int .i64 t] (.bool (ea s t)):=by
 refine au.body eG rfl fun hl n0=>?_
 have hn:s.aq.length<=9223372036854775807:=by
  have h1:=(hl (.di (ae s)) (by simp)).Bw (a:=.sl (s.aq.map bR)) (by simp[ae])
  simpa using h1.len
 clear hl
 have hw:IntKind.i64.wrap ((s.aq.length:Int)-1)=(s.aq.length:Int)-1:=bQ (by omega)
 have h:=ki t 0 ((s.aq.length:Int)-1)
 (repeat(first|((repeat(revert hN;revert N;apply Pn.out));refine wk (tw @ae.eq_1 @hw) ?_;(repeat(refine Pn.mk ?_;intro N hN)))|((try apply Or.inl);refine⟨_,au.x (h) (sd (tw @ae.eq_1 @hw)),?_⟩;refine hN _ _ ?_;clear hN N)))
 exact aX (b:=ea s t) (.inl rfl) (by simp only[go_sem, ↓reduceIte,Nat.reduceEqDiff,Nat.reduceAdd,Nat.reduceSub,Nat.reduceLeDiff,reduceCtorEq,ea]) rfl
theorem yn (t n:Int) (h0:0<=n) (h1:n<=9223372036854775807):au Tryz.prog 139 [.int .i64 t,.int .i64 n] (.bool (iC t 0 (n-1))):=by
 refine au.body eG rfl fun hl n0=>?_
 clear hl
 have hw:IntKind.i64.wrap (n-1)=n-1:=bQ (by omega)
 have h:=j5 t 0 (n-1)
 (repeat(first|((repeat(revert hN;revert N;apply Pn.out));refine wk @hw ?_;(repeat(refine Pn.mk ?_;intro N hN)))|((try apply Or.inl);refine⟨_,au.x (h) (sd @hw),?_⟩;refine hN _ _ ?_;clear hN N)))
 exact aX (b:=iC t 0 (n-1)) (.inl rfl) (sd @Nat.zero_add) rfl
theorem vQ (s:ax) (t:Int):au Tryz.prog 83 [.agg (ae s),.int .i64 t] (.bool (ea s t)):=by
 refine au.body eG rfl fun hl n0=>?_
 have hn:s.aq.length<=9223372036854775807:=by
  have h1:=(hl (.agg (ae s)) (by simp)).MG (a:=.sl (s.aq.map bR)) (by simp[ae])
  simpa using h1.len
 clear hl
 have h:=yn t s.aq.length (by omega) (by omega)
 (repeat(first|((repeat(revert hN;revert N;apply Pn.out));refine wk @ae.eq_1 ?_;(repeat(refine Pn.mk ?_;intro N hN)))|((try apply Or.inl);refine⟨_,au.x (h) (sd @ae.eq_1),?_⟩;refine hN _ _ ?_;clear hN N)))
 exact aX (b:=ea s t) (.inl rfl) (by simp only[go_sem, ↓reduceIte,Nat.reduceEqDiff,Nat.reduceAdd,Nat.reduceSub,Nat.reduceLeDiff,reduceCtorEq,ea]) rfl
def zL:eR:=⟨⟨#[]⟩,[]⟩
def dw (s:ax) (t:Int):eR:=s.aq.getD t.toNat zL
def dv (t:eR) (d:Int):Int:=t.bI.getD d.toNat 0
def qn (s:ax) (g:Int):fy:=s.aA.getD g.toNat ⟨⟨#[]⟩,0⟩
def s7 (s:ax) (g:Int):Int:=if g=0 then 0 else(qn s (g-1)).eB
def gN (s:ax) (a d b:Int):Int:=if dv (dw s a) d=dv (dw s b) (sU d)then s7 s (dv (dw s a) d)else 0
structure ko (s:ax):Prop where
 wJ:∀t∈s.aq,t.bI.length=4
 vz:∀t∈s.aq,∀g∈t.bI,0<=g/\g<=s.aA.length
theorem getD_map {α β:Type} (e:α->β) {l:List α} {k:Nat} {d:α} (h:k<l.length):(l.map e)[k]? =some (e (l.getD k d)):=by simp[List.getD_eq_getElem?_getD,h]
theorem xD (s:ax) (g:Int) (h0:0<=g) (h1:g<=s.aA.length):au Tryz.prog 126 [.di (ae s),.int .i64 g] (.int .i64 (s7 s g)):=by
 refine au.body eG rfl fun hl n0=>?_
 have hn:s.aA.length<=9223372036854775807:=by
  have h1:=(hl (.di (ae s)) (by simp)).Bw (a:=.sl (s.aA.map bU)) (by simp[ae])
  simpa using h1.len
 clear hl
 by_cases hg:g=0
 ·have e:decide (g=0)=true:=decide_eq_true hg
  (try((repeat(revert hN;revert N;apply Pn.out));refine wk (tw @ae.eq_1 @e) ?_;(repeat(refine Pn.mk ?_;intro N hN))))
  exact cm (b:=0) (.inl rfl) (sd @Nat.zero_add) (by rw[s7,if_pos hg])
 ·have e:decide (g=0)=false:=decide_eq_false hg
  have hw:IntKind.i64.wrap (g-1)=g-1:=bQ (by omega)
  have qt:0<=g-1:=by omega
  have fu:(s.aA.map bU)[(g-1).toNat]? =some (bU (qn s (g-1))):=getD_map bU (by omega)
  (try((repeat(revert hN;revert N;apply Pn.out));refine wk (tw @ae.eq_1 (tw @e (tw @hw (tw @qt (tw @fu @bU.eq_1))))) ?_;(repeat(refine Pn.mk ?_;intro N hN))))
  exact cm (b:=(qn s (g-1)).eB) (.inl rfl) (sd @Nat.zero_add) (by rw[s7,if_neg hg])
theorem oX {s:ax} {a:Int} (h:ea s a=true):0<=a/\(s.aq.map bR)[a.toNat]? =some (bR (dw s a))/\dw s a∈s.aq:=by
 have h':=ej h
 have eo:a.toNat<s.aq.length:=by omega
 refine⟨h'.1,getD_map bR eo,?_⟩
 unfold dw
 rw[List.getD_eq_getElem?_getD,List.getElem?_eq_getElem eo]
 exact List.getElem_mem eo
theorem oU {t:eR} {d:Int} (h:t.bI.length=4) (hd:iC d 0 3=true):(t.bI.map bu)[d.toNat]? =some [.int .i64 (dv t d)]:=by
 have:=ej hd
 exact getD_map bu (by omega)
theorem B4 {t:eR} {d:Int} (h:t.bI.length=4) (hd:iC d 0 3=true):dv t d∈t.bI:=by
 have:=ej hd
 have eo:d.toNat<t.bI.length:=by omega
 unfold dv
 rw[List.getD_eq_getElem?_getD,List.getElem?_eq_getElem eo]
 exact List.getElem_mem eo
theorem zM {d:Int} (hd:iC d 0 3=true):iC (sU d) 0 3=true:=by
 have:=ej hd
 refine kG ?_
 rw[sU,if_pos hd];omega
theorem yq (s:ax) (hF:ko s) (a d b:Int) (ha:ea s a=true) (hb:ea s b=true) (hd:iC d 0 3=true):au Tryz.prog 147 [.di (ae s),.int .i64 a,.int .i64 d,.int .i64 b] (.int .i64 (gN s a d b)):=by
 refine au.body eG rfl fun hl n0=>?_
 clear hl
 obtain⟨a0,a1,a2⟩:=oX ha
 obtain⟨b0,b1,b2⟩:=oX hb
 have s1:=oU (hF.wJ _ a2) hd
 have s2:=oU (hF.wJ _ b2) (zM hd)
 have gl:=hF.vz _ a2 _ (B4 (hF.wJ _ a2) hd)
 have d0:=(ej hd).1
 have d1:=(ej (zM hd)).1
 have h:=CD d hd
 have hs:=xD s (dv (dw s a) d) gl.1 gl.2
 rw[ae]at hs
 by_cases e:dv (dw s a) d=dv (dw s b) (sU d)
 ·have e':decide (dv (dw s a) d=dv (dw s b) (sU d))=true:=decide_eq_true e
  (repeat(first|((repeat(revert hN;revert N;apply Pn.out));refine wk (tw @ae.eq_1 (tw @bR.eq_1 (tw @a0 (tw @a1 (tw @b0 (tw @b1 (tw @s1 (tw @s2 (tw @d0 (tw @d1 @e')))))))))) ?_;(repeat(refine Pn.mk ?_;intro N hN)))|((try apply Or.inl);refine⟨_,au.x (h) (sd (tw @ae.eq_1 (tw @bR.eq_1 (tw @a0 (tw @a1 (tw @b0 (tw @b1 (tw @s1 (tw @s2 (tw @d0 (tw @d1 @e'))))))))))),?_⟩;refine hN _ _ ?_;clear hN N)|((try apply Or.inl);refine⟨_,au.x (hs) (sd (tw @ae.eq_1 (tw @bR.eq_1 (tw @a0 (tw @a1 (tw @b0 (tw @b1 (tw @s1 (tw @s2 (tw @d0 (tw @d1 @e'))))))))))),?_⟩;refine hN _ _ ?_;clear hN N)))
  exact cm (b:=s7 s (dv (dw s a) d)) (.inl rfl) (sd @Nat.zero_add) (by rw[gN,if_pos e])
 ·have e':decide (dv (dw s a) d=dv (dw s b) (sU d))=false:=decide_eq_false e
  (repeat(first|((repeat(revert hN;revert N;apply Pn.out));refine wk (tw @ae.eq_1 (tw @bR.eq_1 (tw @a0 (tw @a1 (tw @b0 (tw @b1 (tw @s1 (tw @s2 (tw @d0 (tw @d1 @e')))))))))) ?_;(repeat(refine Pn.mk ?_;intro N hN)))|((try apply Or.inl);refine⟨_,au.x (h) (sd (tw @ae.eq_1 (tw @bR.eq_1 (tw @a0 (tw @a1 (tw @b0 (tw @b1 (tw @s1 (tw @s2 (tw @d0 (tw @d1 @e'))))))))))),?_⟩;refine hN _ _ ?_;clear hN N)))
  exact cm (b:=0) (.inl rfl) (sd @Nat.zero_add) (by rw[gN,if_neg e])
theorem DY (s:ax) (hF:ko s) (a d:Int) (ha:ea s a=true) (hd:iC d 0 3=true):au Tryz.prog 185 [.agg (ae s),.int .i64 a,.int .i64 d] (.int .i64 (s7 s (dv (dw s a) d))):=by
 refine au.body eG rfl fun hl n0=>?_
 have hn:s.aA.length<=9223372036854775807:=by
  have h1:=(hl (.agg (ae s)) (by simp)).MG (a:=.sl (s.aA.map bU)) (by simp[ae])
  simpa using h1.len
 clear hl
 obtain⟨a0,a1,a2⟩:=oX ha
 have s1:=oU (hF.wJ _ a2) hd
 have gl:=hF.vz _ a2 _ (B4 (hF.wJ _ a2) hd)
 have d0:=(ej hd).1
 by_cases hg:dv (dw s a) d=0
 ·have e:¬(0<dv (dw s a) d):=by omega
  (try((repeat(revert hN;revert N;apply Pn.out));refine wk (tw @ae.eq_1 (tw @bR.eq_1 (tw @a0 (tw @a1 (tw @s1 (tw @d0 @e)))))) ?_;(repeat(refine Pn.mk ?_;intro N hN))))
  exact cm (b:=0) (.inl rfl) (sd @Nat.zero_add) (by rw[s7,if_pos hg])
 ·have e:0<dv (dw s a) d:=by omega
  have hw:IntKind.i64.wrap (dv (dw s a) d-1)=dv (dw s a) d-1:=bQ (by omega)
  have qt:0<=dv (dw s a) d-1:=by omega
  have fu:(s.aA.map bU)[(dv (dw s a) d-1).toNat]? =some (bU (qn s (dv (dw s a) d-1))):=getD_map bU (by omega)
  (try((repeat(revert hN;revert N;apply Pn.out));refine wk (tw @ae.eq_1 (tw @bR.eq_1 (tw @a0 (tw @a1 (tw @s1 (tw @d0 (tw @e (tw @hw (tw @qt (tw @fu @bU.eq_1)))))))))) ?_;(repeat(refine Pn.mk ?_;intro N hN))))
  exact cm (b:=(qn s (dv (dw s a) d-1)).eB) (.inl rfl) (sd @Nat.zero_add) (by rw[s7,if_neg hg])
theorem Hy (s:ax) (hF:ko s) (a d b:Int) (ha:ea s a=true) (hb:ea s b=true) (hd:iC d 0 3=true):au Tryz.prog 150 [.agg (ae s),.int .i64 a,.int .i64 d,.int .i64 b] (.int .i64 (gN s a d b)):=by
 refine au.body eG rfl fun hl n0=>?_
 clear hl
 obtain⟨a0,a1,a2⟩:=oX ha
 obtain⟨b0,b1,b2⟩:=oX hb
 have s1:=oU (hF.wJ _ a2) hd
 have s2:=oU (hF.wJ _ b2) (zM hd)
 have d0:=(ej hd).1
 have d1:=(ej (zM hd)).1
 have h:=DE d hd
 have hs:=DY s hF a d ha hd
 rw[ae]at hs
 by_cases e:dv (dw s a) d=dv (dw s b) (sU d)
 ·have e':decide (dv (dw s a) d=dv (dw s b) (sU d))=true:=decide_eq_true e
  (repeat(first|((repeat(revert hN;revert N;apply Pn.out));refine wk (tw @ae.eq_1 (tw @bR.eq_1 (tw @a0 (tw @a1 (tw @b0 (tw @b1 (tw @s1 (tw @s2 (tw @d0 (tw @d1 @e')))))))))) ?_;(repeat(refine Pn.mk ?_;intro N hN)))|((try apply Or.inl);refine⟨_,au.x (h) (sd (tw @ae.eq_1 (tw @bR.eq_1 (tw @a0 (tw @a1 (tw @b0 (tw @b1 (tw @s1 (tw @s2 (tw @d0 (tw @d1 @e'))))))))))),?_⟩;refine hN _ _ ?_;clear hN N)|((try apply Or.inl);refine⟨_,au.x (hs) (sd (tw @ae.eq_1 (tw @bR.eq_1 (tw @a0 (tw @a1 (tw @b0 (tw @b1 (tw @s1 (tw @s2 (tw @d0 (tw @d1 @e'))))))))))),?_⟩;refine hN _ _ ?_;clear hN N)))
  exact cm (b:=s7 s (dv (dw s a) d)) (.inl rfl) (sd @Nat.zero_add) (by rw[gN,if_pos e])
 ·have e':decide (dv (dw s a) d=dv (dw s b) (sU d))=false:=decide_eq_false e
  (repeat(first|((repeat(revert hN;revert N;apply Pn.out));refine wk (tw @ae.eq_1 (tw @bR.eq_1 (tw @a0 (tw @a1 (tw @b0 (tw @b1 (tw @s1 (tw @s2 (tw @d0 (tw @d1 @e')))))))))) ?_;(repeat(refine Pn.mk ?_;intro N hN)))|((try apply Or.inl);refine⟨_,au.x (h) (sd (tw @ae.eq_1 (tw @bR.eq_1 (tw @a0 (tw @a1 (tw @b0 (tw @b1 (tw @s1 (tw @s2 (tw @d0 (tw @d1 @e'))))))))))),?_⟩;refine hN _ _ ?_;clear hN N)))
  exact cm (b:=0) (.inl rfl) (sd @Nat.zero_add) (by rw[gN,if_neg e])
end Go.Proofs.YtgoelphibofcmaaGreat.V

namespace Go.Proofs.YtgoelphibofcmaaGreat.V
open Go.RowKit
attribute [local irreducible] eh wpOps fI Call
attribute [local go_sem] aM fj eJ fF fE da upd cu K.av cI AV.cells AV.cell rowOf rowsOf part ld rowAt bK bV dq dM gy bD cY dY fA eS dk dR cW cV dD dE bG bc cL bF cP cN dO dS dQ cK bL cX dN bE aO cR cz gx bm cH bH aY dp bl dr AV.undef bt bz dF dL dy dC cF dX eb cw dV dU cQ cU List.getD_cons_zero List.getD_cons_succ List.getD_nil List.all_cons List.all_nil Bool.and_true Bool.true_and Bool.and_self Bool.not_true Bool.not_false Option.map_some Option.map_none Option.bind_some Option.bind_none List.length_cons List.length_nil List.take_succ_cons List.take_zero List.take_nil List.drop_succ_cons List.drop_zero List.drop_nil List.head?_cons List.map_cons List.map_nil List.getElem?_cons_zero List.getElem?_cons_succ List.cons_append List.nil_append List.append_nil List.length_map List.set_cons_zero List.set_cons_succ Nat.reduceMul eq_self Int.toNat_natCast Int.natCast_nonneg and_self true_and and_true decide_true decide_false Bool.false_eq_true Nat.zero_add Nat.add_zero List.contains_cons List.contains_nil Bool.or_false Bool.false_or beq_self_eq_true Nat.reduceBEq ne_eq not_true_eq_false not_false_eq_true Id.mk.injEq false_and and_false Nat.reduceLT Int.reduceLE Int.reduceLT Int.reduceToNat Int.reduceNeg Int.reduceAdd Nat.le_refl List.length_append beq_true beq_false Bool.not_eq_eq_eq_not or_false false_or dK aj ar aH bd br bW aT aZ aU bf cJ bw
def pI (s:ax) (i:Nat):fy:=s.aA.getD i ⟨⟨#[]⟩,0⟩
def oW (s:ax) (i:Nat):eR:=s.aq.getD i zL
def Cz (s:ax) (i:Nat):Prop:=jH (pI s i).aL=true/\iC (pI s i).eB 1 4=true/\∀j,j<i->(pI s j).aL≠(pI s i).aL
def Az (s:ax) (i:Nat):Prop:=jH (oW s i).aL=true/\(oW s i).bI.length=4/\(∀j,j<i->(oW s j).aL≠(oW s i).aL)/\∀g∈(oW s i).bI,iC g 0 s.aA.length=true
structure gY (s:ax):Prop where
 vz:s.aA.length<=200
 some:1<=s.aq.length
 Jz:s.aq.length<=160
 Ra:∀i,i<s.aA.length->Cz s i
 tok:∀i,i<s.aq.length->Az s i
noncomputable def qI (s:ax):Bool:=@decide (gY s) (Classical.propDecidable _)
theorem mc {s:ax}:qI s=true↔gY s:=by simp[qI]
theorem fD {s:ax} (h:¬gY s):false=qI s:=by simp[qI,h]
theorem B3 {s:ax} (h:gY s):true=qI s:=by simp[qI,h]
theorem z6 {s:ax} {i:Nat} (h:i<s.aq.length):(s.aq.map bR)[i]? =some (bR (oW s i)):=getD_map bR h
theorem zi {s:ax} {i:Nat} (h:i<s.aA.length):(s.aA.map bU)[i]? =some (bU (pI s i)):=getD_map bU h
theorem gY.form {s:ax} (h:gY s):ko s:=by
 have key:∀t∈s.aq,∃i,i<s.aq.length/\t=oW s i:=fun t ht=>by
  obtain⟨i,hi,rfl⟩:=List.getElem_of_mem ht
  exact⟨i,hi,by simp[oW,List.getD_eq_getElem?_getD,hi]⟩
 refine⟨fun t ht=>?_,fun t ht g hg=>?_⟩
 ·obtain⟨i,hi,rfl⟩:=key t ht
  exact(h.tok i hi).2.1
 ·obtain⟨i,hi,rfl⟩:=key t ht
  exact ej ((h.tok i hi).2.2.2 g hg)
def dB (l:List ByteArray):List (List AV):=l.map fun n=>[.str n,.bool true]
abbrev mS:MK:=⟨false,[.tS]⟩
theorem yO (n:ByteArray):∀(l:List ByteArray) (i:Nat),∃r,fZ mS [.str n] (dB l) i=some r/\((r=none/\n∉l)∨∃j,r=some (i+j)/\n∈l/\(dB l)[j]? =some [.str n,.bool true])
 |[],i=>⟨none,rfl,.inl ⟨rfl,by simp⟩⟩
 |m::l,i=>by
  obtain⟨r,h1,h2⟩:=yO n l (i+1)
  by_cases h:n=m
  ·subst h
   exact⟨some i,by simp[dB,fZ,eS,fA,MK.ks],.inr ⟨0,rfl,by simp,rfl⟩⟩
  ·refine⟨r,?_,?_⟩
   ·unfold dB at h1 ⊢
    simp only[List.map_cons,fZ,MK.ks,List.length_cons,List.length_nil,Nat.zero_add,List.take_succ_cons,List.take_zero,eS,fA,h,decide_false,Bool.and_true]
    exact h1
   ·rcases h2 with⟨rfl,h2⟩|⟨j,rfl,h2,h3⟩
    ·exact .inl ⟨rfl,by simp[h,h2]⟩
    ·exact .inr ⟨j+1,by congr 1;omega,by simp[h2],by simpa[dB]using h3⟩
theorem wH (n:ByteArray) (l:List ByteArray):(n∉l/\fP mS (.str n) (dB l)=some none)∨∃j,n∈l/\fP mS (.str n) (dB l)=some (some j)/\(dB l)[j]? =some [.str n,.bool true]:=by
 obtain⟨r,h1,h2⟩:=yO n l 0
 have e:fP mS (.str n) (dB l)=some r:=by
  unfold fP
  rw[if_pos ⟨rfl,rfl,rfl⟩];exact h1
 rcases h2 with⟨rfl,h2⟩|⟨j,rfl,h2,h3⟩
 ·exact .inl ⟨h2,e⟩
 ·exact .inr ⟨j,h2,by rw[e,Nat.zero_add],h3⟩
theorem Oa (s:ax) (g:Int):au Tryz.prog 200 [.int .i64 g,.di (ae s)] (.bool (!iC g 0 s.aA.length)):=by
 refine au.body eG rfl fun hl n0=>?_
 clear hl
 have h:=j5 g 0 s.aA.length
 (repeat(first|((repeat(revert hN;revert N;apply Pn.out));refine wk @ae.eq_1 ?_;(repeat(refine Pn.mk ?_;intro N hN)))|((try apply Or.inl);refine⟨_,au.x (h) (sd @ae.eq_1),?_⟩;refine hN _ _ ?_;clear hN N)))
 exact aX (b:= !iC g 0 s.aA.length) (.inl rfl) (sd @Nat.zero_add) rfl
theorem Ks:Pe bu (fun c=>.int .i64 c) 1 false:=⟨fun _=>rfl,fun _=>rfl,fun x g=>by rw[aj,aH,ar];rfl⟩
theorem LC (s:ax) (l:List Int) (hl:l.length<=1048576):au Tryz.prog 199 [.sl (l.map bu),.fn 200 [.di (ae s)]] (.bool (l.any fun g=> !iC g 0 s.aA.length)):=
 ku Ks (show lZ Tryz.prog 199=some (zo 199 224) by kernel_rfl)
  (show lZ Tryz.prog 224=some (sL 224 1 false) by kernel_rfl) l hl _ _ _ rfl (fun g=>by rw[aj,aU,ar];rfl) (fun x _=>Oa s x) fun g=>by rw[aj,aU,ar];rfl
theorem wb {α:Type} (f:Nat->α) (n k:Nat) (x:α):x∉(List.range k).map f↔∀j,j<k->f j≠x:=by
 constructor
 ·intro h j hj he
  exact h (List.mem_map.2 ⟨j,List.mem_range.2 hj,he⟩)
 ·intro h hm
  obtain⟨j,hj,he⟩:=List.mem_map.1 hm
  exact h j (List.mem_range.1 hj) he
theorem CF (s:ax) (hn:fm s) (hg:s.aA.length<=1048576) (ht:s.aq.length<=1048576) (hs:∀t∈s.aq,t.bI.length<=1048576):au Tryz.prog 164 [.agg (ae s)] (.bool (qI s)):=by
 refine au.body eG rfl fun hl n0=>?_
 clear hl
 have P5:∀i,i<s.aA.length->(pI s i).aL.size<=9223372036854775807:=fun i hi=>hn.1 _ (by simp[pI,List.getD_eq_getElem?_getD,hi])
 have NP:∀i,i<s.aq.length->(oW s i).aL.size<=9223372036854775807:=fun i hi=>hn.2 _ (by simp[oW,List.getD_eq_getElem?_getD,hi])
 have xz:∀i,i<s.aq.length->(oW s i).bI.length<=1048576:=fun i hi=>hs _ (by simp[oW,List.getD_eq_getElem?_getD,hi])
 have hw:=j5 (s.aq.length:Int) 1 160
 by_cases h1:(200:Int)<(s.aA.length:Int)
 ·(try((repeat(revert hN;revert N;apply Pn.out));refine wk (tw @ae.eq_1 @h1) ?_;(repeat(refine Pn.mk ?_;intro N hN))))
  exact aX (b:=false) (.inl rfl) (sd @Nat.zero_add) (fD fun h=>by have:=h.vz;omega)
 by_cases h2:iC (s.aq.length:Int) 1 160=true
 ·have Cn:=ej h2
  rw[h2]at hw
  (repeat(first|((repeat(revert hN;revert N;apply Pn.out));refine wk (tw @ae.eq_1 @h1) ?_;(repeat(refine Pn.mk ?_;intro N hN)))|((try apply Or.inl);refine⟨_,au.x (hw) (sd (tw @ae.eq_1 @h1)),?_⟩;refine hN _ _ ?_;clear hN N)))
  refine bh (fun n env st=>∃k:Nat,n=(s.aA.length)-k/\k<=(s.aA.length)/\env 24=.int .i64 (k:Int)/\st.get ⟨164000000,n0⟩=some ⟨true,2,[ae s]⟩/\st.get ⟨164003000,n0+1+1⟩=some ⟨true,mS.sg,dB ((List.range k).map fun i=>(pI s i).aL)⟩/\(∀j:Nat,j<k->Cz s j)) (s.aA.length) ⟨0,by omega,by omega,by(try simp only[go_sem, ↓reduceIte,Nat.reduceEqDiff,Nat.reduceAdd,Nat.reduceSub,Nat.reduceLeDiff,reduceCtorEq,ae,List.range_zero,List.map_nil,dB]);try rfl,by(try simp only[go_sem, ↓reduceIte,Nat.reduceEqDiff,Nat.reduceAdd,Nat.reduceSub,Nat.reduceLeDiff,reduceCtorEq,ae,List.range_zero,List.map_nil,dB]);try rfl,by(try simp only[go_sem, ↓reduceIte,Nat.reduceEqDiff,Nat.reduceAdd,Nat.reduceSub,Nat.reduceLeDiff,reduceCtorEq,ae,List.range_zero,List.map_nil,dB]);try rfl,fun _ h=>absurd h (Nat.not_lt_zero _)⟩ ?_
  rintro n_a env_a st_a ⟨k,rfl,ale,a24,ag0,ag1,lN⟩ dW
  have a1:=dW 1 (by kernel_rfl);have a3:=dW 3 (by kernel_rfl);have a22:=dW 22 (by kernel_rfl);have a23:=dW 23 (by kernel_rfl)
  simp only[go_sem, ↓reduceIte,Nat.reduceEqDiff,Nat.reduceAdd,Nat.reduceSub,Nat.reduceLeDiff,reduceCtorEq,ae,List.range_zero,List.map_nil,dB]at a1 a3 a22 a23
  clear dW
  by_cases hk:(k:Int)<(s.aA.length:Int)
  ·have cG:∀{e:Env} {gg:Rows},(e 24=.int .i64 (IntKind.i64.wrap ((k:Int)+1)))->(gg ⟨164000000,n0⟩=some ⟨true,2,[ae s]⟩)->(gg ⟨164003000,n0+1+1⟩=some ⟨true,mS.sg,dB ((List.range (k+1)).map fun i=>(pI s i).aL)⟩)->(Cz s k)->∃m0,m0<(s.aA.length)-k/\∃k:Nat,m0=(s.aA.length)-k/\k<=(s.aA.length)/\e 24=.int .i64 (k:Int)/\gg ⟨164000000,n0⟩=some ⟨true,2,[ae s]⟩/\gg ⟨164003000,n0+1+1⟩=some ⟨true,mS.sg,dB ((List.range k).map fun i=>(pI s i).aL)⟩/\(∀j:Nat,j<k->Cz s j):=fun x1 x2 x3 x4=>⟨_,by omega,k+1,rfl,by omega,(by rw[x1,aC (by omega)]),x2,x3,(all_succ lN x4)⟩
   have fw:k<s.aA.length:=by omega
   have eQ:=zi fw
   have sa:=EU (pI s k).aL (P5 k fw)
   have J5:=j5 (pI s k).eB 1 4
   have Bk:=wH (pI s k).aL ((List.range k).map fun i=>(pI s i).aL)
   rw[wb _ k]at Bk
   have lF:(¬Cz s k)->¬gY s:=fun h hp=>h (hp.Ra k fw)
   generalize tu:pI s k=gl at *
   cases hb:jH gl.aL
   ·rw[hb]at sa
    (repeat(first|((repeat(revert hN;revert N;apply Pn.out));refine wk (tw @a24 (tw @ag0 (tw @ag1 (tw @a1 (tw @a3 (tw @a22 (tw @a23 (tw @hk (tw @eQ (tw @bU.eq_1 @ae.eq_1)))))))))) ?_;(repeat(refine Pn.mk ?_;intro N hN)))|((try apply Or.inl);refine⟨_,au.x (sa) (sd (tw @a24 (tw @ag0 (tw @ag1 (tw @a1 (tw @a3 (tw @a22 (tw @a23 (tw @hk (tw @eQ (tw @bU.eq_1 @ae.eq_1))))))))))),?_⟩;refine hN _ _ ?_;clear hN N)))
    exact aX (b:=false) (.inl rfl) (sd @Nat.zero_add) (fD (lF fun h=>by rw[Cz,tu,hb]at h;cases h.1))
   ·rw[hb]at sa
    rcases Bk with⟨vG,mo⟩|⟨j,fB,mo,fY⟩
    ·cases eC:iC gl.eB 1 4
     ·rw[eC]at J5
      (repeat(first|((repeat(revert hN;revert N;apply Pn.out));refine wk (tw @a24 (tw @ag0 (tw @ag1 (tw @a1 (tw @a3 (tw @a22 (tw @a23 (tw @hk (tw @eQ (tw @mo (tw @bU.eq_1 @ae.eq_1))))))))))) ?_;(repeat(refine Pn.mk ?_;intro N hN)))|((try apply Or.inl);refine⟨_,au.x (sa) (sd (tw @a24 (tw @ag0 (tw @ag1 (tw @a1 (tw @a3 (tw @a22 (tw @a23 (tw @hk (tw @eQ (tw @mo (tw @bU.eq_1 @ae.eq_1)))))))))))),?_⟩;refine hN _ _ ?_;clear hN N)|((try apply Or.inl);refine⟨_,au.x (J5) (sd (tw @a24 (tw @ag0 (tw @ag1 (tw @a1 (tw @a3 (tw @a22 (tw @a23 (tw @hk (tw @eQ (tw @mo (tw @bU.eq_1 @ae.eq_1)))))))))))),?_⟩;refine hN _ _ ?_;clear hN N)))
      exact aX (b:=false) (.inl rfl) (sd @Nat.zero_add) (fD (lF fun h=>by rw[Cz,tu,eC]at h;cases h.2.1))
     ·rw[eC]at J5
      have pd:dB ((List.range k).map fun i=>(pI s i).aL)++[[.str gl.aL,.bool true]]=dB (List.map (fun i=>(pI s i).aL) (List.range k++[k])):=by simp[dB,tu]
      (repeat(first|((repeat(revert hN;revert N;apply Pn.out));refine wk (tw @a24 (tw @ag0 (tw @ag1 (tw @a1 (tw @a3 (tw @a22 (tw @a23 (tw @hk (tw @eQ (tw @mo (tw @bU.eq_1 @ae.eq_1))))))))))) ?_;(repeat(refine Pn.mk ?_;intro N hN)))|((try apply Or.inl);refine⟨_,au.x (sa) (sd (tw @a24 (tw @ag0 (tw @ag1 (tw @a1 (tw @a3 (tw @a22 (tw @a23 (tw @hk (tw @eQ (tw @mo (tw @bU.eq_1 @ae.eq_1)))))))))))),?_⟩;refine hN _ _ ?_;clear hN N)|((try apply Or.inl);refine⟨_,au.x (J5) (sd (tw @a24 (tw @ag0 (tw @ag1 (tw @a1 (tw @a3 (tw @a22 (tw @a23 (tw @hk (tw @eQ (tw @mo (tw @bU.eq_1 @ae.eq_1)))))))))))),?_⟩;refine hN _ _ ?_;clear hN N)))
      refine cG ?_ ?_ ?_ (⟨by rw[tu];exact hb,by rw[tu];exact eC,fun j hj=>by rw[tu];exact vG j hj⟩)
      all_goals simp only[go_sem, ↓reduceIte,Nat.reduceEqDiff,Nat.reduceAdd,Nat.reduceSub,Nat.reduceLeDiff,reduceCtorEq,a24,ag0,ag1,a1,a3,a22,a23,mo,pd]
    ·(repeat(first|((repeat(revert hN;revert N;apply Pn.out));refine wk (tw @a24 (tw @ag0 (tw @ag1 (tw @a1 (tw @a3 (tw @a22 (tw @a23 (tw @hk (tw @eQ (tw @mo (tw @fY (tw @bU.eq_1 @ae.eq_1)))))))))))) ?_;(repeat(refine Pn.mk ?_;intro N hN)))|((try apply Or.inl);refine⟨_,au.x (sa) (sd (tw @a24 (tw @ag0 (tw @ag1 (tw @a1 (tw @a3 (tw @a22 (tw @a23 (tw @hk (tw @eQ (tw @mo (tw @fY (tw @bU.eq_1 @ae.eq_1))))))))))))),?_⟩;refine hN _ _ ?_;clear hN N)))
     exact aX (b:=false) (.inl rfl) (sd @Nat.zero_add) (fD (lF fun h=>by
      rw[Cz,tu]at h
      obtain⟨i,hi,he⟩:=List.mem_map.1 fB
      exact h.2.2 i (List.mem_range.1 hi) he))
  ·have lO:k=s.aA.length:=by omega
   (try((repeat(revert hN;revert N;apply Pn.out));refine wk (tw @a24 (tw @ag0 (tw @ag1 (tw @a1 (tw @a3 (tw @a22 (tw @a23 (tw @hk @ae.eq_1)))))))) ?_;(repeat(refine Pn.mk ?_;intro N hN))))
   refine bh (fun n env st=>∃j:Nat,n=(s.aq.length)-j/\j<=(s.aq.length)/\env 52=.int .i64 (j:Int)/\st.get ⟨164000000,n0⟩=some ⟨true,2,[ae s]⟩/\st.get ⟨164011000,st_a.next+1⟩=some ⟨true,mS.sg,dB ((List.range j).map fun i=>(oW s i).aL)⟩/\(∀i:Nat,i<j->Az s i)/\(st_a.next<st.next)) (s.aq.length) ⟨0,by omega,by omega,by(try simp only[go_sem, ↓reduceIte,Nat.reduceEqDiff,Nat.reduceAdd,Nat.reduceSub,Nat.reduceLeDiff,reduceCtorEq,a24,ag0,ag1,a1,a3,a22,a23,ae,List.range_zero,List.map_nil,dB]);try rfl,by(try simp only[go_sem, ↓reduceIte,Nat.reduceEqDiff,Nat.reduceAdd,Nat.reduceSub,Nat.reduceLeDiff,reduceCtorEq,a24,ag0,ag1,a1,a3,a22,a23,ae,List.range_zero,List.map_nil,dB]);try rfl,by(try simp only[go_sem, ↓reduceIte,Nat.reduceEqDiff,Nat.reduceAdd,Nat.reduceSub,Nat.reduceLeDiff,reduceCtorEq,a24,ag0,ag1,a1,a3,a22,a23,ae,List.range_zero,List.map_nil,dB]);try rfl,fun _ h=>absurd h (Nat.not_lt_zero _),(by(try dsimp only);omega)⟩ ?_
   rintro n_b env_b st_b ⟨j,rfl,ble,b52,bg0,bg1,bA0,bI0⟩ gQ
   have b1:=gQ 1 (by kernel_rfl);have b6:=gQ 6 (by kernel_rfl);have CI:=gQ 50 (by kernel_rfl);have CJ:=gQ 51 (by kernel_rfl)
   simp only[go_sem, ↓reduceIte,Nat.reduceEqDiff,Nat.reduceAdd,Nat.reduceSub,Nat.reduceLeDiff,reduceCtorEq,a24,ag0,ag1,a1,a3,a22,a23,ae,List.range_zero,List.map_nil,dB]at b1 b6 CI CJ
   clear gQ
   by_cases hj:(j:Int)<(s.aq.length:Int)
   ·have iy:∀{e:Env} {gg:Rows} {nx:Nat},(e 52=.int .i64 (IntKind.i64.wrap ((j:Int)+1)))->(gg ⟨164000000,n0⟩=some ⟨true,2,[ae s]⟩)->(gg ⟨164011000,st_a.next+1⟩=some ⟨true,mS.sg,dB ((List.range (j+1)).map fun i=>(oW s i).aL)⟩)->(Az s j)->(st_a.next<nx)->∃m0,m0<(s.aq.length)-j/\∃j:Nat,m0=(s.aq.length)-j/\j<=(s.aq.length)/\e 52=.int .i64 (j:Int)/\gg ⟨164000000,n0⟩=some ⟨true,2,[ae s]⟩/\gg ⟨164011000,st_a.next+1⟩=some ⟨true,mS.sg,dB ((List.range j).map fun i=>(oW s i).aL)⟩/\(∀i:Nat,i<j->Az s i)/\(st_a.next<nx):=fun x1 x2 x3 x4 x5=>⟨_,by omega,j+1,rfl,by omega,(by rw[x1,aC (by omega)]),x2,x3,(all_succ bA0 x4),x5⟩
    have jv:j<s.aq.length:=by omega
    have nK:=z6 jv
    have sa:=EU (oW s j).aL (NP j jv)
    have RL:=LC s (oW s j).bI (xz j jv)
    have Bk:=wH (oW s j).aL ((List.range j).map fun i=>(oW s i).aL)
    rw[wb _ j]at Bk
    have lF:(¬Az s j)->¬gY s:=fun h hp=>h (hp.tok j jv)
    have gM:(⟨164011000,st_a.next+1⟩:Id)≠⟨164000000,n0⟩:=by simp
    generalize htd:oW s j=tl at *
    cases hb:jH tl.aL
    ·rw[hb]at sa
     (repeat(first|((repeat(revert hN;revert N;apply Pn.out));refine wk (tw @b52 (tw @bg0 (tw @bg1 (tw @b1 (tw @b6 (tw @CI (tw @CJ (tw @hj (tw @nK (tw @bR.eq_1 @ae.eq_1)))))))))) ?_;(repeat(refine Pn.mk ?_;intro N hN)))|((try apply Or.inl);refine⟨_,au.x (sa) (sd (tw @b52 (tw @bg0 (tw @bg1 (tw @b1 (tw @b6 (tw @CI (tw @CJ (tw @hj (tw @nK (tw @bR.eq_1 @ae.eq_1))))))))))),?_⟩;refine hN _ _ ?_;clear hN N)))
     exact aX (b:=false) (.inl rfl) (sd @Nat.zero_add) (fD (lF fun h=>by rw[Az,htd,hb]at h;cases h.1))
    ·rw[hb]at sa
     rcases Bk with⟨vG,mo⟩|⟨i,fB,mo,fY⟩
     ·by_cases h4:(tl.bI.length:Int)=4
      ·have zk:decide ((tl.bI.length:Int)=4)=true:=decide_eq_true h4
       cases hany:tl.bI.any fun g=> !iC g 0 s.aA.length
       ·rw[hany]at RL
        have pd:dB ((List.range j).map fun i=>(oW s i).aL)++[[.str tl.aL,.bool true]]=dB (List.map (fun i=>(oW s i).aL) (List.range j++[j])):=by simp[dB,htd]
        (repeat(first|((repeat(revert hN;revert N;apply Pn.out));refine wk (tw @b52 (tw @bg0 (tw @bg1 (tw @b1 (tw @b6 (tw @CI (tw @CJ (tw @hj (tw @nK (tw @mo (tw @zk (tw @bR.eq_1 @ae.eq_1)))))))))))) ?_;(repeat(refine Pn.mk ?_;intro N hN)))|((try apply Or.inl);refine⟨_,au.x (sa) (sd (tw @b52 (tw @bg0 (tw @bg1 (tw @b1 (tw @b6 (tw @CI (tw @CJ (tw @hj (tw @nK (tw @mo (tw @zk (tw @bR.eq_1 @ae.eq_1))))))))))))),?_⟩;refine hN _ _ ?_;clear hN N)|((try apply Or.inl);refine⟨_,au.x (RL) (sd (tw @b52 (tw @bg0 (tw @bg1 (tw @b1 (tw @b6 (tw @CI (tw @CJ (tw @hj (tw @nK (tw @mo (tw @zk (tw @bR.eq_1 @ae.eq_1))))))))))))),?_⟩;refine hN _ _ ?_;clear hN N)))
        refine iy ?_ ?_ ?_ (⟨by rw[htd];exact hb,by rw[htd];omega,fun i hi=>(by rw[htd];exact vG i hi),fun g hg=>by rw[htd]at hg;have:=List.any_eq_false.1 hany g hg;simpa using this⟩) (by(try dsimp only);omega)
        all_goals simp only[go_sem, ↓reduceIte,Nat.reduceEqDiff,Nat.reduceAdd,Nat.reduceSub,Nat.reduceLeDiff,reduceCtorEq,b52,bg0,bg1,b1,b6,CI,CJ,mo,pd]
       ·rw[hany]at RL
        (repeat(first|((repeat(revert hN;revert N;apply Pn.out));refine wk (tw @b52 (tw @bg0 (tw @bg1 (tw @b1 (tw @b6 (tw @CI (tw @CJ (tw @hj (tw @nK (tw @mo (tw @zk (tw @bR.eq_1 @ae.eq_1)))))))))))) ?_;(repeat(refine Pn.mk ?_;intro N hN)))|((try apply Or.inl);refine⟨_,au.x (sa) (sd (tw @b52 (tw @bg0 (tw @bg1 (tw @b1 (tw @b6 (tw @CI (tw @CJ (tw @hj (tw @nK (tw @mo (tw @zk (tw @bR.eq_1 @ae.eq_1))))))))))))),?_⟩;refine hN _ _ ?_;clear hN N)|((try apply Or.inl);refine⟨_,au.x (RL) (sd (tw @b52 (tw @bg0 (tw @bg1 (tw @b1 (tw @b6 (tw @CI (tw @CJ (tw @hj (tw @nK (tw @mo (tw @zk (tw @bR.eq_1 @ae.eq_1))))))))))))),?_⟩;refine hN _ _ ?_;clear hN N)))
        exact aX (b:=false) (.inl rfl) (sd @Nat.zero_add) (fD (lF fun h=>by
         rw[Az,htd]at h
         obtain⟨g,hg,hq⟩:=List.any_eq_true.1 hany
         have:=h.2.2.2 g hg
         rw[this]at hq;cases hq))
      ·have zk:decide ((tl.bI.length:Int)=4)=false:=decide_eq_false h4
       (repeat(first|((repeat(revert hN;revert N;apply Pn.out));refine wk (tw @b52 (tw @bg0 (tw @bg1 (tw @b1 (tw @b6 (tw @CI (tw @CJ (tw @hj (tw @nK (tw @mo (tw @zk (tw @bR.eq_1 @ae.eq_1)))))))))))) ?_;(repeat(refine Pn.mk ?_;intro N hN)))|((try apply Or.inl);refine⟨_,au.x (sa) (sd (tw @b52 (tw @bg0 (tw @bg1 (tw @b1 (tw @b6 (tw @CI (tw @CJ (tw @hj (tw @nK (tw @mo (tw @zk (tw @bR.eq_1 @ae.eq_1))))))))))))),?_⟩;refine hN _ _ ?_;clear hN N)))
       exact aX (b:=false) (.inl rfl) (sd @Nat.zero_add) (fD (lF fun h=>by rw[Az,htd]at h;have:=h.2.1;omega))
     ·(repeat(first|((repeat(revert hN;revert N;apply Pn.out));refine wk (tw @b52 (tw @bg0 (tw @bg1 (tw @b1 (tw @b6 (tw @CI (tw @CJ (tw @hj (tw @nK (tw @mo (tw @fY (tw @bR.eq_1 @ae.eq_1)))))))))))) ?_;(repeat(refine Pn.mk ?_;intro N hN)))|((try apply Or.inl);refine⟨_,au.x (sa) (sd (tw @b52 (tw @bg0 (tw @bg1 (tw @b1 (tw @b6 (tw @CI (tw @CJ (tw @hj (tw @nK (tw @mo (tw @fY (tw @bR.eq_1 @ae.eq_1))))))))))))),?_⟩;refine hN _ _ ?_;clear hN N)))
      exact aX (b:=false) (.inl rfl) (sd @Nat.zero_add) (fD (lF fun h=>by
       rw[Az,htd]at h
       obtain⟨i,hi,he⟩:=List.mem_map.1 fB
       exact h.2.2.1 i (List.mem_range.1 hi) he))
   ·(try((repeat(revert hN;revert N;apply Pn.out));refine wk (tw @b52 (tw @bg0 (tw @bg1 (tw @b1 (tw @b6 (tw @CI (tw @CJ (tw @hj @ae.eq_1)))))))) ?_;(repeat(refine Pn.mk ?_;intro N hN))))
    exact aX (b:=true) (.inl rfl) (sd @Nat.zero_add) (B3 ⟨by omega,by omega,by omega,fun i hi=>lN i (by omega),fun i hi=>bA0 i (by omega)⟩)
 ·rw[Bool.not_eq_true]at h2
  rw[h2]at hw
  (repeat(first|((repeat(revert hN;revert N;apply Pn.out));refine wk (tw @ae.eq_1 @h1) ?_;(repeat(refine Pn.mk ?_;intro N hN)))|((try apply Or.inl);refine⟨_,au.x (hw) (sd (tw @ae.eq_1 @h1)),?_⟩;refine hN _ _ ?_;clear hN N)))
  exact aX (b:=false) (.inl rfl) (sd @Nat.zero_add) (fD fun h=>by
   have h3:=h.some
   have h4:=h.Jz
   rw[kG ⟨by omega,by omega⟩]at h2;cases h2)
end Go.Proofs.YtgoelphibofcmaaGreat.V

namespace Go.Proofs.YtgoelphibofcmaaGreat.V
open Go.RowKit
attribute [local irreducible] eh wpOps fI Call
attribute [local go_sem] aM fj eJ fF fE da upd cu K.av cI AV.cells AV.cell rowOf rowsOf part ld rowAt bK bV dq dM gy bD cY dY fA eS dk dR cW cV dD dE bG bc cL bF cP cN dO dS dQ cK bL cX dN bE aO cR cz gx bm cH bH aY dp bl dr AV.undef bt bz dF dL dy dC cF dX eb cw dV dU cQ cU List.getD_cons_zero List.getD_cons_succ List.getD_nil List.all_cons List.all_nil Bool.and_true Bool.true_and Bool.and_self Bool.not_true Bool.not_false Option.map_some Option.map_none Option.bind_some Option.bind_none List.length_cons List.length_nil List.take_succ_cons List.take_zero List.take_nil List.drop_succ_cons List.drop_zero List.drop_nil List.head?_cons List.map_cons List.map_nil List.getElem?_cons_zero List.getElem?_cons_succ List.cons_append List.nil_append List.append_nil List.length_map List.set_cons_zero List.set_cons_succ Nat.reduceMul eq_self Int.toNat_natCast Int.natCast_nonneg and_self true_and and_true decide_true decide_false Bool.false_eq_true Nat.zero_add Nat.add_zero List.contains_cons List.contains_nil Bool.or_false Bool.false_or beq_self_eq_true Nat.reduceBEq ne_eq not_true_eq_false not_false_eq_true Id.mk.injEq false_and and_false Nat.reduceLT Int.reduceLE Int.reduceLT Int.reduceToNat Int.reduceNeg Int.reduceAdd Nat.le_refl List.length_append beq_true beq_false Bool.not_eq_eq_eq_not or_false false_or dK aj ar aH bd br bW aT aZ aU bf cJ bw
theorem um {α:Type} {p:α->Bool} {xs:List α} {k:Nat} (hk:k<xs.length) (h1:p xs[k]=true) (h2:∀j (h:j<xs.length),j<k->p xs[j]=false):kb p xs=k:=by
 have:xs.findIdx p=k:=by rw[List.findIdx_eq hk];exact⟨h1,fun j hj=>h2 j (by omega) hj⟩
 rw[kb,this,if_pos hk]
theorem xY {α:Type} {p:α->Bool} {xs:List α} (h:∀j (h:j<xs.length),p xs[j]=false):kb p xs= -1:=by
 rw[kb,if_neg]
 rw[List.findIdx_lt_length]
 rintro⟨x,hx,NH⟩
 obtain⟨j,hj,rfl⟩:=List.getElem_of_mem hx
 rw[h j hj]at NH;cases NH
theorem zh {s:ax} {i:Nat} (h:i<s.aA.length):pI s i=s.aA[i]:=by simp[pI,List.getD_eq_getElem?_getD,h]
theorem zZ {s:ax} {i:Nat} (h:i<s.aq.length):oW s i=s.aq[i]:=by simp[oW,List.getD_eq_getElem?_getD,h]
def JS (s:ax) (n:ByteArray):Int:=kb (fun g:fy=>decide (g.aL=n)) s.aA
def Mw (s:ax) (n:ByteArray):Int:=kb (fun t:eR=>decide (t.aL=n)) s.aq
theorem F5 (s:ax) (nm:ByteArray):au Tryz.prog 190 [.di (ae s),.str nm] (.int .i64 (JS s nm+1)):=by
 refine au.body eG rfl fun hl n0=>?_
 have hlen:s.aA.length<=9223372036854775807:=by
  have h1:=(hl (.di (ae s)) (by simp)).Bw (a:=.sl (s.aA.map bU)) (by simp[ae])
  simpa using h1.len
 clear hl
 (try((repeat(revert hN;revert N;apply Pn.out));refine wk @ae.eq_1 ?_;(repeat(refine Pn.mk ?_;intro N hN))))
 refine bh (fun n env st=>∃k:Nat,n=(s.aA.length)-k/\k<=(s.aA.length)/\env 5=.int .i64 (k:Int)/\(∀j:Nat,j<k->∀h:j<s.aA.length,decide (s.aA[j].aL=nm)=false)) (s.aA.length) ⟨0,by omega,by omega,sl @ae.eq_1,fun _ h=>absurd h (Nat.not_lt_zero _)⟩ ?_
 rintro n_a env_a st_a ⟨k,rfl,ale,a5,lN⟩ dW
 have a0:=dW 0 (by kernel_rfl);have a1:=dW 1 (by kernel_rfl)
 simp only[go_sem, ↓reduceIte,Nat.reduceEqDiff,Nat.reduceAdd,Nat.reduceSub,Nat.reduceLeDiff,reduceCtorEq,ae]at a0 a1
 clear dW
 by_cases hk:(k:Int)<(s.aA.length:Int)
 ·have cG:∀{e:Env},(e 5=.int .i64 (IntKind.i64.wrap ((k:Int)+1)))->(∀h:k<s.aA.length,decide (s.aA[k].aL=nm)=false)->∃m0,m0<(s.aA.length)-k/\∃k:Nat,m0=(s.aA.length)-k/\k<=(s.aA.length)/\e 5=.int .i64 (k:Int)/\(∀j:Nat,j<k->∀h:j<s.aA.length,decide (s.aA[j].aL=nm)=false):=fun x1 x2=>⟨_,by omega,k+1,rfl,by omega,(by rw[x1,aC (by omega)]),(all_succ lN x2)⟩
  have fw:k<s.aA.length:=by omega
  have eQ:=zi fw
  have e:=zh fw
  cases hd:decide ((pI s k).aL=nm)
  ·have Rq:=of_decide_eq_false hd
   (try((repeat(revert hN;revert N;apply Pn.out));refine wk (tw @a5 (tw @a0 (tw @a1 (tw @hk (tw @eQ (tw @Rq (tw @hd (tw @bU.eq_1 @ae.eq_1)))))))) ?_;(repeat(refine Pn.mk ?_;intro N hN))))
   exact cG (sd (tw @a5 (tw @a0 @a1))) (fun _=>by rw[e]at hd;exact hd)
  ·have Rq:=of_decide_eq_true hd
   have hw:IntKind.i64.wrap ((k:Int)+1)=(k:Int)+1:=bQ (by omega)
   (try((repeat(revert hN;revert N;apply Pn.out));refine wk (tw @a5 (tw @a0 (tw @a1 (tw @hk (tw @eQ (tw @hd (tw @hw (tw @bU.eq_1 @ae.eq_1)))))))) ?_;(repeat(refine Pn.mk ?_;intro N hN))))
   exact cm (b:=(k:Int)+1) (.inl rfl) (sd @Nat.zero_add) (by rw[JS,um fw (by rw[e]at hd;exact hd) fun j h hj=>lN j hj h])
 ·(try((repeat(revert hN;revert N;apply Pn.out));refine wk (tw @a5 (tw @a0 (tw @a1 (tw @hk @ae.eq_1)))) ?_;(repeat(refine Pn.mk ?_;intro N hN))))
  exact cm (b:=0) (.inl rfl) (sd @Nat.zero_add) (by rw[JS,xY fun j h=>lN j (by omega) h];rfl)
theorem F6 (s:ax) (nm:ByteArray):au Tryz.prog 191 [.di (ae s),.str nm] (.int .i64 (Mw s nm)):=by
 refine au.body eG rfl fun hl n0=>?_
 have hlen:s.aq.length<=9223372036854775807:=by
  have h1:=(hl (.di (ae s)) (by simp)).Bw (a:=.sl (s.aq.map bR)) (by simp[ae])
  simpa using h1.len
 clear hl
 (try((repeat(revert hN;revert N;apply Pn.out));refine wk @ae.eq_1 ?_;(repeat(refine Pn.mk ?_;intro N hN))))
 refine bh (fun n env st=>∃k:Nat,n=(s.aq.length)-k/\k<=(s.aq.length)/\env 5=.int .i64 (k:Int)/\(∀j:Nat,j<k->∀h:j<s.aq.length,decide (s.aq[j].aL=nm)=false)) (s.aq.length) ⟨0,by omega,by omega,sl @ae.eq_1,fun _ h=>absurd h (Nat.not_lt_zero _)⟩ ?_
 rintro n_a env_a st_a ⟨k,rfl,ale,a5,lN⟩ dW
 have a0:=dW 0 (by kernel_rfl);have a1:=dW 1 (by kernel_rfl)
 simp only[go_sem, ↓reduceIte,Nat.reduceEqDiff,Nat.reduceAdd,Nat.reduceSub,Nat.reduceLeDiff,reduceCtorEq,ae]at a0 a1
 clear dW
 by_cases hk:(k:Int)<(s.aq.length:Int)
 ·have cG:∀{e:Env},(e 5=.int .i64 (IntKind.i64.wrap ((k:Int)+1)))->(∀h:k<s.aq.length,decide (s.aq[k].aL=nm)=false)->∃m0,m0<(s.aq.length)-k/\∃k:Nat,m0=(s.aq.length)-k/\k<=(s.aq.length)/\e 5=.int .i64 (k:Int)/\(∀j:Nat,j<k->∀h:j<s.aq.length,decide (s.aq[j].aL=nm)=false):=fun x1 x2=>⟨_,by omega,k+1,rfl,by omega,(by rw[x1,aC (by omega)]),(all_succ lN x2)⟩
  have fw:k<s.aq.length:=by omega
  have eQ:=z6 fw
  have e:=zZ fw
  cases hd:decide ((oW s k).aL=nm)
  ·(try((repeat(revert hN;revert N;apply Pn.out));refine wk (tw @a5 (tw @a0 (tw @a1 (tw @hk (tw @eQ (tw @hd (tw @bR.eq_1 @ae.eq_1))))))) ?_;(repeat(refine Pn.mk ?_;intro N hN))))
   exact cG (sd (tw @a5 (tw @a0 @a1))) (fun _=>by rw[e]at hd;exact hd)
  ·(try((repeat(revert hN;revert N;apply Pn.out));refine wk (tw @a5 (tw @a0 (tw @a1 (tw @hk (tw @eQ (tw @hd (tw @bR.eq_1 @ae.eq_1))))))) ?_;(repeat(refine Pn.mk ?_;intro N hN))))
   exact cm (b:=(k:Int)) (.inl rfl) (sd @Nat.zero_add) (by rw[Mw,um fw (by rw[e]at hd;exact hd) fun j h hj=>lN j hj h])
 ·(try((repeat(revert hN;revert N;apply Pn.out));refine wk (tw @a5 (tw @a0 (tw @a1 (tw @hk @ae.eq_1)))) ?_;(repeat(refine Pn.mk ?_;intro N hN))))
  exact cm (b:=-1) (.inl rfl) (sd @Nat.zero_add) (by rw[Mw,xY fun j h=>lN j (by omega) h])
theorem M4 {s:ax} {i:Nat} (h:i<s.aA.length):JS s (pI s i).aL=i↔∀j,j<i->(pI s j).aL≠(pI s i).aL:=by
 constructor
 ·intro he j hj hc
  have gV:j<s.aA.length:=by omega
  have:s.aA.findIdx (fun g:fy=>decide (g.aL=(pI s i).aL))<=j:=by
   rcases Nat.lt_or_ge j (s.aA.findIdx fun g:fy=>decide (g.aL=(pI s i).aL))with eo|qt
   ·have:=List.not_of_lt_findIdx eo
    rw[<-zh gV]at this
    simp[hc]at this
   ·exact qt
  unfold JS kb at he
  split at he<;>omega
 ·intro hd
  exact um h (by rw[<-zh h];simp) fun j gV hj=>by rw[<-zh gV];simpa using hd j hj
theorem Od {s:ax} {i:Nat} (h:i<s.aq.length):Mw s (oW s i).aL=i↔∀j,j<i->(oW s j).aL≠(oW s i).aL:=by
 constructor
 ·intro he j hj hc
  have gV:j<s.aq.length:=by omega
  have:s.aq.findIdx (fun g:eR=>decide (g.aL=(oW s i).aL))<=j:=by
   rcases Nat.lt_or_ge j (s.aq.findIdx fun g:eR=>decide (g.aL=(oW s i).aL))with eo|qt
   ·have:=List.not_of_lt_findIdx eo
    rw[<-zZ gV]at this
    simp[hc]at this
   ·exact qt
  unfold Mw kb at he
  split at he<;>omega
 ·intro hd
  exact um h (by rw[<-zZ h];simp) fun j gV hj=>by rw[<-zZ gV];simpa using hd j hj
theorem K5 (s:ax) (hn:fm s) (hg:s.aA.length<=1048576) (ht:s.aq.length<=1048576):au Tryz.prog 156 [.di (ae s)] (.bool (qI s)):=by
 refine au.body eG rfl fun hl n0=>?_
 clear hl
 have P5:∀i,i<s.aA.length->(pI s i).aL.size<=9223372036854775807:=fun i hi=>hn.1 _ (by simp[pI,List.getD_eq_getElem?_getD,hi])
 have NP:∀i,i<s.aq.length->(oW s i).aL.size<=9223372036854775807:=fun i hi=>hn.2 _ (by simp[oW,List.getD_eq_getElem?_getD,hi])
 by_cases h1:(200:Int)<(s.aA.length:Int)
 ·(try((repeat(revert hN;revert N;apply Pn.out));refine wk (tw @ae.eq_1 @h1) ?_;(repeat(refine Pn.mk ?_;intro N hN))))
  exact aX (b:=false) (.inl rfl) (sd @Nat.zero_add) (fD fun h=>by have:=h.vz;omega)
 by_cases h2:(s.aq.length:Int)<1
 ·(try((repeat(revert hN;revert N;apply Pn.out));refine wk (tw @ae.eq_1 (tw @h1 @h2)) ?_;(repeat(refine Pn.mk ?_;intro N hN))))
  exact aX (b:=false) (.inl rfl) (sd @Nat.zero_add) (fD fun h=>by have:=h.some;omega)
 by_cases h3:(160:Int)<(s.aq.length:Int)
 ·(try((repeat(revert hN;revert N;apply Pn.out));refine wk (tw @ae.eq_1 (tw @h1 (tw @h2 @h3))) ?_;(repeat(refine Pn.mk ?_;intro N hN))))
  exact aX (b:=false) (.inl rfl) (sd @Nat.zero_add) (fD fun h=>by have:=h.Jz;omega)
 (try((repeat(revert hN;revert N;apply Pn.out));refine wk (tw @ae.eq_1 (tw @h1 (tw @h2 @h3))) ?_;(repeat(refine Pn.mk ?_;intro N hN))))
 refine bh (fun n env st=>∃k:Nat,n=(s.aA.length)-k/\k<=(s.aA.length)/\env 3=.int .i64 (k:Int)/\(∀j:Nat,j<k->Cz s j)) (s.aA.length) ⟨0,by omega,by omega,sl @ae.eq_1,fun _ h=>absurd h (Nat.not_lt_zero _)⟩ ?_
 rintro n_a env_a st_a ⟨k,rfl,ale,a3,lN⟩ dW
 have a0:=dW 0 (by kernel_rfl)
 simp only[go_sem, ↓reduceIte,Nat.reduceEqDiff,Nat.reduceAdd,Nat.reduceSub,Nat.reduceLeDiff,reduceCtorEq,ae]at a0
 clear dW
 by_cases hk:(k:Int)<(s.aA.length:Int)
 ·have cG:∀{e:Env},(e 3=.int .i64 (IntKind.i64.wrap ((k:Int)+1)))->(Cz s k)->∃m0,m0<(s.aA.length)-k/\∃k:Nat,m0=(s.aA.length)-k/\k<=(s.aA.length)/\e 3=.int .i64 (k:Int)/\(∀j:Nat,j<k->Cz s j):=fun x1 x2=>⟨_,by omega,k+1,rfl,by omega,(by rw[x1,aC (by omega)]),(all_succ lN x2)⟩
  have fw:k<s.aA.length:=by omega
  have eQ:=zi fw
  have sa:=E7 (pI s k).aL (P5 k fw)
  have J5:=ki (pI s k).eB 1 4
  have FR:=F5 s (pI s k).aL
  have rn:=M4 fw
  have lF:(¬Cz s k)->¬gY s:=fun h hp=>h (hp.Ra k fw)
  have hw:IntKind.i64.wrap ((k:Int)+1)=(k:Int)+1:=bQ (by omega)
  generalize tu:pI s k=gl at *
  cases hb:jH gl.aL
  ·rw[hb]at sa
   (repeat(first|((repeat(revert hN;revert N;apply Pn.out));refine wk (tw @a3 (tw @a0 (tw @hk (tw @eQ (tw @bU.eq_1 @ae.eq_1))))) ?_;(repeat(refine Pn.mk ?_;intro N hN)))|((try apply Or.inl);refine⟨_,au.x (sa) (sd (tw @a3 (tw @a0 (tw @hk (tw @eQ (tw @bU.eq_1 @ae.eq_1)))))),?_⟩;refine hN _ _ ?_;clear hN N)))
   exact aX (b:=false) (.inl rfl) (sd @Nat.zero_add) (fD (lF fun h=>by rw[Cz,tu,hb]at h;cases h.1))
  rw[hb]at sa
  cases eC:iC gl.eB 1 4
  ·rw[eC]at J5
   (repeat(first|((repeat(revert hN;revert N;apply Pn.out));refine wk (tw @a3 (tw @a0 (tw @hk (tw @eQ (tw @bU.eq_1 @ae.eq_1))))) ?_;(repeat(refine Pn.mk ?_;intro N hN)))|((try apply Or.inl);refine⟨_,au.x (sa) (sd (tw @a3 (tw @a0 (tw @hk (tw @eQ (tw @bU.eq_1 @ae.eq_1)))))),?_⟩;refine hN _ _ ?_;clear hN N)|((try apply Or.inl);refine⟨_,au.x (J5) (sd (tw @a3 (tw @a0 (tw @hk (tw @eQ (tw @bU.eq_1 @ae.eq_1)))))),?_⟩;refine hN _ _ ?_;clear hN N)))
   exact aX (b:=false) (.inl rfl) (sd @Nat.zero_add) (fD (lF fun h=>by rw[Cz,tu,eC]at h;cases h.2.1))
  rw[eC]at J5
  rw[ae]at FR
  by_cases hq:JS s gl.aL=(k:Int)
  ·have hd:decide (JS s gl.aL+1=(k:Int)+1)=true:=decide_eq_true (by omega)
   have l7:decide (JS s gl.aL=(k:Int))=true:=decide_eq_true hq
   (repeat(first|((repeat(revert hN;revert N;apply Pn.out));refine wk (tw @a3 (tw @a0 (tw @hk (tw @eQ (tw @hw (tw @hd (tw @l7 (tw @bU.eq_1 @ae.eq_1)))))))) ?_;(repeat(refine Pn.mk ?_;intro N hN)))|((try apply Or.inl);refine⟨_,au.x (sa) (sd (tw @a3 (tw @a0 (tw @hk (tw @eQ (tw @hw (tw @hd (tw @l7 (tw @bU.eq_1 @ae.eq_1))))))))),?_⟩;refine hN _ _ ?_;clear hN N)|((try apply Or.inl);refine⟨_,au.x (J5) (sd (tw @a3 (tw @a0 (tw @hk (tw @eQ (tw @hw (tw @hd (tw @l7 (tw @bU.eq_1 @ae.eq_1))))))))),?_⟩;refine hN _ _ ?_;clear hN N)|((try apply Or.inl);refine⟨_,au.x (FR) (sd (tw @a3 (tw @a0 (tw @hk (tw @eQ (tw @hw (tw @hd (tw @l7 (tw @bU.eq_1 @ae.eq_1))))))))),?_⟩;refine hN _ _ ?_;clear hN N)))
   exact cG (sd (tw @a3 (tw @a0 @hw))) (⟨by rw[tu];exact hb,by rw[tu];exact eC,fun j hj=>by rw[tu];exact rn.1 hq j hj⟩)
  ·have hd:decide (JS s gl.aL+1=(k:Int)+1)=false:=decide_eq_false (by omega)
   have l7:decide (JS s gl.aL=(k:Int))=false:=decide_eq_false hq
   (repeat(first|((repeat(revert hN;revert N;apply Pn.out));refine wk (tw @a3 (tw @a0 (tw @hk (tw @eQ (tw @hw (tw @hd (tw @l7 (tw @bU.eq_1 @ae.eq_1)))))))) ?_;(repeat(refine Pn.mk ?_;intro N hN)))|((try apply Or.inl);refine⟨_,au.x (sa) (sd (tw @a3 (tw @a0 (tw @hk (tw @eQ (tw @hw (tw @hd (tw @l7 (tw @bU.eq_1 @ae.eq_1))))))))),?_⟩;refine hN _ _ ?_;clear hN N)|((try apply Or.inl);refine⟨_,au.x (J5) (sd (tw @a3 (tw @a0 (tw @hk (tw @eQ (tw @hw (tw @hd (tw @l7 (tw @bU.eq_1 @ae.eq_1))))))))),?_⟩;refine hN _ _ ?_;clear hN N)|((try apply Or.inl);refine⟨_,au.x (FR) (sd (tw @a3 (tw @a0 (tw @hk (tw @eQ (tw @hw (tw @hd (tw @l7 (tw @bU.eq_1 @ae.eq_1))))))))),?_⟩;refine hN _ _ ?_;clear hN N)))
   exact aX (b:=false) (.inl rfl) (sd @Nat.zero_add) (fD (lF fun h=>by
    rw[Cz,tu]at h
    exact hq (rn.2 h.2.2)))
 ·have lO:k=s.aA.length:=by omega
  (try((repeat(revert hN;revert N;apply Pn.out));refine wk (tw @a3 (tw @a0 (tw @hk @ae.eq_1))) ?_;(repeat(refine Pn.mk ?_;intro N hN))))
  refine bh (fun n env st=>∃j:Nat,n=(s.aq.length)-j/\j<=(s.aq.length)/\env 5=.int .i64 (j:Int)/\(∀i:Nat,i<j->Az s i)) (s.aq.length) ⟨0,by omega,by omega,sl (tw @a3 (tw @a0 @ae.eq_1)),fun _ h=>absurd h (Nat.not_lt_zero _)⟩ ?_
  rintro n_b env_b st_b ⟨j,rfl,ble,b5,bA0⟩ gQ
  have b0:=gQ 0 (by kernel_rfl)
  simp only[go_sem, ↓reduceIte,Nat.reduceEqDiff,Nat.reduceAdd,Nat.reduceSub,Nat.reduceLeDiff,reduceCtorEq,a3,a0,ae]at b0
  clear gQ
  by_cases hj:(j:Int)<(s.aq.length:Int)
  ·have iy:∀{e:Env},(e 5=.int .i64 (IntKind.i64.wrap ((j:Int)+1)))->(Az s j)->∃m0,m0<(s.aq.length)-j/\∃j:Nat,m0=(s.aq.length)-j/\j<=(s.aq.length)/\e 5=.int .i64 (j:Int)/\(∀i:Nat,i<j->Az s i):=fun x1 x2=>⟨_,by omega,j+1,rfl,by omega,(by rw[x1,aC (by omega)]),(all_succ bA0 x2)⟩
   have jv:j<s.aq.length:=by omega
   have nK:=z6 jv
   have sa:=E7 (oW s j).aL (NP j jv)
   have FR:=F6 s (oW s j).aL
   have rn:=Od jv
   have lF:(¬Az s j)->¬gY s:=fun h hp=>h (hp.tok j jv)
   generalize htd:oW s j=tl at *
   cases hb:jH tl.aL
   ·rw[hb]at sa
    (repeat(first|((repeat(revert hN;revert N;apply Pn.out));refine wk (tw @b5 (tw @b0 (tw @hj (tw @nK (tw @bR.eq_1 @ae.eq_1))))) ?_;(repeat(refine Pn.mk ?_;intro N hN)))|((try apply Or.inl);refine⟨_,au.x (sa) (sd (tw @b5 (tw @b0 (tw @hj (tw @nK (tw @bR.eq_1 @ae.eq_1)))))),?_⟩;refine hN _ _ ?_;clear hN N)))
    exact aX (b:=false) (.inl rfl) (sd @Nat.zero_add) (fD (lF fun h=>by rw[Az,htd,hb]at h;cases h.1))
   rw[hb]at sa
   by_cases h4:(tl.bI.length:Int)=4
   ·have zk:decide ((tl.bI.length:Int)=4)=true:=decide_eq_true h4
    rw[ae]at FR
    by_cases hq:Mw s tl.aL=(j:Int)
    ·have hd:decide (Mw s tl.aL=(j:Int))=true:=decide_eq_true hq
     (repeat(first|((repeat(revert hN;revert N;apply Pn.out));refine wk (tw @b5 (tw @b0 (tw @hj (tw @nK (tw @zk (tw @hd (tw @bR.eq_1 @ae.eq_1))))))) ?_;(repeat(refine Pn.mk ?_;intro N hN)))|((try apply Or.inl);refine⟨_,au.x (sa) (sd (tw @b5 (tw @b0 (tw @hj (tw @nK (tw @zk (tw @hd (tw @bR.eq_1 @ae.eq_1)))))))),?_⟩;refine hN _ _ ?_;clear hN N)|((try apply Or.inl);refine⟨_,au.x (FR) (sd (tw @b5 (tw @b0 (tw @hj (tw @nK (tw @zk (tw @hd (tw @bR.eq_1 @ae.eq_1)))))))),?_⟩;refine hN _ _ ?_;clear hN N)))
     refine bh (fun n env st=>∃i:Nat,n=(4)-i/\i<=(4)/\env 7=.int .i64 (i:Int)/\st.get ⟨156012007,st_b.next+1⟩=some ⟨true,2,[bR tl]⟩/\(∀x:Nat,x<i->iC (tl.bI.getD x 0) 0 s.aA.length=true)) (4) ⟨0,by omega,by omega,sl (tw @b5 (tw @b0 (tw @bR.eq_1 @ae.eq_1))),sl (tw @b5 (tw @b0 (tw @bR.eq_1 @ae.eq_1))),fun _ h=>absurd h (Nat.not_lt_zero _)⟩ ?_
     rintro n_c env_c st_c ⟨i,rfl,cle,c7,cg0,cA0⟩ cfr
     have c0:=cfr 0 (by kernel_rfl);have c5:=cfr 5 (by kernel_rfl);have c6:=cfr 6 (by kernel_rfl)
     simp only[go_sem, ↓reduceIte,Nat.reduceEqDiff,Nat.reduceAdd,Nat.reduceSub,Nat.reduceLeDiff,reduceCtorEq,b5,b0,bR,ae]at c0 c5 c6
     clear cfr
     by_cases hi:(i:Int)<4
     ·have gW:∀{e:Env} {gg:Rows},(e 7=.int .i64 (IntKind.i64.wrap ((i:Int)+1)))->(gg ⟨156012007,st_b.next+1⟩=some ⟨true,2,[bR tl]⟩)->(iC (tl.bI.getD i 0) 0 s.aA.length=true)->∃m0,m0<(4)-i/\∃i:Nat,m0=(4)-i/\i<=(4)/\e 7=.int .i64 (i:Int)/\gg ⟨156012007,st_b.next+1⟩=some ⟨true,2,[bR tl]⟩/\(∀x:Nat,x<i->iC (tl.bI.getD x 0) 0 s.aA.length=true):=fun x1 x2 x3=>⟨_,by omega,i+1,rfl,by omega,(by rw[x1,aC (by omega)]),x2,(all_succ cA0 x3)⟩
      have fB:i<tl.bI.length:=by omega
      have k9:(tl.bI.map bu)[i]? =some (bu (tl.bI.getD i 0)):=getD_map bu fB
      have xw:tl.bI.getD i 0∈tl.bI:=by rw[List.getD_eq_getElem?_getD,List.getElem?_eq_getElem fB];exact List.getElem_mem fB
      have Ik:=ki (tl.bI.getD i 0) 0 s.aA.length
      generalize Nu:tl.bI.getD i 0=gv at *
      cases hv:iC gv 0 s.aA.length
      ·rw[hv]at Ik
       (repeat(first|((repeat(revert hN;revert N;apply Pn.out));refine wk (tw @c7 (tw @cg0 (tw @c0 (tw @c5 (tw @c6 (tw @hi (tw @k9 (tw @bu.eq_1 (tw @bR.eq_1 @ae.eq_1))))))))) ?_;(repeat(refine Pn.mk ?_;intro N hN)))|((try apply Or.inl);refine⟨_,au.x (Ik) (sd (tw @c7 (tw @cg0 (tw @c0 (tw @c5 (tw @c6 (tw @hi (tw @k9 (tw @bu.eq_1 (tw @bR.eq_1 @ae.eq_1)))))))))),?_⟩;refine hN _ _ ?_;clear hN N)))
       exact aX (b:=false) (.inl rfl) (sd @Nat.zero_add) (fD (lF fun h=>by
        rw[Az,htd]at h
        have:=h.2.2.2 gv xw
        rw[hv]at this;cases this))
      ·rw[hv]at Ik
       (repeat(first|((repeat(revert hN;revert N;apply Pn.out));refine wk (tw @c7 (tw @cg0 (tw @c0 (tw @c5 (tw @c6 (tw @hi (tw @k9 (tw @bu.eq_1 (tw @bR.eq_1 @ae.eq_1))))))))) ?_;(repeat(refine Pn.mk ?_;intro N hN)))|((try apply Or.inl);refine⟨_,au.x (Ik) (sd (tw @c7 (tw @cg0 (tw @c0 (tw @c5 (tw @c6 (tw @hi (tw @k9 (tw @bu.eq_1 (tw @bR.eq_1 @ae.eq_1)))))))))),?_⟩;refine hN _ _ ?_;clear hN N)))
       refine gW ?_ ?_ (hv)
       all_goals simp only[go_sem, ↓reduceIte,Nat.reduceEqDiff,Nat.reduceAdd,Nat.reduceSub,Nat.reduceLeDiff,reduceCtorEq,c7,cg0,c0,c5,c6]
     ·have hi4:i=4:=by omega
      (try((repeat(revert hN;revert N;apply Pn.out));refine wk (tw @c7 (tw @cg0 (tw @c0 (tw @c5 (tw @c6 (tw @hi (tw @bR.eq_1 @ae.eq_1))))))) ?_;(repeat(refine Pn.mk ?_;intro N hN))))
      exact iy (sd (tw @b5 (tw @b0 (tw @c7 (tw @cg0 (tw @c0 (tw @c5 @c6))))))) (⟨by rw[htd];exact hb,by rw[htd];omega,fun x hx=>(by rw[htd];exact rn.1 hq x hx),fun g hg=>by
       rw[htd]at hg
       obtain⟨x,hx,rfl⟩:=List.getElem_of_mem hg
       have:=cA0 x (by omega)
       rwa [List.getD_eq_getElem?_getD,List.getElem?_eq_getElem hx]at this⟩)
    ·have hd:decide (Mw s tl.aL=(j:Int))=false:=decide_eq_false hq
     (repeat(first|((repeat(revert hN;revert N;apply Pn.out));refine wk (tw @b5 (tw @b0 (tw @hj (tw @nK (tw @zk (tw @hd (tw @bR.eq_1 @ae.eq_1))))))) ?_;(repeat(refine Pn.mk ?_;intro N hN)))|((try apply Or.inl);refine⟨_,au.x (sa) (sd (tw @b5 (tw @b0 (tw @hj (tw @nK (tw @zk (tw @hd (tw @bR.eq_1 @ae.eq_1)))))))),?_⟩;refine hN _ _ ?_;clear hN N)|((try apply Or.inl);refine⟨_,au.x (FR) (sd (tw @b5 (tw @b0 (tw @hj (tw @nK (tw @zk (tw @hd (tw @bR.eq_1 @ae.eq_1)))))))),?_⟩;refine hN _ _ ?_;clear hN N)))
     exact aX (b:=false) (.inl rfl) (sd @Nat.zero_add) (fD (lF fun h=>by
      rw[Az,htd]at h
      exact hq (rn.2 h.2.2.1)))
   ·have zk:decide ((tl.bI.length:Int)=4)=false:=decide_eq_false h4
    (repeat(first|((repeat(revert hN;revert N;apply Pn.out));refine wk (tw @b5 (tw @b0 (tw @hj (tw @nK (tw @zk (tw @bR.eq_1 @ae.eq_1)))))) ?_;(repeat(refine Pn.mk ?_;intro N hN)))|((try apply Or.inl);refine⟨_,au.x (sa) (sd (tw @b5 (tw @b0 (tw @hj (tw @nK (tw @zk (tw @bR.eq_1 @ae.eq_1))))))),?_⟩;refine hN _ _ ?_;clear hN N)))
    exact aX (b:=false) (.inl rfl) (sd @Nat.zero_add) (fD (lF fun h=>by rw[Az,htd]at h;have:=h.2.1;omega))
  ·(try((repeat(revert hN;revert N;apply Pn.out));refine wk (tw @b5 (tw @b0 (tw @hj @ae.eq_1))) ?_;(repeat(refine Pn.mk ?_;intro N hN))))
   exact aX (b:=true) (.inl rfl) (sd @Nat.zero_add) (B3 ⟨by omega,by omega,by omega,fun i hi=>lN i (by omega),fun i hi=>bA0 i (by omega)⟩)
end Go.Proofs.YtgoelphibofcmaaGreat.V

namespace Go.Proofs.YtgoelphibofcmaaGreat.V
def j6 (a b:aE):Bool:=decide (a.eT<b.eT)||(decide (a.eT=b.eT)&&decide (a.eZ<b.eZ))
theorem uy {a b:aE}:j6 a b=true↔a.eT<b.eT∨(a.eT=b.eT/\a.eZ<b.eZ):=by simp[j6]
theorem sQ {a b:aE}:j6 a b=false↔¬(a.eT<b.eT∨(a.eT=b.eT/\a.eZ<b.eZ)):=by rw[<-uy,Bool.not_eq_true]
theorem DI {a b:aE} (h1:a.eZ=b.eZ) (h2:a.eT=b.eT):a=b:=by cases a;cases b;simp_all
theorem kp {a b c:aE} (h:j6 a b=true) (k:j6 b c=true):j6 a c=true:=by rw[uy]at *;omega
theorem zG {a:aE}:j6 a a=false:=by rw[sQ];omega
theorem IK {a b:aE} (h:j6 a b=true):j6 b a=false:=by rw[uy]at h;rw[sQ];omega
theorem E3 {a b:aE} (h:j6 a b=false) (gM:a≠b):j6 b a=true:=by
 rw[sQ]at h;rw[uy]
 by_cases hy:a.eT=b.eT
 ·by_cases hx:a.eZ=b.eZ
  ·exact absurd (DI hx hy) gM
  ·omega
 ·omega
def xk (a b:Int):Int:=if a<b then -1 else if b<a then 1 else 0
def QL (a b:Int):Int:=if a=0 then b else a
def tX (a b:aE):Int:=QL (xk a.eT b.eT) (xk a.eZ b.eZ)
theorem y8 (a b:aE):decide (tX a b<0)=j6 a b:=by
 unfold tX QL xk j6
 by_cases h1:a.eT<b.eT
 ·simp[h1]
 ·by_cases h2:b.eT<a.eT
  ·have:¬a.eT=b.eT:=by omega
   simp[h1,h2,this]
  ·have:a.eT=b.eT:=by omega
   by_cases h3:a.eZ<b.eZ
   ·simp[h1,h2,this,h3]
   ·by_cases h4:b.eZ<a.eZ<;>simp[h1,h2,this,h3,h4]
theorem Fv (a b:aE):(tX a b=0)↔a=b:=by
 cases a;cases b
 unfold tX QL xk
 simp only[aE.mk.injEq]
 split<;>(try split)<;>(try split)<;>(try split)<;>omega
def IU:ah:=⟨⟨0,0⟩,0⟩
def bj (l:List ah) (i:Nat):ah:=l.getD i IU
theorem gL {l:List ah} {i:Nat} (h:i<l.length):bj l i=l[i]:=by simp[bj,List.getD_eq_getElem?_getD,h]
theorem jq {l:List ah} {i:Nat} (h:i<l.length):bj l i∈l:=by rw[gL h];exact List.getElem_mem h
def oh (l:List ah):Prop:=∀i j:Nat,i<j->j<l.length->j6 (bj l i).aW (bj l j).aW=true
def pN (l:List ah) (p:aE):Nat:=l.findIdx fun c=>decide (c.aW=p)
def eE (l:List ah) (p:aE):Int:=if pN l p<l.length then(pN l p:Int)else -1
def iJ (l:List ah) (p:aE):Nat:=l.findIdx fun c=> !j6 c.aW p
theorem zE {l:List ah} {p:aE} {i:Nat} (hi:i<=l.length) (h1:∀x,x<i->j6 (bj l x).aW p=true) (h2:i<l.length->j6 (bj l i).aW p=false):iJ l p=i:=by
 unfold iJ
 by_cases h:i<l.length
 ·rw[List.findIdx_eq h]
  refine⟨by have:=h2 h;rw[gL h]at this;simp[this],fun j hj=>?_⟩
  have:=h1 j hj
  rw[gL (by omega)]at this
  simp[this]
 ·have:i=l.length:=by omega
  subst this
  refine List.findIdx_eq_length_of_false fun x hx=>?_
  obtain⟨j,hj,rfl⟩:=List.getElem_of_mem hx
  have:=h1 j hj
  rw[gL hj]at this
  simp[this]
theorem zF {l:List ah} {p:aE} (hR:oh l):eE l p=if iJ l p<l.length/\(bj l (iJ l p)).aW=p then(iJ l p:Int)else -1:=by
 by_cases h:∃i,i<l.length/\(bj l i).aW=p
 ·obtain⟨i,hi,hp⟩:=h
  have h1:iJ l p=i:=zE (by omega) (fun x hx=>by rw[<-hp];exact hR x i hx hi) fun _=>by rw[hp];exact zG
  have h2:pN l p=i:=by
   rw[pN,List.findIdx_eq hi]
   refine⟨by rw[gL hi]at hp;simpa using hp,fun j hj=>?_⟩
   have:=hR j i hj hi
   rw[hp,gL (by omega)]at this
   simp only[decide_eq_false_iff_not]
   intro hc
   rw[hc,zG]at this
   cases this
  rw[eE,h1,h2,if_pos hi,if_pos ⟨hi,hp⟩]
 ·have h2:¬pN l p<l.length:=by
   rw[pN,List.findIdx_lt_length]
   rintro⟨c,hc,he⟩
   obtain⟨j,hj,rfl⟩:=List.getElem_of_mem hc
   exact h ⟨j,hj,by rw[gL hj];simpa using he⟩
  rw[eE,if_neg h2,if_neg]
  rintro⟨h3,h4⟩
  exact h ⟨_,h3,h4⟩
theorem mN {l:List ah} {p:aE} (h:0<=eE l p):(eE l p).toNat<l.length/\(bj l (eE l p).toNat).aW=p:=by
 unfold eE at h ⊢
 split at h
 ·rename_i hc
  rw[if_pos hc]
  refine⟨by omega,?_⟩
  have:=of_decide_eq_true (List.findIdx_getElem (p:=fun c:ah=>decide (c.aW=p)) (xs:=l) (w:=hc))
  rw[Int.toNat_natCast,gL hc]
  exact this
 ·omega
def gm (l:List ah) (p:aE):Int:=if 0<=eE l p then(bj l (eE l p).toNat).aP else -1
end Go.Proofs.YtgoelphibofcmaaGreat.V

namespace Go.Proofs.YtgoelphibofcmaaGreat.V
open Go.RowKit
attribute [local irreducible] eh wpOps fI Call
attribute [local go_sem] aM fj eJ fF fE da upd cu K.av cI AV.cells AV.cell rowOf rowsOf part ld rowAt bK bV dq dM gy bD cY dY fA eS dk dR cW cV dD dE bG bc cL bF cP cN dO dS dQ cK bL cX dN bE aO cR cz gx bm cH bH aY dp bl dr AV.undef bt bz dF dL dy dC cF dX eb cw dV dU cQ cU List.getD_cons_zero List.getD_cons_succ List.getD_nil List.all_cons List.all_nil Bool.and_true Bool.true_and Bool.and_self Bool.not_true Bool.not_false Option.map_some Option.map_none Option.bind_some Option.bind_none List.length_cons List.length_nil List.take_succ_cons List.take_zero List.take_nil List.drop_succ_cons List.drop_zero List.drop_nil List.head?_cons List.map_cons List.map_nil List.getElem?_cons_zero List.getElem?_cons_succ List.cons_append List.nil_append List.append_nil List.length_map List.set_cons_zero List.set_cons_succ Nat.reduceMul eq_self Int.toNat_natCast Int.natCast_nonneg and_self true_and and_true decide_true decide_false Bool.false_eq_true Nat.zero_add Nat.add_zero List.contains_cons List.contains_nil Bool.or_false Bool.false_or beq_self_eq_true Nat.reduceBEq ne_eq not_true_eq_false not_false_eq_true Id.mk.injEq false_and and_false Nat.reduceLT Int.reduceLE Int.reduceLT Int.reduceToNat Int.reduceNeg Int.reduceAdd Nat.le_refl List.length_append beq_true beq_false Bool.not_eq_eq_eq_not or_false false_or dK aj ar aH bd br bW aT aZ aU bf cJ bw
theorem nW (a b:aE):au Tryz.prog 160 [.agg (ai a),.agg (ai b)] (.bool (j6 a b)):=by
 refine au.body eG rfl fun hl n0=>?_
 clear hl
 by_cases h0:a.eT<b.eT
 ·(try((repeat(revert hN;revert N;apply Pn.out));refine wk (tw @ai.eq_1 @h0) ?_;(repeat(refine Pn.mk ?_;intro N hN))))
  exact aX (b:=true) (.inl rfl) (sd @Nat.zero_add) (by simp[j6,h0])
 ·by_cases h1:a.eT=b.eT
  ·have h2:¬b.eT<b.eT:=by omega
   (try((repeat(revert hN;revert N;apply Pn.out));refine wk (tw @ai.eq_1 (tw @h1 @h2)) ?_;(repeat(refine Pn.mk ?_;intro N hN))))
   exact aX (b:=decide (a.eZ<b.eZ)) (.inl rfl) (sd @Nat.zero_add) (by simp[j6,h1])
  ·(try((repeat(revert hN;revert N;apply Pn.out));refine wk (tw @ai.eq_1 (tw @h0 @h1)) ?_;(repeat(refine Pn.mk ?_;intro N hN))))
   exact aX (b:=false) (.inl rfl) (sd @Nat.zero_add) (by simp[j6,h0,h1])
end Go.Proofs.YtgoelphibofcmaaGreat.V
