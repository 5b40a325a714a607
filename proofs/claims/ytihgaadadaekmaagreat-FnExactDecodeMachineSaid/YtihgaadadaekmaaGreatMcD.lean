/- The place of a point in an assembly, on both sides. -/
import Derived.Test.YtihgaadadaekmaaGreatMcC
import Derived.Test.YtihgaadadaekmaaGreatMcA
import Derived.Test.YtihgaadadaekmaaGreatMcB
import Derived.Lib.Bytealg
set_option linter.unusedVariables false
set_option linter.unusedSimpArgs false
set_option maxRecDepth 100000
set_option maxHeartbeats 16000000
namespace Go.Proofs.YtihgaadadaekmaaGreat.V
open Go.RowKit
attribute [local irreducible] eb wpOps gH Call
attribute [local go_sem] aM fI eM fX fV cE upd cm K.av cK AV.cells AV.cell rowOf rowsOf part ld rowAt bS bZ dH ei ij bK dc eA fZ e8 du ep cY cX dU dW bQ bf cQ bP cT cR ek er eo cP bU cZ ej bL aQ cV cw ig bt cH bR bc dF bq dI AV.undef bD bF dX eh dQ dZ cF ez eE cr ev eu cU cW List.getD_cons_zero List.getD_cons_succ List.getD_nil List.all_cons List.all_nil Bool.and_true Bool.true_and Bool.and_self Bool.not_true Bool.not_false Option.map_some Option.map_none Option.bind_some Option.bind_none List.length_cons List.length_nil List.take_succ_cons List.take_zero List.take_nil List.drop_succ_cons List.drop_zero List.drop_nil List.head?_cons List.map_cons List.map_nil List.getElem?_cons_zero List.getElem?_cons_succ List.cons_append List.nil_append List.append_nil List.length_map List.set_cons_zero List.set_cons_succ Nat.reduceMul eq_self Int.toNat_natCast Int.natCast_nonneg and_self true_and and_true decide_true decide_false Bool.false_eq_true Nat.zero_add Nat.add_zero List.contains_cons List.contains_nil Bool.or_false Bool.false_or beq_self_eq_true Nat.reduceBEq ne_eq not_true_eq_false not_false_eq_true Id.mk.injEq false_and and_false Nat.reduceLT Int.reduceLE Int.reduceLT Int.reduceToNat Int.reduceNeg Int.reduceAdd Nat.le_refl List.length_append beq_true beq_false Bool.not_eq_eq_eq_not or_false false_or dD ad aj aH bC b4 aX bo aY bl cL bE
theorem v9 (cells:List ak) (p:bH) (hR:yQ cells) (Jb:cells.length<=1048576):
  ah Tryz.prog 83 [.sl (cells.map ai),.agg (ao p),.fn 84 []] (.gE [.int .i64 (lD cells p),.bool (decide (lD cells p<cells.length)&&decide ((bB cells (lD cells p)).cI=p))]):=by
 refine ah.body dY rfl fun hl n0=>?_
 clear hl
 (try((repeat(revert hN;revert N;apply Pn.out));refine wk @ao.eq_1 ?_;(repeat(refine Pn.mk ?_;intro N hN))))
 refine aT (fun n env st=>∃i j:Nat,n=j-i/\i<=j/\j<=cells.length/\(∀x,x<i->qi (bB cells x).cI p=true)/\(∀x,j<=x->x<cells.length->qi (bB cells x).cI p=false)/\env 9=.int .i64 i/\env 10=.int .i64 j/\st.get ⟨83000000,n0⟩=some ⟨true,2,[ao p]⟩) cells.length ⟨0,cells.length,ab,ab,ab,fun x h=>ab,fun x h1 h2=>ab,by(simp only[go_sem, ↓reduceIte,Nat.reduceEqDiff,Nat.reduceAdd,Nat.reduceSub,Nat.reduceLeDiff,reduceCtorEq])<;>rfl,sd @Nat.zero_add,sd @ao.eq_1⟩ ?_
 rintro n env st ⟨i,j,rfl,Qo,hj,jS,Ay,h9,h10,hg⟩ fr
 have h0:=fr 0 (by kernel_rfl)
 have h2:=fr 2 (by kernel_rfl)
 have h4:=fr 4 (by kernel_rfl)
 have h8:=fr 8 (by kernel_rfl)
 simp only[go_sem, ↓reduceIte,Nat.reduceEqDiff,Nat.reduceAdd,Nat.reduceSub,Nat.reduceLeDiff,reduceCtorEq]at h0 h2 h4 h8
 clear fr
 by_cases dR:(i:Int)<(j:Int)
 ·have e1:IntKind.i64.wrap ((i:Int)+j)=((i+j:Nat):Int):=by rw[bd ab];rfl
  have hm:(i+j) / 2<cells.length:=ab
  have dp:(cells.map ai)[(i+j) / 2]? =some (ai (bB cells ((i+j) / 2))):=gz (l:=cells) hm
  have e2:IntKind.i64.wrap ((IntKind.u64.wrap ((i+j:Nat):Int)).fdiv (2 ^ min 1 IntKind.u64.bits))=(((i+j) / 2:Nat):Int):=by
   have h:IntKind.u64.wrap ((i+j:Nat):Int)=((i+j:Nat):Int):=by rw[IntKind.wrap_u64];omega
   rw[h,show min 1 IntKind.u64.bits=1 from rfl,show((2:Int) ^ 1)=2 from rfl,Int.fdiv_eq_ediv_of_nonneg _ ab]
   rw[bd ab];omega
  have Oj:IntKind.i64.wrap ((IntKind.u64.wrap ((i+j:Nat):Int)).fdiv (2 ^ min 1 64))=(((i+j) / 2:Nat):Int):=e2
  have e3:=aA (k:=(i+j) / 2) ab
  by_cases hc:sF (bB cells ((i+j) / 2)).cI p<0
  ·have hl:qi (bB cells ((i+j) / 2)).cI p=true:=by rw[<-xr];simpa using hc
   (repeat(first|((repeat(revert hN;revert N;apply Pn.out));refine wk (tw @h0 (tw @h2 (tw @h4 (tw @h8 (tw @h9 (tw @h10 (tw @hg (tw @dR (tw @e1 (tw @e2 (tw @Oj (tw @dp (tw @hc (tw @ai.eq_1 @ao.eq_1)))))))))))))) ?_;(repeat(refine Pn.mk ?_;intro N hN)))|((try apply Or.inl);refine⟨_,ah.x (jQ (bB cells ((i+j) / 2)) p) (sd (tw @h0 (tw @h2 (tw @h4 (tw @h8 (tw @h9 (tw @h10 (tw @hg (tw @dR (tw @e1 (tw @e2 (tw @Oj (tw @dp (tw @hc (tw @ai.eq_1 @ao.eq_1))))))))))))))),?_⟩;refine hN _ _ ?_;clear hN N)))
   refine⟨_,?_,(i+j) / 2+1,j,rfl,ab,hj,fun x hx=>?_,Ay,sd @e3,sd @h10,sd (tw @hg @ao.eq_1)⟩
   ·omega
   ·by_cases Mz:x=(i+j) / 2
    ·subst Mz;exact hl
    ·exact lE (hR x _ ab hm) hl
  ·have hl:qi (bB cells ((i+j) / 2)).cI p=false:=by rw[<-xr];simpa using hc
   (repeat(first|((repeat(revert hN;revert N;apply Pn.out));refine wk (tw @h0 (tw @h2 (tw @h4 (tw @h8 (tw @h9 (tw @h10 (tw @hg (tw @dR (tw @e1 (tw @e2 (tw @Oj (tw @dp (tw @hc (tw @ai.eq_1 @ao.eq_1)))))))))))))) ?_;(repeat(refine Pn.mk ?_;intro N hN)))|((try apply Or.inl);refine⟨_,ah.x (jQ (bB cells ((i+j) / 2)) p) (sd (tw @h0 (tw @h2 (tw @h4 (tw @h8 (tw @h9 (tw @h10 (tw @hg (tw @dR (tw @e1 (tw @e2 (tw @Oj (tw @dp (tw @hc (tw @ai.eq_1 @ao.eq_1))))))))))))))),?_⟩;refine hN _ _ ?_;clear hN N)))
   refine⟨_,?_,i,(i+j) / 2,rfl,ab,ab,jS,fun x h1 h2=>?_,sd @h9,sd (tw @e2 @Oj),sd (tw @hg @ao.eq_1)⟩
   ·omega
   ·by_cases Mz:x=(i+j) / 2
    ·subst Mz;exact hl
    ·rw[Bool.eq_false_iff]
     intro hc
     have h3:=lE (hR ((i+j) / 2) x ab h2) hc
     rw[hl]at h3;cases h3
 ·have Md:i=j:=ab
  subst Md
  have BE:lD cells p=i:=xU hj jS fun h=>Ay i (Nat.le_refl _) h
  by_cases hn:(i:Int)<(cells.length:Int)
  ·have fJ:i<cells.length:=ab
   have dp:(cells.map ai)[i]? =some (ai (bB cells i)):=gz (l:=cells) fJ
   have hd:decide (sF (bB cells i).cI p=0)=decide ((bB cells i).cI=p):=by simp only[D6]
   (repeat(first|((repeat(revert hN;revert N;apply Pn.out));refine wk (tw @h0 (tw @h2 (tw @h4 (tw @h8 (tw @h9 (tw @h10 (tw @hg (tw @dR (tw @hn (tw @dp (tw @ai.eq_1 @ao.eq_1))))))))))) ?_;(repeat(refine Pn.mk ?_;intro N hN)))|((try apply Or.inl);refine⟨_,ah.x (jQ (bB cells i) p) (sd (tw @h0 (tw @h2 (tw @h4 (tw @h8 (tw @h9 (tw @h10 (tw @hg (tw @dR (tw @hn (tw @dp (tw @ai.eq_1 @ao.eq_1)))))))))))),?_⟩;refine hN _ _ ?_;clear hN N)))
   refine jc (.inl rfl) (r1:=.int .i64 i) (r2:=.bool (decide ((bB cells i).cI=p))) ?_ ?_ ?_
   ·simp only[go_sem, ↓reduceIte,Nat.reduceEqDiff,Nat.reduceAdd,Nat.reduceSub,Nat.reduceLeDiff,reduceCtorEq]
   ·simp only[go_sem, ↓reduceIte,Nat.reduceEqDiff,Nat.reduceAdd,Nat.reduceSub,Nat.reduceLeDiff,reduceCtorEq,hd]
   ·simp only[cJ,aC,aL,cC,cz,Option.map_some,BE,fJ,decide_true,Bool.true_and]
  ·have fJ:¬i<cells.length:=ab
   (try((repeat(revert hN;revert N;apply Pn.out));refine wk (tw @h0 (tw @h2 (tw @h4 (tw @h8 (tw @h9 (tw @h10 (tw @hg (tw @dR (tw @hn (tw @ai.eq_1 @ao.eq_1)))))))))) ?_;(repeat(refine Pn.mk ?_;intro N hN))))
   refine jc (.inl rfl) (r1:=.int .i64 i) (r2:=.bool false) ?_ ?_ ?_
   ·simp only[go_sem, ↓reduceIte,Nat.reduceEqDiff,Nat.reduceAdd,Nat.reduceSub,Nat.reduceLeDiff,reduceCtorEq]
   ·simp only[go_sem, ↓reduceIte,Nat.reduceEqDiff,Nat.reduceAdd,Nat.reduceSub,Nat.reduceLeDiff,reduceCtorEq]
   ·simp only[cJ,aC,aL,cC,cz,Option.map_some,BE,fJ,decide_false,Bool.false_and]
theorem Fi (l:List ak) (p:bH) (hR:yQ l) (Jb:l.length<=1048576):ah Tryz.prog 79 [.agg [.sl (l.map ai)],.agg (ao p)] (.int .i64 (fK l p)):=by
 refine ah.body dY rfl fun hl n0=>?_
 clear hl
 rw[xV hR]
 have hb:=v9 l p hR Jb
 rw[ao]at hb
 cases hf:(decide (lD l p<l.length)&&decide ((bB l (lD l p)).cI=p))
 ·rw[hf]at hb
  (repeat(first|((repeat(revert hN;revert N;apply Pn.out));refine wk @ao.eq_1 ?_;(repeat(refine Pn.mk ?_;intro N hN)))|((try apply Or.inl);refine⟨_,ah.x (hb) (sd @ao.eq_1),?_⟩;refine hN _ _ ?_;clear hN N)))
  exact bG (b:=-1) (.inl rfl) (sd @Nat.zero_add) (by rw[if_neg];intro h;simp[h.1,h.2]at hf)
 ·rw[hf]at hb
  (repeat(first|((repeat(revert hN;revert N;apply Pn.out));refine wk @ao.eq_1 ?_;(repeat(refine Pn.mk ?_;intro N hN)))|((try apply Or.inl);refine⟨_,ah.x (hb) (sd @ao.eq_1),?_⟩;refine hN _ _ ?_;clear hN N)))
  exact bG (b:=(lD l p:Int)) (.inl rfl) (sd @Nat.zero_add) (by rw[if_pos];simpa using hf)
theorem QS (l:List ak) (p:bH) (hR:yQ l) (Jb:l.length<=1048576):ah Tryz.prog 48 [.agg [.sl (l.map ai)],.agg (ao p)] (.int .i64 (u7 l p)):=by
 refine ah.body dY rfl fun hl n0=>?_
 clear hl
 have hi:=xV (l:=l) (p:=p) hR
 have hb:=v9 l p hR Jb
 rw[ao]at hb
 cases hf:(decide (lD l p<l.length)&&decide ((bB l (lD l p)).cI=p))
 ·rw[hf]at hb
  (repeat(first|((repeat(revert hN;revert N;apply Pn.out));refine wk @ao.eq_1 ?_;(repeat(refine Pn.mk ?_;intro N hN)))|((try apply Or.inl);refine⟨_,ah.x (hb) (sd @ao.eq_1),?_⟩;refine hN _ _ ?_;clear hN N)))
  exact bG (b:=-1) (.inl rfl) (sd @Nat.zero_add) (by
   have hx:fK l p= -1:=by rw[hi,if_neg (by intro h;simp[h.1,h.2]at hf)]
   rw[u7,hx];rfl)
 ·rw[hf]at hb
  have hc:lD l p<l.length/\(bB l (lD l p)).cI=p:=by simpa using hf
  have hg:=gz hc.1
  (repeat(first|((repeat(revert hN;revert N;apply Pn.out));refine wk (tw @ao.eq_1 (tw @hg @ai.eq_1)) ?_;(repeat(refine Pn.mk ?_;intro N hN)))|((try apply Or.inl);refine⟨_,ah.x (hb) (sd (tw @ao.eq_1 (tw @hg @ai.eq_1))),?_⟩;refine hN _ _ ?_;clear hN N)))
  exact bG (b:=(bB l (lD l p)).bJ) (.inl rfl) (sd @Nat.zero_add) (by
   have hx:fK l p=(lD l p:Int):=by rw[hi,if_pos hc]
   rw[u7,hx,if_pos ab,Int.toNat_natCast])
theorem tY (l:List ak) (p:bH) (hR:yQ l) (Jb:l.length<=1048576):ah Tryz.prog 71 [.de [.sl (l.map ai)],.agg (ao p)] (.int .i64 (fK l p)):=by
 refine ah.body dY rfl fun hl n0=>?_
 clear hl
 rw[xV hR]
 (try((repeat(revert hN;revert N;apply Pn.out));refine wk @ao.eq_1 ?_;(repeat(refine Pn.mk ?_;intro N hN))))
 refine aT (fun n env st=>∃i j:Nat,n=j-i/\i<=j/\j<=l.length/\(∀x,x<i->qi (bB l x).cI p=true)/\(∀x,j<=x->x<l.length->qi (bB l x).cI p=false)/\env 5=.int .i64 i/\env 6=.int .i64 j/\st.get ⟨71000000,n0⟩=some ⟨true,2,[ao p]⟩) l.length ⟨0,l.length,ab,ab,ab,fun x h=>ab,fun x h1 h2=>ab,by(simp only[go_sem, ↓reduceIte,Nat.reduceEqDiff,Nat.reduceAdd,Nat.reduceSub,Nat.reduceLeDiff,reduceCtorEq])<;>rfl,sd @Nat.zero_add,sd @ao.eq_1⟩ ?_
 rintro n env st ⟨i,j,rfl,Qo,hj,jS,Ay,h5,h6,hg⟩ fr
 have h0:=fr 0 (by kernel_rfl)
 have h3:=fr 3 (by kernel_rfl)
 simp only[go_sem, ↓reduceIte,Nat.reduceEqDiff,Nat.reduceAdd,Nat.reduceSub,Nat.reduceLeDiff,reduceCtorEq]at h0 h3
 clear fr
 by_cases dR:(i:Int)<(j:Int)
 ·have e1:IntKind.i64.wrap ((i:Int)+j)=((i+j:Nat):Int):=by rw[bd ab];rfl
  have hm:(i+j) / 2<l.length:=ab
  have dp:=gz hm
  have e2:IntKind.i64.wrap (((i+j:Nat):Int).tdiv 2)=(((i+j) / 2:Nat):Int):=by
   rw[Int.tdiv_eq_ediv_of_nonneg ab,bd ab];omega
  have e3:=aA (k:=(i+j) / 2) ab
  have hq:=rS (bB l ((i+j) / 2)).cI p
  cases hl:qi (bB l ((i+j) / 2)).cI p
  ·rw[hl]at hq
   (repeat(first|((repeat(revert hN;revert N;apply Pn.out));refine wk (tw @h0 (tw @h3 (tw @h5 (tw @h6 (tw @hg (tw @dR (tw @e1 (tw @e2 (tw @dp (tw @ai.eq_1 @ao.eq_1)))))))))) ?_;(repeat(refine Pn.mk ?_;intro N hN)))|((try apply Or.inl);refine⟨_,ah.x (hq) (sd (tw @h0 (tw @h3 (tw @h5 (tw @h6 (tw @hg (tw @dR (tw @e1 (tw @e2 (tw @dp (tw @ai.eq_1 @ao.eq_1))))))))))),?_⟩;refine hN _ _ ?_;clear hN N)))
   refine⟨_,?_,i,(i+j) / 2,rfl,ab,ab,jS,fun x h1 h2=>?_,sd @h5,sd @e2,sd (tw @hg @ao.eq_1)⟩
   ·omega
   ·by_cases Mz:x=(i+j) / 2
    ·subst Mz;exact hl
    ·rw[Bool.eq_false_iff]
     intro hc
     have h3:=lE (hR ((i+j) / 2) x ab h2) hc
     rw[hl]at h3;cases h3
  ·rw[hl]at hq
   (repeat(first|((repeat(revert hN;revert N;apply Pn.out));refine wk (tw @h0 (tw @h3 (tw @h5 (tw @h6 (tw @hg (tw @dR (tw @e1 (tw @e2 (tw @dp (tw @ai.eq_1 @ao.eq_1)))))))))) ?_;(repeat(refine Pn.mk ?_;intro N hN)))|((try apply Or.inl);refine⟨_,ah.x (hq) (sd (tw @h0 (tw @h3 (tw @h5 (tw @h6 (tw @hg (tw @dR (tw @e1 (tw @e2 (tw @dp (tw @ai.eq_1 @ao.eq_1))))))))))),?_⟩;refine hN _ _ ?_;clear hN N)))
   refine⟨_,?_,(i+j) / 2+1,j,rfl,ab,hj,fun x hx=>?_,Ay,sd @e3,sd @h6,sd (tw @hg @ao.eq_1)⟩
   ·omega
   ·by_cases Mz:x=(i+j) / 2
    ·subst Mz;exact hl
    ·exact lE (hR x _ ab hm) hl
 ·have Md:i=j:=ab
  subst Md
  have BE:lD l p=i:=xU hj jS fun h=>Ay i (Nat.le_refl _) h
  by_cases hn:(i:Int)<(l.length:Int)
  ·have fJ:i<l.length:=ab
   have dp:=gz fJ
   by_cases hp:(bB l i).cI=p
   ·have hx:decide ((bB l i).cI.gu=p.gu)=true:=decide_eq_true (by rw[hp])
    have hy:decide ((bB l i).cI.fN=p.fN)=true:=decide_eq_true (by rw[hp])
    (try((repeat(revert hN;revert N;apply Pn.out));refine wk (tw @h0 (tw @h3 (tw @h5 (tw @h6 (tw @hg (tw @dR (tw @hn (tw @dp (tw @hx (tw @hy (tw @ai.eq_1 @ao.eq_1))))))))))) ?_;(repeat(refine Pn.mk ?_;intro N hN))))
    exact bG (b:=(i:Int)) (.inl rfl) (sd @Nat.zero_add) (by rw[BE,if_pos ⟨fJ,hp⟩])
   ·by_cases hx:(bB l i).cI.gu=p.gu
    ·have u3:decide ((bB l i).cI.gu=p.gu)=true:=decide_eq_true hx
     have hy':decide ((bB l i).cI.fN=p.fN)=false:=decide_eq_false fun h=>hp (MN hx h)
     (try((repeat(revert hN;revert N;apply Pn.out));refine wk (tw @h0 (tw @h3 (tw @h5 (tw @h6 (tw @hg (tw @dR (tw @hn (tw @dp (tw @u3 (tw @hy' (tw @ai.eq_1 @ao.eq_1))))))))))) ?_;(repeat(refine Pn.mk ?_;intro N hN))))
     exact bG (b:=-1) (.inl rfl) (sd @Nat.zero_add) (by rw[BE,if_neg fun h=>hp h.2])
    ·have u3:decide ((bB l i).cI.gu=p.gu)=false:=decide_eq_false hx
     (try((repeat(revert hN;revert N;apply Pn.out));refine wk (tw @h0 (tw @h3 (tw @h5 (tw @h6 (tw @hg (tw @dR (tw @hn (tw @dp (tw @u3 (tw @Bool.false_and (tw @ai.eq_1 @ao.eq_1))))))))))) ?_;(repeat(refine Pn.mk ?_;intro N hN))))
     exact bG (b:=-1) (.inl rfl) (sd @Nat.zero_add) (by rw[BE,if_neg fun h=>hp h.2])
  ·have fJ:¬i<l.length:=ab
   (try((repeat(revert hN;revert N;apply Pn.out));refine wk (tw @h0 (tw @h3 (tw @h5 (tw @h6 (tw @hg (tw @dR (tw @hn (tw @ai.eq_1 @ao.eq_1)))))))) ?_;(repeat(refine Pn.mk ?_;intro N hN))))
   exact bG (b:=-1) (.inl rfl) (sd @Nat.zero_add) (by rw[BE,if_neg fun h=>fJ h.1])
theorem JH (l:List ak) (p:bH) (hR:yQ l) (Jb:l.length<=1048576):ah Tryz.prog 75 [.de [.sl (l.map ai)],.agg (ao p)] (.int .i64 (u7 l p)):=by
 refine ah.body dY rfl fun hl n0=>?_
 clear hl
 have hb:=tY l p hR Jb
 by_cases hi:fK l p<0
 ·rw[ao]at hb
  (repeat(first|((repeat(revert hN;revert N;apply Pn.out));refine wk (tw @ao.eq_1 @hi) ?_;(repeat(refine Pn.mk ?_;intro N hN)))|((try apply Or.inl);refine⟨_,ah.x (hb) (sd (tw @ao.eq_1 @hi)),?_⟩;refine hN _ _ ?_;clear hN N)))
  exact bG (b:=-1) (.inl rfl) (sd @Nat.zero_add) (by rw[u7,if_neg ab])
 ·have h0:0<=fK l p:=ab
  have hg:=gz (og h0).1
  rw[ao]at hb
  (repeat(first|((repeat(revert hN;revert N;apply Pn.out));refine wk (tw @ao.eq_1 (tw @hi (tw @h0 (tw @hg @ai.eq_1)))) ?_;(repeat(refine Pn.mk ?_;intro N hN)))|((try apply Or.inl);refine⟨_,ah.x (hb) (sd (tw @ao.eq_1 (tw @hi (tw @h0 (tw @hg @ai.eq_1))))),?_⟩;refine hN _ _ ?_;clear hN N)))
  exact bG (b:=(bB l (fK l p).toNat).bJ) (.inl rfl) (sd @Nat.zero_add) (by rw[u7,if_pos h0])
def lT (s:aq) (l:List ak):Prop:=j9 l/\∀t∈l,gp s t.bJ=true
noncomputable def oC (s:aq) (l:List ak):Bool:=nD l&&l.all fun t=>gp s t.bJ
theorem lr {s:aq} {l:List ak}:oC s l=true↔lT s l:=by simp[oC,lT,Em]
theorem A4:N3 ai (fun c=>.agg (ai c)) 3 true:=⟨fun _=>rfl,fun _=>rfl,fun x g=>by simp only[ai,ad,aj,bo,aH,Option.map_some]⟩
theorem Fc (s:aq) (t:ak) (hs:s.ae.length<=1048576):ah Tryz.prog 101 [.agg (ai t),.de (aa s)] (.bool (!gp s t.bJ)):=by
 refine ah.body dY rfl fun hl n0=>?_
 clear hl
 have h:=G8 s t.bJ
 rw[aa]at h
 (repeat(first|((repeat(revert hN;revert N;apply Pn.out));refine wk (tw @ai.eq_1 @aa.eq_1) ?_;(repeat(refine Pn.mk ?_;intro N hN)))|((try apply Or.inl);refine⟨_,ah.x (h) (sd (tw @ai.eq_1 @aa.eq_1)),?_⟩;refine hN _ _ ?_;clear hN N)))
 exact aO (b:= !gp s t.bJ) (.inl rfl) (sd @Nat.zero_add) rfl
theorem Kl (s:aq) (l:List ak) (hs:s.ae.length<=1048576) (hl:l.length<=1048576):ah Tryz.prog 100 [.sl (l.map ai),.fn 101 [.de (aa s)]] (.bool (l.any fun t=> !gp s t.bJ)):=
 nw A4 (show l5 Tryz.prog 100=some (Bu 100 136) by kernel_rfl)
  (show l5 Tryz.prog 136=some (tW 136 3 true) by kernel_rfl) l hl _ _ _ rfl (fun g=>by rw[ad,aY,aj];rfl) (fun x _=>Fc s x hs) fun g=>by rw[ad,aY,aj];rfl
theorem IN {α:Type} (p:α->Bool) (l:List α):(!l.any fun t=> !p t)=l.all p:=by
 induction l with
 |nil=>rfl
 |cons x l ih=>simp only[List.any_cons,List.all_cons,<-ih];cases p x<;>simp
theorem mJ (s:aq) (l:List ak) (hn:eX s) (hg:s.au.length<=1048576) (ht:s.ae.length<=1048576) (hs:∀t∈s.ae,t.bm.length<=1048576) (hl:l.length<=1048576):ah Tryz.prog 61 [.agg (aa s),.agg [.sl (l.map ai)]] (.bool (pA s&&oC s l)):=by
 refine ah.body dY rfl fun hl n0=>?_
 clear hl
 have h1:=AN s hn hg ht hs
 have h2:=Er l
 have h3:=Kl s l ht hl
 rw[aa]at h1 h3
 cases b1:pA s
 ·rw[b1]at h1
  (repeat(first|((repeat(revert hN;revert N;apply Pn.out));refine wk @aa.eq_1 ?_;(repeat(refine Pn.mk ?_;intro N hN)))|((try apply Or.inl);refine⟨_,ah.x (h1) (sd @aa.eq_1),?_⟩;refine hN _ _ ?_;clear hN N)))
  exact aO (b:=false) (.inl rfl) (sd @Nat.zero_add) rfl
 rw[b1]at h1
 cases b2:nD l
 ·rw[b2]at h2
  (repeat(first|((repeat(revert hN;revert N;apply Pn.out));refine wk @aa.eq_1 ?_;(repeat(refine Pn.mk ?_;intro N hN)))|((try apply Or.inl);refine⟨_,ah.x (h1) (sd @aa.eq_1),?_⟩;refine hN _ _ ?_;clear hN N)|((try apply Or.inl);refine⟨_,ah.x (h2) (sd @aa.eq_1),?_⟩;refine hN _ _ ?_;clear hN N)))
  exact aO (b:=false) (.inl rfl) (sd @Nat.zero_add) (by rw[oC,b2];rfl)
 rw[b2]at h2
 (repeat(first|((repeat(revert hN;revert N;apply Pn.out));refine wk @aa.eq_1 ?_;(repeat(refine Pn.mk ?_;intro N hN)))|((try apply Or.inl);refine⟨_,ah.x (h1) (sd @aa.eq_1),?_⟩;refine hN _ _ ?_;clear hN N)|((try apply Or.inl);refine⟨_,ah.x (h2) (sd @aa.eq_1),?_⟩;refine hN _ _ ?_;clear hN N)|((try apply Or.inl);refine⟨_,ah.x (h3) (sd @aa.eq_1),?_⟩;refine hN _ _ ?_;clear hN N)))
 exact aO (b:= !(l.any fun t=> !gp s t.bJ)) (.inl rfl) (sd @Nat.zero_add) (by rw[IN,oC,b2];rfl)
theorem Ds (s:aq) (l:List ak):ah Tryz.prog 55 [.de (aa s),.de [.sl (l.map ai)]] (.bool (oC s l)):=by
 refine ah.body dY rfl fun hl n0=>?_
 have hlen:l.length<=9223372036854775807:=by
  have h1:=(hl (.de [.sl (l.map ai)]) (by simp)).wL (a:=.sl (l.map ai)) (by simp)
  simpa using h1.len
 clear hl
 have h2:=ES l
 cases b2:nD l
 ·rw[b2]at h2
  (repeat(first|((repeat(revert hN;revert N;apply Pn.out));refine wk @Nat.zero_add ?_;(repeat(refine Pn.mk ?_;intro N hN)))|((try apply Or.inl);refine⟨_,ah.x (h2) (sd @Nat.zero_add),?_⟩;refine hN _ _ ?_;clear hN N)))
  exact aO (b:=false) (.inl rfl) (sd @Nat.zero_add) (by rw[oC,b2];rfl)
 rw[b2]at h2
 (repeat(first|((repeat(revert hN;revert N;apply Pn.out));refine wk @Nat.zero_add ?_;(repeat(refine Pn.mk ?_;intro N hN)))|((try apply Or.inl);refine⟨_,ah.x (h2) (sd @Nat.zero_add),?_⟩;refine hN _ _ ?_;clear hN N)))
 refine aT (fun n env st=>∃k:Nat,n=(l.length)-k/\k<=(l.length)/\env 5=.int .i64 (k:Int)/\(∀j:Nat,j<k->gp s (bB l j).bJ=true)) (l.length) ⟨0,ab,ab,sl @Nat.zero_add,fun _ h=>absurd h (Nat.not_lt_zero _)⟩ ?_
 rintro n_a env_a st_a ⟨k,rfl,ale,a5,kZ⟩ dE
 have a0:=dE 0 (by kernel_rfl);have a1:=dE 1 (by kernel_rfl)
 simp only[go_sem, ↓reduceIte,Nat.reduceEqDiff,Nat.reduceAdd,Nat.reduceSub,Nat.reduceLeDiff,reduceCtorEq]at a0 a1
 clear dE
 by_cases hk:(k:Int)<(l.length:Int)
 ·have bW:∀{e:Env},(e 5=.int .i64 (IntKind.i64.wrap ((k:Int)+1)))->(gp s (bB l k).bJ=true)->∃m0,m0<(l.length)-k/\∃k:Nat,m0=(l.length)-k/\k<=(l.length)/\e 5=.int .i64 (k:Int)/\(∀j:Nat,j<k->gp s (bB l j).bJ=true):=fun x1 x2=>⟨_,ab,k+1,rfl,ab,(by rw[x1,aA ab]),(all_succ kZ x2)⟩
  have fw:k<l.length:=ab
  have eO:=gz fw
  have ht:=BT s (bB l k).bJ
  cases b3:gp s (bB l k).bJ
  ·rw[b3]at ht
   (repeat(first|((repeat(revert hN;revert N;apply Pn.out));refine wk (tw @a5 (tw @a0 (tw @a1 (tw @hk (tw @eO @ai.eq_1))))) ?_;(repeat(refine Pn.mk ?_;intro N hN)))|((try apply Or.inl);refine⟨_,ah.x (ht) (sd (tw @a5 (tw @a0 (tw @a1 (tw @hk (tw @eO @ai.eq_1)))))),?_⟩;refine hN _ _ ?_;clear hN N)))
   exact aO (b:=false) (.inl rfl) (sd @Nat.zero_add) (by
    have:l.all (fun t=>gp s t.bJ)=false:=List.all_eq_false.2 ⟨_,nP fw,by rw[b3];simp⟩
    rw[oC,this,Bool.and_false])
  ·rw[b3]at ht
   (repeat(first|((repeat(revert hN;revert N;apply Pn.out));refine wk (tw @a5 (tw @a0 (tw @a1 (tw @hk (tw @eO @ai.eq_1))))) ?_;(repeat(refine Pn.mk ?_;intro N hN)))|((try apply Or.inl);refine⟨_,ah.x (ht) (sd (tw @a5 (tw @a0 (tw @a1 (tw @hk (tw @eO @ai.eq_1)))))),?_⟩;refine hN _ _ ?_;clear hN N)))
   exact bW (sd (tw @a5 (tw @a0 @a1))) (b3)
 ·(try((repeat(revert hN;revert N;apply Pn.out));refine wk (tw @a5 (tw @a0 (tw @a1 @hk))) ?_;(repeat(refine Pn.mk ?_;intro N hN))))
  exact aO (b:=true) (.inl rfl) (sd @Nat.zero_add) (by
   have:l.all (fun t=>gp s t.bJ)=true:=List.all_eq_true.2 fun t ht=>by
    obtain⟨j,hj,rfl⟩:=List.getElem_of_mem ht
    have:=kZ j ab
    rwa [j7 hj]at this
   rw[oC,b2,this];rfl)
theorem vL (l:List ak) (hF:j9 l) (i:Nat) (d:Int) (hi:i<l.length) (hd:g9 d 0 3=true):ah Tryz.prog 41 [.de [.sl (l.map ai)],.int .i64 i,.int .i64 d] (.int .i64 (fK l (eL (bB l i).cI d))):=by
 refine ah.body dY rfl fun hl n0=>?_
 clear hl
 have hg:=gz hi
 have hp:=HC (hF.pt hi)
 have h1:=EN (bB l i).cI d hd hp.1 hp.2
 have h2:=tY l (eL (bB l i).cI d) hF.QH (by have:=hF.FN;omega)
 rw[ao]at h1 h2
 (repeat(first|((repeat(revert hN;revert N;apply Pn.out));refine wk (tw @ai.eq_1 (tw @hg @ao.eq_1)) ?_;(repeat(refine Pn.mk ?_;intro N hN)))|((try apply Or.inl);refine⟨_,ah.x (h1) (sd (tw @ai.eq_1 (tw @hg @ao.eq_1))),?_⟩;refine hN _ _ ?_;clear hN N)|((try apply Or.inl);refine⟨_,ah.x (h2) (sd (tw @ai.eq_1 (tw @hg @ao.eq_1))),?_⟩;refine hN _ _ ?_;clear hN N)))
 exact bG (b:=fK l (eL (bB l i).cI d)) (.inl rfl) (sd @Nat.zero_add) rfl
end Go.Proofs.YtihgaadadaekmaaGreat.V

namespace Go.Proofs.YtihgaadadaekmaaGreat.V
def bi (b:Bool):Int:=if b then 1 else 0
def lg (f:Nat->Int):Nat->Int
 |0=>0
 |n+1=>lg f n+f n
theorem gO {f g:Nat->Int}:∀{n:Nat},(∀i,i<n->f i=g i)->lg f n=lg g n
 |0,_=>rfl
 |n+1,h=>by
  simp only[lg]
  rw[gO fun i hi=>h i ab,h n ab]
theorem qF {f g:Nat->Int}:∀{n:Nat},(∀i,i<n->f i<=g i)->lg f n<=lg g n
 |0,_=>Int.le_refl _
 |n+1,h=>by
  simp only[lg]
  have:=qF (n:=n) fun i hi=>h i ab
  have:=h n ab
  omega
theorem jw:∀{n:Nat} {f:Nat->Int},(∀i,i<n->f i=0)->lg f n=0
 |0,_,_=>rfl
 |n+1,f,h=>by
  simp only[lg]
  rw[jw fun i hi=>h i ab,h n ab];rfl
theorem ox {f:Nat->Int} {a:Nat} {d:Int}:∀n,lg (fun i=>f i+if i=a then d else 0) n=lg f n+if a<n then d else 0
 |0=>by simp[lg]
 |n+1=>by
  simp only[lg]
  rw[ox n]
  by_cases h:n=a
  ·subst h;simp;omega
  ·rw[if_neg h]
   by_cases h2:a<n
   ·rw[if_pos h2,if_pos ab];omega
   ·rw[if_neg h2,if_neg ab];omega
def ly (n:Nat) (S:Nat->Bool) (f:Nat->Nat->Int):Int:=lg (fun u=>lg (fun v=>if S u&& !S v then f u v else 0) n) n
def gF (f:Nat->Nat->Int) (a b:Nat) (d:Int):Nat->Nat->Int:=fun u v=>f u v+if u=a/\v=b then d else 0
theorem n9 {n:Nat} {S:Nat->Bool} {f:Nat->Nat->Int} {a b:Nat} {d:Int} (ha:a<n) (hb:b<n):ly n S (gF f a b d)=ly n S f+if S a&& !S b then d else 0:=by
 unfold ly
 have h1:∀u,u<n->lg (fun v=>if S u&& !S v then gF f a b d u v else 0) n=lg (fun v=>if S u&& !S v then f u v else 0) n+if u=a then(if S a&& !S b then d else 0)else 0:=by
  intro u hu
  by_cases h:u=a
  ·subst h
   have h2:∀v,v<n->(if S u&& !S v then gF f u b d u v else 0)=(fun v=>if S u&& !S v then f u v else 0) v+if v=b then(if S u&& !S b then d else 0)else 0:=by
    intro v hv
    unfold gF
    by_cases h3:v=b
    ·subst h3;simp only[and_self,if_true];split<;>omega
    ·simp only[h3,and_false,if_false];split<;>omega
   rw[gO h2,ox,if_pos hb,if_pos rfl]
  ·rw[if_neg h,Int.add_zero]
   refine gO fun v hv=>?_
   unfold gF
   simp[h]
 rw[gO h1,ox,if_pos ha]
theorem I0 {n:Nat} {S:Nat->Bool} {f c:Nat->Nat->Int} (h:∀u v,u<n->v<n->f u v<=c u v):ly n S f<=ly n S c:=
 qF fun u hu=>qF fun v hv=>by split;exact h u v hu hv;exact Int.le_refl _
theorem IZ {n:Nat} {S:Nat->Bool} {f c:Nat->Nat->Int} (h:∀u v,u<n->v<n->S u=true->S v=false->f u v=c u v):ly n S f=ly n S c:=
 gO fun u hu=>gO fun v hv=>by
  split
  ·rename_i hc
   simp only[Bool.and_eq_true,Bool.not_eq_true']at hc
   exact h u v hu hv hc.1 hc.2
  ·rfl
def jY (f:Nat->Nat->Int) (a b:Nat):Nat->Nat->Int:=gF (gF f a b 1) b a (-1)
theorem Ec {n:Nat} {S:Nat->Bool} {f:Nat->Nat->Int} {a b:Nat} (ha:a<n) (hb:b<n):ly n S (jY f a b)=ly n S f+bi (S a)-bi (S b):=by
 unfold jY
 rw[n9 hb ha,n9 ha hb]
 cases S a<;>cases S b<;>simp[bi]<;>omega
def lu (f:Nat->Nat->Int):List Nat->Nat->Nat->Int
 |a::b::r=>lu (jY f a b) (b::r)
 |_=>f
def pJ (f c:Nat->Nat->Int):List Nat->Prop
 |a::b::r=>f a b<c a b/\pJ f c (b::r)
 |_=>True
theorem yZ {n:Nat} {S:Nat->Bool}:∀(r:List Nat) (a:Nat) (f:Nat->Nat->Int),(∀x∈a::r,x<n)->ly n S (lu f (a::r))=ly n S f+bi (S a)-bi (S ((a::r).getLast (by simp)))
 |[],a,f,_=>by simp[lu]
 |b::r,a,f,h=>by
  rw[lu,yZ r b (jY f a b) fun x hx=>h x (List.mem_cons_of_mem _ hx),Ec (h a (by simp)) (h b (by simp)),List.getLast_cons_cons]
  generalize bi (S b)=q
  omega
theorem pJ.less {f g c:Nat->Nat->Int}:∀{p:List Nat},pJ f c p->(∀u,u∈p->∀v,g u v<=f u v)->pJ g c p
 |[],_,_=>trivial
 |[_],_,_=>trivial
 |a::b::r,h,hl=>⟨Int.lt_of_le_of_lt (hl a (by simp) b) h.1,pJ.less (p:=b::r) h.2 fun u hu=>hl u (List.mem_cons_of_mem _ hu)⟩
theorem CQ {n:Nat} {c:Nat->Nat->Int}:∀(p:List Nat) (f:Nat->Nat->Int),p.Nodup->pJ f c p->(∀u v,u<n->v<n->f u v<=c u v)->∀u v,u<n->v<n->lu f p u v<=c u v
 |[],f,_,_,h=>h
 |[_],f,_,_,h=>h
 |a::b::r,f,hn,hr,h=>by
  rw[lu]
  have sa:a∉b::r:=(List.nodup_cons.1 hn).1
  refine CQ (b::r) _ (List.nodup_cons.1 hn).2 (hr.2.less fun u hu v=>?_) fun u v hu hv=>?_
  ·unfold jY gF
   have:u≠a:=by rintro rfl;exact sa hu
   simp only[this,false_and,if_false]
   split<;>omega
  ·have h0:=h u v hu hv
   have h1:=hr.1
   unfold jY gF
   by_cases e:u=a/\v=b
   ·obtain⟨rfl,rfl⟩:=e
    rw[if_pos ⟨rfl,rfl⟩];split<;>omega
   ·rw[if_neg e];split<;>omega
structure mC (n:Nat) (c f:Nat->Nat->Int) (x y:Nat) (val:Int):Prop where
 le:∀u v,u<n->v<n->f u v<=c u v
 cut:∀S:Nat->Bool,S x=true->S y=false->ly n S f=val
theorem mC.zero {n:Nat} {c:Nat->Nat->Int} {x y:Nat} (h:∀u v,u<n->v<n->0<=c u v):mC n c (fun _ _=>0) x y 0:=
 ⟨h,fun S _ _=>jw fun u hu=>jw fun v hv=>by split<;>rfl⟩
theorem mC.aug {n:Nat} {c f:Nat->Nat->Int} {x y:Nat} {val:Int} (h:mC n c f x y val) {r:List Nat} (hl:(x::r).getLast (by simp)=y) (hn:(x::r).Nodup) (hr:pJ f c (x::r)) (hb:∀v∈x::r,v<n):mC n c (lu f (x::r)) x y (val+1):=
 ⟨CQ _ _ hn hr h.le,fun S hx hy=>by rw[yZ r x f hb,hl,h.cut S hx hy,hx,hy];simp[bi]⟩
theorem mC.bound {n:Nat} {c f:Nat->Nat->Int} {x y:Nat} {val:Int} (h:mC n c f x y val) {S:Nat->Bool} (hx:S x=true) (hy:S y=false):val<=ly n S c:=by
 rw[<-h.cut S hx hy];exact I0 h.le
theorem mC.full {n:Nat} {c f:Nat->Nat->Int} {x y:Nat} {val:Int} (h:mC n c f x y val) {S:Nat->Bool} (hx:S x=true) (hy:S y=false) (hS:∀u v,u<n->v<n->S u=true->S v=false->¬f u v<c u v):val=ly n S c:=by
 rw[<-h.cut S hx hy]
 exact IZ fun u v hu hv h1 h2=>by have:=hS u v hu hv h1 h2;have:=h.le u v hu hv;omega
structure PB where
 a:Nat
 b:Nat
 s:Int
 deriving Inhabited
def bV (bs:List PB) (i:Nat):PB:=bs.getD i default
def iH (S:Nat->Bool) (bs:List PB):Int:=(bs.map fun b=>if S b.a=S b.b then 0 else b.s).sum
def mP (c:Nat->Nat->Int) (b:PB):Nat->Nat->Int:=gF (gF c b.a b.b b.s) b.b b.a b.s
def kB (bs:List PB):Nat->Nat->Int:=bs.foldl mP fun _ _=>0
theorem Cm (bs:List PB) (b:PB):kB (bs++[b])=mP (kB bs) b:=by simp[kB]
theorem zb {n:Nat} {S:Nat->Bool}:∀(bs:List PB) (c:Nat->Nat->Int),(∀b∈bs,b.a<n/\b.b<n)->ly n S (bs.foldl mP c)=ly n S c+iH S bs
 |[],c,_=>by simp[iH]
 |b::bs,c,h=>by
  have hb:=h b (by simp)
  rw[List.foldl_cons,zb bs _ fun x hx=>h x (List.mem_cons_of_mem _ hx)]
  unfold mP iH
  rw[n9 hb.2 hb.1,n9 hb.1 hb.2,List.map_cons,List.sum_cons]
  cases S b.a<;>cases S b.b<;>simp<;>omega
theorem zd {n:Nat} {S:Nat->Bool} {bs:List PB} (h:∀b∈bs,b.a<n/\b.b<n):ly n S (kB bs)=iH S bs:=by
 rw[kB,zb bs _ h]
 have:ly n S (fun _ _=>0)=0:=jw fun u hu=>jw fun v hv=>by split<;>rfl
 omega
theorem yf:∀(bs:List PB) (c:Nat->Nat->Int),(∀b∈bs,0<=b.s)->(∀u v,0<=c u v)->∀u v,0<=bs.foldl mP c u v
 |[],c,_,h=>h
 |b::bs,c,hb,h=>by
  rw[List.foldl_cons]
  refine yf bs _ (fun x hx=>hb x (List.mem_cons_of_mem _ hx)) fun u v=>?_
  have:=hb b (by simp);have:=h u v
  unfold mP gF
  split<;>split<;>omega
theorem room_le:∀(bs:List PB) (c:Nat->Nat->Int) (m:Int),(∀b∈bs,b.s<=4)->(∀u v,c u v<=m)->0<=m->∀u v,bs.foldl mP c u v<=m+8*bs.length
 |[],c,m,_,h,_=>fun u v=>by have:=h u v;simp;omega
 |b::bs,c,m,hb,h,h0=>fun u v=>by
  rw[List.foldl_cons]
  have:=room_le bs (mP c b) (m+8) (fun x hx=>hb x (List.mem_cons_of_mem _ hx)) (fun u v=>by
   have:=hb b (by simp);have:=h u v
   unfold mP gF
   split<;>split<;>omega) ab u v
  simp only[List.length_cons];omega
def kc (n:Nat) (bs:List PB) (t:Int):Prop:=∀S:Nat->Bool,S 0=true->(∃y,y<n/\S y=false)->t<=iH S bs
def D9 (S:Nat->Bool) (bs:List PB) (f:Nat->Int):Int:=lg (fun i=>f i*(bi (S (bV bs i).a)-bi (S (bV bs i).b))) bs.length
structure jD (bs:List PB) (f:Nat->Int) (x y:Nat) (val:Int):Prop where
 le:∀i,i<bs.length->f i<=(bV bs i).s/\-(bV bs i).s<=f i
 cut:∀S:Nat->Bool,S x=true->S y=false->D9 S bs f=val
theorem tA (S:Nat->Bool):∀bs:List PB,iH S bs=lg (fun i=>if S (bV bs i).a=S (bV bs i).b then 0 else(bV bs i).s) bs.length:=by
 intro bs
 have key:∀n,n<=bs.length->iH S (bs.take n)=lg (fun i=>if S (bV bs i).a=S (bV bs i).b then 0 else(bV bs i).s) n:=by
  intro n
  induction n with
  |zero=>intro _;rfl
  |succ n ih=>
   intro h
   have e:bV bs n=bs[n]:=by simp[bV,List.getD_eq_getElem?_getD,List.getElem?_eq_getElem (show n<bs.length by omega)]
   rw[List.take_succ_eq_append_getElem ab,lg,<-ih ab,e]
   unfold iH
   rw[List.map_append,List.sum_append]
   simp only[List.map_cons,List.map_nil,List.sum_cons,List.sum_nil,Int.add_zero]
 have:=key bs.length (Nat.le_refl _)
 rwa [List.take_length]at this
theorem jD.bound {bs:List PB} {f:Nat->Int} {x y:Nat} {val:Int} (h:jD bs f x y val) {S:Nat->Bool} (hx:S x=true) (hy:S y=false):val<=iH S bs:=by
 rw[<-h.cut S hx hy,tA]
 refine qF fun i hi=>?_
 have:=h.le i hi
 cases S (bV bs i).a<;>cases S (bV bs i).b<;>simp[bi]<;>omega
def fo (bs:List PB) (f:Nat->Int) (i u:Nat):Int:=if (bV bs i).a=u then(bV bs i).s-f i else(bV bs i).s+f i
def bz (bs:List PB) (i u:Nat):Nat:=if (bV bs i).a=u then(bV bs i).b else(bV bs i).a
theorem jD.full {bs:List PB} {f:Nat->Int} {x y:Nat} {val:Int} (h:jD bs f x y val) {S:Nat->Bool} (hx:S x=true) (hy:S y=false)
  (hS:∀i,i<bs.length->((bV bs i).a≠(bV bs i).b->(S (bV bs i).a=true->S (bV bs i).b=false->¬0<fo bs f i (bV bs i).a)/\(S (bV bs i).b=true->S (bV bs i).a=false->¬0<fo bs f i (bV bs i).b))):val=iH S bs:=by
 rw[<-h.cut S hx hy,tA]
 refine gO fun i hi=>?_
 have h1:=h.le i hi
 by_cases sa:(bV bs i).a=(bV bs i).b
 ·rw[sa];simp
 ·have h2:=hS i hi sa
  unfold fo at h2
  rw[if_pos rfl,if_neg sa]at h2
  cases ha:S (bV bs i).a<;>cases hb:S (bV bs i).b<;>rw[ha,hb]at h2<;>simp[bi]at h2 ⊢ <;>omega
def sn (bs:List PB) (f:Nat->Int) (i u:Nat):Nat->Int:=fun j=>f j+if j=i then(if (bV bs i).a=u then 1 else -1)else 0
theorem Ea {S:Nat->Bool} {bs:List PB} {f:Nat->Int} {i u:Nat} (hi:i<bs.length) (hu:(bV bs i).a=u∨(bV bs i).b=u):D9 S bs (sn bs f i u)=D9 S bs f+bi (S u)-bi (S (bz bs i u)):=by
 unfold D9 sn
 have e:∀j,j<bs.length->(f j+if j=i then(if (bV bs i).a=u then 1 else -1)else 0)*(bi (S (bV bs j).a)-bi (S (bV bs j).b))=(fun j=>f j*(bi (S (bV bs j).a)-bi (S (bV bs j).b))) j+if j=i then(if (bV bs i).a=u then 1 else -1)*(bi (S (bV bs i).a)-bi (S (bV bs i).b))else 0:=by
  intro j hj
  by_cases h:j=i
  ·subst h;simp only[if_true];rw[Int.add_mul]
  ·simp only[h,if_false];simp
 rw[gO e,ox,if_pos hi]
 unfold bz
 by_cases ha:(bV bs i).a=u
 ·rw[if_pos ha,if_pos ha,ha];omega
 ·rw[if_neg ha,if_neg ha]
  rcases hu with hu|hu
  ·exact absurd hu ha
  ·rw[hu];omega
theorem nL:∀(n:Nat) (l:List Nat),l.Nodup->(∀x∈l,x<n)->l.length<=n
 |0,l,_,h=>by
  cases l with
  |nil=>simp
  |cons x l=>exact absurd (h x (by simp)) ab
 |n+1,l,hn,h=>by
  have h1:=nL n (l.erase n) (hn.erase _) fun x hx=>by
   have h2:=(hn.mem_erase_iff).1 hx
   have h3:=h x h2.2
   have h4:=h2.1
   omega
  rw[List.length_erase]at h1
  split at h1<;>omega
def eF (L:Nat->Nat) (b:PB):Nat->Nat:=fun k=>if L k=max (L b.a) (L b.b)then min (L b.a) (L b.b)else L k
def dV (bs:List PB):Nat->Nat:=bs.foldl eF id
theorem tZ (bs:List PB) (b:PB):dV (bs++[b])=eF (dV bs) b:=by simp[dV]
structure ji (L:Nat->Nat):Prop where
 le:∀k,L k<=k
 idem:∀k,L (L k)=L k
theorem ji.step {L:Nat->Nat} (h:ji L) (b:PB):ji (eF L b):=by
 have ha:=h.idem b.a
 have hb:=h.idem b.b
 refine⟨fun k=>?_,fun k=>?_⟩
 ·have:=h.le k
  unfold eF
  split<;>omega
 ·have hk:=h.idem k
  have hm:L (min (L b.a) (L b.b))=min (L b.a) (L b.b):=by
   rcases Nat.le_total (L b.a) (L b.b)with h1|h1
   ·rw[Nat.min_eq_left h1,ha]
   ·rw[Nat.min_eq_right h1,hb]
  unfold eF
  by_cases h1:L k=max (L b.a) (L b.b)
  ·rw[if_pos h1,hm];split<;>rfl
  ·rw[if_neg h1,hk,if_neg h1]
theorem ua:∀(bs:List PB) (L:Nat->Nat),ji L->ji (bs.foldl eF L)
 |[],_,h=>h
 |b::bs,L,h=>ua bs _ (h.step b)
theorem si (bs:List PB):ji (dV bs):=ua bs id ⟨fun _=>Nat.le_refl _,fun _=>rfl⟩
def leads (n:Nat) (L:Nat->Nat):List Nat:=(List.range n).filter fun i=>L i==i
def members (n:Nat) (L:Nat->Nat) (i:Nat):List Nat:=(List.range n).filter fun k=>L k==i
def e9 (n:Nat) (L:Nat->Nat):List (List Nat):=(leads n L).map (members n L)
def bx (L:Nat->Nat) (k:Nat):Nat:=(leads (L k) L).length
theorem gj (n:Nat) (L:Nat->Nat):leads (n+1) L=leads n L++if L n=n then[n]else[]:=by
 unfold leads
 rw[List.range_succ,List.filter_append]
 congr 1
 by_cases h:L n=n<;>simp[h]
theorem iV (n:Nat) (L:Nat->Nat) (i:Nat):members (n+1) L i=members n L i++if L n=i then[n]else[]:=by
 unfold members
 rw[List.range_succ,List.filter_append]
 congr 1
 by_cases h:L n=i<;>simp[h]
theorem mc {L:Nat->Nat} (h:ji L) {n i:Nat} (hn:n<=i):members n L i=[]:=by
 unfold members
 rw[List.filter_eq_nil_iff]
 intro k hk
 have:=h.le k
 have:=List.mem_range.1 hk
 simp;omega
theorem sj (n:Nat) (L:Nat->Nat):(leads n L).Nodup:=List.nodup_range.filter _
theorem wP {n:Nat} {L:Nat->Nat} {i:Nat}:i∈leads n L↔i<n/\L i=i:=by simp[leads]
theorem kW {n:Nat} {L:Nat->Nat} {i k:Nat}:k∈members n L i↔k<n/\L k=i:=by simp[members]
theorem EX {L:Nat->Nat} {m n:Nat} (h:m<=n):∃r,leads n L=leads m L++r:=by
 obtain⟨d,rfl⟩:=Nat.le.dest h
 clear h
 induction d with
 |zero=>exact⟨[],by simp⟩
 |succ d ih=>
  obtain⟨r,hr⟩:=ih
  exact⟨r++if L (m+d)=m+d then[m+d]else[],by rw[<-Nat.add_assoc,gj,hr,List.append_assoc]⟩
theorem oh {L:Nat->Nat} (h:ji L) {n k:Nat} (hk:k<n):(leads n L)[bx L k]? =some (L k):=by
 have h1:=h.le k
 obtain⟨r,hr⟩:=EX (L:=L) (show L k+1<=n by omega)
 rw[hr,gj,if_pos (h.idem k),List.append_assoc]
 unfold bx
 rw[List.getElem?_append_right (Nat.le_refl _),Nat.sub_self];rfl
theorem jK {L:Nat->Nat} (h:ji L) {n k:Nat} (hk:k<n):bx L k<(leads n L).length:=(List.getElem?_eq_some_iff.1 (oh h hk)).1
theorem rF {L:Nat->Nat} (h:ji L) {n k i:Nat} (hk:k<n) (hi:i<(leads n L).length):k∈members n L (leads n L)[i]↔bx L k=i:=by
 rw[kW]
 have h1:=oh h hk
 rw[List.getElem?_eq_getElem (jK h hk)]at h1
 injection h1 with h1
 constructor
 ·rintro⟨_,h2⟩
  rw[<-h1]at h2
  exact(List.getElem_inj (sj n L)).1 h2
 ·rintro rfl
  exact⟨hk,h1.symm⟩
def dk (L:Nat->Nat) (bs:List PB):List PB:=bs.filterMap fun b=>if bx L b.a=bx L b.b then none else some ⟨bx L b.a,bx L b.b,b.s⟩
def eR (L:Nat->Nat) (bs:List PB):List PB:=bs.filterMap fun b=>if bx L b.a=bx L b.b then none else some ⟨min (bx L b.a) (bx L b.b),max (bx L b.a) (bx L b.b),b.s⟩
theorem yg (L:Nat->Nat) (bs:List PB) (b:PB):dk L (bs++[b])=dk L bs++if bx L b.a=bx L b.b then[]else[⟨bx L b.a,bx L b.b,b.s⟩]:=by
 unfold dk
 rw[List.filterMap_append]
 congr 1
 by_cases h:bx L b.a=bx L b.b<;>simp[h]
theorem yh (L:Nat->Nat) (bs:List PB) (b:PB):eR L (bs++[b])=eR L bs++if bx L b.a=bx L b.b then[]else[⟨min (bx L b.a) (bx L b.b),max (bx L b.a) (bx L b.b),b.s⟩]:=by
 unfold eR
 rw[List.filterMap_append]
 congr 1
 by_cases h:bx L b.a=bx L b.b<;>simp[h]
theorem re (S:Nat->Bool) (b:PB) (bs:List PB):iH S (b::bs)=(if S b.a=S b.b then 0 else b.s)+iH S bs:=by simp[iH]
theorem wb (S:Nat->Bool) (L:Nat->Nat):∀bs:List PB,iH S (eR L bs)=iH S (dk L bs)
 |[]=>rfl
 |b::bs=>by
  have ih:=wb S L bs
  unfold eR dk at ih ⊢
  rw[List.filterMap_cons,List.filterMap_cons]
  by_cases h:bx L b.a=bx L b.b
  ·simp only[h,if_true];exact ih
  ·simp only[h,if_false]
   rw[re,re,ih]
   congr 1
   simp only
   rcases Nat.le_total (bx L b.a) (bx L b.b)with h1|h1
   ·rw[Nat.min_eq_left h1,Nat.max_eq_right h1]
   ·rw[Nat.min_eq_right h1,Nat.max_eq_left h1]
    cases S (bx L b.a)<;>cases S (bx L b.b)<;>rfl
theorem Cr {L:Nat->Nat} (h:ji L) {n:Nat} {bs:List PB} (hb:∀b∈bs,b.a<n/\b.b<n):∀b∈dk L bs,b.a<(leads n L).length/\b.b<(leads n L).length/\b.a≠b.b/\∃c∈bs,b.s=c.s:=by
 intro b hm
 unfold dk at hm
 obtain⟨c,hc,he⟩:=List.mem_filterMap.1 hm
 split at he
 ·cases he
 ·rename_i gU
  simp only[Option.some.injEq]at he
  subst he
  exact⟨jK h (hb c hc).1,jK h (hb c hc).2,gU,c,hc,rfl⟩
theorem Ct {L:Nat->Nat} (h:ji L) {n:Nat} {bs:List PB} (hb:∀b∈bs,b.a<n/\b.b<n):∀b∈eR L bs,b.a<(leads n L).length/\b.b<(leads n L).length/\b.a≠b.b/\∃c∈bs,b.s=c.s:=by
 intro b hm
 unfold eR at hm
 obtain⟨c,hc,he⟩:=List.mem_filterMap.1 hm
 split at he
 ·cases he
 ·rename_i gU
  simp only[Option.some.injEq]at he
  subst he
  have h1:=jK h (hb c hc).1
  have h2:=jK h (hb c hc).2
  refine⟨by simp only;omega,by simp only;omega,by simp only;omega,c,hc,rfl⟩
theorem ml (L:Nat->Nat) (bs:List PB):(dk L bs).length<=bs.length/\(eR L bs).length<=bs.length:=⟨List.length_filterMap_le ..,List.length_filterMap_le ..⟩
theorem jr (n:Nat) (L:Nat->Nat):(leads n L).length<=n:=by
 have:=List.length_filter_le (fun i=>L i==i) (List.range n)
 simpa[leads]using this
def aE (t:Int) (bs:List PB):List PB:=bs.filter fun b=>decide (t<=b.s)
def nY (n:Nat) (bs:List PB) (t:Int):Prop:=
 (leads n (dV (aE t bs))).length<=64/\kc (leads n (dV (aE t bs))).length (dk (dV (aE t bs)) bs) t
theorem BG {n:Nat} {L:Nat->Nat} {bs:List PB} {t:Int}:kc n (eR L bs) t↔kc n (dk L bs) t:=by
 unfold kc
 constructor<;>intro h S h0 hy<;>have:=h S h0 hy<;>rw[wb]at *<;>exact this
end Go.Proofs.YtihgaadadaekmaaGreat.V

namespace Go.Proofs.YtihgaadadaekmaaGreat.V
open Go.RowKit
attribute [local irreducible] eb wpOps gH Call
attribute [local go_sem] aM fI eM fX fV cE upd cm K.av cK AV.cells AV.cell rowOf rowsOf part ld rowAt bS bZ dH ei ij bK dc eA fZ e8 du ep cY cX dU dW bQ bf cQ bP cT cR ek er eo cP bU cZ ej bL aQ cV cw ig bt cH bR bc dF bq dI AV.undef bD bF dX eh dQ dZ cF ez eE cr ev eu cU cW List.getD_cons_zero List.getD_cons_succ List.getD_nil List.all_cons List.all_nil Bool.and_true Bool.true_and Bool.and_self Bool.not_true Bool.not_false Option.map_some Option.map_none Option.bind_some Option.bind_none List.length_cons List.length_nil List.take_succ_cons List.take_zero List.take_nil List.drop_succ_cons List.drop_zero List.drop_nil List.head?_cons List.map_cons List.map_nil List.getElem?_cons_zero List.getElem?_cons_succ List.cons_append List.nil_append List.append_nil List.length_map List.set_cons_zero List.set_cons_succ Nat.reduceMul eq_self Int.toNat_natCast Int.natCast_nonneg and_self true_and and_true decide_true decide_false Bool.false_eq_true Nat.zero_add Nat.add_zero List.contains_cons List.contains_nil Bool.or_false Bool.false_or beq_self_eq_true Nat.reduceBEq ne_eq not_true_eq_false not_false_eq_true Id.mk.injEq false_and and_false Nat.reduceLT Int.reduceLE Int.reduceLT Int.reduceToNat Int.reduceNeg Int.reduceAdd Nat.le_refl List.length_append beq_true beq_false Bool.not_eq_eq_eq_not or_false false_or dD ad aj aH bC b4 aX bo aY bl cL bE
def ax (b:PB):List AV:=[.int .i64 b.a,.int .i64 b.b,.int .i64 b.s]
theorem Lg:∀b:PB,(ax b).length=3/\(ax b).all AV.cell=true:=fun _=>⟨rfl,rfl⟩
theorem xD (g:Rows) (n:Nat) (b:PB):cq g (n+1) (ax b)=some (ax b):=by simp[ax,ad,aj,aH]
theorem sZ (g:Rows) (n:Nat) (b:PB):dB g (n+1) (ax b)=some (ax b):=by simp[ax,aC,aL,cC]
theorem Gs:N3 ax (fun c=>.agg (ax c)) 3 true:=⟨fun _=>rfl,fun _=>rfl,fun x g=>by simp only[ax,ad,aj,bo,aH,Option.map_some]⟩
def lZ (s:aq) (l:List ak) (i:Nat) (d:Int):List PB:=
 if 0<=fK l (eL (bB l i).cI d)/\0<iP s (bB l i).bJ d (bB l (fK l (eL (bB l i).cI d)).toNat).bJ then
  [⟨i,(fK l (eL (bB l i).cI d)).toNat,iP s (bB l i).bJ d (bB l (fK l (eL (bB l i).cI d)).toNat).bJ⟩]else[]
def fD (s:aq) (l:List ak) (i m:Nat):List PB:=(List.range m).flatMap fun j:Nat=>lZ s l i (1-(j:Int))
def gh (s:aq) (l:List ak) (n:Nat):List PB:=(List.range n).flatMap fun i=>fD s l i 2
def cu (s:aq) (l:List ak):List PB:=gh s l l.length
theorem oH (s:aq) (l:List ak) (i m:Nat):fD s l i (m+1)=fD s l i m++lZ s l i (1-(m:Int)):=by simp[fD,List.range_succ]
theorem pP (s:aq) (l:List ak) (n:Nat):gh s l (n+1)=gh s l n++fD s l n 2:=by simp[gh,List.range_succ]
theorem AS (s:aq) (l:List ak) (i:Nat) (d:Int):(lZ s l i d).length<=1:=by unfold lZ;split<;>simp
theorem pO (s:aq) (l:List ak) (i m:Nat):(fD s l i m).length<=m:=by
 induction m with
 |zero=>simp[fD]
 |succ m ih=>rw[oH,List.length_append];have:=AS s l i (1-(m:Int));omega
theorem rV (s:aq) (l:List ak) (n:Nat):(gh s l n).length<=2*n:=by
 induction n with
 |zero=>simp[gh]
 |succ n ih=>rw[pP,List.length_append];have:=pO s l n 2;omega
def sB:Id->Prop:=fun o=>o.site=123001000∨o.site=123012006
theorem BU (s:aq) (l:List ak) (hS:fQ s) (hA:lT s l):ah Tryz.prog 123 [.de (aa s),.de [.sl (l.map ai)]] (.sl ((cu s l).map ax)):=by
 refine ah.body dY rfl fun hl n0=>?_
 clear hl
 have hF:=hA.1
 have OL:=hF.FN
 (try((repeat(revert hN;revert N;apply Pn.out));refine wk @Nat.zero_add ?_;(repeat(refine Pn.mk ?_;intro N hN))))
 refine aT (fun n env st=>∃k:Nat,n=(l.length)-k/\k<=(l.length)/\env 6=.int .i64 (k:Int)/\(lU ax 3 (env 5) st.get sB (gh s l k))) (l.length) ⟨0,ab,ab,sl @Nat.zero_add,⟨⟨123001000,n0+1⟩,.inl rfl,by simp only[go_sem, ↓reduceIte,Nat.reduceEqDiff,Nat.reduceAdd,Nat.reduceSub,Nat.reduceLeDiff,reduceCtorEq];rfl,by simp only[go_sem, ↓reduceIte,Nat.reduceEqDiff,Nat.reduceAdd,Nat.reduceSub,Nat.reduceLeDiff,reduceCtorEq];rfl⟩⟩ ?_
 rintro n_a env_a st_a ⟨k,rfl,ale,a6,k5⟩ dE
 have a0:=dE 0 (by kernel_rfl);have a1:=dE 1 (by kernel_rfl)
 simp only[go_sem, ↓reduceIte,Nat.reduceEqDiff,Nat.reduceAdd,Nat.reduceSub,Nat.reduceLeDiff,reduceCtorEq]at a0 a1
 clear dE
 by_cases hk:(k:Int)<(l.length:Int)
 ·have bW:∀{e:Env} {gg:Rows},(e 6=.int .i64 (IntKind.i64.wrap ((k:Int)+1)))->(lU ax 3 (e 5) gg sB (gh s l (k+1)))->∃m0,m0<(l.length)-k/\∃k:Nat,m0=(l.length)-k/\k<=(l.length)/\e 6=.int .i64 (k:Int)/\(lU ax 3 (e 5) gg sB (gh s l k)):=fun x1 x2=>⟨_,ab,k+1,rfl,ab,(by rw[x1,aA ab]),x2⟩
  have fw:k<l.length:=ab
  have eO:=gz fw
  have hul:=rV s l k
  (try((repeat(revert hN;revert N;apply Pn.out));refine wk (tw @a6 (tw @a0 (tw @a1 @hk))) ?_;(repeat(refine Pn.mk ?_;intro N hN))))
  refine aT (fun n env st=>∃m:Nat,n=(2)-m/\m<=(2)/\env 7=(.int .i64 (1-(m:Int)))/\(lU ax 3 (env 5) st.get sB (gh s l k++fD s l k m))) (2) ⟨0,ab,ab,sl (tw @a6 (tw @a0 @a1)),by(simp only[go_sem, ↓reduceIte,Nat.reduceEqDiff,Nat.reduceAdd,Nat.reduceSub,Nat.reduceLeDiff,reduceCtorEq];exact k5.cast (by simp[fD]))⟩ ?_
  rintro n_b env_b st_b ⟨m,rfl,ble,b7,bI0⟩ bfr
  have b0:=bfr 0 (by kernel_rfl);have b1:=bfr 1 (by kernel_rfl);have b6:=bfr 6 (by kernel_rfl)
  simp only[go_sem, ↓reduceIte,Nat.reduceEqDiff,Nat.reduceAdd,Nat.reduceSub,Nat.reduceLeDiff,reduceCtorEq,a6,a0,a1]at b0 b1 b6
  clear bfr
  have Qi:=pO s l k m
  have kV:=oH s l k m
  by_cases hm:(m:Int)<2
  ·have jX:∀{e:Env} {gg:Rows},(e 7=(.int .i64 (1-((m+1):Int))))->(lU ax 3 (e 5) gg sB (gh s l k++fD s l k (m+1)))->∃m0,m0<(2)-m/\∃m:Nat,m0=(2)-m/\m<=(2)/\e 7=(.int .i64 (1-(m:Int)))/\(lU ax 3 (e 5) gg sB (gh s l k++fD s l k m)):=fun x1 x2=>⟨_,ab,m+1,rfl,ab,x1,x2⟩
   have jO:(0:Int)<=1-(m:Int):=ab
   have hd:g9 (1-(m:Int)) 0 3=true:=nI ab
   have hw:IntKind.i64.wrap (1-(m:Int)-1)=1-((m:Int)+1):=by rw[bd ab];omega
   have NK:=vL l hF k (1-(m:Int)) fw hd
   unfold lZ at kV
   have hT:=hA.2 _ (nP fw)
   generalize Ey:fK l (eL (bB l k).cI (1-(m:Int)))=ix at *
   by_cases hi:ix<0
   ·rw[if_neg ab,List.append_nil]at kV
    (repeat(first|((repeat(revert hN;revert N;apply Pn.out));refine wk (tw @b7 (tw @b0 (tw @b1 (tw @b6 (tw @jO (tw @hw @hi)))))) ?_;(repeat(refine Pn.mk ?_;intro N hN)))|((try apply Or.inl);refine⟨_,ah.x (NK) (sd (tw @b7 (tw @b0 (tw @b1 (tw @b6 (tw @jO (tw @hw @hi))))))),?_⟩;refine hN _ _ ?_;clear hN N)))
    exact jX (sd (tw @b7 (tw @b0 (tw @b1 (tw @b6 @hw))))) (by(simp only[go_sem, ↓reduceIte,Nat.reduceEqDiff,Nat.reduceAdd,Nat.reduceSub,Nat.reduceLeDiff,reduceCtorEq];exact bI0.cast (by rw[kV])))
   ·have Ew:0<=ix:=ab
    have Me:=og (l:=l) (p:=eL (bB l k).cI (1-(m:Int))) ab
    rw[Ey]at Me
    have oe:=gz Me.1
    have zB:=EO s hS (bB l k).bJ (1-(m:Int)) (bB l ix.toNat).bJ hT (hA.2 _ (nP Me.1)) hd
    generalize Qf:iP s (bB l k).bJ (1-(m:Int)) (bB l ix.toNat).bJ=bv at *
    by_cases hb:0<bv
    ·rw[if_pos ⟨Ew,hb⟩]at kV
     (repeat(first|((repeat(revert hN;revert N;apply Pn.out));refine wa (tw @b7 (tw @b0 (tw @b1 (tw @b6 (tw @jO (tw @hw (tw @hi (tw @Ew (tw @eO (tw @oe (tw @hb @ai.eq_1))))))))))) ?_;(repeat(refine Pn.mk ?_;intro N hN)))|((try apply Or.inl);refine⟨_,ah.x (NK) (sd (tw @b7 (tw @b0 (tw @b1 (tw @b6 (tw @jO (tw @hw (tw @hi (tw @Ew (tw @eO (tw @oe (tw @hb @ai.eq_1)))))))))))),?_⟩;refine hN _ _ ?_;clear hN N)|((try apply Or.inl);refine⟨_,ah.x (zB) (sd (tw @b7 (tw @b0 (tw @b1 (tw @b6 (tw @jO (tw @hw (tw @hi (tw @Ew (tw @eO (tw @oe (tw @hb @ai.eq_1)))))))))))),?_⟩;refine hN _ _ ?_;clear hN N)))
     refine M8 (enc:=ax) (S:=sB) (L:=gh s l k++fD s l k m) (xv:=env_b 5) [⟨k,ix.toNat,bv⟩] rfl rfl (sd @Nat.zero_add) (bI0.frame fun o ho=>by rcases ho with ho|ho<;>simp only[go_sem, ↓reduceIte,Nat.reduceEqDiff,Nat.reduceAdd,Nat.reduceSub,Nat.reduceLeDiff,reduceCtorEq,yi ho]) (sd (tw @ax.eq_1 (Int.toNat_of_nonneg Ew))) Lg (.inr rfl) (by simp only[dI,List.length_append,List.length_cons,List.length_nil];omega) fun v g' hO mN=>?_
     rw[List.append_assoc,<-kV]at hO
     clear mN
     (try((repeat(revert hN;revert N;apply Pn.out));refine wk (tw @b7 (tw @b0 (tw @b1 (tw @b6 @hw)))) ?_;(repeat(refine Pn.mk ?_;intro N hN))))
     exact jX (sd (tw @b7 (tw @b0 (tw @b1 (tw @b6 @hw))))) (by(simp only[go_sem, ↓reduceIte,Nat.reduceEqDiff,Nat.reduceAdd,Nat.reduceSub,Nat.reduceLeDiff,reduceCtorEq];exact hO))
    ·rw[if_neg fun h=>hb h.2,List.append_nil]at kV
     (repeat(first|((repeat(revert hN;revert N;apply Pn.out));refine wk (tw @b7 (tw @b0 (tw @b1 (tw @b6 (tw @jO (tw @hw (tw @hi (tw @Ew (tw @eO (tw @oe (tw @hb @ai.eq_1))))))))))) ?_;(repeat(refine Pn.mk ?_;intro N hN)))|((try apply Or.inl);refine⟨_,ah.x (NK) (sd (tw @b7 (tw @b0 (tw @b1 (tw @b6 (tw @jO (tw @hw (tw @hi (tw @Ew (tw @eO (tw @oe (tw @hb @ai.eq_1)))))))))))),?_⟩;refine hN _ _ ?_;clear hN N)|((try apply Or.inl);refine⟨_,ah.x (zB) (sd (tw @b7 (tw @b0 (tw @b1 (tw @b6 (tw @jO (tw @hw (tw @hi (tw @Ew (tw @eO (tw @oe (tw @hb @ai.eq_1)))))))))))),?_⟩;refine hN _ _ ?_;clear hN N)))
     exact jX (sd (tw @b7 (tw @b0 (tw @b1 (tw @b6 @hw))))) (by(simp only[go_sem, ↓reduceIte,Nat.reduceEqDiff,Nat.reduceAdd,Nat.reduceSub,Nat.reduceLeDiff,reduceCtorEq];exact bI0.cast (by rw[kV])))
  ·have KR:m=2:=ab
   subst KR
   have dR:¬(0:Int)<=1-((2:Nat):Int):=ab
   (try((repeat(revert hN;revert N;apply Pn.out));refine wk (tw @b7 (tw @b0 (tw @b1 (tw @b6 @dR)))) ?_;(repeat(refine Pn.mk ?_;intro N hN))))
   exact bW (sd (tw @a6 (tw @a0 (tw @a1 (tw @b7 (tw @b0 (tw @b1 @b6))))))) (by(simp only[go_sem, ↓reduceIte,Nat.reduceEqDiff,Nat.reduceAdd,Nat.reduceSub,Nat.reduceLeDiff,reduceCtorEq];exact bI0.cast (by rw[pP])))
 ·have lS:k=l.length:=ab
  (try((repeat(revert hN;revert N;apply Pn.out));refine wk (tw @a6 (tw @a0 (tw @a1 @hk))) ?_;(repeat(refine Pn.mk ?_;intro N hN))))
  exact uA (.inl rfl) (by simp only[go_sem, ↓reduceIte,Nat.reduceEqDiff,Nat.reduceAdd,Nat.reduceSub,Nat.reduceLeDiff,reduceCtorEq];rfl) (by rw[lS]at k5;exact k5.fu fun b=>sZ _ _ b)
theorem zQ (a b:Nat):ah Tryz.prog 150 [.int .i64 a,.int .i64 b] (.int .i64 (min a b:Nat)):=by
 refine ah.body dY rfl fun hl n0=>?_
 clear hl
 by_cases h:(a:Int)<(b:Int)
 ·(try((repeat(revert hN;revert N;apply Pn.out));refine wk @h ?_;(repeat(refine Pn.mk ?_;intro N hN))))
  exact bG (b:=(a:Int)) (.inl rfl) (sd @Nat.zero_add) ab
 ·(try((repeat(revert hN;revert N;apply Pn.out));refine wk @h ?_;(repeat(refine Pn.mk ?_;intro N hN))))
  exact bG (b:=(b:Int)) (.inl rfl) (sd @Nat.zero_add) ab
theorem zP (a b:Nat):ah Tryz.prog 151 [.int .i64 a,.int .i64 b] (.int .i64 (max a b:Nat)):=by
 refine ah.body dY rfl fun hl n0=>?_
 clear hl
 by_cases h:(b:Int)<(a:Int)
 ·(try((repeat(revert hN;revert N;apply Pn.out));refine wk @h ?_;(repeat(refine Pn.mk ?_;intro N hN))))
  exact bG (b:=(a:Int)) (.inl rfl) (sd @Nat.zero_add) ab
 ·(try((repeat(revert hN;revert N;apply Pn.out));refine wk @h ?_;(repeat(refine Pn.mk ?_;intro N hN))))
  exact bG (b:=(b:Int)) (.inl rfl) (sd @Nat.zero_add) ab
def dw (f:Nat->Nat) (n:Nat):List (List AV):=(List.range n).map fun i=>eN (f i)
theorem fF (f:Nat->Nat) (n:Nat):(dw f n).length=n:=by simp[dw]
theorem e6 {f:Nat->Nat} {n i:Nat} (h:i<n):(dw f n)[i]? =some (eN (f i)):=by simp[dw,h]
theorem gr {f g:Nat->Nat} {n:Nat} (h:∀i,i<n->f i=g i):dw f n=dw g n:=List.map_congr_left fun i hi=>by rw[h i (List.mem_range.1 hi)]
theorem oy {f g:Nat->Nat} {n k v:Nat} (hk:k<n) (hv:g k=v) (h:∀i,i<n->i≠k->g i=f i):(dw f n).set k (eN v)=dw g n:=by
 refine List.ext_getElem? fun i=>?_
 rw[List.getElem?_set]
 by_cases hi:k=i
 ·subst hi
  rw[if_pos rfl,fF,if_pos hk,e6 hk,hv]
 ·rw[if_neg hi]
  by_cases fJ:i<n
  ·rw[e6 fJ,e6 fJ,h i fJ (fun h=>hi h.symm)]
  ·rw[List.getElem?_eq_none (by rw[fF];omega),List.getElem?_eq_none (by rw[fF];omega)]
theorem zR (cnt:Nat) (hn:cnt<=1048576) (bs:List PB) (hb:∀b∈bs,b.a<cnt/\b.b<cnt) (pD:bs.length<=1048576):ah Tryz.prog 149 [.int .i64 cnt,.sl (bs.map ax)] (.sl ((e9 cnt (dV bs)).map yF)):=by
 refine ah.body dY rfl fun hl n0=>?_
 clear hl
 (try((repeat(revert hN;revert N;apply Pn.out));refine wk @Nat.zero_add ?_;(repeat(refine Pn.mk ?_;intro N hN))))
 refine aT (fun n env st=>∃k:Nat,n=(cnt)-k/\k<=(cnt)/\env 6=.int .i64 (k:Int)/\(∃o:Id,env 5=.own o 0 k/\st.get o=some ⟨true,1,dw id k⟩/\o.bY<st.next)) (cnt) ⟨0,ab,ab,sl @Nat.zero_add,⟨⟨149001000,n0+1⟩,sd @Nat.zero_add,by simp only[go_sem, ↓reduceIte,Nat.reduceEqDiff,Nat.reduceAdd,Nat.reduceSub,Nat.reduceLeDiff,reduceCtorEq];rfl,bw⟩⟩ ?_
 rintro n_a env_a st_a ⟨k,rfl,ale,a6,k5⟩ dE
 have a0:=dE 0 (by kernel_rfl);have a1:=dE 1 (by kernel_rfl)
 simp only[go_sem, ↓reduceIte,Nat.reduceEqDiff,Nat.reduceAdd,Nat.reduceSub,Nat.reduceLeDiff,reduceCtorEq]at a0 a1
 clear dE
 obtain⟨o,a5,ag,se⟩:=k5
 have tl:=fF id k
 have qQ:=eC se
 by_cases hk:(k:Int)<(cnt:Int)
 ·have bW:∀{e:Env} {gg:Rows} {nx:Nat},(e 6=.int .i64 (IntKind.i64.wrap ((k:Int)+1)))->(∃o:Id,e 5=.own o 0 (k+1)/\gg o=some ⟨true,1,dw id (k+1)⟩/\o.bY<nx)->∃m0,m0<(cnt)-k/\∃k:Nat,m0=(cnt)-k/\k<=(cnt)/\e 6=.int .i64 (k:Int)/\(∃o:Id,e 5=.own o 0 k/\gg o=some ⟨true,1,dw id k⟩/\o.bY<nx):=fun x1 x2=>⟨_,ab,k+1,rfl,ab,(by rw[x1,aA ab]),x2⟩
  have fw:k<cnt:=ab
  have e1:k+1<=16777216:=ab
  have rr:dw id k++[[.int .i64 (k:Int)]]=dw id (k+1):=by simp[dw,List.range_succ,eN]
  (try((repeat(revert hN;revert N;apply Pn.out));refine wk (tw @a6 (tw @a0 (tw @a1 (tw @a5 (tw @ag (tw @qQ (tw @hk (tw @tl (tw @e1 @rr))))))))) ?_;(repeat(refine Pn.mk ?_;intro N hN))))
  exact bW (sd (tw @a6 (tw @a0 @a1))) (⟨⟨149005003,st_a.next+1⟩,sd @Nat.zero_add,sd @rr,bw⟩)
 have lS:k=cnt:=ab
 subst lS
 have RV:st_a.get o=some ⟨true,1,dw (dV (bs.take 0)) k⟩:=ag
 clear ag
 (try((repeat(revert hN;revert N;apply Pn.out));refine wk (tw @a6 (tw @a0 (tw @a1 @hk))) ?_;(repeat(refine Pn.mk ?_;intro N hN))))
 refine aT (fun n env st=>∃j:Nat,n=(bs.length)-j/\j<=(bs.length)/\env 7=.int .i64 (j:Int)/\st.get o=some ⟨true,1,dw (dV (bs.take j)) k⟩/\(o.bY<st.next)) (bs.length) ⟨0,ab,ab,sl (tw @a6 (tw @a0 (tw @a1 (tw @a5 @RV)))),sl (tw @a6 (tw @a0 (tw @a1 (tw @a5 @RV)))),bw⟩ ?_
 rintro n_b env_b st_b ⟨j,rfl,ble,b7,bg0,bI0⟩ bfr
 have b0:=bfr 0 (by kernel_rfl);have b1:=bfr 1 (by kernel_rfl);have b5:=bfr 5 (by kernel_rfl)
 simp only[go_sem, ↓reduceIte,Nat.reduceEqDiff,Nat.reduceAdd,Nat.reduceSub,Nat.reduceLeDiff,reduceCtorEq,a6,a0,a1,a5,RV]at b0 b1 b5
 clear bfr
 by_cases hj:(j:Int)<(bs.length:Int)
 ·have jX:∀{e:Env} {gg:Rows} {nx:Nat},(e 7=.int .i64 (IntKind.i64.wrap ((j:Int)+1)))->(gg o=some ⟨true,1,dw (dV (bs.take (j+1))) k⟩)->(o.bY<nx)->∃m0,m0<(bs.length)-j/\∃j:Nat,m0=(bs.length)-j/\j<=(bs.length)/\e 7=.int .i64 (j:Int)/\gg o=some ⟨true,1,dw (dV (bs.take j)) k⟩/\(o.bY<nx):=fun x1 x2 x3=>⟨_,ab,j+1,rfl,ab,(by rw[x1,aA ab]),x2,x3⟩
  have gw:j<bs.length:=ab
  have FO:(bs.map ax)[j]? =some (ax bs[j]):=by simp[gw]
  have KH:=hb _ (List.getElem_mem gw)
  have pg:bs.take (j+1)=bs.take j++[bs[j]]:=List.take_succ_eq_append_getElem gw
  have kV:dV (bs.take (j+1))=eF (dV (bs.take j)) bs[j]:=by rw[pg,tZ]
  generalize dV (bs.take j)=L at *
  generalize bs[j]=b at *
  have hA:=e6 (f:=L) KH.1
  have hB:=e6 (f:=L) KH.2
  have P9:=zQ (L b.a) (L b.b)
  have Qa:=zP (L b.a) (L b.b)
  have tl:=fF L k
  have ga:(b.a:Int)<(k:Int):=ab
  have fB:(b.b:Int)<(k:Int):=ab
  (try((repeat(revert hN;revert N;apply Pn.out));refine wk (tw @b7 (tw @bg0 (tw @b0 (tw @b1 (tw @b5 (tw @hj (tw @FO (tw @ax.eq_1 (tw @hA (tw @hB (tw @ga (tw @fB (tw @tl @eN.eq_1))))))))))))) ?_;(repeat(refine Pn.mk ?_;intro N hN))))
  refine aT (fun n env st=>∃i:Nat,n=(k)-i/\i<=(k)/\env 10=.int .i64 (i:Int)/\st.get o=some ⟨true,1,dw (fun x=>if x<i then eF L b x else L x) k⟩/\(o.bY<st.next)) (k) ⟨0,ab,ab,sl (tw @b7 (tw @bg0 (tw @b0 (tw @b1 (tw @b5 @Nat.not_lt_zero))))),sl (tw @b7 (tw @bg0 (tw @b0 (tw @b1 (tw @b5 @Nat.not_lt_zero))))),bw⟩ ?_
  rintro n_c env_c st_c ⟨i,rfl,cle,je,cg0,cI0⟩ cfr
  have c0:=cfr 0 (by kernel_rfl);have c1:=cfr 1 (by kernel_rfl);have c5:=cfr 5 (by kernel_rfl);have c7:=cfr 7 (by kernel_rfl);have c8:=cfr 8 (by kernel_rfl);have c9:=cfr 9 (by kernel_rfl)
  simp only[go_sem, ↓reduceIte,Nat.reduceEqDiff,Nat.reduceAdd,Nat.reduceSub,Nat.reduceLeDiff,reduceCtorEq,b7,bg0,b0,b1,b5,Nat.not_lt_zero]at c0 c1 c5 c7 c8 c9
  clear cfr
  have hC:=e6 (f:=fun x=>if x<i then eF L b x else L x) (n:=k) (i:=i)
  have tc:=fF (fun x=>if x<i then eF L b x else L x) k
  by_cases hi:(i:Int)<(k:Int)
  ·have gD:∀{e:Env} {gg:Rows} {nx:Nat},(e 10=.int .i64 (IntKind.i64.wrap ((i:Int)+1)))->(gg o=some ⟨true,1,dw (fun x=>if x<(i+1)then eF L b x else L x) k⟩)->(o.bY<nx)->∃m0,m0<(k)-i/\∃i:Nat,m0=(k)-i/\i<=(k)/\e 10=.int .i64 (i:Int)/\gg o=some ⟨true,1,dw (fun x=>if x<i then eF L b x else L x) k⟩/\(o.bY<nx):=fun x1 x2 x3=>⟨_,ab,i+1,rfl,ab,(by rw[x1,aA ab]),x2,x3⟩
   have fJ:i<k:=ab
   replace hC:=hC fJ
   rw[if_neg (Nat.lt_irrefl i)]at hC
   by_cases he:L i=max (L b.a) (L b.b)
   ·have s6:decide ((L i:Int)=((max (L b.a) (L b.b):Nat):Int))=true:=decide_eq_true (by rw[he])
    have ew:(dw (fun x=>if x<i then eF L b x else L x) k).set i (eN (min (L b.a) (L b.b)))=dw (fun x=>if x<i+1 then eF L b x else L x) k:=oy fJ (by rw[if_pos ab,eF,if_pos he]) fun x hx AE=>by
     by_cases h:x<i
     ·rw[if_pos h,if_pos ab]
     ·rw[if_neg h,if_neg ab]
    rw[eN]at ew hC
    (repeat(first|((repeat(revert hN;revert N;apply Pn.out));refine wk (tw @je (tw @cg0 (tw @c0 (tw @c1 (tw @c5 (tw @c7 (tw @c8 (tw @c9 (tw @hi (tw @hC (tw @tc (tw @s6 @ew)))))))))))) ?_;(repeat(refine Pn.mk ?_;intro N hN)))|((try apply Or.inl);refine⟨_,ah.x (P9) (sd (tw @je (tw @cg0 (tw @c0 (tw @c1 (tw @c5 (tw @c7 (tw @c8 (tw @c9 (tw @hi (tw @hC (tw @tc (tw @s6 @ew))))))))))))),?_⟩;refine hN _ _ ?_;clear hN N)|((try apply Or.inl);refine⟨_,ah.x (Qa) (sd (tw @je (tw @cg0 (tw @c0 (tw @c1 (tw @c5 (tw @c7 (tw @c8 (tw @c9 (tw @hi (tw @hC (tw @tc (tw @s6 @ew))))))))))))),?_⟩;refine hN _ _ ?_;clear hN N)))
    refine gD ?_ ?_ bw
    all_goals simp only[go_sem, ↓reduceIte,Nat.reduceEqDiff,Nat.reduceAdd,Nat.reduceSub,Nat.reduceLeDiff,reduceCtorEq,je,cg0,c0,c1,c5,c7,c8,c9]
   ·have s6:decide ((L i:Int)=((max (L b.a) (L b.b):Nat):Int))=false:=decide_eq_false fun h=>he ab
    have gM:dw (fun x=>if x<i then eF L b x else L x) k=dw (fun x=>if x<i+1 then eF L b x else L x) k:=gr fun x hx=>by
     by_cases h:x<i
     ·rw[if_pos h,if_pos ab]
     ·by_cases AE:x=i
      ·subst AE;rw[if_neg h,if_pos ab,eF,if_neg he]
      ·rw[if_neg h,if_neg ab]
    rw[eN]at hC
    (repeat(first|((repeat(revert hN;revert N;apply Pn.out));refine wk (tw @je (tw @cg0 (tw @c0 (tw @c1 (tw @c5 (tw @c7 (tw @c8 (tw @c9 (tw @hi (tw @hC (tw @tc @s6))))))))))) ?_;(repeat(refine Pn.mk ?_;intro N hN)))|((try apply Or.inl);refine⟨_,ah.x (P9) (sd (tw @je (tw @cg0 (tw @c0 (tw @c1 (tw @c5 (tw @c7 (tw @c8 (tw @c9 (tw @hi (tw @hC (tw @tc @s6)))))))))))),?_⟩;refine hN _ _ ?_;clear hN N)|((try apply Or.inl);refine⟨_,ah.x (Qa) (sd (tw @je (tw @cg0 (tw @c0 (tw @c1 (tw @c5 (tw @c7 (tw @c8 (tw @c9 (tw @hi (tw @hC (tw @tc @s6)))))))))))),?_⟩;refine hN _ _ ?_;clear hN N)))
    rw[gM]at cg0
    refine gD ?_ ?_ bw
    all_goals simp only[go_sem, ↓reduceIte,Nat.reduceEqDiff,Nat.reduceAdd,Nat.reduceSub,Nat.reduceLeDiff,reduceCtorEq,je,cg0,c0,c1,c5,c7,c8,c9]
  ·have wz:i=k:=ab
   subst wz
   have dt:dw (fun x=>if x<i then eF L b x else L x) i=dw (eF L b) i:=gr fun x hx=>if_pos hx
   rw[dt]at cg0
   rw[<-kV]at cg0
   (try((repeat(revert hN;revert N;apply Pn.out));refine wk (tw @je (tw @cg0 (tw @c0 (tw @c1 (tw @c5 (tw @c7 (tw @c8 (tw @c9 (tw @hi @tc))))))))) ?_;(repeat(refine Pn.mk ?_;intro N hN))))
   refine jX ?_ ?_ bw
   all_goals simp only[go_sem, ↓reduceIte,Nat.reduceEqDiff,Nat.reduceAdd,Nat.reduceSub,Nat.reduceLeDiff,reduceCtorEq,b7,bg0,b0,b1,b5,je,cg0,c0,c1,c5,c7,c8,c9]
 have gG:j=bs.length:=ab
 subst gG
 rw[List.take_length]at bg0
 have hL:=si bs
 generalize dV bs=L at *
 have tl:=fF L k
 (try((repeat(revert hN;revert N;apply Pn.out));refine wk (tw @b7 (tw @bg0 (tw @b0 (tw @b1 (tw @b5 @hj))))) ?_;(repeat(refine Pn.mk ?_;intro N hN))))
 have RW:o.bY<st_b.next:=bI0
 refine aT (fun n env st=>∃i:Nat,n=(k)-i/\i<=(k)/\env 12=.int .i64 (i:Int)/\st.get o=some ⟨true,1,dw L k⟩/\(∃oo rows ids,env 11=.own oo 0 rows.length/\st.get oo=some ⟨true,1,rows⟩/\dd Nw st.get rows ((leads i L).map (members k L)) ids/\(∀x∈oo::ids,st_b.next<=x.bY/\x.bY<st.next)/\st_b.next<=st.next/\oo∉ids)) (k) ⟨0,ab,ab,sl (tw @b7 (tw @bg0 (tw @b0 (tw @b1 (tw @b5 (eC RW)))))),sl (tw @b7 (tw @bg0 (tw @b0 (tw @b1 (tw @b5 (eC RW)))))),⟨⟨149016000,st_b.next+1⟩,[],[],by(simp only[go_sem, ↓reduceIte,Nat.reduceEqDiff,Nat.reduceAdd,Nat.reduceSub,Nat.reduceLeDiff,reduceCtorEq])<;>rfl,sd @Nat.zero_add,.nil,fun x hx=>by rw[List.mem_singleton.1 hx];(try dsimp only);omega,bw,by simp⟩⟩ ?_
 rintro n_d env_d st_d ⟨i,rfl,dle,d12,dg0,dI0⟩ dfr
 have d0:=dfr 0 (by kernel_rfl);have d5:=dfr 5 (by kernel_rfl)
 simp only[go_sem, ↓reduceIte,Nat.reduceEqDiff,Nat.reduceAdd,Nat.reduceSub,Nat.reduceLeDiff,reduceCtorEq,b7,bg0,b0,b1,b5,eC RW]at d0 d5
 clear dfr
 obtain⟨oo,rows,ids,d11,dg,hR,m3,hle,EA⟩:=dI0
 have rr:=gj i L
 have qP:=hR.len
 by_cases hi:(i:Int)<(k:Int)
 ·have sk:∀{e:Env} {gg:Rows} {nx:Nat},(e 12=.int .i64 (IntKind.i64.wrap ((i:Int)+1)))->(gg o=some ⟨true,1,dw L k⟩)->(∃oo rows ids,e 11=.own oo 0 rows.length/\gg oo=some ⟨true,1,rows⟩/\dd Nw gg rows ((leads (i+1) L).map (members k L)) ids/\(∀x∈oo::ids,st_b.next<=x.bY/\x.bY<nx)/\st_b.next<=nx/\oo∉ids)->∃m0,m0<(k)-i/\∃i:Nat,m0=(k)-i/\i<=(k)/\e 12=.int .i64 (i:Int)/\gg o=some ⟨true,1,dw L k⟩/\(∃oo rows ids,e 11=.own oo 0 rows.length/\gg oo=some ⟨true,1,rows⟩/\dd Nw gg rows ((leads i L).map (members k L)) ids/\(∀x∈oo::ids,st_b.next<=x.bY/\x.bY<nx)/\st_b.next<=nx/\oo∉ids):=fun x1 x2 x3=>⟨_,ab,i+1,rfl,ab,(by rw[x1,aA ab]),x2,x3⟩
  have fJ:i<k:=ab
  have hC:=e6 (f:=L) fJ
  have oF:=eC (i:=o) (n:=st_d.next) ab
  have O9:=eC (i:=oo) (n:=st_d.next) (m3 oo (by simp)).2
  by_cases he:L i=i
  ·rw[if_pos he]at rr
   have s6:decide ((L i:Int)=(i:Int))=true:=decide_eq_true (by rw[he])
   rw[eN]at hC
   (try((repeat(revert hN;revert N;apply Pn.out));refine wk (tw @d12 (tw @dg0 (tw @d0 (tw @d5 (tw @d11 (tw @dg (tw @hi (tw @hC (tw @tl (tw @s6 (tw @oF @O9))))))))))) ?_;(repeat(refine Pn.mk ?_;intro N hN))))
   refine aT (fun n env st=>∃m:Nat,n=((k-i))-m/\m<=((k-i))/\env 14=(.int .i64 ((i+m:Nat):Int))/\(∃pp:Id,env 13=.own pp 0 (members (i+m) L i).length/\st.get pp=some ⟨true,1,(members (i+m) L i).map eN⟩/\st_d.next<=pp.bY/\pp.bY<st.next/\(∀x:Id,x.bY<st_d.next->st.get x=st_d.get x)/\st_d.next<=st.next)) ((k-i)) ⟨0,ab,ab,sl (tw @d12 (tw @dg0 (tw @d0 (tw @d5 @d11)))),⟨⟨149021000,st_d.next+1+1⟩,by rw[show members (i+0) L i=[]from mc hL (Nat.le_refl i)];(simp only[go_sem, ↓reduceIte,Nat.reduceEqDiff,Nat.reduceAdd,Nat.reduceSub,Nat.reduceLeDiff,reduceCtorEq])<;>rfl,by rw[show members (i+0) L i=[]from mc hL (Nat.le_refl i)];(simp only[go_sem, ↓reduceIte,Nat.reduceEqDiff,Nat.reduceAdd,Nat.reduceSub,Nat.reduceLeDiff,reduceCtorEq])<;>rfl,bw,bw,fun x hx=>sd (eC hx),bw⟩⟩ ?_
   rintro n_f env_f st_f ⟨m,rfl,fle,f14,fI0⟩ ffr
   have f0:=ffr 0 (by kernel_rfl);have f5:=ffr 5 (by kernel_rfl);have f11:=ffr 11 (by kernel_rfl);have f12:=ffr 12 (by kernel_rfl)
   simp only[go_sem, ↓reduceIte,Nat.reduceEqDiff,Nat.reduceAdd,Nat.reduceSub,Nat.reduceLeDiff,reduceCtorEq,d12,dg0,d0,d5,d11]at f0 f5 f11 f12
   clear ffr
   obtain⟨pp,f13,fg,Ml,KU,mN,vD⟩:=fI0
   have vp:st_f.get o=some ⟨true,1,dw L k⟩:=(mN o ab).trans dg0
   have RE:st_f.get oo=some ⟨true,1,rows⟩:=(mN oo (m3 oo (by simp)).2).trans dg
   have yI:=eC KU
   have zK:=eC (i:=o) (n:=st_f.next) ab
   have Pa:=eC (i:=oo) (n:=st_f.next) (by have:=(m3 oo (by simp)).2;omega)
   have Mg:members (i+(m+1)) L i=members (i+m) L i++if L (i+m)=i then[i+m]else[]:=iV (i+m) L i
   have RM:(members (i+m) L i).length<=i+m:=by
    have:=List.length_filter_le (fun k=>L k==i) (List.range (i+m))
    simpa[members]using this
   have x1:=dx (a:=o) (b:=pp) ab
   have x2:=dx (a:=oo) (b:=pp) (by have:=(m3 oo (by simp)).2;omega)
   have x3:=dx (a:=o) (b:=oo) (by have:=(m3 oo (by simp)).1;omega)
   by_cases hm:m<k-i
   ·have qo:∀{e:Env} {gg:Rows} {nx:Nat},(e 14=(.int .i64 ((i+(m+1):Nat):Int)))->(∃pp:Id,e 13=.own pp 0 (members (i+(m+1)) L i).length/\gg pp=some ⟨true,1,(members (i+(m+1)) L i).map eN⟩/\st_d.next<=pp.bY/\pp.bY<nx/\(∀x:Id,x.bY<st_d.next->gg x=st_d.get x)/\st_d.next<=nx)->∃m0,m0<((k-i))-m/\∃m:Nat,m0=((k-i))-m/\m<=((k-i))/\e 14=(.int .i64 ((i+m:Nat):Int))/\(∃pp:Id,e 13=.own pp 0 (members (i+m) L i).length/\gg pp=some ⟨true,1,(members (i+m) L i).map eN⟩/\st_d.next<=pp.bY/\pp.bY<nx/\(∀x:Id,x.bY<st_d.next->gg x=st_d.get x)/\st_d.next<=nx):=fun x1 x2=>⟨_,ab,m+1,rfl,ab,x1,x2⟩
    have OW:((i+m:Nat):Int)<(k:Int):=ab
    have Q8:=e6 (f:=L) (show i+m<k by omega)
    have hw:IntKind.i64.wrap (((i+m:Nat):Int)+1)=((i+(m+1):Nat):Int):=by rw[bd ab];omega
    rw[eN]at Q8
    by_cases hq:L (i+m)=i
    ·have sK:decide ((L (i+m):Int)=(i:Int))=true:=decide_eq_true (by rw[hq])
     rw[if_pos hq]at Mg
     have e1:(members (i+m) L i).length+1<=16777216:=ab
     have jI:((members (i+m) L i).map eN).length=(members (i+m) L i).length:=by simp
     (try((repeat(revert hN;revert N;apply Pn.out));refine wk (tw @f14 (tw @f0 (tw @f5 (tw @f11 (tw @f12 (tw @f13 (tw @fg (tw @vp (tw @OW (tw @Q8 (tw @tl (tw @sK (tw @yI (tw @zK (tw @x1 (tw @e1 @jI)))))))))))))))) ?_;(repeat(refine Pn.mk ?_;intro N hN))))
     exact qo (sd (tw @f14 (tw @f0 (tw @f5 (tw @f11 (tw @f12 (tw @vp (tw @hw (tw @zK @x1))))))))) (⟨⟨149026003,st_f.next+1+1⟩,by rw[Mg,List.length_append];simp only[go_sem, ↓reduceIte,Nat.reduceEqDiff,Nat.reduceAdd,Nat.reduceSub,Nat.reduceLeDiff,reduceCtorEq,List.length_cons,List.length_nil],by rw[Mg,List.map_append,List.map_cons,List.map_nil];simp only[go_sem, ↓reduceIte,Nat.reduceEqDiff,Nat.reduceAdd,Nat.reduceSub,Nat.reduceLeDiff,reduceCtorEq,eN],bw,bw,fun x hx=>by
      have y1:=mN x hx
      have y2:=dx (a:=x) (b:=pp) ab
      simp only[go_sem, ↓reduceIte,Nat.reduceEqDiff,Nat.reduceAdd,Nat.reduceSub,Nat.reduceLeDiff,reduceCtorEq,eC (show x.bY<st_f.next by omega),y1,y2],bw⟩)
    ·have sK:decide ((L (i+m):Int)=(i:Int))=false:=decide_eq_false fun h=>hq ab
     rw[if_neg hq,List.append_nil]at Mg
     (try((repeat(revert hN;revert N;apply Pn.out));refine wk (tw @f14 (tw @f0 (tw @f5 (tw @f11 (tw @f12 (tw @f13 (tw @fg (tw @vp (tw @OW (tw @Q8 (tw @tl (tw @sK (tw @yI (tw @zK @x1)))))))))))))) ?_;(repeat(refine Pn.mk ?_;intro N hN))))
     exact qo (sd (tw @f14 (tw @f0 (tw @f5 (tw @f11 (tw @f12 (tw @vp @hw))))))) (⟨pp,by rw[Mg];simp only[go_sem, ↓reduceIte,Nat.reduceEqDiff,Nat.reduceAdd,Nat.reduceSub,Nat.reduceLeDiff,reduceCtorEq,f13],by rw[Mg];simp only[go_sem, ↓reduceIte,Nat.reduceEqDiff,Nat.reduceAdd,Nat.reduceSub,Nat.reduceLeDiff,reduceCtorEq,fg],Ml,bw,mN,bw⟩)
   ·have hmk:i+m=k:=ab
    have OW:¬((i+m:Nat):Int)<(k:Int):=ab
    rw[hmk]at f13 fg RM
    have e1:rows.length+1<=16777216:=by
     have:=jr i L
     rw[qP,List.length_map];omega
    (try((repeat(revert hN;revert N;apply Pn.out));refine wk (tw @f14 (tw @f0 (tw @f5 (tw @f11 (tw @f12 (tw @f13 (tw @fg (tw @vp (tw @RE (tw @OW (tw @yI (tw @zK (tw @Pa (tw @x1 (tw @x2 @e1))))))))))))))) ?_;(repeat(refine Pn.mk ?_;intro N hN))))
    refine sk ?_ ?_ (⟨⟨149027003,st_f.next+1⟩,rows++[[.own pp 0 (members k L i).length]],ids++[pp],by rw[List.length_append];simp only[go_sem, ↓reduceIte,Nat.reduceEqDiff,Nat.reduceAdd,Nat.reduceSub,Nat.reduceLeDiff,reduceCtorEq,List.length_cons,List.length_nil],sd @Nat.zero_add,by
      rw[rr,List.map_append]
      refine(hR.frame ME fun x hx=>?_).app (.one ⟨pp,rfl,?_,rfl⟩)
      ·have h1:=m3 x (by simp[hx])
       have y1:=mN x h1.2
       have y2:=dx (a:=x) (b:=pp) ab
       have y3:(x=oo)=False:=by
        simp only[eq_iff_iff,iff_false]
        rintro rfl
        exact EA hx
       simp only[go_sem, ↓reduceIte,Nat.reduceEqDiff,Nat.reduceAdd,Nat.reduceSub,Nat.reduceLeDiff,reduceCtorEq,eC (show x.bY<st_f.next by omega),y1,y2,y3]
      ·simp only[go_sem, ↓reduceIte,Nat.reduceEqDiff,Nat.reduceAdd,Nat.reduceSub,Nat.reduceLeDiff,reduceCtorEq,yI,x2,fg],fun x hx=>by
      rcases List.mem_cons.1 hx with rfl|hx
      ·(try dsimp only);omega
      ·rcases List.mem_append.1 hx with hx|hx
       ·have:=m3 x (by simp[hx]);(try dsimp only);omega
       ·rw[List.mem_singleton.1 hx];(try dsimp only);omega,bw,fun hc=>by
      rcases List.mem_append.1 hc with hc|hc
      ·have:=(m3 _ (List.mem_cons_of_mem _ hc)).2;(try dsimp only at this);omega
      ·have:=List.mem_singleton.1 hc;rw[<-this]at KU;(try dsimp only at KU);omega⟩)
    all_goals simp only[go_sem, ↓reduceIte,Nat.reduceEqDiff,Nat.reduceAdd,Nat.reduceSub,Nat.reduceLeDiff,reduceCtorEq,f14,f0,f5,f11,f12,vp,zK,x3]
  ·rw[if_neg he,List.append_nil]at rr
   have s6:decide ((L i:Int)=(i:Int))=false:=decide_eq_false fun h=>he ab
   rw[eN]at hC
   (try((repeat(revert hN;revert N;apply Pn.out));refine wk (tw @d12 (tw @dg0 (tw @d0 (tw @d5 (tw @d11 (tw @dg (tw @hi (tw @hC (tw @tl (tw @s6 (tw @oF @O9))))))))))) ?_;(repeat(refine Pn.mk ?_;intro N hN))))
   refine sk ?_ ?_ (⟨oo,rows,ids,sd @d11,sd @dg,by rw[rr];exact hR,fun x hx=>by have:=m3 x hx;(try dsimp only);omega,bw,EA⟩)
   all_goals simp only[go_sem, ↓reduceIte,Nat.reduceEqDiff,Nat.reduceAdd,Nat.reduceSub,Nat.reduceLeDiff,reduceCtorEq,d12,dg0,d0,d5]
 ·have wz:i=k:=ab
  (try((repeat(revert hN;revert N;apply Pn.out));refine wk (tw @d12 (tw @dg0 (tw @d0 (tw @d5 (tw @d11 (tw @dg @hi)))))) ?_;(repeat(refine Pn.mk ?_;intro N hN))))
  refine uA (.inl rfl) (by simp only[go_sem, ↓reduceIte,Nat.reduceEqDiff,Nat.reduceAdd,Nat.reduceSub,Nat.reduceLeDiff,reduceCtorEq];rfl) ?_
  rw[pW dg (by simp) (rows':=(e9 k L).map yF) (by rw[List.drop_zero,List.take_of_length_le (Nat.le_refl _)];rw[wz]at hR;exact Hh 3 hR)]
theorem uM (n:Nat):List.replicate n [AV.int .i64 0]=dw (fun _=>0) n:=by
 refine List.ext_getElem? fun i=>?_
 by_cases h:i<n
 ·rw[e6 h,List.getElem?_replicate,if_pos h];rfl
 ·rw[List.getElem?_eq_none (by simp;omega),List.getElem?_eq_none (by rw[fF];omega)]
def cv (cnt:Nat) (L:Nat->Nat) (i m:Nat):Nat->Nat:=fun x=>if bx L x<i then bx L x else if x∈(members cnt L ((leads cnt L).getD i 0)).take m then i else 0
theorem nK (cnt:Nat) (L:Nat->Nat):cv cnt L 0 0=fun _=>0:=by funext x;simp[cv]
theorem sr (t:Int) (bs:List PB) (k:Nat) (h:k<bs.length):aE t (bs.take (k+1))=aE t (bs.take k)++if t<=(bs[k]).s then[bs[k]]else[]:=by
 unfold aE
 rw[List.take_succ_eq_append_getElem h,List.filter_append]
 congr 1
 by_cases h:t<=bs[k].s<;>simp[h]
theorem uI {t:Int} {bs:List PB} {b:PB} (h:b∈aE t bs):b∈bs:=(List.mem_filter.1 h).1
theorem mm (t:Int) (bs:List PB):(aE t bs).length<=bs.length:=List.length_filter_le _ _
theorem zT (cnt:Nat) (hn:cnt<=1048576) (bs:List PB) (hb:∀b∈bs,b.a<cnt/\b.b<cnt) (pD:bs.length<=1048576) (t:Int):ah Tryz.prog 122 [.int .i64 cnt,.sl (bs.map ax),.int .i64 t] (.gE [.int .i64 (leads cnt (dV (aE t bs))).length,.sl ((eR (dV (aE t bs)) bs).map ax)]):=by
 refine ah.body dY rfl fun hl n0=>?_
 clear hl
 (try((repeat(revert hN;revert N;apply Pn.out));refine wk @Nat.zero_add ?_;(repeat(refine Pn.mk ?_;intro N hN))))
 refine aT (fun n env st=>∃k:Nat,n=(bs.length)-k/\k<=(bs.length)/\env 9=.int .i64 (k:Int)/\(∃o:Id,env 8=.own o 0 (aE t (bs.take k)).length/\st.get o=some ⟨true,3,(aE t (bs.take k)).map ax⟩/\o.bY<st.next)) (bs.length) ⟨0,ab,ab,sl @Nat.zero_add,⟨⟨122001000,n0+1⟩,by(simp only[go_sem, ↓reduceIte,Nat.reduceEqDiff,Nat.reduceAdd,Nat.reduceSub,Nat.reduceLeDiff,reduceCtorEq])<;>rfl,by(simp only[go_sem, ↓reduceIte,Nat.reduceEqDiff,Nat.reduceAdd,Nat.reduceSub,Nat.reduceLeDiff,reduceCtorEq])<;>rfl,bw⟩⟩ ?_
 rintro n_a env_a st_a ⟨k,rfl,ale,a9,k5⟩ dE
 have a0:=dE 0 (by kernel_rfl);have a1:=dE 1 (by kernel_rfl);have a2:=dE 2 (by kernel_rfl)
 simp only[go_sem, ↓reduceIte,Nat.reduceEqDiff,Nat.reduceAdd,Nat.reduceSub,Nat.reduceLeDiff,reduceCtorEq]at a0 a1 a2
 clear dE
 obtain⟨o,a8,ag,se⟩:=k5
 have qQ:=eC se
 by_cases hk:(k:Int)<(bs.length:Int)
 ·have bW:∀{e:Env} {gg:Rows} {nx:Nat},(e 9=.int .i64 (IntKind.i64.wrap ((k:Int)+1)))->(∃o:Id,e 8=.own o 0 (aE t (bs.take (k+1))).length/\gg o=some ⟨true,3,(aE t (bs.take (k+1))).map ax⟩/\o.bY<nx)->∃m0,m0<(bs.length)-k/\∃k:Nat,m0=(bs.length)-k/\k<=(bs.length)/\e 9=.int .i64 (k:Int)/\(∃o:Id,e 8=.own o 0 (aE t (bs.take k)).length/\gg o=some ⟨true,3,(aE t (bs.take k)).map ax⟩/\o.bY<nx):=fun x1 x2=>⟨_,ab,k+1,rfl,ab,(by rw[x1,aA ab]),x2⟩
  have fw:k<bs.length:=ab
  have eO:(bs.map ax)[k]? =some (ax bs[k]):=by simp[fw]
  have hs:=sr t bs k fw
  have sM:=mm t (bs.take k)
  rw[List.length_take]at sM
  by_cases hc:t<=(bs[k]).s
  ·rw[if_pos hc]at hs
   have e1:(aE t (bs.take k)).length+1<=16777216:=ab
   have jI:((aE t (bs.take k)).map ax).length=(aE t (bs.take k)).length:=by simp
   generalize bs[k]=b at *
   (try((repeat(revert hN;revert N;apply Pn.out));refine wk (tw @a9 (tw @a0 (tw @a1 (tw @a2 (tw @a8 (tw @ag (tw @qQ (tw @hk (tw @eO (tw @hc (tw @e1 (tw @jI @ax.eq_1)))))))))))) ?_;(repeat(refine Pn.mk ?_;intro N hN))))
   exact bW (sd (tw @a9 (tw @a0 (tw @a1 @a2)))) (⟨⟨122006006,st_a.next+1+1⟩,by rw[hs,List.length_append];simp only[go_sem, ↓reduceIte,Nat.reduceEqDiff,Nat.reduceAdd,Nat.reduceSub,Nat.reduceLeDiff,reduceCtorEq,List.length_cons,List.length_nil],by rw[hs,List.map_append,List.map_cons,List.map_nil];simp only[go_sem, ↓reduceIte,Nat.reduceEqDiff,Nat.reduceAdd,Nat.reduceSub,Nat.reduceLeDiff,reduceCtorEq,ax],bw⟩)
  ·rw[if_neg hc,List.append_nil]at hs
   generalize bs[k]=b at *
   (try((repeat(revert hN;revert N;apply Pn.out));refine wk (tw @a9 (tw @a0 (tw @a1 (tw @a2 (tw @a8 (tw @ag (tw @qQ (tw @hk (tw @eO (tw @hc @ax.eq_1)))))))))) ?_;(repeat(refine Pn.mk ?_;intro N hN))))
   exact bW (sd (tw @a9 (tw @a0 (tw @a1 @a2)))) (⟨o,by rw[hs];simp only[go_sem, ↓reduceIte,Nat.reduceEqDiff,Nat.reduceAdd,Nat.reduceSub,Nat.reduceLeDiff,reduceCtorEq,a8],by rw[hs];simp only[go_sem, ↓reduceIte,Nat.reduceEqDiff,Nat.reduceAdd,Nat.reduceSub,Nat.reduceLeDiff,reduceCtorEq,ag],bw⟩)
 have lS:k=bs.length:=ab
 subst lS
 rw[List.take_length]at a8 ag
 have FP:=zR cnt hn (aE t bs) (fun b h=>hb b (uI h)) (by have:=mm t bs;omega)
 have hL:=si (aE t bs)
 have Db:fz (dD st_a.get) 6 (.own o 0 (aE t bs).length)=some (.sl ((aE t bs).map ax)):=eT (sz:=3) (by simp[dD,ag]) rfl fun b=>xD _ 4 b
 have RD:∀x,cq (dD st_a.get) 6 [.int .i64 x,.own o 0 (aE t bs).length]=some [.int .i64 x,.sl ((aE t bs).map ax)]:=fun x=>by simp only[ad,aj,aH,Db,Option.map_some]
 (try((repeat(revert hN;revert N;apply Pn.out));refine wk (tw @a9 (tw @a0 (tw @a1 (tw @a2 (tw @a8 @hk))))) ?_;(repeat(refine Pn.mk ?_;intro N hN))))
 refine .inl ⟨_,ah.x FP (RD _),?_⟩
 refine hN _ _ ?_
 clear hN N
 generalize dV (aE t bs)=L at *
 have pE:((e9 cnt L).map yF).length=(leads cnt L).length:=by simp[e9]
 have Qt:=jr cnt L
 have jk:(0:Int)<=(cnt:Int):=ab
 have oK:(cnt:Int)<=((16777216:Nat):Int):=ab
 have gx:List.replicate cnt [AV.int .i64 0]=dw (cv cnt L 0 0) cnt:=by rw[uM,nK]
 (try((repeat(revert hN;revert N;apply Pn.out));refine wk (tw @a9 (tw @a0 (tw @a1 (tw @a2 (tw @jk (tw @oK @Int.le_refl)))))) ?_;(repeat(refine Pn.mk ?_;intro N hN))))
 refine aT (fun n env st=>∃i:Nat,n=((leads cnt L).length)-i/\i<=((leads cnt L).length)/\env 12=.int .i64 (i:Int)/\st.get ⟨122008001,st_a.next+1+1⟩=some ⟨true,1,dw (cv cnt L i 0) cnt⟩/\(st_a.next+1+1<st.next)) ((leads cnt L).length) ⟨0,ab,ab,sl (tw @a9 (tw @a0 (tw @a1 (tw @a2 @gx)))),sl (tw @a9 (tw @a0 (tw @a1 (tw @a2 @gx)))),bw⟩ ?_
 rintro n_c env_c st_c ⟨i,rfl,cle,xk,cg0,cI0⟩ cfr
 have c1:=cfr 1 (by kernel_rfl);have je:=cfr 10 (by kernel_rfl);have mU:=cfr 11 (by kernel_rfl)
 simp only[go_sem, ↓reduceIte,Nat.reduceEqDiff,Nat.reduceAdd,Nat.reduceSub,Nat.reduceLeDiff,reduceCtorEq,a9,a0,a1,a2,gx]at c1 je mU
 clear cfr
 by_cases hi:(i:Int)<((leads cnt L).length:Int)
 ·have gD:∀{e:Env} {gg:Rows} {nx:Nat},(e 12=.int .i64 (IntKind.i64.wrap ((i:Int)+1)))->(gg ⟨122008001,st_a.next+1+1⟩=some ⟨true,1,dw (cv cnt L (i+1) 0) cnt⟩)->(st_a.next+1+1<nx)->∃m0,m0<((leads cnt L).length)-i/\∃i:Nat,m0=((leads cnt L).length)-i/\i<=((leads cnt L).length)/\e 12=.int .i64 (i:Int)/\gg ⟨122008001,st_a.next+1+1⟩=some ⟨true,1,dw (cv cnt L i 0) cnt⟩/\(st_a.next+1+1<nx):=fun x1 x2 x3=>⟨_,ab,i+1,rfl,ab,(by rw[x1,aA ab]),x2,x3⟩
  have fJ:i<(leads cnt L).length:=ab
  have oe:((e9 cnt L).map yF)[i]? =some (yF (members cnt L (leads cnt L)[i])):=by simp[e9,fJ]
  have s7:(leads cnt L).getD i 0=(leads cnt L)[i]:=by simp[List.getD_eq_getElem?_getD,fJ]
  have qd:∀m,cv cnt L i m=fun x=>if bx L x<i then bx L x else if x∈(members cnt L (leads cnt L)[i]).take m then i else 0:=fun m=>by unfold cv;rw[s7]
  have p7:=fun x (hx:x<cnt)=>rF hL (n:=cnt) (k:=x) (i:=i) hx fJ
  have k7:(members cnt L (leads cnt L)[i]).Nodup:=List.nodup_range.filter _
  have vB:∀x∈members cnt L (leads cnt L)[i],x<cnt:=fun x hx=>(kW.1 hx).1
  have hMc:(members cnt L (leads cnt L)[i]).length<=cnt:=by
   have:=List.length_filter_le (fun k=>L k==(leads cnt L)[i]) (List.range cnt)
   simpa[members]using this
  generalize members cnt L (leads cnt L)[i]=M at *
  have Ax:(M.map eN).length=M.length:=by simp
  (try((repeat(revert hN;revert N;apply Pn.out));refine wk (tw @xk (tw @cg0 (tw @c1 (tw @je (tw @mU (tw @hi @pE)))))) ?_;(repeat(refine Pn.mk ?_;intro N hN))))
  refine aT (fun n env st=>∃m:Nat,n=(M.length)-m/\m<=(M.length)/\env 13=.int .i64 (m:Int)/\st.get ⟨122008001,st_a.next+1+1⟩=some ⟨true,1,dw (cv cnt L i m) cnt⟩/\(st_a.next+1+1<st.next)) (M.length) ⟨0,ab,ab,sl (tw @xk (tw @cg0 (tw @c1 (tw @je @mU)))),sl (tw @xk (tw @cg0 (tw @c1 (tw @je @mU)))),bw⟩ ?_
  rintro n_d env_d st_d ⟨m,rfl,dle,d13,dg0,dI0⟩ dfr
  have d1:=dfr 1 (by kernel_rfl);have d10:=dfr 10 (by kernel_rfl);have d11:=dfr 11 (by kernel_rfl);have d12:=dfr 12 (by kernel_rfl)
  simp only[go_sem, ↓reduceIte,Nat.reduceEqDiff,Nat.reduceAdd,Nat.reduceSub,Nat.reduceLeDiff,reduceCtorEq,xk,cg0,c1,je,mU]at d1 d10 d11 d12
  clear dfr
  have tl:=fF (cv cnt L i m) cnt
  by_cases hm:(m:Int)<(M.length:Int)
  ·have sk:∀{e:Env} {gg:Rows} {nx:Nat},(e 13=.int .i64 (IntKind.i64.wrap ((m:Int)+1)))->(gg ⟨122008001,st_a.next+1+1⟩=some ⟨true,1,dw (cv cnt L i (m+1)) cnt⟩)->(st_a.next+1+1<nx)->∃m0,m0<(M.length)-m/\∃m:Nat,m0=(M.length)-m/\m<=(M.length)/\e 13=.int .i64 (m:Int)/\gg ⟨122008001,st_a.next+1+1⟩=some ⟨true,1,dw (cv cnt L i m) cnt⟩/\(st_a.next+1+1<nx):=fun x1 x2 x3=>⟨_,ab,m+1,rfl,ab,(by rw[x1,aA ab]),x2,x3⟩
   have xM:m<M.length:=ab
   have tQ:(M.map eN)[m]? =some (eN M[m]):=by simp[xM]
   have tU:=vB _ (List.getElem_mem xM)
   have AE:(M[m]:Int)<(cnt:Int):=ab
   have AD:=e6 (f:=cv cnt L i m) tU
   have ew:(dw (cv cnt L i m) cnt).set M[m] (eN i)=dw (cv cnt L i (m+1)) cnt:=oy tU (by
    have h1:=(p7 _ tU).1 (List.getElem_mem xM)
    rw[qd]
    simp only[]
    rw[if_neg ab,if_pos (by rw[List.take_succ_eq_append_getElem xM];exact List.mem_append_right _ (List.mem_singleton.2 rfl))]) fun x hx gU=>by
    rw[qd,qd]
    simp only[]
    rw[List.take_succ_eq_append_getElem xM]
    simp only[List.mem_append,List.mem_singleton,gU,or_false]
   rw[eN]at ew AD
   generalize M[m]=xm at *
   (try((repeat(revert hN;revert N;apply Pn.out));refine wk (tw @d13 (tw @dg0 (tw @d1 (tw @d10 (tw @d11 (tw @d12 (tw @hm (tw @hi (tw @oe (tw @pE (tw @tQ (tw @Ax (tw @AE (tw @AD (tw @tl (tw @ew (tw @yF.eq_1 @eN.eq_1))))))))))))))))) ?_;(repeat(refine Pn.mk ?_;intro N hN))))
   refine sk ?_ ?_ bw
   all_goals simp only[go_sem, ↓reduceIte,Nat.reduceEqDiff,Nat.reduceAdd,Nat.reduceSub,Nat.reduceLeDiff,reduceCtorEq,d13,dg0,d1,d10,d11,d12,ew]
  ·have jI:m=M.length:=ab
   subst jI
   have vD:dw (cv cnt L i M.length) cnt=dw (cv cnt L (i+1) 0) cnt:=gr fun x hx=>by
    rw[qd,List.take_length]
    simp only[cv,List.take_zero,List.not_mem_nil,if_false]
    have h1:=p7 x hx
    by_cases h2:bx L x<i
    ·rw[if_pos h2,if_pos ab]
    ·rw[if_neg h2]
     by_cases h3:x∈M
     ·rw[if_pos h3,if_pos (by have:=h1.1 h3;omega),h1.1 h3]
     ·rw[if_neg h3,if_neg fun h4=>h3 (h1.2 ab)]
   (try((repeat(revert hN;revert N;apply Pn.out));refine wk (tw @d13 (tw @dg0 (tw @d1 (tw @d10 (tw @d11 (tw @d12 (tw @hm (tw @hi (tw @oe (tw @pE (tw @Ax @yF.eq_1))))))))))) ?_;(repeat(refine Pn.mk ?_;intro N hN))))
   refine gD ?_ ?_ bw
   all_goals simp only[go_sem, ↓reduceIte,Nat.reduceEqDiff,Nat.reduceAdd,Nat.reduceSub,Nat.reduceLeDiff,reduceCtorEq,xk,cg0,c1,je,mU,d13,dg0,d1,d10,d11,d12,vD]
 have oL:i=(leads cnt L).length:=ab
 subst oL
 have EA:dw (cv cnt L (leads cnt L).length 0) cnt=dw (bx L) cnt:=gr fun x hx=>by rw[cv,if_pos (jK hL hx)]
 rw[EA]at cg0
 have tl:=fF (bx L) cnt
 (try((repeat(revert hN;revert N;apply Pn.out));refine wk (tw @xk (tw @cg0 (tw @c1 (tw @je (tw @mU (tw @hi @pE)))))) ?_;(repeat(refine Pn.mk ?_;intro N hN))))
 have Qg:st_a.next+1+1<st_c.next:=cI0
 refine aT (fun n env st=>∃j:Nat,n=(bs.length)-j/\j<=(bs.length)/\env 15=.int .i64 (j:Int)/\st.get ⟨122008001,st_a.next+1+1⟩=some ⟨true,1,dw (bx L) cnt⟩/\(∃p:Id,env 14=.own p 0 (eR L (bs.take j)).length/\st.get p=some ⟨true,3,(eR L (bs.take j)).map ax⟩/\st_c.next<=p.bY/\p.bY<st.next)) (bs.length) ⟨0,ab,ab,sl (tw @xk (tw @cg0 (tw @c1 (tw @je @mU)))),sl (tw @xk (tw @cg0 (tw @c1 (tw @je @mU)))),⟨⟨122016000,st_c.next+1⟩,by(simp only[go_sem, ↓reduceIte,Nat.reduceEqDiff,Nat.reduceAdd,Nat.reduceSub,Nat.reduceLeDiff,reduceCtorEq])<;>rfl,by(simp only[go_sem, ↓reduceIte,Nat.reduceEqDiff,Nat.reduceAdd,Nat.reduceSub,Nat.reduceLeDiff,reduceCtorEq])<;>rfl,bw,bw⟩⟩ ?_
 rintro n_f env_f st_f ⟨j,rfl,fle,f15,fg0,fI0⟩ ffr
 have f1:=ffr 1 (by kernel_rfl);have f10:=ffr 10 (by kernel_rfl);have f11:=ffr 11 (by kernel_rfl)
 simp only[go_sem, ↓reduceIte,Nat.reduceEqDiff,Nat.reduceAdd,Nat.reduceSub,Nat.reduceLeDiff,reduceCtorEq,xk,cg0,c1,je,mU]at f1 f10 f11
 clear ffr
 obtain⟨p,f14,fg,Ml,KU⟩:=fI0
 have x1:=dx (a:=⟨122008001,st_a.next+1+1⟩) (b:=p) bw
 have yI:=eC KU
 have hvn:st_a.next+1+1<st_f.next:=ab
 have G5:=eC (i:=⟨122008001,st_a.next+1+1⟩) (n:=st_f.next) hvn
 have sM:=(ml L (bs.take j)).2
 rw[List.length_take]at sM
 by_cases hj:(j:Int)<(bs.length:Int)
 ·have qo:∀{e:Env} {gg:Rows} {nx:Nat},(e 15=.int .i64 (IntKind.i64.wrap ((j:Int)+1)))->(gg ⟨122008001,st_a.next+1+1⟩=some ⟨true,1,dw (bx L) cnt⟩)->(∃p:Id,e 14=.own p 0 (eR L (bs.take (j+1))).length/\gg p=some ⟨true,3,(eR L (bs.take (j+1))).map ax⟩/\st_c.next<=p.bY/\p.bY<nx)->∃m0,m0<(bs.length)-j/\∃j:Nat,m0=(bs.length)-j/\j<=(bs.length)/\e 15=.int .i64 (j:Int)/\gg ⟨122008001,st_a.next+1+1⟩=some ⟨true,1,dw (bx L) cnt⟩/\(∃p:Id,e 14=.own p 0 (eR L (bs.take j)).length/\gg p=some ⟨true,3,(eR L (bs.take j)).map ax⟩/\st_c.next<=p.bY/\p.bY<nx):=fun x1 x2 x3=>⟨_,ab,j+1,rfl,ab,(by rw[x1,aA ab]),x2,x3⟩
  have gw:j<bs.length:=ab
  have FO:(bs.map ax)[j]? =some (ax bs[j]):=by simp[gw]
  have KH:=hb _ (List.getElem_mem gw)
  have hs:=yh L (bs.take j) bs[j]
  rw[<-List.take_succ_eq_append_getElem gw]at hs
  generalize bs[j]=b at *
  have hA:=e6 (f:=bx L) KH.1
  have hB:=e6 (f:=bx L) KH.2
  have ga:(b.a:Int)<(cnt:Int):=ab
  have fB:(b.b:Int)<(cnt:Int):=ab
  have P9:=zQ (bx L b.a) (bx L b.b)
  have Qa:=zP (bx L b.a) (bx L b.b)
  rw[eN]at hA hB
  by_cases he:bx L b.a=bx L b.b
  ·rw[if_pos he,List.append_nil]at hs
   have s6:decide ((bx L b.a:Int)=(bx L b.b:Int))=true:=decide_eq_true (by rw[he])
   (try((repeat(revert hN;revert N;apply Pn.out));refine wk (tw @f15 (tw @fg0 (tw @f1 (tw @f10 (tw @f11 (tw @f14 (tw @fg (tw @hj (tw @FO (tw @hA (tw @hB (tw @ga (tw @fB (tw @tl (tw @s6 (tw @x1 (tw @yI @ax.eq_1))))))))))))))))) ?_;(repeat(refine Pn.mk ?_;intro N hN))))
   refine qo ?_ ?_ (⟨p,by rw[hs];simp only[go_sem, ↓reduceIte,Nat.reduceEqDiff,Nat.reduceAdd,Nat.reduceSub,Nat.reduceLeDiff,reduceCtorEq,f14],by rw[hs];simp only[go_sem, ↓reduceIte,Nat.reduceEqDiff,Nat.reduceAdd,Nat.reduceSub,Nat.reduceLeDiff,reduceCtorEq,fg],Ml,bw⟩)
   all_goals simp only[go_sem, ↓reduceIte,Nat.reduceEqDiff,Nat.reduceAdd,Nat.reduceSub,Nat.reduceLeDiff,reduceCtorEq,f15,fg0,f1,f10,f11]
  ·rw[if_neg he]at hs
   have s6:decide ((bx L b.a:Int)=(bx L b.b:Int))=false:=decide_eq_false fun h=>he ab
   have e1:(eR L (bs.take j)).length+1<=16777216:=ab
   have jI:((eR L (bs.take j)).map ax).length=(eR L (bs.take j)).length:=by simp
   (repeat(first|((repeat(revert hN;revert N;apply Pn.out));refine wk (tw @f15 (tw @fg0 (tw @f1 (tw @f10 (tw @f11 (tw @f14 (tw @fg (tw @hj (tw @FO (tw @hA (tw @hB (tw @ga (tw @fB (tw @tl (tw @s6 (tw @x1 (tw @yI (tw @G5 (tw @e1 (tw @jI @ax.eq_1)))))))))))))))))))) ?_;(repeat(refine Pn.mk ?_;intro N hN)))|((try apply Or.inl);refine⟨_,ah.x (P9) (sd (tw @f15 (tw @fg0 (tw @f1 (tw @f10 (tw @f11 (tw @f14 (tw @fg (tw @hj (tw @FO (tw @hA (tw @hB (tw @ga (tw @fB (tw @tl (tw @s6 (tw @x1 (tw @yI (tw @G5 (tw @e1 (tw @jI @ax.eq_1))))))))))))))))))))),?_⟩;refine hN _ _ ?_;clear hN N)|((try apply Or.inl);refine⟨_,ah.x (Qa) (sd (tw @f15 (tw @fg0 (tw @f1 (tw @f10 (tw @f11 (tw @f14 (tw @fg (tw @hj (tw @FO (tw @hA (tw @hB (tw @ga (tw @fB (tw @tl (tw @s6 (tw @x1 (tw @yI (tw @G5 (tw @e1 (tw @jI @ax.eq_1))))))))))))))))))))),?_⟩;refine hN _ _ ?_;clear hN N)))
   refine qo ?_ ?_ (⟨⟨122023014,st_f.next+1+1+1+1⟩,by rw[hs,List.length_append];simp only[go_sem, ↓reduceIte,Nat.reduceEqDiff,Nat.reduceAdd,Nat.reduceSub,Nat.reduceLeDiff,reduceCtorEq,List.length_cons,List.length_nil],by rw[hs,List.map_append,List.map_cons,List.map_nil];simp only[go_sem, ↓reduceIte,Nat.reduceEqDiff,Nat.reduceAdd,Nat.reduceSub,Nat.reduceLeDiff,reduceCtorEq,ax],bw,bw⟩)
   all_goals simp only[go_sem, ↓reduceIte,Nat.reduceEqDiff,Nat.reduceAdd,Nat.reduceSub,Nat.reduceLeDiff,reduceCtorEq,f15,fg0,f1,f10,f11,x1,G5]
 ·have gG:j=bs.length:=ab
  subst gG
  rw[List.take_length]at f14 fg
  (try((repeat(revert hN;revert N;apply Pn.out));refine wk (tw @f15 (tw @fg0 (tw @f1 (tw @f10 (tw @f11 (tw @f14 (tw @hj @pE))))))) ?_;(repeat(refine Pn.mk ?_;intro N hN))))
  refine jc (.inl rfl) (r1:=.int .i64 ((leads cnt L).length:Int)) (sd @Nat.zero_add) (by simp only[go_sem, ↓reduceIte,Nat.reduceEqDiff,Nat.reduceAdd,Nat.reduceSub,Nat.reduceLeDiff,reduceCtorEq];rfl) ?_
  have h1:fu st_f.get 5 (.own p 0 (eR L bs).length)=some (.sl ((eR L bs).map ax)):=eW (sz:=3) fg rfl fun b=>sZ _ 3 b
  simp only[cJ,aC,aL,cC,h1,Option.map_some]
end Go.Proofs.YtihgaadadaekmaaGreat.V

namespace Go.Proofs.YtihgaadadaekmaaGreat.V
def CL (bs:List PB) (e v:Nat):Prop:=(bV bs e).a=v∨(bV bs e).b=v
def iA (bs:List PB) (m v:Nat):List Nat:=(List.range m).filter fun i=>(bV bs i).a==v||(bV bs i).b==v
theorem qh {bs:List PB} {m v e:Nat}:e∈iA bs m v↔e<m/\CL bs e v:=by simp[iA,CL]
theorem EI (bs:List PB) (m v:Nat):iA bs (m+1) v=iA bs m v++if (bV bs m).a=v∨(bV bs m).b=v then[m]else[]:=by
 unfold iA
 rw[List.range_succ,List.filter_append]
 congr 1
 by_cases h:(bV bs m).a=v<;>by_cases h2:(bV bs m).b=v<;>simp[h,h2]
theorem qg (bs:List PB) (m v:Nat):(iA bs m v).length<=m:=by
 have:=List.length_filter_le (fun i=>(bV bs i).a==v||(bV bs i).b==v) (List.range m)
 simpa[iA]using this
def mE (cnt:Nat) (bs:List PB):Prop:=∀e,e<bs.length->(bV bs e).a<cnt/\(bV bs e).b<cnt/\(bV bs e).a≠(bV bs e).b
theorem nN {cnt:Nat} {bs:List PB} (h:mE cnt bs) {e v:Nat} (he:e<bs.length):bz bs e v<cnt:=by
 have:=h e he;unfold bz;split;exact this.2.1;exact this.1
theorem Hz {cnt:Nat} {bs:List PB} (h:mE cnt bs) {e v:Nat} (he:e<bs.length) (hi:CL bs e v):bz bs e v≠v:=by
 have h1:=(h e he).2.2
 unfold bz
 split
 ·rename_i ha;rw[<-ha];exact fun h=>h1 h.symm
 ·rename_i ha;rcases hi with hi|hi
  ·exact absurd hi ha
  ·rw[<-hi];exact h1
theorem wW {bs:List PB} {e v:Nat}:CL bs e (bz bs e v):=by
 unfold bz CL;split
 ·exact .inr rfl
 ·exact .inl rfl
theorem nO {cnt:Nat} {bs:List PB} (h:mE cnt bs) {e v:Nat} (he:e<bs.length) (hi:CL bs e v):bz bs e (bz bs e v)=v:=by
 have h1:=(h e he).2.2
 unfold bz
 by_cases ha:(bV bs e).a=v
 ·rw[if_pos ha,if_neg h1];exact ha
 ·rw[if_neg ha,if_pos rfl]
  rcases hi with hi|hi
  ·exact absurd hi ha
  ·exact hi
structure xf (cnt:Nat) (bs:List PB) (f:Nat->Int) (y:Nat) (out:Nat->Int):Prop where
 lo:∀v,v<cnt->-1<=out v/\out v<=cnt
 first:out y=0
 zero:∀v,v<cnt->out v=0->v=y
 down:∀v,v<cnt->0<out v->∃e,e<bs.length/\CL bs e v/\0<fo bs f e v/\out (bz bs e v)=out v-1
 shut:∀e v,e<bs.length->CL bs e v->0<=out (bz bs e v)->0<fo bs f e v->0<=out v
structure yE (cnt:Nat) (bs:List PB) (f:Nat->Int) (y:Nat) (out:Nat->Int) (Q:List Nat) (i:Nat):Prop where
 nd:Q.Nodup
 lt:∀x∈Q,x<cnt
 iff:∀v,v<cnt->(0<=out v↔v∈Q)
 lo:∀v,v<cnt->-1<=out v
 first:out y=0
 up:∀j (h:j<Q.length),out Q[j]<=j
 zero:∀v,v<cnt->out v=0->v=y
 down:∀v,v<cnt->0<out v->∃e,e<bs.length/\CL bs e v/\0<fo bs f e v/\out (bz bs e v)=out v-1
 shut:∀j (h:j<Q.length),j<i->∀e,e<bs.length->CL bs e Q[j]->0<fo bs f e (bz bs e Q[j])->0<=out (bz bs e Q[j])
section
variable {cnt:Nat} {bs:List PB} {f:Nat->Int} {y:Nat} {out:Nat->Int} {Q:List Nat} {i:Nat}
theorem yE.start (hy:y<cnt):yE cnt bs f y (fun v=>if v=y then 0 else -1) [y] 0 where
 nd:=by simp
 lt:=fun x hx=>by rw[List.mem_singleton.1 hx];exact hy
 iff:=fun v _=>by
  by_cases h:v=y<;>simp[h]
 lo:=fun v _=>by split<;>omega
 first:=if_pos rfl
 up:=fun j h=>by
  have:j=0:=by simp at h;omega
  subst this;simp
 zero:=fun v _ h=>by
  by_cases hv:v=y
  ·exact hv
  ·rw[if_neg hv]at h;omega
 down:=fun v _ h=>by
  by_cases hv:v=y
  ·rw[if_pos hv]at h;omega
  ·rw[if_neg hv]at h;omega
 shut:=fun j h hj=>by omega
theorem yE.len (h:yE cnt bs f y out Q i):Q.length<=cnt:=nL cnt Q h.nd h.lt
theorem yE.visit (h:yE cnt bs f y out Q i) (ok:mE cnt bs) (hi:i<Q.length) {e:Nat} (he:e<bs.length) (oE:CL bs e Q[i]) (jJ:out (bz bs e Q[i])<0) (fA:0<fo bs f e (bz bs e Q[i])):
  yE cnt bs f y (fun v=>if v=bz bs e Q[i]then out Q[i]+1 else out v) (Q++[bz bs e Q[i]]) i:=by
 have KX:0<=out Q[i]:=(h.iff _ (h.lt _ (List.getElem_mem hi))).2 (List.getElem_mem hi)
 have hq:=nN ok (v:=Q[i]) he
 have gU:=Hz ok he oE
 have KS:=nO ok he oE
 have RS:bz bs e Q[i]∉Q:=fun hm=>by have:=(h.iff _ hq).2 hm;omega
 have qd:=h.up i hi
 generalize hw:bz bs e Q[i]=w at *
 have tX:∀v,0<=out v->(if v=w then out Q[i]+1 else out v)=out v:=fun v hv=>by
  rw[if_neg];rintro rfl;omega
 have mono:∀v,0<=out v->0<=(if v=w then out Q[i]+1 else out v):=fun v hv=>by rw[tX v hv];exact hv
 refine⟨?_,?_,?_,?_,?_,?_,?_,?_,?_⟩
 ·rw[List.nodup_append]
  exact⟨h.nd,by simp,fun a ha b hb=>by rw[List.mem_singleton.1 hb];rintro rfl;exact RS ha⟩
 ·intro x hx
  rcases List.mem_append.1 hx with hx|hx
  ·exact h.lt x hx
  ·rw[List.mem_singleton.1 hx];exact hq
 ·intro v hv
  by_cases FT:v=w
  ·subst FT;simp;omega
  ·rw[if_neg FT,h.iff v hv];simp[FT]
 ·intro v hv
  by_cases FT:v=w
  ·rw[if_pos FT];omega
  ·rw[if_neg FT];exact h.lo v hv
 ·rw[tX y (by rw[h.first];exact Int.le_refl _)];exact h.first
 ·intro j hj
  by_cases gG:j<Q.length
  ·rw[List.getElem_append_left gG,tX _ ((h.iff _ (h.lt _ (List.getElem_mem gG))).2 (List.getElem_mem gG))]
   exact h.up j gG
  ·have Jn:j=Q.length:=by simp at hj;omega
   subst Jn
   simp
   omega
 ·intro v hv h0
  by_cases FT:v=w
  ·rw[if_pos FT]at h0;omega
  ·rw[if_neg FT]at h0;exact h.zero v hv h0
 ·intro v hv h0
  by_cases FT:v=w
  ·subst FT
   rw[if_pos rfl]
   refine⟨e,he,by rw[<-hw];exact wW,fA,?_⟩
   rw[KS,tX _ KX];omega
  ·rw[if_neg FT]at h0 ⊢
   obtain⟨e',h1,h2,h3,h4⟩:=h.down v hv h0
   exact⟨e',h1,h2,h3,by rw[tX _ ab];exact h4⟩
 ·intro j hj lR e' Jj KO hr
  have gG:j<Q.length:=ab
  rw[List.getElem_append_left gG]at KO hr ⊢
  exact mono _ (h.shut j gG lR e' Jj KO hr)
theorem yE.next (h:yE cnt bs f y out Q i) (hi:i<Q.length) (hs:∀e∈iA bs bs.length Q[i],0<fo bs f e (bz bs e Q[i])->0<=out (bz bs e Q[i])):yE cnt bs f y out Q (i+1):=
 ⟨h.nd,h.lt,h.iff,h.lo,h.first,h.up,h.zero,h.down,fun j hj lR e he oE hr=>by
  by_cases Jn:j=i
  ·subst Jn;exact hs e (qh.2 ⟨he,oE⟩) hr
  ·exact h.shut j hj ab e he oE hr⟩
theorem yE.done (h:yE cnt bs f y out Q i) (ok:mE cnt bs) (hi:Q.length<=i):xf cnt bs f y out where
 lo:=fun v hv=>⟨h.lo v hv,by
  by_cases h0:0<=out v
  ·obtain⟨j,hj,rfl⟩:=List.getElem_of_mem ((h.iff v hv).1 h0)
   have:=h.up j hj
   have:=h.len
   omega
  ·omega⟩
 first:=h.first
 zero:=h.zero
 down:=h.down
 shut:=fun e v he oE h0 hr=>by
  obtain⟨j,hj,NH⟩:=List.getElem_of_mem ((h.iff _ (nN ok he)).1 h0)
  have h2:=h.shut j hj ab e he (by rw[NH];exact wW)
  rw[NH,nO ok he oE]at h2
  exact h2 hr
end
end Go.Proofs.YtihgaadadaekmaaGreat.V

namespace Go.Proofs.YtihgaadadaekmaaGreat.V
open Go.RowKit
attribute [local irreducible] eb wpOps gH Call
attribute [local go_sem] aM fI eM fX fV cE upd cm K.av cK AV.cells AV.cell rowOf rowsOf part ld rowAt bS bZ dH ei ij bK dc eA fZ e8 du ep cY cX dU dW bQ bf cQ bP cT cR ek er eo cP bU cZ ej bL aQ cV cw ig bt cH bR bc dF bq dI AV.undef bD bF dX eh dQ dZ cF ez eE cr ev eu cU cW List.getD_cons_zero List.getD_cons_succ List.getD_nil List.all_cons List.all_nil Bool.and_true Bool.true_and Bool.and_self Bool.not_true Bool.not_false Option.map_some Option.map_none Option.bind_some Option.bind_none List.length_cons List.length_nil List.take_succ_cons List.take_zero List.take_nil List.drop_succ_cons List.drop_zero List.drop_nil List.head?_cons List.map_cons List.map_nil List.getElem?_cons_zero List.getElem?_cons_succ List.cons_append List.nil_append List.append_nil List.length_map List.set_cons_zero List.set_cons_succ Nat.reduceMul eq_self Int.toNat_natCast Int.natCast_nonneg and_self true_and and_true decide_true decide_false Bool.false_eq_true Nat.zero_add Nat.add_zero List.contains_cons List.contains_nil Bool.or_false Bool.false_or beq_self_eq_true Nat.reduceBEq ne_eq not_true_eq_false not_false_eq_true Id.mk.injEq false_and and_false Nat.reduceLT Int.reduceLE Int.reduceLT Int.reduceToNat Int.reduceNeg Int.reduceAdd Nat.le_refl List.length_append beq_true beq_false Bool.not_eq_eq_eq_not or_false false_or dD ad aj aH bC b4 aX bo aY bl cL bE
def mB (P:Program) (f:Nat) (args:List AV) (R:AV->Prop):Prop:=∀n:Nat,Call P f args ⟨fun _=>none,n⟩ fun r0 σ'=>∃r',fu σ'.get 6 r0=some r'/\R r'
theorem En {P:Program} {f:Nat} {args eU:List AV} {g:Rows} {n:Nat} {R:AV->Prop} (hv:cq (dD g) 6 args=some eU) (h:Sound P f eU ⟨fun _=>none,n⟩ fun r0 σ'=>∃r',fu σ'.get 6 r0=some r'/\R r'):Sound P f args ⟨g,n⟩ fun r σ'=>R r/\σ'=⟨g,n⟩:=by
 intro hs D ι w vs S U A
 refine(vT (g0:=g) (K:=R) ⟨eU,hv,h⟩ (fun _ _ h=>h) S U A).mono ?_
 rintro e w' ⟨r,D',u,rfl,hR,T,S',hr⟩
 exact⟨r,g,n,D',ι,u,rfl,⟨hR,rfl⟩,T,S',U,Nat.le_refl _,hr⟩
theorem mB.x {P:Program} (hm:P.follows .mixedOrders=true) {f:Nat} {args eU:List AV} {R:AV->Prop} (h:mB P f eU R) {σ:aw} (hv:cq (dD σ.get) 6 args=some eU):Call P f args σ fun r σ'=>R r/\σ'=σ:=
 iw (En hv (gJ hm (h σ.next)))
theorem mB.body {P:Program} {f:Nat} {args:List AV} {R:AV->Prop} {nt na:Nat} {body:VC} {res:List oB} (hf:l5 P f=some ⟨nt,na,body,res⟩) (ha:na=args.length) (h:(∀a∈args,eG a)->∀n:Nat,eb (Call P) body (la res fun r0 σ'=>∃r',fu σ'.get 6 r0=some r'/\R r') (cm args) ⟨fun _=>none,n⟩):mB P f args R:=fun n=>lq hf ha fun hl=>h hl n
def dJ (f:Nat->Int) (n:Nat):List (List AV):=(List.range n).map fun i=>ay (f i)
theorem dv (f:Nat->Int) (n:Nat):(dJ f n).length=n:=by simp[dJ]
theorem dC {f:Nat->Int} {n i:Nat} (h:i<n):(dJ f n)[i]? =some (ay (f i)):=by simp[dJ,h]
theorem kG {f g:Nat->Int} {n k:Nat} {v:Int} (hk:k<n) (hv:g k=v) (h:∀i,i<n->i≠k->g i=f i):(dJ f n).set k (ay v)=dJ g n:=by
 refine List.ext_getElem? fun i=>?_
 rw[List.getElem?_set]
 by_cases hi:k=i
 ·subst hi
  rw[if_pos rfl,dv,if_pos hk,dC hk,hv]
 ·rw[if_neg hi]
  by_cases fJ:i<n
  ·rw[dC fJ,dC fJ,h i fJ (fun h=>hi h.symm)]
  ·rw[List.getElem?_eq_none (by rw[dv];omega),List.getElem?_eq_none (by rw[dv];omega)]
theorem FA (f:Nat->Int) (n:Nat):dJ f (n+1)=dJ f n++[ay (f n)]:=by simp[dJ,List.range_succ]
theorem fzI (g:Rows) (n:Nat) (a:Int):cq g (n+1) (ay a)=some (ay a):=by simp[ay,ad,aj,aH]
theorem Q3 (g:Rows) (n:Nat) (a:Int):dB g (n+1) (ay a)=some (ay a):=by simp[ay,aC,aL,cC]
theorem HV {g:Rows} {f:Nat->Int} {n m:Nat}:fE g (m+1) (dJ f n)=some (dJ f n):=by
 have:dJ f n=((List.range n).map f).map ay:=by simp[dJ]
 rw[this];exact r7 fun x=>Q3 g m x
theorem yq {g:Rows} {f:Nat->Int} {n m:Nat}:dM g (m+1) (dJ f n)=some (dJ f n):=by
 have:dJ f n=((List.range n).map f).map ay:=by simp[dJ]
 rw[this];exact l7 fun x=>fzI g m x
def MY (l:List Nat):AV:=if l=[]then .br else .sl (l.map eN)
def oV (cnt:Nat) (bs:List PB) (m:Nat):List (List AV):=(List.range cnt).map fun v=>[MY (iA bs m v)]
theorem AO {cnt:Nat} {bs:List PB} {m v:Nat} (h:v<cnt):(oV cnt bs m)[v]? =some [MY (iA bs m v)]:=by simp[oV,h]
def fx (cnt:Nat) (bs:List PB) (f:Nat->Int):List AV:=[.int .i64 cnt,.sl (bs.map ax),.sl (oV cnt bs bs.length),.sl (dJ f bs.length)]
theorem sV {bs:List PB} {e:Nat} (h:e<bs.length):(bs.map ax)[e]? =some (ax (bV bs e)):=getD_map ax h
def Small (bs:List PB) (f:Nat->Int):Prop:=∀e,e<bs.length->(0<=(bV bs e).s/\(bV bs e).s<=4)/\-4<=f e/\f e<=4
theorem HH (cnt:Nat) (bs:List PB) (f:Nat->Int) (hs:Small bs f) (e v:Nat) (he:e<bs.length):ah Tryz.prog 188 [.de (fx cnt bs f),.int .i64 v,.int .i64 e] (.gE [.int .i64 (fo bs f e v),.int .i64 (bz bs e v)]):=by
 refine ah.body dY rfl fun hl n0=>?_
 clear hl
 have hb:=sV he
 have hf:=dC (f:=f) he
 obtain⟨⟨s0,s1⟩,s2,s3⟩:=hs e he
 have w1:IntKind.i64.wrap ((bV bs e).s-f e)=(bV bs e).s-f e:=bd ab
 have w2:IntKind.i64.wrap ((bV bs e).s+f e)=(bV bs e).s+f e:=bd ab
 unfold fo bz
 generalize bV bs e=b at *
 by_cases h:b.a=v
 ·have hd:decide ((b.a:Int)=(v:Int))=true:=decide_eq_true (by rw[h])
  (try((repeat(revert hN;revert N;apply Pn.out));refine wk (tw @fx.eq_1 (tw @hb (tw @hf (tw @ax.eq_1 (tw @ay.eq_1 (tw @hd (tw @w1 @w2))))))) ?_;(repeat(refine Pn.mk ?_;intro N hN))))
  refine jc (.inl rfl) (by simp only[go_sem, ↓reduceIte,Nat.reduceEqDiff,Nat.reduceAdd,Nat.reduceSub,Nat.reduceLeDiff,reduceCtorEq];rfl) (by simp only[go_sem, ↓reduceIte,Nat.reduceEqDiff,Nat.reduceAdd,Nat.reduceSub,Nat.reduceLeDiff,reduceCtorEq];rfl) ?_
  simp only[cJ,aC,aL,cC,Option.map_some,if_pos h]
 ·have hd:decide ((b.a:Int)=(v:Int))=false:=decide_eq_false fun hc=>h ab
  (try((repeat(revert hN;revert N;apply Pn.out));refine wk (tw @fx.eq_1 (tw @hb (tw @hf (tw @ax.eq_1 (tw @ay.eq_1 (tw @hd (tw @w1 @w2))))))) ?_;(repeat(refine Pn.mk ?_;intro N hN))))
  refine jc (.inl rfl) (by simp only[go_sem, ↓reduceIte,Nat.reduceEqDiff,Nat.reduceAdd,Nat.reduceSub,Nat.reduceLeDiff,reduceCtorEq];rfl) (by simp only[go_sem, ↓reduceIte,Nat.reduceEqDiff,Nat.reduceAdd,Nat.reduceSub,Nat.reduceLeDiff,reduceCtorEq];rfl) ?_
  simp only[cJ,aC,aL,cC,Option.map_some,if_neg h]
theorem DE (cnt:Nat) (hn:cnt<=1048576) (bs:List PB) (ok:mE cnt bs) (pD:bs.length<=1048576) (f:Nat->Int) (hs:Small bs f) (y:Nat) (hy:y<cnt):
  mB Tryz.prog 168 [.de (fx cnt bs f),.int .i64 y] fun r=>∃out,r=.sl (dJ out cnt)/\xf cnt bs f y out:=by
 refine mB.body dY rfl fun hl n0=>?_
 clear hl
 (try((repeat(revert hN;revert N;apply Pn.out));refine wk @fx.eq_1 ?_;(repeat(refine Pn.mk ?_;intro N hN))))
 refine aT (fun n env st=>∃k:Nat,n=(cnt)-k/\k<=(cnt)/\env 6=.int .i64 (k:Int)/\(∃o:Id,env 5=.own o 0 k/\st.get o=some ⟨true,1,dJ (fun _=>-1) k⟩/\o.bY<st.next)) (cnt) ⟨0,ab,ab,sl @fx.eq_1,⟨⟨168001000,n0+1⟩,by(simp only[go_sem, ↓reduceIte,Nat.reduceEqDiff,Nat.reduceAdd,Nat.reduceSub,Nat.reduceLeDiff,reduceCtorEq])<;>rfl,by(simp only[go_sem, ↓reduceIte,Nat.reduceEqDiff,Nat.reduceAdd,Nat.reduceSub,Nat.reduceLeDiff,reduceCtorEq])<;>rfl,bw⟩⟩ ?_
 rintro n_a env_a st_a ⟨k,rfl,ale,a6,k5⟩ dE
 have a0:=dE 0 (by kernel_rfl);have a1:=dE 1 (by kernel_rfl)
 simp only[go_sem, ↓reduceIte,Nat.reduceEqDiff,Nat.reduceAdd,Nat.reduceSub,Nat.reduceLeDiff,reduceCtorEq,fx]at a0 a1
 clear dE
 obtain⟨o,a5,ag,se⟩:=k5
 have tl:=dv (fun _=>-1) k
 have qQ:=eC se
 by_cases hk:(k:Int)<(cnt:Int)
 ·have bW:∀{e:Env} {gg:Rows} {nx:Nat},(e 6=.int .i64 (IntKind.i64.wrap ((k:Int)+1)))->(∃o:Id,e 5=.own o 0 (k+1)/\gg o=some ⟨true,1,dJ (fun _=>-1) (k+1)⟩/\o.bY<nx)->∃m0,m0<(cnt)-k/\∃k:Nat,m0=(cnt)-k/\k<=(cnt)/\e 6=.int .i64 (k:Int)/\(∃o:Id,e 5=.own o 0 k/\gg o=some ⟨true,1,dJ (fun _=>-1) k⟩/\o.bY<nx):=fun x1 x2=>⟨_,ab,k+1,rfl,ab,(by rw[x1,aA ab]),x2⟩
  have e1:k+1<=16777216:=ab
  have rr:dJ (fun _=>-1) k++[[.int .i64 (-1)]]=dJ (fun _=>-1) (k+1):=(FA _ _).symm
  (try((repeat(revert hN;revert N;apply Pn.out));refine wk (tw @a6 (tw @a0 (tw @a1 (tw @a5 (tw @ag (tw @qQ (tw @hk (tw @tl (tw @e1 (tw @rr @fx.eq_1)))))))))) ?_;(repeat(refine Pn.mk ?_;intro N hN))))
  exact bW (sd (tw @a6 (tw @a0 (tw @a1 @fx.eq_1)))) (⟨⟨168005002,st_a.next+1⟩,sd @Nat.zero_add,sd @rr,bw⟩)
 have lS:k=cnt:=ab
 subst lS
 have QE:(y:Int)<(k:Int):=ab
 have hym:=dC (f:=fun _=>-1) hy
 have zI:(dJ (fun _=>-1) k).set y (ay 0)=dJ (fun v=>if v=y then 0 else -1) k:=kG hy (if_pos rfl) fun i _ hi=>if_neg hi
 rw[ay]at zI hym
 (try((repeat(revert hN;revert N;apply Pn.out));refine wk (tw @a6 (tw @a0 (tw @a1 (tw @a5 (tw @ag (tw @qQ (tw @hk (tw @tl (tw @QE (tw @hym (tw @zI @fx.eq_1))))))))))) ?_;(repeat(refine Pn.mk ?_;intro N hN))))
 refine aT (fun m env st=>∃(i:Nat) (out:Nat->Int) (Q:List Nat) (p:Id),m=k-i/\env 8=.int .i64 (i:Int)/\env 7=.own p 0 Q.length/\st.get p=some ⟨true,1,Q.map eN⟩/\st.get o=some ⟨true,1,dJ out k⟩/\o.bY<p.bY/\p.bY<st.next/\yE k bs f y out Q i/\i<=Q.length) k ⟨0,_,[y],⟨168007001,st_a.next+1+1⟩,ab,by(simp only[go_sem, ↓reduceIte,Nat.reduceEqDiff,Nat.reduceAdd,Nat.reduceSub,Nat.reduceLeDiff,reduceCtorEq])<;>rfl,by(simp only[go_sem, ↓reduceIte,Nat.reduceEqDiff,Nat.reduceAdd,Nat.reduceSub,Nat.reduceLeDiff,reduceCtorEq])<;>rfl,by(simp only[go_sem, ↓reduceIte,Nat.reduceEqDiff,Nat.reduceAdd,Nat.reduceSub,Nat.reduceLeDiff,reduceCtorEq])<;>rfl,sd @qQ,bw,bw,yE.start hy,by simp⟩ ?_
 rintro n env_b st_b ⟨i,out,Q,p,rfl,b8,b7,bgp,bgo,dN,hpn,hB,hiq⟩ bfr
 have b0:=bfr 0 (by kernel_rfl)
 have b5:=bfr 5 (by kernel_rfl)
 simp only[go_sem, ↓reduceIte,Nat.reduceEqDiff,Nat.reduceAdd,Nat.reduceSub,Nat.reduceLeDiff,reduceCtorEq,a6,a0,a1,a5,fx]at b0 b5
 clear bfr
 have hql:=hB.len
 have QK:=dv out k
 have hqm:(Q.map eN).length=Q.length:=by simp
 have yI:=eC hpn
 have oF:=eC (i:=o) (n:=st_b.next) ab
 by_cases hi:(i:Int)<(Q.length:Int)
 ·have fJ:i<Q.length:=ab
  have oe:(Q.map eN)[i]? =some (eN Q[i]):=by simp[fJ]
  have KX:=hB.lt _ (List.getElem_mem fJ)
  obtain⟨vt,Mv⟩:∃vt,vt=Q[i]:=⟨_,rfl⟩
  rw[<-Mv]at oe KX
  have hA:=AO (cnt:=k) (bs:=bs) (m:=bs.length) KX
  have FR:(vt:Int)<(k:Int):=ab
  have oL:=qg bs bs.length vt
  have hme:∀x,x<(iA bs bs.length vt).length->(iA bs bs.length vt).getD x 0<bs.length/\CL bs ((iA bs bs.length vt).getD x 0) vt:=fun x hx=>by
   rw[List.getD_eq_getElem?_getD,List.getElem?_eq_getElem hx]
   exact qh.1 (List.getElem_mem hx)
  have OX:∀e∈iA bs bs.length vt,∃x,x<(iA bs bs.length vt).length/\(iA bs bs.length vt).getD x 0=e:=fun e he=>by
   obtain⟨x,hx,rfl⟩:=List.getElem_of_mem he
   exact⟨x,hx,by rw[List.getD_eq_getElem?_getD,List.getElem?_eq_getElem hx];rfl⟩
  generalize hIn:iA bs bs.length vt=I at *
  unfold MY at hA
  by_cases Ri:I=[]
  ·rw[if_pos Ri]at hA
   have hI1:I.length=0:=by rw[Ri];rfl
   (try((repeat(revert hN;revert N;apply Pn.out));refine wk (tw @b0 (tw @b5 (tw @b7 (tw @b8 (tw @bgp (tw @hi (tw @oe (tw @hqm (tw @eN.eq_1 @fx.eq_1))))))))) ?_;(repeat(refine Pn.mk ?_;intro N hN))))
   refine aT (fun n env st=>∃x:Nat,n=(I.length)-x/\x<=(I.length)/\env 10=.int .i64 (x:Int)/\(∃(iu:Nat->Int) (Q':List Nat) (p':Id),env 7=.own p' 0 Q'.length/\st.get p'=some ⟨true,1,Q'.map eN⟩/\st.get o=some ⟨true,1,dJ iu k⟩/\o.bY<p'.bY/\p'.bY<st.next/\yE k bs f y iu Q' i/\(∃h:i<Q'.length,Q'[i]=vt)/\(∀z,z<x->0<fo bs f (I.getD z 0) (bz bs (I.getD z 0) vt)->0<=iu (bz bs (I.getD z 0) vt)))) (I.length) ⟨0,ab,ab,sl (tw @b0 (tw @b5 (tw @b8 @fx.eq_1))),⟨out,Q,p,sd @b7,sd @bgp,sd @bgo,dN,bw,hB,⟨fJ,Mv.symm⟩,fun z hz=>ab⟩⟩ ?_
   rintro n_c env_c st_c ⟨x,rfl,cle,je,cI0⟩ cfr
   have c0:=cfr 0 (by kernel_rfl);have c5:=cfr 5 (by kernel_rfl);have c8:=cfr 8 (by kernel_rfl);have c9:=cfr 9 (by kernel_rfl)
   simp only[go_sem, ↓reduceIte,Nat.reduceEqDiff,Nat.reduceAdd,Nat.reduceSub,Nat.reduceLeDiff,reduceCtorEq,b0,b5,b8,fx]at c0 c5 c8 c9
   clear cfr
   obtain⟨iu,Q',p',c7,Gl,we,BH,Mm,dz,⟨vw,ph⟩,ID⟩:=cI0
   have R3:=dz.len
   have M4:=dv iu k
   have Mo:(Q'.map eN).length=Q'.length:=by simp
   have xP:=eC Mm
   have lz:=eC (i:=o) (n:=st_c.next) ab
   have x1:=dx BH
   have hx:¬(x:Int)<((0:Nat):Int):=ab
   have hxe:x=I.length:=ab
   have hw:IntKind.i64.wrap ((i:Int)+1)=((i+1:Nat):Int):=aA ab
   (try((repeat(revert hN;revert N;apply Pn.out));refine wk (tw @je (tw @c0 (tw @c5 (tw @c8 (tw @c9 (tw @c7 (tw @hx (tw @hA (tw @FR @fx.eq_1))))))))) ?_;(repeat(refine Pn.mk ?_;intro N hN))))
   refine⟨_,?_,i+1,iu,Q',p',rfl,sd (tw @je (tw @c0 (tw @c5 (tw @c8 (tw @c9 @hw))))),sd @c7,sd @Gl,sd @we,BH,bw,dz.next vw fun e he hr=>?_,ab⟩
   ·omega
   ·rw[ph,hIn]at he
    rw[ph]at hr ⊢
    obtain⟨z,hz,rfl⟩:=OX e he
    exact ID z ab hr
  ·rw[if_neg Ri]at hA
   have pe:(I.map eN).length=I.length:=by simp
   (try((repeat(revert hN;revert N;apply Pn.out));refine wk (tw @b0 (tw @b5 (tw @b7 (tw @b8 (tw @bgp (tw @hi (tw @oe (tw @hqm (tw @eN.eq_1 @fx.eq_1))))))))) ?_;(repeat(refine Pn.mk ?_;intro N hN))))
   refine aT (fun n env st=>∃x:Nat,n=(I.length)-x/\x<=(I.length)/\env 10=.int .i64 (x:Int)/\(∃(iu:Nat->Int) (Q':List Nat) (p':Id),env 7=.own p' 0 Q'.length/\st.get p'=some ⟨true,1,Q'.map eN⟩/\st.get o=some ⟨true,1,dJ iu k⟩/\o.bY<p'.bY/\p'.bY<st.next/\yE k bs f y iu Q' i/\(∃h:i<Q'.length,Q'[i]=vt)/\(∀z,z<x->0<fo bs f (I.getD z 0) (bz bs (I.getD z 0) vt)->0<=iu (bz bs (I.getD z 0) vt)))) (I.length) ⟨0,ab,ab,sl (tw @b0 (tw @b5 (tw @b8 @fx.eq_1))),⟨out,Q,p,sd @b7,sd @bgp,sd @bgo,dN,bw,hB,⟨fJ,Mv.symm⟩,fun z hz=>ab⟩⟩ ?_
   rintro n_c env_c st_c ⟨x,rfl,cle,je,cI0⟩ cfr
   have c0:=cfr 0 (by kernel_rfl);have c5:=cfr 5 (by kernel_rfl);have c8:=cfr 8 (by kernel_rfl);have c9:=cfr 9 (by kernel_rfl)
   simp only[go_sem, ↓reduceIte,Nat.reduceEqDiff,Nat.reduceAdd,Nat.reduceSub,Nat.reduceLeDiff,reduceCtorEq,b0,b5,b8,fx]at c0 c5 c8 c9
   clear cfr
   obtain⟨iu,Q',p',c7,Gl,we,BH,Mm,dz,⟨vw,ph⟩,ID⟩:=cI0
   have R3:=dz.len
   have M4:=dv iu k
   have Mo:(Q'.map eN).length=Q'.length:=by simp
   have xP:=eC Mm
   have lz:=eC (i:=o) (n:=st_c.next) ab
   have x1:=dx BH
   by_cases hx:(x:Int)<(I.length:Int)
   ·have gD:∀{e:Env} {gg:Rows} {nx:Nat},(e 10=.int .i64 (IntKind.i64.wrap ((x:Int)+1)))->(∃(iu:Nat->Int) (Q':List Nat) (p':Id),e 7=.own p' 0 Q'.length/\gg p'=some ⟨true,1,Q'.map eN⟩/\gg o=some ⟨true,1,dJ iu k⟩/\o.bY<p'.bY/\p'.bY<nx/\yE k bs f y iu Q' i/\(∃h:i<Q'.length,Q'[i]=vt)/\(∀z,z<(x+1)->0<fo bs f (I.getD z 0) (bz bs (I.getD z 0) vt)->0<=iu (bz bs (I.getD z 0) vt)))->∃m0,m0<(I.length)-x/\∃x:Nat,m0=(I.length)-x/\x<=(I.length)/\e 10=.int .i64 (x:Int)/\(∃(iu:Nat->Int) (Q':List Nat) (p':Id),e 7=.own p' 0 Q'.length/\gg p'=some ⟨true,1,Q'.map eN⟩/\gg o=some ⟨true,1,dJ iu k⟩/\o.bY<p'.bY/\p'.bY<nx/\yE k bs f y iu Q' i/\(∃h:i<Q'.length,Q'[i]=vt)/\(∀z,z<x->0<fo bs f (I.getD z 0) (bz bs (I.getD z 0) vt)->0<=iu (bz bs (I.getD z 0) vt))):=fun x1 x2=>⟨_,ab,x+1,rfl,ab,(by rw[x1,aA ab]),x2⟩
    have NV:x<I.length:=ab
    have LS:(I.map eN)[x]? =some (eN (I.getD x 0)):=getD_map eN NV
    obtain⟨he,oE⟩:=hme x NV
    obtain⟨e,Qj⟩:∃e,e=I.getD x 0:=⟨_,rfl⟩
    rw[<-Qj]at LS he oE
    have im:=sV he
    have hq:=nN ok (v:=vt) he
    have KS:=nO ok he oE
    have Mq:=HH k bs f hs e (bz bs e vt) he
    have OJ:=ok e he
    have oM:IntKind.i64.wrap (((bV bs e).a:Int)+((bV bs e).b:Int))=((bV bs e).a:Int)+((bV bs e).b:Int):=bd ab
    have qS:IntKind.i64.wrap (((bV bs e).a:Int)+((bV bs e).b:Int)-(vt:Int))=(bz bs e vt:Int):=by
     rw[bd ab]
     unfold bz
     rcases oE with h1|h1
     ·rw[if_pos h1];omega
     ·rw[if_neg fun h2=>OJ.2.2 (h2.trans h1.symm)];omega
    have NO:(bz bs e vt:Int)<(k:Int):=ab
    have L9:=dC (f:=iu) hq
    have Jm:=dC (f:=iu) KX
    rw[fx]at Mq
    have qd:=dz.up i vw
    rw[ph]at qd
    have jS:=dz.lo vt KX
    have Pc:IntKind.i64.wrap (iu vt+1)=iu vt+1:=bd ab
    rw[ay]at L9 Jm
    generalize zB:bV bs e=b at *
    by_cases jJ:iu (bz bs e vt)<0
    ·by_cases fA:0<fo bs f e (bz bs e vt)
     ·have hV:=dz.visit ok vw (e:=e) he (by rw[ph];exact oE) (by rw[ph];exact jJ) (by rw[ph];exact fA)
      rw[ph]at hV
      have ew:(dJ iu k).set (bz bs e vt) (ay (iu vt+1))=dJ (fun v=>if v=bz bs e vt then iu vt+1 else iu v) k:=kG hq (if_pos rfl) fun v _ hv=>if_neg hv
      rw[ay]at ew
      have e1:Q'.length+1<=16777216:=ab
      (repeat(first|((repeat(revert hN;revert N;apply Pn.out));refine wk (tw @je (tw @c0 (tw @c5 (tw @c8 (tw @c9 (tw @c7 (tw @Gl (tw @we (tw @hx (tw @hA (tw @pe (tw @LS (tw @FR (tw @im (tw @oM (tw @qS (tw @NO (tw @L9 (tw @Jm (tw @jJ (tw @fA (tw @Pc (tw @ew (tw @Mo (tw @M4 (tw @xP (tw @lz (tw @x1 (tw @e1 (tw @eN.eq_1 (tw @ax.eq_1 @fx.eq_1))))))))))))))))))))))))))))))) ?_;(repeat(refine Pn.mk ?_;intro N hN)))|((try apply Or.inl);refine⟨_,ah.x (Mq) (sd (tw @je (tw @c0 (tw @c5 (tw @c8 (tw @c9 (tw @c7 (tw @Gl (tw @we (tw @hx (tw @hA (tw @pe (tw @LS (tw @FR (tw @im (tw @oM (tw @qS (tw @NO (tw @L9 (tw @Jm (tw @jJ (tw @fA (tw @Pc (tw @ew (tw @Mo (tw @M4 (tw @xP (tw @lz (tw @x1 (tw @e1 (tw @eN.eq_1 (tw @ax.eq_1 @fx.eq_1)))))))))))))))))))))))))))))))),?_⟩;refine hN _ _ ?_;clear hN N)))
      exact gD (sd (tw @je (tw @c0 (tw @c5 (tw @c8 @c9))))) (⟨_,Q'++[bz bs e vt],⟨168020003,st_c.next+1+1+1+1+1+1⟩,by rw[List.length_append];simp only[go_sem, ↓reduceIte,Nat.reduceEqDiff,Nat.reduceAdd,Nat.reduceSub,Nat.reduceLeDiff,reduceCtorEq,List.length_cons,List.length_nil],by rw[List.map_append,List.map_cons,List.map_nil];simp only[go_sem, ↓reduceIte,Nat.reduceEqDiff,Nat.reduceAdd,Nat.reduceSub,Nat.reduceLeDiff,reduceCtorEq,eN],sd (tw @lz @x1),bw,bw,hV,⟨by simp;omega,by rw[List.getElem_append_left vw];exact ph⟩,fun z hz hr=>by
       by_cases Ph:z=x
       ·subst Ph
        rw[<-Qj,if_pos rfl]
        have:=(dz.iff vt KX).2 (by rw[<-ph];exact List.getElem_mem vw)
        omega
       ·have:=ID z ab hr
        split
        ·have:=(dz.iff vt KX).2 (by rw[<-ph];exact List.getElem_mem vw)
         omega
        ·exact this⟩)
     ·(repeat(first|((repeat(revert hN;revert N;apply Pn.out));refine wk (tw @je (tw @c0 (tw @c5 (tw @c8 (tw @c9 (tw @c7 (tw @Gl (tw @we (tw @hx (tw @hA (tw @pe (tw @LS (tw @FR (tw @im (tw @oM (tw @qS (tw @NO (tw @L9 (tw @jJ (tw @fA (tw @M4 (tw @xP (tw @lz (tw @x1 (tw @eN.eq_1 (tw @ax.eq_1 @fx.eq_1)))))))))))))))))))))))))) ?_;(repeat(refine Pn.mk ?_;intro N hN)))|((try apply Or.inl);refine⟨_,ah.x (Mq) (sd (tw @je (tw @c0 (tw @c5 (tw @c8 (tw @c9 (tw @c7 (tw @Gl (tw @we (tw @hx (tw @hA (tw @pe (tw @LS (tw @FR (tw @im (tw @oM (tw @qS (tw @NO (tw @L9 (tw @jJ (tw @fA (tw @M4 (tw @xP (tw @lz (tw @x1 (tw @eN.eq_1 (tw @ax.eq_1 @fx.eq_1))))))))))))))))))))))))))),?_⟩;refine hN _ _ ?_;clear hN N)))
      exact gD (sd (tw @je (tw @c0 (tw @c5 (tw @c8 @c9))))) (⟨iu,Q',p',sd @c7,sd (tw @Gl @xP),sd (tw @we @lz),BH,bw,dz,⟨vw,ph⟩,fun z hz hr=>by
       by_cases Ph:z=x
       ·subst Ph;rw[<-Qj]at hr;exact absurd hr fA
       ·exact ID z ab hr⟩)
    ·(repeat(first|((repeat(revert hN;revert N;apply Pn.out));refine wk (tw @je (tw @c0 (tw @c5 (tw @c8 (tw @c9 (tw @c7 (tw @Gl (tw @we (tw @hx (tw @hA (tw @pe (tw @LS (tw @FR (tw @im (tw @oM (tw @qS (tw @NO (tw @L9 (tw @jJ (tw @M4 (tw @xP (tw @lz (tw @x1 (tw @eN.eq_1 (tw @ax.eq_1 @fx.eq_1))))))))))))))))))))))))) ?_;(repeat(refine Pn.mk ?_;intro N hN)))|((try apply Or.inl);refine⟨_,ah.x (Mq) (sd (tw @je (tw @c0 (tw @c5 (tw @c8 (tw @c9 (tw @c7 (tw @Gl (tw @we (tw @hx (tw @hA (tw @pe (tw @LS (tw @FR (tw @im (tw @oM (tw @qS (tw @NO (tw @L9 (tw @jJ (tw @M4 (tw @xP (tw @lz (tw @x1 (tw @eN.eq_1 (tw @ax.eq_1 @fx.eq_1)))))))))))))))))))))))))),?_⟩;refine hN _ _ ?_;clear hN N)))
     exact gD (sd (tw @je (tw @c0 (tw @c5 (tw @c8 @c9))))) (⟨iu,Q',p',sd @c7,sd (tw @Gl @xP),sd (tw @we @lz),BH,bw,dz,⟨vw,ph⟩,fun z hz hr=>by
      by_cases Ph:z=x
      ·subst Ph;rw[<-Qj];omega
      ·exact ID z ab hr⟩)
   ·have hxe:x=I.length:=ab
    have hw:IntKind.i64.wrap ((i:Int)+1)=((i+1:Nat):Int):=aA ab
    (try((repeat(revert hN;revert N;apply Pn.out));refine wk (tw @je (tw @c0 (tw @c5 (tw @c8 (tw @c9 (tw @c7 (tw @hx (tw @hA (tw @pe (tw @FR @fx.eq_1)))))))))) ?_;(repeat(refine Pn.mk ?_;intro N hN))))
    refine⟨_,?_,i+1,iu,Q',p',rfl,sd (tw @je (tw @c0 (tw @c5 (tw @c8 (tw @c9 @hw))))),sd @c7,sd @Gl,sd @we,BH,bw,dz.next vw fun e he hr=>?_,ab⟩
    ·omega
    ·rw[ph,hIn]at he
     rw[ph]at hr ⊢
     obtain⟨z,hz,rfl⟩:=OX e he
     exact ID z ab hr
 ·(try((repeat(revert hN;revert N;apply Pn.out));refine wk (tw @b0 (tw @b5 (tw @b7 (tw @b8 (tw @hi @fx.eq_1))))) ?_;(repeat(refine Pn.mk ?_;intro N hN))))
  have rq:fu st_b.get 6 (.own o 0 k)=some (.sl (dJ out k)):=pW bgo (by rw[QK];omega) (by rw[List.drop_zero,List.take_of_length_le (by rw[QK];omega)];exact HV)
  exact⟨_,rfl,_,by simp only[go_sem, ↓reduceIte,Nat.reduceEqDiff,Nat.reduceAdd,Nat.reduceSub,Nat.reduceLeDiff,reduceCtorEq,dr];exact rq,out,rfl,hB.done ok ab⟩
end Go.Proofs.YtihgaadadaekmaaGreat.V

namespace Go.Proofs.YtihgaadadaekmaaGreat.V
open Go.RowKit
attribute [local irreducible] eb wpOps gH Call
attribute [local go_sem] aM fI eM fX fV cE upd cm K.av cK AV.cells AV.cell rowOf rowsOf part ld rowAt bS bZ dH ei ij bK dc eA fZ e8 du ep cY cX dU dW bQ bf cQ bP cT cR ek er eo cP bU cZ ej bL aQ cV cw ig bt cH bR bc dF bq dI AV.undef bD bF dX eh dQ dZ cF ez eE cr ev eu cU cW List.getD_cons_zero List.getD_cons_succ List.getD_nil List.all_cons List.all_nil Bool.and_true Bool.true_and Bool.and_self Bool.not_true Bool.not_false Option.map_some Option.map_none Option.bind_some Option.bind_none List.length_cons List.length_nil List.take_succ_cons List.take_zero List.take_nil List.drop_succ_cons List.drop_zero List.drop_nil List.head?_cons List.map_cons List.map_nil List.getElem?_cons_zero List.getElem?_cons_succ List.cons_append List.nil_append List.append_nil List.length_map List.set_cons_zero List.set_cons_succ eq_self Int.toNat_natCast Int.natCast_nonneg and_self true_and and_true decide_true decide_false Bool.false_eq_true Nat.zero_add Nat.add_zero List.contains_cons List.contains_nil Bool.or_false Bool.false_or beq_self_eq_true ne_eq not_true_eq_false not_false_eq_true Id.mk.injEq false_and and_false Nat.le_refl List.length_append beq_true beq_false Bool.not_eq_eq_eq_not or_false false_or dD ad aj aH bC b4 aX bo aY bl cL bE
def Nv:uV (List Nat):=fun g cs x ids=>(x=[]/\cs=[.br]/\ids=[])∨∃id,cs=[.own id 0 x.length]/\0<x.length/\g id=some ⟨true,1,x.map eN⟩/\ids=[id]
theorem K5:oR Nv 1 where
 frame:=fun h hf=>by
  rcases h with h|⟨id,h1,h0,h2,h3⟩
  ·exact .inl h
  ·subst h3;exact .inr ⟨id,h1,h0,(hf id (by simp)).trans h2,rfl⟩
 len:=fun h=>by rcases h with⟨_,h,_⟩|⟨id,h,_⟩<;>subst h<;>rfl
 cell:=fun h=>by rcases h with⟨_,h,_⟩|⟨id,h,_⟩<;>subst h<;>rfl
 live:=fun h i hi=>by
  rcases h with⟨_,_,h⟩|⟨id,h1,h0,h2,h3⟩
  ·subst h;cases hi
  ·subst h3
   have:i=id:=by simpa using hi
   subst this
   exact⟨_,h2,rfl,by simp[m4]⟩
 small:=by simp[m4]
theorem MF {g:Rows} {rows:List (List AV)} {xs:List (List Nat)} {ids:List Id} (n:Nat) (h:dd Nv g rows xs ids):dM (dD g) (n+2) rows=some (xs.map fun l=>[MY l]):=
 h.fz (fun {cs x ids} h=>by
  rcases h with⟨h0,h1,_⟩|⟨id,h1,h0,h2,_⟩
  ·subst h0 h1;rw[ad,aj,aX];rfl
  ·have gU:x≠[]:=by rintro rfl;simp at h0
   subst h1
   rw[ad,aj,eT (e:=eN) (sz:=1) (by simp[dD,h2]) rfl fun a=>fzN _ n a]
   simp[MY,gU])
theorem dd.PA {α:Type} {R:uV α} {sz:Nat} {g:Rows} {rows:List (List AV)} {xs:List α} {ids:List Id} (ok:oR R sz) (h:dd R g rows xs ids) (k7:ids.Nodup) (k:Nat) (hk:k<xs.length):
  ∃cs ic,rows[k]? =some cs/\R g cs xs[k] ic/\(∀i∈ic,i∈ids)/\∀(g':Rows) oI x' NX,R g' oI x' NX->(∀i∈ids,i∉ic->g' i=g i)->NX.Nodup->(∀i∈NX,i∉ids)->∃BP,dd R g' (rows.set k oI) (xs.set k x') BP/\BP.Nodup/\∀i∈BP,i∈NX∨i∈ids:=by
 obtain⟨r1,cs,r2,i1,ic,i2,rfl,rfl,rfl,h3,h4,h5⟩:=h.split k hk
 obtain⟨n1,n2,n3⟩:=List.nodup_append.1 k7
 obtain⟨nc,n5,n4⟩:=List.nodup_append.1 n2
 refine⟨cs,ic,by simp,h4,fun i hi=>by simp[hi],fun g' oI x' NX hR hf hn' kh=>⟨i1++(NX++i2),?_,?_,fun i hi=>?_⟩⟩
 ·have e:xs.set r1.length x'=xs.take r1.length++x'::xs.drop (r1.length+1):=by rw[List.set_eq_take_append_cons_drop,if_pos hk]
  have e2:(r1++cs::r2).set r1.length oI=r1++oI::r2:=by simp
  rw[e,e2]
  refine(h3.frame ok fun i hi=>hf i (by simp[hi]) fun hc=>n3 i hi i (by simp[hc]) rfl).app (.cons hR (h5.frame ok fun i hi=>hf i (by simp[hi]) fun hc=>n4 i hc i hi rfl))
 ·rw[List.nodup_append,List.nodup_append]
  refine⟨n1,⟨hn',n5,fun x hx y hy he=>?_⟩,fun x hx y hy he=>?_⟩
  ·subst he;exact kh x hx (by simp[hy])
  ·subst he
   rcases List.mem_append.1 hy with hy|hy
   ·exact kh x hy (by simp[hx])
   ·exact n3 x hx x (by simp[hy]) rfl
 ·rcases List.mem_append.1 hi with hi|hi
  ·exact .inr (by simp[hi])
  ·rcases List.mem_append.1 hi with hi|hi
   ·exact .inl hi
   ·exact .inr (by simp[hi])
def pI (A:Id) (lo:Nat) (L:List (List Nat)) (g:Rows) (nx:Nat):Prop:=∃rows ids,g A=some ⟨true,1,rows⟩/\dd Nv g rows L ids/\ids.Nodup/\∀i∈ids,lo<i.bY/\i.bY<nx
def bp (cnt:Nat) (bs:List PB) (A F:Id):List AV:=[.int .i64 cnt,.sl (bs.map ax),.own A 0 cnt,.own F 0 bs.length]
def kN (cnt:Nat) (bs:List PB) (m:Nat):List (List Nat):=(List.range cnt).map fun v=>iA bs m v
theorem iT (cnt:Nat) (bs:List PB) (m:Nat):(kN cnt bs m).length=cnt:=by simp[kN]
structure ni (cnt:Nat) (bs:List PB) (f:Nat->Int) (X A F:Id) (g:Rows) (nx:Nat):Prop where
 x:g X=some ⟨true,4,[bp cnt bs A F]⟩
 a:pI A F.bY (kN cnt bs bs.length) g nx
 f:g F=some ⟨true,1,dJ f bs.length⟩
 xa:X.bY<A.bY
 af:A.bY<F.bY
 fn:F.bY<nx
theorem pI.fz {A:Id} {lo cnt:Nat} {bs:List PB} {m nx n:Nat} {g:Rows} (h:pI A lo (kN cnt bs m) g nx):V.fz (dD g) (n+3) (.own A 0 cnt)=some (.sl (oV cnt bs m)):=by
 obtain⟨rows,ids,h1,h2,_,_⟩:=h
 have hl:=h2.len
 rw[iT]at hl
 rw[gC]
 simp only[dD,h1,Option.map_some,if_true]
 rw[if_pos ab,List.drop_zero,List.take_of_length_le ab]
 have:=MF n h2
 rw[this]
 simp[kN,oV]
theorem ni.fz {cnt:Nat} {bs:List PB} {f:Nat->Int} {X A F:Id} {g:Rows} {nx:Nat} (h:ni cnt bs f X A F g nx):V.fz (dD g) 6 (.ptr X 0 0)=some (.de (fx cnt bs f)):=by
 have hF:dD g F=some ⟨true,1,dJ f bs.length⟩:=by simp[dD,h.f]
 have hX:dD g X=some ⟨true,4,[bp cnt bs A F]⟩:=by simp[dD,h.x]
 have hf:V.fz (dD g) 5 (.own F 0 bs.length)=some (.sl (dJ f bs.length)):=by
  rw[gC]
  simp only[hF,if_true]
  rw[if_pos (by rw[dv];omega),List.drop_zero,List.take_of_length_le (by rw[dv];omega),yq];rfl
 have ha:=h.a.fz (n:=2)
 rw[bl]
 simp only[hX,if_true,List.getElem?_cons_zero,List.drop_zero,bp,ad,aj,aH,b4,ha,hf,Option.map_some,fx]
theorem EH (cnt:Nat) (bs:List PB):kN cnt bs 0=List.replicate cnt []:=by
 refine List.ext_getElem? fun i=>?_
 simp only[kN,List.getElem?_map,List.getElem?_replicate]
 by_cases h:i<cnt
 ·rw[List.getElem?_range h,if_pos h];rfl
 ·rw[List.getElem?_eq_none (by simpa using h),if_neg h];rfl
theorem wZ (g:Rows):∀n:Nat,dd Nv g (List.replicate n [.br]) (List.replicate n []) []
 |0=>.nil
 |n+1=>.cons (i1:=[]) (.inl ⟨rfl,rfl,rfl⟩) (wZ g n)
def vI (cnt:Nat) (bs:List PB) (m:Nat):List (List Nat):=(kN cnt bs m).set (bV bs m).a (iA bs m (bV bs m).a++[m])
theorem zN {cnt:Nat} {bs:List PB} {m v:Nat} (hv:v<cnt) (gU:(bV bs m).a≠v):(vI cnt bs m)[v]? =some (iA bs m v):=by
 unfold vI
 rw[List.getElem?_set_ne gU]
 simp[kN,hv]
theorem EG {cnt:Nat} {bs:List PB} {m:Nat} (ha:(bV bs m).a<cnt) (hb:(bV bs m).b<cnt) (gU:(bV bs m).a≠(bV bs m).b):(vI cnt bs m).set (bV bs m).b (iA bs m (bV bs m).b++[m])=kN cnt bs (m+1):=by
 refine List.ext_getElem? fun i=>?_
 by_cases hi:i<cnt
 ·have hr:(kN cnt bs (m+1))[i]? =some (iA bs (m+1) i):=by simp[kN,hi]
  rw[hr,EI]
  by_cases h1:(bV bs m).b=i
  ·rw[List.getElem?_set,if_pos h1,if_pos (by simp[vI,iT];omega),if_pos (.inr h1),h1]
  ·rw[List.getElem?_set_ne h1]
   by_cases h2:(bV bs m).a=i
   ·unfold vI
    rw[List.getElem?_set,if_pos h2,if_pos (by rw[iT];omega),if_pos (.inl h2),h2]
   ·rw[zN hi h2,if_neg (fun h=>h.elim h2 h1),List.append_nil]
 ·rw[List.getElem?_eq_none (by simp[vI,iT];omega),List.getElem?_eq_none (by rw[iT];omega)]
theorem ke {α:Type} {l:List α} {k:Nat} {x:α} (h:l[k]? =some x) (hk:k<l.length):l[k]=x:=by
 rw[List.getElem?_eq_getElem hk]at h;exact Option.some.inj h
theorem Du {A K:Id} {lo Pw nx k j:Nat} {L:List (List Nat)} {La:List Nat} {g:Rows} {rows:List (List AV)} {ids:List Id} (hR:dd Nv g rows L ids) (k7:ids.Nodup) (m3:∀i∈ids,lo<i.bY/\i.bY<Pw) (hA:A.bY<=lo) (hL:L[k]? =some La) (hK1:Pw<=K.bY) (OA:K.bY<nx) (jS:lo<Pw):
  ∃cs,rows[k]? =some cs/\((La=[]/\cs=[.br])∨∃id:Id,cs=[.own id 0 La.length]/\0<La.length/\g id=some ⟨true,1,La.map eN⟩/\id.bY<Pw/\lo<id.bY)/\
   ∀g':Rows,g' A=some ⟨true,1,rows.set k [.own K 0 (La.length+1)]⟩->g' K=some ⟨true,1,La.map eN++[[.int .i64 j]]⟩->(∀i:Id,i.bY<Pw->(i=A)=False->(∀id,cs=[.own id 0 La.length]->(i=id)=False)->g' i=g i)->pI A lo (L.set k (La++[j])) g' nx:=by
 have hk:k<L.length:=(List.getElem?_eq_some_iff.1 hL).1
 have Rk:=ke hL hk
 obtain⟨cs,ic,dn,ND,Iu,xN⟩:=hR.PA K5 k7 k hk
 rw[Rk]at ND
 refine⟨cs,dn,?_,fun g' h1 h2 h3=>?_⟩
 ·rcases ND with⟨h1,h2,_⟩|⟨id,h1,h2,h3,h4⟩
  ·exact .inl ⟨h1,h2⟩
  ·subst h4
   have:=m3 id (Iu id (by simp))
   exact .inr ⟨id,h1,h2,h3,this.2,this.1⟩
 ·obtain⟨BP,q1,q2,q3⟩:=xN g' [.own K 0 (La.length+1)] (La++[j]) [K] (.inr ⟨K,by simp,by simp,by rw[h2];simp[eN],rfl⟩) (fun i hi Qv=>by
   refine h3 i (m3 i hi).2 ?_ fun id hid=>?_
   ·simp only[eq_iff_iff,iff_false];rintro rfl;have:=m3 _ hi;omega
   ·simp only[eq_iff_iff,iff_false]
    rintro rfl
    rcases ND with⟨_,h4,_⟩|⟨ki,h4,_,_,h5⟩
    ·rw[hid]at h4;cases h4
    ·rw[hid]at h4
     simp only[List.cons.injEq,AV.own.injEq,and_true]at h4
     rw[h5,h4]at Qv
     exact Qv (by simp)) (by simp) fun i hi hc=>by
   rw[List.mem_singleton.1 hi]at hc;have:=m3 _ hc;omega
  refine⟨_,BP,h1,q1,q2,fun i hi=>?_⟩
  rcases q3 i hi with h|h
  ·rw[List.mem_singleton.1 h];omega
  ·have:=m3 i h;omega
theorem Kr {P:Program} {Q:Ex->Env->aw->Prop} {c:VC} {env:Env} {σ:aw} (I:Env->aw->Prop) (h2:∀e s,I e s->Q .normal e s) (h1:∀N':Env->aw->Prop,(∀e s,I e s->N' e s)->eb (Call P) c (dF N' Q) env σ):eb (Call P) c Q env σ:=by
 refine kJ (fun _ _ _ _ h=>h) aV c _ _ env σ (fun x e s h=>?_) (h1 I fun _ _ h=>h)
 cases x with
 |normal=>exact h2 e s h
 |exit id=>exact h
 |ret=>exact h
end Go.Proofs.YtihgaadadaekmaaGreat.V

namespace Go.Proofs.YtihgaadadaekmaaGreat.V
open Go.RowKit
attribute [local irreducible] eb wpOps gH Call
attribute [local go_sem] aM fI eM fX fV cE upd cm K.av cK AV.cells AV.cell rowOf rowsOf part ld rowAt bS bZ dH ei ij bK dc eA fZ e8 du ep cY cX dU dW bQ bf cQ bP cT cR ek er eo cP bU cZ ej bL aQ cV cw ig bt cH bR bc dF bq dI AV.undef bD bF dX eh dQ dZ cF ez eE cr ev eu cU cW List.getD_cons_zero List.getD_cons_succ List.getD_nil List.all_cons List.all_nil Bool.and_true Bool.true_and Bool.and_self Bool.not_true Bool.not_false Option.map_some Option.map_none Option.bind_some Option.bind_none List.length_cons List.length_nil List.take_succ_cons List.take_zero List.take_nil List.drop_succ_cons List.drop_zero List.drop_nil List.head?_cons List.map_cons List.map_nil List.getElem?_cons_zero List.getElem?_cons_succ List.cons_append List.nil_append List.append_nil List.length_map List.set_cons_zero List.set_cons_succ Nat.reduceMul eq_self Int.toNat_natCast Int.natCast_nonneg and_self true_and and_true decide_true decide_false Bool.false_eq_true Nat.zero_add Nat.add_zero List.contains_cons List.contains_nil Bool.or_false Bool.false_or beq_self_eq_true Nat.reduceBEq ne_eq not_true_eq_false not_false_eq_true Id.mk.injEq false_and and_false Nat.reduceLT Int.reduceLE Int.reduceLT Int.reduceToNat Int.reduceNeg Int.reduceAdd Nat.le_refl List.length_append beq_true beq_false Bool.not_eq_eq_eq_not or_false false_or dD ad aj aH bC b4 aX bo aY bl cL bE
theorem Hb (cnt:Nat) (hn:cnt<=1048576) (bs:List PB) (ok:mE cnt bs) (pD:bs.length<=1048576) (σ:aw):
  Call Tryz.prog 166 [.int .i64 cnt,.sl (bs.map ax)] σ fun r σ'=>∃X A F,r=.ptr X 0 0/\σ.next<=X.bY/\ni cnt bs (fun _=>0) X A F σ'.get σ'.next:=by
 refine xe Lz rfl fun hl=>?_
 try simp only[q]
 clear hl
 have jk:(0:Int)<=(cnt:Int):=ab
 have oK:(cnt:Int)<=((16777216:Nat):Int):=ab
 have OE:(0:Int)<=(bs.length:Int):=ab
 have Il:(bs.length:Int)<=((16777216:Nat):Int):=ab
 have hz:List.replicate bs.length [AV.int .i64 0]=dJ (fun _=>0) bs.length:=by
  refine List.ext_getElem? fun i=>?_
  by_cases h:i<bs.length
  ·rw[dC h,List.getElem?_replicate,if_pos h];rfl
  ·rw[List.getElem?_eq_none (by simp;omega),List.getElem?_eq_none (by rw[dv];omega)]
 (try((repeat(revert hN;revert N;apply Pn.out));refine wk (tw @jk (tw @oK (tw @OE (tw @Il (tw @Int.le_refl @hz))))) ?_;(repeat(refine Pn.mk ?_;intro N hN))))
 obtain⟨X,hX⟩:∃X:Id,X=⟨166001003,σ.next+1⟩:=⟨_,rfl⟩
 obtain⟨A,hA⟩:∃X:Id,X=⟨166002002,σ.next+1+1⟩:=⟨_,rfl⟩
 obtain⟨F,hF⟩:∃X:Id,X=⟨166003003,σ.next+1+1+1⟩:=⟨_,rfl⟩
 have hXA:X.bY<A.bY:=by rw[hX,hA];(try dsimp only);omega
 have hAF:A.bY<F.bY:=by rw[hA,hF];(try dsimp only);omega
 have hXs:σ.next<=X.bY:=by rw[hX];(try dsimp only);omega
 refine aT (fun n env st=>∃j:Nat,n=(bs.length)-j/\j<=(bs.length)/\env 6=.int .i64 (j:Int)/\env 5=(.ptr X 0 0)/\st.get X=some ⟨true,4,[bp cnt bs A F]⟩/\st.get F=some ⟨true,1,dJ (fun _=>0) bs.length⟩/\(pI A F.bY (kN cnt bs j) st.get st.next/\F.bY<st.next)) (bs.length) ⟨0,ab,ab,by(try simp only[go_sem, ↓reduceIte,Nat.reduceEqDiff,Nat.reduceAdd,Nat.reduceSub,Nat.reduceLeDiff,reduceCtorEq,hX,hF,hA,bp,hz]);try rfl,by(try simp only[go_sem, ↓reduceIte,Nat.reduceEqDiff,Nat.reduceAdd,Nat.reduceSub,Nat.reduceLeDiff,reduceCtorEq,hX,hF,hA,bp,hz]);try rfl,by(try simp only[go_sem, ↓reduceIte,Nat.reduceEqDiff,Nat.reduceAdd,Nat.reduceSub,Nat.reduceLeDiff,reduceCtorEq,hX,hF,hA,bp,hz]);try rfl,by(try simp only[go_sem, ↓reduceIte,Nat.reduceEqDiff,Nat.reduceAdd,Nat.reduceSub,Nat.reduceLeDiff,reduceCtorEq,hX,hF,hA,bp,hz]);try rfl,⟨⟨List.replicate cnt [.br],[],by rw[hA];(simp only[go_sem, ↓reduceIte,Nat.reduceEqDiff,Nat.reduceAdd,Nat.reduceSub,Nat.reduceLeDiff,reduceCtorEq])<;>rfl,by rw[EH];exact wZ _ _,List.nodup_nil,fun i hi=>by cases hi⟩,by rw[hF];(try dsimp only);omega⟩⟩ ?_
 rintro n_a env_a st_a ⟨j,rfl,ale,a6,a5,ag0,ag1,k5⟩ dE
 have a0:=dE 0 (by kernel_rfl);have a1:=dE 1 (by kernel_rfl)
 simp only[go_sem, ↓reduceIte,Nat.reduceEqDiff,Nat.reduceAdd,Nat.reduceSub,Nat.reduceLeDiff,reduceCtorEq,hX,hF,hA,bp,hz]at a0 a1
 clear dE
 obtain⟨⟨rows,ids,ag,hR,k7,m3⟩,hFn⟩:=k5
 have x1:=dx hXA
 have x2:=dx hAF
 have x3:=dx (a:=X) (b:=F) ab
 have vX:=eC (i:=X) (n:=st_a.next) ab
 have vA:=eC (i:=A) (n:=st_a.next) ab
 have vF:=eC (i:=F) (n:=st_a.next) ab
 by_cases hj:(j:Int)<(bs.length:Int)
 ·have bW:∀{e:Env} {gg:Rows} {nx:Nat},(e 6=.int .i64 (IntKind.i64.wrap ((j:Int)+1)))->(e 5=(.ptr X 0 0))->(gg X=some ⟨true,4,[bp cnt bs A F]⟩)->(gg F=some ⟨true,1,dJ (fun _=>0) bs.length⟩)->(pI A F.bY (kN cnt bs (j+1)) gg nx/\F.bY<nx)->∃m0,m0<(bs.length)-j/\∃j:Nat,m0=(bs.length)-j/\j<=(bs.length)/\e 6=.int .i64 (j:Int)/\e 5=(.ptr X 0 0)/\gg X=some ⟨true,4,[bp cnt bs A F]⟩/\gg F=some ⟨true,1,dJ (fun _=>0) bs.length⟩/\(pI A F.bY (kN cnt bs j) gg nx/\F.bY<nx):=fun x1 x2 x3 x4 x5=>⟨_,ab,j+1,rfl,ab,(by rw[x1,aA ab]),x2,x3,x4,x5⟩
  have gw:j<bs.length:=ab
  have im:=sV gw
  obtain⟨ha1,OF,gU⟩:=ok j gw
  have ga:((bV bs j).a:Int)<(cnt:Int):=ab
  have fB:((bV bs j).b:Int)<(cnt:Int):=ab
  have vD:=EG (m:=j) ha1 OF gU
  have e1:=qg bs j (bV bs j).a
  have e2:=qg bs j (bV bs j).b
  have OQ:(vI cnt bs j)[(bV bs j).b]? =some (iA bs j (bV bs j).b):=zN OF gU
  have OP:(kN cnt bs j)[(bV bs j).a]? =some (iA bs j (bV bs j).a):=by simp[kN,ha1]
  have Q6:vI cnt bs j=(kN cnt bs j).set (bV bs j).a (iA bs j (bV bs j).a++[j]):=rfl
  have Qc:(vI cnt bs j).length=cnt:=by rw[Q6,List.length_set,iT]
  have iI:=hR.len
  rw[iT]at iI
  obtain⟨cs7,iR,GK,GY⟩:=Du (A:=A) (K:=⟨166007022,st_a.next+1⟩) (nx:=st_a.next+1+1) (j:=j) hR k7 m3 ab OP bw bw hFn
  rw[<-Q6]at GY
  obtain⟨c7,rfl⟩:∃c,cs7=[c]:=by
   rcases GK with⟨_,h⟩|⟨id,h,_⟩<;>exact⟨_,h⟩
  generalize iA bs j (bV bs j).a=La at *
  generalize iA bs j (bV bs j).b=Lb at *
  generalize bV bs j=b at *
  generalize vI cnt bs j=LA at *
  clear Q6
  (try((repeat(revert hN;revert N;apply Pn.out));refine wk (tw @a6 (tw @a5 (tw @ag0 (tw @ag1 (tw @a0 (tw @a1 (tw @hj (tw @im (tw @ax.eq_1 (tw @ag (tw @iR (tw @ga (tw @fB (tw @iI (tw @x1 (tw @x2 (tw @x3 (tw @vX (tw @vA (tw @vF @bp.eq_1)))))))))))))))))))) ?_;(repeat(refine Pn.mk ?_;intro N hN))))
  refine Ia (fun e s=>e 0=.int .i64 cnt/\e 1=.sl (bs.map ax)/\e 5=.ptr X 0 0/\e 6=.int .i64 j/\s.get X=some ⟨true,4,[bp cnt bs A F]⟩/\s.get F=some ⟨true,1,dJ (fun _=>0) bs.length⟩/\pI A F.bY LA s.get s.next/\F.bY<s.next) ?_ ?_
  ·rintro e1 s1 ⟨m0,m1,m5,m6,mX,mF,⟨rows1,ids1,mg,mR,mnd,mver⟩,mn⟩
   refine hN _ _ ?_
   clear hN N
   have iJ:=mR.len
   rw[Qc]at iJ
   have wX:=eC (i:=X) (n:=s1.next) ab
   have wA:=eC (i:=A) (n:=s1.next) ab
   have wF:=eC (i:=F) (n:=s1.next) ab
   obtain⟨cs8,iS,GL,GZ⟩:=Du (A:=A) (K:=⟨166008022,s1.next⟩) (nx:=s1.next+1) (j:=j) mR mnd mver ab OQ bw bw mn
   rw[vD]at GZ
   obtain⟨c8,rfl⟩:∃c,cs8=[c]:=by
    rcases GL with⟨_,h⟩|⟨id,h,_⟩<;>exact⟨_,h⟩
   (try((repeat(revert hN;revert N;apply Pn.out));refine wk (tw @m0 (tw @m1 (tw @m5 (tw @m6 (tw @mX (tw @mF (tw @hj (tw @im (tw @ax.eq_1 (tw @mg (tw @iS (tw @ga (tw @fB (tw @iJ (tw @x1 (tw @x2 (tw @x3 (tw @wX (tw @wA (tw @wF @bp.eq_1)))))))))))))))))))) ?_;(repeat(refine Pn.mk ?_;intro N hN))))
   refine Kr (fun e s=>e 0=.int .i64 cnt/\e 1=.sl (bs.map ax)/\e 5=.ptr X 0 0/\e 6=.int .i64 j/\s.get X=some ⟨true,4,[bp cnt bs A F]⟩/\s.get F=some ⟨true,1,dJ (fun _=>0) bs.length⟩/\pI A F.bY (kN cnt bs (j+1)) s.get s.next/\F.bY<s.next) ?_ ?_
   ·rintro e2 s2 ⟨p0,p1,p5,p6,pX,pF,pL,pn⟩
    simp only[dF,bq]
    refine hN _ _ ?_
    clear hN N
    (try((repeat(revert hN;revert N;apply Pn.out));refine wk (tw @p0 (tw @p1 (tw @p5 @p6))) ?_;(repeat(refine Pn.mk ?_;intro N hN))))
    refine bW ?_ ?_ ?_ ?_ (⟨by obtain⟨r,i,q1,q2,q3,q4⟩:=pL;exact⟨r,i,sd @q1,q2,q3,fun x hx=>by have:=q4 x hx;(try dsimp only);omega⟩,bw⟩)
    all_goals simp only[go_sem, ↓reduceIte,Nat.reduceEqDiff,Nat.reduceAdd,Nat.reduceSub,Nat.reduceLeDiff,reduceCtorEq,p0,p1,p5,p6,pX,pF]
   ·intro N hN
    rcases GL with⟨L4,uZ⟩|⟨id,uZ,hLp,hid,Is,vq⟩
    ·simp only[List.cons.injEq,and_true]at uZ
     subst uZ
     subst L4
     refine eI ?_ ?_<;>(try((repeat(revert hN;revert N;apply Pn.out));refine wk (tw @m0 (tw @m1 (tw @m5 (tw @m6 (tw @mX (tw @mF (tw @hj (tw @im (tw @ax.eq_1 (tw @mg (tw @iS (tw @ga (tw @fB (tw @iJ (tw @x1 (tw @x2 (tw @x3 (tw @wX (tw @wA (tw @wF @bp.eq_1)))))))))))))))))))) ?_;(repeat(refine Pn.mk ?_;intro N hN))))<;>(try refine eI ?_ ?_)<;>(try((repeat(revert hN;revert N;apply Pn.out));refine wk (tw @m0 (tw @m1 (tw @m5 (tw @m6 (tw @mX (tw @mF (tw @hj (tw @im (tw @ax.eq_1 (tw @mg (tw @iS (tw @ga (tw @fB (tw @iJ (tw @x1 (tw @x2 (tw @x3 (tw @wX (tw @wA (tw @wF @bp.eq_1)))))))))))))))))))) ?_;(repeat(refine Pn.mk ?_;intro N hN))))<;>(try refine eI ?_ ?_)<;>(try((repeat(revert hN;revert N;apply Pn.out));refine wk (tw @m0 (tw @m1 (tw @m5 (tw @m6 (tw @mX (tw @mF (tw @hj (tw @im (tw @ax.eq_1 (tw @mg (tw @iS (tw @ga (tw @fB (tw @iJ (tw @x1 (tw @x2 (tw @x3 (tw @wX (tw @wA (tw @wF @bp.eq_1)))))))))))))))))))) ?_;(repeat(refine Pn.mk ?_;intro N hN))))<;>(try refine eI ?_ ?_)<;>(try((repeat(revert hN;revert N;apply Pn.out));refine wk (tw @m0 (tw @m1 (tw @m5 (tw @m6 (tw @mX (tw @mF (tw @hj (tw @im (tw @ax.eq_1 (tw @mg (tw @iS (tw @ga (tw @fB (tw @iJ (tw @x1 (tw @x2 (tw @x3 (tw @wX (tw @wA (tw @wF @bp.eq_1)))))))))))))))))))) ?_;(repeat(refine Pn.mk ?_;intro N hN))))<;>(try refine eI ?_ ?_)<;>(try((repeat(revert hN;revert N;apply Pn.out));refine wk (tw @m0 (tw @m1 (tw @m5 (tw @m6 (tw @mX (tw @mF (tw @hj (tw @im (tw @ax.eq_1 (tw @mg (tw @iS (tw @ga (tw @fB (tw @iJ (tw @x1 (tw @x2 (tw @x3 (tw @wX (tw @wA (tw @wF @bp.eq_1)))))))))))))))))))) ?_;(repeat(refine Pn.mk ?_;intro N hN))))<;>(try refine eI ?_ ?_)<;>(try((repeat(revert hN;revert N;apply Pn.out));refine wk (tw @m0 (tw @m1 (tw @m5 (tw @m6 (tw @mX (tw @mF (tw @hj (tw @im (tw @ax.eq_1 (tw @mg (tw @iS (tw @ga (tw @fB (tw @iJ (tw @x1 (tw @x2 (tw @x3 (tw @wX (tw @wA (tw @wF @bp.eq_1)))))))))))))))))))) ?_;(repeat(refine Pn.mk ?_;intro N hN))))
     all_goals
      refine⟨by simp only[go_sem, ↓reduceIte,Nat.reduceEqDiff,Nat.reduceAdd,Nat.reduceSub,Nat.reduceLeDiff,reduceCtorEq,m0,m1,m5,m6,mX,mF,hj,im,ax,mg,iS,ga,fB,iJ,x1,x2,x3,wX,wA,wF,bp],by simp only[go_sem, ↓reduceIte,Nat.reduceEqDiff,Nat.reduceAdd,Nat.reduceSub,Nat.reduceLeDiff,reduceCtorEq,m0,m1,m5,m6,mX,mF,hj,im,ax,mg,iS,ga,fB,iJ,x1,x2,x3,wX,wA,wF,bp],by simp only[go_sem, ↓reduceIte,Nat.reduceEqDiff,Nat.reduceAdd,Nat.reduceSub,Nat.reduceLeDiff,reduceCtorEq,m0,m1,m5,m6,mX,mF,hj,im,ax,mg,iS,ga,fB,iJ,x1,x2,x3,wX,wA,wF,bp],by simp only[go_sem, ↓reduceIte,Nat.reduceEqDiff,Nat.reduceAdd,Nat.reduceSub,Nat.reduceLeDiff,reduceCtorEq,m0,m1,m5,m6,mX,mF,hj,im,ax,mg,iS,ga,fB,iJ,x1,x2,x3,wX,wA,wF,bp],by simp only[go_sem, ↓reduceIte,Nat.reduceEqDiff,Nat.reduceAdd,Nat.reduceSub,Nat.reduceLeDiff,reduceCtorEq,m0,m1,m5,m6,mX,mF,hj,im,ax,mg,iS,ga,fB,iJ,x1,x2,x3,wX,wA,wF,bp],by simp only[go_sem, ↓reduceIte,Nat.reduceEqDiff,Nat.reduceAdd,Nat.reduceSub,Nat.reduceLeDiff,reduceCtorEq,m0,m1,m5,m6,mX,mF,hj,im,ax,mg,iS,ga,fB,iJ,x1,x2,x3,wX,wA,wF,bp],GZ _ (by simp only[go_sem, ↓reduceIte,Nat.reduceEqDiff,Nat.reduceAdd,Nat.reduceSub,Nat.reduceLeDiff,reduceCtorEq,m0,m1,m5,m6,mX,mF,hj,im,ax,mg,iS,ga,fB,iJ,x1,x2,x3,wX,wA,wF,bp,List.length_nil]) (by simp only[go_sem, ↓reduceIte,Nat.reduceEqDiff,Nat.reduceAdd,Nat.reduceSub,Nat.reduceLeDiff,reduceCtorEq,m0,m1,m5,m6,mX,mF,hj,im,ax,mg,iS,ga,fB,iJ,x1,x2,x3,wX,wA,wF,bp,List.map_nil,List.nil_append]) (fun i hi Mb fJ=>?_),bw⟩
      clear fJ
      simp only[go_sem, ↓reduceIte,Nat.reduceEqDiff,Nat.reduceAdd,Nat.reduceSub,Nat.reduceLeDiff,reduceCtorEq,wX,wA,wF,eC hi,Mb]
    ·simp only[List.cons.injEq,and_true]at uZ
     subst uZ
     have qL:=eC Is
     have y1:=dx (a:=A) (b:=id) ab
     have y2:=dx (a:=F) (b:=id) vq
     have y3:=dx (a:=X) (b:=id) ab
     have e3:Lb.length+1<=16777216:=ab
     have z1:(Lb.map eN).length=Lb.length:=by simp
     refine eI ?_ ?_<;>(try((repeat(revert hN;revert N;apply Pn.out));refine wk (tw @m0 (tw @m1 (tw @m5 (tw @m6 (tw @mX (tw @mF (tw @hj (tw @im (tw @ax.eq_1 (tw @mg (tw @iS (tw @ga (tw @fB (tw @iJ (tw @x1 (tw @x2 (tw @x3 (tw @wX (tw @wA (tw @wF (tw @bp.eq_1 (tw @hid (tw @qL (tw @y1 (tw @y2 (tw @y3 (tw @e3 @z1))))))))))))))))))))))))))) ?_;(repeat(refine Pn.mk ?_;intro N hN))))<;>(try refine eI ?_ ?_)<;>(try((repeat(revert hN;revert N;apply Pn.out));refine wk (tw @m0 (tw @m1 (tw @m5 (tw @m6 (tw @mX (tw @mF (tw @hj (tw @im (tw @ax.eq_1 (tw @mg (tw @iS (tw @ga (tw @fB (tw @iJ (tw @x1 (tw @x2 (tw @x3 (tw @wX (tw @wA (tw @wF (tw @bp.eq_1 (tw @hid (tw @qL (tw @y1 (tw @y2 (tw @y3 (tw @e3 @z1))))))))))))))))))))))))))) ?_;(repeat(refine Pn.mk ?_;intro N hN))))<;>(try refine eI ?_ ?_)<;>(try((repeat(revert hN;revert N;apply Pn.out));refine wk (tw @m0 (tw @m1 (tw @m5 (tw @m6 (tw @mX (tw @mF (tw @hj (tw @im (tw @ax.eq_1 (tw @mg (tw @iS (tw @ga (tw @fB (tw @iJ (tw @x1 (tw @x2 (tw @x3 (tw @wX (tw @wA (tw @wF (tw @bp.eq_1 (tw @hid (tw @qL (tw @y1 (tw @y2 (tw @y3 (tw @e3 @z1))))))))))))))))))))))))))) ?_;(repeat(refine Pn.mk ?_;intro N hN))))<;>(try refine eI ?_ ?_)<;>(try((repeat(revert hN;revert N;apply Pn.out));refine wk (tw @m0 (tw @m1 (tw @m5 (tw @m6 (tw @mX (tw @mF (tw @hj (tw @im (tw @ax.eq_1 (tw @mg (tw @iS (tw @ga (tw @fB (tw @iJ (tw @x1 (tw @x2 (tw @x3 (tw @wX (tw @wA (tw @wF (tw @bp.eq_1 (tw @hid (tw @qL (tw @y1 (tw @y2 (tw @y3 (tw @e3 @z1))))))))))))))))))))))))))) ?_;(repeat(refine Pn.mk ?_;intro N hN))))<;>(try refine eI ?_ ?_)<;>(try((repeat(revert hN;revert N;apply Pn.out));refine wk (tw @m0 (tw @m1 (tw @m5 (tw @m6 (tw @mX (tw @mF (tw @hj (tw @im (tw @ax.eq_1 (tw @mg (tw @iS (tw @ga (tw @fB (tw @iJ (tw @x1 (tw @x2 (tw @x3 (tw @wX (tw @wA (tw @wF (tw @bp.eq_1 (tw @hid (tw @qL (tw @y1 (tw @y2 (tw @y3 (tw @e3 @z1))))))))))))))))))))))))))) ?_;(repeat(refine Pn.mk ?_;intro N hN))))<;>(try refine eI ?_ ?_)<;>(try((repeat(revert hN;revert N;apply Pn.out));refine wk (tw @m0 (tw @m1 (tw @m5 (tw @m6 (tw @mX (tw @mF (tw @hj (tw @im (tw @ax.eq_1 (tw @mg (tw @iS (tw @ga (tw @fB (tw @iJ (tw @x1 (tw @x2 (tw @x3 (tw @wX (tw @wA (tw @wF (tw @bp.eq_1 (tw @hid (tw @qL (tw @y1 (tw @y2 (tw @y3 (tw @e3 @z1))))))))))))))))))))))))))) ?_;(repeat(refine Pn.mk ?_;intro N hN))))
     all_goals
      refine⟨by simp only[go_sem, ↓reduceIte,Nat.reduceEqDiff,Nat.reduceAdd,Nat.reduceSub,Nat.reduceLeDiff,reduceCtorEq,m0,m1,m5,m6,mX,mF,hj,im,ax,mg,iS,ga,fB,iJ,x1,x2,x3,wX,wA,wF,bp,hid,qL,y1,y2,y3,e3,z1],by simp only[go_sem, ↓reduceIte,Nat.reduceEqDiff,Nat.reduceAdd,Nat.reduceSub,Nat.reduceLeDiff,reduceCtorEq,m0,m1,m5,m6,mX,mF,hj,im,ax,mg,iS,ga,fB,iJ,x1,x2,x3,wX,wA,wF,bp,hid,qL,y1,y2,y3,e3,z1],by simp only[go_sem, ↓reduceIte,Nat.reduceEqDiff,Nat.reduceAdd,Nat.reduceSub,Nat.reduceLeDiff,reduceCtorEq,m0,m1,m5,m6,mX,mF,hj,im,ax,mg,iS,ga,fB,iJ,x1,x2,x3,wX,wA,wF,bp,hid,qL,y1,y2,y3,e3,z1],by simp only[go_sem, ↓reduceIte,Nat.reduceEqDiff,Nat.reduceAdd,Nat.reduceSub,Nat.reduceLeDiff,reduceCtorEq,m0,m1,m5,m6,mX,mF,hj,im,ax,mg,iS,ga,fB,iJ,x1,x2,x3,wX,wA,wF,bp,hid,qL,y1,y2,y3,e3,z1],by simp only[go_sem, ↓reduceIte,Nat.reduceEqDiff,Nat.reduceAdd,Nat.reduceSub,Nat.reduceLeDiff,reduceCtorEq,m0,m1,m5,m6,mX,mF,hj,im,ax,mg,iS,ga,fB,iJ,x1,x2,x3,wX,wA,wF,bp,hid,qL,y1,y2,y3,e3,z1],by simp only[go_sem, ↓reduceIte,Nat.reduceEqDiff,Nat.reduceAdd,Nat.reduceSub,Nat.reduceLeDiff,reduceCtorEq,m0,m1,m5,m6,mX,mF,hj,im,ax,mg,iS,ga,fB,iJ,x1,x2,x3,wX,wA,wF,bp,hid,qL,y1,y2,y3,e3,z1],GZ _ (by simp only[go_sem, ↓reduceIte,Nat.reduceEqDiff,Nat.reduceAdd,Nat.reduceSub,Nat.reduceLeDiff,reduceCtorEq,m0,m1,m5,m6,mX,mF,hj,im,ax,mg,iS,ga,fB,iJ,x1,x2,x3,wX,wA,wF,bp,hid,qL,y1,y2,y3,e3,z1,List.length_nil]) (by simp only[go_sem, ↓reduceIte,Nat.reduceEqDiff,Nat.reduceAdd,Nat.reduceSub,Nat.reduceLeDiff,reduceCtorEq,m0,m1,m5,m6,mX,mF,hj,im,ax,mg,iS,ga,fB,iJ,x1,x2,x3,wX,wA,wF,bp,hid,qL,y1,y2,y3,e3,z1,List.map_nil,List.nil_append]) (fun i hi Mb fJ=>?_),bw⟩
      have gU:=fJ id rfl
      simp only[go_sem, ↓reduceIte,Nat.reduceEqDiff,Nat.reduceAdd,Nat.reduceSub,Nat.reduceLeDiff,reduceCtorEq,wX,wA,wF,eC hi,Mb,gU]
  ·intro N hN
   rcases GK with⟨L4,uZ⟩|⟨id,uZ,hLp,hid,Is,vq⟩
   ·simp only[List.cons.injEq,and_true]at uZ
    subst uZ
    subst L4
    refine eI ?_ ?_<;>(try((repeat(revert hN;revert N;apply Pn.out));refine wk (tw @a6 (tw @a5 (tw @ag0 (tw @ag1 (tw @a0 (tw @a1 (tw @hj (tw @im (tw @ax.eq_1 (tw @ag (tw @iR (tw @ga (tw @fB (tw @iI (tw @x1 (tw @x2 (tw @x3 (tw @vX (tw @vA (tw @vF @bp.eq_1)))))))))))))))))))) ?_;(repeat(refine Pn.mk ?_;intro N hN))))<;>(try refine eI ?_ ?_)<;>(try((repeat(revert hN;revert N;apply Pn.out));refine wk (tw @a6 (tw @a5 (tw @ag0 (tw @ag1 (tw @a0 (tw @a1 (tw @hj (tw @im (tw @ax.eq_1 (tw @ag (tw @iR (tw @ga (tw @fB (tw @iI (tw @x1 (tw @x2 (tw @x3 (tw @vX (tw @vA (tw @vF @bp.eq_1)))))))))))))))))))) ?_;(repeat(refine Pn.mk ?_;intro N hN))))<;>(try refine eI ?_ ?_)<;>(try((repeat(revert hN;revert N;apply Pn.out));refine wk (tw @a6 (tw @a5 (tw @ag0 (tw @ag1 (tw @a0 (tw @a1 (tw @hj (tw @im (tw @ax.eq_1 (tw @ag (tw @iR (tw @ga (tw @fB (tw @iI (tw @x1 (tw @x2 (tw @x3 (tw @vX (tw @vA (tw @vF @bp.eq_1)))))))))))))))))))) ?_;(repeat(refine Pn.mk ?_;intro N hN))))<;>(try refine eI ?_ ?_)<;>(try((repeat(revert hN;revert N;apply Pn.out));refine wk (tw @a6 (tw @a5 (tw @ag0 (tw @ag1 (tw @a0 (tw @a1 (tw @hj (tw @im (tw @ax.eq_1 (tw @ag (tw @iR (tw @ga (tw @fB (tw @iI (tw @x1 (tw @x2 (tw @x3 (tw @vX (tw @vA (tw @vF @bp.eq_1)))))))))))))))))))) ?_;(repeat(refine Pn.mk ?_;intro N hN))))<;>(try refine eI ?_ ?_)<;>(try((repeat(revert hN;revert N;apply Pn.out));refine wk (tw @a6 (tw @a5 (tw @ag0 (tw @ag1 (tw @a0 (tw @a1 (tw @hj (tw @im (tw @ax.eq_1 (tw @ag (tw @iR (tw @ga (tw @fB (tw @iI (tw @x1 (tw @x2 (tw @x3 (tw @vX (tw @vA (tw @vF @bp.eq_1)))))))))))))))))))) ?_;(repeat(refine Pn.mk ?_;intro N hN))))<;>(try refine eI ?_ ?_)<;>(try((repeat(revert hN;revert N;apply Pn.out));refine wk (tw @a6 (tw @a5 (tw @ag0 (tw @ag1 (tw @a0 (tw @a1 (tw @hj (tw @im (tw @ax.eq_1 (tw @ag (tw @iR (tw @ga (tw @fB (tw @iI (tw @x1 (tw @x2 (tw @x3 (tw @vX (tw @vA (tw @vF @bp.eq_1)))))))))))))))))))) ?_;(repeat(refine Pn.mk ?_;intro N hN))))
    all_goals
     refine⟨by simp only[go_sem, ↓reduceIte,Nat.reduceEqDiff,Nat.reduceAdd,Nat.reduceSub,Nat.reduceLeDiff,reduceCtorEq,a6,a5,ag0,ag1,a0,a1,hj,im,ax,ag,iR,ga,fB,iI,x1,x2,x3,vX,vA,vF,bp],by simp only[go_sem, ↓reduceIte,Nat.reduceEqDiff,Nat.reduceAdd,Nat.reduceSub,Nat.reduceLeDiff,reduceCtorEq,a6,a5,ag0,ag1,a0,a1,hj,im,ax,ag,iR,ga,fB,iI,x1,x2,x3,vX,vA,vF,bp],by simp only[go_sem, ↓reduceIte,Nat.reduceEqDiff,Nat.reduceAdd,Nat.reduceSub,Nat.reduceLeDiff,reduceCtorEq,a6,a5,ag0,ag1,a0,a1,hj,im,ax,ag,iR,ga,fB,iI,x1,x2,x3,vX,vA,vF,bp],by simp only[go_sem, ↓reduceIte,Nat.reduceEqDiff,Nat.reduceAdd,Nat.reduceSub,Nat.reduceLeDiff,reduceCtorEq,a6,a5,ag0,ag1,a0,a1,hj,im,ax,ag,iR,ga,fB,iI,x1,x2,x3,vX,vA,vF,bp],by simp only[go_sem, ↓reduceIte,Nat.reduceEqDiff,Nat.reduceAdd,Nat.reduceSub,Nat.reduceLeDiff,reduceCtorEq,a6,a5,ag0,ag1,a0,a1,hj,im,ax,ag,iR,ga,fB,iI,x1,x2,x3,vX,vA,vF,bp],by simp only[go_sem, ↓reduceIte,Nat.reduceEqDiff,Nat.reduceAdd,Nat.reduceSub,Nat.reduceLeDiff,reduceCtorEq,a6,a5,ag0,ag1,a0,a1,hj,im,ax,ag,iR,ga,fB,iI,x1,x2,x3,vX,vA,vF,bp],GY _ (by simp only[go_sem, ↓reduceIte,Nat.reduceEqDiff,Nat.reduceAdd,Nat.reduceSub,Nat.reduceLeDiff,reduceCtorEq,a6,a5,ag0,ag1,a0,a1,hj,im,ax,ag,iR,ga,fB,iI,x1,x2,x3,vX,vA,vF,bp,List.length_nil]) (by simp only[go_sem, ↓reduceIte,Nat.reduceEqDiff,Nat.reduceAdd,Nat.reduceSub,Nat.reduceLeDiff,reduceCtorEq,a6,a5,ag0,ag1,a0,a1,hj,im,ax,ag,iR,ga,fB,iI,x1,x2,x3,vX,vA,vF,bp,List.map_nil,List.nil_append]) (fun i hi Mb fJ=>?_),bw⟩
     clear fJ
     simp only[go_sem, ↓reduceIte,Nat.reduceEqDiff,Nat.reduceAdd,Nat.reduceSub,Nat.reduceLeDiff,reduceCtorEq,vX,vA,vF,eC hi,Mb]
   ·simp only[List.cons.injEq,and_true]at uZ
    subst uZ
    have qL:=eC Is
    have y1:=dx (a:=A) (b:=id) ab
    have y2:=dx (a:=F) (b:=id) vq
    have y3:=dx (a:=X) (b:=id) ab
    have e3:La.length+1<=16777216:=ab
    have z1:(La.map eN).length=La.length:=by simp
    refine eI ?_ ?_<;>(try((repeat(revert hN;revert N;apply Pn.out));refine wk (tw @a6 (tw @a5 (tw @ag0 (tw @ag1 (tw @a0 (tw @a1 (tw @hj (tw @im (tw @ax.eq_1 (tw @ag (tw @iR (tw @ga (tw @fB (tw @iI (tw @x1 (tw @x2 (tw @x3 (tw @vX (tw @vA (tw @vF (tw @bp.eq_1 (tw @hid (tw @qL (tw @y1 (tw @y2 (tw @y3 (tw @e3 @z1))))))))))))))))))))))))))) ?_;(repeat(refine Pn.mk ?_;intro N hN))))<;>(try refine eI ?_ ?_)<;>(try((repeat(revert hN;revert N;apply Pn.out));refine wk (tw @a6 (tw @a5 (tw @ag0 (tw @ag1 (tw @a0 (tw @a1 (tw @hj (tw @im (tw @ax.eq_1 (tw @ag (tw @iR (tw @ga (tw @fB (tw @iI (tw @x1 (tw @x2 (tw @x3 (tw @vX (tw @vA (tw @vF (tw @bp.eq_1 (tw @hid (tw @qL (tw @y1 (tw @y2 (tw @y3 (tw @e3 @z1))))))))))))))))))))))))))) ?_;(repeat(refine Pn.mk ?_;intro N hN))))<;>(try refine eI ?_ ?_)<;>(try((repeat(revert hN;revert N;apply Pn.out));refine wk (tw @a6 (tw @a5 (tw @ag0 (tw @ag1 (tw @a0 (tw @a1 (tw @hj (tw @im (tw @ax.eq_1 (tw @ag (tw @iR (tw @ga (tw @fB (tw @iI (tw @x1 (tw @x2 (tw @x3 (tw @vX (tw @vA (tw @vF (tw @bp.eq_1 (tw @hid (tw @qL (tw @y1 (tw @y2 (tw @y3 (tw @e3 @z1))))))))))))))))))))))))))) ?_;(repeat(refine Pn.mk ?_;intro N hN))))<;>(try refine eI ?_ ?_)<;>(try((repeat(revert hN;revert N;apply Pn.out));refine wk (tw @a6 (tw @a5 (tw @ag0 (tw @ag1 (tw @a0 (tw @a1 (tw @hj (tw @im (tw @ax.eq_1 (tw @ag (tw @iR (tw @ga (tw @fB (tw @iI (tw @x1 (tw @x2 (tw @x3 (tw @vX (tw @vA (tw @vF (tw @bp.eq_1 (tw @hid (tw @qL (tw @y1 (tw @y2 (tw @y3 (tw @e3 @z1))))))))))))))))))))))))))) ?_;(repeat(refine Pn.mk ?_;intro N hN))))<;>(try refine eI ?_ ?_)<;>(try((repeat(revert hN;revert N;apply Pn.out));refine wk (tw @a6 (tw @a5 (tw @ag0 (tw @ag1 (tw @a0 (tw @a1 (tw @hj (tw @im (tw @ax.eq_1 (tw @ag (tw @iR (tw @ga (tw @fB (tw @iI (tw @x1 (tw @x2 (tw @x3 (tw @vX (tw @vA (tw @vF (tw @bp.eq_1 (tw @hid (tw @qL (tw @y1 (tw @y2 (tw @y3 (tw @e3 @z1))))))))))))))))))))))))))) ?_;(repeat(refine Pn.mk ?_;intro N hN))))<;>(try refine eI ?_ ?_)<;>(try((repeat(revert hN;revert N;apply Pn.out));refine wk (tw @a6 (tw @a5 (tw @ag0 (tw @ag1 (tw @a0 (tw @a1 (tw @hj (tw @im (tw @ax.eq_1 (tw @ag (tw @iR (tw @ga (tw @fB (tw @iI (tw @x1 (tw @x2 (tw @x3 (tw @vX (tw @vA (tw @vF (tw @bp.eq_1 (tw @hid (tw @qL (tw @y1 (tw @y2 (tw @y3 (tw @e3 @z1))))))))))))))))))))))))))) ?_;(repeat(refine Pn.mk ?_;intro N hN))))
    all_goals
     refine⟨by simp only[go_sem, ↓reduceIte,Nat.reduceEqDiff,Nat.reduceAdd,Nat.reduceSub,Nat.reduceLeDiff,reduceCtorEq,a6,a5,ag0,ag1,a0,a1,hj,im,ax,ag,iR,ga,fB,iI,x1,x2,x3,vX,vA,vF,bp,hid,qL,y1,y2,y3,e3,z1],by simp only[go_sem, ↓reduceIte,Nat.reduceEqDiff,Nat.reduceAdd,Nat.reduceSub,Nat.reduceLeDiff,reduceCtorEq,a6,a5,ag0,ag1,a0,a1,hj,im,ax,ag,iR,ga,fB,iI,x1,x2,x3,vX,vA,vF,bp,hid,qL,y1,y2,y3,e3,z1],by simp only[go_sem, ↓reduceIte,Nat.reduceEqDiff,Nat.reduceAdd,Nat.reduceSub,Nat.reduceLeDiff,reduceCtorEq,a6,a5,ag0,ag1,a0,a1,hj,im,ax,ag,iR,ga,fB,iI,x1,x2,x3,vX,vA,vF,bp,hid,qL,y1,y2,y3,e3,z1],by simp only[go_sem, ↓reduceIte,Nat.reduceEqDiff,Nat.reduceAdd,Nat.reduceSub,Nat.reduceLeDiff,reduceCtorEq,a6,a5,ag0,ag1,a0,a1,hj,im,ax,ag,iR,ga,fB,iI,x1,x2,x3,vX,vA,vF,bp,hid,qL,y1,y2,y3,e3,z1],by simp only[go_sem, ↓reduceIte,Nat.reduceEqDiff,Nat.reduceAdd,Nat.reduceSub,Nat.reduceLeDiff,reduceCtorEq,a6,a5,ag0,ag1,a0,a1,hj,im,ax,ag,iR,ga,fB,iI,x1,x2,x3,vX,vA,vF,bp,hid,qL,y1,y2,y3,e3,z1],by simp only[go_sem, ↓reduceIte,Nat.reduceEqDiff,Nat.reduceAdd,Nat.reduceSub,Nat.reduceLeDiff,reduceCtorEq,a6,a5,ag0,ag1,a0,a1,hj,im,ax,ag,iR,ga,fB,iI,x1,x2,x3,vX,vA,vF,bp,hid,qL,y1,y2,y3,e3,z1],GY _ (by simp only[go_sem, ↓reduceIte,Nat.reduceEqDiff,Nat.reduceAdd,Nat.reduceSub,Nat.reduceLeDiff,reduceCtorEq,a6,a5,ag0,ag1,a0,a1,hj,im,ax,ag,iR,ga,fB,iI,x1,x2,x3,vX,vA,vF,bp,hid,qL,y1,y2,y3,e3,z1,List.length_nil]) (by simp only[go_sem, ↓reduceIte,Nat.reduceEqDiff,Nat.reduceAdd,Nat.reduceSub,Nat.reduceLeDiff,reduceCtorEq,a6,a5,ag0,ag1,a0,a1,hj,im,ax,ag,iR,ga,fB,iI,x1,x2,x3,vX,vA,vF,bp,hid,qL,y1,y2,y3,e3,z1,List.map_nil,List.nil_append]) (fun i hi Mb fJ=>?_),bw⟩
     have gU:=fJ id rfl
     simp only[go_sem, ↓reduceIte,Nat.reduceEqDiff,Nat.reduceAdd,Nat.reduceSub,Nat.reduceLeDiff,reduceCtorEq,vX,vA,vF,eC hi,Mb,gU]
 ·have gG:j=bs.length:=ab
  subst gG
  (try((repeat(revert hN;revert N;apply Pn.out));refine wk (tw @a6 (tw @a5 (tw @ag0 (tw @ag1 (tw @a0 (tw @a1 @hj)))))) ?_;(repeat(refine Pn.mk ?_;intro N hN))))
  exact fy (.inl rfl) (by simp only[fb,gY,go_sem, ↓reduceIte,Nat.reduceEqDiff,Nat.reduceAdd,Nat.reduceSub,Nat.reduceLeDiff,reduceCtorEq];rfl) ⟨X,A,F,rfl,hXs,⟨ag0,⟨rows,ids,ag,hR,k7,fun x hx=>by have:=m3 x hx;(try dsimp only);omega⟩,ag1,hXA,hAF,bw⟩⟩
theorem pI.frame {A:Id} {lo nx vM:Nat} {L:List (List Nat)} {g g':Rows} (h:pI A lo L g nx) (hA:A.bY<nx) (hf:∀i:Id,i.bY<nx->lo<i.bY∨i=A->g' i=g i) (hn:nx<=vM):pI A lo L g' vM:=by
 obtain⟨rows,ids,h1,h2,h3,h4⟩:=h
 refine⟨rows,ids,(hf A hA (.inr rfl)).trans h1,h2.frame K5 fun i hi=>hf i (h4 i hi).2 (.inl (h4 i hi).1),h3,fun i hi=>?_⟩
 have:=h4 i hi;omega
theorem ni.frame {cnt:Nat} {bs:List PB} {f:Nat->Int} {X A F:Id} {g g':Rows} {nx vM:Nat} (h:ni cnt bs f X A F g nx) (hf:∀i:Id,i.bY<nx->g' i=g i) (hn:nx<=vM):ni cnt bs f X A F g' vM:=by
 have h1:=h.xa;have h2:=h.af;have h3:=h.fn
 exact⟨(hf X ab).trans h.x,h.a.frame ab (fun i hi _=>hf i hi) hn,(hf F h3).trans h.f,h1,h2,ab⟩
theorem ni.Ou {cnt:Nat} {bs:List PB} {f f':Nat->Int} {X A F:Id} {g g':Rows} {nx vM:Nat} (h:ni cnt bs f X A F g nx) (hF:g' F=some ⟨true,1,dJ f' bs.length⟩) (hf:∀i:Id,i.bY<nx->(i=F)=False->g' i=g i) (hn:nx<=vM):ni cnt bs f' X A F g' vM:=by
 have h1:=h.xa;have h2:=h.af;have h3:=h.fn
 refine⟨(hf X ab (dx ab).1).trans h.x,h.a.frame ab (fun i hi jS=>hf i hi ?_) hn,hF,h1,h2,ab⟩
 rcases jS with jS|rfl
 ·exact(dx jS).2
 ·exact(dx h2).1
theorem MO (cnt:Nat) (bs:List PB) (f:Nat->Int) (hs:Small bs f) (e v:Nat) (he:e<bs.length) (X A F:Id) (σ:aw) (nx:Nat) (hS:ni cnt bs f X A F σ.get nx) (hn:nx<=σ.next):
  Call Tryz.prog 189 [.ptr X 0 0,.int .i64 v,.int .i64 e] σ fun r σ'=>ni cnt bs (sn bs f e v) X A F σ'.get nx/\σ.next<=σ'.next/\∀i:Id,(i=F)=False->σ'.get i=σ.get i:=by
 refine fh dY rfl fun hl=>?_
 clear hl
 have hX:=hS.x
 have hF:=hS.f
 have hb:=sV he
 have RA:=dC (f:=f) he
 have tl:=dv f bs.length
 obtain⟨⟨s0,s1⟩,s2,s3⟩:=hs e he
 have hei:(e:Int)<(bs.length:Int):=ab
 have w1:IntKind.i64.wrap (f e+1)=f e+1:=bd ab
 have w2:IntKind.i64.wrap (f e-1)=f e+-1:=by rw[bd ab];omega
 rw[ay]at RA
 unfold sn
 by_cases h:(bV bs e).a=v
 ·have ew:(dJ f bs.length).set e (ay (f e+1))=dJ (fun j=>f j+if j=e then(if (bV bs e).a=v then 1 else -1)else 0) bs.length:=kG he (by rw[if_pos rfl,if_pos h]) fun i _ hi=>by rw[if_neg hi,Int.add_zero]
  rw[ay]at ew
  generalize Qf:bV bs e=b at *
  have hd:decide ((b.a:Int)=(v:Int))=true:=decide_eq_true (by rw[h])
  (try((repeat(revert hN;revert N;apply Pn.out));refine wk (tw @hX (tw @hF (tw @hb (tw @RA (tw @tl (tw @hei (tw @w1 (tw @ew (tw @hd (tw @ax.eq_1 @bp.eq_1)))))))))) ?_;(repeat(refine Pn.mk ?_;intro N hN))))
  exact fy (.inr rfl) (vs:=[]) rfl ⟨hS.Ou (sd @Nat.zero_add) (fun i hi gU=>sd @gU) (Nat.le_refl _),bw,fun i gU=>sd @gU⟩
 ·have ew:(dJ f bs.length).set e (ay (f e+-1))=dJ (fun j=>f j+if j=e then(if (bV bs e).a=v then 1 else -1)else 0) bs.length:=kG he (by rw[if_pos rfl,if_neg h]) fun i _ hi=>by rw[if_neg hi,Int.add_zero]
  rw[ay]at ew
  generalize Qf:bV bs e=b at *
  have hd:decide ((b.a:Int)=(v:Int))=false:=decide_eq_false fun hc=>h ab
  (try((repeat(revert hN;revert N;apply Pn.out));refine wk (tw @hX (tw @hF (tw @hb (tw @RA (tw @tl (tw @hei (tw @w2 (tw @ew (tw @hd (tw @ax.eq_1 @bp.eq_1)))))))))) ?_;(repeat(refine Pn.mk ?_;intro N hN))))
  exact fy (.inr rfl) (vs:=[]) rfl ⟨hS.Ou (sd @Nat.zero_add) (fun i hi gU=>sd @gU) (Nat.le_refl _),bw,fun i gU=>sd @gU⟩
structure nj (bs:List PB) (out:Nat->Int) (f f':Nat->Int) (x v:Nat):Prop where
 le:∀i,i<bs.length->f' i<=(bV bs i).s/\-(bV bs i).s<=f' i
 cut:∀S:Nat->Bool,D9 S bs f'=D9 S bs f+bi (S x)-bi (S v)
 z9:∀e,e<bs.length->out (bV bs e).a<=out v->out (bV bs e).b<=out v->f' e=f e
section
variable {cnt:Nat} {bs:List PB} {out:Nat->Int} {f f':Nat->Int} {x v y:Nat}
theorem nj.start (h:∀i,i<bs.length->f i<=(bV bs i).s/\-(bV bs i).s<=f i):nj bs out f f x x:=⟨h,fun S=>ab,fun _ _ _ _=>rfl⟩
theorem nj.step (h:nj bs out f f' x v) {e:Nat} (he:e<bs.length) (hi:CL bs e v) (hr:0<fo bs f' e v) (hd:out (bz bs e v)=out v-1):nj bs out f (sn bs f' e v) x (bz bs e v):=by
 refine⟨fun i oL=>?_,fun S=>?_,fun i oL ha hb=>?_⟩
 ·have h1:=h.le i oL
  unfold sn
  by_cases Iv:i=e
  ·subst Iv
   rw[if_pos rfl]
   unfold fo at hr
   split at hr<;>rename_i hc
   ·rw[if_pos hc];omega
   ·rw[if_neg hc];omega
  ·rw[if_neg Iv];omega
 ·rw[Ea he hi,h.cut S];omega
 ·have Iv:i≠e:=by
   rintro rfl
   rcases hi with hi|hi
   ·rw[hi]at ha;omega
   ·rw[hi]at hb;omega
  unfold sn
  rw[if_neg Iv,Int.add_zero]
  exact h.z9 i oL ab ab
theorem nj.goes (h:nj bs out f f' x v) (hs:xf cnt bs f y out) (hv:v<cnt) (h0:0<out v):∃e∈iA bs bs.length v,0<fo bs f' e v/\out (bz bs e v)=out v-1:=by
 obtain⟨e,h1,h2,h3,h4⟩:=hs.down v hv h0
 refine⟨e,qh.2 ⟨h1,h2⟩,?_,h4⟩
 have hf:f' e=f e:=by
  refine h.z9 e h1 ?_ ?_
  ·unfold bz at h4
   split at h4
   ·rename_i ha;rw[ha];exact Int.le_refl _
   ·omega
  ·unfold bz at h4
   rcases h2 with h2|h2
   ·rw[if_pos h2]at h4;omega
   ·rw[h2];exact Int.le_refl _
 unfold fo at h3 ⊢
 rw[hf];exact h3
theorem nj.done {val:Int} (h:nj bs out f f' x y) (hf:jD bs f x y val):jD bs f' x y (val+1):=
 ⟨h.le,fun S hx hy=>by rw[h.cut S,hf.cut S hx hy,hx,hy];simp[bi]⟩
theorem Cw {val:Int} (hs:xf cnt bs f y out) (ok:mE cnt bs) (hf:jD bs f x y val) (hx:out x<0):∃S:Nat->Bool,S x=true/\S y=false/\val=iH S bs:=by
 refine⟨fun v=>decide (out v<0),decide_eq_true hx,decide_eq_false (by rw[hs.first];omega),hf.full (decide_eq_true hx) (decide_eq_false (by rw[hs.first];omega)) fun i hi sa=>⟨fun h1 h2 hr=>?_,fun h1 h2 hr=>?_⟩⟩
 ·have Oy:=of_decide_eq_true h1
  have Aw:=of_decide_eq_false h2
  have:=hs.shut i (bV bs i).a hi (.inl rfl) (by unfold bz;rw[if_pos rfl];omega) hr
  omega
 ·have Oy:=of_decide_eq_true h1
  have Aw:=of_decide_eq_false h2
  have:=hs.shut i (bV bs i).b hi (.inr rfl) (by unfold bz;rw[if_neg sa];omega) hr
  omega
end
theorem uF {bs:List PB} {f:Nat->Int} (eB:∀e,e<bs.length->0<=(bV bs e).s/\(bV bs e).s<=4) (h:∀i,i<bs.length->f i<=(bV bs i).s/\-(bV bs i).s<=f i):Small bs f:=fun e he=>by
 have:=eB e he;have:=h e he;omega
theorem pI.at_ {A:Id} {lo nx v:Nat} {L:List (List Nat)} {l:List Nat} {g:Rows} (h:pI A lo L g nx) (hv:L[v]? =some l) (hl:0<l.length):∃(rows:List (List AV)) (id:Id),g A=some ⟨true,1,rows⟩/\rows.length=L.length/\rows[v]? =some [.own id 0 l.length]/\g id=some ⟨true,1,l.map eN⟩/\lo<id.bY/\id.bY<nx:=by
 obtain⟨rows,ids,h1,h2,h3,h4⟩:=h
 have hk:v<L.length:=(List.getElem?_eq_some_iff.1 hv).1
 obtain⟨cs,ic,dn,hR,Iu⟩:=h2.at_ v hk
 rw[ke hv hk]at hR
 rcases hR with⟨h5,_⟩|⟨id,rfl,_,h6,rfl⟩
 ·subst h5;simp at hl
 ·have:=h4 id (Iu id (by simp))
  exact⟨rows,id,h1,h2.len,dn,h6,this.1,this.2⟩
theorem LR (cnt:Nat) (hn:cnt<=1048576) (bs:List PB) (ok:mE cnt bs) (pD:bs.length<=1048576) (eB:∀e,e<bs.length->0<=(bV bs e).s/\(bV bs e).s<=4) (f:Nat->Int) (x y:Nat) (hx:x<cnt) (hy:y<cnt) (MA:x≠y) (val:Int) (hf:jD bs f x y val)
  (X A F:Id) (σ:aw) (nb:Nat) (hS:ni cnt bs f X A F σ.get nb) (vD:nb<=σ.next):
  Call Tryz.prog 167 [.ptr X 0 0,.int .i64 x,.int .i64 y] σ fun r σ'=>∃b f',r=.bool b/\ni cnt bs f' X A F σ'.get nb/\σ.next<=σ'.next/\(∀i:Id,i.bY<nb->(i=F)=False->σ'.get i=σ.get i)/\
   (b=false->f'=f/\∃S:Nat->Bool,S x=true/\S y=false/\val=iH S bs)/\(b=true->jD bs f' x y (val+1)):=by
 refine fh dY rfl fun hl=>?_
 clear hl
 have AE:(x:Int)<(cnt:Int):=ab
 have hz:∀(g:Rows),(∀i:Id,i.bY<nb->g i=σ.get i)->cq (dD g) 6 [.ptr X 0 0,.int .i64 (y:Int)]=some [.de (fx cnt bs f),.int .i64 y]:=fun g hg=>by
  have:=(hS.frame hg (Nat.le_refl _)).fz
  simp only[ad,aj,this,aH,Option.map_some]
 (try((repeat(revert hN;revert N;apply Pn.out));refine wk @Nat.zero_add ?_;(repeat(refine Pn.mk ?_;intro N hN))))
 refine .inr (aV _ _ _ _ _ (fun r σ1 hq=>?_) ((DE cnt hn bs ok pD f (uF eB hf.le) y hy).x mixed (hz _ (fun i hi=>rfl))))
 obtain⟨⟨out,rfl,Ms⟩,rfl⟩:=hq
 refine hN _ _ ?_
 clear hN N
 have hox:=dC (f:=out) hx
 have tl:=dv out cnt
 by_cases jJ:out x<0
 ·(try((repeat(revert hN;revert N;apply Pn.out));refine wk (tw @hox (tw @jJ (tw @AE (tw @tl @ay.eq_1)))) ?_;(repeat(refine Pn.mk ?_;intro N hN))))
  exact fy (.inl rfl) (vs:=[.bool false]) (sd @Nat.zero_add) ⟨false,f,rfl,hS.frame (fun i hi=>rfl) (Nat.le_refl _),bw,fun i _ _=>rfl,fun _=>⟨rfl,Cw Ms ok hf jJ⟩,fun h=>by cases h⟩
 (try((repeat(revert hN;revert N;apply Pn.out));refine wk (tw @hox (tw @jJ (tw @AE (tw @tl @ay.eq_1)))) ?_;(repeat(refine Pn.mk ?_;intro N hN))))
 refine aT (fun m env st=>∃(v:Nat) (f':Nat->Int),m=(out v).toNat/\v<cnt/\0<=out v/\env 8=.int .i64 (v:Int)/\nj bs out f f' x v/\ni cnt bs f' X A F st.get nb/\(∀i:Id,i.bY<nb->(i=F)=False->st.get i=σ.get i)/\σ.next<=st.next) (out x).toNat ⟨x,f,rfl,hx,ab,by(simp only[go_sem, ↓reduceIte,Nat.reduceEqDiff,Nat.reduceAdd,Nat.reduceSub,Nat.reduceLeDiff,reduceCtorEq]),nj.start hf.le,hS.frame (fun i hi=>rfl) (Nat.le_refl _),fun i _ _=>rfl,bw⟩ ?_
 rintro m env_b st_b ⟨v,f',rfl,hv,qQ,b8,hW,hN1,mN,hle⟩ bfr
 have b0:=bfr 0 (by kernel_rfl)
 have b2:=bfr 2 (by kernel_rfl)
 have b7:=bfr 7 (by kernel_rfl)
 simp only[go_sem, ↓reduceIte,Nat.reduceEqDiff,Nat.reduceAdd,Nat.reduceSub,Nat.reduceLeDiff,reduceCtorEq]at b0 b2 b7
 clear bfr
 by_cases QC:v=y
 ·have hd:decide ((v:Int)=(y:Int))=true:=decide_eq_true (by rw[QC])
  subst QC
  (try((repeat(revert hN;revert N;apply Pn.out));refine wk (tw @b0 (tw @b2 (tw @b7 (tw @b8 @hd)))) ?_;(repeat(refine Pn.mk ?_;intro N hN))))
  exact fy (.inl rfl) (vs:=[.bool true]) (sd @Nat.zero_add) ⟨true,f',rfl,hN1,bw,mN,fun h=>(by cases h),fun _=>hW.done hf⟩
 have hd:decide ((v:Int)=(y:Int))=false:=decide_eq_false fun h=>QC ab
 have yI:0<out v:=by
  have:=Ms.zero v hv
  rcases Int.lt_or_eq_of_le qQ with h|h
  ·exact h
  ·exact absurd (this h.symm) QC
 have KM:=hW.goes Ms hv yI
 have hIm:∀ed∈iA bs bs.length v,ed<bs.length/\CL bs ed v:=fun ed h=>qh.1 h
 have hIL:(kN cnt bs bs.length)[v]? =some (iA bs bs.length v):=by simp[kN,hv]
 have hIl:=qg bs bs.length v
 generalize iA bs bs.length v=I at *
 have hIp:0<I.length:=by
  obtain⟨ed,h,_⟩:=KM
  exact List.length_pos_of_mem h
 obtain⟨rows,id,hgA,qP,ll,hid,hid1,hid2⟩:=hN1.a.at_ hIL hIp
 rw[iT]at qP
 have hgX:=hN1.x
 have BL:(v:Int)<(cnt:Int):=ab
 have se:=dC (f:=out) hv
 have oM:IntKind.i64.wrap (out v-1)=out v-1:=bd (by have:=Ms.lo v hv;omega)
 have pe:(I.map eN).length=I.length:=by simp
 have Jv:=uF eB hW.le
 have lp:∀(g:Rows),(∀i:Id,i.bY<nb->g i=st_b.get i)->∀ed:Nat,cq (dD g) 6 [.ptr X 0 0,.int .i64 (v:Int),.int .i64 (ed:Int)]=some [.de (fx cnt bs f'),.int .i64 v,.int .i64 ed]:=fun g hg ed=>by
  have:=(hN1.frame hg (Nat.le_refl _)).fz
  simp only[ad,aj,this,aH,Option.map_some]
 rw[ay]at se
 (try((repeat(revert hN;revert N;apply Pn.out));refine wk (tw @b0 (tw @b2 (tw @b7 (tw @b8 @hd)))) ?_;(repeat(refine Pn.mk ?_;intro N hN))))
 refine aT (fun n env st=>∃k:Nat,n=(I.length)-k/\k<=(I.length)/\env 11=.int .i64 (k:Int)/\(∃(wV CS:Int),env 9=.int .i64 wV/\env 10=.int .i64 CS/\((wV<0/\∀z,z<k->¬(0<fo bs f' (I.getD z 0) v/\out (bz bs (I.getD z 0) v)=out v-1))∨∃ed:Nat,ed∈I/\CS=(ed:Int)/\wV=(bz bs ed v:Int)/\0<fo bs f' ed v/\out (bz bs ed v)=out v-1))/\((∀i:Id,st.get i=st_b.get i)/\st_b.next<=st.next)) (I.length) ⟨0,ab,ab,sl (tw @b0 (tw @b2 (tw @b7 @b8))),⟨-1,0,by(simp only[go_sem, ↓reduceIte,Nat.reduceEqDiff,Nat.reduceAdd,Nat.reduceSub,Nat.reduceLeDiff,reduceCtorEq]),by(simp only[go_sem, ↓reduceIte,Nat.reduceEqDiff,Nat.reduceAdd,Nat.reduceSub,Nat.reduceLeDiff,reduceCtorEq]),.inl ⟨ab,fun z hz=>ab⟩⟩,⟨fun i=>rfl,bw⟩⟩ ?_
 rintro n_c env_c st_c ⟨k,rfl,cle,mU,cI0,cI1⟩ cfr
 have c0:=cfr 0 (by kernel_rfl);have c2:=cfr 2 (by kernel_rfl);have c7:=cfr 7 (by kernel_rfl);have c8:=cfr 8 (by kernel_rfl)
 simp only[go_sem, ↓reduceIte,Nat.reduceEqDiff,Nat.reduceAdd,Nat.reduceSub,Nat.reduceLeDiff,reduceCtorEq,b0,b2,b7,b8]at c0 c2 c7 c8
 clear cfr
 obtain⟨wV,CS,c9,je,GJ⟩:=cI0
 obtain⟨gM,Qg⟩:=cI1
 have BB:=(gM X).trans hgX
 have BA:=(gM A).trans hgA
 have BD:=(gM id).trans hid
 by_cases hk:(k:Int)<(I.length:Int)
 ·have gD:∀{e:Env} {gg:Rows} {nx:Nat},(e 11=.int .i64 (IntKind.i64.wrap ((k:Int)+1)))->(∃(wV CS:Int),e 9=.int .i64 wV/\e 10=.int .i64 CS/\((wV<0/\∀z,z<(k+1)->¬(0<fo bs f' (I.getD z 0) v/\out (bz bs (I.getD z 0) v)=out v-1))∨∃ed:Nat,ed∈I/\CS=(ed:Int)/\wV=(bz bs ed v:Int)/\0<fo bs f' ed v/\out (bz bs ed v)=out v-1))->((∀i:Id,gg i=st_b.get i)/\st_b.next<=nx)->∃m0,m0<(I.length)-k/\∃k:Nat,m0=(I.length)-k/\k<=(I.length)/\e 11=.int .i64 (k:Int)/\(∃(wV CS:Int),e 9=.int .i64 wV/\e 10=.int .i64 CS/\((wV<0/\∀z,z<k->¬(0<fo bs f' (I.getD z 0) v/\out (bz bs (I.getD z 0) v)=out v-1))∨∃ed:Nat,ed∈I/\CS=(ed:Int)/\wV=(bz bs ed v:Int)/\0<fo bs f' ed v/\out (bz bs ed v)=out v-1))/\((∀i:Id,gg i=st_b.get i)/\st_b.next<=nx):=fun x1 x2 x3=>⟨_,ab,k+1,rfl,ab,(by rw[x1,aA ab]),x2,x3⟩
  have fw:k<I.length:=ab
  have eO:(I.map eN)[k]? =some (eN (I.getD k 0)):=getD_map eN fw
  have vz:I.getD k 0∈I:=by rw[List.getD_eq_getElem?_getD,List.getElem?_eq_getElem fw];exact List.getElem_mem fw
  obtain⟨he,oE⟩:=hIm _ vz
  have Mq:=HH cnt bs f' Jv (I.getD k 0) v he
  have sf:=lp st_c.get (fun i _=>gM i) (I.getD k 0)
  have hq:=nN ok (v:=v) he
  have NM:=dC (f:=out) hq
  obtain⟨ed,hed⟩:∃ed,ed=I.getD k 0:=⟨_,rfl⟩
  rw[<-hed]at eO he oE Mq sf hq NM vz
  rw[ay]at NM
  rw[eN]at eO
  (try((repeat(revert hN;revert N;apply Pn.out));refine wk (tw @mU (tw @c0 (tw @c2 (tw @c7 (tw @c8 (tw @c9 (tw @je (tw @hk (tw @BB (tw @BA (tw @BD (tw @ll (tw @qP (tw @BL (tw @eO (tw @pe @bp.eq_1)))))))))))))))) ?_;(repeat(refine Pn.mk ?_;intro N hN))))
  refine .inl ⟨_,ah.x Mq sf,?_⟩
  refine hN _ _ ?_
  clear hN N
  have stay:∀k',k'=k+1->(¬(0<fo bs f' ed v/\out (bz bs ed v)=out v-1))->((wV<0/\∀z,z<k'->¬(0<fo bs f' (I.getD z 0) v/\out (bz bs (I.getD z 0) v)=out v-1))∨∃ed:Nat,ed∈I/\CS=(ed:Int)/\wV=(bz bs ed v:Int)/\0<fo bs f' ed v/\out (bz bs ed v)=out v-1):=fun k' Jo gR=>by
   rcases GJ with⟨h1,h2⟩|h
   ·refine .inl ⟨h1,fun z hz=>?_⟩
    by_cases BN:z=k
    ·subst BN;rw[<-hed];exact gR
    ·exact h2 z ab
   ·exact .inr h
  by_cases hr:0<fo bs f' ed v
  ·by_cases NG:out (bz bs ed v)=out v-1
   ·have sK:decide (out (bz bs ed v)=out v-1)=true:=decide_eq_true NG
    have found:∃Ok:Nat,Ok∈I/\(ed:Int)=(Ok:Int)/\(bz bs ed v:Int)=(bz bs Ok v:Int)/\0<fo bs f' Ok v/\out (bz bs Ok v)=out v-1:=⟨ed,vz,rfl,rfl,hr,NG⟩
    by_cases IA:wV<0
    ·(try((repeat(revert hN;revert N;apply Pn.out));refine wk (tw @mU (tw @c0 (tw @c2 (tw @c7 (tw @c8 (tw @c9 (tw @je (tw @hk (tw @BB (tw @BA (tw @BD (tw @ll (tw @qP (tw @BL (tw @eO (tw @pe (tw @hr (tw @NM (tw @se (tw @oM (tw @sK (tw @IA @bp.eq_1)))))))))))))))))))))) ?_;(repeat(refine Pn.mk ?_;intro N hN))))
     exact gD (sd (tw @mU (tw @c0 (tw @c2 (tw @c7 @c8))))) (⟨_,_,sd @Nat.zero_add,sd @Nat.zero_add,.inr found⟩) (⟨gM,bw⟩)
    ·by_cases dR:(bz bs ed v:Int)<wV
     ·(try((repeat(revert hN;revert N;apply Pn.out));refine wk (tw @mU (tw @c0 (tw @c2 (tw @c7 (tw @c8 (tw @c9 (tw @je (tw @hk (tw @BB (tw @BA (tw @BD (tw @ll (tw @qP (tw @BL (tw @eO (tw @pe (tw @hr (tw @NM (tw @se (tw @oM (tw @sK (tw @IA (tw @dR @bp.eq_1))))))))))))))))))))))) ?_;(repeat(refine Pn.mk ?_;intro N hN))))
      exact gD (sd (tw @mU (tw @c0 (tw @c2 (tw @c7 @c8))))) (⟨_,_,sd @Nat.zero_add,sd @Nat.zero_add,.inr found⟩) (⟨gM,bw⟩)
     ·(try((repeat(revert hN;revert N;apply Pn.out));refine wk (tw @mU (tw @c0 (tw @c2 (tw @c7 (tw @c8 (tw @c9 (tw @je (tw @hk (tw @BB (tw @BA (tw @BD (tw @ll (tw @qP (tw @BL (tw @eO (tw @pe (tw @hr (tw @NM (tw @se (tw @oM (tw @sK (tw @IA (tw @dR @bp.eq_1))))))))))))))))))))))) ?_;(repeat(refine Pn.mk ?_;intro N hN))))
      exact gD (sd (tw @mU (tw @c0 (tw @c2 (tw @c7 @c8))))) (⟨wV,CS,sd @c9,sd @je,by
       rcases GJ with⟨h1,_⟩|h
       ·exact absurd h1 IA
       ·exact .inr h⟩) (⟨gM,bw⟩)
   ·have sK:decide (out (bz bs ed v)=out v-1)=false:=decide_eq_false NG
    (try((repeat(revert hN;revert N;apply Pn.out));refine wk (tw @mU (tw @c0 (tw @c2 (tw @c7 (tw @c8 (tw @c9 (tw @je (tw @hk (tw @BB (tw @BA (tw @BD (tw @ll (tw @qP (tw @BL (tw @eO (tw @pe (tw @hr (tw @NM (tw @se (tw @oM (tw @sK @bp.eq_1))))))))))))))))))))) ?_;(repeat(refine Pn.mk ?_;intro N hN))))
    exact gD (sd (tw @mU (tw @c0 (tw @c2 (tw @c7 @c8))))) (⟨wV,CS,sd @c9,sd @je,stay _ rfl fun h=>NG h.2⟩) (⟨gM,bw⟩)
  ·(try((repeat(revert hN;revert N;apply Pn.out));refine wk (tw @mU (tw @c0 (tw @c2 (tw @c7 (tw @c8 (tw @c9 (tw @je (tw @hk (tw @BB (tw @BA (tw @BD (tw @ll (tw @qP (tw @BL (tw @eO (tw @pe (tw @hr @bp.eq_1))))))))))))))))) ?_;(repeat(refine Pn.mk ?_;intro N hN))))
   exact gD (sd (tw @mU (tw @c0 (tw @c2 (tw @c7 @c8))))) (⟨wV,CS,sd @c9,sd @je,stay _ rfl fun h=>hr h.1⟩) (⟨gM,bw⟩)
 ·have lS:k=I.length:=ab
  have RB:∃ed:Nat,ed∈I/\CS=(ed:Int)/\wV=(bz bs ed v:Int)/\0<fo bs f' ed v/\out (bz bs ed v)=out v-1:=by
   rcases GJ with⟨h1,h2⟩|h
   ·exfalso
    obtain⟨ed,he,hq⟩:=KM
    obtain⟨z,hz,rfl⟩:=List.getElem_of_mem he
    refine h2 z ab ?_
    rw[List.getD_eq_getElem?_getD,List.getElem?_eq_getElem hz];exact hq
   ·exact h
  obtain⟨ed,vz,rfl,rfl,hr,NG⟩:=RB
  obtain⟨he,oE⟩:=hIm _ vz
  (try((repeat(revert hN;revert N;apply Pn.out));refine wk (tw @mU (tw @c0 (tw @c2 (tw @c7 (tw @c8 (tw @c9 (tw @je (tw @hk (tw @BB (tw @BA (tw @BD (tw @ll (tw @qP (tw @BL (tw @pe @bp.eq_1))))))))))))))) ?_;(repeat(refine Pn.mk ?_;intro N hN))))
  refine .inr (aV _ _ _ _ _ (fun r σ1 hq=>?_) (MO cnt bs f' Jv ed v he X A F ⟨st_c.get,_⟩ nb (hN1.frame (fun i _=>gM i) (Nat.le_refl _)) bw))
  obtain⟨Qb,l9,GP⟩:=hq
  (try dsimp only at l9 GP)
  refine hN _ _ ?_
  clear hN N
  (try((repeat(revert hN;revert N;apply Pn.out));refine wk (tw @mU (tw @c0 (tw @c2 (tw @c7 (tw @c8 @c9))))) ?_;(repeat(refine Pn.mk ?_;intro N hN))))
  refine⟨_,?_,bz bs ed v,sn bs f' ed v,rfl,nN ok he,ab,sd @Nat.zero_add,hW.step he oE hr NG,Qb,fun i hi hF=>by rw[GP i hF,gM i,mN i hi hF],bw⟩
  omega
def rR (P:Program) (f:Nat) (args:List AV) (R:AV->Prop):Prop:=∀σ:aw,Call P f args ⟨V.ro σ.get,σ.next⟩ fun r0 σ'=>∃r',V.fz σ'.get 6 r0=some r'/\R r'
theorem Bj {P:Program} {f:Nat} {args:List AV} {g:Rows} {n:Nat} {R:AV->Prop} (h:Sound P f args ⟨V.ro g,n⟩ fun r0 σ'=>∃r',V.fz σ'.get 6 r0=some r'/\R r'):Sound P f args ⟨g,n⟩ fun r σ'=>R r/\σ'=⟨g,n⟩:=by
 intro hs D ι w vs S U A
 refine(yO (g0:=g) (K:=R) h (fun _ _ h=>h) S U A).mono ?_
 rintro e w' ⟨r,D',u,rfl,hR,T,S',hr⟩
 exact⟨r,g,n,D',ι,u,rfl,⟨hR,rfl⟩,T,S',U,Nat.le_refl _,hr⟩
theorem rR.x {P:Program} (hm:P.follows .mixedOrders=true) {f:Nat} {args:List AV} {R:AV->Prop} (h:rR P f args R) {σ:aw}:Call P f args σ fun r σ'=>R r/\σ'=σ:=
 iw (Bj (gJ hm (h σ)))
theorem rR.body {P:Program} {f:Nat} {args:List AV} {R:AV->Prop} {nt na:Nat} {body:VC} {res:List oB} (hf:l5 P f=some ⟨nt,na,body,res⟩) (ha:na=args.length) (h:(∀a∈args,eG a)->∀σ:aw,eb (Call P) body (la res fun r0 σ'=>∃r',V.fz σ'.get 6 r0=some r'/\R r') (cm args) ⟨V.ro σ.get,σ.next⟩):rR P f args R:=fun σ=>lq hf ha fun hl=>h hl σ
theorem JM {g:Rows} {rows:List (List AV)} {xs:List (List Nat)} {ids:List Id} (n:Nat) (h:dd Nv g rows xs ids):dM g (n+2) rows=some (xs.map fun l=>[MY l]):=by
 induction h with
 |nil=>rw[dM];rfl
 |cons h1 _ ih=>
  rename_i x _ _ _ _ _
  rcases h1 with⟨h0,h1,_⟩|⟨id,h1,h0,h2,_⟩
  ·subst h0 h1;rw[dM,ih,ad,aj,aX];rfl
  ·have gU:x≠[]:=by rintro rfl;simp at h0
   subst h1
   rw[dM,ih,ad,aj,eT (e:=eN) (sz:=1) h2 rfl fun a=>fzN _ n a]
   simp[MY,gU]
theorem ni.fz0 {cnt:Nat} {bs:List PB} {f:Nat->Int} {X A F:Id} {g:Rows} {nx:Nat} (h:ni cnt bs f X A F g nx):V.fz g 5 (.ptr X 0 0)=some (.de (fx cnt bs f)):=by
 have hf:V.fz g 4 (.own F 0 bs.length)=some (.sl (dJ f bs.length)):=by
  rw[gC]
  simp only[h.f,if_true]
  rw[if_pos (by rw[dv];omega),List.drop_zero,List.take_of_length_le (by rw[dv];omega),yq];rfl
 have ha:V.fz g 4 (.own A 0 cnt)=some (.sl (oV cnt bs bs.length)):=by
  obtain⟨rows,ids,h1,h2,_,_⟩:=h.a
  have hl:=h2.len
  rw[iT]at hl
  rw[gC]
  simp only[h1,if_true]
  rw[if_pos ab,List.drop_zero,List.take_of_length_le ab,JM 1 h2]
  simp[kN,oV]
 rw[bl]
 simp only[h.x,if_true,List.getElem?_cons_zero,List.drop_zero,bp,ad,aj,aH,b4,ha,hf,Option.map_some,fx]
theorem CT {S:Nat->Bool}:∀bs:List PB,(∀b∈bs,b.s<=4)->iH S bs<=4*bs.length
 |[],_=>by simp[iH]
 |b::bs,h=>by
  rw[re]
  have:=CT (S:=S) bs fun x hx=>h x (List.mem_cons_of_mem _ hx)
  have:=h b (by simp)
  simp only[List.length_cons]
  split<;>omega
theorem jD.zero {bs:List PB} {x y:Nat} (h:∀e,e<bs.length->0<=(bV bs e).s/\(bV bs e).s<=4):jD bs (fun _=>0) x y 0:=
 ⟨fun i hi=>by have:=h i hi;omega,fun S _ _=>jw fun i _=>by simp⟩
theorem IQ {bs:List PB} {b:PB} (h:b∈bs):∃e,e<bs.length/\bV bs e=b:=by
 obtain⟨e,he,rfl⟩:=List.getElem_of_mem h
 exact⟨e,he,by simp[bV,List.getD_eq_getElem?_getD,he]⟩
theorem ET (cnt:Nat) (hn:cnt<=1048576) (bs:List PB) (ok:mE cnt bs) (pD:bs.length<=1048576) (eB:∀e,e<bs.length->0<=(bV bs e).s/\(bV bs e).s<=4) (x y:Nat) (hx:x<cnt) (hy:y<cnt) (MA:x≠y):
  rR Tryz.prog 153 [.int .i64 cnt,.sl (bs.map ax),.int .i64 x,.int .i64 y] fun r=>∃f val,r=.gE [.de (fx cnt bs f),.int .i64 val]/\jD bs f x y val/\∃S:Nat->Bool,S x=true/\S y=false/\val=iH S bs:=by
 refine rR.body dY rfl fun hl σ=>?_
 clear hl
 (try((repeat(revert hN;revert N;apply Pn.out));refine wk @Nat.zero_add ?_;(repeat(refine Pn.mk ?_;intro N hN))))
 refine .inr (aV _ _ _ _ _ (fun r σ1 hq=>?_) (Hb cnt hn bs ok pD _))
 obtain⟨X,A,F,rfl,hX,hS⟩:=hq
 refine hN _ _ ?_
 clear hN N
 have hS0:∀f val,jD bs f x y val->val<=iH (fun v=>decide (v=x)) bs:=fun f val hf=>hf.bound (decide_eq_true rfl) (decide_eq_false fun h=>MA h.symm)
 have htot:=CT (S:=fun v=>decide (v=x)) bs fun b hb=>by
  obtain⟨e,he,rfl⟩:=IQ hb
  exact(eB e he).2
 generalize iH (fun v=>decide (v=x)) bs=T at *
 (try((repeat(revert hN;revert N;apply Pn.out));refine wk @Nat.zero_add ?_;(repeat(refine Pn.mk ?_;intro N hN))))
 refine aT (fun m env st=>∃(f:Nat->Int) (val:Int),m=(T-val).toNat/\0<=val/\env 10=.ptr X 0 0/\env 11=.int .i64 val/\jD bs f x y val/\ni cnt bs f X A F st.get σ1.next/\σ1.next<=st.next) T.toNat ⟨_,0,by simp,ab,by(simp only[go_sem, ↓reduceIte,Nat.reduceEqDiff,Nat.reduceAdd,Nat.reduceSub,Nat.reduceLeDiff,reduceCtorEq]),by(simp only[go_sem, ↓reduceIte,Nat.reduceEqDiff,Nat.reduceAdd,Nat.reduceSub,Nat.reduceLeDiff,reduceCtorEq]),jD.zero eB,hS.frame (fun i hi=>rfl) (Nat.le_refl _),bw⟩ ?_
 rintro m env_b st_b ⟨f,val,rfl,qQ,b10,b11,hf,hN1,hle⟩ bfr
 have b2:=bfr 2 (by kernel_rfl)
 have b3:=bfr 3 (by kernel_rfl)
 simp only[go_sem, ↓reduceIte,Nat.reduceEqDiff,Nat.reduceAdd,Nat.reduceSub,Nat.reduceLeDiff,reduceCtorEq]at b2 b3
 clear bfr
 (try((repeat(revert hN;revert N;apply Pn.out));refine wk (tw @b2 (tw @b3 @b10)) ?_;(repeat(refine Pn.mk ?_;intro N hN))))
 refine .inr (aV _ _ _ _ _ (fun r σ2 hq=>?_) (LR cnt hn bs ok pD eB f x y hx hy MA val hf X A F ⟨st_b.get,_⟩ σ1.next hN1 bw))
 obtain⟨b,f',rfl,Qb,l9,_,gR,Sd⟩:=hq
 (try dsimp only at l9)
 refine hN _ _ ?_
 clear hN N
 cases b with
 |true=>
  have lj:=Sd rfl
  have Il:=hS0 _ _ hf
  have uY:=hS0 _ _ lj
  have hw:IntKind.i64.wrap (val+1)=val+1:=bd ab
  (try((repeat(revert hN;revert N;apply Pn.out));refine wk (tw @b10 (tw @b11 @hw)) ?_;(repeat(refine Pn.mk ?_;intro N hN))))
  exact⟨_,ab,f',val+1,rfl,ab,sd @b10,sd (tw @b11 @hw),lj,Qb,bw⟩
 |false=>
  obtain⟨rfl,S,h1,h2,h3⟩:=gR rfl
  (try((repeat(revert hN;revert N;apply Pn.out));refine wk (tw @b10 @b11) ?_;(repeat(refine Pn.mk ?_;intro N hN))))
  have hz:=Qb.fz0
  exact⟨[.ptr X 0 0,.int .i64 val],sd @Nat.zero_add,.gE [.de (fx cnt bs f'),.int .i64 val],by simp only[dr,bE,ad,aj,hz,aH,Option.map_some],f',val,rfl,hf,S,h1,h2,h3⟩
theorem EU (cnt:Nat) (hn:cnt<=1048576) (bs:List PB) (ok:mE cnt bs) (pD:bs.length<=1048576) (f:Nat->Int) (hs:Small bs f) (y:Nat) (hy:y<cnt):
  mB Tryz.prog 154 [.de (fx cnt bs f),.int .i64 y] fun r=>∃l:List Nat,r=.sl (l.map eN)/\l.length<=cnt:=by
 refine mB.body dY rfl fun hl n0=>?_
 clear hl
 have hz:∀g:Rows,cq (dD g) 6 [.de (fx cnt bs f),.int .i64 (y:Int)]=some [.de (fx cnt bs f),.int .i64 y]:=fun g=>by simp only[ad,aj,aY,aH,Option.map_some]
 (try((repeat(revert hN;revert N;apply Pn.out));refine wk @Nat.zero_add ?_;(repeat(refine Pn.mk ?_;intro N hN))))
 refine .inr (aV _ _ _ _ _ (fun r σ1 hq=>?_) ((DE cnt hn bs ok pD f hs y hy).x mixed (hz _)))
 obtain⟨⟨out,rfl,Ms⟩,rfl⟩:=hq
 refine hN _ _ ?_
 clear hN N
 (try((repeat(revert hN;revert N;apply Pn.out));refine wk @fx.eq_1 ?_;(repeat(refine Pn.mk ?_;intro N hN))))
 refine aT (fun n env st=>∃k:Nat,n=(cnt)-k/\k<=(cnt)/\env 7=.int .i64 (k:Int)/\(∃(o:Id) (l:List Nat),env 6=.own o 0 l.length/\st.get o=some ⟨true,1,l.map eN⟩/\o.bY<st.next/\l.length<=k)) (cnt) ⟨0,ab,ab,sl @fx.eq_1,⟨⟨154002000,n0+1+1+1⟩,[],by(simp only[go_sem, ↓reduceIte,Nat.reduceEqDiff,Nat.reduceAdd,Nat.reduceSub,Nat.reduceLeDiff,reduceCtorEq])<;>rfl,by(simp only[go_sem, ↓reduceIte,Nat.reduceEqDiff,Nat.reduceAdd,Nat.reduceSub,Nat.reduceLeDiff,reduceCtorEq])<;>rfl,bw,by simp⟩⟩ ?_
 rintro n_a env_a st_a ⟨k,rfl,ale,a7,k5⟩ dE
 have a0:=dE 0 (by kernel_rfl);have a5:=dE 5 (by kernel_rfl)
 simp only[go_sem, ↓reduceIte,Nat.reduceEqDiff,Nat.reduceAdd,Nat.reduceSub,Nat.reduceLeDiff,reduceCtorEq,fx]at a0 a5
 clear dE
 obtain⟨o,l,a6,ag,se,Ez⟩:=k5
 have qQ:=eC se
 have jI:(l.map eN).length=l.length:=by simp
 by_cases hk:(k:Int)<(cnt:Int)
 ·have bW:∀{e:Env} {gg:Rows} {nx:Nat},(e 7=.int .i64 (IntKind.i64.wrap ((k:Int)+1)))->(∃(o:Id) (l:List Nat),e 6=.own o 0 l.length/\gg o=some ⟨true,1,l.map eN⟩/\o.bY<nx/\l.length<=(k+1))->∃m0,m0<(cnt)-k/\∃k:Nat,m0=(cnt)-k/\k<=(cnt)/\e 7=.int .i64 (k:Int)/\(∃(o:Id) (l:List Nat),e 6=.own o 0 l.length/\gg o=some ⟨true,1,l.map eN⟩/\o.bY<nx/\l.length<=k):=fun x1 x2=>⟨_,ab,k+1,rfl,ab,(by rw[x1,aA ab]),x2⟩
  have qa:=dC (f:=out) (show k<cnt by omega)
  rw[ay]at qa
  have e1:l.length+1<=16777216:=ab
  by_cases h0:0<=out k
  ·(try((repeat(revert hN;revert N;apply Pn.out));refine wk (tw @a7 (tw @a0 (tw @a5 (tw @a6 (tw @ag (tw @qQ (tw @hk (tw @qa (tw @h0 (tw @e1 (tw @jI @fx.eq_1))))))))))) ?_;(repeat(refine Pn.mk ?_;intro N hN))))
   exact bW (sd (tw @a7 (tw @a0 (tw @a5 @fx.eq_1)))) (⟨⟨154007003,st_a.next+1+1⟩,l++[k],by rw[List.length_append];simp only[go_sem, ↓reduceIte,Nat.reduceEqDiff,Nat.reduceAdd,Nat.reduceSub,Nat.reduceLeDiff,reduceCtorEq,List.length_cons,List.length_nil],by rw[List.map_append,List.map_cons,List.map_nil];simp only[go_sem, ↓reduceIte,Nat.reduceEqDiff,Nat.reduceAdd,Nat.reduceSub,Nat.reduceLeDiff,reduceCtorEq,eN],bw,by simp;omega⟩)
  ·(try((repeat(revert hN;revert N;apply Pn.out));refine wk (tw @a7 (tw @a0 (tw @a5 (tw @a6 (tw @ag (tw @qQ (tw @hk (tw @qa (tw @h0 (tw @jI @fx.eq_1)))))))))) ?_;(repeat(refine Pn.mk ?_;intro N hN))))
   exact bW (sd (tw @a7 (tw @a0 (tw @a5 @fx.eq_1)))) (⟨o,l,sd @a6,sd @ag,bw,ab⟩)
 ·(try((repeat(revert hN;revert N;apply Pn.out));refine wk (tw @a7 (tw @a0 (tw @a5 (tw @a6 (tw @hk @fx.eq_1))))) ?_;(repeat(refine Pn.mk ?_;intro N hN))))
  have rq:fu st_a.get 6 (.own o 0 l.length)=some (.sl (l.map eN)):=eW ag rfl fun b=>LP _ 4 b
  exact⟨_,rfl,_,by simp only[go_sem, ↓reduceIte,Nat.reduceEqDiff,Nat.reduceAdd,Nat.reduceSub,Nat.reduceLeDiff,reduceCtorEq,dr];exact rq,l,rfl,ab⟩
theorem zS (v1 v2:Int) (l1 l2:List Nat) (h1:l1.length<=1048576) (h2:l2.length<=1048576):
  mB Tryz.prog 155 [.int .i64 v1,.sl (l1.map eN),.int .i64 v2,.sl (l2.map eN)] fun r=>∃b,r=.bool b/\(v1<v2->b=true)/\(v2<v1->b=false):=by
 refine mB.body dY rfl fun hl n0=>?_
 clear hl
 have ret:∀{t:Nat} {env:Env} {σ:aw} {b:Bool} {x:Ex},(x=.ret∨x=.normal)->env t=.bool b->((v1<v2->b=true)/\(v2<v1->b=false))->la [.tmp t] (fun r0 σ'=>∃r',fu σ'.get 6 r0=some r'/\∃b,r'=.bool b/\(v1<v2->b=true)/\(v2<v1->b=false)) x env σ:=by
  intro t env σ b x hx he hb
  have:∃vs,fb env σ.get [.tmp t]=some vs/\∃r',fu σ.get 6 (dr vs)=some r'/\∃b,r'=.bool b/\(v1<v2->b=true)/\(v2<v1->b=false):=⟨[env t],rfl,.bool b,by rw[he];exact cz _ _ _,b,rfl,hb⟩
  rcases hx with rfl|rfl
  ·exact this
  ·exact this
 have m1:(l1.map eN).length=l1.length:=by simp
 have m2:(l2.map eN).length=l2.length:=by simp
 by_cases hv:v1=v2
 ·have hd:decide (v1=v2)=true:=decide_eq_true hv
  by_cases Ez:(l1.length:Int)=(l2.length:Int)
  ·have sK:decide ((l1.length:Int)=(l2.length:Int))=true:=decide_eq_true Ez
   have Ji:decide (l1.length=l2.length)=true:=decide_eq_true ab
   (try((repeat(revert hN;revert N;apply Pn.out));refine wk (tw @hd (tw @sK (tw @Ji (tw @m1 @m2)))) ?_;(repeat(refine Pn.mk ?_;intro N hN))))
   refine aT (fun n env st=>∃k:Nat,n=(l1.length)-k/\k<=(l1.length)/\env 9=.int .i64 (k:Int)) (l1.length) ⟨0,ab,ab,sl @Nat.zero_add⟩ ?_
   rintro n_a env_a st_a ⟨k,rfl,ale,a9⟩ dE
   have a1:=dE 1 (by kernel_rfl);have a3:=dE 3 (by kernel_rfl)
   simp only[go_sem, ↓reduceIte,Nat.reduceEqDiff,Nat.reduceAdd,Nat.reduceSub,Nat.reduceLeDiff,reduceCtorEq]at a1 a3
   clear dE
   by_cases hk:(k:Int)<(l1.length:Int)
   ·have bW:∀{e:Env},(e 9=.int .i64 (IntKind.i64.wrap ((k:Int)+1)))->∃m0,m0<(l1.length)-k/\∃k:Nat,m0=(l1.length)-k/\k<=(l1.length)/\e 9=.int .i64 (k:Int):=fun x1=>⟨_,ab,k+1,rfl,ab,(by rw[x1,aA ab])⟩
    have g1:(l1.map eN)[k]? =some (eN (l1.getD k 0)):=getD_map eN ab
    have g2:(l2.map eN)[k]? =some (eN (l2.getD k 0)):=getD_map eN ab
    rw[eN]at g1 g2
    by_cases he:((l1.getD k 0:Nat):Int)=((l2.getD k 0:Nat):Int)
    ·have Ru:decide (((l1.getD k 0:Nat):Int)=((l2.getD k 0:Nat):Int))=true:=decide_eq_true he
     have Rv:decide (l1.getD k 0=l2.getD k 0)=true:=decide_eq_true ab
     (try((repeat(revert hN;revert N;apply Pn.out));refine wk (tw @a9 (tw @a1 (tw @a3 (tw @hk (tw @m1 (tw @g1 (tw @g2 (tw @Ru @Rv)))))))) ?_;(repeat(refine Pn.mk ?_;intro N hN))))
     exact bW (sd (tw @a9 (tw @a1 @a3)))
    ·have Ru:decide (((l1.getD k 0:Nat):Int)=((l2.getD k 0:Nat):Int))=false:=decide_eq_false he
     have Rv:decide (l1.getD k 0=l2.getD k 0)=false:=decide_eq_false ab
     (try((repeat(revert hN;revert N;apply Pn.out));refine wk (tw @a9 (tw @a1 (tw @a3 (tw @hk (tw @m1 (tw @g1 (tw @g2 (tw @Ru @Rv)))))))) ?_;(repeat(refine Pn.mk ?_;intro N hN))))
     exact ret (.inl rfl) (by simp only[go_sem, ↓reduceIte,Nat.reduceEqDiff,Nat.reduceAdd,Nat.reduceSub,Nat.reduceLeDiff,reduceCtorEq];rfl) ⟨fun h=>ab,fun h=>ab⟩
   ·(try((repeat(revert hN;revert N;apply Pn.out));refine wk (tw @a9 (tw @a1 (tw @a3 (tw @hk @m1)))) ?_;(repeat(refine Pn.mk ?_;intro N hN))))
    exact ret (b:=false) (.inl rfl) (sd @Nat.zero_add) ⟨fun h=>ab,fun h=>ab⟩
  ·have sK:decide ((l1.length:Int)=(l2.length:Int))=false:=decide_eq_false Ez
   have Ji:decide (l1.length=l2.length)=false:=decide_eq_false ab
   (try((repeat(revert hN;revert N;apply Pn.out));refine wk (tw @hd (tw @sK (tw @Ji (tw @m1 @m2)))) ?_;(repeat(refine Pn.mk ?_;intro N hN))))
   exact ret (.inl rfl) (by simp only[go_sem, ↓reduceIte,Nat.reduceEqDiff,Nat.reduceAdd,Nat.reduceSub,Nat.reduceLeDiff,reduceCtorEq];rfl) ⟨fun h=>ab,fun h=>ab⟩
 ·have hd:decide (v1=v2)=false:=decide_eq_false hv
  (try((repeat(revert hN;revert N;apply Pn.out));refine wk @hd ?_;(repeat(refine Pn.mk ?_;intro N hN))))
  exact ret (b:=decide (v1<v2)) (.inl rfl) (sd @Nat.zero_add) ⟨fun h=>decide_eq_true h,fun h=>decide_eq_false ab⟩
def tg (bs:List PB) (cnt:Nat) (iO:Int) (k:Nat):Prop:=(k=1/\iO= -1)∨(0<=iO/\(∀z,1<=z->z<k->∀S:Nat->Bool,S 0=true->S z=false->iO<=iH S bs)/\∃S:Nat->Bool,S 0=true/\(∃z,z<cnt/\S z=false)/\iO=iH S bs)
theorem jD.nn {bs:List PB} {val:Int} {S:Nat->Bool} (eB:∀e,e<bs.length->0<=(bV bs e).s/\(bV bs e).s<=4) (h:val=iH S bs):0<=val:=by
 rw[h,tA]
 have:=qF (f:=fun _=>0) (g:=fun i=>if S (bV bs i).a=S (bV bs i).b then 0 else(bV bs i).s) (n:=bs.length) fun i hi=>by
  have:=eB i hi
  split<;>omega
 rw[jw fun _ _=>rfl]at this
 exact this
theorem tg.done {bs:List PB} {cnt:Nat} {iO:Int} (hc:2<=cnt) (h:tg bs cnt iO cnt) (t:Int):t<=iO↔kc cnt bs t:=by
 rcases h with⟨h,_⟩|⟨_,h1,S,h2,⟨z,hz,lp⟩,h3⟩
 ·omega
 ·constructor
  ·intro ht S h0 ⟨y,hy,hy2⟩
   have:y≠0:=by rintro rfl;rw[h0]at hy2;cases hy2
   have:=h1 y ab hy S h0 hy2
   omega
  ·intro hH
   rw[h3];exact hH S h2 ⟨z,hz,lp⟩
theorem xR (cnt:Nat) (h2:2<=cnt) (hn:cnt<=1048576) (bs:List PB) (ok:mE cnt bs) (pD:bs.length<=1048576) (eB:∀e,e<bs.length->0<=(bV bs e).s/\(bV bs e).s<=4):
  rR Tryz.prog 124 [.int .i64 cnt,.sl (bs.map ax)] fun r=>∃iO p,r=.gE [.int .i64 iO,p]/\∀t:Int,t<=iO↔kc cnt bs t:=by
 refine rR.body dY rfl fun hl σ=>?_
 clear hl
 (try((repeat(revert hN;revert N;apply Pn.out));refine wk @Nat.zero_add ?_;(repeat(refine Pn.mk ?_;intro N hN))))
 have z0:∀(g:Rows) (id:Id),g id=some ⟨true,1,[]⟩->V.fz (dD g) 6 (.own id 0 0)=some (.sl (([]:List Nat).map eN))/\V.fz g 5 (.own id 0 0)=some (.sl (([]:List Nat).map eN)):=fun g id h=>by
  have h':dD g id=some ⟨true,1,[]⟩:=by simp[dD,h]
  constructor
  ·rw[gC];simp only[h',if_true];rw[if_pos (by simp)];simp[nE]
  ·rw[gC];simp only[h,if_true];rw[if_pos (by simp)];simp[nE]
 refine aT (fun m env st=>∃(k:Nat) (iO:Int) (l:List Nat) (p:AV),m=cnt-k/\1<=k/\k<=cnt/\env 8=.int .i64 (k:Int)/\env 6=.int .i64 iO/\env 7=p/\V.fz (dD st.get) 6 p=some (.sl (l.map eN))/\V.fz st.get 5 p=some (.sl (l.map eN))/\l.length<=cnt/\tg bs cnt iO k) (cnt-1) ⟨1,-1,[],.own ⟨124002000,σ.next+1+1⟩ 0 0,rfl,ab,ab,by(simp only[go_sem, ↓reduceIte,Nat.reduceEqDiff,Nat.reduceAdd,Nat.reduceSub,Nat.reduceLeDiff,reduceCtorEq])<;>rfl,by(simp only[go_sem, ↓reduceIte,Nat.reduceEqDiff,Nat.reduceAdd,Nat.reduceSub,Nat.reduceLeDiff,reduceCtorEq])<;>rfl,by(simp only[go_sem, ↓reduceIte,Nat.reduceEqDiff,Nat.reduceAdd,Nat.reduceSub,Nat.reduceLeDiff,reduceCtorEq])<;>rfl,(z0 _ _ (sd @Nat.zero_add)).1,(z0 _ _ (sd @Nat.zero_add)).2,by simp,.inl ⟨rfl,rfl⟩⟩ ?_
 rintro m env_b st_b ⟨k,iO,l,p,rfl,p9,tR,b8,b6,b7,yK,lp,hl,hB⟩ bfr
 have b0:=bfr 0 (by kernel_rfl)
 have b1:=bfr 1 (by kernel_rfl)
 simp only[go_sem, ↓reduceIte,Nat.reduceEqDiff,Nat.reduceAdd,Nat.reduceSub,Nat.reduceLeDiff,reduceCtorEq]at b0 b1
 clear bfr z0
 by_cases hk:(k:Int)<(cnt:Int)
 ·have fw:k<cnt:=ab
  have hFl:=ET cnt hn bs ok pD eB 0 k ab fw ab
  rw[show(((0:Nat):Int))=0 from rfl]at hFl
  (try((repeat(revert hN;revert N;apply Pn.out));refine wk (tw @b0 (tw @b1 (tw @b6 (tw @b7 (tw @b8 @hk))))) ?_;(repeat(refine Pn.mk ?_;intro N hN))))
  refine .inr (aV _ _ _ _ _ (fun r σ1 hq=>?_) (hFl.x mixed))
  obtain⟨⟨f,val,rfl,hf,S,Jf,Jg,NF⟩,rfl⟩:=hq
  refine hN _ _ ?_
  clear hN N
  have Jv:=uF eB hf.le
  have qe:=jD.nn (val:=val) eB NF
  (try((repeat(revert hN;revert N;apply Pn.out));refine wk (tw @b0 (tw @b1 (tw @b6 (tw @b7 @b8)))) ?_;(repeat(refine Pn.mk ?_;intro N hN))))
  refine .inr (aV _ _ _ _ _ (fun r σ1 hq=>?_) ((EU cnt hn bs ok pD f Jv k fw).x mixed (by simp only[ad,aj,aY,aH,Option.map_some])))
  obtain⟨⟨l',rfl,Iz⟩,rfl⟩:=hq
  refine hN _ _ ?_
  clear hN N
  have hw:IntKind.i64.wrap ((k:Int)+1)=((k+1:Nat):Int):=aA ab
  have PG:(∀z,1<=z->z<k->∀S:Nat->Bool,S 0=true->S z=false->val<=iH S bs)->tg bs cnt val (k+1):=fun h=>.inr ⟨qe,fun z yK lp S' h0 h1=>by
   by_cases sf:z=k
   ·subst sf;exact hf.bound h0 h1
   ·exact h z yK ab S' h0 h1,S,Jf,⟨k,fw,Jg⟩,NF⟩
  by_cases jJ:iO<0
  ·have zz:k=1:=by
    rcases hB with⟨h,_⟩|⟨h,_⟩
    ·exact h
    ·omega
   (try((repeat(revert hN;revert N;apply Pn.out));refine wk (tw @b0 (tw @b1 (tw @b6 (tw @b7 (tw @b8 (tw @jJ @hw)))))) ?_;(repeat(refine Pn.mk ?_;intro N hN))))
   refine⟨_,?_,k+1,val,l',.sl (l'.map eN),rfl,ab,ab,sd (tw @b8 @hw),sd @Nat.zero_add,sd @Nat.zero_add,b4 _ _ _,b4 _ _ _,Iz,PG fun z h1 h2=>ab⟩
   omega
  ·have zz:(∀z,1<=z->z<k->∀S:Nat->Bool,S 0=true->S z=false->iO<=iH S bs)/\∃S:Nat->Bool,S 0=true/\(∃z,z<cnt/\S z=false)/\iO=iH S bs:=by
    rcases hB with⟨_,h⟩|⟨_,h⟩
    ·omega
    ·exact h
   (try((repeat(revert hN;revert N;apply Pn.out));refine wk (tw @b0 (tw @b1 (tw @b6 (tw @b7 (tw @b8 (tw @jJ @hw)))))) ?_;(repeat(refine Pn.mk ?_;intro N hN))))
   refine .inr (aV _ _ _ _ _ (fun r σ1 hq=>?_) ((zS val iO l' l ab ab).x mixed (by simp only[ad,aj,b4,aH,yK,Option.map_some])))
   obtain⟨⟨b,rfl,Il,uY⟩,rfl⟩:=hq
   refine hN _ _ ?_
   clear hN N
   cases b with
   |true=>
    have Mx:val<=iO:=by
     rcases Int.lt_or_le iO val with h|h
     ·exact absurd (uY h) (by simp)
     ·exact h
    (try((repeat(revert hN;revert N;apply Pn.out));refine wk (tw @b0 (tw @b1 (tw @b6 (tw @b7 (tw @b8 @hw))))) ?_;(repeat(refine Pn.mk ?_;intro N hN))))
    refine⟨_,?_,k+1,val,l',.sl (l'.map eN),rfl,ab,ab,sd (tw @b8 @hw),sd @Nat.zero_add,sd @Nat.zero_add,b4 _ _ _,b4 _ _ _,Iz,PG fun z h1 h2 S' h3 h4=>by have:=zz.1 z h1 h2 S' h3 h4;omega⟩
    omega
   |false=>
    have Mx:iO<=val:=by
     rcases Int.lt_or_le val iO with h|h
     ·exact absurd (Il h) (by simp)
     ·exact h
    (try((repeat(revert hN;revert N;apply Pn.out));refine wk (tw @b0 (tw @b1 (tw @b6 (tw @b7 (tw @b8 @hw))))) ?_;(repeat(refine Pn.mk ?_;intro N hN))))
    refine⟨_,?_,k+1,iO,l,p,rfl,ab,ab,sd (tw @b8 @hw),sd @b6,sd @b7,yK,lp,hl,.inr ⟨ab,fun z h1 h2 S' h3 h4=>?_,zz.2⟩⟩
    ·omega
    ·by_cases sf:z=k
     ·subst sf;have:=hf.bound h3 h4;omega
     ·exact zz.1 z h1 ab S' h3 h4
 ·have lS:k=cnt:=ab
  (try((repeat(revert hN;revert N;apply Pn.out));refine wk (tw @b0 (tw @b1 (tw @b6 (tw @b7 (tw @b8 @hk))))) ?_;(repeat(refine Pn.mk ?_;intro N hN))))
  exact⟨[.int .i64 iO,p],sd @Nat.zero_add,.gE [.int .i64 iO,.sl (l.map eN)],by simp only[dr,bE,ad,aj,lp,aH,Option.map_some],iO,_,rfl,tg.done h2 (lS▸hB)⟩
theorem Ki {s:aq} (hS:lV s) (a d:Int):uH s (di (dh s a) d)<=4:=by
 have hF:=hS.form
 have fJ:di (dh s a) d=0∨(0<=di (dh s a) d/\di (dh s a) d<=s.au.length):=by
  unfold di dh
  rw[List.getD_eq_getElem?_getD,List.getD_eq_getElem?_getD]
  rcases ht:s.ae[a.toNat]? with _|t
  ·exact .inl (by simp[Ca])
  ·have htm:=List.mem_of_getElem? ht
   simp only[Option.getD_some]
   rcases hg:t.bm[d.toNat]? with _|g
   ·exact .inl rfl
   ·exact .inr (hF.r8 t htm g (List.mem_of_getElem? hg))
 unfold uH
 by_cases h0:di (dh s a) d=0
 ·rw[if_pos h0];omega
 ·rw[if_neg h0]
  have hk:(di (dh s a) d-1).toNat<s.au.length:=ab
  have:=dO (hS.Q4 _ hk).2.1
  unfold oJ at this
  unfold g7
  omega
theorem Gg {s:aq} (hS:lV s) (a d b:Int):iP s a d b<=4:=by
 unfold iP
 split
 ·exact Ki hS a d
 ·omega
theorem DX {s:aq} {l:List ak} (hS:lV s) {i:Nat} (hi:i<l.length) {d:Int}:∀b∈lZ s l i d,b.a<l.length/\b.b<l.length/\0<=b.s/\b.s<=4:=by
 intro b hb
 unfold lZ at hb
 split at hb
 ·rename_i h
  simp only[List.mem_singleton]at hb
  subst hb
  exact⟨hi,(og h.1).1,by simp only;omega,Gg hS ..⟩
 ·cases hb
theorem v5 {s:aq} {l:List ak} (hS:lV s):∀b∈cu s l,b.a<l.length/\b.b<l.length/\0<=b.s/\b.s<=4:=by
 intro b hb
 simp only[cu,gh,fD,List.mem_flatMap,List.mem_range]at hb
 obtain⟨i,hi,j,_,hb⟩:=hb
 exact DX hS hi b hb
theorem oX {s:aq} {l:List ak} (hF:j9 l):(cu s l).length<=1000:=by
 have:=rV s l l.length
 have:=hF.FN
 rw[cu];omega
theorem Ga {bs:List PB} {e:Nat} (h:e<bs.length):bV bs e∈bs:=by
 rw[bV,List.getD_eq_getElem?_getD,List.getElem?_eq_getElem h];exact List.getElem_mem h
theorem EB {n:Nat} {bs:List PB} {t:Int} (h:n<2):kc n bs t:=fun S h0 ⟨y,hy,hf⟩=>by
 have:y=0:=ab
 subst this;rw[h0]at hf;cases hf
def gQ (s:aq) (l:List ak) (t:Int):Nat:=(leads l.length (dV (aE t (cu s l)))).length
noncomputable def mO (s:aq) (l:List ak) (t:Int):Bool:=@decide (nY l.length (cu s l) t) (Classical.propDecidable _)
def rl (s:aq) (l:List ak) (t:Int):Int:=if 64<gQ s l t then 4 else 0
theorem lO {s:aq} {l:List ak} {t:Int} {p:Prop} [Decidable p] (h:p↔nY l.length (cu s l) t):decide p=mO s l t:=by
 letI:=Classical.propDecidable (nY l.length (cu s l) t)
 unfold mO
 by_cases hp:p
 ·rw[decide_eq_true hp];exact(decide_eq_true (h.1 hp)).symm
 ·rw[decide_eq_false hp];exact(decide_eq_false fun k=>hp (h.2 k)).symm
theorem zU (s:aq) (l:List ak) (t:Int) (hS:lV s) (hA:lT s l):ah Tryz.prog 90 [.de (aa s),.de [.sl (l.map ai)],.int .i64 t] (.gE [.bool (mO s l t),.int .i64 (rl s l t)]):=by
 refine ah.body dY rfl fun hl n0=>?_
 clear hl
 have hb:=v5 (l:=l) hS
 have pD:=oX (s:=s) hA.1
 have OL:=hA.1.FN
 have zB:=BU s l hS.form hA
 have ID:=zT l.length ab (cu s l) (fun b h=>⟨(hb b h).1,(hb b h).2.1⟩) ab t
 have hL:=si (aE t (cu s l))
 have fJ:=Ct hL (fun b h=>⟨(hb b h).1,(hb b h).2.1⟩)
 have hlen:=(ml (dV (aE t (cu s l))) (cu s l)).2
 have mW:=jr l.length (dV (aE t (cu s l)))
 have fa:(l.map ai).length=l.length:=by simp
 by_cases sH:(64:Int)<(gQ s l t:Int)
 ·have sI:64<gQ s l t:=ab
  have hd:mO s l t=false:=(lO (p:=False) ⟨False.elim,fun h=>by have:=h.1;unfold gQ at sI;omega⟩).symm.trans (by simp)
  rw[gQ]at sH
  (repeat(first|((repeat(revert hN;revert N;apply Pn.out));refine wk (tw @aa.eq_1 (tw @sH @fa)) ?_;(repeat(refine Pn.mk ?_;intro N hN)))|((try apply Or.inl);refine⟨_,ah.x (zB) (sd (tw @aa.eq_1 (tw @sH @fa))),?_⟩;refine hN _ _ ?_;clear hN N)|((try apply Or.inl);refine⟨_,ah.x (ID) (sd (tw @aa.eq_1 (tw @sH @fa))),?_⟩;refine hN _ _ ?_;clear hN N)))
  exact jc (.inl rfl) (r1:=.bool false) (r2:=.int .i64 4) (sd @Nat.zero_add) (sd @Nat.zero_add) (by rw[hd,rl,if_pos sI];simp only[cJ,aC,aL,cz,cC,Option.map_some])
 have sI:¬64<gQ s l t:=ab
 have hf:rl s l t=0:=by rw[rl,if_neg sI]
 by_cases h2:(gQ s l t:Int)<2
 ·have hd:mO s l t=true:=(lO (p:=True) ⟨fun _=>⟨by unfold gQ at sI;omega,EB (by unfold gQ at h2;omega)⟩,fun _=>trivial⟩).symm.trans (by simp)
  rw[gQ]at sH h2
  (repeat(first|((repeat(revert hN;revert N;apply Pn.out));refine wk (tw @aa.eq_1 (tw @sH (tw @h2 @fa))) ?_;(repeat(refine Pn.mk ?_;intro N hN)))|((try apply Or.inl);refine⟨_,ah.x (zB) (sd (tw @aa.eq_1 (tw @sH (tw @h2 @fa)))),?_⟩;refine hN _ _ ?_;clear hN N)|((try apply Or.inl);refine⟨_,ah.x (ID) (sd (tw @aa.eq_1 (tw @sH (tw @h2 @fa)))),?_⟩;refine hN _ _ ?_;clear hN N)))
  exact jc (.inl rfl) (r1:=.bool true) (r2:=.int .i64 0) (sd @Nat.zero_add) (sd @Nat.zero_add) (by rw[hd,hf];simp only[cJ,aC,aL,cz,cC,Option.map_some])
 have My:=xR (gQ s l t) ab (by unfold gQ;omega) (eR (dV (aE t (cu s l))) (cu s l)) (fun e he=>by have:=fJ _ (Ga he);exact⟨this.1,this.2.1,this.2.2.1⟩) ab (fun e he=>by
  obtain⟨_,_,_,c,hc,dn⟩:=fJ _ (Ga he)
  rw[dn];have:=hb c hc;omega)
 rw[gQ]at sH h2 My
 (repeat(first|((repeat(revert hN;revert N;apply Pn.out));refine wk (tw @aa.eq_1 (tw @sH (tw @h2 @fa))) ?_;(repeat(refine Pn.mk ?_;intro N hN)))|((try apply Or.inl);refine⟨_,ah.x (zB) (sd (tw @aa.eq_1 (tw @sH (tw @h2 @fa)))),?_⟩;refine hN _ _ ?_;clear hN N)|((try apply Or.inl);refine⟨_,ah.x (ID) (sd (tw @aa.eq_1 (tw @sH (tw @h2 @fa)))),?_⟩;refine hN _ _ ?_;clear hN N)))
 refine .inr (aV _ _ _ _ _ (fun r σ1 hq=>?_) (My.x mixed))
 obtain⟨⟨iO,p,rfl,OG⟩,rfl⟩:=hq
 refine hN _ _ ?_
 clear hN N
 (try((repeat(revert hN;revert N;apply Pn.out));refine wk @Nat.zero_add ?_;(repeat(refine Pn.mk ?_;intro N hN))))
 exact jc (.inl rfl) (r1:=.bool (decide (t<=iO))) (r2:=.int .i64 0) (sd @Nat.zero_add) (sd @Nat.zero_add) (by
  rw[hf,lO (s:=s) (l:=l) (t:=t) (p:=t<=iO) ((OG t).trans (BG.trans ⟨fun h=>⟨by unfold gQ at sI;omega,h⟩,fun h=>h.2⟩))]
  simp only[cJ,aC,aL,cz,cC,Option.map_some])
theorem rD (t:Int):ah Tryz.prog 89 [.int .i64 t] (.bool (g9 t 1 16)):=by
 refine ah.body dY rfl fun hl n0=>?_
 clear hl
 have h:=j6 t 1 16
 (repeat(first|((repeat(revert hN;revert N;apply Pn.out));refine wk @Nat.zero_add ?_;(repeat(refine Pn.mk ?_;intro N hN)))|((try apply Or.inl);refine⟨_,ah.x (h) (sd @Nat.zero_add),?_⟩;refine hN _ _ ?_;clear hN N)))
 exact aO (b:=g9 t 1 16) (.inl rfl) (sd @Nat.zero_add) rfl
structure F7 (s:cl):Prop where
 set:lV s.aI
 MT:lT s.aI s.ck.ae
 some:1<=s.ck.ae.length
 M3:g9 s.aJ 1 16=true
 holds:nY s.ck.ae.length (cu s.aI s.ck.ae) s.aJ
noncomputable def mu (s:cl):Bool:=@decide (F7 s) (Classical.propDecidable _)
theorem uJ {s:cl}:mu s=true↔F7 s:=by simp[mu]
theorem jC {s:cl} (h:¬F7 s):false=mu s:=by simp[mu,h]
theorem Aj {s:cl} (h:F7 s):true=mu s:=by simp[mu,h]
theorem ow {s:aq} {l:List ak} {t:Int}:mO s l t=true↔nY l.length (cu s l) t:=by simp[mO]
theorem JI (s:cl) (hn:eX s.aI) (hg:s.aI.au.length<=1048576) (ht:s.aI.ae.length<=1048576):ah Tryz.prog 54 [.de (az s)] (.bool (mu s)):=by
 refine ah.body dY rfl fun hl n0=>?_
 clear hl
 have h1:=(JG s.aI hn hg ht).cut mixed (.ptr _ [.sl (s.ck.ae.map ai),.int .i64 s.aJ] .nil)
 by_cases hS:lV s.aI
 ·rw[lN.2 hS]at h1
  have h2:=(Ds s.aI s.ck.ae).cut mixed (.ptr _ [.sl (s.ck.ae.map ai),.int .i64 s.aJ] (.ptr _ [.int .i64 s.aJ] .nil))
  by_cases hA:lT s.aI s.ck.ae
  ·rw[lr.2 hA]at h2
   by_cases h0:(s.ck.ae.length:Int)=0
   ·have hd:decide ((s.ck.ae.length:Int)=0)=true:=decide_eq_true h0
    have gR:false=mu s:=jC fun h=>by have:=h.some;omega
    generalize fa:(s.ck.ae.map ai).length=len at *
    (repeat(first|((repeat(revert hN;revert N;apply Pn.out));refine wk (tw @az.eq_1 (tw @aa.eq_1 @hd)) ?_;(repeat(refine Pn.mk ?_;intro N hN)))|((try apply Or.inl);refine⟨_,ah.x (h1) (sd (tw @az.eq_1 (tw @aa.eq_1 @hd))),?_⟩;refine hN _ _ ?_;clear hN N)|((try apply Or.inl);refine⟨_,ah.x (h2) (sd (tw @az.eq_1 (tw @aa.eq_1 @hd))),?_⟩;refine hN _ _ ?_;clear hN N)))
    exact aO (b:=false) (.inl rfl) (sd @Nat.zero_add) gR
   ·have hd:decide ((s.ck.ae.length:Int)=0)=false:=decide_eq_false h0
    have h3:=rD s.aJ
    cases hT:g9 s.aJ 1 16
    ·rw[hT]at h3
     (repeat(first|((repeat(revert hN;revert N;apply Pn.out));refine wk (tw @az.eq_1 (tw @aa.eq_1 @hd)) ?_;(repeat(refine Pn.mk ?_;intro N hN)))|((try apply Or.inl);refine⟨_,ah.x (h1) (sd (tw @az.eq_1 (tw @aa.eq_1 @hd))),?_⟩;refine hN _ _ ?_;clear hN N)|((try apply Or.inl);refine⟨_,ah.x (h2) (sd (tw @az.eq_1 (tw @aa.eq_1 @hd))),?_⟩;refine hN _ _ ?_;clear hN N)|((try apply Or.inl);refine⟨_,ah.x (h3) (sd (tw @az.eq_1 (tw @aa.eq_1 @hd))),?_⟩;refine hN _ _ ?_;clear hN N)))
     exact aO (b:=false) (.inl rfl) (sd @Nat.zero_add) (jC fun h=>by have:=h.M3;rw[hT]at this;cases this)
    ·rw[hT]at h3
     have h4:=(zU s.aI s.ck.ae s.aJ hS hA).cut mixed (.ptr _ [.sl (s.ck.ae.map ai),.int .i64 s.aJ] (.ptr _ [.int .i64 s.aJ] (.same _ .nil)))
     cases hB:mO s.aI s.ck.ae s.aJ
     ·rw[hB]at h4
      (repeat(first|((repeat(revert hN;revert N;apply Pn.out));refine wk (tw @az.eq_1 (tw @aa.eq_1 @hd)) ?_;(repeat(refine Pn.mk ?_;intro N hN)))|((try apply Or.inl);refine⟨_,ah.x (h1) (sd (tw @az.eq_1 (tw @aa.eq_1 @hd))),?_⟩;refine hN _ _ ?_;clear hN N)|((try apply Or.inl);refine⟨_,ah.x (h2) (sd (tw @az.eq_1 (tw @aa.eq_1 @hd))),?_⟩;refine hN _ _ ?_;clear hN N)|((try apply Or.inl);refine⟨_,ah.x (h3) (sd (tw @az.eq_1 (tw @aa.eq_1 @hd))),?_⟩;refine hN _ _ ?_;clear hN N)|((try apply Or.inl);refine⟨_,ah.x (h4) (sd (tw @az.eq_1 (tw @aa.eq_1 @hd))),?_⟩;refine hN _ _ ?_;clear hN N)))
      exact aO (b:=false) (.inl rfl) (sd @Nat.zero_add) (jC fun h=>by have:=ow.2 h.holds;rw[hB]at this;cases this)
     ·have hP:=ow.1 hB
      have hf:rl s.aI s.ck.ae s.aJ=0:=by
       have:=hP.1
       rw[rl,if_neg (by unfold gQ;omega)]
      rw[hB,hf]at h4
      (repeat(first|((repeat(revert hN;revert N;apply Pn.out));refine wk (tw @az.eq_1 (tw @aa.eq_1 @hd)) ?_;(repeat(refine Pn.mk ?_;intro N hN)))|((try apply Or.inl);refine⟨_,ah.x (h1) (sd (tw @az.eq_1 (tw @aa.eq_1 @hd))),?_⟩;refine hN _ _ ?_;clear hN N)|((try apply Or.inl);refine⟨_,ah.x (h2) (sd (tw @az.eq_1 (tw @aa.eq_1 @hd))),?_⟩;refine hN _ _ ?_;clear hN N)|((try apply Or.inl);refine⟨_,ah.x (h3) (sd (tw @az.eq_1 (tw @aa.eq_1 @hd))),?_⟩;refine hN _ _ ?_;clear hN N)|((try apply Or.inl);refine⟨_,ah.x (h4) (sd (tw @az.eq_1 (tw @aa.eq_1 @hd))),?_⟩;refine hN _ _ ?_;clear hN N)))
      exact aO (b:=true) (.inl rfl) (sd @Nat.zero_add) (Aj ⟨hS,hA,ab,hT,hP⟩)
  ·have hb:oC s.aI s.ck.ae=false:=Bool.eq_false_iff.2 fun h=>hA (lr.1 h)
   rw[hb]at h2
   (repeat(first|((repeat(revert hN;revert N;apply Pn.out));refine wk (tw @az.eq_1 @aa.eq_1) ?_;(repeat(refine Pn.mk ?_;intro N hN)))|((try apply Or.inl);refine⟨_,ah.x (h1) (sd (tw @az.eq_1 @aa.eq_1)),?_⟩;refine hN _ _ ?_;clear hN N)|((try apply Or.inl);refine⟨_,ah.x (h2) (sd (tw @az.eq_1 @aa.eq_1)),?_⟩;refine hN _ _ ?_;clear hN N)))
   exact aO (b:=false) (.inl rfl) (sd @Nat.zero_add) (jC fun h=>hA h.MT)
 ·have hb:pA s.aI=false:=Bool.eq_false_iff.2 fun h=>hS (lN.1 h)
  rw[hb]at h1
  (repeat(first|((repeat(revert hN;revert N;apply Pn.out));refine wk (tw @az.eq_1 @aa.eq_1) ?_;(repeat(refine Pn.mk ?_;intro N hN)))|((try apply Or.inl);refine⟨_,ah.x (h1) (sd (tw @az.eq_1 @aa.eq_1)),?_⟩;refine hN _ _ ?_;clear hN N)))
  exact aO (b:=false) (.inl rfl) (sd @Nat.zero_add) (jC fun h=>hS h.set)
theorem yX {s:aq} {l:List ak} (hA:lT s l) {p:bH} (h:0<=u7 l p):gp s (u7 l p)=true:=by
 unfold u7 at h ⊢
 split at h
 ·rename_i h0
  rw[if_pos h0]
  exact hA.2 _ (nP (og h0).1)
 ·omega
noncomputable def qV (s:cl) (l:List ak):Bool:=mu s&&oC s.aI l
theorem BV (s:cl) (l:List ak) (hn:eX s.aI) (hg:s.aI.au.length<=1048576) (ht:s.aI.ae.length<=1048576):ah Tryz.prog 25 [.de (az s),.de [.sl (l.map ai)]] (.int .i64 (if qV s l then 0 else 1)):=by
 refine ah.body dY rfl fun hl n0=>?_
 clear hl
 have h1:=JI s hn hg ht
 have h2:=(Ds s.aI l).cut mixed (.ptr _ [.sl (s.ck.ae.map ai),.int .i64 s.aJ] (.same _ .nil))
 cases b1:mu s
 ·rw[b1]at h1
  (repeat(first|((repeat(revert hN;revert N;apply Pn.out));refine wk @Nat.zero_add ?_;(repeat(refine Pn.mk ?_;intro N hN)))|((try apply Or.inl);refine⟨_,ah.x (h1) (sd @Nat.zero_add),?_⟩;refine hN _ _ ?_;clear hN N)))
  exact bG (b:=1) (.inl rfl) (sd @Nat.zero_add) (by rw[qV,b1];rfl)
 rw[b1]at h1
 rw[az]at h1 ⊢
 cases b2:oC s.aI l
 ·rw[b2]at h2
  (repeat(first|((repeat(revert hN;revert N;apply Pn.out));refine wk @aa.eq_1 ?_;(repeat(refine Pn.mk ?_;intro N hN)))|((try apply Or.inl);refine⟨_,ah.x (h1) (sd @aa.eq_1),?_⟩;refine hN _ _ ?_;clear hN N)|((try apply Or.inl);refine⟨_,ah.x (h2) (sd @aa.eq_1),?_⟩;refine hN _ _ ?_;clear hN N)))
  exact bG (b:=1) (.inl rfl) (sd @Nat.zero_add) (by rw[qV,b1,b2];rfl)
 ·rw[b2]at h2
  (repeat(first|((repeat(revert hN;revert N;apply Pn.out));refine wk @aa.eq_1 ?_;(repeat(refine Pn.mk ?_;intro N hN)))|((try apply Or.inl);refine⟨_,ah.x (h1) (sd @aa.eq_1),?_⟩;refine hN _ _ ?_;clear hN N)|((try apply Or.inl);refine⟨_,ah.x (h2) (sd @aa.eq_1),?_⟩;refine hN _ _ ?_;clear hN N)))
  exact bG (b:=0) (.inl rfl) (sd @Nat.zero_add) (by rw[qV,b1,b2];rfl)
theorem yW {s:cl} {l:List ak}:qV s l=true↔F7 s/\lT s.aI l:=by simp[qV,uJ,lr]
theorem Ls {s:aq} {l:List ak} (hA:lT s l) (p:bH):u7 l p<0↔fK l p<0:=by
 constructor
 ·intro h
  rcases Int.lt_or_le (fK l p) 0 with h0|h0
  ·exact h0
  ·exfalso
   obtain⟨h1,_⟩:=og h0
   have h2:=(dO (hA.2 _ (nP h1))).1
   rw[u7,if_pos h0]at h
   omega
 ·intro h
  rw[u7,if_neg ab];omega
end Go.Proofs.YtihgaadadaekmaaGreat.V

namespace Go.Proofs.YtihgaadadaekmaaGreat.V
open Go.RowKit
def dP (s:ByteArray) (i:Nat):Nat:=((s[i]?).map UInt8.toNat).getD 0
theorem iE {s:ByteArray} {i:Nat} (h:i<s.size):s[i]? =some s[i]:=by
 rw[getElem?_pos s i h]
theorem gK {s:ByteArray} {i:Nat} (h:i<s.size):dP s i=s[i].toNat:=by
 rw[dP,iE h];rfl
theorem Lt {a b:ByteArray} (h:a.data.toList=b.data.toList):a=b:=ByteArray.ext (Array.ext' h)
def Bm (s:aq) (l:List ak) (p:bH) (d:Int):ByteArray:=if u7 l p<0 then⟨#[]⟩else if di (dh s (u7 l p)) d=0 then⟨#[]⟩else(g7 s (di (dh s (u7 l p)) d-1)).aB
theorem sQ {p:Nat->Bool} {n k:Nat} (hk:k<=n) (h:∀j,j<k->p j=true) (hs:k=n∨p k=false):(List.range n).takeWhile p=List.range k:=by
 obtain⟨m,rfl⟩:∃m,n=k+m:=⟨n-k,ab⟩
 rw[List.range_add,List.takeWhile_append_of_pos (fun a ha=>h a (List.mem_range.1 ha))]
 rcases m with _|m
 ·simp
 ·rcases hs with hs|hs
  ·omega
  ·rw[List.range_succ_eq_map]
   simp[hs]
theorem fm {s:ByteArray} {a b i:Nat} (hi:i<min b s.size-a):dP (s.extract a b) i=dP s (a+i):=by
 have h1:i<(s.extract a b).size:=by rw[ByteArray.size_extract];omega
 have h2:a+i<s.size:=ab
 rw[gK h1,gK h2,ByteArray.getElem_extract]
def fv (n:Nat):Bool:=decide (48<=n)&&decide (n<=57)
def k6 (s:ByteArray):Int:=if s.size=1/\fv (dP s 0)=true then(dP s 0:Int)-48 else -1
theorem od {s:ByteArray}:0<=k6 s↔s.size=1/\fv (dP s 0)=true:=by
 unfold k6
 split
 ·rename_i h
  have h1:=h.2
  simp only[fv,Bool.and_eq_true,decide_eq_true_eq]at h1
  exact⟨fun _=>h,fun _=>ab⟩
 ·rename_i h
  exact⟨fun h1=>ab,fun h1=>absurd h1 h⟩
theorem tF {s:ByteArray} (h:s.size=1/\fv (dP s 0)=true):k6 s=(dP s 0:Int)-48:=by rw[k6,if_pos h]
def sR (s:ByteArray):Int:=Lib.indexByte s.data.toList 95
theorem Dq (c:UInt8):∀(l:List UInt8),(Lib.indexByte l c= -1/\∀x∈l,x≠c)∨∃i:Nat,Lib.indexByte l c=(i:Int)/\i<l.length/\l[i]? =some c/\∀j:Nat,j<i->l[j]? ≠some c
 |[]=>.inl ⟨rfl,fun x hx=>by cases hx⟩
 |b::l=>by
  unfold Lib.indexByte
  by_cases hb:b=c
  ·refine .inr ⟨0,by rw[if_pos (by simpa using hb)];rfl,by simp,by simp[hb],fun j hj=>ab⟩
  ·rw[if_neg (by simpa using hb)]
   rcases Dq c l with⟨h1,h2⟩|⟨i,h1,h2,h3,h4⟩
   ·refine .inl ⟨by rw[h1];rfl,fun x hx=>?_⟩
    rcases List.mem_cons.1 hx with rfl|hx
    ·exact hb
    ·exact h2 x hx
   ·refine .inr ⟨i+1,?_,by simpa using h2,by simpa using h3,fun j hj=>?_⟩
    ·rw[h1,if_neg (by simp)];rfl
    ·rcases j with _|j
     ·simpa using hb
     ·simpa using h4 j ab
theorem uQ (s:ByteArray):(sR s= -1/\∀i:Nat,i<s.size->dP s i≠95)∨∃i:Nat,sR s=(i:Int)/\i<s.size/\dP s i=95/\∀j:Nat,j<i->dP s j≠95:=by
 have Io:∀i:Nat,i<s.size->(s.data.toList[i]? =some 95↔dP s i=95):=fun i hi=>by
  rw[gK hi,ByteArray.getElem_eq_getElem_data,List.getElem?_eq_getElem (by simpa using hi)]
  simp only[Array.getElem_toList,Option.some.injEq]
  exact⟨fun h=>by rw[h];rfl,fun h=>UInt8.toNat_inj.1 h⟩
 have hlen:s.data.toList.length=s.size:=by simp
 rcases Dq 95 s.data.toList with⟨h1,h2⟩|⟨i,h1,h2,h3,h4⟩
 ·refine .inl ⟨h1,fun i hi h=>?_⟩
  have h5:=(Io i hi).2 h
  exact h2 _ (List.mem_of_getElem? h5) rfl
 ·exact .inr ⟨i,h1,ab,(Io i ab).1 h3,fun j hj h=>h4 j hj ((Io j ab).2 h)⟩
def mT (s:ByteArray):ByteArray:=if sR s<0 then s else s.extract 0 (sR s).toNat
def lX (s:ByteArray):ByteArray:=if sR s<0 then⟨#[]⟩else s.extract ((sR s).toNat+1) s.size
def oW (s:ByteArray) (c:Nat):Bool:=decide (1<=s.size)&&decide (dP s 0=c)
def vk (s:ByteArray) (c:Nat):ByteArray:=if oW s c=true then s.extract 1 s.size else s
def pT (nm:ByteArray):Int×Int×Bool:=
 if oW nm 97=true then(-1,k6 (nm.extract 1 nm.size),decide (0<=k6 (nm.extract 1 nm.size)))
 else(k6 (mT (vk nm 104)),k6 (lX (vk nm 104)),oW nm 104&&(decide (0<=k6 (mT (vk nm 104)))&&decide (0<=k6 (lX (vk nm 104)))))
def jV (nm:ByteArray):Option (Int×Int):=
 if nm.size=2/\dP nm 0=97/\fv (dP nm 1)=true then some ((dP nm 1:Int)-48,-1)
 else if nm.size=4/\dP nm 0=104/\fv (dP nm 1)=true/\dP nm 2=95/\fv (dP nm 3)=true then some ((dP nm 3:Int)-48,(dP nm 1:Int)-48)else none
theorem wc (nm:ByteArray):jV nm=if (pT nm).2.2=true then some ((pT nm).2.1,(pT nm).1)else none:=by
 unfold pT
 by_cases Jc:oW nm 97=true
 ·rw[if_pos Jc]
  simp only[oW,Bool.and_eq_true,decide_eq_true_eq]at Jc
  obtain⟨hs,h0⟩:=Jc
  have eY:(nm.extract 1 nm.size).size=nm.size-1:=by rw[ByteArray.size_extract];omega
  by_cases h:nm.size=2/\fv (dP nm 1)=true
  ·have hc:dP (nm.extract 1 nm.size) 0=dP nm 1:=fm ab
   have hd:(nm.extract 1 nm.size).size=1/\fv (dP (nm.extract 1 nm.size) 0)=true:=⟨ab,by rw[hc];exact h.2⟩
   rw[jV,if_pos ⟨h.1,h0,h.2⟩]
   have h3:=od.2 hd
   simp only[decide_eq_true h3,if_true]
   rw[tF hd,hc]
  ·have hn:¬0<=k6 (nm.extract 1 nm.size):=fun h3=>by
    have h4:=od.1 h3
    have h5:nm.size=2:=ab
    have hc:dP (nm.extract 1 nm.size) 0=dP nm 1:=fm ab
    rw[hc]at h4
    exact h ⟨h5,h4.2⟩
   simp only[decide_eq_false hn]
   rw[jV,if_neg (fun q=>h ⟨q.1,q.2.2⟩),if_neg (fun q=>ab)]
   simp
 ·rw[if_neg Jc]
  have gR:¬(nm.size=2/\dP nm 0=97/\fv (dP nm 1)=true):=fun q=>Jc (by
   simp only[oW,Bool.and_eq_true,decide_eq_true_eq];exact⟨ab,q.2.1⟩)
  rw[jV,if_neg gR]
  by_cases zy:oW nm 104=true
  ·have hcp:vk nm 104=nm.extract 1 nm.size:=by rw[vk,if_pos zy]
   rw[hcp,zy,Bool.true_and]
   simp only[oW,Bool.and_eq_true,decide_eq_true_eq]at zy
   obtain⟨hs,h0⟩:=zy
   obtain⟨r,hr⟩:∃r,nm.extract 1 nm.size=r:=⟨_,rfl⟩
   have eY:r.size=nm.size-1:=by rw[<-hr,ByteArray.size_extract];omega
   have Io:∀i:Nat,i<nm.size-1->dP r i=dP nm (1+i):=fun i hi=>by rw[<-hr];exact fm ab
   rw[hr]
   by_cases h:nm.size=4/\dP nm 0=104/\fv (dP nm 1)=true/\dP nm 2=95/\fv (dP nm 3)=true
   ·rw[if_pos h]
    obtain⟨q1,q2,q3,q4,q5⟩:=h
    have e0:=Io 0 ab
    have e1:=Io 1 ab
    have e2:=Io 2 ab
    have s6:dP r 0≠95:=by
     rw[e0]
     simp only[fv,Bool.and_eq_true,decide_eq_true_eq]at q3
     have:dP nm (1+0)=dP nm 1:=rfl
     omega
    have hu:sR r=1:=by
     rcases uQ r with⟨h1,h2⟩|⟨i,h1,h2,h3,h4⟩
     ·exact absurd (e1.trans q4) (h2 1 ab)
     ·have Ew:i≠0:=fun e=>s6 (by rw[<-e];exact h3)
      have Is:¬1<i:=fun e=>h4 1 e (e1.trans q4)
      omega
    have hb:mT r=r.extract 0 1:=by rw[mT,hu];rfl
    have ha:lX r=r.extract 2 r.size:=by rw[lX,hu];rfl
    have db:(mT r).size=1/\fv (dP (mT r) 0)=true:=by
     rw[hb]
     refine⟨by rw[ByteArray.size_extract];omega,?_⟩
     rw[fm ab,e0];exact q3
    have da:(lX r).size=1/\fv (dP (lX r) 0)=true:=by
     rw[ha]
     refine⟨by rw[ByteArray.size_extract];omega,?_⟩
     rw[fm ab,e2];exact q5
    simp only[decide_eq_true (od.2 db),decide_eq_true (od.2 da),Bool.and_self,if_true]
    rw[tF db,tF da,hb,ha,fm ab,fm ab,e0,e2]
   ·rw[if_neg h]
    have hn:(decide (0<=k6 (mT r))&&decide (0<=k6 (lX r)))=false:=by
     by_cases hB:0<=k6 (mT r)
     ·by_cases hA:0<=k6 (lX r)
      ·exfalso
       have db:=od.1 hB
       have da:=od.1 hA
       rcases uQ r with⟨h1,h2⟩|⟨i,h1,h2,h3,h4⟩
       ·rw[lX,if_pos ab]at da
        have:(⟨#[]⟩:ByteArray).size=0:=rfl
        omega
       ·have hb:mT r=r.extract 0 i:=by rw[mT,h1,if_neg ab];rfl
        have ha:lX r=r.extract (i+1) r.size:=by rw[lX,h1,if_neg ab];rfl
        rw[hb]at db
        rw[ha]at da
        have z1:(r.extract 0 i).size=i:=by rw[ByteArray.size_extract];omega
        have z2:(r.extract (i+1) r.size).size=r.size-(i+1):=by rw[ByteArray.size_extract];omega
        have hi:i=1:=ab
        subst hi
        have e0:=Io 0 ab
        have e1:=Io 1 ab
        have e2:=Io 2 ab
        rw[fm ab]at db da
        exact h ⟨ab,h0,by have:=db.2;rw[e0]at this;exact this,e1.symm.trans h3,by have:=da.2;rw[e2]at this;exact this⟩
      ·rw[decide_eq_false hA,Bool.and_false]
     ·rw[decide_eq_false hB,Bool.false_and]
    rw[hn];rfl
  ·rw[Bool.not_eq_true]at zy
   rw[zy,Bool.false_and]
   have RU:¬(nm.size=4/\dP nm 0=104/\fv (dP nm 1)=true/\dP nm 2=95/\fv (dP nm 3)=true):=fun q=>by
    have:oW nm 104=true:=by
     simp only[oW,Bool.and_eq_true,decide_eq_true_eq];exact⟨ab,q.2.1⟩
    rw[zy]at this;cases this
   rw[if_neg RU];rfl
end Go.Proofs.YtihgaadadaekmaaGreat.V

namespace Go.Proofs.YtihgaadadaekmaaGreat.V
open Go.RowKit
attribute [local irreducible] eb wpOps gH Call
attribute [local go_sem] aM fI eM fX fV cE upd cm K.av cK AV.cells AV.cell rowOf rowsOf part ld rowAt bS bZ dH ei ij bK dc eA fZ e8 du ep cY cX dU dW bQ bf cQ bP cT cR ek er eo cP bU cZ ej bL aQ cV cw ig bt cH bR bc dF bq dI AV.undef bD bF dX eh dQ dZ cF ez eE cr ev eu cU cW List.getD_cons_zero List.getD_cons_succ List.getD_nil List.all_cons List.all_nil Bool.and_true Bool.true_and Bool.and_self Bool.not_true Bool.not_false Option.map_some Option.map_none Option.bind_some Option.bind_none List.length_cons List.length_nil List.take_succ_cons List.take_zero List.take_nil List.drop_succ_cons List.drop_zero List.drop_nil List.head?_cons List.map_cons List.map_nil List.getElem?_cons_zero List.getElem?_cons_succ List.cons_append List.nil_append List.append_nil List.length_map List.set_cons_zero List.set_cons_succ Nat.reduceMul eq_self Int.toNat_natCast Int.natCast_nonneg and_self true_and and_true decide_true decide_false Bool.false_eq_true Nat.zero_add Nat.add_zero List.contains_cons List.contains_nil Bool.or_false Bool.false_or beq_self_eq_true Nat.reduceBEq ne_eq not_true_eq_false not_false_eq_true Id.mk.injEq false_and and_false Nat.reduceLT Int.reduceLE Int.reduceLT Int.reduceToNat Int.reduceNeg Int.reduceAdd Nat.le_refl List.length_append beq_true beq_false Bool.not_eq_eq_eq_not or_false false_or dD ad aj aH bC b4 aX bo aY bl cL bE
theorem pj (n:Int):ah Tryz.prog 126 [.int .u8 n] (.bool (jn n)):=by
 refine ah.body dY rfl fun hl n0=>?_
 clear hl
 by_cases h1:48<=n
 ·(try((repeat(revert hN;revert N;apply Pn.out));refine wk @h1 ?_;(repeat(refine Pn.mk ?_;intro N hN))))
  exact aO (b:=decide (n<=57)) (.inl rfl) (sd @Nat.zero_add) (by simp[jn,h1])
 ·(try((repeat(revert hN;revert N;apply Pn.out));refine wk @h1 ?_;(repeat(refine Pn.mk ?_;intro N hN))))
  exact aO (b:=false) (.inl rfl) (sd @Nat.zero_add) (by simp[jn,h1])
end Go.Proofs.YtihgaadadaekmaaGreat.V

namespace Go.Proofs.YtihgaadadaekmaaGreat.V
open Go.RowKit
variable {g g':Rows} {v:AV} {L:List Int} {ids:List Id}
theorem fz5I (x:Int) (g:Rows):cq g 5 (ay x)=some (ay x):=by simp[ay,ad,aj,aH]
theorem fzS4I (x:Int) (g:Rows):dB g 4 (ay x)=some (ay x):=by simp[ay,aC,aL,cC]
def OutI (g:Rows) (v:AV) (L:List Int) (ids:List Id):Prop:=N5 ay 1 g v L ids
def Nu (z m:Nat) (L:List Int) (v:AV) (g:Rows) (n:Nat):Prop:=(L=[]/\v=.br)∨∃u:Id,v=.own u 0 L.length/\g u=some ⟨true,1,L.map ay⟩/\m<=u.bY/\u.bY<n/\0<L.length/\u.site=z
end Go.Proofs.YtihgaadadaekmaaGreat.V

namespace Go.Proofs.YtihgaadadaekmaaGreat.V
open Go.RowKit
attribute [local irreducible] eb wpOps gH Call
attribute [local go_sem] aM fI eM fX fV cE upd cm K.av cK AV.cells AV.cell rowOf rowsOf part ld rowAt bS bZ dH ei ij bK dc eA fZ e8 du ep cY cX dU dW bQ bf cQ bP cT cR ek er eo cP bU cZ ej bL aQ cV cw ig bt cH bR bc dF bq dI AV.undef bD bF dX eh dQ dZ cF ez eE cr ev eu cU cW List.getD_cons_zero List.getD_cons_succ List.getD_nil List.all_cons List.all_nil Bool.and_true Bool.true_and Bool.and_self Bool.not_true Bool.not_false Option.map_some Option.map_none Option.bind_some Option.bind_none List.length_cons List.length_nil List.take_succ_cons List.take_zero List.take_nil List.drop_succ_cons List.drop_zero List.drop_nil List.head?_cons List.map_cons List.map_nil List.getElem?_cons_zero List.getElem?_cons_succ List.cons_append List.nil_append List.append_nil List.length_map List.set_cons_zero List.set_cons_succ Nat.reduceMul eq_self Int.toNat_natCast Int.natCast_nonneg and_self true_and and_true decide_true decide_false Bool.false_eq_true Nat.zero_add Nat.add_zero List.contains_cons List.contains_nil Bool.or_false Bool.false_or beq_self_eq_true Nat.reduceBEq ne_eq not_true_eq_false not_false_eq_true Id.mk.injEq false_and and_false Nat.reduceLT Int.reduceLE Int.reduceLT Int.reduceToNat Int.reduceNeg Int.reduceAdd Nat.le_refl List.length_append beq_true beq_false Bool.not_eq_eq_eq_not or_false false_or dD ad aj aH bC b4 aX bo aY bl cL bE
def DZ (s:aq) (g:Int):Option (Int×Int):=if g=0 then none else jV (g7 s (g-1)).aB
def AW:Option (Int×Int)->AV
 |some p=>.gE [.int .i64 p.1,.int .i64 p.2,.bool true]
 |none=>.gE [.int .i64 0,.int .i64 0,.bool false]
theorem rj (n:Nat):jn (n:Int)=fv n:=by
 unfold jn fv
 congr 1<;>exact decide_eq_decide.2 ab
theorem H5 {n:Nat} (h:fv n=true):IntKind.u8.wrap ((n:Int)-48)=(n:Int)-48:=by
 simp only[fv,Bool.and_eq_true,decide_eq_true_eq]at h
 unfold IntKind.wrap
 simp[IntKind.signed,IntKind.bits]
 omega
theorem BO {n:Nat} (h:fv n=true):IntKind.i64.wrap ((n:Int)-48)=(n:Int)-48:=by
 simp only[fv,Bool.and_eq_true,decide_eq_true_eq]at h
 exact bd ab
theorem EV (s:aq) (g:Int) (h0:0<=g) (h1:g<=s.au.length):ah Tryz.prog 93 [.de (aa s),.int .i64 g] (AW (DZ s g)):=by
 refine ah.body dY rfl fun hl n0=>?_
 have hn:s.au.length<=9223372036854775807:=by
  have h1:=(hl (.de (aa s)) (by simp)).wL (a:=.sl (s.au.map bh)) (by simp[aa])
  simpa using h1.len
 clear hl
 have no:∀{o:Option (Int×Int)} {g':Rows},o=none->fu g' 6 (dr [.int .i64 0,.int .i64 0,.bool false])=some (AW o):=fun h=>by rw[h];simp[AW,dr,cJ,aC,aL,cC,cz]
 by_cases hg:g=0
 ·have e:decide (g=0)=true:=decide_eq_true hg
  (try((repeat(revert hN;revert N;apply Pn.out));refine wk (tw @aa.eq_1 @e) ?_;(repeat(refine Pn.mk ?_;intro N hN))))
  exact eQ (.inl rfl) (vs:=[.int .i64 0,.int .i64 0,.bool false]) (sd @Nat.zero_add) (no (by rw[DZ,if_pos hg]))
 have e:decide (g=0)=false:=decide_eq_false hg
 have hw:IntKind.i64.wrap (g-1)=g-1:=bd ab
 have jO:0<=g-1:=ab
 have dp:(s.au.map bh)[(g-1).toNat]? =some (bh (g7 s (g-1))):=getD_map bh ab
 have Rt:DZ s g=jV (g7 s (g-1)).aB:=by rw[DZ,if_neg hg]
 rw[Rt]
 obtain⟨nm0,EA⟩:∃u,g7 s (g-1)=u:=⟨_,rfl⟩
 rw[EA]at dp ⊢
 obtain⟨nm,stg⟩:=nm0
 rw[bh]at dp
 (try dsimp only at dp ⊢)
 by_cases h2:nm.size=2
 ·have es:decide ((nm.size:Int)=2)=true:=decide_eq_true ab
  have e4:decide ((nm.size:Int)=4)=false:=decide_eq_false ab
  have b0:=iE (s:=nm) (i:=0) ab
  have b1:=iE (s:=nm) (i:=1) ab
  have c0:=gK (s:=nm) (i:=0) ab
  have c1:=gK (s:=nm) (i:=1) ab
  generalize nm[0]=x0 at b0 c0
  generalize nm[1]=x1 at b1 c1
  by_cases Jc:x0.toNat=97
  ·have ec:decide ((x0.toNat:Int)=97)=true:=decide_eq_true ab
   have hd:=pj (x1.toNat:Int)
   rw[rj]at hd
   cases hdg:fv x1.toNat
   ·rw[hdg]at hd
    (repeat(first|((repeat(revert hN;revert N;apply Pn.out));refine wk (tw @aa.eq_1 (tw @e (tw @hw (tw @jO (tw @dp (tw @es (tw @e4 (tw @b0 (tw @b1 @ec))))))))) ?_;(repeat(refine Pn.mk ?_;intro N hN)))|((try apply Or.inl);refine⟨_,ah.x (hd) (sd (tw @aa.eq_1 (tw @e (tw @hw (tw @jO (tw @dp (tw @es (tw @e4 (tw @b0 (tw @b1 @ec)))))))))),?_⟩;refine hN _ _ ?_;clear hN N)))
    exact eQ (.inl rfl) (vs:=[.int .i64 0,.int .i64 0,.bool false]) (sd @Nat.zero_add) (no (by rw[jV,if_neg (fun q=>by rw[c1,hdg]at q;cases q.2.2),if_neg (fun q=>ab)]))
   ·rw[hdg]at hd
    have w8:=H5 hdg
    have Ld:=BO hdg
    (repeat(first|((repeat(revert hN;revert N;apply Pn.out));refine wk (tw @aa.eq_1 (tw @e (tw @hw (tw @jO (tw @dp (tw @es (tw @b0 (tw @b1 (tw @ec (tw @w8 @Ld)))))))))) ?_;(repeat(refine Pn.mk ?_;intro N hN)))|((try apply Or.inl);refine⟨_,ah.x (hd) (sd (tw @aa.eq_1 (tw @e (tw @hw (tw @jO (tw @dp (tw @es (tw @b0 (tw @b1 (tw @ec (tw @w8 @Ld))))))))))),?_⟩;refine hN _ _ ?_;clear hN N)))
    exact eQ (.inl rfl) (vs:=[.int .i64 ((x1.toNat:Int)-48),.int .i64 (-1),.bool true]) (sd @Nat.zero_add) (by
     rw[jV,if_pos ⟨h2,ab,by rw[c1];exact hdg⟩,c1]
     simp[AW,dr,cJ,aC,aL,cC,cz])
  ·have ec:decide ((x0.toNat:Int)=97)=false:=decide_eq_false ab
   (try((repeat(revert hN;revert N;apply Pn.out));refine wk (tw @aa.eq_1 (tw @e (tw @hw (tw @jO (tw @dp (tw @es (tw @e4 (tw @b0 @ec)))))))) ?_;(repeat(refine Pn.mk ?_;intro N hN))))
   exact eQ (.inl rfl) (vs:=[.int .i64 0,.int .i64 0,.bool false]) (sd @Nat.zero_add) (no (by rw[jV,if_neg (fun q=>ab),if_neg (fun q=>ab)]))
 have es:decide ((nm.size:Int)=2)=false:=decide_eq_false ab
 have n2:¬(nm.size=2/\dP nm 0=97/\fv (dP nm 1)=true):=fun q=>h2 q.1
 rw[jV,if_neg n2]
 by_cases h4:nm.size=4
 ·have e4:decide ((nm.size:Int)=4)=true:=decide_eq_true ab
  have b0:=iE (s:=nm) (i:=0) ab
  have b1:=iE (s:=nm) (i:=1) ab
  have b2:=iE (s:=nm) (i:=2) ab
  have b3:=iE (s:=nm) (i:=3) ab
  have c0:=gK (s:=nm) (i:=0) ab
  have c1:=gK (s:=nm) (i:=1) ab
  have c2:=gK (s:=nm) (i:=2) ab
  have c3:=gK (s:=nm) (i:=3) ab
  generalize nm[0]=x0 at b0 c0
  generalize nm[1]=x1 at b1 c1
  generalize nm[2]=x2 at b2 c2
  generalize nm[3]=x3 at b3 c3
  by_cases zy:x0.toNat=104
  ·have ec:decide ((x0.toNat:Int)=104)=true:=decide_eq_true ab
   have hd:=pj (x1.toNat:Int)
   rw[rj]at hd
   cases hdg:fv x1.toNat
   ·rw[hdg]at hd
    (repeat(first|((repeat(revert hN;revert N;apply Pn.out));refine wk (tw @aa.eq_1 (tw @e (tw @hw (tw @jO (tw @dp (tw @es (tw @e4 (tw @b0 (tw @b1 @ec))))))))) ?_;(repeat(refine Pn.mk ?_;intro N hN)))|((try apply Or.inl);refine⟨_,ah.x (hd) (sd (tw @aa.eq_1 (tw @e (tw @hw (tw @jO (tw @dp (tw @es (tw @e4 (tw @b0 (tw @b1 @ec)))))))))),?_⟩;refine hN _ _ ?_;clear hN N)))
    exact eQ (.inl rfl) (vs:=[.int .i64 0,.int .i64 0,.bool false]) (sd @Nat.zero_add) (no (by rw[if_neg (fun q=>by rw[c1,hdg]at q;cases q.2.2.1)]))
   rw[hdg]at hd
   by_cases sJ:x2.toNat=95
   ·have I2:decide ((x2.toNat:Int)=95)=true:=decide_eq_true ab
    have Ji:=pj (x3.toNat:Int)
    rw[rj]at Ji
    cases hdg3:fv x3.toNat
    ·rw[hdg3]at Ji
     (repeat(first|((repeat(revert hN;revert N;apply Pn.out));refine wk (tw @aa.eq_1 (tw @e (tw @hw (tw @jO (tw @dp (tw @es (tw @e4 (tw @b0 (tw @b1 (tw @b2 (tw @b3 (tw @ec @I2)))))))))))) ?_;(repeat(refine Pn.mk ?_;intro N hN)))|((try apply Or.inl);refine⟨_,ah.x (hd) (sd (tw @aa.eq_1 (tw @e (tw @hw (tw @jO (tw @dp (tw @es (tw @e4 (tw @b0 (tw @b1 (tw @b2 (tw @b3 (tw @ec @I2))))))))))))),?_⟩;refine hN _ _ ?_;clear hN N)|((try apply Or.inl);refine⟨_,ah.x (Ji) (sd (tw @aa.eq_1 (tw @e (tw @hw (tw @jO (tw @dp (tw @es (tw @e4 (tw @b0 (tw @b1 (tw @b2 (tw @b3 (tw @ec @I2))))))))))))),?_⟩;refine hN _ _ ?_;clear hN N)))
     exact eQ (.inl rfl) (vs:=[.int .i64 0,.int .i64 0,.bool false]) (sd @Nat.zero_add) (no (by rw[if_neg (fun q=>by rw[c3,hdg3]at q;cases q.2.2.2.2)]))
    ·rw[hdg3]at Ji
     have w8:=H5 hdg
     have Ld:=BO hdg
     have v8:=H5 hdg3
     have Sn:=BO hdg3
     (repeat(first|((repeat(revert hN;revert N;apply Pn.out));refine wk (tw @aa.eq_1 (tw @e (tw @hw (tw @jO (tw @dp (tw @es (tw @e4 (tw @b0 (tw @b1 (tw @b2 (tw @b3 (tw @ec (tw @I2 (tw @w8 (tw @Ld (tw @v8 @Sn)))))))))))))))) ?_;(repeat(refine Pn.mk ?_;intro N hN)))|((try apply Or.inl);refine⟨_,ah.x (hd) (sd (tw @aa.eq_1 (tw @e (tw @hw (tw @jO (tw @dp (tw @es (tw @e4 (tw @b0 (tw @b1 (tw @b2 (tw @b3 (tw @ec (tw @I2 (tw @w8 (tw @Ld (tw @v8 @Sn))))))))))))))))),?_⟩;refine hN _ _ ?_;clear hN N)|((try apply Or.inl);refine⟨_,ah.x (Ji) (sd (tw @aa.eq_1 (tw @e (tw @hw (tw @jO (tw @dp (tw @es (tw @e4 (tw @b0 (tw @b1 (tw @b2 (tw @b3 (tw @ec (tw @I2 (tw @w8 (tw @Ld (tw @v8 @Sn))))))))))))))))),?_⟩;refine hN _ _ ?_;clear hN N)))
     exact eQ (.inl rfl) (vs:=[.int .i64 ((x3.toNat:Int)-48),.int .i64 ((x1.toNat:Int)-48),.bool true]) (sd @Nat.zero_add) (by
      rw[if_pos ⟨h4,ab,by rw[c1];exact hdg,ab,by rw[c3];exact hdg3⟩,c1,c3]
      simp[AW,dr,cJ,aC,aL,cC,cz])
   ·have I2:decide ((x2.toNat:Int)=95)=false:=decide_eq_false ab
    (repeat(first|((repeat(revert hN;revert N;apply Pn.out));refine wk (tw @aa.eq_1 (tw @e (tw @hw (tw @jO (tw @dp (tw @es (tw @e4 (tw @b0 (tw @b1 (tw @b2 (tw @ec @I2))))))))))) ?_;(repeat(refine Pn.mk ?_;intro N hN)))|((try apply Or.inl);refine⟨_,ah.x (hd) (sd (tw @aa.eq_1 (tw @e (tw @hw (tw @jO (tw @dp (tw @es (tw @e4 (tw @b0 (tw @b1 (tw @b2 (tw @ec @I2)))))))))))),?_⟩;refine hN _ _ ?_;clear hN N)))
    exact eQ (.inl rfl) (vs:=[.int .i64 0,.int .i64 0,.bool false]) (sd @Nat.zero_add) (no (by rw[if_neg (fun q=>ab)]))
  ·have ec:decide ((x0.toNat:Int)=104)=false:=decide_eq_false ab
   (try((repeat(revert hN;revert N;apply Pn.out));refine wk (tw @aa.eq_1 (tw @e (tw @hw (tw @jO (tw @dp (tw @es (tw @e4 (tw @b0 @ec)))))))) ?_;(repeat(refine Pn.mk ?_;intro N hN))))
   exact eQ (.inl rfl) (vs:=[.int .i64 0,.int .i64 0,.bool false]) (sd @Nat.zero_add) (no (by rw[if_neg (fun q=>ab)]))
 ·have e4:decide ((nm.size:Int)=4)=false:=decide_eq_false ab
  (try((repeat(revert hN;revert N;apply Pn.out));refine wk (tw @aa.eq_1 (tw @e (tw @hw (tw @jO (tw @dp (tw @es @e4)))))) ?_;(repeat(refine Pn.mk ?_;intro N hN))))
  exact eQ (.inl rfl) (vs:=[.int .i64 0,.int .i64 0,.bool false]) (sd @Nat.zero_add) (no (by rw[if_neg (fun q=>h4 q.1)]))
end Go.Proofs.YtihgaadadaekmaaGreat.V

namespace Go.Proofs.YtihgaadadaekmaaGreat.V
open Go.RowKit
theorem I9 {s:aq} {l:List ak} (hA:lT s l) {p:bH} (d:Int) (h:Cg p=false):Bm s l p d=⟨#[]⟩:=by
 rw[Bm,if_pos]
 rw[Ls hA]
 refine Int.not_le.1 fun h0=>?_
 obtain⟨h1,h2⟩:=og h0
 have h3:=(hA.1.ok _ h1).1
 rw[h2,h]at h3
 cases h3
theorem PC.x {X:fj} {f:Nat} {args:List AV} {σ:aw} {K:AV->Prop} (h:PC X f args σ K):gH X f args σ K:=Or.inl h
noncomputable def oN (s:aq) (l:List ak) (y x:Nat):Option (Int×Int):=jV (Bm s l ⟨(x:Int),(y:Int)⟩ 0)
theorem o6:jV ⟨#[]⟩=none:=by
 have:(⟨#[]⟩:ByteArray).size=0:=rfl
 rw[jV,if_neg (fun q=>ab),if_neg (fun q=>ab)]
noncomputable def m8 (s:aq) (l:List ak) (y:Nat):Nat->Option (List Int×Option (Int×Int))
 |0=>some ([],none)
 |x+1=>(m8 s l y x).bind fun p=>(oN s l y x).bind fun q=>if 0<=q.2 then(if p.2.isSome=true then none else some (p.1++[q.1],some ((x:Int),q.2)))else some (p.1++[q.1],p.2)
section
variable {s:aq} {l:List ak} {y x w:Nat} {T:List Int} {h:Option (Int×Int)} {sy st:Int}
theorem ko (h1:oN s l y x=none):m8 s l y (x+1)=none:=by
 rw[m8,h1];cases m8 s l y x<;>rfl
theorem xX {hd:Int×Int} (h1:m8 s l y x=some (T,some hd)) (h2:oN s l y x=some (sy,st)) (h3:0<=st):m8 s l y (x+1)=none:=by
 rw[m8,h1,h2];simp[h3]
theorem ue (h1:m8 s l y x=some (T,none)) (h2:oN s l y x=some (sy,st)) (h3:0<=st):m8 s l y (x+1)=some (T++[sy],some ((x:Int),st)):=by
 rw[m8,h1,h2];simp[h3]
theorem uf (h1:m8 s l y x=some (T,h)) (h2:oN s l y x=some (sy,st)) (h3:¬0<=st):m8 s l y (x+1)=some (T++[sy],h):=by
 rw[m8,h1,h2];simp[h3]
theorem B5 (h1:m8 s l y x=none):∀n,m8 s l y (x+n)=none
 |0=>h1
 |n+1=>by rw[<-Nat.add_assoc,m8,B5 h1 n];rfl
theorem oj (h1:m8 s l y x=none) (hx:x<=w):m8 s l y w=none:=by
 obtain⟨n,rfl⟩:∃n,w=x+n:=⟨w-x,ab⟩
 exact B5 h1 n
theorem oi:∀{x:Nat} {T:List Int} {h:Option (Int×Int)},m8 s l y x=some (T,h)->T.length=x/\∀hd st,h=some (hd,st)->0<=hd/\0<=st
 |0,T,h,h1=>by
  rw[m8]at h1
  injection h1 with h1
  injection h1 with h1 h2
  subst h1;subst h2
  exact⟨rfl,fun hd st e=>by cases e⟩
 |x+1,T,h,h1=>by
  rcases h2:m8 s l y x with _|⟨T0,h0⟩
  ·rw[B5 h2 1]at h1;cases h1
  obtain⟨e1,e2⟩:=oi h2
  rcases h3:oN s l y x with _|⟨sy,st⟩
  ·rw[ko h3]at h1;cases h1
  by_cases h4:0<=st
  ·rcases h0 with _|hd
   ·rw[ue h2 h3 h4]at h1
    injection h1 with h1
    injection h1 with h1 h5
    subst h1;subst h5
    refine⟨by rw[List.length_append,e1];rfl,fun hd st2 e=>?_⟩
    injection e with e
    injection e with e e'
    exact⟨ab,ab⟩
   ·rw[xX h2 h3 h4]at h1;cases h1
  ·rw[uf h2 h3 h4]at h1
   injection h1 with h1
   injection h1 with h1 h5
   subst h1;subst h5
   exact⟨by rw[List.length_append,e1];rfl,e2⟩
end
noncomputable def lF (s:aq) (l:List ak) (w y:Nat):Option fY:=
 (m8 s l y w).bind fun p=>p.2.map fun q=>⟨p.1,q.1,q.2⟩
noncomputable def BZ (s:aq) (l:List ak) (w y:Nat):Bool:=(lF s l w y).isSome
noncomputable def Pp (s:aq) (l:List ak) (w y:Nat):fY:=(lF s l w y).getD ⟨[],0,0⟩
section
variable {s:aq} {l:List ak} {y x w k:Nat} {T:List Int} {h:Option (Int×Int)}
theorem lG (h1:m8 s l y w=none):lF s l w y=none:=by rw[lF,h1];rfl
theorem rE (h1:m8 s l y w=some (T,none)):lF s l w y=none:=by rw[lF,h1];rfl
theorem lH {hd st:Int} (h1:m8 s l y w=some (T,some (hd,st))):lF s l w y=some ⟨T,hd,st⟩:=by rw[lF,h1];rfl
theorem B3 (h1:lF s l w y=none):BZ s l w y=false:=by rw[BZ,h1];rfl
theorem xW {c:fY} (h1:lF s l w y=some c):BZ s l w y=true:=by rw[BZ,h1];rfl
theorem Hi {c:fY} (h1:lF s l w y=some c):Pp s l w y=c:=by rw[Pp,h1];rfl
noncomputable def jl (s:aq) (l:List ak) (w k:Nat):List fY:=(List.range k).map (Pp s l w)
theorem lI:(jl s l w k).length=k:=by simp[jl]
theorem pk {c:fY} (h:lF s l w k=some c):jl s l w (k+1)=jl s l w k++[c]:=by simp[jl,List.range_succ,Hi h]
noncomputable def iU (s:aq) (l:List ak) (w:Nat):List fY:=((List.range 61).takeWhile (BZ s l w)).map (Pp s l w)
theorem qj (hk:k<=61) (h:∀j,j<k->BZ s l w j=true) (hs:k=61∨BZ s l w k=false):iU s l w=jl s l w k:=by
 rw[iU,sQ hk h hs,jl]
theorem wQ (s:aq) (l:List ak) (w:Nat):(iU s l w).length<=61:=by
 rw[iU,List.length_map]
 have h1:((List.range 61).takeWhile (BZ s l w)++(List.range 61).dropWhile (BZ s l w)).length=61:=by rw[List.takeWhile_append_dropWhile,List.length_range]
 rw[List.length_append]at h1
 omega
theorem zW (hA:lT s l) (hw:1<=w) (hy:60<y):lF s l w y=none:=by
 refine lG (oj (x:=1) (ko (x:=0) ?_) hw)
 have h1:Cg (⟨((0:Nat):Int),(y:Int)⟩:bH)=false:=by
  simp[Cg,g9];omega
 rw[oN,I9 hA 0 h1,o6]
theorem E0 {c:fY} (h1:lF s l w y=some c):c.t.length=w:=by
 rcases h2:m8 s l y w with _|⟨T,h⟩
 ·rw[lG h2]at h1;cases h1
 ·rcases h with _|⟨hd,st⟩
  ·rw[rE h2]at h1;cases h1
  ·rw[lH h2]at h1
   injection h1 with h1
   subst h1
   exact(oi h2).1
theorem B4 {c:fY} (h:c∈iU s l w):c.t.length<=w:=by
 obtain⟨y,_,rfl⟩:=List.mem_map.1 h
 rcases h2:lF s l w y with _|c
 ·rw[Pp,h2];exact Nat.zero_le _
 ·rw[Hi h2,E0 h2];exact Nat.le_refl _
end
noncomputable def xY (s:cl) (a:dm) (w:Int):List fY×Int:=
 if qV s a.ae=true then(if g9 w 1 12=true then(if (iU s.aI a.ae w.toNat).length=0 then([],9)else(iU s.aI a.ae w.toNat,0))else([],2))else([],1)
end Go.Proofs.YtihgaadadaekmaaGreat.V

namespace Go.Proofs.YtihgaadadaekmaaGreat.V
open Go.RowKit
attribute [local irreducible] eb wpOps gH Call
attribute [local go_sem] aM fI eM fX fV cE upd cm K.av cK AV.cells AV.cell rowOf rowsOf part ld rowAt bS bZ dH ei ij bK dc eA fZ e8 du ep cY cX dU dW bQ bf cQ bP cT cR ek er eo cP bU cZ ej bL aQ cV cw ig bt cH bR bc dF bq dI AV.undef bD bF dX eh dQ dZ cF ez eE cr ev eu cU cW List.getD_cons_zero List.getD_cons_succ List.getD_nil List.all_cons List.all_nil Bool.and_true Bool.true_and Bool.and_self Bool.not_true Bool.not_false Option.map_some Option.map_none Option.bind_some Option.bind_none List.length_cons List.length_nil List.take_succ_cons List.take_zero List.take_nil List.drop_succ_cons List.drop_zero List.drop_nil List.head?_cons List.map_cons List.map_nil List.getElem?_cons_zero List.getElem?_cons_succ List.cons_append List.nil_append List.append_nil List.length_map List.set_cons_zero List.set_cons_succ Nat.reduceMul eq_self Int.toNat_natCast Int.natCast_nonneg and_self true_and and_true decide_true decide_false Bool.false_eq_true Nat.zero_add Nat.add_zero List.contains_cons List.contains_nil Bool.or_false Bool.false_or beq_self_eq_true Nat.reduceBEq ne_eq not_true_eq_false not_false_eq_true Id.mk.injEq false_and and_false Nat.reduceLT Int.reduceLE Int.reduceLT Int.reduceToNat Int.reduceNeg Int.reduceAdd Nat.le_refl List.length_append beq_true beq_false Bool.not_eq_eq_eq_not or_false false_or dD ad aj aH bC b4 aX bo aY bl cL bE
theorem D4 {s:aq} {l:List ak} {p:bH} {t:Int} (ht:u7 l p=t) (h0:0<=t) (d:Int):DZ s (di (dh s t) d)=jV (Bm s l p d):=by
 rw[Bm,ht,if_neg ab,DZ]
 split
 ·exact o6.symm
 ·rfl
def ud:Option (List Int×Option (Int×Int))->AV
 |none=>.gE [.agg [.br,.int .i64 0,.int .i64 0],.bool false]
 |some (T,none)=>.gE [.agg [.sl (T.map ay),.int .i64 0,.int .i64 (-1)],.bool false]
 |some (T,some (h,st))=>.gE [.agg [.sl (T.map ay),.int .i64 h,.int .i64 st],.bool true]
def nH (h:Option (Int×Int)):Int:=(h.map (·.1)).getD 0
def kE (h:Option (Int×Int)):Int:=(h.map (·.2)).getD (-1)
theorem I7 {g:Rows} {u:Id} {T:List Int} (n:Nat) (h:g u=some ⟨true,1,T.map ay⟩):fu g (n+2) (.own u 0 T.length)=some (.sl (T.map ay)):=
 eW (e:=ay) h rfl fun y=>by simp[ay,aC,aL,cC]
theorem Hc (s:cl) (l:List ak) (hF:fQ s.aI) (hA:lT s.aI l) (y w:Nat) (hy:y<=1000) (hw:1<=w) (qS:w<=1000):ah Tryz.prog 56 [.de (az s),.de [.sl (l.map ai)],.int .i64 (y:Int),.int .i64 (w:Int)] (ud (m8 s.aI l y w)):=by
 intro n0
 obtain⟨R,hR⟩:∃R,m8 s.aI l y w=R:=⟨_,rfl⟩
 rw[hR]
 refine xe Og rfl fun hl=>?_
 try simp only[q]
 clear hl
 rw[az]
 (try((repeat(revert hN;revert N;apply Pn.out));refine wk @Nat.zero_add ?_;(repeat(refine Pn.mk ?_;intro N hN))))
 refine aT (fun n env st=>∃x:Nat,n=(w)-x/\x<=(w)/\env 11=.int .i64 (x:Int)/\(∃(T:List Int) (h:Option (Int×Int)) (tv:AV),m8 s.aI l y x=some (T,h)/\st.get ⟨56001001,n0+1⟩=some ⟨true,3,[[tv,.int .i64 (nH h),.int .i64 (kE h)]]⟩/\st.get ⟨56000000,n0⟩=some ⟨true,3,[[.br,.int .i64 0,.int .i64 0]]⟩/\Nu 56014004 (n0+1) T tv st.get st.next/\n0+1<st.next)) (w) ⟨0,ab,ab,sl @Nat.zero_add,by(try dsimp only);exact⟨[],none,.br,rfl,sl @Nat.zero_add,sd @Nat.zero_add,.inl ⟨rfl,rfl⟩,ab⟩⟩ ?_
 rintro n_a env_a st_a ⟨x,rfl,ale,a11,k5⟩ dE
 have a0:=dE 0 (by kernel_rfl);have a1:=dE 1 (by kernel_rfl);have a2:=dE 2 (by kernel_rfl);have a3:=dE 3 (by kernel_rfl);have a8:=dE 8 (by kernel_rfl);have gP:=dE 10 (by kernel_rfl)
 simp only[go_sem, ↓reduceIte,Nat.reduceEqDiff,Nat.reduceAdd,Nat.reduceSub,Nat.reduceLeDiff,reduceCtorEq]at a0 a1 a2 a3 a8 gP
 clear dE
 obtain⟨T,h,tv,aU,ag,ar,aG,an⟩:=k5
 have hlen:=(oi aU).1
 have jq:=(oi aU).2
 by_cases hx:(x:Int)<(w:Int)
 ·have bW:∀{e:Env} {gg:Rows} {nx:Nat},(e 11=.int .i64 (IntKind.i64.wrap ((x:Int)+1)))->(∃(T:List Int) (h:Option (Int×Int)) (tv:AV),m8 s.aI l y (x+1)=some (T,h)/\gg ⟨56001001,n0+1⟩=some ⟨true,3,[[tv,.int .i64 (nH h),.int .i64 (kE h)]]⟩/\gg ⟨56000000,n0⟩=some ⟨true,3,[[.br,.int .i64 0,.int .i64 0]]⟩/\Nu 56014004 (n0+1) T tv gg nx/\n0+1<nx)->∃m0,m0<(w)-x/\∃x:Nat,m0=(w)-x/\x<=(w)/\e 11=.int .i64 (x:Int)/\(∃(T:List Int) (h:Option (Int×Int)) (tv:AV),m8 s.aI l y x=some (T,h)/\gg ⟨56001001,n0+1⟩=some ⟨true,3,[[tv,.int .i64 (nH h),.int .i64 (kE h)]]⟩/\gg ⟨56000000,n0⟩=some ⟨true,3,[[.br,.int .i64 0,.int .i64 0]]⟩/\Nu 56014004 (n0+1) T tv gg nx/\n0+1<nx):=fun x1 x2=>⟨_,ab,x+1,rfl,ab,(by rw[x1,aA ab]),x2⟩
  have IF:x<w:=ab
  have uX:=JH l ⟨(x:Int),(y:Int)⟩ hA.1.QH (by have:=hA.1.FN;omega)
  rw[ao]at uX
  have OU:oN s.aI l y x=jV (Bm s.aI l ⟨(x:Int),(y:Int)⟩ 0):=rfl
  obtain⟨t,Qz⟩:∃t,u7 l ⟨(x:Int),(y:Int)⟩=t:=⟨_,rfl⟩
  by_cases h0:t<0
  ·have gR:R=none:=by
    rw[<-hR]
    exact oj (ko (by rw[OU,Bm,Qz,if_pos h0,o6])) IF
   rw[Qz]at uX
   subst gR
   (repeat(first|((repeat(revert hN;revert N;apply Pn.out));refine wk (tw @a11 (tw @a0 (tw @a1 (tw @a2 (tw @a3 (tw @a8 (tw @gP (tw @hx (tw @h0 @ar))))))))) ?_;(repeat(refine Pn.mk ?_;intro N hN)))|((try apply Or.inl);refine⟨_,ah.x (uX) (sd (tw @a11 (tw @a0 (tw @a1 (tw @a2 (tw @a3 (tw @a8 (tw @gP (tw @hx (tw @h0 @ar)))))))))),?_⟩;refine hN _ _ ?_;clear hN N)))
   exact eQ (.inl rfl) (vs:=[.agg [.br,.int .i64 0,.int .i64 0],.bool false]) (sd @a8) (by simp[ud,dr,cJ,j3,aC,aL,cC,cz,il])
  have FR:=yX hA (p:=⟨(x:Int),(y:Int)⟩) ab
  have uZ:=D4 (s:=s.aI) Qz ab 0
  rw[<-OU]at uZ
  rw[Qz]at uX FR
  obtain⟨yL,yM,Sm⟩:=kH FR
  have s1:((dh s.aI t).bm.map ay)[0]? =some [.int .i64 (di (dh s.aI t) 0)]:=kD (d:=0) (hF.nS _ Sm) (nI ab)
  have gl:=hF.r8 _ Sm _ (qz (d:=0) (hF.nS _ Sm) (nI ab))
  have hv:=(EV s.aI (di (dh s.aI t) 0) gl.1 gl.2).cut mixed (.ptr _ [.sl (s.ck.ae.map ai),.int .i64 s.aJ] (.same _ .nil))
  rw[aa]at hv
  simp only[List.cons_append,List.nil_append]at hv
  rw[uZ]at hv
  rcases hm:oN s.aI l y x with _|⟨sy,stt⟩
  ·have gR:R=none:=by
    rw[<-hR]
    exact oj (ko hm) IF
   rw[hm,AW]at hv
   subst gR
   (repeat(first|((repeat(revert hN;revert N;apply Pn.out));refine wk (tw @a11 (tw @a0 (tw @a1 (tw @a2 (tw @a3 (tw @a8 (tw @gP (tw @hx (tw @h0 (tw @ar (tw @yL (tw @yM (tw @aW.eq_1 @s1))))))))))))) ?_;(repeat(refine Pn.mk ?_;intro N hN)))|((try apply Or.inl);refine⟨_,ah.x (uX) (sd (tw @a11 (tw @a0 (tw @a1 (tw @a2 (tw @a3 (tw @a8 (tw @gP (tw @hx (tw @h0 (tw @ar (tw @yL (tw @yM (tw @aW.eq_1 @s1)))))))))))))),?_⟩;refine hN _ _ ?_;clear hN N)|((try apply Or.inl);refine⟨_,ah.x (hv) (sd (tw @a11 (tw @a0 (tw @a1 (tw @a2 (tw @a3 (tw @a8 (tw @gP (tw @hx (tw @h0 (tw @ar (tw @yL (tw @yM (tw @aW.eq_1 @s1)))))))))))))),?_⟩;refine hN _ _ ?_;clear hN N)))
   exact eQ (.inl rfl) (vs:=[.agg [.br,.int .i64 0,.int .i64 0],.bool false]) (sd @a8) (by simp[ud,dr,cJ,j3,aC,aL,cC,cz,il])
  rw[hm,AW]at hv
  (try dsimp only at hv)
  have Di:∀sy:Int,(T++[sy]).map ay=T.map ay++[[.int .i64 sy]]:=fun sy=>by rw[List.map_append];rfl
  have sM:∀sy:Int,(T++[sy]).length=T.length+1:=fun sy=>by rw[List.length_append];rfl
  have vB:(T.map ay).length=T.length:=by simp
  have Ep:T.length<=16777215:=ab
  by_cases h1:0<=stt
  ·rcases h with _|⟨hd,st0⟩
   ·have qd:=ue aU hm h1
    have n1:¬(0:Int)<=kE none:=by decide
    rcases aG with⟨hM,rfl⟩|⟨u,rfl,hu,hum,wG,hup2,sN⟩
    ·subst hM
     (repeat(first|((repeat(revert hN;revert N;apply Pn.out));refine wk (tw @a11 (tw @a0 (tw @a1 (tw @a2 (tw @a3 (tw @a8 (tw @gP (tw @hx (tw @h0 (tw @ar (tw @ag (tw @yL (tw @yM (tw @aW.eq_1 (tw @s1 (tw @h1 @n1)))))))))))))))) ?_;(repeat(refine Pn.mk ?_;intro N hN)))|((try apply Or.inl);refine⟨_,ah.x (uX) (sd (tw @a11 (tw @a0 (tw @a1 (tw @a2 (tw @a3 (tw @a8 (tw @gP (tw @hx (tw @h0 (tw @ar (tw @ag (tw @yL (tw @yM (tw @aW.eq_1 (tw @s1 (tw @h1 @n1))))))))))))))))),?_⟩;refine hN _ _ ?_;clear hN N)|((try apply Or.inl);refine⟨_,ah.x (hv) (sd (tw @a11 (tw @a0 (tw @a1 (tw @a2 (tw @a3 (tw @a8 (tw @gP (tw @hx (tw @h0 (tw @ar (tw @ag (tw @yL (tw @yM (tw @aW.eq_1 (tw @s1 (tw @h1 @n1))))))))))))))))),?_⟩;refine hN _ _ ?_;clear hN N)))
     exact bW (sd (tw @a11 (tw @a0 (tw @a1 (tw @a2 (tw @a3 (tw @a8 @gP))))))) (by(try dsimp only);exact⟨_,_,.own ⟨56014004,st_a.next+1+1+1+1+1+1+1+1⟩ 0 1,qd,sl @Nat.zero_add,sd @ar,.inr ⟨⟨56014004,st_a.next+1+1+1+1+1+1+1+1⟩,rfl,sl @Nat.zero_add,bw,bw,by simp,rfl⟩,ab⟩)
    ·have vu:=eC wG
     have ub:((⟨56001001,n0+1⟩:Id)=u)=False:=eq_false fun e=>absurd (show(56001001:Nat)=56014004 from(congrArg Id.site e).trans sN) (by decide)
     have bu:(u=(⟨56001001,n0+1⟩:Id))=False:=eq_false fun e=>absurd (show(56001001:Nat)=56014004 from(congrArg Id.site e).symm.trans sN) (by decide)
     have Km:((⟨56000000,n0⟩:Id)=u)=False:=eq_false fun e=>absurd (show(56000000:Nat)=56014004 from(congrArg Id.site e).trans sN) (by decide)
     (repeat(first|((repeat(revert hN;revert N;apply Pn.out));refine wk (tw @a11 (tw @a0 (tw @a1 (tw @a2 (tw @a3 (tw @a8 (tw @gP (tw @hx (tw @h0 (tw @ar (tw @ag (tw @yL (tw @yM (tw @aW.eq_1 (tw @s1 (tw @hu (tw @vu (tw @ub (tw @bu (tw @Km (tw @vB (tw @Ep (tw @h1 @n1))))))))))))))))))))))) ?_;(repeat(refine Pn.mk ?_;intro N hN)))|((try apply Or.inl);refine⟨_,ah.x (uX) (sd (tw @a11 (tw @a0 (tw @a1 (tw @a2 (tw @a3 (tw @a8 (tw @gP (tw @hx (tw @h0 (tw @ar (tw @ag (tw @yL (tw @yM (tw @aW.eq_1 (tw @s1 (tw @hu (tw @vu (tw @ub (tw @bu (tw @Km (tw @vB (tw @Ep (tw @h1 @n1)))))))))))))))))))))))),?_⟩;refine hN _ _ ?_;clear hN N)|((try apply Or.inl);refine⟨_,ah.x (hv) (sd (tw @a11 (tw @a0 (tw @a1 (tw @a2 (tw @a3 (tw @a8 (tw @gP (tw @hx (tw @h0 (tw @ar (tw @ag (tw @yL (tw @yM (tw @aW.eq_1 (tw @s1 (tw @hu (tw @vu (tw @ub (tw @bu (tw @Km (tw @vB (tw @Ep (tw @h1 @n1)))))))))))))))))))))))),?_⟩;refine hN _ _ ?_;clear hN N)))
     exact bW (sd (tw @a11 (tw @a0 (tw @a1 (tw @a2 (tw @a3 (tw @a8 @gP))))))) (by(try dsimp only);exact⟨_,_,.own ⟨56014004,st_a.next+1+1+1+1+1+1+1+1⟩ 0 (T.length+1),qd,sl @Nat.zero_add,sd (tw @ar @Km),.inr ⟨⟨56014004,st_a.next+1+1+1+1+1+1+1+1⟩,by rw[sM],by rw[Di];simp only[go_sem, ↓reduceIte,Nat.reduceEqDiff,Nat.reduceAdd,Nat.reduceSub,Nat.reduceLeDiff,reduceCtorEq]<;>rfl,bw,bw,by rw[sM];omega,rfl⟩,ab⟩)
   ·have n1:(0:Int)<=kE (some (hd,st0)):=(jq hd st0 rfl).2
    have gR:R=none:=by
     rw[<-hR]
     exact oj (xX aU hm h1) IF
    subst gR
    (repeat(first|((repeat(revert hN;revert N;apply Pn.out));refine wk (tw @a11 (tw @a0 (tw @a1 (tw @a2 (tw @a3 (tw @a8 (tw @gP (tw @hx (tw @h0 (tw @ar (tw @ag (tw @yL (tw @yM (tw @aW.eq_1 (tw @s1 (tw @h1 @n1)))))))))))))))) ?_;(repeat(refine Pn.mk ?_;intro N hN)))|((try apply Or.inl);refine⟨_,ah.x (uX) (sd (tw @a11 (tw @a0 (tw @a1 (tw @a2 (tw @a3 (tw @a8 (tw @gP (tw @hx (tw @h0 (tw @ar (tw @ag (tw @yL (tw @yM (tw @aW.eq_1 (tw @s1 (tw @h1 @n1))))))))))))))))),?_⟩;refine hN _ _ ?_;clear hN N)|((try apply Or.inl);refine⟨_,ah.x (hv) (sd (tw @a11 (tw @a0 (tw @a1 (tw @a2 (tw @a3 (tw @a8 (tw @gP (tw @hx (tw @h0 (tw @ar (tw @ag (tw @yL (tw @yM (tw @aW.eq_1 (tw @s1 (tw @h1 @n1))))))))))))))))),?_⟩;refine hN _ _ ?_;clear hN N)))
    exact eQ (.inl rfl) (vs:=[.agg [.br,.int .i64 0,.int .i64 0],.bool false]) (sd @a8) (by simp[ud,dr,cJ,j3,aC,aL,cC,cz,il])
  ·have qd:=uf aU hm h1
   rcases aG with⟨hM,rfl⟩|⟨u,rfl,hu,hum,wG,hup2,sN⟩
   ·subst hM
    (repeat(first|((repeat(revert hN;revert N;apply Pn.out));refine wk (tw @a11 (tw @a0 (tw @a1 (tw @a2 (tw @a3 (tw @a8 (tw @gP (tw @hx (tw @h0 (tw @ar (tw @ag (tw @yL (tw @yM (tw @aW.eq_1 (tw @s1 @h1))))))))))))))) ?_;(repeat(refine Pn.mk ?_;intro N hN)))|((try apply Or.inl);refine⟨_,ah.x (uX) (sd (tw @a11 (tw @a0 (tw @a1 (tw @a2 (tw @a3 (tw @a8 (tw @gP (tw @hx (tw @h0 (tw @ar (tw @ag (tw @yL (tw @yM (tw @aW.eq_1 (tw @s1 @h1)))))))))))))))),?_⟩;refine hN _ _ ?_;clear hN N)|((try apply Or.inl);refine⟨_,ah.x (hv) (sd (tw @a11 (tw @a0 (tw @a1 (tw @a2 (tw @a3 (tw @a8 (tw @gP (tw @hx (tw @h0 (tw @ar (tw @ag (tw @yL (tw @yM (tw @aW.eq_1 (tw @s1 @h1)))))))))))))))),?_⟩;refine hN _ _ ?_;clear hN N)))
    exact bW (sd (tw @a11 (tw @a0 (tw @a1 (tw @a2 (tw @a3 (tw @a8 @gP))))))) (by(try dsimp only);exact⟨_,_,.own ⟨56014004,st_a.next+1+1+1+1+1+1⟩ 0 1,qd,sl @Nat.zero_add,sd @ar,.inr ⟨⟨56014004,st_a.next+1+1+1+1+1+1⟩,rfl,sl @Nat.zero_add,bw,bw,by simp,rfl⟩,ab⟩)
   ·have vu:=eC wG
    have ub:((⟨56001001,n0+1⟩:Id)=u)=False:=eq_false fun e=>absurd (show(56001001:Nat)=56014004 from(congrArg Id.site e).trans sN) (by decide)
    have bu:(u=(⟨56001001,n0+1⟩:Id))=False:=eq_false fun e=>absurd (show(56001001:Nat)=56014004 from(congrArg Id.site e).symm.trans sN) (by decide)
    have Km:((⟨56000000,n0⟩:Id)=u)=False:=eq_false fun e=>absurd (show(56000000:Nat)=56014004 from(congrArg Id.site e).trans sN) (by decide)
    (repeat(first|((repeat(revert hN;revert N;apply Pn.out));refine wk (tw @a11 (tw @a0 (tw @a1 (tw @a2 (tw @a3 (tw @a8 (tw @gP (tw @hx (tw @h0 (tw @ar (tw @ag (tw @yL (tw @yM (tw @aW.eq_1 (tw @s1 (tw @hu (tw @vu (tw @ub (tw @bu (tw @Km (tw @vB (tw @Ep @h1)))))))))))))))))))))) ?_;(repeat(refine Pn.mk ?_;intro N hN)))|((try apply Or.inl);refine⟨_,ah.x (uX) (sd (tw @a11 (tw @a0 (tw @a1 (tw @a2 (tw @a3 (tw @a8 (tw @gP (tw @hx (tw @h0 (tw @ar (tw @ag (tw @yL (tw @yM (tw @aW.eq_1 (tw @s1 (tw @hu (tw @vu (tw @ub (tw @bu (tw @Km (tw @vB (tw @Ep @h1))))))))))))))))))))))),?_⟩;refine hN _ _ ?_;clear hN N)|((try apply Or.inl);refine⟨_,ah.x (hv) (sd (tw @a11 (tw @a0 (tw @a1 (tw @a2 (tw @a3 (tw @a8 (tw @gP (tw @hx (tw @h0 (tw @ar (tw @ag (tw @yL (tw @yM (tw @aW.eq_1 (tw @s1 (tw @hu (tw @vu (tw @ub (tw @bu (tw @Km (tw @vB (tw @Ep @h1))))))))))))))))))))))),?_⟩;refine hN _ _ ?_;clear hN N)))
    exact bW (sd (tw @a11 (tw @a0 (tw @a1 (tw @a2 (tw @a3 (tw @a8 @gP))))))) (by(try dsimp only);exact⟨_,_,.own ⟨56014004,st_a.next+1+1+1+1+1+1⟩ 0 (T.length+1),qd,sl @Nat.zero_add,sd (tw @ar @Km),.inr ⟨⟨56014004,st_a.next+1+1+1+1+1+1⟩,by rw[sM],by rw[Di];simp only[go_sem, ↓reduceIte,Nat.reduceEqDiff,Nat.reduceAdd,Nat.reduceSub,Nat.reduceLeDiff,reduceCtorEq]<;>rfl,bw,bw,by rw[sM];omega,rfl⟩,ab⟩)
 ·have IF:x=w:=ab
  subst IF
  rw[hR]at aU
  subst aU
  rcases aG with⟨hM,rfl⟩|⟨u,rfl,hu,hum,wG,hup2,sN⟩
  ·subst hM;simp at hlen;omega
  have PZ:(u=(⟨56000000,n0⟩:Id))=False:=eq_false fun e=>absurd (show(56000000:Nat)=56014004 from(congrArg Id.site e).symm.trans sN) (by decide)
  have hz:=fun r=>I7 (g:=bS st_a.get ⟨56000000,n0⟩ r) (u:=u) (T:=T) 2 (by simp only[bS,PZ,if_false];exact hu)
  have vu:=eC wG
  rcases h with _|⟨hd,st0⟩
  ·have n1:¬(0:Int)<=kE none:=by decide
   (try((repeat(revert hN;revert N;apply Pn.out));refine wk (tw @a11 (tw @a0 (tw @a1 (tw @a2 (tw @a3 (tw @a8 (tw @gP (tw @hx (tw @ag (tw @ar @n1)))))))))) ?_;(repeat(refine Pn.mk ?_;intro N hN))))
   refine eI ?_ ?_
   ·(try((repeat(revert hN;revert N;apply Pn.out));refine wk (tw @a11 (tw @a0 (tw @a1 (tw @a2 (tw @a3 (tw @a8 (tw @gP (tw @ag (tw @ar @n1))))))))) ?_;(repeat(refine Pn.mk ?_;intro N hN))))
    exact eQ (.inl rfl) (vs:=[.agg [.own u 0 T.length,.int .i64 (nH none),.int .i64 (kE none)],.bool false]) (sd @a8) (by simp[ud,dr,cJ,j3,aC,aL,cC,cz,hz,nH,kE])
   ·(try((repeat(revert hN;revert N;apply Pn.out));refine wk (tw @a11 (tw @a0 (tw @a1 (tw @a2 (tw @a3 (tw @a8 (tw @gP (tw @ag (tw @ar @n1))))))))) ?_;(repeat(refine Pn.mk ?_;intro N hN))))
    exact eQ (.inl rfl) (vs:=[.agg [.own u 0 T.length,.int .i64 (nH none),.int .i64 (kE none)],.bool false]) (sd @a8) (by simp[ud,dr,cJ,j3,aC,aL,cC,cz,hz,nH,kE])
  ·have n1:(0:Int)<=kE (some (hd,st0)):=(jq hd st0 rfl).2
   (try((repeat(revert hN;revert N;apply Pn.out));refine wk (tw @a11 (tw @a0 (tw @a1 (tw @a2 (tw @a3 (tw @a8 (tw @gP (tw @hx (tw @ag (tw @ar @n1)))))))))) ?_;(repeat(refine Pn.mk ?_;intro N hN))))
   refine eI ?_ ?_
   ·(try((repeat(revert hN;revert N;apply Pn.out));refine wk (tw @a11 (tw @a0 (tw @a1 (tw @a2 (tw @a3 (tw @a8 (tw @gP (tw @ag (tw @ar @n1))))))))) ?_;(repeat(refine Pn.mk ?_;intro N hN))))
    exact eQ (.inl rfl) (vs:=[.agg [.own u 0 T.length,.int .i64 (nH (some (hd,st0))),.int .i64 (kE (some (hd,st0)))],.bool true]) (sd @a8) (by simp[ud,dr,cJ,j3,aC,aL,cC,cz,hz,nH,kE])
   ·(try((repeat(revert hN;revert N;apply Pn.out));refine wk (tw @a11 (tw @a0 (tw @a1 (tw @a2 (tw @a3 (tw @a8 (tw @gP (tw @ag (tw @ar @n1))))))))) ?_;(repeat(refine Pn.mk ?_;intro N hN))))
    exact eQ (.inl rfl) (vs:=[.agg [.own u 0 T.length,.int .i64 (nH (some (hd,st0))),.int .i64 (kE (some (hd,st0)))],.bool true]) (sd @a8) (by simp[ud,dr,cJ,j3,aC,aL,cC,cz,hz,nH,kE])
end Go.Proofs.YtihgaadadaekmaaGreat.V
