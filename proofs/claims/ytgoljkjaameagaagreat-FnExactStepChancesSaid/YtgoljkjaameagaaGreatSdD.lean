/- The place of a point in an assembly, on both sides. -/
import Derived.Test.YtgoljkjaameagaaGreatSdC
import Derived.Test.YtgoljkjaameagaaGreatSdA
import Derived.Test.YtgoljkjaameagaaGreatSdB
set_option linter.unusedVariables false
set_option linter.unusedSimpArgs false
set_option maxRecDepth 100000
set_option maxHeartbeats 16000000
namespace Go.Proofs.YtgoljkjaameagaaGreat.V
open Go.RowKit
attribute [local irreducible] ek wpOps fK Call
attribute [local go_sem] aI fw eH fE fD dd upd cm K.av cG AV.cells AV.cell rowOf rowsOf part ld rowAt bL bY dx dO gz bE cW dY fC eY dj dS cU cR dG dH bH aZ cJ bG cL cK dQ dU dR cI bJ cV dP bF aL cP cz gy bq cF bI aW dq bm dy AV.undef bw bz dJ dM dD dI cE dX ea cq dW dV cN cQ List.getD_cons_zero List.getD_cons_succ List.getD_nil List.all_cons List.all_nil Bool.and_true Bool.true_and Bool.and_self Bool.not_true Bool.not_false Option.map_some Option.map_none Option.bind_some Option.bind_none List.length_cons List.length_nil List.take_succ_cons List.take_zero List.take_nil List.drop_succ_cons List.drop_zero List.drop_nil List.head?_cons List.map_cons List.map_nil List.getElem?_cons_zero List.getElem?_cons_succ List.cons_append List.nil_append List.append_nil List.length_map List.set_cons_zero List.set_cons_succ Nat.reduceMul eq_self Int.toNat_natCast Int.natCast_nonneg and_self true_and and_true decide_true decide_false Bool.false_eq_true Nat.zero_add Nat.add_zero List.contains_cons List.contains_nil Bool.or_false Bool.false_or beq_self_eq_true Nat.reduceBEq ne_eq not_true_eq_false not_false_eq_true Id.mk.injEq false_and and_false Nat.reduceLT Int.reduceLE Int.reduceLT Int.reduceToNat Int.reduceNeg Int.reduceAdd Nat.le_refl List.length_append beq_true beq_false Bool.not_eq_eq_eq_not or_false false_or dK aq au aH bf bt bZ aU bh aT bc cH bx
theorem yJ (cells:List ae) (p:ar) (hR:qJ cells) (Qd:cells.length<=1048576):
  aw Tryz.prog 163 [.sl (cells.map ah),.agg (ai p),.fn 164 []] (.iA [.int .i64 (km cells p),.bool (decide (km cells p<cells.length)&&decide ((aY cells (km cells p)).bj=p))]):=by
 refine aw.body eK rfl fun hl n0=>?_
 clear hl
 (try((repeat(revert hN;revert N;apply Pn.out));refine wk @ai.eq_1 ?_;(repeat(refine Pn.mk ?_;intro N hN))))
 refine aX (fun n env st=>∃i j:Nat,n=j-i/\i<=j/\j<=cells.length/\(∀x,x<i->iW (aY cells x).bj p=true)/\(∀x,j<=x->x<cells.length->iW (aY cells x).bj p=false)/\env 9=.int .i64 i/\env 10=.int .i64 j/\st.get ⟨163000000,n0⟩=some ⟨true,2,[ai p]⟩) cells.length ⟨0,cells.length,by omega,by omega,by omega,fun x h=>by omega,fun x h1 h2=>by omega,by(simp only[go_sem, ↓reduceIte,Nat.reduceEqDiff,Nat.reduceAdd,Nat.reduceSub,Nat.reduceLeDiff,reduceCtorEq])<;>rfl,sd @Nat.zero_add,sd @ai.eq_1⟩ ?_
 rintro n env st ⟨i,j,rfl,EM,hj,jQ,Dx,h9,h10,hg⟩ fr
 have h0:=fr 0 (by kernel_rfl)
 have h2:=fr 2 (by kernel_rfl)
 have h4:=fr 4 (by kernel_rfl)
 have h8:=fr 8 (by kernel_rfl)
 simp only[go_sem, ↓reduceIte,Nat.reduceEqDiff,Nat.reduceAdd,Nat.reduceSub,Nat.reduceLeDiff,reduceCtorEq]at h0 h2 h4 h8
 clear fr
 by_cases eo:(i:Int)<(j:Int)
 ·have e1:IntKind.i64.wrap ((i:Int)+j)=((i+j:Nat):Int):=by rw[bK (by omega)];rfl
  have hm:(i+j) / 2<cells.length:=by omega
  have eT:(cells.map ah)[(i+j) / 2]? =some (ah (aY cells ((i+j) / 2))):=fU (l:=cells) hm
  have e2:IntKind.i64.wrap ((IntKind.u64.wrap ((i+j:Nat):Int)).fdiv (2 ^ min 1 IntKind.u64.bits))=(((i+j) / 2:Nat):Int):=by
   have h:IntKind.u64.wrap ((i+j:Nat):Int)=((i+j:Nat):Int):=by rw[IntKind.wrap_u64];omega
   rw[h,show min 1 IntKind.u64.bits=1 from rfl,show((2:Int) ^ 1)=2 from rfl,Int.fdiv_eq_ediv_of_nonneg _ (by omega)]
   rw[bK (by omega)];omega
  have SR:IntKind.i64.wrap ((IntKind.u64.wrap ((i+j:Nat):Int)).fdiv (2 ^ min 1 64))=(((i+j) / 2:Nat):Int):=e2
  have e3:=az (k:=(i+j) / 2) (by omega)
  by_cases hc:qf (aY cells ((i+j) / 2)).bj p<0
  ·have hl:iW (aY cells ((i+j) / 2)).bj p=true:=by rw[<-nw];simpa using hc
   (repeat(first|((repeat(revert hN;revert N;apply Pn.out));refine wk (tw @h0 (tw @h2 (tw @h4 (tw @h8 (tw @h9 (tw @h10 (tw @hg (tw @eo (tw @e1 (tw @e2 (tw @SR (tw @eT (tw @hc (tw @ah.eq_1 @ai.eq_1)))))))))))))) ?_;(repeat(refine Pn.mk ?_;intro N hN)))|((try apply Or.inl);refine⟨_,aw.x (kE (aY cells ((i+j) / 2)) p) (sd (tw @h0 (tw @h2 (tw @h4 (tw @h8 (tw @h9 (tw @h10 (tw @hg (tw @eo (tw @e1 (tw @e2 (tw @SR (tw @eT (tw @hc (tw @ah.eq_1 @ai.eq_1))))))))))))))),?_⟩;refine hN _ _ ?_;clear hN N)))
   refine⟨_,?_,(i+j) / 2+1,j,rfl,by omega,hj,fun x hx=>?_,Dx,sd @e3,sd @h10,sd (tw @hg @ai.eq_1)⟩
   ·omega
   ·by_cases Q0:x=(i+j) / 2
    ·subst Q0;exact hl
    ·exact iD (hR x _ (by omega) hm) hl
  ·have hl:iW (aY cells ((i+j) / 2)).bj p=false:=by rw[<-nw];simpa using hc
   (repeat(first|((repeat(revert hN;revert N;apply Pn.out));refine wk (tw @h0 (tw @h2 (tw @h4 (tw @h8 (tw @h9 (tw @h10 (tw @hg (tw @eo (tw @e1 (tw @e2 (tw @SR (tw @eT (tw @hc (tw @ah.eq_1 @ai.eq_1)))))))))))))) ?_;(repeat(refine Pn.mk ?_;intro N hN)))|((try apply Or.inl);refine⟨_,aw.x (kE (aY cells ((i+j) / 2)) p) (sd (tw @h0 (tw @h2 (tw @h4 (tw @h8 (tw @h9 (tw @h10 (tw @hg (tw @eo (tw @e1 (tw @e2 (tw @SR (tw @eT (tw @hc (tw @ah.eq_1 @ai.eq_1))))))))))))))),?_⟩;refine hN _ _ ?_;clear hN N)))
   refine⟨_,?_,i,(i+j) / 2,rfl,by omega,by omega,jQ,fun x h1 h2=>?_,sd @h9,sd (tw @e2 @SR),sd (tw @hg @ai.eq_1)⟩
   ·omega
   ·by_cases Q0:x=(i+j) / 2
    ·subst Q0;exact hl
    ·rw[Bool.eq_false_iff]
     intro hc
     have h3:=iD (hR ((i+j) / 2) x (by omega) h2) hc
     rw[hl]at h3;cases h3
 ·have QB:i=j:=by omega
  subst QB
  have wH:km cells p=i:=Ax hj jQ fun h=>Dx i (Nat.le_refl _) h
  by_cases hn:(i:Int)<(cells.length:Int)
  ·have fI:i<cells.length:=by omega
   have eT:(cells.map ah)[i]? =some (ah (aY cells i)):=fU (l:=cells) fI
   have hd:decide (qf (aY cells i).bj p=0)=decide ((aY cells i).bj=p):=by simp only[Hi]
   (repeat(first|((repeat(revert hN;revert N;apply Pn.out));refine wk (tw @h0 (tw @h2 (tw @h4 (tw @h8 (tw @h9 (tw @h10 (tw @hg (tw @eo (tw @hn (tw @eT (tw @ah.eq_1 @ai.eq_1))))))))))) ?_;(repeat(refine Pn.mk ?_;intro N hN)))|((try apply Or.inl);refine⟨_,aw.x (kE (aY cells i) p) (sd (tw @h0 (tw @h2 (tw @h4 (tw @h8 (tw @h9 (tw @h10 (tw @hg (tw @eo (tw @hn (tw @eT (tw @ah.eq_1 @ai.eq_1)))))))))))),?_⟩;refine hN _ _ ?_;clear hN N)))
   refine jE (.inl rfl) (r1:=.int .i64 i) (r2:=.bool (decide ((aY cells i).bj=p))) ?_ ?_ ?_
   ·simp only[go_sem, ↓reduceIte,Nat.reduceEqDiff,Nat.reduceAdd,Nat.reduceSub,Nat.reduceLeDiff,reduceCtorEq]
   ·simp only[go_sem, ↓reduceIte,Nat.reduceEqDiff,Nat.reduceAdd,Nat.reduceSub,Nat.reduceLeDiff,reduceCtorEq,hd]
   ·simp only[fF,bV,cY,eL,fP,Option.map_some,wH,fI,decide_true,Bool.true_and]
  ·have fI:¬i<cells.length:=by omega
   (try((repeat(revert hN;revert N;apply Pn.out));refine wk (tw @h0 (tw @h2 (tw @h4 (tw @h8 (tw @h9 (tw @h10 (tw @hg (tw @eo (tw @hn (tw @ah.eq_1 @ai.eq_1)))))))))) ?_;(repeat(refine Pn.mk ?_;intro N hN))))
   refine jE (.inl rfl) (r1:=.int .i64 i) (r2:=.bool false) ?_ ?_ ?_
   ·simp only[go_sem, ↓reduceIte,Nat.reduceEqDiff,Nat.reduceAdd,Nat.reduceSub,Nat.reduceLeDiff,reduceCtorEq]
   ·simp only[go_sem, ↓reduceIte,Nat.reduceEqDiff,Nat.reduceAdd,Nat.reduceSub,Nat.reduceLeDiff,reduceCtorEq]
   ·simp only[fF,bV,cY,eL,fP,Option.map_some,wH,fI,decide_false,Bool.false_and]
theorem It (l:List ae) (p:ar) (hR:qJ l) (Qd:l.length<=1048576):aw Tryz.prog 303 [.agg [.sl (l.map ah)],.agg (ai p)] (.int .i64 (eO l p)):=by
 refine aw.body eK rfl fun hl n0=>?_
 clear hl
 rw[GI hR]
 have hb:=yJ l p hR Qd
 rw[ai]at hb
 cases hf:(decide (km l p<l.length)&&decide ((aY l (km l p)).bj=p))
 ·rw[hf]at hb
  (repeat(first|((repeat(revert hN;revert N;apply Pn.out));refine wk @ai.eq_1 ?_;(repeat(refine Pn.mk ?_;intro N hN)))|((try apply Or.inl);refine⟨_,aw.x (hb) (sd @ai.eq_1),?_⟩;refine hN _ _ ?_;clear hN N)))
  exact db (b:=-1) (.inl rfl) (sd @Nat.zero_add) (by rw[if_neg];intro h;simp[h.1,h.2]at hf)
 ·rw[hf]at hb
  (repeat(first|((repeat(revert hN;revert N;apply Pn.out));refine wk @ai.eq_1 ?_;(repeat(refine Pn.mk ?_;intro N hN)))|((try apply Or.inl);refine⟨_,aw.x (hb) (sd @ai.eq_1),?_⟩;refine hN _ _ ?_;clear hN N)))
  exact db (b:=(km l p:Int)) (.inl rfl) (sd @Nat.zero_add) (by rw[if_pos];simpa using hf)
theorem rC (l:List ae) (p:ar) (hR:qJ l) (Qd:l.length<=1048576):aw Tryz.prog 173 [.dp [.sl (l.map ah)],.agg (ai p)] (.int .i64 (eO l p)):=by
 refine aw.body eK rfl fun hl n0=>?_
 clear hl
 rw[GI hR]
 (try((repeat(revert hN;revert N;apply Pn.out));refine wk @ai.eq_1 ?_;(repeat(refine Pn.mk ?_;intro N hN))))
 refine aX (fun n env st=>∃i j:Nat,n=j-i/\i<=j/\j<=l.length/\(∀x,x<i->iW (aY l x).bj p=true)/\(∀x,j<=x->x<l.length->iW (aY l x).bj p=false)/\env 5=.int .i64 i/\env 6=.int .i64 j/\st.get ⟨173000000,n0⟩=some ⟨true,2,[ai p]⟩) l.length ⟨0,l.length,by omega,by omega,by omega,fun x h=>by omega,fun x h1 h2=>by omega,by(simp only[go_sem, ↓reduceIte,Nat.reduceEqDiff,Nat.reduceAdd,Nat.reduceSub,Nat.reduceLeDiff,reduceCtorEq])<;>rfl,sd @Nat.zero_add,sd @ai.eq_1⟩ ?_
 rintro n env st ⟨i,j,rfl,EM,hj,jQ,Dx,h5,h6,hg⟩ fr
 have h0:=fr 0 (by kernel_rfl)
 have h3:=fr 3 (by kernel_rfl)
 simp only[go_sem, ↓reduceIte,Nat.reduceEqDiff,Nat.reduceAdd,Nat.reduceSub,Nat.reduceLeDiff,reduceCtorEq]at h0 h3
 clear fr
 by_cases eo:(i:Int)<(j:Int)
 ·have e1:IntKind.i64.wrap ((i:Int)+j)=((i+j:Nat):Int):=by rw[bK (by omega)];rfl
  have hm:(i+j) / 2<l.length:=by omega
  have eT:=fU hm
  have e2:IntKind.i64.wrap (((i+j:Nat):Int).tdiv 2)=(((i+j) / 2:Nat):Int):=by
   rw[Int.tdiv_eq_ediv_of_nonneg (by omega),bK (by omega)];omega
  have e3:=az (k:=(i+j) / 2) (by omega)
  have hq:=lX (aY l ((i+j) / 2)).bj p
  cases hl:iW (aY l ((i+j) / 2)).bj p
  ·rw[hl]at hq
   (repeat(first|((repeat(revert hN;revert N;apply Pn.out));refine wk (tw @h0 (tw @h3 (tw @h5 (tw @h6 (tw @hg (tw @eo (tw @e1 (tw @e2 (tw @eT (tw @ah.eq_1 @ai.eq_1)))))))))) ?_;(repeat(refine Pn.mk ?_;intro N hN)))|((try apply Or.inl);refine⟨_,aw.x (hq) (sd (tw @h0 (tw @h3 (tw @h5 (tw @h6 (tw @hg (tw @eo (tw @e1 (tw @e2 (tw @eT (tw @ah.eq_1 @ai.eq_1))))))))))),?_⟩;refine hN _ _ ?_;clear hN N)))
   refine⟨_,?_,i,(i+j) / 2,rfl,by omega,by omega,jQ,fun x h1 h2=>?_,sd @h5,sd @e2,sd (tw @hg @ai.eq_1)⟩
   ·omega
   ·by_cases Q0:x=(i+j) / 2
    ·subst Q0;exact hl
    ·rw[Bool.eq_false_iff]
     intro hc
     have h3:=iD (hR ((i+j) / 2) x (by omega) h2) hc
     rw[hl]at h3;cases h3
  ·rw[hl]at hq
   (repeat(first|((repeat(revert hN;revert N;apply Pn.out));refine wk (tw @h0 (tw @h3 (tw @h5 (tw @h6 (tw @hg (tw @eo (tw @e1 (tw @e2 (tw @eT (tw @ah.eq_1 @ai.eq_1)))))))))) ?_;(repeat(refine Pn.mk ?_;intro N hN)))|((try apply Or.inl);refine⟨_,aw.x (hq) (sd (tw @h0 (tw @h3 (tw @h5 (tw @h6 (tw @hg (tw @eo (tw @e1 (tw @e2 (tw @eT (tw @ah.eq_1 @ai.eq_1))))))))))),?_⟩;refine hN _ _ ?_;clear hN N)))
   refine⟨_,?_,(i+j) / 2+1,j,rfl,by omega,hj,fun x hx=>?_,Dx,sd @e3,sd @h6,sd (tw @hg @ai.eq_1)⟩
   ·omega
   ·by_cases Q0:x=(i+j) / 2
    ·subst Q0;exact hl
    ·exact iD (hR x _ (by omega) hm) hl
 ·have QB:i=j:=by omega
  subst QB
  have wH:km l p=i:=Ax hj jQ fun h=>Dx i (Nat.le_refl _) h
  by_cases hn:(i:Int)<(l.length:Int)
  ·have fI:i<l.length:=by omega
   have eT:=fU fI
   by_cases hp:(aY l i).bj=p
   ·have hx:decide ((aY l i).bj.eM=p.eM)=true:=decide_eq_true (by rw[hp])
    have hy:decide ((aY l i).bj.eG=p.eG)=true:=decide_eq_true (by rw[hp])
    (try((repeat(revert hN;revert N;apply Pn.out));refine wk (tw @h0 (tw @h3 (tw @h5 (tw @h6 (tw @hg (tw @eo (tw @hn (tw @eT (tw @hx (tw @hy (tw @ah.eq_1 @ai.eq_1))))))))))) ?_;(repeat(refine Pn.mk ?_;intro N hN))))
    exact db (b:=(i:Int)) (.inl rfl) (sd @Nat.zero_add) (by rw[wH,if_pos ⟨fI,hp⟩])
   ·by_cases hx:(aY l i).bj.eM=p.eM
    ·have ug:decide ((aY l i).bj.eM=p.eM)=true:=decide_eq_true hx
     have VG:decide ((aY l i).bj.eG=p.eG)=false:=decide_eq_false fun h=>hp (xg hx h)
     (try((repeat(revert hN;revert N;apply Pn.out));refine wk (tw @h0 (tw @h3 (tw @h5 (tw @h6 (tw @hg (tw @eo (tw @hn (tw @eT (tw @ug (tw @VG (tw @ah.eq_1 @ai.eq_1))))))))))) ?_;(repeat(refine Pn.mk ?_;intro N hN))))
     exact db (b:=-1) (.inl rfl) (sd @Nat.zero_add) (by rw[wH,if_neg fun h=>hp h.2])
    ·have ug:decide ((aY l i).bj.eM=p.eM)=false:=decide_eq_false hx
     (try((repeat(revert hN;revert N;apply Pn.out));refine wk (tw @h0 (tw @h3 (tw @h5 (tw @h6 (tw @hg (tw @eo (tw @hn (tw @eT (tw @ug (tw @Bool.false_and (tw @ah.eq_1 @ai.eq_1))))))))))) ?_;(repeat(refine Pn.mk ?_;intro N hN))))
     exact db (b:=-1) (.inl rfl) (sd @Nat.zero_add) (by rw[wH,if_neg fun h=>hp h.2])
  ·have fI:¬i<l.length:=by omega
   (try((repeat(revert hN;revert N;apply Pn.out));refine wk (tw @h0 (tw @h3 (tw @h5 (tw @h6 (tw @hg (tw @eo (tw @hn (tw @ah.eq_1 @ai.eq_1)))))))) ?_;(repeat(refine Pn.mk ?_;intro N hN))))
   exact db (b:=-1) (.inl rfl) (sd @Nat.zero_add) (by rw[wH,if_neg fun h=>fI h.1])
theorem NG (l:List ae) (p:ar) (hR:qJ l) (Qd:l.length<=1048576):aw Tryz.prog 216 [.dp [.sl (l.map ah)],.agg (ai p)] (.int .i64 (gH l p)):=by
 refine aw.body eK rfl fun hl n0=>?_
 clear hl
 have hb:=rC l p hR Qd
 by_cases hi:eO l p<0
 ·rw[ai]at hb
  (repeat(first|((repeat(revert hN;revert N;apply Pn.out));refine wk (tw @ai.eq_1 @hi) ?_;(repeat(refine Pn.mk ?_;intro N hN)))|((try apply Or.inl);refine⟨_,aw.x (hb) (sd (tw @ai.eq_1 @hi)),?_⟩;refine hN _ _ ?_;clear hN N)))
  exact db (b:=-1) (.inl rfl) (sd @Nat.zero_add) (by rw[gH,if_neg (by omega)])
 ·have h0:0<=eO l p:=by omega
  have hg:=fU (kS h0).1
  rw[ai]at hb
  (repeat(first|((repeat(revert hN;revert N;apply Pn.out));refine wk (tw @ai.eq_1 (tw @hi (tw @h0 (tw @hg @ah.eq_1)))) ?_;(repeat(refine Pn.mk ?_;intro N hN)))|((try apply Or.inl);refine⟨_,aw.x (hb) (sd (tw @ai.eq_1 (tw @hi (tw @h0 (tw @hg @ah.eq_1))))),?_⟩;refine hN _ _ ?_;clear hN N)))
  exact db (b:=(aY l (eO l p).toNat).bQ) (.inl rfl) (sd @Nat.zero_add) (by rw[gH,if_pos h0])
def kz (s:ax) (l:List ae):Prop:=kJ l/\∀t∈l,eW s t.bQ=true
noncomputable def qe (s:ax) (l:List ae):Bool:=o5 l&&l.all fun t=>eW s t.bQ
theorem mE {s:ax} {l:List ae}:qe s l=true↔kz s l:=by simp[qe,kz,Hz]
theorem Ec:SB ah (fun c=>.agg (ah c)) 3 true:=⟨fun _=>rfl,fun _=>rfl,fun x g=>by simp only[ah,aq,au,bh,aH,Option.map_some]⟩
theorem Im (s:ax) (t:ae) (hs:s.aj.length<=1048576):aw Tryz.prog 202 [.agg (ah t),.dp (aa s)] (.bool (!eW s t.bQ)):=by
 refine aw.body eK rfl fun hl n0=>?_
 clear hl
 have h:=KA s t.bQ
 rw[aa]at h
 (repeat(first|((repeat(revert hN;revert N;apply Pn.out));refine wk (tw @ah.eq_1 @aa.eq_1) ?_;(repeat(refine Pn.mk ?_;intro N hN)))|((try apply Or.inl);refine⟨_,aw.x (h) (sd (tw @ah.eq_1 @aa.eq_1)),?_⟩;refine hN _ _ ?_;clear hN N)))
 exact bp (b:= !eW s t.bQ) (.inl rfl) (sd @Nat.zero_add) rfl
theorem Ow (s:ax) (l:List ae) (hs:s.aj.length<=1048576) (hl:l.length<=1048576):aw Tryz.prog 201 [.sl (l.map ah),.fn 202 [.dp (aa s)]] (.bool (l.any fun t=> !eW s t.bQ)):=
 oQ Ec (show nv Tryz.prog 201=some (EB 201 247) by kernel_rfl)
  (show nv Tryz.prog 247=some (wM 247 3 true) by kernel_rfl) l hl _ _ _ rfl (fun g=>by rw[aq,aT,au];rfl) (fun x _=>Im s x hs) fun g=>by rw[aq,aT,au];rfl
theorem Mr {α:Type} (p:α->Bool) (l:List α):(!l.any fun t=> !p t)=l.all p:=by
 induction l with
 |nil=>rfl
 |cons x l ih=>simp only[List.any_cons,List.all_cons,<-ih];cases p x<;>simp
theorem nV (s:ax) (l:List ae) (hn:gJ s) (hg:s.aB.length<=1048576) (ht:s.aj.length<=1048576) (hs:∀t∈s.aj,t.bU.length<=1048576) (hl:l.length<=1048576):aw Tryz.prog 131 [.agg (aa s),.agg [.sl (l.map ah)]] (.bool (rL s&&qe s l)):=by
 refine aw.body eK rfl fun hl n0=>?_
 clear hl
 have h1:=DT s hn hg ht hs
 have h2:=HE l
 have h3:=Ow s l ht hl
 rw[aa]at h1 h3
 cases b1:rL s
 ·rw[b1]at h1
  (repeat(first|((repeat(revert hN;revert N;apply Pn.out));refine wk @aa.eq_1 ?_;(repeat(refine Pn.mk ?_;intro N hN)))|((try apply Or.inl);refine⟨_,aw.x (h1) (sd @aa.eq_1),?_⟩;refine hN _ _ ?_;clear hN N)))
  exact bp (b:=false) (.inl rfl) (sd @Nat.zero_add) rfl
 rw[b1]at h1
 cases b2:o5 l
 ·rw[b2]at h2
  (repeat(first|((repeat(revert hN;revert N;apply Pn.out));refine wk @aa.eq_1 ?_;(repeat(refine Pn.mk ?_;intro N hN)))|((try apply Or.inl);refine⟨_,aw.x (h1) (sd @aa.eq_1),?_⟩;refine hN _ _ ?_;clear hN N)|((try apply Or.inl);refine⟨_,aw.x (h2) (sd @aa.eq_1),?_⟩;refine hN _ _ ?_;clear hN N)))
  exact bp (b:=false) (.inl rfl) (sd @Nat.zero_add) (by rw[qe,b2];rfl)
 rw[b2]at h2
 (repeat(first|((repeat(revert hN;revert N;apply Pn.out));refine wk @aa.eq_1 ?_;(repeat(refine Pn.mk ?_;intro N hN)))|((try apply Or.inl);refine⟨_,aw.x (h1) (sd @aa.eq_1),?_⟩;refine hN _ _ ?_;clear hN N)|((try apply Or.inl);refine⟨_,aw.x (h2) (sd @aa.eq_1),?_⟩;refine hN _ _ ?_;clear hN N)|((try apply Or.inl);refine⟨_,aw.x (h3) (sd @aa.eq_1),?_⟩;refine hN _ _ ?_;clear hN N)))
 exact bp (b:= !(l.any fun t=> !eW s t.bQ)) (.inl rfl) (sd @Nat.zero_add) (by rw[Mr,qe,b2];rfl)
theorem GF (s:ax) (l:List ae):aw Tryz.prog 146 [.dp (aa s),.dp [.sl (l.map ah)]] (.bool (qe s l)):=by
 refine aw.body eK rfl fun hl n0=>?_
 have hlen:l.length<=9223372036854775807:=by
  have h1:=(hl (.dp [.sl (l.map ah)]) (by simp)).CB (a:=.sl (l.map ah)) (by simp)
  simpa using h1.len
 clear hl
 have h2:=H4 l
 cases b2:o5 l
 ·rw[b2]at h2
  (repeat(first|((repeat(revert hN;revert N;apply Pn.out));refine wk @Nat.zero_add ?_;(repeat(refine Pn.mk ?_;intro N hN)))|((try apply Or.inl);refine⟨_,aw.x (h2) (sd @Nat.zero_add),?_⟩;refine hN _ _ ?_;clear hN N)))
  exact bp (b:=false) (.inl rfl) (sd @Nat.zero_add) (by rw[qe,b2];rfl)
 rw[b2]at h2
 (repeat(first|((repeat(revert hN;revert N;apply Pn.out));refine wk @Nat.zero_add ?_;(repeat(refine Pn.mk ?_;intro N hN)))|((try apply Or.inl);refine⟨_,aw.x (h2) (sd @Nat.zero_add),?_⟩;refine hN _ _ ?_;clear hN N)))
 refine aX (fun n env st=>∃k:Nat,n=(l.length)-k/\k<=(l.length)/\env 5=.int .i64 (k:Int)/\(∀j:Nat,j<k->eW s (aY l j).bQ=true)) (l.length) ⟨0,by omega,by omega,sl @Nat.zero_add,fun _ h=>absurd h (Nat.not_lt_zero _)⟩ ?_
 rintro n_a env_a st_a ⟨k,rfl,ale,a5,nq⟩ dC
 have a0:=dC 0 (by kernel_rfl);have a1:=dC 1 (by kernel_rfl)
 simp only[go_sem, ↓reduceIte,Nat.reduceEqDiff,Nat.reduceAdd,Nat.reduceSub,Nat.reduceLeDiff,reduceCtorEq]at a0 a1
 clear dC
 by_cases hk:(k:Int)<(l.length:Int)
 ·have cD:∀{e:Env},(e 5=.int .i64 (IntKind.i64.wrap ((k:Int)+1)))->(eW s (aY l k).bQ=true)->∃m0,m0<(l.length)-k/\∃k:Nat,m0=(l.length)-k/\k<=(l.length)/\e 5=.int .i64 (k:Int)/\(∀j:Nat,j<k->eW s (aY l j).bQ=true):=fun x1 x2=>⟨_,by omega,k+1,rfl,by omega,(by rw[x1,az (by omega)]),(all_succ nq x2)⟩
  have fm:k<l.length:=by omega
  have eU:=fU fm
  have ht:=E3 s (aY l k).bQ
  cases b3:eW s (aY l k).bQ
  ·rw[b3]at ht
   (repeat(first|((repeat(revert hN;revert N;apply Pn.out));refine wk (tw @a5 (tw @a0 (tw @a1 (tw @hk (tw @eU @ah.eq_1))))) ?_;(repeat(refine Pn.mk ?_;intro N hN)))|((try apply Or.inl);refine⟨_,aw.x (ht) (sd (tw @a5 (tw @a0 (tw @a1 (tw @hk (tw @eU @ah.eq_1)))))),?_⟩;refine hN _ _ ?_;clear hN N)))
   exact bp (b:=false) (.inl rfl) (sd @Nat.zero_add) (by
    have:l.all (fun t=>eW s t.bQ)=false:=List.all_eq_false.2 ⟨_,ko fm,by rw[b3];simp⟩
    rw[qe,this,Bool.and_false])
  ·rw[b3]at ht
   (repeat(first|((repeat(revert hN;revert N;apply Pn.out));refine wk (tw @a5 (tw @a0 (tw @a1 (tw @hk (tw @eU @ah.eq_1))))) ?_;(repeat(refine Pn.mk ?_;intro N hN)))|((try apply Or.inl);refine⟨_,aw.x (ht) (sd (tw @a5 (tw @a0 (tw @a1 (tw @hk (tw @eU @ah.eq_1)))))),?_⟩;refine hN _ _ ?_;clear hN N)))
   exact cD (sd (tw @a5 (tw @a0 @a1))) (b3)
 ·(try((repeat(revert hN;revert N;apply Pn.out));refine wk (tw @a5 (tw @a0 (tw @a1 @hk))) ?_;(repeat(refine Pn.mk ?_;intro N hN))))
  exact bp (b:=true) (.inl rfl) (sd @Nat.zero_add) (by
   have:l.all (fun t=>eW s t.bQ)=true:=List.all_eq_true.2 fun t ht=>by
    obtain⟨j,hj,rfl⟩:=List.getElem_of_mem ht
    have:=nq j (by omega)
    rwa [hZ hj]at this
   rw[qe,b2,this];rfl)
theorem yp (l:List ae) (hF:kJ l) (i:Nat) (d:Int) (hi:i<l.length) (hd:iP d 0 3=true):aw Tryz.prog 189 [.dp [.sl (l.map ah)],.int .i64 i,.int .i64 d] (.int .i64 (eO l (bB (aY l i).bj d))):=by
 refine aw.body eK rfl fun hl n0=>?_
 clear hl
 have hg:=fU hi
 have hp:=tG (hF.pt hi)
 have h1:=tC (aY l i).bj d hd hp.1 hp.2
 have h2:=rC l (bB (aY l i).bj d) hF.Rm (by have:=hF.zW;omega)
 rw[ai]at h1 h2
 (repeat(first|((repeat(revert hN;revert N;apply Pn.out));refine wk (tw @ah.eq_1 (tw @hg @ai.eq_1)) ?_;(repeat(refine Pn.mk ?_;intro N hN)))|((try apply Or.inl);refine⟨_,aw.x (h1) (sd (tw @ah.eq_1 (tw @hg @ai.eq_1))),?_⟩;refine hN _ _ ?_;clear hN N)|((try apply Or.inl);refine⟨_,aw.x (h2) (sd (tw @ah.eq_1 (tw @hg @ai.eq_1))),?_⟩;refine hN _ _ ?_;clear hN N)))
 exact db (b:=eO l (bB (aY l i).bj d)) (.inl rfl) (sd @Nat.zero_add) rfl
end Go.Proofs.YtgoljkjaameagaaGreat.V

namespace Go.Proofs.YtgoljkjaameagaaGreat.V
def bi (b:Bool):Int:=if b then 1 else 0
def mA (f:Nat->Int):Nat->Int
 |0=>0
 |n+1=>mA f n+f n
theorem iz {f g:Nat->Int}:∀{n:Nat},(∀i,i<n->f i=g i)->mA f n=mA g n
 |0,_=>rfl
 |n+1,h=>by
  simp only[mA]
  rw[iz fun i hi=>h i (by omega),h n (by omega)]
theorem sR {f g:Nat->Int}:∀{n:Nat},(∀i,i<n->f i<=g i)->mA f n<=mA g n
 |0,_=>Int.le_refl _
 |n+1,h=>by
  simp only[mA]
  have:=sR (n:=n) fun i hi=>h i (by omega)
  have:=h n (by omega)
  omega
theorem j6:∀{n:Nat} {f:Nat->Int},(∀i,i<n->f i=0)->mA f n=0
 |0,_,_=>rfl
 |n+1,f,h=>by
  simp only[mA]
  rw[j6 fun i hi=>h i (by omega),h n (by omega)];rfl
theorem p7 {f:Nat->Int} {a:Nat} {d:Int}:∀n,mA (fun i=>f i+if i=a then d else 0) n=mA f n+if a<n then d else 0
 |0=>by simp[mA]
 |n+1=>by
  simp only[mA]
  rw[p7 n]
  by_cases h:n=a
  ·subst h;simp;omega
  ·rw[if_neg h]
   by_cases h2:a<n
   ·rw[if_pos h2,if_pos (by omega)];omega
   ·rw[if_neg h2,if_neg (by omega)];omega
def mL (n:Nat) (S:Nat->Bool) (f:Nat->Nat->Int):Int:=mA (fun u=>mA (fun v=>if S u&& !S v then f u v else 0) n) n
def bump (f:Nat->Nat->Int) (a b:Nat) (d:Int):Nat->Nat->Int:=fun u v=>f u v+if u=a/\v=b then d else 0
theorem pK {n:Nat} {S:Nat->Bool} {f:Nat->Nat->Int} {a b:Nat} {d:Int} (ha:a<n) (hb:b<n):mL n S (bump f a b d)=mL n S f+if S a&& !S b then d else 0:=by
 unfold mL
 have h1:∀u,u<n->mA (fun v=>if S u&& !S v then bump f a b d u v else 0) n=mA (fun v=>if S u&& !S v then f u v else 0) n+if u=a then(if S a&& !S b then d else 0)else 0:=by
  intro u hu
  by_cases h:u=a
  ·subst h
   have h2:∀v,v<n->(if S u&& !S v then bump f u b d u v else 0)=(fun v=>if S u&& !S v then f u v else 0) v+if v=b then(if S u&& !S b then d else 0)else 0:=by
    intro v hv
    unfold bump
    by_cases h3:v=b
    ·subst h3;simp only[and_self,if_true];split<;>omega
    ·simp only[h3,and_false,if_false];split<;>omega
   rw[iz h2,p7,if_pos hb,if_pos rfl]
  ·rw[if_neg h,Int.add_zero]
   refine iz fun v hv=>?_
   unfold bump
   simp[h]
 rw[iz h1,p7,if_pos ha]
theorem ME {n:Nat} {S:Nat->Bool} {f c:Nat->Nat->Int} (h:∀u v,u<n->v<n->f u v<=c u v):mL n S f<=mL n S c:=
 sR fun u hu=>sR fun v hv=>by split;exact h u v hu hv;exact Int.le_refl _
theorem MD {n:Nat} {S:Nat->Bool} {f c:Nat->Nat->Int} (h:∀u v,u<n->v<n->S u=true->S v=false->f u v=c u v):mL n S f=mL n S c:=
 iz fun u hu=>iz fun v hv=>by
  split
  ·rename_i hc
   simp only[Bool.and_eq_true,Bool.not_eq_true']at hc
   exact h u v hu hv hc.1 hc.2
  ·rfl
def kN (f:Nat->Nat->Int) (a b:Nat):Nat->Nat->Int:=bump (bump f a b 1) b a (-1)
theorem Hn {n:Nat} {S:Nat->Bool} {f:Nat->Nat->Int} {a b:Nat} (ha:a<n) (hb:b<n):mL n S (kN f a b)=mL n S f+bi (S a)-bi (S b):=by
 unfold kN
 rw[pK hb ha,pK ha hb]
 cases S a<;>cases S b<;>simp[bi]<;>omega
def mH (f:Nat->Nat->Int):List Nat->Nat->Nat->Int
 |a::b::r=>mH (kN f a b) (b::r)
 |_=>f
def rS (f c:Nat->Nat->Int):List Nat->Prop
 |a::b::r=>f a b<c a b/\rS f c (b::r)
 |_=>True
theorem BD {n:Nat} {S:Nat->Bool}:∀(r:List Nat) (a:Nat) (f:Nat->Nat->Int),(∀x∈a::r,x<n)->mL n S (mH f (a::r))=mL n S f+bi (S a)-bi (S ((a::r).getLast (by simp)))
 |[],a,f,_=>by simp[mH]
 |b::r,a,f,h=>by
  rw[mH,BD r b (kN f a b) fun x hx=>h x (List.mem_cons_of_mem _ hx),Hn (h a (by simp)) (h b (by simp)),List.getLast_cons_cons]
  generalize bi (S b)=q
  omega
theorem rS.less {f g c:Nat->Nat->Int}:∀{p:List Nat},rS f c p->(∀u,u∈p->∀v,g u v<=f u v)->rS g c p
 |[],_,_=>trivial
 |[_],_,_=>trivial
 |a::b::r,h,hl=>⟨Int.lt_of_le_of_lt (hl a (by simp) b) h.1,rS.less (p:=b::r) h.2 fun u hu=>hl u (List.mem_cons_of_mem _ hu)⟩
theorem FZ {n:Nat} {c:Nat->Nat->Int}:∀(p:List Nat) (f:Nat->Nat->Int),p.Nodup->rS f c p->(∀u v,u<n->v<n->f u v<=c u v)->∀u v,u<n->v<n->mH f p u v<=c u v
 |[],f,_,_,h=>h
 |[_],f,_,_,h=>h
 |a::b::r,f,hn,hr,h=>by
  rw[mH]
  have oq:a∉b::r:=(List.nodup_cons.1 hn).1
  refine FZ (b::r) _ (List.nodup_cons.1 hn).2 (hr.2.less fun u hu v=>?_) fun u v hu hv=>?_
  ·unfold kN bump
   have:u≠a:=by rintro rfl;exact oq hu
   simp only[this,false_and,if_false]
   split<;>omega
  ·have h0:=h u v hu hv
   have h1:=hr.1
   unfold kN bump
   by_cases e:u=a/\v=b
   ·obtain⟨rfl,rfl⟩:=e
    rw[if_pos ⟨rfl,rfl⟩];split<;>omega
   ·rw[if_neg e];split<;>omega
structure oH (n:Nat) (c f:Nat->Nat->Int) (x y:Nat) (val:Int):Prop where
 le:∀u v,u<n->v<n->f u v<=c u v
 cut:∀S:Nat->Bool,S x=true->S y=false->mL n S f=val
theorem oH.zero {n:Nat} {c:Nat->Nat->Int} {x y:Nat} (h:∀u v,u<n->v<n->0<=c u v):oH n c (fun _ _=>0) x y 0:=
 ⟨h,fun S _ _=>j6 fun u hu=>j6 fun v hv=>by split<;>rfl⟩
theorem oH.aug {n:Nat} {c f:Nat->Nat->Int} {x y:Nat} {val:Int} (h:oH n c f x y val) {r:List Nat} (hl:(x::r).getLast (by simp)=y) (hn:(x::r).Nodup) (hr:rS f c (x::r)) (hb:∀v∈x::r,v<n):oH n c (mH f (x::r)) x y (val+1):=
 ⟨FZ _ _ hn hr h.le,fun S hx hy=>by rw[BD r x f hb,hl,h.cut S hx hy,hx,hy];simp[bi]⟩
theorem oH.bound {n:Nat} {c f:Nat->Nat->Int} {x y:Nat} {val:Int} (h:oH n c f x y val) {S:Nat->Bool} (hx:S x=true) (hy:S y=false):val<=mL n S c:=by
 rw[<-h.cut S hx hy];exact ME h.le
theorem oH.full {n:Nat} {c f:Nat->Nat->Int} {x y:Nat} {val:Int} (h:oH n c f x y val) {S:Nat->Bool} (hx:S x=true) (hy:S y=false) (hS:∀u v,u<n->v<n->S u=true->S v=false->¬f u v<c u v):val=mL n S c:=by
 rw[<-h.cut S hx hy]
 exact MD fun u v hu hv h1 h2=>by have:=hS u v hu hv h1 h2;have:=h.le u v hu hv;omega
structure PB where
 a:Nat
 b:Nat
 s:Int
 deriving Inhabited
def cZ (bs:List PB) (i:Nat):PB:=bs.getD i default
def ji (S:Nat->Bool) (bs:List PB):Int:=(bs.map fun b=>if S b.a=S b.b then 0 else b.s).sum
def oh (c:Nat->Nat->Int) (b:PB):Nat->Nat->Int:=bump (bump c b.a b.b b.s) b.b b.a b.s
def lE (bs:List PB):Nat->Nat->Int:=bs.foldl oh fun _ _=>0
theorem Fp (bs:List PB) (b:PB):lE (bs++[b])=oh (lE bs) b:=by simp[lE]
theorem BR {n:Nat} {S:Nat->Bool}:∀(bs:List PB) (c:Nat->Nat->Int),(∀b∈bs,b.a<n/\b.b<n)->mL n S (bs.foldl oh c)=mL n S c+ji S bs
 |[],c,_=>by simp[ji]
 |b::bs,c,h=>by
  have hb:=h b (by simp)
  rw[List.foldl_cons,BR bs _ fun x hx=>h x (List.mem_cons_of_mem _ hx)]
  unfold oh ji
  rw[pK hb.2 hb.1,pK hb.1 hb.2,List.map_cons,List.sum_cons]
  cases S b.a<;>cases S b.b<;>simp<;>omega
theorem BS {n:Nat} {S:Nat->Bool} {bs:List PB} (h:∀b∈bs,b.a<n/\b.b<n):mL n S (lE bs)=ji S bs:=by
 rw[lE,BR bs _ h]
 have:mL n S (fun _ _=>0)=0:=j6 fun u hu=>j6 fun v hv=>by split<;>rfl
 omega
theorem AN:∀(bs:List PB) (c:Nat->Nat->Int),(∀b∈bs,0<=b.s)->(∀u v,0<=c u v)->∀u v,0<=bs.foldl oh c u v
 |[],c,_,h=>h
 |b::bs,c,hb,h=>by
  rw[List.foldl_cons]
  refine AN bs _ (fun x hx=>hb x (List.mem_cons_of_mem _ hx)) fun u v=>?_
  have:=hb b (by simp);have:=h u v
  unfold oh bump
  split<;>split<;>omega
theorem room_le:∀(bs:List PB) (c:Nat->Nat->Int) (m:Int),(∀b∈bs,b.s<=4)->(∀u v,c u v<=m)->0<=m->∀u v,bs.foldl oh c u v<=m+8*bs.length
 |[],c,m,_,h,_=>fun u v=>by have:=h u v;simp;omega
 |b::bs,c,m,hb,h,h0=>fun u v=>by
  rw[List.foldl_cons]
  have:=room_le bs (oh c b) (m+8) (fun x hx=>hb x (List.mem_cons_of_mem _ hx)) (fun u v=>by
   have:=hb b (by simp);have:=h u v
   unfold oh bump
   split<;>split<;>omega) (by omega) u v
  simp only[List.length_cons];omega
def kZ (n:Nat) (bs:List PB) (t:Int):Prop:=∀S:Nat->Bool,S 0=true->(∃y,y<n/\S y=false)->t<=ji S bs
def Hl (S:Nat->Bool) (bs:List PB) (f:Nat->Int):Int:=mA (fun i=>f i*(bi (S (cZ bs i).a)-bi (S (cZ bs i).b))) bs.length
structure kd (bs:List PB) (f:Nat->Int) (x y:Nat) (val:Int):Prop where
 le:∀i,i<bs.length->f i<=(cZ bs i).s/\-(cZ bs i).s<=f i
 cut:∀S:Nat->Bool,S x=true->S y=false->Hl S bs f=val
theorem vZ (S:Nat->Bool):∀bs:List PB,ji S bs=mA (fun i=>if S (cZ bs i).a=S (cZ bs i).b then 0 else(cZ bs i).s) bs.length:=by
 intro bs
 have key:∀n,n<=bs.length->ji S (bs.take n)=mA (fun i=>if S (cZ bs i).a=S (cZ bs i).b then 0 else(cZ bs i).s) n:=by
  intro n
  induction n with
  |zero=>intro _;rfl
  |succ n ih=>
   intro h
   have e:cZ bs n=bs[n]:=by simp[cZ,List.getD_eq_getElem?_getD,List.getElem?_eq_getElem (show n<bs.length by omega)]
   rw[List.take_succ_eq_append_getElem (by omega),mA,<-ih (by omega),e]
   unfold ji
   rw[List.map_append,List.sum_append]
   simp only[List.map_cons,List.map_nil,List.sum_cons,List.sum_nil,Int.add_zero]
 have:=key bs.length (Nat.le_refl _)
 rwa [List.take_length]at this
theorem kd.bound {bs:List PB} {f:Nat->Int} {x y:Nat} {val:Int} (h:kd bs f x y val) {S:Nat->Bool} (hx:S x=true) (hy:S y=false):val<=ji S bs:=by
 rw[<-h.cut S hx hy,vZ]
 refine sR fun i hi=>?_
 have:=h.le i hi
 cases S (cZ bs i).a<;>cases S (cZ bs i).b<;>simp[bi]<;>omega
def fY (bs:List PB) (f:Nat->Int) (i u:Nat):Int:=if (cZ bs i).a=u then(cZ bs i).s-f i else(cZ bs i).s+f i
def cw (bs:List PB) (i u:Nat):Nat:=if (cZ bs i).a=u then(cZ bs i).b else(cZ bs i).a
theorem kd.full {bs:List PB} {f:Nat->Int} {x y:Nat} {val:Int} (h:kd bs f x y val) {S:Nat->Bool} (hx:S x=true) (hy:S y=false)
  (hS:∀i,i<bs.length->((cZ bs i).a≠(cZ bs i).b->(S (cZ bs i).a=true->S (cZ bs i).b=false->¬0<fY bs f i (cZ bs i).a)/\(S (cZ bs i).b=true->S (cZ bs i).a=false->¬0<fY bs f i (cZ bs i).b))):val=ji S bs:=by
 rw[<-h.cut S hx hy,vZ]
 refine iz fun i hi=>?_
 have h1:=h.le i hi
 by_cases oq:(cZ bs i).a=(cZ bs i).b
 ·rw[oq];simp
 ·have h2:=hS i hi oq
  unfold fY at h2
  rw[if_pos rfl,if_neg oq]at h2
  cases ha:S (cZ bs i).a<;>cases hb:S (cZ bs i).b<;>rw[ha,hb]at h2<;>simp[bi]at h2 ⊢ <;>omega
def uq (bs:List PB) (f:Nat->Int) (i u:Nat):Nat->Int:=fun j=>f j+if j=i then(if (cZ bs i).a=u then 1 else -1)else 0
theorem Hm {S:Nat->Bool} {bs:List PB} {f:Nat->Int} {i u:Nat} (hi:i<bs.length) (hu:(cZ bs i).a=u∨(cZ bs i).b=u):Hl S bs (uq bs f i u)=Hl S bs f+bi (S u)-bi (S (cw bs i u)):=by
 unfold Hl uq
 have e:∀j,j<bs.length->(f j+if j=i then(if (cZ bs i).a=u then 1 else -1)else 0)*(bi (S (cZ bs j).a)-bi (S (cZ bs j).b))=(fun j=>f j*(bi (S (cZ bs j).a)-bi (S (cZ bs j).b))) j+if j=i then(if (cZ bs i).a=u then 1 else -1)*(bi (S (cZ bs i).a)-bi (S (cZ bs i).b))else 0:=by
  intro j hj
  by_cases h:j=i
  ·subst h;simp only[if_true];rw[Int.add_mul]
  ·simp only[h,if_false];simp
 rw[iz e,p7,if_pos hi]
 unfold cw
 by_cases ha:(cZ bs i).a=u
 ·rw[if_pos ha,if_pos ha,ha];omega
 ·rw[if_neg ha,if_neg ha]
  rcases hu with hu|hu
  ·exact absurd hu ha
  ·rw[hu];omega
theorem pf:∀(n:Nat) (l:List Nat),l.Nodup->(∀x∈l,x<n)->l.length<=n
 |0,l,_,h=>by
  cases l with
  |nil=>simp
  |cons x l=>exact absurd (h x (by simp)) (by omega)
 |n+1,l,hn,h=>by
  have h1:=pf n (l.erase n) (hn.erase _) fun x hx=>by
   have h2:=(hn.mem_erase_iff).1 hx
   have h3:=h x h2.2
   have h4:=h2.1
   omega
  rw[List.length_erase]at h1
  split at h1<;>omega
def eZ (L:Nat->Nat) (b:PB):Nat->Nat:=fun k=>if L k=max (L b.a) (L b.b)then min (L b.a) (L b.b)else L k
def eJ (bs:List PB):Nat->Nat:=bs.foldl eZ id
theorem wQ (bs:List PB) (b:PB):eJ (bs++[b])=eZ (eJ bs) b:=by simp[eJ]
structure jL (L:Nat->Nat):Prop where
 le:∀k,L k<=k
 idem:∀k,L (L k)=L k
theorem jL.step {L:Nat->Nat} (h:jL L) (b:PB):jL (eZ L b):=by
 have ha:=h.idem b.a
 have hb:=h.idem b.b
 refine⟨fun k=>?_,fun k=>?_⟩
 ·have:=h.le k
  unfold eZ
  split<;>omega
 ·have hk:=h.idem k
  have hm:L (min (L b.a) (L b.b))=min (L b.a) (L b.b):=by
   rcases Nat.le_total (L b.a) (L b.b)with h1|h1
   ·rw[Nat.min_eq_left h1,ha]
   ·rw[Nat.min_eq_right h1,hb]
  unfold eZ
  by_cases h1:L k=max (L b.a) (L b.b)
  ·rw[if_pos h1,hm];split<;>rfl
  ·rw[if_neg h1,hk,if_neg h1]
theorem wR:∀(bs:List PB) (L:Nat->Nat),jL L->jL (bs.foldl eZ L)
 |[],_,h=>h
 |b::bs,L,h=>wR bs _ (h.step b)
theorem uk (bs:List PB):jL (eJ bs):=wR bs id ⟨fun _=>Nat.le_refl _,fun _=>rfl⟩
def leads (n:Nat) (L:Nat->Nat):List Nat:=(List.range n).filter fun i=>L i==i
def members (n:Nat) (L:Nat->Nat) (i:Nat):List Nat:=(List.range n).filter fun k=>L k==i
def fQ (n:Nat) (L:Nat->Nat):List (List Nat):=(leads n L).map (members n L)
def cu (L:Nat->Nat) (k:Nat):Nat:=(leads (L k) L).length
theorem gY (n:Nat) (L:Nat->Nat):leads (n+1) L=leads n L++if L n=n then[n]else[]:=by
 unfold leads
 rw[List.range_succ,List.filter_append]
 congr 1
 by_cases h:L n=n<;>simp[h]
theorem jA (n:Nat) (L:Nat->Nat) (i:Nat):members (n+1) L i=members n L i++if L n=i then[n]else[]:=by
 unfold members
 rw[List.range_succ,List.filter_append]
 congr 1
 by_cases h:L n=i<;>simp[h]
theorem nC {L:Nat->Nat} (h:jL L) {n i:Nat} (hn:n<=i):members n L i=[]:=by
 unfold members
 rw[List.filter_eq_nil_iff]
 intro k hk
 have:=h.le k
 have:=List.mem_range.1 hk
 simp;omega
theorem um (n:Nat) (L:Nat->Nat):(leads n L).Nodup:=List.nodup_range.filter _
theorem zd {n:Nat} {L:Nat->Nat} {i:Nat}:i∈leads n L↔i<n/\L i=i:=by simp[leads]
theorem l9 {n:Nat} {L:Nat->Nat} {i k:Nat}:k∈members n L i↔k<n/\L k=i:=by simp[members]
theorem H9 {L:Nat->Nat} {m n:Nat} (h:m<=n):∃r,leads n L=leads m L++r:=by
 obtain⟨d,rfl⟩:=Nat.le.dest h
 clear h
 induction d with
 |zero=>exact⟨[],by simp⟩
 |succ d ih=>
  obtain⟨r,hr⟩:=ih
  exact⟨r++if L (m+d)=m+d then[m+d]else[],by rw[<-Nat.add_assoc,gY,hr,List.append_assoc]⟩
theorem pQ {L:Nat->Nat} (h:jL L) {n k:Nat} (hk:k<n):(leads n L)[cu L k]? =some (L k):=by
 have h1:=h.le k
 obtain⟨r,hr⟩:=H9 (L:=L) (show L k+1<=n by omega)
 rw[hr,gY,if_pos (h.idem k),List.append_assoc]
 unfold cu
 rw[List.getElem?_append_right (Nat.le_refl _),Nat.sub_self];rfl
theorem kn {L:Nat->Nat} (h:jL L) {n k:Nat} (hk:k<n):cu L k<(leads n L).length:=(List.getElem?_eq_some_iff.1 (pQ h hk)).1
theorem tE {L:Nat->Nat} (h:jL L) {n k i:Nat} (hk:k<n) (hi:i<(leads n L).length):k∈members n L (leads n L)[i]↔cu L k=i:=by
 rw[l9]
 have h1:=pQ h hk
 rw[List.getElem?_eq_getElem (kn h hk)]at h1
 injection h1 with h1
 constructor
 ·rintro⟨_,h2⟩
  rw[<-h1]at h2
  exact(List.getElem_inj (um n L)).1 h2
 ·rintro rfl
  exact⟨hk,h1.symm⟩
def dL (L:Nat->Nat) (bs:List PB):List PB:=bs.filterMap fun b=>if cu L b.a=cu L b.b then none else some ⟨cu L b.a,cu L b.b,b.s⟩
def ft (L:Nat->Nat) (bs:List PB):List PB:=bs.filterMap fun b=>if cu L b.a=cu L b.b then none else some ⟨min (cu L b.a) (cu L b.b),max (cu L b.a) (cu L b.b),b.s⟩
theorem AP (L:Nat->Nat) (bs:List PB) (b:PB):dL L (bs++[b])=dL L bs++if cu L b.a=cu L b.b then[]else[⟨cu L b.a,cu L b.b,b.s⟩]:=by
 unfold dL
 rw[List.filterMap_append]
 congr 1
 by_cases h:cu L b.a=cu L b.b<;>simp[h]
theorem AQ (L:Nat->Nat) (bs:List PB) (b:PB):ft L (bs++[b])=ft L bs++if cu L b.a=cu L b.b then[]else[⟨min (cu L b.a) (cu L b.b),max (cu L b.a) (cu L b.b),b.s⟩]:=by
 unfold ft
 rw[List.filterMap_append]
 congr 1
 by_cases h:cu L b.a=cu L b.b<;>simp[h]
theorem th (S:Nat->Bool) (b:PB) (bs:List PB):ji S (b::bs)=(if S b.a=S b.b then 0 else b.s)+ji S bs:=by simp[ji]
theorem yK (S:Nat->Bool) (L:Nat->Nat):∀bs:List PB,ji S (ft L bs)=ji S (dL L bs)
 |[]=>rfl
 |b::bs=>by
  have ih:=yK S L bs
  unfold ft dL at ih ⊢
  rw[List.filterMap_cons,List.filterMap_cons]
  by_cases h:cu L b.a=cu L b.b
  ·simp only[h,if_true];exact ih
  ·simp only[h,if_false]
   rw[th,th,ih]
   congr 1
   simp only
   rcases Nat.le_total (cu L b.a) (cu L b.b)with h1|h1
   ·rw[Nat.min_eq_left h1,Nat.max_eq_right h1]
   ·rw[Nat.min_eq_right h1,Nat.max_eq_left h1]
    cases S (cu L b.a)<;>cases S (cu L b.b)<;>rfl
theorem Fw {L:Nat->Nat} (h:jL L) {n:Nat} {bs:List PB} (hb:∀b∈bs,b.a<n/\b.b<n):∀b∈dL L bs,b.a<(leads n L).length/\b.b<(leads n L).length/\b.a≠b.b/\∃c∈bs,b.s=c.s:=by
 intro b hm
 unfold dL at hm
 obtain⟨c,hc,he⟩:=List.mem_filterMap.1 hm
 split at he
 ·cases he
 ·rename_i ij
  simp only[Option.some.injEq]at he
  subst he
  exact⟨kn h (hb c hc).1,kn h (hb c hc).2,ij,c,hc,rfl⟩
theorem Fx {L:Nat->Nat} (h:jL L) {n:Nat} {bs:List PB} (hb:∀b∈bs,b.a<n/\b.b<n):∀b∈ft L bs,b.a<(leads n L).length/\b.b<(leads n L).length/\b.a≠b.b/\∃c∈bs,b.s=c.s:=by
 intro b hm
 unfold ft at hm
 obtain⟨c,hc,he⟩:=List.mem_filterMap.1 hm
 split at he
 ·cases he
 ·rename_i ij
  simp only[Option.some.injEq]at he
  subst he
  have h1:=kn h (hb c hc).1
  have h2:=kn h (hb c hc).2
  refine⟨by simp only;omega,by simp only;omega,by simp only;omega,c,hc,rfl⟩
theorem nL (L:Nat->Nat) (bs:List PB):(dL L bs).length<=bs.length/\(ft L bs).length<=bs.length:=⟨List.length_filterMap_le ..,List.length_filterMap_le ..⟩
theorem jW (n:Nat) (L:Nat->Nat):(leads n L).length<=n:=by
 have:=List.length_filter_le (fun i=>L i==i) (List.range n)
 simpa[leads]using this
def aV (t:Int) (bs:List PB):List PB:=bs.filter fun b=>decide (t<=b.s)
def pH (n:Nat) (bs:List PB) (t:Int):Prop:=
 (leads n (eJ (aV t bs))).length<=64/\kZ (leads n (eJ (aV t bs))).length (dL (eJ (aV t bs)) bs) t
theorem EN {n:Nat} {L:Nat->Nat} {bs:List PB} {t:Int}:kZ n (ft L bs) t↔kZ n (dL L bs) t:=by
 unfold kZ
 constructor<;>intro h S h0 hy<;>have:=h S h0 hy<;>rw[yK]at *<;>exact this
end Go.Proofs.YtgoljkjaameagaaGreat.V

namespace Go.Proofs.YtgoljkjaameagaaGreat.V
open Go.RowKit
attribute [local irreducible] ek wpOps fK Call
attribute [local go_sem] aI fw eH fE fD dd upd cm K.av cG AV.cells AV.cell rowOf rowsOf part ld rowAt bL bY dx dO gz bE cW dY fC eY dj dS cU cR dG dH bH aZ cJ bG cL cK dQ dU dR cI bJ cV dP bF aL cP cz gy bq cF bI aW dq bm dy AV.undef bw bz dJ dM dD dI cE dX ea cq dW dV cN cQ List.getD_cons_zero List.getD_cons_succ List.getD_nil List.all_cons List.all_nil Bool.and_true Bool.true_and Bool.and_self Bool.not_true Bool.not_false Option.map_some Option.map_none Option.bind_some Option.bind_none List.length_cons List.length_nil List.take_succ_cons List.take_zero List.take_nil List.drop_succ_cons List.drop_zero List.drop_nil List.head?_cons List.map_cons List.map_nil List.getElem?_cons_zero List.getElem?_cons_succ List.cons_append List.nil_append List.append_nil List.length_map List.set_cons_zero List.set_cons_succ Nat.reduceMul eq_self Int.toNat_natCast Int.natCast_nonneg and_self true_and and_true decide_true decide_false Bool.false_eq_true Nat.zero_add Nat.add_zero List.contains_cons List.contains_nil Bool.or_false Bool.false_or beq_self_eq_true Nat.reduceBEq ne_eq not_true_eq_false not_false_eq_true Id.mk.injEq false_and and_false Nat.reduceLT Int.reduceLE Int.reduceLT Int.reduceToNat Int.reduceNeg Int.reduceAdd Nat.le_refl List.length_append beq_true beq_false Bool.not_eq_eq_eq_not or_false false_or dK aq au aH bf bt bZ aU bh aT bc cH bx
def aD (b:PB):List AV:=[.int .i64 b.a,.int .i64 b.b,.int .i64 b.s]
theorem Pv:∀b:PB,(aD b).length=3/\(aD b).all AV.cell=true:=fun _=>⟨rfl,rfl⟩
theorem zY (g:Rows) (n:Nat) (b:PB):de g (n+1) (aD b)=some (aD b):=by simp[aD,aq,au,aH]
theorem uV (g:Rows) (n:Nat) (b:PB):er g (n+1) (aD b)=some (aD b):=by simp[aD,bV,cY,eL]
theorem JM:SB aD (fun c=>.agg (aD c)) 3 true:=⟨fun _=>rfl,fun _=>rfl,fun x g=>by simp only[aD,aq,au,bh,aH,Option.map_some]⟩
def nu (s:ax) (l:List ae) (i:Nat) (d:Int):List PB:=
 if 0<=eO l (bB (aY l i).bj d)/\0<ib s (aY l i).bQ d (aY l (eO l (bB (aY l i).bj d)).toNat).bQ then
  [⟨i,(eO l (bB (aY l i).bj d)).toNat,ib s (aY l i).bQ d (aY l (eO l (bB (aY l i).bj d)).toNat).bQ⟩]else[]
def gC (s:ax) (l:List ae) (i m:Nat):List PB:=(List.range m).flatMap fun j:Nat=>nu s l i (1-(j:Int))
def gU (s:ax) (l:List ae) (n:Nat):List PB:=(List.range n).flatMap fun i=>gC s l i 2
def dh (s:ax) (l:List ae):List PB:=gU s l l.length
theorem qv (s:ax) (l:List ae) (i m:Nat):gC s l i (m+1)=gC s l i m++nu s l i (1-(m:Int)):=by simp[gC,List.range_succ]
theorem r4 (s:ax) (l:List ae) (n:Nat):gU s l (n+1)=gU s l n++gC s l n 2:=by simp[gU,List.range_succ]
theorem D5 (s:ax) (l:List ae) (i:Nat) (d:Int):(nu s l i d).length<=1:=by unfold nu;split<;>simp
theorem rZ (s:ax) (l:List ae) (i m:Nat):(gC s l i m).length<=m:=by
 induction m with
 |zero=>simp[gC]
 |succ m ih=>rw[qv,List.length_append];have:=D5 s l i (1-(m:Int));omega
theorem tV (s:ax) (l:List ae) (n:Nat):(gU s l n).length<=2*n:=by
 induction n with
 |zero=>simp[gU]
 |succ n ih=>rw[r4,List.length_append];have:=rZ s l n 2;omega
def sB:Id->Prop:=fun o=>o.site=124001000∨o.site=124012006
theorem E4 (s:ax) (l:List ae) (hS:je s) (hA:kz s l):aw Tryz.prog 124 [.dp (aa s),.dp [.sl (l.map ah)]] (.sl ((dh s l).map aD)):=by
 refine aw.body eK rfl fun hl n0=>?_
 clear hl
 have hF:=hA.1
 have Cf:=hF.zW
 (try((repeat(revert hN;revert N;apply Pn.out));refine wk @Nat.zero_add ?_;(repeat(refine Pn.mk ?_;intro N hN))))
 refine aX (fun n env st=>∃k:Nat,n=(l.length)-k/\k<=(l.length)/\env 6=.int .i64 (k:Int)/\(nj aD 3 (env 5) st.get sB (gU s l k))) (l.length) ⟨0,by omega,by omega,sl @Nat.zero_add,⟨⟨124001000,n0+1⟩,.inl rfl,by simp only[go_sem, ↓reduceIte,Nat.reduceEqDiff,Nat.reduceAdd,Nat.reduceSub,Nat.reduceLeDiff,reduceCtorEq];rfl,by simp only[go_sem, ↓reduceIte,Nat.reduceEqDiff,Nat.reduceAdd,Nat.reduceSub,Nat.reduceLeDiff,reduceCtorEq];rfl⟩⟩ ?_
 rintro n_a env_a st_a ⟨k,rfl,ale,a6,kC⟩ dC
 have a0:=dC 0 (by kernel_rfl);have a1:=dC 1 (by kernel_rfl)
 simp only[go_sem, ↓reduceIte,Nat.reduceEqDiff,Nat.reduceAdd,Nat.reduceSub,Nat.reduceLeDiff,reduceCtorEq]at a0 a1
 clear dC
 by_cases hk:(k:Int)<(l.length:Int)
 ·have cD:∀{e:Env} {gg:Rows},(e 6=.int .i64 (IntKind.i64.wrap ((k:Int)+1)))->(nj aD 3 (e 5) gg sB (gU s l (k+1)))->∃m0,m0<(l.length)-k/\∃k:Nat,m0=(l.length)-k/\k<=(l.length)/\e 6=.int .i64 (k:Int)/\(nj aD 3 (e 5) gg sB (gU s l k)):=fun x1 x2=>⟨_,by omega,k+1,rfl,by omega,(by rw[x1,az (by omega)]),x2⟩
  have fm:k<l.length:=by omega
  have eU:=fU fm
  have Nq:=tV s l k
  (try((repeat(revert hN;revert N;apply Pn.out));refine wk (tw @a6 (tw @a0 (tw @a1 @hk))) ?_;(repeat(refine Pn.mk ?_;intro N hN))))
  refine aX (fun n env st=>∃m:Nat,n=(2)-m/\m<=(2)/\env 7=(.int .i64 (1-(m:Int)))/\(nj aD 3 (env 5) st.get sB (gU s l k++gC s l k m))) (2) ⟨0,by omega,by omega,sl (tw @a6 (tw @a0 @a1)),by(simp only[go_sem, ↓reduceIte,Nat.reduceEqDiff,Nat.reduceAdd,Nat.reduceSub,Nat.reduceLeDiff,reduceCtorEq];exact kC.cast (by simp[gC]))⟩ ?_
  rintro n_b env_b st_b ⟨m,rfl,ble,b7,bI0⟩ eX
  have b0:=eX 0 (by kernel_rfl);have b1:=eX 1 (by kernel_rfl);have b6:=eX 6 (by kernel_rfl)
  simp only[go_sem, ↓reduceIte,Nat.reduceEqDiff,Nat.reduceAdd,Nat.reduceSub,Nat.reduceLeDiff,reduceCtorEq,a6,a0,a1]at b0 b1 b6
  clear eX
  have I5:=rZ s l k m
  have l6:=qv s l k m
  by_cases hm:(m:Int)<2
  ·have fh:∀{e:Env} {gg:Rows},(e 7=(.int .i64 (1-((m+1):Int))))->(nj aD 3 (e 5) gg sB (gU s l k++gC s l k (m+1)))->∃m0,m0<(2)-m/\∃m:Nat,m0=(2)-m/\m<=(2)/\e 7=(.int .i64 (1-(m:Int)))/\(nj aD 3 (e 5) gg sB (gU s l k++gC s l k m)):=fun x1 x2=>⟨_,by omega,m+1,rfl,by omega,x1,x2⟩
   have rj:(0:Int)<=1-(m:Int):=by omega
   have hd:iP (1-(m:Int)) 0 3=true:=jy (by omega)
   have hw:IntKind.i64.wrap (1-(m:Int)-1)=1-((m:Int)+1):=by rw[bK (by omega)];omega
   have Vs:=yp l hF k (1-(m:Int)) fm hd
   unfold nu at l6
   have hT:=hA.2 _ (ko fm)
   generalize Dy:eO l (bB (aY l k).bj (1-(m:Int)))=ix at *
   by_cases hi:ix<0
   ·rw[if_neg (by omega),List.append_nil]at l6
    (repeat(first|((repeat(revert hN;revert N;apply Pn.out));refine wk (tw @b7 (tw @b0 (tw @b1 (tw @b6 (tw @rj (tw @hw @hi)))))) ?_;(repeat(refine Pn.mk ?_;intro N hN)))|((try apply Or.inl);refine⟨_,aw.x (Vs) (sd (tw @b7 (tw @b0 (tw @b1 (tw @b6 (tw @rj (tw @hw @hi))))))),?_⟩;refine hN _ _ ?_;clear hN N)))
    exact fh (sd (tw @b7 (tw @b0 (tw @b1 (tw @b6 @hw))))) (by(simp only[go_sem, ↓reduceIte,Nat.reduceEqDiff,Nat.reduceAdd,Nat.reduceSub,Nat.reduceLeDiff,reduceCtorEq];exact bI0.cast (by rw[l6])))
   ·have Bi:0<=ix:=by omega
    have QC:=kS (l:=l) (p:=bB (aY l k).bj (1-(m:Int))) (by omega)
    rw[Dy]at QC
    have jm:=fU QC.1
    have yV:=HZ s hS (aY l k).bQ (1-(m:Int)) (aY l ix.toNat).bQ hT (hA.2 _ (ko QC.1)) hd
    generalize Sb:ib s (aY l k).bQ (1-(m:Int)) (aY l ix.toNat).bQ=bv at *
    by_cases hb:0<bv
    ·rw[if_pos ⟨Bi,hb⟩]at l6
     (repeat(first|((repeat(revert hN;revert N;apply Pn.out));refine wa (tw @b7 (tw @b0 (tw @b1 (tw @b6 (tw @rj (tw @hw (tw @hi (tw @Bi (tw @eU (tw @jm (tw @hb @ah.eq_1))))))))))) ?_;(repeat(refine Pn.mk ?_;intro N hN)))|((try apply Or.inl);refine⟨_,aw.x (Vs) (sd (tw @b7 (tw @b0 (tw @b1 (tw @b6 (tw @rj (tw @hw (tw @hi (tw @Bi (tw @eU (tw @jm (tw @hb @ah.eq_1)))))))))))),?_⟩;refine hN _ _ ?_;clear hN N)|((try apply Or.inl);refine⟨_,aw.x (yV) (sd (tw @b7 (tw @b0 (tw @b1 (tw @b6 (tw @rj (tw @hw (tw @hi (tw @Bi (tw @eU (tw @jm (tw @hb @ah.eq_1)))))))))))),?_⟩;refine hN _ _ ?_;clear hN N)))
     refine RA (enc:=aD) (S:=sB) (L:=gU s l k++gC s l k m) (xv:=env_b 5) [⟨k,ix.toNat,bv⟩] rfl rfl (sd @Nat.zero_add) (bI0.frame fun o ho=>by rcases ho with ho|ho<;>simp only[go_sem, ↓reduceIte,Nat.reduceEqDiff,Nat.reduceAdd,Nat.reduceSub,Nat.reduceLeDiff,reduceCtorEq,AR ho]) (sd (tw @aD.eq_1 (Int.toNat_of_nonneg Bi))) Pv (.inr rfl) (by simp only[dy,List.length_append,List.length_cons,List.length_nil];omega) fun v g' hO l5=>?_
     rw[List.append_assoc,<-l6]at hO
     clear l5
     (try((repeat(revert hN;revert N;apply Pn.out));refine wk (tw @b7 (tw @b0 (tw @b1 (tw @b6 @hw)))) ?_;(repeat(refine Pn.mk ?_;intro N hN))))
     exact fh (sd (tw @b7 (tw @b0 (tw @b1 (tw @b6 @hw))))) (by(simp only[go_sem, ↓reduceIte,Nat.reduceEqDiff,Nat.reduceAdd,Nat.reduceSub,Nat.reduceLeDiff,reduceCtorEq];exact hO))
    ·rw[if_neg fun h=>hb h.2,List.append_nil]at l6
     (repeat(first|((repeat(revert hN;revert N;apply Pn.out));refine wk (tw @b7 (tw @b0 (tw @b1 (tw @b6 (tw @rj (tw @hw (tw @hi (tw @Bi (tw @eU (tw @jm (tw @hb @ah.eq_1))))))))))) ?_;(repeat(refine Pn.mk ?_;intro N hN)))|((try apply Or.inl);refine⟨_,aw.x (Vs) (sd (tw @b7 (tw @b0 (tw @b1 (tw @b6 (tw @rj (tw @hw (tw @hi (tw @Bi (tw @eU (tw @jm (tw @hb @ah.eq_1)))))))))))),?_⟩;refine hN _ _ ?_;clear hN N)|((try apply Or.inl);refine⟨_,aw.x (yV) (sd (tw @b7 (tw @b0 (tw @b1 (tw @b6 (tw @rj (tw @hw (tw @hi (tw @Bi (tw @eU (tw @jm (tw @hb @ah.eq_1)))))))))))),?_⟩;refine hN _ _ ?_;clear hN N)))
     exact fh (sd (tw @b7 (tw @b0 (tw @b1 (tw @b6 @hw))))) (by(simp only[go_sem, ↓reduceIte,Nat.reduceEqDiff,Nat.reduceAdd,Nat.reduceSub,Nat.reduceLeDiff,reduceCtorEq];exact bI0.cast (by rw[l6])))
  ·have Gr:m=2:=by omega
   subst Gr
   have eo:¬(0:Int)<=1-((2:Nat):Int):=by omega
   (try((repeat(revert hN;revert N;apply Pn.out));refine wk (tw @b7 (tw @b0 (tw @b1 (tw @b6 @eo)))) ?_;(repeat(refine Pn.mk ?_;intro N hN))))
   exact cD (sd (tw @a6 (tw @a0 (tw @a1 (tw @b7 (tw @b0 (tw @b1 @b6))))))) (by(simp only[go_sem, ↓reduceIte,Nat.reduceEqDiff,Nat.reduceAdd,Nat.reduceSub,Nat.reduceLeDiff,reduceCtorEq];exact bI0.cast (by rw[r4])))
 ·have kM:k=l.length:=by omega
  (try((repeat(revert hN;revert N;apply Pn.out));refine wk (tw @a6 (tw @a0 (tw @a1 @hk))) ?_;(repeat(refine Pn.mk ?_;intro N hN))))
  exact xt (.inl rfl) (by simp only[go_sem, ↓reduceIte,Nat.reduceEqDiff,Nat.reduceAdd,Nat.reduceSub,Nat.reduceLeDiff,reduceCtorEq];rfl) (by rw[kM]at kC;exact kC.gq fun b=>uV _ _ b)
theorem CE (a b:Nat):aw Tryz.prog 192 [.int .i64 a,.int .i64 b] (.int .i64 (min a b:Nat)):=by
 refine aw.body eK rfl fun hl n0=>?_
 clear hl
 by_cases h:(a:Int)<(b:Int)
 ·(try((repeat(revert hN;revert N;apply Pn.out));refine wk @h ?_;(repeat(refine Pn.mk ?_;intro N hN))))
  exact db (b:=(a:Int)) (.inl rfl) (sd @Nat.zero_add) (by omega)
 ·(try((repeat(revert hN;revert N;apply Pn.out));refine wk @h ?_;(repeat(refine Pn.mk ?_;intro N hN))))
  exact db (b:=(b:Int)) (.inl rfl) (sd @Nat.zero_add) (by omega)
theorem CD (a b:Nat):aw Tryz.prog 191 [.int .i64 a,.int .i64 b] (.int .i64 (max a b:Nat)):=by
 refine aw.body eK rfl fun hl n0=>?_
 clear hl
 by_cases h:(b:Int)<(a:Int)
 ·(try((repeat(revert hN;revert N;apply Pn.out));refine wk @h ?_;(repeat(refine Pn.mk ?_;intro N hN))))
  exact db (b:=(a:Int)) (.inl rfl) (sd @Nat.zero_add) (by omega)
 ·(try((repeat(revert hN;revert N;apply Pn.out));refine wk @h ?_;(repeat(refine Pn.mk ?_;intro N hN))))
  exact db (b:=(b:Int)) (.inl rfl) (sd @Nat.zero_add) (by omega)
def ef (f:Nat->Nat) (n:Nat):List (List AV):=(List.range n).map fun i=>eN (f i)
theorem gF (f:Nat->Nat) (n:Nat):(ef f n).length=n:=by simp[ef]
theorem fH {f:Nat->Nat} {n i:Nat} (h:i<n):(ef f n)[i]? =some (eN (f i)):=by simp[ef,h]
theorem ik {f g:Nat->Nat} {n:Nat} (h:∀i,i<n->f i=g i):ef f n=ef g n:=List.map_congr_left fun i hi=>by rw[h i (List.mem_range.1 hi)]
theorem p9 {f g:Nat->Nat} {n k v:Nat} (hk:k<n) (hv:g k=v) (h:∀i,i<n->i≠k->g i=f i):(ef f n).set k (eN v)=ef g n:=by
 refine List.ext_getElem? fun i=>?_
 rw[List.getElem?_set]
 by_cases hi:k=i
 ·subst hi
  rw[if_pos rfl,gF,if_pos hk,fH hk,hv]
 ·rw[if_neg hi]
  by_cases fI:i<n
  ·rw[fH fI,fH fI,h i fI (fun h=>hi h.symm)]
  ·rw[List.getElem?_eq_none (by rw[gF];omega),List.getElem?_eq_none (by rw[gF];omega)]
theorem CF (cnt:Nat) (hn:cnt<=1048576) (bs:List PB) (hb:∀b∈bs,b.a<cnt/\b.b<cnt) (od:bs.length<=1048576):aw Tryz.prog 125 [.int .i64 cnt,.sl (bs.map aD)] (.sl ((fQ cnt (eJ bs)).map Be)):=by
 refine aw.body eK rfl fun hl n0=>?_
 clear hl
 (try((repeat(revert hN;revert N;apply Pn.out));refine wk @Nat.zero_add ?_;(repeat(refine Pn.mk ?_;intro N hN))))
 refine aX (fun n env st=>∃k:Nat,n=(cnt)-k/\k<=(cnt)/\env 6=.int .i64 (k:Int)/\(∃o:Id,env 5=.own o 0 k/\st.get o=some ⟨true,1,ef id k⟩/\o.br<st.next)) (cnt) ⟨0,by omega,by omega,sl @Nat.zero_add,⟨⟨125001000,n0+1⟩,sd @Nat.zero_add,by simp only[go_sem, ↓reduceIte,Nat.reduceEqDiff,Nat.reduceAdd,Nat.reduceSub,Nat.reduceLeDiff,reduceCtorEq];rfl,by(try dsimp only);omega⟩⟩ ?_
 rintro n_a env_a st_a ⟨k,rfl,ale,a6,kC⟩ dC
 have a0:=dC 0 (by kernel_rfl);have a1:=dC 1 (by kernel_rfl)
 simp only[go_sem, ↓reduceIte,Nat.reduceEqDiff,Nat.reduceAdd,Nat.reduceSub,Nat.reduceLeDiff,reduceCtorEq]at a0 a1
 clear dC
 obtain⟨o,a5,ag,pO⟩:=kC
 have tl:=gF id k
 have rz:=dr pO
 by_cases hk:(k:Int)<(cnt:Int)
 ·have cD:∀{e:Env} {gg:Rows} {nx:Nat},(e 6=.int .i64 (IntKind.i64.wrap ((k:Int)+1)))->(∃o:Id,e 5=.own o 0 (k+1)/\gg o=some ⟨true,1,ef id (k+1)⟩/\o.br<nx)->∃m0,m0<(cnt)-k/\∃k:Nat,m0=(cnt)-k/\k<=(cnt)/\e 6=.int .i64 (k:Int)/\(∃o:Id,e 5=.own o 0 k/\gg o=some ⟨true,1,ef id k⟩/\o.br<nx):=fun x1 x2=>⟨_,by omega,k+1,rfl,by omega,(by rw[x1,az (by omega)]),x2⟩
  have fm:k<cnt:=by omega
  have e1:k+1<=16777216:=by omega
  have qn:ef id k++[[.int .i64 (k:Int)]]=ef id (k+1):=by simp[ef,List.range_succ,eN]
  (try((repeat(revert hN;revert N;apply Pn.out));refine wk (tw @a6 (tw @a0 (tw @a1 (tw @a5 (tw @ag (tw @rz (tw @hk (tw @tl (tw @e1 @qn))))))))) ?_;(repeat(refine Pn.mk ?_;intro N hN))))
  exact cD (sd (tw @a6 (tw @a0 @a1))) (⟨⟨125005003,st_a.next+1⟩,sd @Nat.zero_add,sd @qn,by(try dsimp only);omega⟩)
 have kM:k=cnt:=by omega
 subst kM
 have Xt:st_a.get o=some ⟨true,1,ef (eJ (bs.take 0)) k⟩:=ag
 clear ag
 (try((repeat(revert hN;revert N;apply Pn.out));refine wk (tw @a6 (tw @a0 (tw @a1 @hk))) ?_;(repeat(refine Pn.mk ?_;intro N hN))))
 refine aX (fun n env st=>∃j:Nat,n=(bs.length)-j/\j<=(bs.length)/\env 7=.int .i64 (j:Int)/\st.get o=some ⟨true,1,ef (eJ (bs.take j)) k⟩/\(o.br<st.next)) (bs.length) ⟨0,by omega,by omega,sl (tw @a6 (tw @a0 (tw @a1 (tw @a5 @Xt)))),sl (tw @a6 (tw @a0 (tw @a1 (tw @a5 @Xt)))),(by(try dsimp only);omega)⟩ ?_
 rintro n_b env_b st_b ⟨j,rfl,ble,b7,bg0,bI0⟩ eX
 have b0:=eX 0 (by kernel_rfl);have b1:=eX 1 (by kernel_rfl);have b5:=eX 5 (by kernel_rfl)
 simp only[go_sem, ↓reduceIte,Nat.reduceEqDiff,Nat.reduceAdd,Nat.reduceSub,Nat.reduceLeDiff,reduceCtorEq,a6,a0,a1,a5,Xt]at b0 b1 b5
 clear eX
 by_cases hj:(j:Int)<(bs.length:Int)
 ·have fh:∀{e:Env} {gg:Rows} {nx:Nat},(e 7=.int .i64 (IntKind.i64.wrap ((j:Int)+1)))->(gg o=some ⟨true,1,ef (eJ (bs.take (j+1))) k⟩)->(o.br<nx)->∃m0,m0<(bs.length)-j/\∃j:Nat,m0=(bs.length)-j/\j<=(bs.length)/\e 7=.int .i64 (j:Int)/\gg o=some ⟨true,1,ef (eJ (bs.take j)) k⟩/\(o.br<nx):=fun x1 x2 x3=>⟨_,by omega,j+1,rfl,by omega,(by rw[x1,az (by omega)]),x2,x3⟩
  have gW:j<bs.length:=by omega
  have Ai:(bs.map aD)[j]? =some (aD bs[j]):=by simp[gW]
  have M0:=hb _ (List.getElem_mem gW)
  have lR:bs.take (j+1)=bs.take j++[bs[j]]:=List.take_succ_eq_append_getElem gW
  have l6:eJ (bs.take (j+1))=eZ (eJ (bs.take j)) bs[j]:=by rw[lR,wQ]
  generalize eJ (bs.take j)=L at *
  generalize bs[j]=b at *
  have hA:=fH (f:=L) M0.1
  have hB:=fH (f:=L) M0.2
  have U9:=CE (L b.a) (L b.b)
  have Va:=CD (L b.a) (L b.b)
  have tl:=gF L k
  have gQ:(b.a:Int)<(k:Int):=by omega
  have fJ:(b.b:Int)<(k:Int):=by omega
  (try((repeat(revert hN;revert N;apply Pn.out));refine wk (tw @b7 (tw @bg0 (tw @b0 (tw @b1 (tw @b5 (tw @hj (tw @Ai (tw @aD.eq_1 (tw @hA (tw @hB (tw @gQ (tw @fJ (tw @tl @eN.eq_1))))))))))))) ?_;(repeat(refine Pn.mk ?_;intro N hN))))
  refine aX (fun n env st=>∃i:Nat,n=(k)-i/\i<=(k)/\env 10=.int .i64 (i:Int)/\st.get o=some ⟨true,1,ef (fun x=>if x<i then eZ L b x else L x) k⟩/\(o.br<st.next)) (k) ⟨0,by omega,by omega,sl (tw @b7 (tw @bg0 (tw @b0 (tw @b1 (tw @b5 @Nat.not_lt_zero))))),sl (tw @b7 (tw @bg0 (tw @b0 (tw @b1 (tw @b5 @Nat.not_lt_zero))))),(by(try dsimp only);omega)⟩ ?_
  rintro n_c env_c st_c ⟨i,rfl,cle,jG,cg0,cI0⟩ iO
  have c0:=iO 0 (by kernel_rfl);have c1:=iO 1 (by kernel_rfl);have c5:=iO 5 (by kernel_rfl);have c7:=iO 7 (by kernel_rfl);have c8:=iO 8 (by kernel_rfl);have c9:=iO 9 (by kernel_rfl)
  simp only[go_sem, ↓reduceIte,Nat.reduceEqDiff,Nat.reduceAdd,Nat.reduceSub,Nat.reduceLeDiff,reduceCtorEq,b7,bg0,b0,b1,b5,Nat.not_lt_zero]at c0 c1 c5 c7 c8 c9
  clear iO
  have hC:=fH (f:=fun x=>if x<i then eZ L b x else L x) (n:=k) (i:=i)
  have tc:=gF (fun x=>if x<i then eZ L b x else L x) k
  by_cases hi:(i:Int)<(k:Int)
  ·have gN:∀{e:Env} {gg:Rows} {nx:Nat},(e 10=.int .i64 (IntKind.i64.wrap ((i:Int)+1)))->(gg o=some ⟨true,1,ef (fun x=>if x<(i+1)then eZ L b x else L x) k⟩)->(o.br<nx)->∃m0,m0<(k)-i/\∃i:Nat,m0=(k)-i/\i<=(k)/\e 10=.int .i64 (i:Int)/\gg o=some ⟨true,1,ef (fun x=>if x<i then eZ L b x else L x) k⟩/\(o.br<nx):=fun x1 x2 x3=>⟨_,by omega,i+1,rfl,by omega,(by rw[x1,az (by omega)]),x2,x3⟩
   have fI:i<k:=by omega
   replace hC:=hC fI
   rw[if_neg (Nat.lt_irrefl i)]at hC
   by_cases he:L i=max (L b.a) (L b.b)
   ·have xS:decide ((L i:Int)=((max (L b.a) (L b.b):Nat):Int))=true:=decide_eq_true (by rw[he])
    have eC:(ef (fun x=>if x<i then eZ L b x else L x) k).set i (eN (min (L b.a) (L b.b)))=ef (fun x=>if x<i+1 then eZ L b x else L x) k:=p9 fI (by rw[if_pos (by omega),eZ,if_pos he]) fun x hx DF=>by
     by_cases h:x<i
     ·rw[if_pos h,if_pos (by omega)]
     ·rw[if_neg h,if_neg (by omega)]
    rw[eN]at eC hC
    (repeat(first|((repeat(revert hN;revert N;apply Pn.out));refine wk (tw @jG (tw @cg0 (tw @c0 (tw @c1 (tw @c5 (tw @c7 (tw @c8 (tw @c9 (tw @hi (tw @hC (tw @tc (tw @xS @eC)))))))))))) ?_;(repeat(refine Pn.mk ?_;intro N hN)))|((try apply Or.inl);refine⟨_,aw.x (U9) (sd (tw @jG (tw @cg0 (tw @c0 (tw @c1 (tw @c5 (tw @c7 (tw @c8 (tw @c9 (tw @hi (tw @hC (tw @tc (tw @xS @eC))))))))))))),?_⟩;refine hN _ _ ?_;clear hN N)|((try apply Or.inl);refine⟨_,aw.x (Va) (sd (tw @jG (tw @cg0 (tw @c0 (tw @c1 (tw @c5 (tw @c7 (tw @c8 (tw @c9 (tw @hi (tw @hC (tw @tc (tw @xS @eC))))))))))))),?_⟩;refine hN _ _ ?_;clear hN N)))
    refine gN ?_ ?_ (by(try dsimp only);omega)
    all_goals simp only[go_sem, ↓reduceIte,Nat.reduceEqDiff,Nat.reduceAdd,Nat.reduceSub,Nat.reduceLeDiff,reduceCtorEq,jG,cg0,c0,c1,c5,c7,c8,c9]
   ·have xS:decide ((L i:Int)=((max (L b.a) (L b.b):Nat):Int))=false:=decide_eq_false fun h=>he (by omega)
    have mN:ef (fun x=>if x<i then eZ L b x else L x) k=ef (fun x=>if x<i+1 then eZ L b x else L x) k:=ik fun x hx=>by
     by_cases h:x<i
     ·rw[if_pos h,if_pos (by omega)]
     ·by_cases DF:x=i
      ·subst DF;rw[if_neg h,if_pos (by omega),eZ,if_neg he]
      ·rw[if_neg h,if_neg (by omega)]
    rw[eN]at hC
    (repeat(first|((repeat(revert hN;revert N;apply Pn.out));refine wk (tw @jG (tw @cg0 (tw @c0 (tw @c1 (tw @c5 (tw @c7 (tw @c8 (tw @c9 (tw @hi (tw @hC (tw @tc @xS))))))))))) ?_;(repeat(refine Pn.mk ?_;intro N hN)))|((try apply Or.inl);refine⟨_,aw.x (U9) (sd (tw @jG (tw @cg0 (tw @c0 (tw @c1 (tw @c5 (tw @c7 (tw @c8 (tw @c9 (tw @hi (tw @hC (tw @tc @xS)))))))))))),?_⟩;refine hN _ _ ?_;clear hN N)|((try apply Or.inl);refine⟨_,aw.x (Va) (sd (tw @jG (tw @cg0 (tw @c0 (tw @c1 (tw @c5 (tw @c7 (tw @c8 (tw @c9 (tw @hi (tw @hC (tw @tc @xS)))))))))))),?_⟩;refine hN _ _ ?_;clear hN N)))
    rw[mN]at cg0
    refine gN ?_ ?_ (by(try dsimp only);omega)
    all_goals simp only[go_sem, ↓reduceIte,Nat.reduceEqDiff,Nat.reduceAdd,Nat.reduceSub,Nat.reduceLeDiff,reduceCtorEq,jG,cg0,c0,c1,c5,c7,c8,c9]
  ·have u7:i=k:=by omega
   subst u7
   have eh:ef (fun x=>if x<i then eZ L b x else L x) i=ef (eZ L b) i:=ik fun x hx=>if_pos hx
   rw[eh]at cg0
   rw[<-l6]at cg0
   (try((repeat(revert hN;revert N;apply Pn.out));refine wk (tw @jG (tw @cg0 (tw @c0 (tw @c1 (tw @c5 (tw @c7 (tw @c8 (tw @c9 (tw @hi @tc))))))))) ?_;(repeat(refine Pn.mk ?_;intro N hN))))
   refine fh ?_ ?_ (by(try dsimp only);omega)
   all_goals simp only[go_sem, ↓reduceIte,Nat.reduceEqDiff,Nat.reduceAdd,Nat.reduceSub,Nat.reduceLeDiff,reduceCtorEq,b7,bg0,b0,b1,b5,jG,cg0,c0,c1,c5,c7,c8,c9]
 have gT:j=bs.length:=by omega
 subst gT
 rw[List.take_length]at bg0
 have hL:=uk bs
 generalize eJ bs=L at *
 have tl:=gF L k
 (try((repeat(revert hN;revert N;apply Pn.out));refine wk (tw @b7 (tw @bg0 (tw @b0 (tw @b1 (tw @b5 @hj))))) ?_;(repeat(refine Pn.mk ?_;intro N hN))))
 have QL:o.br<st_b.next:=bI0
 refine aX (fun n env st=>∃i:Nat,n=(k)-i/\i<=(k)/\env 12=.int .i64 (i:Int)/\st.get o=some ⟨true,1,ef L k⟩/\(∃oo rows ids,env 11=.own oo 0 rows.length/\st.get oo=some ⟨true,1,rows⟩/\dE RY st.get rows ((leads i L).map (members k L)) ids/\(∀x∈oo::ids,st_b.next<=x.br/\x.br<st.next)/\st_b.next<=st.next/\oo∉ids)) (k) ⟨0,by omega,by omega,sl (tw @b7 (tw @bg0 (tw @b0 (tw @b1 (tw @b5 (dr QL)))))),sl (tw @b7 (tw @bg0 (tw @b0 (tw @b1 (tw @b5 (dr QL)))))),⟨⟨125016000,st_b.next+1⟩,[],[],by(simp only[go_sem, ↓reduceIte,Nat.reduceEqDiff,Nat.reduceAdd,Nat.reduceSub,Nat.reduceLeDiff,reduceCtorEq])<;>rfl,sd @Nat.zero_add,.nil,fun x hx=>by rw[List.mem_singleton.1 hx];(try dsimp only);omega,by(try dsimp only);omega,by simp⟩⟩ ?_
 rintro n_d env_d st_d ⟨i,rfl,dle,d12,dg0,dI0⟩ dfr
 have d0:=dfr 0 (by kernel_rfl);have d5:=dfr 5 (by kernel_rfl)
 simp only[go_sem, ↓reduceIte,Nat.reduceEqDiff,Nat.reduceAdd,Nat.reduceSub,Nat.reduceLeDiff,reduceCtorEq,b7,bg0,b0,b1,b5,dr QL]at d0 d5
 clear dfr
 obtain⟨oo,rows,ids,d11,dg,hR,oy,hle,qx⟩:=dI0
 have qn:=gY i L
 have pP:=hR.len
 by_cases hi:(i:Int)<(k:Int)
 ·have uo:∀{e:Env} {gg:Rows} {nx:Nat},(e 12=.int .i64 (IntKind.i64.wrap ((i:Int)+1)))->(gg o=some ⟨true,1,ef L k⟩)->(∃oo rows ids,e 11=.own oo 0 rows.length/\gg oo=some ⟨true,1,rows⟩/\dE RY gg rows ((leads (i+1) L).map (members k L)) ids/\(∀x∈oo::ids,st_b.next<=x.br/\x.br<nx)/\st_b.next<=nx/\oo∉ids)->∃m0,m0<(k)-i/\∃i:Nat,m0=(k)-i/\i<=(k)/\e 12=.int .i64 (i:Int)/\gg o=some ⟨true,1,ef L k⟩/\(∃oo rows ids,e 11=.own oo 0 rows.length/\gg oo=some ⟨true,1,rows⟩/\dE RY gg rows ((leads i L).map (members k L)) ids/\(∀x∈oo::ids,st_b.next<=x.br/\x.br<nx)/\st_b.next<=nx/\oo∉ids):=fun x1 x2 x3=>⟨_,by omega,i+1,rfl,by omega,(by rw[x1,az (by omega)]),x2,x3⟩
  have fI:i<k:=by omega
  have hC:=fH (f:=L) fI
  have kW:=dr (i:=o) (n:=st_d.next) (by omega)
  have T8:=dr (i:=oo) (n:=st_d.next) (oy oo (by simp)).2
  by_cases he:L i=i
  ·rw[if_pos he]at qn
   have xS:decide ((L i:Int)=(i:Int))=true:=decide_eq_true (by rw[he])
   rw[eN]at hC
   (try((repeat(revert hN;revert N;apply Pn.out));refine wk (tw @d12 (tw @dg0 (tw @d0 (tw @d5 (tw @d11 (tw @dg (tw @hi (tw @hC (tw @tl (tw @xS (tw @kW @T8))))))))))) ?_;(repeat(refine Pn.mk ?_;intro N hN))))
   refine aX (fun n env st=>∃m:Nat,n=((k-i))-m/\m<=((k-i))/\env 14=(.int .i64 ((i+m:Nat):Int))/\(∃pp:Id,env 13=.own pp 0 (members (i+m) L i).length/\st.get pp=some ⟨true,1,(members (i+m) L i).map eN⟩/\st_d.next<=pp.br/\pp.br<st.next/\(∀x:Id,x.br<st_d.next->st.get x=st_d.get x)/\st_d.next<=st.next)) ((k-i)) ⟨0,by omega,by omega,sl (tw @d12 (tw @dg0 (tw @d0 (tw @d5 @d11)))),⟨⟨125021000,st_d.next+1+1⟩,by rw[show members (i+0) L i=[]from nC hL (Nat.le_refl i)];(simp only[go_sem, ↓reduceIte,Nat.reduceEqDiff,Nat.reduceAdd,Nat.reduceSub,Nat.reduceLeDiff,reduceCtorEq])<;>rfl,by rw[show members (i+0) L i=[]from nC hL (Nat.le_refl i)];(simp only[go_sem, ↓reduceIte,Nat.reduceEqDiff,Nat.reduceAdd,Nat.reduceSub,Nat.reduceLeDiff,reduceCtorEq])<;>rfl,by(try dsimp only);omega,by(try dsimp only);omega,fun x hx=>sd (dr hx),by(try dsimp only);omega⟩⟩ ?_
   rintro n_f env_f st_f ⟨m,rfl,fle,f14,fI0⟩ ffr
   have f0:=ffr 0 (by kernel_rfl);have f5:=ffr 5 (by kernel_rfl);have f11:=ffr 11 (by kernel_rfl);have f12:=ffr 12 (by kernel_rfl)
   simp only[go_sem, ↓reduceIte,Nat.reduceEqDiff,Nat.reduceAdd,Nat.reduceSub,Nat.reduceLeDiff,reduceCtorEq,d12,dg0,d0,d5,d11]at f0 f5 f11 f12
   clear ffr
   obtain⟨pp,f13,fg,QP,Kn,l5,pN⟩:=fI0
   have uL:st_f.get o=some ⟨true,1,ef L k⟩:=(l5 o (by omega)).trans dg0
   have W7:st_f.get oo=some ⟨true,1,rows⟩:=(l5 oo (oy oo (by simp)).2).trans dg
   have Bl:=dr Kn
   have Cu:=dr (i:=o) (n:=st_f.next) (by omega)
   have T9:=dr (i:=oo) (n:=st_f.next) (by have:=(oy oo (by simp)).2;omega)
   have QJ:members (i+(m+1)) L i=members (i+m) L i++if L (i+m)=i then[i+m]else[]:=jA (i+m) L i
   have Xj:(members (i+m) L i).length<=i+m:=by
    have:=List.length_filter_le (fun k=>L k==i) (List.range (i+m))
    simpa[members]using this
   have x1:=da (a:=o) (b:=pp) (by omega)
   have x2:=da (a:=oo) (b:=pp) (by have:=(oy oo (by simp)).2;omega)
   have x3:=da (a:=o) (b:=oo) (by have:=(oy oo (by simp)).1;omega)
   by_cases hm:m<k-i
   ·have sJ:∀{e:Env} {gg:Rows} {nx:Nat},(e 14=(.int .i64 ((i+(m+1):Nat):Int)))->(∃pp:Id,e 13=.own pp 0 (members (i+(m+1)) L i).length/\gg pp=some ⟨true,1,(members (i+(m+1)) L i).map eN⟩/\st_d.next<=pp.br/\pp.br<nx/\(∀x:Id,x.br<st_d.next->gg x=st_d.get x)/\st_d.next<=nx)->∃m0,m0<((k-i))-m/\∃m:Nat,m0=((k-i))-m/\m<=((k-i))/\e 14=(.int .i64 ((i+m:Nat):Int))/\(∃pp:Id,e 13=.own pp 0 (members (i+m) L i).length/\gg pp=some ⟨true,1,(members (i+m) L i).map eN⟩/\st_d.next<=pp.br/\pp.br<nx/\(∀x:Id,x.br<st_d.next->gg x=st_d.get x)/\st_d.next<=nx):=fun x1 x2=>⟨_,by omega,m+1,rfl,by omega,x1,x2⟩
    have TN:((i+m:Nat):Int)<(k:Int):=by omega
    have Wr:=fH (f:=L) (show i+m<k by omega)
    have hw:IntKind.i64.wrap (((i+m:Nat):Int)+1)=((i+(m+1):Nat):Int):=by rw[bK (by omega)];omega
    rw[eN]at Wr
    by_cases hq:L (i+m)=i
    ·have mM:decide ((L (i+m):Int)=(i:Int))=true:=decide_eq_true (by rw[hq])
     rw[if_pos hq]at QJ
     have e1:(members (i+m) L i).length+1<=16777216:=by omega
     have gR:((members (i+m) L i).map eN).length=(members (i+m) L i).length:=by simp
     (try((repeat(revert hN;revert N;apply Pn.out));refine wk (tw @f14 (tw @f0 (tw @f5 (tw @f11 (tw @f12 (tw @f13 (tw @fg (tw @uL (tw @TN (tw @Wr (tw @tl (tw @mM (tw @Bl (tw @Cu (tw @x1 (tw @e1 @gR)))))))))))))))) ?_;(repeat(refine Pn.mk ?_;intro N hN))))
     exact sJ (sd (tw @f14 (tw @f0 (tw @f5 (tw @f11 (tw @f12 (tw @uL (tw @hw (tw @Cu @x1))))))))) (⟨⟨125026003,st_f.next+1+1⟩,by rw[QJ,List.length_append];simp only[go_sem, ↓reduceIte,Nat.reduceEqDiff,Nat.reduceAdd,Nat.reduceSub,Nat.reduceLeDiff,reduceCtorEq,List.length_cons,List.length_nil],by rw[QJ,List.map_append,List.map_cons,List.map_nil];simp only[go_sem, ↓reduceIte,Nat.reduceEqDiff,Nat.reduceAdd,Nat.reduceSub,Nat.reduceLeDiff,reduceCtorEq,eN],by(try dsimp only);omega,by(try dsimp only);omega,fun x hx=>by
      have y1:=l5 x hx
      have y2:=da (a:=x) (b:=pp) (by omega)
      simp only[go_sem, ↓reduceIte,Nat.reduceEqDiff,Nat.reduceAdd,Nat.reduceSub,Nat.reduceLeDiff,reduceCtorEq,dr (show x.br<st_f.next by omega),y1,y2],by(try dsimp only);omega⟩)
    ·have mM:decide ((L (i+m):Int)=(i:Int))=false:=decide_eq_false fun h=>hq (by omega)
     rw[if_neg hq,List.append_nil]at QJ
     (try((repeat(revert hN;revert N;apply Pn.out));refine wk (tw @f14 (tw @f0 (tw @f5 (tw @f11 (tw @f12 (tw @f13 (tw @fg (tw @uL (tw @TN (tw @Wr (tw @tl (tw @mM (tw @Bl (tw @Cu @x1)))))))))))))) ?_;(repeat(refine Pn.mk ?_;intro N hN))))
     exact sJ (sd (tw @f14 (tw @f0 (tw @f5 (tw @f11 (tw @f12 (tw @uL @hw))))))) (⟨pp,by rw[QJ];simp only[go_sem, ↓reduceIte,Nat.reduceEqDiff,Nat.reduceAdd,Nat.reduceSub,Nat.reduceLeDiff,reduceCtorEq,f13],by rw[QJ];simp only[go_sem, ↓reduceIte,Nat.reduceEqDiff,Nat.reduceAdd,Nat.reduceSub,Nat.reduceLeDiff,reduceCtorEq,fg],QP,by(try dsimp only);omega,l5,by(try dsimp only);omega⟩)
   ·have hmk:i+m=k:=by omega
    have TN:¬((i+m:Nat):Int)<(k:Int):=by omega
    rw[hmk]at f13 fg Xj
    have e1:rows.length+1<=16777216:=by
     have:=jW i L
     rw[pP,List.length_map];omega
    (try((repeat(revert hN;revert N;apply Pn.out));refine wk (tw @f14 (tw @f0 (tw @f5 (tw @f11 (tw @f12 (tw @f13 (tw @fg (tw @uL (tw @W7 (tw @TN (tw @Bl (tw @Cu (tw @T9 (tw @x1 (tw @x2 @e1))))))))))))))) ?_;(repeat(refine Pn.mk ?_;intro N hN))))
    refine uo ?_ ?_ (⟨⟨125027003,st_f.next+1⟩,rows++[[.own pp 0 (members k L i).length]],ids++[pp],by rw[List.length_append];simp only[go_sem, ↓reduceIte,Nat.reduceEqDiff,Nat.reduceAdd,Nat.reduceSub,Nat.reduceLeDiff,reduceCtorEq,List.length_cons,List.length_nil],sd @Nat.zero_add,by
      rw[qn,List.map_append]
      refine(hR.frame Ra fun x hx=>?_).app (.one ⟨pp,rfl,?_,rfl⟩)
      ·have h1:=oy x (by simp[hx])
       have y1:=l5 x h1.2
       have y2:=da (a:=x) (b:=pp) (by omega)
       have y3:(x=oo)=False:=by
        simp only[eq_iff_iff,iff_false]
        rintro rfl
        exact qx hx
       simp only[go_sem, ↓reduceIte,Nat.reduceEqDiff,Nat.reduceAdd,Nat.reduceSub,Nat.reduceLeDiff,reduceCtorEq,dr (show x.br<st_f.next by omega),y1,y2,y3]
      ·simp only[go_sem, ↓reduceIte,Nat.reduceEqDiff,Nat.reduceAdd,Nat.reduceSub,Nat.reduceLeDiff,reduceCtorEq,Bl,x2,fg],fun x hx=>by
      rcases List.mem_cons.1 hx with rfl|hx
      ·(try dsimp only);omega
      ·rcases List.mem_append.1 hx with hx|hx
       ·have:=oy x (by simp[hx]);(try dsimp only);omega
       ·rw[List.mem_singleton.1 hx];(try dsimp only);omega,by(try dsimp only);omega,fun hc=>by
      rcases List.mem_append.1 hc with hc|hc
      ·have:=(oy _ (List.mem_cons_of_mem _ hc)).2;(try dsimp only at this);omega
      ·have:=List.mem_singleton.1 hc;rw[<-this]at Kn;(try dsimp only at Kn);omega⟩)
    all_goals simp only[go_sem, ↓reduceIte,Nat.reduceEqDiff,Nat.reduceAdd,Nat.reduceSub,Nat.reduceLeDiff,reduceCtorEq,f14,f0,f5,f11,f12,uL,Cu,x3]
  ·rw[if_neg he,List.append_nil]at qn
   have xS:decide ((L i:Int)=(i:Int))=false:=decide_eq_false fun h=>he (by omega)
   rw[eN]at hC
   (try((repeat(revert hN;revert N;apply Pn.out));refine wk (tw @d12 (tw @dg0 (tw @d0 (tw @d5 (tw @d11 (tw @dg (tw @hi (tw @hC (tw @tl (tw @xS (tw @kW @T8))))))))))) ?_;(repeat(refine Pn.mk ?_;intro N hN))))
   refine uo ?_ ?_ (⟨oo,rows,ids,sd @d11,sd @dg,by rw[qn];exact hR,fun x hx=>by have:=oy x hx;(try dsimp only);omega,by(try dsimp only);omega,qx⟩)
   all_goals simp only[go_sem, ↓reduceIte,Nat.reduceEqDiff,Nat.reduceAdd,Nat.reduceSub,Nat.reduceLeDiff,reduceCtorEq,d12,dg0,d0,d5]
 ·have u7:i=k:=by omega
  (try((repeat(revert hN;revert N;apply Pn.out));refine wk (tw @d12 (tw @dg0 (tw @d0 (tw @d5 (tw @d11 (tw @dg @hi)))))) ?_;(repeat(refine Pn.mk ?_;intro N hN))))
  refine xt (.inl rfl) (by simp only[go_sem, ↓reduceIte,Nat.reduceEqDiff,Nat.reduceAdd,Nat.reduceSub,Nat.reduceLeDiff,reduceCtorEq];rfl) ?_
  rw[sf dg (by simp) (rows':=(fQ k L).map Be) (by rw[List.drop_zero,List.take_of_length_le (Nat.le_refl _)];rw[u7]at hR;exact KL 3 hR)]
theorem xJ (n:Nat):List.replicate n [AV.int .i64 0]=ef (fun _=>0) n:=by
 refine List.ext_getElem? fun i=>?_
 by_cases h:i<n
 ·rw[fH h,List.getElem?_replicate,if_pos h];rfl
 ·rw[List.getElem?_eq_none (by simp;omega),List.getElem?_eq_none (by rw[gF];omega)]
def di (cnt:Nat) (L:Nat->Nat) (i m:Nat):Nat->Nat:=fun x=>if cu L x<i then cu L x else if x∈(members cnt L ((leads cnt L).getD i 0)).take m then i else 0
theorem pe (cnt:Nat) (L:Nat->Nat):di cnt L 0 0=fun _=>0:=by funext x;simp[di]
theorem uw (t:Int) (bs:List PB) (k:Nat) (h:k<bs.length):aV t (bs.take (k+1))=aV t (bs.take k)++if t<=(bs[k]).s then[bs[k]]else[]:=by
 unfold aV
 rw[List.take_succ_eq_append_getElem h,List.filter_append]
 congr 1
 by_cases h:t<=bs[k].s<;>simp[h]
theorem xF {t:Int} {bs:List PB} {b:PB} (h:b∈aV t bs):b∈bs:=(List.mem_filter.1 h).1
theorem nM (t:Int) (bs:List PB):(aV t bs).length<=bs.length:=List.length_filter_le _ _
theorem CH (cnt:Nat) (hn:cnt<=1048576) (bs:List PB) (hb:∀b∈bs,b.a<cnt/\b.b<cnt) (od:bs.length<=1048576) (t:Int):aw Tryz.prog 240 [.int .i64 cnt,.sl (bs.map aD),.int .i64 t] (.iA [.int .i64 (leads cnt (eJ (aV t bs))).length,.sl ((ft (eJ (aV t bs)) bs).map aD)]):=by
 refine aw.body eK rfl fun hl n0=>?_
 clear hl
 (try((repeat(revert hN;revert N;apply Pn.out));refine wk @Nat.zero_add ?_;(repeat(refine Pn.mk ?_;intro N hN))))
 refine aX (fun n env st=>∃k:Nat,n=(bs.length)-k/\k<=(bs.length)/\env 9=.int .i64 (k:Int)/\(∃o:Id,env 8=.own o 0 (aV t (bs.take k)).length/\st.get o=some ⟨true,3,(aV t (bs.take k)).map aD⟩/\o.br<st.next)) (bs.length) ⟨0,by omega,by omega,sl @Nat.zero_add,⟨⟨240001000,n0+1⟩,by(simp only[go_sem, ↓reduceIte,Nat.reduceEqDiff,Nat.reduceAdd,Nat.reduceSub,Nat.reduceLeDiff,reduceCtorEq])<;>rfl,by(simp only[go_sem, ↓reduceIte,Nat.reduceEqDiff,Nat.reduceAdd,Nat.reduceSub,Nat.reduceLeDiff,reduceCtorEq])<;>rfl,by(try dsimp only);omega⟩⟩ ?_
 rintro n_a env_a st_a ⟨k,rfl,ale,a9,kC⟩ dC
 have a0:=dC 0 (by kernel_rfl);have a1:=dC 1 (by kernel_rfl);have a2:=dC 2 (by kernel_rfl)
 simp only[go_sem, ↓reduceIte,Nat.reduceEqDiff,Nat.reduceAdd,Nat.reduceSub,Nat.reduceLeDiff,reduceCtorEq]at a0 a1 a2
 clear dC
 obtain⟨o,a8,ag,pO⟩:=kC
 have rz:=dr pO
 by_cases hk:(k:Int)<(bs.length:Int)
 ·have cD:∀{e:Env} {gg:Rows} {nx:Nat},(e 9=.int .i64 (IntKind.i64.wrap ((k:Int)+1)))->(∃o:Id,e 8=.own o 0 (aV t (bs.take (k+1))).length/\gg o=some ⟨true,3,(aV t (bs.take (k+1))).map aD⟩/\o.br<nx)->∃m0,m0<(bs.length)-k/\∃k:Nat,m0=(bs.length)-k/\k<=(bs.length)/\e 9=.int .i64 (k:Int)/\(∃o:Id,e 8=.own o 0 (aV t (bs.take k)).length/\gg o=some ⟨true,3,(aV t (bs.take k)).map aD⟩/\o.br<nx):=fun x1 x2=>⟨_,by omega,k+1,rfl,by omega,(by rw[x1,az (by omega)]),x2⟩
  have fm:k<bs.length:=by omega
  have eU:(bs.map aD)[k]? =some (aD bs[k]):=by simp[fm]
  have hs:=uw t bs k fm
  have u9:=nM t (bs.take k)
  rw[List.length_take]at u9
  by_cases hc:t<=(bs[k]).s
  ·rw[if_pos hc]at hs
   have e1:(aV t (bs.take k)).length+1<=16777216:=by omega
   have gR:((aV t (bs.take k)).map aD).length=(aV t (bs.take k)).length:=by simp
   generalize bs[k]=b at *
   (try((repeat(revert hN;revert N;apply Pn.out));refine wk (tw @a9 (tw @a0 (tw @a1 (tw @a2 (tw @a8 (tw @ag (tw @rz (tw @hk (tw @eU (tw @hc (tw @e1 (tw @gR @aD.eq_1)))))))))))) ?_;(repeat(refine Pn.mk ?_;intro N hN))))
   exact cD (sd (tw @a9 (tw @a0 (tw @a1 @a2)))) (⟨⟨240006006,st_a.next+1+1⟩,by rw[hs,List.length_append];simp only[go_sem, ↓reduceIte,Nat.reduceEqDiff,Nat.reduceAdd,Nat.reduceSub,Nat.reduceLeDiff,reduceCtorEq,List.length_cons,List.length_nil],by rw[hs,List.map_append,List.map_cons,List.map_nil];simp only[go_sem, ↓reduceIte,Nat.reduceEqDiff,Nat.reduceAdd,Nat.reduceSub,Nat.reduceLeDiff,reduceCtorEq,aD],by(try dsimp only);omega⟩)
  ·rw[if_neg hc,List.append_nil]at hs
   generalize bs[k]=b at *
   (try((repeat(revert hN;revert N;apply Pn.out));refine wk (tw @a9 (tw @a0 (tw @a1 (tw @a2 (tw @a8 (tw @ag (tw @rz (tw @hk (tw @eU (tw @hc @aD.eq_1)))))))))) ?_;(repeat(refine Pn.mk ?_;intro N hN))))
   exact cD (sd (tw @a9 (tw @a0 (tw @a1 @a2)))) (⟨o,by rw[hs];simp only[go_sem, ↓reduceIte,Nat.reduceEqDiff,Nat.reduceAdd,Nat.reduceSub,Nat.reduceLeDiff,reduceCtorEq,a8],by rw[hs];simp only[go_sem, ↓reduceIte,Nat.reduceEqDiff,Nat.reduceAdd,Nat.reduceSub,Nat.reduceLeDiff,reduceCtorEq,ag],by(try dsimp only);omega⟩)
 have kM:k=bs.length:=by omega
 subst kM
 rw[List.take_length]at a8 ag
 have I6:=CF cnt hn (aV t bs) (fun b h=>hb b (xF h)) (by have:=nM t bs;omega)
 have hL:=uk (aV t bs)
 have Ah:fz (dK st_a.get) 6 (.own o 0 (aV t bs).length)=some (.sl ((aV t bs).map aD)):=gI (sz:=3) (by simp[dK,ag]) rfl fun b=>zY _ 4 b
 have W6:∀x,de (dK st_a.get) 6 [.int .i64 x,.own o 0 (aV t bs).length]=some [.int .i64 x,.sl ((aV t bs).map aD)]:=fun x=>by simp only[aq,au,aH,Ah,Option.map_some]
 (try((repeat(revert hN;revert N;apply Pn.out));refine wk (tw @a9 (tw @a0 (tw @a1 (tw @a2 (tw @a8 @hk))))) ?_;(repeat(refine Pn.mk ?_;intro N hN))))
 refine .inl ⟨_,aw.x I6 (W6 _),?_⟩
 refine hN _ _ ?_
 clear hN N
 generalize eJ (aV t bs)=L at *
 have s6:((fQ cnt L).map Be).length=(leads cnt L).length:=by simp[fQ]
 have Vq:=jW cnt L
 have jO:(0:Int)<=(cnt:Int):=by omega
 have qi:(cnt:Int)<=((16777216:Nat):Int):=by omega
 have gS:List.replicate cnt [AV.int .i64 0]=ef (di cnt L 0 0) cnt:=by rw[xJ,pe]
 (try((repeat(revert hN;revert N;apply Pn.out));refine wk (tw @a9 (tw @a0 (tw @a1 (tw @a2 (tw @jO (tw @qi @Int.le_refl)))))) ?_;(repeat(refine Pn.mk ?_;intro N hN))))
 refine aX (fun n env st=>∃i:Nat,n=((leads cnt L).length)-i/\i<=((leads cnt L).length)/\env 12=.int .i64 (i:Int)/\st.get ⟨240008001,st_a.next+1+1⟩=some ⟨true,1,ef (di cnt L i 0) cnt⟩/\(st_a.next+1+1<st.next)) ((leads cnt L).length) ⟨0,by omega,by omega,sl (tw @a9 (tw @a0 (tw @a1 (tw @a2 @gS)))),sl (tw @a9 (tw @a0 (tw @a1 (tw @a2 @gS)))),(by(try dsimp only);omega)⟩ ?_
 rintro n_c env_c st_c ⟨i,rfl,cle,qO,cg0,cI0⟩ iO
 have c1:=iO 1 (by kernel_rfl);have jG:=iO 10 (by kernel_rfl);have oj:=iO 11 (by kernel_rfl)
 simp only[go_sem, ↓reduceIte,Nat.reduceEqDiff,Nat.reduceAdd,Nat.reduceSub,Nat.reduceLeDiff,reduceCtorEq,a9,a0,a1,a2,gS]at c1 jG oj
 clear iO
 by_cases hi:(i:Int)<((leads cnt L).length:Int)
 ·have gN:∀{e:Env} {gg:Rows} {nx:Nat},(e 12=.int .i64 (IntKind.i64.wrap ((i:Int)+1)))->(gg ⟨240008001,st_a.next+1+1⟩=some ⟨true,1,ef (di cnt L (i+1) 0) cnt⟩)->(st_a.next+1+1<nx)->∃m0,m0<((leads cnt L).length)-i/\∃i:Nat,m0=((leads cnt L).length)-i/\i<=((leads cnt L).length)/\e 12=.int .i64 (i:Int)/\gg ⟨240008001,st_a.next+1+1⟩=some ⟨true,1,ef (di cnt L i 0) cnt⟩/\(st_a.next+1+1<nx):=fun x1 x2 x3=>⟨_,by omega,i+1,rfl,by omega,(by rw[x1,az (by omega)]),x2,x3⟩
  have fI:i<(leads cnt L).length:=by omega
  have jm:((fQ cnt L).map Be)[i]? =some (Be (members cnt L (leads cnt L)[i])):=by simp[fQ,fI]
  have rO:(leads cnt L).getD i 0=(leads cnt L)[i]:=by simp[List.getD_eq_getElem?_getD,fI]
  have lO:∀m,di cnt L i m=fun x=>if cu L x<i then cu L x else if x∈(members cnt L (leads cnt L)[i]).take m then i else 0:=fun m=>by unfold di;rw[rO]
  have sn:=fun x (hx:x<cnt)=>tE hL (n:=cnt) (k:=x) (i:=i) hx fI
  have lg:(members cnt L (leads cnt L)[i]).Nodup:=List.nodup_range.filter _
  have QI:∀x∈members cnt L (leads cnt L)[i],x<cnt:=fun x hx=>(l9.1 hx).1
  have hMc:(members cnt L (leads cnt L)[i]).length<=cnt:=by
   have:=List.length_filter_le (fun k=>L k==(leads cnt L)[i]) (List.range cnt)
   simpa[members]using this
  generalize members cnt L (leads cnt L)[i]=M at *
  have Dw:(M.map eN).length=M.length:=by simp
  (try((repeat(revert hN;revert N;apply Pn.out));refine wk (tw @qO (tw @cg0 (tw @c1 (tw @jG (tw @oj (tw @hi @s6)))))) ?_;(repeat(refine Pn.mk ?_;intro N hN))))
  refine aX (fun n env st=>∃m:Nat,n=(M.length)-m/\m<=(M.length)/\env 13=.int .i64 (m:Int)/\st.get ⟨240008001,st_a.next+1+1⟩=some ⟨true,1,ef (di cnt L i m) cnt⟩/\(st_a.next+1+1<st.next)) (M.length) ⟨0,by omega,by omega,sl (tw @qO (tw @cg0 (tw @c1 (tw @jG @oj)))),sl (tw @qO (tw @cg0 (tw @c1 (tw @jG @oj)))),(by(try dsimp only);omega)⟩ ?_
  rintro n_d env_d st_d ⟨m,rfl,dle,d13,dg0,dI0⟩ dfr
  have d1:=dfr 1 (by kernel_rfl);have d10:=dfr 10 (by kernel_rfl);have d11:=dfr 11 (by kernel_rfl);have d12:=dfr 12 (by kernel_rfl)
  simp only[go_sem, ↓reduceIte,Nat.reduceEqDiff,Nat.reduceAdd,Nat.reduceSub,Nat.reduceLeDiff,reduceCtorEq,qO,cg0,c1,jG,oj]at d1 d10 d11 d12
  clear dfr
  have tl:=gF (di cnt L i m) cnt
  by_cases hm:(m:Int)<(M.length:Int)
  ·have uo:∀{e:Env} {gg:Rows} {nx:Nat},(e 13=.int .i64 (IntKind.i64.wrap ((m:Int)+1)))->(gg ⟨240008001,st_a.next+1+1⟩=some ⟨true,1,ef (di cnt L i (m+1)) cnt⟩)->(st_a.next+1+1<nx)->∃m0,m0<(M.length)-m/\∃m:Nat,m0=(M.length)-m/\m<=(M.length)/\e 13=.int .i64 (m:Int)/\gg ⟨240008001,st_a.next+1+1⟩=some ⟨true,1,ef (di cnt L i m) cnt⟩/\(st_a.next+1+1<nx):=fun x1 x2 x3=>⟨_,by omega,m+1,rfl,by omega,(by rw[x1,az (by omega)]),x2,x3⟩
   have Ak:m<M.length:=by omega
   have s7:(M.map eN)[m]? =some (eN M[m]):=by simp[Ak]
   have wK:=QI _ (List.getElem_mem Ak)
   have DF:(M[m]:Int)<(cnt:Int):=by omega
   have DE:=fH (f:=di cnt L i m) wK
   have eC:(ef (di cnt L i m) cnt).set M[m] (eN i)=ef (di cnt L i (m+1)) cnt:=p9 wK (by
    have h1:=(sn _ wK).1 (List.getElem_mem Ak)
    rw[lO]
    simp only[]
    rw[if_neg (by omega),if_pos (by rw[List.take_succ_eq_append_getElem Ak];exact List.mem_append_right _ (List.mem_singleton.2 rfl))]) fun x hx ij=>by
    rw[lO,lO]
    simp only[]
    rw[List.take_succ_eq_append_getElem Ak]
    simp only[List.mem_append,List.mem_singleton,ij,or_false]
   rw[eN]at eC DE
   generalize M[m]=xm at *
   (try((repeat(revert hN;revert N;apply Pn.out));refine wk (tw @d13 (tw @dg0 (tw @d1 (tw @d10 (tw @d11 (tw @d12 (tw @hm (tw @hi (tw @jm (tw @s6 (tw @s7 (tw @Dw (tw @DF (tw @DE (tw @tl (tw @eC (tw @Be.eq_1 @eN.eq_1))))))))))))))))) ?_;(repeat(refine Pn.mk ?_;intro N hN))))
   refine uo ?_ ?_ (by(try dsimp only);omega)
   all_goals simp only[go_sem, ↓reduceIte,Nat.reduceEqDiff,Nat.reduceAdd,Nat.reduceSub,Nat.reduceLeDiff,reduceCtorEq,d13,dg0,d1,d10,d11,d12,eC]
  ·have gR:m=M.length:=by omega
   subst gR
   have pN:ef (di cnt L i M.length) cnt=ef (di cnt L (i+1) 0) cnt:=ik fun x hx=>by
    rw[lO,List.take_length]
    simp only[di,List.take_zero,List.not_mem_nil,if_false]
    have h1:=sn x hx
    by_cases h2:cu L x<i
    ·rw[if_pos h2,if_pos (by omega)]
    ·rw[if_neg h2]
     by_cases h3:x∈M
     ·rw[if_pos h3,if_pos (by have:=h1.1 h3;omega),h1.1 h3]
     ·rw[if_neg h3,if_neg fun h4=>h3 (h1.2 (by omega))]
   (try((repeat(revert hN;revert N;apply Pn.out));refine wk (tw @d13 (tw @dg0 (tw @d1 (tw @d10 (tw @d11 (tw @d12 (tw @hm (tw @hi (tw @jm (tw @s6 (tw @Dw @Be.eq_1))))))))))) ?_;(repeat(refine Pn.mk ?_;intro N hN))))
   refine gN ?_ ?_ (by(try dsimp only);omega)
   all_goals simp only[go_sem, ↓reduceIte,Nat.reduceEqDiff,Nat.reduceAdd,Nat.reduceSub,Nat.reduceLeDiff,reduceCtorEq,qO,cg0,c1,jG,oj,d13,dg0,d1,d10,d11,d12,pN]
 have mj:i=(leads cnt L).length:=by omega
 subst mj
 have qx:ef (di cnt L (leads cnt L).length 0) cnt=ef (cu L) cnt:=ik fun x hx=>by rw[di,if_pos (kn hL hx)]
 rw[qx]at cg0
 have tl:=gF (cu L) cnt
 (try((repeat(revert hN;revert N;apply Pn.out));refine wk (tw @qO (tw @cg0 (tw @c1 (tw @jG (tw @oj (tw @hi @s6)))))) ?_;(repeat(refine Pn.mk ?_;intro N hN))))
 have Vg:st_a.next+1+1<st_c.next:=cI0
 refine aX (fun n env st=>∃j:Nat,n=(bs.length)-j/\j<=(bs.length)/\env 15=.int .i64 (j:Int)/\st.get ⟨240008001,st_a.next+1+1⟩=some ⟨true,1,ef (cu L) cnt⟩/\(∃p:Id,env 14=.own p 0 (ft L (bs.take j)).length/\st.get p=some ⟨true,3,(ft L (bs.take j)).map aD⟩/\st_c.next<=p.br/\p.br<st.next)) (bs.length) ⟨0,by omega,by omega,sl (tw @qO (tw @cg0 (tw @c1 (tw @jG @oj)))),sl (tw @qO (tw @cg0 (tw @c1 (tw @jG @oj)))),⟨⟨240016000,st_c.next+1⟩,by(simp only[go_sem, ↓reduceIte,Nat.reduceEqDiff,Nat.reduceAdd,Nat.reduceSub,Nat.reduceLeDiff,reduceCtorEq])<;>rfl,by(simp only[go_sem, ↓reduceIte,Nat.reduceEqDiff,Nat.reduceAdd,Nat.reduceSub,Nat.reduceLeDiff,reduceCtorEq])<;>rfl,by(try dsimp only);omega,by(try dsimp only);omega⟩⟩ ?_
 rintro n_f env_f st_f ⟨j,rfl,fle,f15,fg0,fI0⟩ ffr
 have f1:=ffr 1 (by kernel_rfl);have f10:=ffr 10 (by kernel_rfl);have f11:=ffr 11 (by kernel_rfl)
 simp only[go_sem, ↓reduceIte,Nat.reduceEqDiff,Nat.reduceAdd,Nat.reduceSub,Nat.reduceLeDiff,reduceCtorEq,qO,cg0,c1,jG,oj]at f1 f10 f11
 clear ffr
 obtain⟨p,f14,fg,QP,Kn⟩:=fI0
 have x1:=da (a:=⟨240008001,st_a.next+1+1⟩) (b:=p) (by(try dsimp only);omega)
 have Bl:=dr Kn
 have hvn:st_a.next+1+1<st_f.next:=by omega
 have HR:=dr (i:=⟨240008001,st_a.next+1+1⟩) (n:=st_f.next) hvn
 have u9:=(nL L (bs.take j)).2
 rw[List.length_take]at u9
 by_cases hj:(j:Int)<(bs.length:Int)
 ·have sJ:∀{e:Env} {gg:Rows} {nx:Nat},(e 15=.int .i64 (IntKind.i64.wrap ((j:Int)+1)))->(gg ⟨240008001,st_a.next+1+1⟩=some ⟨true,1,ef (cu L) cnt⟩)->(∃p:Id,e 14=.own p 0 (ft L (bs.take (j+1))).length/\gg p=some ⟨true,3,(ft L (bs.take (j+1))).map aD⟩/\st_c.next<=p.br/\p.br<nx)->∃m0,m0<(bs.length)-j/\∃j:Nat,m0=(bs.length)-j/\j<=(bs.length)/\e 15=.int .i64 (j:Int)/\gg ⟨240008001,st_a.next+1+1⟩=some ⟨true,1,ef (cu L) cnt⟩/\(∃p:Id,e 14=.own p 0 (ft L (bs.take j)).length/\gg p=some ⟨true,3,(ft L (bs.take j)).map aD⟩/\st_c.next<=p.br/\p.br<nx):=fun x1 x2 x3=>⟨_,by omega,j+1,rfl,by omega,(by rw[x1,az (by omega)]),x2,x3⟩
  have gW:j<bs.length:=by omega
  have Ai:(bs.map aD)[j]? =some (aD bs[j]):=by simp[gW]
  have M0:=hb _ (List.getElem_mem gW)
  have hs:=AQ L (bs.take j) bs[j]
  rw[<-List.take_succ_eq_append_getElem gW]at hs
  generalize bs[j]=b at *
  have hA:=fH (f:=cu L) M0.1
  have hB:=fH (f:=cu L) M0.2
  have gQ:(b.a:Int)<(cnt:Int):=by omega
  have fJ:(b.b:Int)<(cnt:Int):=by omega
  have U9:=CE (cu L b.a) (cu L b.b)
  have Va:=CD (cu L b.a) (cu L b.b)
  rw[eN]at hA hB
  by_cases he:cu L b.a=cu L b.b
  ·rw[if_pos he,List.append_nil]at hs
   have xS:decide ((cu L b.a:Int)=(cu L b.b:Int))=true:=decide_eq_true (by rw[he])
   (try((repeat(revert hN;revert N;apply Pn.out));refine wk (tw @f15 (tw @fg0 (tw @f1 (tw @f10 (tw @f11 (tw @f14 (tw @fg (tw @hj (tw @Ai (tw @hA (tw @hB (tw @gQ (tw @fJ (tw @tl (tw @xS (tw @x1 (tw @Bl @aD.eq_1))))))))))))))))) ?_;(repeat(refine Pn.mk ?_;intro N hN))))
   refine sJ ?_ ?_ (⟨p,by rw[hs];simp only[go_sem, ↓reduceIte,Nat.reduceEqDiff,Nat.reduceAdd,Nat.reduceSub,Nat.reduceLeDiff,reduceCtorEq,f14],by rw[hs];simp only[go_sem, ↓reduceIte,Nat.reduceEqDiff,Nat.reduceAdd,Nat.reduceSub,Nat.reduceLeDiff,reduceCtorEq,fg],QP,by(try dsimp only);omega⟩)
   all_goals simp only[go_sem, ↓reduceIte,Nat.reduceEqDiff,Nat.reduceAdd,Nat.reduceSub,Nat.reduceLeDiff,reduceCtorEq,f15,fg0,f1,f10,f11]
  ·rw[if_neg he]at hs
   have xS:decide ((cu L b.a:Int)=(cu L b.b:Int))=false:=decide_eq_false fun h=>he (by omega)
   have e1:(ft L (bs.take j)).length+1<=16777216:=by omega
   have gR:((ft L (bs.take j)).map aD).length=(ft L (bs.take j)).length:=by simp
   (repeat(first|((repeat(revert hN;revert N;apply Pn.out));refine wk (tw @f15 (tw @fg0 (tw @f1 (tw @f10 (tw @f11 (tw @f14 (tw @fg (tw @hj (tw @Ai (tw @hA (tw @hB (tw @gQ (tw @fJ (tw @tl (tw @xS (tw @x1 (tw @Bl (tw @HR (tw @e1 (tw @gR @aD.eq_1)))))))))))))))))))) ?_;(repeat(refine Pn.mk ?_;intro N hN)))|((try apply Or.inl);refine⟨_,aw.x (U9) (sd (tw @f15 (tw @fg0 (tw @f1 (tw @f10 (tw @f11 (tw @f14 (tw @fg (tw @hj (tw @Ai (tw @hA (tw @hB (tw @gQ (tw @fJ (tw @tl (tw @xS (tw @x1 (tw @Bl (tw @HR (tw @e1 (tw @gR @aD.eq_1))))))))))))))))))))),?_⟩;refine hN _ _ ?_;clear hN N)|((try apply Or.inl);refine⟨_,aw.x (Va) (sd (tw @f15 (tw @fg0 (tw @f1 (tw @f10 (tw @f11 (tw @f14 (tw @fg (tw @hj (tw @Ai (tw @hA (tw @hB (tw @gQ (tw @fJ (tw @tl (tw @xS (tw @x1 (tw @Bl (tw @HR (tw @e1 (tw @gR @aD.eq_1))))))))))))))))))))),?_⟩;refine hN _ _ ?_;clear hN N)))
   refine sJ ?_ ?_ (⟨⟨240023014,st_f.next+1+1+1+1⟩,by rw[hs,List.length_append];simp only[go_sem, ↓reduceIte,Nat.reduceEqDiff,Nat.reduceAdd,Nat.reduceSub,Nat.reduceLeDiff,reduceCtorEq,List.length_cons,List.length_nil],by rw[hs,List.map_append,List.map_cons,List.map_nil];simp only[go_sem, ↓reduceIte,Nat.reduceEqDiff,Nat.reduceAdd,Nat.reduceSub,Nat.reduceLeDiff,reduceCtorEq,aD],by(try dsimp only);omega,by(try dsimp only);omega⟩)
   all_goals simp only[go_sem, ↓reduceIte,Nat.reduceEqDiff,Nat.reduceAdd,Nat.reduceSub,Nat.reduceLeDiff,reduceCtorEq,f15,fg0,f1,f10,f11,x1,HR]
 ·have gT:j=bs.length:=by omega
  subst gT
  rw[List.take_length]at f14 fg
  (try((repeat(revert hN;revert N;apply Pn.out));refine wk (tw @f15 (tw @fg0 (tw @f1 (tw @f10 (tw @f11 (tw @f14 (tw @hj @s6))))))) ?_;(repeat(refine Pn.mk ?_;intro N hN))))
  refine jE (.inl rfl) (r1:=.int .i64 ((leads cnt L).length:Int)) (sd @Nat.zero_add) (by simp only[go_sem, ↓reduceIte,Nat.reduceEqDiff,Nat.reduceAdd,Nat.reduceSub,Nat.reduceLeDiff,reduceCtorEq];rfl) ?_
  have h1:gq st_f.get 5 (.own p 0 (ft L bs).length)=some (.sl ((ft L bs).map aD)):=fA (sz:=3) fg rfl fun b=>uV _ 3 b
  simp only[fF,bV,cY,eL,h1,Option.map_some]
end Go.Proofs.YtgoljkjaameagaaGreat.V

namespace Go.Proofs.YtgoljkjaameagaaGreat.V
def FV (bs:List PB) (e v:Nat):Prop:=(cZ bs e).a=v∨(cZ bs e).b=v
def jc (bs:List PB) (m v:Nat):List Nat:=(List.range m).filter fun i=>(cZ bs i).a==v||(cZ bs i).b==v
theorem sC {bs:List PB} {m v e:Nat}:e∈jc bs m v↔e<m/\FV bs e v:=by simp[jc,FV]
theorem HV (bs:List PB) (m v:Nat):jc bs (m+1) v=jc bs m v++if (cZ bs m).a=v∨(cZ bs m).b=v then[m]else[]:=by
 unfold jc
 rw[List.range_succ,List.filter_append]
 congr 1
 by_cases h:(cZ bs m).a=v<;>by_cases h2:(cZ bs m).b=v<;>simp[h,h2]
theorem sw (bs:List PB) (m v:Nat):(jc bs m v).length<=m:=by
 have:=List.length_filter_le (fun i=>(cZ bs i).a==v||(cZ bs i).b==v) (List.range m)
 simpa[jc]using this
def nT (cnt:Nat) (bs:List PB):Prop:=∀e,e<bs.length->(cZ bs e).a<cnt/\(cZ bs e).b<cnt/\(cZ bs e).a≠(cZ bs e).b
theorem ph {cnt:Nat} {bs:List PB} (h:nT cnt bs) {e v:Nat} (he:e<bs.length):cw bs e v<cnt:=by
 have:=h e he;unfold cw;split;exact this.2.1;exact this.1
theorem K3 {cnt:Nat} {bs:List PB} (h:nT cnt bs) {e v:Nat} (he:e<bs.length) (hi:FV bs e v):cw bs e v≠v:=by
 have h1:=(h e he).2.2
 unfold cw
 split
 ·rename_i ha;rw[<-ha];exact fun h=>h1 h.symm
 ·rename_i ha;rcases hi with hi|hi
  ·exact absurd hi ha
  ·rw[<-hi];exact h1
theorem zo {bs:List PB} {e v:Nat}:FV bs e (cw bs e v):=by
 unfold cw FV;split
 ·exact .inr rfl
 ·exact .inl rfl
theorem pj {cnt:Nat} {bs:List PB} (h:nT cnt bs) {e v:Nat} (he:e<bs.length) (hi:FV bs e v):cw bs e (cw bs e v)=v:=by
 have h1:=(h e he).2.2
 unfold cw
 by_cases ha:(cZ bs e).a=v
 ·rw[if_pos ha,if_neg h1];exact ha
 ·rw[if_neg ha,if_pos rfl]
  rcases hi with hi|hi
  ·exact absurd hi ha
  ·exact hi
structure zF (cnt:Nat) (bs:List PB) (f:Nat->Int) (y:Nat) (out:Nat->Int):Prop where
 lo:∀v,v<cnt->-1<=out v/\out v<=cnt
 first:out y=0
 zero:∀v,v<cnt->out v=0->v=y
 down:∀v,v<cnt->0<out v->∃e,e<bs.length/\FV bs e v/\0<fY bs f e v/\out (cw bs e v)=out v-1
 shut:∀e v,e<bs.length->FV bs e v->0<=out (cw bs e v)->0<fY bs f e v->0<=out v
structure Bd (cnt:Nat) (bs:List PB) (f:Nat->Int) (y:Nat) (out:Nat->Int) (Q:List Nat) (i:Nat):Prop where
 nd:Q.Nodup
 lt:∀x∈Q,x<cnt
 iff:∀v,v<cnt->(0<=out v↔v∈Q)
 lo:∀v,v<cnt->-1<=out v
 first:out y=0
 up:∀j (h:j<Q.length),out Q[j]<=j
 zero:∀v,v<cnt->out v=0->v=y
 down:∀v,v<cnt->0<out v->∃e,e<bs.length/\FV bs e v/\0<fY bs f e v/\out (cw bs e v)=out v-1
 shut:∀j (h:j<Q.length),j<i->∀e,e<bs.length->FV bs e Q[j]->0<fY bs f e (cw bs e Q[j])->0<=out (cw bs e Q[j])
section
variable {cnt:Nat} {bs:List PB} {f:Nat->Int} {y:Nat} {out:Nat->Int} {Q:List Nat} {i:Nat}
theorem Bd.start (hy:y<cnt):Bd cnt bs f y (fun v=>if v=y then 0 else -1) [y] 0 where
 nd:=by simp
 lt:=fun x hx=>by rw[List.mem_singleton.1 hx];exact hy
 iff:=fun v _=>by
  by_cases h:v=y<;>simp[h]
 lo:=fun v _=>by split<;>omega
 first:=if_pos rfl
 up:=fun j h=>by
  have:j=0:=by simp at h;omega
  subst this;simp
 zero:=fun v _ h=>by
  by_cases hv:v=y
  ·exact hv
  ·rw[if_neg hv]at h;omega
 down:=fun v _ h=>by
  by_cases hv:v=y
  ·rw[if_pos hv]at h;omega
  ·rw[if_neg hv]at h;omega
 shut:=fun j h hj=>by omega
theorem Bd.len (h:Bd cnt bs f y out Q i):Q.length<=cnt:=pf cnt Q h.nd h.lt
theorem Bd.visit (h:Bd cnt bs f y out Q i) (ok:nT cnt bs) (hi:i<Q.length) {e:Nat} (he:e<bs.length) (qk:FV bs e Q[i]) (kj:out (cw bs e Q[i])<0) (eR:0<fY bs f e (cw bs e Q[i])):
  Bd cnt bs f y (fun v=>if v=cw bs e Q[i]then out Q[i]+1 else out v) (Q++[cw bs e Q[i]]) i:=by
 have Pc:0<=out Q[i]:=(h.iff _ (h.lt _ (List.getElem_mem hi))).2 (List.getElem_mem hi)
 have hq:=ph ok (v:=Q[i]) he
 have ij:=K3 ok he qk
 have I9:=pj ok he qk
 have Xp:cw bs e Q[i]∉Q:=fun hm=>by have:=(h.iff _ hq).2 hm;omega
 have lO:=h.up i hi
 generalize hw:cw bs e Q[i]=w at *
 have wO:∀v,0<=out v->(if v=w then out Q[i]+1 else out v)=out v:=fun v hv=>by
  rw[if_neg];rintro rfl;omega
 have mono:∀v,0<=out v->0<=(if v=w then out Q[i]+1 else out v):=fun v hv=>by rw[wO v hv];exact hv
 refine⟨?_,?_,?_,?_,?_,?_,?_,?_,?_⟩
 ·rw[List.nodup_append]
  exact⟨h.nd,by simp,fun a ha b hb=>by rw[List.mem_singleton.1 hb];rintro rfl;exact Xp ha⟩
 ·intro x hx
  rcases List.mem_append.1 hx with hx|hx
  ·exact h.lt x hx
  ·rw[List.mem_singleton.1 hx];exact hq
 ·intro v hv
  by_cases Gw:v=w
  ·subst Gw;simp;omega
  ·rw[if_neg Gw,h.iff v hv];simp[Gw]
 ·intro v hv
  by_cases Gw:v=w
  ·rw[if_pos Gw];omega
  ·rw[if_neg Gw];exact h.lo v hv
 ·rw[wO y (by rw[h.first];exact Int.le_refl _)];exact h.first
 ·intro j hj
  by_cases gT:j<Q.length
  ·rw[List.getElem_append_left gT,wO _ ((h.iff _ (h.lt _ (List.getElem_mem gT))).2 (List.getElem_mem gT))]
   exact h.up j gT
  ·have M5:j=Q.length:=by simp at hj;omega
   subst M5
   simp
   omega
 ·intro v hv h0
  by_cases Gw:v=w
  ·rw[if_pos Gw]at h0;omega
  ·rw[if_neg Gw]at h0;exact h.zero v hv h0
 ·intro v hv h0
  by_cases Gw:v=w
  ·subst Gw
   rw[if_pos rfl]
   refine⟨e,he,by rw[<-hw];exact zo,eR,?_⟩
   rw[I9,wO _ Pc];omega
  ·rw[if_neg Gw]at h0 ⊢
   obtain⟨e',h1,h2,h3,h4⟩:=h.down v hv h0
   exact⟨e',h1,h2,h3,by rw[wO _ (by omega)];exact h4⟩
 ·intro j hj ni e' Af O6 hr
  have gT:j<Q.length:=by omega
  rw[List.getElem_append_left gT]at O6 hr ⊢
  exact mono _ (h.shut j gT ni e' Af O6 hr)
theorem Bd.next (h:Bd cnt bs f y out Q i) (hi:i<Q.length) (hs:∀e∈jc bs bs.length Q[i],0<fY bs f e (cw bs e Q[i])->0<=out (cw bs e Q[i])):Bd cnt bs f y out Q (i+1):=
 ⟨h.nd,h.lt,h.iff,h.lo,h.first,h.up,h.zero,h.down,fun j hj ni e he qk hr=>by
  by_cases M5:j=i
  ·subst M5;exact hs e (sC.2 ⟨he,qk⟩) hr
  ·exact h.shut j hj (by omega) e he qk hr⟩
theorem Bd.done (h:Bd cnt bs f y out Q i) (ok:nT cnt bs) (hi:Q.length<=i):zF cnt bs f y out where
 lo:=fun v hv=>⟨h.lo v hv,by
  by_cases h0:0<=out v
  ·obtain⟨j,hj,rfl⟩:=List.getElem_of_mem ((h.iff v hv).1 h0)
   have:=h.up j hj
   have:=h.len
   omega
  ·omega⟩
 first:=h.first
 zero:=h.zero
 down:=h.down
 shut:=fun e v he qk h0 hr=>by
  obtain⟨j,hj,Sf⟩:=List.getElem_of_mem ((h.iff _ (ph ok he)).1 h0)
  have h2:=h.shut j hj (by omega) e he (by rw[Sf];exact zo)
  rw[Sf,pj ok he qk]at h2
  exact h2 hr
end
end Go.Proofs.YtgoljkjaameagaaGreat.V

namespace Go.Proofs.YtgoljkjaameagaaGreat.V
open Go.RowKit
attribute [local irreducible] ek wpOps fK Call
attribute [local go_sem] aI fw eH fE fD dd upd cm K.av cG AV.cells AV.cell rowOf rowsOf part ld rowAt bL bY dx dO gz bE cW dY fC eY dj dS cU cR dG dH bH aZ cJ bG cL cK dQ dU dR cI bJ cV dP bF aL cP cz gy bq cF bI aW dq bm dy AV.undef bw bz dJ dM dD dI cE dX ea cq dW dV cN cQ List.getD_cons_zero List.getD_cons_succ List.getD_nil List.all_cons List.all_nil Bool.and_true Bool.true_and Bool.and_self Bool.not_true Bool.not_false Option.map_some Option.map_none Option.bind_some Option.bind_none List.length_cons List.length_nil List.take_succ_cons List.take_zero List.take_nil List.drop_succ_cons List.drop_zero List.drop_nil List.head?_cons List.map_cons List.map_nil List.getElem?_cons_zero List.getElem?_cons_succ List.cons_append List.nil_append List.append_nil List.length_map List.set_cons_zero List.set_cons_succ Nat.reduceMul eq_self Int.toNat_natCast Int.natCast_nonneg and_self true_and and_true decide_true decide_false Bool.false_eq_true Nat.zero_add Nat.add_zero List.contains_cons List.contains_nil Bool.or_false Bool.false_or beq_self_eq_true Nat.reduceBEq ne_eq not_true_eq_false not_false_eq_true Id.mk.injEq false_and and_false Nat.reduceLT Int.reduceLE Int.reduceLT Int.reduceToNat Int.reduceNeg Int.reduceAdd Nat.le_refl List.length_append beq_true beq_false Bool.not_eq_eq_eq_not or_false false_or dK aq au aH bf bt bZ aU bh aT bc cH bx
def nS (P:Program) (f:Nat) (args:List AV) (R:AV->Prop):Prop:=∀n:Nat,Call P f args ⟨fun _=>none,n⟩ fun r0 σ'=>∃r',gq σ'.get 6 r0=some r'/\R r'
theorem HA {P:Program} {f:Nat} {args args':List AV} {g:Rows} {n:Nat} {R:AV->Prop} (hv:de (dK g) 6 args=some args') (h:Sound P f args' ⟨fun _=>none,n⟩ fun r0 σ'=>∃r',gq σ'.get 6 r0=some r'/\R r'):Sound P f args ⟨g,n⟩ fun r σ'=>R r/\σ'=⟨g,n⟩:=by
 intro hs D ι w vs S U A
 refine(yD (g0:=g) (K:=R) ⟨args',hv,h⟩ (fun _ _ h=>h) S U A).mono ?_
 rintro e w' ⟨r,D',u,rfl,hR,T,S',hr⟩
 exact⟨r,g,n,D',ι,u,rfl,⟨hR,rfl⟩,T,S',U,Nat.le_refl _,hr⟩
theorem nS.x {P:Program} (hm:P.follows .mixedOrders=true) {f:Nat} {args args':List AV} {R:AV->Prop} (h:nS P f args' R) {σ:ay} (hv:de (dK σ.get) 6 args=some args'):Call P f args σ fun r σ'=>R r/\σ'=σ:=
 gh (HA hv (iw hm (h σ.next)))
theorem nS.body {P:Program} {f:Nat} {args:List AV} {R:AV->Prop} {nt na:Nat} {body:VC} {res:List qd} (hf:nv P f=some ⟨nt,na,body,res⟩) (ha:na=args.length) (h:(∀a∈args,e8 a)->∀n:Nat,ek (Call P) body (mo res fun r0 σ'=>∃r',gq σ'.get 6 r0=some r'/\R r') (cm args) ⟨fun _=>none,n⟩):nS P f args R:=fun n=>mD hf ha fun hl=>h hl n
def ev (f:Nat->Int) (n:Nat):List (List AV):=(List.range n).map fun i=>aQ (f i)
theorem ec (f:Nat->Int) (n:Nat):(ev f n).length=n:=by simp[ev]
theorem ep {f:Nat->Int} {n i:Nat} (h:i<n):(ev f n)[i]? =some (aQ (f i)):=by simp[ev,h]
theorem lI {f g:Nat->Int} {n k:Nat} {v:Int} (hk:k<n) (hv:g k=v) (h:∀i,i<n->i≠k->g i=f i):(ev f n).set k (aQ v)=ev g n:=by
 refine List.ext_getElem? fun i=>?_
 rw[List.getElem?_set]
 by_cases hi:k=i
 ·subst hi
  rw[if_pos rfl,ec,if_pos hk,ep hk,hv]
 ·rw[if_neg hi]
  by_cases fI:i<n
  ·rw[ep fI,ep fI,h i fI (fun h=>hi h.symm)]
  ·rw[List.getElem?_eq_none (by rw[ec];omega),List.getElem?_eq_none (by rw[ec];omega)]
theorem IK (f:Nat->Int) (n:Nat):ev f (n+1)=ev f n++[aQ (f n)]:=by simp[ev,List.range_succ]
theorem fzI (g:Rows) (n:Nat) (a:Int):de g (n+1) (aQ a)=some (aQ a):=by simp[aQ,aq,au,aH]
theorem Wj (g:Rows) (n:Nat) (a:Int):er g (n+1) (aQ a)=some (aQ a):=by simp[aQ,bV,cY,eL]
theorem LC {g:Rows} {f:Nat->Int} {n m:Nat}:gD g (m+1) (ev f n)=some (ev f n):=by
 have:ev f n=((List.range n).map f).map aQ:=by simp[ev]
 rw[this];exact ub fun x=>Wj g m x
theorem A4 {g:Rows} {f:Nat->Int} {n m:Nat}:ee g (m+1) (ev f n)=some (ev f n):=by
 have:ev f n=((List.range n).map f).map aQ:=by simp[ev]
 rw[this];exact nz fun x=>fzI g m x
def Rq (l:List Nat):AV:=if l=[]then .cj else .sl (l.map eN)
def qM (cnt:Nat) (bs:List PB) (m:Nat):List (List AV):=(List.range cnt).map fun v=>[Rq (jc bs m v)]
theorem DV {cnt:Nat} {bs:List PB} {m v:Nat} (h:v<cnt):(qM cnt bs m)[v]? =some [Rq (jc bs m v)]:=by simp[qM,h]
def gn (cnt:Nat) (bs:List PB) (f:Nat->Int):List AV:=[.int .i64 cnt,.sl (bs.map aD),.sl (qM cnt bs bs.length),.sl (ev f bs.length)]
theorem uR {bs:List PB} {e:Nat} (h:e<bs.length):(bs.map aD)[e]? =some (aD (cZ bs e)):=getD_map aD h
def Small (bs:List PB) (f:Nat->Int):Prop:=∀e,e<bs.length->(0<=(cZ bs e).s/\(cZ bs e).s<=4)/\-4<=f e/\f e<=4
theorem Ll (cnt:Nat) (bs:List PB) (f:Nat->Int) (hs:Small bs f) (e v:Nat) (he:e<bs.length):aw Tryz.prog 297 [.dp (gn cnt bs f),.int .i64 v,.int .i64 e] (.iA [.int .i64 (fY bs f e v),.int .i64 (cw bs e v)]):=by
 refine aw.body eK rfl fun hl n0=>?_
 clear hl
 have hb:=uR he
 have hf:=ep (f:=f) he
 obtain⟨⟨s0,s1⟩,s2,s3⟩:=hs e he
 have w1:IntKind.i64.wrap ((cZ bs e).s-f e)=(cZ bs e).s-f e:=bK (by omega)
 have w2:IntKind.i64.wrap ((cZ bs e).s+f e)=(cZ bs e).s+f e:=bK (by omega)
 unfold fY cw
 generalize cZ bs e=b at *
 by_cases h:b.a=v
 ·have hd:decide ((b.a:Int)=(v:Int))=true:=decide_eq_true (by rw[h])
  (try((repeat(revert hN;revert N;apply Pn.out));refine wk (tw @gn.eq_1 (tw @hb (tw @hf (tw @aD.eq_1 (tw @aQ.eq_1 (tw @hd (tw @w1 @w2))))))) ?_;(repeat(refine Pn.mk ?_;intro N hN))))
  refine jE (.inl rfl) (by simp only[go_sem, ↓reduceIte,Nat.reduceEqDiff,Nat.reduceAdd,Nat.reduceSub,Nat.reduceLeDiff,reduceCtorEq];rfl) (by simp only[go_sem, ↓reduceIte,Nat.reduceEqDiff,Nat.reduceAdd,Nat.reduceSub,Nat.reduceLeDiff,reduceCtorEq];rfl) ?_
  simp only[fF,bV,cY,eL,Option.map_some,if_pos h]
 ·have hd:decide ((b.a:Int)=(v:Int))=false:=decide_eq_false fun hc=>h (by omega)
  (try((repeat(revert hN;revert N;apply Pn.out));refine wk (tw @gn.eq_1 (tw @hb (tw @hf (tw @aD.eq_1 (tw @aQ.eq_1 (tw @hd (tw @w1 @w2))))))) ?_;(repeat(refine Pn.mk ?_;intro N hN))))
  refine jE (.inl rfl) (by simp only[go_sem, ↓reduceIte,Nat.reduceEqDiff,Nat.reduceAdd,Nat.reduceSub,Nat.reduceLeDiff,reduceCtorEq];rfl) (by simp only[go_sem, ↓reduceIte,Nat.reduceEqDiff,Nat.reduceAdd,Nat.reduceSub,Nat.reduceLeDiff,reduceCtorEq];rfl) ?_
  simp only[fF,bV,cY,eL,Option.map_some,if_neg h]
theorem GR (cnt:Nat) (hn:cnt<=1048576) (bs:List PB) (ok:nT cnt bs) (od:bs.length<=1048576) (f:Nat->Int) (hs:Small bs f) (y:Nat) (hy:y<cnt):
  nS Tryz.prog 253 [.dp (gn cnt bs f),.int .i64 y] fun r=>∃out,r=.sl (ev out cnt)/\zF cnt bs f y out:=by
 refine nS.body eK rfl fun hl n0=>?_
 clear hl
 (try((repeat(revert hN;revert N;apply Pn.out));refine wk @gn.eq_1 ?_;(repeat(refine Pn.mk ?_;intro N hN))))
 refine aX (fun n env st=>∃k:Nat,n=(cnt)-k/\k<=(cnt)/\env 6=.int .i64 (k:Int)/\(∃o:Id,env 5=.own o 0 k/\st.get o=some ⟨true,1,ev (fun _=>-1) k⟩/\o.br<st.next)) (cnt) ⟨0,by omega,by omega,sl @gn.eq_1,⟨⟨253001000,n0+1⟩,by(simp only[go_sem, ↓reduceIte,Nat.reduceEqDiff,Nat.reduceAdd,Nat.reduceSub,Nat.reduceLeDiff,reduceCtorEq])<;>rfl,by(simp only[go_sem, ↓reduceIte,Nat.reduceEqDiff,Nat.reduceAdd,Nat.reduceSub,Nat.reduceLeDiff,reduceCtorEq])<;>rfl,by(try dsimp only);omega⟩⟩ ?_
 rintro n_a env_a st_a ⟨k,rfl,ale,a6,kC⟩ dC
 have a0:=dC 0 (by kernel_rfl);have a1:=dC 1 (by kernel_rfl)
 simp only[go_sem, ↓reduceIte,Nat.reduceEqDiff,Nat.reduceAdd,Nat.reduceSub,Nat.reduceLeDiff,reduceCtorEq,gn]at a0 a1
 clear dC
 obtain⟨o,a5,ag,pO⟩:=kC
 have tl:=ec (fun _=>-1) k
 have rz:=dr pO
 by_cases hk:(k:Int)<(cnt:Int)
 ·have cD:∀{e:Env} {gg:Rows} {nx:Nat},(e 6=.int .i64 (IntKind.i64.wrap ((k:Int)+1)))->(∃o:Id,e 5=.own o 0 (k+1)/\gg o=some ⟨true,1,ev (fun _=>-1) (k+1)⟩/\o.br<nx)->∃m0,m0<(cnt)-k/\∃k:Nat,m0=(cnt)-k/\k<=(cnt)/\e 6=.int .i64 (k:Int)/\(∃o:Id,e 5=.own o 0 k/\gg o=some ⟨true,1,ev (fun _=>-1) k⟩/\o.br<nx):=fun x1 x2=>⟨_,by omega,k+1,rfl,by omega,(by rw[x1,az (by omega)]),x2⟩
  have e1:k+1<=16777216:=by omega
  have qn:ev (fun _=>-1) k++[[.int .i64 (-1)]]=ev (fun _=>-1) (k+1):=(IK _ _).symm
  (try((repeat(revert hN;revert N;apply Pn.out));refine wk (tw @a6 (tw @a0 (tw @a1 (tw @a5 (tw @ag (tw @rz (tw @hk (tw @tl (tw @e1 (tw @qn @gn.eq_1)))))))))) ?_;(repeat(refine Pn.mk ?_;intro N hN))))
  exact cD (sd (tw @a6 (tw @a0 (tw @a1 @gn.eq_1)))) (⟨⟨253005002,st_a.next+1⟩,sd @Nat.zero_add,sd @qn,by(try dsimp only);omega⟩)
 have kM:k=cnt:=by omega
 subst kM
 have VH:(y:Int)<(k:Int):=by omega
 have hym:=ep (f:=fun _=>-1) hy
 have Cq:(ev (fun _=>-1) k).set y (aQ 0)=ev (fun v=>if v=y then 0 else -1) k:=lI hy (if_pos rfl) fun i _ hi=>if_neg hi
 rw[aQ]at Cq hym
 (try((repeat(revert hN;revert N;apply Pn.out));refine wk (tw @a6 (tw @a0 (tw @a1 (tw @a5 (tw @ag (tw @rz (tw @hk (tw @tl (tw @VH (tw @hym (tw @Cq @gn.eq_1))))))))))) ?_;(repeat(refine Pn.mk ?_;intro N hN))))
 refine aX (fun m env st=>∃(i:Nat) (out:Nat->Int) (Q:List Nat) (p:Id),m=k-i/\env 8=.int .i64 (i:Int)/\env 7=.own p 0 Q.length/\st.get p=some ⟨true,1,Q.map eN⟩/\st.get o=some ⟨true,1,ev out k⟩/\o.br<p.br/\p.br<st.next/\Bd k bs f y out Q i/\i<=Q.length) k ⟨0,_,[y],⟨253007001,st_a.next+1+1⟩,by omega,by(simp only[go_sem, ↓reduceIte,Nat.reduceEqDiff,Nat.reduceAdd,Nat.reduceSub,Nat.reduceLeDiff,reduceCtorEq])<;>rfl,by(simp only[go_sem, ↓reduceIte,Nat.reduceEqDiff,Nat.reduceAdd,Nat.reduceSub,Nat.reduceLeDiff,reduceCtorEq])<;>rfl,by(simp only[go_sem, ↓reduceIte,Nat.reduceEqDiff,Nat.reduceAdd,Nat.reduceSub,Nat.reduceLeDiff,reduceCtorEq])<;>rfl,sd @rz,by(try dsimp only);omega,by(try dsimp only);omega,Bd.start hy,by simp⟩ ?_
 rintro n env_b st_b ⟨i,out,Q,p,rfl,b8,b7,bgp,bgo,ei,hpn,hB,hiq⟩ eX
 have b0:=eX 0 (by kernel_rfl)
 have b5:=eX 5 (by kernel_rfl)
 simp only[go_sem, ↓reduceIte,Nat.reduceEqDiff,Nat.reduceAdd,Nat.reduceSub,Nat.reduceLeDiff,reduceCtorEq,a6,a0,a1,a5,gn]at b0 b5
 clear eX
 have Pa:=hB.len
 have VM:=ec out k
 have hqm:(Q.map eN).length=Q.length:=by simp
 have Bl:=dr hpn
 have kW:=dr (i:=o) (n:=st_b.next) (by omega)
 by_cases hi:(i:Int)<(Q.length:Int)
 ·have fI:i<Q.length:=by omega
  have jm:(Q.map eN)[i]? =some (eN Q[i]):=by simp[fI]
  have Pc:=hB.lt _ (List.getElem_mem fI)
  obtain⟨vt,QX⟩:∃vt,vt=Q[i]:=⟨_,rfl⟩
  rw[<-QX]at jm Pc
  have hA:=DV (cnt:=k) (bs:=bs) (m:=bs.length) Pc
  have Np:(vt:Int)<(k:Int):=by omega
  have mj:=sw bs bs.length vt
  have hme:∀x,x<(jc bs bs.length vt).length->(jc bs bs.length vt).getD x 0<bs.length/\FV bs ((jc bs bs.length vt).getD x 0) vt:=fun x hx=>by
   rw[List.getD_eq_getElem?_getD,List.getElem?_eq_getElem hx]
   exact sC.1 (List.getElem_mem hx)
  have TP:∀e∈jc bs bs.length vt,∃x,x<(jc bs bs.length vt).length/\(jc bs bs.length vt).getD x 0=e:=fun e he=>by
   obtain⟨x,hx,rfl⟩:=List.getElem_of_mem he
   exact⟨x,hx,by rw[List.getD_eq_getElem?_getD,List.getElem?_eq_getElem hx];rfl⟩
  generalize hIn:jc bs bs.length vt=I at *
  unfold Rq at hA
  by_cases WA:I=[]
  ·rw[if_pos WA]at hA
   have hI1:I.length=0:=by rw[WA];rfl
   (try((repeat(revert hN;revert N;apply Pn.out));refine wk (tw @b0 (tw @b5 (tw @b7 (tw @b8 (tw @bgp (tw @hi (tw @jm (tw @hqm (tw @eN.eq_1 @gn.eq_1))))))))) ?_;(repeat(refine Pn.mk ?_;intro N hN))))
   refine aX (fun n env st=>∃x:Nat,n=(I.length)-x/\x<=(I.length)/\env 10=.int .i64 (x:Int)/\(∃(iR:Nat->Int) (Q':List Nat) (p':Id),env 7=.own p' 0 Q'.length/\st.get p'=some ⟨true,1,Q'.map eN⟩/\st.get o=some ⟨true,1,ev iR k⟩/\o.br<p'.br/\p'.br<st.next/\Bd k bs f y iR Q' i/\(∃h:i<Q'.length,Q'[i]=vt)/\(∀z,z<x->0<fY bs f (I.getD z 0) (cw bs (I.getD z 0) vt)->0<=iR (cw bs (I.getD z 0) vt)))) (I.length) ⟨0,by omega,by omega,sl (tw @b0 (tw @b5 (tw @b8 @gn.eq_1))),⟨out,Q,p,sd @b7,sd @bgp,sd @bgo,ei,by(try dsimp only);omega,hB,⟨fI,QX.symm⟩,fun z hz=>by omega⟩⟩ ?_
   rintro n_c env_c st_c ⟨x,rfl,cle,jG,cI0⟩ iO
   have c0:=iO 0 (by kernel_rfl);have c5:=iO 5 (by kernel_rfl);have c8:=iO 8 (by kernel_rfl);have c9:=iO 9 (by kernel_rfl)
   simp only[go_sem, ↓reduceIte,Nat.reduceEqDiff,Nat.reduceAdd,Nat.reduceSub,Nat.reduceLeDiff,reduceCtorEq,b0,b5,b8,gn]at c0 c5 c8 c9
   clear iO
   obtain⟨iR,Q',p',c7,JG,yL,EO,QQ,eb,⟨yi,rq⟩,Mg⟩:=cI0
   have Xz:=eb.len
   have Rt:=ec iR k
   have QR:(Q'.map eN).length=Q'.length:=by simp
   have An:=dr QQ
   have mO:=dr (i:=o) (n:=st_c.next) (by omega)
   have x1:=da EO
   have hx:¬(x:Int)<((0:Nat):Int):=by omega
   have hxe:x=I.length:=by omega
   have hw:IntKind.i64.wrap ((i:Int)+1)=((i+1:Nat):Int):=az (by omega)
   (try((repeat(revert hN;revert N;apply Pn.out));refine wk (tw @jG (tw @c0 (tw @c5 (tw @c8 (tw @c9 (tw @c7 (tw @hx (tw @hA (tw @Np @gn.eq_1))))))))) ?_;(repeat(refine Pn.mk ?_;intro N hN))))
   refine⟨_,?_,i+1,iR,Q',p',rfl,sd (tw @jG (tw @c0 (tw @c5 (tw @c8 (tw @c9 @hw))))),sd @c7,sd @JG,sd @yL,EO,by(try dsimp only);omega,eb.next yi fun e he hr=>?_,by omega⟩
   ·omega
   ·rw[rq,hIn]at he
    rw[rq]at hr ⊢
    obtain⟨z,hz,rfl⟩:=TP e he
    exact Mg z (by omega) hr
  ·rw[if_neg WA]at hA
   have rh:(I.map eN).length=I.length:=by simp
   (try((repeat(revert hN;revert N;apply Pn.out));refine wk (tw @b0 (tw @b5 (tw @b7 (tw @b8 (tw @bgp (tw @hi (tw @jm (tw @hqm (tw @eN.eq_1 @gn.eq_1))))))))) ?_;(repeat(refine Pn.mk ?_;intro N hN))))
   refine aX (fun n env st=>∃x:Nat,n=(I.length)-x/\x<=(I.length)/\env 10=.int .i64 (x:Int)/\(∃(iR:Nat->Int) (Q':List Nat) (p':Id),env 7=.own p' 0 Q'.length/\st.get p'=some ⟨true,1,Q'.map eN⟩/\st.get o=some ⟨true,1,ev iR k⟩/\o.br<p'.br/\p'.br<st.next/\Bd k bs f y iR Q' i/\(∃h:i<Q'.length,Q'[i]=vt)/\(∀z,z<x->0<fY bs f (I.getD z 0) (cw bs (I.getD z 0) vt)->0<=iR (cw bs (I.getD z 0) vt)))) (I.length) ⟨0,by omega,by omega,sl (tw @b0 (tw @b5 (tw @b8 @gn.eq_1))),⟨out,Q,p,sd @b7,sd @bgp,sd @bgo,ei,by(try dsimp only);omega,hB,⟨fI,QX.symm⟩,fun z hz=>by omega⟩⟩ ?_
   rintro n_c env_c st_c ⟨x,rfl,cle,jG,cI0⟩ iO
   have c0:=iO 0 (by kernel_rfl);have c5:=iO 5 (by kernel_rfl);have c8:=iO 8 (by kernel_rfl);have c9:=iO 9 (by kernel_rfl)
   simp only[go_sem, ↓reduceIte,Nat.reduceEqDiff,Nat.reduceAdd,Nat.reduceSub,Nat.reduceLeDiff,reduceCtorEq,b0,b5,b8,gn]at c0 c5 c8 c9
   clear iO
   obtain⟨iR,Q',p',c7,JG,yL,EO,QQ,eb,⟨yi,rq⟩,Mg⟩:=cI0
   have Xz:=eb.len
   have Rt:=ec iR k
   have QR:(Q'.map eN).length=Q'.length:=by simp
   have An:=dr QQ
   have mO:=dr (i:=o) (n:=st_c.next) (by omega)
   have x1:=da EO
   by_cases hx:(x:Int)<(I.length:Int)
   ·have gN:∀{e:Env} {gg:Rows} {nx:Nat},(e 10=.int .i64 (IntKind.i64.wrap ((x:Int)+1)))->(∃(iR:Nat->Int) (Q':List Nat) (p':Id),e 7=.own p' 0 Q'.length/\gg p'=some ⟨true,1,Q'.map eN⟩/\gg o=some ⟨true,1,ev iR k⟩/\o.br<p'.br/\p'.br<nx/\Bd k bs f y iR Q' i/\(∃h:i<Q'.length,Q'[i]=vt)/\(∀z,z<(x+1)->0<fY bs f (I.getD z 0) (cw bs (I.getD z 0) vt)->0<=iR (cw bs (I.getD z 0) vt)))->∃m0,m0<(I.length)-x/\∃x:Nat,m0=(I.length)-x/\x<=(I.length)/\e 10=.int .i64 (x:Int)/\(∃(iR:Nat->Int) (Q':List Nat) (p':Id),e 7=.own p' 0 Q'.length/\gg p'=some ⟨true,1,Q'.map eN⟩/\gg o=some ⟨true,1,ev iR k⟩/\o.br<p'.br/\p'.br<nx/\Bd k bs f y iR Q' i/\(∃h:i<Q'.length,Q'[i]=vt)/\(∀z,z<x->0<fY bs f (I.getD z 0) (cw bs (I.getD z 0) vt)->0<=iR (cw bs (I.getD z 0) vt))):=fun x1 x2=>⟨_,by omega,x+1,rfl,by omega,(by rw[x1,az (by omega)]),x2⟩
    have Sw:x<I.length:=by omega
    have Qe:(I.map eN)[x]? =some (eN (I.getD x 0)):=getD_map eN Sw
    obtain⟨he,qk⟩:=hme x Sw
    obtain⟨e,Vi⟩:∃e,e=I.getD x 0:=⟨_,rfl⟩
    rw[<-Vi]at Qe he qk
    have iI:=uR he
    have hq:=ph ok (v:=vt) he
    have I9:=pj ok he qk
    have Kt:=Ll k bs f hs e (cw bs e vt) he
    have Tz:=ok e he
    have l7:IntKind.i64.wrap (((cZ bs e).a:Int)+((cZ bs e).b:Int))=((cZ bs e).a:Int)+((cZ bs e).b:Int):=bK (by omega)
    have qy:IntKind.i64.wrap (((cZ bs e).a:Int)+((cZ bs e).b:Int)-(vt:Int))=(cw bs e vt:Int):=by
     rw[bK (by omega)]
     unfold cw
     rcases qk with h1|h1
     ·rw[if_pos h1];omega
     ·rw[if_neg fun h2=>Tz.2.2 (h2.trans h1.symm)];omega
    have Sp:(cw bs e vt:Int)<(k:Int):=by omega
    have Qy:=ep (f:=iR) hq
    have M3:=ep (f:=iR) Pc
    rw[gn]at Kt
    have lO:=eb.up i yi
    rw[rq]at lO
    have jQ:=eb.lo vt Pc
    have Pe:IntKind.i64.wrap (iR vt+1)=iR vt+1:=bK (by omega)
    rw[aQ]at Qy M3
    generalize yV:cZ bs e=b at *
    by_cases kj:iR (cw bs e vt)<0
    ·by_cases eR:0<fY bs f e (cw bs e vt)
     ·have hV:=eb.visit ok yi (e:=e) he (by rw[rq];exact qk) (by rw[rq];exact kj) (by rw[rq];exact eR)
      rw[rq]at hV
      have eC:(ev iR k).set (cw bs e vt) (aQ (iR vt+1))=ev (fun v=>if v=cw bs e vt then iR vt+1 else iR v) k:=lI hq (if_pos rfl) fun v _ hv=>if_neg hv
      rw[aQ]at eC
      have e1:Q'.length+1<=16777216:=by omega
      (repeat(first|((repeat(revert hN;revert N;apply Pn.out));refine wk (tw @jG (tw @c0 (tw @c5 (tw @c8 (tw @c9 (tw @c7 (tw @JG (tw @yL (tw @hx (tw @hA (tw @rh (tw @Qe (tw @Np (tw @iI (tw @l7 (tw @qy (tw @Sp (tw @Qy (tw @M3 (tw @kj (tw @eR (tw @Pe (tw @eC (tw @QR (tw @Rt (tw @An (tw @mO (tw @x1 (tw @e1 (tw @eN.eq_1 (tw @aD.eq_1 @gn.eq_1))))))))))))))))))))))))))))))) ?_;(repeat(refine Pn.mk ?_;intro N hN)))|((try apply Or.inl);refine⟨_,aw.x (Kt) (sd (tw @jG (tw @c0 (tw @c5 (tw @c8 (tw @c9 (tw @c7 (tw @JG (tw @yL (tw @hx (tw @hA (tw @rh (tw @Qe (tw @Np (tw @iI (tw @l7 (tw @qy (tw @Sp (tw @Qy (tw @M3 (tw @kj (tw @eR (tw @Pe (tw @eC (tw @QR (tw @Rt (tw @An (tw @mO (tw @x1 (tw @e1 (tw @eN.eq_1 (tw @aD.eq_1 @gn.eq_1)))))))))))))))))))))))))))))))),?_⟩;refine hN _ _ ?_;clear hN N)))
      exact gN (sd (tw @jG (tw @c0 (tw @c5 (tw @c8 @c9))))) (⟨_,Q'++[cw bs e vt],⟨253020003,st_c.next+1+1+1+1+1+1⟩,by rw[List.length_append];simp only[go_sem, ↓reduceIte,Nat.reduceEqDiff,Nat.reduceAdd,Nat.reduceSub,Nat.reduceLeDiff,reduceCtorEq,List.length_cons,List.length_nil],by rw[List.map_append,List.map_cons,List.map_nil];simp only[go_sem, ↓reduceIte,Nat.reduceEqDiff,Nat.reduceAdd,Nat.reduceSub,Nat.reduceLeDiff,reduceCtorEq,eN],sd (tw @mO @x1),by(try dsimp only);omega,by(try dsimp only);omega,hV,⟨by simp;omega,by rw[List.getElem_append_left yi];exact rq⟩,fun z hz hr=>by
       by_cases Ug:z=x
       ·subst Ug
        rw[<-Vi,if_pos rfl]
        have:=(eb.iff vt Pc).2 (by rw[<-rq];exact List.getElem_mem yi)
        omega
       ·have:=Mg z (by omega) hr
        split
        ·have:=(eb.iff vt Pc).2 (by rw[<-rq];exact List.getElem_mem yi)
         omega
        ·exact this⟩)
     ·(repeat(first|((repeat(revert hN;revert N;apply Pn.out));refine wk (tw @jG (tw @c0 (tw @c5 (tw @c8 (tw @c9 (tw @c7 (tw @JG (tw @yL (tw @hx (tw @hA (tw @rh (tw @Qe (tw @Np (tw @iI (tw @l7 (tw @qy (tw @Sp (tw @Qy (tw @kj (tw @eR (tw @Rt (tw @An (tw @mO (tw @x1 (tw @eN.eq_1 (tw @aD.eq_1 @gn.eq_1)))))))))))))))))))))))))) ?_;(repeat(refine Pn.mk ?_;intro N hN)))|((try apply Or.inl);refine⟨_,aw.x (Kt) (sd (tw @jG (tw @c0 (tw @c5 (tw @c8 (tw @c9 (tw @c7 (tw @JG (tw @yL (tw @hx (tw @hA (tw @rh (tw @Qe (tw @Np (tw @iI (tw @l7 (tw @qy (tw @Sp (tw @Qy (tw @kj (tw @eR (tw @Rt (tw @An (tw @mO (tw @x1 (tw @eN.eq_1 (tw @aD.eq_1 @gn.eq_1))))))))))))))))))))))))))),?_⟩;refine hN _ _ ?_;clear hN N)))
      exact gN (sd (tw @jG (tw @c0 (tw @c5 (tw @c8 @c9))))) (⟨iR,Q',p',sd @c7,sd (tw @JG @An),sd (tw @yL @mO),EO,by(try dsimp only);omega,eb,⟨yi,rq⟩,fun z hz hr=>by
       by_cases Ug:z=x
       ·subst Ug;rw[<-Vi]at hr;exact absurd hr eR
       ·exact Mg z (by omega) hr⟩)
    ·(repeat(first|((repeat(revert hN;revert N;apply Pn.out));refine wk (tw @jG (tw @c0 (tw @c5 (tw @c8 (tw @c9 (tw @c7 (tw @JG (tw @yL (tw @hx (tw @hA (tw @rh (tw @Qe (tw @Np (tw @iI (tw @l7 (tw @qy (tw @Sp (tw @Qy (tw @kj (tw @Rt (tw @An (tw @mO (tw @x1 (tw @eN.eq_1 (tw @aD.eq_1 @gn.eq_1))))))))))))))))))))))))) ?_;(repeat(refine Pn.mk ?_;intro N hN)))|((try apply Or.inl);refine⟨_,aw.x (Kt) (sd (tw @jG (tw @c0 (tw @c5 (tw @c8 (tw @c9 (tw @c7 (tw @JG (tw @yL (tw @hx (tw @hA (tw @rh (tw @Qe (tw @Np (tw @iI (tw @l7 (tw @qy (tw @Sp (tw @Qy (tw @kj (tw @Rt (tw @An (tw @mO (tw @x1 (tw @eN.eq_1 (tw @aD.eq_1 @gn.eq_1)))))))))))))))))))))))))),?_⟩;refine hN _ _ ?_;clear hN N)))
     exact gN (sd (tw @jG (tw @c0 (tw @c5 (tw @c8 @c9))))) (⟨iR,Q',p',sd @c7,sd (tw @JG @An),sd (tw @yL @mO),EO,by(try dsimp only);omega,eb,⟨yi,rq⟩,fun z hz hr=>by
      by_cases Ug:z=x
      ·subst Ug;rw[<-Vi];omega
      ·exact Mg z (by omega) hr⟩)
   ·have hxe:x=I.length:=by omega
    have hw:IntKind.i64.wrap ((i:Int)+1)=((i+1:Nat):Int):=az (by omega)
    (try((repeat(revert hN;revert N;apply Pn.out));refine wk (tw @jG (tw @c0 (tw @c5 (tw @c8 (tw @c9 (tw @c7 (tw @hx (tw @hA (tw @rh (tw @Np @gn.eq_1)))))))))) ?_;(repeat(refine Pn.mk ?_;intro N hN))))
    refine⟨_,?_,i+1,iR,Q',p',rfl,sd (tw @jG (tw @c0 (tw @c5 (tw @c8 (tw @c9 @hw))))),sd @c7,sd @JG,sd @yL,EO,by(try dsimp only);omega,eb.next yi fun e he hr=>?_,by omega⟩
    ·omega
    ·rw[rq,hIn]at he
     rw[rq]at hr ⊢
     obtain⟨z,hz,rfl⟩:=TP e he
     exact Mg z (by omega) hr
 ·(try((repeat(revert hN;revert N;apply Pn.out));refine wk (tw @b0 (tw @b5 (tw @b7 (tw @b8 (tw @hi @gn.eq_1))))) ?_;(repeat(refine Pn.mk ?_;intro N hN))))
  have sj:gq st_b.get 6 (.own o 0 k)=some (.sl (ev out k)):=sf bgo (by rw[VM];omega) (by rw[List.drop_zero,List.take_of_length_le (by rw[VM];omega)];exact LC)
  exact⟨_,rfl,_,by simp only[go_sem, ↓reduceIte,Nat.reduceEqDiff,Nat.reduceAdd,Nat.reduceSub,Nat.reduceLeDiff,reduceCtorEq,fx];exact sj,out,rfl,hB.done ok (by omega)⟩
end Go.Proofs.YtgoljkjaameagaaGreat.V

namespace Go.Proofs.YtgoljkjaameagaaGreat.V
open Go.RowKit
attribute [local irreducible] ek wpOps fK Call
attribute [local go_sem] aI fw eH fE fD dd upd cm K.av cG AV.cells AV.cell rowOf rowsOf part ld rowAt bL bY dx dO gz bE cW dY fC eY dj dS cU cR dG dH bH aZ cJ bG cL cK dQ dU dR cI bJ cV dP bF aL cP cz gy bq cF bI aW dq bm dy AV.undef bw bz dJ dM dD dI cE dX ea cq dW dV cN cQ List.getD_cons_zero List.getD_cons_succ List.getD_nil List.all_cons List.all_nil Bool.and_true Bool.true_and Bool.and_self Bool.not_true Bool.not_false Option.map_some Option.map_none Option.bind_some Option.bind_none List.length_cons List.length_nil List.take_succ_cons List.take_zero List.take_nil List.drop_succ_cons List.drop_zero List.drop_nil List.head?_cons List.map_cons List.map_nil List.getElem?_cons_zero List.getElem?_cons_succ List.cons_append List.nil_append List.append_nil List.length_map List.set_cons_zero List.set_cons_succ eq_self Int.toNat_natCast Int.natCast_nonneg and_self true_and and_true decide_true decide_false Bool.false_eq_true Nat.zero_add Nat.add_zero List.contains_cons List.contains_nil Bool.or_false Bool.false_or beq_self_eq_true ne_eq not_true_eq_false not_false_eq_true Id.mk.injEq false_and and_false Nat.le_refl List.length_append beq_true beq_false Bool.not_eq_eq_eq_not or_false false_or dK aq au aH bf bt bZ aU bh aT bc cH bx
def RW:vI (List Nat):=fun g cs x ids=>(x=[]/\cs=[.cj]/\ids=[])∨∃id,cs=[.own id 0 x.length]/\0<x.length/\g id=some ⟨true,1,x.map eN⟩/\ids=[id]
theorem Pk:rQ RW 1 where
 frame:=fun h hf=>by
  rcases h with h|⟨id,h1,h0,h2,h3⟩
  ·exact .inl h
  ·subst h3;exact .inr ⟨id,h1,h0,(hf id (by simp)).trans h2,rfl⟩
 len:=fun h=>by rcases h with⟨_,h,_⟩|⟨id,h,_⟩<;>subst h<;>rfl
 cell:=fun h=>by rcases h with⟨_,h,_⟩|⟨id,h,_⟩<;>subst h<;>rfl
 live:=fun h i hi=>by
  rcases h with⟨_,_,h⟩|⟨id,h1,h0,h2,h3⟩
  ·subst h;cases hi
  ·subst h3
   have:i=id:=by simpa using hi
   subst this
   exact⟨_,h2,rfl,by simp[mT]⟩
 small:=by simp[mT]
theorem Rb {g:Rows} {rows:List (List AV)} {xs:List (List Nat)} {ids:List Id} (n:Nat) (h:dE RW g rows xs ids):ee (dK g) (n+2) rows=some (xs.map fun l=>[Rq l]):=
 h.fz (fun {cs x ids} h=>by
  rcases h with⟨h0,h1,_⟩|⟨id,h1,h0,h2,_⟩
  ·subst h0 h1;rw[aq,au,aU];rfl
  ·have ij:x≠[]:=by rintro rfl;simp at h0
   subst h1
   rw[aq,au,gI (e:=eN) (sz:=1) (by simp[dK,h2]) rfl fun a=>fzN _ n a]
   simp[Rq,ij])
theorem dE.Uw {α:Type} {R:vI α} {sz:Nat} {g:Rows} {rows:List (List AV)} {xs:List α} {ids:List Id} (ok:rQ R sz) (h:dE R g rows xs ids) (lg:ids.Nodup) (k:Nat) (hk:k<xs.length):
  ∃cs ic,rows[k]? =some cs/\R g cs xs[k] ic/\(∀i∈ic,i∈ids)/\∀(g':Rows) qw x' Sx,R g' qw x' Sx->(∀i∈ids,i∉ic->g' i=g i)->Sx.Nodup->(∀i∈Sx,i∉ids)->∃EW,dE R g' (rows.set k qw) (xs.set k x') EW/\EW.Nodup/\∀i∈EW,i∈Sx∨i∈ids:=by
 obtain⟨r1,cs,r2,i1,ic,i2,rfl,rfl,rfl,h3,h4,h5⟩:=h.split k hk
 obtain⟨n1,n2,n3⟩:=List.nodup_append.1 lg
 obtain⟨nc,n5,n4⟩:=List.nodup_append.1 n2
 refine⟨cs,ic,by simp,h4,fun i hi=>by simp[hi],fun g' qw x' Sx hR hf hn' lh=>⟨i1++(Sx++i2),?_,?_,fun i hi=>?_⟩⟩
 ·have e:xs.set r1.length x'=xs.take r1.length++x'::xs.drop (r1.length+1):=by rw[List.set_eq_take_append_cons_drop,if_pos hk]
  have e2:(r1++cs::r2).set r1.length qw=r1++qw::r2:=by simp
  rw[e,e2]
  refine(h3.frame ok fun i hi=>hf i (by simp[hi]) fun hc=>n3 i hi i (by simp[hc]) rfl).app (.cons hR (h5.frame ok fun i hi=>hf i (by simp[hi]) fun hc=>n4 i hc i hi rfl))
 ·rw[List.nodup_append,List.nodup_append]
  refine⟨n1,⟨hn',n5,fun x hx y hy he=>?_⟩,fun x hx y hy he=>?_⟩
  ·subst he;exact lh x hx (by simp[hy])
  ·subst he
   rcases List.mem_append.1 hy with hy|hy
   ·exact lh x hy (by simp[hx])
   ·exact n3 x hx x (by simp[hy]) rfl
 ·rcases List.mem_append.1 hi with hi|hi
  ·exact .inr (by simp[hi])
  ·rcases List.mem_append.1 hi with hi|hi
   ·exact .inl hi
   ·exact .inr (by simp[hi])
def rR (A:Id) (lo:Nat) (L:List (List Nat)) (g:Rows) (nx:Nat):Prop:=∃rows ids,g A=some ⟨true,1,rows⟩/\dE RW g rows L ids/\ids.Nodup/\∀i∈ids,lo<i.br/\i.br<nx
def bW (cnt:Nat) (bs:List PB) (A F:Id):List AV:=[.int .i64 cnt,.sl (bs.map aD),.own A 0 cnt,.own F 0 bs.length]
def lS (cnt:Nat) (bs:List PB) (m:Nat):List (List Nat):=(List.range cnt).map fun v=>jc bs m v
theorem jz (cnt:Nat) (bs:List PB) (m:Nat):(lS cnt bs m).length=cnt:=by simp[lS]
structure oI (cnt:Nat) (bs:List PB) (f:Nat->Int) (X A F:Id) (g:Rows) (nx:Nat):Prop where
 x:g X=some ⟨true,4,[bW cnt bs A F]⟩
 a:rR A F.br (lS cnt bs bs.length) g nx
 f:g F=some ⟨true,1,ev f bs.length⟩
 xa:X.br<A.br
 af:A.br<F.br
 fn:F.br<nx
theorem rR.fz {A:Id} {lo cnt:Nat} {bs:List PB} {m nx n:Nat} {g:Rows} (h:rR A lo (lS cnt bs m) g nx):V.fz (dK g) (n+3) (.own A 0 cnt)=some (.sl (qM cnt bs m)):=by
 obtain⟨rows,ids,h1,h2,_,_⟩:=h
 have hl:=h2.len
 rw[jz]at hl
 rw[gE]
 simp only[dK,h1,Option.map_some,if_true]
 rw[if_pos (by omega),List.drop_zero,List.take_of_length_le (by omega)]
 have:=Rb n h2
 rw[this]
 simp[lS,qM]
theorem oI.fz {cnt:Nat} {bs:List PB} {f:Nat->Int} {X A F:Id} {g:Rows} {nx:Nat} (h:oI cnt bs f X A F g nx):V.fz (dK g) 6 (.ptr X 0 0)=some (.dp (gn cnt bs f)):=by
 have hF:dK g F=some ⟨true,1,ev f bs.length⟩:=by simp[dK,h.f]
 have hX:dK g X=some ⟨true,4,[bW cnt bs A F]⟩:=by simp[dK,h.x]
 have hf:V.fz (dK g) 5 (.own F 0 bs.length)=some (.sl (ev f bs.length)):=by
  rw[gE]
  simp only[hF,if_true]
  rw[if_pos (by rw[ec];omega),List.drop_zero,List.take_of_length_le (by rw[ec];omega),A4];rfl
 have ha:=h.a.fz (n:=2)
 rw[bc]
 simp only[hX,if_true,List.getElem?_cons_zero,List.drop_zero,bW,aq,au,aH,bZ,ha,hf,Option.map_some,gn]
theorem HU (cnt:Nat) (bs:List PB):lS cnt bs 0=List.replicate cnt []:=by
 refine List.ext_getElem? fun i=>?_
 simp only[lS,List.getElem?_map,List.getElem?_replicate]
 by_cases h:i<cnt
 ·rw[List.getElem?_range h,if_pos h];rfl
 ·rw[List.getElem?_eq_none (by simpa using h),if_neg h];rfl
theorem zu (g:Rows):∀n:Nat,dE RW g (List.replicate n [.cj]) (List.replicate n []) []
 |0=>.nil
 |n+1=>.cons (i1:=[]) (.inl ⟨rfl,rfl,rfl⟩) (zu g n)
def yn (cnt:Nat) (bs:List PB) (m:Nat):List (List Nat):=(lS cnt bs m).set (cZ bs m).a (jc bs m (cZ bs m).a++[m])
theorem Cy {cnt:Nat} {bs:List PB} {m v:Nat} (hv:v<cnt) (ij:(cZ bs m).a≠v):(yn cnt bs m)[v]? =some (jc bs m v):=by
 unfold yn
 rw[List.getElem?_set_ne ij]
 simp[lS,hv]
theorem HT {cnt:Nat} {bs:List PB} {m:Nat} (ha:(cZ bs m).a<cnt) (hb:(cZ bs m).b<cnt) (ij:(cZ bs m).a≠(cZ bs m).b):(yn cnt bs m).set (cZ bs m).b (jc bs m (cZ bs m).b++[m])=lS cnt bs (m+1):=by
 refine List.ext_getElem? fun i=>?_
 by_cases hi:i<cnt
 ·have hr:(lS cnt bs (m+1))[i]? =some (jc bs (m+1) i):=by simp[lS,hi]
  rw[hr,HV]
  by_cases h1:(cZ bs m).b=i
  ·rw[List.getElem?_set,if_pos h1,if_pos (by simp[yn,jz];omega),if_pos (.inr h1),h1]
  ·rw[List.getElem?_set_ne h1]
   by_cases h2:(cZ bs m).a=i
   ·unfold yn
    rw[List.getElem?_set,if_pos h2,if_pos (by rw[jz];omega),if_pos (.inl h2),h2]
   ·rw[Cy hi h2,if_neg (fun h=>h.elim h2 h1),List.append_nil]
 ·rw[List.getElem?_eq_none (by simp[yn,jz];omega),List.getElem?_eq_none (by rw[jz];omega)]
theorem la {α:Type} {l:List α} {k:Nat} {x:α} (h:l[k]? =some x) (hk:k<l.length):l[k]=x:=by
 rw[List.getElem?_eq_getElem hk]at h;exact Option.some.inj h
theorem GJ {A K:Id} {lo Ur nx k j:Nat} {L:List (List Nat)} {La:List Nat} {g:Rows} {rows:List (List AV)} {ids:List Id} (hR:dE RW g rows L ids) (lg:ids.Nodup) (oy:∀i∈ids,lo<i.br/\i.br<Ur) (hA:A.br<=lo) (hL:L[k]? =some La) (hK1:Ur<=K.br) (Tf:K.br<nx) (jQ:lo<Ur):
  ∃cs,rows[k]? =some cs/\((La=[]/\cs=[.cj])∨∃id:Id,cs=[.own id 0 La.length]/\0<La.length/\g id=some ⟨true,1,La.map eN⟩/\id.br<Ur/\lo<id.br)/\
   ∀g':Rows,g' A=some ⟨true,1,rows.set k [.own K 0 (La.length+1)]⟩->g' K=some ⟨true,1,La.map eN++[[.int .i64 j]]⟩->(∀i:Id,i.br<Ur->(i=A)=False->(∀id,cs=[.own id 0 La.length]->(i=id)=False)->g' i=g i)->rR A lo (L.set k (La++[j])) g' nx:=by
 have hk:k<L.length:=(List.getElem?_eq_some_iff.1 hL).1
 have WD:=la hL hk
 obtain⟨cs,ic,dz,R9,Gq,so⟩:=hR.Uw Pk lg k hk
 rw[WD]at R9
 refine⟨cs,dz,?_,fun g' h1 h2 h3=>?_⟩
 ·rcases R9 with⟨h1,h2,_⟩|⟨id,h1,h2,h3,h4⟩
  ·exact .inl ⟨h1,h2⟩
  ·subst h4
   have:=oy id (Gq id (by simp))
   exact .inr ⟨id,h1,h2,h3,this.2,this.1⟩
 ·obtain⟨EW,q1,q2,q3⟩:=so g' [.own K 0 (La.length+1)] (La++[j]) [K] (.inr ⟨K,by simp,by simp,by rw[h2];simp[eN],rfl⟩) (fun i hi Vt=>by
   refine h3 i (oy i hi).2 ?_ fun id hid=>?_
   ·simp only[eq_iff_iff,iff_false];rintro rfl;have:=oy _ hi;omega
   ·simp only[eq_iff_iff,iff_false]
    rintro rfl
    rcases R9 with⟨_,h4,_⟩|⟨lk,h4,_,_,h5⟩
    ·rw[hid]at h4;cases h4
    ·rw[hid]at h4
     simp only[List.cons.injEq,AV.own.injEq,and_true]at h4
     rw[h5,h4]at Vt
     exact Vt (by simp)) (by simp) fun i hi hc=>by
   rw[List.mem_singleton.1 hi]at hc;have:=oy _ hc;omega
  refine⟨_,EW,h1,q1,q2,fun i hi=>?_⟩
  rcases q3 i hi with h|h
  ·rw[List.mem_singleton.1 h];omega
  ·have:=oy i h;omega
theorem OA {P:Program} {Q:Ex->Env->ay->Prop} {c:VC} {env:Env} {σ:ay} (I:Env->ay->Prop) (h2:∀e s,I e s->Q .normal e s) (h1:∀N':Env->ay->Prop,(∀e s,I e s->N' e s)->ek (Call P) c (dq N' Q) env σ):ek (Call P) c Q env σ:=by
 refine lK (fun _ _ _ _ h=>h) aJ c _ _ env σ (fun x e s h=>?_) (h1 I fun _ _ h=>h)
 cases x with
 |normal=>exact h2 e s h
 |exit id=>exact h
 |ret=>exact h
end Go.Proofs.YtgoljkjaameagaaGreat.V

namespace Go.Proofs.YtgoljkjaameagaaGreat.V
open Go.RowKit
attribute [local irreducible] ek wpOps fK Call
attribute [local go_sem] aI fw eH fE fD dd upd cm K.av cG AV.cells AV.cell rowOf rowsOf part ld rowAt bL bY dx dO gz bE cW dY fC eY dj dS cU cR dG dH bH aZ cJ bG cL cK dQ dU dR cI bJ cV dP bF aL cP cz gy bq cF bI aW dq bm dy AV.undef bw bz dJ dM dD dI cE dX ea cq dW dV cN cQ List.getD_cons_zero List.getD_cons_succ List.getD_nil List.all_cons List.all_nil Bool.and_true Bool.true_and Bool.and_self Bool.not_true Bool.not_false Option.map_some Option.map_none Option.bind_some Option.bind_none List.length_cons List.length_nil List.take_succ_cons List.take_zero List.take_nil List.drop_succ_cons List.drop_zero List.drop_nil List.head?_cons List.map_cons List.map_nil List.getElem?_cons_zero List.getElem?_cons_succ List.cons_append List.nil_append List.append_nil List.length_map List.set_cons_zero List.set_cons_succ Nat.reduceMul eq_self Int.toNat_natCast Int.natCast_nonneg and_self true_and and_true decide_true decide_false Bool.false_eq_true Nat.zero_add Nat.add_zero List.contains_cons List.contains_nil Bool.or_false Bool.false_or beq_self_eq_true Nat.reduceBEq ne_eq not_true_eq_false not_false_eq_true Id.mk.injEq false_and and_false Nat.reduceLT Int.reduceLE Int.reduceLT Int.reduceToNat Int.reduceNeg Int.reduceAdd Nat.le_refl List.length_append beq_true beq_false Bool.not_eq_eq_eq_not or_false false_or dK aq au aH bf bt bZ aU bh aT bc cH bx
theorem KF (cnt:Nat) (hn:cnt<=1048576) (bs:List PB) (ok:nT cnt bs) (od:bs.length<=1048576) (σ:ay):
  Call Tryz.prog 251 [.int .i64 cnt,.sl (bs.map aD)] σ fun r σ'=>∃X A F,r=.ptr X 0 0/\σ.next<=X.br/\oI cnt bs (fun _=>0) X A F σ'.get σ'.next:=by
 refine DK PT rfl fun hl=>?_
 try simp only[q]
 clear hl
 have jO:(0:Int)<=(cnt:Int):=by omega
 have qi:(cnt:Int)<=((16777216:Nat):Int):=by omega
 have wC:(0:Int)<=(bs.length:Int):=by omega
 have Gk:(bs.length:Int)<=((16777216:Nat):Int):=by omega
 have hz:List.replicate bs.length [AV.int .i64 0]=ev (fun _=>0) bs.length:=by
  refine List.ext_getElem? fun i=>?_
  by_cases h:i<bs.length
  ·rw[ep h,List.getElem?_replicate,if_pos h];rfl
  ·rw[List.getElem?_eq_none (by simp;omega),List.getElem?_eq_none (by rw[ec];omega)]
 (try((repeat(revert hN;revert N;apply Pn.out));refine wk (tw @jO (tw @qi (tw @wC (tw @Gk (tw @Int.le_refl @hz))))) ?_;(repeat(refine Pn.mk ?_;intro N hN))))
 obtain⟨X,hX⟩:∃X:Id,X=⟨251001003,σ.next+1⟩:=⟨_,rfl⟩
 obtain⟨A,hA⟩:∃X:Id,X=⟨251002002,σ.next+1+1⟩:=⟨_,rfl⟩
 obtain⟨F,hF⟩:∃X:Id,X=⟨251003003,σ.next+1+1+1⟩:=⟨_,rfl⟩
 have hXA:X.br<A.br:=by rw[hX,hA];(try dsimp only);omega
 have hAF:A.br<F.br:=by rw[hA,hF];(try dsimp only);omega
 have hXs:σ.next<=X.br:=by rw[hX];(try dsimp only);omega
 refine aX (fun n env st=>∃j:Nat,n=(bs.length)-j/\j<=(bs.length)/\env 6=.int .i64 (j:Int)/\env 5=(.ptr X 0 0)/\st.get X=some ⟨true,4,[bW cnt bs A F]⟩/\st.get F=some ⟨true,1,ev (fun _=>0) bs.length⟩/\(rR A F.br (lS cnt bs j) st.get st.next/\F.br<st.next)) (bs.length) ⟨0,by omega,by omega,by(try simp only[go_sem, ↓reduceIte,Nat.reduceEqDiff,Nat.reduceAdd,Nat.reduceSub,Nat.reduceLeDiff,reduceCtorEq,hX,hF,hA,bW,hz]);try rfl,by(try simp only[go_sem, ↓reduceIte,Nat.reduceEqDiff,Nat.reduceAdd,Nat.reduceSub,Nat.reduceLeDiff,reduceCtorEq,hX,hF,hA,bW,hz]);try rfl,by(try simp only[go_sem, ↓reduceIte,Nat.reduceEqDiff,Nat.reduceAdd,Nat.reduceSub,Nat.reduceLeDiff,reduceCtorEq,hX,hF,hA,bW,hz]);try rfl,by(try simp only[go_sem, ↓reduceIte,Nat.reduceEqDiff,Nat.reduceAdd,Nat.reduceSub,Nat.reduceLeDiff,reduceCtorEq,hX,hF,hA,bW,hz]);try rfl,⟨⟨List.replicate cnt [.cj],[],by rw[hA];(simp only[go_sem, ↓reduceIte,Nat.reduceEqDiff,Nat.reduceAdd,Nat.reduceSub,Nat.reduceLeDiff,reduceCtorEq])<;>rfl,by rw[HU];exact zu _ _,List.nodup_nil,fun i hi=>by cases hi⟩,by rw[hF];(try dsimp only);omega⟩⟩ ?_
 rintro n_a env_a st_a ⟨j,rfl,ale,a6,a5,ag0,ag1,kC⟩ dC
 have a0:=dC 0 (by kernel_rfl);have a1:=dC 1 (by kernel_rfl)
 simp only[go_sem, ↓reduceIte,Nat.reduceEqDiff,Nat.reduceAdd,Nat.reduceSub,Nat.reduceLeDiff,reduceCtorEq,hX,hF,hA,bW,hz]at a0 a1
 clear dC
 obtain⟨⟨rows,ids,ag,hR,lg,oy⟩,hFn⟩:=kC
 have x1:=da hXA
 have x2:=da hAF
 have x3:=da (a:=X) (b:=F) (by omega)
 have vX:=dr (i:=X) (n:=st_a.next) (by omega)
 have vA:=dr (i:=A) (n:=st_a.next) (by omega)
 have vF:=dr (i:=F) (n:=st_a.next) (by omega)
 by_cases hj:(j:Int)<(bs.length:Int)
 ·have cD:∀{e:Env} {gg:Rows} {nx:Nat},(e 6=.int .i64 (IntKind.i64.wrap ((j:Int)+1)))->(e 5=(.ptr X 0 0))->(gg X=some ⟨true,4,[bW cnt bs A F]⟩)->(gg F=some ⟨true,1,ev (fun _=>0) bs.length⟩)->(rR A F.br (lS cnt bs (j+1)) gg nx/\F.br<nx)->∃m0,m0<(bs.length)-j/\∃j:Nat,m0=(bs.length)-j/\j<=(bs.length)/\e 6=.int .i64 (j:Int)/\e 5=(.ptr X 0 0)/\gg X=some ⟨true,4,[bW cnt bs A F]⟩/\gg F=some ⟨true,1,ev (fun _=>0) bs.length⟩/\(rR A F.br (lS cnt bs j) gg nx/\F.br<nx):=fun x1 x2 x3 x4 x5=>⟨_,by omega,j+1,rfl,by omega,(by rw[x1,az (by omega)]),x2,x3,x4,x5⟩
  have gW:j<bs.length:=by omega
  have iI:=uR gW
  obtain⟨ha1,Tn,ij⟩:=ok j gW
  have gQ:((cZ bs j).a:Int)<(cnt:Int):=by omega
  have fJ:((cZ bs j).b:Int)<(cnt:Int):=by omega
  have pN:=HT (m:=j) ha1 Tn ij
  have e1:=sw bs j (cZ bs j).a
  have e2:=sw bs j (cZ bs j).b
  have Qx:(yn cnt bs j)[(cZ bs j).b]? =some (jc bs j (cZ bs j).b):=Cy Tn ij
  have TD:(lS cnt bs j)[(cZ bs j).a]? =some (jc bs j (cZ bs j).a):=by simp[lS,ha1]
  have Wo:yn cnt bs j=(lS cnt bs j).set (cZ bs j).a (jc bs j (cZ bs j).a++[j]):=rfl
  have J5:(yn cnt bs j).length=cnt:=by rw[Wo,List.length_set,jz]
  have jj:=hR.len
  rw[jz]at jj
  obtain⟨cs7,jv,J8,Ko⟩:=GJ (A:=A) (K:=⟨251007022,st_a.next+1⟩) (nx:=st_a.next+1+1) (j:=j) hR lg oy (by omega) TD (by(try dsimp only);omega) (by(try dsimp only);omega) hFn
  rw[<-Wo]at Ko
  obtain⟨c7,rfl⟩:∃c,cs7=[c]:=by
   rcases J8 with⟨_,h⟩|⟨id,h,_⟩<;>exact⟨_,h⟩
  generalize jc bs j (cZ bs j).a=La at *
  generalize jc bs j (cZ bs j).b=Lb at *
  generalize cZ bs j=b at *
  generalize yn cnt bs j=LA at *
  clear Wo
  (try((repeat(revert hN;revert N;apply Pn.out));refine wk (tw @a6 (tw @a5 (tw @ag0 (tw @ag1 (tw @a0 (tw @a1 (tw @hj (tw @iI (tw @aD.eq_1 (tw @ag (tw @jv (tw @gQ (tw @fJ (tw @jj (tw @x1 (tw @x2 (tw @x3 (tw @vX (tw @vA (tw @vF @bW.eq_1)))))))))))))))))))) ?_;(repeat(refine Pn.mk ?_;intro N hN))))
  refine FR (fun e s=>e 0=.int .i64 cnt/\e 1=.sl (bs.map aD)/\e 5=.ptr X 0 0/\e 6=.int .i64 j/\s.get X=some ⟨true,4,[bW cnt bs A F]⟩/\s.get F=some ⟨true,1,ev (fun _=>0) bs.length⟩/\rR A F.br LA s.get s.next/\F.br<s.next) ?_ ?_
  ·rintro e1 s1 ⟨m0,m1,m5,m6,mX,mF,⟨rows1,ids1,mg,mR,mnd,mver⟩,mn⟩
   refine hN _ _ ?_
   clear hN N
   have jk:=mR.len
   rw[J5]at jk
   have wX:=dr (i:=X) (n:=s1.next) (by omega)
   have wA:=dr (i:=A) (n:=s1.next) (by omega)
   have wF:=dr (i:=F) (n:=s1.next) (by omega)
   obtain⟨cs8,jw,J9,Kp⟩:=GJ (A:=A) (K:=⟨251008022,s1.next⟩) (nx:=s1.next+1) (j:=j) mR mnd mver (by omega) Qx (by(try dsimp only);omega) (by(try dsimp only);omega) mn
   rw[pN]at Kp
   obtain⟨c8,rfl⟩:∃c,cs8=[c]:=by
    rcases J9 with⟨_,h⟩|⟨id,h,_⟩<;>exact⟨_,h⟩
   (try((repeat(revert hN;revert N;apply Pn.out));refine wk (tw @m0 (tw @m1 (tw @m5 (tw @m6 (tw @mX (tw @mF (tw @hj (tw @iI (tw @aD.eq_1 (tw @mg (tw @jw (tw @gQ (tw @fJ (tw @jk (tw @x1 (tw @x2 (tw @x3 (tw @wX (tw @wA (tw @wF @bW.eq_1)))))))))))))))))))) ?_;(repeat(refine Pn.mk ?_;intro N hN))))
   refine OA (fun e s=>e 0=.int .i64 cnt/\e 1=.sl (bs.map aD)/\e 5=.ptr X 0 0/\e 6=.int .i64 j/\s.get X=some ⟨true,4,[bW cnt bs A F]⟩/\s.get F=some ⟨true,1,ev (fun _=>0) bs.length⟩/\rR A F.br (lS cnt bs (j+1)) s.get s.next/\F.br<s.next) ?_ ?_
   ·rintro e2 s2 ⟨p0,p1,p5,p6,pX,pF,pL,pn⟩
    simp only[dq,bm]
    refine hN _ _ ?_
    clear hN N
    (try((repeat(revert hN;revert N;apply Pn.out));refine wk (tw @p0 (tw @p1 (tw @p5 @p6))) ?_;(repeat(refine Pn.mk ?_;intro N hN))))
    refine cD ?_ ?_ ?_ ?_ (⟨by obtain⟨r,i,q1,q2,q3,q4⟩:=pL;exact⟨r,i,sd @q1,q2,q3,fun x hx=>by have:=q4 x hx;(try dsimp only);omega⟩,by(try dsimp only);omega⟩)
    all_goals simp only[go_sem, ↓reduceIte,Nat.reduceEqDiff,Nat.reduceAdd,Nat.reduceSub,Nat.reduceLeDiff,reduceCtorEq,p0,p1,p5,p6,pX,pF]
   ·intro N hN
    rcases J9 with⟨Qo,Ae⟩|⟨id,Ae,hLp,hid,M4,uZ⟩
    ·simp only[List.cons.injEq,and_true]at Ae
     subst Ae
     subst Qo
     refine fj ?_ ?_<;>(try((repeat(revert hN;revert N;apply Pn.out));refine wk (tw @m0 (tw @m1 (tw @m5 (tw @m6 (tw @mX (tw @mF (tw @hj (tw @iI (tw @aD.eq_1 (tw @mg (tw @jw (tw @gQ (tw @fJ (tw @jk (tw @x1 (tw @x2 (tw @x3 (tw @wX (tw @wA (tw @wF @bW.eq_1)))))))))))))))))))) ?_;(repeat(refine Pn.mk ?_;intro N hN))))<;>(try refine fj ?_ ?_)<;>(try((repeat(revert hN;revert N;apply Pn.out));refine wk (tw @m0 (tw @m1 (tw @m5 (tw @m6 (tw @mX (tw @mF (tw @hj (tw @iI (tw @aD.eq_1 (tw @mg (tw @jw (tw @gQ (tw @fJ (tw @jk (tw @x1 (tw @x2 (tw @x3 (tw @wX (tw @wA (tw @wF @bW.eq_1)))))))))))))))))))) ?_;(repeat(refine Pn.mk ?_;intro N hN))))<;>(try refine fj ?_ ?_)<;>(try((repeat(revert hN;revert N;apply Pn.out));refine wk (tw @m0 (tw @m1 (tw @m5 (tw @m6 (tw @mX (tw @mF (tw @hj (tw @iI (tw @aD.eq_1 (tw @mg (tw @jw (tw @gQ (tw @fJ (tw @jk (tw @x1 (tw @x2 (tw @x3 (tw @wX (tw @wA (tw @wF @bW.eq_1)))))))))))))))))))) ?_;(repeat(refine Pn.mk ?_;intro N hN))))<;>(try refine fj ?_ ?_)<;>(try((repeat(revert hN;revert N;apply Pn.out));refine wk (tw @m0 (tw @m1 (tw @m5 (tw @m6 (tw @mX (tw @mF (tw @hj (tw @iI (tw @aD.eq_1 (tw @mg (tw @jw (tw @gQ (tw @fJ (tw @jk (tw @x1 (tw @x2 (tw @x3 (tw @wX (tw @wA (tw @wF @bW.eq_1)))))))))))))))))))) ?_;(repeat(refine Pn.mk ?_;intro N hN))))<;>(try refine fj ?_ ?_)<;>(try((repeat(revert hN;revert N;apply Pn.out));refine wk (tw @m0 (tw @m1 (tw @m5 (tw @m6 (tw @mX (tw @mF (tw @hj (tw @iI (tw @aD.eq_1 (tw @mg (tw @jw (tw @gQ (tw @fJ (tw @jk (tw @x1 (tw @x2 (tw @x3 (tw @wX (tw @wA (tw @wF @bW.eq_1)))))))))))))))))))) ?_;(repeat(refine Pn.mk ?_;intro N hN))))<;>(try refine fj ?_ ?_)<;>(try((repeat(revert hN;revert N;apply Pn.out));refine wk (tw @m0 (tw @m1 (tw @m5 (tw @m6 (tw @mX (tw @mF (tw @hj (tw @iI (tw @aD.eq_1 (tw @mg (tw @jw (tw @gQ (tw @fJ (tw @jk (tw @x1 (tw @x2 (tw @x3 (tw @wX (tw @wA (tw @wF @bW.eq_1)))))))))))))))))))) ?_;(repeat(refine Pn.mk ?_;intro N hN))))
     all_goals
      refine⟨by simp only[go_sem, ↓reduceIte,Nat.reduceEqDiff,Nat.reduceAdd,Nat.reduceSub,Nat.reduceLeDiff,reduceCtorEq,m0,m1,m5,m6,mX,mF,hj,iI,aD,mg,jw,gQ,fJ,jk,x1,x2,x3,wX,wA,wF,bW],by simp only[go_sem, ↓reduceIte,Nat.reduceEqDiff,Nat.reduceAdd,Nat.reduceSub,Nat.reduceLeDiff,reduceCtorEq,m0,m1,m5,m6,mX,mF,hj,iI,aD,mg,jw,gQ,fJ,jk,x1,x2,x3,wX,wA,wF,bW],by simp only[go_sem, ↓reduceIte,Nat.reduceEqDiff,Nat.reduceAdd,Nat.reduceSub,Nat.reduceLeDiff,reduceCtorEq,m0,m1,m5,m6,mX,mF,hj,iI,aD,mg,jw,gQ,fJ,jk,x1,x2,x3,wX,wA,wF,bW],by simp only[go_sem, ↓reduceIte,Nat.reduceEqDiff,Nat.reduceAdd,Nat.reduceSub,Nat.reduceLeDiff,reduceCtorEq,m0,m1,m5,m6,mX,mF,hj,iI,aD,mg,jw,gQ,fJ,jk,x1,x2,x3,wX,wA,wF,bW],by simp only[go_sem, ↓reduceIte,Nat.reduceEqDiff,Nat.reduceAdd,Nat.reduceSub,Nat.reduceLeDiff,reduceCtorEq,m0,m1,m5,m6,mX,mF,hj,iI,aD,mg,jw,gQ,fJ,jk,x1,x2,x3,wX,wA,wF,bW],by simp only[go_sem, ↓reduceIte,Nat.reduceEqDiff,Nat.reduceAdd,Nat.reduceSub,Nat.reduceLeDiff,reduceCtorEq,m0,m1,m5,m6,mX,mF,hj,iI,aD,mg,jw,gQ,fJ,jk,x1,x2,x3,wX,wA,wF,bW],Kp _ (by simp only[go_sem, ↓reduceIte,Nat.reduceEqDiff,Nat.reduceAdd,Nat.reduceSub,Nat.reduceLeDiff,reduceCtorEq,m0,m1,m5,m6,mX,mF,hj,iI,aD,mg,jw,gQ,fJ,jk,x1,x2,x3,wX,wA,wF,bW,List.length_nil]) (by simp only[go_sem, ↓reduceIte,Nat.reduceEqDiff,Nat.reduceAdd,Nat.reduceSub,Nat.reduceLeDiff,reduceCtorEq,m0,m1,m5,m6,mX,mF,hj,iI,aD,mg,jw,gQ,fJ,jk,x1,x2,x3,wX,wA,wF,bW,List.map_nil,List.nil_append]) (fun i hi QA fI=>?_),by(try dsimp only);omega⟩
      clear fI
      simp only[go_sem, ↓reduceIte,Nat.reduceEqDiff,Nat.reduceAdd,Nat.reduceSub,Nat.reduceLeDiff,reduceCtorEq,wX,wA,wF,dr hi,QA]
    ·simp only[List.cons.injEq,and_true]at Ae
     subst Ae
     have pC:=dr M4
     have y1:=da (a:=A) (b:=id) (by omega)
     have y2:=da (a:=F) (b:=id) uZ
     have y3:=da (a:=X) (b:=id) (by omega)
     have e3:Lb.length+1<=16777216:=by omega
     have z1:(Lb.map eN).length=Lb.length:=by simp
     refine fj ?_ ?_<;>(try((repeat(revert hN;revert N;apply Pn.out));refine wk (tw @m0 (tw @m1 (tw @m5 (tw @m6 (tw @mX (tw @mF (tw @hj (tw @iI (tw @aD.eq_1 (tw @mg (tw @jw (tw @gQ (tw @fJ (tw @jk (tw @x1 (tw @x2 (tw @x3 (tw @wX (tw @wA (tw @wF (tw @bW.eq_1 (tw @hid (tw @pC (tw @y1 (tw @y2 (tw @y3 (tw @e3 @z1))))))))))))))))))))))))))) ?_;(repeat(refine Pn.mk ?_;intro N hN))))<;>(try refine fj ?_ ?_)<;>(try((repeat(revert hN;revert N;apply Pn.out));refine wk (tw @m0 (tw @m1 (tw @m5 (tw @m6 (tw @mX (tw @mF (tw @hj (tw @iI (tw @aD.eq_1 (tw @mg (tw @jw (tw @gQ (tw @fJ (tw @jk (tw @x1 (tw @x2 (tw @x3 (tw @wX (tw @wA (tw @wF (tw @bW.eq_1 (tw @hid (tw @pC (tw @y1 (tw @y2 (tw @y3 (tw @e3 @z1))))))))))))))))))))))))))) ?_;(repeat(refine Pn.mk ?_;intro N hN))))<;>(try refine fj ?_ ?_)<;>(try((repeat(revert hN;revert N;apply Pn.out));refine wk (tw @m0 (tw @m1 (tw @m5 (tw @m6 (tw @mX (tw @mF (tw @hj (tw @iI (tw @aD.eq_1 (tw @mg (tw @jw (tw @gQ (tw @fJ (tw @jk (tw @x1 (tw @x2 (tw @x3 (tw @wX (tw @wA (tw @wF (tw @bW.eq_1 (tw @hid (tw @pC (tw @y1 (tw @y2 (tw @y3 (tw @e3 @z1))))))))))))))))))))))))))) ?_;(repeat(refine Pn.mk ?_;intro N hN))))<;>(try refine fj ?_ ?_)<;>(try((repeat(revert hN;revert N;apply Pn.out));refine wk (tw @m0 (tw @m1 (tw @m5 (tw @m6 (tw @mX (tw @mF (tw @hj (tw @iI (tw @aD.eq_1 (tw @mg (tw @jw (tw @gQ (tw @fJ (tw @jk (tw @x1 (tw @x2 (tw @x3 (tw @wX (tw @wA (tw @wF (tw @bW.eq_1 (tw @hid (tw @pC (tw @y1 (tw @y2 (tw @y3 (tw @e3 @z1))))))))))))))))))))))))))) ?_;(repeat(refine Pn.mk ?_;intro N hN))))<;>(try refine fj ?_ ?_)<;>(try((repeat(revert hN;revert N;apply Pn.out));refine wk (tw @m0 (tw @m1 (tw @m5 (tw @m6 (tw @mX (tw @mF (tw @hj (tw @iI (tw @aD.eq_1 (tw @mg (tw @jw (tw @gQ (tw @fJ (tw @jk (tw @x1 (tw @x2 (tw @x3 (tw @wX (tw @wA (tw @wF (tw @bW.eq_1 (tw @hid (tw @pC (tw @y1 (tw @y2 (tw @y3 (tw @e3 @z1))))))))))))))))))))))))))) ?_;(repeat(refine Pn.mk ?_;intro N hN))))<;>(try refine fj ?_ ?_)<;>(try((repeat(revert hN;revert N;apply Pn.out));refine wk (tw @m0 (tw @m1 (tw @m5 (tw @m6 (tw @mX (tw @mF (tw @hj (tw @iI (tw @aD.eq_1 (tw @mg (tw @jw (tw @gQ (tw @fJ (tw @jk (tw @x1 (tw @x2 (tw @x3 (tw @wX (tw @wA (tw @wF (tw @bW.eq_1 (tw @hid (tw @pC (tw @y1 (tw @y2 (tw @y3 (tw @e3 @z1))))))))))))))))))))))))))) ?_;(repeat(refine Pn.mk ?_;intro N hN))))
     all_goals
      refine⟨by simp only[go_sem, ↓reduceIte,Nat.reduceEqDiff,Nat.reduceAdd,Nat.reduceSub,Nat.reduceLeDiff,reduceCtorEq,m0,m1,m5,m6,mX,mF,hj,iI,aD,mg,jw,gQ,fJ,jk,x1,x2,x3,wX,wA,wF,bW,hid,pC,y1,y2,y3,e3,z1],by simp only[go_sem, ↓reduceIte,Nat.reduceEqDiff,Nat.reduceAdd,Nat.reduceSub,Nat.reduceLeDiff,reduceCtorEq,m0,m1,m5,m6,mX,mF,hj,iI,aD,mg,jw,gQ,fJ,jk,x1,x2,x3,wX,wA,wF,bW,hid,pC,y1,y2,y3,e3,z1],by simp only[go_sem, ↓reduceIte,Nat.reduceEqDiff,Nat.reduceAdd,Nat.reduceSub,Nat.reduceLeDiff,reduceCtorEq,m0,m1,m5,m6,mX,mF,hj,iI,aD,mg,jw,gQ,fJ,jk,x1,x2,x3,wX,wA,wF,bW,hid,pC,y1,y2,y3,e3,z1],by simp only[go_sem, ↓reduceIte,Nat.reduceEqDiff,Nat.reduceAdd,Nat.reduceSub,Nat.reduceLeDiff,reduceCtorEq,m0,m1,m5,m6,mX,mF,hj,iI,aD,mg,jw,gQ,fJ,jk,x1,x2,x3,wX,wA,wF,bW,hid,pC,y1,y2,y3,e3,z1],by simp only[go_sem, ↓reduceIte,Nat.reduceEqDiff,Nat.reduceAdd,Nat.reduceSub,Nat.reduceLeDiff,reduceCtorEq,m0,m1,m5,m6,mX,mF,hj,iI,aD,mg,jw,gQ,fJ,jk,x1,x2,x3,wX,wA,wF,bW,hid,pC,y1,y2,y3,e3,z1],by simp only[go_sem, ↓reduceIte,Nat.reduceEqDiff,Nat.reduceAdd,Nat.reduceSub,Nat.reduceLeDiff,reduceCtorEq,m0,m1,m5,m6,mX,mF,hj,iI,aD,mg,jw,gQ,fJ,jk,x1,x2,x3,wX,wA,wF,bW,hid,pC,y1,y2,y3,e3,z1],Kp _ (by simp only[go_sem, ↓reduceIte,Nat.reduceEqDiff,Nat.reduceAdd,Nat.reduceSub,Nat.reduceLeDiff,reduceCtorEq,m0,m1,m5,m6,mX,mF,hj,iI,aD,mg,jw,gQ,fJ,jk,x1,x2,x3,wX,wA,wF,bW,hid,pC,y1,y2,y3,e3,z1,List.length_nil]) (by simp only[go_sem, ↓reduceIte,Nat.reduceEqDiff,Nat.reduceAdd,Nat.reduceSub,Nat.reduceLeDiff,reduceCtorEq,m0,m1,m5,m6,mX,mF,hj,iI,aD,mg,jw,gQ,fJ,jk,x1,x2,x3,wX,wA,wF,bW,hid,pC,y1,y2,y3,e3,z1,List.map_nil,List.nil_append]) (fun i hi QA fI=>?_),by(try dsimp only);omega⟩
      have ij:=fI id rfl
      simp only[go_sem, ↓reduceIte,Nat.reduceEqDiff,Nat.reduceAdd,Nat.reduceSub,Nat.reduceLeDiff,reduceCtorEq,wX,wA,wF,dr hi,QA,ij]
  ·intro N hN
   rcases J8 with⟨Qo,Ae⟩|⟨id,Ae,hLp,hid,M4,uZ⟩
   ·simp only[List.cons.injEq,and_true]at Ae
    subst Ae
    subst Qo
    refine fj ?_ ?_<;>(try((repeat(revert hN;revert N;apply Pn.out));refine wk (tw @a6 (tw @a5 (tw @ag0 (tw @ag1 (tw @a0 (tw @a1 (tw @hj (tw @iI (tw @aD.eq_1 (tw @ag (tw @jv (tw @gQ (tw @fJ (tw @jj (tw @x1 (tw @x2 (tw @x3 (tw @vX (tw @vA (tw @vF @bW.eq_1)))))))))))))))))))) ?_;(repeat(refine Pn.mk ?_;intro N hN))))<;>(try refine fj ?_ ?_)<;>(try((repeat(revert hN;revert N;apply Pn.out));refine wk (tw @a6 (tw @a5 (tw @ag0 (tw @ag1 (tw @a0 (tw @a1 (tw @hj (tw @iI (tw @aD.eq_1 (tw @ag (tw @jv (tw @gQ (tw @fJ (tw @jj (tw @x1 (tw @x2 (tw @x3 (tw @vX (tw @vA (tw @vF @bW.eq_1)))))))))))))))))))) ?_;(repeat(refine Pn.mk ?_;intro N hN))))<;>(try refine fj ?_ ?_)<;>(try((repeat(revert hN;revert N;apply Pn.out));refine wk (tw @a6 (tw @a5 (tw @ag0 (tw @ag1 (tw @a0 (tw @a1 (tw @hj (tw @iI (tw @aD.eq_1 (tw @ag (tw @jv (tw @gQ (tw @fJ (tw @jj (tw @x1 (tw @x2 (tw @x3 (tw @vX (tw @vA (tw @vF @bW.eq_1)))))))))))))))))))) ?_;(repeat(refine Pn.mk ?_;intro N hN))))<;>(try refine fj ?_ ?_)<;>(try((repeat(revert hN;revert N;apply Pn.out));refine wk (tw @a6 (tw @a5 (tw @ag0 (tw @ag1 (tw @a0 (tw @a1 (tw @hj (tw @iI (tw @aD.eq_1 (tw @ag (tw @jv (tw @gQ (tw @fJ (tw @jj (tw @x1 (tw @x2 (tw @x3 (tw @vX (tw @vA (tw @vF @bW.eq_1)))))))))))))))))))) ?_;(repeat(refine Pn.mk ?_;intro N hN))))<;>(try refine fj ?_ ?_)<;>(try((repeat(revert hN;revert N;apply Pn.out));refine wk (tw @a6 (tw @a5 (tw @ag0 (tw @ag1 (tw @a0 (tw @a1 (tw @hj (tw @iI (tw @aD.eq_1 (tw @ag (tw @jv (tw @gQ (tw @fJ (tw @jj (tw @x1 (tw @x2 (tw @x3 (tw @vX (tw @vA (tw @vF @bW.eq_1)))))))))))))))))))) ?_;(repeat(refine Pn.mk ?_;intro N hN))))<;>(try refine fj ?_ ?_)<;>(try((repeat(revert hN;revert N;apply Pn.out));refine wk (tw @a6 (tw @a5 (tw @ag0 (tw @ag1 (tw @a0 (tw @a1 (tw @hj (tw @iI (tw @aD.eq_1 (tw @ag (tw @jv (tw @gQ (tw @fJ (tw @jj (tw @x1 (tw @x2 (tw @x3 (tw @vX (tw @vA (tw @vF @bW.eq_1)))))))))))))))))))) ?_;(repeat(refine Pn.mk ?_;intro N hN))))
    all_goals
     refine⟨by simp only[go_sem, ↓reduceIte,Nat.reduceEqDiff,Nat.reduceAdd,Nat.reduceSub,Nat.reduceLeDiff,reduceCtorEq,a6,a5,ag0,ag1,a0,a1,hj,iI,aD,ag,jv,gQ,fJ,jj,x1,x2,x3,vX,vA,vF,bW],by simp only[go_sem, ↓reduceIte,Nat.reduceEqDiff,Nat.reduceAdd,Nat.reduceSub,Nat.reduceLeDiff,reduceCtorEq,a6,a5,ag0,ag1,a0,a1,hj,iI,aD,ag,jv,gQ,fJ,jj,x1,x2,x3,vX,vA,vF,bW],by simp only[go_sem, ↓reduceIte,Nat.reduceEqDiff,Nat.reduceAdd,Nat.reduceSub,Nat.reduceLeDiff,reduceCtorEq,a6,a5,ag0,ag1,a0,a1,hj,iI,aD,ag,jv,gQ,fJ,jj,x1,x2,x3,vX,vA,vF,bW],by simp only[go_sem, ↓reduceIte,Nat.reduceEqDiff,Nat.reduceAdd,Nat.reduceSub,Nat.reduceLeDiff,reduceCtorEq,a6,a5,ag0,ag1,a0,a1,hj,iI,aD,ag,jv,gQ,fJ,jj,x1,x2,x3,vX,vA,vF,bW],by simp only[go_sem, ↓reduceIte,Nat.reduceEqDiff,Nat.reduceAdd,Nat.reduceSub,Nat.reduceLeDiff,reduceCtorEq,a6,a5,ag0,ag1,a0,a1,hj,iI,aD,ag,jv,gQ,fJ,jj,x1,x2,x3,vX,vA,vF,bW],by simp only[go_sem, ↓reduceIte,Nat.reduceEqDiff,Nat.reduceAdd,Nat.reduceSub,Nat.reduceLeDiff,reduceCtorEq,a6,a5,ag0,ag1,a0,a1,hj,iI,aD,ag,jv,gQ,fJ,jj,x1,x2,x3,vX,vA,vF,bW],Ko _ (by simp only[go_sem, ↓reduceIte,Nat.reduceEqDiff,Nat.reduceAdd,Nat.reduceSub,Nat.reduceLeDiff,reduceCtorEq,a6,a5,ag0,ag1,a0,a1,hj,iI,aD,ag,jv,gQ,fJ,jj,x1,x2,x3,vX,vA,vF,bW,List.length_nil]) (by simp only[go_sem, ↓reduceIte,Nat.reduceEqDiff,Nat.reduceAdd,Nat.reduceSub,Nat.reduceLeDiff,reduceCtorEq,a6,a5,ag0,ag1,a0,a1,hj,iI,aD,ag,jv,gQ,fJ,jj,x1,x2,x3,vX,vA,vF,bW,List.map_nil,List.nil_append]) (fun i hi QA fI=>?_),by(try dsimp only);omega⟩
     clear fI
     simp only[go_sem, ↓reduceIte,Nat.reduceEqDiff,Nat.reduceAdd,Nat.reduceSub,Nat.reduceLeDiff,reduceCtorEq,vX,vA,vF,dr hi,QA]
   ·simp only[List.cons.injEq,and_true]at Ae
    subst Ae
    have pC:=dr M4
    have y1:=da (a:=A) (b:=id) (by omega)
    have y2:=da (a:=F) (b:=id) uZ
    have y3:=da (a:=X) (b:=id) (by omega)
    have e3:La.length+1<=16777216:=by omega
    have z1:(La.map eN).length=La.length:=by simp
    refine fj ?_ ?_<;>(try((repeat(revert hN;revert N;apply Pn.out));refine wk (tw @a6 (tw @a5 (tw @ag0 (tw @ag1 (tw @a0 (tw @a1 (tw @hj (tw @iI (tw @aD.eq_1 (tw @ag (tw @jv (tw @gQ (tw @fJ (tw @jj (tw @x1 (tw @x2 (tw @x3 (tw @vX (tw @vA (tw @vF (tw @bW.eq_1 (tw @hid (tw @pC (tw @y1 (tw @y2 (tw @y3 (tw @e3 @z1))))))))))))))))))))))))))) ?_;(repeat(refine Pn.mk ?_;intro N hN))))<;>(try refine fj ?_ ?_)<;>(try((repeat(revert hN;revert N;apply Pn.out));refine wk (tw @a6 (tw @a5 (tw @ag0 (tw @ag1 (tw @a0 (tw @a1 (tw @hj (tw @iI (tw @aD.eq_1 (tw @ag (tw @jv (tw @gQ (tw @fJ (tw @jj (tw @x1 (tw @x2 (tw @x3 (tw @vX (tw @vA (tw @vF (tw @bW.eq_1 (tw @hid (tw @pC (tw @y1 (tw @y2 (tw @y3 (tw @e3 @z1))))))))))))))))))))))))))) ?_;(repeat(refine Pn.mk ?_;intro N hN))))<;>(try refine fj ?_ ?_)<;>(try((repeat(revert hN;revert N;apply Pn.out));refine wk (tw @a6 (tw @a5 (tw @ag0 (tw @ag1 (tw @a0 (tw @a1 (tw @hj (tw @iI (tw @aD.eq_1 (tw @ag (tw @jv (tw @gQ (tw @fJ (tw @jj (tw @x1 (tw @x2 (tw @x3 (tw @vX (tw @vA (tw @vF (tw @bW.eq_1 (tw @hid (tw @pC (tw @y1 (tw @y2 (tw @y3 (tw @e3 @z1))))))))))))))))))))))))))) ?_;(repeat(refine Pn.mk ?_;intro N hN))))<;>(try refine fj ?_ ?_)<;>(try((repeat(revert hN;revert N;apply Pn.out));refine wk (tw @a6 (tw @a5 (tw @ag0 (tw @ag1 (tw @a0 (tw @a1 (tw @hj (tw @iI (tw @aD.eq_1 (tw @ag (tw @jv (tw @gQ (tw @fJ (tw @jj (tw @x1 (tw @x2 (tw @x3 (tw @vX (tw @vA (tw @vF (tw @bW.eq_1 (tw @hid (tw @pC (tw @y1 (tw @y2 (tw @y3 (tw @e3 @z1))))))))))))))))))))))))))) ?_;(repeat(refine Pn.mk ?_;intro N hN))))<;>(try refine fj ?_ ?_)<;>(try((repeat(revert hN;revert N;apply Pn.out));refine wk (tw @a6 (tw @a5 (tw @ag0 (tw @ag1 (tw @a0 (tw @a1 (tw @hj (tw @iI (tw @aD.eq_1 (tw @ag (tw @jv (tw @gQ (tw @fJ (tw @jj (tw @x1 (tw @x2 (tw @x3 (tw @vX (tw @vA (tw @vF (tw @bW.eq_1 (tw @hid (tw @pC (tw @y1 (tw @y2 (tw @y3 (tw @e3 @z1))))))))))))))))))))))))))) ?_;(repeat(refine Pn.mk ?_;intro N hN))))<;>(try refine fj ?_ ?_)<;>(try((repeat(revert hN;revert N;apply Pn.out));refine wk (tw @a6 (tw @a5 (tw @ag0 (tw @ag1 (tw @a0 (tw @a1 (tw @hj (tw @iI (tw @aD.eq_1 (tw @ag (tw @jv (tw @gQ (tw @fJ (tw @jj (tw @x1 (tw @x2 (tw @x3 (tw @vX (tw @vA (tw @vF (tw @bW.eq_1 (tw @hid (tw @pC (tw @y1 (tw @y2 (tw @y3 (tw @e3 @z1))))))))))))))))))))))))))) ?_;(repeat(refine Pn.mk ?_;intro N hN))))
    all_goals
     refine⟨by simp only[go_sem, ↓reduceIte,Nat.reduceEqDiff,Nat.reduceAdd,Nat.reduceSub,Nat.reduceLeDiff,reduceCtorEq,a6,a5,ag0,ag1,a0,a1,hj,iI,aD,ag,jv,gQ,fJ,jj,x1,x2,x3,vX,vA,vF,bW,hid,pC,y1,y2,y3,e3,z1],by simp only[go_sem, ↓reduceIte,Nat.reduceEqDiff,Nat.reduceAdd,Nat.reduceSub,Nat.reduceLeDiff,reduceCtorEq,a6,a5,ag0,ag1,a0,a1,hj,iI,aD,ag,jv,gQ,fJ,jj,x1,x2,x3,vX,vA,vF,bW,hid,pC,y1,y2,y3,e3,z1],by simp only[go_sem, ↓reduceIte,Nat.reduceEqDiff,Nat.reduceAdd,Nat.reduceSub,Nat.reduceLeDiff,reduceCtorEq,a6,a5,ag0,ag1,a0,a1,hj,iI,aD,ag,jv,gQ,fJ,jj,x1,x2,x3,vX,vA,vF,bW,hid,pC,y1,y2,y3,e3,z1],by simp only[go_sem, ↓reduceIte,Nat.reduceEqDiff,Nat.reduceAdd,Nat.reduceSub,Nat.reduceLeDiff,reduceCtorEq,a6,a5,ag0,ag1,a0,a1,hj,iI,aD,ag,jv,gQ,fJ,jj,x1,x2,x3,vX,vA,vF,bW,hid,pC,y1,y2,y3,e3,z1],by simp only[go_sem, ↓reduceIte,Nat.reduceEqDiff,Nat.reduceAdd,Nat.reduceSub,Nat.reduceLeDiff,reduceCtorEq,a6,a5,ag0,ag1,a0,a1,hj,iI,aD,ag,jv,gQ,fJ,jj,x1,x2,x3,vX,vA,vF,bW,hid,pC,y1,y2,y3,e3,z1],by simp only[go_sem, ↓reduceIte,Nat.reduceEqDiff,Nat.reduceAdd,Nat.reduceSub,Nat.reduceLeDiff,reduceCtorEq,a6,a5,ag0,ag1,a0,a1,hj,iI,aD,ag,jv,gQ,fJ,jj,x1,x2,x3,vX,vA,vF,bW,hid,pC,y1,y2,y3,e3,z1],Ko _ (by simp only[go_sem, ↓reduceIte,Nat.reduceEqDiff,Nat.reduceAdd,Nat.reduceSub,Nat.reduceLeDiff,reduceCtorEq,a6,a5,ag0,ag1,a0,a1,hj,iI,aD,ag,jv,gQ,fJ,jj,x1,x2,x3,vX,vA,vF,bW,hid,pC,y1,y2,y3,e3,z1,List.length_nil]) (by simp only[go_sem, ↓reduceIte,Nat.reduceEqDiff,Nat.reduceAdd,Nat.reduceSub,Nat.reduceLeDiff,reduceCtorEq,a6,a5,ag0,ag1,a0,a1,hj,iI,aD,ag,jv,gQ,fJ,jj,x1,x2,x3,vX,vA,vF,bW,hid,pC,y1,y2,y3,e3,z1,List.map_nil,List.nil_append]) (fun i hi QA fI=>?_),by(try dsimp only);omega⟩
     have ij:=fI id rfl
     simp only[go_sem, ↓reduceIte,Nat.reduceEqDiff,Nat.reduceAdd,Nat.reduceSub,Nat.reduceLeDiff,reduceCtorEq,vX,vA,vF,dr hi,QA,ij]
 ·have gT:j=bs.length:=by omega
  subst gT
  (try((repeat(revert hN;revert N;apply Pn.out));refine wk (tw @a6 (tw @a5 (tw @ag0 (tw @ag1 (tw @a0 (tw @a1 @hj)))))) ?_;(repeat(refine Pn.mk ?_;intro N hN))))
  exact fe (.inl rfl) (by simp only[fR,iK,go_sem, ↓reduceIte,Nat.reduceEqDiff,Nat.reduceAdd,Nat.reduceSub,Nat.reduceLeDiff,reduceCtorEq];rfl) ⟨X,A,F,rfl,hXs,⟨ag0,⟨rows,ids,ag,hR,lg,fun x hx=>by have:=oy x hx;(try dsimp only);omega⟩,ag1,hXA,hAF,by(try dsimp only);omega⟩⟩
theorem rR.frame {A:Id} {lo nx yu:Nat} {L:List (List Nat)} {g g':Rows} (h:rR A lo L g nx) (hA:A.br<nx) (hf:∀i:Id,i.br<nx->lo<i.br∨i=A->g' i=g i) (hn:nx<=yu):rR A lo L g' yu:=by
 obtain⟨rows,ids,h1,h2,h3,h4⟩:=h
 refine⟨rows,ids,(hf A hA (.inr rfl)).trans h1,h2.frame Pk fun i hi=>hf i (h4 i hi).2 (.inl (h4 i hi).1),h3,fun i hi=>?_⟩
 have:=h4 i hi;omega
theorem oI.frame {cnt:Nat} {bs:List PB} {f:Nat->Int} {X A F:Id} {g g':Rows} {nx yu:Nat} (h:oI cnt bs f X A F g nx) (hf:∀i:Id,i.br<nx->g' i=g i) (hn:nx<=yu):oI cnt bs f X A F g' yu:=by
 have h1:=h.xa;have h2:=h.af;have h3:=h.fn
 exact⟨(hf X (by omega)).trans h.x,h.a.frame (by omega) (fun i hi _=>hf i hi) hn,(hf F h3).trans h.f,h1,h2,by omega⟩
theorem oI.S5 {cnt:Nat} {bs:List PB} {f f':Nat->Int} {X A F:Id} {g g':Rows} {nx yu:Nat} (h:oI cnt bs f X A F g nx) (hF:g' F=some ⟨true,1,ev f' bs.length⟩) (hf:∀i:Id,i.br<nx->(i=F)=False->g' i=g i) (hn:nx<=yu):oI cnt bs f' X A F g' yu:=by
 have h1:=h.xa;have h2:=h.af;have h3:=h.fn
 refine⟨(hf X (by omega) (da (by omega)).1).trans h.x,h.a.frame (by omega) (fun i hi jQ=>hf i hi ?_) hn,hF,h1,h2,by omega⟩
 rcases jQ with jQ|rfl
 ·exact(da jQ).2
 ·exact(da h2).1
theorem Ri (cnt:Nat) (bs:List PB) (f:Nat->Int) (hs:Small bs f) (e v:Nat) (he:e<bs.length) (X A F:Id) (σ:ay) (nx:Nat) (hS:oI cnt bs f X A F σ.get nx) (hn:nx<=σ.next):
  Call Tryz.prog 298 [.ptr X 0 0,.int .i64 v,.int .i64 e] σ fun r σ'=>oI cnt bs (uq bs f e v) X A F σ'.get nx/\σ.next<=σ'.next/\∀i:Id,(i=F)=False->σ'.get i=σ.get i:=by
 refine e6 eK rfl fun hl=>?_
 clear hl
 have hX:=hS.x
 have hF:=hS.f
 have hb:=uR he
 have TA:=ep (f:=f) he
 have tl:=ec f bs.length
 obtain⟨⟨s0,s1⟩,s2,s3⟩:=hs e he
 have hei:(e:Int)<(bs.length:Int):=by omega
 have w1:IntKind.i64.wrap (f e+1)=f e+1:=bK (by omega)
 have w2:IntKind.i64.wrap (f e-1)=f e+-1:=by rw[bK (by omega)];omega
 rw[aQ]at TA
 unfold uq
 by_cases h:(cZ bs e).a=v
 ·have eC:(ev f bs.length).set e (aQ (f e+1))=ev (fun j=>f j+if j=e then(if (cZ bs e).a=v then 1 else -1)else 0) bs.length:=lI he (by rw[if_pos rfl,if_pos h]) fun i _ hi=>by rw[if_neg hi,Int.add_zero]
  rw[aQ]at eC
  generalize Sb:cZ bs e=b at *
  have hd:decide ((b.a:Int)=(v:Int))=true:=decide_eq_true (by rw[h])
  (try((repeat(revert hN;revert N;apply Pn.out));refine wk (tw @hX (tw @hF (tw @hb (tw @TA (tw @tl (tw @hei (tw @w1 (tw @eC (tw @hd (tw @aD.eq_1 @bW.eq_1)))))))))) ?_;(repeat(refine Pn.mk ?_;intro N hN))))
  exact fe (.inr rfl) (vs:=[]) rfl ⟨hS.S5 (sd @Nat.zero_add) (fun i hi ij=>sd @ij) (Nat.le_refl _),by(try dsimp only);omega,fun i ij=>sd @ij⟩
 ·have eC:(ev f bs.length).set e (aQ (f e+-1))=ev (fun j=>f j+if j=e then(if (cZ bs e).a=v then 1 else -1)else 0) bs.length:=lI he (by rw[if_pos rfl,if_neg h]) fun i _ hi=>by rw[if_neg hi,Int.add_zero]
  rw[aQ]at eC
  generalize Sb:cZ bs e=b at *
  have hd:decide ((b.a:Int)=(v:Int))=false:=decide_eq_false fun hc=>h (by omega)
  (try((repeat(revert hN;revert N;apply Pn.out));refine wk (tw @hX (tw @hF (tw @hb (tw @TA (tw @tl (tw @hei (tw @w2 (tw @eC (tw @hd (tw @aD.eq_1 @bW.eq_1)))))))))) ?_;(repeat(refine Pn.mk ?_;intro N hN))))
  exact fe (.inr rfl) (vs:=[]) rfl ⟨hS.S5 (sd @Nat.zero_add) (fun i hi ij=>sd @ij) (Nat.le_refl _),by(try dsimp only);omega,fun i ij=>sd @ij⟩
structure oJ (bs:List PB) (out:Nat->Int) (f f':Nat->Int) (x v:Nat):Prop where
 le:∀i,i<bs.length->f' i<=(cZ bs i).s/\-(cZ bs i).s<=f' i
 cut:∀S:Nat->Bool,Hl S bs f'=Hl S bs f+bi (S x)-bi (S v)
 C2:∀e,e<bs.length->out (cZ bs e).a<=out v->out (cZ bs e).b<=out v->f' e=f e
section
variable {cnt:Nat} {bs:List PB} {out:Nat->Int} {f f':Nat->Int} {x v y:Nat}
theorem oJ.start (h:∀i,i<bs.length->f i<=(cZ bs i).s/\-(cZ bs i).s<=f i):oJ bs out f f x x:=⟨h,fun S=>by omega,fun _ _ _ _=>rfl⟩
theorem oJ.step (h:oJ bs out f f' x v) {e:Nat} (he:e<bs.length) (hi:FV bs e v) (hr:0<fY bs f' e v) (hd:out (cw bs e v)=out v-1):oJ bs out f (uq bs f' e v) x (cw bs e v):=by
 refine⟨fun i mj=>?_,fun S=>?_,fun i mj ha hb=>?_⟩
 ·have h1:=h.le i mj
  unfold uq
  by_cases HL:i=e
  ·subst HL
   rw[if_pos rfl]
   unfold fY at hr
   split at hr<;>rename_i hc
   ·rw[if_pos hc];omega
   ·rw[if_neg hc];omega
  ·rw[if_neg HL];omega
 ·rw[Hm he hi,h.cut S];omega
 ·have HL:i≠e:=by
   rintro rfl
   rcases hi with hi|hi
   ·rw[hi]at ha;omega
   ·rw[hi]at hb;omega
  unfold uq
  rw[if_neg HL,Int.add_zero]
  exact h.C2 i mj (by omega) (by omega)
theorem oJ.goes (h:oJ bs out f f' x v) (hs:zF cnt bs f y out) (hv:v<cnt) (h0:0<out v):∃e∈jc bs bs.length v,0<fY bs f' e v/\out (cw bs e v)=out v-1:=by
 obtain⟨e,h1,h2,h3,h4⟩:=hs.down v hv h0
 refine⟨e,sC.2 ⟨h1,h2⟩,?_,h4⟩
 have hf:f' e=f e:=by
  refine h.C2 e h1 ?_ ?_
  ·unfold cw at h4
   split at h4
   ·rename_i ha;rw[ha];exact Int.le_refl _
   ·omega
  ·unfold cw at h4
   rcases h2 with h2|h2
   ·rw[if_pos h2]at h4;omega
   ·rw[h2];exact Int.le_refl _
 unfold fY at h3 ⊢
 rw[hf];exact h3
theorem oJ.done {val:Int} (h:oJ bs out f f' x y) (hf:kd bs f x y val):kd bs f' x y (val+1):=
 ⟨h.le,fun S hx hy=>by rw[h.cut S,hf.cut S hx hy,hx,hy];simp[bi]⟩
theorem FD {val:Int} (hs:zF cnt bs f y out) (ok:nT cnt bs) (hf:kd bs f x y val) (hx:out x<0):∃S:Nat->Bool,S x=true/\S y=false/\val=ji S bs:=by
 refine⟨fun v=>decide (out v<0),decide_eq_true hx,decide_eq_false (by rw[hs.first];omega),hf.full (decide_eq_true hx) (decide_eq_false (by rw[hs.first];omega)) fun i hi oq=>⟨fun h1 h2 hr=>?_,fun h1 h2 hr=>?_⟩⟩
 ·have S9:=of_decide_eq_true h1
  have Dt:=of_decide_eq_false h2
  have:=hs.shut i (cZ bs i).a hi (.inl rfl) (by unfold cw;rw[if_pos rfl];omega) hr
  omega
 ·have S9:=of_decide_eq_true h1
  have Dt:=of_decide_eq_false h2
  have:=hs.shut i (cZ bs i).b hi (.inr rfl) (by unfold cw;rw[if_neg oq];omega) hr
  omega
end
theorem xE {bs:List PB} {f:Nat->Int} (eu:∀e,e<bs.length->0<=(cZ bs e).s/\(cZ bs e).s<=4) (h:∀i,i<bs.length->f i<=(cZ bs i).s/\-(cZ bs i).s<=f i):Small bs f:=fun e he=>by
 have:=eu e he;have:=h e he;omega
theorem rR.at_ {A:Id} {lo nx v:Nat} {L:List (List Nat)} {l:List Nat} {g:Rows} (h:rR A lo L g nx) (hv:L[v]? =some l) (hl:0<l.length):∃(rows:List (List AV)) (id:Id),g A=some ⟨true,1,rows⟩/\rows.length=L.length/\rows[v]? =some [.own id 0 l.length]/\g id=some ⟨true,1,l.map eN⟩/\lo<id.br/\id.br<nx:=by
 obtain⟨rows,ids,h1,h2,h3,h4⟩:=h
 have hk:v<L.length:=(List.getElem?_eq_some_iff.1 hv).1
 obtain⟨cs,ic,dz,hR,Gq⟩:=h2.at_ v hk
 rw[la hv hk]at hR
 rcases hR with⟨h5,_⟩|⟨id,rfl,_,h6,rfl⟩
 ·subst h5;simp at hl
 ·have:=h4 id (Gq id (by simp))
  exact⟨rows,id,h1,h2.len,dz,h6,this.1,this.2⟩
theorem Qc (cnt:Nat) (hn:cnt<=1048576) (bs:List PB) (ok:nT cnt bs) (od:bs.length<=1048576) (eu:∀e,e<bs.length->0<=(cZ bs e).s/\(cZ bs e).s<=4) (f:Nat->Int) (x y:Nat) (hx:x<cnt) (hy:y<cnt) (Uc:x≠y) (val:Int) (hf:kd bs f x y val)
  (X A F:Id) (σ:ay) (nb:Nat) (hS:oI cnt bs f X A F σ.get nb) (pN:nb<=σ.next):
  Call Tryz.prog 252 [.ptr X 0 0,.int .i64 x,.int .i64 y] σ fun r σ'=>∃b f',r=.bool b/\oI cnt bs f' X A F σ'.get nb/\σ.next<=σ'.next/\(∀i:Id,i.br<nb->(i=F)=False->σ'.get i=σ.get i)/\
   (b=false->f'=f/\∃S:Nat->Bool,S x=true/\S y=false/\val=ji S bs)/\(b=true->kd bs f' x y (val+1)):=by
 refine e6 eK rfl fun hl=>?_
 clear hl
 have DF:(x:Int)<(cnt:Int):=by omega
 have hz:∀(g:Rows),(∀i:Id,i.br<nb->g i=σ.get i)->de (dK g) 6 [.ptr X 0 0,.int .i64 (y:Int)]=some [.dp (gn cnt bs f),.int .i64 y]:=fun g hg=>by
  have:=(hS.frame hg (Nat.le_refl _)).fz
  simp only[aq,au,this,aH,Option.map_some]
 (try((repeat(revert hN;revert N;apply Pn.out));refine wk @Nat.zero_add ?_;(repeat(refine Pn.mk ?_;intro N hN))))
 refine .inr (aJ _ _ _ _ _ (fun r σ1 hq=>?_) ((GR cnt hn bs ok od f (xE eu hf.le) y hy).x mixed (hz _ (fun i hi=>rfl))))
 obtain⟨⟨out,rfl,Kw⟩,rfl⟩:=hq
 refine hN _ _ ?_
 clear hN N
 have Vu:=ep (f:=out) hx
 have tl:=ec out cnt
 by_cases kj:out x<0
 ·(try((repeat(revert hN;revert N;apply Pn.out));refine wk (tw @Vu (tw @kj (tw @DF (tw @tl @aQ.eq_1)))) ?_;(repeat(refine Pn.mk ?_;intro N hN))))
  exact fe (.inl rfl) (vs:=[.bool false]) (sd @Nat.zero_add) ⟨false,f,rfl,hS.frame (fun i hi=>rfl) (Nat.le_refl _),by(try dsimp only);omega,fun i _ _=>rfl,fun _=>⟨rfl,FD Kw ok hf kj⟩,fun h=>by cases h⟩
 (try((repeat(revert hN;revert N;apply Pn.out));refine wk (tw @Vu (tw @kj (tw @DF (tw @tl @aQ.eq_1)))) ?_;(repeat(refine Pn.mk ?_;intro N hN))))
 refine aX (fun m env st=>∃(v:Nat) (f':Nat->Int),m=(out v).toNat/\v<cnt/\0<=out v/\env 8=.int .i64 (v:Int)/\oJ bs out f f' x v/\oI cnt bs f' X A F st.get nb/\(∀i:Id,i.br<nb->(i=F)=False->st.get i=σ.get i)/\σ.next<=st.next) (out x).toNat ⟨x,f,rfl,hx,by omega,by(simp only[go_sem, ↓reduceIte,Nat.reduceEqDiff,Nat.reduceAdd,Nat.reduceSub,Nat.reduceLeDiff,reduceCtorEq]),oJ.start hf.le,hS.frame (fun i hi=>rfl) (Nat.le_refl _),fun i _ _=>rfl,by(try dsimp only);omega⟩ ?_
 rintro m env_b st_b ⟨v,f',rfl,hv,rz,b8,hW,hN1,l5,hle⟩ eX
 have b0:=eX 0 (by kernel_rfl)
 have b2:=eX 2 (by kernel_rfl)
 have b7:=eX 7 (by kernel_rfl)
 simp only[go_sem, ↓reduceIte,Nat.reduceEqDiff,Nat.reduceAdd,Nat.reduceSub,Nat.reduceLeDiff,reduceCtorEq]at b0 b2 b7
 clear eX
 by_cases VE:v=y
 ·have hd:decide ((v:Int)=(y:Int))=true:=decide_eq_true (by rw[VE])
  subst VE
  (try((repeat(revert hN;revert N;apply Pn.out));refine wk (tw @b0 (tw @b2 (tw @b7 (tw @b8 @hd)))) ?_;(repeat(refine Pn.mk ?_;intro N hN))))
  exact fe (.inl rfl) (vs:=[.bool true]) (sd @Nat.zero_add) ⟨true,f',rfl,hN1,by(try dsimp only);omega,l5,fun h=>(by cases h),fun _=>hW.done hf⟩
 have hd:decide ((v:Int)=(y:Int))=false:=decide_eq_false fun h=>VE (by omega)
 have Bl:0<out v:=by
  have:=Kw.zero v hv
  rcases Int.lt_or_eq_of_le rz with h|h
  ·exact h
  ·exact absurd (this h.symm) VE
 have O4:=hW.goes Kw hv Bl
 have hIm:∀ed∈jc bs bs.length v,ed<bs.length/\FV bs ed v:=fun ed h=>sC.1 h
 have hIL:(lS cnt bs bs.length)[v]? =some (jc bs bs.length v):=by simp[lS,hv]
 have hIl:=sw bs bs.length v
 generalize jc bs bs.length v=I at *
 have hIp:0<I.length:=by
  obtain⟨ed,h,_⟩:=O4
  exact List.length_pos_of_mem h
 obtain⟨rows,id,hgA,pP,lN,hid,hid1,hid2⟩:=hN1.a.at_ hIL hIp
 rw[jz]at pP
 have hgX:=hN1.x
 have ES:(v:Int)<(cnt:Int):=by omega
 have pO:=ep (f:=out) hv
 have l7:IntKind.i64.wrap (out v-1)=out v-1:=bK (by have:=Kw.lo v hv;omega)
 have rh:(I.map eN).length=I.length:=by simp
 have Nl:=xE eu hW.le
 have kR:∀(g:Rows),(∀i:Id,i.br<nb->g i=st_b.get i)->∀ed:Nat,de (dK g) 6 [.ptr X 0 0,.int .i64 (v:Int),.int .i64 (ed:Int)]=some [.dp (gn cnt bs f'),.int .i64 v,.int .i64 ed]:=fun g hg ed=>by
  have:=(hN1.frame hg (Nat.le_refl _)).fz
  simp only[aq,au,this,aH,Option.map_some]
 rw[aQ]at pO
 (try((repeat(revert hN;revert N;apply Pn.out));refine wk (tw @b0 (tw @b2 (tw @b7 (tw @b8 @hd)))) ?_;(repeat(refine Pn.mk ?_;intro N hN))))
 refine aX (fun n env st=>∃k:Nat,n=(I.length)-k/\k<=(I.length)/\env 11=.int .i64 (k:Int)/\(∃(zl F3:Int),env 9=.int .i64 zl/\env 10=.int .i64 F3/\((zl<0/\∀z,z<k->¬(0<fY bs f' (I.getD z 0) v/\out (cw bs (I.getD z 0) v)=out v-1))∨∃ed:Nat,ed∈I/\F3=(ed:Int)/\zl=(cw bs ed v:Int)/\0<fY bs f' ed v/\out (cw bs ed v)=out v-1))/\((∀i:Id,st.get i=st_b.get i)/\st_b.next<=st.next)) (I.length) ⟨0,by omega,by omega,sl (tw @b0 (tw @b2 (tw @b7 @b8))),⟨-1,0,by(simp only[go_sem, ↓reduceIte,Nat.reduceEqDiff,Nat.reduceAdd,Nat.reduceSub,Nat.reduceLeDiff,reduceCtorEq]),by(simp only[go_sem, ↓reduceIte,Nat.reduceEqDiff,Nat.reduceAdd,Nat.reduceSub,Nat.reduceLeDiff,reduceCtorEq]),.inl ⟨by omega,fun z hz=>by omega⟩⟩,⟨fun i=>rfl,by(try dsimp only);omega⟩⟩ ?_
 rintro n_c env_c st_c ⟨k,rfl,cle,oj,cI0,cI1⟩ iO
 have c0:=iO 0 (by kernel_rfl);have c2:=iO 2 (by kernel_rfl);have c7:=iO 7 (by kernel_rfl);have c8:=iO 8 (by kernel_rfl)
 simp only[go_sem, ↓reduceIte,Nat.reduceEqDiff,Nat.reduceAdd,Nat.reduceSub,Nat.reduceLeDiff,reduceCtorEq,b0,b2,b7,b8]at c0 c2 c7 c8
 clear iO
 obtain⟨zl,F3,c9,jG,J7⟩:=cI0
 obtain⟨mN,Vg⟩:=cI1
 have EJ:=(mN X).trans hgX
 have EI:=(mN A).trans hgA
 have EL:=(mN id).trans hid
 by_cases hk:(k:Int)<(I.length:Int)
 ·have gN:∀{e:Env} {gg:Rows} {nx:Nat},(e 11=.int .i64 (IntKind.i64.wrap ((k:Int)+1)))->(∃(zl F3:Int),e 9=.int .i64 zl/\e 10=.int .i64 F3/\((zl<0/\∀z,z<(k+1)->¬(0<fY bs f' (I.getD z 0) v/\out (cw bs (I.getD z 0) v)=out v-1))∨∃ed:Nat,ed∈I/\F3=(ed:Int)/\zl=(cw bs ed v:Int)/\0<fY bs f' ed v/\out (cw bs ed v)=out v-1))->((∀i:Id,gg i=st_b.get i)/\st_b.next<=nx)->∃m0,m0<(I.length)-k/\∃k:Nat,m0=(I.length)-k/\k<=(I.length)/\e 11=.int .i64 (k:Int)/\(∃(zl F3:Int),e 9=.int .i64 zl/\e 10=.int .i64 F3/\((zl<0/\∀z,z<k->¬(0<fY bs f' (I.getD z 0) v/\out (cw bs (I.getD z 0) v)=out v-1))∨∃ed:Nat,ed∈I/\F3=(ed:Int)/\zl=(cw bs ed v:Int)/\0<fY bs f' ed v/\out (cw bs ed v)=out v-1))/\((∀i:Id,gg i=st_b.get i)/\st_b.next<=nx):=fun x1 x2 x3=>⟨_,by omega,k+1,rfl,by omega,(by rw[x1,az (by omega)]),x2,x3⟩
  have fm:k<I.length:=by omega
  have eU:(I.map eN)[k]? =some (eN (I.getD k 0)):=getD_map eN fm
  have ql:I.getD k 0∈I:=by rw[List.getD_eq_getElem?_getD,List.getElem?_eq_getElem fm];exact List.getElem_mem fm
  obtain⟨he,qk⟩:=hIm _ ql
  have Kt:=Ll cnt bs f' Nl (I.getD k 0) v he
  have uh:=kR st_c.get (fun i _=>mN i) (I.getD k 0)
  have hq:=ph ok (v:=v) he
  have Sk:=ep (f:=out) hq
  obtain⟨ed,hed⟩:∃ed,ed=I.getD k 0:=⟨_,rfl⟩
  rw[<-hed]at eU he qk Kt uh hq Sk ql
  rw[aQ]at Sk
  rw[eN]at eU
  (try((repeat(revert hN;revert N;apply Pn.out));refine wk (tw @oj (tw @c0 (tw @c2 (tw @c7 (tw @c8 (tw @c9 (tw @jG (tw @hk (tw @EJ (tw @EI (tw @EL (tw @lN (tw @pP (tw @ES (tw @eU (tw @rh @bW.eq_1)))))))))))))))) ?_;(repeat(refine Pn.mk ?_;intro N hN))))
  refine .inl ⟨_,aw.x Kt uh,?_⟩
  refine hN _ _ ?_
  clear hN N
  have stay:∀k',k'=k+1->(¬(0<fY bs f' ed v/\out (cw bs ed v)=out v-1))->((zl<0/\∀z,z<k'->¬(0<fY bs f' (I.getD z 0) v/\out (cw bs (I.getD z 0) v)=out v-1))∨∃ed:Nat,ed∈I/\F3=(ed:Int)/\zl=(cw bs ed v:Int)/\0<fY bs f' ed v/\out (cw bs ed v)=out v-1):=fun k' Ki kH=>by
   rcases J7 with⟨h1,h2⟩|h
   ·refine .inl ⟨h1,fun z hz=>?_⟩
    by_cases EU:z=k
    ·subst EU;rw[<-hed];exact kH
    ·exact h2 z (by omega)
   ·exact .inr h
  by_cases hr:0<fY bs f' ed v
  ·by_cases L6:out (cw bs ed v)=out v-1
   ·have mM:decide (out (cw bs ed v)=out v-1)=true:=decide_eq_true L6
    have found:∃SS:Nat,SS∈I/\(ed:Int)=(SS:Int)/\(cw bs ed v:Int)=(cw bs SS v:Int)/\0<fY bs f' SS v/\out (cw bs SS v)=out v-1:=⟨ed,ql,rfl,rfl,hr,L6⟩
    by_cases I8:zl<0
    ·(try((repeat(revert hN;revert N;apply Pn.out));refine wk (tw @oj (tw @c0 (tw @c2 (tw @c7 (tw @c8 (tw @c9 (tw @jG (tw @hk (tw @EJ (tw @EI (tw @EL (tw @lN (tw @pP (tw @ES (tw @eU (tw @rh (tw @hr (tw @Sk (tw @pO (tw @l7 (tw @mM (tw @I8 @bW.eq_1)))))))))))))))))))))) ?_;(repeat(refine Pn.mk ?_;intro N hN))))
     exact gN (sd (tw @oj (tw @c0 (tw @c2 (tw @c7 @c8))))) (⟨_,_,sd @Nat.zero_add,sd @Nat.zero_add,.inr found⟩) (⟨mN,by(try dsimp only);omega⟩)
    ·by_cases eo:(cw bs ed v:Int)<zl
     ·(try((repeat(revert hN;revert N;apply Pn.out));refine wk (tw @oj (tw @c0 (tw @c2 (tw @c7 (tw @c8 (tw @c9 (tw @jG (tw @hk (tw @EJ (tw @EI (tw @EL (tw @lN (tw @pP (tw @ES (tw @eU (tw @rh (tw @hr (tw @Sk (tw @pO (tw @l7 (tw @mM (tw @I8 (tw @eo @bW.eq_1))))))))))))))))))))))) ?_;(repeat(refine Pn.mk ?_;intro N hN))))
      exact gN (sd (tw @oj (tw @c0 (tw @c2 (tw @c7 @c8))))) (⟨_,_,sd @Nat.zero_add,sd @Nat.zero_add,.inr found⟩) (⟨mN,by(try dsimp only);omega⟩)
     ·(try((repeat(revert hN;revert N;apply Pn.out));refine wk (tw @oj (tw @c0 (tw @c2 (tw @c7 (tw @c8 (tw @c9 (tw @jG (tw @hk (tw @EJ (tw @EI (tw @EL (tw @lN (tw @pP (tw @ES (tw @eU (tw @rh (tw @hr (tw @Sk (tw @pO (tw @l7 (tw @mM (tw @I8 (tw @eo @bW.eq_1))))))))))))))))))))))) ?_;(repeat(refine Pn.mk ?_;intro N hN))))
      exact gN (sd (tw @oj (tw @c0 (tw @c2 (tw @c7 @c8))))) (⟨zl,F3,sd @c9,sd @jG,by
       rcases J7 with⟨h1,_⟩|h
       ·exact absurd h1 I8
       ·exact .inr h⟩) (⟨mN,by(try dsimp only);omega⟩)
   ·have mM:decide (out (cw bs ed v)=out v-1)=false:=decide_eq_false L6
    (try((repeat(revert hN;revert N;apply Pn.out));refine wk (tw @oj (tw @c0 (tw @c2 (tw @c7 (tw @c8 (tw @c9 (tw @jG (tw @hk (tw @EJ (tw @EI (tw @EL (tw @lN (tw @pP (tw @ES (tw @eU (tw @rh (tw @hr (tw @Sk (tw @pO (tw @l7 (tw @mM @bW.eq_1))))))))))))))))))))) ?_;(repeat(refine Pn.mk ?_;intro N hN))))
    exact gN (sd (tw @oj (tw @c0 (tw @c2 (tw @c7 @c8))))) (⟨zl,F3,sd @c9,sd @jG,stay _ rfl fun h=>L6 h.2⟩) (⟨mN,by(try dsimp only);omega⟩)
  ·(try((repeat(revert hN;revert N;apply Pn.out));refine wk (tw @oj (tw @c0 (tw @c2 (tw @c7 (tw @c8 (tw @c9 (tw @jG (tw @hk (tw @EJ (tw @EI (tw @EL (tw @lN (tw @pP (tw @ES (tw @eU (tw @rh (tw @hr @bW.eq_1))))))))))))))))) ?_;(repeat(refine Pn.mk ?_;intro N hN))))
   exact gN (sd (tw @oj (tw @c0 (tw @c2 (tw @c7 @c8))))) (⟨zl,F3,sd @c9,sd @jG,stay _ rfl fun h=>hr h.1⟩) (⟨mN,by(try dsimp only);omega⟩)
 ·have kM:k=I.length:=by omega
  have W5:∃ed:Nat,ed∈I/\F3=(ed:Int)/\zl=(cw bs ed v:Int)/\0<fY bs f' ed v/\out (cw bs ed v)=out v-1:=by
   rcases J7 with⟨h1,h2⟩|h
   ·exfalso
    obtain⟨ed,he,hq⟩:=O4
    obtain⟨z,hz,rfl⟩:=List.getElem_of_mem he
    refine h2 z (by omega) ?_
    rw[List.getD_eq_getElem?_getD,List.getElem?_eq_getElem hz];exact hq
   ·exact h
  obtain⟨ed,ql,rfl,rfl,hr,L6⟩:=W5
  obtain⟨he,qk⟩:=hIm _ ql
  (try((repeat(revert hN;revert N;apply Pn.out));refine wk (tw @oj (tw @c0 (tw @c2 (tw @c7 (tw @c8 (tw @c9 (tw @jG (tw @hk (tw @EJ (tw @EI (tw @EL (tw @lN (tw @pP (tw @ES (tw @rh @bW.eq_1))))))))))))))) ?_;(repeat(refine Pn.mk ?_;intro N hN))))
  refine .inr (aJ _ _ _ _ _ (fun r σ1 hq=>?_) (Ri cnt bs f' Nl ed v he X A F ⟨st_c.get,_⟩ nb (hN1.frame (fun i _=>mN i) (Nat.le_refl _)) (by(try dsimp only);omega)))
  obtain⟨Vb,nA,Kf⟩:=hq
  (try dsimp only at nA Kf)
  refine hN _ _ ?_
  clear hN N
  (try((repeat(revert hN;revert N;apply Pn.out));refine wk (tw @oj (tw @c0 (tw @c2 (tw @c7 (tw @c8 @c9))))) ?_;(repeat(refine Pn.mk ?_;intro N hN))))
  refine⟨_,?_,cw bs ed v,uq bs f' ed v,rfl,ph ok he,by omega,sd @Nat.zero_add,hW.step he qk hr L6,Vb,fun i hi hF=>by rw[Kf i hF,mN i,l5 i hi hF],by(try dsimp only);omega⟩
  omega
def tR (P:Program) (f:Nat) (args:List AV) (R:AV->Prop):Prop:=∀σ:ay,Call P f args ⟨V.ro σ.get,σ.next⟩ fun r0 σ'=>∃r',V.fz σ'.get 6 r0=some r'/\R r'
theorem Et {P:Program} {f:Nat} {args:List AV} {g:Rows} {n:Nat} {R:AV->Prop} (h:Sound P f args ⟨V.ro g,n⟩ fun r0 σ'=>∃r',V.fz σ'.get 6 r0=some r'/\R r'):Sound P f args ⟨g,n⟩ fun r σ'=>R r/\σ'=⟨g,n⟩:=by
 intro hs D ι w vs S U A
 refine(Bu (g0:=g) (K:=R) h (fun _ _ h=>h) S U A).mono ?_
 rintro e w' ⟨r,D',u,rfl,hR,T,S',hr⟩
 exact⟨r,g,n,D',ι,u,rfl,⟨hR,rfl⟩,T,S',U,Nat.le_refl _,hr⟩
theorem tR.x {P:Program} (hm:P.follows .mixedOrders=true) {f:Nat} {args:List AV} {R:AV->Prop} (h:tR P f args R) {σ:ay}:Call P f args σ fun r σ'=>R r/\σ'=σ:=
 gh (Et (iw hm (h σ)))
theorem tR.body {P:Program} {f:Nat} {args:List AV} {R:AV->Prop} {nt na:Nat} {body:VC} {res:List qd} (hf:nv P f=some ⟨nt,na,body,res⟩) (ha:na=args.length) (h:(∀a∈args,e8 a)->∀σ:ay,ek (Call P) body (mo res fun r0 σ'=>∃r',V.fz σ'.get 6 r0=some r'/\R r') (cm args) ⟨V.ro σ.get,σ.next⟩):tR P f args R:=fun σ=>mD hf ha fun hl=>h hl σ
theorem NN {g:Rows} {rows:List (List AV)} {xs:List (List Nat)} {ids:List Id} (n:Nat) (h:dE RW g rows xs ids):ee g (n+2) rows=some (xs.map fun l=>[Rq l]):=by
 induction h with
 |nil=>rw[ee];rfl
 |cons h1 _ ih=>
  rename_i x _ _ _ _ _
  rcases h1 with⟨h0,h1,_⟩|⟨id,h1,h0,h2,_⟩
  ·subst h0 h1;rw[ee,ih,aq,au,aU];rfl
  ·have ij:x≠[]:=by rintro rfl;simp at h0
   subst h1
   rw[ee,ih,aq,au,gI (e:=eN) (sz:=1) h2 rfl fun a=>fzN _ n a]
   simp[Rq,ij]
theorem oI.fz0 {cnt:Nat} {bs:List PB} {f:Nat->Int} {X A F:Id} {g:Rows} {nx:Nat} (h:oI cnt bs f X A F g nx):V.fz g 5 (.ptr X 0 0)=some (.dp (gn cnt bs f)):=by
 have hf:V.fz g 4 (.own F 0 bs.length)=some (.sl (ev f bs.length)):=by
  rw[gE]
  simp only[h.f,if_true]
  rw[if_pos (by rw[ec];omega),List.drop_zero,List.take_of_length_le (by rw[ec];omega),A4];rfl
 have ha:V.fz g 4 (.own A 0 cnt)=some (.sl (qM cnt bs bs.length)):=by
  obtain⟨rows,ids,h1,h2,_,_⟩:=h.a
  have hl:=h2.len
  rw[jz]at hl
  rw[gE]
  simp only[h1,if_true]
  rw[if_pos (by omega),List.drop_zero,List.take_of_length_le (by omega),NN 1 h2]
  simp[lS,qM]
 rw[bc]
 simp only[h.x,if_true,List.getElem?_cons_zero,List.drop_zero,bW,aq,au,aH,bZ,ha,hf,Option.map_some,gn]
theorem F4 {S:Nat->Bool}:∀bs:List PB,(∀b∈bs,b.s<=4)->ji S bs<=4*bs.length
 |[],_=>by simp[ji]
 |b::bs,h=>by
  rw[th]
  have:=F4 (S:=S) bs fun x hx=>h x (List.mem_cons_of_mem _ hx)
  have:=h b (by simp)
  simp only[List.length_cons]
  split<;>omega
theorem kd.zero {bs:List PB} {x y:Nat} (h:∀e,e<bs.length->0<=(cZ bs e).s/\(cZ bs e).s<=4):kd bs (fun _=>0) x y 0:=
 ⟨fun i hi=>by have:=h i hi;omega,fun S _ _=>j6 fun i _=>by simp⟩
theorem Mv {bs:List PB} {b:PB} (h:b∈bs):∃e,e<bs.length/\cZ bs e=b:=by
 obtain⟨e,he,rfl⟩:=List.getElem_of_mem h
 exact⟨e,he,by simp[cZ,List.getD_eq_getElem?_getD,he]⟩
theorem H5 (cnt:Nat) (hn:cnt<=1048576) (bs:List PB) (ok:nT cnt bs) (od:bs.length<=1048576) (eu:∀e,e<bs.length->0<=(cZ bs e).s/\(cZ bs e).s<=4) (x y:Nat) (hx:x<cnt) (hy:y<cnt) (Uc:x≠y):
  tR Tryz.prog 193 [.int .i64 cnt,.sl (bs.map aD),.int .i64 x,.int .i64 y] fun r=>∃f val,r=.iA [.dp (gn cnt bs f),.int .i64 val]/\kd bs f x y val/\∃S:Nat->Bool,S x=true/\S y=false/\val=ji S bs:=by
 refine tR.body eK rfl fun hl σ=>?_
 clear hl
 (try((repeat(revert hN;revert N;apply Pn.out));refine wk @Nat.zero_add ?_;(repeat(refine Pn.mk ?_;intro N hN))))
 refine .inr (aJ _ _ _ _ _ (fun r σ1 hq=>?_) (KF cnt hn bs ok od _))
 obtain⟨X,A,F,rfl,hX,hS⟩:=hq
 refine hN _ _ ?_
 clear hN N
 have hS0:∀f val,kd bs f x y val->val<=ji (fun v=>decide (v=x)) bs:=fun f val hf=>hf.bound (decide_eq_true rfl) (decide_eq_false fun h=>Uc h.symm)
 have htot:=F4 (S:=fun v=>decide (v=x)) bs fun b hb=>by
  obtain⟨e,he,rfl⟩:=Mv hb
  exact(eu e he).2
 generalize ji (fun v=>decide (v=x)) bs=T at *
 (try((repeat(revert hN;revert N;apply Pn.out));refine wk @Nat.zero_add ?_;(repeat(refine Pn.mk ?_;intro N hN))))
 refine aX (fun m env st=>∃(f:Nat->Int) (val:Int),m=(T-val).toNat/\0<=val/\env 10=.ptr X 0 0/\env 11=.int .i64 val/\kd bs f x y val/\oI cnt bs f X A F st.get σ1.next/\σ1.next<=st.next) T.toNat ⟨_,0,by simp,by omega,by(simp only[go_sem, ↓reduceIte,Nat.reduceEqDiff,Nat.reduceAdd,Nat.reduceSub,Nat.reduceLeDiff,reduceCtorEq]),by(simp only[go_sem, ↓reduceIte,Nat.reduceEqDiff,Nat.reduceAdd,Nat.reduceSub,Nat.reduceLeDiff,reduceCtorEq]),kd.zero eu,hS.frame (fun i hi=>rfl) (Nat.le_refl _),by(try dsimp only);omega⟩ ?_
 rintro m env_b st_b ⟨f,val,rfl,rz,b10,b11,hf,hN1,hle⟩ eX
 have b2:=eX 2 (by kernel_rfl)
 have b3:=eX 3 (by kernel_rfl)
 simp only[go_sem, ↓reduceIte,Nat.reduceEqDiff,Nat.reduceAdd,Nat.reduceSub,Nat.reduceLeDiff,reduceCtorEq]at b2 b3
 clear eX
 (try((repeat(revert hN;revert N;apply Pn.out));refine wk (tw @b2 (tw @b3 @b10)) ?_;(repeat(refine Pn.mk ?_;intro N hN))))
 refine .inr (aJ _ _ _ _ _ (fun r σ2 hq=>?_) (Qc cnt hn bs ok od eu f x y hx hy Uc val hf X A F ⟨st_b.get,_⟩ σ1.next hN1 (by(try dsimp only);omega)))
 obtain⟨b,f',rfl,Vb,nA,_,kH,XO⟩:=hq
 (try dsimp only at nA)
 refine hN _ _ ?_
 clear hN N
 cases b with
 |true=>
  have mC:=XO rfl
  have Gk:=hS0 _ _ hf
  have Bg:=hS0 _ _ mC
  have hw:IntKind.i64.wrap (val+1)=val+1:=bK (by omega)
  (try((repeat(revert hN;revert N;apply Pn.out));refine wk (tw @b10 (tw @b11 @hw)) ?_;(repeat(refine Pn.mk ?_;intro N hN))))
  exact⟨_,by omega,f',val+1,rfl,by omega,sd @b10,sd (tw @b11 @hw),mC,Vb,by(try dsimp only);omega⟩
 |false=>
  obtain⟨rfl,S,h1,h2,h3⟩:=kH rfl
  (try((repeat(revert hN;revert N;apply Pn.out));refine wk (tw @b10 @b11) ?_;(repeat(refine Pn.mk ?_;intro N hN))))
  have hz:=Vb.fz0
  exact⟨[.ptr X 0 0,.int .i64 val],sd @Nat.zero_add,.iA [.dp (gn cnt bs f'),.int .i64 val],by simp only[fx,bx,aq,au,hz,aH,Option.map_some],f',val,rfl,hf,S,h1,h2,h3⟩
theorem H6 (cnt:Nat) (hn:cnt<=1048576) (bs:List PB) (ok:nT cnt bs) (od:bs.length<=1048576) (f:Nat->Int) (hs:Small bs f) (y:Nat) (hy:y<cnt):
  nS Tryz.prog 194 [.dp (gn cnt bs f),.int .i64 y] fun r=>∃l:List Nat,r=.sl (l.map eN)/\l.length<=cnt:=by
 refine nS.body eK rfl fun hl n0=>?_
 clear hl
 have hz:∀g:Rows,de (dK g) 6 [.dp (gn cnt bs f),.int .i64 (y:Int)]=some [.dp (gn cnt bs f),.int .i64 y]:=fun g=>by simp only[aq,au,aT,aH,Option.map_some]
 (try((repeat(revert hN;revert N;apply Pn.out));refine wk @Nat.zero_add ?_;(repeat(refine Pn.mk ?_;intro N hN))))
 refine .inr (aJ _ _ _ _ _ (fun r σ1 hq=>?_) ((GR cnt hn bs ok od f hs y hy).x mixed (hz _)))
 obtain⟨⟨out,rfl,Kw⟩,rfl⟩:=hq
 refine hN _ _ ?_
 clear hN N
 (try((repeat(revert hN;revert N;apply Pn.out));refine wk @gn.eq_1 ?_;(repeat(refine Pn.mk ?_;intro N hN))))
 refine aX (fun n env st=>∃k:Nat,n=(cnt)-k/\k<=(cnt)/\env 7=.int .i64 (k:Int)/\(∃(o:Id) (l:List Nat),env 6=.own o 0 l.length/\st.get o=some ⟨true,1,l.map eN⟩/\o.br<st.next/\l.length<=k)) (cnt) ⟨0,by omega,by omega,sl @gn.eq_1,⟨⟨194002000,n0+1+1+1⟩,[],by(simp only[go_sem, ↓reduceIte,Nat.reduceEqDiff,Nat.reduceAdd,Nat.reduceSub,Nat.reduceLeDiff,reduceCtorEq])<;>rfl,by(simp only[go_sem, ↓reduceIte,Nat.reduceEqDiff,Nat.reduceAdd,Nat.reduceSub,Nat.reduceLeDiff,reduceCtorEq])<;>rfl,by(try dsimp only);omega,by simp⟩⟩ ?_
 rintro n_a env_a st_a ⟨k,rfl,ale,a7,kC⟩ dC
 have a0:=dC 0 (by kernel_rfl);have a5:=dC 5 (by kernel_rfl)
 simp only[go_sem, ↓reduceIte,Nat.reduceEqDiff,Nat.reduceAdd,Nat.reduceSub,Nat.reduceLeDiff,reduceCtorEq,gn]at a0 a5
 clear dC
 obtain⟨o,l,a6,ag,pO,I7⟩:=kC
 have rz:=dr pO
 have gR:(l.map eN).length=l.length:=by simp
 by_cases hk:(k:Int)<(cnt:Int)
 ·have cD:∀{e:Env} {gg:Rows} {nx:Nat},(e 7=.int .i64 (IntKind.i64.wrap ((k:Int)+1)))->(∃(o:Id) (l:List Nat),e 6=.own o 0 l.length/\gg o=some ⟨true,1,l.map eN⟩/\o.br<nx/\l.length<=(k+1))->∃m0,m0<(cnt)-k/\∃k:Nat,m0=(cnt)-k/\k<=(cnt)/\e 7=.int .i64 (k:Int)/\(∃(o:Id) (l:List Nat),e 6=.own o 0 l.length/\gg o=some ⟨true,1,l.map eN⟩/\o.br<nx/\l.length<=k):=fun x1 x2=>⟨_,by omega,k+1,rfl,by omega,(by rw[x1,az (by omega)]),x2⟩
  have wI:=ep (f:=out) (show k<cnt by omega)
  rw[aQ]at wI
  have e1:l.length+1<=16777216:=by omega
  by_cases h0:0<=out k
  ·(try((repeat(revert hN;revert N;apply Pn.out));refine wk (tw @a7 (tw @a0 (tw @a5 (tw @a6 (tw @ag (tw @rz (tw @hk (tw @wI (tw @h0 (tw @e1 (tw @gR @gn.eq_1))))))))))) ?_;(repeat(refine Pn.mk ?_;intro N hN))))
   exact cD (sd (tw @a7 (tw @a0 (tw @a5 @gn.eq_1)))) (⟨⟨194007003,st_a.next+1+1⟩,l++[k],by rw[List.length_append];simp only[go_sem, ↓reduceIte,Nat.reduceEqDiff,Nat.reduceAdd,Nat.reduceSub,Nat.reduceLeDiff,reduceCtorEq,List.length_cons,List.length_nil],by rw[List.map_append,List.map_cons,List.map_nil];simp only[go_sem, ↓reduceIte,Nat.reduceEqDiff,Nat.reduceAdd,Nat.reduceSub,Nat.reduceLeDiff,reduceCtorEq,eN],by(try dsimp only);omega,by simp;omega⟩)
  ·(try((repeat(revert hN;revert N;apply Pn.out));refine wk (tw @a7 (tw @a0 (tw @a5 (tw @a6 (tw @ag (tw @rz (tw @hk (tw @wI (tw @h0 (tw @gR @gn.eq_1)))))))))) ?_;(repeat(refine Pn.mk ?_;intro N hN))))
   exact cD (sd (tw @a7 (tw @a0 (tw @a5 @gn.eq_1)))) (⟨o,l,sd @a6,sd @ag,by(try dsimp only);omega,by omega⟩)
 ·(try((repeat(revert hN;revert N;apply Pn.out));refine wk (tw @a7 (tw @a0 (tw @a5 (tw @a6 (tw @hk @gn.eq_1))))) ?_;(repeat(refine Pn.mk ?_;intro N hN))))
  have sj:gq st_a.get 6 (.own o 0 l.length)=some (.sl (l.map eN)):=fA ag rfl fun b=>Qa _ 4 b
  exact⟨_,rfl,_,by simp only[go_sem, ↓reduceIte,Nat.reduceEqDiff,Nat.reduceAdd,Nat.reduceSub,Nat.reduceLeDiff,reduceCtorEq,fx];exact sj,l,rfl,by omega⟩
theorem CG (v1 v2:Int) (l1 l2:List Nat) (h1:l1.length<=1048576) (h2:l2.length<=1048576):
  nS Tryz.prog 195 [.int .i64 v1,.sl (l1.map eN),.int .i64 v2,.sl (l2.map eN)] fun r=>∃b,r=.bool b/\(v1<v2->b=true)/\(v2<v1->b=false):=by
 refine nS.body eK rfl fun hl n0=>?_
 clear hl
 have ret:∀{t:Nat} {env:Env} {σ:ay} {b:Bool} {x:Ex},(x=.ret∨x=.normal)->env t=.bool b->((v1<v2->b=true)/\(v2<v1->b=false))->mo [.tmp t] (fun r0 σ'=>∃r',gq σ'.get 6 r0=some r'/\∃b,r'=.bool b/\(v1<v2->b=true)/\(v2<v1->b=false)) x env σ:=by
  intro t env σ b x hx he hb
  have:∃vs,fR env σ.get [.tmp t]=some vs/\∃r',gq σ.get 6 (fx vs)=some r'/\∃b,r'=.bool b/\(v1<v2->b=true)/\(v2<v1->b=false):=⟨[env t],rfl,.bool b,by rw[he];exact fP _ _ _,b,rfl,hb⟩
  rcases hx with rfl|rfl
  ·exact this
  ·exact this
 have m1:(l1.map eN).length=l1.length:=by simp
 have m2:(l2.map eN).length=l2.length:=by simp
 by_cases hv:v1=v2
 ·have hd:decide (v1=v2)=true:=decide_eq_true hv
  by_cases I7:(l1.length:Int)=(l2.length:Int)
  ·have mM:decide ((l1.length:Int)=(l2.length:Int))=true:=decide_eq_true I7
   have WV:decide (l1.length=l2.length)=true:=decide_eq_true (by omega)
   (try((repeat(revert hN;revert N;apply Pn.out));refine wk (tw @hd (tw @mM (tw @WV (tw @m1 @m2)))) ?_;(repeat(refine Pn.mk ?_;intro N hN))))
   refine aX (fun n env st=>∃k:Nat,n=(l1.length)-k/\k<=(l1.length)/\env 9=.int .i64 (k:Int)) (l1.length) ⟨0,by omega,by omega,sl @Nat.zero_add⟩ ?_
   rintro n_a env_a st_a ⟨k,rfl,ale,a9⟩ dC
   have a1:=dC 1 (by kernel_rfl);have a3:=dC 3 (by kernel_rfl)
   simp only[go_sem, ↓reduceIte,Nat.reduceEqDiff,Nat.reduceAdd,Nat.reduceSub,Nat.reduceLeDiff,reduceCtorEq]at a1 a3
   clear dC
   by_cases hk:(k:Int)<(l1.length:Int)
   ·have cD:∀{e:Env},(e 9=.int .i64 (IntKind.i64.wrap ((k:Int)+1)))->∃m0,m0<(l1.length)-k/\∃k:Nat,m0=(l1.length)-k/\k<=(l1.length)/\e 9=.int .i64 (k:Int):=fun x1=>⟨_,by omega,k+1,rfl,by omega,(by rw[x1,az (by omega)])⟩
    have g1:(l1.map eN)[k]? =some (eN (l1.getD k 0)):=getD_map eN (by omega)
    have g2:(l2.map eN)[k]? =some (eN (l2.getD k 0)):=getD_map eN (by omega)
    rw[eN]at g1 g2
    by_cases he:((l1.getD k 0:Nat):Int)=((l2.getD k 0:Nat):Int)
    ·have Tx:decide (((l1.getD k 0:Nat):Int)=((l2.getD k 0:Nat):Int))=true:=decide_eq_true he
     have WW:decide (l1.getD k 0=l2.getD k 0)=true:=decide_eq_true (by omega)
     (try((repeat(revert hN;revert N;apply Pn.out));refine wk (tw @a9 (tw @a1 (tw @a3 (tw @hk (tw @m1 (tw @g1 (tw @g2 (tw @Tx @WW)))))))) ?_;(repeat(refine Pn.mk ?_;intro N hN))))
     exact cD (sd (tw @a9 (tw @a1 @a3)))
    ·have Tx:decide (((l1.getD k 0:Nat):Int)=((l2.getD k 0:Nat):Int))=false:=decide_eq_false he
     have WW:decide (l1.getD k 0=l2.getD k 0)=false:=decide_eq_false (by omega)
     (try((repeat(revert hN;revert N;apply Pn.out));refine wk (tw @a9 (tw @a1 (tw @a3 (tw @hk (tw @m1 (tw @g1 (tw @g2 (tw @Tx @WW)))))))) ?_;(repeat(refine Pn.mk ?_;intro N hN))))
     exact ret (.inl rfl) (by simp only[go_sem, ↓reduceIte,Nat.reduceEqDiff,Nat.reduceAdd,Nat.reduceSub,Nat.reduceLeDiff,reduceCtorEq];rfl) ⟨fun h=>by omega,fun h=>by omega⟩
   ·(try((repeat(revert hN;revert N;apply Pn.out));refine wk (tw @a9 (tw @a1 (tw @a3 (tw @hk @m1)))) ?_;(repeat(refine Pn.mk ?_;intro N hN))))
    exact ret (b:=false) (.inl rfl) (sd @Nat.zero_add) ⟨fun h=>by omega,fun h=>by omega⟩
  ·have mM:decide ((l1.length:Int)=(l2.length:Int))=false:=decide_eq_false I7
   have WV:decide (l1.length=l2.length)=false:=decide_eq_false (by omega)
   (try((repeat(revert hN;revert N;apply Pn.out));refine wk (tw @hd (tw @mM (tw @WV (tw @m1 @m2)))) ?_;(repeat(refine Pn.mk ?_;intro N hN))))
   exact ret (.inl rfl) (by simp only[go_sem, ↓reduceIte,Nat.reduceEqDiff,Nat.reduceAdd,Nat.reduceSub,Nat.reduceLeDiff,reduceCtorEq];rfl) ⟨fun h=>by omega,fun h=>by omega⟩
 ·have hd:decide (v1=v2)=false:=decide_eq_false hv
  (try((repeat(revert hN;revert N;apply Pn.out));refine wk @hd ?_;(repeat(refine Pn.mk ?_;intro N hN))))
  exact ret (b:=decide (v1<v2)) (.inl rfl) (sd @Nat.zero_add) ⟨fun h=>decide_eq_true h,fun h=>decide_eq_false (by omega)⟩
def vE (bs:List PB) (cnt:Nat) (js:Int) (k:Nat):Prop:=(k=1/\js= -1)∨(0<=js/\(∀z,1<=z->z<k->∀S:Nat->Bool,S 0=true->S z=false->js<=ji S bs)/\∃S:Nat->Bool,S 0=true/\(∃z,z<cnt/\S z=false)/\js=ji S bs)
theorem kd.nn {bs:List PB} {val:Int} {S:Nat->Bool} (eu:∀e,e<bs.length->0<=(cZ bs e).s/\(cZ bs e).s<=4) (h:val=ji S bs):0<=val:=by
 rw[h,vZ]
 have:=sR (f:=fun _=>0) (g:=fun i=>if S (cZ bs i).a=S (cZ bs i).b then 0 else(cZ bs i).s) (n:=bs.length) fun i hi=>by
  have:=eu i hi
  split<;>omega
 rw[j6 fun _ _=>rfl]at this
 exact this
theorem vE.done {bs:List PB} {cnt:Nat} {js:Int} (hc:2<=cnt) (h:vE bs cnt js cnt) (t:Int):t<=js↔kZ cnt bs t:=by
 rcases h with⟨h,_⟩|⟨_,h1,S,h2,⟨z,hz,kR⟩,h3⟩
 ·omega
 ·constructor
  ·intro ht S h0 ⟨y,hy,hy2⟩
   have:y≠0:=by rintro rfl;rw[h0]at hy2;cases hy2
   have:=h1 y (by omega) hy S h0 hy2
   omega
  ·intro hH
   rw[h3];exact hH S h2 ⟨z,hz,kR⟩
theorem Aq (cnt:Nat) (h2:2<=cnt) (hn:cnt<=1048576) (bs:List PB) (ok:nT cnt bs) (od:bs.length<=1048576) (eu:∀e,e<bs.length->0<=(cZ bs e).s/\(cZ bs e).s<=4):
  tR Tryz.prog 126 [.int .i64 cnt,.sl (bs.map aD)] fun r=>∃js p,r=.iA [.int .i64 js,p]/\∀t:Int,t<=js↔kZ cnt bs t:=by
 refine tR.body eK rfl fun hl σ=>?_
 clear hl
 (try((repeat(revert hN;revert N;apply Pn.out));refine wk @Nat.zero_add ?_;(repeat(refine Pn.mk ?_;intro N hN))))
 have z0:∀(g:Rows) (id:Id),g id=some ⟨true,1,[]⟩->V.fz (dK g) 6 (.own id 0 0)=some (.sl (([]:List Nat).map eN))/\V.fz g 5 (.own id 0 0)=some (.sl (([]:List Nat).map eN)):=fun g id h=>by
  have h':dK g id=some ⟨true,1,[]⟩:=by simp[dK,h]
  constructor
  ·rw[gE];simp only[h',if_true];rw[if_pos (by simp)];simp[o8]
  ·rw[gE];simp only[h,if_true];rw[if_pos (by simp)];simp[o8]
 refine aX (fun m env st=>∃(k:Nat) (js:Int) (l:List Nat) (p:AV),m=cnt-k/\1<=k/\k<=cnt/\env 8=.int .i64 (k:Int)/\env 6=.int .i64 js/\env 7=p/\V.fz (dK st.get) 6 p=some (.sl (l.map eN))/\V.fz st.get 5 p=some (.sl (l.map eN))/\l.length<=cnt/\vE bs cnt js k) (cnt-1) ⟨1,-1,[],.own ⟨126002000,σ.next+1+1⟩ 0 0,rfl,by omega,by omega,by(simp only[go_sem, ↓reduceIte,Nat.reduceEqDiff,Nat.reduceAdd,Nat.reduceSub,Nat.reduceLeDiff,reduceCtorEq])<;>rfl,by(simp only[go_sem, ↓reduceIte,Nat.reduceEqDiff,Nat.reduceAdd,Nat.reduceSub,Nat.reduceLeDiff,reduceCtorEq])<;>rfl,by(simp only[go_sem, ↓reduceIte,Nat.reduceEqDiff,Nat.reduceAdd,Nat.reduceSub,Nat.reduceLeDiff,reduceCtorEq])<;>rfl,(z0 _ _ (sd @Nat.zero_add)).1,(z0 _ _ (sd @Nat.zero_add)).2,by simp,.inl ⟨rfl,rfl⟩⟩ ?_
 rintro m env_b st_b ⟨k,js,l,p,rfl,pc,tr,b8,b6,b7,y5,kR,hl,hB⟩ eX
 have b0:=eX 0 (by kernel_rfl)
 have b1:=eX 1 (by kernel_rfl)
 simp only[go_sem, ↓reduceIte,Nat.reduceEqDiff,Nat.reduceAdd,Nat.reduceSub,Nat.reduceLeDiff,reduceCtorEq]at b0 b1
 clear eX z0
 by_cases hk:(k:Int)<(cnt:Int)
 ·have fm:k<cnt:=by omega
  have hFl:=H5 cnt hn bs ok od eu 0 k (by omega) fm (by omega)
  rw[show(((0:Nat):Int))=0 from rfl]at hFl
  (try((repeat(revert hN;revert N;apply Pn.out));refine wk (tw @b0 (tw @b1 (tw @b6 (tw @b7 (tw @b8 @hk))))) ?_;(repeat(refine Pn.mk ?_;intro N hN))))
  refine .inr (aJ _ _ _ _ _ (fun r σ1 hq=>?_) (hFl.x mixed))
  obtain⟨⟨f,val,rfl,hf,S,Qq,MZ,Vc⟩,rfl⟩:=hq
  refine hN _ _ ?_
  clear hN N
  have Nl:=xE eu hf.le
  have tt:=kd.nn (val:=val) eu Vc
  (try((repeat(revert hN;revert N;apply Pn.out));refine wk (tw @b0 (tw @b1 (tw @b6 (tw @b7 @b8)))) ?_;(repeat(refine Pn.mk ?_;intro N hN))))
  refine .inr (aJ _ _ _ _ _ (fun r σ1 hq=>?_) ((H6 cnt hn bs ok od f Nl k fm).x mixed (by simp only[aq,au,aT,aH,Option.map_some])))
  obtain⟨⟨l',rfl,Md⟩,rfl⟩:=hq
  refine hN _ _ ?_
  clear hN N
  have hw:IntKind.i64.wrap ((k:Int)+1)=((k+1:Nat):Int):=az (by omega)
  have UC:(∀z,1<=z->z<k->∀S:Nat->Bool,S 0=true->S z=false->val<=ji S bs)->vE bs cnt val (k+1):=fun h=>.inr ⟨tt,fun z y5 kR S' h0 h1=>by
   by_cases uh:z=k
   ·subst uh;exact hf.bound h0 h1
   ·exact h z y5 (by omega) S' h0 h1,S,Qq,⟨k,fm,MZ⟩,Vc⟩
  by_cases kj:js<0
  ·have xR:k=1:=by
    rcases hB with⟨h,_⟩|⟨h,_⟩
    ·exact h
    ·omega
   (try((repeat(revert hN;revert N;apply Pn.out));refine wk (tw @b0 (tw @b1 (tw @b6 (tw @b7 (tw @b8 (tw @kj @hw)))))) ?_;(repeat(refine Pn.mk ?_;intro N hN))))
   refine⟨_,?_,k+1,val,l',.sl (l'.map eN),rfl,by omega,by omega,sd (tw @b8 @hw),sd @Nat.zero_add,sd @Nat.zero_add,bZ _ _ _,bZ _ _ _,Md,UC fun z h1 h2=>by omega⟩
   omega
  ·have xR:(∀z,1<=z->z<k->∀S:Nat->Bool,S 0=true->S z=false->js<=ji S bs)/\∃S:Nat->Bool,S 0=true/\(∃z,z<cnt/\S z=false)/\js=ji S bs:=by
    rcases hB with⟨_,h⟩|⟨_,h⟩
    ·omega
    ·exact h
   (try((repeat(revert hN;revert N;apply Pn.out));refine wk (tw @b0 (tw @b1 (tw @b6 (tw @b7 (tw @b8 (tw @kj @hw)))))) ?_;(repeat(refine Pn.mk ?_;intro N hN))))
   refine .inr (aJ _ _ _ _ _ (fun r σ1 hq=>?_) ((CG val js l' l (by omega) (by omega)).x mixed (by simp only[aq,au,bZ,aH,y5,Option.map_some])))
   obtain⟨⟨b,rfl,Gk,Bg⟩,rfl⟩:=hq
   refine hN _ _ ?_
   clear hN N
   cases b with
   |true=>
    have HQ:val<=js:=by
     rcases Int.lt_or_le js val with h|h
     ·exact absurd (Bg h) (by simp)
     ·exact h
    (try((repeat(revert hN;revert N;apply Pn.out));refine wk (tw @b0 (tw @b1 (tw @b6 (tw @b7 (tw @b8 @hw))))) ?_;(repeat(refine Pn.mk ?_;intro N hN))))
    refine⟨_,?_,k+1,val,l',.sl (l'.map eN),rfl,by omega,by omega,sd (tw @b8 @hw),sd @Nat.zero_add,sd @Nat.zero_add,bZ _ _ _,bZ _ _ _,Md,UC fun z h1 h2 S' h3 h4=>by have:=xR.1 z h1 h2 S' h3 h4;omega⟩
    omega
   |false=>
    have HQ:js<=val:=by
     rcases Int.lt_or_le val js with h|h
     ·exact absurd (Gk h) (by simp)
     ·exact h
    (try((repeat(revert hN;revert N;apply Pn.out));refine wk (tw @b0 (tw @b1 (tw @b6 (tw @b7 (tw @b8 @hw))))) ?_;(repeat(refine Pn.mk ?_;intro N hN))))
    refine⟨_,?_,k+1,js,l,p,rfl,by omega,by omega,sd (tw @b8 @hw),sd @b6,sd @b7,y5,kR,hl,.inr ⟨by omega,fun z h1 h2 S' h3 h4=>?_,xR.2⟩⟩
    ·omega
    ·by_cases uh:z=k
     ·subst uh;have:=hf.bound h3 h4;omega
     ·exact xR.1 z h1 (by omega) S' h3 h4
 ·have kM:k=cnt:=by omega
  (try((repeat(revert hN;revert N;apply Pn.out));refine wk (tw @b0 (tw @b1 (tw @b6 (tw @b7 (tw @b8 @hk))))) ?_;(repeat(refine Pn.mk ?_;intro N hN))))
  exact⟨[.int .i64 js,p],sd @Nat.zero_add,.iA [.int .i64 js,.sl (l.map eN)],by simp only[fx,bx,aq,au,kR,aH,Option.map_some],js,_,rfl,vE.done h2 (kM▸hB)⟩
theorem Oq {s:ax} (hS:iu s) (a d:Int):qq s (dt (du s a) d)<=4:=by
 have hF:=hS.form
 have fI:dt (du s a) d=0∨(0<=dt (du s a) d/\dt (du s a) d<=s.aB.length):=by
  unfold dt du
  rw[List.getD_eq_getElem?_getD,List.getD_eq_getElem?_getD]
  rcases ht:s.aj[a.toNat]? with _|t
  ·exact .inl (by simp[AH])
  ·have XE:=List.mem_of_getElem? ht
   simp only[Option.getD_some]
   rcases hg:t.bU[d.toNat]? with _|g
   ·exact .inl rfl
   ·exact .inr (hF.uc t XE g (List.mem_of_getElem? hg))
 unfold qq
 by_cases h0:dt (du s a) d=0
 ·rw[if_pos h0];omega
 ·rw[if_neg h0]
  have hk:(dt (du s a) d-1).toNat<s.aB.length:=by omega
  have:=eD (hS.UZ _ hk).2.1
  unfold qg at this
  unfold re
  omega
theorem BH {s:ax} (hS:iu s) (a d b:Int):ib s a d b<=4:=by
 unfold ib
 split
 ·exact Oq hS a d
 ·omega
theorem Hf {s:ax} {l:List ae} (hS:iu s) {i:Nat} (hi:i<l.length) {d:Int}:∀b∈nu s l i d,b.a<l.length/\b.b<l.length/\0<=b.s/\b.s<=4:=by
 intro b hb
 unfold nu at hb
 split at hb
 ·rename_i h
  simp only[List.mem_singleton]at hb
  subst hb
  exact⟨hi,(kS h.1).1,by simp only;omega,BH hS ..⟩
 ·cases hb
theorem yH {s:ax} {l:List ae} (hS:iu s):∀b∈dh s l,b.a<l.length/\b.b<l.length/\0<=b.s/\b.s<=4:=by
 intro b hb
 simp only[dh,gU,gC,List.mem_flatMap,List.mem_range]at hb
 obtain⟨i,hi,j,_,hb⟩:=hb
 exact Hf hS hi b hb
theorem qN {s:ax} {l:List ae} (hF:kJ l):(dh s l).length<=1000:=by
 have:=tV s l l.length
 have:=hF.zW
 rw[dh];omega
theorem Ju {bs:List PB} {e:Nat} (h:e<bs.length):cZ bs e∈bs:=by
 rw[cZ,List.getD_eq_getElem?_getD,List.getElem?_eq_getElem h];exact List.getElem_mem h
theorem HM {n:Nat} {bs:List PB} {t:Int} (h:n<2):kZ n bs t:=fun S h0 ⟨y,hy,hf⟩=>by
 have:y=0:=by omega
 subst this;rw[h0]at hf;cases hf
def iC (s:ax) (l:List ae) (t:Int):Nat:=(leads l.length (eJ (aV t (dh s l)))).length
noncomputable def oe (s:ax) (l:List ae) (t:Int):Bool:=@decide (pH l.length (dh s l) t) (Classical.propDecidable _)
def tn (s:ax) (l:List ae) (t:Int):Int:=if 64<iC s l t then 4 else 0
theorem mZ {s:ax} {l:List ae} {t:Int} {p:Prop} [Decidable p] (h:p↔pH l.length (dh s l) t):decide p=oe s l t:=by
 letI:=Classical.propDecidable (pH l.length (dh s l) t)
 unfold oe
 by_cases hp:p
 ·rw[decide_eq_true hp];exact(decide_eq_true (h.1 hp)).symm
 ·rw[decide_eq_false hp];exact(decide_eq_false fun k=>hp (h.2 k)).symm
theorem CI (s:ax) (l:List ae) (t:Int) (hS:iu s) (hA:kz s l):aw Tryz.prog 168 [.dp (aa s),.dp [.sl (l.map ah)],.int .i64 t] (.iA [.bool (oe s l t),.int .i64 (tn s l t)]):=by
 refine aw.body eK rfl fun hl n0=>?_
 clear hl
 have hb:=yH (l:=l) hS
 have od:=qN (s:=s) hA.1
 have Cf:=hA.1.zW
 have yV:=E4 s l hS.form hA
 have Mg:=CH l.length (by omega) (dh s l) (fun b h=>⟨(hb b h).1,(hb b h).2.1⟩) (by omega) t
 have hL:=uk (aV t (dh s l))
 have fI:=Fx hL (fun b h=>⟨(hb b h).1,(hb b h).2.1⟩)
 have hlen:=(nL (eJ (aV t (dh s l))) (dh s l)).2
 have mi:=jW l.length (eJ (aV t (dh s l)))
 have fy:(l.map ah).length=l.length:=by simp
 by_cases uJ:(64:Int)<(iC s l t:Int)
 ·have uK:64<iC s l t:=by omega
  have hd:oe s l t=false:=(mZ (p:=False) ⟨False.elim,fun h=>by have:=h.1;unfold iC at uK;omega⟩).symm.trans (by simp)
  rw[iC]at uJ
  (repeat(first|((repeat(revert hN;revert N;apply Pn.out));refine wk (tw @aa.eq_1 (tw @uJ @fy)) ?_;(repeat(refine Pn.mk ?_;intro N hN)))|((try apply Or.inl);refine⟨_,aw.x (yV) (sd (tw @aa.eq_1 (tw @uJ @fy))),?_⟩;refine hN _ _ ?_;clear hN N)|((try apply Or.inl);refine⟨_,aw.x (Mg) (sd (tw @aa.eq_1 (tw @uJ @fy))),?_⟩;refine hN _ _ ?_;clear hN N)))
  exact jE (.inl rfl) (r1:=.bool false) (r2:=.int .i64 4) (sd @Nat.zero_add) (sd @Nat.zero_add) (by rw[hd,tn,if_pos uK];simp only[fF,bV,cY,fP,eL,Option.map_some])
 have uK:¬64<iC s l t:=by omega
 have hf:tn s l t=0:=by rw[tn,if_neg uK]
 by_cases h2:(iC s l t:Int)<2
 ·have hd:oe s l t=true:=(mZ (p:=True) ⟨fun _=>⟨by unfold iC at uK;omega,HM (by unfold iC at h2;omega)⟩,fun _=>trivial⟩).symm.trans (by simp)
  rw[iC]at uJ h2
  (repeat(first|((repeat(revert hN;revert N;apply Pn.out));refine wk (tw @aa.eq_1 (tw @uJ (tw @h2 @fy))) ?_;(repeat(refine Pn.mk ?_;intro N hN)))|((try apply Or.inl);refine⟨_,aw.x (yV) (sd (tw @aa.eq_1 (tw @uJ (tw @h2 @fy)))),?_⟩;refine hN _ _ ?_;clear hN N)|((try apply Or.inl);refine⟨_,aw.x (Mg) (sd (tw @aa.eq_1 (tw @uJ (tw @h2 @fy)))),?_⟩;refine hN _ _ ?_;clear hN N)))
  exact jE (.inl rfl) (r1:=.bool true) (r2:=.int .i64 0) (sd @Nat.zero_add) (sd @Nat.zero_add) (by rw[hd,hf];simp only[fF,bV,cY,fP,eL,Option.map_some])
 have QZ:=Aq (iC s l t) (by omega) (by unfold iC;omega) (ft (eJ (aV t (dh s l))) (dh s l)) (fun e he=>by have:=fI _ (Ju he);exact⟨this.1,this.2.1,this.2.2.1⟩) (by omega) (fun e he=>by
  obtain⟨_,_,_,c,hc,dz⟩:=fI _ (Ju he)
  rw[dz];have:=hb c hc;omega)
 rw[iC]at uJ h2 QZ
 (repeat(first|((repeat(revert hN;revert N;apply Pn.out));refine wk (tw @aa.eq_1 (tw @uJ (tw @h2 @fy))) ?_;(repeat(refine Pn.mk ?_;intro N hN)))|((try apply Or.inl);refine⟨_,aw.x (yV) (sd (tw @aa.eq_1 (tw @uJ (tw @h2 @fy)))),?_⟩;refine hN _ _ ?_;clear hN N)|((try apply Or.inl);refine⟨_,aw.x (Mg) (sd (tw @aa.eq_1 (tw @uJ (tw @h2 @fy)))),?_⟩;refine hN _ _ ?_;clear hN N)))
 refine .inr (aJ _ _ _ _ _ (fun r σ1 hq=>?_) (QZ.x mixed))
 obtain⟨⟨js,p,rfl,To⟩,rfl⟩:=hq
 refine hN _ _ ?_
 clear hN N
 (try((repeat(revert hN;revert N;apply Pn.out));refine wk @Nat.zero_add ?_;(repeat(refine Pn.mk ?_;intro N hN))))
 exact jE (.inl rfl) (r1:=.bool (decide (t<=js))) (r2:=.int .i64 0) (sd @Nat.zero_add) (sd @Nat.zero_add) (by
  rw[hf,mZ (s:=s) (l:=l) (t:=t) (p:=t<=js) ((To t).trans (EN.trans ⟨fun h=>⟨by unfold iC at uK;omega,h⟩,fun h=>h.2⟩))]
  simp only[fF,bV,cY,fP,eL,Option.map_some])
theorem tD (t:Int):aw Tryz.prog 123 [.int .i64 t] (.bool (iP t 1 16)):=by
 refine aw.body eK rfl fun hl n0=>?_
 clear hl
 have h:=l8 t 1 16
 (repeat(first|((repeat(revert hN;revert N;apply Pn.out));refine wk @Nat.zero_add ?_;(repeat(refine Pn.mk ?_;intro N hN)))|((try apply Or.inl);refine⟨_,aw.x (h) (sd @Nat.zero_add),?_⟩;refine hN _ _ ?_;clear hN N)))
 exact bp (b:=iP t 1 16) (.inl rfl) (sd @Nat.zero_add) rfl
structure DQ (s:aM):Prop where
 set:iu s.aC
 Oh:kz s.aC s.cC.aj
 some:1<=s.cC.aj.length
 LF:iP s.aA 1 16=true
 holds:pH s.cC.aj.length (dh s.aC s.cC.aj) s.aA
noncomputable def nO (s:aM):Bool:=@decide (DQ s) (Classical.propDecidable _)
theorem xG {s:aM}:nO s=true↔DQ s:=by simp[nO]
theorem kc {s:aM} (h:¬DQ s):false=nO s:=by simp[nO,h]
theorem De {s:aM} (h:DQ s):true=nO s:=by simp[nO,h]
theorem pZ {s:ax} {l:List ae} {t:Int}:oe s l t=true↔pH l.length (dh s l) t:=by simp[oe]
theorem NI (s:aM) (hn:gJ s.aC) (hg:s.aC.aB.length<=1048576) (ht:s.aC.aj.length<=1048576):aw Tryz.prog 94 [.dp (aE s)] (.bool (nO s)):=by
 refine aw.body eK rfl fun hl n0=>?_
 clear hl
 have h1:=(NF s.aC hn hg ht).cut mixed (.ptr _ [.sl (s.cC.aj.map ah),.int .i64 s.aA] .nil)
 by_cases hS:iu s.aC
 ·rw[mY.2 hS]at h1
  have h2:=(GF s.aC s.cC.aj).cut mixed (.ptr _ [.sl (s.cC.aj.map ah),.int .i64 s.aA] (.ptr _ [.int .i64 s.aA] .nil))
  by_cases hA:kz s.aC s.cC.aj
  ·rw[mE.2 hA]at h2
   by_cases h0:(s.cC.aj.length:Int)=0
   ·have hd:decide ((s.cC.aj.length:Int)=0)=true:=decide_eq_true h0
    have kH:false=nO s:=kc fun h=>by have:=h.some;omega
    generalize fy:(s.cC.aj.map ah).length=len at *
    (repeat(first|((repeat(revert hN;revert N;apply Pn.out));refine wk (tw @aE.eq_1 (tw @aa.eq_1 @hd)) ?_;(repeat(refine Pn.mk ?_;intro N hN)))|((try apply Or.inl);refine⟨_,aw.x (h1) (sd (tw @aE.eq_1 (tw @aa.eq_1 @hd))),?_⟩;refine hN _ _ ?_;clear hN N)|((try apply Or.inl);refine⟨_,aw.x (h2) (sd (tw @aE.eq_1 (tw @aa.eq_1 @hd))),?_⟩;refine hN _ _ ?_;clear hN N)))
    exact bp (b:=false) (.inl rfl) (sd @Nat.zero_add) kH
   ·have hd:decide ((s.cC.aj.length:Int)=0)=false:=decide_eq_false h0
    have h3:=tD s.aA
    cases hT:iP s.aA 1 16
    ·rw[hT]at h3
     (repeat(first|((repeat(revert hN;revert N;apply Pn.out));refine wk (tw @aE.eq_1 (tw @aa.eq_1 @hd)) ?_;(repeat(refine Pn.mk ?_;intro N hN)))|((try apply Or.inl);refine⟨_,aw.x (h1) (sd (tw @aE.eq_1 (tw @aa.eq_1 @hd))),?_⟩;refine hN _ _ ?_;clear hN N)|((try apply Or.inl);refine⟨_,aw.x (h2) (sd (tw @aE.eq_1 (tw @aa.eq_1 @hd))),?_⟩;refine hN _ _ ?_;clear hN N)|((try apply Or.inl);refine⟨_,aw.x (h3) (sd (tw @aE.eq_1 (tw @aa.eq_1 @hd))),?_⟩;refine hN _ _ ?_;clear hN N)))
     exact bp (b:=false) (.inl rfl) (sd @Nat.zero_add) (kc fun h=>by have:=h.LF;rw[hT]at this;cases this)
    ·rw[hT]at h3
     have h4:=(CI s.aC s.cC.aj s.aA hS hA).cut mixed (.ptr _ [.sl (s.cC.aj.map ah),.int .i64 s.aA] (.ptr _ [.int .i64 s.aA] (.same _ .nil)))
     cases hB:oe s.aC s.cC.aj s.aA
     ·rw[hB]at h4
      (repeat(first|((repeat(revert hN;revert N;apply Pn.out));refine wk (tw @aE.eq_1 (tw @aa.eq_1 @hd)) ?_;(repeat(refine Pn.mk ?_;intro N hN)))|((try apply Or.inl);refine⟨_,aw.x (h1) (sd (tw @aE.eq_1 (tw @aa.eq_1 @hd))),?_⟩;refine hN _ _ ?_;clear hN N)|((try apply Or.inl);refine⟨_,aw.x (h2) (sd (tw @aE.eq_1 (tw @aa.eq_1 @hd))),?_⟩;refine hN _ _ ?_;clear hN N)|((try apply Or.inl);refine⟨_,aw.x (h3) (sd (tw @aE.eq_1 (tw @aa.eq_1 @hd))),?_⟩;refine hN _ _ ?_;clear hN N)|((try apply Or.inl);refine⟨_,aw.x (h4) (sd (tw @aE.eq_1 (tw @aa.eq_1 @hd))),?_⟩;refine hN _ _ ?_;clear hN N)))
      exact bp (b:=false) (.inl rfl) (sd @Nat.zero_add) (kc fun h=>by have:=pZ.2 h.holds;rw[hB]at this;cases this)
     ·have hP:=pZ.1 hB
      have hf:tn s.aC s.cC.aj s.aA=0:=by
       have:=hP.1
       rw[tn,if_neg (by unfold iC;omega)]
      rw[hB,hf]at h4
      (repeat(first|((repeat(revert hN;revert N;apply Pn.out));refine wk (tw @aE.eq_1 (tw @aa.eq_1 @hd)) ?_;(repeat(refine Pn.mk ?_;intro N hN)))|((try apply Or.inl);refine⟨_,aw.x (h1) (sd (tw @aE.eq_1 (tw @aa.eq_1 @hd))),?_⟩;refine hN _ _ ?_;clear hN N)|((try apply Or.inl);refine⟨_,aw.x (h2) (sd (tw @aE.eq_1 (tw @aa.eq_1 @hd))),?_⟩;refine hN _ _ ?_;clear hN N)|((try apply Or.inl);refine⟨_,aw.x (h3) (sd (tw @aE.eq_1 (tw @aa.eq_1 @hd))),?_⟩;refine hN _ _ ?_;clear hN N)|((try apply Or.inl);refine⟨_,aw.x (h4) (sd (tw @aE.eq_1 (tw @aa.eq_1 @hd))),?_⟩;refine hN _ _ ?_;clear hN N)))
      exact bp (b:=true) (.inl rfl) (sd @Nat.zero_add) (De ⟨hS,hA,by omega,hT,hP⟩)
  ·have hb:qe s.aC s.cC.aj=false:=Bool.eq_false_iff.2 fun h=>hA (mE.1 h)
   rw[hb]at h2
   (repeat(first|((repeat(revert hN;revert N;apply Pn.out));refine wk (tw @aE.eq_1 @aa.eq_1) ?_;(repeat(refine Pn.mk ?_;intro N hN)))|((try apply Or.inl);refine⟨_,aw.x (h1) (sd (tw @aE.eq_1 @aa.eq_1)),?_⟩;refine hN _ _ ?_;clear hN N)|((try apply Or.inl);refine⟨_,aw.x (h2) (sd (tw @aE.eq_1 @aa.eq_1)),?_⟩;refine hN _ _ ?_;clear hN N)))
   exact bp (b:=false) (.inl rfl) (sd @Nat.zero_add) (kc fun h=>hA h.Oh)
 ·have hb:rL s.aC=false:=Bool.eq_false_iff.2 fun h=>hS (mY.1 h)
  rw[hb]at h1
  (repeat(first|((repeat(revert hN;revert N;apply Pn.out));refine wk (tw @aE.eq_1 @aa.eq_1) ?_;(repeat(refine Pn.mk ?_;intro N hN)))|((try apply Or.inl);refine⟨_,aw.x (h1) (sd (tw @aE.eq_1 @aa.eq_1)),?_⟩;refine hN _ _ ?_;clear hN N)))
  exact bp (b:=false) (.inl rfl) (sd @Nat.zero_add) (kc fun h=>hS h.set)
theorem Oo {s:ax} (hS:iu s) (a d:Int):0<=qq s (dt (du s a) d):=by
 have hF:=hS.form
 have fI:dt (du s a) d=0∨(0<=dt (du s a) d/\dt (du s a) d<=s.aB.length):=by
  unfold dt du
  rw[List.getD_eq_getElem?_getD,List.getD_eq_getElem?_getD]
  rcases ht:s.aj[a.toNat]? with _|t
  ·exact .inl (by simp[AH])
  ·have XE:=List.mem_of_getElem? ht
   simp only[Option.getD_some]
   rcases hg:t.bU[d.toNat]? with _|g
   ·exact .inl rfl
   ·exact .inr (hF.uc t XE g (List.mem_of_getElem? hg))
 unfold qq
 by_cases h0:dt (du s a) d=0
 ·rw[if_pos h0];omega
 ·rw[if_neg h0]
  have hk:(dt (du s a) d-1).toNat<s.aB.length:=by omega
  have:=eD (hS.UZ _ hk).2.1
  unfold qg at this
  unfold re
  omega
theorem BG {s:ax} (hS:iu s) (a d b:Int):0<=ib s a d b/\ib s a d b<=4:=by
 refine⟨?_,BH hS a d b⟩
 unfold ib
 split
 ·exact Oo hS a d
 ·omega
def dF (s:ax) (f:ar->Int) (p:ar) (t:Int):Nat->Int
 |0=>0
 |d+1=>dF s f p t d+if 0<=f (bB p d)then ib s t d (f (bB p d))else 0
def qu (s:ax) (f:ar->Int) (p:ar) (t:Int):Int:=dF s f p t 4
theorem kf {s:ax} (hS:iu s) (f:ar->Int) (p:ar) (t:Int):∀d,0<=dF s f p t d/\dF s f p t d<=4*(d:Int)
 |0=>⟨Int.le_refl _,Int.le_refl _⟩
 |d+1=>by
  have:=kf hS f p t d
  have hb:=BG hS t d (f (bB p d))
  simp only[dF]
  split<;>omega
theorem Jt {s:ax} {l:List ae} (hA:kz s l) {p:ar} (h:0<=gH l p):eW s (gH l p)=true:=by
 unfold gH at h ⊢
 split at h
 ·rename_i h0
  rw[if_pos h0]
  exact hA.2 _ (ko (kS h0).1)
 ·omega
noncomputable def uC (s:aM) (l:List ae):Bool:=nO s&&qe s.aC l
theorem E5 (s:aM) (l:List ae) (hn:gJ s.aC) (hg:s.aC.aB.length<=1048576) (ht:s.aC.aj.length<=1048576):aw Tryz.prog 90 [.dp (aE s),.dp [.sl (l.map ah)]] (.int .i64 (if uC s l then 0 else 1)):=by
 refine aw.body eK rfl fun hl n0=>?_
 clear hl
 have h1:=NI s hn hg ht
 have h2:=(GF s.aC l).cut mixed (.ptr _ [.sl (s.cC.aj.map ah),.int .i64 s.aA] (.same _ .nil))
 cases b1:nO s
 ·rw[b1]at h1
  (repeat(first|((repeat(revert hN;revert N;apply Pn.out));refine wk @Nat.zero_add ?_;(repeat(refine Pn.mk ?_;intro N hN)))|((try apply Or.inl);refine⟨_,aw.x (h1) (sd @Nat.zero_add),?_⟩;refine hN _ _ ?_;clear hN N)))
  exact db (b:=1) (.inl rfl) (sd @Nat.zero_add) (by rw[uC,b1];rfl)
 rw[b1]at h1
 rw[aE]at h1 ⊢
 cases b2:qe s.aC l
 ·rw[b2]at h2
  (repeat(first|((repeat(revert hN;revert N;apply Pn.out));refine wk @aa.eq_1 ?_;(repeat(refine Pn.mk ?_;intro N hN)))|((try apply Or.inl);refine⟨_,aw.x (h1) (sd @aa.eq_1),?_⟩;refine hN _ _ ?_;clear hN N)|((try apply Or.inl);refine⟨_,aw.x (h2) (sd @aa.eq_1),?_⟩;refine hN _ _ ?_;clear hN N)))
  exact db (b:=1) (.inl rfl) (sd @Nat.zero_add) (by rw[uC,b1,b2];rfl)
 ·rw[b2]at h2
  (repeat(first|((repeat(revert hN;revert N;apply Pn.out));refine wk @aa.eq_1 ?_;(repeat(refine Pn.mk ?_;intro N hN)))|((try apply Or.inl);refine⟨_,aw.x (h1) (sd @aa.eq_1),?_⟩;refine hN _ _ ?_;clear hN N)|((try apply Or.inl);refine⟨_,aw.x (h2) (sd @aa.eq_1),?_⟩;refine hN _ _ ?_;clear hN N)))
  exact db (b:=0) (.inl rfl) (sd @Nat.zero_add) (by rw[uC,b1,b2];rfl)
theorem Jr {s:aM} {l:List ae}:uC s l=true↔DQ s/\kz s.aC l:=by simp[uC,xG,mE]
theorem Di {s:ax} {k:Nat} (h:k<s.aj.length):eW s k=true:=by
 unfold eW;exact jy (by omega)
theorem DU {s:ax} {l:List ae} (hA:kz s l) (p:ar):gH l p<0↔eO l p<0:=by
 constructor
 ·intro h
  rcases Int.lt_or_le (eO l p) 0 with h0|h0
  ·exact h0
  ·exfalso
   obtain⟨h1,_⟩:=kS h0
   have h2:=(eD (hA.2 _ (ko h1))).1
   rw[gH,if_pos h0]at h
   omega
 ·intro h
  rw[gH,if_neg (by omega)];omega
abbrev mP:MK:=⟨true,[.tI,.tI]⟩
theorem CW (p:ar):∀(ts:List ae) (i:Nat),gr mP (ai p) (ts.map ah) i=some (if qo ts p<ts.length then some (i+qo ts p)else none)
 |[],i=>by simp[gr,qo]
 |t::ts,i=>by
  have e:eY mP.ts (ai p) ((ah t).take mP.ks)=some (decide (p=t.bj)):=by
   have h:(p=t.bj)↔(p.eM=t.bj.eM/\p.eG=t.bj.eG):=⟨fun h=>by rw[h];exact⟨rfl,rfl⟩,fun h=>xg h.1 h.2⟩
   simp[MK.ks,ai,ah,eY,fC,h]
  have ih:=CW p ts (i+1)
  rw[List.map_cons]
  unfold gr
  rw[e]
  by_cases h:p=t.bj
  ·rw[decide_eq_true h]
   have h0:qo (t::ts) p=0:=by simp[qo,List.findIdx_cons,h]
   simp[h0]
  ·rw[decide_eq_false h]
   have h0:qo (t::ts) p=qo ts p+1:=by
    simp[qo,List.findIdx_cons,Ne.symm h]
   simp only[ih,h0,List.length_cons,Nat.add_lt_add_iff_right]
   congr 1
   split<;>simp;omega
theorem zi (ts:List ae) (p:ar):gm mP (.agg [.int .i64 p.eM,.int .i64 p.eG]) (ts.map ah)=some (if 0<=eO ts p then some (eO ts p).toNat else none):=by
 have h:=CW p ts 0
 unfold gm
 rw[if_pos ⟨rfl,rfl,rfl⟩]
 show gr mP (ai p) _ 0= _
 rw[h]
 unfold eO
 split<;>simp
theorem Ik {ts:List ae} {p:ar} (h:0<=eO ts p):gm mP (.agg [.int .i64 p.eM,.int .i64 p.eG]) (ts.map ah)=some (some (eO ts p).toNat):=by rw[zi,if_pos h]
theorem w8 {ts:List ae} {p:ar} (h:eO ts p<0):gm mP (.agg [.int .i64 p.eM,.int .i64 p.eG]) (ts.map ah)=some none:=by rw[zi,if_neg (by omega)]
structure Br (g:Rows) (n:Nat) (c T O:Id) (s:aM) (ts:List ae):Prop where
 row:∃b,g c=some ⟨b,6,[[.sl (s.aC.aB.map ck),.sl (s.aC.aj.map bP),.sl (s.cC.aj.map ah),.int .i64 s.aA,.map T mP,.map O mP]]⟩
 tl:∃b,g T=some ⟨b,mP.mz,ts.map ah⟩
 cv:c.br<n
 tv:T.br<n
 ov:O.br<n
theorem Br.ro {g:Rows} {n:Nat} {c T O:Id} {s:aM} {ts:List ae} (h:Br g n c T O s ts):Br (V.ro g) n c T O s ts:=by
 obtain⟨b,h1⟩:=h.row
 obtain⟨b2,h2⟩:=h.tl
 exact⟨⟨false,by simp[V.ro,h1]⟩,⟨false,by simp[V.ro,h2]⟩,h.cv,h.tv,h.ov⟩
theorem Br.frame {g g':Rows} {n n':Nat} {c T O:Id} {s:aM} {ts:List ae} (h:Br g n c T O s ts) (hn:n<=n') (hc:g' c=g c) (hT:g' T=g T):Br g' n' c T O s ts:=
 ⟨by rw[hc];exact h.row,by rw[hT];exact h.tl,Nat.lt_of_lt_of_le h.cv hn,Nat.lt_of_lt_of_le h.tv hn,Nat.lt_of_lt_of_le h.ov hn⟩
theorem V2 {σ:ay} {c T O:Id} {s:aM} {ts:List ae} (h:Br σ.get σ.next c T O s ts) (p:ar):Call Tryz.prog 281 [.ptr c 0 0,.agg (ai p)] σ (fun r _=>r=.int .i64 (gH ts p)):=by
 refine e6 eK rfl fun lf=>?_
 clear lf
 obtain⟨b,h1⟩:=h.row
 obtain⟨b2,h2⟩:=h.tl
 have v1:=dr h.cv
 have v2:=dr h.tv
 by_cases h0:0<=eO ts p
 ·have hm:=Ik h0
  have hg:=fU (kS h0).1
  have ho:(some (eO ts p).toNat).isSome=true:=rfl
  (try((repeat(revert hN;revert N;apply Pn.out));refine wk (tw @h1 (tw @h2 (tw @v1 (tw @v2 (tw @hm (tw @hg (tw @ho (tw @ai.eq_1 @ah.eq_1)))))))) ?_;(repeat(refine Pn.mk ?_;intro N hN))))
  exact fe (.inl rfl) (vs:=[.int .i64 (aY ts (eO ts p).toNat).bQ]) (sd @Nat.zero_add) (by rw[gH,if_pos h0];rfl)
 ·have hm:=w8 (ts:=ts) (p:=p) (by omega)
  have ho:(none:Option Nat).isSome=false:=rfl
  (try((repeat(revert hN;revert N;apply Pn.out));refine wk (tw @h1 (tw @h2 (tw @v1 (tw @v2 (tw @hm (tw @ho @ai.eq_1)))))) ?_;(repeat(refine Pn.mk ?_;intro N hN))))
  exact fe (.inl rfl) (vs:=[.int .i64 (-1)]) (sd @Nat.zero_add) (by rw[gH,if_neg h0];rfl)
theorem PJ {σ:ay} {c T O:Id} {s:aM} {ts:List ae} (h:Br σ.get σ.next c T O s ts) (p:ar):fK (Call Tryz.prog) 281 [.ptr c 0 0,.agg (ai p)] σ (fun r=>r=.int .i64 (gH ts p)):=by
 unfold fK PC
 exact Or.inl (aJ _ _ _ _ _ (fun r σ' hr=>⟨_,by rw[hr];exact aH _ _ _ _,rfl⟩) (V2 (σ:=⟨V.ro σ.get,σ.next⟩) h.ro p))
theorem Hd {σ:ay} (s:ax) (hS:iu s) (F:ar->Int) (hF:∀q,0<=F q->eW s (F q)=true) (p:ar) (hx:iB p.eM) (hy:iB p.eG) (t:Int) (ht:eW s t=true) (f:Nat) (first:List AV)
  (yg:∀σ':ay,σ.next<=σ'.next->(∀x:Id,x.br<σ.next->σ'.get x=σ.get x)->∀q,fK (Call Tryz.prog) f (first++[.agg (ai q)]) σ' (fun r=>r=.int .i64 (F q))):
  Call Tryz.prog 249 [.agg (aa s),.agg (ai p),.int .i64 t,.vh f first] σ (fun r _=>r=.int .i64 (qu s F p t)):=by
 refine e6 eK rfl fun lf=>?_
 clear lf
 (try((repeat(revert hN;revert N;apply Pn.out));refine wk (tw @ai.eq_1 @aa.eq_1) ?_;(repeat(refine Pn.mk ?_;intro N hN))))
 refine aX (fun n env st=>∃k:Nat,n=(4)-k/\k<=(4)/\env 12=.int .i64 (k:Int)/\env 9=.int .i64 (dF s F p t k)/\st.get ⟨249000000,σ.next⟩=some ⟨true,2,[aa s]⟩/\st.get ⟨249000001,σ.next⟩=some ⟨true,2,[ai p]⟩/\(σ.next<st.next/\∀x:Id,x.br<σ.next->st.get x=σ.get x)) (4) ⟨0,by omega,by omega,sl (tw @ai.eq_1 @aa.eq_1),sl (tw @ai.eq_1 @aa.eq_1),sl (tw @ai.eq_1 @aa.eq_1),sl (tw @ai.eq_1 @aa.eq_1),⟨by(try dsimp only);omega,fun x hx=>by
  have:=dr hx
  simp only[go_sem, ↓reduceIte,Nat.reduceEqDiff,Nat.reduceAdd,Nat.reduceSub,Nat.reduceLeDiff,reduceCtorEq,this]⟩⟩ ?_
 rintro n_a env_a st_a ⟨k,rfl,ale,a12,a9,ag0,ag1,kC⟩ dC
 have a2:=dC 2 (by kernel_rfl);have a3:=dC 3 (by kernel_rfl);have a4:=dC 4 (by kernel_rfl);have a5:=dC 5 (by kernel_rfl)
 simp only[go_sem, ↓reduceIte,Nat.reduceEqDiff,Nat.reduceAdd,Nat.reduceSub,Nat.reduceLeDiff,reduceCtorEq,ai,aa]at a2 a3 a4 a5
 clear dC
 obtain⟨an,dC⟩:=kC
 by_cases hk:(k:Int)<4
 ·have cD:∀{e:Env} {gg:Rows} {nx:Nat},(e 12=.int .i64 (IntKind.i64.wrap ((k:Int)+1)))->(e 9=.int .i64 (dF s F p t (k+1)))->(gg ⟨249000000,σ.next⟩=some ⟨true,2,[aa s]⟩)->(gg ⟨249000001,σ.next⟩=some ⟨true,2,[ai p]⟩)->(σ.next<nx/\∀x:Id,x.br<σ.next->gg x=σ.get x)->∃m0,m0<(4)-k/\∃k:Nat,m0=(4)-k/\k<=(4)/\e 12=.int .i64 (k:Int)/\e 9=.int .i64 (dF s F p t k)/\gg ⟨249000000,σ.next⟩=some ⟨true,2,[aa s]⟩/\gg ⟨249000001,σ.next⟩=some ⟨true,2,[ai p]⟩/\(σ.next<nx/\∀x:Id,x.br<σ.next->gg x=σ.get x):=fun x1 x2 x3 x4 x5=>⟨_,by omega,k+1,rfl,by omega,(by rw[x1,az (by omega)]),x2,x3,x4,x5⟩
  have eu:=FC p k (jy (by omega)) hx hy
  have fI:=kf hS F p t k
  (repeat(first|((repeat(revert hN;revert N;apply Pn.out));refine wk (tw @a12 (tw @a9 (tw @ag0 (tw @ag1 (tw @a2 (tw @a3 (tw @a4 (tw @a5 (tw @hk @ai.eq_1))))))))) ?_;(repeat(refine Pn.mk ?_;intro N hN)))|((try apply Or.inl);refine⟨_,aw.x (eu) (sd (tw @a12 (tw @a9 (tw @ag0 (tw @ag1 (tw @a2 (tw @a3 (tw @a4 (tw @a5 (tw @hk @ai.eq_1)))))))))),?_⟩;refine hN _ _ ?_;clear hN N)))
  refine .inl ⟨_,yg _ (by(try dsimp only);omega) (fun x hx=>sd (dC x hx)) (bB p k),?_⟩
  refine hN _ _ ?_
  clear hN N
  by_cases h0:0<=F (bB p k)
  ·have yV:=JB s hS.form t k (F (bB p k)) ht (hF _ h0) (jy (by omega))
   have fJ:=BG hS t k (F (bB p k))
   have hw:IntKind.i64.wrap (dF s F p t k+ib s t k (F (bB p k)))=dF s F p t (k+1):=by
    rw[bK (by omega),dF,if_pos h0]
   rw[aa]at yV
   (repeat(first|((repeat(revert hN;revert N;apply Pn.out));refine wk (tw @a12 (tw @a9 (tw @ag0 (tw @ag1 (tw @a2 (tw @a3 (tw @a4 (tw @a5 (tw @h0 @aa.eq_1))))))))) ?_;(repeat(refine Pn.mk ?_;intro N hN)))|((try apply Or.inl);refine⟨_,aw.x (yV) (sd (tw @a12 (tw @a9 (tw @ag0 (tw @ag1 (tw @a2 (tw @a3 (tw @a4 (tw @a5 (tw @h0 @aa.eq_1)))))))))),?_⟩;refine hN _ _ ?_;clear hN N)))
   refine cD ?_ ?_ ?_ ?_ (⟨by(try dsimp only);omega,fun x hx=>by
    have h1:=dC x hx
    simp only[go_sem, ↓reduceIte,Nat.reduceEqDiff,Nat.reduceAdd,Nat.reduceSub,Nat.reduceLeDiff,reduceCtorEq,h1]⟩)
   all_goals simp only[go_sem, ↓reduceIte,Nat.reduceEqDiff,Nat.reduceAdd,Nat.reduceSub,Nat.reduceLeDiff,reduceCtorEq,a12,a9,ag0,ag1,a2,a3,a4,a5,hw,ai,aa]
  ·have hw:dF s F p t (k+1)=dF s F p t k:=by rw[dF,if_neg h0,Int.add_zero]
   (try((repeat(revert hN;revert N;apply Pn.out));refine wk (tw @a12 (tw @a9 (tw @ag0 (tw @ag1 (tw @a2 (tw @a3 (tw @a4 (tw @a5 @h0)))))))) ?_;(repeat(refine Pn.mk ?_;intro N hN))))
   refine cD ?_ ?_ ?_ ?_ (⟨by(try dsimp only);omega,fun x hx=>by
    have h1:=dC x hx
    simp only[go_sem, ↓reduceIte,Nat.reduceEqDiff,Nat.reduceAdd,Nat.reduceSub,Nat.reduceLeDiff,reduceCtorEq,h1]⟩)
   all_goals simp only[go_sem, ↓reduceIte,Nat.reduceEqDiff,Nat.reduceAdd,Nat.reduceSub,Nat.reduceLeDiff,reduceCtorEq,a12,a9,ag0,ag1,a2,a3,a4,a5,hw,ai,aa]
 ·(try((repeat(revert hN;revert N;apply Pn.out));refine wk (tw @a12 (tw @a9 (tw @ag0 (tw @ag1 (tw @a2 (tw @a3 (tw @a4 (tw @a5 @hk)))))))) ?_;(repeat(refine Pn.mk ?_;intro N hN))))
  exact fe (.inl rfl) (vs:=[.int .i64 (dF s F p t k)]) (sd (tw @a12 (tw @a9 (tw @ag0 (tw @ag1 (tw @a2 (tw @a3 (tw @a4 @a5)))))))) (by rw[show k=4 by omega];rfl)
noncomputable def eF (s:aM) (ts:List ae) (p:ar) (t:Int):Bool:=AK p&&decide (gH ts p<0)&&decide (s.aA<=qu s.aC (gH ts) p t)
theorem He {σ:ay} {c T O:Id} {s:aM} {ts:List ae} (h:Br σ.get σ.next c T O s ts) (hS:iu s.aC) (hF:∀q,0<=gH ts q->eW s.aC (gH ts q)=true) (p:ar) (hx:iB p.eM) (hy:iB p.eG) (t:Int) (ht:eW s.aC t=true):
  fK (Call Tryz.prog) 249 [.agg (aa s.aC),.agg (ai p),.int .i64 t,.vh 281 [.ptr c 0 0]] σ (fun r=>r=.int .i64 (qu s.aC (gH ts) p t)):=by
 unfold fK PC
 exact Or.inl (aJ _ _ _ _ _ (fun r σ' hr=>⟨_,by rw[hr];exact aH _ _ _ _,rfl⟩) (Hd (σ:=⟨V.ro σ.get,σ.next⟩) s.aC hS (gH ts) hF p hx hy t ht _ _
  (fun σ' hn hk q=>PJ (h.ro.frame hn (hk _ h.cv) (hk _ h.tv)) q)))
theorem P7 {σ:ay} {c T O:Id} {s:aM} {ts:List ae} (h:Br σ.get σ.next c T O s ts) (hS:iu s.aC) (hF:∀q,0<=gH ts q->eW s.aC (gH ts q)=true) (p:ar) (t:Int) (ht:eW s.aC t=true):
  Call Tryz.prog 229 [.ptr c 0 0,.agg (ai p),.int .i64 t] σ (fun r _=>r=.bool (eF s ts p t)):=by
 refine e6 eK rfl fun lf=>?_
 clear lf
 obtain⟨b,h1⟩:=h.row
 have v1:=dr h.cv
 have hw:=rV p
 have v2:=dr h.tv
 by_cases h0:AK p=true
 ·rw[h0]at hw
  obtain⟨hx,hy⟩:=tG h0
  by_cases h2:gH ts p<0
  ·(repeat(first|((repeat(revert hN;revert N;apply Pn.out));refine wk (tw @h1 (tw @v1 (tw @h2 @ai.eq_1))) ?_;(repeat(refine Pn.mk ?_;intro N hN)))|((try apply Or.inl);refine⟨_,aw.x (hw) (sd (tw @h1 (tw @v1 (tw @h2 @ai.eq_1)))),?_⟩;refine hN _ _ ?_;clear hN N)))
   refine⟨_,PJ (h.frame (by(try dsimp only);omega) (sd @v1) (sd @v2)) p,?_⟩
   refine hN _ _ ?_
   clear hN N
   (repeat(first|((repeat(revert hN;revert N;apply Pn.out));refine wk (tw @h1 (tw @v1 (tw @h2 (tw @ai.eq_1 @aa.eq_1)))) ?_;(repeat(refine Pn.mk ?_;intro N hN)))|((try apply Or.inl);refine⟨_,aw.x (hw) (sd (tw @h1 (tw @v1 (tw @h2 (tw @ai.eq_1 @aa.eq_1))))),?_⟩;refine hN _ _ ?_;clear hN N)))
   refine⟨_,He (h.frame (by(try dsimp only);omega) (sd @v1) (sd @v2)) hS hF p hx hy t ht,?_⟩
   refine hN _ _ ?_
   clear hN N
   have hb:=kf hS (gH ts) p t 4
   (repeat(first|((repeat(revert hN;revert N;apply Pn.out));refine wk (tw @h1 (tw @v1 (tw @h2 (tw @ai.eq_1 @aa.eq_1)))) ?_;(repeat(refine Pn.mk ?_;intro N hN)))|((try apply Or.inl);refine⟨_,aw.x (hw) (sd (tw @h1 (tw @v1 (tw @h2 (tw @ai.eq_1 @aa.eq_1))))),?_⟩;refine hN _ _ ?_;clear hN N)))
   exact fe (.inl rfl) (vs:=[.bool (decide (s.aA<=qu s.aC (gH ts) p t))]) (sd @Nat.zero_add) (by rw[show eF s ts p t=decide (s.aA<=qu s.aC (gH ts) p t) by simp[eF,h0,h2]];rfl)
  ·(repeat(first|((repeat(revert hN;revert N;apply Pn.out));refine wk (tw @h1 (tw @v1 (tw @h2 @ai.eq_1))) ?_;(repeat(refine Pn.mk ?_;intro N hN)))|((try apply Or.inl);refine⟨_,aw.x (hw) (sd (tw @h1 (tw @v1 (tw @h2 @ai.eq_1)))),?_⟩;refine hN _ _ ?_;clear hN N)))
   refine⟨_,PJ (h.frame (by(try dsimp only);omega) (sd @v1) (sd @v2)) p,?_⟩
   refine hN _ _ ?_
   clear hN N
   (repeat(first|((repeat(revert hN;revert N;apply Pn.out));refine wk (tw @h1 (tw @v1 (tw @h2 @ai.eq_1))) ?_;(repeat(refine Pn.mk ?_;intro N hN)))|((try apply Or.inl);refine⟨_,aw.x (hw) (sd (tw @h1 (tw @v1 (tw @h2 @ai.eq_1)))),?_⟩;refine hN _ _ ?_;clear hN N)))
   exact fe (.inl rfl) (vs:=[.bool false]) (sd @Nat.zero_add) (by rw[show eF s ts p t=false by simp[eF,h2]];rfl)
 ·rw[Bool.not_eq_true]at h0
  rw[h0]at hw
  (repeat(first|((repeat(revert hN;revert N;apply Pn.out));refine wk (tw @h1 (tw @v1 @ai.eq_1)) ?_;(repeat(refine Pn.mk ?_;intro N hN)))|((try apply Or.inl);refine⟨_,aw.x (hw) (sd (tw @h1 (tw @v1 @ai.eq_1))),?_⟩;refine hN _ _ ?_;clear hN N)))
  exact fe (.inl rfl) (vs:=[.bool false]) (sd @Nat.zero_add) (by rw[show eF s ts p t=false by simp[eF,h0]];rfl)
def OW (rows:List (List AV)):Prop:=∀r∈rows,∃(x y:Int) (v:AV),r=[.int .i64 x,.int .i64 y,v]
def OI (σ:ay) (O:Id) (g:Rows) (n:Nat):Prop:=σ.next<=n/\(∀x:Id,x.br<σ.next->x≠O->g x=σ.get x)/\∃rows,g O=some ⟨true,mP.mz,rows⟩/\OW rows
theorem P8 {σ:ay} {c T O:Id} {s:aM} {ts:List ae} (h:Br σ.get σ.next c T O s ts) (hS:iu s.aC) (hF:∀q,0<=gH ts q->eW s.aC (gH ts q)=true) (p:ar) (t:Int) (ht:eW s.aC t=true):
  fK (Call Tryz.prog) 229 [.ptr c 0 0,.agg (ai p),.int .i64 t] σ (fun r=>r=.bool (eF s ts p t)):=by
 unfold fK PC
 exact Or.inl (aJ _ _ _ _ _ (fun r σ' hr=>⟨_,by rw[hr];exact bf _ _ _,rfl⟩) (P7 (σ:=⟨V.ro σ.get,σ.next⟩) h.ro hS hF p t ht))
structure oG (g:Rows) (n:Nat) (c T O:Id) (s:aM) (ts:List ae):Prop where
 row:g c=some ⟨true,6,[[.sl (s.aC.aB.map ck),.sl (s.aC.aj.map bP),.sl (s.cC.aj.map ah),.int .i64 s.aA,.map T mP,.map O mP]]⟩
 tl:g T=some ⟨true,mP.mz,ts.map ah⟩
 op:∃rows,g O=some ⟨true,mP.mz,rows⟩/\OW rows
 cv:c.br<n
 tv:T.br<n
 ov:O.br<n
 cT:c≠T
 cO:c≠O
 TO:T≠O
theorem oG.R4 {g:Rows} {n:Nat} {c T O:Id} {s:aM} {ts:List ae} (h:oG g n c T O s ts):Br g n c T O s ts:=⟨⟨_,h.row⟩,⟨_,h.tl⟩,h.cv,h.tv,h.ov⟩
theorem oG.look {σ:ay} {g:Rows} {n:Nat} {c T O:Id} {s:aM} {ts:List ae} (h:oG σ.get σ.next c T O s ts) (k:OI σ O g n):oG g n c T O s ts:=
 ⟨(k.2.1 _ h.cv h.cO).trans h.row,(k.2.1 _ h.tv h.TO).trans h.tl,k.2.2,Nat.lt_of_lt_of_le h.cv k.1,Nat.lt_of_lt_of_le h.tv k.1,Nat.lt_of_lt_of_le h.ov k.1,h.cT,h.cO,h.TO⟩
theorem oG.frame {g g':Rows} {n n':Nat} {c T O:Id} {s:aM} {ts:List ae} (h:oG g n c T O s ts) (hn:n<=n') (hf:∀x:Id,x.br<n->g' x=g x):oG g' n' c T O s ts:=
 ⟨(hf _ h.cv).trans h.row,(hf _ h.tv).trans h.tl,by rw[hf _ h.ov];exact h.op,Nat.lt_of_lt_of_le h.cv hn,Nat.lt_of_lt_of_le h.tv hn,Nat.lt_of_lt_of_le h.ov hn,h.cT,h.cO,h.TO⟩
theorem Cw {l:List ae} {p:ar}:eO l p<0↔∀t∈l,t.bj≠p:=by
 unfold eO qo
 by_cases h:(l.findIdx fun c=>decide (c.bj=p))<l.length
 ·rw[if_pos h]
  obtain⟨t,ht,h2⟩:=List.findIdx_lt_length.1 h
  exact⟨fun h=>by omega,fun h=>absurd (by simpa using h2) (h t ht)⟩
 ·rw[if_neg h]
  exact⟨fun _ t ht e=>h (List.findIdx_lt_length.2 ⟨t,ht,by simp[e]⟩),fun _=>by omega⟩
theorem LD {l:List ae} (h:qJ l) {k:Nat} (hk:k<l.length):eO (l.take k) (aY l k).bj<0:=by
 rw[Cw]
 intro t ht e
 obtain⟨j,hj,rfl⟩:=List.getElem_of_mem ht
 have Mb:j<k:=by rw[List.length_take]at hj;omega
 have:=h j k Mb hk
 rw[List.getElem_take]at e
 have e2:aY l j=l[j]'(by omega):=by unfold aY;rw[List.getD_eq_getElem?_getD,List.getElem?_eq_getElem (by omega)];rfl
 rw[e2,e]at this
 simp[iW]at this
theorem Ou {l:List ae} {k:Nat} (hk:k<l.length):(l.take k).map ah++[[.int .i64 (aY l k).bj.eM,.int .i64 (aY l k).bj.eG,.int .i64 (aY l k).bQ]]=(l.take (k+1)).map ah:=by
 have e2:aY l k=l[k]:=by unfold aY;rw[List.getD_eq_getElem?_getD,List.getElem?_eq_getElem hk];rfl
 rw[List.take_succ_eq_append_getElem hk,List.map_append,e2]
 rfl
theorem iu.ON {s:ax} {l:List ae} (hA:kz s l):∀q,0<=gH l q->eW s (gH l q)=true:=fun _ h=>Jt hA h
def jK (ps:List ar) (i:Nat):ar:=ps.getD i ⟨0,0⟩
theorem jZ {ps:List ar} {i:Nat} (h:i<ps.length):jK ps i=ps[i]:=by simp[jK,List.getD_eq_getElem?_getD,h]
theorem AL {ps:List ar} {i:Nat} (h:i<ps.length):jK ps i∈ps:=by rw[jZ h];exact List.getElem_mem h
theorem ur {ps:List ar} {i:Nat} (h:i<ps.length):(ps.map ai)[i]? =some (ai (jK ps i)):=by simp[jK,List.getD_eq_getElem?_getD,h]
def nk (ps:List ar):Prop:=ps.Pairwise fun a b=>iW a b=true
theorem nk.at_ {ps:List ar} (h:nk ps) {i j:Nat} (EM:i<j) (hj:j<ps.length):iW (jK ps i) (jK ps j)=true:=by
 rw[jZ hj,jZ (by omega)]
 exact List.pairwise_iff_getElem.1 h i j (by omega) hj EM
def jX (ps:List ar) (p:ar):Nat:=ps.findIdx fun q=> !iW q p
theorem Az (ps:List ar) (p:ar):jX ps p<=ps.length:=List.findIdx_le_length
theorem GH {ps:List ar} {p:ar} {x:Nat} (h:x<jX ps p):iW (jK ps x) p=true:=by
 have hx:x<ps.length:=Nat.lt_of_lt_of_le h (Az ps p)
 have:=List.not_of_lt_findIdx h
 rw[jZ hx]
 simpa using this
theorem Ay {ps:List ar} {p:ar} (hR:nk ps) {x:Nat} (h:jX ps p<=x) (hx:x<ps.length):iW (jK ps x) p=false:=by
 have h0:jX ps p<ps.length:=by omega
 have h1:iW (jK ps (jX ps p)) p=false:=by
  have:=List.findIdx_getElem (p:=fun q=> !iW q p) (xs:=ps) (w:=h0)
  rw[jZ h0]
  have e:(!iW ps[jX ps p] p)=true:=this
  simpa using e
 by_cases he:jX ps p=x
 ·rw[<-he];exact h1
 ·have h2:=hR.at_ (show jX ps p<x by omega) hx
  cases hc:iW (jK ps x) p
  ·rfl
  ·rw[iD h2 hc]at h1;cases h1
def qp (ps:List ar) (p:ar):List ar:=if jX ps p<ps.length/\jK ps (jX ps p)=p then ps else ps.take (jX ps p)++p::ps.drop (jX ps p)
theorem Le (ps:List ar) (p:ar):(qp ps p).length<=ps.length+1:=by
 unfold qp
 have:=Az ps p
 split
 ·omega
 ·simp;omega
theorem KN (ps:List ar) (p x:ar):x∈qp ps p↔x=p∨x∈ps:=by
 unfold qp
 split
 ·rename_i h
  refine⟨.inr,fun hx=>hx.elim (fun e=>?_) id⟩
  rw[e,<-h.2];exact AL h.1
 ·have:x∈ps↔x∈ps.take (jX ps p)++ps.drop (jX ps p):=by rw[List.take_append_drop]
  rw[this]
  simp only[List.mem_append,List.mem_cons]
  constructor
  ·rintro(h|h|h)
   ·exact .inr (.inl h)
   ·exact .inl h
   ·exact .inr (.inr h)
  ·rintro(h|h|h)
   ·exact .inr (.inl h)
   ·exact .inl h
   ·exact .inr (.inr h)
theorem Lf {ps:List ar} (hR:nk ps) (p:ar):nk (qp ps p):=by
 unfold qp
 split
 ·exact hR
 ·rename_i kH
  have hd:∀x∈ps.drop (jX ps p),iW p x=true:=fun x hx=>by
   obtain⟨j,hj,rfl⟩:=List.getElem_of_mem hx
   rw[List.length_drop]at hj
   rw[List.getElem_drop]
   have gT:jX ps p+j<ps.length:=by omega
   have h1:=Ay (p:=p) hR (Nat.le_add_right _ j) gT
   rw[<-jZ gT]
   refine vg h1 fun he=>?_
   by_cases h0:j=0
   ·subst h0
    exact kH ⟨by omega,by simpa using he⟩
   ·have:=hR.at_ (show jX ps p<jX ps p+j by omega) gT
    rw[he]at this
    have h2:=Ay (p:=p) hR (Nat.le_refl _) (show jX ps p<ps.length by omega)
    rw[this]at h2;cases h2
  have ht:∀x∈ps.take (jX ps p),iW x p=true:=fun x hx=>by
   obtain⟨j,hj,rfl⟩:=List.getElem_of_mem hx
   rw[List.length_take]at hj
   rw[List.getElem_take]
   have:=GH (ps:=ps) (p:=p) (x:=j) (by omega)
   rwa [jZ (by omega)]at this
  refine List.pairwise_append.2 ⟨hR.sublist (List.take_sublist _ _),List.pairwise_cons.2 ⟨hd,hR.sublist (List.drop_sublist _ _)⟩,fun x hx y hy=>?_⟩
  rcases List.mem_cons.1 hy with rfl|hy
  ·exact ht x hx
  ·exact iD (ht x hx) (hd y hy)
theorem GN:∀{ps qs:List ar},nk ps->nk qs->(∀x,x∈ps↔x∈qs)->ps=qs
 |[],[],_,_,_=>rfl
 |[],q::qs,_,_,h=>absurd ((h q).2 (by simp)) (by simp)
 |p::ps,[],_,_,h=>absurd ((h p).1 (by simp)) (by simp)
 |p::ps,q::qs,hp,hq,h=>by
  obtain⟨p1,p2⟩:=List.pairwise_cons.1 hp
  obtain⟨q1,q2⟩:=List.pairwise_cons.1 hq
  have e:p=q:=by
   rcases List.mem_cons.1 ((h p).1 (by simp))with e|e
   ·exact e
   ·rcases List.mem_cons.1 ((h q).2 (by simp))with e'|e'
    ·exact e'.symm
    ·have:=CK (q1 p e)
     rw[p1 q e']at this;cases this
  subst e
  congr 1
  refine GN p2 q2 fun x=>⟨fun hx=>?_,fun hx=>?_⟩
  ·rcases List.mem_cons.1 ((h x).1 (List.mem_cons_of_mem _ hx))with e|e
   ·subst e;have:=p1 x hx;rw[nB]at this;cases this
   ·exact e
  ·rcases List.mem_cons.1 ((h x).2 (List.mem_cons_of_mem _ hx))with e|e
   ·subst e;have:=q1 x hx;rw[nB]at this;cases this
   ·exact e
def SE (σ:ay) (kp:Id->Prop) (ps:List ar) (r:AV) (σ':ay):Prop:=
 ∃o:Id,r=.own o 0 ps.length/\σ'.get o=some ⟨true,2,ps.map ai⟩/\σ.next<=σ'.next/\o.br<σ'.next/\(σ.next<=o.br∨¬kp o)/\∀x:Id,x.br<σ.next->kp x->σ'.get x=σ.get x
theorem Po {ps:List ar} {i:Nat} {q:ar}:(ps.map ai).set i (ai q)=(ps.set i q).map ai:=List.map_set.symm
def zB (ps:List ar) (p:ar) (i:Nat):List ar:=(ps++[p]).take (i+1)++ps.drop i
theorem qb (ps:List ar) (p:ar) {i:Nat} (h:i<=ps.length):(zB ps p i).length=ps.length+1:=by simp[zB];omega
theorem Ru {ps:List ar} {p:ar} {i j:Nat} (hi:i<=ps.length) (hj:j<i):jK (zB ps p i) j=jK ps j:=by
 unfold jK zB
 rw[List.getD_eq_getElem?_getD,List.getD_eq_getElem?_getD,List.getElem?_append_left (by simp;omega),List.getElem?_take,if_pos (by omega),List.getElem?_append_left (by omega)]
theorem IV (ps:List ar) (p:ar):zB ps p ps.length=ps++[p]:=by
 unfold zB
 rw[List.drop_length,List.append_nil,List.take_of_length_le (by simp)]
theorem LN {ps:List ar} {p:ar} {i:Nat} (hi:i<ps.length):(zB ps p (i+1)).set (i+1) (jK ps i)=zB ps p i:=by
 refine List.ext_getElem? fun j=>?_
 rw[List.getElem?_set,qb ps p (by omega)]
 unfold zB
 by_cases hj:i+1=j
 ·subst hj
  rw[if_pos rfl,if_pos (by omega),List.getElem?_append_right (by simp;omega)]
  simp only[List.length_take,List.length_append,List.length_cons,List.length_nil]
  rw[show i+1-min (i+1) (ps.length+(0+1))=0 by omega,List.getElem?_drop,Nat.add_zero,List.getElem?_eq_getElem hi,jZ hi]
 ·rw[if_neg hj]
  by_cases eo:j<i+1
  ·rw[List.getElem?_append_left (by simp;omega),List.getElem?_append_left (by simp;omega),List.getElem?_take,List.getElem?_take,if_pos (by omega),if_pos eo]
  ·rw[List.getElem?_append_right (by simp;omega),List.getElem?_append_right (by simp;omega)]
   simp only[List.length_take,List.length_append,List.length_cons,List.length_nil,List.getElem?_drop]
   congr 1
   omega
theorem Ox {ps:List ar} {p:ar} {i:Nat} (hi:i<=ps.length):(zB ps p i).set i p=ps.take i++p::ps.drop i:=by
 refine List.ext_getElem? fun j=>?_
 rw[List.getElem?_set,qb ps p hi]
 unfold zB
 by_cases hj:i=j
 ·subst hj
  rw[if_pos rfl,if_pos (by omega),List.getElem?_append_right (by simp;omega)]
  simp[Nat.min_eq_left hi]
 ·rw[if_neg hj]
  by_cases eo:j<i
  ·rw[List.getElem?_append_left (by simp;omega),List.getElem?_append_left (by simp;omega),List.getElem?_take,List.getElem?_take,if_pos (by omega),if_pos eo,List.getElem?_append_left (by omega)]
  ·rw[List.getElem?_append_right (by simp;omega),List.getElem?_append_right (by simp;omega)]
   simp only[List.length_take,List.length_append,List.length_cons,List.length_nil]
   rw[show j-min i ps.length=(j-i-1)+1 by omega,List.getElem?_cons_succ]
   congr 1
   omega
theorem Oz {X:fX} {Q:Ex->Env->ay->Prop} {N:Env->ay->Prop} {c:VC} {env:Env} {σ:ay} {id:Nat} (I:Env->ay->Prop) (h2:∀e s,I e s->N e s) (h1:∀N':Env->ay->Prop,(∀e s,I e s->N' e s)->ek X c (bm id (dq N' Q)) env σ):ek X c (bm id (dq N Q)) env σ:=h1 N h2
theorem yq (ps:List ar) (hR:nk ps) (hlen:ps.length<=1048576) (p:ar) (o:Id) (σ:ay) (ho:σ.get o=some ⟨true,2,ps.map ai⟩) (pO:o.br<σ.next):
  Call Tryz.prog 223 [.own o 0 ps.length,.agg (ai p)] σ (SE σ (fun x=>(x=o)=False) (qp ps p)):=by
 refine e6 eK rfl fun lf=>?_
 clear lf
 have rz:=dr pO
 have Si:=Az ps p
 have wG:(ps.map ai).length=ps.length:=by simp
 (try((repeat(revert hN;revert N;apply Pn.out));refine wk (tw @ai.eq_1 @rz) ?_;(repeat(refine Pn.mk ?_;intro N hN))))
 refine Oz (fun e s=>e 5=.int .i64 (jX ps p:Int)/\e 0=.own o 0 ps.length/\e 3=.ptr ⟨223000000,σ.next⟩ 0 0/\s.get ⟨223000000,σ.next⟩=some ⟨true,2,[ai p]⟩/\s.get o=some ⟨true,2,ps.map ai⟩/\σ.next<s.next/\∀x:Id,x.br<σ.next->s.get x=σ.get x) ?_ ?_
 ·rintro e s ⟨f5,f0,f3,fg0,fg1,fn,ffr⟩
  refine hN _ _ ?_
  clear hN N
  have Gv:=dr (i:=o) (n:=s.next) (by omega)
  obtain⟨a,ha⟩:∃a,jX ps p=a:=⟨_,rfl⟩
  rw[ha]at f5 Si
  by_cases hex:a<ps.length/\jK ps a=p
  ·have eo:(a:Int)<(ps.length:Int):=by omega
   have hg:=ur hex.1
   have hx:decide ((jK ps a).eM=p.eM)=true:=decide_eq_true (by rw[hex.2])
   have hy:decide ((jK ps a).eG=p.eG)=true:=decide_eq_true (by rw[hex.2])
   (try((repeat(revert hN;revert N;apply Pn.out));refine wk (tw @f5 (tw @f0 (tw @f3 (tw @fg0 (tw @fg1 (tw @eo (tw @hg (tw @hx (tw @hy (tw @wG @ai.eq_1)))))))))) ?_;(repeat(refine Pn.mk ?_;intro N hN))))
   have hp:qp ps p=ps:=by unfold qp;rw[ha,if_pos hex]
   rw[hp]
   exact fe (.inl rfl) (vs:=[.own o 0 ps.length]) (sd @Nat.zero_add) ⟨o,rfl,sd @fg1,by(try dsimp only);omega,by(try dsimp only);omega,.inr (by simp),fun x hx _=>sd (ffr x hx)⟩
  refine Ds (fun N hN=>?_)
  refine FR (fun e s=>e 5=.int .i64 (a:Int)/\e 0=.own o 0 ps.length/\e 3=.ptr ⟨223000000,σ.next⟩ 0 0/\s.get ⟨223000000,σ.next⟩=some ⟨true,2,[ai p]⟩/\s.get o=some ⟨true,2,ps.map ai⟩/\σ.next<s.next/\∀x:Id,x.br<σ.next->s.get x=σ.get x) ?_ ?_
  ·clear f5 f0 f3 fg0 fg1 fn ffr Gv
   rintro e s ⟨f5,f0,f3,fg0,fg1,fn,ffr⟩
   refine hN _ _ ?_
   clear hN N
   have Gv:=dr (i:=o) (n:=s.next) (by omega)
   have HQ:=dr (i:=⟨223000000,σ.next⟩) (n:=s.next) fn
   have e1:ps.length+1<=16777216:=by omega
   have qn:ps.map ai++[[.int .i64 p.eM,.int .i64 p.eG]]=(zB ps p ps.length).map ai:=by rw[IV];simp[ai]
   have l7:IntKind.i64.wrap ((ps.length:Int)+1-1)=(ps.length:Int):=by rw[bK (by omega)];omega
   have hp:qp ps p=ps.take a++p::ps.drop a:=by unfold qp;rw[ha,if_neg hex]
   have QL:((⟨223000000,σ.next⟩:Id)=o)=False:=by
    refine eq_false fun h=>?_
    rw[<-h]at pO;exact Nat.lt_irrefl _ pO
   (try((repeat(revert hN;revert N;apply Pn.out));refine wk (tw @f5 (tw @f0 (tw @f3 (tw @fg0 (tw @fg1 (tw @Gv (tw @HQ (tw @QL (tw @wG (tw @e1 (tw @qn (tw @l7 (tw @Int.natCast_add (tw @Int.cast_ofNat_Int @ai.eq_1)))))))))))))) ?_;(repeat(refine Pn.mk ?_;intro N hN))))
   refine aX (fun m env st=>∃i:Nat,m=i/\a<=i/\i<=ps.length/\env 6=.int .i64 (i:Int)/\st.get ⟨223006003,s.next⟩=some ⟨true,2,(zB ps p i).map ai⟩/\st.get ⟨223000000,σ.next⟩=some ⟨true,2,[ai p]⟩/\s.next<st.next/\∀x:Id,x.br<σ.next->(x=o)=False->st.get x=σ.get x) ps.length ⟨ps.length,rfl,Si,Nat.le_refl _,sd (tw @l7 (tw @Int.natCast_add @Int.cast_ofNat_Int)),sd @qn,sd (tw @fg0 (tw @HQ (tw @QL @ai.eq_1))),by(try dsimp only);omega,fun x hx Bo=>by
    have h1:=dr (i:=x) (n:=s.next) (by omega)
    have h2:=ffr x hx
    simp only[go_sem, ↓reduceIte,Nat.reduceEqDiff,Nat.reduceAdd,Nat.reduceSub,Nat.reduceLeDiff,reduceCtorEq,h1,h2,Bo]⟩ ?_
   rintro m env_b st_b ⟨i,hmi,bl,ble,b6,bg0,bg1,bn,eX⟩ bkp
   have b0:=bkp 0 (by kernel_rfl)
   have b3:=bkp 3 (by kernel_rfl)
   have b5:=bkp 5 (by kernel_rfl)
   simp only[go_sem, ↓reduceIte,Nat.reduceEqDiff,Nat.reduceAdd,Nat.reduceSub,Nat.reduceLeDiff,reduceCtorEq,f0,f3,f5,ai]at b0 b3 b5
   clear bkp
   have Nq:((zB ps p i).map ai).length=ps.length+1:=by rw[List.length_map,qb ps p ble]
   by_cases L8:(a:Int)<(i:Int)
   ·obtain⟨k,rfl⟩:∃k,i=k+1:=⟨i-1,by omega⟩
    have fm:k<ps.length:=by omega
    have qy:IntKind.i64.wrap (((k+1:Nat):Int)-1)=(k:Int):=by rw[bK (by omega)];omega
    have hq:((zB ps p (k+1)).map ai)[k]? =some (ai (jK ps k)):=by rw[ur (by rw[qb ps p ble];omega),Ru ble (Nat.lt_succ_self _)]
    have xT:∃z,((zB ps p (k+1)).map ai)[k+1]? =some (ai z):=⟨_,ur (by rw[qb ps p ble];omega)⟩
    obtain⟨z,xT⟩:=xT
    have eC:((zB ps p (k+1)).map ai).set (k+1) (ai (jK ps k))=(zB ps p k).map ai:=by rw[Po,LN fm]
    have c1:(k:Int)<(ps.length:Int)+1:=by omega
    have c2:(k:Int)+1<(ps.length:Int)+1:=by omega
    have c3:(0:Int)<=(k:Int)+1:=by omega
    have c4:((k:Int)+1).toNat=k+1:=by omega
    have c5:(a:Int)<(k:Int)+1:=by omega
    have c6:IntKind.i64.wrap ((k:Int)+1-1)=(k:Int):=by rw[bK (by omega)];omega
    rw[ai]at eC hq xT
    (try((repeat(revert hN;revert N;apply Pn.out));refine wk (tw @b0 (tw @b3 (tw @b5 (tw @b6 (tw @bg0 (tw @bg1 (tw @L8 (tw @qy (tw @hq (tw @xT (tw @eC (tw @Nq (tw @c1 (tw @c2 (tw @c3 (tw @c4 (tw @c5 (tw @c6 (tw @Int.natCast_add @Int.cast_ofNat_Int))))))))))))))))))) ?_;(repeat(refine Pn.mk ?_;intro N hN))))
    exact⟨k,by omega,k,rfl,by omega,by omega,sd @c6,sd @eC,sd (tw @bg1 @QL),by(try dsimp only);omega,fun x hx Bo=>by
     have h1:=dr (i:=x) (n:=s.next) (by omega)
     have h2:=eX x hx Bo
     simp only[go_sem, ↓reduceIte,Nat.reduceEqDiff,Nat.reduceAdd,Nat.reduceSub,Nat.reduceLeDiff,reduceCtorEq,h1,h2]⟩
   ·obtain rfl:i=a:=by omega
    have eC:((zB ps p i).map ai).set i (ai p)=(qp ps p).map ai:=by rw[Po,Ox Si,hp]
    have xT:∃z,((zB ps p i).map ai)[i]? =some (ai z):=⟨_,ur (by rw[qb ps p ble];omega)⟩
    obtain⟨z,xT⟩:=xT
    have lj:(qp ps p).length=ps.length+1:=by rw[hp];simp;omega
    have c1:(i:Int)<(ps.length:Int)+1:=by omega
    rw[ai]at eC xT
    (try((repeat(revert hN;revert N;apply Pn.out));refine wk (tw @b0 (tw @b3 (tw @b5 (tw @b6 (tw @bg0 (tw @bg1 (tw @L8 (tw @xT (tw @eC (tw @Nq (tw @c1 (tw @Int.natCast_add (tw @Int.cast_ofNat_Int @ai.eq_1))))))))))))) ?_;(repeat(refine Pn.mk ?_;intro N hN))))
    rw[<-lj]
    exact fe (.inl rfl) (vs:=[.own ⟨223006003,s.next⟩ 0 (qp ps p).length]) (sd (tw @b0 @lj)) ⟨⟨223006003,s.next⟩,rfl,sd @eC,by(try dsimp only);omega,by(try dsimp only);omega,.inl (by(try dsimp only);omega),fun x hx Bo=>by
     have h1:=dr (i:=x) (n:=s.next) (by omega)
     have h2:=eX x hx Bo
     simp only[go_sem, ↓reduceIte,Nat.reduceEqDiff,Nat.reduceAdd,Nat.reduceSub,Nat.reduceLeDiff,reduceCtorEq,h1,h2]⟩
  ·intro N hN
   by_cases J5:(a:Int)<(ps.length:Int)
   ·have hg:=ur (ps:=ps) (i:=a) (by omega)
    by_cases hx:(jK ps a).eM=p.eM
    ·have ug:decide ((jK ps a).eM=p.eM)=true:=decide_eq_true hx
     have VG:decide ((jK ps a).eG=p.eG)=false:=decide_eq_false fun h=>hex ⟨by omega,xg hx h⟩
     (try((repeat(revert hN;revert N;apply Pn.out));refine wk (tw @f5 (tw @f0 (tw @f3 (tw @fg0 (tw @fg1 (tw @J5 (tw @hg (tw @ug (tw @VG (tw @wG @ai.eq_1)))))))))) ?_;(repeat(refine Pn.mk ?_;intro N hN))))
     exact⟨sd @f5,sd @f0,sd @f3,sd (tw @fg0 @ai.eq_1),sd @fg1,by(try dsimp only);omega,fun x hx=>sd (ffr x hx)⟩
    ·have ug:decide ((jK ps a).eM=p.eM)=false:=decide_eq_false hx
     (try((repeat(revert hN;revert N;apply Pn.out));refine wk (tw @f5 (tw @f0 (tw @f3 (tw @fg0 (tw @fg1 (tw @J5 (tw @hg (tw @ug (tw @Bool.false_and (tw @wG @ai.eq_1)))))))))) ?_;(repeat(refine Pn.mk ?_;intro N hN))))
     exact⟨sd @f5,sd @f0,sd @f3,sd (tw @fg0 @ai.eq_1),sd @fg1,by(try dsimp only);omega,fun x hx=>sd (ffr x hx)⟩
   ·(try((repeat(revert hN;revert N;apply Pn.out));refine wk (tw @f5 (tw @f0 (tw @f3 (tw @fg0 (tw @fg1 (tw @J5 (tw @wG @ai.eq_1))))))) ?_;(repeat(refine Pn.mk ?_;intro N hN))))
    exact⟨sd @f5,sd @f0,sd @f3,sd (tw @fg0 @ai.eq_1),sd @fg1,by(try dsimp only);omega,fun x hx=>sd (ffr x hx)⟩
 intro N hN
 refine aX (fun m env st=>∃a:Nat,m=a/\jX ps p<=a/\a<=ps.length/\env 5=.int .i64 (a:Int)/\st.get ⟨223000000,σ.next⟩=some ⟨true,2,[ai p]⟩/\st.get o=some ⟨true,2,ps.map ai⟩/\σ.next<st.next/\∀x:Id,x.br<σ.next->st.get x=σ.get x) ps.length ⟨ps.length,rfl,Si,Nat.le_refl _,sd @Nat.zero_add,sd @ai.eq_1,sd (tw @rz @ho),by(try dsimp only);omega,fun x hx=>by have:=dr hx;simp only[go_sem, ↓reduceIte,Nat.reduceEqDiff,Nat.reduceAdd,Nat.reduceSub,Nat.reduceLeDiff,reduceCtorEq,this]⟩ ?_
 rintro m env_a st_a ⟨a,hma,al,ale,a5,ag0,ag1,an,dC⟩ akp
 have a0:=akp 0 (by kernel_rfl)
 have a3:=akp 3 (by kernel_rfl)
 simp only[go_sem, ↓reduceIte,Nat.reduceEqDiff,Nat.reduceAdd,Nat.reduceSub,Nat.reduceLeDiff,reduceCtorEq,ai]at a0 a3
 clear akp
 by_cases h0:(0:Int)<(a:Int)
 ·obtain⟨b,rfl⟩:∃b,a=b+1:=⟨a-1,by omega⟩
  have od:b<ps.length:=by omega
  have fJ:(b:Int)<(ps.length:Int):=by omega
  have hg:=ur od
  have hw:IntKind.i64.wrap (((b+1:Nat):Int)-1)=(b:Int):=by rw[bK (by omega)];omega
  have hq:=lX (jK ps b) p
  cases hc:iW (jK ps b) p
  ·rw[hc]at hq
   (repeat(first|((repeat(revert hN;revert N;apply Pn.out));refine wk (tw @a0 (tw @a3 (tw @a5 (tw @ag0 (tw @ag1 (tw @h0 (tw @fJ (tw @hg (tw @hw (tw @wG @ai.eq_1)))))))))) ?_;(repeat(refine Pn.mk ?_;intro N hN)))|((try apply Or.inl);refine⟨_,aw.x (hq) (sd (tw @a0 (tw @a3 (tw @a5 (tw @ag0 (tw @ag1 (tw @h0 (tw @fJ (tw @hg (tw @hw (tw @wG @ai.eq_1))))))))))),?_⟩;refine hN _ _ ?_;clear hN N)))
   refine⟨b,by omega,b,rfl,?_,by omega,sd @hw,sd (tw @ag0 @ai.eq_1),sd @ag1,by(try dsimp only);omega,fun x hx=>sd (dC x hx)⟩
   rcases Nat.lt_or_ge b (jX ps p)with h|h
   ·rw[GH h]at hc;cases hc
   ·exact h
  ·rw[hc]at hq
   have jQ:jX ps p=b+1:=by
    rcases Nat.lt_or_ge b (jX ps p)with h|h
    ·omega
    ·have:=Ay (p:=p) hR h od
     rw[hc]at this;cases this
   (repeat(first|((repeat(revert hN;revert N;apply Pn.out));refine wk (tw @a0 (tw @a3 (tw @a5 (tw @ag0 (tw @ag1 (tw @h0 (tw @fJ (tw @hg (tw @hw (tw @wG @ai.eq_1)))))))))) ?_;(repeat(refine Pn.mk ?_;intro N hN)))|((try apply Or.inl);refine⟨_,aw.x (hq) (sd (tw @a0 (tw @a3 (tw @a5 (tw @ag0 (tw @ag1 (tw @h0 (tw @fJ (tw @hg (tw @hw (tw @wG @ai.eq_1))))))))))),?_⟩;refine hN _ _ ?_;clear hN N)))
   exact⟨sd (tw @a5 @jQ),sd @a0,sd @a3,sd (tw @ag0 @ai.eq_1),sd @ag1,by(try dsimp only);omega,fun x hx=>sd (dC x hx)⟩
 ·have jQ:jX ps p=a:=by omega
  (try((repeat(revert hN;revert N;apply Pn.out));refine wk (tw @a0 (tw @a3 (tw @a5 (tw @ag0 (tw @ag1 (tw @h0 (tw @wG @ai.eq_1))))))) ?_;(repeat(refine Pn.mk ?_;intro N hN))))
  exact⟨sd (tw @a5 @jQ),sd @a0,sd @a3,sd (tw @ag0 @ai.eq_1),sd @ag1,by(try dsimp only);omega,fun x hx=>sd (dC x hx)⟩
end Go.Proofs.YtgoljkjaameagaaGreat.V
