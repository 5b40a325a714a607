/- The place of a point in an assembly, on both sides. -/
import Derived.Test.YtgoljkjaameagaaGreatGsC
import Derived.Test.YtgoljkjaameagaaGreatGsA
import Derived.Test.YtgoljkjaameagaaGreatGsB
set_option linter.unusedVariables false
set_option linter.unusedSimpArgs false
set_option maxRecDepth 100000
set_option maxHeartbeats 16000000
namespace Go.Proofs.YtgoljkjaameagaaGreat.V
open Go.RowKit
attribute [local irreducible] dK wpOps gw Call
attribute [local go_sem] aM fE eM fV fS dc upd cr K.av cI AV.cells AV.cell rowOf rowsOf part ld rowAt bE cj dy dS gU bJ cY ee fQ e6 dp dX cW cV dI dJ bP bc cL bL cP cN dV dY dW cK bU cX dU bK aO cR cC gT bw cG bQ aY dj aZ dz AV.undef bD bG dM dQ dE dG cE ec eh cz ea dZ cQ cU List.getD_cons_zero List.getD_cons_succ List.getD_nil List.all_cons List.all_nil Bool.and_true Bool.true_and Bool.and_self Bool.not_true Bool.not_false Option.map_some Option.map_none Option.bind_some Option.bind_none List.length_cons List.length_nil List.take_succ_cons List.take_zero List.take_nil List.drop_succ_cons List.drop_zero List.drop_nil List.head?_cons List.map_cons List.map_nil List.getElem?_cons_zero List.getElem?_cons_succ List.cons_append List.nil_append List.append_nil List.length_map List.set_cons_zero List.set_cons_succ Nat.reduceMul eq_self Int.toNat_natCast Int.natCast_nonneg and_self true_and and_true decide_true decide_false Bool.false_eq_true Nat.zero_add Nat.add_zero List.contains_cons List.contains_nil Bool.or_false Bool.false_or beq_self_eq_true Nat.reduceBEq ne_eq not_true_eq_false not_false_eq_true Id.mk.injEq false_and and_false Nat.reduceLT Int.reduceLE Int.reduceLT Int.reduceToNat Int.reduceNeg Int.reduceAdd Nat.le_refl List.length_append beq_true beq_false Bool.not_eq_eq_eq_not or_false false_or dH aj ar aH bh bz ck aV bd aX bf cJ bB
theorem Iy (cells:List aa) (p:aq) (hR:qS cells) (R5:cells.length<=1048576):
  au Tryz.prog 163 [.sl (cells.map ab),.agg (ae p),.fn 164 []] (.gJ [.int .i64 (tj cells p),.bool (decide (tj cells p<cells.length)&&decide ((aL cells (tj cells p)).aJ=p))]):=by
 refine au.body eF rfl fun hl n0=>?_
 clear hl
 (try((repeat(revert hN;revert N;apply Pn.out));refine wk @ae.eq_1 ?_;(repeat(refine Pn.mk ?_;intro N hN))))
 refine aQ (fun n env st=>∃i j:Nat,n=j-i/\i<=j/\j<=cells.length/\(∀x,x<i->iS (aL cells x).aJ p=true)/\(∀x,j<=x->x<cells.length->iS (aL cells x).aJ p=false)/\env 9=.int .i64 i/\env 10=.int .i64 j/\st.get ⟨163000000,n0⟩=some ⟨true,2,[ae p]⟩) cells.length ⟨0,cells.length,ah,ah,ah,fun x h=>ah,fun x h1 h2=>ah,by(simp only[go_sem, ↓reduceIte,Nat.reduceEqDiff,Nat.reduceAdd,Nat.reduceSub,Nat.reduceLeDiff,reduceCtorEq])<;>rfl,sd @Nat.zero_add,sd @ae.eq_1⟩ ?_
 rintro n env st ⟨i,j,rfl,y9,hj,j6,E6,h9,h10,hg⟩ fr
 have h0:=fr 0 (by kernel_rfl)
 have h2:=fr 2 (by kernel_rfl)
 have h4:=fr 4 (by kernel_rfl)
 have h8:=fr 8 (by kernel_rfl)
 simp only[go_sem, ↓reduceIte,Nat.reduceEqDiff,Nat.reduceAdd,Nat.reduceSub,Nat.reduceLeDiff,reduceCtorEq]at h0 h2 h4 h8
 clear fr
 by_cases ei:(i:Int)<(j:Int)
 ·have e1:IntKind.i64.wrap ((i:Int)+j)=((i+j:Nat):Int):=by rw[bq ah];rfl
  have hm:(i+j) / 2<cells.length:=ah
  have eR:(cells.map ab)[(i+j) / 2]? =some (ab (aL cells ((i+j) / 2))):=fF (l:=cells) hm
  have e2:IntKind.i64.wrap ((IntKind.u64.wrap ((i+j:Nat):Int)).fdiv (2 ^ min 1 IntKind.u64.bits))=(((i+j) / 2:Nat):Int):=by
   have h:IntKind.u64.wrap ((i+j:Nat):Int)=((i+j:Nat):Int):=by rw[IntKind.wrap_u64];omega
   rw[h,show min 1 IntKind.u64.bits=1 from rfl,show((2:Int) ^ 1)=2 from rfl,Int.fdiv_eq_ediv_of_nonneg _ ah]
   rw[bq ah];omega
  have UZ:IntKind.i64.wrap ((IntKind.u64.wrap ((i+j:Nat):Int)).fdiv (2 ^ min 1 64))=(((i+j) / 2:Nat):Int):=e2
  have e3:=ay (k:=(i+j) / 2) ah
  by_cases hc:pD (aL cells ((i+j) / 2)).aJ p<0
  ·have hl:iS (aL cells ((i+j) / 2)).aJ p=true:=by rw[<-mB];simpa using hc
   (repeat(first|((repeat(revert hN;revert N;apply Pn.out));refine wk (tw @h0 (tw @h2 (tw @h4 (tw @h8 (tw @h9 (tw @h10 (tw @hg (tw @ei (tw @e1 (tw @e2 (tw @UZ (tw @eR (tw @hc (tw @ab.eq_1 @ae.eq_1)))))))))))))) ?_;(repeat(refine Pn.mk ?_;intro N hN)))|((try apply Or.inl);refine⟨_,au.x (kZ (aL cells ((i+j) / 2)) p) (sd (tw @h0 (tw @h2 (tw @h4 (tw @h8 (tw @h9 (tw @h10 (tw @hg (tw @ei (tw @e1 (tw @e2 (tw @UZ (tw @eR (tw @hc (tw @ab.eq_1 @ae.eq_1))))))))))))))),?_⟩;refine hN _ _ ?_;clear hN N)))
   refine⟨_,?_,(i+j) / 2+1,j,rfl,ah,hj,fun x hx=>?_,E6,sd @e3,sd @h10,sd (tw @hg @ae.eq_1)⟩
   ·omega
   ·by_cases SY:x=(i+j) / 2
    ·subst SY;exact hl
    ·exact iK (hR x _ ah hm) hl
  ·have hl:iS (aL cells ((i+j) / 2)).aJ p=false:=by rw[<-mB];simpa using hc
   (repeat(first|((repeat(revert hN;revert N;apply Pn.out));refine wk (tw @h0 (tw @h2 (tw @h4 (tw @h8 (tw @h9 (tw @h10 (tw @hg (tw @ei (tw @e1 (tw @e2 (tw @UZ (tw @eR (tw @hc (tw @ab.eq_1 @ae.eq_1)))))))))))))) ?_;(repeat(refine Pn.mk ?_;intro N hN)))|((try apply Or.inl);refine⟨_,au.x (kZ (aL cells ((i+j) / 2)) p) (sd (tw @h0 (tw @h2 (tw @h4 (tw @h8 (tw @h9 (tw @h10 (tw @hg (tw @ei (tw @e1 (tw @e2 (tw @UZ (tw @eR (tw @hc (tw @ab.eq_1 @ae.eq_1))))))))))))))),?_⟩;refine hN _ _ ?_;clear hN N)))
   refine⟨_,?_,i,(i+j) / 2,rfl,ah,ah,j6,fun x h1 h2=>?_,sd @h9,sd (tw @e2 @UZ),sd (tw @hg @ae.eq_1)⟩
   ·omega
   ·by_cases SY:x=(i+j) / 2
    ·subst SY;exact hl
    ·rw[Bool.eq_false_iff]
     intro hc
     have h3:=iK (hR ((i+j) / 2) x ah h2) hc
     rw[hl]at h3;cases h3
 ·have Sy:i=j:=ah
  subst Sy
  have F9:tj cells p=i:=BM hj j6 fun h=>E6 i (Nat.le_refl _) h
  by_cases hn:(i:Int)<(cells.length:Int)
  ·have fZ:i<cells.length:=ah
   have eR:(cells.map ab)[i]? =some (ab (aL cells i)):=fF (l:=cells) fZ
   have hd:decide (pD (aL cells i).aJ p=0)=decide ((aL cells i).aJ=p):=by simp only[IB]
   (repeat(first|((repeat(revert hN;revert N;apply Pn.out));refine wk (tw @h0 (tw @h2 (tw @h4 (tw @h8 (tw @h9 (tw @h10 (tw @hg (tw @ei (tw @hn (tw @eR (tw @ab.eq_1 @ae.eq_1))))))))))) ?_;(repeat(refine Pn.mk ?_;intro N hN)))|((try apply Or.inl);refine⟨_,au.x (kZ (aL cells i) p) (sd (tw @h0 (tw @h2 (tw @h4 (tw @h8 (tw @h9 (tw @h10 (tw @hg (tw @ei (tw @hn (tw @eR (tw @ab.eq_1 @ae.eq_1)))))))))))),?_⟩;refine hN _ _ ?_;clear hN N)))
   refine jU (.inl rfl) (r1:=.int .i64 i) (r2:=.bool (decide ((aL cells i).aJ=p))) ?_ ?_ ?_
   ·simp only[go_sem, ↓reduceIte,Nat.reduceEqDiff,Nat.reduceAdd,Nat.reduceSub,Nat.reduceLeDiff,reduceCtorEq]
   ·simp only[go_sem, ↓reduceIte,Nat.reduceEqDiff,Nat.reduceAdd,Nat.reduceSub,Nat.reduceLeDiff,reduceCtorEq,hd]
   ·simp only[fH,bW,cF,eO,fW,Option.map_some,F9,fZ,decide_true,Bool.true_and]
  ·have fZ:¬i<cells.length:=ah
   (try((repeat(revert hN;revert N;apply Pn.out));refine wk (tw @h0 (tw @h2 (tw @h4 (tw @h8 (tw @h9 (tw @h10 (tw @hg (tw @ei (tw @hn (tw @ab.eq_1 @ae.eq_1)))))))))) ?_;(repeat(refine Pn.mk ?_;intro N hN))))
   refine jU (.inl rfl) (r1:=.int .i64 i) (r2:=.bool false) ?_ ?_ ?_
   ·simp only[go_sem, ↓reduceIte,Nat.reduceEqDiff,Nat.reduceAdd,Nat.reduceSub,Nat.reduceLeDiff,reduceCtorEq]
   ·simp only[go_sem, ↓reduceIte,Nat.reduceEqDiff,Nat.reduceAdd,Nat.reduceSub,Nat.reduceLeDiff,reduceCtorEq]
   ·simp only[fH,bW,cF,eO,fW,Option.map_some,F9,fZ,decide_false,Bool.false_and]
theorem JT (l:List aa) (p:aq) (hR:qS l) (R5:l.length<=1048576):au Tryz.prog 303 [.agg [.sl (l.map ab)],.agg (ae p)] (.int .i64 (eG l p)):=by
 refine au.body eF rfl fun hl n0=>?_
 clear hl
 rw[HY hR]
 have hb:=Iy l p hR R5
 rw[ae]at hb
 cases hf:(decide (tj l p<l.length)&&decide ((aL l (tj l p)).aJ=p))
 ·rw[hf]at hb
  (repeat(first|((repeat(revert hN;revert N;apply Pn.out));refine wk @ae.eq_1 ?_;(repeat(refine Pn.mk ?_;intro N hN)))|((try apply Or.inl);refine⟨_,au.x (hb) (sd @ae.eq_1),?_⟩;refine hN _ _ ?_;clear hN N)))
  exact da (b:=-1) (.inl rfl) (sd @Nat.zero_add) (by rw[if_neg];intro h;simp[h.1,h.2]at hf)
 ·rw[hf]at hb
  (repeat(first|((repeat(revert hN;revert N;apply Pn.out));refine wk @ae.eq_1 ?_;(repeat(refine Pn.mk ?_;intro N hN)))|((try apply Or.inl);refine⟨_,au.x (hb) (sd @ae.eq_1),?_⟩;refine hN _ _ ?_;clear hN N)))
  exact da (b:=(tj l p:Int)) (.inl rfl) (sd @Nat.zero_add) (by rw[if_pos];simpa using hf)
theorem r5 (l:List aa) (p:aq) (hR:qS l) (R5:l.length<=1048576):au Tryz.prog 173 [.dn [.sl (l.map ab)],.agg (ae p)] (.int .i64 (eG l p)):=by
 refine au.body eF rfl fun hl n0=>?_
 clear hl
 rw[HY hR]
 (try((repeat(revert hN;revert N;apply Pn.out));refine wk @ae.eq_1 ?_;(repeat(refine Pn.mk ?_;intro N hN))))
 refine aQ (fun n env st=>∃i j:Nat,n=j-i/\i<=j/\j<=l.length/\(∀x,x<i->iS (aL l x).aJ p=true)/\(∀x,j<=x->x<l.length->iS (aL l x).aJ p=false)/\env 5=.int .i64 i/\env 6=.int .i64 j/\st.get ⟨173000000,n0⟩=some ⟨true,2,[ae p]⟩) l.length ⟨0,l.length,ah,ah,ah,fun x h=>ah,fun x h1 h2=>ah,by(simp only[go_sem, ↓reduceIte,Nat.reduceEqDiff,Nat.reduceAdd,Nat.reduceSub,Nat.reduceLeDiff,reduceCtorEq])<;>rfl,sd @Nat.zero_add,sd @ae.eq_1⟩ ?_
 rintro n env st ⟨i,j,rfl,y9,hj,j6,E6,h5,h6,hg⟩ fr
 have h0:=fr 0 (by kernel_rfl)
 have h3:=fr 3 (by kernel_rfl)
 simp only[go_sem, ↓reduceIte,Nat.reduceEqDiff,Nat.reduceAdd,Nat.reduceSub,Nat.reduceLeDiff,reduceCtorEq]at h0 h3
 clear fr
 by_cases ei:(i:Int)<(j:Int)
 ·have e1:IntKind.i64.wrap ((i:Int)+j)=((i+j:Nat):Int):=by rw[bq ah];rfl
  have hm:(i+j) / 2<l.length:=ah
  have eR:=fF hm
  have e2:IntKind.i64.wrap (((i+j:Nat):Int).tdiv 2)=(((i+j) / 2:Nat):Int):=by
   rw[Int.tdiv_eq_ediv_of_nonneg ah,bq ah];omega
  have e3:=ay (k:=(i+j) / 2) ah
  have hq:=mz (aL l ((i+j) / 2)).aJ p
  cases hl:iS (aL l ((i+j) / 2)).aJ p
  ·rw[hl]at hq
   (repeat(first|((repeat(revert hN;revert N;apply Pn.out));refine wk (tw @h0 (tw @h3 (tw @h5 (tw @h6 (tw @hg (tw @ei (tw @e1 (tw @e2 (tw @eR (tw @ab.eq_1 @ae.eq_1)))))))))) ?_;(repeat(refine Pn.mk ?_;intro N hN)))|((try apply Or.inl);refine⟨_,au.x (hq) (sd (tw @h0 (tw @h3 (tw @h5 (tw @h6 (tw @hg (tw @ei (tw @e1 (tw @e2 (tw @eR (tw @ab.eq_1 @ae.eq_1))))))))))),?_⟩;refine hN _ _ ?_;clear hN N)))
   refine⟨_,?_,i,(i+j) / 2,rfl,ah,ah,j6,fun x h1 h2=>?_,sd @h5,sd @e2,sd (tw @hg @ae.eq_1)⟩
   ·omega
   ·by_cases SY:x=(i+j) / 2
    ·subst SY;exact hl
    ·rw[Bool.eq_false_iff]
     intro hc
     have h3:=iK (hR ((i+j) / 2) x ah h2) hc
     rw[hl]at h3;cases h3
  ·rw[hl]at hq
   (repeat(first|((repeat(revert hN;revert N;apply Pn.out));refine wk (tw @h0 (tw @h3 (tw @h5 (tw @h6 (tw @hg (tw @ei (tw @e1 (tw @e2 (tw @eR (tw @ab.eq_1 @ae.eq_1)))))))))) ?_;(repeat(refine Pn.mk ?_;intro N hN)))|((try apply Or.inl);refine⟨_,au.x (hq) (sd (tw @h0 (tw @h3 (tw @h5 (tw @h6 (tw @hg (tw @ei (tw @e1 (tw @e2 (tw @eR (tw @ab.eq_1 @ae.eq_1))))))))))),?_⟩;refine hN _ _ ?_;clear hN N)))
   refine⟨_,?_,(i+j) / 2+1,j,rfl,ah,hj,fun x hx=>?_,E6,sd @e3,sd @h6,sd (tw @hg @ae.eq_1)⟩
   ·omega
   ·by_cases SY:x=(i+j) / 2
    ·subst SY;exact hl
    ·exact iK (hR x _ ah hm) hl
 ·have Sy:i=j:=ah
  subst Sy
  have F9:tj l p=i:=BM hj j6 fun h=>E6 i (Nat.le_refl _) h
  by_cases hn:(i:Int)<(l.length:Int)
  ·have fZ:i<l.length:=ah
   have eR:=fF fZ
   by_cases hp:(aL l i).aJ=p
   ·have hx:decide ((aL l i).aJ.eE=p.eE)=true:=decide_eq_true (by rw[hp])
    have hy:decide ((aL l i).aJ.ez=p.ez)=true:=decide_eq_true (by rw[hp])
    (try((repeat(revert hN;revert N;apply Pn.out));refine wk (tw @h0 (tw @h3 (tw @h5 (tw @h6 (tw @hg (tw @ei (tw @hn (tw @eR (tw @hx (tw @hy (tw @ab.eq_1 @ae.eq_1))))))))))) ?_;(repeat(refine Pn.mk ?_;intro N hN))))
    exact da (b:=(i:Int)) (.inl rfl) (sd @Nat.zero_add) (by rw[F9,if_pos ⟨fZ,hp⟩])
   ·by_cases hx:(aL l i).aJ.eE=p.eE
    ·have vK:decide ((aL l i).aJ.eE=p.eE)=true:=decide_eq_true hx
     have XY:decide ((aL l i).aJ.ez=p.ez)=false:=decide_eq_false fun h=>hp (yy hx h)
     (try((repeat(revert hN;revert N;apply Pn.out));refine wk (tw @h0 (tw @h3 (tw @h5 (tw @h6 (tw @hg (tw @ei (tw @hn (tw @eR (tw @vK (tw @XY (tw @ab.eq_1 @ae.eq_1))))))))))) ?_;(repeat(refine Pn.mk ?_;intro N hN))))
     exact da (b:=-1) (.inl rfl) (sd @Nat.zero_add) (by rw[F9,if_neg fun h=>hp h.2])
    ·have vK:decide ((aL l i).aJ.eE=p.eE)=false:=decide_eq_false hx
     (try((repeat(revert hN;revert N;apply Pn.out));refine wk (tw @h0 (tw @h3 (tw @h5 (tw @h6 (tw @hg (tw @ei (tw @hn (tw @eR (tw @vK (tw @Bool.false_and (tw @ab.eq_1 @ae.eq_1))))))))))) ?_;(repeat(refine Pn.mk ?_;intro N hN))))
     exact da (b:=-1) (.inl rfl) (sd @Nat.zero_add) (by rw[F9,if_neg fun h=>hp h.2])
  ·have fZ:¬i<l.length:=ah
   (try((repeat(revert hN;revert N;apply Pn.out));refine wk (tw @h0 (tw @h3 (tw @h5 (tw @h6 (tw @hg (tw @ei (tw @hn (tw @ab.eq_1 @ae.eq_1)))))))) ?_;(repeat(refine Pn.mk ?_;intro N hN))))
   exact da (b:=-1) (.inl rfl) (sd @Nat.zero_add) (by rw[F9,if_neg fun h=>fZ h.1])
theorem Pv (l:List aa) (p:aq) (hR:qS l) (R5:l.length<=1048576):au Tryz.prog 216 [.dn [.sl (l.map ab)],.agg (ae p)] (.int .i64 (fU l p)):=by
 refine au.body eF rfl fun hl n0=>?_
 clear hl
 have hb:=r5 l p hR R5
 by_cases hi:eG l p<0
 ·rw[ae]at hb
  (repeat(first|((repeat(revert hN;revert N;apply Pn.out));refine wk (tw @ae.eq_1 @hi) ?_;(repeat(refine Pn.mk ?_;intro N hN)))|((try apply Or.inl);refine⟨_,au.x (hb) (sd (tw @ae.eq_1 @hi)),?_⟩;refine hN _ _ ?_;clear hN N)))
  exact da (b:=-1) (.inl rfl) (sd @Nat.zero_add) (by rw[fU,if_neg ah])
 ·have h0:0<=eG l p:=ah
  have hg:=fF (lz h0).1
  rw[ae]at hb
  (repeat(first|((repeat(revert hN;revert N;apply Pn.out));refine wk (tw @ae.eq_1 (tw @hi (tw @h0 (tw @hg @ab.eq_1)))) ?_;(repeat(refine Pn.mk ?_;intro N hN)))|((try apply Or.inl);refine⟨_,au.x (hb) (sd (tw @ae.eq_1 (tw @hi (tw @h0 (tw @hg @ab.eq_1))))),?_⟩;refine hN _ _ ?_;clear hN N)))
  exact da (b:=(aL l (eG l p).toNat).br) (.inl rfl) (sd @Nat.zero_add) (by rw[fU,if_pos h0])
def jZ (s:ax) (l:List aa):Prop:=lg l/\∀t∈l,eH s t.br=true
noncomputable def uk (s:ax) (l:List aa):Bool:=pM l&&l.all fun t=>eH s t.br
theorem pA {s:ax} {l:List aa}:uk s l=true↔jZ s l:=by simp[uk,jZ,IX]
theorem FH:UK ab (fun c=>.agg (ab c)) 3 true:=⟨fun _=>rfl,fun _=>rfl,fun x g=>by simp only[ab,aj,ar,bd,aH,Option.map_some]⟩
theorem JO (s:ax) (t:aa) (hs:s.ai.length<=1048576):au Tryz.prog 202 [.agg (ab t),.dn (ad s)] (.bool (!eH s t.br)):=by
 refine au.body eF rfl fun hl n0=>?_
 clear hl
 have h:=Mg s t.br
 rw[ad]at h
 (repeat(first|((repeat(revert hN;revert N;apply Pn.out));refine wk (tw @ab.eq_1 @ad.eq_1) ?_;(repeat(refine Pn.mk ?_;intro N hN)))|((try apply Or.inl);refine⟨_,au.x (h) (sd (tw @ab.eq_1 @ad.eq_1)),?_⟩;refine hN _ _ ?_;clear hN N)))
 exact bp (b:= !eH s t.br) (.inl rfl) (sd @Nat.zero_add) rfl
theorem Qh (s:ax) (l:List aa) (hs:s.ai.length<=1048576) (hl:l.length<=1048576):au Tryz.prog 201 [.sl (l.map ab),.fn 202 [.dn (ad s)]] (.bool (l.any fun t=> !eH s t.br)):=
 pE FH (show nK Tryz.prog 201=some (FZ 201 247) by kernel_rfl)
  (show nK Tryz.prog 247=some (xW 247 3 true) by kernel_rfl) l hl _ _ _ rfl (fun g=>by rw[aj,aX,ar];rfl) (fun x _=>JO s x hs) fun g=>by rw[aj,aX,ar];rfl
theorem Oj {α:Type} (p:α->Bool) (l:List α):(!l.any fun t=> !p t)=l.all p:=by
 induction l with
 |nil=>rfl
 |cons x l ih=>simp only[List.any_cons,List.all_cons,<-ih];cases p x<;>simp
theorem wm (s:ax) (l:List aa) (hn:iq s) (hg:s.aB.length<=1048576) (ht:s.ai.length<=1048576) (hs:∀t∈s.ai,t.bV.length<=1048576) (hl:l.length<=1048576):au Tryz.prog 131 [.agg (ad s),.agg [.sl (l.map ab)]] (.bool (tH s&&uk s l)):=by
 refine au.body eF rfl fun hl n0=>?_
 clear hl
 have h1:=Fs s hn hg ht hs
 have h2:=I4 l
 have h3:=Qh s l ht hl
 rw[ad]at h1 h3
 cases b1:tH s
 ·rw[b1]at h1
  (repeat(first|((repeat(revert hN;revert N;apply Pn.out));refine wk @ad.eq_1 ?_;(repeat(refine Pn.mk ?_;intro N hN)))|((try apply Or.inl);refine⟨_,au.x (h1) (sd @ad.eq_1),?_⟩;refine hN _ _ ?_;clear hN N)))
  exact bp (b:=false) (.inl rfl) (sd @Nat.zero_add) rfl
 rw[b1]at h1
 cases b2:pM l
 ·rw[b2]at h2
  (repeat(first|((repeat(revert hN;revert N;apply Pn.out));refine wk @ad.eq_1 ?_;(repeat(refine Pn.mk ?_;intro N hN)))|((try apply Or.inl);refine⟨_,au.x (h1) (sd @ad.eq_1),?_⟩;refine hN _ _ ?_;clear hN N)|((try apply Or.inl);refine⟨_,au.x (h2) (sd @ad.eq_1),?_⟩;refine hN _ _ ?_;clear hN N)))
  exact bp (b:=false) (.inl rfl) (sd @Nat.zero_add) (by rw[uk,b2];rfl)
 rw[b2]at h2
 (repeat(first|((repeat(revert hN;revert N;apply Pn.out));refine wk @ad.eq_1 ?_;(repeat(refine Pn.mk ?_;intro N hN)))|((try apply Or.inl);refine⟨_,au.x (h1) (sd @ad.eq_1),?_⟩;refine hN _ _ ?_;clear hN N)|((try apply Or.inl);refine⟨_,au.x (h2) (sd @ad.eq_1),?_⟩;refine hN _ _ ?_;clear hN N)|((try apply Or.inl);refine⟨_,au.x (h3) (sd @ad.eq_1),?_⟩;refine hN _ _ ?_;clear hN N)))
 exact bp (b:= !(l.any fun t=> !eH s t.br)) (.inl rfl) (sd @Nat.zero_add) (by rw[Oj,uk,b2];rfl)
theorem Pw (s:ax) (l:List aa):au Tryz.prog 146 [.dn (ad s),.dn [.sl (l.map ab)]] (.bool (uk s l)):=by
 refine au.body eF rfl fun hl n0=>?_
 have hlen:l.length<=9223372036854775807:=by
  have h1:=(hl (.dn [.sl (l.map ab)]) (by simp)).D8 (a:=.sl (l.map ab)) (by simp)
  simpa using h1.len
 clear hl
 have h2:=Js l
 cases b2:pM l
 ·rw[b2]at h2
  (repeat(first|((repeat(revert hN;revert N;apply Pn.out));refine wk @Nat.zero_add ?_;(repeat(refine Pn.mk ?_;intro N hN)))|((try apply Or.inl);refine⟨_,au.x (h2) (sd @Nat.zero_add),?_⟩;refine hN _ _ ?_;clear hN N)))
  exact bp (b:=false) (.inl rfl) (sd @Nat.zero_add) (by rw[uk,b2];rfl)
 rw[b2]at h2
 (repeat(first|((repeat(revert hN;revert N;apply Pn.out));refine wk @Nat.zero_add ?_;(repeat(refine Pn.mk ?_;intro N hN)))|((try apply Or.inl);refine⟨_,au.x (h2) (sd @Nat.zero_add),?_⟩;refine hN _ _ ?_;clear hN N)))
 refine aQ (fun n env st=>∃k:Nat,n=(l.length)-k/\k<=(l.length)/\env 5=.int .i64 (k:Int)/\(∀j:Nat,j<k->eH s (aL l j).br=true)) (l.length) ⟨0,ah,ah,sl @Nat.zero_add,fun _ h=>absurd h (Nat.not_lt_zero _)⟩ ?_
 rintro n_a env_a st_a ⟨k,rfl,ale,a5,nP⟩ dv
 have a0:=dv 0 (by kernel_rfl);have a1:=dv 1 (by kernel_rfl)
 simp only[go_sem, ↓reduceIte,Nat.reduceEqDiff,Nat.reduceAdd,Nat.reduceSub,Nat.reduceLeDiff,reduceCtorEq]at a0 a1
 clear dv
 by_cases hk:(k:Int)<(l.length:Int)
 ·have cq:∀{e:Env},(e 5=.int .i64 (IntKind.i64.wrap ((k:Int)+1)))->(eH s (aL l k).br=true)->∃m0,m0<(l.length)-k/\∃k:Nat,m0=(l.length)-k/\k<=(l.length)/\e 5=.int .i64 (k:Int)/\(∀j:Nat,j<k->eH s (aL l j).br=true):=fun x1 x2=>⟨_,ah,k+1,rfl,ah,(by rw[x1,ay ah]),(all_succ nP x2)⟩
  have fy:k<l.length:=ah
  have eP:=fF fy
  have ht:=Gm s (aL l k).br
  cases b3:eH s (aL l k).br
  ·rw[b3]at ht
   (repeat(first|((repeat(revert hN;revert N;apply Pn.out));refine wk (tw @a5 (tw @a0 (tw @a1 (tw @hk (tw @eP @ab.eq_1))))) ?_;(repeat(refine Pn.mk ?_;intro N hN)))|((try apply Or.inl);refine⟨_,au.x (ht) (sd (tw @a5 (tw @a0 (tw @a1 (tw @hk (tw @eP @ab.eq_1)))))),?_⟩;refine hN _ _ ?_;clear hN N)))
   exact bp (b:=false) (.inl rfl) (sd @Nat.zero_add) (by
    have:l.all (fun t=>eH s t.br)=false:=List.all_eq_false.2 ⟨_,gO fy,by rw[b3];simp⟩
    rw[uk,this,Bool.and_false])
  ·rw[b3]at ht
   (repeat(first|((repeat(revert hN;revert N;apply Pn.out));refine wk (tw @a5 (tw @a0 (tw @a1 (tw @hk (tw @eP @ab.eq_1))))) ?_;(repeat(refine Pn.mk ?_;intro N hN)))|((try apply Or.inl);refine⟨_,au.x (ht) (sd (tw @a5 (tw @a0 (tw @a1 (tw @hk (tw @eP @ab.eq_1)))))),?_⟩;refine hN _ _ ?_;clear hN N)))
   exact cq (sd (tw @a5 (tw @a0 @a1))) (b3)
 ·(try((repeat(revert hN;revert N;apply Pn.out));refine wk (tw @a5 (tw @a0 (tw @a1 @hk))) ?_;(repeat(refine Pn.mk ?_;intro N hN))))
  exact bp (b:=true) (.inl rfl) (sd @Nat.zero_add) (by
   have:l.all (fun t=>eH s t.br)=true:=List.all_eq_true.2 fun t ht=>by
    obtain⟨j,hj,rfl⟩:=List.getElem_of_mem ht
    have:=nP j ah
    rwa [fa hj]at this
   rw[uk,b2,this];rfl)
theorem zA (l:List aa) (hF:lg l) (i:Nat) (d:Int) (hi:i<l.length) (hd:iV d 0 3=true):au Tryz.prog 189 [.dn [.sl (l.map ab)],.int .i64 i,.int .i64 d] (.int .i64 (eG l (bt (aL l i).aJ d))):=by
 refine au.body eF rfl fun hl n0=>?_
 clear hl
 have hg:=fF hi
 have hp:=sf (hF.pt hi)
 have h1:=uK (aL l i).aJ d hd hp.1 hp.2
 have h2:=r5 l (bt (aL l i).aJ d) hF.P8 (by have:=hF.zm;omega)
 rw[ae]at h1 h2
 (repeat(first|((repeat(revert hN;revert N;apply Pn.out));refine wk (tw @ab.eq_1 (tw @hg @ae.eq_1)) ?_;(repeat(refine Pn.mk ?_;intro N hN)))|((try apply Or.inl);refine⟨_,au.x (h1) (sd (tw @ab.eq_1 (tw @hg @ae.eq_1))),?_⟩;refine hN _ _ ?_;clear hN N)|((try apply Or.inl);refine⟨_,au.x (h2) (sd (tw @ab.eq_1 (tw @hg @ae.eq_1))),?_⟩;refine hN _ _ ?_;clear hN N)))
 exact da (b:=eG l (bt (aL l i).aJ d)) (.inl rfl) (sd @Nat.zero_add) rfl
end Go.Proofs.YtgoljkjaameagaaGreat.V

namespace Go.Proofs.YtgoljkjaameagaaGreat.V
def bi (b:Bool):Int:=if b then 1 else 0
def mY (f:Nat->Int):Nat->Int
 |0=>0
 |n+1=>mY f n+f n
theorem iT {f g:Nat->Int}:∀{n:Nat},(∀i,i<n->f i=g i)->mY f n=mY g n
 |0,_=>rfl
 |n+1,h=>by
  simp only[mY]
  rw[iT fun i hi=>h i ah,h n ah]
theorem tM {f g:Nat->Int}:∀{n:Nat},(∀i,i<n->f i<=g i)->mY f n<=mY g n
 |0,_=>Int.le_refl _
 |n+1,h=>by
  simp only[mY]
  have:=tM (n:=n) fun i hi=>h i ah
  have:=h n ah
  omega
theorem kB:∀{n:Nat} {f:Nat->Int},(∀i,i<n->f i=0)->mY f n=0
 |0,_,_=>rfl
 |n+1,f,h=>by
  simp only[mY]
  rw[kB fun i hi=>h i ah,h n ah];rfl
theorem qN {f:Nat->Int} {a:Nat} {d:Int}:∀n,mY (fun i=>f i+if i=a then d else 0) n=mY f n+if a<n then d else 0
 |0=>by simp[mY]
 |n+1=>by
  simp only[mY]
  rw[qN n]
  by_cases h:n=a
  ·subst h;simp;omega
  ·rw[if_neg h]
   by_cases h2:a<n
   ·rw[if_pos h2,if_pos ah];omega
   ·rw[if_neg h2,if_neg ah];omega
def nv (n:Nat) (S:Nat->Bool) (f:Nat->Nat->Int):Int:=mY (fun u=>mY (fun v=>if S u&& !S v then f u v else 0) n) n
def bump (f:Nat->Nat->Int) (a b:Nat) (d:Int):Nat->Nat->Int:=fun u v=>f u v+if u=a/\v=b then d else 0
theorem qu {n:Nat} {S:Nat->Bool} {f:Nat->Nat->Int} {a b:Nat} {d:Int} (ha:a<n) (hb:b<n):nv n S (bump f a b d)=nv n S f+if S a&& !S b then d else 0:=by
 unfold nv
 have h1:∀u,u<n->mY (fun v=>if S u&& !S v then bump f a b d u v else 0) n=mY (fun v=>if S u&& !S v then f u v else 0) n+if u=a then(if S a&& !S b then d else 0)else 0:=by
  intro u hu
  by_cases h:u=a
  ·subst h
   have h2:∀v,v<n->(if S u&& !S v then bump f u b d u v else 0)=(fun v=>if S u&& !S v then f u v else 0) v+if v=b then(if S u&& !S b then d else 0)else 0:=by
    intro v hv
    unfold bump
    by_cases h3:v=b
    ·subst h3;simp only[and_self,if_true];split<;>omega
    ·simp only[h3,and_false,if_false];split<;>omega
   rw[iT h2,qN,if_pos hb,if_pos rfl]
  ·rw[if_neg h,Int.add_zero]
   refine iT fun v hv=>?_
   unfold bump
   simp[h]
 rw[iT h1,qN,if_pos ha]
theorem Oz {n:Nat} {S:Nat->Bool} {f c:Nat->Nat->Int} (h:∀u v,u<n->v<n->f u v<=c u v):nv n S f<=nv n S c:=
 tM fun u hu=>tM fun v hv=>by split;exact h u v hu hv;exact Int.le_refl _
theorem Oy {n:Nat} {S:Nat->Bool} {f c:Nat->Nat->Int} (h:∀u v,u<n->v<n->S u=true->S v=false->f u v=c u v):nv n S f=nv n S c:=
 iT fun u hu=>iT fun v hv=>by
  split
  ·rename_i hc
   simp only[Bool.and_eq_true,Bool.not_eq_true']at hc
   exact h u v hu hv hc.1 hc.2
  ·rfl
def lp (f:Nat->Nat->Int) (a b:Nat):Nat->Nat->Int:=bump (bump f a b 1) b a (-1)
theorem IG {n:Nat} {S:Nat->Bool} {f:Nat->Nat->Int} {a b:Nat} (ha:a<n) (hb:b<n):nv n S (lp f a b)=nv n S f+bi (S a)-bi (S b):=by
 unfold lp
 rw[qu hb ha,qu ha hb]
 cases S a<;>cases S b<;>simp[bi]<;>omega
def nr (f:Nat->Nat->Int):List Nat->Nat->Nat->Int
 |a::b::r=>nr (lp f a b) (b::r)
 |_=>f
def sE (f c:Nat->Nat->Int):List Nat->Prop
 |a::b::r=>f a b<c a b/\sE f c (b::r)
 |_=>True
theorem C0 {n:Nat} {S:Nat->Bool}:∀(r:List Nat) (a:Nat) (f:Nat->Nat->Int),(∀x∈a::r,x<n)->nv n S (nr f (a::r))=nv n S f+bi (S a)-bi (S ((a::r).getLast (by simp)))
 |[],a,f,_=>by simp[nr]
 |b::r,a,f,h=>by
  rw[nr,C0 r b (lp f a b) fun x hx=>h x (List.mem_cons_of_mem _ hx),IG (h a (by simp)) (h b (by simp)),List.getLast_cons_cons]
  generalize bi (S b)=q
  omega
theorem sE.less {f g c:Nat->Nat->Int}:∀{p:List Nat},sE f c p->(∀u,u∈p->∀v,g u v<=f u v)->sE g c p
 |[],_,_=>trivial
 |[_],_,_=>trivial
 |a::b::r,h,hl=>⟨Int.lt_of_le_of_lt (hl a (by simp) b) h.1,sE.less (p:=b::r) h.2 fun u hu=>hl u (List.mem_cons_of_mem _ hu)⟩
theorem Ho {n:Nat} {c:Nat->Nat->Int}:∀(p:List Nat) (f:Nat->Nat->Int),p.Nodup->sE f c p->(∀u v,u<n->v<n->f u v<=c u v)->∀u v,u<n->v<n->nr f p u v<=c u v
 |[],f,_,_,h=>h
 |[_],f,_,_,h=>h
 |a::b::r,f,hn,hr,h=>by
  rw[nr]
  have nV:a∉b::r:=(List.nodup_cons.1 hn).1
  refine Ho (b::r) _ (List.nodup_cons.1 hn).2 (hr.2.less fun u hu v=>?_) fun u v hu hv=>?_
  ·unfold lp bump
   have:u≠a:=by rintro rfl;exact nV hu
   simp only[this,false_and,if_false]
   split<;>omega
  ·have h0:=h u v hu hv
   have h1:=hr.1
   unfold lp bump
   by_cases e:u=a/\v=b
   ·obtain⟨rfl,rfl⟩:=e
    rw[if_pos ⟨rfl,rfl⟩];split<;>omega
   ·rw[if_neg e];split<;>omega
structure pj (n:Nat) (c f:Nat->Nat->Int) (x y:Nat) (val:Int):Prop where
 le:∀u v,u<n->v<n->f u v<=c u v
 cut:∀S:Nat->Bool,S x=true->S y=false->nv n S f=val
theorem pj.zero {n:Nat} {c:Nat->Nat->Int} {x y:Nat} (h:∀u v,u<n->v<n->0<=c u v):pj n c (fun _ _=>0) x y 0:=
 ⟨h,fun S _ _=>kB fun u hu=>kB fun v hv=>by split<;>rfl⟩
theorem pj.aug {n:Nat} {c f:Nat->Nat->Int} {x y:Nat} {val:Int} (h:pj n c f x y val) {r:List Nat} (hl:(x::r).getLast (by simp)=y) (hn:(x::r).Nodup) (hr:sE f c (x::r)) (hb:∀v∈x::r,v<n):pj n c (nr f (x::r)) x y (val+1):=
 ⟨Ho _ _ hn hr h.le,fun S hx hy=>by rw[C0 r x f hb,hl,h.cut S hx hy,hx,hy];simp[bi]⟩
theorem pj.bound {n:Nat} {c f:Nat->Nat->Int} {x y:Nat} {val:Int} (h:pj n c f x y val) {S:Nat->Bool} (hx:S x=true) (hy:S y=false):val<=nv n S c:=by
 rw[<-h.cut S hx hy];exact Oz h.le
theorem pj.full {n:Nat} {c f:Nat->Nat->Int} {x y:Nat} {val:Int} (h:pj n c f x y val) {S:Nat->Bool} (hx:S x=true) (hy:S y=false) (hS:∀u v,u<n->v<n->S u=true->S v=false->¬f u v<c u v):val=nv n S c:=by
 rw[<-h.cut S hx hy]
 exact Oy fun u v hu hv h1 h2=>by have:=hS u v hu hv h1 h2;have:=h.le u v hu hv;omega
structure PB where
 a:Nat
 b:Nat
 s:Int
 deriving Inhabited
def cH (bs:List PB) (i:Nat):PB:=bs.getD i default
def jz (S:Nat->Bool) (bs:List PB):Int:=(bs.map fun b=>if S b.a=S b.b then 0 else b.s).sum
def oU (c:Nat->Nat->Int) (b:PB):Nat->Nat->Int:=bump (bump c b.a b.b b.s) b.b b.a b.s
def lZ (bs:List PB):Nat->Nat->Int:=bs.foldl oU fun _ _=>0
theorem GM (bs:List PB) (b:PB):lZ (bs++[b])=oU (lZ bs) b:=by simp[lZ]
theorem Dd {n:Nat} {S:Nat->Bool}:∀(bs:List PB) (c:Nat->Nat->Int),(∀b∈bs,b.a<n/\b.b<n)->nv n S (bs.foldl oU c)=nv n S c+jz S bs
 |[],c,_=>by simp[jz]
 |b::bs,c,h=>by
  have hb:=h b (by simp)
  rw[List.foldl_cons,Dd bs _ fun x hx=>h x (List.mem_cons_of_mem _ hx)]
  unfold oU jz
  rw[qu hb.2 hb.1,qu hb.1 hb.2,List.map_cons,List.sum_cons]
  cases S b.a<;>cases S b.b<;>simp<;>omega
theorem De {n:Nat} {S:Nat->Bool} {bs:List PB} (h:∀b∈bs,b.a<n/\b.b<n):nv n S (lZ bs)=jz S bs:=by
 rw[lZ,Dd bs _ h]
 have:nv n S (fun _ _=>0)=0:=kB fun u hu=>kB fun v hv=>by split<;>rfl
 omega
theorem Ca:∀(bs:List PB) (c:Nat->Nat->Int),(∀b∈bs,0<=b.s)->(∀u v,0<=c u v)->∀u v,0<=bs.foldl oU c u v
 |[],c,_,h=>h
 |b::bs,c,hb,h=>by
  rw[List.foldl_cons]
  refine Ca bs _ (fun x hx=>hb x (List.mem_cons_of_mem _ hx)) fun u v=>?_
  have:=hb b (by simp);have:=h u v
  unfold oU bump
  split<;>split<;>omega
theorem room_le:∀(bs:List PB) (c:Nat->Nat->Int) (m:Int),(∀b∈bs,b.s<=4)->(∀u v,c u v<=m)->0<=m->∀u v,bs.foldl oU c u v<=m+8*bs.length
 |[],c,m,_,h,_=>fun u v=>by have:=h u v;simp;omega
 |b::bs,c,m,hb,h,h0=>fun u v=>by
  rw[List.foldl_cons]
  have:=room_le bs (oU c b) (m+8) (fun x hx=>hb x (List.mem_cons_of_mem _ hx)) (fun u v=>by
   have:=hb b (by simp);have:=h u v
   unfold oU bump
   split<;>split<;>omega) ah u v
  simp only[List.length_cons];omega
def lK (n:Nat) (bs:List PB) (t:Int):Prop:=∀S:Nat->Bool,S 0=true->(∃y,y<n/\S y=false)->t<=jz S bs
def IE (S:Nat->Bool) (bs:List PB) (f:Nat->Int):Int:=mY (fun i=>f i*(bi (S (cH bs i).a)-bi (S (cH bs i).b))) bs.length
structure kJ (bs:List PB) (f:Nat->Int) (x y:Nat) (val:Int):Prop where
 le:∀i,i<bs.length->f i<=(cH bs i).s/\-(cH bs i).s<=f i
 cut:∀S:Nat->Bool,S x=true->S y=false->IE S bs f=val
theorem xz (S:Nat->Bool):∀bs:List PB,jz S bs=mY (fun i=>if S (cH bs i).a=S (cH bs i).b then 0 else(cH bs i).s) bs.length:=by
 intro bs
 have key:∀n,n<=bs.length->jz S (bs.take n)=mY (fun i=>if S (cH bs i).a=S (cH bs i).b then 0 else(cH bs i).s) n:=by
  intro n
  induction n with
  |zero=>intro _;rfl
  |succ n ih=>
   intro h
   have e:cH bs n=bs[n]:=by simp[cH,List.getD_eq_getElem?_getD,List.getElem?_eq_getElem (show n<bs.length by omega)]
   rw[List.take_succ_eq_append_getElem ah,mY,<-ih ah,e]
   unfold jz
   rw[List.map_append,List.sum_append]
   simp only[List.map_cons,List.map_nil,List.sum_cons,List.sum_nil,Int.add_zero]
 have:=key bs.length (Nat.le_refl _)
 rwa [List.take_length]at this
theorem kJ.bound {bs:List PB} {f:Nat->Int} {x y:Nat} {val:Int} (h:kJ bs f x y val) {S:Nat->Bool} (hx:S x=true) (hy:S y=false):val<=jz S bs:=by
 rw[<-h.cut S hx hy,xz]
 refine tM fun i hi=>?_
 have:=h.le i hi
 cases S (cH bs i).a<;>cases S (cH bs i).b<;>simp[bi]<;>omega
def gr (bs:List PB) (f:Nat->Int) (i u:Nat):Int:=if (cH bs i).a=u then(cH bs i).s-f i else(cH bs i).s+f i
def cw (bs:List PB) (i u:Nat):Nat:=if (cH bs i).a=u then(cH bs i).b else(cH bs i).a
theorem kJ.full {bs:List PB} {f:Nat->Int} {x y:Nat} {val:Int} (h:kJ bs f x y val) {S:Nat->Bool} (hx:S x=true) (hy:S y=false)
  (hS:∀i,i<bs.length->((cH bs i).a≠(cH bs i).b->(S (cH bs i).a=true->S (cH bs i).b=false->¬0<gr bs f i (cH bs i).a)/\(S (cH bs i).b=true->S (cH bs i).a=false->¬0<gr bs f i (cH bs i).b))):val=jz S bs:=by
 rw[<-h.cut S hx hy,xz]
 refine iT fun i hi=>?_
 have h1:=h.le i hi
 by_cases nV:(cH bs i).a=(cH bs i).b
 ·rw[nV];simp
 ·have h2:=hS i hi nV
  unfold gr at h2
  rw[if_pos rfl,if_neg nV]at h2
  cases ha:S (cH bs i).a<;>cases hb:S (cH bs i).b<;>rw[ha,hb]at h2<;>simp[bi]at h2 ⊢ <;>omega
def vY (bs:List PB) (f:Nat->Int) (i u:Nat):Nat->Int:=fun j=>f j+if j=i then(if (cH bs i).a=u then 1 else -1)else 0
theorem IF {S:Nat->Bool} {bs:List PB} {f:Nat->Int} {i u:Nat} (hi:i<bs.length) (hu:(cH bs i).a=u∨(cH bs i).b=u):IE S bs (vY bs f i u)=IE S bs f+bi (S u)-bi (S (cw bs i u)):=by
 unfold IE vY
 have e:∀j,j<bs.length->(f j+if j=i then(if (cH bs i).a=u then 1 else -1)else 0)*(bi (S (cH bs j).a)-bi (S (cH bs j).b))=(fun j=>f j*(bi (S (cH bs j).a)-bi (S (cH bs j).b))) j+if j=i then(if (cH bs i).a=u then 1 else -1)*(bi (S (cH bs i).a)-bi (S (cH bs i).b))else 0:=by
  intro j hj
  by_cases h:j=i
  ·subst h;simp only[if_true];rw[Int.add_mul]
  ·simp only[h,if_false];simp
 rw[iT e,qN,if_pos hi]
 unfold cw
 by_cases ha:(cH bs i).a=u
 ·rw[if_pos ha,if_pos ha,ha];omega
 ·rw[if_neg ha,if_neg ha]
  rcases hu with hu|hu
  ·exact absurd hu ha
  ·rw[hu];omega
theorem pZ:∀(n:Nat) (l:List Nat),l.Nodup->(∀x∈l,x<n)->l.length<=n
 |0,l,_,h=>by
  cases l with
  |nil=>simp
  |cons x l=>exact absurd (h x (by simp)) ah
 |n+1,l,hn,h=>by
  have h1:=pZ n (l.erase n) (hn.erase _) fun x hx=>by
   have h2:=(hn.mem_erase_iff).1 hx
   have h3:=h x h2.2
   have h4:=h2.1
   omega
  rw[List.length_erase]at h1
  split at h1<;>omega
def eX (L:Nat->Nat) (b:PB):Nat->Nat:=fun k=>if L k=max (L b.a) (L b.b)then min (L b.a) (L b.b)else L k
def eL (bs:List PB):Nat->Nat:=bs.foldl eX id
theorem xY (bs:List PB) (b:PB):eL (bs++[b])=eX (eL bs) b:=by simp[eL]
structure j8 (L:Nat->Nat):Prop where
 le:∀k,L k<=k
 idem:∀k,L (L k)=L k
theorem j8.step {L:Nat->Nat} (h:j8 L) (b:PB):j8 (eX L b):=by
 have ha:=h.idem b.a
 have hb:=h.idem b.b
 refine⟨fun k=>?_,fun k=>?_⟩
 ·have:=h.le k
  unfold eX
  split<;>omega
 ·have hk:=h.idem k
  have hm:L (min (L b.a) (L b.b))=min (L b.a) (L b.b):=by
   rcases Nat.le_total (L b.a) (L b.b)with h1|h1
   ·rw[Nat.min_eq_left h1,ha]
   ·rw[Nat.min_eq_right h1,hb]
  unfold eX
  by_cases h1:L k=max (L b.a) (L b.b)
  ·rw[if_pos h1,hm];split<;>rfl
  ·rw[if_neg h1,hk,if_neg h1]
theorem xZ:∀(bs:List PB) (L:Nat->Nat),j8 L->j8 (bs.foldl eX L)
 |[],_,h=>h
 |b::bs,L,h=>xZ bs _ (h.step b)
theorem vP (bs:List PB):j8 (eL bs):=xZ bs id ⟨fun _=>Nat.le_refl _,fun _=>rfl⟩
def leads (n:Nat) (L:Nat->Nat):List Nat:=(List.range n).filter fun i=>L i==i
def members (n:Nat) (L:Nat->Nat) (i:Nat):List Nat:=(List.range n).filter fun k=>L k==i
def fY (n:Nat) (L:Nat->Nat):List (List Nat):=(leads n L).map (members n L)
def cu (L:Nat->Nat) (k:Nat):Nat:=(leads (L k) L).length
theorem iz (n:Nat) (L:Nat->Nat):leads (n+1) L=leads n L++if L n=n then[n]else[]:=by
 unfold leads
 rw[List.range_succ,List.filter_append]
 congr 1
 by_cases h:L n=n<;>simp[h]
theorem jR (n:Nat) (L:Nat->Nat) (i:Nat):members (n+1) L i=members n L i++if L n=i then[n]else[]:=by
 unfold members
 rw[List.range_succ,List.filter_append]
 congr 1
 by_cases h:L n=i<;>simp[h]
theorem n9 {L:Nat->Nat} (h:j8 L) {n i:Nat} (hn:n<=i):members n L i=[]:=by
 unfold members
 rw[List.filter_eq_nil_iff]
 intro k hk
 have:=h.le k
 have:=List.mem_range.1 hk
 simp;omega
theorem vQ (n:Nat) (L:Nat->Nat):(leads n L).Nodup:=List.nodup_range.filter _
theorem Ar {n:Nat} {L:Nat->Nat} {i:Nat}:i∈leads n L↔i<n/\L i=i:=by simp[leads]
theorem mJ {n:Nat} {L:Nat->Nat} {i k:Nat}:k∈members n L i↔k<n/\L k=i:=by simp[members]
theorem Jy {L:Nat->Nat} {m n:Nat} (h:m<=n):∃r,leads n L=leads m L++r:=by
 obtain⟨d,rfl⟩:=Nat.le.dest h
 clear h
 induction d with
 |zero=>exact⟨[],by simp⟩
 |succ d ih=>
  obtain⟨r,hr⟩:=ih
  exact⟨r++if L (m+d)=m+d then[m+d]else[],by rw[<-Nat.add_assoc,iz,hr,List.append_assoc]⟩
theorem qy {L:Nat->Nat} (h:j8 L) {n k:Nat} (hk:k<n):(leads n L)[cu L k]? =some (L k):=by
 have h1:=h.le k
 obtain⟨r,hr⟩:=Jy (L:=L) (show L k+1<=n by omega)
 rw[hr,iz,if_pos (h.idem k),List.append_assoc]
 unfold cu
 rw[List.getElem?_append_right (Nat.le_refl _),Nat.sub_self];rfl
theorem kS {L:Nat->Nat} (h:j8 L) {n k:Nat} (hk:k<n):cu L k<(leads n L).length:=(List.getElem?_eq_some_iff.1 (qy h hk)).1
theorem uN {L:Nat->Nat} (h:j8 L) {n k i:Nat} (hk:k<n) (hi:i<(leads n L).length):k∈members n L (leads n L)[i]↔cu L k=i:=by
 rw[mJ]
 have h1:=qy h hk
 rw[List.getElem?_eq_getElem (kS h hk)]at h1
 injection h1 with h1
 constructor
 ·rintro⟨_,h2⟩
  rw[<-h1]at h2
  exact(List.getElem_inj (vQ n L)).1 h2
 ·rintro rfl
  exact⟨hk,h1.symm⟩
def dF (L:Nat->Nat) (bs:List PB):List PB:=bs.filterMap fun b=>if cu L b.a=cu L b.b then none else some ⟨cu L b.a,cu L b.b,b.s⟩
def ft (L:Nat->Nat) (bs:List PB):List PB:=bs.filterMap fun b=>if cu L b.a=cu L b.b then none else some ⟨min (cu L b.a) (cu L b.b),max (cu L b.a) (cu L b.b),b.s⟩
theorem Cb (L:Nat->Nat) (bs:List PB) (b:PB):dF L (bs++[b])=dF L bs++if cu L b.a=cu L b.b then[]else[⟨cu L b.a,cu L b.b,b.s⟩]:=by
 unfold dF
 rw[List.filterMap_append]
 congr 1
 by_cases h:cu L b.a=cu L b.b<;>simp[h]
theorem Cc (L:Nat->Nat) (bs:List PB) (b:PB):ft L (bs++[b])=ft L bs++if cu L b.a=cu L b.b then[]else[⟨min (cu L b.a) (cu L b.b),max (cu L b.a) (cu L b.b),b.s⟩]:=by
 unfold ft
 rw[List.filterMap_append]
 congr 1
 by_cases h:cu L b.a=cu L b.b<;>simp[h]
theorem uu (S:Nat->Bool) (b:PB) (bs:List PB):jz S (b::bs)=(if S b.a=S b.b then 0 else b.s)+jz S bs:=by simp[jz]
theorem zS (S:Nat->Bool) (L:Nat->Nat):∀bs:List PB,jz S (ft L bs)=jz S (dF L bs)
 |[]=>rfl
 |b::bs=>by
  have ih:=zS S L bs
  unfold ft dF at ih ⊢
  rw[List.filterMap_cons,List.filterMap_cons]
  by_cases h:cu L b.a=cu L b.b
  ·simp only[h,if_true];exact ih
  ·simp only[h,if_false]
   rw[uu,uu,ih]
   congr 1
   simp only
   rcases Nat.le_total (cu L b.a) (cu L b.b)with h1|h1
   ·rw[Nat.min_eq_left h1,Nat.max_eq_right h1]
   ·rw[Nat.min_eq_right h1,Nat.max_eq_left h1]
    cases S (cu L b.a)<;>cases S (cu L b.b)<;>rfl
theorem GR {L:Nat->Nat} (h:j8 L) {n:Nat} {bs:List PB} (hb:∀b∈bs,b.a<n/\b.b<n):∀b∈dF L bs,b.a<(leads n L).length/\b.b<(leads n L).length/\b.a≠b.b/\∃c∈bs,b.s=c.s:=by
 intro b hm
 unfold dF at hm
 obtain⟨c,hc,he⟩:=List.mem_filterMap.1 hm
 split at he
 ·cases he
 ·rename_i iD
  simp only[Option.some.injEq]at he
  subst he
  exact⟨kS h (hb c hc).1,kS h (hb c hc).2,iD,c,hc,rfl⟩
theorem GU {L:Nat->Nat} (h:j8 L) {n:Nat} {bs:List PB} (hb:∀b∈bs,b.a<n/\b.b<n):∀b∈ft L bs,b.a<(leads n L).length/\b.b<(leads n L).length/\b.a≠b.b/\∃c∈bs,b.s=c.s:=by
 intro b hm
 unfold ft at hm
 obtain⟨c,hc,he⟩:=List.mem_filterMap.1 hm
 split at he
 ·cases he
 ·rename_i iD
  simp only[Option.some.injEq]at he
  subst he
  have h1:=kS h (hb c hc).1
  have h2:=kS h (hb c hc).2
  refine⟨by simp only;omega,by simp only;omega,by simp only;omega,c,hc,rfl⟩
theorem oq (L:Nat->Nat) (bs:List PB):(dF L bs).length<=bs.length/\(ft L bs).length<=bs.length:=⟨List.length_filterMap_le ..,List.length_filterMap_le ..⟩
theorem kj (n:Nat) (L:Nat->Nat):(leads n L).length<=n:=by
 have:=List.length_filter_le (fun i=>L i==i) (List.range n)
 simpa[leads]using this
def aW (t:Int) (bs:List PB):List PB:=bs.filter fun b=>decide (t<=b.s)
def qp (n:Nat) (bs:List PB) (t:Int):Prop:=
 (leads n (eL (aW t bs))).length<=64/\lK (leads n (eL (aW t bs))).length (dF (eL (aW t bs)) bs) t
theorem Gb {n:Nat} {L:Nat->Nat} {bs:List PB} {t:Int}:lK n (ft L bs) t↔lK n (dF L bs) t:=by
 unfold lK
 constructor<;>intro h S h0 hy<;>have:=h S h0 hy<;>rw[zS]at *<;>exact this
end Go.Proofs.YtgoljkjaameagaaGreat.V

namespace Go.Proofs.YtgoljkjaameagaaGreat.V
open Go.RowKit
attribute [local irreducible] dK wpOps gw Call
attribute [local go_sem] aM fE eM fV fS dc upd cr K.av cI AV.cells AV.cell rowOf rowsOf part ld rowAt bE cj dy dS gU bJ cY ee fQ e6 dp dX cW cV dI dJ bP bc cL bL cP cN dV dY dW cK bU cX dU bK aO cR cC gT bw cG bQ aY dj aZ dz AV.undef bD bG dM dQ dE dG cE ec eh cz ea dZ cQ cU List.getD_cons_zero List.getD_cons_succ List.getD_nil List.all_cons List.all_nil Bool.and_true Bool.true_and Bool.and_self Bool.not_true Bool.not_false Option.map_some Option.map_none Option.bind_some Option.bind_none List.length_cons List.length_nil List.take_succ_cons List.take_zero List.take_nil List.drop_succ_cons List.drop_zero List.drop_nil List.head?_cons List.map_cons List.map_nil List.getElem?_cons_zero List.getElem?_cons_succ List.cons_append List.nil_append List.append_nil List.length_map List.set_cons_zero List.set_cons_succ Nat.reduceMul eq_self Int.toNat_natCast Int.natCast_nonneg and_self true_and and_true decide_true decide_false Bool.false_eq_true Nat.zero_add Nat.add_zero List.contains_cons List.contains_nil Bool.or_false Bool.false_or beq_self_eq_true Nat.reduceBEq ne_eq not_true_eq_false not_false_eq_true Id.mk.injEq false_and and_false Nat.reduceLT Int.reduceLE Int.reduceLT Int.reduceToNat Int.reduceNeg Int.reduceAdd Nat.le_refl List.length_append beq_true beq_false Bool.not_eq_eq_eq_not or_false false_or dH aj ar aH bh bz ck aV bd aX bf cJ bB
def aD (b:PB):List AV:=[.int .i64 b.a,.int .i64 b.b,.int .i64 b.s]
theorem Rh:∀b:PB,(aD b).length=3/\(aD b).all AV.cell=true:=fun _=>⟨rfl,rfl⟩
theorem Bo (g:Rows) (n:Nat) (b:PB):cZ g (n+1) (aD b)=some (aD b):=by simp[aD,aj,ar,aH]
theorem wV (g:Rows) (n:Nat) (b:PB):ep g (n+1) (aD b)=some (aD b):=by simp[aD,bW,cF,eO]
theorem Lk:UK aD (fun c=>.agg (aD c)) 3 true:=⟨fun _=>rfl,fun _=>rfl,fun x g=>by simp only[aD,aj,ar,bd,aH,Option.map_some]⟩
def nS (s:ax) (l:List aa) (i:Nat) (d:Int):List PB:=
 if 0<=eG l (bt (aL l i).aJ d)/\0<iH s (aL l i).br d (aL l (eG l (bt (aL l i).aJ d)).toNat).br then
  [⟨i,(eG l (bt (aL l i).aJ d)).toNat,iH s (aL l i).br d (aL l (eG l (bt (aL l i).aJ d)).toNat).br⟩]else[]
def gL (s:ax) (l:List aa) (i m:Nat):List PB:=(List.range m).flatMap fun j:Nat=>nS s l i (1-(j:Int))
def iv (s:ax) (l:List aa) (n:Nat):List PB:=(List.range n).flatMap fun i=>gL s l i 2
def de (s:ax) (l:List aa):List PB:=iv s l l.length
theorem rj (s:ax) (l:List aa) (i m:Nat):gL s l i (m+1)=gL s l i m++nS s l i (1-(m:Int)):=by simp[gL,List.range_succ]
theorem sM (s:ax) (l:List aa) (n:Nat):iv s l (n+1)=iv s l n++gL s l n 2:=by simp[iv,List.range_succ]
theorem Fz (s:ax) (l:List aa) (i:Nat) (d:Int):(nS s l i d).length<=1:=by unfold nS;split<;>simp
theorem sL (s:ax) (l:List aa) (i m:Nat):(gL s l i m).length<=m:=by
 induction m with
 |zero=>simp[gL]
 |succ m ih=>rw[rj,List.length_append];have:=Fz s l i (1-(m:Int));omega
theorem vh (s:ax) (l:List aa) (n:Nat):(iv s l n).length<=2*n:=by
 induction n with
 |zero=>simp[iv]
 |succ n ih=>rw[sM,List.length_append];have:=sL s l n 2;omega
def sB:Id->Prop:=fun o=>o.site=124001000∨o.site=124012006
theorem Gn (s:ax) (l:List aa) (hS:js s) (hA:jZ s l):au Tryz.prog 124 [.dn (ad s),.dn [.sl (l.map ab)]] (.sl ((de s l).map aD)):=by
 refine au.body eF rfl fun hl n0=>?_
 clear hl
 have hF:=hA.1
 have DH:=hF.zm
 (try((repeat(revert hN;revert N;apply Pn.out));refine wk @Nat.zero_add ?_;(repeat(refine Pn.mk ?_;intro N hN))))
 refine aQ (fun n env st=>∃k:Nat,n=(l.length)-k/\k<=(l.length)/\env 6=.int .i64 (k:Int)/\(nN aD 3 (env 5) st.get sB (iv s l k))) (l.length) ⟨0,ah,ah,sl @Nat.zero_add,⟨⟨124001000,n0+1⟩,.inl rfl,by simp only[go_sem, ↓reduceIte,Nat.reduceEqDiff,Nat.reduceAdd,Nat.reduceSub,Nat.reduceLeDiff,reduceCtorEq];rfl,by simp only[go_sem, ↓reduceIte,Nat.reduceEqDiff,Nat.reduceAdd,Nat.reduceSub,Nat.reduceLeDiff,reduceCtorEq];rfl⟩⟩ ?_
 rintro n_a env_a st_a ⟨k,rfl,ale,a6,ke⟩ dv
 have a0:=dv 0 (by kernel_rfl);have a1:=dv 1 (by kernel_rfl)
 simp only[go_sem, ↓reduceIte,Nat.reduceEqDiff,Nat.reduceAdd,Nat.reduceSub,Nat.reduceLeDiff,reduceCtorEq]at a0 a1
 clear dv
 by_cases hk:(k:Int)<(l.length:Int)
 ·have cq:∀{e:Env} {gg:Rows},(e 6=.int .i64 (IntKind.i64.wrap ((k:Int)+1)))->(nN aD 3 (e 5) gg sB (iv s l (k+1)))->∃m0,m0<(l.length)-k/\∃k:Nat,m0=(l.length)-k/\k<=(l.length)/\e 6=.int .i64 (k:Int)/\(nN aD 3 (e 5) gg sB (iv s l k)):=fun x1 x2=>⟨_,ah,k+1,rfl,ah,(by rw[x1,ay ah]),x2⟩
  have fy:k<l.length:=ah
  have eP:=fF fy
  have Pg:=vh s l k
  (try((repeat(revert hN;revert N;apply Pn.out));refine wk (tw @a6 (tw @a0 (tw @a1 @hk))) ?_;(repeat(refine Pn.mk ?_;intro N hN))))
  refine aQ (fun n env st=>∃m:Nat,n=(2)-m/\m<=(2)/\env 7=(.int .i64 (1-(m:Int)))/\(nN aD 3 (env 5) st.get sB (iv s l k++gL s l k m))) (2) ⟨0,ah,ah,sl (tw @a6 (tw @a0 @a1)),by(simp only[go_sem, ↓reduceIte,Nat.reduceEqDiff,Nat.reduceAdd,Nat.reduceSub,Nat.reduceLeDiff,reduceCtorEq];exact ke.cast (by simp[gL]))⟩ ?_
  rintro n_b env_b st_b ⟨m,rfl,ble,b7,bI0⟩ eI
  have b0:=eI 0 (by kernel_rfl);have b1:=eI 1 (by kernel_rfl);have b6:=eI 6 (by kernel_rfl)
  simp only[go_sem, ↓reduceIte,Nat.reduceEqDiff,Nat.reduceAdd,Nat.reduceSub,Nat.reduceLeDiff,reduceCtorEq,a6,a0,a1]at b0 b1 b6
  clear eI
  have I7:=sL s l k m
  have mH:=rj s l k m
  by_cases hm:(m:Int)<2
  ·have eZ:∀{e:Env} {gg:Rows},(e 7=(.int .i64 (1-((m+1):Int))))->(nN aD 3 (e 5) gg sB (iv s l k++gL s l k (m+1)))->∃m0,m0<(2)-m/\∃m:Nat,m0=(2)-m/\m<=(2)/\e 7=(.int .i64 (1-(m:Int)))/\(nN aD 3 (e 5) gg sB (iv s l k++gL s l k m)):=fun x1 x2=>⟨_,ah,m+1,rfl,ah,x1,x2⟩
   have o9:(0:Int)<=1-(m:Int):=ah
   have hd:iV (1-(m:Int)) 0 3=true:=jm ah
   have hw:IntKind.i64.wrap (1-(m:Int)-1)=1-((m:Int)+1):=by rw[bq ah];omega
   have XL:=zA l hF k (1-(m:Int)) fy hd
   unfold nS at mH
   have hT:=hA.2 _ (gO fy)
   generalize E7:eG l (bt (aL l k).aJ (1-(m:Int)))=ix at *
   by_cases hi:ix<0
   ·rw[if_neg ah,List.append_nil]at mH
    (repeat(first|((repeat(revert hN;revert N;apply Pn.out));refine wk (tw @b7 (tw @b0 (tw @b1 (tw @b6 (tw @o9 (tw @hw @hi)))))) ?_;(repeat(refine Pn.mk ?_;intro N hN)))|((try apply Or.inl);refine⟨_,au.x (XL) (sd (tw @b7 (tw @b0 (tw @b1 (tw @b6 (tw @o9 (tw @hw @hi))))))),?_⟩;refine hN _ _ ?_;clear hN N)))
    exact eZ (sd (tw @b7 (tw @b0 (tw @b1 (tw @b6 @hw))))) (by(simp only[go_sem, ↓reduceIte,Nat.reduceEqDiff,Nat.reduceAdd,Nat.reduceSub,Nat.reduceLeDiff,reduceCtorEq];exact bI0.cast (by rw[mH])))
   ·have HL:0<=ix:=ah
    have Sz:=lz (l:=l) (p:=bt (aL l k).aJ (1-(m:Int))) ah
    rw[E7]at Sz
    have jF:=fF Sz.1
    have Ac:=Jp s hS (aL l k).br (1-(m:Int)) (aL l ix.toNat).br hT (hA.2 _ (gO Sz.1)) hd
    generalize Xx:iH s (aL l k).br (1-(m:Int)) (aL l ix.toNat).br=bv at *
    by_cases hb:0<bv
    ·rw[if_pos ⟨HL,hb⟩]at mH
     (repeat(first|((repeat(revert hN;revert N;apply Pn.out));refine wa (tw @b7 (tw @b0 (tw @b1 (tw @b6 (tw @o9 (tw @hw (tw @hi (tw @HL (tw @eP (tw @jF (tw @hb @ab.eq_1))))))))))) ?_;(repeat(refine Pn.mk ?_;intro N hN)))|((try apply Or.inl);refine⟨_,au.x (XL) (sd (tw @b7 (tw @b0 (tw @b1 (tw @b6 (tw @o9 (tw @hw (tw @hi (tw @HL (tw @eP (tw @jF (tw @hb @ab.eq_1)))))))))))),?_⟩;refine hN _ _ ?_;clear hN N)|((try apply Or.inl);refine⟨_,au.x (Ac) (sd (tw @b7 (tw @b0 (tw @b1 (tw @b6 (tw @o9 (tw @hw (tw @hi (tw @HL (tw @eP (tw @jF (tw @hb @ab.eq_1)))))))))))),?_⟩;refine hN _ _ ?_;clear hN N)))
     refine TE (enc:=aD) (S:=sB) (L:=iv s l k++gL s l k m) (xv:=env_b 5) [⟨k,ix.toNat,bv⟩] rfl rfl (sd @Nat.zero_add) (bI0.frame fun o ho=>by rcases ho with ho|ho<;>simp only[go_sem, ↓reduceIte,Nat.reduceEqDiff,Nat.reduceAdd,Nat.reduceSub,Nat.reduceLeDiff,reduceCtorEq,Cd ho]) (sd (tw @aD.eq_1 (Int.toNat_of_nonneg HL))) Rh (.inr rfl) (by simp only[dz,List.length_append,List.length_cons,List.length_nil];omega) fun v g' hO j4=>?_
     rw[List.append_assoc,<-mH]at hO
     clear j4
     (try((repeat(revert hN;revert N;apply Pn.out));refine wk (tw @b7 (tw @b0 (tw @b1 (tw @b6 @hw)))) ?_;(repeat(refine Pn.mk ?_;intro N hN))))
     exact eZ (sd (tw @b7 (tw @b0 (tw @b1 (tw @b6 @hw))))) (by(simp only[go_sem, ↓reduceIte,Nat.reduceEqDiff,Nat.reduceAdd,Nat.reduceSub,Nat.reduceLeDiff,reduceCtorEq];exact hO))
    ·rw[if_neg fun h=>hb h.2,List.append_nil]at mH
     (repeat(first|((repeat(revert hN;revert N;apply Pn.out));refine wk (tw @b7 (tw @b0 (tw @b1 (tw @b6 (tw @o9 (tw @hw (tw @hi (tw @HL (tw @eP (tw @jF (tw @hb @ab.eq_1))))))))))) ?_;(repeat(refine Pn.mk ?_;intro N hN)))|((try apply Or.inl);refine⟨_,au.x (XL) (sd (tw @b7 (tw @b0 (tw @b1 (tw @b6 (tw @o9 (tw @hw (tw @hi (tw @HL (tw @eP (tw @jF (tw @hb @ab.eq_1)))))))))))),?_⟩;refine hN _ _ ?_;clear hN N)|((try apply Or.inl);refine⟨_,au.x (Ac) (sd (tw @b7 (tw @b0 (tw @b1 (tw @b6 (tw @o9 (tw @hw (tw @hi (tw @HL (tw @eP (tw @jF (tw @hb @ab.eq_1)))))))))))),?_⟩;refine hN _ _ ?_;clear hN N)))
     exact eZ (sd (tw @b7 (tw @b0 (tw @b1 (tw @b6 @hw))))) (by(simp only[go_sem, ↓reduceIte,Nat.reduceEqDiff,Nat.reduceAdd,Nat.reduceSub,Nat.reduceLeDiff,reduceCtorEq];exact bI0.cast (by rw[mH])))
  ·have QT:m=2:=ah
   subst QT
   have ei:¬(0:Int)<=1-((2:Nat):Int):=ah
   (try((repeat(revert hN;revert N;apply Pn.out));refine wk (tw @b7 (tw @b0 (tw @b1 (tw @b6 @ei)))) ?_;(repeat(refine Pn.mk ?_;intro N hN))))
   exact cq (sd (tw @a6 (tw @a0 (tw @a1 (tw @b7 (tw @b0 (tw @b1 @b6))))))) (by(simp only[go_sem, ↓reduceIte,Nat.reduceEqDiff,Nat.reduceAdd,Nat.reduceSub,Nat.reduceLeDiff,reduceCtorEq];exact bI0.cast (by rw[sM])))
 ·have lj:k=l.length:=ah
  (try((repeat(revert hN;revert N;apply Pn.out));refine wk (tw @a6 (tw @a0 (tw @a1 @hk))) ?_;(repeat(refine Pn.mk ?_;intro N hN))))
  exact yL (.inl rfl) (by simp only[go_sem, ↓reduceIte,Nat.reduceEqDiff,Nat.reduceAdd,Nat.reduceSub,Nat.reduceLeDiff,reduceCtorEq];rfl) (by rw[lj]at ke;exact ke.gF fun b=>wV _ _ b)
theorem Eb (a b:Nat):au Tryz.prog 192 [.int .i64 a,.int .i64 b] (.int .i64 (min a b:Nat)):=by
 refine au.body eF rfl fun hl n0=>?_
 clear hl
 by_cases h:(a:Int)<(b:Int)
 ·(try((repeat(revert hN;revert N;apply Pn.out));refine wk @h ?_;(repeat(refine Pn.mk ?_;intro N hN))))
  exact da (b:=(a:Int)) (.inl rfl) (sd @Nat.zero_add) ah
 ·(try((repeat(revert hN;revert N;apply Pn.out));refine wk @h ?_;(repeat(refine Pn.mk ?_;intro N hN))))
  exact da (b:=(b:Int)) (.inl rfl) (sd @Nat.zero_add) ah
theorem Ea (a b:Nat):au Tryz.prog 191 [.int .i64 a,.int .i64 b] (.int .i64 (max a b:Nat)):=by
 refine au.body eF rfl fun hl n0=>?_
 clear hl
 by_cases h:(b:Int)<(a:Int)
 ·(try((repeat(revert hN;revert N;apply Pn.out));refine wk @h ?_;(repeat(refine Pn.mk ?_;intro N hN))))
  exact da (b:=(a:Int)) (.inl rfl) (sd @Nat.zero_add) ah
 ·(try((repeat(revert hN;revert N;apply Pn.out));refine wk @h ?_;(repeat(refine Pn.mk ?_;intro N hN))))
  exact da (b:=(b:Int)) (.inl rfl) (sd @Nat.zero_add) ah
def ef (f:Nat->Nat) (n:Nat):List (List AV):=(List.range n).map fun i=>eN (f i)
theorem gP (f:Nat->Nat) (n:Nat):(ef f n).length=n:=by simp[ef]
theorem fK {f:Nat->Nat} {n i:Nat} (h:i<n):(ef f n)[i]? =some (eN (f i)):=by simp[ef,h]
theorem iL {f g:Nat->Nat} {n:Nat} (h:∀i,i<n->f i=g i):ef f n=ef g n:=List.map_congr_left fun i hi=>by rw[h i (List.mem_range.1 hi)]
theorem qO {f g:Nat->Nat} {n k v:Nat} (hk:k<n) (hv:g k=v) (h:∀i,i<n->i≠k->g i=f i):(ef f n).set k (eN v)=ef g n:=by
 refine List.ext_getElem? fun i=>?_
 rw[List.getElem?_set]
 by_cases hi:k=i
 ·subst hi
  rw[if_pos rfl,gP,if_pos hk,fK hk,hv]
 ·rw[if_neg hi]
  by_cases fZ:i<n
  ·rw[fK fZ,fK fZ,h i fZ (fun h=>hi h.symm)]
  ·rw[List.getElem?_eq_none (by rw[gP];omega),List.getElem?_eq_none (by rw[gP];omega)]
theorem Ec (cnt:Nat) (hn:cnt<=1048576) (bs:List PB) (hb:∀b∈bs,b.a<cnt/\b.b<cnt) (nW:bs.length<=1048576):au Tryz.prog 125 [.int .i64 cnt,.sl (bs.map aD)] (.sl ((fY cnt (eL bs)).map CC)):=by
 refine au.body eF rfl fun hl n0=>?_
 clear hl
 (try((repeat(revert hN;revert N;apply Pn.out));refine wk @Nat.zero_add ?_;(repeat(refine Pn.mk ?_;intro N hN))))
 refine aQ (fun n env st=>∃k:Nat,n=(cnt)-k/\k<=(cnt)/\env 6=.int .i64 (k:Int)/\(∃o:Id,env 5=.own o 0 k/\st.get o=some ⟨true,1,ef id k⟩/\o.bj<st.next)) (cnt) ⟨0,ah,ah,sl @Nat.zero_add,⟨⟨125001000,n0+1⟩,sd @Nat.zero_add,by simp only[go_sem, ↓reduceIte,Nat.reduceEqDiff,Nat.reduceAdd,Nat.reduceSub,Nat.reduceLeDiff,reduceCtorEq];rfl,aT⟩⟩ ?_
 rintro n_a env_a st_a ⟨k,rfl,ale,a6,ke⟩ dv
 have a0:=dv 0 (by kernel_rfl);have a1:=dv 1 (by kernel_rfl)
 simp only[go_sem, ↓reduceIte,Nat.reduceEqDiff,Nat.reduceAdd,Nat.reduceSub,Nat.reduceLeDiff,reduceCtorEq]at a0 a1
 clear dv
 obtain⟨o,a5,ag,sC⟩:=ke
 have tl:=gP id k
 have r4:=db sC
 by_cases hk:(k:Int)<(cnt:Int)
 ·have cq:∀{e:Env} {gg:Rows} {nx:Nat},(e 6=.int .i64 (IntKind.i64.wrap ((k:Int)+1)))->(∃o:Id,e 5=.own o 0 (k+1)/\gg o=some ⟨true,1,ef id (k+1)⟩/\o.bj<nx)->∃m0,m0<(cnt)-k/\∃k:Nat,m0=(cnt)-k/\k<=(cnt)/\e 6=.int .i64 (k:Int)/\(∃o:Id,e 5=.own o 0 k/\gg o=some ⟨true,1,ef id k⟩/\o.bj<nx):=fun x1 x2=>⟨_,ah,k+1,rfl,ah,(by rw[x1,ay ah]),x2⟩
  have fy:k<cnt:=ah
  have e1:k+1<=16777216:=ah
  have qZ:ef id k++[[.int .i64 (k:Int)]]=ef id (k+1):=by simp[ef,List.range_succ,eN]
  (try((repeat(revert hN;revert N;apply Pn.out));refine wk (tw @a6 (tw @a0 (tw @a1 (tw @a5 (tw @ag (tw @r4 (tw @hk (tw @tl (tw @e1 @qZ))))))))) ?_;(repeat(refine Pn.mk ?_;intro N hN))))
  exact cq (sd (tw @a6 (tw @a0 @a1))) (⟨⟨125005003,st_a.next+1⟩,sd @Nat.zero_add,sd @qZ,aT⟩)
 have lj:k=cnt:=ah
 subst lj
 have ZN:st_a.get o=some ⟨true,1,ef (eL (bs.take 0)) k⟩:=ag
 clear ag
 (try((repeat(revert hN;revert N;apply Pn.out));refine wk (tw @a6 (tw @a0 (tw @a1 @hk))) ?_;(repeat(refine Pn.mk ?_;intro N hN))))
 refine aQ (fun n env st=>∃j:Nat,n=(bs.length)-j/\j<=(bs.length)/\env 7=.int .i64 (j:Int)/\st.get o=some ⟨true,1,ef (eL (bs.take j)) k⟩/\(o.bj<st.next)) (bs.length) ⟨0,ah,ah,sl (tw @a6 (tw @a0 (tw @a1 (tw @a5 @ZN)))),sl (tw @a6 (tw @a0 (tw @a1 (tw @a5 @ZN)))),aT⟩ ?_
 rintro n_b env_b st_b ⟨j,rfl,ble,b7,bg0,bI0⟩ eI
 have b0:=eI 0 (by kernel_rfl);have b1:=eI 1 (by kernel_rfl);have b5:=eI 5 (by kernel_rfl)
 simp only[go_sem, ↓reduceIte,Nat.reduceEqDiff,Nat.reduceAdd,Nat.reduceSub,Nat.reduceLeDiff,reduceCtorEq,a6,a0,a1,a5,ZN]at b0 b1 b5
 clear eI
 by_cases hj:(j:Int)<(bs.length:Int)
 ·have eZ:∀{e:Env} {gg:Rows} {nx:Nat},(e 7=.int .i64 (IntKind.i64.wrap ((j:Int)+1)))->(gg o=some ⟨true,1,ef (eL (bs.take (j+1))) k⟩)->(o.bj<nx)->∃m0,m0<(bs.length)-j/\∃j:Nat,m0=(bs.length)-j/\j<=(bs.length)/\e 7=.int .i64 (j:Int)/\gg o=some ⟨true,1,ef (eL (bs.take j)) k⟩/\(o.bj<nx):=fun x1 x2 x3=>⟨_,ah,j+1,rfl,ah,(by rw[x1,ay ah]),x2,x3⟩
  have ga:j<bs.length:=ah
  have y8:(bs.map aD)[j]? =some (aD bs[j]):=by simp[ga]
  have OY:=hb _ (List.getElem_mem ga)
  have nj:bs.take (j+1)=bs.take j++[bs[j]]:=List.take_succ_eq_append_getElem ga
  have mH:eL (bs.take (j+1))=eX (eL (bs.take j)) bs[j]:=by rw[nj,xY]
  generalize eL (bs.take j)=L at *
  generalize bs[j]=b at *
  have hA:=fK (f:=L) OY.1
  have hB:=fK (f:=L) OY.2
  have Xp:=Eb (L b.a) (L b.b)
  have Xq:=Ea (L b.a) (L b.b)
  have tl:=gP L k
  have ij:(b.a:Int)<(k:Int):=ah
  have fR:(b.b:Int)<(k:Int):=ah
  (try((repeat(revert hN;revert N;apply Pn.out));refine wk (tw @b7 (tw @bg0 (tw @b0 (tw @b1 (tw @b5 (tw @hj (tw @y8 (tw @aD.eq_1 (tw @hA (tw @hB (tw @ij (tw @fR (tw @tl @eN.eq_1))))))))))))) ?_;(repeat(refine Pn.mk ?_;intro N hN))))
  refine aQ (fun n env st=>∃i:Nat,n=(k)-i/\i<=(k)/\env 10=.int .i64 (i:Int)/\st.get o=some ⟨true,1,ef (fun x=>if x<i then eX L b x else L x) k⟩/\(o.bj<st.next)) (k) ⟨0,ah,ah,sl (tw @b7 (tw @bg0 (tw @b0 (tw @b1 (tw @b5 @Nat.not_lt_zero))))),sl (tw @b7 (tw @bg0 (tw @b0 (tw @b1 (tw @b5 @Nat.not_lt_zero))))),aT⟩ ?_
  rintro n_c env_c st_c ⟨i,rfl,cle,jY,cg0,cI0⟩ jf
  have c0:=jf 0 (by kernel_rfl);have c1:=jf 1 (by kernel_rfl);have c5:=jf 5 (by kernel_rfl);have c7:=jf 7 (by kernel_rfl);have c8:=jf 8 (by kernel_rfl);have c9:=jf 9 (by kernel_rfl)
  simp only[go_sem, ↓reduceIte,Nat.reduceEqDiff,Nat.reduceAdd,Nat.reduceSub,Nat.reduceLeDiff,reduceCtorEq,b7,bg0,b0,b1,b5,Nat.not_lt_zero]at c0 c1 c5 c7 c8 c9
  clear jf
  have hC:=fK (f:=fun x=>if x<i then eX L b x else L x) (n:=k) (i:=i)
  have tc:=gP (fun x=>if x<i then eX L b x else L x) k
  by_cases hi:(i:Int)<(k:Int)
  ·have hZ:∀{e:Env} {gg:Rows} {nx:Nat},(e 10=.int .i64 (IntKind.i64.wrap ((i:Int)+1)))->(gg o=some ⟨true,1,ef (fun x=>if x<(i+1)then eX L b x else L x) k⟩)->(o.bj<nx)->∃m0,m0<(k)-i/\∃i:Nat,m0=(k)-i/\i<=(k)/\e 10=.int .i64 (i:Int)/\gg o=some ⟨true,1,ef (fun x=>if x<i then eX L b x else L x) k⟩/\(o.bj<nx):=fun x1 x2 x3=>⟨_,ah,i+1,rfl,ah,(by rw[x1,ay ah]),x2,x3⟩
   have fZ:i<k:=ah
   replace hC:=hC fZ
   rw[if_neg (Nat.lt_irrefl i)]at hC
   by_cases he:L i=max (L b.a) (L b.b)
   ·have w5:decide ((L i:Int)=((max (L b.a) (L b.b):Nat):Int))=true:=decide_eq_true (by rw[he])
    have eb:(ef (fun x=>if x<i then eX L b x else L x) k).set i (eN (min (L b.a) (L b.b)))=ef (fun x=>if x<i+1 then eX L b x else L x) k:=qO fZ (by rw[if_pos ah,eX,if_pos he]) fun x hx CI=>by
     by_cases h:x<i
     ·rw[if_pos h,if_pos ah]
     ·rw[if_neg h,if_neg ah]
    rw[eN]at eb hC
    (repeat(first|((repeat(revert hN;revert N;apply Pn.out));refine wk (tw @jY (tw @cg0 (tw @c0 (tw @c1 (tw @c5 (tw @c7 (tw @c8 (tw @c9 (tw @hi (tw @hC (tw @tc (tw @w5 @eb)))))))))))) ?_;(repeat(refine Pn.mk ?_;intro N hN)))|((try apply Or.inl);refine⟨_,au.x (Xp) (sd (tw @jY (tw @cg0 (tw @c0 (tw @c1 (tw @c5 (tw @c7 (tw @c8 (tw @c9 (tw @hi (tw @hC (tw @tc (tw @w5 @eb))))))))))))),?_⟩;refine hN _ _ ?_;clear hN N)|((try apply Or.inl);refine⟨_,au.x (Xq) (sd (tw @jY (tw @cg0 (tw @c0 (tw @c1 (tw @c5 (tw @c7 (tw @c8 (tw @c9 (tw @hi (tw @hC (tw @tc (tw @w5 @eb))))))))))))),?_⟩;refine hN _ _ ?_;clear hN N)))
    refine hZ ?_ ?_ aT
    all_goals simp only[go_sem, ↓reduceIte,Nat.reduceEqDiff,Nat.reduceAdd,Nat.reduceSub,Nat.reduceLeDiff,reduceCtorEq,jY,cg0,c0,c1,c5,c7,c8,c9]
   ·have w5:decide ((L i:Int)=((max (L b.a) (L b.b):Nat):Int))=false:=decide_eq_false fun h=>he ah
    have ny:ef (fun x=>if x<i then eX L b x else L x) k=ef (fun x=>if x<i+1 then eX L b x else L x) k:=iL fun x hx=>by
     by_cases h:x<i
     ·rw[if_pos h,if_pos ah]
     ·by_cases CI:x=i
      ·subst CI;rw[if_neg h,if_pos ah,eX,if_neg he]
      ·rw[if_neg h,if_neg ah]
    rw[eN]at hC
    (repeat(first|((repeat(revert hN;revert N;apply Pn.out));refine wk (tw @jY (tw @cg0 (tw @c0 (tw @c1 (tw @c5 (tw @c7 (tw @c8 (tw @c9 (tw @hi (tw @hC (tw @tc @w5))))))))))) ?_;(repeat(refine Pn.mk ?_;intro N hN)))|((try apply Or.inl);refine⟨_,au.x (Xp) (sd (tw @jY (tw @cg0 (tw @c0 (tw @c1 (tw @c5 (tw @c7 (tw @c8 (tw @c9 (tw @hi (tw @hC (tw @tc @w5)))))))))))),?_⟩;refine hN _ _ ?_;clear hN N)|((try apply Or.inl);refine⟨_,au.x (Xq) (sd (tw @jY (tw @cg0 (tw @c0 (tw @c1 (tw @c5 (tw @c7 (tw @c8 (tw @c9 (tw @hi (tw @hC (tw @tc @w5)))))))))))),?_⟩;refine hN _ _ ?_;clear hN N)))
    rw[ny]at cg0
    refine hZ ?_ ?_ aT
    all_goals simp only[go_sem, ↓reduceIte,Nat.reduceEqDiff,Nat.reduceAdd,Nat.reduceSub,Nat.reduceLeDiff,reduceCtorEq,jY,cg0,c0,c1,c5,c7,c8,c9]
  ·have Af:i=k:=ah
   subst Af
   have dP:ef (fun x=>if x<i then eX L b x else L x) i=ef (eX L b) i:=iL fun x hx=>if_pos hx
   rw[dP]at cg0
   rw[<-mH]at cg0
   (try((repeat(revert hN;revert N;apply Pn.out));refine wk (tw @jY (tw @cg0 (tw @c0 (tw @c1 (tw @c5 (tw @c7 (tw @c8 (tw @c9 (tw @hi @tc))))))))) ?_;(repeat(refine Pn.mk ?_;intro N hN))))
   refine eZ ?_ ?_ aT
   all_goals simp only[go_sem, ↓reduceIte,Nat.reduceEqDiff,Nat.reduceAdd,Nat.reduceSub,Nat.reduceLeDiff,reduceCtorEq,b7,bg0,b0,b1,b5,jY,cg0,c0,c1,c5,c7,c8,c9]
 have gY:j=bs.length:=ah
 subst gY
 rw[List.take_length]at bg0
 have hL:=vP bs
 generalize eL bs=L at *
 have tl:=gP L k
 (try((repeat(revert hN;revert N;apply Pn.out));refine wk (tw @b7 (tw @bg0 (tw @b0 (tw @b1 (tw @b5 @hj))))) ?_;(repeat(refine Pn.mk ?_;intro N hN))))
 have SH:o.bj<st_b.next:=bI0
 refine aQ (fun n env st=>∃i:Nat,n=(k)-i/\i<=(k)/\env 12=.int .i64 (i:Int)/\st.get o=some ⟨true,1,ef L k⟩/\(∃oo rows ids,env 11=.own oo 0 rows.length/\st.get oo=some ⟨true,1,rows⟩/\dD T6 st.get rows ((leads i L).map (members k L)) ids/\(∀x∈oo::ids,st_b.next<=x.bj/\x.bj<st.next)/\st_b.next<=st.next/\oo∉ids)) (k) ⟨0,ah,ah,sl (tw @b7 (tw @bg0 (tw @b0 (tw @b1 (tw @b5 (db SH)))))),sl (tw @b7 (tw @bg0 (tw @b0 (tw @b1 (tw @b5 (db SH)))))),⟨⟨125016000,st_b.next+1⟩,[],[],by(simp only[go_sem, ↓reduceIte,Nat.reduceEqDiff,Nat.reduceAdd,Nat.reduceSub,Nat.reduceLeDiff,reduceCtorEq])<;>rfl,sd @Nat.zero_add,.nil,fun x hx=>by rw[List.mem_singleton.1 hx];(try dsimp only);omega,aT,by simp⟩⟩ ?_
 rintro n_d env_d st_d ⟨i,rfl,dle,d12,dg0,dI0⟩ dfr
 have d0:=dfr 0 (by kernel_rfl);have d5:=dfr 5 (by kernel_rfl)
 simp only[go_sem, ↓reduceIte,Nat.reduceEqDiff,Nat.reduceAdd,Nat.reduceSub,Nat.reduceLeDiff,reduceCtorEq,b7,bg0,b0,b1,b5,db SH]at d0 d5
 clear dfr
 obtain⟨oo,rows,ids,d11,dg,hR,pd,hle,qw⟩:=dI0
 have qZ:=iz i L
 have pg:=hR.len
 by_cases hi:(i:Int)<(k:Int)
 ·have vV:∀{e:Env} {gg:Rows} {nx:Nat},(e 12=.int .i64 (IntKind.i64.wrap ((i:Int)+1)))->(gg o=some ⟨true,1,ef L k⟩)->(∃oo rows ids,e 11=.own oo 0 rows.length/\gg oo=some ⟨true,1,rows⟩/\dD T6 gg rows ((leads (i+1) L).map (members k L)) ids/\(∀x∈oo::ids,st_b.next<=x.bj/\x.bj<nx)/\st_b.next<=nx/\oo∉ids)->∃m0,m0<(k)-i/\∃i:Nat,m0=(k)-i/\i<=(k)/\e 12=.int .i64 (i:Int)/\gg o=some ⟨true,1,ef L k⟩/\(∃oo rows ids,e 11=.own oo 0 rows.length/\gg oo=some ⟨true,1,rows⟩/\dD T6 gg rows ((leads i L).map (members k L)) ids/\(∀x∈oo::ids,st_b.next<=x.bj/\x.bj<nx)/\st_b.next<=nx/\oo∉ids):=fun x1 x2 x3=>⟨_,ah,i+1,rfl,ah,(by rw[x1,ay ah]),x2,x3⟩
  have fZ:i<k:=ah
  have hC:=fK (f:=L) fZ
  have lI:=db (i:=o) (n:=st_d.next) ah
  have V8:=db (i:=oo) (n:=st_d.next) (pd oo (by simp)).2
  by_cases he:L i=i
  ·rw[if_pos he]at qZ
   have w5:decide ((L i:Int)=(i:Int))=true:=decide_eq_true (by rw[he])
   rw[eN]at hC
   (try((repeat(revert hN;revert N;apply Pn.out));refine wk (tw @d12 (tw @dg0 (tw @d0 (tw @d5 (tw @d11 (tw @dg (tw @hi (tw @hC (tw @tl (tw @w5 (tw @lI @V8))))))))))) ?_;(repeat(refine Pn.mk ?_;intro N hN))))
   refine aQ (fun n env st=>∃m:Nat,n=((k-i))-m/\m<=((k-i))/\env 14=(.int .i64 ((i+m:Nat):Int))/\(∃pp:Id,env 13=.own pp 0 (members (i+m) L i).length/\st.get pp=some ⟨true,1,(members (i+m) L i).map eN⟩/\st_d.next<=pp.bj/\pp.bj<st.next/\(∀x:Id,x.bj<st_d.next->st.get x=st_d.get x)/\st_d.next<=st.next)) ((k-i)) ⟨0,ah,ah,sl (tw @d12 (tw @dg0 (tw @d0 (tw @d5 @d11)))),⟨⟨125021000,st_d.next+1+1⟩,by rw[show members (i+0) L i=[]from n9 hL (Nat.le_refl i)];(simp only[go_sem, ↓reduceIte,Nat.reduceEqDiff,Nat.reduceAdd,Nat.reduceSub,Nat.reduceLeDiff,reduceCtorEq])<;>rfl,by rw[show members (i+0) L i=[]from n9 hL (Nat.le_refl i)];(simp only[go_sem, ↓reduceIte,Nat.reduceEqDiff,Nat.reduceAdd,Nat.reduceSub,Nat.reduceLeDiff,reduceCtorEq])<;>rfl,aT,aT,fun x hx=>sd (db hx),aT⟩⟩ ?_
   rintro n_f env_f st_f ⟨m,rfl,fle,f14,fI0⟩ ffr
   have f0:=ffr 0 (by kernel_rfl);have f5:=ffr 5 (by kernel_rfl);have f11:=ffr 11 (by kernel_rfl);have f12:=ffr 12 (by kernel_rfl)
   simp only[go_sem, ↓reduceIte,Nat.reduceEqDiff,Nat.reduceAdd,Nat.reduceSub,Nat.reduceLeDiff,reduceCtorEq,d12,dg0,d0,d5,d11]at f0 f5 f11 f12
   clear ffr
   obtain⟨pp,f13,fg,Pc,E9,j4,qx⟩:=fI0
   have wI:st_f.get o=some ⟨true,1,ef L k⟩:=(j4 o ah).trans dg0
   have Zo:st_f.get oo=some ⟨true,1,rows⟩:=(j4 oo (pd oo (by simp)).2).trans dg
   have CH:=db E9
   have DW:=db (i:=o) (n:=st_f.next) ah
   have V9:=db (i:=oo) (n:=st_f.next) (by have:=(pd oo (by simp)).2;omega)
   have SF:members (i+(m+1)) L i=members (i+m) L i++if L (i+m)=i then[i+m]else[]:=jR (i+m) L i
   have ZB:(members (i+m) L i).length<=i+m:=by
    have:=List.length_filter_le (fun k=>L k==i) (List.range (i+m))
    simpa[members]using this
   have x1:=bH (a:=o) (b:=pp) ah
   have x2:=bH (a:=oo) (b:=pp) (by have:=(pd oo (by simp)).2;omega)
   have x3:=bH (a:=o) (b:=oo) (by have:=(pd oo (by simp)).1;omega)
   by_cases hm:m<k-i
   ·have tr:∀{e:Env} {gg:Rows} {nx:Nat},(e 14=(.int .i64 ((i+(m+1):Nat):Int)))->(∃pp:Id,e 13=.own pp 0 (members (i+(m+1)) L i).length/\gg pp=some ⟨true,1,(members (i+(m+1)) L i).map eN⟩/\st_d.next<=pp.bj/\pp.bj<nx/\(∀x:Id,x.bj<st_d.next->gg x=st_d.get x)/\st_d.next<=nx)->∃m0,m0<((k-i))-m/\∃m:Nat,m0=((k-i))-m/\m<=((k-i))/\e 14=(.int .i64 ((i+m:Nat):Int))/\(∃pp:Id,e 13=.own pp 0 (members (i+m) L i).length/\gg pp=some ⟨true,1,(members (i+m) L i).map eN⟩/\st_d.next<=pp.bj/\pp.bj<nx/\(∀x:Id,x.bj<st_d.next->gg x=st_d.get x)/\st_d.next<=nx):=fun x1 x2=>⟨_,ah,m+1,rfl,ah,x1,x2⟩
    have VQ:((i+m:Nat):Int)<(k:Int):=ah
    have YO:=fK (f:=L) (show i+m<k by omega)
    have hw:IntKind.i64.wrap (((i+m:Nat):Int)+1)=((i+(m+1):Nat):Int):=by rw[bq ah];omega
    rw[eN]at YO
    by_cases hq:L (i+m)=i
    ·have nw:decide ((L (i+m):Int)=(i:Int))=true:=decide_eq_true (by rw[hq])
     rw[if_pos hq]at SF
     have e1:(members (i+m) L i).length+1<=16777216:=ah
     have ik:((members (i+m) L i).map eN).length=(members (i+m) L i).length:=by simp
     (try((repeat(revert hN;revert N;apply Pn.out));refine wk (tw @f14 (tw @f0 (tw @f5 (tw @f11 (tw @f12 (tw @f13 (tw @fg (tw @wI (tw @VQ (tw @YO (tw @tl (tw @nw (tw @CH (tw @DW (tw @x1 (tw @e1 @ik)))))))))))))))) ?_;(repeat(refine Pn.mk ?_;intro N hN))))
     exact tr (sd (tw @f14 (tw @f0 (tw @f5 (tw @f11 (tw @f12 (tw @wI (tw @hw (tw @DW @x1))))))))) (⟨⟨125026003,st_f.next+1+1⟩,by rw[SF,List.length_append];simp only[go_sem, ↓reduceIte,Nat.reduceEqDiff,Nat.reduceAdd,Nat.reduceSub,Nat.reduceLeDiff,reduceCtorEq,List.length_cons,List.length_nil],by rw[SF,List.map_append,List.map_cons,List.map_nil];simp only[go_sem, ↓reduceIte,Nat.reduceEqDiff,Nat.reduceAdd,Nat.reduceSub,Nat.reduceLeDiff,reduceCtorEq,eN],aT,aT,fun x hx=>by
      have y1:=j4 x hx
      have y2:=bH (a:=x) (b:=pp) ah
      simp only[go_sem, ↓reduceIte,Nat.reduceEqDiff,Nat.reduceAdd,Nat.reduceSub,Nat.reduceLeDiff,reduceCtorEq,db (show x.bj<st_f.next by omega),y1,y2],aT⟩)
    ·have nw:decide ((L (i+m):Int)=(i:Int))=false:=decide_eq_false fun h=>hq ah
     rw[if_neg hq,List.append_nil]at SF
     (try((repeat(revert hN;revert N;apply Pn.out));refine wk (tw @f14 (tw @f0 (tw @f5 (tw @f11 (tw @f12 (tw @f13 (tw @fg (tw @wI (tw @VQ (tw @YO (tw @tl (tw @nw (tw @CH (tw @DW @x1)))))))))))))) ?_;(repeat(refine Pn.mk ?_;intro N hN))))
     exact tr (sd (tw @f14 (tw @f0 (tw @f5 (tw @f11 (tw @f12 (tw @wI @hw))))))) (⟨pp,by rw[SF];simp only[go_sem, ↓reduceIte,Nat.reduceEqDiff,Nat.reduceAdd,Nat.reduceSub,Nat.reduceLeDiff,reduceCtorEq,f13],by rw[SF];simp only[go_sem, ↓reduceIte,Nat.reduceEqDiff,Nat.reduceAdd,Nat.reduceSub,Nat.reduceLeDiff,reduceCtorEq,fg],Pc,aT,j4,aT⟩)
   ·have hmk:i+m=k:=ah
    have VQ:¬((i+m:Nat):Int)<(k:Int):=ah
    rw[hmk]at f13 fg ZB
    have e1:rows.length+1<=16777216:=by
     have:=kj i L
     rw[pg,List.length_map];omega
    (try((repeat(revert hN;revert N;apply Pn.out));refine wk (tw @f14 (tw @f0 (tw @f5 (tw @f11 (tw @f12 (tw @f13 (tw @fg (tw @wI (tw @Zo (tw @VQ (tw @CH (tw @DW (tw @V9 (tw @x1 (tw @x2 @e1))))))))))))))) ?_;(repeat(refine Pn.mk ?_;intro N hN))))
    refine vV ?_ ?_ (⟨⟨125027003,st_f.next+1⟩,rows++[[.own pp 0 (members k L i).length]],ids++[pp],by rw[List.length_append];simp only[go_sem, ↓reduceIte,Nat.reduceEqDiff,Nat.reduceAdd,Nat.reduceSub,Nat.reduceLeDiff,reduceCtorEq,List.length_cons,List.length_nil],sd @Nat.zero_add,by
      rw[qZ,List.map_append]
      refine(hR.frame Ta fun x hx=>?_).app (.one ⟨pp,rfl,?_,rfl⟩)
      ·have h1:=pd x (by simp[hx])
       have y1:=j4 x h1.2
       have y2:=bH (a:=x) (b:=pp) ah
       have y3:(x=oo)=False:=by
        simp only[eq_iff_iff,iff_false]
        rintro rfl
        exact qw hx
       simp only[go_sem, ↓reduceIte,Nat.reduceEqDiff,Nat.reduceAdd,Nat.reduceSub,Nat.reduceLeDiff,reduceCtorEq,db (show x.bj<st_f.next by omega),y1,y2,y3]
      ·simp only[go_sem, ↓reduceIte,Nat.reduceEqDiff,Nat.reduceAdd,Nat.reduceSub,Nat.reduceLeDiff,reduceCtorEq,CH,x2,fg],fun x hx=>by
      rcases List.mem_cons.1 hx with rfl|hx
      ·(try dsimp only);omega
      ·rcases List.mem_append.1 hx with hx|hx
       ·have:=pd x (by simp[hx]);(try dsimp only);omega
       ·rw[List.mem_singleton.1 hx];(try dsimp only);omega,aT,fun hc=>by
      rcases List.mem_append.1 hc with hc|hc
      ·have:=(pd _ (List.mem_cons_of_mem _ hc)).2;(try dsimp only at this);omega
      ·have:=List.mem_singleton.1 hc;rw[<-this]at E9;(try dsimp only at E9);omega⟩)
    all_goals simp only[go_sem, ↓reduceIte,Nat.reduceEqDiff,Nat.reduceAdd,Nat.reduceSub,Nat.reduceLeDiff,reduceCtorEq,f14,f0,f5,f11,f12,wI,DW,x3]
  ·rw[if_neg he,List.append_nil]at qZ
   have w5:decide ((L i:Int)=(i:Int))=false:=decide_eq_false fun h=>he ah
   rw[eN]at hC
   (try((repeat(revert hN;revert N;apply Pn.out));refine wk (tw @d12 (tw @dg0 (tw @d0 (tw @d5 (tw @d11 (tw @dg (tw @hi (tw @hC (tw @tl (tw @w5 (tw @lI @V8))))))))))) ?_;(repeat(refine Pn.mk ?_;intro N hN))))
   refine vV ?_ ?_ (⟨oo,rows,ids,sd @d11,sd @dg,by rw[qZ];exact hR,fun x hx=>by have:=pd x hx;(try dsimp only);omega,aT,qw⟩)
   all_goals simp only[go_sem, ↓reduceIte,Nat.reduceEqDiff,Nat.reduceAdd,Nat.reduceSub,Nat.reduceLeDiff,reduceCtorEq,d12,dg0,d0,d5]
 ·have Af:i=k:=ah
  (try((repeat(revert hN;revert N;apply Pn.out));refine wk (tw @d12 (tw @dg0 (tw @d0 (tw @d5 (tw @d11 (tw @dg @hi)))))) ?_;(repeat(refine Pn.mk ?_;intro N hN))))
  refine yL (.inl rfl) (by simp only[go_sem, ↓reduceIte,Nat.reduceEqDiff,Nat.reduceAdd,Nat.reduceSub,Nat.reduceLeDiff,reduceCtorEq];rfl) ?_
  rw[qv dg (by simp) (rows':=(fY k L).map CC) (by rw[List.drop_zero,List.take_of_length_le (Nat.le_refl _)];rw[Af]at hR;exact Mt 3 hR)]
theorem yW (n:Nat):List.replicate n [AV.int .i64 0]=ef (fun _=>0) n:=by
 refine List.ext_getElem? fun i=>?_
 by_cases h:i<n
 ·rw[fK h,List.getElem?_replicate,if_pos h];rfl
 ·rw[List.getElem?_eq_none (by simp;omega),List.getElem?_eq_none (by rw[gP];omega)]
def di (cnt:Nat) (L:Nat->Nat) (i m:Nat):Nat->Nat:=fun x=>if cu L x<i then cu L x else if x∈(members cnt L ((leads cnt L).getD i 0)).take m then i else 0
theorem pY (cnt:Nat) (L:Nat->Nat):di cnt L 0 0=fun _=>0:=by funext x;simp[di]
theorem we (t:Int) (bs:List PB) (k:Nat) (h:k<bs.length):aW t (bs.take (k+1))=aW t (bs.take k)++if t<=(bs[k]).s then[bs[k]]else[]:=by
 unfold aW
 rw[List.take_succ_eq_append_getElem h,List.filter_append]
 congr 1
 by_cases h:t<=bs[k].s<;>simp[h]
theorem yT {t:Int} {bs:List PB} {b:PB} (h:b∈aW t bs):b∈bs:=(List.mem_filter.1 h).1
theorem ot (t:Int) (bs:List PB):(aW t bs).length<=bs.length:=List.length_filter_le _ _
theorem Ee (cnt:Nat) (hn:cnt<=1048576) (bs:List PB) (hb:∀b∈bs,b.a<cnt/\b.b<cnt) (nW:bs.length<=1048576) (t:Int):au Tryz.prog 240 [.int .i64 cnt,.sl (bs.map aD),.int .i64 t] (.gJ [.int .i64 (leads cnt (eL (aW t bs))).length,.sl ((ft (eL (aW t bs)) bs).map aD)]):=by
 refine au.body eF rfl fun hl n0=>?_
 clear hl
 (try((repeat(revert hN;revert N;apply Pn.out));refine wk @Nat.zero_add ?_;(repeat(refine Pn.mk ?_;intro N hN))))
 refine aQ (fun n env st=>∃k:Nat,n=(bs.length)-k/\k<=(bs.length)/\env 9=.int .i64 (k:Int)/\(∃o:Id,env 8=.own o 0 (aW t (bs.take k)).length/\st.get o=some ⟨true,3,(aW t (bs.take k)).map aD⟩/\o.bj<st.next)) (bs.length) ⟨0,ah,ah,sl @Nat.zero_add,⟨⟨240001000,n0+1⟩,by(simp only[go_sem, ↓reduceIte,Nat.reduceEqDiff,Nat.reduceAdd,Nat.reduceSub,Nat.reduceLeDiff,reduceCtorEq])<;>rfl,by(simp only[go_sem, ↓reduceIte,Nat.reduceEqDiff,Nat.reduceAdd,Nat.reduceSub,Nat.reduceLeDiff,reduceCtorEq])<;>rfl,aT⟩⟩ ?_
 rintro n_a env_a st_a ⟨k,rfl,ale,a9,ke⟩ dv
 have a0:=dv 0 (by kernel_rfl);have a1:=dv 1 (by kernel_rfl);have a2:=dv 2 (by kernel_rfl)
 simp only[go_sem, ↓reduceIte,Nat.reduceEqDiff,Nat.reduceAdd,Nat.reduceSub,Nat.reduceLeDiff,reduceCtorEq]at a0 a1 a2
 clear dv
 obtain⟨o,a8,ag,sC⟩:=ke
 have r4:=db sC
 by_cases hk:(k:Int)<(bs.length:Int)
 ·have cq:∀{e:Env} {gg:Rows} {nx:Nat},(e 9=.int .i64 (IntKind.i64.wrap ((k:Int)+1)))->(∃o:Id,e 8=.own o 0 (aW t (bs.take (k+1))).length/\gg o=some ⟨true,3,(aW t (bs.take (k+1))).map aD⟩/\o.bj<nx)->∃m0,m0<(bs.length)-k/\∃k:Nat,m0=(bs.length)-k/\k<=(bs.length)/\e 9=.int .i64 (k:Int)/\(∃o:Id,e 8=.own o 0 (aW t (bs.take k)).length/\gg o=some ⟨true,3,(aW t (bs.take k)).map aD⟩/\o.bj<nx):=fun x1 x2=>⟨_,ah,k+1,rfl,ah,(by rw[x1,ay ah]),x2⟩
  have fy:k<bs.length:=ah
  have eP:(bs.map aD)[k]? =some (aD bs[k]):=by simp[fy]
  have hs:=we t bs k fy
  have vJ:=ot t (bs.take k)
  rw[List.length_take]at vJ
  by_cases hc:t<=(bs[k]).s
  ·rw[if_pos hc]at hs
   have e1:(aW t (bs.take k)).length+1<=16777216:=ah
   have ik:((aW t (bs.take k)).map aD).length=(aW t (bs.take k)).length:=by simp
   generalize bs[k]=b at *
   (try((repeat(revert hN;revert N;apply Pn.out));refine wk (tw @a9 (tw @a0 (tw @a1 (tw @a2 (tw @a8 (tw @ag (tw @r4 (tw @hk (tw @eP (tw @hc (tw @e1 (tw @ik @aD.eq_1)))))))))))) ?_;(repeat(refine Pn.mk ?_;intro N hN))))
   exact cq (sd (tw @a9 (tw @a0 (tw @a1 @a2)))) (⟨⟨240006006,st_a.next+1+1⟩,by rw[hs,List.length_append];simp only[go_sem, ↓reduceIte,Nat.reduceEqDiff,Nat.reduceAdd,Nat.reduceSub,Nat.reduceLeDiff,reduceCtorEq,List.length_cons,List.length_nil],by rw[hs,List.map_append,List.map_cons,List.map_nil];simp only[go_sem, ↓reduceIte,Nat.reduceEqDiff,Nat.reduceAdd,Nat.reduceSub,Nat.reduceLeDiff,reduceCtorEq,aD],aT⟩)
  ·rw[if_neg hc,List.append_nil]at hs
   generalize bs[k]=b at *
   (try((repeat(revert hN;revert N;apply Pn.out));refine wk (tw @a9 (tw @a0 (tw @a1 (tw @a2 (tw @a8 (tw @ag (tw @r4 (tw @hk (tw @eP (tw @hc @aD.eq_1)))))))))) ?_;(repeat(refine Pn.mk ?_;intro N hN))))
   exact cq (sd (tw @a9 (tw @a0 (tw @a1 @a2)))) (⟨o,by rw[hs];simp only[go_sem, ↓reduceIte,Nat.reduceEqDiff,Nat.reduceAdd,Nat.reduceSub,Nat.reduceLeDiff,reduceCtorEq,a8],by rw[hs];simp only[go_sem, ↓reduceIte,Nat.reduceEqDiff,Nat.reduceAdd,Nat.reduceSub,Nat.reduceLeDiff,reduceCtorEq,ag],aT⟩)
 have lj:k=bs.length:=ah
 subst lj
 rw[List.take_length]at a8 ag
 have rm:=Ec cnt hn (aW t bs) (fun b h=>hb b (yT h)) (by have:=ot t bs;omega)
 have hL:=vP (aW t bs)
 have CF:fz (dH st_a.get) 6 (.own o 0 (aW t bs).length)=some (.sl ((aW t bs).map aD)):=fB (sz:=3) (by simp[dH,ag]) rfl fun b=>Bo _ 4 b
 have Zn:∀x,cZ (dH st_a.get) 6 [.int .i64 x,.own o 0 (aW t bs).length]=some [.int .i64 x,.sl ((aW t bs).map aD)]:=fun x=>by simp only[aj,ar,aH,CF,Option.map_some]
 (try((repeat(revert hN;revert N;apply Pn.out));refine wk (tw @a9 (tw @a0 (tw @a1 (tw @a2 (tw @a8 @hk))))) ?_;(repeat(refine Pn.mk ?_;intro N hN))))
 refine .inl ⟨_,au.x rm (Zn _),?_⟩
 refine hN _ _ ?_
 clear hN N
 generalize eL (aW t bs)=L at *
 have tZ:((fY cnt L).map CC).length=(leads cnt L).length:=by simp[fY]
 have XH:=kj cnt L
 have kb:(0:Int)<=(cnt:Int):=ah
 have qV:(cnt:Int)<=((16777216:Nat):Int):=ah
 have il:List.replicate cnt [AV.int .i64 0]=ef (di cnt L 0 0) cnt:=by rw[yW,pY]
 (try((repeat(revert hN;revert N;apply Pn.out));refine wk (tw @a9 (tw @a0 (tw @a1 (tw @a2 (tw @kb (tw @qV @Int.le_refl)))))) ?_;(repeat(refine Pn.mk ?_;intro N hN))))
 refine aQ (fun n env st=>∃i:Nat,n=((leads cnt L).length)-i/\i<=((leads cnt L).length)/\env 12=.int .i64 (i:Int)/\st.get ⟨240008001,st_a.next+1+1⟩=some ⟨true,1,ef (di cnt L i 0) cnt⟩/\(st_a.next+1+1<st.next)) ((leads cnt L).length) ⟨0,ah,ah,sl (tw @a9 (tw @a0 (tw @a1 (tw @a2 @il)))),sl (tw @a9 (tw @a0 (tw @a1 (tw @a2 @il)))),aT⟩ ?_
 rintro n_c env_c st_c ⟨i,rfl,cle,rI,cg0,cI0⟩ jf
 have c1:=jf 1 (by kernel_rfl);have jY:=jf 10 (by kernel_rfl);have oW:=jf 11 (by kernel_rfl)
 simp only[go_sem, ↓reduceIte,Nat.reduceEqDiff,Nat.reduceAdd,Nat.reduceSub,Nat.reduceLeDiff,reduceCtorEq,a9,a0,a1,a2,il]at c1 jY oW
 clear jf
 by_cases hi:(i:Int)<((leads cnt L).length:Int)
 ·have hZ:∀{e:Env} {gg:Rows} {nx:Nat},(e 12=.int .i64 (IntKind.i64.wrap ((i:Int)+1)))->(gg ⟨240008001,st_a.next+1+1⟩=some ⟨true,1,ef (di cnt L (i+1) 0) cnt⟩)->(st_a.next+1+1<nx)->∃m0,m0<((leads cnt L).length)-i/\∃i:Nat,m0=((leads cnt L).length)-i/\i<=((leads cnt L).length)/\e 12=.int .i64 (i:Int)/\gg ⟨240008001,st_a.next+1+1⟩=some ⟨true,1,ef (di cnt L i 0) cnt⟩/\(st_a.next+1+1<nx):=fun x1 x2 x3=>⟨_,ah,i+1,rfl,ah,(by rw[x1,ay ah]),x2,x3⟩
  have fZ:i<(leads cnt L).length:=ah
  have jF:((fY cnt L).map CC)[i]? =some (CC (members cnt L (leads cnt L)[i])):=by simp[fY,fZ]
  have tY:(leads cnt L).getD i 0=(leads cnt L)[i]:=by simp[List.getD_eq_getElem?_getD,fZ]
  have mc:∀m,di cnt L i m=fun x=>if cu L x<i then cu L x else if x∈(members cnt L (leads cnt L)[i]).take m then i else 0:=fun m=>by unfold di;rw[tY]
  have s7:=fun x (hx:x<cnt)=>uN hL (n:=cnt) (k:=x) (i:=i) hx fZ
  have lk:(members cnt L (leads cnt L)[i]).Nodup:=List.nodup_range.filter _
  have SE:∀x∈members cnt L (leads cnt L)[i],x<cnt:=fun x hx=>(mJ.1 hx).1
  have hMc:(members cnt L (leads cnt L)[i]).length<=cnt:=by
   have:=List.length_filter_le (fun k=>L k==(leads cnt L)[i]) (List.range cnt)
   simpa[members]using this
  generalize members cnt L (leads cnt L)[i]=M at *
  have E0:(M.map eN).length=M.length:=by simp
  (try((repeat(revert hN;revert N;apply Pn.out));refine wk (tw @rI (tw @cg0 (tw @c1 (tw @jY (tw @oW (tw @hi @tZ)))))) ?_;(repeat(refine Pn.mk ?_;intro N hN))))
  refine aQ (fun n env st=>∃m:Nat,n=(M.length)-m/\m<=(M.length)/\env 13=.int .i64 (m:Int)/\st.get ⟨240008001,st_a.next+1+1⟩=some ⟨true,1,ef (di cnt L i m) cnt⟩/\(st_a.next+1+1<st.next)) (M.length) ⟨0,ah,ah,sl (tw @rI (tw @cg0 (tw @c1 (tw @jY @oW)))),sl (tw @rI (tw @cg0 (tw @c1 (tw @jY @oW)))),aT⟩ ?_
  rintro n_d env_d st_d ⟨m,rfl,dle,d13,dg0,dI0⟩ dfr
  have d1:=dfr 1 (by kernel_rfl);have d10:=dfr 10 (by kernel_rfl);have d11:=dfr 11 (by kernel_rfl);have d12:=dfr 12 (by kernel_rfl)
  simp only[go_sem, ↓reduceIte,Nat.reduceEqDiff,Nat.reduceAdd,Nat.reduceSub,Nat.reduceLeDiff,reduceCtorEq,rI,cg0,c1,jY,oW]at d1 d10 d11 d12
  clear dfr
  have tl:=gP (di cnt L i m) cnt
  by_cases hm:(m:Int)<(M.length:Int)
  ·have vV:∀{e:Env} {gg:Rows} {nx:Nat},(e 13=.int .i64 (IntKind.i64.wrap ((m:Int)+1)))->(gg ⟨240008001,st_a.next+1+1⟩=some ⟨true,1,ef (di cnt L i (m+1)) cnt⟩)->(st_a.next+1+1<nx)->∃m0,m0<(M.length)-m/\∃m:Nat,m0=(M.length)-m/\m<=(M.length)/\e 13=.int .i64 (m:Int)/\gg ⟨240008001,st_a.next+1+1⟩=some ⟨true,1,ef (di cnt L i m) cnt⟩/\(st_a.next+1+1<nx):=fun x1 x2 x3=>⟨_,ah,m+1,rfl,ah,(by rw[x1,ay ah]),x2,x3⟩
   have BC:m<M.length:=ah
   have ua:(M.map eN)[m]? =some (eN M[m]):=by simp[BC]
   have xU:=SE _ (List.getElem_mem BC)
   have CI:(M[m]:Int)<(cnt:Int):=ah
   have Fe:=fK (f:=di cnt L i m) xU
   have eb:(ef (di cnt L i m) cnt).set M[m] (eN i)=ef (di cnt L i (m+1)) cnt:=qO xU (by
    have h1:=(s7 _ xU).1 (List.getElem_mem BC)
    rw[mc]
    simp only[]
    rw[if_neg ah,if_pos (by rw[List.take_succ_eq_append_getElem BC];exact List.mem_append_right _ (List.mem_singleton.2 rfl))]) fun x hx iD=>by
    rw[mc,mc]
    simp only[]
    rw[List.take_succ_eq_append_getElem BC]
    simp only[List.mem_append,List.mem_singleton,iD,or_false]
   rw[eN]at eb Fe
   generalize M[m]=xm at *
   (try((repeat(revert hN;revert N;apply Pn.out));refine wk (tw @d13 (tw @dg0 (tw @d1 (tw @d10 (tw @d11 (tw @d12 (tw @hm (tw @hi (tw @jF (tw @tZ (tw @ua (tw @E0 (tw @CI (tw @Fe (tw @tl (tw @eb (tw @CC.eq_1 @eN.eq_1))))))))))))))))) ?_;(repeat(refine Pn.mk ?_;intro N hN))))
   refine vV ?_ ?_ aT
   all_goals simp only[go_sem, ↓reduceIte,Nat.reduceEqDiff,Nat.reduceAdd,Nat.reduceSub,Nat.reduceLeDiff,reduceCtorEq,d13,dg0,d1,d10,d11,d12,eb]
  ·have ik:m=M.length:=ah
   subst ik
   have qx:ef (di cnt L i M.length) cnt=ef (di cnt L (i+1) 0) cnt:=iL fun x hx=>by
    rw[mc,List.take_length]
    simp only[di,List.take_zero,List.not_mem_nil,if_false]
    have h1:=s7 x hx
    by_cases h2:cu L x<i
    ·rw[if_pos h2,if_pos ah]
    ·rw[if_neg h2]
     by_cases h3:x∈M
     ·rw[if_pos h3,if_pos (by have:=h1.1 h3;omega),h1.1 h3]
     ·rw[if_neg h3,if_neg fun h4=>h3 (h1.2 ah)]
   (try((repeat(revert hN;revert N;apply Pn.out));refine wk (tw @d13 (tw @dg0 (tw @d1 (tw @d10 (tw @d11 (tw @d12 (tw @hm (tw @hi (tw @jF (tw @tZ (tw @E0 @CC.eq_1))))))))))) ?_;(repeat(refine Pn.mk ?_;intro N hN))))
   refine hZ ?_ ?_ aT
   all_goals simp only[go_sem, ↓reduceIte,Nat.reduceEqDiff,Nat.reduceAdd,Nat.reduceSub,Nat.reduceLeDiff,reduceCtorEq,rI,cg0,c1,jY,oW,d13,dg0,d1,d10,d11,d12,qx]
 have mb:i=(leads cnt L).length:=ah
 subst mb
 have qw:ef (di cnt L (leads cnt L).length 0) cnt=ef (cu L) cnt:=iL fun x hx=>by rw[di,if_pos (kS hL hx)]
 rw[qw]at cg0
 have tl:=gP (cu L) cnt
 (try((repeat(revert hN;revert N;apply Pn.out));refine wk (tw @rI (tw @cg0 (tw @c1 (tw @jY (tw @oW (tw @hi @tZ)))))) ?_;(repeat(refine Pn.mk ?_;intro N hN))))
 have Xy:st_a.next+1+1<st_c.next:=cI0
 refine aQ (fun n env st=>∃j:Nat,n=(bs.length)-j/\j<=(bs.length)/\env 15=.int .i64 (j:Int)/\st.get ⟨240008001,st_a.next+1+1⟩=some ⟨true,1,ef (cu L) cnt⟩/\(∃p:Id,env 14=.own p 0 (ft L (bs.take j)).length/\st.get p=some ⟨true,3,(ft L (bs.take j)).map aD⟩/\st_c.next<=p.bj/\p.bj<st.next)) (bs.length) ⟨0,ah,ah,sl (tw @rI (tw @cg0 (tw @c1 (tw @jY @oW)))),sl (tw @rI (tw @cg0 (tw @c1 (tw @jY @oW)))),⟨⟨240016000,st_c.next+1⟩,by(simp only[go_sem, ↓reduceIte,Nat.reduceEqDiff,Nat.reduceAdd,Nat.reduceSub,Nat.reduceLeDiff,reduceCtorEq])<;>rfl,by(simp only[go_sem, ↓reduceIte,Nat.reduceEqDiff,Nat.reduceAdd,Nat.reduceSub,Nat.reduceLeDiff,reduceCtorEq])<;>rfl,aT,aT⟩⟩ ?_
 rintro n_f env_f st_f ⟨j,rfl,fle,f15,fg0,fI0⟩ ffr
 have f1:=ffr 1 (by kernel_rfl);have f10:=ffr 10 (by kernel_rfl);have f11:=ffr 11 (by kernel_rfl)
 simp only[go_sem, ↓reduceIte,Nat.reduceEqDiff,Nat.reduceAdd,Nat.reduceSub,Nat.reduceLeDiff,reduceCtorEq,rI,cg0,c1,jY,oW]at f1 f10 f11
 clear ffr
 obtain⟨p,f14,fg,Pc,E9⟩:=fI0
 have x1:=bH (a:=⟨240008001,st_a.next+1+1⟩) (b:=p) aT
 have CH:=db E9
 have hvn:st_a.next+1+1<st_f.next:=ah
 have Jh:=db (i:=⟨240008001,st_a.next+1+1⟩) (n:=st_f.next) hvn
 have vJ:=(oq L (bs.take j)).2
 rw[List.length_take]at vJ
 by_cases hj:(j:Int)<(bs.length:Int)
 ·have tr:∀{e:Env} {gg:Rows} {nx:Nat},(e 15=.int .i64 (IntKind.i64.wrap ((j:Int)+1)))->(gg ⟨240008001,st_a.next+1+1⟩=some ⟨true,1,ef (cu L) cnt⟩)->(∃p:Id,e 14=.own p 0 (ft L (bs.take (j+1))).length/\gg p=some ⟨true,3,(ft L (bs.take (j+1))).map aD⟩/\st_c.next<=p.bj/\p.bj<nx)->∃m0,m0<(bs.length)-j/\∃j:Nat,m0=(bs.length)-j/\j<=(bs.length)/\e 15=.int .i64 (j:Int)/\gg ⟨240008001,st_a.next+1+1⟩=some ⟨true,1,ef (cu L) cnt⟩/\(∃p:Id,e 14=.own p 0 (ft L (bs.take j)).length/\gg p=some ⟨true,3,(ft L (bs.take j)).map aD⟩/\st_c.next<=p.bj/\p.bj<nx):=fun x1 x2 x3=>⟨_,ah,j+1,rfl,ah,(by rw[x1,ay ah]),x2,x3⟩
  have ga:j<bs.length:=ah
  have y8:(bs.map aD)[j]? =some (aD bs[j]):=by simp[ga]
  have OY:=hb _ (List.getElem_mem ga)
  have hs:=Cc L (bs.take j) bs[j]
  rw[<-List.take_succ_eq_append_getElem ga]at hs
  generalize bs[j]=b at *
  have hA:=fK (f:=cu L) OY.1
  have hB:=fK (f:=cu L) OY.2
  have ij:(b.a:Int)<(cnt:Int):=ah
  have fR:(b.b:Int)<(cnt:Int):=ah
  have Xp:=Eb (cu L b.a) (cu L b.b)
  have Xq:=Ea (cu L b.a) (cu L b.b)
  rw[eN]at hA hB
  by_cases he:cu L b.a=cu L b.b
  ·rw[if_pos he,List.append_nil]at hs
   have w5:decide ((cu L b.a:Int)=(cu L b.b:Int))=true:=decide_eq_true (by rw[he])
   (try((repeat(revert hN;revert N;apply Pn.out));refine wk (tw @f15 (tw @fg0 (tw @f1 (tw @f10 (tw @f11 (tw @f14 (tw @fg (tw @hj (tw @y8 (tw @hA (tw @hB (tw @ij (tw @fR (tw @tl (tw @w5 (tw @x1 (tw @CH @aD.eq_1))))))))))))))))) ?_;(repeat(refine Pn.mk ?_;intro N hN))))
   refine tr ?_ ?_ (⟨p,by rw[hs];simp only[go_sem, ↓reduceIte,Nat.reduceEqDiff,Nat.reduceAdd,Nat.reduceSub,Nat.reduceLeDiff,reduceCtorEq,f14],by rw[hs];simp only[go_sem, ↓reduceIte,Nat.reduceEqDiff,Nat.reduceAdd,Nat.reduceSub,Nat.reduceLeDiff,reduceCtorEq,fg],Pc,aT⟩)
   all_goals simp only[go_sem, ↓reduceIte,Nat.reduceEqDiff,Nat.reduceAdd,Nat.reduceSub,Nat.reduceLeDiff,reduceCtorEq,f15,fg0,f1,f10,f11]
  ·rw[if_neg he]at hs
   have w5:decide ((cu L b.a:Int)=(cu L b.b:Int))=false:=decide_eq_false fun h=>he ah
   have e1:(ft L (bs.take j)).length+1<=16777216:=ah
   have ik:((ft L (bs.take j)).map aD).length=(ft L (bs.take j)).length:=by simp
   (repeat(first|((repeat(revert hN;revert N;apply Pn.out));refine wk (tw @f15 (tw @fg0 (tw @f1 (tw @f10 (tw @f11 (tw @f14 (tw @fg (tw @hj (tw @y8 (tw @hA (tw @hB (tw @ij (tw @fR (tw @tl (tw @w5 (tw @x1 (tw @CH (tw @Jh (tw @e1 (tw @ik @aD.eq_1)))))))))))))))))))) ?_;(repeat(refine Pn.mk ?_;intro N hN)))|((try apply Or.inl);refine⟨_,au.x (Xp) (sd (tw @f15 (tw @fg0 (tw @f1 (tw @f10 (tw @f11 (tw @f14 (tw @fg (tw @hj (tw @y8 (tw @hA (tw @hB (tw @ij (tw @fR (tw @tl (tw @w5 (tw @x1 (tw @CH (tw @Jh (tw @e1 (tw @ik @aD.eq_1))))))))))))))))))))),?_⟩;refine hN _ _ ?_;clear hN N)|((try apply Or.inl);refine⟨_,au.x (Xq) (sd (tw @f15 (tw @fg0 (tw @f1 (tw @f10 (tw @f11 (tw @f14 (tw @fg (tw @hj (tw @y8 (tw @hA (tw @hB (tw @ij (tw @fR (tw @tl (tw @w5 (tw @x1 (tw @CH (tw @Jh (tw @e1 (tw @ik @aD.eq_1))))))))))))))))))))),?_⟩;refine hN _ _ ?_;clear hN N)))
   refine tr ?_ ?_ (⟨⟨240023014,st_f.next+1+1+1+1⟩,by rw[hs,List.length_append];simp only[go_sem, ↓reduceIte,Nat.reduceEqDiff,Nat.reduceAdd,Nat.reduceSub,Nat.reduceLeDiff,reduceCtorEq,List.length_cons,List.length_nil],by rw[hs,List.map_append,List.map_cons,List.map_nil];simp only[go_sem, ↓reduceIte,Nat.reduceEqDiff,Nat.reduceAdd,Nat.reduceSub,Nat.reduceLeDiff,reduceCtorEq,aD],aT,aT⟩)
   all_goals simp only[go_sem, ↓reduceIte,Nat.reduceEqDiff,Nat.reduceAdd,Nat.reduceSub,Nat.reduceLeDiff,reduceCtorEq,f15,fg0,f1,f10,f11,x1,Jh]
 ·have gY:j=bs.length:=ah
  subst gY
  rw[List.take_length]at f14 fg
  (try((repeat(revert hN;revert N;apply Pn.out));refine wk (tw @f15 (tw @fg0 (tw @f1 (tw @f10 (tw @f11 (tw @f14 (tw @hj @tZ))))))) ?_;(repeat(refine Pn.mk ?_;intro N hN))))
  refine jU (.inl rfl) (r1:=.int .i64 ((leads cnt L).length:Int)) (sd @Nat.zero_add) (by simp only[go_sem, ↓reduceIte,Nat.reduceEqDiff,Nat.reduceAdd,Nat.reduceSub,Nat.reduceLeDiff,reduceCtorEq];rfl) ?_
  have h1:gF st_f.get 5 (.own p 0 (ft L bs).length)=some (.sl ((ft L bs).map aD)):=gq (sz:=3) fg rfl fun b=>wV _ 3 b
  simp only[fH,bW,cF,eO,h1,Option.map_some]
end Go.Proofs.YtgoljkjaameagaaGreat.V

namespace Go.Proofs.YtgoljkjaameagaaGreat.V
def Hk (bs:List PB) (e v:Nat):Prop:=(cH bs e).a=v∨(cH bs e).b=v
def jn (bs:List PB) (m v:Nat):List Nat:=(List.range m).filter fun i=>(cH bs i).a==v||(cH bs i).b==v
theorem te {bs:List PB} {m v e:Nat}:e∈jn bs m v↔e<m/\Hk bs e v:=by simp[jn,Hk]
theorem Jl (bs:List PB) (m v:Nat):jn bs (m+1) v=jn bs m v++if (cH bs m).a=v∨(cH bs m).b=v then[m]else[]:=by
 unfold jn
 rw[List.range_succ,List.filter_append]
 congr 1
 by_cases h:(cH bs m).a=v<;>by_cases h2:(cH bs m).b=v<;>simp[h,h2]
theorem td (bs:List PB) (m v:Nat):(jn bs m v).length<=m:=by
 have:=List.length_filter_le (fun i=>(cH bs i).a==v||(cH bs i).b==v) (List.range m)
 simpa[jn]using this
def oF (cnt:Nat) (bs:List PB):Prop:=∀e,e<bs.length->(cH bs e).a<cnt/\(cH bs e).b<cnt/\(cH bs e).a≠(cH bs e).b
theorem qa {cnt:Nat} {bs:List PB} (h:oF cnt bs) {e v:Nat} (he:e<bs.length):cw bs e v<cnt:=by
 have:=h e he;unfold cw;split;exact this.2.1;exact this.1
theorem MH {cnt:Nat} {bs:List PB} (h:oF cnt bs) {e v:Nat} (he:e<bs.length) (hi:Hk bs e v):cw bs e v≠v:=by
 have h1:=(h e he).2.2
 unfold cw
 split
 ·rename_i ha;rw[<-ha];exact fun h=>h1 h.symm
 ·rename_i ha;rcases hi with hi|hi
  ·exact absurd hi ha
  ·rw[<-hi];exact h1
theorem AE {bs:List PB} {e v:Nat}:Hk bs e (cw bs e v):=by
 unfold cw Hk;split
 ·exact .inr rfl
 ·exact .inl rfl
theorem qb {cnt:Nat} {bs:List PB} (h:oF cnt bs) {e v:Nat} (he:e<bs.length) (hi:Hk bs e v):cw bs e (cw bs e v)=v:=by
 have h1:=(h e he).2.2
 unfold cw
 by_cases ha:(cH bs e).a=v
 ·rw[if_pos ha,if_neg h1];exact ha
 ·rw[if_neg ha,if_pos rfl]
  rcases hi with hi|hi
  ·exact absurd hi ha
  ·exact hi
structure A3 (cnt:Nat) (bs:List PB) (f:Nat->Int) (y:Nat) (out:Nat->Int):Prop where
 lo:∀v,v<cnt->-1<=out v/\out v<=cnt
 first:out y=0
 zero:∀v,v<cnt->out v=0->v=y
 down:∀v,v<cnt->0<out v->∃e,e<bs.length/\Hk bs e v/\0<gr bs f e v/\out (cw bs e v)=out v-1
 shut:∀e v,e<bs.length->Hk bs e v->0<=out (cw bs e v)->0<gr bs f e v->0<=out v
structure CA (cnt:Nat) (bs:List PB) (f:Nat->Int) (y:Nat) (out:Nat->Int) (Q:List Nat) (i:Nat):Prop where
 nd:Q.Nodup
 lt:∀x∈Q,x<cnt
 iff:∀v,v<cnt->(0<=out v↔v∈Q)
 lo:∀v,v<cnt->-1<=out v
 first:out y=0
 up:∀j (h:j<Q.length),out Q[j]<=j
 zero:∀v,v<cnt->out v=0->v=y
 down:∀v,v<cnt->0<out v->∃e,e<bs.length/\Hk bs e v/\0<gr bs f e v/\out (cw bs e v)=out v-1
 shut:∀j (h:j<Q.length),j<i->∀e,e<bs.length->Hk bs e Q[j]->0<gr bs f e (cw bs e Q[j])->0<=out (cw bs e Q[j])
section
variable {cnt:Nat} {bs:List PB} {f:Nat->Int} {y:Nat} {out:Nat->Int} {Q:List Nat} {i:Nat}
theorem CA.start (hy:y<cnt):CA cnt bs f y (fun v=>if v=y then 0 else -1) [y] 0 where
 nd:=by simp
 lt:=fun x hx=>by rw[List.mem_singleton.1 hx];exact hy
 iff:=fun v _=>by
  by_cases h:v=y<;>simp[h]
 lo:=fun v _=>by split<;>omega
 first:=if_pos rfl
 up:=fun j h=>by
  have:j=0:=by simp at h;omega
  subst this;simp
 zero:=fun v _ h=>by
  by_cases hv:v=y
  ·exact hv
  ·rw[if_neg hv]at h;omega
 down:=fun v _ h=>by
  by_cases hv:v=y
  ·rw[if_pos hv]at h;omega
  ·rw[if_neg hv]at h;omega
 shut:=fun j h hj=>by omega
theorem CA.len (h:CA cnt bs f y out Q i):Q.length<=cnt:=pZ cnt Q h.nd h.lt
theorem CA.visit (h:CA cnt bs f y out Q i) (ok:oF cnt bs) (hi:i<Q.length) {e:Nat} (he:e<bs.length) (qW:Hk bs e Q[i]) (kQ:out (cw bs e Q[i])<0) (gG:0<gr bs f e (cw bs e Q[i])):
  CA cnt bs f y (fun v=>if v=cw bs e Q[i]then out Q[i]+1 else out v) (Q++[cw bs e Q[i]]) i:=by
 have Q0:0<=out Q[i]:=(h.iff _ (h.lt _ (List.getElem_mem hi))).2 (List.getElem_mem hi)
 have hq:=qa ok (v:=Q[i]) he
 have iD:=MH ok he qW
 have LZ:=qb ok he qW
 have ZH:cw bs e Q[i]∉Q:=fun hm=>by have:=(h.iff _ hq).2 hm;omega
 have mc:=h.up i hi
 generalize hw:cw bs e Q[i]=w at *
 have tf:∀v,0<=out v->(if v=w then out Q[i]+1 else out v)=out v:=fun v hv=>by
  rw[if_neg];rintro rfl;omega
 have mono:∀v,0<=out v->0<=(if v=w then out Q[i]+1 else out v):=fun v hv=>by rw[tf v hv];exact hv
 refine⟨?_,?_,?_,?_,?_,?_,?_,?_,?_⟩
 ·rw[List.nodup_append]
  exact⟨h.nd,by simp,fun a ha b hb=>by rw[List.mem_singleton.1 hb];rintro rfl;exact ZH ha⟩
 ·intro x hx
  rcases List.mem_append.1 hx with hx|hx
  ·exact h.lt x hx
  ·rw[List.mem_singleton.1 hx];exact hq
 ·intro v hv
  by_cases KB:v=w
  ·subst KB;simp;omega
  ·rw[if_neg KB,h.iff v hv];simp[KB]
 ·intro v hv
  by_cases KB:v=w
  ·rw[if_pos KB];omega
  ·rw[if_neg KB];exact h.lo v hv
 ·rw[tf y (by rw[h.first];exact Int.le_refl _)];exact h.first
 ·intro j hj
  by_cases gY:j<Q.length
  ·rw[List.getElem_append_left gY,tf _ ((h.iff _ (h.lt _ (List.getElem_mem gY))).2 (List.getElem_mem gY))]
   exact h.up j gY
  ·have O2:j=Q.length:=by simp at hj;omega
   subst O2
   simp
   omega
 ·intro v hv h0
  by_cases KB:v=w
  ·rw[if_pos KB]at h0;omega
  ·rw[if_neg KB]at h0;exact h.zero v hv h0
 ·intro v hv h0
  by_cases KB:v=w
  ·subst KB
   rw[if_pos rfl]
   refine⟨e,he,by rw[<-hw];exact AE,gG,?_⟩
   rw[LZ,tf _ Q0];omega
  ·rw[if_neg KB]at h0 ⊢
   obtain⟨e',h1,h2,h3,h4⟩:=h.down v hv h0
   exact⟨e',h1,h2,h3,by rw[tf _ ah];exact h4⟩
 ·intro j hj nL e' Bz QP hr
  have gY:j<Q.length:=ah
  rw[List.getElem_append_left gY]at QP hr ⊢
  exact mono _ (h.shut j gY nL e' Bz QP hr)
theorem CA.next (h:CA cnt bs f y out Q i) (hi:i<Q.length) (hs:∀e∈jn bs bs.length Q[i],0<gr bs f e (cw bs e Q[i])->0<=out (cw bs e Q[i])):CA cnt bs f y out Q (i+1):=
 ⟨h.nd,h.lt,h.iff,h.lo,h.first,h.up,h.zero,h.down,fun j hj nL e he qW hr=>by
  by_cases O2:j=i
  ·subst O2;exact hs e (te.2 ⟨he,qW⟩) hr
  ·exact h.shut j hj ah e he qW hr⟩
theorem CA.done (h:CA cnt bs f y out Q i) (ok:oF cnt bs) (hi:Q.length<=i):A3 cnt bs f y out where
 lo:=fun v hv=>⟨h.lo v hv,by
  by_cases h0:0<=out v
  ·obtain⟨j,hj,rfl⟩:=List.getElem_of_mem ((h.iff v hv).1 h0)
   have:=h.up j hj
   have:=h.len
   omega
  ·omega⟩
 first:=h.first
 zero:=h.zero
 down:=h.down
 shut:=fun e v he qW h0 hr=>by
  obtain⟨j,hj,Uk⟩:=List.getElem_of_mem ((h.iff _ (qa ok he)).1 h0)
  have h2:=h.shut j hj ah e he (by rw[Uk];exact AE)
  rw[Uk,qb ok he qW]at h2
  exact h2 hr
end
end Go.Proofs.YtgoljkjaameagaaGreat.V

namespace Go.Proofs.YtgoljkjaameagaaGreat.V
open Go.RowKit
attribute [local irreducible] dK wpOps gw Call
attribute [local go_sem] aM fE eM fV fS dc upd cr K.av cI AV.cells AV.cell rowOf rowsOf part ld rowAt bE cj dy dS gU bJ cY ee fQ e6 dp dX cW cV dI dJ bP bc cL bL cP cN dV dY dW cK bU cX dU bK aO cR cC gT bw cG bQ aY dj aZ dz AV.undef bD bG dM dQ dE dG cE ec eh cz ea dZ cQ cU List.getD_cons_zero List.getD_cons_succ List.getD_nil List.all_cons List.all_nil Bool.and_true Bool.true_and Bool.and_self Bool.not_true Bool.not_false Option.map_some Option.map_none Option.bind_some Option.bind_none List.length_cons List.length_nil List.take_succ_cons List.take_zero List.take_nil List.drop_succ_cons List.drop_zero List.drop_nil List.head?_cons List.map_cons List.map_nil List.getElem?_cons_zero List.getElem?_cons_succ List.cons_append List.nil_append List.append_nil List.length_map List.set_cons_zero List.set_cons_succ Nat.reduceMul eq_self Int.toNat_natCast Int.natCast_nonneg and_self true_and and_true decide_true decide_false Bool.false_eq_true Nat.zero_add Nat.add_zero List.contains_cons List.contains_nil Bool.or_false Bool.false_or beq_self_eq_true Nat.reduceBEq ne_eq not_true_eq_false not_false_eq_true Id.mk.injEq false_and and_false Nat.reduceLT Int.reduceLE Int.reduceLT Int.reduceToNat Int.reduceNeg Int.reduceAdd Nat.le_refl List.length_append beq_true beq_false Bool.not_eq_eq_eq_not or_false false_or dH aj ar aH bh bz ck aV bd aX bf cJ bB
def oE (P:Program) (f:Nat) (args:List AV) (R:AV->Prop):Prop:=∀n:Nat,Call P f args ⟨fun _=>none,n⟩ fun r0 σ'=>∃r',gF σ'.get 6 r0=some r'/\R r'
theorem IY {P:Program} {f:Nat} {args args':List AV} {g:Rows} {n:Nat} {R:AV->Prop} (hv:cZ (dH g) 6 args=some args') (h:Sound P f args' ⟨fun _=>none,n⟩ fun r0 σ'=>∃r',gF σ'.get 6 r0=some r'/\R r'):Sound P f args ⟨g,n⟩ fun r σ'=>R r/\σ'=⟨g,n⟩:=by
 intro hs D ι w vs S U A
 refine(zL (g0:=g) (K:=R) ⟨args',hv,h⟩ (fun _ _ h=>h) S U A).mono ?_
 rintro e w' ⟨r,D',u,rfl,hR,T,S',hr⟩
 exact⟨r,g,n,D',ι,u,rfl,⟨hR,rfl⟩,T,S',U,Nat.le_refl _,hr⟩
theorem oE.x {P:Program} (hm:P.follows .mixedOrders=true) {f:Nat} {args args':List AV} {R:AV->Prop} (h:oE P f args' R) {σ:aw} (hv:cZ (dH σ.get) 6 args=some args'):Call P f args σ fun r σ'=>R r/\σ'=σ:=
 fN (IY hv (gS hm (h σ.next)))
theorem oE.body {P:Program} {f:Nat} {args:List AV} {R:AV->Prop} {nt na:Nat} {body:VC} {res:List oR} (hf:nK P f=some ⟨nt,na,body,res⟩) (ha:na=args.length) (h:(∀a∈args,eY a)->∀n:Nat,dK (Call P) body (lE res fun r0 σ'=>∃r',gF σ'.get 6 r0=some r'/\R r') (cr args) ⟨fun _=>none,n⟩):oE P f args R:=fun n=>nk hf ha fun hl=>h hl n
def eB (f:Nat->Int) (n:Nat):List (List AV):=(List.range n).map fun i=>aU (f i)
theorem dR (f:Nat->Int) (n:Nat):(eB f n).length=n:=by simp[eB]
theorem er {f:Nat->Int} {n i:Nat} (h:i<n):(eB f n)[i]? =some (aU (f i)):=by simp[eB,h]
theorem l8 {f g:Nat->Int} {n k:Nat} {v:Int} (hk:k<n) (hv:g k=v) (h:∀i,i<n->i≠k->g i=f i):(eB f n).set k (aU v)=eB g n:=by
 refine List.ext_getElem? fun i=>?_
 rw[List.getElem?_set]
 by_cases hi:k=i
 ·subst hi
  rw[if_pos rfl,dR,if_pos hk,er hk,hv]
 ·rw[if_neg hi]
  by_cases fZ:i<n
  ·rw[er fZ,er fZ,h i fZ (fun h=>hi h.symm)]
  ·rw[List.getElem?_eq_none (by rw[dR];omega),List.getElem?_eq_none (by rw[dR];omega)]
theorem Ke (f:Nat->Int) (n:Nat):eB f (n+1)=eB f n++[aU (f n)]:=by simp[eB,List.range_succ]
theorem fzI (g:Rows) (n:Nat) (a:Int):cZ g (n+1) (aU a)=some (aU a):=by simp[aU,aj,ar,aH]
theorem YH (g:Rows) (n:Nat) (a:Int):ep g (n+1) (aU a)=some (aU a):=by simp[aU,bW,cF,eO]
theorem Np {g:Rows} {f:Nat->Int} {n m:Nat}:gN g (m+1) (eB f n)=some (eB f n):=by
 have:eB f n=((List.range n).map f).map aU:=by simp[eB]
 rw[this];exact pO fun x=>YH g m x
theorem Cl {g:Rows} {f:Nat->Int} {n m:Nat}:eo g (m+1) (eB f n)=some (eB f n):=by
 have:eB f n=((List.range n).map f).map aU:=by simp[eB]
 rw[this];exact nT fun x=>fzI g m x
def Tt (l:List Nat):AV:=if l=[]then .bI else .sl (l.map eN)
def rG (cnt:Nat) (bs:List PB) (m:Nat):List (List AV):=(List.range cnt).map fun v=>[Tt (jn bs m v)]
theorem Fu {cnt:Nat} {bs:List PB} {m v:Nat} (h:v<cnt):(rG cnt bs m)[v]? =some [Tt (jn bs m v)]:=by simp[rG,h]
def gE (cnt:Nat) (bs:List PB) (f:Nat->Int):List AV:=[.int .i64 cnt,.sl (bs.map aD),.sl (rG cnt bs bs.length),.sl (eB f bs.length)]
theorem wO {bs:List PB} {e:Nat} (h:e<bs.length):(bs.map aD)[e]? =some (aD (cH bs e)):=getD_map aD h
def Small (bs:List PB) (f:Nat->Int):Prop:=∀e,e<bs.length->(0<=(cH bs e).s/\(cH bs e).s<=4)/\-4<=f e/\f e<=4
theorem M5 (cnt:Nat) (bs:List PB) (f:Nat->Int) (hs:Small bs f) (e v:Nat) (he:e<bs.length):au Tryz.prog 297 [.dn (gE cnt bs f),.int .i64 v,.int .i64 e] (.gJ [.int .i64 (gr bs f e v),.int .i64 (cw bs e v)]):=by
 refine au.body eF rfl fun hl n0=>?_
 clear hl
 have hb:=wO he
 have hf:=er (f:=f) he
 obtain⟨⟨s0,s1⟩,s2,s3⟩:=hs e he
 have w1:IntKind.i64.wrap ((cH bs e).s-f e)=(cH bs e).s-f e:=bq ah
 have w2:IntKind.i64.wrap ((cH bs e).s+f e)=(cH bs e).s+f e:=bq ah
 unfold gr cw
 generalize cH bs e=b at *
 by_cases h:b.a=v
 ·have hd:decide ((b.a:Int)=(v:Int))=true:=decide_eq_true (by rw[h])
  (try((repeat(revert hN;revert N;apply Pn.out));refine wk (tw @gE.eq_1 (tw @hb (tw @hf (tw @aD.eq_1 (tw @aU.eq_1 (tw @hd (tw @w1 @w2))))))) ?_;(repeat(refine Pn.mk ?_;intro N hN))))
  refine jU (.inl rfl) (by simp only[go_sem, ↓reduceIte,Nat.reduceEqDiff,Nat.reduceAdd,Nat.reduceSub,Nat.reduceLeDiff,reduceCtorEq];rfl) (by simp only[go_sem, ↓reduceIte,Nat.reduceEqDiff,Nat.reduceAdd,Nat.reduceSub,Nat.reduceLeDiff,reduceCtorEq];rfl) ?_
  simp only[fH,bW,cF,eO,Option.map_some,if_pos h]
 ·have hd:decide ((b.a:Int)=(v:Int))=false:=decide_eq_false fun hc=>h ah
  (try((repeat(revert hN;revert N;apply Pn.out));refine wk (tw @gE.eq_1 (tw @hb (tw @hf (tw @aD.eq_1 (tw @aU.eq_1 (tw @hd (tw @w1 @w2))))))) ?_;(repeat(refine Pn.mk ?_;intro N hN))))
  refine jU (.inl rfl) (by simp only[go_sem, ↓reduceIte,Nat.reduceEqDiff,Nat.reduceAdd,Nat.reduceSub,Nat.reduceLeDiff,reduceCtorEq];rfl) (by simp only[go_sem, ↓reduceIte,Nat.reduceEqDiff,Nat.reduceAdd,Nat.reduceSub,Nat.reduceLeDiff,reduceCtorEq];rfl) ?_
  simp only[fH,bW,cF,eO,Option.map_some,if_neg h]
theorem Ia (cnt:Nat) (hn:cnt<=1048576) (bs:List PB) (ok:oF cnt bs) (nW:bs.length<=1048576) (f:Nat->Int) (hs:Small bs f) (y:Nat) (hy:y<cnt):
  oE Tryz.prog 253 [.dn (gE cnt bs f),.int .i64 y] fun r=>∃out,r=.sl (eB out cnt)/\A3 cnt bs f y out:=by
 refine oE.body eF rfl fun hl n0=>?_
 clear hl
 (try((repeat(revert hN;revert N;apply Pn.out));refine wk @gE.eq_1 ?_;(repeat(refine Pn.mk ?_;intro N hN))))
 refine aQ (fun n env st=>∃k:Nat,n=(cnt)-k/\k<=(cnt)/\env 6=.int .i64 (k:Int)/\(∃o:Id,env 5=.own o 0 k/\st.get o=some ⟨true,1,eB (fun _=>-1) k⟩/\o.bj<st.next)) (cnt) ⟨0,ah,ah,sl @gE.eq_1,⟨⟨253001000,n0+1⟩,by(simp only[go_sem, ↓reduceIte,Nat.reduceEqDiff,Nat.reduceAdd,Nat.reduceSub,Nat.reduceLeDiff,reduceCtorEq])<;>rfl,by(simp only[go_sem, ↓reduceIte,Nat.reduceEqDiff,Nat.reduceAdd,Nat.reduceSub,Nat.reduceLeDiff,reduceCtorEq])<;>rfl,aT⟩⟩ ?_
 rintro n_a env_a st_a ⟨k,rfl,ale,a6,ke⟩ dv
 have a0:=dv 0 (by kernel_rfl);have a1:=dv 1 (by kernel_rfl)
 simp only[go_sem, ↓reduceIte,Nat.reduceEqDiff,Nat.reduceAdd,Nat.reduceSub,Nat.reduceLeDiff,reduceCtorEq,gE]at a0 a1
 clear dv
 obtain⟨o,a5,ag,sC⟩:=ke
 have tl:=dR (fun _=>-1) k
 have r4:=db sC
 by_cases hk:(k:Int)<(cnt:Int)
 ·have cq:∀{e:Env} {gg:Rows} {nx:Nat},(e 6=.int .i64 (IntKind.i64.wrap ((k:Int)+1)))->(∃o:Id,e 5=.own o 0 (k+1)/\gg o=some ⟨true,1,eB (fun _=>-1) (k+1)⟩/\o.bj<nx)->∃m0,m0<(cnt)-k/\∃k:Nat,m0=(cnt)-k/\k<=(cnt)/\e 6=.int .i64 (k:Int)/\(∃o:Id,e 5=.own o 0 k/\gg o=some ⟨true,1,eB (fun _=>-1) k⟩/\o.bj<nx):=fun x1 x2=>⟨_,ah,k+1,rfl,ah,(by rw[x1,ay ah]),x2⟩
  have e1:k+1<=16777216:=ah
  have qZ:eB (fun _=>-1) k++[[.int .i64 (-1)]]=eB (fun _=>-1) (k+1):=(Ke _ _).symm
  (try((repeat(revert hN;revert N;apply Pn.out));refine wk (tw @a6 (tw @a0 (tw @a1 (tw @a5 (tw @ag (tw @r4 (tw @hk (tw @tl (tw @e1 (tw @qZ @gE.eq_1)))))))))) ?_;(repeat(refine Pn.mk ?_;intro N hN))))
  exact cq (sd (tw @a6 (tw @a0 (tw @a1 @gE.eq_1)))) (⟨⟨253005002,st_a.next+1⟩,sd @Nat.zero_add,sd @qZ,aT⟩)
 have lj:k=cnt:=ah
 subst lj
 have XZ:(y:Int)<(k:Int):=ah
 have hym:=er (f:=fun _=>-1) hy
 have DS:(eB (fun _=>-1) k).set y (aU 0)=eB (fun v=>if v=y then 0 else -1) k:=l8 hy (if_pos rfl) fun i _ hi=>if_neg hi
 rw[aU]at DS hym
 (try((repeat(revert hN;revert N;apply Pn.out));refine wk (tw @a6 (tw @a0 (tw @a1 (tw @a5 (tw @ag (tw @r4 (tw @hk (tw @tl (tw @XZ (tw @hym (tw @DS @gE.eq_1))))))))))) ?_;(repeat(refine Pn.mk ?_;intro N hN))))
 refine aQ (fun m env st=>∃(i:Nat) (out:Nat->Int) (Q:List Nat) (p:Id),m=k-i/\env 8=.int .i64 (i:Int)/\env 7=.own p 0 Q.length/\st.get p=some ⟨true,1,Q.map eN⟩/\st.get o=some ⟨true,1,eB out k⟩/\o.bj<p.bj/\p.bj<st.next/\CA k bs f y out Q i/\i<=Q.length) k ⟨0,_,[y],⟨253007001,st_a.next+1+1⟩,ah,by(simp only[go_sem, ↓reduceIte,Nat.reduceEqDiff,Nat.reduceAdd,Nat.reduceSub,Nat.reduceLeDiff,reduceCtorEq])<;>rfl,by(simp only[go_sem, ↓reduceIte,Nat.reduceEqDiff,Nat.reduceAdd,Nat.reduceSub,Nat.reduceLeDiff,reduceCtorEq])<;>rfl,by(simp only[go_sem, ↓reduceIte,Nat.reduceEqDiff,Nat.reduceAdd,Nat.reduceSub,Nat.reduceLeDiff,reduceCtorEq])<;>rfl,sd @r4,aT,aT,CA.start hy,by simp⟩ ?_
 rintro n env_b st_b ⟨i,out,Q,p,rfl,b8,b7,bgp,bgo,ej,hpn,hB,hiq⟩ eI
 have b0:=eI 0 (by kernel_rfl)
 have b5:=eI 5 (by kernel_rfl)
 simp only[go_sem, ↓reduceIte,Nat.reduceEqDiff,Nat.reduceAdd,Nat.reduceSub,Nat.reduceLeDiff,reduceCtorEq,a6,a0,a1,a5,gE]at b0 b5
 clear eI
 have Uq:=hB.len
 have X5:=dR out k
 have hqm:(Q.map eN).length=Q.length:=by simp
 have CH:=db hpn
 have lI:=db (i:=o) (n:=st_b.next) ah
 by_cases hi:(i:Int)<(Q.length:Int)
 ·have fZ:i<Q.length:=ah
  have jF:(Q.map eN)[i]? =some (eN Q[i]):=by simp[fZ]
  have Q0:=hB.lt _ (List.getElem_mem fZ)
  obtain⟨vt,SS⟩:∃vt,vt=Q[i]:=⟨_,rfl⟩
  rw[<-SS]at jF Q0
  have hA:=Fu (cnt:=k) (bs:=bs) (m:=bs.length) Q0
  have Pf:(vt:Int)<(k:Int):=ah
  have mb:=td bs bs.length vt
  have hme:∀x,x<(jn bs bs.length vt).length->(jn bs bs.length vt).getD x 0<bs.length/\Hk bs ((jn bs bs.length vt).getD x 0) vt:=fun x hx=>by
   rw[List.getD_eq_getElem?_getD,List.getElem?_eq_getElem hx]
   exact te.1 (List.getElem_mem hx)
  have VR:∀e∈jn bs bs.length vt,∃x,x<(jn bs bs.length vt).length/\(jn bs bs.length vt).getD x 0=e:=fun e he=>by
   obtain⟨x,hx,rfl⟩:=List.getElem_of_mem he
   exact⟨x,hx,by rw[List.getD_eq_getElem?_getD,List.getElem?_eq_getElem hx];rfl⟩
  generalize hIn:jn bs bs.length vt=I at *
  unfold Tt at hA
  by_cases YZ:I=[]
  ·rw[if_pos YZ]at hA
   have Xm:I.length=0:=by rw[YZ];rfl
   (try((repeat(revert hN;revert N;apply Pn.out));refine wk (tw @b0 (tw @b5 (tw @b7 (tw @b8 (tw @bgp (tw @hi (tw @jF (tw @hqm (tw @eN.eq_1 @gE.eq_1))))))))) ?_;(repeat(refine Pn.mk ?_;intro N hN))))
   refine aQ (fun n env st=>∃x:Nat,n=(I.length)-x/\x<=(I.length)/\env 10=.int .i64 (x:Int)/\(∃(jh:Nat->Int) (Q':List Nat) (p':Id),env 7=.own p' 0 Q'.length/\st.get p'=some ⟨true,1,Q'.map eN⟩/\st.get o=some ⟨true,1,eB jh k⟩/\o.bj<p'.bj/\p'.bj<st.next/\CA k bs f y jh Q' i/\(∃h:i<Q'.length,Q'[i]=vt)/\(∀z,z<x->0<gr bs f (I.getD z 0) (cw bs (I.getD z 0) vt)->0<=jh (cw bs (I.getD z 0) vt)))) (I.length) ⟨0,ah,ah,sl (tw @b0 (tw @b5 (tw @b8 @gE.eq_1))),⟨out,Q,p,sd @b7,sd @bgp,sd @bgo,ej,aT,hB,⟨fZ,SS.symm⟩,fun z hz=>ah⟩⟩ ?_
   rintro n_c env_c st_c ⟨x,rfl,cle,jY,cI0⟩ jf
   have c0:=jf 0 (by kernel_rfl);have c5:=jf 5 (by kernel_rfl);have c8:=jf 8 (by kernel_rfl);have c9:=jf 9 (by kernel_rfl)
   simp only[go_sem, ↓reduceIte,Nat.reduceEqDiff,Nat.reduceAdd,Nat.reduceSub,Nat.reduceLeDiff,reduceCtorEq,b0,b5,b8,gE]at c0 c5 c8 c9
   clear jf
   obtain⟨jh,Q',p',c7,Le,zT,Gc,SK,dL,⟨zq,rZ⟩,N8⟩:=cI0
   have ZV:=dL.len
   have Ty:=dR jh k
   have SM:(Q'.map eN).length=Q'.length:=by simp
   have BF:=db SK
   have nz:=db (i:=o) (n:=st_c.next) ah
   have x1:=bH Gc
   have hx:¬(x:Int)<((0:Nat):Int):=ah
   have hxe:x=I.length:=ah
   have hw:IntKind.i64.wrap ((i:Int)+1)=((i+1:Nat):Int):=ay ah
   (try((repeat(revert hN;revert N;apply Pn.out));refine wk (tw @jY (tw @c0 (tw @c5 (tw @c8 (tw @c9 (tw @c7 (tw @hx (tw @hA (tw @Pf @gE.eq_1))))))))) ?_;(repeat(refine Pn.mk ?_;intro N hN))))
   refine⟨_,?_,i+1,jh,Q',p',rfl,sd (tw @jY (tw @c0 (tw @c5 (tw @c8 (tw @c9 @hw))))),sd @c7,sd @Le,sd @zT,Gc,aT,dL.next zq fun e he hr=>?_,ah⟩
   ·omega
   ·rw[rZ,hIn]at he
    rw[rZ]at hr ⊢
    obtain⟨z,hz,rfl⟩:=VR e he
    exact N8 z ah hr
  ·rw[if_neg YZ]at hA
   have rW:(I.map eN).length=I.length:=by simp
   (try((repeat(revert hN;revert N;apply Pn.out));refine wk (tw @b0 (tw @b5 (tw @b7 (tw @b8 (tw @bgp (tw @hi (tw @jF (tw @hqm (tw @eN.eq_1 @gE.eq_1))))))))) ?_;(repeat(refine Pn.mk ?_;intro N hN))))
   refine aQ (fun n env st=>∃x:Nat,n=(I.length)-x/\x<=(I.length)/\env 10=.int .i64 (x:Int)/\(∃(jh:Nat->Int) (Q':List Nat) (p':Id),env 7=.own p' 0 Q'.length/\st.get p'=some ⟨true,1,Q'.map eN⟩/\st.get o=some ⟨true,1,eB jh k⟩/\o.bj<p'.bj/\p'.bj<st.next/\CA k bs f y jh Q' i/\(∃h:i<Q'.length,Q'[i]=vt)/\(∀z,z<x->0<gr bs f (I.getD z 0) (cw bs (I.getD z 0) vt)->0<=jh (cw bs (I.getD z 0) vt)))) (I.length) ⟨0,ah,ah,sl (tw @b0 (tw @b5 (tw @b8 @gE.eq_1))),⟨out,Q,p,sd @b7,sd @bgp,sd @bgo,ej,aT,hB,⟨fZ,SS.symm⟩,fun z hz=>ah⟩⟩ ?_
   rintro n_c env_c st_c ⟨x,rfl,cle,jY,cI0⟩ jf
   have c0:=jf 0 (by kernel_rfl);have c5:=jf 5 (by kernel_rfl);have c8:=jf 8 (by kernel_rfl);have c9:=jf 9 (by kernel_rfl)
   simp only[go_sem, ↓reduceIte,Nat.reduceEqDiff,Nat.reduceAdd,Nat.reduceSub,Nat.reduceLeDiff,reduceCtorEq,b0,b5,b8,gE]at c0 c5 c8 c9
   clear jf
   obtain⟨jh,Q',p',c7,Le,zT,Gc,SK,dL,⟨zq,rZ⟩,N8⟩:=cI0
   have ZV:=dL.len
   have Ty:=dR jh k
   have SM:(Q'.map eN).length=Q'.length:=by simp
   have BF:=db SK
   have nz:=db (i:=o) (n:=st_c.next) ah
   have x1:=bH Gc
   by_cases hx:(x:Int)<(I.length:Int)
   ·have hZ:∀{e:Env} {gg:Rows} {nx:Nat},(e 10=.int .i64 (IntKind.i64.wrap ((x:Int)+1)))->(∃(jh:Nat->Int) (Q':List Nat) (p':Id),e 7=.own p' 0 Q'.length/\gg p'=some ⟨true,1,Q'.map eN⟩/\gg o=some ⟨true,1,eB jh k⟩/\o.bj<p'.bj/\p'.bj<nx/\CA k bs f y jh Q' i/\(∃h:i<Q'.length,Q'[i]=vt)/\(∀z,z<(x+1)->0<gr bs f (I.getD z 0) (cw bs (I.getD z 0) vt)->0<=jh (cw bs (I.getD z 0) vt)))->∃m0,m0<(I.length)-x/\∃x:Nat,m0=(I.length)-x/\x<=(I.length)/\e 10=.int .i64 (x:Int)/\(∃(jh:Nat->Int) (Q':List Nat) (p':Id),e 7=.own p' 0 Q'.length/\gg p'=some ⟨true,1,Q'.map eN⟩/\gg o=some ⟨true,1,eB jh k⟩/\o.bj<p'.bj/\p'.bj<nx/\CA k bs f y jh Q' i/\(∃h:i<Q'.length,Q'[i]=vt)/\(∀z,z<x->0<gr bs f (I.getD z 0) (cw bs (I.getD z 0) vt)->0<=jh (cw bs (I.getD z 0) vt))):=fun x1 x2=>⟨_,ah,x+1,rfl,ah,(by rw[x1,ay ah]),x2⟩
    have Uz:x<I.length:=ah
    have R6:(I.map eN)[x]? =some (eN (I.getD x 0)):=getD_map eN Uz
    obtain⟨he,qW⟩:=hme x Uz
    obtain⟨e,XA⟩:∃e,e=I.getD x 0:=⟨_,rfl⟩
    rw[<-XA]at R6 he qW
    have jc:=wO he
    have hq:=qa ok (v:=vt) he
    have LZ:=qb ok he qW
    have L8:=M5 k bs f hs e (cw bs e vt) he
    have Vy:=ok e he
    have jt:IntKind.i64.wrap (((cH bs e).a:Int)+((cH bs e).b:Int))=((cH bs e).a:Int)+((cH bs e).b:Int):=bq ah
    have ml:IntKind.i64.wrap (((cH bs e).a:Int)+((cH bs e).b:Int)-(vt:Int))=(cw bs e vt:Int):=by
     rw[bq ah]
     unfold cw
     rcases qW with h1|h1
     ·rw[if_pos h1];omega
     ·rw[if_neg fun h2=>Vy.2.2 (h2.trans h1.symm)];omega
    have Up:(cw bs e vt:Int)<(k:Int):=ah
    have Su:=er (f:=jh) hq
    have O0:=er (f:=jh) Q0
    rw[gE]at L8
    have mc:=dL.up i zq
    rw[rZ]at mc
    have j6:=dL.lo vt Q0
    have DX:IntKind.i64.wrap (jh vt+1)=jh vt+1:=bq ah
    rw[aU]at Su O0
    generalize Ac:cH bs e=b at *
    by_cases kQ:jh (cw bs e vt)<0
    ·by_cases gG:0<gr bs f e (cw bs e vt)
     ·have hV:=dL.visit ok zq (e:=e) he (by rw[rZ];exact qW) (by rw[rZ];exact kQ) (by rw[rZ];exact gG)
      rw[rZ]at hV
      have eb:(eB jh k).set (cw bs e vt) (aU (jh vt+1))=eB (fun v=>if v=cw bs e vt then jh vt+1 else jh v) k:=l8 hq (if_pos rfl) fun v _ hv=>if_neg hv
      rw[aU]at eb
      have e1:Q'.length+1<=16777216:=ah
      (repeat(first|((repeat(revert hN;revert N;apply Pn.out));refine wk (tw @jY (tw @c0 (tw @c5 (tw @c8 (tw @c9 (tw @c7 (tw @Le (tw @zT (tw @hx (tw @hA (tw @rW (tw @R6 (tw @Pf (tw @jc (tw @jt (tw @ml (tw @Up (tw @Su (tw @O0 (tw @kQ (tw @gG (tw @DX (tw @eb (tw @SM (tw @Ty (tw @BF (tw @nz (tw @x1 (tw @e1 (tw @eN.eq_1 (tw @aD.eq_1 @gE.eq_1))))))))))))))))))))))))))))))) ?_;(repeat(refine Pn.mk ?_;intro N hN)))|((try apply Or.inl);refine⟨_,au.x (L8) (sd (tw @jY (tw @c0 (tw @c5 (tw @c8 (tw @c9 (tw @c7 (tw @Le (tw @zT (tw @hx (tw @hA (tw @rW (tw @R6 (tw @Pf (tw @jc (tw @jt (tw @ml (tw @Up (tw @Su (tw @O0 (tw @kQ (tw @gG (tw @DX (tw @eb (tw @SM (tw @Ty (tw @BF (tw @nz (tw @x1 (tw @e1 (tw @eN.eq_1 (tw @aD.eq_1 @gE.eq_1)))))))))))))))))))))))))))))))),?_⟩;refine hN _ _ ?_;clear hN N)))
      exact hZ (sd (tw @jY (tw @c0 (tw @c5 (tw @c8 @c9))))) (⟨_,Q'++[cw bs e vt],⟨253020003,st_c.next+1+1+1+1+1+1⟩,by rw[List.length_append];simp only[go_sem, ↓reduceIte,Nat.reduceEqDiff,Nat.reduceAdd,Nat.reduceSub,Nat.reduceLeDiff,reduceCtorEq,List.length_cons,List.length_nil],by rw[List.map_append,List.map_cons,List.map_nil];simp only[go_sem, ↓reduceIte,Nat.reduceEqDiff,Nat.reduceAdd,Nat.reduceSub,Nat.reduceLeDiff,reduceCtorEq,eN],sd (tw @nz @x1),aT,aT,hV,⟨by simp;omega,by rw[List.getElem_append_left zq];exact rZ⟩,fun z hz hr=>by
       by_cases Wg:z=x
       ·subst Wg
        rw[<-XA,if_pos rfl]
        have:=(dL.iff vt Q0).2 (by rw[<-rZ];exact List.getElem_mem zq)
        omega
       ·have:=N8 z ah hr
        split
        ·have:=(dL.iff vt Q0).2 (by rw[<-rZ];exact List.getElem_mem zq)
         omega
        ·exact this⟩)
     ·(repeat(first|((repeat(revert hN;revert N;apply Pn.out));refine wk (tw @jY (tw @c0 (tw @c5 (tw @c8 (tw @c9 (tw @c7 (tw @Le (tw @zT (tw @hx (tw @hA (tw @rW (tw @R6 (tw @Pf (tw @jc (tw @jt (tw @ml (tw @Up (tw @Su (tw @kQ (tw @gG (tw @Ty (tw @BF (tw @nz (tw @x1 (tw @eN.eq_1 (tw @aD.eq_1 @gE.eq_1)))))))))))))))))))))))))) ?_;(repeat(refine Pn.mk ?_;intro N hN)))|((try apply Or.inl);refine⟨_,au.x (L8) (sd (tw @jY (tw @c0 (tw @c5 (tw @c8 (tw @c9 (tw @c7 (tw @Le (tw @zT (tw @hx (tw @hA (tw @rW (tw @R6 (tw @Pf (tw @jc (tw @jt (tw @ml (tw @Up (tw @Su (tw @kQ (tw @gG (tw @Ty (tw @BF (tw @nz (tw @x1 (tw @eN.eq_1 (tw @aD.eq_1 @gE.eq_1))))))))))))))))))))))))))),?_⟩;refine hN _ _ ?_;clear hN N)))
      exact hZ (sd (tw @jY (tw @c0 (tw @c5 (tw @c8 @c9))))) (⟨jh,Q',p',sd @c7,sd (tw @Le @BF),sd (tw @zT @nz),Gc,aT,dL,⟨zq,rZ⟩,fun z hz hr=>by
       by_cases Wg:z=x
       ·subst Wg;rw[<-XA]at hr;exact absurd hr gG
       ·exact N8 z ah hr⟩)
    ·(repeat(first|((repeat(revert hN;revert N;apply Pn.out));refine wk (tw @jY (tw @c0 (tw @c5 (tw @c8 (tw @c9 (tw @c7 (tw @Le (tw @zT (tw @hx (tw @hA (tw @rW (tw @R6 (tw @Pf (tw @jc (tw @jt (tw @ml (tw @Up (tw @Su (tw @kQ (tw @Ty (tw @BF (tw @nz (tw @x1 (tw @eN.eq_1 (tw @aD.eq_1 @gE.eq_1))))))))))))))))))))))))) ?_;(repeat(refine Pn.mk ?_;intro N hN)))|((try apply Or.inl);refine⟨_,au.x (L8) (sd (tw @jY (tw @c0 (tw @c5 (tw @c8 (tw @c9 (tw @c7 (tw @Le (tw @zT (tw @hx (tw @hA (tw @rW (tw @R6 (tw @Pf (tw @jc (tw @jt (tw @ml (tw @Up (tw @Su (tw @kQ (tw @Ty (tw @BF (tw @nz (tw @x1 (tw @eN.eq_1 (tw @aD.eq_1 @gE.eq_1)))))))))))))))))))))))))),?_⟩;refine hN _ _ ?_;clear hN N)))
     exact hZ (sd (tw @jY (tw @c0 (tw @c5 (tw @c8 @c9))))) (⟨jh,Q',p',sd @c7,sd (tw @Le @BF),sd (tw @zT @nz),Gc,aT,dL,⟨zq,rZ⟩,fun z hz hr=>by
      by_cases Wg:z=x
      ·subst Wg;rw[<-XA];omega
      ·exact N8 z ah hr⟩)
   ·have hxe:x=I.length:=ah
    have hw:IntKind.i64.wrap ((i:Int)+1)=((i+1:Nat):Int):=ay ah
    (try((repeat(revert hN;revert N;apply Pn.out));refine wk (tw @jY (tw @c0 (tw @c5 (tw @c8 (tw @c9 (tw @c7 (tw @hx (tw @hA (tw @rW (tw @Pf @gE.eq_1)))))))))) ?_;(repeat(refine Pn.mk ?_;intro N hN))))
    refine⟨_,?_,i+1,jh,Q',p',rfl,sd (tw @jY (tw @c0 (tw @c5 (tw @c8 (tw @c9 @hw))))),sd @c7,sd @Le,sd @zT,Gc,aT,dL.next zq fun e he hr=>?_,ah⟩
    ·omega
    ·rw[rZ,hIn]at he
     rw[rZ]at hr ⊢
     obtain⟨z,hz,rfl⟩:=VR e he
     exact N8 z ah hr
 ·(try((repeat(revert hN;revert N;apply Pn.out));refine wk (tw @b0 (tw @b5 (tw @b7 (tw @b8 (tw @hi @gE.eq_1))))) ?_;(repeat(refine Pn.mk ?_;intro N hN))))
  have uD:gF st_b.get 6 (.own o 0 k)=some (.sl (eB out k)):=qv bgo (by rw[X5];omega) (by rw[List.drop_zero,List.take_of_length_le (by rw[X5];omega)];exact Np)
  exact⟨_,rfl,_,by simp only[go_sem, ↓reduceIte,Nat.reduceEqDiff,Nat.reduceAdd,Nat.reduceSub,Nat.reduceLeDiff,reduceCtorEq,fc];exact uD,out,rfl,hB.done ok ah⟩
end Go.Proofs.YtgoljkjaameagaaGreat.V

namespace Go.Proofs.YtgoljkjaameagaaGreat.V
open Go.RowKit
attribute [local irreducible] dK wpOps gw Call
attribute [local go_sem] aM fE eM fV fS dc upd cr K.av cI AV.cells AV.cell rowOf rowsOf part ld rowAt bE cj dy dS gU bJ cY ee fQ e6 dp dX cW cV dI dJ bP bc cL bL cP cN dV dY dW cK bU cX dU bK aO cR cC gT bw cG bQ aY dj aZ dz AV.undef bD bG dM dQ dE dG cE ec eh cz ea dZ cQ cU List.getD_cons_zero List.getD_cons_succ List.getD_nil List.all_cons List.all_nil Bool.and_true Bool.true_and Bool.and_self Bool.not_true Bool.not_false Option.map_some Option.map_none Option.bind_some Option.bind_none List.length_cons List.length_nil List.take_succ_cons List.take_zero List.take_nil List.drop_succ_cons List.drop_zero List.drop_nil List.head?_cons List.map_cons List.map_nil List.getElem?_cons_zero List.getElem?_cons_succ List.cons_append List.nil_append List.append_nil List.length_map List.set_cons_zero List.set_cons_succ eq_self Int.toNat_natCast Int.natCast_nonneg and_self true_and and_true decide_true decide_false Bool.false_eq_true Nat.zero_add Nat.add_zero List.contains_cons List.contains_nil Bool.or_false Bool.false_or beq_self_eq_true ne_eq not_true_eq_false not_false_eq_true Id.mk.injEq false_and and_false Nat.le_refl List.length_append beq_true beq_false Bool.not_eq_eq_eq_not or_false false_or dH aj ar aH bh bz ck aV bd aX bf cJ bB
def T5:ze (List Nat):=fun g cs x ids=>(x=[]/\cs=[.bI]/\ids=[])∨∃id,cs=[.own id 0 x.length]/\0<x.length/\g id=some ⟨true,1,x.map eN⟩/\ids=[id]
theorem Q7:ui T5 1 where
 frame:=fun h hf=>by
  rcases h with h|⟨id,h1,h0,h2,h3⟩
  ·exact .inl h
  ·subst h3;exact .inr ⟨id,h1,h0,(hf id (by simp)).trans h2,rfl⟩
 len:=fun h=>by rcases h with⟨_,h,_⟩|⟨id,h,_⟩<;>subst h<;>rfl
 cell:=fun h=>by rcases h with⟨_,h,_⟩|⟨id,h,_⟩<;>subst h<;>rfl
 live:=fun h i hi=>by
  rcases h with⟨_,_,h⟩|⟨id,h1,h0,h2,h3⟩
  ·subst h;cases hi
  ·subst h3
   have:i=id:=by simpa using hi
   subst this
   exact⟨_,h2,rfl,by simp[tp]⟩
 small:=by simp[tp]
theorem Tb {g:Rows} {rows:List (List AV)} {xs:List (List Nat)} {ids:List Id} (n:Nat) (h:dD T5 g rows xs ids):eo (dH g) (n+2) rows=some (xs.map fun l=>[Tt l]):=
 h.fz (fun {cs x ids} h=>by
  rcases h with⟨h0,h1,_⟩|⟨id,h1,h0,h2,_⟩
  ·subst h0 h1;rw[aj,ar,aV];rfl
  ·have iD:x≠[]:=by rintro rfl;simp at h0
   subst h1
   rw[aj,ar,fB (e:=eN) (sz:=1) (by simp[dH,h2]) rfl fun a=>fzN _ n a]
   simp[Tt,iD])
theorem dD.Wv {α:Type} {R:ze α} {sz:Nat} {g:Rows} {rows:List (List AV)} {xs:List α} {ids:List Id} (ok:ui R sz) (h:dD R g rows xs ids) (lk:ids.Nodup) (k:Nat) (hk:k<xs.length):
  ∃cs ic,rows[k]? =some cs/\R g cs xs[k] ic/\(∀i∈ic,i∈ids)/\∀(g':Rows) rl x' UB,R g' rl x' UB->(∀i∈ids,i∉ic->g' i=g i)->UB.Nodup->(∀i∈UB,i∉ids)->∃Gi,dD R g' (rows.set k rl) (xs.set k x') Gi/\Gi.Nodup/\∀i∈Gi,i∈UB∨i∈ids:=by
 obtain⟨r1,cs,r2,i1,ic,i2,rfl,rfl,rfl,h3,h4,h5⟩:=h.split k hk
 obtain⟨n1,n2,n3⟩:=List.nodup_append.1 lk
 obtain⟨nc,n5,n4⟩:=List.nodup_append.1 n2
 refine⟨cs,ic,by simp,h4,fun i hi=>by simp[hi],fun g' rl x' UB hR hf hn' k8=>⟨i1++(UB++i2),?_,?_,fun i hi=>?_⟩⟩
 ·have e:xs.set r1.length x'=xs.take r1.length++x'::xs.drop (r1.length+1):=by rw[List.set_eq_take_append_cons_drop,if_pos hk]
  have e2:(r1++cs::r2).set r1.length rl=r1++rl::r2:=by simp
  rw[e,e2]
  refine(h3.frame ok fun i hi=>hf i (by simp[hi]) fun hc=>n3 i hi i (by simp[hc]) rfl).app (.cons hR (h5.frame ok fun i hi=>hf i (by simp[hi]) fun hc=>n4 i hc i hi rfl))
 ·rw[List.nodup_append,List.nodup_append]
  refine⟨n1,⟨hn',n5,fun x hx y hy he=>?_⟩,fun x hx y hy he=>?_⟩
  ·subst he;exact k8 x hx (by simp[hy])
  ·subst he
   rcases List.mem_append.1 hy with hy|hy
   ·exact k8 x hy (by simp[hx])
   ·exact n3 x hx x (by simp[hy]) rfl
 ·rcases List.mem_append.1 hi with hi|hi
  ·exact .inr (by simp[hi])
  ·rcases List.mem_append.1 hi with hi|hi
   ·exact .inl hi
   ·exact .inr (by simp[hi])
def sD (A:Id) (lo:Nat) (L:List (List Nat)) (g:Rows) (nx:Nat):Prop:=∃rows ids,g A=some ⟨true,1,rows⟩/\dD T5 g rows L ids/\ids.Nodup/\∀i∈ids,lo<i.bj/\i.bj<nx
def bZ (cnt:Nat) (bs:List PB) (A F:Id):List AV:=[.int .i64 cnt,.sl (bs.map aD),.own A 0 cnt,.own F 0 bs.length]
def mm (cnt:Nat) (bs:List PB) (m:Nat):List (List Nat):=(List.range cnt).map fun v=>jn bs m v
theorem jQ (cnt:Nat) (bs:List PB) (m:Nat):(mm cnt bs m).length=cnt:=by simp[mm]
structure pk (cnt:Nat) (bs:List PB) (f:Nat->Int) (X A F:Id) (g:Rows) (nx:Nat):Prop where
 x:g X=some ⟨true,4,[bZ cnt bs A F]⟩
 a:sD A F.bj (mm cnt bs bs.length) g nx
 f:g F=some ⟨true,1,eB f bs.length⟩
 xa:X.bj<A.bj
 af:A.bj<F.bj
 fn:F.bj<nx
theorem sD.fz {A:Id} {lo cnt:Nat} {bs:List PB} {m nx n:Nat} {g:Rows} (h:sD A lo (mm cnt bs m) g nx):V.fz (dH g) (n+3) (.own A 0 cnt)=some (.sl (rG cnt bs m)):=by
 obtain⟨rows,ids,h1,h2,_,_⟩:=h
 have hl:=h2.len
 rw[jQ]at hl
 rw[iy]
 simp only[dH,h1,Option.map_some,if_true]
 rw[if_pos ah,List.drop_zero,List.take_of_length_le ah]
 have:=Tb n h2
 rw[this]
 simp[mm,rG]
theorem pk.fz {cnt:Nat} {bs:List PB} {f:Nat->Int} {X A F:Id} {g:Rows} {nx:Nat} (h:pk cnt bs f X A F g nx):V.fz (dH g) 6 (.ptr X 0 0)=some (.dn (gE cnt bs f)):=by
 have hF:dH g F=some ⟨true,1,eB f bs.length⟩:=by simp[dH,h.f]
 have hX:dH g X=some ⟨true,4,[bZ cnt bs A F]⟩:=by simp[dH,h.x]
 have hf:V.fz (dH g) 5 (.own F 0 bs.length)=some (.sl (eB f bs.length)):=by
  rw[iy]
  simp only[hF,if_true]
  rw[if_pos (by rw[dR];omega),List.drop_zero,List.take_of_length_le (by rw[dR];omega),Cl];rfl
 have ha:=h.a.fz (n:=2)
 rw[bf]
 simp only[hX,if_true,List.getElem?_cons_zero,List.drop_zero,bZ,aj,ar,aH,ck,ha,hf,Option.map_some,gE]
theorem Jk (cnt:Nat) (bs:List PB):mm cnt bs 0=List.replicate cnt []:=by
 refine List.ext_getElem? fun i=>?_
 simp only[mm,List.getElem?_map,List.getElem?_replicate]
 by_cases h:i<cnt
 ·rw[List.getElem?_range h,if_pos h];rfl
 ·rw[List.getElem?_eq_none (by simpa using h),if_neg h];rfl
theorem AN (g:Rows):∀n:Nat,dD T5 g (List.replicate n [.bI]) (List.replicate n []) []
 |0=>.nil
 |n+1=>.cons (i1:=[]) (.inl ⟨rfl,rfl,rfl⟩) (AN g n)
def zz (cnt:Nat) (bs:List PB) (m:Nat):List (List Nat):=(mm cnt bs m).set (cH bs m).a (jn bs m (cH bs m).a++[m])
theorem D6 {cnt:Nat} {bs:List PB} {m v:Nat} (hv:v<cnt) (iD:(cH bs m).a≠v):(zz cnt bs m)[v]? =some (jn bs m v):=by
 unfold zz
 rw[List.getElem?_set_ne iD]
 simp[mm,hv]
theorem Jj {cnt:Nat} {bs:List PB} {m:Nat} (ha:(cH bs m).a<cnt) (hb:(cH bs m).b<cnt) (iD:(cH bs m).a≠(cH bs m).b):(zz cnt bs m).set (cH bs m).b (jn bs m (cH bs m).b++[m])=mm cnt bs (m+1):=by
 refine List.ext_getElem? fun i=>?_
 by_cases hi:i<cnt
 ·have hr:(mm cnt bs (m+1))[i]? =some (jn bs (m+1) i):=by simp[mm,hi]
  rw[hr,Jl]
  by_cases h1:(cH bs m).b=i
  ·rw[List.getElem?_set,if_pos h1,if_pos (by simp[zz,jQ];omega),if_pos (.inr h1),h1]
  ·rw[List.getElem?_set_ne h1]
   by_cases h2:(cH bs m).a=i
   ·unfold zz
    rw[List.getElem?_set,if_pos h2,if_pos (by rw[jQ];omega),if_pos (.inl h2),h2]
   ·rw[D6 hi h2,if_neg (fun h=>h.elim h2 h1),List.append_nil]
 ·rw[List.getElem?_eq_none (by simp[zz,jQ];omega),List.getElem?_eq_none (by rw[jQ];omega)]
theorem lQ {α:Type} {l:List α} {k:Nat} {x:α} (h:l[k]? =some x) (hk:k<l.length):l[k]=x:=by
 rw[List.getElem?_eq_getElem hk]at h;exact Option.some.inj h
theorem HZ {A K:Id} {lo Wr nx k j:Nat} {L:List (List Nat)} {La:List Nat} {g:Rows} {rows:List (List AV)} {ids:List Id} (hR:dD T5 g rows L ids) (lk:ids.Nodup) (pd:∀i∈ids,lo<i.bj/\i.bj<Wr) (hA:A.bj<=lo) (hL:L[k]? =some La) (hK1:Wr<=K.bj) (Sg:K.bj<nx) (j6:lo<Wr):
  ∃cs,rows[k]? =some cs/\((La=[]/\cs=[.bI])∨∃id:Id,cs=[.own id 0 La.length]/\0<La.length/\g id=some ⟨true,1,La.map eN⟩/\id.bj<Wr/\lo<id.bj)/\
   ∀g':Rows,g' A=some ⟨true,1,rows.set k [.own K 0 (La.length+1)]⟩->g' K=some ⟨true,1,La.map eN++[[.int .i64 j]]⟩->(∀i:Id,i.bj<Wr->(i=A)=False->(∀id,cs=[.own id 0 La.length]->(i=id)=False)->g' i=g i)->sD A lo (L.set k (La++[j])) g' nx:=by
 have hk:k<L.length:=(List.getElem?_eq_some_iff.1 hL).1
 have Y5:=lQ hL hk
 obtain⟨cs,ic,dx,Uf,Sx,pb⟩:=hR.Wv Q7 lk k hk
 rw[Y5]at Uf
 refine⟨cs,dx,?_,fun g' h1 h2 h3=>?_⟩
 ·rcases Uf with⟨h1,h2,_⟩|⟨id,h1,h2,h3,h4⟩
  ·exact .inl ⟨h1,h2⟩
  ·subst h4
   have:=pd id (Sx id (by simp))
   exact .inr ⟨id,h1,h2,h3,this.2,this.1⟩
 ·obtain⟨Gi,q1,q2,q3⟩:=pb g' [.own K 0 (La.length+1)] (La++[j]) [K] (.inr ⟨K,by simp,by simp,by rw[h2];simp[eN],rfl⟩) (fun i hi XM=>by
   refine h3 i (pd i hi).2 ?_ fun id hid=>?_
   ·simp only[eq_iff_iff,iff_false];rintro rfl;have:=pd _ hi;omega
   ·simp only[eq_iff_iff,iff_false]
    rintro rfl
    rcases Uf with⟨_,h4,_⟩|⟨kE,h4,_,_,h5⟩
    ·rw[hid]at h4;cases h4
    ·rw[hid]at h4
     simp only[List.cons.injEq,AV.own.injEq,and_true]at h4
     rw[h5,h4]at XM
     exact XM (by simp)) (by simp) fun i hi hc=>by
   rw[List.mem_singleton.1 hi]at hc;have:=pd _ hc;omega
  refine⟨_,Gi,h1,q1,q2,fun i hi=>?_⟩
  rcases q3 i hi with h|h
  ·rw[List.mem_singleton.1 h];omega
  ·have:=pd i h;omega
theorem Ql {P:Program} {Q:Ex->Env->aw->Prop} {c:VC} {env:Env} {σ:aw} (I:Env->aw->Prop) (h2:∀e s,I e s->Q .normal e s) (h1:∀N':Env->aw->Prop,(∀e s,I e s->N' e s)->dK (Call P) c (dj N' Q) env σ):dK (Call P) c Q env σ:=by
 refine jW (fun _ _ _ _ h=>h) aI c _ _ env σ (fun x e s h=>?_) (h1 I fun _ _ h=>h)
 cases x with
 |normal=>exact h2 e s h
 |exit id=>exact h
 |ret=>exact h
end Go.Proofs.YtgoljkjaameagaaGreat.V

namespace Go.Proofs.YtgoljkjaameagaaGreat.V
open Go.RowKit
attribute [local irreducible] dK wpOps gw Call
attribute [local go_sem] aM fE eM fV fS dc upd cr K.av cI AV.cells AV.cell rowOf rowsOf part ld rowAt bE cj dy dS gU bJ cY ee fQ e6 dp dX cW cV dI dJ bP bc cL bL cP cN dV dY dW cK bU cX dU bK aO cR cC gT bw cG bQ aY dj aZ dz AV.undef bD bG dM dQ dE dG cE ec eh cz ea dZ cQ cU List.getD_cons_zero List.getD_cons_succ List.getD_nil List.all_cons List.all_nil Bool.and_true Bool.true_and Bool.and_self Bool.not_true Bool.not_false Option.map_some Option.map_none Option.bind_some Option.bind_none List.length_cons List.length_nil List.take_succ_cons List.take_zero List.take_nil List.drop_succ_cons List.drop_zero List.drop_nil List.head?_cons List.map_cons List.map_nil List.getElem?_cons_zero List.getElem?_cons_succ List.cons_append List.nil_append List.append_nil List.length_map List.set_cons_zero List.set_cons_succ Nat.reduceMul eq_self Int.toNat_natCast Int.natCast_nonneg and_self true_and and_true decide_true decide_false Bool.false_eq_true Nat.zero_add Nat.add_zero List.contains_cons List.contains_nil Bool.or_false Bool.false_or beq_self_eq_true Nat.reduceBEq ne_eq not_true_eq_false not_false_eq_true Id.mk.injEq false_and and_false Nat.reduceLT Int.reduceLE Int.reduceLT Int.reduceToNat Int.reduceNeg Int.reduceAdd Nat.le_refl List.length_append beq_true beq_false Bool.not_eq_eq_eq_not or_false false_or dH aj ar aH bh bz ck aV bd aX bf cJ bB
theorem Mn (cnt:Nat) (hn:cnt<=1048576) (bs:List PB) (ok:oF cnt bs) (nW:bs.length<=1048576) (σ:aw):
  Call Tryz.prog 251 [.int .i64 cnt,.sl (bs.map aD)] σ fun r σ'=>∃X A F,r=.ptr X 0 0/\σ.next<=X.bj/\pk cnt bs (fun _=>0) X A F σ'.get σ'.next:=by
 refine KG RG rfl fun hl=>?_
 try simp only[q]
 clear hl
 have kb:(0:Int)<=(cnt:Int):=ah
 have qV:(cnt:Int)<=((16777216:Nat):Int):=ah
 have F0:(0:Int)<=(bs.length:Int):=ah
 have Kv:(bs.length:Int)<=((16777216:Nat):Int):=ah
 have hz:List.replicate bs.length [AV.int .i64 0]=eB (fun _=>0) bs.length:=by
  refine List.ext_getElem? fun i=>?_
  by_cases h:i<bs.length
  ·rw[er h,List.getElem?_replicate,if_pos h];rfl
  ·rw[List.getElem?_eq_none (by simp;omega),List.getElem?_eq_none (by rw[dR];omega)]
 (try((repeat(revert hN;revert N;apply Pn.out));refine wk (tw @kb (tw @qV (tw @F0 (tw @Kv (tw @Int.le_refl @hz))))) ?_;(repeat(refine Pn.mk ?_;intro N hN))))
 obtain⟨X,hX⟩:∃X:Id,X=⟨251001003,σ.next+1⟩:=⟨_,rfl⟩
 obtain⟨A,hA⟩:∃X:Id,X=⟨251002002,σ.next+1+1⟩:=⟨_,rfl⟩
 obtain⟨F,hF⟩:∃X:Id,X=⟨251003003,σ.next+1+1+1⟩:=⟨_,rfl⟩
 have hXA:X.bj<A.bj:=by rw[hX,hA];(try dsimp only);omega
 have hAF:A.bj<F.bj:=by rw[hA,hF];(try dsimp only);omega
 have hXs:σ.next<=X.bj:=by rw[hX];(try dsimp only);omega
 refine aQ (fun n env st=>∃j:Nat,n=(bs.length)-j/\j<=(bs.length)/\env 6=.int .i64 (j:Int)/\env 5=(.ptr X 0 0)/\st.get X=some ⟨true,4,[bZ cnt bs A F]⟩/\st.get F=some ⟨true,1,eB (fun _=>0) bs.length⟩/\(sD A F.bj (mm cnt bs j) st.get st.next/\F.bj<st.next)) (bs.length) ⟨0,ah,ah,by(try simp only[go_sem, ↓reduceIte,Nat.reduceEqDiff,Nat.reduceAdd,Nat.reduceSub,Nat.reduceLeDiff,reduceCtorEq,hX,hF,hA,bZ,hz]);try rfl,by(try simp only[go_sem, ↓reduceIte,Nat.reduceEqDiff,Nat.reduceAdd,Nat.reduceSub,Nat.reduceLeDiff,reduceCtorEq,hX,hF,hA,bZ,hz]);try rfl,by(try simp only[go_sem, ↓reduceIte,Nat.reduceEqDiff,Nat.reduceAdd,Nat.reduceSub,Nat.reduceLeDiff,reduceCtorEq,hX,hF,hA,bZ,hz]);try rfl,by(try simp only[go_sem, ↓reduceIte,Nat.reduceEqDiff,Nat.reduceAdd,Nat.reduceSub,Nat.reduceLeDiff,reduceCtorEq,hX,hF,hA,bZ,hz]);try rfl,⟨⟨List.replicate cnt [.bI],[],by rw[hA];(simp only[go_sem, ↓reduceIte,Nat.reduceEqDiff,Nat.reduceAdd,Nat.reduceSub,Nat.reduceLeDiff,reduceCtorEq])<;>rfl,by rw[Jk];exact AN _ _,List.nodup_nil,fun i hi=>by cases hi⟩,by rw[hF];(try dsimp only);omega⟩⟩ ?_
 rintro n_a env_a st_a ⟨j,rfl,ale,a6,a5,ag0,ag1,ke⟩ dv
 have a0:=dv 0 (by kernel_rfl);have a1:=dv 1 (by kernel_rfl)
 simp only[go_sem, ↓reduceIte,Nat.reduceEqDiff,Nat.reduceAdd,Nat.reduceSub,Nat.reduceLeDiff,reduceCtorEq,hX,hF,hA,bZ,hz]at a0 a1
 clear dv
 obtain⟨⟨rows,ids,ag,hR,lk,pd⟩,hFn⟩:=ke
 have x1:=bH hXA
 have x2:=bH hAF
 have x3:=bH (a:=X) (b:=F) ah
 have vX:=db (i:=X) (n:=st_a.next) ah
 have vA:=db (i:=A) (n:=st_a.next) ah
 have vF:=db (i:=F) (n:=st_a.next) ah
 by_cases hj:(j:Int)<(bs.length:Int)
 ·have cq:∀{e:Env} {gg:Rows} {nx:Nat},(e 6=.int .i64 (IntKind.i64.wrap ((j:Int)+1)))->(e 5=(.ptr X 0 0))->(gg X=some ⟨true,4,[bZ cnt bs A F]⟩)->(gg F=some ⟨true,1,eB (fun _=>0) bs.length⟩)->(sD A F.bj (mm cnt bs (j+1)) gg nx/\F.bj<nx)->∃m0,m0<(bs.length)-j/\∃j:Nat,m0=(bs.length)-j/\j<=(bs.length)/\e 6=.int .i64 (j:Int)/\e 5=(.ptr X 0 0)/\gg X=some ⟨true,4,[bZ cnt bs A F]⟩/\gg F=some ⟨true,1,eB (fun _=>0) bs.length⟩/\(sD A F.bj (mm cnt bs j) gg nx/\F.bj<nx):=fun x1 x2 x3 x4 x5=>⟨_,ah,j+1,rfl,ah,(by rw[x1,ay ah]),x2,x3,x4,x5⟩
  have ga:j<bs.length:=ah
  have jc:=wO ga
  obtain⟨ha1,Vq,iD⟩:=ok j ga
  have ij:((cH bs j).a:Int)<(cnt:Int):=ah
  have fR:((cH bs j).b:Int)<(cnt:Int):=ah
  have qx:=Jj (m:=j) ha1 Vq iD
  have e1:=td bs j (cH bs j).a
  have e2:=td bs j (cH bs j).b
  have Sr:(zz cnt bs j)[(cH bs j).b]? =some (jn bs j (cH bs j).b):=D6 Vq iD
  have VE:(mm cnt bs j)[(cH bs j).a]? =some (jn bs j (cH bs j).a):=by simp[mm,ha1]
  have YK:zz cnt bs j=(mm cnt bs j).set (cH bs j).a (jn bs j (cH bs j).a++[j]):=rfl
  have LH:(zz cnt bs j).length=cnt:=by rw[YK,List.length_set,jQ]
  have jB:=hR.len
  rw[jQ]at jB
  obtain⟨cs7,jM,LK,L3⟩:=HZ (A:=A) (K:=⟨251007022,st_a.next+1⟩) (nx:=st_a.next+1+1) (j:=j) hR lk pd ah VE aT aT hFn
  rw[<-YK]at L3
  obtain⟨c7,rfl⟩:∃c,cs7=[c]:=by
   rcases LK with⟨_,h⟩|⟨id,h,_⟩<;>exact⟨_,h⟩
  generalize jn bs j (cH bs j).a=La at *
  generalize jn bs j (cH bs j).b=Lb at *
  generalize cH bs j=b at *
  generalize zz cnt bs j=LA at *
  clear YK
  (try((repeat(revert hN;revert N;apply Pn.out));refine wk (tw @a6 (tw @a5 (tw @ag0 (tw @ag1 (tw @a0 (tw @a1 (tw @hj (tw @jc (tw @aD.eq_1 (tw @ag (tw @jM (tw @ij (tw @fR (tw @jB (tw @x1 (tw @x2 (tw @x3 (tw @vX (tw @vA (tw @vF @bZ.eq_1)))))))))))))))))))) ?_;(repeat(refine Pn.mk ?_;intro N hN))))
  refine Hh (fun e s=>e 0=.int .i64 cnt/\e 1=.sl (bs.map aD)/\e 5=.ptr X 0 0/\e 6=.int .i64 j/\s.get X=some ⟨true,4,[bZ cnt bs A F]⟩/\s.get F=some ⟨true,1,eB (fun _=>0) bs.length⟩/\sD A F.bj LA s.get s.next/\F.bj<s.next) ?_ ?_
  ·rintro e1 s1 ⟨m0,m1,m5,m6,mX,mF,⟨rows1,ids1,mg,mR,mnd,mver⟩,mn⟩
   refine hN _ _ ?_
   clear hN N
   have jD:=mR.len
   rw[LH]at jD
   have wX:=db (i:=X) (n:=s1.next) ah
   have wA:=db (i:=A) (n:=s1.next) ah
   have wF:=db (i:=F) (n:=s1.next) ah
   obtain⟨cs8,jN,LL,L4⟩:=HZ (A:=A) (K:=⟨251008022,s1.next⟩) (nx:=s1.next+1) (j:=j) mR mnd mver ah Sr aT aT mn
   rw[qx]at L4
   obtain⟨c8,rfl⟩:∃c,cs8=[c]:=by
    rcases LL with⟨_,h⟩|⟨id,h,_⟩<;>exact⟨_,h⟩
   (try((repeat(revert hN;revert N;apply Pn.out));refine wk (tw @m0 (tw @m1 (tw @m5 (tw @m6 (tw @mX (tw @mF (tw @hj (tw @jc (tw @aD.eq_1 (tw @mg (tw @jN (tw @ij (tw @fR (tw @jD (tw @x1 (tw @x2 (tw @x3 (tw @wX (tw @wA (tw @wF @bZ.eq_1)))))))))))))))))))) ?_;(repeat(refine Pn.mk ?_;intro N hN))))
   refine Ql (fun e s=>e 0=.int .i64 cnt/\e 1=.sl (bs.map aD)/\e 5=.ptr X 0 0/\e 6=.int .i64 j/\s.get X=some ⟨true,4,[bZ cnt bs A F]⟩/\s.get F=some ⟨true,1,eB (fun _=>0) bs.length⟩/\sD A F.bj (mm cnt bs (j+1)) s.get s.next/\F.bj<s.next) ?_ ?_
   ·rintro e2 s2 ⟨p0,p1,p5,p6,pX,pF,pL,pn⟩
    simp only[dj,aZ]
    refine hN _ _ ?_
    clear hN N
    (try((repeat(revert hN;revert N;apply Pn.out));refine wk (tw @p0 (tw @p1 (tw @p5 @p6))) ?_;(repeat(refine Pn.mk ?_;intro N hN))))
    refine cq ?_ ?_ ?_ ?_ (⟨by obtain⟨r,i,q1,q2,q3,q4⟩:=pL;exact⟨r,i,sd @q1,q2,q3,fun x hx=>by have:=q4 x hx;(try dsimp only);omega⟩,aT⟩)
    all_goals simp only[go_sem, ↓reduceIte,Nat.reduceEqDiff,Nat.reduceAdd,Nat.reduceSub,Nat.reduceLeDiff,reduceCtorEq,p0,p1,p5,p6,pX,pF]
   ·intro N hN
    rcases LL with⟨OV,By⟩|⟨id,By,hLp,hid,O1,su⟩
    ·simp only[List.cons.injEq,and_true]at By
     subst By
     subst OV
     refine fD ?_ ?_<;>(try((repeat(revert hN;revert N;apply Pn.out));refine wk (tw @m0 (tw @m1 (tw @m5 (tw @m6 (tw @mX (tw @mF (tw @hj (tw @jc (tw @aD.eq_1 (tw @mg (tw @jN (tw @ij (tw @fR (tw @jD (tw @x1 (tw @x2 (tw @x3 (tw @wX (tw @wA (tw @wF @bZ.eq_1)))))))))))))))))))) ?_;(repeat(refine Pn.mk ?_;intro N hN))))<;>(try refine fD ?_ ?_)<;>(try((repeat(revert hN;revert N;apply Pn.out));refine wk (tw @m0 (tw @m1 (tw @m5 (tw @m6 (tw @mX (tw @mF (tw @hj (tw @jc (tw @aD.eq_1 (tw @mg (tw @jN (tw @ij (tw @fR (tw @jD (tw @x1 (tw @x2 (tw @x3 (tw @wX (tw @wA (tw @wF @bZ.eq_1)))))))))))))))))))) ?_;(repeat(refine Pn.mk ?_;intro N hN))))<;>(try refine fD ?_ ?_)<;>(try((repeat(revert hN;revert N;apply Pn.out));refine wk (tw @m0 (tw @m1 (tw @m5 (tw @m6 (tw @mX (tw @mF (tw @hj (tw @jc (tw @aD.eq_1 (tw @mg (tw @jN (tw @ij (tw @fR (tw @jD (tw @x1 (tw @x2 (tw @x3 (tw @wX (tw @wA (tw @wF @bZ.eq_1)))))))))))))))))))) ?_;(repeat(refine Pn.mk ?_;intro N hN))))<;>(try refine fD ?_ ?_)<;>(try((repeat(revert hN;revert N;apply Pn.out));refine wk (tw @m0 (tw @m1 (tw @m5 (tw @m6 (tw @mX (tw @mF (tw @hj (tw @jc (tw @aD.eq_1 (tw @mg (tw @jN (tw @ij (tw @fR (tw @jD (tw @x1 (tw @x2 (tw @x3 (tw @wX (tw @wA (tw @wF @bZ.eq_1)))))))))))))))))))) ?_;(repeat(refine Pn.mk ?_;intro N hN))))<;>(try refine fD ?_ ?_)<;>(try((repeat(revert hN;revert N;apply Pn.out));refine wk (tw @m0 (tw @m1 (tw @m5 (tw @m6 (tw @mX (tw @mF (tw @hj (tw @jc (tw @aD.eq_1 (tw @mg (tw @jN (tw @ij (tw @fR (tw @jD (tw @x1 (tw @x2 (tw @x3 (tw @wX (tw @wA (tw @wF @bZ.eq_1)))))))))))))))))))) ?_;(repeat(refine Pn.mk ?_;intro N hN))))<;>(try refine fD ?_ ?_)<;>(try((repeat(revert hN;revert N;apply Pn.out));refine wk (tw @m0 (tw @m1 (tw @m5 (tw @m6 (tw @mX (tw @mF (tw @hj (tw @jc (tw @aD.eq_1 (tw @mg (tw @jN (tw @ij (tw @fR (tw @jD (tw @x1 (tw @x2 (tw @x3 (tw @wX (tw @wA (tw @wF @bZ.eq_1)))))))))))))))))))) ?_;(repeat(refine Pn.mk ?_;intro N hN))))
     all_goals
      refine⟨by simp only[go_sem, ↓reduceIte,Nat.reduceEqDiff,Nat.reduceAdd,Nat.reduceSub,Nat.reduceLeDiff,reduceCtorEq,m0,m1,m5,m6,mX,mF,hj,jc,aD,mg,jN,ij,fR,jD,x1,x2,x3,wX,wA,wF,bZ],by simp only[go_sem, ↓reduceIte,Nat.reduceEqDiff,Nat.reduceAdd,Nat.reduceSub,Nat.reduceLeDiff,reduceCtorEq,m0,m1,m5,m6,mX,mF,hj,jc,aD,mg,jN,ij,fR,jD,x1,x2,x3,wX,wA,wF,bZ],by simp only[go_sem, ↓reduceIte,Nat.reduceEqDiff,Nat.reduceAdd,Nat.reduceSub,Nat.reduceLeDiff,reduceCtorEq,m0,m1,m5,m6,mX,mF,hj,jc,aD,mg,jN,ij,fR,jD,x1,x2,x3,wX,wA,wF,bZ],by simp only[go_sem, ↓reduceIte,Nat.reduceEqDiff,Nat.reduceAdd,Nat.reduceSub,Nat.reduceLeDiff,reduceCtorEq,m0,m1,m5,m6,mX,mF,hj,jc,aD,mg,jN,ij,fR,jD,x1,x2,x3,wX,wA,wF,bZ],by simp only[go_sem, ↓reduceIte,Nat.reduceEqDiff,Nat.reduceAdd,Nat.reduceSub,Nat.reduceLeDiff,reduceCtorEq,m0,m1,m5,m6,mX,mF,hj,jc,aD,mg,jN,ij,fR,jD,x1,x2,x3,wX,wA,wF,bZ],by simp only[go_sem, ↓reduceIte,Nat.reduceEqDiff,Nat.reduceAdd,Nat.reduceSub,Nat.reduceLeDiff,reduceCtorEq,m0,m1,m5,m6,mX,mF,hj,jc,aD,mg,jN,ij,fR,jD,x1,x2,x3,wX,wA,wF,bZ],L4 _ (by simp only[go_sem, ↓reduceIte,Nat.reduceEqDiff,Nat.reduceAdd,Nat.reduceSub,Nat.reduceLeDiff,reduceCtorEq,m0,m1,m5,m6,mX,mF,hj,jc,aD,mg,jN,ij,fR,jD,x1,x2,x3,wX,wA,wF,bZ,List.length_nil]) (by simp only[go_sem, ↓reduceIte,Nat.reduceEqDiff,Nat.reduceAdd,Nat.reduceSub,Nat.reduceLeDiff,reduceCtorEq,m0,m1,m5,m6,mX,mF,hj,jc,aD,mg,jN,ij,fR,jD,x1,x2,x3,wX,wA,wF,bZ,List.map_nil,List.nil_append]) (fun i hi Sw fZ=>?_),aT⟩
      clear fZ
      simp only[go_sem, ↓reduceIte,Nat.reduceEqDiff,Nat.reduceAdd,Nat.reduceSub,Nat.reduceLeDiff,reduceCtorEq,wX,wA,wF,db hi,Sw]
    ·simp only[List.cons.injEq,and_true]at By
     subst By
     have tQ:=db O1
     have y1:=bH (a:=A) (b:=id) ah
     have y2:=bH (a:=F) (b:=id) su
     have y3:=bH (a:=X) (b:=id) ah
     have e3:Lb.length+1<=16777216:=ah
     have z1:(Lb.map eN).length=Lb.length:=by simp
     refine fD ?_ ?_<;>(try((repeat(revert hN;revert N;apply Pn.out));refine wk (tw @m0 (tw @m1 (tw @m5 (tw @m6 (tw @mX (tw @mF (tw @hj (tw @jc (tw @aD.eq_1 (tw @mg (tw @jN (tw @ij (tw @fR (tw @jD (tw @x1 (tw @x2 (tw @x3 (tw @wX (tw @wA (tw @wF (tw @bZ.eq_1 (tw @hid (tw @tQ (tw @y1 (tw @y2 (tw @y3 (tw @e3 @z1))))))))))))))))))))))))))) ?_;(repeat(refine Pn.mk ?_;intro N hN))))<;>(try refine fD ?_ ?_)<;>(try((repeat(revert hN;revert N;apply Pn.out));refine wk (tw @m0 (tw @m1 (tw @m5 (tw @m6 (tw @mX (tw @mF (tw @hj (tw @jc (tw @aD.eq_1 (tw @mg (tw @jN (tw @ij (tw @fR (tw @jD (tw @x1 (tw @x2 (tw @x3 (tw @wX (tw @wA (tw @wF (tw @bZ.eq_1 (tw @hid (tw @tQ (tw @y1 (tw @y2 (tw @y3 (tw @e3 @z1))))))))))))))))))))))))))) ?_;(repeat(refine Pn.mk ?_;intro N hN))))<;>(try refine fD ?_ ?_)<;>(try((repeat(revert hN;revert N;apply Pn.out));refine wk (tw @m0 (tw @m1 (tw @m5 (tw @m6 (tw @mX (tw @mF (tw @hj (tw @jc (tw @aD.eq_1 (tw @mg (tw @jN (tw @ij (tw @fR (tw @jD (tw @x1 (tw @x2 (tw @x3 (tw @wX (tw @wA (tw @wF (tw @bZ.eq_1 (tw @hid (tw @tQ (tw @y1 (tw @y2 (tw @y3 (tw @e3 @z1))))))))))))))))))))))))))) ?_;(repeat(refine Pn.mk ?_;intro N hN))))<;>(try refine fD ?_ ?_)<;>(try((repeat(revert hN;revert N;apply Pn.out));refine wk (tw @m0 (tw @m1 (tw @m5 (tw @m6 (tw @mX (tw @mF (tw @hj (tw @jc (tw @aD.eq_1 (tw @mg (tw @jN (tw @ij (tw @fR (tw @jD (tw @x1 (tw @x2 (tw @x3 (tw @wX (tw @wA (tw @wF (tw @bZ.eq_1 (tw @hid (tw @tQ (tw @y1 (tw @y2 (tw @y3 (tw @e3 @z1))))))))))))))))))))))))))) ?_;(repeat(refine Pn.mk ?_;intro N hN))))<;>(try refine fD ?_ ?_)<;>(try((repeat(revert hN;revert N;apply Pn.out));refine wk (tw @m0 (tw @m1 (tw @m5 (tw @m6 (tw @mX (tw @mF (tw @hj (tw @jc (tw @aD.eq_1 (tw @mg (tw @jN (tw @ij (tw @fR (tw @jD (tw @x1 (tw @x2 (tw @x3 (tw @wX (tw @wA (tw @wF (tw @bZ.eq_1 (tw @hid (tw @tQ (tw @y1 (tw @y2 (tw @y3 (tw @e3 @z1))))))))))))))))))))))))))) ?_;(repeat(refine Pn.mk ?_;intro N hN))))<;>(try refine fD ?_ ?_)<;>(try((repeat(revert hN;revert N;apply Pn.out));refine wk (tw @m0 (tw @m1 (tw @m5 (tw @m6 (tw @mX (tw @mF (tw @hj (tw @jc (tw @aD.eq_1 (tw @mg (tw @jN (tw @ij (tw @fR (tw @jD (tw @x1 (tw @x2 (tw @x3 (tw @wX (tw @wA (tw @wF (tw @bZ.eq_1 (tw @hid (tw @tQ (tw @y1 (tw @y2 (tw @y3 (tw @e3 @z1))))))))))))))))))))))))))) ?_;(repeat(refine Pn.mk ?_;intro N hN))))
     all_goals
      refine⟨by simp only[go_sem, ↓reduceIte,Nat.reduceEqDiff,Nat.reduceAdd,Nat.reduceSub,Nat.reduceLeDiff,reduceCtorEq,m0,m1,m5,m6,mX,mF,hj,jc,aD,mg,jN,ij,fR,jD,x1,x2,x3,wX,wA,wF,bZ,hid,tQ,y1,y2,y3,e3,z1],by simp only[go_sem, ↓reduceIte,Nat.reduceEqDiff,Nat.reduceAdd,Nat.reduceSub,Nat.reduceLeDiff,reduceCtorEq,m0,m1,m5,m6,mX,mF,hj,jc,aD,mg,jN,ij,fR,jD,x1,x2,x3,wX,wA,wF,bZ,hid,tQ,y1,y2,y3,e3,z1],by simp only[go_sem, ↓reduceIte,Nat.reduceEqDiff,Nat.reduceAdd,Nat.reduceSub,Nat.reduceLeDiff,reduceCtorEq,m0,m1,m5,m6,mX,mF,hj,jc,aD,mg,jN,ij,fR,jD,x1,x2,x3,wX,wA,wF,bZ,hid,tQ,y1,y2,y3,e3,z1],by simp only[go_sem, ↓reduceIte,Nat.reduceEqDiff,Nat.reduceAdd,Nat.reduceSub,Nat.reduceLeDiff,reduceCtorEq,m0,m1,m5,m6,mX,mF,hj,jc,aD,mg,jN,ij,fR,jD,x1,x2,x3,wX,wA,wF,bZ,hid,tQ,y1,y2,y3,e3,z1],by simp only[go_sem, ↓reduceIte,Nat.reduceEqDiff,Nat.reduceAdd,Nat.reduceSub,Nat.reduceLeDiff,reduceCtorEq,m0,m1,m5,m6,mX,mF,hj,jc,aD,mg,jN,ij,fR,jD,x1,x2,x3,wX,wA,wF,bZ,hid,tQ,y1,y2,y3,e3,z1],by simp only[go_sem, ↓reduceIte,Nat.reduceEqDiff,Nat.reduceAdd,Nat.reduceSub,Nat.reduceLeDiff,reduceCtorEq,m0,m1,m5,m6,mX,mF,hj,jc,aD,mg,jN,ij,fR,jD,x1,x2,x3,wX,wA,wF,bZ,hid,tQ,y1,y2,y3,e3,z1],L4 _ (by simp only[go_sem, ↓reduceIte,Nat.reduceEqDiff,Nat.reduceAdd,Nat.reduceSub,Nat.reduceLeDiff,reduceCtorEq,m0,m1,m5,m6,mX,mF,hj,jc,aD,mg,jN,ij,fR,jD,x1,x2,x3,wX,wA,wF,bZ,hid,tQ,y1,y2,y3,e3,z1,List.length_nil]) (by simp only[go_sem, ↓reduceIte,Nat.reduceEqDiff,Nat.reduceAdd,Nat.reduceSub,Nat.reduceLeDiff,reduceCtorEq,m0,m1,m5,m6,mX,mF,hj,jc,aD,mg,jN,ij,fR,jD,x1,x2,x3,wX,wA,wF,bZ,hid,tQ,y1,y2,y3,e3,z1,List.map_nil,List.nil_append]) (fun i hi Sw fZ=>?_),aT⟩
      have iD:=fZ id rfl
      simp only[go_sem, ↓reduceIte,Nat.reduceEqDiff,Nat.reduceAdd,Nat.reduceSub,Nat.reduceLeDiff,reduceCtorEq,wX,wA,wF,db hi,Sw,iD]
  ·intro N hN
   rcases LK with⟨OV,By⟩|⟨id,By,hLp,hid,O1,su⟩
   ·simp only[List.cons.injEq,and_true]at By
    subst By
    subst OV
    refine fD ?_ ?_<;>(try((repeat(revert hN;revert N;apply Pn.out));refine wk (tw @a6 (tw @a5 (tw @ag0 (tw @ag1 (tw @a0 (tw @a1 (tw @hj (tw @jc (tw @aD.eq_1 (tw @ag (tw @jM (tw @ij (tw @fR (tw @jB (tw @x1 (tw @x2 (tw @x3 (tw @vX (tw @vA (tw @vF @bZ.eq_1)))))))))))))))))))) ?_;(repeat(refine Pn.mk ?_;intro N hN))))<;>(try refine fD ?_ ?_)<;>(try((repeat(revert hN;revert N;apply Pn.out));refine wk (tw @a6 (tw @a5 (tw @ag0 (tw @ag1 (tw @a0 (tw @a1 (tw @hj (tw @jc (tw @aD.eq_1 (tw @ag (tw @jM (tw @ij (tw @fR (tw @jB (tw @x1 (tw @x2 (tw @x3 (tw @vX (tw @vA (tw @vF @bZ.eq_1)))))))))))))))))))) ?_;(repeat(refine Pn.mk ?_;intro N hN))))<;>(try refine fD ?_ ?_)<;>(try((repeat(revert hN;revert N;apply Pn.out));refine wk (tw @a6 (tw @a5 (tw @ag0 (tw @ag1 (tw @a0 (tw @a1 (tw @hj (tw @jc (tw @aD.eq_1 (tw @ag (tw @jM (tw @ij (tw @fR (tw @jB (tw @x1 (tw @x2 (tw @x3 (tw @vX (tw @vA (tw @vF @bZ.eq_1)))))))))))))))))))) ?_;(repeat(refine Pn.mk ?_;intro N hN))))<;>(try refine fD ?_ ?_)<;>(try((repeat(revert hN;revert N;apply Pn.out));refine wk (tw @a6 (tw @a5 (tw @ag0 (tw @ag1 (tw @a0 (tw @a1 (tw @hj (tw @jc (tw @aD.eq_1 (tw @ag (tw @jM (tw @ij (tw @fR (tw @jB (tw @x1 (tw @x2 (tw @x3 (tw @vX (tw @vA (tw @vF @bZ.eq_1)))))))))))))))))))) ?_;(repeat(refine Pn.mk ?_;intro N hN))))<;>(try refine fD ?_ ?_)<;>(try((repeat(revert hN;revert N;apply Pn.out));refine wk (tw @a6 (tw @a5 (tw @ag0 (tw @ag1 (tw @a0 (tw @a1 (tw @hj (tw @jc (tw @aD.eq_1 (tw @ag (tw @jM (tw @ij (tw @fR (tw @jB (tw @x1 (tw @x2 (tw @x3 (tw @vX (tw @vA (tw @vF @bZ.eq_1)))))))))))))))))))) ?_;(repeat(refine Pn.mk ?_;intro N hN))))<;>(try refine fD ?_ ?_)<;>(try((repeat(revert hN;revert N;apply Pn.out));refine wk (tw @a6 (tw @a5 (tw @ag0 (tw @ag1 (tw @a0 (tw @a1 (tw @hj (tw @jc (tw @aD.eq_1 (tw @ag (tw @jM (tw @ij (tw @fR (tw @jB (tw @x1 (tw @x2 (tw @x3 (tw @vX (tw @vA (tw @vF @bZ.eq_1)))))))))))))))))))) ?_;(repeat(refine Pn.mk ?_;intro N hN))))
    all_goals
     refine⟨by simp only[go_sem, ↓reduceIte,Nat.reduceEqDiff,Nat.reduceAdd,Nat.reduceSub,Nat.reduceLeDiff,reduceCtorEq,a6,a5,ag0,ag1,a0,a1,hj,jc,aD,ag,jM,ij,fR,jB,x1,x2,x3,vX,vA,vF,bZ],by simp only[go_sem, ↓reduceIte,Nat.reduceEqDiff,Nat.reduceAdd,Nat.reduceSub,Nat.reduceLeDiff,reduceCtorEq,a6,a5,ag0,ag1,a0,a1,hj,jc,aD,ag,jM,ij,fR,jB,x1,x2,x3,vX,vA,vF,bZ],by simp only[go_sem, ↓reduceIte,Nat.reduceEqDiff,Nat.reduceAdd,Nat.reduceSub,Nat.reduceLeDiff,reduceCtorEq,a6,a5,ag0,ag1,a0,a1,hj,jc,aD,ag,jM,ij,fR,jB,x1,x2,x3,vX,vA,vF,bZ],by simp only[go_sem, ↓reduceIte,Nat.reduceEqDiff,Nat.reduceAdd,Nat.reduceSub,Nat.reduceLeDiff,reduceCtorEq,a6,a5,ag0,ag1,a0,a1,hj,jc,aD,ag,jM,ij,fR,jB,x1,x2,x3,vX,vA,vF,bZ],by simp only[go_sem, ↓reduceIte,Nat.reduceEqDiff,Nat.reduceAdd,Nat.reduceSub,Nat.reduceLeDiff,reduceCtorEq,a6,a5,ag0,ag1,a0,a1,hj,jc,aD,ag,jM,ij,fR,jB,x1,x2,x3,vX,vA,vF,bZ],by simp only[go_sem, ↓reduceIte,Nat.reduceEqDiff,Nat.reduceAdd,Nat.reduceSub,Nat.reduceLeDiff,reduceCtorEq,a6,a5,ag0,ag1,a0,a1,hj,jc,aD,ag,jM,ij,fR,jB,x1,x2,x3,vX,vA,vF,bZ],L3 _ (by simp only[go_sem, ↓reduceIte,Nat.reduceEqDiff,Nat.reduceAdd,Nat.reduceSub,Nat.reduceLeDiff,reduceCtorEq,a6,a5,ag0,ag1,a0,a1,hj,jc,aD,ag,jM,ij,fR,jB,x1,x2,x3,vX,vA,vF,bZ,List.length_nil]) (by simp only[go_sem, ↓reduceIte,Nat.reduceEqDiff,Nat.reduceAdd,Nat.reduceSub,Nat.reduceLeDiff,reduceCtorEq,a6,a5,ag0,ag1,a0,a1,hj,jc,aD,ag,jM,ij,fR,jB,x1,x2,x3,vX,vA,vF,bZ,List.map_nil,List.nil_append]) (fun i hi Sw fZ=>?_),aT⟩
     clear fZ
     simp only[go_sem, ↓reduceIte,Nat.reduceEqDiff,Nat.reduceAdd,Nat.reduceSub,Nat.reduceLeDiff,reduceCtorEq,vX,vA,vF,db hi,Sw]
   ·simp only[List.cons.injEq,and_true]at By
    subst By
    have tQ:=db O1
    have y1:=bH (a:=A) (b:=id) ah
    have y2:=bH (a:=F) (b:=id) su
    have y3:=bH (a:=X) (b:=id) ah
    have e3:La.length+1<=16777216:=ah
    have z1:(La.map eN).length=La.length:=by simp
    refine fD ?_ ?_<;>(try((repeat(revert hN;revert N;apply Pn.out));refine wk (tw @a6 (tw @a5 (tw @ag0 (tw @ag1 (tw @a0 (tw @a1 (tw @hj (tw @jc (tw @aD.eq_1 (tw @ag (tw @jM (tw @ij (tw @fR (tw @jB (tw @x1 (tw @x2 (tw @x3 (tw @vX (tw @vA (tw @vF (tw @bZ.eq_1 (tw @hid (tw @tQ (tw @y1 (tw @y2 (tw @y3 (tw @e3 @z1))))))))))))))))))))))))))) ?_;(repeat(refine Pn.mk ?_;intro N hN))))<;>(try refine fD ?_ ?_)<;>(try((repeat(revert hN;revert N;apply Pn.out));refine wk (tw @a6 (tw @a5 (tw @ag0 (tw @ag1 (tw @a0 (tw @a1 (tw @hj (tw @jc (tw @aD.eq_1 (tw @ag (tw @jM (tw @ij (tw @fR (tw @jB (tw @x1 (tw @x2 (tw @x3 (tw @vX (tw @vA (tw @vF (tw @bZ.eq_1 (tw @hid (tw @tQ (tw @y1 (tw @y2 (tw @y3 (tw @e3 @z1))))))))))))))))))))))))))) ?_;(repeat(refine Pn.mk ?_;intro N hN))))<;>(try refine fD ?_ ?_)<;>(try((repeat(revert hN;revert N;apply Pn.out));refine wk (tw @a6 (tw @a5 (tw @ag0 (tw @ag1 (tw @a0 (tw @a1 (tw @hj (tw @jc (tw @aD.eq_1 (tw @ag (tw @jM (tw @ij (tw @fR (tw @jB (tw @x1 (tw @x2 (tw @x3 (tw @vX (tw @vA (tw @vF (tw @bZ.eq_1 (tw @hid (tw @tQ (tw @y1 (tw @y2 (tw @y3 (tw @e3 @z1))))))))))))))))))))))))))) ?_;(repeat(refine Pn.mk ?_;intro N hN))))<;>(try refine fD ?_ ?_)<;>(try((repeat(revert hN;revert N;apply Pn.out));refine wk (tw @a6 (tw @a5 (tw @ag0 (tw @ag1 (tw @a0 (tw @a1 (tw @hj (tw @jc (tw @aD.eq_1 (tw @ag (tw @jM (tw @ij (tw @fR (tw @jB (tw @x1 (tw @x2 (tw @x3 (tw @vX (tw @vA (tw @vF (tw @bZ.eq_1 (tw @hid (tw @tQ (tw @y1 (tw @y2 (tw @y3 (tw @e3 @z1))))))))))))))))))))))))))) ?_;(repeat(refine Pn.mk ?_;intro N hN))))<;>(try refine fD ?_ ?_)<;>(try((repeat(revert hN;revert N;apply Pn.out));refine wk (tw @a6 (tw @a5 (tw @ag0 (tw @ag1 (tw @a0 (tw @a1 (tw @hj (tw @jc (tw @aD.eq_1 (tw @ag (tw @jM (tw @ij (tw @fR (tw @jB (tw @x1 (tw @x2 (tw @x3 (tw @vX (tw @vA (tw @vF (tw @bZ.eq_1 (tw @hid (tw @tQ (tw @y1 (tw @y2 (tw @y3 (tw @e3 @z1))))))))))))))))))))))))))) ?_;(repeat(refine Pn.mk ?_;intro N hN))))<;>(try refine fD ?_ ?_)<;>(try((repeat(revert hN;revert N;apply Pn.out));refine wk (tw @a6 (tw @a5 (tw @ag0 (tw @ag1 (tw @a0 (tw @a1 (tw @hj (tw @jc (tw @aD.eq_1 (tw @ag (tw @jM (tw @ij (tw @fR (tw @jB (tw @x1 (tw @x2 (tw @x3 (tw @vX (tw @vA (tw @vF (tw @bZ.eq_1 (tw @hid (tw @tQ (tw @y1 (tw @y2 (tw @y3 (tw @e3 @z1))))))))))))))))))))))))))) ?_;(repeat(refine Pn.mk ?_;intro N hN))))
    all_goals
     refine⟨by simp only[go_sem, ↓reduceIte,Nat.reduceEqDiff,Nat.reduceAdd,Nat.reduceSub,Nat.reduceLeDiff,reduceCtorEq,a6,a5,ag0,ag1,a0,a1,hj,jc,aD,ag,jM,ij,fR,jB,x1,x2,x3,vX,vA,vF,bZ,hid,tQ,y1,y2,y3,e3,z1],by simp only[go_sem, ↓reduceIte,Nat.reduceEqDiff,Nat.reduceAdd,Nat.reduceSub,Nat.reduceLeDiff,reduceCtorEq,a6,a5,ag0,ag1,a0,a1,hj,jc,aD,ag,jM,ij,fR,jB,x1,x2,x3,vX,vA,vF,bZ,hid,tQ,y1,y2,y3,e3,z1],by simp only[go_sem, ↓reduceIte,Nat.reduceEqDiff,Nat.reduceAdd,Nat.reduceSub,Nat.reduceLeDiff,reduceCtorEq,a6,a5,ag0,ag1,a0,a1,hj,jc,aD,ag,jM,ij,fR,jB,x1,x2,x3,vX,vA,vF,bZ,hid,tQ,y1,y2,y3,e3,z1],by simp only[go_sem, ↓reduceIte,Nat.reduceEqDiff,Nat.reduceAdd,Nat.reduceSub,Nat.reduceLeDiff,reduceCtorEq,a6,a5,ag0,ag1,a0,a1,hj,jc,aD,ag,jM,ij,fR,jB,x1,x2,x3,vX,vA,vF,bZ,hid,tQ,y1,y2,y3,e3,z1],by simp only[go_sem, ↓reduceIte,Nat.reduceEqDiff,Nat.reduceAdd,Nat.reduceSub,Nat.reduceLeDiff,reduceCtorEq,a6,a5,ag0,ag1,a0,a1,hj,jc,aD,ag,jM,ij,fR,jB,x1,x2,x3,vX,vA,vF,bZ,hid,tQ,y1,y2,y3,e3,z1],by simp only[go_sem, ↓reduceIte,Nat.reduceEqDiff,Nat.reduceAdd,Nat.reduceSub,Nat.reduceLeDiff,reduceCtorEq,a6,a5,ag0,ag1,a0,a1,hj,jc,aD,ag,jM,ij,fR,jB,x1,x2,x3,vX,vA,vF,bZ,hid,tQ,y1,y2,y3,e3,z1],L3 _ (by simp only[go_sem, ↓reduceIte,Nat.reduceEqDiff,Nat.reduceAdd,Nat.reduceSub,Nat.reduceLeDiff,reduceCtorEq,a6,a5,ag0,ag1,a0,a1,hj,jc,aD,ag,jM,ij,fR,jB,x1,x2,x3,vX,vA,vF,bZ,hid,tQ,y1,y2,y3,e3,z1,List.length_nil]) (by simp only[go_sem, ↓reduceIte,Nat.reduceEqDiff,Nat.reduceAdd,Nat.reduceSub,Nat.reduceLeDiff,reduceCtorEq,a6,a5,ag0,ag1,a0,a1,hj,jc,aD,ag,jM,ij,fR,jB,x1,x2,x3,vX,vA,vF,bZ,hid,tQ,y1,y2,y3,e3,z1,List.map_nil,List.nil_append]) (fun i hi Sw fZ=>?_),aT⟩
     have iD:=fZ id rfl
     simp only[go_sem, ↓reduceIte,Nat.reduceEqDiff,Nat.reduceAdd,Nat.reduceSub,Nat.reduceLeDiff,reduceCtorEq,vX,vA,vF,db hi,Sw,iD]
 ·have gY:j=bs.length:=ah
  subst gY
  (try((repeat(revert hN;revert N;apply Pn.out));refine wk (tw @a6 (tw @a5 (tw @ag0 (tw @ag1 (tw @a0 (tw @a1 @hj)))))) ?_;(repeat(refine Pn.mk ?_;intro N hN))))
  exact eS (.inl rfl) (by simp only[fM,iU,go_sem, ↓reduceIte,Nat.reduceEqDiff,Nat.reduceAdd,Nat.reduceSub,Nat.reduceLeDiff,reduceCtorEq];rfl) ⟨X,A,F,rfl,hXs,⟨ag0,⟨rows,ids,ag,hR,lk,fun x hx=>by have:=pd x hx;(try dsimp only);omega⟩,ag1,hXA,hAF,aT⟩⟩
theorem sD.frame {A:Id} {lo nx zE:Nat} {L:List (List Nat)} {g g':Rows} (h:sD A lo L g nx) (hA:A.bj<nx) (hf:∀i:Id,i.bj<nx->lo<i.bj∨i=A->g' i=g i) (hn:nx<=zE):sD A lo L g' zE:=by
 obtain⟨rows,ids,h1,h2,h3,h4⟩:=h
 refine⟨rows,ids,(hf A hA (.inr rfl)).trans h1,h2.frame Q7 fun i hi=>hf i (h4 i hi).2 (.inl (h4 i hi).1),h3,fun i hi=>?_⟩
 have:=h4 i hi;omega
theorem pk.frame {cnt:Nat} {bs:List PB} {f:Nat->Int} {X A F:Id} {g g':Rows} {nx zE:Nat} (h:pk cnt bs f X A F g nx) (hf:∀i:Id,i.bj<nx->g' i=g i) (hn:nx<=zE):pk cnt bs f X A F g' zE:=by
 have h1:=h.xa;have h2:=h.af;have h3:=h.fn
 exact⟨(hf X ah).trans h.x,h.a.frame ah (fun i hi _=>hf i hi) hn,(hf F h3).trans h.f,h1,h2,ah⟩
theorem pk.U9 {cnt:Nat} {bs:List PB} {f f':Nat->Int} {X A F:Id} {g g':Rows} {nx zE:Nat} (h:pk cnt bs f X A F g nx) (hF:g' F=some ⟨true,1,eB f' bs.length⟩) (hf:∀i:Id,i.bj<nx->(i=F)=False->g' i=g i) (hn:nx<=zE):pk cnt bs f' X A F g' zE:=by
 have h1:=h.xa;have h2:=h.af;have h3:=h.fn
 refine⟨(hf X ah (bH ah).1).trans h.x,h.a.frame ah (fun i hi j6=>hf i hi ?_) hn,hF,h1,h2,ah⟩
 rcases j6 with j6|rfl
 ·exact(bH j6).2
 ·exact(bH h2).1
theorem Tj (cnt:Nat) (bs:List PB) (f:Nat->Int) (hs:Small bs f) (e v:Nat) (he:e<bs.length) (X A F:Id) (σ:aw) (nx:Nat) (hS:pk cnt bs f X A F σ.get nx) (hn:nx<=σ.next):
  Call Tryz.prog 298 [.ptr X 0 0,.int .i64 v,.int .i64 e] σ fun r σ'=>pk cnt bs (vY bs f e v) X A F σ'.get nx/\σ.next<=σ'.next/\∀i:Id,(i=F)=False->σ'.get i=σ.get i:=by
 refine eA eF rfl fun hl=>?_
 clear hl
 have hX:=hS.x
 have hF:=hS.f
 have hb:=wO he
 have Zl:=er (f:=f) he
 have tl:=dR f bs.length
 obtain⟨⟨s0,s1⟩,s2,s3⟩:=hs e he
 have hei:(e:Int)<(bs.length:Int):=ah
 have w1:IntKind.i64.wrap (f e+1)=f e+1:=bq ah
 have w2:IntKind.i64.wrap (f e-1)=f e+-1:=by rw[bq ah];omega
 rw[aU]at Zl
 unfold vY
 by_cases h:(cH bs e).a=v
 ·have eb:(eB f bs.length).set e (aU (f e+1))=eB (fun j=>f j+if j=e then(if (cH bs e).a=v then 1 else -1)else 0) bs.length:=l8 he (by rw[if_pos rfl,if_pos h]) fun i _ hi=>by rw[if_neg hi,Int.add_zero]
  rw[aU]at eb
  generalize Xx:cH bs e=b at *
  have hd:decide ((b.a:Int)=(v:Int))=true:=decide_eq_true (by rw[h])
  (try((repeat(revert hN;revert N;apply Pn.out));refine wk (tw @hX (tw @hF (tw @hb (tw @Zl (tw @tl (tw @hei (tw @w1 (tw @eb (tw @hd (tw @aD.eq_1 @bZ.eq_1)))))))))) ?_;(repeat(refine Pn.mk ?_;intro N hN))))
  exact eS (.inr rfl) (vs:=[]) rfl ⟨hS.U9 (sd @Nat.zero_add) (fun i hi iD=>sd @iD) (Nat.le_refl _),aT,fun i iD=>sd @iD⟩
 ·have eb:(eB f bs.length).set e (aU (f e+-1))=eB (fun j=>f j+if j=e then(if (cH bs e).a=v then 1 else -1)else 0) bs.length:=l8 he (by rw[if_pos rfl,if_neg h]) fun i _ hi=>by rw[if_neg hi,Int.add_zero]
  rw[aU]at eb
  generalize Xx:cH bs e=b at *
  have hd:decide ((b.a:Int)=(v:Int))=false:=decide_eq_false fun hc=>h ah
  (try((repeat(revert hN;revert N;apply Pn.out));refine wk (tw @hX (tw @hF (tw @hb (tw @Zl (tw @tl (tw @hei (tw @w2 (tw @eb (tw @hd (tw @aD.eq_1 @bZ.eq_1)))))))))) ?_;(repeat(refine Pn.mk ?_;intro N hN))))
  exact eS (.inr rfl) (vs:=[]) rfl ⟨hS.U9 (sd @Nat.zero_add) (fun i hi iD=>sd @iD) (Nat.le_refl _),aT,fun i iD=>sd @iD⟩
structure po (bs:List PB) (out:Nat->Int) (f f':Nat->Int) (x v:Nat):Prop where
 le:∀i,i<bs.length->f' i<=(cH bs i).s/\-(cH bs i).s<=f' i
 cut:∀S:Nat->Bool,IE S bs f'=IE S bs f+bi (S x)-bi (S v)
 AA:∀e,e<bs.length->out (cH bs e).a<=out v->out (cH bs e).b<=out v->f' e=f e
section
variable {cnt:Nat} {bs:List PB} {out:Nat->Int} {f f':Nat->Int} {x v y:Nat}
theorem po.start (h:∀i,i<bs.length->f i<=(cH bs i).s/\-(cH bs i).s<=f i):po bs out f f x x:=⟨h,fun S=>ah,fun _ _ _ _=>rfl⟩
theorem po.step (h:po bs out f f' x v) {e:Nat} (he:e<bs.length) (hi:Hk bs e v) (hr:0<gr bs f' e v) (hd:out (cw bs e v)=out v-1):po bs out f (vY bs f' e v) x (cw bs e v):=by
 refine⟨fun i mb=>?_,fun S=>?_,fun i mb ha hb=>?_⟩
 ·have h1:=h.le i mb
  unfold vY
  by_cases F8:i=e
  ·subst F8
   rw[if_pos rfl]
   unfold gr at hr
   split at hr<;>rename_i hc
   ·rw[if_pos hc];omega
   ·rw[if_neg hc];omega
  ·rw[if_neg F8];omega
 ·rw[IF he hi,h.cut S];omega
 ·have F8:i≠e:=by
   rintro rfl
   rcases hi with hi|hi
   ·rw[hi]at ha;omega
   ·rw[hi]at hb;omega
  unfold vY
  rw[if_neg F8,Int.add_zero]
  exact h.AA i mb ah ah
theorem po.goes (h:po bs out f f' x v) (hs:A3 cnt bs f y out) (hv:v<cnt) (h0:0<out v):∃e∈jn bs bs.length v,0<gr bs f' e v/\out (cw bs e v)=out v-1:=by
 obtain⟨e,h1,h2,h3,h4⟩:=hs.down v hv h0
 refine⟨e,te.2 ⟨h1,h2⟩,?_,h4⟩
 have hf:f' e=f e:=by
  refine h.AA e h1 ?_ ?_
  ·unfold cw at h4
   split at h4
   ·rename_i ha;rw[ha];exact Int.le_refl _
   ·omega
  ·unfold cw at h4
   rcases h2 with h2|h2
   ·rw[if_pos h2]at h4;omega
   ·rw[h2];exact Int.le_refl _
 unfold gr at h3 ⊢
 rw[hf];exact h3
theorem po.done {val:Int} (h:po bs out f f' x y) (hf:kJ bs f x y val):kJ bs f' x y (val+1):=
 ⟨h.le,fun S hx hy=>by rw[h.cut S,hf.cut S hx hy,hx,hy];simp[bi]⟩
theorem G1 {val:Int} (hs:A3 cnt bs f y out) (ok:oF cnt bs) (hf:kJ bs f x y val) (hx:out x<0):∃S:Nat->Bool,S x=true/\S y=false/\val=jz S bs:=by
 refine⟨fun v=>decide (out v<0),decide_eq_true hx,decide_eq_false (by rw[hs.first];omega),hf.full (decide_eq_true hx) (decide_eq_false (by rw[hs.first];omega)) fun i hi nV=>⟨fun h1 h2 hr=>?_,fun h1 h2 hr=>?_⟩⟩
 ·have QD:=of_decide_eq_true h1
  have EZ:=of_decide_eq_false h2
  have:=hs.shut i (cH bs i).a hi (.inl rfl) (by unfold cw;rw[if_pos rfl];omega) hr
  omega
 ·have QD:=of_decide_eq_true h1
  have EZ:=of_decide_eq_false h2
  have:=hs.shut i (cH bs i).b hi (.inr rfl) (by unfold cw;rw[if_neg nV];omega) hr
  omega
end
theorem yS {bs:List PB} {f:Nat->Int} (dC:∀e,e<bs.length->0<=(cH bs e).s/\(cH bs e).s<=4) (h:∀i,i<bs.length->f i<=(cH bs i).s/\-(cH bs i).s<=f i):Small bs f:=fun e he=>by
 have:=dC e he;have:=h e he;omega
theorem sD.at_ {A:Id} {lo nx v:Nat} {L:List (List Nat)} {l:List Nat} {g:Rows} (h:sD A lo L g nx) (hv:L[v]? =some l) (hl:0<l.length):∃(rows:List (List AV)) (id:Id),g A=some ⟨true,1,rows⟩/\rows.length=L.length/\rows[v]? =some [.own id 0 l.length]/\g id=some ⟨true,1,l.map eN⟩/\lo<id.bj/\id.bj<nx:=by
 obtain⟨rows,ids,h1,h2,h3,h4⟩:=h
 have hk:v<L.length:=(List.getElem?_eq_some_iff.1 hv).1
 obtain⟨cs,ic,dx,hR,Sx⟩:=h2.at_ v hk
 rw[lQ hv hk]at hR
 rcases hR with⟨h5,_⟩|⟨id,rfl,_,h6,rfl⟩
 ·subst h5;simp at hl
 ·have:=h4 id (Sx id (by simp))
  exact⟨rows,id,h1,h2.len,dx,h6,this.1,this.2⟩
theorem R4 (cnt:Nat) (hn:cnt<=1048576) (bs:List PB) (ok:oF cnt bs) (nW:bs.length<=1048576) (dC:∀e,e<bs.length->0<=(cH bs e).s/\(cH bs e).s<=4) (f:Nat->Int) (x y:Nat) (hx:x<cnt) (hy:y<cnt) (Wc:x≠y) (val:Int) (hf:kJ bs f x y val)
  (X A F:Id) (σ:aw) (nb:Nat) (hS:pk cnt bs f X A F σ.get nb) (qx:nb<=σ.next):
  Call Tryz.prog 252 [.ptr X 0 0,.int .i64 x,.int .i64 y] σ fun r σ'=>∃b f',r=.bool b/\pk cnt bs f' X A F σ'.get nb/\σ.next<=σ'.next/\(∀i:Id,i.bj<nb->(i=F)=False->σ'.get i=σ.get i)/\
   (b=false->f'=f/\∃S:Nat->Bool,S x=true/\S y=false/\val=jz S bs)/\(b=true->kJ bs f' x y (val+1)):=by
 refine eA eF rfl fun hl=>?_
 clear hl
 have CI:(x:Int)<(cnt:Int):=ah
 have hz:∀(g:Rows),(∀i:Id,i.bj<nb->g i=σ.get i)->cZ (dH g) 6 [.ptr X 0 0,.int .i64 (y:Int)]=some [.dn (gE cnt bs f),.int .i64 y]:=fun g hg=>by
  have:=(hS.frame hg (Nat.le_refl _)).fz
  simp only[aj,ar,this,aH,Option.map_some]
 (try((repeat(revert hN;revert N;apply Pn.out));refine wk @Nat.zero_add ?_;(repeat(refine Pn.mk ?_;intro N hN))))
 refine .inr (aI _ _ _ _ _ (fun r σ1 hq=>?_) ((Ia cnt hn bs ok nW f (yS dC hf.le) y hy).x mixed (hz _ (fun i hi=>rfl))))
 obtain⟨⟨out,rfl,SP⟩,rfl⟩:=hq
 refine hN _ _ ?_
 clear hN N
 have XN:=er (f:=out) hx
 have tl:=dR out cnt
 by_cases kQ:out x<0
 ·(try((repeat(revert hN;revert N;apply Pn.out));refine wk (tw @XN (tw @kQ (tw @CI (tw @tl @aU.eq_1)))) ?_;(repeat(refine Pn.mk ?_;intro N hN))))
  exact eS (.inl rfl) (vs:=[.bool false]) (sd @Nat.zero_add) ⟨false,f,rfl,hS.frame (fun i hi=>rfl) (Nat.le_refl _),aT,fun i _ _=>rfl,fun _=>⟨rfl,G1 SP ok hf kQ⟩,fun h=>by cases h⟩
 (try((repeat(revert hN;revert N;apply Pn.out));refine wk (tw @XN (tw @kQ (tw @CI (tw @tl @aU.eq_1)))) ?_;(repeat(refine Pn.mk ?_;intro N hN))))
 refine aQ (fun m env st=>∃(v:Nat) (f':Nat->Int),m=(out v).toNat/\v<cnt/\0<=out v/\env 8=.int .i64 (v:Int)/\po bs out f f' x v/\pk cnt bs f' X A F st.get nb/\(∀i:Id,i.bj<nb->(i=F)=False->st.get i=σ.get i)/\σ.next<=st.next) (out x).toNat ⟨x,f,rfl,hx,ah,by(simp only[go_sem, ↓reduceIte,Nat.reduceEqDiff,Nat.reduceAdd,Nat.reduceSub,Nat.reduceLeDiff,reduceCtorEq]),po.start hf.le,hS.frame (fun i hi=>rfl) (Nat.le_refl _),fun i _ _=>rfl,aT⟩ ?_
 rintro m env_b st_b ⟨v,f',rfl,hv,r4,b8,hW,hN1,j4,hle⟩ eI
 have b0:=eI 0 (by kernel_rfl)
 have b2:=eI 2 (by kernel_rfl)
 have b7:=eI 7 (by kernel_rfl)
 simp only[go_sem, ↓reduceIte,Nat.reduceEqDiff,Nat.reduceAdd,Nat.reduceSub,Nat.reduceLeDiff,reduceCtorEq]at b0 b2 b7
 clear eI
 by_cases XW:v=y
 ·have hd:decide ((v:Int)=(y:Int))=true:=decide_eq_true (by rw[XW])
  subst XW
  (try((repeat(revert hN;revert N;apply Pn.out));refine wk (tw @b0 (tw @b2 (tw @b7 (tw @b8 @hd)))) ?_;(repeat(refine Pn.mk ?_;intro N hN))))
  exact eS (.inl rfl) (vs:=[.bool true]) (sd @Nat.zero_add) ⟨true,f',rfl,hN1,aT,j4,fun h=>(by cases h),fun _=>hW.done hf⟩
 have hd:decide ((v:Int)=(y:Int))=false:=decide_eq_false fun h=>XW ah
 have CH:0<out v:=by
  have:=SP.zero v hv
  rcases Int.lt_or_eq_of_le r4 with h|h
  ·exact h
  ·exact absurd (this h.symm) XW
 have QO:=hW.goes SP hv CH
 have hIm:∀ed∈jn bs bs.length v,ed<bs.length/\Hk bs ed v:=fun ed h=>te.1 h
 have hIL:(mm cnt bs bs.length)[v]? =some (jn bs bs.length v):=by simp[mm,hv]
 have hIl:=td bs bs.length v
 generalize jn bs bs.length v=I at *
 have hIp:0<I.length:=by
  obtain⟨ed,h,_⟩:=QO
  exact List.length_pos_of_mem h
 obtain⟨rows,id,hgA,pg,mE,hid,hid1,hid2⟩:=hN1.a.at_ hIL hIp
 rw[jQ]at pg
 have hgX:=hN1.x
 have Gf:(v:Int)<(cnt:Int):=ah
 have sC:=er (f:=out) hv
 have jt:IntKind.i64.wrap (out v-1)=out v-1:=bq (by have:=SP.lo v hv;omega)
 have rW:(I.map eN).length=I.length:=by simp
 have Pe:=yS dC hW.le
 have jP:∀(g:Rows),(∀i:Id,i.bj<nb->g i=st_b.get i)->∀ed:Nat,cZ (dH g) 6 [.ptr X 0 0,.int .i64 (v:Int),.int .i64 (ed:Int)]=some [.dn (gE cnt bs f'),.int .i64 v,.int .i64 ed]:=fun g hg ed=>by
  have:=(hN1.frame hg (Nat.le_refl _)).fz
  simp only[aj,ar,this,aH,Option.map_some]
 rw[aU]at sC
 (try((repeat(revert hN;revert N;apply Pn.out));refine wk (tw @b0 (tw @b2 (tw @b7 (tw @b8 @hd)))) ?_;(repeat(refine Pn.mk ?_;intro N hN))))
 refine aQ (fun n env st=>∃k:Nat,n=(I.length)-k/\k<=(I.length)/\env 11=.int .i64 (k:Int)/\(∃(vW Hu:Int),env 9=.int .i64 vW/\env 10=.int .i64 Hu/\((vW<0/\∀z,z<k->¬(0<gr bs f' (I.getD z 0) v/\out (cw bs (I.getD z 0) v)=out v-1))∨∃ed:Nat,ed∈I/\Hu=(ed:Int)/\vW=(cw bs ed v:Int)/\0<gr bs f' ed v/\out (cw bs ed v)=out v-1))/\((∀i:Id,st.get i=st_b.get i)/\st_b.next<=st.next)) (I.length) ⟨0,ah,ah,sl (tw @b0 (tw @b2 (tw @b7 @b8))),⟨-1,0,by(simp only[go_sem, ↓reduceIte,Nat.reduceEqDiff,Nat.reduceAdd,Nat.reduceSub,Nat.reduceLeDiff,reduceCtorEq]),by(simp only[go_sem, ↓reduceIte,Nat.reduceEqDiff,Nat.reduceAdd,Nat.reduceSub,Nat.reduceLeDiff,reduceCtorEq]),.inl ⟨ah,fun z hz=>ah⟩⟩,⟨fun i=>rfl,aT⟩⟩ ?_
 rintro n_c env_c st_c ⟨k,rfl,cle,oW,cI0,cI1⟩ jf
 have c0:=jf 0 (by kernel_rfl);have c2:=jf 2 (by kernel_rfl);have c7:=jf 7 (by kernel_rfl);have c8:=jf 8 (by kernel_rfl)
 simp only[go_sem, ↓reduceIte,Nat.reduceEqDiff,Nat.reduceAdd,Nat.reduceSub,Nat.reduceLeDiff,reduceCtorEq,b0,b2,b7,b8]at c0 c2 c7 c8
 clear jf
 obtain⟨vW,Hu,c9,jY,LJ⟩:=cI0
 obtain⟨ny,Xy⟩:=cI1
 have F5:=(ny X).trans hgX
 have F4:=(ny A).trans hgA
 have BA:=(ny id).trans hid
 by_cases hk:(k:Int)<(I.length:Int)
 ·have hZ:∀{e:Env} {gg:Rows} {nx:Nat},(e 11=.int .i64 (IntKind.i64.wrap ((k:Int)+1)))->(∃(vW Hu:Int),e 9=.int .i64 vW/\e 10=.int .i64 Hu/\((vW<0/\∀z,z<(k+1)->¬(0<gr bs f' (I.getD z 0) v/\out (cw bs (I.getD z 0) v)=out v-1))∨∃ed:Nat,ed∈I/\Hu=(ed:Int)/\vW=(cw bs ed v:Int)/\0<gr bs f' ed v/\out (cw bs ed v)=out v-1))->((∀i:Id,gg i=st_b.get i)/\st_b.next<=nx)->∃m0,m0<(I.length)-k/\∃k:Nat,m0=(I.length)-k/\k<=(I.length)/\e 11=.int .i64 (k:Int)/\(∃(vW Hu:Int),e 9=.int .i64 vW/\e 10=.int .i64 Hu/\((vW<0/\∀z,z<k->¬(0<gr bs f' (I.getD z 0) v/\out (cw bs (I.getD z 0) v)=out v-1))∨∃ed:Nat,ed∈I/\Hu=(ed:Int)/\vW=(cw bs ed v:Int)/\0<gr bs f' ed v/\out (cw bs ed v)=out v-1))/\((∀i:Id,gg i=st_b.get i)/\st_b.next<=nx):=fun x1 x2 x3=>⟨_,ah,k+1,rfl,ah,(by rw[x1,ay ah]),x2,x3⟩
  have fy:k<I.length:=ah
  have eP:(I.map eN)[k]? =some (eN (I.getD k 0)):=getD_map eN fy
  have nY:I.getD k 0∈I:=by rw[List.getD_eq_getElem?_getD,List.getElem?_eq_getElem fy];exact List.getElem_mem fy
  obtain⟨he,qW⟩:=hIm _ nY
  have L8:=M5 cnt bs f' Pe (I.getD k 0) v he
  have vL:=jP st_c.get (fun i _=>ny i) (I.getD k 0)
  have hq:=qa ok (v:=v) he
  have Un:=er (f:=out) hq
  obtain⟨ed,hed⟩:∃ed,ed=I.getD k 0:=⟨_,rfl⟩
  rw[<-hed]at eP he qW L8 vL hq Un nY
  rw[aU]at Un
  rw[eN]at eP
  (try((repeat(revert hN;revert N;apply Pn.out));refine wk (tw @oW (tw @c0 (tw @c2 (tw @c7 (tw @c8 (tw @c9 (tw @jY (tw @hk (tw @F5 (tw @F4 (tw @BA (tw @mE (tw @pg (tw @Gf (tw @eP (tw @rW @bZ.eq_1)))))))))))))))) ?_;(repeat(refine Pn.mk ?_;intro N hN))))
  refine .inl ⟨_,au.x L8 vL,?_⟩
  refine hN _ _ ?_
  clear hN N
  have stay:∀k',k'=k+1->(¬(0<gr bs f' ed v/\out (cw bs ed v)=out v-1))->((vW<0/\∀z,z<k'->¬(0<gr bs f' (I.getD z 0) v/\out (cw bs (I.getD z 0) v)=out v-1))∨∃ed:Nat,ed∈I/\Hu=(ed:Int)/\vW=(cw bs ed v:Int)/\0<gr bs f' ed v/\out (cw bs ed v)=out v-1):=fun k' DJ k9=>by
   rcases LJ with⟨h1,h2⟩|h
   ·refine .inl ⟨h1,fun z hz=>?_⟩
    by_cases Gh:z=k
    ·subst Gh;rw[<-hed];exact k9
    ·exact h2 z ah
   ·exact .inr h
  by_cases hr:0<gr bs f' ed v
  ·by_cases NU:out (cw bs ed v)=out v-1
   ·have nw:decide (out (cw bs ed v)=out v-1)=true:=decide_eq_true NU
    have found:∃U0:Nat,U0∈I/\(ed:Int)=(U0:Int)/\(cw bs ed v:Int)=(cw bs U0 v:Int)/\0<gr bs f' U0 v/\out (cw bs U0 v)=out v-1:=⟨ed,nY,rfl,rfl,hr,NU⟩
    by_cases E8:vW<0
    ·(try((repeat(revert hN;revert N;apply Pn.out));refine wk (tw @oW (tw @c0 (tw @c2 (tw @c7 (tw @c8 (tw @c9 (tw @jY (tw @hk (tw @F5 (tw @F4 (tw @BA (tw @mE (tw @pg (tw @Gf (tw @eP (tw @rW (tw @hr (tw @Un (tw @sC (tw @jt (tw @nw (tw @E8 @bZ.eq_1)))))))))))))))))))))) ?_;(repeat(refine Pn.mk ?_;intro N hN))))
     exact hZ (sd (tw @oW (tw @c0 (tw @c2 (tw @c7 @c8))))) (⟨_,_,sd @Nat.zero_add,sd @Nat.zero_add,.inr found⟩) (⟨ny,aT⟩)
    ·by_cases ei:(cw bs ed v:Int)<vW
     ·(try((repeat(revert hN;revert N;apply Pn.out));refine wk (tw @oW (tw @c0 (tw @c2 (tw @c7 (tw @c8 (tw @c9 (tw @jY (tw @hk (tw @F5 (tw @F4 (tw @BA (tw @mE (tw @pg (tw @Gf (tw @eP (tw @rW (tw @hr (tw @Un (tw @sC (tw @jt (tw @nw (tw @E8 (tw @ei @bZ.eq_1))))))))))))))))))))))) ?_;(repeat(refine Pn.mk ?_;intro N hN))))
      exact hZ (sd (tw @oW (tw @c0 (tw @c2 (tw @c7 @c8))))) (⟨_,_,sd @Nat.zero_add,sd @Nat.zero_add,.inr found⟩) (⟨ny,aT⟩)
     ·(try((repeat(revert hN;revert N;apply Pn.out));refine wk (tw @oW (tw @c0 (tw @c2 (tw @c7 (tw @c8 (tw @c9 (tw @jY (tw @hk (tw @F5 (tw @F4 (tw @BA (tw @mE (tw @pg (tw @Gf (tw @eP (tw @rW (tw @hr (tw @Un (tw @sC (tw @jt (tw @nw (tw @E8 (tw @ei @bZ.eq_1))))))))))))))))))))))) ?_;(repeat(refine Pn.mk ?_;intro N hN))))
      exact hZ (sd (tw @oW (tw @c0 (tw @c2 (tw @c7 @c8))))) (⟨vW,Hu,sd @c9,sd @jY,by
       rcases LJ with⟨h1,_⟩|h
       ·exact absurd h1 E8
       ·exact .inr h⟩) (⟨ny,aT⟩)
   ·have nw:decide (out (cw bs ed v)=out v-1)=false:=decide_eq_false NU
    (try((repeat(revert hN;revert N;apply Pn.out));refine wk (tw @oW (tw @c0 (tw @c2 (tw @c7 (tw @c8 (tw @c9 (tw @jY (tw @hk (tw @F5 (tw @F4 (tw @BA (tw @mE (tw @pg (tw @Gf (tw @eP (tw @rW (tw @hr (tw @Un (tw @sC (tw @jt (tw @nw @bZ.eq_1))))))))))))))))))))) ?_;(repeat(refine Pn.mk ?_;intro N hN))))
    exact hZ (sd (tw @oW (tw @c0 (tw @c2 (tw @c7 @c8))))) (⟨vW,Hu,sd @c9,sd @jY,stay _ rfl fun h=>NU h.2⟩) (⟨ny,aT⟩)
  ·(try((repeat(revert hN;revert N;apply Pn.out));refine wk (tw @oW (tw @c0 (tw @c2 (tw @c7 (tw @c8 (tw @c9 (tw @jY (tw @hk (tw @F5 (tw @F4 (tw @BA (tw @mE (tw @pg (tw @Gf (tw @eP (tw @rW (tw @hr @bZ.eq_1))))))))))))))))) ?_;(repeat(refine Pn.mk ?_;intro N hN))))
   exact hZ (sd (tw @oW (tw @c0 (tw @c2 (tw @c7 @c8))))) (⟨vW,Hu,sd @c9,sd @jY,stay _ rfl fun h=>hr h.1⟩) (⟨ny,aT⟩)
 ·have lj:k=I.length:=ah
  have Zm:∃ed:Nat,ed∈I/\Hu=(ed:Int)/\vW=(cw bs ed v:Int)/\0<gr bs f' ed v/\out (cw bs ed v)=out v-1:=by
   rcases LJ with⟨h1,h2⟩|h
   ·exfalso
    obtain⟨ed,he,hq⟩:=QO
    obtain⟨z,hz,rfl⟩:=List.getElem_of_mem he
    refine h2 z ah ?_
    rw[List.getD_eq_getElem?_getD,List.getElem?_eq_getElem hz];exact hq
   ·exact h
  obtain⟨ed,nY,rfl,rfl,hr,NU⟩:=Zm
  obtain⟨he,qW⟩:=hIm _ nY
  (try((repeat(revert hN;revert N;apply Pn.out));refine wk (tw @oW (tw @c0 (tw @c2 (tw @c7 (tw @c8 (tw @c9 (tw @jY (tw @hk (tw @F5 (tw @F4 (tw @BA (tw @mE (tw @pg (tw @Gf (tw @rW @bZ.eq_1))))))))))))))) ?_;(repeat(refine Pn.mk ?_;intro N hN))))
  refine .inr (aI _ _ _ _ _ (fun r σ1 hq=>?_) (Tj cnt bs f' Pe ed v he X A F ⟨st_c.get,_⟩ nb (hN1.frame (fun i _=>ny i) (Nat.le_refl _)) aT))
  obtain⟨Xr,nX,LR⟩:=hq
  (try dsimp only at nX LR)
  refine hN _ _ ?_
  clear hN N
  (try((repeat(revert hN;revert N;apply Pn.out));refine wk (tw @oW (tw @c0 (tw @c2 (tw @c7 (tw @c8 @c9))))) ?_;(repeat(refine Pn.mk ?_;intro N hN))))
  refine⟨_,?_,cw bs ed v,vY bs f' ed v,rfl,qa ok he,ah,sd @Nat.zero_add,hW.step he qW hr NU,Xr,fun i hi hF=>by rw[LR i hF,ny i,j4 i hi hF],aT⟩
  omega
def vd (P:Program) (f:Nat) (args:List AV) (R:AV->Prop):Prop:=∀σ:aw,Call P f args ⟨V.ro σ.get,σ.next⟩ fun r0 σ'=>∃r',V.fz σ'.get 6 r0=some r'/\R r'
theorem FR {P:Program} {f:Nat} {args:List AV} {g:Rows} {n:Nat} {R:AV->Prop} (h:Sound P f args ⟨V.ro g,n⟩ fun r0 σ'=>∃r',V.fz σ'.get 6 r0=some r'/\R r'):Sound P f args ⟨g,n⟩ fun r σ'=>R r/\σ'=⟨g,n⟩:=by
 intro hs D ι w vs S U A
 refine(CO (g0:=g) (K:=R) h (fun _ _ h=>h) S U A).mono ?_
 rintro e w' ⟨r,D',u,rfl,hR,T,S',hr⟩
 exact⟨r,g,n,D',ι,u,rfl,⟨hR,rfl⟩,T,S',U,Nat.le_refl _,hr⟩
theorem vd.x {P:Program} (hm:P.follows .mixedOrders=true) {f:Nat} {args:List AV} {R:AV->Prop} (h:vd P f args R) {σ:aw}:Call P f args σ fun r σ'=>R r/\σ'=σ:=
 fN (FR (gS hm (h σ)))
theorem vd.body {P:Program} {f:Nat} {args:List AV} {R:AV->Prop} {nt na:Nat} {body:VC} {res:List oR} (hf:nK P f=some ⟨nt,na,body,res⟩) (ha:na=args.length) (h:(∀a∈args,eY a)->∀σ:aw,dK (Call P) body (lE res fun r0 σ'=>∃r',V.fz σ'.get 6 r0=some r'/\R r') (cr args) ⟨V.ro σ.get,σ.next⟩):vd P f args R:=fun σ=>nk hf ha fun hl=>h hl σ
theorem PF {g:Rows} {rows:List (List AV)} {xs:List (List Nat)} {ids:List Id} (n:Nat) (h:dD T5 g rows xs ids):eo g (n+2) rows=some (xs.map fun l=>[Tt l]):=by
 induction h with
 |nil=>rw[eo];rfl
 |cons h1 _ ih=>
  rename_i x _ _ _ _ _
  rcases h1 with⟨h0,h1,_⟩|⟨id,h1,h0,h2,_⟩
  ·subst h0 h1;rw[eo,ih,aj,ar,aV];rfl
  ·have iD:x≠[]:=by rintro rfl;simp at h0
   subst h1
   rw[eo,ih,aj,ar,fB (e:=eN) (sz:=1) h2 rfl fun a=>fzN _ n a]
   simp[Tt,iD]
theorem pk.fz0 {cnt:Nat} {bs:List PB} {f:Nat->Int} {X A F:Id} {g:Rows} {nx:Nat} (h:pk cnt bs f X A F g nx):V.fz g 5 (.ptr X 0 0)=some (.dn (gE cnt bs f)):=by
 have hf:V.fz g 4 (.own F 0 bs.length)=some (.sl (eB f bs.length)):=by
  rw[iy]
  simp only[h.f,if_true]
  rw[if_pos (by rw[dR];omega),List.drop_zero,List.take_of_length_le (by rw[dR];omega),Cl];rfl
 have ha:V.fz g 4 (.own A 0 cnt)=some (.sl (rG cnt bs bs.length)):=by
  obtain⟨rows,ids,h1,h2,_,_⟩:=h.a
  have hl:=h2.len
  rw[jQ]at hl
  rw[iy]
  simp only[h1,if_true]
  rw[if_pos ah,List.drop_zero,List.take_of_length_le ah,PF 1 h2]
  simp[mm,rG]
 rw[bf]
 simp only[h.x,if_true,List.getElem?_cons_zero,List.drop_zero,bZ,aj,ar,aH,ck,ha,hf,Option.map_some,gE]
theorem Hv {S:Nat->Bool}:∀bs:List PB,(∀b∈bs,b.s<=4)->jz S bs<=4*bs.length
 |[],_=>by simp[jz]
 |b::bs,h=>by
  rw[uu]
  have:=Hv (S:=S) bs fun x hx=>h x (List.mem_cons_of_mem _ hx)
  have:=h b (by simp)
  simp only[List.length_cons]
  split<;>omega
theorem kJ.zero {bs:List PB} {x y:Nat} (h:∀e,e<bs.length->0<=(cH bs e).s/\(cH bs e).s<=4):kJ bs (fun _=>0) x y 0:=
 ⟨fun i hi=>by have:=h i hi;omega,fun S _ _=>kB fun i _=>by simp⟩
theorem On {bs:List PB} {b:PB} (h:b∈bs):∃e,e<bs.length/\cH bs e=b:=by
 obtain⟨e,he,rfl⟩:=List.getElem_of_mem h
 exact⟨e,he,by simp[cH,List.getD_eq_getElem?_getD,he]⟩
theorem Jt (cnt:Nat) (hn:cnt<=1048576) (bs:List PB) (ok:oF cnt bs) (nW:bs.length<=1048576) (dC:∀e,e<bs.length->0<=(cH bs e).s/\(cH bs e).s<=4) (x y:Nat) (hx:x<cnt) (hy:y<cnt) (Wc:x≠y):
  vd Tryz.prog 193 [.int .i64 cnt,.sl (bs.map aD),.int .i64 x,.int .i64 y] fun r=>∃f val,r=.gJ [.dn (gE cnt bs f),.int .i64 val]/\kJ bs f x y val/\∃S:Nat->Bool,S x=true/\S y=false/\val=jz S bs:=by
 refine vd.body eF rfl fun hl σ=>?_
 clear hl
 (try((repeat(revert hN;revert N;apply Pn.out));refine wk @Nat.zero_add ?_;(repeat(refine Pn.mk ?_;intro N hN))))
 refine .inr (aI _ _ _ _ _ (fun r σ1 hq=>?_) (Mn cnt hn bs ok nW _))
 obtain⟨X,A,F,rfl,hX,hS⟩:=hq
 refine hN _ _ ?_
 clear hN N
 have hS0:∀f val,kJ bs f x y val->val<=jz (fun v=>decide (v=x)) bs:=fun f val hf=>hf.bound (decide_eq_true rfl) (decide_eq_false fun h=>Wc h.symm)
 have htot:=Hv (S:=fun v=>decide (v=x)) bs fun b hb=>by
  obtain⟨e,he,rfl⟩:=On hb
  exact(dC e he).2
 generalize jz (fun v=>decide (v=x)) bs=T at *
 (try((repeat(revert hN;revert N;apply Pn.out));refine wk @Nat.zero_add ?_;(repeat(refine Pn.mk ?_;intro N hN))))
 refine aQ (fun m env st=>∃(f:Nat->Int) (val:Int),m=(T-val).toNat/\0<=val/\env 10=.ptr X 0 0/\env 11=.int .i64 val/\kJ bs f x y val/\pk cnt bs f X A F st.get σ1.next/\σ1.next<=st.next) T.toNat ⟨_,0,by simp,ah,by(simp only[go_sem, ↓reduceIte,Nat.reduceEqDiff,Nat.reduceAdd,Nat.reduceSub,Nat.reduceLeDiff,reduceCtorEq]),by(simp only[go_sem, ↓reduceIte,Nat.reduceEqDiff,Nat.reduceAdd,Nat.reduceSub,Nat.reduceLeDiff,reduceCtorEq]),kJ.zero dC,hS.frame (fun i hi=>rfl) (Nat.le_refl _),aT⟩ ?_
 rintro m env_b st_b ⟨f,val,rfl,r4,Om,b11,hf,hN1,hle⟩ eI
 have b2:=eI 2 (by kernel_rfl)
 have b3:=eI 3 (by kernel_rfl)
 simp only[go_sem, ↓reduceIte,Nat.reduceEqDiff,Nat.reduceAdd,Nat.reduceSub,Nat.reduceLeDiff,reduceCtorEq]at b2 b3
 clear eI
 (try((repeat(revert hN;revert N;apply Pn.out));refine wk (tw @b2 (tw @b3 @Om)) ?_;(repeat(refine Pn.mk ?_;intro N hN))))
 refine .inr (aI _ _ _ _ _ (fun r σ2 hq=>?_) (R4 cnt hn bs ok nW dC f x y hx hy Wc val hf X A F ⟨st_b.get,_⟩ σ1.next hN1 aT))
 obtain⟨b,f',rfl,Xr,nX,_,k9,hyes⟩:=hq
 (try dsimp only at nX)
 refine hN _ _ ?_
 clear hN N
 cases b with
 |true=>
  have nh:=hyes rfl
  have Kv:=hS0 _ _ hf
  have Ab:=hS0 _ _ nh
  have hw:IntKind.i64.wrap (val+1)=val+1:=bq ah
  (try((repeat(revert hN;revert N;apply Pn.out));refine wk (tw @Om (tw @b11 @hw)) ?_;(repeat(refine Pn.mk ?_;intro N hN))))
  exact⟨_,ah,f',val+1,rfl,ah,sd @Om,sd (tw @b11 @hw),nh,Xr,aT⟩
 |false=>
  obtain⟨rfl,S,h1,h2,h3⟩:=k9 rfl
  (try((repeat(revert hN;revert N;apply Pn.out));refine wk (tw @Om @b11) ?_;(repeat(refine Pn.mk ?_;intro N hN))))
  have hz:=Xr.fz0
  exact⟨[.ptr X 0 0,.int .i64 val],sd @Nat.zero_add,.gJ [.dn (gE cnt bs f'),.int .i64 val],by simp only[fc,bB,aj,ar,hz,aH,Option.map_some],f',val,rfl,hf,S,h1,h2,h3⟩
theorem Ju (cnt:Nat) (hn:cnt<=1048576) (bs:List PB) (ok:oF cnt bs) (nW:bs.length<=1048576) (f:Nat->Int) (hs:Small bs f) (y:Nat) (hy:y<cnt):
  oE Tryz.prog 194 [.dn (gE cnt bs f),.int .i64 y] fun r=>∃l:List Nat,r=.sl (l.map eN)/\l.length<=cnt:=by
 refine oE.body eF rfl fun hl n0=>?_
 clear hl
 have hz:∀g:Rows,cZ (dH g) 6 [.dn (gE cnt bs f),.int .i64 (y:Int)]=some [.dn (gE cnt bs f),.int .i64 y]:=fun g=>by simp only[aj,ar,aX,aH,Option.map_some]
 (try((repeat(revert hN;revert N;apply Pn.out));refine wk @Nat.zero_add ?_;(repeat(refine Pn.mk ?_;intro N hN))))
 refine .inr (aI _ _ _ _ _ (fun r σ1 hq=>?_) ((Ia cnt hn bs ok nW f hs y hy).x mixed (hz _)))
 obtain⟨⟨out,rfl,SP⟩,rfl⟩:=hq
 refine hN _ _ ?_
 clear hN N
 (try((repeat(revert hN;revert N;apply Pn.out));refine wk @gE.eq_1 ?_;(repeat(refine Pn.mk ?_;intro N hN))))
 refine aQ (fun n env st=>∃k:Nat,n=(cnt)-k/\k<=(cnt)/\env 7=.int .i64 (k:Int)/\(∃(o:Id) (l:List Nat),env 6=.own o 0 l.length/\st.get o=some ⟨true,1,l.map eN⟩/\o.bj<st.next/\l.length<=k)) (cnt) ⟨0,ah,ah,sl @gE.eq_1,⟨⟨194002000,n0+1+1+1⟩,[],by(simp only[go_sem, ↓reduceIte,Nat.reduceEqDiff,Nat.reduceAdd,Nat.reduceSub,Nat.reduceLeDiff,reduceCtorEq])<;>rfl,by(simp only[go_sem, ↓reduceIte,Nat.reduceEqDiff,Nat.reduceAdd,Nat.reduceSub,Nat.reduceLeDiff,reduceCtorEq])<;>rfl,aT,by simp⟩⟩ ?_
 rintro n_a env_a st_a ⟨k,rfl,ale,a7,ke⟩ dv
 have a0:=dv 0 (by kernel_rfl);have a5:=dv 5 (by kernel_rfl)
 simp only[go_sem, ↓reduceIte,Nat.reduceEqDiff,Nat.reduceAdd,Nat.reduceSub,Nat.reduceLeDiff,reduceCtorEq,gE]at a0 a5
 clear dv
 obtain⟨o,l,a6,ag,sC,HM⟩:=ke
 have r4:=db sC
 have ik:(l.map eN).length=l.length:=by simp
 by_cases hk:(k:Int)<(cnt:Int)
 ·have cq:∀{e:Env} {gg:Rows} {nx:Nat},(e 7=.int .i64 (IntKind.i64.wrap ((k:Int)+1)))->(∃(o:Id) (l:List Nat),e 6=.own o 0 l.length/\gg o=some ⟨true,1,l.map eN⟩/\o.bj<nx/\l.length<=(k+1))->∃m0,m0<(cnt)-k/\∃k:Nat,m0=(cnt)-k/\k<=(cnt)/\e 7=.int .i64 (k:Int)/\(∃(o:Id) (l:List Nat),e 6=.own o 0 l.length/\gg o=some ⟨true,1,l.map eN⟩/\o.bj<nx/\l.length<=k):=fun x1 x2=>⟨_,ah,k+1,rfl,ah,(by rw[x1,ay ah]),x2⟩
  have uG:=er (f:=out) (show k<cnt by omega)
  rw[aU]at uG
  have e1:l.length+1<=16777216:=ah
  by_cases h0:0<=out k
  ·(try((repeat(revert hN;revert N;apply Pn.out));refine wk (tw @a7 (tw @a0 (tw @a5 (tw @a6 (tw @ag (tw @r4 (tw @hk (tw @uG (tw @h0 (tw @e1 (tw @ik @gE.eq_1))))))))))) ?_;(repeat(refine Pn.mk ?_;intro N hN))))
   exact cq (sd (tw @a7 (tw @a0 (tw @a5 @gE.eq_1)))) (⟨⟨194007003,st_a.next+1+1⟩,l++[k],by rw[List.length_append];simp only[go_sem, ↓reduceIte,Nat.reduceEqDiff,Nat.reduceAdd,Nat.reduceSub,Nat.reduceLeDiff,reduceCtorEq,List.length_cons,List.length_nil],by rw[List.map_append,List.map_cons,List.map_nil];simp only[go_sem, ↓reduceIte,Nat.reduceEqDiff,Nat.reduceAdd,Nat.reduceSub,Nat.reduceLeDiff,reduceCtorEq,eN],aT,by simp;omega⟩)
  ·(try((repeat(revert hN;revert N;apply Pn.out));refine wk (tw @a7 (tw @a0 (tw @a5 (tw @a6 (tw @ag (tw @r4 (tw @hk (tw @uG (tw @h0 (tw @ik @gE.eq_1)))))))))) ?_;(repeat(refine Pn.mk ?_;intro N hN))))
   exact cq (sd (tw @a7 (tw @a0 (tw @a5 @gE.eq_1)))) (⟨o,l,sd @a6,sd @ag,aT,ah⟩)
 ·(try((repeat(revert hN;revert N;apply Pn.out));refine wk (tw @a7 (tw @a0 (tw @a5 (tw @a6 (tw @hk @gE.eq_1))))) ?_;(repeat(refine Pn.mk ?_;intro N hN))))
  have uD:gF st_a.get 6 (.own o 0 l.length)=some (.sl (l.map eN)):=gq ag rfl fun b=>RZ _ 4 b
  exact⟨_,rfl,_,by simp only[go_sem, ↓reduceIte,Nat.reduceEqDiff,Nat.reduceAdd,Nat.reduceSub,Nat.reduceLeDiff,reduceCtorEq,fc];exact uD,l,rfl,ah⟩
theorem Ed (v1 v2:Int) (l1 l2:List Nat) (h1:l1.length<=1048576) (h2:l2.length<=1048576):
  oE Tryz.prog 195 [.int .i64 v1,.sl (l1.map eN),.int .i64 v2,.sl (l2.map eN)] fun r=>∃b,r=.bool b/\(v1<v2->b=true)/\(v2<v1->b=false):=by
 refine oE.body eF rfl fun hl n0=>?_
 clear hl
 have ret:∀{t:Nat} {env:Env} {σ:aw} {b:Bool} {x:Ex},(x=.ret∨x=.normal)->env t=.bool b->((v1<v2->b=true)/\(v2<v1->b=false))->lE [.tmp t] (fun r0 σ'=>∃r',gF σ'.get 6 r0=some r'/\∃b,r'=.bool b/\(v1<v2->b=true)/\(v2<v1->b=false)) x env σ:=by
  intro t env σ b x hx he hb
  have:∃vs,fM env σ.get [.tmp t]=some vs/\∃r',gF σ.get 6 (fc vs)=some r'/\∃b,r'=.bool b/\(v1<v2->b=true)/\(v2<v1->b=false):=⟨[env t],rfl,.bool b,by rw[he];exact fW _ _ _,b,rfl,hb⟩
  rcases hx with rfl|rfl
  ·exact this
  ·exact this
 have m1:(l1.map eN).length=l1.length:=by simp
 have m2:(l2.map eN).length=l2.length:=by simp
 by_cases hv:v1=v2
 ·have hd:decide (v1=v2)=true:=decide_eq_true hv
  by_cases HM:(l1.length:Int)=(l2.length:Int)
  ·have nw:decide ((l1.length:Int)=(l2.length:Int))=true:=decide_eq_true HM
   have Vw:decide (l1.length=l2.length)=true:=decide_eq_true ah
   (try((repeat(revert hN;revert N;apply Pn.out));refine wk (tw @hd (tw @nw (tw @Vw (tw @m1 @m2)))) ?_;(repeat(refine Pn.mk ?_;intro N hN))))
   refine aQ (fun n env st=>∃k:Nat,n=(l1.length)-k/\k<=(l1.length)/\env 9=.int .i64 (k:Int)) (l1.length) ⟨0,ah,ah,sl @Nat.zero_add⟩ ?_
   rintro n_a env_a st_a ⟨k,rfl,ale,a9⟩ dv
   have a1:=dv 1 (by kernel_rfl);have a3:=dv 3 (by kernel_rfl)
   simp only[go_sem, ↓reduceIte,Nat.reduceEqDiff,Nat.reduceAdd,Nat.reduceSub,Nat.reduceLeDiff,reduceCtorEq]at a1 a3
   clear dv
   by_cases hk:(k:Int)<(l1.length:Int)
   ·have cq:∀{e:Env},(e 9=.int .i64 (IntKind.i64.wrap ((k:Int)+1)))->∃m0,m0<(l1.length)-k/\∃k:Nat,m0=(l1.length)-k/\k<=(l1.length)/\e 9=.int .i64 (k:Int):=fun x1=>⟨_,ah,k+1,rfl,ah,(by rw[x1,ay ah])⟩
    have g1:(l1.map eN)[k]? =some (eN (l1.getD k 0)):=getD_map eN ah
    have g2:(l2.map eN)[k]? =some (eN (l2.getD k 0)):=getD_map eN ah
    rw[eN]at g1 g2
    by_cases he:((l1.getD k 0:Nat):Int)=((l2.getD k 0:Nat):Int)
    ·have Sk:decide (((l1.getD k 0:Nat):Int)=((l2.getD k 0:Nat):Int))=true:=decide_eq_true he
     have Zf:decide (l1.getD k 0=l2.getD k 0)=true:=decide_eq_true ah
     (try((repeat(revert hN;revert N;apply Pn.out));refine wk (tw @a9 (tw @a1 (tw @a3 (tw @hk (tw @m1 (tw @g1 (tw @g2 (tw @Sk @Zf)))))))) ?_;(repeat(refine Pn.mk ?_;intro N hN))))
     exact cq (sd (tw @a9 (tw @a1 @a3)))
    ·have Sk:decide (((l1.getD k 0:Nat):Int)=((l2.getD k 0:Nat):Int))=false:=decide_eq_false he
     have Zf:decide (l1.getD k 0=l2.getD k 0)=false:=decide_eq_false ah
     (try((repeat(revert hN;revert N;apply Pn.out));refine wk (tw @a9 (tw @a1 (tw @a3 (tw @hk (tw @m1 (tw @g1 (tw @g2 (tw @Sk @Zf)))))))) ?_;(repeat(refine Pn.mk ?_;intro N hN))))
     exact ret (.inl rfl) (by simp only[go_sem, ↓reduceIte,Nat.reduceEqDiff,Nat.reduceAdd,Nat.reduceSub,Nat.reduceLeDiff,reduceCtorEq];rfl) ⟨fun h=>ah,fun h=>ah⟩
   ·(try((repeat(revert hN;revert N;apply Pn.out));refine wk (tw @a9 (tw @a1 (tw @a3 (tw @hk @m1)))) ?_;(repeat(refine Pn.mk ?_;intro N hN))))
    exact ret (b:=false) (.inl rfl) (sd @Nat.zero_add) ⟨fun h=>ah,fun h=>ah⟩
  ·have nw:decide ((l1.length:Int)=(l2.length:Int))=false:=decide_eq_false HM
   have Vw:decide (l1.length=l2.length)=false:=decide_eq_false ah
   (try((repeat(revert hN;revert N;apply Pn.out));refine wk (tw @hd (tw @nw (tw @Vw (tw @m1 @m2)))) ?_;(repeat(refine Pn.mk ?_;intro N hN))))
   exact ret (.inl rfl) (by simp only[go_sem, ↓reduceIte,Nat.reduceEqDiff,Nat.reduceAdd,Nat.reduceSub,Nat.reduceLeDiff,reduceCtorEq];rfl) ⟨fun h=>ah,fun h=>ah⟩
 ·have hd:decide (v1=v2)=false:=decide_eq_false hv
  (try((repeat(revert hN;revert N;apply Pn.out));refine wk @hd ?_;(repeat(refine Pn.mk ?_;intro N hN))))
  exact ret (b:=decide (v1<v2)) (.inl rfl) (sd @Nat.zero_add) ⟨fun h=>decide_eq_true h,fun h=>decide_eq_false ah⟩
def xe (bs:List PB) (cnt:Nat) (jJ:Int) (k:Nat):Prop:=(k=1/\jJ= -1)∨(0<=jJ/\(∀z,1<=z->z<k->∀S:Nat->Bool,S 0=true->S z=false->jJ<=jz S bs)/\∃S:Nat->Bool,S 0=true/\(∃z,z<cnt/\S z=false)/\jJ=jz S bs)
theorem kJ.nn {bs:List PB} {val:Int} {S:Nat->Bool} (dC:∀e,e<bs.length->0<=(cH bs e).s/\(cH bs e).s<=4) (h:val=jz S bs):0<=val:=by
 rw[h,xz]
 have:=tM (f:=fun _=>0) (g:=fun i=>if S (cH bs i).a=S (cH bs i).b then 0 else(cH bs i).s) (n:=bs.length) fun i hi=>by
  have:=dC i hi
  split<;>omega
 rw[kB fun _ _=>rfl]at this
 exact this
theorem xe.done {bs:List PB} {cnt:Nat} {jJ:Int} (hc:2<=cnt) (h:xe bs cnt jJ cnt) (t:Int):t<=jJ↔lK cnt bs t:=by
 rcases h with⟨h,_⟩|⟨_,h1,S,h2,⟨z,hz,jP⟩,h3⟩
 ·omega
 ·constructor
  ·intro ht S h0 ⟨y,hy,hy2⟩
   have:y≠0:=by rintro rfl;rw[h0]at hy2;cases hy2
   have:=h1 y ah hy S h0 hy2
   omega
  ·intro hH
   rw[h3];exact hH S h2 ⟨z,hz,jP⟩
theorem BH (cnt:Nat) (h2:2<=cnt) (hn:cnt<=1048576) (bs:List PB) (ok:oF cnt bs) (nW:bs.length<=1048576) (dC:∀e,e<bs.length->0<=(cH bs e).s/\(cH bs e).s<=4):
  vd Tryz.prog 126 [.int .i64 cnt,.sl (bs.map aD)] fun r=>∃jJ p,r=.gJ [.int .i64 jJ,p]/\∀t:Int,t<=jJ↔lK cnt bs t:=by
 refine vd.body eF rfl fun hl σ=>?_
 clear hl
 (try((repeat(revert hN;revert N;apply Pn.out));refine wk @Nat.zero_add ?_;(repeat(refine Pn.mk ?_;intro N hN))))
 have z0:∀(g:Rows) (id:Id),g id=some ⟨true,1,[]⟩->V.fz (dH g) 6 (.own id 0 0)=some (.sl (([]:List Nat).map eN))/\V.fz g 5 (.own id 0 0)=some (.sl (([]:List Nat).map eN)):=fun g id h=>by
  have h':dH g id=some ⟨true,1,[]⟩:=by simp[dH,h]
  constructor
  ·rw[iy];simp only[h',if_true];rw[if_pos (by simp)];simp[pN]
  ·rw[iy];simp only[h,if_true];rw[if_pos (by simp)];simp[pN]
 refine aQ (fun m env st=>∃(k:Nat) (jJ:Int) (l:List Nat) (p:AV),m=cnt-k/\1<=k/\k<=cnt/\env 8=.int .i64 (k:Int)/\env 6=.int .i64 jJ/\env 7=p/\V.fz (dH st.get) 6 p=some (.sl (l.map eN))/\V.fz st.get 5 p=some (.sl (l.map eN))/\l.length<=cnt/\xe bs cnt jJ k) (cnt-1) ⟨1,-1,[],.own ⟨126002000,σ.next+1+1⟩ 0 0,rfl,ah,ah,by(simp only[go_sem, ↓reduceIte,Nat.reduceEqDiff,Nat.reduceAdd,Nat.reduceSub,Nat.reduceLeDiff,reduceCtorEq])<;>rfl,by(simp only[go_sem, ↓reduceIte,Nat.reduceEqDiff,Nat.reduceAdd,Nat.reduceSub,Nat.reduceLeDiff,reduceCtorEq])<;>rfl,by(simp only[go_sem, ↓reduceIte,Nat.reduceEqDiff,Nat.reduceAdd,Nat.reduceSub,Nat.reduceLeDiff,reduceCtorEq])<;>rfl,(z0 _ _ (sd @Nat.zero_add)).1,(z0 _ _ (sd @Nat.zero_add)).2,by simp,.inl ⟨rfl,rfl⟩⟩ ?_
 rintro m env_b st_b ⟨k,jJ,l,p,rfl,sw,uE,b8,b6,b7,w6,jP,hl,hB⟩ eI
 have b0:=eI 0 (by kernel_rfl)
 have b1:=eI 1 (by kernel_rfl)
 simp only[go_sem, ↓reduceIte,Nat.reduceEqDiff,Nat.reduceAdd,Nat.reduceSub,Nat.reduceLeDiff,reduceCtorEq]at b0 b1
 clear eI z0
 by_cases hk:(k:Int)<(cnt:Int)
 ·have fy:k<cnt:=ah
  have hFl:=Jt cnt hn bs ok nW dC 0 k ah fy ah
  rw[show(((0:Nat):Int))=0 from rfl]at hFl
  (try((repeat(revert hN;revert N;apply Pn.out));refine wk (tw @b0 (tw @b1 (tw @b6 (tw @b7 (tw @b8 @hk))))) ?_;(repeat(refine Pn.mk ?_;intro N hN))))
  refine .inr (aI _ _ _ _ _ (fun r σ1 hq=>?_) (hFl.x mixed))
  obtain⟨⟨f,val,rfl,hf,S,Sh,LF,Xs⟩,rfl⟩:=hq
  refine hN _ _ ?_
  clear hN N
  have Pe:=yS dC hf.le
  have uH:=kJ.nn (val:=val) dC Xs
  (try((repeat(revert hN;revert N;apply Pn.out));refine wk (tw @b0 (tw @b1 (tw @b6 (tw @b7 @b8)))) ?_;(repeat(refine Pn.mk ?_;intro N hN))))
  refine .inr (aI _ _ _ _ _ (fun r σ1 hq=>?_) ((Ju cnt hn bs ok nW f Pe k fy).x mixed (by simp only[aj,ar,aX,aH,Option.map_some])))
  obtain⟨⟨l',rfl,N5⟩,rfl⟩:=hq
  refine hN _ _ ?_
  clear hN N
  have hw:IntKind.i64.wrap ((k:Int)+1)=((k+1:Nat):Int):=ay ah
  have WD:(∀z,1<=z->z<k->∀S:Nat->Bool,S 0=true->S z=false->val<=jz S bs)->xe bs cnt val (k+1):=fun h=>.inr ⟨uH,fun z w6 jP S' h0 h1=>by
   by_cases vL:z=k
   ·subst vL;exact hf.bound h0 h1
   ·exact h z w6 ah S' h0 h1,S,Sh,⟨k,fy,LF⟩,Xs⟩
  by_cases kQ:jJ<0
  ·have y7:k=1:=by
    rcases hB with⟨h,_⟩|⟨h,_⟩
    ·exact h
    ·omega
   (try((repeat(revert hN;revert N;apply Pn.out));refine wk (tw @b0 (tw @b1 (tw @b6 (tw @b7 (tw @b8 (tw @kQ @hw)))))) ?_;(repeat(refine Pn.mk ?_;intro N hN))))
   refine⟨_,?_,k+1,val,l',.sl (l'.map eN),rfl,ah,ah,sd (tw @b8 @hw),sd @Nat.zero_add,sd @Nat.zero_add,ck _ _ _,ck _ _ _,N5,WD fun z h1 h2=>ah⟩
   omega
  ·have y7:(∀z,1<=z->z<k->∀S:Nat->Bool,S 0=true->S z=false->jJ<=jz S bs)/\∃S:Nat->Bool,S 0=true/\(∃z,z<cnt/\S z=false)/\jJ=jz S bs:=by
    rcases hB with⟨_,h⟩|⟨_,h⟩
    ·omega
    ·exact h
   (try((repeat(revert hN;revert N;apply Pn.out));refine wk (tw @b0 (tw @b1 (tw @b6 (tw @b7 (tw @b8 (tw @kQ @hw)))))) ?_;(repeat(refine Pn.mk ?_;intro N hN))))
   refine .inr (aI _ _ _ _ _ (fun r σ1 hq=>?_) ((Ed val jJ l' l ah ah).x mixed (by simp only[aj,ar,ck,aH,w6,Option.map_some])))
   obtain⟨⟨b,rfl,Kv,Ab⟩,rfl⟩:=hq
   refine hN _ _ ?_
   clear hN N
   cases b with
   |true=>
    have Uu:val<=jJ:=by
     rcases Int.lt_or_le jJ val with h|h
     ·exact absurd (Ab h) (by simp)
     ·exact h
    (try((repeat(revert hN;revert N;apply Pn.out));refine wk (tw @b0 (tw @b1 (tw @b6 (tw @b7 (tw @b8 @hw))))) ?_;(repeat(refine Pn.mk ?_;intro N hN))))
    refine⟨_,?_,k+1,val,l',.sl (l'.map eN),rfl,ah,ah,sd (tw @b8 @hw),sd @Nat.zero_add,sd @Nat.zero_add,ck _ _ _,ck _ _ _,N5,WD fun z h1 h2 S' h3 h4=>by have:=y7.1 z h1 h2 S' h3 h4;omega⟩
    omega
   |false=>
    have Uu:jJ<=val:=by
     rcases Int.lt_or_le val jJ with h|h
     ·exact absurd (Kv h) (by simp)
     ·exact h
    (try((repeat(revert hN;revert N;apply Pn.out));refine wk (tw @b0 (tw @b1 (tw @b6 (tw @b7 (tw @b8 @hw))))) ?_;(repeat(refine Pn.mk ?_;intro N hN))))
    refine⟨_,?_,k+1,jJ,l,p,rfl,ah,ah,sd (tw @b8 @hw),sd @b6,sd @b7,w6,jP,hl,.inr ⟨ah,fun z h1 h2 S' h3 h4=>?_,y7.2⟩⟩
    ·omega
    ·by_cases vL:z=k
     ·subst vL;have:=hf.bound h3 h4;omega
     ·exact y7.1 z h1 ah S' h3 h4
 ·have lj:k=cnt:=ah
  (try((repeat(revert hN;revert N;apply Pn.out));refine wk (tw @b0 (tw @b1 (tw @b6 (tw @b7 (tw @b8 @hk))))) ?_;(repeat(refine Pn.mk ?_;intro N hN))))
  exact⟨[.int .i64 jJ,p],sd @Nat.zero_add,.gJ [.int .i64 jJ,.sl (l.map eN)],by simp only[fc,bB,aj,ar,jP,aH,Option.map_some],jJ,_,rfl,xe.done h2 (lj▸hB)⟩
theorem Qe {s:ax} (hS:iG s) (a d:Int):rf s (dt (du s a) d)<=4:=by
 have hF:=hS.form
 have fZ:dt (du s a) d=0∨(0<=dt (du s a) d/\dt (du s a) d<=s.aB.length):=by
  unfold dt du
  rw[List.getD_eq_getElem?_getD,List.getD_eq_getElem?_getD]
  rcases ht:s.ai[a.toNat]? with _|t
  ·exact .inl (by simp[BZ])
  ·have KA:=List.mem_of_getElem? ht
   simp only[Option.getD_some]
   rcases hg:t.bV[d.toNat]? with _|g
   ·exact .inl rfl
   ·exact .inr (hF.vG t KA g (List.mem_of_getElem? hg))
 unfold rf
 by_cases h0:dt (du s a) d=0
 ·rw[if_pos h0];omega
 ·rw[if_neg h0]
  have hk:(dt (du s a) d-1).toNat<s.aB.length:=ah
  have:=dB (hS.Xd _ hk).2.1
  unfold qT at this
  unfold rU
  omega
theorem C5 {s:ax} (hS:iG s) (a d b:Int):iH s a d b<=4:=by
 unfold iH
 split
 ·exact Qe hS a d
 ·omega
theorem Ix {s:ax} {l:List aa} (hS:iG s) {i:Nat} (hi:i<l.length) {d:Int}:∀b∈nS s l i d,b.a<l.length/\b.b<l.length/\0<=b.s/\b.s<=4:=by
 intro b hb
 unfold nS at hb
 split at hb
 ·rename_i h
  simp only[List.mem_singleton]at hb
  subst hb
  exact⟨hi,(lz h.1).1,by simp only;omega,C5 hS ..⟩
 ·cases hb
theorem zQ {s:ax} {l:List aa} (hS:iG s):∀b∈de s l,b.a<l.length/\b.b<l.length/\0<=b.s/\b.s<=4:=by
 intro b hb
 simp only[de,iv,gL,List.mem_flatMap,List.mem_range]at hb
 obtain⟨i,hi,j,_,hb⟩:=hb
 exact Ix hS hi b hb
theorem rH {s:ax} {l:List aa} (hF:lg l):(de s l).length<=1000:=by
 have:=vh s l l.length
 have:=hF.zm
 rw[de];omega
theorem K1 {bs:List PB} {e:Nat} (h:e<bs.length):cH bs e∈bs:=by
 rw[cH,List.getD_eq_getElem?_getD,List.getElem?_eq_getElem h];exact List.getElem_mem h
theorem Jd {n:Nat} {bs:List PB} {t:Int} (h:n<2):lK n bs t:=fun S h0 ⟨y,hy,hf⟩=>by
 have:y=0:=ah
 subst this;rw[h0]at hf;cases hf
def iW (s:ax) (l:List aa) (t:Int):Nat:=(leads l.length (eL (aW t (de s l)))).length
noncomputable def oQ (s:ax) (l:List aa) (t:Int):Bool:=@decide (qp l.length (de s l) t) (Classical.propDecidable _)
def uy (s:ax) (l:List aa) (t:Int):Int:=if 64<iW s l t then 4 else 0
theorem nF {s:ax} {l:List aa} {t:Int} {p:Prop} [Decidable p] (h:p↔qp l.length (de s l) t):decide p=oQ s l t:=by
 letI:=Classical.propDecidable (qp l.length (de s l) t)
 unfold oQ
 by_cases hp:p
 ·rw[decide_eq_true hp];exact(decide_eq_true (h.1 hp)).symm
 ·rw[decide_eq_false hp];exact(decide_eq_false fun k=>hp (h.2 k)).symm
theorem Ef (s:ax) (l:List aa) (t:Int) (hS:iG s) (hA:jZ s l):au Tryz.prog 168 [.dn (ad s),.dn [.sl (l.map ab)],.int .i64 t] (.gJ [.bool (oQ s l t),.int .i64 (uy s l t)]):=by
 refine au.body eF rfl fun hl n0=>?_
 clear hl
 have hb:=zQ (l:=l) hS
 have nW:=rH (s:=s) hA.1
 have DH:=hA.1.zm
 have Ac:=Gn s l hS.form hA
 have N8:=Ee l.length ah (de s l) (fun b h=>⟨(hb b h).1,(hb b h).2.1⟩) ah t
 have hL:=vP (aW t (de s l))
 have fZ:=GU hL (fun b h=>⟨(hb b h).1,(hb b h).2.1⟩)
 have hlen:=(oq (eL (aW t (de s l))) (de s l)).2
 have mO:=kj l.length (eL (aW t (de s l)))
 have fu:(l.map ab).length=l.length:=by simp
 by_cases wE:(64:Int)<(iW s l t:Int)
 ·have wG:64<iW s l t:=ah
  have hd:oQ s l t=false:=(nF (p:=False) ⟨False.elim,fun h=>by have:=h.1;unfold iW at wG;omega⟩).symm.trans (by simp)
  rw[iW]at wE
  (repeat(first|((repeat(revert hN;revert N;apply Pn.out));refine wk (tw @ad.eq_1 (tw @wE @fu)) ?_;(repeat(refine Pn.mk ?_;intro N hN)))|((try apply Or.inl);refine⟨_,au.x (Ac) (sd (tw @ad.eq_1 (tw @wE @fu))),?_⟩;refine hN _ _ ?_;clear hN N)|((try apply Or.inl);refine⟨_,au.x (N8) (sd (tw @ad.eq_1 (tw @wE @fu))),?_⟩;refine hN _ _ ?_;clear hN N)))
  exact jU (.inl rfl) (r1:=.bool false) (r2:=.int .i64 4) (sd @Nat.zero_add) (sd @Nat.zero_add) (by rw[hd,uy,if_pos wG];simp only[fH,bW,cF,fW,eO,Option.map_some])
 have wG:¬64<iW s l t:=ah
 have hf:uy s l t=0:=by rw[uy,if_neg wG]
 by_cases h2:(iW s l t:Int)<2
 ·have hd:oQ s l t=true:=(nF (p:=True) ⟨fun _=>⟨by unfold iW at wG;omega,Jd (by unfold iW at h2;omega)⟩,fun _=>trivial⟩).symm.trans (by simp)
  rw[iW]at wE h2
  (repeat(first|((repeat(revert hN;revert N;apply Pn.out));refine wk (tw @ad.eq_1 (tw @wE (tw @h2 @fu))) ?_;(repeat(refine Pn.mk ?_;intro N hN)))|((try apply Or.inl);refine⟨_,au.x (Ac) (sd (tw @ad.eq_1 (tw @wE (tw @h2 @fu)))),?_⟩;refine hN _ _ ?_;clear hN N)|((try apply Or.inl);refine⟨_,au.x (N8) (sd (tw @ad.eq_1 (tw @wE (tw @h2 @fu)))),?_⟩;refine hN _ _ ?_;clear hN N)))
  exact jU (.inl rfl) (r1:=.bool true) (r2:=.int .i64 0) (sd @Nat.zero_add) (sd @Nat.zero_add) (by rw[hd,hf];simp only[fH,bW,cF,fW,eO,Option.map_some])
 have SV:=BH (iW s l t) ah (by unfold iW;omega) (ft (eL (aW t (de s l))) (de s l)) (fun e he=>by have:=fZ _ (K1 he);exact⟨this.1,this.2.1,this.2.2.1⟩) ah (fun e he=>by
  obtain⟨_,_,_,c,hc,dx⟩:=fZ _ (K1 he)
  rw[dx];have:=hb c hc;omega)
 rw[iW]at wE h2 SV
 (repeat(first|((repeat(revert hN;revert N;apply Pn.out));refine wk (tw @ad.eq_1 (tw @wE (tw @h2 @fu))) ?_;(repeat(refine Pn.mk ?_;intro N hN)))|((try apply Or.inl);refine⟨_,au.x (Ac) (sd (tw @ad.eq_1 (tw @wE (tw @h2 @fu)))),?_⟩;refine hN _ _ ?_;clear hN N)|((try apply Or.inl);refine⟨_,au.x (N8) (sd (tw @ad.eq_1 (tw @wE (tw @h2 @fu)))),?_⟩;refine hN _ _ ?_;clear hN N)))
 refine .inr (aI _ _ _ _ _ (fun r σ1 hq=>?_) (SV.x mixed))
 obtain⟨⟨jJ,p,rfl,Vr⟩,rfl⟩:=hq
 refine hN _ _ ?_
 clear hN N
 (try((repeat(revert hN;revert N;apply Pn.out));refine wk @Nat.zero_add ?_;(repeat(refine Pn.mk ?_;intro N hN))))
 exact jU (.inl rfl) (r1:=.bool (decide (t<=jJ))) (r2:=.int .i64 0) (sd @Nat.zero_add) (sd @Nat.zero_add) (by
  rw[hf,nF (s:=s) (l:=l) (t:=t) (p:=t<=jJ) ((Vr t).trans (Gb.trans ⟨fun h=>⟨by unfold iW at wG;omega,h⟩,fun h=>h.2⟩))]
  simp only[fH,bW,cF,fW,eO,Option.map_some])
theorem uL (t:Int):au Tryz.prog 123 [.int .i64 t] (.bool (iV t 1 16)):=by
 refine au.body eF rfl fun hl n0=>?_
 clear hl
 have h:=lD t 1 16
 (repeat(first|((repeat(revert hN;revert N;apply Pn.out));refine wk @Nat.zero_add ?_;(repeat(refine Pn.mk ?_;intro N hN)))|((try apply Or.inl);refine⟨_,au.x (h) (sd @Nat.zero_add),?_⟩;refine hN _ _ ?_;clear hN N)))
 exact bp (b:=iV t 1 16) (.inl rfl) (sd @Nat.zero_add) rfl
structure KT (s:aE):Prop where
 set:iG s.aC
 zH:jZ s.aC s.bY.ai
 some:1<=s.bY.ai.length
 Nr:iV s.az 1 16=true
 holds:qp s.bY.ai.length (de s.aC s.bY.ai) s.az
noncomputable def oy (s:aE):Bool:=@decide (KT s) (Classical.propDecidable _)
theorem tN {s:aE}:oy s=true↔KT s:=by simp[oy]
theorem kI {s:aE} (h:¬KT s):false=oy s:=by simp[oy,h]
theorem EK {s:aE} (h:KT s):true=oy s:=by simp[oy,h]
theorem qM {s:ax} {l:List aa} {t:Int}:oQ s l t=true↔qp l.length (de s l) t:=by simp[oQ]
theorem Py (s:aE) (hn:iq s.aC) (hg:s.aC.aB.length<=1048576) (ht:s.aC.ai.length<=1048576):au Tryz.prog 94 [.dn (aA s)] (.bool (oy s)):=by
 refine au.body eF rfl fun hl n0=>?_
 clear hl
 have h1:=(Pu s.aC hn hg ht).cut mixed (.ptr _ [.sl (s.bY.ai.map ab),.int .i64 s.az] .nil)
 by_cases hS:iG s.aC
 ·rw[qh.2 hS]at h1
  have h2:=(Pw s.aC s.bY.ai).cut mixed (.ptr _ [.sl (s.bY.ai.map ab),.int .i64 s.az] (.ptr _ [.int .i64 s.az] .nil))
  by_cases hA:jZ s.aC s.bY.ai
  ·rw[pA.2 hA]at h2
   by_cases h0:(s.bY.ai.length:Int)=0
   ·have hd:decide ((s.bY.ai.length:Int)=0)=true:=decide_eq_true h0
    have k9:false=oy s:=kI fun h=>by have:=h.some;omega
    generalize fu:(s.bY.ai.map ab).length=len at *
    (repeat(first|((repeat(revert hN;revert N;apply Pn.out));refine wk (tw @aA.eq_1 (tw @ad.eq_1 @hd)) ?_;(repeat(refine Pn.mk ?_;intro N hN)))|((try apply Or.inl);refine⟨_,au.x (h1) (sd (tw @aA.eq_1 (tw @ad.eq_1 @hd))),?_⟩;refine hN _ _ ?_;clear hN N)|((try apply Or.inl);refine⟨_,au.x (h2) (sd (tw @aA.eq_1 (tw @ad.eq_1 @hd))),?_⟩;refine hN _ _ ?_;clear hN N)))
    exact bp (b:=false) (.inl rfl) (sd @Nat.zero_add) k9
   ·have hd:decide ((s.bY.ai.length:Int)=0)=false:=decide_eq_false h0
    have h3:=uL s.az
    cases hT:iV s.az 1 16
    ·rw[hT]at h3
     (repeat(first|((repeat(revert hN;revert N;apply Pn.out));refine wk (tw @aA.eq_1 (tw @ad.eq_1 @hd)) ?_;(repeat(refine Pn.mk ?_;intro N hN)))|((try apply Or.inl);refine⟨_,au.x (h1) (sd (tw @aA.eq_1 (tw @ad.eq_1 @hd))),?_⟩;refine hN _ _ ?_;clear hN N)|((try apply Or.inl);refine⟨_,au.x (h2) (sd (tw @aA.eq_1 (tw @ad.eq_1 @hd))),?_⟩;refine hN _ _ ?_;clear hN N)|((try apply Or.inl);refine⟨_,au.x (h3) (sd (tw @aA.eq_1 (tw @ad.eq_1 @hd))),?_⟩;refine hN _ _ ?_;clear hN N)))
     exact bp (b:=false) (.inl rfl) (sd @Nat.zero_add) (kI fun h=>by have:=h.Nr;rw[hT]at this;cases this)
    ·rw[hT]at h3
     have h4:=(Ef s.aC s.bY.ai s.az hS hA).cut mixed (.ptr _ [.sl (s.bY.ai.map ab),.int .i64 s.az] (.ptr _ [.int .i64 s.az] (.same _ .nil)))
     cases hB:oQ s.aC s.bY.ai s.az
     ·rw[hB]at h4
      (repeat(first|((repeat(revert hN;revert N;apply Pn.out));refine wk (tw @aA.eq_1 (tw @ad.eq_1 @hd)) ?_;(repeat(refine Pn.mk ?_;intro N hN)))|((try apply Or.inl);refine⟨_,au.x (h1) (sd (tw @aA.eq_1 (tw @ad.eq_1 @hd))),?_⟩;refine hN _ _ ?_;clear hN N)|((try apply Or.inl);refine⟨_,au.x (h2) (sd (tw @aA.eq_1 (tw @ad.eq_1 @hd))),?_⟩;refine hN _ _ ?_;clear hN N)|((try apply Or.inl);refine⟨_,au.x (h3) (sd (tw @aA.eq_1 (tw @ad.eq_1 @hd))),?_⟩;refine hN _ _ ?_;clear hN N)|((try apply Or.inl);refine⟨_,au.x (h4) (sd (tw @aA.eq_1 (tw @ad.eq_1 @hd))),?_⟩;refine hN _ _ ?_;clear hN N)))
      exact bp (b:=false) (.inl rfl) (sd @Nat.zero_add) (kI fun h=>by have:=qM.2 h.holds;rw[hB]at this;cases this)
     ·have hP:=qM.1 hB
      have hf:uy s.aC s.bY.ai s.az=0:=by
       have:=hP.1
       rw[uy,if_neg (by unfold iW;omega)]
      rw[hB,hf]at h4
      (repeat(first|((repeat(revert hN;revert N;apply Pn.out));refine wk (tw @aA.eq_1 (tw @ad.eq_1 @hd)) ?_;(repeat(refine Pn.mk ?_;intro N hN)))|((try apply Or.inl);refine⟨_,au.x (h1) (sd (tw @aA.eq_1 (tw @ad.eq_1 @hd))),?_⟩;refine hN _ _ ?_;clear hN N)|((try apply Or.inl);refine⟨_,au.x (h2) (sd (tw @aA.eq_1 (tw @ad.eq_1 @hd))),?_⟩;refine hN _ _ ?_;clear hN N)|((try apply Or.inl);refine⟨_,au.x (h3) (sd (tw @aA.eq_1 (tw @ad.eq_1 @hd))),?_⟩;refine hN _ _ ?_;clear hN N)|((try apply Or.inl);refine⟨_,au.x (h4) (sd (tw @aA.eq_1 (tw @ad.eq_1 @hd))),?_⟩;refine hN _ _ ?_;clear hN N)))
      exact bp (b:=true) (.inl rfl) (sd @Nat.zero_add) (EK ⟨hS,hA,ah,hT,hP⟩)
  ·have hb:uk s.aC s.bY.ai=false:=Bool.eq_false_iff.2 fun h=>hA (pA.1 h)
   rw[hb]at h2
   (repeat(first|((repeat(revert hN;revert N;apply Pn.out));refine wk (tw @aA.eq_1 @ad.eq_1) ?_;(repeat(refine Pn.mk ?_;intro N hN)))|((try apply Or.inl);refine⟨_,au.x (h1) (sd (tw @aA.eq_1 @ad.eq_1)),?_⟩;refine hN _ _ ?_;clear hN N)|((try apply Or.inl);refine⟨_,au.x (h2) (sd (tw @aA.eq_1 @ad.eq_1)),?_⟩;refine hN _ _ ?_;clear hN N)))
   exact bp (b:=false) (.inl rfl) (sd @Nat.zero_add) (kI fun h=>hA h.zH)
 ·have hb:tH s.aC=false:=Bool.eq_false_iff.2 fun h=>hS (qh.1 h)
  rw[hb]at h1
  (repeat(first|((repeat(revert hN;revert N;apply Pn.out));refine wk (tw @aA.eq_1 @ad.eq_1) ?_;(repeat(refine Pn.mk ?_;intro N hN)))|((try apply Or.inl);refine⟨_,au.x (h1) (sd (tw @aA.eq_1 @ad.eq_1)),?_⟩;refine hN _ _ ?_;clear hN N)))
  exact bp (b:=false) (.inl rfl) (sd @Nat.zero_add) (kI fun h=>hS h.set)
theorem Qd {s:ax} (hS:iG s) (a d:Int):0<=rf s (dt (du s a) d):=by
 have hF:=hS.form
 have fZ:dt (du s a) d=0∨(0<=dt (du s a) d/\dt (du s a) d<=s.aB.length):=by
  unfold dt du
  rw[List.getD_eq_getElem?_getD,List.getD_eq_getElem?_getD]
  rcases ht:s.ai[a.toNat]? with _|t
  ·exact .inl (by simp[BZ])
  ·have KA:=List.mem_of_getElem? ht
   simp only[Option.getD_some]
   rcases hg:t.bV[d.toNat]? with _|g
   ·exact .inl rfl
   ·exact .inr (hF.vG t KA g (List.mem_of_getElem? hg))
 unfold rf
 by_cases h0:dt (du s a) d=0
 ·rw[if_pos h0];omega
 ·rw[if_neg h0]
  have hk:(dt (du s a) d-1).toNat<s.aB.length:=ah
  have:=dB (hS.Xd _ hk).2.1
  unfold qT at this
  unfold rU
  omega
theorem C4 {s:ax} (hS:iG s) (a d b:Int):0<=iH s a d b/\iH s a d b<=4:=by
 refine⟨?_,C5 hS a d b⟩
 unfold iH
 split
 ·exact Qd hS a d
 ·omega
def dm (s:ax) (f:aq->Int) (p:aq) (t:Int):Nat->Int
 |0=>0
 |d+1=>dm s f p t d+if 0<=f (bt p d)then iH s t d (f (bt p d))else 0
def oH (s:ax) (f:aq->Int) (p:aq) (t:Int):Int:=dm s f p t 4
theorem kK {s:ax} (hS:iG s) (f:aq->Int) (p:aq) (t:Int):∀d,0<=dm s f p t d/\dm s f p t d<=4*(d:Int)
 |0=>⟨Int.le_refl _,Int.le_refl _⟩
 |d+1=>by
  have:=kK hS f p t d
  have hb:=C4 hS t d (f (bt p d))
  simp only[dm]
  split<;>omega
theorem KY {s:ax} {l:List aa} (hA:jZ s l) {p:aq} (h:0<=fU l p):eH s (fU l p)=true:=by
 unfold fU at h ⊢
 split at h
 ·rename_i h0
  rw[if_pos h0]
  exact hA.2 _ (gO (lz h0).1)
 ·omega
theorem EN {s:ax} {k:Nat} (h:k<s.ai.length):eH s k=true:=by
 unfold eH;exact jm ah
theorem Ft {s:ax} {l:List aa} (hA:jZ s l) (p:aq):fU l p<0↔eG l p<0:=by
 constructor
 ·intro h
  rcases Int.lt_or_le (eG l p) 0 with h0|h0
  ·exact h0
  ·exfalso
   obtain⟨h1,_⟩:=lz h0
   have h2:=(dB (hA.2 _ (gO h1))).1
   rw[fU,if_pos h0]at h
   omega
 ·intro h
  rw[fU,if_neg ah];omega
abbrev mP:MK:=⟨true,[.tI,.tI]⟩
theorem Eo (p:aq):∀(ts:List aa) (i:Nat),gH mP (ae p) (ts.map ab) i=some (if q9 ts p<ts.length then some (i+q9 ts p)else none)
 |[],i=>by simp[gH,q9]
 |t::ts,i=>by
  have e:e6 mP.ts (ae p) ((ab t).take mP.ks)=some (decide (p=t.aJ)):=by
   have h:(p=t.aJ)↔(p.eE=t.aJ.eE/\p.ez=t.aJ.ez):=⟨fun h=>by rw[h];exact⟨rfl,rfl⟩,fun h=>yy h.1 h.2⟩
   simp[MK.ks,ae,ab,e6,fQ,h]
  have ih:=Eo p ts (i+1)
  rw[List.map_cons]
  unfold gH
  rw[e]
  by_cases h:p=t.aJ
  ·rw[decide_eq_true h]
   have h0:q9 (t::ts) p=0:=by simp[q9,List.findIdx_cons,h]
   simp[h0]
  ·rw[decide_eq_false h]
   have h0:q9 (t::ts) p=q9 ts p+1:=by
    simp[q9,List.findIdx_cons,Ne.symm h]
   simp only[ih,h0,List.length_cons,Nat.add_lt_add_iff_right]
   congr 1
   split<;>simp;omega
theorem Ax (ts:List aa) (p:aq):gD mP (.agg [.int .i64 p.eE,.int .i64 p.ez]) (ts.map ab)=some (if 0<=eG ts p then some (eG ts p).toNat else none):=by
 have h:=Eo p ts 0
 unfold gD
 rw[if_pos ⟨rfl,rfl,rfl⟩]
 show gH mP (ae p) _ 0= _
 rw[h]
 unfold eG
 split<;>simp
theorem JM {ts:List aa} {p:aq} (h:0<=eG ts p):gD mP (.agg [.int .i64 p.eE,.int .i64 p.ez]) (ts.map ab)=some (some (eG ts p).toNat):=by rw[Ax,if_pos h]
theorem r8 {ts:List aa} {p:aq} (h:eG ts p<0):gD mP (.agg [.int .i64 p.eE,.int .i64 p.ez]) (ts.map ab)=some none:=by rw[Ax,if_neg ah]
structure CK (g:Rows) (n:Nat) (c T O:Id) (s:aE) (ts:List aa):Prop where
 row:∃b,g c=some ⟨b,6,[[.sl (s.aC.aB.map cm),.sl (s.aC.ai.map bR),.sl (s.bY.ai.map ab),.int .i64 s.az,.map T mP,.map O mP]]⟩
 tl:∃b,g T=some ⟨b,mP.lq,ts.map ab⟩
 cv:c.bj<n
 tv:T.bj<n
 ov:O.bj<n
theorem CK.ro {g:Rows} {n:Nat} {c T O:Id} {s:aE} {ts:List aa} (h:CK g n c T O s ts):CK (V.ro g) n c T O s ts:=by
 obtain⟨b,h1⟩:=h.row
 obtain⟨b2,h2⟩:=h.tl
 exact⟨⟨false,by simp[V.ro,h1]⟩,⟨false,by simp[V.ro,h2]⟩,h.cv,h.tv,h.ov⟩
theorem CK.frame {g g':Rows} {n n':Nat} {c T O:Id} {s:aE} {ts:List aa} (h:CK g n c T O s ts) (hn:n<=n') (hc:g' c=g c) (hT:g' T=g T):CK g' n' c T O s ts:=
 ⟨by rw[hc];exact h.row,by rw[hT];exact h.tl,Nat.lt_of_lt_of_le h.cv hn,Nat.lt_of_lt_of_le h.tv hn,Nat.lt_of_lt_of_le h.ov hn⟩
theorem Yl {σ:aw} {c T O:Id} {s:aE} {ts:List aa} (h:CK σ.get σ.next c T O s ts) (p:aq):Call Tryz.prog 281 [.ptr c 0 0,.agg (ae p)] σ (fun r _=>r=.int .i64 (fU ts p)):=by
 refine eA eF rfl fun kP=>?_
 clear kP
 obtain⟨b,h1⟩:=h.row
 obtain⟨b2,h2⟩:=h.tl
 have v1:=db h.cv
 have v2:=db h.tv
 by_cases h0:0<=eG ts p
 ·have hm:=JM h0
  have hg:=fF (lz h0).1
  have ho:(some (eG ts p).toNat).isSome=true:=rfl
  (try((repeat(revert hN;revert N;apply Pn.out));refine wk (tw @h1 (tw @h2 (tw @v1 (tw @v2 (tw @hm (tw @hg (tw @ho (tw @ae.eq_1 @ab.eq_1)))))))) ?_;(repeat(refine Pn.mk ?_;intro N hN))))
  exact eS (.inl rfl) (vs:=[.int .i64 (aL ts (eG ts p).toNat).br]) (sd @Nat.zero_add) (by rw[fU,if_pos h0];rfl)
 ·have hm:=r8 (ts:=ts) (p:=p) ah
  have ho:(none:Option Nat).isSome=false:=rfl
  (try((repeat(revert hN;revert N;apply Pn.out));refine wk (tw @h1 (tw @h2 (tw @v1 (tw @v2 (tw @hm (tw @ho @ae.eq_1)))))) ?_;(repeat(refine Pn.mk ?_;intro N hN))))
  exact eS (.inl rfl) (vs:=[.int .i64 (-1)]) (sd @Nat.zero_add) (by rw[fU,if_neg h0];rfl)
theorem Ru {σ:aw} {c T O:Id} {s:aE} {ts:List aa} (h:CK σ.get σ.next c T O s ts) (p:aq):gw (Call Tryz.prog) 281 [.ptr c 0 0,.agg (ae p)] σ (fun r=>r=.int .i64 (fU ts p)):=by
 unfold gw PC
 exact Or.inl (aI _ _ _ _ _ (fun r σ' hr=>⟨_,by rw[hr];exact aH _ _ _ _,rfl⟩) (Yl (σ:=⟨V.ro σ.get,σ.next⟩) h.ro p))
theorem Iv {σ:aw} (s:ax) (hS:iG s) (F:aq->Int) (hF:∀q,0<=F q->eH s (F q)=true) (p:aq) (hx:iB p.eE) (hy:iB p.ez) (t:Int) (ht:eH s t=true) (f:Nat) (first:List AV)
  (tW:∀σ':aw,σ.next<=σ'.next->(∀x:Id,x.bj<σ.next->σ'.get x=σ.get x)->∀q,gw (Call Tryz.prog) f (first++[.agg (ae q)]) σ' (fun r=>r=.int .i64 (F q))):
  Call Tryz.prog 249 [.agg (ad s),.agg (ae p),.int .i64 t,.vU f first] σ (fun r _=>r=.int .i64 (oH s F p t)):=by
 refine eA eF rfl fun kP=>?_
 clear kP
 (try((repeat(revert hN;revert N;apply Pn.out));refine wk (tw @ae.eq_1 @ad.eq_1) ?_;(repeat(refine Pn.mk ?_;intro N hN))))
 refine aQ (fun n env st=>∃k:Nat,n=(4)-k/\k<=(4)/\env 12=.int .i64 (k:Int)/\env 9=.int .i64 (dm s F p t k)/\st.get ⟨249000000,σ.next⟩=some ⟨true,2,[ad s]⟩/\st.get ⟨249000001,σ.next⟩=some ⟨true,2,[ae p]⟩/\(σ.next<st.next/\∀x:Id,x.bj<σ.next->st.get x=σ.get x)) (4) ⟨0,ah,ah,sl (tw @ae.eq_1 @ad.eq_1),sl (tw @ae.eq_1 @ad.eq_1),sl (tw @ae.eq_1 @ad.eq_1),sl (tw @ae.eq_1 @ad.eq_1),⟨aT,fun x hx=>by
  have:=db hx
  simp only[go_sem, ↓reduceIte,Nat.reduceEqDiff,Nat.reduceAdd,Nat.reduceSub,Nat.reduceLeDiff,reduceCtorEq,this]⟩⟩ ?_
 rintro n_a env_a st_a ⟨k,rfl,ale,a12,a9,ag0,ag1,ke⟩ dv
 have a2:=dv 2 (by kernel_rfl);have a3:=dv 3 (by kernel_rfl);have a4:=dv 4 (by kernel_rfl);have a5:=dv 5 (by kernel_rfl)
 simp only[go_sem, ↓reduceIte,Nat.reduceEqDiff,Nat.reduceAdd,Nat.reduceSub,Nat.reduceLeDiff,reduceCtorEq,ae,ad]at a2 a3 a4 a5
 clear dv
 obtain⟨an,dv⟩:=ke
 by_cases hk:(k:Int)<4
 ·have cq:∀{e:Env} {gg:Rows} {nx:Nat},(e 12=.int .i64 (IntKind.i64.wrap ((k:Int)+1)))->(e 9=.int .i64 (dm s F p t (k+1)))->(gg ⟨249000000,σ.next⟩=some ⟨true,2,[ad s]⟩)->(gg ⟨249000001,σ.next⟩=some ⟨true,2,[ae p]⟩)->(σ.next<nx/\∀x:Id,x.bj<σ.next->gg x=σ.get x)->∃m0,m0<(4)-k/\∃k:Nat,m0=(4)-k/\k<=(4)/\e 12=.int .i64 (k:Int)/\e 9=.int .i64 (dm s F p t k)/\gg ⟨249000000,σ.next⟩=some ⟨true,2,[ad s]⟩/\gg ⟨249000001,σ.next⟩=some ⟨true,2,[ae p]⟩/\(σ.next<nx/\∀x:Id,x.bj<σ.next->gg x=σ.get x):=fun x1 x2 x3 x4 x5=>⟨_,ah,k+1,rfl,ah,(by rw[x1,ay ah]),x2,x3,x4,x5⟩
  have dC:=G0 p k (jm ah) hx hy
  have fZ:=kK hS F p t k
  (repeat(first|((repeat(revert hN;revert N;apply Pn.out));refine wk (tw @a12 (tw @a9 (tw @ag0 (tw @ag1 (tw @a2 (tw @a3 (tw @a4 (tw @a5 (tw @hk @ae.eq_1))))))))) ?_;(repeat(refine Pn.mk ?_;intro N hN)))|((try apply Or.inl);refine⟨_,au.x (dC) (sd (tw @a12 (tw @a9 (tw @ag0 (tw @ag1 (tw @a2 (tw @a3 (tw @a4 (tw @a5 (tw @hk @ae.eq_1)))))))))),?_⟩;refine hN _ _ ?_;clear hN N)))
  refine .inl ⟨_,tW _ aT (fun x hx=>sd (dv x hx)) (bt p k),?_⟩
  refine hN _ _ ?_
  clear hN N
  by_cases h0:0<=F (bt p k)
  ·have Ac:=K7 s hS.form t k (F (bt p k)) ht (hF _ h0) (jm ah)
   have fR:=C4 hS t k (F (bt p k))
   have hw:IntKind.i64.wrap (dm s F p t k+iH s t k (F (bt p k)))=dm s F p t (k+1):=by
    rw[bq ah,dm,if_pos h0]
   rw[ad]at Ac
   (repeat(first|((repeat(revert hN;revert N;apply Pn.out));refine wk (tw @a12 (tw @a9 (tw @ag0 (tw @ag1 (tw @a2 (tw @a3 (tw @a4 (tw @a5 (tw @h0 @ad.eq_1))))))))) ?_;(repeat(refine Pn.mk ?_;intro N hN)))|((try apply Or.inl);refine⟨_,au.x (Ac) (sd (tw @a12 (tw @a9 (tw @ag0 (tw @ag1 (tw @a2 (tw @a3 (tw @a4 (tw @a5 (tw @h0 @ad.eq_1)))))))))),?_⟩;refine hN _ _ ?_;clear hN N)))
   refine cq ?_ ?_ ?_ ?_ (⟨aT,fun x hx=>by
    have h1:=dv x hx
    simp only[go_sem, ↓reduceIte,Nat.reduceEqDiff,Nat.reduceAdd,Nat.reduceSub,Nat.reduceLeDiff,reduceCtorEq,h1]⟩)
   all_goals simp only[go_sem, ↓reduceIte,Nat.reduceEqDiff,Nat.reduceAdd,Nat.reduceSub,Nat.reduceLeDiff,reduceCtorEq,a12,a9,ag0,ag1,a2,a3,a4,a5,hw,ae,ad]
  ·have hw:dm s F p t (k+1)=dm s F p t k:=by rw[dm,if_neg h0,Int.add_zero]
   (try((repeat(revert hN;revert N;apply Pn.out));refine wk (tw @a12 (tw @a9 (tw @ag0 (tw @ag1 (tw @a2 (tw @a3 (tw @a4 (tw @a5 @h0)))))))) ?_;(repeat(refine Pn.mk ?_;intro N hN))))
   refine cq ?_ ?_ ?_ ?_ (⟨aT,fun x hx=>by
    have h1:=dv x hx
    simp only[go_sem, ↓reduceIte,Nat.reduceEqDiff,Nat.reduceAdd,Nat.reduceSub,Nat.reduceLeDiff,reduceCtorEq,h1]⟩)
   all_goals simp only[go_sem, ↓reduceIte,Nat.reduceEqDiff,Nat.reduceAdd,Nat.reduceSub,Nat.reduceLeDiff,reduceCtorEq,a12,a9,ag0,ag1,a2,a3,a4,a5,hw,ae,ad]
 ·(try((repeat(revert hN;revert N;apply Pn.out));refine wk (tw @a12 (tw @a9 (tw @ag0 (tw @ag1 (tw @a2 (tw @a3 (tw @a4 (tw @a5 @hk)))))))) ?_;(repeat(refine Pn.mk ?_;intro N hN))))
  exact eS (.inl rfl) (vs:=[.int .i64 (dm s F p t k)]) (sd (tw @a12 (tw @a9 (tw @ag0 (tw @ag1 (tw @a2 (tw @a3 (tw @a4 @a5)))))))) (by rw[show k=4 by omega];rfl)
noncomputable def ew (s:aE) (ts:List aa) (p:aq) (t:Int):Bool:=zd p&&decide (fU ts p<0)&&decide (s.az<=oH s.aC (fU ts) p t)
theorem Iw {σ:aw} {c T O:Id} {s:aE} {ts:List aa} (h:CK σ.get σ.next c T O s ts) (hS:iG s.aC) (hF:∀q,0<=fU ts q->eH s.aC (fU ts q)=true) (p:aq) (hx:iB p.eE) (hy:iB p.ez) (t:Int) (ht:eH s.aC t=true):
  gw (Call Tryz.prog) 249 [.agg (ad s.aC),.agg (ae p),.int .i64 t,.vU 281 [.ptr c 0 0]] σ (fun r=>r=.int .i64 (oH s.aC (fU ts) p t)):=by
 unfold gw PC
 exact Or.inl (aI _ _ _ _ _ (fun r σ' hr=>⟨_,by rw[hr];exact aH _ _ _ _,rfl⟩) (Iv (σ:=⟨V.ro σ.get,σ.next⟩) s.aC hS (fU ts) hF p hx hy t ht _ _
  (fun σ' hn hk q=>Ru (h.ro.frame hn (hk _ h.cv) (hk _ h.tv)) q)))
theorem RT {σ:aw} {c T O:Id} {s:aE} {ts:List aa} (h:CK σ.get σ.next c T O s ts) (hS:iG s.aC) (hF:∀q,0<=fU ts q->eH s.aC (fU ts q)=true) (p:aq) (t:Int) (ht:eH s.aC t=true):
  Call Tryz.prog 229 [.ptr c 0 0,.agg (ae p),.int .i64 t] σ (fun r _=>r=.bool (ew s ts p t)):=by
 refine eA eF rfl fun kP=>?_
 clear kP
 obtain⟨b,h1⟩:=h.row
 have v1:=db h.cv
 have hw:=sJ p
 have v2:=db h.tv
 by_cases h0:zd p=true
 ·rw[h0]at hw
  obtain⟨hx,hy⟩:=sf h0
  by_cases h2:fU ts p<0
  ·(repeat(first|((repeat(revert hN;revert N;apply Pn.out));refine wk (tw @h1 (tw @v1 (tw @h2 @ae.eq_1))) ?_;(repeat(refine Pn.mk ?_;intro N hN)))|((try apply Or.inl);refine⟨_,au.x (hw) (sd (tw @h1 (tw @v1 (tw @h2 @ae.eq_1)))),?_⟩;refine hN _ _ ?_;clear hN N)))
   refine⟨_,Ru (h.frame aT (sd @v1) (sd @v2)) p,?_⟩
   refine hN _ _ ?_
   clear hN N
   (repeat(first|((repeat(revert hN;revert N;apply Pn.out));refine wk (tw @h1 (tw @v1 (tw @h2 (tw @ae.eq_1 @ad.eq_1)))) ?_;(repeat(refine Pn.mk ?_;intro N hN)))|((try apply Or.inl);refine⟨_,au.x (hw) (sd (tw @h1 (tw @v1 (tw @h2 (tw @ae.eq_1 @ad.eq_1))))),?_⟩;refine hN _ _ ?_;clear hN N)))
   refine⟨_,Iw (h.frame aT (sd @v1) (sd @v2)) hS hF p hx hy t ht,?_⟩
   refine hN _ _ ?_
   clear hN N
   have hb:=kK hS (fU ts) p t 4
   (repeat(first|((repeat(revert hN;revert N;apply Pn.out));refine wk (tw @h1 (tw @v1 (tw @h2 (tw @ae.eq_1 @ad.eq_1)))) ?_;(repeat(refine Pn.mk ?_;intro N hN)))|((try apply Or.inl);refine⟨_,au.x (hw) (sd (tw @h1 (tw @v1 (tw @h2 (tw @ae.eq_1 @ad.eq_1))))),?_⟩;refine hN _ _ ?_;clear hN N)))
   exact eS (.inl rfl) (vs:=[.bool (decide (s.az<=oH s.aC (fU ts) p t))]) (sd @Nat.zero_add) (by rw[show ew s ts p t=decide (s.az<=oH s.aC (fU ts) p t) by simp[ew,h0,h2]];rfl)
  ·(repeat(first|((repeat(revert hN;revert N;apply Pn.out));refine wk (tw @h1 (tw @v1 (tw @h2 @ae.eq_1))) ?_;(repeat(refine Pn.mk ?_;intro N hN)))|((try apply Or.inl);refine⟨_,au.x (hw) (sd (tw @h1 (tw @v1 (tw @h2 @ae.eq_1)))),?_⟩;refine hN _ _ ?_;clear hN N)))
   refine⟨_,Ru (h.frame aT (sd @v1) (sd @v2)) p,?_⟩
   refine hN _ _ ?_
   clear hN N
   (repeat(first|((repeat(revert hN;revert N;apply Pn.out));refine wk (tw @h1 (tw @v1 (tw @h2 @ae.eq_1))) ?_;(repeat(refine Pn.mk ?_;intro N hN)))|((try apply Or.inl);refine⟨_,au.x (hw) (sd (tw @h1 (tw @v1 (tw @h2 @ae.eq_1)))),?_⟩;refine hN _ _ ?_;clear hN N)))
   exact eS (.inl rfl) (vs:=[.bool false]) (sd @Nat.zero_add) (by rw[show ew s ts p t=false by simp[ew,h2]];rfl)
 ·rw[Bool.not_eq_true]at h0
  rw[h0]at hw
  (repeat(first|((repeat(revert hN;revert N;apply Pn.out));refine wk (tw @h1 (tw @v1 @ae.eq_1)) ?_;(repeat(refine Pn.mk ?_;intro N hN)))|((try apply Or.inl);refine⟨_,au.x (hw) (sd (tw @h1 (tw @v1 @ae.eq_1))),?_⟩;refine hN _ _ ?_;clear hN N)))
  exact eS (.inl rfl) (vs:=[.bool false]) (sd @Nat.zero_add) (by rw[show ew s ts p t=false by simp[ew,h0]];rfl)
def OW (rows:List (List AV)):Prop:=∀r∈rows,∃(x y:Int) (v:AV),r=[.int .i64 x,.int .i64 y,v]
def Qu (σ:aw) (O:Id) (g:Rows) (n:Nat):Prop:=σ.next<=n/\(∀x:Id,x.bj<σ.next->x≠O->g x=σ.get x)/\∃rows,g O=some ⟨true,mP.lq,rows⟩/\OW rows
theorem RU {σ:aw} {c T O:Id} {s:aE} {ts:List aa} (h:CK σ.get σ.next c T O s ts) (hS:iG s.aC) (hF:∀q,0<=fU ts q->eH s.aC (fU ts q)=true) (p:aq) (t:Int) (ht:eH s.aC t=true):
  gw (Call Tryz.prog) 229 [.ptr c 0 0,.agg (ae p),.int .i64 t] σ (fun r=>r=.bool (ew s ts p t)):=by
 unfold gw PC
 exact Or.inl (aI _ _ _ _ _ (fun r σ' hr=>⟨_,by rw[hr];exact bh _ _ _,rfl⟩) (RT (σ:=⟨V.ro σ.get,σ.next⟩) h.ro hS hF p t ht))
structure me (g:Rows) (n:Nat) (c T O:Id) (s:aE) (ts:List aa):Prop where
 row:g c=some ⟨true,6,[[.sl (s.aC.aB.map cm),.sl (s.aC.ai.map bR),.sl (s.bY.ai.map ab),.int .i64 s.az,.map T mP,.map O mP]]⟩
 tl:g T=some ⟨true,mP.lq,ts.map ab⟩
 op:∃rows,g O=some ⟨true,mP.lq,rows⟩/\OW rows
 cv:c.bj<n
 tv:T.bj<n
 ov:O.bj<n
 cT:c≠T
 cO:c≠O
 TO:T≠O
theorem me.RJ {g:Rows} {n:Nat} {c T O:Id} {s:aE} {ts:List aa} (h:me g n c T O s ts):CK g n c T O s ts:=⟨⟨_,h.row⟩,⟨_,h.tl⟩,h.cv,h.tv,h.ov⟩
theorem me.look {σ:aw} {g:Rows} {n:Nat} {c T O:Id} {s:aE} {ts:List aa} (h:me σ.get σ.next c T O s ts) (k:Qu σ O g n):me g n c T O s ts:=
 ⟨(k.2.1 _ h.cv h.cO).trans h.row,(k.2.1 _ h.tv h.TO).trans h.tl,k.2.2,Nat.lt_of_lt_of_le h.cv k.1,Nat.lt_of_lt_of_le h.tv k.1,Nat.lt_of_lt_of_le h.ov k.1,h.cT,h.cO,h.TO⟩
theorem me.frame {g g':Rows} {n n':Nat} {c T O:Id} {s:aE} {ts:List aa} (h:me g n c T O s ts) (hn:n<=n') (hf:∀x:Id,x.bj<n->g' x=g x):me g' n' c T O s ts:=
 ⟨(hf _ h.cv).trans h.row,(hf _ h.tv).trans h.tl,by rw[hf _ h.ov];exact h.op,Nat.lt_of_lt_of_le h.cv hn,Nat.lt_of_lt_of_le h.tv hn,Nat.lt_of_lt_of_le h.ov hn,h.cT,h.cO,h.TO⟩
theorem DZ {l:List aa} {p:aq}:eG l p<0↔∀t∈l,t.aJ≠p:=by
 unfold eG q9
 by_cases h:(l.findIdx fun c=>decide (c.aJ=p))<l.length
 ·rw[if_pos h]
  obtain⟨t,ht,h2⟩:=List.findIdx_lt_length.1 h
  exact⟨fun h=>ah,fun h=>absurd (by simpa using h2) (h t ht)⟩
 ·rw[if_neg h]
  exact⟨fun _ t ht e=>h (List.findIdx_lt_length.2 ⟨t,ht,by simp[e]⟩),fun _=>ah⟩
theorem Nq {l:List aa} (h:qS l) {k:Nat} (hk:k<l.length):eG (l.take k) (aL l k).aJ<0:=by
 rw[DZ]
 intro t ht e
 obtain⟨j,hj,rfl⟩:=List.getElem_of_mem ht
 have N2:j<k:=by rw[List.length_take]at hj;omega
 have:=h j k N2 hk
 rw[List.getElem_take]at e
 have e2:aL l j=l[j]'ah:=by unfold aL;rw[List.getD_eq_getElem?_getD,List.getElem?_eq_getElem ah];rfl
 rw[e2,e]at this
 simp[iS]at this
theorem Qf {l:List aa} {k:Nat} (hk:k<l.length):(l.take k).map ab++[[.int .i64 (aL l k).aJ.eE,.int .i64 (aL l k).aJ.ez,.int .i64 (aL l k).br]]=(l.take (k+1)).map ab:=by
 have e2:aL l k=l[k]:=by unfold aL;rw[List.getD_eq_getElem?_getD,List.getElem?_eq_getElem hk];rfl
 rw[List.take_succ_eq_append_getElem hk,List.map_append,e2]
 rfl
theorem iG.K0 {s:ax} {l:List aa} (hA:jZ s l):∀q,0<=fU l q->eH s (fU l q)=true:=fun _ h=>KY hA h
def j7 (ps:List aq) (i:Nat):aq:=ps.getD i ⟨0,0⟩
theorem kq {ps:List aq} {i:Nat} (h:i<ps.length):j7 ps i=ps[i]:=by simp[j7,List.getD_eq_getElem?_getD,h]
theorem B5 {ps:List aq} {i:Nat} (h:i<ps.length):j7 ps i∈ps:=by rw[kq h];exact List.getElem_mem h
theorem vZ {ps:List aq} {i:Nat} (h:i<ps.length):(ps.map ae)[i]? =some (ae (j7 ps i)):=by simp[j7,List.getD_eq_getElem?_getD,h]
def nq (ps:List aq):Prop:=ps.Pairwise fun a b=>iS a b=true
theorem nq.at_ {ps:List aq} (h:nq ps) {i j:Nat} (y9:i<j) (hj:j<ps.length):iS (j7 ps i) (j7 ps j)=true:=by
 rw[kq hj,kq ah]
 exact List.pairwise_iff_getElem.1 h i j ah hj y9
def km (ps:List aq) (p:aq):Nat:=ps.findIdx fun q=> !iS q p
theorem BP (ps:List aq) (p:aq):km ps p<=ps.length:=List.findIdx_le_length
theorem HX {ps:List aq} {p:aq} {x:Nat} (h:x<km ps p):iS (j7 ps x) p=true:=by
 have hx:x<ps.length:=Nat.lt_of_lt_of_le h (BP ps p)
 have:=List.not_of_lt_findIdx h
 rw[kq hx]
 simpa using this
theorem BN {ps:List aq} {p:aq} (hR:nq ps) {x:Nat} (h:km ps p<=x) (hx:x<ps.length):iS (j7 ps x) p=false:=by
 have h0:km ps p<ps.length:=ah
 have h1:iS (j7 ps (km ps p)) p=false:=by
  have:=List.findIdx_getElem (p:=fun q=> !iS q p) (xs:=ps) (w:=h0)
  rw[kq h0]
  have e:(!iS ps[km ps p] p)=true:=this
  simpa using e
 by_cases he:km ps p=x
 ·rw[<-he];exact h1
 ·have h2:=hR.at_ (show km ps p<x by omega) hx
  cases hc:iS (j7 ps x) p
  ·rfl
  ·rw[iK h2 hc]at h1;cases h1
def re (ps:List aq) (p:aq):List aq:=if km ps p<ps.length/\j7 ps (km ps p)=p then ps else ps.take (km ps p)++p::ps.drop (km ps p)
theorem MR (ps:List aq) (p:aq):(re ps p).length<=ps.length+1:=by
 unfold re
 have:=BP ps p
 split
 ·omega
 ·simp;omega
theorem Mv (ps:List aq) (p x:aq):x∈re ps p↔x=p∨x∈ps:=by
 unfold re
 split
 ·rename_i h
  refine⟨.inr,fun hx=>hx.elim (fun e=>?_) id⟩
  rw[e,<-h.2];exact B5 h.1
 ·have:x∈ps↔x∈ps.take (km ps p)++ps.drop (km ps p):=by rw[List.take_append_drop]
  rw[this]
  simp only[List.mem_append,List.mem_cons]
  constructor
  ·rintro(h|h|h)
   ·exact .inr (.inl h)
   ·exact .inl h
   ·exact .inr (.inr h)
  ·rintro(h|h|h)
   ·exact .inr (.inl h)
   ·exact .inl h
   ·exact .inr (.inr h)
theorem MS {ps:List aq} (hR:nq ps) (p:aq):nq (re ps p):=by
 unfold re
 split
 ·exact hR
 ·rename_i k9
  have hd:∀x∈ps.drop (km ps p),iS p x=true:=fun x hx=>by
   obtain⟨j,hj,rfl⟩:=List.getElem_of_mem hx
   rw[List.length_drop]at hj
   rw[List.getElem_drop]
   have gY:km ps p+j<ps.length:=ah
   have h1:=BN (p:=p) hR (Nat.le_add_right _ j) gY
   rw[<-kq gY]
   refine qz h1 fun he=>?_
   by_cases h0:j=0
   ·subst h0
    exact k9 ⟨ah,by simpa using he⟩
   ·have:=hR.at_ (show km ps p<km ps p+j by omega) gY
    rw[he]at this
    have h2:=BN (p:=p) hR (Nat.le_refl _) (show km ps p<ps.length by omega)
    rw[this]at h2;cases h2
  have ht:∀x∈ps.take (km ps p),iS x p=true:=fun x hx=>by
   obtain⟨j,hj,rfl⟩:=List.getElem_of_mem hx
   rw[List.length_take]at hj
   rw[List.getElem_take]
   have:=HX (ps:=ps) (p:=p) (x:=j) ah
   rwa [kq ah]at this
  refine List.pairwise_append.2 ⟨hR.sublist (List.take_sublist _ _),List.pairwise_cons.2 ⟨hd,hR.sublist (List.drop_sublist _ _)⟩,fun x hx y hy=>?_⟩
  rcases List.mem_cons.1 hy with rfl|hy
  ·exact ht x hx
  ·exact iK (ht x hx) (hd y hy)
theorem H8:∀{ps qs:List aq},nq ps->nq qs->(∀x,x∈ps↔x∈qs)->ps=qs
 |[],[],_,_,_=>rfl
 |[],q::qs,_,_,h=>absurd ((h q).2 (by simp)) (by simp)
 |p::ps,[],_,_,h=>absurd ((h p).1 (by simp)) (by simp)
 |p::ps,q::qs,hp,hq,h=>by
  obtain⟨p1,p2⟩:=List.pairwise_cons.1 hp
  obtain⟨q1,q2⟩:=List.pairwise_cons.1 hq
  have e:p=q:=by
   rcases List.mem_cons.1 ((h p).1 (by simp))with e|e
   ·exact e
   ·rcases List.mem_cons.1 ((h q).2 (by simp))with e'|e'
    ·exact e'.symm
    ·have:=ya (q1 p e)
     rw[p1 q e']at this;cases this
  subst e
  congr 1
  refine H8 p2 q2 fun x=>⟨fun hx=>?_,fun hx=>?_⟩
  ·rcases List.mem_cons.1 ((h x).1 (List.mem_cons_of_mem _ hx))with e|e
   ·subst e;have:=p1 x hx;rw[iM]at this;cases this
   ·exact e
  ·rcases List.mem_cons.1 ((h x).2 (List.mem_cons_of_mem _ hx))with e|e
   ·subst e;have:=q1 x hx;rw[iM]at this;cases this
   ·exact e
def UM (σ:aw) (kp:Id->Prop) (ps:List aq) (r:AV) (σ':aw):Prop:=
 ∃o:Id,r=.own o 0 ps.length/\σ'.get o=some ⟨true,2,ps.map ae⟩/\σ.next<=σ'.next/\o.bj<σ'.next/\(σ.next<=o.bj∨¬kp o)/\∀x:Id,x.bj<σ.next->kp x->σ'.get x=σ.get x
theorem Q9 {ps:List aq} {i:Nat} {q:aq}:(ps.map ae).set i (ae q)=(ps.set i q).map ae:=List.map_set.symm
def AU (ps:List aq) (p:aq) (i:Nat):List aq:=(ps++[p]).take (i+1)++ps.drop i
theorem qQ (ps:List aq) (p:aq) {i:Nat} (h:i<=ps.length):(AU ps p i).length=ps.length+1:=by simp[AU];omega
theorem Tz {ps:List aq} {p:aq} {i j:Nat} (hi:i<=ps.length) (hj:j<i):j7 (AU ps p i) j=j7 ps j:=by
 unfold j7 AU
 rw[List.getD_eq_getElem?_getD,List.getD_eq_getElem?_getD,List.getElem?_append_left (by simp;omega),List.getElem?_take,if_pos ah,List.getElem?_append_left ah]
theorem Km (ps:List aq) (p:aq):AU ps p ps.length=ps++[p]:=by
 unfold AU
 rw[List.drop_length,List.append_nil,List.take_of_length_le (by simp)]
theorem NA {ps:List aq} {p:aq} {i:Nat} (hi:i<ps.length):(AU ps p (i+1)).set (i+1) (j7 ps i)=AU ps p i:=by
 refine List.ext_getElem? fun j=>?_
 rw[List.getElem?_set,qQ ps p ah]
 unfold AU
 by_cases hj:i+1=j
 ·subst hj
  rw[if_pos rfl,if_pos ah,List.getElem?_append_right (by simp;omega)]
  simp only[List.length_take,List.length_append,List.length_cons,List.length_nil]
  rw[show i+1-min (i+1) (ps.length+(0+1))=0 by omega,List.getElem?_drop,Nat.add_zero,List.getElem?_eq_getElem hi,kq hi]
 ·rw[if_neg hj]
  by_cases ei:j<i+1
  ·rw[List.getElem?_append_left (by simp;omega),List.getElem?_append_left (by simp;omega),List.getElem?_take,List.getElem?_take,if_pos ah,if_pos ei]
  ·rw[List.getElem?_append_right (by simp;omega),List.getElem?_append_right (by simp;omega)]
   simp only[List.length_take,List.length_append,List.length_cons,List.length_nil,List.getElem?_drop]
   congr 1
   omega
theorem Qi {ps:List aq} {p:aq} {i:Nat} (hi:i<=ps.length):(AU ps p i).set i p=ps.take i++p::ps.drop i:=by
 refine List.ext_getElem? fun j=>?_
 rw[List.getElem?_set,qQ ps p hi]
 unfold AU
 by_cases hj:i=j
 ·subst hj
  rw[if_pos rfl,if_pos ah,List.getElem?_append_right (by simp;omega)]
  simp[Nat.min_eq_left hi]
 ·rw[if_neg hj]
  by_cases ei:j<i
  ·rw[List.getElem?_append_left (by simp;omega),List.getElem?_append_left (by simp;omega),List.getElem?_take,List.getElem?_take,if_pos ah,if_pos ei,List.getElem?_append_left ah]
  ·rw[List.getElem?_append_right (by simp;omega),List.getElem?_append_right (by simp;omega)]
   simp only[List.length_take,List.length_append,List.length_cons,List.length_nil]
   rw[show j-min i ps.length=(j-i-1)+1 by omega,List.getElem?_cons_succ]
   congr 1
   omega
theorem Qk {X:gn} {Q:Ex->Env->aw->Prop} {N:Env->aw->Prop} {c:VC} {env:Env} {σ:aw} {id:Nat} (I:Env->aw->Prop) (h2:∀e s,I e s->N e s) (h1:∀N':Env->aw->Prop,(∀e s,I e s->N' e s)->dK X c (aZ id (dj N' Q)) env σ):dK X c (aZ id (dj N Q)) env σ:=h1 N h2
theorem zB (ps:List aq) (hR:nq ps) (hlen:ps.length<=1048576) (p:aq) (o:Id) (σ:aw) (ho:σ.get o=some ⟨true,2,ps.map ae⟩) (sC:o.bj<σ.next):
  Call Tryz.prog 223 [.own o 0 ps.length,.agg (ae p)] σ (UM σ (fun x=>(x=o)=False) (re ps p)):=by
 refine eA eF rfl fun kP=>?_
 clear kP
 have r4:=db sC
 have XJ:=BP ps p
 have xT:(ps.map ae).length=ps.length:=by simp
 (try((repeat(revert hN;revert N;apply Pn.out));refine wk (tw @ae.eq_1 @r4) ?_;(repeat(refine Pn.mk ?_;intro N hN))))
 refine Qk (fun e s=>e 5=.int .i64 (km ps p:Int)/\e 0=.own o 0 ps.length/\e 3=.ptr ⟨223000000,σ.next⟩ 0 0/\s.get ⟨223000000,σ.next⟩=some ⟨true,2,[ae p]⟩/\s.get o=some ⟨true,2,ps.map ae⟩/\σ.next<s.next/\∀x:Id,x.bj<σ.next->s.get x=σ.get x) ?_ ?_
 ·rintro e s ⟨f5,f0,f3,fg0,fg1,fn,ffr⟩
  refine hN _ _ ?_
  clear hN N
  have Pj:=db (i:=o) (n:=s.next) ah
  obtain⟨a,ha⟩:∃a,km ps p=a:=⟨_,rfl⟩
  rw[ha]at f5 XJ
  by_cases hex:a<ps.length/\j7 ps a=p
  ·have ei:(a:Int)<(ps.length:Int):=ah
   have hg:=vZ hex.1
   have hx:decide ((j7 ps a).eE=p.eE)=true:=decide_eq_true (by rw[hex.2])
   have hy:decide ((j7 ps a).ez=p.ez)=true:=decide_eq_true (by rw[hex.2])
   (try((repeat(revert hN;revert N;apply Pn.out));refine wk (tw @f5 (tw @f0 (tw @f3 (tw @fg0 (tw @fg1 (tw @ei (tw @hg (tw @hx (tw @hy (tw @xT @ae.eq_1)))))))))) ?_;(repeat(refine Pn.mk ?_;intro N hN))))
   have hp:re ps p=ps:=by unfold re;rw[ha,if_pos hex]
   rw[hp]
   exact eS (.inl rfl) (vs:=[.own o 0 ps.length]) (sd @Nat.zero_add) ⟨o,rfl,sd @fg1,aT,aT,.inr (by simp),fun x hx _=>sd (ffr x hx)⟩
  refine EY (fun N hN=>?_)
  refine Hh (fun e s=>e 5=.int .i64 (a:Int)/\e 0=.own o 0 ps.length/\e 3=.ptr ⟨223000000,σ.next⟩ 0 0/\s.get ⟨223000000,σ.next⟩=some ⟨true,2,[ae p]⟩/\s.get o=some ⟨true,2,ps.map ae⟩/\σ.next<s.next/\∀x:Id,x.bj<σ.next->s.get x=σ.get x) ?_ ?_
  ·clear f5 f0 f3 fg0 fg1 fn ffr Pj
   rintro e s ⟨f5,f0,f3,fg0,fg1,fn,ffr⟩
   refine hN _ _ ?_
   clear hN N
   have Pj:=db (i:=o) (n:=s.next) ah
   have Uu:=db (i:=⟨223000000,σ.next⟩) (n:=s.next) fn
   have e1:ps.length+1<=16777216:=ah
   have qZ:ps.map ae++[[.int .i64 p.eE,.int .i64 p.ez]]=(AU ps p ps.length).map ae:=by rw[Km];simp[ae]
   have jt:IntKind.i64.wrap ((ps.length:Int)+1-1)=(ps.length:Int):=by rw[bq ah];omega
   have hp:re ps p=ps.take a++p::ps.drop a:=by unfold re;rw[ha,if_neg hex]
   have SH:((⟨223000000,σ.next⟩:Id)=o)=False:=by
    refine eq_false fun h=>?_
    rw[<-h]at sC;exact Nat.lt_irrefl _ sC
   (try((repeat(revert hN;revert N;apply Pn.out));refine wk (tw @f5 (tw @f0 (tw @f3 (tw @fg0 (tw @fg1 (tw @Pj (tw @Uu (tw @SH (tw @xT (tw @e1 (tw @qZ (tw @jt (tw @Int.natCast_add (tw @Int.cast_ofNat_Int @ae.eq_1)))))))))))))) ?_;(repeat(refine Pn.mk ?_;intro N hN))))
   refine aQ (fun m env st=>∃i:Nat,m=i/\a<=i/\i<=ps.length/\env 6=.int .i64 (i:Int)/\st.get ⟨223006003,s.next⟩=some ⟨true,2,(AU ps p i).map ae⟩/\st.get ⟨223000000,σ.next⟩=some ⟨true,2,[ae p]⟩/\s.next<st.next/\∀x:Id,x.bj<σ.next->(x=o)=False->st.get x=σ.get x) ps.length ⟨ps.length,rfl,XJ,Nat.le_refl _,sd (tw @jt (tw @Int.natCast_add @Int.cast_ofNat_Int)),sd @qZ,sd (tw @fg0 (tw @Uu (tw @SH @ae.eq_1))),aT,fun x hx Ak=>by
    have h1:=db (i:=x) (n:=s.next) ah
    have h2:=ffr x hx
    simp only[go_sem, ↓reduceIte,Nat.reduceEqDiff,Nat.reduceAdd,Nat.reduceSub,Nat.reduceLeDiff,reduceCtorEq,h1,h2,Ak]⟩ ?_
   rintro m env_b st_b ⟨i,hmi,bl,ble,b6,bg0,bg1,bn,eI⟩ bkp
   have b0:=bkp 0 (by kernel_rfl)
   have b3:=bkp 3 (by kernel_rfl)
   have b5:=bkp 5 (by kernel_rfl)
   simp only[go_sem, ↓reduceIte,Nat.reduceEqDiff,Nat.reduceAdd,Nat.reduceSub,Nat.reduceLeDiff,reduceCtorEq,f0,f3,f5,ae]at b0 b3 b5
   clear bkp
   have Pg:((AU ps p i).map ae).length=ps.length+1:=by rw[List.length_map,qQ ps p ble]
   by_cases NX:(a:Int)<(i:Int)
   ·obtain⟨k,rfl⟩:∃k,i=k+1:=⟨i-1,ah⟩
    have fy:k<ps.length:=ah
    have ml:IntKind.i64.wrap (((k+1:Nat):Int)-1)=(k:Int):=by rw[bq ah];omega
    have hq:((AU ps p (k+1)).map ae)[k]? =some (ae (j7 ps k)):=by rw[vZ (by rw[qQ ps p ble];omega),Tz ble (Nat.lt_succ_self _)]
    have ub:∃z,((AU ps p (k+1)).map ae)[k+1]? =some (ae z):=⟨_,vZ (by rw[qQ ps p ble];omega)⟩
    obtain⟨z,ub⟩:=ub
    have eb:((AU ps p (k+1)).map ae).set (k+1) (ae (j7 ps k))=(AU ps p k).map ae:=by rw[Q9,NA fy]
    have c1:(k:Int)<(ps.length:Int)+1:=ah
    have c2:(k:Int)+1<(ps.length:Int)+1:=ah
    have c3:(0:Int)<=(k:Int)+1:=ah
    have c4:((k:Int)+1).toNat=k+1:=ah
    have c5:(a:Int)<(k:Int)+1:=ah
    have c6:IntKind.i64.wrap ((k:Int)+1-1)=(k:Int):=by rw[bq ah];omega
    rw[ae]at eb hq ub
    (try((repeat(revert hN;revert N;apply Pn.out));refine wk (tw @b0 (tw @b3 (tw @b5 (tw @b6 (tw @bg0 (tw @bg1 (tw @NX (tw @ml (tw @hq (tw @ub (tw @eb (tw @Pg (tw @c1 (tw @c2 (tw @c3 (tw @c4 (tw @c5 (tw @c6 (tw @Int.natCast_add @Int.cast_ofNat_Int))))))))))))))))))) ?_;(repeat(refine Pn.mk ?_;intro N hN))))
    exact⟨k,ah,k,rfl,ah,ah,sd @c6,sd @eb,sd (tw @bg1 @SH),aT,fun x hx Ak=>by
     have h1:=db (i:=x) (n:=s.next) ah
     have h2:=eI x hx Ak
     simp only[go_sem, ↓reduceIte,Nat.reduceEqDiff,Nat.reduceAdd,Nat.reduceSub,Nat.reduceLeDiff,reduceCtorEq,h1,h2]⟩
   ·obtain rfl:i=a:=ah
    have eb:((AU ps p i).map ae).set i (ae p)=(re ps p).map ae:=by rw[Q9,Qi XJ,hp]
    have ub:∃z,((AU ps p i).map ae)[i]? =some (ae z):=⟨_,vZ (by rw[qQ ps p ble];omega)⟩
    obtain⟨z,ub⟩:=ub
    have mj:(re ps p).length=ps.length+1:=by rw[hp];simp;omega
    have c1:(i:Int)<(ps.length:Int)+1:=ah
    rw[ae]at eb ub
    (try((repeat(revert hN;revert N;apply Pn.out));refine wk (tw @b0 (tw @b3 (tw @b5 (tw @b6 (tw @bg0 (tw @bg1 (tw @NX (tw @ub (tw @eb (tw @Pg (tw @c1 (tw @Int.natCast_add (tw @Int.cast_ofNat_Int @ae.eq_1))))))))))))) ?_;(repeat(refine Pn.mk ?_;intro N hN))))
    rw[<-mj]
    exact eS (.inl rfl) (vs:=[.own ⟨223006003,s.next⟩ 0 (re ps p).length]) (sd (tw @b0 @mj)) ⟨⟨223006003,s.next⟩,rfl,sd @eb,aT,aT,.inl aT,fun x hx Ak=>by
     have h1:=db (i:=x) (n:=s.next) ah
     have h2:=eI x hx Ak
     simp only[go_sem, ↓reduceIte,Nat.reduceEqDiff,Nat.reduceAdd,Nat.reduceSub,Nat.reduceLeDiff,reduceCtorEq,h1,h2]⟩
  ·intro N hN
   by_cases LH:(a:Int)<(ps.length:Int)
   ·have hg:=vZ (ps:=ps) (i:=a) ah
    by_cases hx:(j7 ps a).eE=p.eE
    ·have vK:decide ((j7 ps a).eE=p.eE)=true:=decide_eq_true hx
     have XY:decide ((j7 ps a).ez=p.ez)=false:=decide_eq_false fun h=>hex ⟨ah,yy hx h⟩
     (try((repeat(revert hN;revert N;apply Pn.out));refine wk (tw @f5 (tw @f0 (tw @f3 (tw @fg0 (tw @fg1 (tw @LH (tw @hg (tw @vK (tw @XY (tw @xT @ae.eq_1)))))))))) ?_;(repeat(refine Pn.mk ?_;intro N hN))))
     exact⟨sd @f5,sd @f0,sd @f3,sd (tw @fg0 @ae.eq_1),sd @fg1,aT,fun x hx=>sd (ffr x hx)⟩
    ·have vK:decide ((j7 ps a).eE=p.eE)=false:=decide_eq_false hx
     (try((repeat(revert hN;revert N;apply Pn.out));refine wk (tw @f5 (tw @f0 (tw @f3 (tw @fg0 (tw @fg1 (tw @LH (tw @hg (tw @vK (tw @Bool.false_and (tw @xT @ae.eq_1)))))))))) ?_;(repeat(refine Pn.mk ?_;intro N hN))))
     exact⟨sd @f5,sd @f0,sd @f3,sd (tw @fg0 @ae.eq_1),sd @fg1,aT,fun x hx=>sd (ffr x hx)⟩
   ·(try((repeat(revert hN;revert N;apply Pn.out));refine wk (tw @f5 (tw @f0 (tw @f3 (tw @fg0 (tw @fg1 (tw @LH (tw @xT @ae.eq_1))))))) ?_;(repeat(refine Pn.mk ?_;intro N hN))))
    exact⟨sd @f5,sd @f0,sd @f3,sd (tw @fg0 @ae.eq_1),sd @fg1,aT,fun x hx=>sd (ffr x hx)⟩
 intro N hN
 refine aQ (fun m env st=>∃a:Nat,m=a/\km ps p<=a/\a<=ps.length/\env 5=.int .i64 (a:Int)/\st.get ⟨223000000,σ.next⟩=some ⟨true,2,[ae p]⟩/\st.get o=some ⟨true,2,ps.map ae⟩/\σ.next<st.next/\∀x:Id,x.bj<σ.next->st.get x=σ.get x) ps.length ⟨ps.length,rfl,XJ,Nat.le_refl _,sd @Nat.zero_add,sd @ae.eq_1,sd (tw @r4 @ho),aT,fun x hx=>by have:=db hx;simp only[go_sem, ↓reduceIte,Nat.reduceEqDiff,Nat.reduceAdd,Nat.reduceSub,Nat.reduceLeDiff,reduceCtorEq,this]⟩ ?_
 rintro m env_a st_a ⟨a,hma,al,ale,a5,ag0,ag1,an,dv⟩ akp
 have a0:=akp 0 (by kernel_rfl)
 have a3:=akp 3 (by kernel_rfl)
 simp only[go_sem, ↓reduceIte,Nat.reduceEqDiff,Nat.reduceAdd,Nat.reduceSub,Nat.reduceLeDiff,reduceCtorEq,ae]at a0 a3
 clear akp
 by_cases h0:(0:Int)<(a:Int)
 ·obtain⟨b,rfl⟩:∃b,a=b+1:=⟨a-1,ah⟩
  have nW:b<ps.length:=ah
  have fR:(b:Int)<(ps.length:Int):=ah
  have hg:=vZ nW
  have hw:IntKind.i64.wrap (((b+1:Nat):Int)-1)=(b:Int):=by rw[bq ah];omega
  have hq:=mz (j7 ps b) p
  cases hc:iS (j7 ps b) p
  ·rw[hc]at hq
   (repeat(first|((repeat(revert hN;revert N;apply Pn.out));refine wk (tw @a0 (tw @a3 (tw @a5 (tw @ag0 (tw @ag1 (tw @h0 (tw @fR (tw @hg (tw @hw (tw @xT @ae.eq_1)))))))))) ?_;(repeat(refine Pn.mk ?_;intro N hN)))|((try apply Or.inl);refine⟨_,au.x (hq) (sd (tw @a0 (tw @a3 (tw @a5 (tw @ag0 (tw @ag1 (tw @h0 (tw @fR (tw @hg (tw @hw (tw @xT @ae.eq_1))))))))))),?_⟩;refine hN _ _ ?_;clear hN N)))
   refine⟨b,ah,b,rfl,?_,ah,sd @hw,sd (tw @ag0 @ae.eq_1),sd @ag1,aT,fun x hx=>sd (dv x hx)⟩
   rcases Nat.lt_or_ge b (km ps p)with h|h
   ·rw[HX h]at hc;cases hc
   ·exact h
  ·rw[hc]at hq
   have j6:km ps p=b+1:=by
    rcases Nat.lt_or_ge b (km ps p)with h|h
    ·omega
    ·have:=BN (p:=p) hR h nW
     rw[hc]at this;cases this
   (repeat(first|((repeat(revert hN;revert N;apply Pn.out));refine wk (tw @a0 (tw @a3 (tw @a5 (tw @ag0 (tw @ag1 (tw @h0 (tw @fR (tw @hg (tw @hw (tw @xT @ae.eq_1)))))))))) ?_;(repeat(refine Pn.mk ?_;intro N hN)))|((try apply Or.inl);refine⟨_,au.x (hq) (sd (tw @a0 (tw @a3 (tw @a5 (tw @ag0 (tw @ag1 (tw @h0 (tw @fR (tw @hg (tw @hw (tw @xT @ae.eq_1))))))))))),?_⟩;refine hN _ _ ?_;clear hN N)))
   exact⟨sd (tw @a5 @j6),sd @a0,sd @a3,sd (tw @ag0 @ae.eq_1),sd @ag1,aT,fun x hx=>sd (dv x hx)⟩
 ·have j6:km ps p=a:=ah
  (try((repeat(revert hN;revert N;apply Pn.out));refine wk (tw @a0 (tw @a3 (tw @a5 (tw @ag0 (tw @ag1 (tw @h0 (tw @xT @ae.eq_1))))))) ?_;(repeat(refine Pn.mk ?_;intro N hN))))
  exact⟨sd (tw @a5 @j6),sd @a0,sd @a3,sd (tw @ag0 @ae.eq_1),sd @ag1,aT,fun x hx=>sd (dv x hx)⟩
end Go.Proofs.YtgoljkjaameagaaGreat.V
