/- Networks by matrices: whether every cut holds. -/
import Derived.Test.YtgoljkjaameagaaGreatRkE
import Derived.Test.YtgoljkjaameagaaGreatRkC
import Derived.RangeFuncCalls
import Derived.OrdersIn
import Derived.Test.YtgoljkjaameagaaGreatRkB
import Derived.Test.YtgoljkjaameagaaGreatRkD
import Derived.Test.YtgoljkjaameagaaGreatChecked
import Derived.ProofKit
import Derived.Deep.Slices
import Derived.ChangeSame
import Derived.Test.YtgoljkjaameagaaGreatRows
import Derived.OpenShut
import Derived.ShutString
import Derived.ChangeOld
import Derived.Below
set_option linter.unusedVariables false
set_option linter.unusedSimpArgs false
set_option maxRecDepth 100000
set_option maxHeartbeats 16000000
namespace Go.Proofs.YtgoljkjaameagaaGreat.V
open Go.RowKit
attribute [local irreducible] dE wpOps fS Call
attribute [local go_sem] aH fq eG fH fG cX upd bZ K.av cD AV.cells AV.cell rowOf rowsOf part ld rowAt br bP dn dR gK bx cQ eb fD eS di dW cN cL dH dI bD aW cF bB cH cG dU dX dV cE bG cP dS bz aI cJ cq gJ bj cz bE aT de aX dp AV.undef bq bt dL dQ dB dz cw ea ee cj dZ dY cI cK List.getD_cons_zero List.getD_cons_succ List.getD_nil List.all_cons List.all_nil Bool.and_true Bool.true_and Bool.and_self Bool.not_true Bool.not_false Option.map_some Option.map_none Option.bind_some Option.bind_none List.length_cons List.length_nil List.take_succ_cons List.take_zero List.take_nil List.drop_succ_cons List.drop_zero List.drop_nil List.head?_cons List.map_cons List.map_nil List.getElem?_cons_zero List.getElem?_cons_succ List.cons_append List.nil_append List.append_nil List.length_map List.set_cons_zero List.set_cons_succ Nat.reduceMul eq_self Int.toNat_natCast Int.natCast_nonneg and_self true_and and_true decide_true decide_false Bool.false_eq_true Nat.zero_add Nat.add_zero List.contains_cons List.contains_nil Bool.or_false Bool.false_or beq_self_eq_true Nat.reduceBEq ne_eq not_true_eq_false not_false_eq_true Id.mk.injEq false_and and_false Nat.reduceLT Int.reduceLE Int.reduceLT Int.reduceToNat Int.reduceNeg Int.reduceAdd Nat.le_refl List.length_append beq_true beq_false Bool.not_eq_eq_eq_not or_false false_or dD ah aq aF aY bp bK aP bc aN aV cC bF
noncomputable def tG (n:Nat) (bs:List PB) (t:Int):Bool:=@decide (kM n bs t) (Classical.propDecidable _)
theorem yk {n:Nat} {bs:List PB} {t:Int} (h:kM n bs t):true=tG n bs t:=by simp[tG,h]
theorem BB {n:Nat} {bs:List PB} {t:Int} (h:¬kM n bs t):false=tG n bs t:=by simp[tG,h]
theorem Lw (cnt:Nat) (hn:cnt<=1048576) (bs:List PB) (hb:∀b∈bs,b.a<cnt/\b.b<cnt) (dK:∀b∈bs,0<=b.s/\b.s<=4) (nX:bs.length<=1048576) (t:Int) (ht:t<=1099511627776):
  aj Tryz.prog 288 [.int .i64 cnt,.sl (bs.map aA),.int .i64 t] (.bool (tG cnt bs t)):=by
 refine aj.body eH rfl fun hl n0=>?_
 clear hl
 have pq:=Ad bs (fun _ _=>0) (fun b h=>(dK b h).1) (fun _ _=>Int.le_refl _)
 have hle:=room_le bs (fun _ _=>0) 0 (fun b h=>(dK b h).2) (fun _ _=>Int.le_refl _) (Int.le_refl _)
 have gx:bs.foldl nM (fun _ _=>0)=lf bs:=rfl
 rw[gx]at pq hle
 (try((repeat(revert hN;revert N;apply Pn.out));refine wk @Nat.zero_add ?_;(repeat(refine Pn.mk ?_;intro N hN))))
 refine aZ (fun m env st=>∃y:Nat,m=cnt+1-y/\1<=y/\env 7=.int .i64 (y:Int)/\y<=cnt+1/\∀z,1<=z->z<y->z<cnt->∀S:Nat->Bool,S 0=true->S z=false->t<=jh S bs) (cnt+1-1) ⟨1,rfl,Nat.le_refl _,by(simp only[go_sem, ↓reduceIte,Nat.reduceEqDiff,Nat.reduceAdd,Nat.reduceSub,Nat.reduceLeDiff,reduceCtorEq])<;>rfl,by omega,fun z h1 h2=>by omega⟩ ?_
 rintro m env_b st_b ⟨y,rfl,hy1,b7,hyl,dG⟩ bkp
 have b0:=bkp 0 (by kernel_rfl)
 have b1:=bkp 1 (by kernel_rfl)
 have b2:=bkp 2 (by kernel_rfl)
 simp only[go_sem, ↓reduceIte,Nat.reduceEqDiff,Nat.reduceAdd,Nat.reduceSub,Nat.reduceLeDiff,reduceCtorEq]at b0 b1 b2
 clear bkp
 by_cases hy:(y:Int)<(cnt:Int)
 ·have hyn:y<cnt:=by omega
  (try((repeat(revert hN;revert N;apply Pn.out));refine wk (tw @b0 (tw @b1 (tw @b2 (tw @b7 @hy)))) ?_;(repeat(refine Pn.mk ?_;intro N hN))))
  refine .inr (bf _ _ _ _ _ (fun r σ1 hq=>?_) (B7 cnt (by omega) hn bs hb dK nX _))
  obtain⟨X,o1,o2,R1,R2,rfl,I,Gh,hM,_⟩:=hq
  refine hN _ _ ?_
  clear hN N
  (try((repeat(revert hN;revert N;apply Pn.out));refine wk (tw @b0 (tw @b1 (tw @b2 @b7))) ?_;(repeat(refine Pn.mk ?_;intro N hN))))
  have uB:=Pa cnt (by omega) hn (lf bs) (fun u v _ _=>⟨pq u v,by have:=hle u v;omega⟩) 0 y (by omega) hyn (by omega) t ht X o1 o2 R1 R2 σ1.next I
  refine .inr (bf _ _ _ _ _ (fun r σ2 hq=>?_) (uB _ hM (by(try dsimp only);omega)))
  obtain⟨val,rfl,qD,l9⟩:=hq
  refine hN _ _ ?_
  clear hN N
  by_cases dJ:val<t
  ·(try((repeat(revert hN;revert N;apply Pn.out));refine wk (tw @b0 (tw @b1 (tw @b2 (tw @b7 @dJ)))) ?_;(repeat(refine Pn.mk ?_;intro N hN))))
   obtain⟨S,h1,h2,h3⟩:=qD.1 dJ
   rw[Bg hb]at h3
   exact aM (b:=false) (.inl rfl) (sd @Nat.zero_add) (BB fun h=>by have:=h S h1 ⟨y,hyn,h2⟩;omega)
  ·have hw:IntKind.i64.wrap ((y:Int)+1)=((y+1:Nat):Int):=az (by omega)
   (try((repeat(revert hN;revert N;apply Pn.out));refine wk (tw @b0 (tw @b1 (tw @b2 (tw @b7 (tw @dJ @hw))))) ?_;(repeat(refine Pn.mk ?_;intro N hN))))
   refine⟨_,?_,y+1,rfl,by omega,sd (tw @b7 @hw),by omega,fun z h1 h2 h3 S Og Oh=>?_⟩
   ·omega
   ·by_cases hzy:z=y
    ·subst hzy
     rcases Int.lt_or_le (jh S bs) t with h|h
     ·exact absurd (qD.2 ⟨S,Og,Oh,by rw[Bg hb];exact h⟩) dJ
     ·exact h
    ·exact dG z h1 (by omega) h3 S Og Oh
 ·(try((repeat(revert hN;revert N;apply Pn.out));refine wk (tw @b0 (tw @b1 (tw @b2 (tw @b7 @hy)))) ?_;(repeat(refine Pn.mk ?_;intro N hN))))
  exact aM (b:=true) (.inl rfl) (sd @Nat.zero_add) (yk fun S h0 ⟨z,hz,hzf⟩=>by
   have:z≠0:=by rintro rfl;rw[h0]at hzf;cases hzf
   exact dG z (by omega) (by omega) hz S h0 hzf)
theorem IS (cnt:Nat) (hn:cnt<=1048576) (bs:List PB) (hb:∀b∈bs,b.a<cnt/\b.b<cnt) (dK:∀b∈bs,0<=b.s/\b.s<=4) (nX:bs.length<=1048576) (t:Int) (ht:t<=1099511627776):
  aj Tryz.prog 288 [.int .i64 cnt,Ai bs,.int .i64 t] (.bool (tG cnt bs t)):=by
 have h:=Lw cnt hn bs hb dK nX t ht
 cases bs with
 |nil=>exact h.cut mixed (.same _ (.cm (.same _ .nil)))
 |cons b r=>rw[Aj (by simp)];exact h
def CL:Prop:=∀(s:ay) (l:List ab),iA s->gL s l->aj Tryz.prog 205 [.agg (ad s),.agg [.sl (l.map aa)]] (Ai (cY s l))
noncomputable def uD (s:ay) (l:List ab) (t:Int):Bool:=if 64<iC s l t then false else tG (iC s l t) (dv (eB (aO t (cY s l))) (cY s l)) t
theorem DK (s:ay) (l:List ab) (t:Int):uD s l t=nJ s l t:=by
 letI:=Classical.propDecidable (pg l.length (cY s l) t)
 unfold uD
 by_cases h:64<iC s l t
 ·rw[if_pos h]
  exact(mL (p:=False) ⟨False.elim,fun k=>by have:=k.1;unfold iC at h;omega⟩).symm.trans (by simp) |>.symm
 ·rw[if_neg h]
  by_cases hp:kM (iC s l t) (dv (eB (aO t (cY s l))) (cY s l)) t
  ·rw[<-yk hp]
   exact((mL (p:=True) ⟨fun _=>⟨by unfold iC at h;omega,hp⟩,fun _=>trivial⟩).symm.trans (by simp)).symm
  ·rw[<-BB hp]
   exact((mL (p:=False) ⟨False.elim,fun k=>hp k.2⟩).symm.trans (by simp)).symm
theorem J4 (TC:CL) (s:ay) (l:List ab) (t:Int) (ht:t<=1099511627776) (h1:1<=l.length) (hS:iA s) (hA:gL s l):aj Tryz.prog 241 [.agg (ad s),.agg [.sl (l.map aa)],.int .i64 t] (.gy [.bool (nJ s l t),.bool (decide ¬64<iC s l t)]):=by
 rw[<-DK]
 refine aj.body eH rfl fun hl n0=>?_
 clear hl
 have hb:=xU (l:=l) hS
 have nX:=qh (s:=s) hA.1
 have IH:=hA.1.lL
 have xf:=TC s l hS hA
 have QW:=zq l.length h1 (by omega) (cY s l) (fun b h=>⟨(hb b h).1,(hb b h).2.1⟩) (by omega) t
 have hL:=tL (aO t (cY s l))
 have fc:=Ek hL (fun b h=>⟨(hb b h).1,(hb b h).2.1⟩)
 have hlen:=(ns (eB (aO t (cY s l))) (cY s l)).1
 have ly:=jR l.length (eB (aO t (cY s l)))
 have hho:=IS (iC s l t) (by unfold iC;omega) (dv (eB (aO t (cY s l))) (cY s l)) (fun b h=>⟨(fc b h).1,(fc b h).2.1⟩) (fun b h=>by
  obtain⟨_,_,_,c,hc,dq⟩:=fc b h
  rw[dq];have:=hb c hc;omega) (by omega) t ht
 have gh:(l.map aa).length=l.length:=by simp
 have hzB:∀(g:Rows) (n:Nat) (bs:List PB),V.fz g (n+1) (Ai bs)=some (Ai bs):=fun g n bs=>by
  unfold Ai;split
  ·exact aP _ _
  ·exact bK _ _ _
 rw[ad]at xf
 rw[<-iC]at QW
 have yq:∀(g:Rows) (x:Int),dc (dD g) 6 [.int .i64 l.length,Ai (cY s l),.int .i64 x]=some [.int .i64 l.length,Ai (cY s l),.int .i64 x]:=fun g x=>by simp only[ah,aq,aF,hzB,Option.map_some]
 have hzh:∀(g:Rows) (x y:Int),dc (dD g) 6 [.int .i64 x,Ai (dv (eB (aO t (cY s l))) (cY s l)),.int .i64 y]=some [.int .i64 x,Ai (dv (eB (aO t (cY s l))) (cY s l)),.int .i64 y]:=fun g x y=>by simp only[ah,aq,aF,hzB,Option.map_some]
 generalize Ai (cY s l)=B1 at *
 generalize Ai (dv (eB (aO t (cY s l))) (cY s l))=B2 at *
 by_cases ub:(64:Int)<(iC s l t:Int)
 ·have ud:64<iC s l t:=by omega
  (repeat(first|((repeat(revert hN;revert N;apply Pn.out));refine wk (tw @ad.eq_1 (tw @ub @gh)) ?_;(repeat(refine Pn.mk ?_;intro N hN)))|((try apply Or.inl);refine⟨_,aj.x (xf) (sd (tw @ad.eq_1 (tw @ub @gh))),?_⟩;refine hN _ _ ?_;clear hN N)))
  refine⟨_,aj.x QW (yq _ _),?_⟩
  refine hN _ _ ?_
  clear hN N
  (try((repeat(revert hN;revert N;apply Pn.out));refine wk @ub ?_;(repeat(refine Pn.mk ?_;intro N hN))))
  exact iW (.inl rfl) (r1:=.bool false) (r2:=.bool false) (sd @Nat.zero_add) (sd @Nat.zero_add) (by rw[uD,if_pos ud,decide_eq_false fun h=>h ud];simp only[dt,aS,bd,eM,Option.map_some])
 ·have ud:¬64<iC s l t:=by omega
  (repeat(first|((repeat(revert hN;revert N;apply Pn.out));refine wk (tw @ad.eq_1 (tw @ub @gh)) ?_;(repeat(refine Pn.mk ?_;intro N hN)))|((try apply Or.inl);refine⟨_,aj.x (xf) (sd (tw @ad.eq_1 (tw @ub @gh))),?_⟩;refine hN _ _ ?_;clear hN N)))
  refine⟨_,aj.x QW (yq _ _),?_⟩
  refine hN _ _ ?_
  clear hN N
  (try((repeat(revert hN;revert N;apply Pn.out));refine wk @ub ?_;(repeat(refine Pn.mk ?_;intro N hN))))
  refine .inl ⟨_,aj.x hho (hzh _ _ _),?_⟩
  refine hN _ _ ?_
  clear hN N
  (try((repeat(revert hN;revert N;apply Pn.out));refine wk @Nat.zero_add ?_;(repeat(refine Pn.mk ?_;intro N hN))))
  exact iW (.inl rfl) (r1:=.bool (tG (iC s l t) (dv (eB (aO t (cY s l))) (cY s l)) t)) (r2:=.bool true) (sd @Nat.zero_add) (sd @Nat.zero_add) (by rw[uD,if_neg ud,decide_eq_true ud];simp only[dt,aS,bd,eM,Option.map_some])
theorem uf (t:Int):aj Tryz.prog 132 [.int .i64 t] (.bool (jb t 1 16)):=by
 refine aj.body eH rfl fun hl n0=>?_
 clear hl
 have h:=lp t 1 16
 (repeat(first|((repeat(revert hN;revert N;apply Pn.out));refine wk @Nat.zero_add ?_;(repeat(refine Pn.mk ?_;intro N hN)))|((try apply Or.inl);refine⟨_,aj.x (h) (sd @Nat.zero_add),?_⟩;refine hN _ _ ?_;clear hN N)))
 exact aM (b:=jb t 1 16) (.inl rfl) (sd @Nat.zero_add) rfl
theorem xl (TC:CL) (s:ax) (hn:gz s.aJ) (hg:s.aJ.aE.length<=1048576) (ht:s.aJ.ai.length<=1048576) (hs:∀t∈s.aJ.ai,t.cu.length<=1048576) (hl:s.aU.ai.length<=1048576):aj Tryz.prog 97 [.agg (ar s)] (.bool (lj s)):=by
 refine aj.body eH rfl fun j8 n0=>?_
 clear j8
 by_cases h0:(s.aU.ai.length:Int)=0
 ·have hd:decide ((s.aU.ai.length:Int)=0)=true:=decide_eq_true h0
  (try((repeat(revert hN;revert N;apply Pn.out));refine wk (tw @ar.eq_1 @hd) ?_;(repeat(refine Pn.mk ?_;intro N hN))))
  exact aM (b:=false) (.inl rfl) (sd @Nat.zero_add) (j4 fun h=>by have:=h.some;omega)
 have hd:decide ((s.aU.ai.length:Int)=0)=false:=decide_eq_false h0
 have Oi:=nD s.aJ s.aU.ai hn hg ht hs hl
 have QO:=uf s.aB
 have key:aj Tryz.prog 169 [.agg (ad s.aJ),.agg [.sl (s.aU.ai.map aa)],.int .i64 s.aB] (.gy [.bool (lj s),.int .i64 (if qO s.aJ&&kD s.aJ s.aU.ai then(if jb s.aB 1 16 then(if 64<iC s.aJ s.aU.ai s.aB then 4 else 0)else 2)else 1)]):=by
  refine aj.body eH rfl fun j8 n0=>?_
  clear j8
  rw[ad]at Oi
  cases hA:qO s.aJ&&kD s.aJ s.aU.ai
  ·rw[hA]at Oi
   have jH:lj s=false:=(j4 fun h=>by rw[mK.2 h.set,fZ.2 h.nr]at hA;cases hA).symm
   (repeat(first|((repeat(revert hN;revert N;apply Pn.out));refine wk @ad.eq_1 ?_;(repeat(refine Pn.mk ?_;intro N hN)))|((try apply Or.inl);refine⟨_,aj.x (Oi) (sd @ad.eq_1),?_⟩;refine hN _ _ ?_;clear hN N)))
   exact iW (.inl rfl) (r1:=.bool false) (r2:=.int .i64 1) (sd @Nat.zero_add) (sd @Nat.zero_add) (by rw[jH];simp only[dt,aS,bd,eM,dr,Option.map_some];rfl)
  rw[hA]at Oi
  simp only[Bool.and_eq_true]at hA
  have hS:=mK.1 hA.1
  have hP:=fZ.1 hA.2
  cases hT:jb s.aB 1 16
  ·rw[hT]at QO
   have jH:lj s=false:=(j4 fun h=>by have:=h.Hj;rw[hT]at this;cases this).symm
   (repeat(first|((repeat(revert hN;revert N;apply Pn.out));refine wk @ad.eq_1 ?_;(repeat(refine Pn.mk ?_;intro N hN)))|((try apply Or.inl);refine⟨_,aj.x (Oi) (sd @ad.eq_1),?_⟩;refine hN _ _ ?_;clear hN N)|((try apply Or.inl);refine⟨_,aj.x (QO) (sd @ad.eq_1),?_⟩;refine hN _ _ ?_;clear hN N)))
   exact iW (.inl rfl) (r1:=.bool false) (r2:=.int .i64 2) (sd @Nat.zero_add) (sd @Nat.zero_add) (by rw[jH];simp only[dt,aS,bd,eM,dr,Option.map_some];rfl)
  have LB:=ek hT
  rw[hT]at QO
  have dK:=J4 TC s.aJ s.aU.ai s.aB (by omega) (by omega) hS hP
  rw[ad]at dK
  have hsy:lj s=nJ s.aJ s.aU.ai s.aB:=by
   cases hB:nJ s.aJ s.aU.ai s.aB
   ·exact(j4 fun h=>by have:=pK.2 h.holds;rw[hB]at this;cases this).symm
   ·exact(Co ⟨hS,hP,by omega,hT,pK.1 hB⟩).symm
  by_cases ub:64<iC s.aJ s.aU.ai s.aB
  ·rw[decide_eq_false fun h=>h ub]at dK
   have jH:lj s=false:=(j4 fun h=>by have:=h.holds.1;unfold iC at ub;omega).symm
   (repeat(first|((repeat(revert hN;revert N;apply Pn.out));refine wk @ad.eq_1 ?_;(repeat(refine Pn.mk ?_;intro N hN)))|((try apply Or.inl);refine⟨_,aj.x (Oi) (sd @ad.eq_1),?_⟩;refine hN _ _ ?_;clear hN N)|((try apply Or.inl);refine⟨_,aj.x (QO) (sd @ad.eq_1),?_⟩;refine hN _ _ ?_;clear hN N)|((try apply Or.inl);refine⟨_,aj.x (dK) (sd @ad.eq_1),?_⟩;refine hN _ _ ?_;clear hN N)))
   exact iW (.inl rfl) (r1:=.bool false) (r2:=.int .i64 4) (sd @Nat.zero_add) (sd @Nat.zero_add) (by rw[jH,if_pos ub];simp only[dt,aS,bd,eM,dr,Option.map_some])
  ·rw[decide_eq_true ub,<-hsy]at dK
   (repeat(first|((repeat(revert hN;revert N;apply Pn.out));refine wk @ad.eq_1 ?_;(repeat(refine Pn.mk ?_;intro N hN)))|((try apply Or.inl);refine⟨_,aj.x (Oi) (sd @ad.eq_1),?_⟩;refine hN _ _ ?_;clear hN N)|((try apply Or.inl);refine⟨_,aj.x (QO) (sd @ad.eq_1),?_⟩;refine hN _ _ ?_;clear hN N)|((try apply Or.inl);refine⟨_,aj.x (dK) (sd @ad.eq_1),?_⟩;refine hN _ _ ?_;clear hN N)))
   exact iW (.inl rfl) (r1:=.bool (lj s)) (r2:=.int .i64 0) (sd @Nat.zero_add) (sd @Nat.zero_add) (by rw[if_neg ub];simp only[dt,aS,bd,eM,dr,Option.map_some])
 generalize hcode:(if qO s.aJ&&kD s.aJ s.aU.ai then(if jb s.aB 1 16 then(if 64<iC s.aJ s.aU.ai s.aB then(4:Int)else 0)else 2)else 1)=code at key
 rw[ad]at key
 cases hB:lj s
 ·rw[hB]at key
  (repeat(first|((repeat(revert hN;revert N;apply Pn.out));refine wk (tw @ar.eq_1 @hd) ?_;(repeat(refine Pn.mk ?_;intro N hN)))|((try apply Or.inl);refine⟨_,aj.x (key) (sd (tw @ar.eq_1 @hd)),?_⟩;refine hN _ _ ?_;clear hN N)))
  exact aM (b:=false) (.inl rfl) (sd @Nat.zero_add) rfl
 ·rw[hB]at key
  have hP:=kg.1 hB
  have hc:code=0:=by
   rw[<-hcode,mK.2 hP.set,fZ.2 hP.nr,hP.Hj]
   have:=hP.holds.1
   simp only[Bool.and_self,if_true]
   rw[if_neg (by unfold iC;omega)]
  rw[hc]at key
  (repeat(first|((repeat(revert hN;revert N;apply Pn.out));refine wk (tw @ar.eq_1 @hd) ?_;(repeat(refine Pn.mk ?_;intro N hN)))|((try apply Or.inl);refine⟨_,aj.x (key) (sd (tw @ar.eq_1 @hd)),?_⟩;refine hN _ _ ?_;clear hN N)))
  exact aM (b:=true) (.inl rfl) (sd @Nat.zero_add) rfl
end Go.Proofs.YtgoljkjaameagaaGreat.V

namespace Go.Proofs.YtgoljkjaameagaaGreat.V
open Go.RowKit
variable {P:Program} {hs:Nat}
theorem Hs {q n i:Nat} {ops:Array Oper} {Q:Exit->Act->World->Prop} {K K':Act->World->Prop} {a:Act} {w:World} (pr:∀(j:Nat) (o:Oper),ops[j]? =some o->∀c,o.op≠.defer c) (jH:¬LetsOut Q) (hK:∀a w,K a w->K' a w) (h:wpOp P ops Q i K a w):wpOpIn (Fence.wide.inRound q) n P ops Q i K' a w:=by
 unfold wpOp at h
 unfold wpOpIn
 split at h
 ·rename_i ho;simp only[ho];exact hK _ _ h
 ·rename_i o ho
  simp only[ho]
  split at h
  ·rename_i hw
   rw[if_pos hw]
   replace h:=h.resolve_right fun hc=>jH hc.2
   refine⟨fun _ _=>trivial,?_⟩
   rw[Oper.semAt_eq _ _ _ (pr i o ho)]
   unfold Oper.wp at h
   generalize (execOp a.eval o).run P w=r at *
   cases r with
   |ok m w'=>
    cases m<;>simp only[Oper.upon,Oper.uponIn]at h ⊢
    case value=>exact hK _ _ h
    case skip=>exact hK _ _ h
    case defer=>exact hK _ _ h
    case enter f args=>
     refine⟨fun h=>by simp[Fence.wide]at h,CallsIn.inRound q (callsIn_wide.2 (h.mono fun e KV he=>?_))⟩
     cases e with
     |returned v=>exact hK _ _ he
     |panicked c=>exact he
     |outgrown=>exact he
    case row r args=>exact⟨fun h=>by simp[Fence.wide]at h,fun c cs _=>let ⟨v,KV,h1,s⟩:=h c cs;⟨v,KV,hK _ _ h1,stepsIn_wide.2 s⟩⟩
   |halt x w'=>cases x<;>simp only[Oper.upon,Oper.uponIn]at h ⊢;exact h
  ·rename_i hw
   rw[if_neg hw]
   exact⟨fun _ _=>trivial,hK _ _ h⟩
theorem xc {q n:Nat} {md:Region.Mode} {ops:Array Oper} {Q:Exit->Act->World->Prop} (pr:∀(j:Nat) (o:Oper),ops[j]? =some o->∀c,o.op≠.defer c) (jH:¬LetsOut Q):∀(fuel:Nat) (listed:Array Bool) (a:Act) (w:World),wpAny P md ops Q fuel listed a w->wpAnyIn (Fence.wide.inRound q) n P md ops Q fuel listed a w
 |0,_,_,_,h=>h
 |fuel+1,listed,_,_,h=>⟨h.1,fun i hi=>Hs pr jH (fun a w=>xc pr jH fuel _ a w) (h.2 i hi)⟩
def Fp:Op->Bool
 | .defer _=>true
 |_=>false
theorem Jz {ops:Array Oper} (h:(ops.all fun o=> !Fp o.op)=true):∀(j:Nat) (o:Oper),ops[j]? =some o->∀c,o.op≠.defer c:=fun j o hj c hc=>by
 have:=Array.all_eq_true_iff_forall_mem.1 h o (Array.mem_of_getElem? hj)
 rw[hc]at this
 simp[Fp]at this
theorem z8 (hm:P.follows .mixedOrders=true) {nt site0 id q n:Nat} {ops:Array Oper} {vl:List bh} (h:rj P nt site0 ops true false=some vl) (pr:∀(j:Nat) (o:Oper),ops[j]? =some o->∀c,o.op≠.defer c)
  {K:Env->aw->Prop} {env:Env} {σ:aw} {a:Act} {w:World} {D:Nat->Prop} {ι:Names} {Q:Exit->Act->World->Prop} (hv:wpOps (Sound P) true vl K env σ) (dK:St P hs nt D ι env σ a w)
  (hK:∀iO σ' a' w' D' ι',K iO σ'->Step hs D ι w D' ι' w'->St P hs nt D' ι' iO σ' a' w'->a'.defers=a.defers->Q .normal a' w'):(Code.region id ops true).wpIn (Fence.wide.inRound q) n P Q a w:=by
 have dG:∃hidden tg,allM (kP P ops nt site0 true false (jE ops) hidden) ops.toList 0=some tg/\vl=tg/\ox ops tg (jE ops)=true:=by
  unfold rj at h
  simp only[if_true,Bool.not_true,Bool.false_or]at h
  split at h
  ·rename_i tg h'
   split at h
   ·rename_i vU;simp at h;exact⟨_,tg,h',h.symm,vU⟩
   ·cases h
  ·cases h
 obtain⟨hidden,tg,dG,rfl,vU⟩:=dG
 obtain⟨rJ,T0⟩:=dK.drew
 obtain⟨hlen,_⟩:=om dG
 have kT:vl.length=ops.size:=by rw[hlen];simp
 have Dp:=w7 (X:=Sound P) (K:=K) (n:=σ.next) vU kT vl 0 (Array.replicate ops.size false) env σ.get (by simp) (by simp) (fun i hi=>by simp[hi]) (by simp[kT]) (fun k i h=>by
  exfalso
  rcases Nat.lt_or_ge k ops.size with hk|hk
  ·simp[hk]at h
  ·simp[Nat.not_lt.2 hk]at h) hv
 rw[kT]at Dp
 have hw:=xQ (Q:=fun e a w=>e=.normal/\Q .normal a w) dG ops.size _ env σ.get a w.drew D ι (fun _=>False) Dp rJ.s9 rJ.used (fun _ h=>h.elim) rJ.env rJ.size fun ji g1 a1 w1 D1 ι1 U1 hk T S1 Tn E1 yp hd=>⟨rfl,hK ji ⟨g1,σ.next+1⟩ a1 w1 D1 ι1 hk (T0.trans T) ⟨S1,Tn.next,E1,yp⟩ hd⟩
 have fc:=xc (q:=q) (n:=n) (Q:=fun e a w=>e=.normal/\Q .normal a w) pr (by rintro⟨_,_,hc,_⟩;cases hc) ops.size _ a w.drew hw
 refine wpIn_mono (wpIn_region_any (id:=id) hm fc) ?_
 rintro e a w ⟨rfl,h⟩
 exact h
end Go.Proofs.YtgoljkjaameagaaGreat.V

namespace Go.Proofs.YtgoljkjaameagaaGreat.V
open Go.RowKit Go.Shelf
attribute [local go_sem] Oper.semAt_some
def iy (n₀:Nat) (W W':World):Prop:=W.heap.size<=W'.heap.size/\(∀(b:Nat) (cells:Array Value) (T:TypeId) (fr:Nat×Nat),W.heap[b]? =some (Obj.cells cells T fr)->T≠179->T≠254->W'.heap[b]? =W.heap[b]?)/\∀k,k<n₀->k<W.heap.size->W'.heap[k]? =W.heap[k]?
theorem iy.trans {n₀:Nat} {A B C:World} (h:iy n₀ A B) (k:iy n₀ B C):iy n₀ A C:=⟨Nat.le_trans h.1 k.1,fun b cells T fr hb h1 h2=>by
 have e:=h.2.1 b cells T fr hb h1 h2
 rw[<-e]at hb ⊢
 exact k.2.1 b cells T fr hb h1 h2,fun b hb hs=>(k.2.2 b hb (Nat.lt_of_lt_of_le hs h.1)).trans (h.2.2 b hb hs)⟩
theorem iy.of {n₀:Nat} {W W':World} (h:Below W.heap.size W W'):iy n₀ W W':=⟨h.size,fun b cells T fr hb _ _=>h.block b (Array.getElem?_eq_some_iff.1 hb).1,fun k _ hs=>h.block k hs⟩
theorem iy.refl (n₀:Nat) (W:World):iy n₀ W W:=⟨Nat.le_refl _,fun _ _ _ _ _ _ _=>rfl,fun _ _ _=>rfl⟩
theorem iy.b {n₀ m:Nat} (hm:n₀<=m) (W:World) (l:Nat) (o o':Obj) (hl:m<=l) (h:W.heap[l]? =some o) (hc:o.isCells=false) (_:o.isWalk=false):iy n₀ W (W.putObj l o'):=by
 refine⟨by simp,fun b cells T fr hb _ _=>?_,fun k hk _=>World.putObj_heap_other (by omega)⟩
 by_cases nX:b=l
 ·subst nX;rw[h]at hb;cases hb;cases hc
 ·exact World.putObj_heap_other nX
def K2 (bs:List PB):List Value:=bs.flatMap fun b=>[.int .i64 b.a,.int .i64 b.b,.int .i64 b.s]
theorem H5 (bs:List PB) (b:PB):K2 (bs++[b])=K2 bs++[.int .i64 b.a,.int .i64 b.b,.int .i64 b.s]:=by simp[K2]
def nN (s:ay) (l:List ab) (pre:List (Nw l)):List PB:=(pre.map (·.1)).flatMap (zi s l)
theorem xT (s:ay) (l:List ab) (pre:List (Nw l)) (x:Nw l):nN s l (pre++[x])=nN s l pre++zi s l x.1:=by simp[nN]
theorem H4 (s:ay) (l:List ab) (x:Nat×Nat×Int):(zi s l x).length<=1:=by
 unfold zi;split<;>simp
theorem H6 (s:ay) (l:List ab) (pre:List (Nw l)):(nN s l pre).length<=pre.length:=by
 unfold nN
 induction pre with
 |nil=>simp
 |cons x r ih=>
  have:=H4 s l x.1
  simp only[List.map_cons,List.flatMap_cons,List.length_append,List.length_cons]at ih ⊢
  omega
theorem yK (l:List ab) (i:Nat):∀m,(kZ l i m).length<=m
 |0=>by simp[kZ]
 |m+1=>by
  rw[np,List.length_append]
  have:=yK l i m
  have:(B5 l i (1-(m:Int))).length<=1:=by unfold B5;split<;>simp
  omega
theorem B6 (l:List ab):∀n,(lE l n).length<=n*2
 |0=>by simp[lE]
 |n+1=>by
  rw[mH,List.length_append]
  have:=B6 l n
  have:=yK l n 2
  omega
theorem Bw {β:Type} (B:Nat) (c:Array Value) (t:TypeId) (fr:Nat×Nat):Own (fun(_:β) W=>W.heap[B]? =some (.cells c t fr)):=fun _ X _ row h hg hr=>(hg.block B (Array.getElem?_eq_some_iff.1 h).1 (fun e=>by
 obtain⟨o,ho,hc⟩:=hr B e.symm
 rw[h]at ho;cases ho;cases hc)).trans h
theorem iy.app {n₀:Nat} {W w1:World} {B k:Nat} {v v':Value} {xs:List Value} {tmp:Obj} (hv:Boxed W B 179 v) (gh:W.ownsRow n₀ 254 3 v k xs) (Fa:(W.alloc tmp).grownBy w1 v.ownBlock) (hb:Below n₀ W (w1.setCell ⟨B,0,none⟩ v')):iy n₀ W (w1.setCell ⟨B,0,none⟩ v'):=by
 refine⟨hb.size,fun b cells T fr h h1 h2=>?_,fun k hk _=>hb.block k hk⟩
 have dJ:=(Array.getElem?_eq_some_iff.1 h).1
 have hbB:b≠B:=by
  rintro rfl
  rw[show W.heap[b]? = _ from hv]at h
  cases h
  exact h1 rfl
 have SB:some b≠v.ownBlock:=by
  rcases gh.2 with⟨rfl,_⟩|⟨g,cap,cur,rfl,_,hg,_⟩
  ·simp[Value.ownBlock]
  ·intro e
   obtain rfl:b=g:=by simpa[Value.ownBlock]using e
   rw[hg]at h;cases h
   exact h2 rfl
 refine(Below.heap_setCell w1 ⟨B,0,none⟩ v' b hbB).trans ?_
 exact(Fa.block b (by simp;omega) SB).trans (Below.heap_alloc W tmp b dJ)
theorem RE {w:World} {vS:Value} {l:List ab} (hP:pQ w vS l):HL (iy w.heap.size) vS l where
 refl:=iy.refl _
 trans:=iy.trans
 of:=iy.of
 size h:=h.1
 typed h:=h.2.1
 pl {W W'} h hp:=by
  obtain⟨A,c,rfl,hm,hc⟩:=hp.sl
  refine⟨A,c,rfl,hm,?_⟩
  by_cases hl:l=[]
  ·exact .inl hl
  have kn:0<l.length:=List.length_pos_iff.2 hl
  rcases hc with h0|⟨b,o,rfl,kp⟩
  ·exact absurd h0 hl
  obtain⟨A',c',e,_,kS⟩:=hP.sl
  cases e
  rcases kS with h0|⟨b',o',e,hcell'⟩
  ·exact absurd h0 hl
  cases e
  have hb:=um (hcell' 0 kn).1
  have hk:=h.2.2 b hb (um (kp 0 kn).1)
  refine .inr ⟨b,o,rfl,fun i hi=>?_⟩
  have Bv:∀x,W'.cell? ⟨b,x,none⟩=W.cell? ⟨b,x,none⟩:=fun x=>World.cell?_of_block hk
  rw[Bv,Bv,Bv]
  exact kp i hi
theorem rrE {P:Program} {nt site0:Nat} {ops:Array Oper} {vl:List bh} (_:zk P ops site0 false (jE ops) (rP P false ops.toList 0) ops.toList 0=some vl:=by(conv=>lhs;cbv)<;>exact rfl) (h:rj P nt site0 ops true false=some vl:=by kernel_rfl):rj P nt site0 ops true false=some vl:=h
theorem Jp (l:List Value) (d:Value):l=(List.range l.length).map fun i=>(⟨l⟩:Array Value).getD i d:=by
 refine List.ext_getElem (by simp) fun i h1 h2=>?_
 simp[h1]
theorem D5 {X:fN} {d:Bool} {ops:List bh} {K:Env->aw->Prop} {env:Env} {σ:aw} (h:dE X (.eD d ops) (fun _=>K) env σ):wpOps X d ops K env σ:=h
theorem vk (W:World) (T:TypeId) (x y z:Value):∀(j:Nat) (u:Value),[x,y,z][j]? =some u->(W.alloc (.cells #[x,y,z] T)).cell? ((⟨W.heap.size,0,none⟩:Addr).add j)=some u:=fun j u h=>by
 have hb:(W.alloc (.cells #[x,y,z] T)).heap[W.heap.size]? =some (.cells #[x,y,z] T (0,0)):=World.alloc_heap_new _ _
 have e:∀k,(W.alloc (.cells #[x,y,z] T)).cell? ⟨W.heap.size,k,none⟩=(#[x,y,z]:Array Value)[k]? :=fun k=>by
  unfold World.cell?
  rw[show(W.alloc (.cells #[x,y,z] T)).heap[(⟨W.heap.size,k,none⟩:Addr).block]? = _ from hb]
  rfl
 rw[show(⟨W.heap.size,0,none⟩:Addr).add j=⟨W.heap.size,j,none⟩ by simp[Addr.add];exact fun h=>h.symm,e]
 simpa using h
def Ic (n b:Nat):Names:=fun id=>if id=⟨1,0⟩then some ⟨n,2,2,none⟩else if id=⟨2,0⟩then some ⟨n+1,1,1,none⟩else if id=⟨3,0⟩then some ⟨n+1+1,1,1,none⟩else if id=⟨4,0⟩then some ⟨b,2,2,none⟩else if id=⟨5,0⟩then some ⟨n+1+1+1,1,1,none⟩else none
def MI (s:ay) (l:List ab) (i k:Nat):Rows:=fun id=>if id=⟨1,0⟩then some ⟨false,2,[ad s]⟩else if id=⟨2,0⟩then some ⟨false,1,[[.sl (l.map aa)]]⟩else if id=⟨4,0⟩then some ⟨false,2,[[.int .i64 (i:Int),.int .i64 (k:Int)]]⟩else none
def NI (s:ay) (l:List ab) (i k:Nat) (d:Int):Env:=bZ [.agg (ad s),.agg [.sl (l.map aa)],.ptr ⟨1,0⟩ 0 0,.ptr ⟨2,0⟩ 0 0,.cm,.ptr ⟨3,0⟩ 0 0,.ptr ⟨4,0⟩ 0 0,.int .i64 d,.undef,.agg [.sl (l.map aa)],.fn 302 [.ptr ⟨5,0⟩ 0 0],.agg [.int .i64 (i:Int),.int .i64 (k:Int)],.int .i64 d]
theorem Eh {P:Program} {W:World} {D:Nat->Prop} {ι:Names} {B:si} {cells:Array Value} {T:TypeId} {cs:List AV} (hk:B.k=none) (hb:W.heap[B.b]? =some (.cells cells T (0,0))) (hC:cells.size=B.C) (hz:B.sz=cs.length) (hl:cs.length=cells.size) (hf:∀a∈cs,a.cell=true) (hr:∀(j:Nat) (a:AV),cs[j]? =some a->∃v,cells[j]? =some v/\cW P W D ι a v):gO P W D ι B ⟨false,cs.length,[cs]⟩:=
 lI.obj ⟨hz,⟨cells,T,hb,hC⟩,by simp;omega,fun c hc=>by simp at hc;rw[hc],fun c hc=>by simp at hc;rw[hc];exact hf,fun i j c a hi hj=>by
  match i,hi with
  |0,hi=>
   simp at hi;subst hi
   obtain⟨v,h1,h2⟩:=hr j a hj
   exact⟨v,by simp[World.cell?,hb,h1],h2⟩
  |i+1,hi=>simp at hi⟩ hk
theorem Jd:(Tryz.prog.info? 254).map (fun i=>(i.zero,i.size,i.bytes))=some (some (.agg #[.int .i64 0,.int .i64 0,.int .i64 0]),3,24):=by kernel_rfl
end Go.Proofs.YtgoljkjaameagaaGreat.V

namespace Go.Proofs.YtgoljkjaameagaaGreat.V
open Go.RowKit Go.Shelf
attribute [local go_sem] Oper.semAt_some
attribute [local irreducible] dE wpOps fS Call
attribute [local go_sem] aH fq eG fH fG cX upd bZ K.av cD AV.cells AV.cell rowOf rowsOf part ld rowAt br bP dn dR gK bx cQ eb fD eS di dW cN cL dH dI bD aW cF bB cH cG dU dX dV cE bG cP dS bz aI cJ cq gJ bj cz bE aT de aX dp AV.undef bq bt dL dQ dB dz cw ea ee cj dZ dY cI cK List.getD_cons_zero List.getD_cons_succ List.getD_nil List.all_cons List.all_nil Bool.and_true Bool.true_and Bool.and_self Bool.not_true Bool.not_false Option.map_some Option.map_none Option.bind_some Option.bind_none List.length_cons List.length_nil List.take_succ_cons List.take_zero List.take_nil List.drop_succ_cons List.drop_zero List.drop_nil List.head?_cons List.map_cons List.map_nil List.getElem?_cons_zero List.getElem?_cons_succ List.cons_append List.nil_append List.append_nil List.length_map List.set_cons_zero List.set_cons_succ Nat.reduceMul eq_self Int.toNat_natCast Int.natCast_nonneg and_self true_and and_true decide_true decide_false Bool.false_eq_true Nat.zero_add Nat.add_zero List.contains_cons List.contains_nil Bool.or_false Bool.false_or beq_self_eq_true Nat.reduceBEq ne_eq not_true_eq_false not_false_eq_true Id.mk.injEq false_and and_false Nat.reduceLT Int.reduceLE Int.reduceLT Int.reduceToNat Int.reduceNeg Int.reduceAdd Nat.le_refl List.length_append beq_true beq_false Bool.not_eq_eq_eq_not or_false false_or dD ah aq aF aY bp bK aP bc aN aV cC bF
theorem Ia (s:ay) (l:List ab) (hF:kK s) (hA:gL s l) (w:World) (Ag At:Option Addr) (ng cg nt ct:Nat) (vS:Value) (hT:jD Tryz.prog w (fun b=>b<w.heap.size) (.agg (ad s)) (.agg #[.slice Ag ng cg,.slice At nt ct])) (hP:pQ w vS l):
  CallsIn Fence.wide 5 Tryz.prog 205 #[.agg #[.slice Ag ng cg,.slice At nt ct],.agg #[vS]] w fun e W'=>∃v,e=.returned v/\W'.ownsRow w.heap.size 254 3 v (cY s l).length (K2 (cY s l))/\(v=.slice none 0 0↔cY s l=[])/\Below w.heap.size w W':=by
 obtain⟨A,cp,rfl,_,_⟩:=hP.sl
 obtain⟨i0,hi,Nb,yp,lR⟩:=info_parts Jd
 refine callsIn_of_wp_marks Tryz.func205 rfl trivial ?_ rfl
 simp only[Tryz.ntmps205,List.size_toArray,List.length_cons,List.length_nil,Nat.reduceAdd,Nat.reduceSub,Array.replicate_succ,Array.replicate_zero,List.push_toArray,List.append_toArray,List.nil_append,List.cons_append]
 gi_wp2_with (refine⟨trivial,?_⟩;gi_at_call 260;refine(zW _ _ _).mono ?_;rintro e w' ⟨rfl,rfl⟩)
 have bT:((w.alloc (.cells #[.slice Ag ng cg,.slice At nt ct] 39)).heap[w.heap.size]?)=some (.cells #[.slice Ag ng cg,.slice At nt ct] 39 (0,0)):=World.alloc_heap_new _ _
 obtain⟨w1,mW⟩:∃w1,w.alloc (.cells #[.slice Ag ng cg,.slice At nt ct] 39)=w1:=⟨_,rfl⟩
 have Qh:w1.heap.size=w.heap.size+1:=by rw[<-mW];simp
 have AH:Below w.heap.size w w1:=by rw[<-mW];exact(Below.refl _ w).alloc (Nat.le_refl _) _
 rw[mW]at bT ⊢
 clear mW
 have bA:=Boxed.new w1 42 (.slice A l.length cp)
 have bO:=Boxed.new (w1.alloc (.cells #[.slice A l.length cp] 42)) 179 (.slice none 0 0)
 have bN:=Boxed.new ((w1.alloc (.cells #[.slice A l.length cp] 42)).alloc (.cells #[.slice none 0 0] 179)) 42 (.slice A l.length cp)
 replace bA:=(bA.alloc (.cells #[.slice none 0 0] 179)).alloc (.cells #[.slice A l.length cp] 42)
 replace bO:=bO.alloc (.cells #[.slice A l.length cp] 42)
 simp only[World.size_alloc,Qh]at bA bO bN
 have pU:Below w1.heap.size w1 (((w1.alloc (.cells #[.slice A l.length cp] 42)).alloc (.cells #[.slice none 0 0] 179)).alloc (.cells #[.slice A l.length cp] 42)):=(((Below.refl _ w1).alloc (Nat.le_refl _) _).alloc (by simp) _).alloc (by simp;omega) _
 have ft:(((w1.alloc (.cells #[.slice A l.length cp] 42)).alloc (.cells #[.slice none 0 0] 179)).alloc (.cells #[.slice A l.length cp] 42)).heap.size=w.heap.size+4:=by simp;omega
 obtain⟨W0,hW0⟩:∃W0,((w1.alloc (.cells #[.slice A l.length cp] 42)).alloc (.cells #[.slice none 0 0] 179)).alloc (.cells #[.slice A l.length cp] 42)=W0:=⟨_,rfl⟩
 rw[hW0]at bA bO bN pU ft ⊢
 clear hW0
 have Bt:Below w.heap.size w W0:=AH.trans (pU.mono (by omega))
 replace bT:=(pU.block w.heap.size (by omega)).trans bT
 have TN:pQ W0 (.slice A l.length cp) l:=hP.below Bt
 have kl:=RE hP
 have nX:=qh (s:=s) hA.1
 refine wpIn_rangeFunc_ownH (n:=5) rfl (by omega) (gf:=302) (lb:= #[.pointer (some ⟨w.heap.size+1+1+1,0,none⟩)]) rfl trivial (enters_of Tryz.func302 (by kernel_rfl) rfl)
  (Jv l hA.1 (w.heap.size+1+1+1) (5-1) (by omega) (.slice A l.length cp) (iy w.heap.size) kl W0 bN TN) iy.trans (iy.b (by omega)) (Below.refl _ _) (fun _=>rfl)
  (fun pre W=>((∃v,Boxed W (w.heap.size+1+1) 179 v/\W.ownsRow w.heap.size 254 3 v (nN s l pre).length (K2 (nN s l pre))/\(v=.slice none 0 0↔nN s l pre=[]))/\(Boxed W (w.heap.size+1) 42 (.slice A l.length cp)/\W.heap[w.heap.size]? =some (.cells #[.slice Ag ng cg,.slice At nt ct] 39 (0,0))))/\Below w.heap.size w W)
  (fun _ _ _=>False)
  (OwnFrom.and (OwnFrom.and (Own.from (holdsRow_own w.heap.size (w.heap.size+1+1) 179 254 3 (fun pre=>(nN s l pre).length) (fun pre=>K2 (nN s l pre)) (fun pre v=>v=.slice none 0 0↔nN s l pre=[])) _) (OwnFrom.and (Own.from (boxed_own _ _ _) _) (Own.from (Bw _ _ _ _) _))) (ownFrom_below (Nat.le_refl _) (by omega)))
  (fun _ _ _ _ _ hs _ _=>hs)
  ⟨⟨⟨_,bO,World.ownsRow_nil _ _ _ _,by simp[nN]⟩,bA,bT⟩,Bt⟩
  (fun x a' W=>∃Bx,w.heap.size+1+1<Bx/\W.heap[Bx]? =some (.cells #[.int .i64 (x.1.1:Int),.int .i64 (x.1.2.1:Int)] 322 (0,0))/\a'={tmps:= #[.agg #[.slice Ag ng cg,.slice At nt ct],.agg #[.slice A l.length cp],.pointer (some ⟨w.heap.size,0,none⟩),.pointer (some ⟨w.heap.size+1,0,none⟩),.slice none 0 0,.pointer (some ⟨w.heap.size+1+1,0,none⟩),.pointer (some ⟨Bx,0,none⟩),.int .i64 x.1.2.2,undef,.agg #[.slice A l.length cp],.func (.func 302) #[] #[.pointer (some ⟨w.heap.size+1+1+1,0,none⟩)],.agg #[.int .i64 (x.1.1:Int),.int .i64 (x.1.2.1:Int)],.int .i64 x.1.2.2,undef,undef,undef,undef,undef,undef,undef,undef,undef,undef,undef,undef,undef,undef,undef,undef,undef,undef,undef,undef,undef,undef,undef,undef,undef,undef,undef,undef,undef],defers:=[]})
  (fun x a' _ X Y row hs hg hr=>by obtain⟨Bx,h1,h2,h3⟩:=hs;exact⟨Bx,h1,Bw Bx _ _ _ () X Y row h2 hg (fun r e=>(hr r e).2),h3⟩)
  ?assign ?body ?done ?stop
 case assign=>
  rintro q pre ⟨⟨x0,x1,x2⟩,hx⟩ W K ⟨⟨⟨v,hv,gh,hnil⟩,bA1,bT1⟩,hB⟩ hK
  simp only[EU]
  gi_wp2
  exact hK _ _ ((KeepsOthers.alloc _ _).from _) (iy.of ((Below.refl _ W).alloc (Nat.le_refl _) _)) ⟨⟨⟨v,hv.alloc _,gh.alloc _,hnil⟩,bA1.alloc _,(Below.heap_alloc _ _ _ (Array.getElem?_eq_some_iff.1 bT1).1).trans bT1⟩,hB.alloc hB.size _⟩ ⟨W.heap.size,hv.lt,World.alloc_heap_new _ _,rfl⟩
 case body=>
  rintro q pre ⟨⟨x0,x1,x2⟩,hx⟩ a' W hq hqr ⟨⟨⟨v,hv,gh,hnil⟩,bA1,bT1⟩,hB⟩ ⟨Bx,hBx,bX,rfl⟩ dJ
  obtain⟨CJ,M9,yn⟩:=hx
  simp only at CJ M9 yn bX
  obtain⟨A',c',e',_,hc⟩:=(hP.below hB).sl
  cases e'
  have dq:∃b o,A=some ⟨b,o,none⟩/\W.cell? ⟨b,o+x0*3+2,none⟩=some (.int .i64 (aD l x0).aQ)/\W.cell? ⟨b,o+x1*3+2,none⟩=some (.int .i64 (aD l x1).aQ):=by
   rcases hc with rfl|⟨b,o,rfl,kp⟩
   ·simp at CJ
   ·exact⟨b,o,rfl,by rw[Nat.add_assoc];exact(kp x0 CJ).2.2,by rw[Nat.add_assoc];exact(kp x1 M9).2.2⟩
  obtain⟨b,o,rfl,cP0,cP1⟩:=dq
  have cT0:W.cell? ⟨w.heap.size,0,none⟩=some (.slice Ag ng cg):=by simp[World.cell?,bT1]
  have cT1:W.cell? ⟨w.heap.size,1,none⟩=some (.slice At nt ct):=by simp[World.cell?,bT1]
  have cX0:W.cell? ⟨Bx,0,none⟩=some (.int .i64 (x0:Int)):=by simp[World.cell?,bX]
  have cX1:W.cell? ⟨Bx,1,none⟩=some (.int .i64 (x1:Int)):=by simp[World.cell?,bX]
  have cA:=bA1.cell
  have dP0:W.drew.cell? ⟨b,o+x0*3+2,none⟩=some (.int .i64 (aD l x0).aQ):=cP0
  have dP1:W.drew.cell? ⟨b,o+x1*3+2,none⟩=some (.int .i64 (aD l x1).aQ):=cP1
  have dT0:W.drew.cell? ⟨w.heap.size,0,none⟩=some (.slice Ag ng cg):=cT0
  have dT1:W.drew.cell? ⟨w.heap.size,1,none⟩=some (.slice At nt ct):=cT1
  have dX0:W.drew.cell? ⟨Bx,0,none⟩=some (.int .i64 (x0:Int)):=cX0
  have dX1:W.drew.cell? ⟨Bx,1,none⟩=some (.int .i64 (x1:Int)):=cX1
  have dA:W.drew.cell? ⟨w.heap.size+1,0,none⟩=some (.slice (some ⟨b,o,none⟩) l.length cp):=cA
  have sO:∀i,i<l.length->aD l i∈l:=fun i hi=>by
   unfold aD
   rw[List.getD_eq_getElem?_getD,List.getElem?_eq_getElem hi]
   exact List.getElem_mem hi
  have Ut:=mixed
  have hfw:=hA.1.lL
  have SC:=H9 s hF (aD l x0).aQ x2 (aD l x1).aQ (hA.2 _ (sO x0 CJ)) (hA.2 _ (sO x1 M9)) (kU (by omega))
  have hTW:jD Tryz.prog W (fun b=>b<w.heap.size) (.agg (ad s)) (.agg #[.slice Ag ng cg,.slice At nt ct]):=hT.frame (fun b hb=>hB.block b hb) (fun _ h=>h)
  have hAW:jD Tryz.prog W (fun b=>b<w.heap.size) (.sl (l.map aa)) (.slice (some ⟨b,o,none⟩) l.length cp):=hP.eQ.frame (fun b hb=>hB.block b hb) (fun _ h=>h)
  obtain⟨fT,hT0,hT1⟩:∃f:Nat->Value,(∀j,j<(ad s).length->(#[Value.slice Ag ng cg,.slice At nt ct])[j]? =some (f j))/\∀j a,(ad s)[j]? =some a->jD Tryz.prog W (fun b=>b<w.heap.size) a (f j):=by
   cases hTW with
   |agg _ _ f _ _ h3 h4=>exact⟨f,h3,h4⟩
  have dK:St Tryz.prog W.heap.size 42 (fun b=>b<w.heap.size) (Ic w.heap.size Bx) (NI s l x0 x1 x2) ⟨MI s l x0 x1,1⟩ {tmps:= #[.agg #[.slice Ag ng cg,.slice At nt ct],.agg #[.slice (some ⟨b,o,none⟩) l.length cp],.pointer (some ⟨w.heap.size,0,none⟩),.pointer (some ⟨w.heap.size+1,0,none⟩),.slice none 0 0,.pointer (some ⟨w.heap.size+1+1,0,none⟩),.pointer (some ⟨Bx,0,none⟩),.int .i64 x2,undef,.agg #[.slice (some ⟨b,o,none⟩) l.length cp],.func (.func 302) #[] #[.pointer (some ⟨w.heap.size+1+1+1,0,none⟩)],.agg #[.int .i64 (x0:Int),.int .i64 (x1:Int)],.int .i64 x2,undef,undef,undef,undef,undef,undef,undef,undef,undef,undef,undef,undef,undef,undef,undef,undef,undef,undef,undef,undef,undef,undef,undef,undef,undef,undef,undef,undef,undef],defers:=[]} W:=by
   have n1:(Ic w.heap.size Bx) ⟨1,0⟩=some ⟨w.heap.size,2,2,none⟩:=rfl
   have n2:(Ic w.heap.size Bx) ⟨2,0⟩=some ⟨w.heap.size+1,1,1,none⟩:=rfl
   have n3:(Ic w.heap.size Bx) ⟨3,0⟩=some ⟨w.heap.size+1+1,1,1,none⟩:=rfl
   have n4:(Ic w.heap.size Bx) ⟨4,0⟩=some ⟨Bx,2,2,none⟩:=rfl
   have n5:(Ic w.heap.size Bx) ⟨5,0⟩=some ⟨w.heap.size+1+1+1,1,1,none⟩:=rfl
   have rp:∀(id:Id) (B:si),(Ic w.heap.size Bx) id=some B->B.k=none->cW Tryz.prog W (fun b=>b<w.heap.size) (Ic w.heap.size Bx) (.ptr id 0 0) (.pointer (some ⟨B.b,0,none⟩)):=fun id B h hk=>by
    have:=cW.ptr (P:=Tryz.prog) (w:=W) (D:=fun b=>b<w.heap.size) id 0 0 B h hk
    simpa using this
   have ri:∀n:Int,cW Tryz.prog W (fun b=>b<w.heap.size) (Ic w.heap.size Bx) (.int .i64 n) (.int .i64 n):=fun n=>.eQ _ _ (.int _ _)
   have hA1:jD Tryz.prog W (fun b=>b<w.heap.size) (.agg [.sl (l.map aa)]) (.agg #[.slice (some ⟨b,o,none⟩) l.length cp]):=.agg _ _ (fun _=>.slice (some ⟨b,o,none⟩) l.length cp) rfl (fun a ha=>by simp at ha;rw[ha];rfl) (fun j hj=>by match j,hj with|0,_=>rfl|j+1,hj=>simp at hj) (fun j a ha=>by match j,ha with|0,ha=>simp at ha;subst ha;exact hAW|j+1,ha=>simp at ha)
   refine⟨⟨Nat.le_refl _,fun b hb=>Nat.lt_of_lt_of_le hb hB.size,fun id r hg=>?_,fun id j0 r r' B B' h _ hw=>?_⟩,fun id hid=>?_,fun t=>?_,rfl⟩
   ·replace hg:MI s l x0 x1 id=some r:=hg
    unfold MI at hg
    split at hg
    ·rename_i e;subst e;injection hg with hg;subst hg
     exact⟨_,n1,Eh (cs:=ad s) rfl bT1 rfl rfl rfl (fun a ha=>by simp[ad]at ha;rcases ha with rfl|rfl<;>rfl) (fun j a ha=>⟨_,hT0 j (List.getElem?_eq_some_iff.1 ha).1,.eQ _ _ (hT1 j a ha)⟩),fun h=>(by cases h),fun h=>(by cases h)⟩
    ·split at hg
     ·rename_i e;subst e;injection hg with hg;subst hg
      exact⟨_,n2,Eh (cs:=[.sl (l.map aa)]) rfl bA1 rfl rfl rfl (fun a ha=>by simp at ha;rw[ha];rfl) (fun j a ha=>by match j,ha with|0,ha=>simp at ha;subst ha;exact⟨_,rfl,.eQ _ _ hAW⟩|j+1,ha=>simp at ha),fun h=>(by cases h),fun h=>(by cases h)⟩
     ·split at hg
      ·rename_i e;subst e;injection hg with hg;subst hg
       exact⟨_,n4,Eh (cs:=[.int .i64 (x0:Int),.int .i64 (x1:Int)]) rfl bX rfl rfl rfl (fun a ha=>by simp at ha;rcases ha with rfl|rfl<;>rfl) (fun j a ha=>by match j,ha with|0,ha=>simp at ha;subst ha;exact⟨_,rfl,ri _⟩|1,ha=>simp at ha;subst ha;exact⟨_,rfl,ri _⟩|j+2,ha=>simp at ha),fun h=>(by cases h),fun h=>(by cases h)⟩
      ·cases hg
   ·exfalso
    replace h:MI s l x0 x1 id=some r:=h
    unfold MI at h
    split at h
    ·injection h with h;subst h;cases hw
    ·split at h
     ·injection h with h;subst h;cases hw
     ·split at h
      ·injection h with h;subst h;cases hw
      ·cases h
   ·left
    unfold Ic at hid
    repeat' (split at hid)
    all_goals first|(rename_i e;subst e;exact Nat.zero_lt_one)|exact absurd rfl hid
   ·match t with
    |0=>exact .eQ _ _ hTW
    |1=>exact .eQ _ _ hA1
    |2=>exact rp _ _ n1 rfl
    |3=>exact rp _ _ n2 rfl
    |4=>exact .eQ _ _ .cm
    |5=>exact rp _ _ n3 rfl
    |6=>exact rp _ _ n4 rfl
    |7=>exact ri _
    |8=>exact cW.undef
    |9=>exact .eQ _ _ hA1
    |10=>exact .fn _ _ _ (fun _=>.pointer (some ⟨w.heap.size+1+1+1,0,none⟩)) (by kernel_rfl) rfl (fun j hj=>by match j,hj with|0,_=>rfl|j+1,hj=>simp at hj) (fun j a ha=>by match j,ha with|0,ha=>simp at ha;subst ha;exact rp _ _ n5 rfl|j+1,ha=>simp at ha)
    |11=>exact .agg _ _ (fun j=>if j=0 then .int .i64 (x0:Int)else .int .i64 (x1:Int)) rfl (fun a ha=>by simp at ha;rcases ha with rfl|rfl<;>rfl) (fun j hj=>by match j,hj with|0,_=>rfl|1,_=>rfl|j+2,hj=>simp at hj;omega) (fun j a ha=>by match j,ha with|0,ha=>simp at ha;subst ha;exact ri _|1,ha=>simp at ha;subst ha;exact ri _|j+2,ha=>simp at ha)
    |12=>exact ri _
    |13=>exact cW.undef
    |14=>exact cW.undef
    |15=>exact cW.undef
    |16=>exact cW.undef
    |17=>exact cW.undef
    |18=>exact cW.undef
    |19=>exact cW.undef
    |20=>exact cW.undef
    |21=>exact cW.undef
    |22=>exact cW.undef
    |23=>exact cW.undef
    |24=>exact cW.undef
    |25=>exact cW.undef
    |26=>exact cW.undef
    |27=>exact cW.undef
    |28=>exact cW.undef
    |29=>exact cW.undef
    |30=>exact cW.undef
    |31=>exact cW.undef
    |32=>exact cW.undef
    |33=>exact cW.undef
    |34=>exact cW.undef
    |35=>exact cW.undef
    |36=>exact cW.undef
    |37=>exact cW.undef
    |38=>exact cW.undef
    |39=>exact cW.undef
    |40=>exact cW.undef
    |41=>exact cW.undef
    |t+42=>exact cW.undef
  have hV:wpOps (Call Tryz.prog) true ?vl (fun e _=>e 5=.ptr ⟨3,0⟩ 0 0/\e 6=.ptr ⟨4,0⟩ 0 0/\e 8=.int .i64 (gZ s (aD l x0).aQ x2 (aD l x1).aQ)) (NI s l x0 x1 x2) ⟨MI s l x0 x1,1⟩:= ?hv
  gi_wp2
  refine z8 mixed (rrE (nt:=42) (site0:=205005000)) (Jz (by kernel_rfl)) (lr (fun _ _ _ _ h=>gq mixed h) kN (fun _ _ h=>h) _ _ _ hV) dK ?_
  rintro e1 σ1 ⟨tm,df⟩ w3 D1 ι1 ⟨h5,h6,h8⟩ T1 sr Dr
  case hv=>
   refine D5 ?_
   have e0:=fa CJ
   have e1:=fa M9
   (repeat(first|((repeat(revert hN;revert N;apply Pn.out));refine wk (tw @e0 (tw @e1 (tw @NI.eq_1 (tw @MI.eq_1 (tw @aa.eq_1 @ad.eq_1))))) ?_;(repeat(refine Pn.mk ?_;intro N hN)))|((try apply Or.inl);refine⟨_,aj.x (SC) (sd (tw @e0 (tw @e1 (tw @NI.eq_1 (tw @MI.eq_1 (tw @aa.eq_1 @ad.eq_1)))))),?_⟩;refine hN _ _ ?_;clear hN N)))
   exact⟨sd @NI.eq_1,sd @NI.eq_1,sd @NI.eq_1⟩
  ·have Bu:Below W.heap.size W w3:=T1.below
   have rI:∀id B,Ic w.heap.size Bx id=some B->ι1 id=some B:=T1.names
   have p5:tm.getD 5 undef=.pointer (some ⟨w.heap.size+1+1,0,none⟩):=by
    have g:=sr.env 5
    rw[h5]at g
    obtain⟨B,e,hB,_⟩:=iH g
    have h:=rI ⟨3,0⟩ ⟨w.heap.size+1+1,1,1,none⟩ rfl
    rw[h]at hB;injection hB with hB;subst hB
    simpa using e
   have p6:tm.getD 6 undef=.pointer (some ⟨Bx,0,none⟩):=by
    have g:=sr.env 6
    rw[h6]at g
    obtain⟨B,e,hB,_⟩:=iH g
    have h:=rI ⟨4,0⟩ ⟨Bx,2,2,none⟩ rfl
    rw[h]at hB;injection hB with hB;subst hB
    simpa using e
   have p8:tm.getD 8 undef=.int .i64 (gZ s (aD l x0).aQ x2 (aD l x1).aQ):=by
    have g:=sr.env 8
    rw[h8]at g
    exact du g
   have ft:=sr.size
   obtain⟨tl⟩:=tm
   obtain⟨f,OK,hf⟩:∃f:Nat->Value,tl=[f 0,f 1,f 2,f 3,f 4,f 5,f 6,f 7,f 8,f 9,f 10,f 11,f 12,f 13,f 14,f 15,f 16,f 17,f 18,f 19,f 20,f 21,f 22,f 23,f 24,f 25,f 26,f 27,f 28,f 29,f 30,f 31,f 32,f 33,f 34,f 35,f 36,f 37,f 38,f 39,f 40,f 41]/\∀i,f i=(⟨tl⟩:Array Value).getD i undef:=by
    refine⟨fun i=>(⟨tl⟩:Array Value).getD i undef,?_,fun _=>rfl⟩
    have h:=Jp tl undef
    rw[show tl.length=42 from ft]at h
    exact h
   rw[<-hf]at p5 p6 p8
   have T8:df=[]:=Dr
   subst T8
   clear hf sr dK hV
   subst OK
   rw[p5,p6,p8]
   have Qc:=hv.kept (grown_of Bu) (by simp)
   have Fe:=gh.kept (grown_of Bu) (by rcases gh.2 with⟨e,_⟩|⟨_,_,_,e,_⟩<;>rw[e]<;>simp[Value.ownBlock])
   have hc3:=Qc.cell
   have hn3:w.heap.size<=w3.heap.size:=Nat.le_trans hB.size Bu.size
   have eX0:w3.cell? ⟨Bx,0,none⟩=some (.int .i64 (x0:Int)):=(Bu.cell (p:=⟨Bx,0,none⟩) (Array.getElem?_eq_some_iff.1 bX).1).trans cX0
   have eX1:w3.cell? ⟨Bx,1,none⟩=some (.int .i64 (x1:Int)):=(Bu.cell (p:=⟨Bx,1,none⟩) (Array.getElem?_eq_some_iff.1 bX).1).trans cX1
   have ml:(nN s l pre).length<=2097152:=by
    have h1:=H6 s l pre
    have h2:=B6 l l.length
    omega
   have hKF:KeepsFrom (w.heap.size+4) W w3:=⟨Bu.size,fun k o _ hk _=>(Bu.block k (Array.getElem?_eq_some_iff.1 hk).1).trans hk⟩
   have hKT:iy w.heap.size W w3:=iy.of Bu
   have Tr:w3.heap[w.heap.size+1]? = _:=(Bu.block _ bA1.lt).trans bA1
   have Ts:=(Bu.block _ (Array.getElem?_eq_some_iff.1 bT1).1).trans bT1
   by_cases kn:0<gZ s (aD l x0).aQ x2 (aD l x1).aQ
   ·have xf:nN s l (pre++[⟨(x0,x1,x2),CJ,M9,yn⟩])=nN s l pre++[⟨x0,x1,gZ s (aD l x0).aQ x2 (aD l x1).aQ⟩]:=by
     rw[xT];simp only[zi,if_pos kn]
    gi_wp2_with (gi_at_builtin;refine wpListIn_append_own _ rfl _ _ 179 rfl w.heap.size 254 i0 (.agg #[.int .i64 0,.int .i64 0,.int .i64 0]) 3 24 (by kernel_rfl) hi Nb yp lR rfl (by decide) _ _ _ rfl (Fe.alloc _) ⟨w3.heap.size,0,none⟩ 1 1 [.int .i64 (x0:Int),.int .i64 (x1:Int),.int .i64 (gZ s (aD l x0).aQ x2 (aD l x1).aQ)] rfl rfl (vk _ _ _ _ _) (by simp[Value.oneCell']) (by unfold maxLen;omega) (by omega) (by simp;omega) ?_;intro v' w4 M0 Fa _;obtain⟨g',cap',rfl⟩:=ownsRow_succ M0;obtain⟨vW,LC,IZ,mC,Gd⟩:=Qc.appended (by decide) Fe hn3 (by omega) M0 Fa;have Lu:=iy.app Qc Fe Fa Gd;have qa:=vW.cell;have hf1:=vW.frozen)
    exact⟨hKF.trans (mC.from _),hKT.trans Lu,⟨⟨_,LC,by rw[xf,H5,List.length_append];exact IZ,by rw[xf];simp⟩,(Lu.2.1 _ _ _ _ Tr (by decide) (by decide)).trans Tr,(Lu.2.1 _ _ _ _ Ts (by decide) (by decide)).trans Ts⟩,hB.trans ((Bu.mono hB.size).trans Gd)⟩
   ·have xf:nN s l (pre++[⟨(x0,x1,x2),CJ,M9,yn⟩])=nN s l pre:=by
     rw[xT];simp only[zi,if_neg kn,List.append_nil]
    gi_wp2
    exact⟨hKF,hKT,⟨⟨v,Qc,by rw[xf];exact Fe,by rw[xf];exact hnil⟩,Tr,Ts⟩,hB.trans (Bu.mono hB.size)⟩
 case done=>
  rintro D ys W hD Fj ⟨⟨⟨v,hv,gh,hnil⟩,_⟩,hB⟩ hK
  have hc:=hv.cell
  have KF:nN s l ys=cY s l:=by rw[Ib,<-Fj];rfl
  rw[KF]at gh hnil
  gi_wp2
  refine⟨by simp,.inl ⟨_,_,rfl,run_takeDeferred hK,?_⟩⟩
  exact⟨_,results_tmp rfl _ _ _,v,rfl,ownsRow_putObj gh _ hK rfl,hnil,hB.trans (belowK_b (w:=w) (Nat.le_refl _) W D _ _ (by omega) hK rfl rfl)⟩
 case stop=>
  rintro D c pre W _ _ h _
  exact h.elim
end Go.Proofs.YtgoljkjaameagaaGreat.V

namespace Go.Proofs.YtgoljkjaameagaaGreat.V
open Go.RowKit Go.Shelf
theorem EO:∀{bs:List PB} {i j:Nat} {b:PB},bs[i]? =some b->j<3->(K2 bs)[i*3+j]? =([.int .i64 b.a,.int .i64 b.b,.int .i64 b.s]:List Value)[j]?
 |c::bs,0,j,b,h,hj=>by
  simp at h;subst h
  simp only[K2,List.flatMap_cons,Nat.zero_mul,Nat.zero_add]
  rw[List.getElem?_append_left (by simpa using hj)]
 |c::bs,i+1,j,b,h,hj=>by
  simp only[List.getElem?_cons_succ]at h
  have:=EO (bs:=bs) (i:=i) (j:=j) h hj
  simp only[K2,List.flatMap_cons]at this ⊢
  rw[List.getElem?_append_right (by simp;omega),<-this]
  congr 1
  simp;omega
theorem rL {P:Program} {w:World} {D:Nat->Prop} {rows:List (List AV)} {v:Value} (h:jD P w D (.sl rows) v):∃A n c,v=.slice A n c:=by
 cases h with
 |AL a c _=>exact⟨_,_,_,rfl⟩
 |sl=>exact⟨_,_,_,rfl⟩
theorem qN {P:Program} {w:World} {D:Nat->Prop} {ι:Names} {rows:List (List AV)} {v:Value} (h:cW P w D ι (.sl rows) v):jD P w D (.sl rows) v:=by
 cases h with
 |eQ _ _ h=>exact h
theorem Ma {P:Program} {w:World} {D:Nat->Prop} {l:List ab} {v:Value} (h:jD P w D (.sl (l.map aa)) v):pQ w v l:=by
 generalize hr:l.map aa=rows at h
 cases h with
 |AL a c hc=>
  have:l=[]:=by simpa using hr
  subst this
  exact⟨a,c,rfl,⟨Nat.zero_le _,hc⟩,.inl rfl⟩
 |sl _ b o n c sz vs h1 h2 h3 h4 h5 h5' h6 h7=>
  have hn:n=l.length:=by rw[<-h1,<-hr];simp
  subst hn
  refine⟨some ⟨b,o,none⟩,c,rfl,⟨h2,h3⟩,?_⟩
  by_cases hl:l=[]
  ·exact .inl hl
  refine .inr ⟨b,o,rfl,fun i hi=>?_⟩
  have hg:rows[i]? =some (aa (aD l i)):=by rw[<-hr];exact fa hi
  have ft:sz=3:=by rw[<-h5 _ (List.mem_of_getElem? hg)];rfl
  subst ft
  have k:∀(j:Nat) (x:Int),(aa (aD l i))[j]? =some (.int .i64 x)->j<3->w.cell? ⟨b,o+(i*3+j),none⟩=some (.int .i64 x):=fun j x hj h3=>by
   have:=h7 i j _ _ hg hj
   rw[h6 i j hi h3,du (.eQ (ι:=fun _=>none) _ _ this)]
  exact⟨k 0 _ rfl (by omega),k 1 _ rfl (by omega),k 2 _ rfl (by omega)⟩
theorem NH:CL:=by
 intro s l hS hA n
 refine gQ ?_
 intro hs D ι w vs S U A
 obtain⟨u0,S3,r0⟩:=A.2 0 _ rfl
 obtain⟨u1,Rs,r1⟩:=A.2 1 _ rfl
 have dJ:∀b,D b->b<w.heap.size:=S.dead
 obtain⟨v0,f0,rfl,Nb,_,SG,UN⟩:=iX r0
 obtain⟨v1,f1,rfl,yp,_,hf1,UO⟩:=iX r1
 have g0:=qN (UN 0 _ rfl)
 have g1:=qN (UN 1 _ rfl)
 have a0:=qN (UO 0 _ rfl)
 obtain⟨Ag,ng,cg,eg⟩:=rL g0
 obtain⟨At,nt,ct,et⟩:=rL g1
 have e0:v0= #[.slice Ag ng cg,.slice At nt ct]:=by
  obtain⟨vl⟩:=v0
  have q0:=SG 0 (by simp[ad])
  have q1:=SG 1 (by simp[ad])
  rw[eg]at q0;rw[et]at q1
  match vl,Nb with
  |[a,b],_=>simp at q0 q1;rw[q0,q1]
 have e1:v1= #[f1 0]:=by
  obtain⟨vl⟩:=v1
  have q0:=hf1 0 (by simp)
  match vl,yp with
  |[a],_=>simp at q0;rw[q0]
 subst e0 e1
 have evs:vs= #[.agg #[.slice Ag ng cg,.slice At nt ct],.agg #[f1 0]]:=by
  obtain⟨vl⟩:=vs
  have hz:=A.1
  match vl,hz with
  |[a,b],_=>simp at S3 Rs;rw[S3,Rs]
 subst evs
 have up:∀{a v},jD Tryz.prog w D a v->jD Tryz.prog w (fun b=>b<w.heap.size) a v:=fun h=>h.frame (fun _ _=>rfl) dJ
 have hT:jD Tryz.prog w (fun b=>b<w.heap.size) (.agg (ad s)) (.agg #[.slice Ag ng cg,.slice At nt ct]):=
  .agg _ _ f0 Nb (fun a ha=>by simp[ad]at ha;rcases ha with rfl|rfl<;>rfl) SG (fun j a ha=>by
   match j,ha with
   |0,ha=>simp[ad]at ha;subst ha;exact up g0
   |1,ha=>simp[ad]at ha;subst ha;exact up g1
   |j+2,ha=>simp[ad]at ha)
 refine(callsIn_wide.1 (Ia s l hS.form hA w Ag At ng cg nt ct (f1 0) hT (Ma a0))).mono ?_
 rintro e W' ⟨v,rfl,⟨hl,hown⟩,hnil,hB⟩
 have S':gw Tryz.prog hs D ι (fun _=>none) W':=S.stay (fun b hb=>hB.block b hb) hB.size (fun _ h=>h) (fun b hb=>Nat.lt_of_lt_of_le (dJ b hb) hB.size) (fun _ h=>.inl h) (fun _ _ h=>h)
 have T:Step hs D ι w D ι W':=Step.stay S (fun b hb=>hB.block b hb) hB.size hB.os hB.tape hB.output (fun _ h=>h) (fun _ h=>.inl h) (fun _ _ h=>h)
 rcases hown with⟨rfl,h0⟩|⟨gb,cap,cur,rfl,Q6,hblk,hle,IC,dq,mm⟩
 ·have QQ:cY s l=[]:=hnil.1 rfl
  exact⟨.cm,_,n,D,ι,_,rfl,⟨.cm,jt _ _,by rw[QQ];rfl⟩,T,S',U,Nat.le_refl _,.eQ _ _ .cm⟩
 ·have QQ:cY s l≠[]:=fun h=>by have:=hnil.2 h;cases this
  have jm:ι ⟨0,n⟩=none:=fresh U (fun h=>h)
  have gN:∀{a v},cW Tryz.prog W' D ι a v->cW Tryz.prog W' D (kJ ι ⟨0,n⟩ ⟨gb,3,cap*3,none⟩) a v:=fun h=>h.frame (fun _ _=>rfl) (fun _ h=>h) (e6 jm)
  have hR:gO Tryz.prog W' D (kJ ι ⟨0,n⟩ ⟨gb,3,cap*3,none⟩) ⟨gb,3,cap*3,none⟩ ⟨true,3,(cY s l).map aA⟩:=by
   refine lI.obj ⟨rfl,⟨cur,_,hblk,dq⟩,?_,fun cs hc=>?_,fun cs hc a ha=>?_,fun i j cs a hi hj=>?_⟩ rfl
   ·simp only[List.length_map];exact Nat.mul_le_mul_right 3 hle
   ·obtain⟨b,_,rfl⟩:=List.mem_map.1 hc;rfl
   ·obtain⟨b,_,rfl⟩:=List.mem_map.1 hc
    simp[aA]at ha
    rcases ha with rfl|rfl|rfl<;>rfl
   ·rw[List.getElem?_map]at hi
    simp only[Option.map_eq_some_iff]at hi
    obtain⟨b,hb,rfl⟩:=hi
    have hj3:j<3:=by have:=(List.getElem?_eq_some_iff.1 hj).1;simpa[aA]using this
    have lO:=(List.getElem?_eq_some_iff.1 hb).1
    have hg:=EO hb hj3
    rw[<-mm,List.getElem?_take,if_pos (by omega)]at hg
    have key:∀x:Value,([.int .i64 b.a,.int .i64 b.b,.int .i64 b.s]:List Value)[j]? =some x->W'.cell? ⟨gb,i*3+j,none⟩=some x:=fun x hx=>by
     rw[hx]at hg
     have e:W'.cell? ⟨gb,i*3+j,none⟩=cur[i*3+j]? :=by
      unfold World.cell?
      rw[show W'.heap[(⟨gb,i*3+j,none⟩:Addr).block]? = _ from hblk]
      rfl
     rw[e,<-Array.getElem?_toList];exact hg
    match j,hj with
    |0,hj=>simp[aA]at hj;subst hj;exact⟨_,key _ rfl,.eQ _ _ (.int _ _)⟩
    |1,hj=>simp[aA]at hj;subst hj;exact⟨_,key _ rfl,.eQ _ _ (.int _ _)⟩
    |2,hj=>simp[aA]at hj;subst hj;exact⟨_,key _ rfl,.eQ _ _ (.int _ _)⟩
    |j+3,hj=>simp[aA]at hj
  have S2:=gw.add (r:=⟨true,3,(cY s l).map aA⟩) S S' jm Q6 hR
  refine⟨.own ⟨0,n⟩ 0 (cY s l).length,br (fun _=>none) ⟨0,n⟩ ⟨true,3,(cY s l).map aA⟩,n+1,D,kJ ι ⟨0,n⟩ ⟨gb,3,cap*3,none⟩,_,rfl,⟨Ai (cY s l),?_,rfl⟩,T.trans (Step.stay S' (fun _ _=>rfl) (Nat.le_refl _) rfl rfl rfl (fun _ h=>h) (fun _ h=>.inl h) (e6 jm)),S2,U.upd.next,Nat.le_succ _,.own _ _ _ _ _ _ (ep _ _ _) rfl hle (.inr (by simp)) (by simp) IC⟩
  unfold Ai
  rw[if_neg QQ]
  have hg:(br (fun _=>none) (⟨0,n⟩:Id) ⟨true,3,(cY s l).map aA⟩:Rows) ⟨0,n⟩=some ⟨true,3,(cY s l).map aA⟩:=by simp[br]
  have:=eY (n:=5) hg rfl fun b=>ur _ 4 b
  simpa using this
end Go.Proofs.YtgoljkjaameagaaGreat.V

namespace Go.Proofs.YtgoljkjaameagaaGreat.V
open Go.RowKit
attribute [local irreducible] dE wpOps fS Call
attribute [local go_sem] aH fq eG fH fG cX upd bZ K.av cD AV.cells AV.cell rowOf rowsOf part ld rowAt br bP dn dR gK bx cQ eb fD eS di dW cN cL dH dI bD aW cF bB cH cG dU dX dV cE bG cP dS bz aI cJ cq gJ bj cz bE aT de aX dp AV.undef bq bt dL dQ dB dz cw ea ee cj dZ dY cI cK List.getD_cons_zero List.getD_cons_succ List.getD_nil List.all_cons List.all_nil Bool.and_true Bool.true_and Bool.and_self Bool.not_true Bool.not_false Option.map_some Option.map_none Option.bind_some Option.bind_none List.length_cons List.length_nil List.take_succ_cons List.take_zero List.take_nil List.drop_succ_cons List.drop_zero List.drop_nil List.head?_cons List.map_cons List.map_nil List.getElem?_cons_zero List.getElem?_cons_succ List.cons_append List.nil_append List.append_nil List.length_map List.set_cons_zero List.set_cons_succ Nat.reduceMul eq_self Int.toNat_natCast Int.natCast_nonneg and_self true_and and_true decide_true decide_false Bool.false_eq_true Nat.zero_add Nat.add_zero List.contains_cons List.contains_nil Bool.or_false Bool.false_or beq_self_eq_true Nat.reduceBEq ne_eq not_true_eq_false not_false_eq_true Id.mk.injEq false_and and_false Nat.reduceLT Int.reduceLE Int.reduceLT Int.reduceToNat Int.reduceNeg Int.reduceAdd Nat.le_refl List.length_append beq_true beq_false Bool.not_eq_eq_eq_not or_false false_or dD ah aq aF aY bp bK aP bc aN aV cC bF
theorem L1 (lb:List ab) (hb:jI lb) (t:ab):aj Tryz.prog 243 [.agg (aa t),.cR [.sl (lb.map aa)]] (.bool (!decide (fK lb t.aC=t.aQ))):=by
 refine aj.body eH rfl fun hl n0=>?_
 clear hl
 have h:=Qu lb t.aC hb.uh (by have:=hb.lL;omega)
 (repeat(first|((repeat(revert hN;revert N;apply Pn.out));refine wk (tw @aa.eq_1 @ae.eq_1) ?_;(repeat(refine Pn.mk ?_;intro N hN)))|((try apply Or.inl);refine⟨_,aj.x (h) (sd (tw @aa.eq_1 @ae.eq_1)),?_⟩;refine hN _ _ ?_;clear hN N)))
 exact aM (b:= !decide (fK lb t.aC=t.aQ)) (.inl rfl) (sd @Nat.zero_add) (by simp)
theorem qf (la lb:List ab) (ha:jI la) (hb:jI lb):aj Tryz.prog 172 [.agg [.sl (la.map aa)],.agg [.sl (lb.map aa)]] (.bool (eX la lb)):=by
 refine aj.body eH rfl fun hl n0=>?_
 clear hl
 have h1:=sJ la
 have h2:=sJ lb
 rw[sG.2 ha]at h1
 rw[sG.2 hb]at h2
 have h3:aj Tryz.prog 201 [.sl (la.map aa),.fn 243 [.cR [.sl (lb.map aa)]]] (.bool (la.any fun t=> !decide (fK lb t.aC=t.aQ))):=
  kQ qp (show mU Tryz.prog 201=some (zB 201 247) by kernel_rfl)
   (show mU Tryz.prog 247=some (qE 247 3 true) by kernel_rfl) la (by have:=ha.lL;omega) _ _ _ rfl (fun g=>by rw[ah,aN,aq];rfl) (fun x _=>L1 lb hb x) fun g=>by rw[ah,aN,aq];rfl
 (repeat(first|((repeat(revert hN;revert N;apply Pn.out));refine wk @Nat.zero_add ?_;(repeat(refine Pn.mk ?_;intro N hN)))|((try apply Or.inl);refine⟨_,aj.x (h1) (sd @Nat.zero_add),?_⟩;refine hN _ _ ?_;clear hN N)|((try apply Or.inl);refine⟨_,aj.x (h2) (sd @Nat.zero_add),?_⟩;refine hN _ _ ?_;clear hN N)|((try apply Or.inl);refine⟨_,aj.x (h3) (sd @Nat.zero_add),?_⟩;refine hN _ _ ?_;clear hN N)))
 exact aM (b:= !(la.any fun t=> !decide (fK lb t.aC=t.aQ))) (.inl rfl) (sd @Nat.zero_add) (by rw[EM];rfl)
theorem rE (s:ax) (l:List ab) (hn:gz s.aJ) (hm:uV s) (hl:l.length<=1048576):aj Tryz.prog 82 [.agg (ar s),.agg [.sl (l.map aa)]] (.int .i64 (if xn s l then 0 else 1)):=by
 refine aj.body eH rfl fun j8 n0=>?_
 clear j8
 have h1:=xl NH s hn hm.s.g hm.s.t hm.s.s hm.a
 have h2:=nD s.aJ l hn hm.s.g hm.s.t hm.s.s hl
 cases b1:lj s
 ·rw[b1]at h1
  rw[ar]at h1 ⊢
  (repeat(first|((repeat(revert hN;revert N;apply Pn.out));refine wk @Nat.zero_add ?_;(repeat(refine Pn.mk ?_;intro N hN)))|((try apply Or.inl);refine⟨_,aj.x (h1) (sd @Nat.zero_add),?_⟩;refine hN _ _ ?_;clear hN N)))
  exact bQ (b:=1) (.inl rfl) (sd @Nat.zero_add) (by simp[xn,b1])
 have fh:qO s.aJ=true:=mK.2 (kg.1 b1).set
 rw[b1]at h1
 rw[fh,Bool.true_and]at h2
 rw[ar]at h1 ⊢
 rw[ad]at h2
 cases b2:kD s.aJ l
 ·rw[b2]at h2
  (repeat(first|((repeat(revert hN;revert N;apply Pn.out));refine wk @Nat.zero_add ?_;(repeat(refine Pn.mk ?_;intro N hN)))|((try apply Or.inl);refine⟨_,aj.x (h1) (sd @Nat.zero_add),?_⟩;refine hN _ _ ?_;clear hN N)|((try apply Or.inl);refine⟨_,aj.x (h2) (sd @Nat.zero_add),?_⟩;refine hN _ _ ?_;clear hN N)))
  exact bQ (b:=1) (.inl rfl) (sd @Nat.zero_add) (by simp[xn,b1,b2])
 ·rw[b2]at h2
  (repeat(first|((repeat(revert hN;revert N;apply Pn.out));refine wk @Nat.zero_add ?_;(repeat(refine Pn.mk ?_;intro N hN)))|((try apply Or.inl);refine⟨_,aj.x (h1) (sd @Nat.zero_add),?_⟩;refine hN _ _ ?_;clear hN N)|((try apply Or.inl);refine⟨_,aj.x (h2) (sd @Nat.zero_add),?_⟩;refine hN _ _ ?_;clear hN N)))
  exact bQ (b:=0) (.inl rfl) (sd @Nat.zero_add) (by simp[xn,b1,b2])
theorem BM {s:ax} {l:List ab} (hA:gL s.aJ l):∀(n:Nat) (st:iL),oa s l st->oa s l (v8 s l n st)
 |0,st,h=>h
 |n+1,st,h=>by
  have h1:=(wZ h hA l.length (Nat.le_refl _)).1
  rw[pw]at h1
  rw[v8]
  split
  ·exact h1
  ·exact BM hA n _ h1
theorem BL {s:ax} {l:List ab} (hP:AQ s) (hA:gL s.aJ l) (hW:eX s.aU.ai l=true):oa s l (kF s l):=BM hA _ _ (sR hP hA hW)
theorem Ph {α:Type} (f:α->Nat) {xs:List α} {x:α} (h:x∈xs):f x<=(xs.map f).sum:=by
 induction xs with
 |nil=>cases h
 |cons y ys ih=>
  simp only[List.map_cons,List.sum_cons]
  rcases List.mem_cons.1 h with rfl|h
  ·omega
  ·have:=ih h;omega
theorem Hd {s:ax} (h:qP s<=1048576):uV s:=by
 unfold qP w8 at h
 refine⟨⟨by omega,by omega,fun t ht=>?_⟩,by omega⟩
 have:=Ph lZ ht
 have h2:t.cu.length<=lZ t:=by unfold lZ;omega
 unfold zb
 omega
theorem rq (a:eI):aj Tryz.prog 22 [.agg (aK a),.agg (aK a)] (.bool true):=by
 refine aj.body eH rfl fun hl n0=>?_
 clear hl
 have h1:=tz a.ai a.ai
 rw[decide_eq_true rfl]at h1
 (repeat(first|((repeat(revert hN;revert N;apply Pn.out));refine wk @aK.eq_1 ?_;(repeat(refine Pn.mk ?_;intro N hN)))|((try apply Or.inl);refine⟨_,aj.x (h1) (sd @aK.eq_1),?_⟩;refine hN _ _ ?_;clear hN N)))
 exact aM (b:=true) (.inl rfl) (sd @Nat.zero_add) rfl
end Go.Proofs.YtgoljkjaameagaaGreat.V

namespace Go.Proofs.YtgoljkjaameagaaGreat.V
open Go.RowKit
attribute [local irreducible] dE wpOps fS Call
attribute [local go_sem] aH fq eG fH fG cX upd bZ K.av cD AV.cells AV.cell rowOf rowsOf part ld rowAt br bP dn dR gK bx cQ eb fD eS di dW cN cL dH dI bD aW cF bB cH cG dU dX dV cE bG cP dS bz aI cJ cq gJ bj cz bE aT de aX dp AV.undef bq bt dL dQ dB dz cw ea ee cj dZ dY cI cK List.getD_cons_zero List.getD_cons_succ List.getD_nil List.all_cons List.all_nil Bool.and_true Bool.true_and Bool.and_self Bool.not_true Bool.not_false Option.map_some Option.map_none Option.bind_some Option.bind_none List.length_cons List.length_nil List.take_succ_cons List.take_zero List.take_nil List.drop_succ_cons List.drop_zero List.drop_nil List.head?_cons List.map_cons List.map_nil List.getElem?_cons_zero List.getElem?_cons_succ List.cons_append List.nil_append List.append_nil List.length_map List.set_cons_zero List.set_cons_succ eq_self Int.toNat_natCast Int.natCast_nonneg and_self true_and and_true decide_true decide_false Bool.false_eq_true Nat.zero_add Nat.add_zero List.contains_cons List.contains_nil Bool.or_false Bool.false_or beq_self_eq_true ne_eq not_true_eq_false not_false_eq_true Id.mk.injEq false_and and_false Nat.le_refl List.length_append beq_true beq_false Bool.not_eq_eq_eq_not or_false false_or dD ah aq aF aY bp bK aP bc aN aV cC bF
theorem l7.not {a b:Nat} {ids:List Id} (h:l7 a b ids) {x:Id} (hx:x.bY<a∨b<=x.bY):x∉ids:=fun hc=>by
 have:=h.2 x hc;omega
theorem mv.fz {α:Type} {e:α->List AV} {L:List α} {w:AV} (h:mv e L w) (g:Rows):V.fz g 6 w=some w:=by
 rcases h with⟨rfl,rfl⟩|rfl
 ·exact aP _ _
 ·exact bK _ _ _
theorem mv.cell {α:Type} {e:α->List AV} {L:List α} {w:AV} (h:mv e L w):w.cells=[w]/\w.cell=true:=by
 rcases h with⟨rfl,rfl⟩|rfl<;>exact⟨rfl,rfl⟩
theorem xk.cell {α:Type} {e:α->List AV} {z:Nat} {g:Rows} {v:AV} {L:List α} {ids:List Id} (h:xk e z g v L ids):v.cells=[v]/\v.cell=true:=by
 rcases h with⟨_,rfl,_⟩|⟨o,rfl,_⟩<;>exact⟨rfl,rfl⟩
theorem mv.fz5 {α:Type} {e:α->List AV} {L:List α} {w:AV} (h:mv e L w) (g:Rows):V.fz g 5 w=some w:=by
 rcases h with⟨rfl,rfl⟩|rfl
 ·exact aP _ _
 ·exact bK _ _ _
theorem xk.fz5 {α:Type} {e:α->List AV} {z:Nat} {g:Rows} {v:AV} {L:List α} {ids:List Id} (h:xk e z g v L ids) (he:∀x g,dc g 4 (e x)=some (e x)):∃w,V.fz (dD g) 5 v=some w/\mv e L w:=by
 rcases h with⟨rfl,rfl,_⟩|⟨o,rfl,h2,_⟩
 ·exact⟨.cm,aP _ _,.inl ⟨rfl,rfl⟩⟩
 ·exact⟨_,gr (e:=e) (sz:=z) (by simp[dD,h2]) rfl fun x=>he x _,.inr rfl⟩
end Go.Proofs.YtgoljkjaameagaaGreat.V

namespace Go.Proofs.YtgoljkjaameagaaGreat.V
open Go.RowKit
attribute [local irreducible] dE wpOps fS Call
attribute [local go_sem] aH fq eG fH fG cX upd bZ K.av cD AV.cells AV.cell rowOf rowsOf part ld rowAt br bP dn dR gK bx cQ eb fD eS di dW cN cL dH dI bD aW cF bB cH cG dU dX dV cE bG cP dS bz aI cJ cq gJ bj cz bE aT de aX dp AV.undef bq bt dL dQ dB dz cw ea ee cj dZ dY cI cK List.getD_cons_zero List.getD_cons_succ List.getD_nil List.all_cons List.all_nil Bool.and_true Bool.true_and Bool.and_self Bool.not_true Bool.not_false Option.map_some Option.map_none Option.bind_some Option.bind_none List.length_cons List.length_nil List.take_succ_cons List.take_zero List.take_nil List.drop_succ_cons List.drop_zero List.drop_nil List.head?_cons List.map_cons List.map_nil List.getElem?_cons_zero List.getElem?_cons_succ List.cons_append List.nil_append List.append_nil List.length_map List.set_cons_zero List.set_cons_succ Nat.reduceMul eq_self Int.toNat_natCast Int.natCast_nonneg and_self true_and and_true decide_true decide_false Bool.false_eq_true Nat.zero_add Nat.add_zero List.contains_cons List.contains_nil Bool.or_false Bool.false_or beq_self_eq_true Nat.reduceBEq ne_eq not_true_eq_false not_false_eq_true Id.mk.injEq false_and and_false Nat.reduceLT Int.reduceLE Int.reduceLT Int.reduceToNat Int.reduceNeg Int.reduceAdd Nat.le_refl List.length_append beq_true beq_false Bool.not_eq_eq_eq_not or_false false_or dD ah aq aF aY bp bK aP bc aN aV cC bF
def nW (s:ax) (a:List ab):ax:=⟨s.aJ,⟨a⟩,s.aB⟩
noncomputable def jU (s:ax) (r a:List ab):Int:=if lj s&&(kD s.aJ r&&kD s.aJ a)then(if eX s.aU.ai r&&eX s.aU.ai a then 0 else 2)else 1
structure uR (s:ax) (r a:List ab):Prop where
 sys:AP s
 right:gL s.aJ r
 AF:gL s.aJ a
 wr:eX s.aU.ai r=true
 wa:eX s.aU.ai a=true
theorem Cf {s:ax} {r a:List ab}:jU s r a=0↔uR s r a:=by
 unfold jU
 constructor
 ·intro h
  split at h
  ·rename_i h1
   split at h
   ·rename_i h2
    simp only[Bool.and_eq_true]at h1 h2
    exact⟨kg.1 h1.1,fZ.1 h1.2.1,fZ.1 h1.2.2,h2.1,h2.2⟩
   ·cases h
  ·cases h
 ·intro h
  rw[if_pos (by rw[kg.2 h.sys,fZ.2 h.right,fZ.2 h.AF];rfl),if_pos (by rw[h.wr,h.wa];rfl)]
theorem uR.some {s:ax} {r a:List ab} (h:uR s r a):1<=a.length:=by
 have h1:=h.sys.some
 have h2:=h.wa
 rcases a with _|⟨x,a⟩
 ·rcases hs:s.aU.ai with _|⟨y,l⟩
  ·rw[hs]at h1;simp at h1
  ·unfold eX at h2
   rw[hs,List.all_cons,Bool.and_eq_true]at h2
   have h3:=of_decide_eq_true h2.1
   have h4:=(ek (h.sys.nr.2 y (by rw[hs];simp))).1
   have h5:fK [] y.aC<0:=by
    rcases Int.lt_or_le (fK [] y.aC) 0 with h5|h5
    ·exact h5
    ·unfold fK at h5
     split at h5
     ·rename_i h6
      have:=(gj h6).1
      simp at this
     ·omega
   omega
 ·simp
theorem uR.w {s:ax} {r a:List ab} (h:uR s r a):AQ (nW s a):=⟨h.sys.set,h.AF,h.some,h.sys.Hj⟩
noncomputable def pZ (s:ax) (r a:List ab):List ab×Bool:=if eX a r=true then((kF (nW s a) r).1,decide (((kF (nW s a) r).2.length:Int)=(r.length:Int)))else([],false)
def KX (X:Id) (st:iL) (e7:AV) (g:Rows) (n:Nat):Prop:=∃o u:Id,g X=some ⟨true,1,[[.own o 0 st.2.length]]⟩/\g o=some ⟨true,3,st.2.map aa⟩/\e7=.own u 0 st.1.length/\g u=some ⟨true,3,st.1.map aa⟩/\(o=u->False)/\(X=u->False)/\u.bY<n/\(X=o->False)/\o.bY<n/\X.bY<n
theorem KX.frame {X:Id} {st:iL} {e7 MJ:AV} {g g':Rows} {n n':Nat} (h:KX X st e7 g n) (he:MJ=e7) (hn:n<=n') (hf:∀x:Id,x.bY<n->g' x=g x):KX X st MJ g' n':=by
 obtain⟨o,u,h1,h2,h3,h4,h5,h6,h7,h8,h9,uu⟩:=h
 exact⟨o,u,(hf X uu).trans h1,(hf o h9).trans h2,he.trans h3,(hf u h7).trans h4,h5,h6,by omega,h8,by omega,by omega⟩
theorem Jl (s0:ax) (a:List ab) (TN:AQ s0) (hP:AQ (nW s0 a)) (l:List ab) (hA:gL (nW s0 a).aJ l) (hW:eX a l=true):aj Tryz.prog 103 [.cR (ar s0),.cR [.sl (l.map aa)],.cR [.sl (a.map aa)]] (.gy [.sl ((kF (nW s0 a) l).1.map aa),.bool (decide (((kF (nW s0 a) l).2.length:Int)=(l.length:Int)))]):=by
 refine aj.body eH rfl fun j8 n0=>?_
 clear j8
 have IH:=hA.1.lL
 have KD:=sR hP hA hW
 have Fh:=lU a l hA.1.uh (by omega) (by have:=hP.nr.1.lL;(try dsimp only[nW]at this);omega)
 rw[hW]at Fh
 have Ub:∀q p t,jF (nW s0 a) q p t=jF s0 q p t:=fun _ _ _=>rfl
 have UP:(nW s0 a).aJ=s0.aJ:=rfl
 have SY:(nW s0 a).aU.ai=a:=rfl
 obtain⟨s,hs⟩:∃s,nW s0 a=s:=⟨_,rfl⟩
 rw[hs]at hP hA KD Ub UP SY ⊢
 have uB:=KD.lL
 (try dsimp only at uB)
 (repeat(first|((repeat(revert hN;revert N;apply Pn.out));refine wk @Nat.zero_add ?_;(repeat(refine Pn.mk ?_;intro N hN)))|((try apply Or.inl);refine⟨_,aj.x (Fh) (sd @Nat.zero_add),?_⟩;refine hN _ _ ?_;clear hN N)))
 refine .inr (bf _ _ _ _ _ (fun r σ1 hq=>?_) (Hw.val (fun n=>BS a (by rw[SY]at uB;omega) n) (by simp only[ah,aq,aN,Option.map_some])))
 obtain⟨⟨o,rfl,q1,q2,q3⟩,hK⟩:=hq
 obtain⟨g1,x1⟩:=σ1
 (try dsimp only at q1 q2 q3 hK)
 have qb:=hK.1
 have S8:=hK.2 ⟨103001000,n0+1⟩ (by(try dsimp only);omega)
 simp only[go_sem, ↓reduceIte,Nat.reduceEqDiff,Nat.reduceAdd,Nat.reduceSub,Nat.reduceLeDiff,reduceCtorEq]at S8
 (try dsimp only at qb)
 refine hN _ _ ?_
 clear hN N
 (try((repeat(revert hN;revert N;apply Pn.out));refine wk @S8 ?_;(repeat(refine Pn.mk ?_;intro N hN))))
 refine aZ (fun n env st=>∃(S:iL) (m:Nat) (go:Bool),n=(if go then m else 0)/\env 10=.bool go/\(go=true->v8 s l m S=kF s l/\oF l S.2<m)/\(go=false->S=kF s l)/\oa s l S/\KX ⟨103004002,x1⟩ S (env 8) st.get st.next) (l.length+1) ⟨([],s.aU.ai),l.length+1,true,rfl,sd @Nat.zero_add,fun _=>⟨rfl,by have:=E0 l s.aU.ai;(try dsimp only);omega⟩,fun h=>(by cases h),KD,?_⟩ ?_
 ·have vo:=dP (i:=o) (n:=x1) (by omega)
  exact⟨o,⟨103001000,n0+1⟩,by rw[SY];simp only[go_sem, ↓reduceIte,Nat.reduceEqDiff,Nat.reduceAdd,Nat.reduceSub,Nat.reduceLeDiff,reduceCtorEq],by rw[SY];simp only[go_sem, ↓reduceIte,Nat.reduceEqDiff,Nat.reduceAdd,Nat.reduceSub,Nat.reduceLeDiff,reduceCtorEq,vo,q1],sl @Nat.zero_add,sl @S8,fun e=>by rw[e]at q2;(try dsimp only at q2);omega,fun e=>by injection e with e1 e2;revert e1;decide,by(try dsimp only);omega,fun e=>by rw[<-e]at q3;(try dsimp only at q3);omega,by(try dsimp only);omega,by(try dsimp only);omega⟩
 rintro n1 e1 st1 ⟨S,m,go,rfl,e10,rG,hend,hI,hL⟩ hk
 have c0:=hk 0 (by kernel_rfl)
 have c1:=hk 1 (by kernel_rfl)
 have c9:=hk 9 (by kernel_rfl)
 simp only[go_sem, ↓reduceIte,Nat.reduceEqDiff,Nat.reduceAdd,Nat.reduceSub,Nat.reduceLeDiff,reduceCtorEq]at c0 c1 c9
 clear hk q1 q2 q3 hK S8
 cases go
 ·have hS:=hend rfl
  subst hS
  clear hend rG
  obtain⟨o,u,h1,h2,h3,h4,h5,h6,h7,h8,h9,uu⟩:=hL
  have eF:(l.map aa).length=l.length:=by simp
  (try((repeat(revert hN;revert N;apply Pn.out));refine wk (tw @e10 (tw @c1 (tw @c9 (tw @h1 (tw @h3 @eF))))) ?_;(repeat(refine Pn.mk ?_;intro N hN))))
  exact iJ (.inl rfl) (vs:=[.own u 0 (kF s l).1.length,.bool (decide (((kF s l).2.length:Int)=(l.length:Int)))]) (sd @h3) (by
   simp only[eL,dt,aS,bd,eM]
   rw[eY (e:=aa) (l:=(kF s l).1) (sz:=3) h4 rfl (fun x=>E4 _ 3 x)];rfl)
 ·obtain⟨hF,hm⟩:=rG rfl
  clear hend rG
  have I4:fQ s l S 0=S:=by simp[fQ]
  (try((repeat(revert hN;revert N;apply Pn.out));refine wk (tw @e10 (tw @c0 @c1)) ?_;(repeat(refine Pn.mk ?_;intro N hN))))
  refine aZ (fun n env st=>∃i:Nat,n=(l.length)-i/\i<=(l.length)/\env 11=.int .i64 (i:Int)/\(env 10=.bool (decide ((fQ s l S i).1.length≠S.1.length))/\KX ⟨103004002,x1⟩ (fQ s l S i) (env 8) st.get st.next)) (l.length) ⟨0,by omega,by omega,sl (tw @c0 (tw @c1 @c9)),by(try dsimp only);exact⟨by rw[I4];simp only[go_sem, ↓reduceIte,Nat.reduceEqDiff,Nat.reduceAdd,Nat.reduceSub,Nat.reduceLeDiff,reduceCtorEq]<;>simp,by rw[I4];exact hL.frame (sd @Nat.zero_add) (by(try dsimp only);omega) fun x _=>rfl⟩⟩ ?_
  rintro n_b env_b st_b ⟨i,rfl,ble,b11,bI0⟩ fM
  have b0:=fM 0 (by kernel_rfl);have b1:=fM 1 (by kernel_rfl);have b9:=fM 9 (by kernel_rfl)
  simp only[go_sem, ↓reduceIte,Nat.reduceEqDiff,Nat.reduceAdd,Nat.reduceSub,Nat.reduceLeDiff,reduceCtorEq,c0,c1,c9]at b0 b1 b9
  clear fM
  obtain⟨xd,bL⟩:=bI0
  obtain⟨AI,IK,CE⟩:=wZ hI hA i (by omega)
  by_cases hi:(i:Int)<(l.length:Int)
  ·have fC:∀{e:Env} {gg:Rows} {nx:Nat},(e 11=.int .i64 (IntKind.i64.wrap ((i:Int)+1)))->(e 10=.bool (decide ((fQ s l S (i+1)).1.length≠S.1.length))/\KX ⟨103004002,x1⟩ (fQ s l S (i+1)) (e 8) gg nx)->∃m0,m0<(l.length)-i/\∃i:Nat,m0=(l.length)-i/\i<=(l.length)/\e 11=.int .i64 (i:Int)/\(e 10=.bool (decide ((fQ s l S i).1.length≠S.1.length))/\KX ⟨103004002,x1⟩ (fQ s l S i) (e 8) gg nx):=fun x1 x2=>⟨_,by omega,i+1,rfl,by omega,(by rw[x1,az (by omega)]),x2⟩
   have fc:i<l.length:=by omega
   have qS:=qF s l S fc
   have hx:=fj fc
   have ht:=hA.2 _ hx
   have jM:=fa fc
   have QN:=AI.AF hA
   have Ol:=Jk s0 TN _ (by rw[<-UP];exact QN) (aD l i).aC (aD l i).aQ (by rw[<-UP];exact ht)
   rw[<-Ub]at Ol
   have eF:(l.map aa).length=l.length:=by simp
   have TR:=AI.lL
   have TU:=AI.len
   generalize fQ s l S i=T at AI QN Ol qS TR TU CE xd bL
   obtain⟨o,u,h1,h2,h3,h4,h5,h6,h7,h8,h9,uu⟩:=bL
   have vo:=dP (i:=o) (n:=st_b.next) (by omega)
   have vu:=dP (i:=u) (n:=st_b.next) (by omega)
   have vX:=dP (i:=⟨103004002,x1⟩) (n:=st_b.next) (by(try dsimp only at uu);(try dsimp only);omega)
   (try((repeat(revert hN;revert N;apply Pn.out));refine wk (tw @b11 (tw @b0 (tw @b1 (tw @b9 (tw @hi (tw @jM (tw @eF @aa.eq_1))))))) ?_;(repeat(refine Pn.mk ?_;intro N hN))))
   refine .inl ⟨_,aj.x Ol (by
    have hp:=rV (g:=br (br st_b.get ⟨103011017,st_b.next+1⟩ ⟨true,3,[[.int .i64 0,.int .i64 0,.int .i64 0]]⟩) ⟨103011017,st_b.next+1⟩ ⟨true,3,[[.int .i64 (aD l i).aC.eT,.int .i64 (aD l i).aC.eO,.int .i64 (aD l i).aQ]]⟩) (X:=⟨103004002,x1⟩) (o:=o) (L:=T.2) (sd (tw @vX @h1)) (sd (tw @vo @h2))
    simp only[ah,aq,aN,hp,bc,aF,Option.map_some]),?_⟩
   refine hN _ _ ?_
   clear hN N
   cases hf:jF s T.2 (aD l i).aC (aD l i).aQ
   ·rw[wb hf]at qS
    (try((repeat(revert hN;revert N;apply Pn.out));refine wk (tw @b11 (tw @b0 (tw @b1 (tw @b9 (tw @hf @jM))))) ?_;(repeat(refine Pn.mk ?_;intro N hN))))
    exact fC (sd (tw @b11 (tw @b0 (tw @b1 @b9)))) (by(try dsimp only);exact⟨by rw[qS];simp only[go_sem, ↓reduceIte,Nat.reduceEqDiff,Nat.reduceAdd,Nat.reduceSub,Nat.reduceLeDiff,reduceCtorEq,xd],by rw[qS];exact(show KX ⟨103004002,x1⟩ T (env_b 8) st_b.get st_b.next from⟨o,u,h1,h2,h3,h4,h5,h6,h7,h8,h9,uu⟩).frame (sd @Nat.zero_add) (by(try dsimp only);omega) (fun y hy=>by
     have h11:=dP hy
     simp only[go_sem, ↓reduceIte,Nat.reduceEqDiff,Nat.reduceAdd,Nat.reduceSub,Nat.reduceLeDiff,reduceCtorEq,h11])⟩)
   ·rw[tK hf]at qS
    (try((repeat(revert hN;revert N;apply Pn.out));refine wk (tw @b11 (tw @b0 (tw @b1 (tw @b9 (tw @hf @jM))))) ?_;(repeat(refine Pn.mk ?_;intro N hN))))
    refine .inr (bf _ _ _ _ _ (fun r σ2 hq=>?_) (Hw.val (fun n=>Ji T.2 (by omega) (aD l i).aC (aD l i).aQ n) (by
     have hp:=rV (g:=br (br st_b.get ⟨103011017,st_b.next+1⟩ ⟨true,3,[[.int .i64 0,.int .i64 0,.int .i64 0]]⟩) ⟨103011017,st_b.next+1⟩ ⟨true,3,[[.int .i64 (aD l i).aC.eT,.int .i64 (aD l i).aC.eO,.int .i64 (aD l i).aQ]]⟩) (X:=⟨103004002,x1⟩) (o:=o) (L:=T.2) (sd (tw @vX @h1)) (sd (tw @vo @h2))
     simp only[ah,aq,hp,bc,aF,Option.map_some]
     rfl)))
    obtain⟨⟨o2,rfl,p1,p2,p3⟩,hK⟩:=hq
    obtain⟨g2,x2⟩:=σ2
    (try dsimp only at p1 p2 p3 hK)
    have Dy:=hK.1
    (try dsimp only at Dy)
    have hXb:x1<st_b.next:=by(try dsimp only at uu);omega
    have kX:=hK.2 ⟨103004002,x1⟩ (by(try dsimp only);omega)
    have ku:=hK.2 u (by(try dsimp only);omega)
    have kt:=hK.2 ⟨103011017,st_b.next+1⟩ (by(try dsimp only);omega)
    simp only[go_sem, ↓reduceIte,Nat.reduceEqDiff,Nat.reduceAdd,Nat.reduceSub,Nat.reduceLeDiff,reduceCtorEq,vX,vu,h1,h4]at kX ku kt
    have ml:=oX (aD l i) T.2
    have hpe:iG T.2 ⟨(aD l i).aC,(aD l i).aQ⟩=iG T.2 (aD l i):=rfl
    rw[hpe]at p1 ⊢
    refine hN _ _ ?_
    clear hN N
    have UT:(T.1.map aa).length=T.1.length:=by simp
    have S4:T.1.length<=16777215:=by omega
    have uX:=eq_false h6
    have uX2:=eq_false (fun e:u=⟨103004002,x1⟩=>h6 e.symm)
    have ou:=eq_false h5
    have Vd:=dP (i:=u) (n:=x2) (by omega)
    have vX2:=dP (i:=⟨103004002,x1⟩) (n:=x2) (by(try dsimp only);omega)
    have Te:=dP (i:=⟨103011017,st_b.next+1⟩) (n:=x2) (by(try dsimp only);omega)
    have ut:=cZ (a:=u) (b:=⟨103011017,st_b.next+1⟩) (by(try dsimp only);omega)
    (try((repeat(revert hN;revert N;apply Pn.out));refine wk (tw @b11 (tw @b0 (tw @b1 (tw @b9 (tw @kX (tw @ku (tw @kt (tw @h3 (tw @uX (tw @uX2 (tw @ut (tw @Vd (tw @vX2 (tw @Te (tw @UT @S4))))))))))))))) ?_;(repeat(refine Pn.mk ?_;intro N hN))))
    have hd:decide ((T.1++[aD l i]).length≠S.1.length)=true:=decide_eq_true (by rw[iU];omega)
    have xz:=iU T.1 (aD l i)
    have rI:=rR T.1 (aD l i)
    have RZ:=dP (i:=o2) (n:=x2) (by omega)
    have uo2:=cZ (a:=u) (b:=o2) (by omega)
    have X2:=cZ (a:=⟨103004002,x1⟩) (b:=o2) (by(try dsimp only);omega)
    exact fC (sd (tw @b11 (tw @b0 (tw @b1 @b9)))) (by(try dsimp only);exact⟨by rw[qS,hd]<;>simp only[go_sem, ↓reduceIte,Nat.reduceEqDiff,Nat.reduceAdd,Nat.reduceSub,Nat.reduceLeDiff,reduceCtorEq],by
     rw[qS]
     exact⟨o2,⟨103014003,x2+1⟩,sl (tw @vX2 (tw @uX @ml)),sd (tw @RZ (tw @uo2 (tw @X2 @p1))),by rw[xz];simp only[go_sem, ↓reduceIte,Nat.reduceEqDiff,Nat.reduceAdd,Nat.reduceSub,Nat.reduceLeDiff,reduceCtorEq]<;>rfl,by rw[rI];simp only[go_sem, ↓reduceIte,Nat.reduceEqDiff,Nat.reduceAdd,Nat.reduceSub,Nat.reduceLeDiff,reduceCtorEq]<;>rfl,fun e=>by rw[e]at p3;(try dsimp only at p3);omega,fun e=>by injection e with e1 e2;revert e1;decide,by(try dsimp only);omega,fun e=>by rw[<-e]at p2;(try dsimp only at p2);omega,by(try dsimp only);omega,by(try dsimp only);omega⟩⟩)
  ·have lO:i=l.length:=by omega
   subst lO
   rw[pw]at AI bL xd IK
   have qz:=yw hI hA hm
   (try((repeat(revert hN;revert N;apply Pn.out));refine wk (tw @b11 (tw @b0 (tw @b1 (tw @b9 @hi)))) ?_;(repeat(refine Pn.mk ?_;intro N hN))))
   have Ss:KX ⟨103004002,x1⟩ (gE s l S) (env_b 8) st_b.get st_b.next:=bL
   by_cases he:(gE s l S).1.length=S.1.length
   ·refine⟨0,by show 0<m;omega,gE s l S,0,false,rfl,?_,fun h=>(by cases h),fun _=>(qz.1 he).symm.trans hF,AI,Ss.frame (sd @Nat.zero_add) (by(try dsimp only);omega) fun x _=>rfl⟩
    simp only[go_sem, ↓reduceIte,Nat.reduceEqDiff,Nat.reduceAdd,Nat.reduceSub,Nat.reduceLeDiff,reduceCtorEq,xd,he]<;>simp
   ·obtain⟨m',rfl,Lj,KN⟩:=qz.2 he
    refine⟨m',Nat.lt_succ_self _,gE s l S,m',true,rfl,?_,fun _=>⟨Lj.symm.trans hF,KN⟩,fun h=>(by cases h),AI,Ss.frame (sd @Nat.zero_add) (by(try dsimp only);omega) fun x _=>rfl⟩
    have hd:=decide_eq_true he
    simp only[go_sem, ↓reduceIte,Nat.reduceEqDiff,Nat.reduceAdd,Nat.reduceSub,Nat.reduceLeDiff,reduceCtorEq,xd]
    rw[hd]
theorem Ac {s:ax} {r a:List ab} (h:eX a r=false):pZ s r a=([],false):=if_neg (by rw[h];simp)
theorem wL {s:ax} {r a:List ab} (h:eX a r=true):pZ s r a=((kF (nW s a) r).1,decide (((kF (nW s a) r).2.length:Int)=(r.length:Int))):=if_pos h
theorem DQ (s:ax) (r a:List ab) (hn:gz s.aJ) (hg:s.aJ.aE.length<=1048576) (ht:s.aJ.ai.length<=1048576):aj Tryz.prog 102 [.cR (ar s),.cR [.sl (r.map aa)],.cR [.sl (a.map aa)]] (.int .i64 (jU s r a)):=by
 refine aj.body eH rfl fun hl n0=>?_
 clear hl
 have h1:=LQ s hn hg ht
 have h2:=(zN s.aJ r).cut mixed (.ptr _ [.sl (s.aU.ai.map aa),.int .i64 s.aB] (.same _ .nil))
 have h3:=(zN s.aJ a).cut mixed (.ptr _ [.sl (s.aU.ai.map aa),.int .i64 s.aB] (.same _ .nil))
 cases b1:lj s
 ·rw[b1]at h1
  (repeat(first|((repeat(revert hN;revert N;apply Pn.out));refine wk @Nat.zero_add ?_;(repeat(refine Pn.mk ?_;intro N hN)))|((try apply Or.inl);refine⟨_,aj.x (h1) (sd @Nat.zero_add),?_⟩;refine hN _ _ ?_;clear hN N)))
  exact bQ (b:=1) (.inl rfl) (sd @Nat.zero_add) (by rw[jU,b1];rfl)
 have hP:=kg.1 b1
 rw[b1]at h1
 rw[ar]at h1 ⊢
 rw[ad]at h2 h3
 cases b2:kD s.aJ r
 ·rw[b2]at h2
  (repeat(first|((repeat(revert hN;revert N;apply Pn.out));refine wk @ad.eq_1 ?_;(repeat(refine Pn.mk ?_;intro N hN)))|((try apply Or.inl);refine⟨_,aj.x (h1) (sd @ad.eq_1),?_⟩;refine hN _ _ ?_;clear hN N)|((try apply Or.inl);refine⟨_,aj.x (h2) (sd @ad.eq_1),?_⟩;refine hN _ _ ?_;clear hN N)))
  exact bQ (b:=1) (.inl rfl) (sd @Nat.zero_add) (by rw[jU,b1,b2];rfl)
 have hR:=fZ.1 b2
 rw[b2]at h2
 cases b3:kD s.aJ a
 ·rw[b3]at h3
  (repeat(first|((repeat(revert hN;revert N;apply Pn.out));refine wk @ad.eq_1 ?_;(repeat(refine Pn.mk ?_;intro N hN)))|((try apply Or.inl);refine⟨_,aj.x (h1) (sd @ad.eq_1),?_⟩;refine hN _ _ ?_;clear hN N)|((try apply Or.inl);refine⟨_,aj.x (h2) (sd @ad.eq_1),?_⟩;refine hN _ _ ?_;clear hN N)|((try apply Or.inl);refine⟨_,aj.x (h3) (sd @ad.eq_1),?_⟩;refine hN _ _ ?_;clear hN N)))
  exact bQ (b:=1) (.inl rfl) (sd @Nat.zero_add) (by rw[jU,b1,b2,b3];rfl)
 have hA:=fZ.1 b3
 rw[b3]at h3
 have h4:=(lU s.aU.ai r hR.1.uh (by have:=hR.1.lL;omega) (by have:=hP.nr.1.lL;omega)).cut mixed (.ptr _ [.int .i64 s.aB] (.same _ .nil))
 have h5:=(lU s.aU.ai a hA.1.uh (by have:=hA.1.lL;omega) (by have:=hP.nr.1.lL;omega)).cut mixed (.ptr _ [.int .i64 s.aB] (.same _ .nil))
 cases b4:eX s.aU.ai r
 ·rw[b4]at h4
  (repeat(first|((repeat(revert hN;revert N;apply Pn.out));refine wk @ad.eq_1 ?_;(repeat(refine Pn.mk ?_;intro N hN)))|((try apply Or.inl);refine⟨_,aj.x (h1) (sd @ad.eq_1),?_⟩;refine hN _ _ ?_;clear hN N)|((try apply Or.inl);refine⟨_,aj.x (h2) (sd @ad.eq_1),?_⟩;refine hN _ _ ?_;clear hN N)|((try apply Or.inl);refine⟨_,aj.x (h3) (sd @ad.eq_1),?_⟩;refine hN _ _ ?_;clear hN N)|((try apply Or.inl);refine⟨_,aj.x (h4) (sd @ad.eq_1),?_⟩;refine hN _ _ ?_;clear hN N)))
  exact bQ (b:=2) (.inl rfl) (sd @Nat.zero_add) (by rw[jU,b1,b2,b3,b4];rfl)
 rw[b4]at h4
 cases b5:eX s.aU.ai a
 ·rw[b5]at h5
  (repeat(first|((repeat(revert hN;revert N;apply Pn.out));refine wk @ad.eq_1 ?_;(repeat(refine Pn.mk ?_;intro N hN)))|((try apply Or.inl);refine⟨_,aj.x (h1) (sd @ad.eq_1),?_⟩;refine hN _ _ ?_;clear hN N)|((try apply Or.inl);refine⟨_,aj.x (h2) (sd @ad.eq_1),?_⟩;refine hN _ _ ?_;clear hN N)|((try apply Or.inl);refine⟨_,aj.x (h3) (sd @ad.eq_1),?_⟩;refine hN _ _ ?_;clear hN N)|((try apply Or.inl);refine⟨_,aj.x (h4) (sd @ad.eq_1),?_⟩;refine hN _ _ ?_;clear hN N)|((try apply Or.inl);refine⟨_,aj.x (h5) (sd @ad.eq_1),?_⟩;refine hN _ _ ?_;clear hN N)))
  exact bQ (b:=2) (.inl rfl) (sd @Nat.zero_add) (by rw[jU,b1,b2,b3,b4,b5];rfl)
 ·rw[b5]at h5
  (repeat(first|((repeat(revert hN;revert N;apply Pn.out));refine wk @ad.eq_1 ?_;(repeat(refine Pn.mk ?_;intro N hN)))|((try apply Or.inl);refine⟨_,aj.x (h1) (sd @ad.eq_1),?_⟩;refine hN _ _ ?_;clear hN N)|((try apply Or.inl);refine⟨_,aj.x (h2) (sd @ad.eq_1),?_⟩;refine hN _ _ ?_;clear hN N)|((try apply Or.inl);refine⟨_,aj.x (h3) (sd @ad.eq_1),?_⟩;refine hN _ _ ?_;clear hN N)|((try apply Or.inl);refine⟨_,aj.x (h4) (sd @ad.eq_1),?_⟩;refine hN _ _ ?_;clear hN N)|((try apply Or.inl);refine⟨_,aj.x (h5) (sd @ad.eq_1),?_⟩;refine hN _ _ ?_;clear hN N)))
  exact bQ (b:=0) (.inl rfl) (sd @Nat.zero_add) (by rw[jU,b1,b2,b3,b4,b5];rfl)
theorem Ab (s:ax) (r a:List ab) (hn:gz s.aJ) (hm:uV s) (hr:r.length<=1048576) (ha:a.length<=1048576):aj Tryz.prog 104 [.agg (ar s),.agg [.sl (r.map aa)],.agg [.sl (a.map aa)]] (.int .i64 (jU s r a)):=by
 refine aj.body eH rfl fun hl n0=>?_
 clear hl
 have h1:=rE s r hn hm hr
 have h2:=rE s a hn hm ha
 cases b1:xn s r
 ·rw[b1]at h1
  have he:jU s r a=1:=by
   have:(lj s&&(kD s.aJ r&&kD s.aJ a))=false:=by rw[<-Bool.and_assoc];unfold xn at b1;rw[b1,Bool.false_and]
   rw[jU,this];rfl
  rw[ar]at h1 ⊢
  (repeat(first|((repeat(revert hN;revert N;apply Pn.out));refine wk @Nat.zero_add ?_;(repeat(refine Pn.mk ?_;intro N hN)))|((try apply Or.inl);refine⟨_,aj.x (h1) (sd @Nat.zero_add),?_⟩;refine hN _ _ ?_;clear hN N)))
  exact bQ (b:=1) (.inl rfl) (sd @Nat.zero_add) he.symm
 obtain⟨hP,hR⟩:=AU.1 b1
 rw[b1]at h1
 cases b2:xn s a
 ·rw[b2]at h2
  have hs:lj s=true:=kg.2 hP
  have he:jU s r a=1:=by
   have:kD s.aJ a=false:=by unfold xn at b2;rw[hs,Bool.true_and]at b2;exact b2
   rw[jU,this,Bool.and_false,Bool.and_false];rfl
  rw[ar]at h1 h2 ⊢
  (repeat(first|((repeat(revert hN;revert N;apply Pn.out));refine wk @Nat.zero_add ?_;(repeat(refine Pn.mk ?_;intro N hN)))|((try apply Or.inl);refine⟨_,aj.x (h1) (sd @Nat.zero_add),?_⟩;refine hN _ _ ?_;clear hN N)|((try apply Or.inl);refine⟨_,aj.x (h2) (sd @Nat.zero_add),?_⟩;refine hN _ _ ?_;clear hN N)))
  exact bQ (b:=1) (.inl rfl) (sd @Nat.zero_add) he.symm
 obtain⟨_,hA⟩:=AU.1 b2
 rw[b2]at h2
 have dG:(lj s&&(kD s.aJ r&&kD s.aJ a))=true:=by rw[kg.2 hP,fZ.2 hR,fZ.2 hA];rfl
 have h3:=qf s.aU.ai r hP.nr.1 hR.1
 have h4:=qf s.aU.ai a hP.nr.1 hA.1
 rw[ar]at h1 h2 ⊢
 cases b3:eX s.aU.ai r
 ·rw[b3]at h3
  (repeat(first|((repeat(revert hN;revert N;apply Pn.out));refine wk @Nat.zero_add ?_;(repeat(refine Pn.mk ?_;intro N hN)))|((try apply Or.inl);refine⟨_,aj.x (h1) (sd @Nat.zero_add),?_⟩;refine hN _ _ ?_;clear hN N)|((try apply Or.inl);refine⟨_,aj.x (h2) (sd @Nat.zero_add),?_⟩;refine hN _ _ ?_;clear hN N)|((try apply Or.inl);refine⟨_,aj.x (h3) (sd @Nat.zero_add),?_⟩;refine hN _ _ ?_;clear hN N)))
  exact bQ (b:=2) (.inl rfl) (sd @Nat.zero_add) (by rw[jU,dG,b3];rfl)
 rw[b3]at h3
 cases b4:eX s.aU.ai a
 ·rw[b4]at h4
  (repeat(first|((repeat(revert hN;revert N;apply Pn.out));refine wk @Nat.zero_add ?_;(repeat(refine Pn.mk ?_;intro N hN)))|((try apply Or.inl);refine⟨_,aj.x (h1) (sd @Nat.zero_add),?_⟩;refine hN _ _ ?_;clear hN N)|((try apply Or.inl);refine⟨_,aj.x (h2) (sd @Nat.zero_add),?_⟩;refine hN _ _ ?_;clear hN N)|((try apply Or.inl);refine⟨_,aj.x (h3) (sd @Nat.zero_add),?_⟩;refine hN _ _ ?_;clear hN N)|((try apply Or.inl);refine⟨_,aj.x (h4) (sd @Nat.zero_add),?_⟩;refine hN _ _ ?_;clear hN N)))
  exact bQ (b:=2) (.inl rfl) (sd @Nat.zero_add) (by rw[jU,dG,b3,b4];rfl)
 ·rw[b4]at h4
  (repeat(first|((repeat(revert hN;revert N;apply Pn.out));refine wk @Nat.zero_add ?_;(repeat(refine Pn.mk ?_;intro N hN)))|((try apply Or.inl);refine⟨_,aj.x (h1) (sd @Nat.zero_add),?_⟩;refine hN _ _ ?_;clear hN N)|((try apply Or.inl);refine⟨_,aj.x (h2) (sd @Nat.zero_add),?_⟩;refine hN _ _ ?_;clear hN N)|((try apply Or.inl);refine⟨_,aj.x (h3) (sd @Nat.zero_add),?_⟩;refine hN _ _ ?_;clear hN N)|((try apply Or.inl);refine⟨_,aj.x (h4) (sd @Nat.zero_add),?_⟩;refine hN _ _ ?_;clear hN N)))
  exact bQ (b:=0) (.inl rfl) (sd @Nat.zero_add) (by rw[jU,dG,b3,b4];rfl)
theorem GZ (s:ax) (r a:List ab) (h:uR s r a) (σ:aw):Call Tryz.prog 105 [.agg (ar s),.agg [.sl (r.map aa)],.agg [.sl (a.map aa)]] σ (fun R σ'=>∃v,R=.gy [v,.bool (pZ s r a).2]/\(((pZ s r a).1=[]/\v=.cm)∨∃u:Id,v=.own u 0 (pZ s r a).1.length/\σ'.get u=some ⟨true,3,(pZ s r a).1.map aa⟩/\σ.next<=u.bY/\u.bY<σ'.next/\0<(pZ s r a).1.length)/\σ.next<=σ'.next):=by
 refine gY eH rfl fun j8=>?_
 clear j8
 have h1:=qf a r h.AF.1 h.right.1
 cases bw:eX a r
 ·rw[bw]at h1
  rw[Ac bw]
  (repeat(first|((repeat(revert hN;revert N;apply Pn.out));refine wk @ar.eq_1 ?_;(repeat(refine Pn.mk ?_;intro N hN)))|((try apply Or.inl);refine⟨_,aj.x (h1) (sd @ar.eq_1),?_⟩;refine hN _ _ ?_;clear hN N)))
  exact gV (.inl rfl) (vs:=[.cm,.bool false]) (sd @Nat.zero_add) ⟨.cm,rfl,.inl ⟨by first|exact rfl|trivial,rfl⟩,by(try dsimp only);omega⟩
 ·rw[bw]at h1
  rw[wL bw]
  have hc:=fun σ=>Je (nW s a) h.w r h.right bw σ
  have tH:(r.map aa).length=r.length:=by simp
  have Q3:(kF (nW s a) r).2.length<=16777215:=by
   have h2:=(BL h.w h.right bw).lL
   have h3:=h.right.1.lL
   omega
  obtain⟨R,hR⟩:∃R,kF (nW s a) r=R:=⟨_,rfl⟩
  rw[hR]at hc Q3 ⊢
  rw[ar]at hc
  (try dsimp only[nW]at hc)
  (repeat(first|((repeat(revert hN;revert N;apply Pn.out));refine wk @ar.eq_1 ?_;(repeat(refine Pn.mk ?_;intro N hN)))|((try apply Or.inl);refine⟨_,aj.x (h1) (sd @ar.eq_1),?_⟩;refine hN _ _ ?_;clear hN N)))
  refine .inr (bf _ _ _ _ _ (fun q σ1 hq=>?_) (hc _))
  obtain⟨g1,x1⟩:=σ1
  obtain⟨v,o,rfl,hv,ho,ho2,ho3,jm⟩:=hq
  (try dsimp only at hv ho ho2 ho3 jm)
  have k1:=jm ⟨105000001,σ.next⟩ (by(try dsimp only);omega)
  simp only[go_sem, ↓reduceIte,Nat.reduceEqDiff,Nat.reduceAdd,Nat.reduceSub,Nat.reduceLeDiff,reduceCtorEq]at k1
  refine hN _ _ ?_
  clear hN N
  have vW:v.cells=[v]/\v.cell=true:=by rcases hv with⟨_,rfl⟩|⟨u,rfl,_⟩<;>exact⟨rfl,rfl⟩
  have LC:=vW.1
  have Qc:=vW.2
  unfold AV.cells at LC
  unfold AV.cell at Qc
  (try((repeat(revert hN;revert N;apply Pn.out));refine wk (tw @k1 (tw @tH @ho)) ?_;(repeat(refine Pn.mk ?_;intro N hN))))
  refine gV (.inl rfl) (vs:=[v,.bool (decide ((R.2.length:Int)=(r.length:Int)))]) (sd @Nat.zero_add) ⟨v,rfl,?_,by(try dsimp only);omega⟩
  rcases hv with⟨h2,rfl⟩|⟨u,rfl,h3,h4,h5,h6,h7⟩
  ·exact .inl ⟨h2,rfl⟩
  ·have vu:=dP h5
   exact .inr ⟨u,rfl,sd (tw @vu @h3),by omega,by(try dsimp only);omega,h7⟩
def pY (qs:List au):List ab:=qs.map fun q=>⟨q,0⟩
theorem zV {qs:List au} {x:Nat} (h:x<(pY qs).length):(aD (pY qs) x).aC=kG qs x:=by
 have hx:x<qs.length:=by simpa[pY]using h
 rw[ei h,jT hx];simp[pY]
theorem O5 {qs:List au} {x:Nat} (h:x<(pY qs).length):(qs.map ae)[x]? =some (ae (aD (pY qs) x).aC):=by
 have hx:x<qs.length:=by simpa[pY]using h
 rw[zV h];exact yR hx
theorem Fy {qs:List au} (h:uS qs):iM (pY qs):=by
 intro i j zF hj
 have Lt:j<qs.length:=by simpa[pY]using hj
 rw[zV (by omega),zV hj,jT (by omega),jT Lt]
 exact(List.pairwise_iff_getElem.1 h) i j (by omega) Lt zF
theorem LU {qs:List au} {p:au} (h:uS qs):(decide (jy (pY qs) p<(pY qs).length)&&decide ((aD (pY qs) (jy (pY qs) p)).aC=p))=decide (p∈qs):=by
 have h1:=uF (l:=pY qs) (p:=p) (Fy h)
 rw[Bool.eq_iff_iff,Bool.and_eq_true,decide_eq_true_eq,decide_eq_true_eq,decide_eq_true_eq]
 constructor
 ·rintro⟨h2,h3⟩
  have hx:jy (pY qs) p<qs.length:=by simpa[pY]using h2
  rw[zV h2,jT hx]at h3
  rw[<-h3];exact List.getElem_mem hx
 ·intro hm
  by_cases hc:jy (pY qs) p<(pY qs).length/\(aD (pY qs) (jy (pY qs) p)).aC=p
  ·exact hc
  ·rw[if_neg hc]at h1
   exact absurd rfl (oL.1 (by omega:dm (pY qs) p<0) ⟨p,0⟩ (List.mem_map.2 ⟨p,hm,rfl⟩))
theorem C4 (qs:List au) (p:au) (hRq:uS qs) (CA:qs.length<=1048576):
  aj Tryz.prog 246 [.sl (qs.map ae),.agg (ae p),.fn 154 []] (.gy [.int .i64 (jy (pY qs) p),.bool (decide (jy (pY qs) p<(pY qs).length)&&decide ((aD (pY qs) (jy (pY qs) p)).aC=p))]):=by
 have hR:=Fy hRq
 have ly:(qs.map ae).length=(pY qs).length:=by simp[pY]
 have P9:qs.length=(pY qs).length:=by simp[pY]
 have UK:∀{x:Nat},x<(pY qs).length->(qs.map ae)[x]? =some (ae (aD (pY qs) x).aC):=fun {x} h=>O5 h
 rw[P9]at CA
 generalize pY qs=cells at hR ly P9 UK CA ⊢
 refine aj.body eH rfl fun hl n0=>?_
 clear hl
 (try((repeat(revert hN;revert N;apply Pn.out));refine wk (tw @ae.eq_1 (tw @ly @P9)) ?_;(repeat(refine Pn.mk ?_;intro N hN))))
 refine aZ (fun n env st=>∃i j:Nat,n=j-i/\i<=j/\j<=cells.length/\(∀x,x<i->iI (aD cells x).aC p=true)/\(∀x,j<=x->x<cells.length->iI (aD cells x).aC p=false)/\env 9=.int .i64 i/\env 10=.int .i64 j/\st.get ⟨246000000,n0⟩=some ⟨true,2,[ae p]⟩) cells.length ⟨0,cells.length,by omega,by omega,by omega,fun x h=>by omega,fun x h1 h2=>by omega,by(simp only[go_sem, ↓reduceIte,Nat.reduceEqDiff,Nat.reduceAdd,Nat.reduceSub,Nat.reduceLeDiff,reduceCtorEq])<;>rfl,sd @Nat.zero_add,sd @ae.eq_1⟩ ?_
 rintro n env st ⟨i,j,rfl,zF,hj,jZ,zC,h9,uu,hg⟩ fr
 have h0:=fr 0 (by kernel_rfl)
 have h2:=fr 2 (by kernel_rfl)
 have h4:=fr 4 (by kernel_rfl)
 have h8:=fr 8 (by kernel_rfl)
 simp only[go_sem, ↓reduceIte,Nat.reduceEqDiff,Nat.reduceAdd,Nat.reduceSub,Nat.reduceLeDiff,reduceCtorEq]at h0 h2 h4 h8
 clear fr
 by_cases dJ:(i:Int)<(j:Int)
 ·have e1:IntKind.i64.wrap ((i:Int)+j)=((i+j:Nat):Int):=by rw[bU (by omega)];rfl
  have hm:(i+j) / 2<cells.length:=by omega
  have fW:(qs.map ae)[(i+j) / 2]? =some (ae (aD cells ((i+j) / 2)).aC):=UK hm
  have e2:IntKind.i64.wrap ((IntKind.u64.wrap ((i+j:Nat):Int)).fdiv (2 ^ min 1 IntKind.u64.bits))=(((i+j) / 2:Nat):Int):=by
   have h:IntKind.u64.wrap ((i+j:Nat):Int)=((i+j:Nat):Int):=by rw[IntKind.wrap_u64];omega
   rw[h,show min 1 IntKind.u64.bits=1 from rfl,show((2:Int) ^ 1)=2 from rfl,Int.fdiv_eq_ediv_of_nonneg _ (by omega)]
   rw[bU (by omega)];omega
  have Ih:IntKind.i64.wrap ((IntKind.u64.wrap ((i+j:Nat):Int)).fdiv (2 ^ min 1 64))=(((i+j) / 2:Nat):Int):=e2
  have e3:=az (k:=(i+j) / 2) (by omega)
  by_cases hc:pR (aD cells ((i+j) / 2)).aC p<0
  ·have hl:iI (aD cells ((i+j) / 2)).aC p=true:=by rw[<-pj];simpa using hc
   (repeat(first|((repeat(revert hN;revert N;apply Pn.out));refine wk (tw @h0 (tw @h2 (tw @h4 (tw @h8 (tw @h9 (tw @uu (tw @hg (tw @dJ (tw @e1 (tw @e2 (tw @Ih (tw @fW (tw @hc (tw @ly @ae.eq_1)))))))))))))) ?_;(repeat(refine Pn.mk ?_;intro N hN)))|((try apply Or.inl);refine⟨_,aj.x (hZ (aD cells ((i+j) / 2)).aC p) (sd (tw @h0 (tw @h2 (tw @h4 (tw @h8 (tw @h9 (tw @uu (tw @hg (tw @dJ (tw @e1 (tw @e2 (tw @Ih (tw @fW (tw @hc (tw @ly @ae.eq_1))))))))))))))),?_⟩;refine hN _ _ ?_;clear hN N)))
   refine⟨_,?_,(i+j) / 2+1,j,rfl,by omega,hj,fun x hx=>?_,zC,sd @e3,sd @uu,sd (tw @hg @ae.eq_1)⟩
   ·omega
   ·by_cases Jb:x=(i+j) / 2
    ·subst Jb;exact hl
    ·exact il (hR x _ (by omega) hm) hl
  ·have hl:iI (aD cells ((i+j) / 2)).aC p=false:=by rw[<-pj];simpa using hc
   (repeat(first|((repeat(revert hN;revert N;apply Pn.out));refine wk (tw @h0 (tw @h2 (tw @h4 (tw @h8 (tw @h9 (tw @uu (tw @hg (tw @dJ (tw @e1 (tw @e2 (tw @Ih (tw @fW (tw @hc (tw @ly @ae.eq_1)))))))))))))) ?_;(repeat(refine Pn.mk ?_;intro N hN)))|((try apply Or.inl);refine⟨_,aj.x (hZ (aD cells ((i+j) / 2)).aC p) (sd (tw @h0 (tw @h2 (tw @h4 (tw @h8 (tw @h9 (tw @uu (tw @hg (tw @dJ (tw @e1 (tw @e2 (tw @Ih (tw @fW (tw @hc (tw @ly @ae.eq_1))))))))))))))),?_⟩;refine hN _ _ ?_;clear hN N)))
   refine⟨_,?_,i,(i+j) / 2,rfl,by omega,by omega,jZ,fun x h1 h2=>?_,sd @h9,sd (tw @e2 @Ih),sd (tw @hg @ae.eq_1)⟩
   ·omega
   ·by_cases Jb:x=(i+j) / 2
    ·subst Jb;exact hl
    ·rw[Bool.eq_false_iff]
     intro hc
     have h3:=il (hR ((i+j) / 2) x (by omega) h2) hc
     rw[hl]at h3;cases h3
 ·have IM:i=j:=by omega
  subst IM
  have vQ:jy cells p=i:=uE hj jZ fun h=>zC i (Nat.le_refl _) h
  by_cases hn:(i:Int)<(cells.length:Int)
  ·have fc:i<cells.length:=by omega
   have fW:(qs.map ae)[i]? =some (ae (aD cells i).aC):=UK fc
   have hd:decide (pR (aD cells i).aC p=0)=decide ((aD cells i).aC=p):=by simp only[x7]
   (repeat(first|((repeat(revert hN;revert N;apply Pn.out));refine wk (tw @h0 (tw @h2 (tw @h4 (tw @h8 (tw @h9 (tw @uu (tw @hg (tw @dJ (tw @hn (tw @fW (tw @ly @ae.eq_1))))))))))) ?_;(repeat(refine Pn.mk ?_;intro N hN)))|((try apply Or.inl);refine⟨_,aj.x (hZ (aD cells i).aC p) (sd (tw @h0 (tw @h2 (tw @h4 (tw @h8 (tw @h9 (tw @uu (tw @hg (tw @dJ (tw @hn (tw @fW (tw @ly @ae.eq_1)))))))))))),?_⟩;refine hN _ _ ?_;clear hN N)))
   refine iW (.inl rfl) (r1:=.int .i64 i) (r2:=.bool (decide ((aD cells i).aC=p))) ?_ ?_ ?_
   ·simp only[go_sem, ↓reduceIte,Nat.reduceEqDiff,Nat.reduceAdd,Nat.reduceSub,Nat.reduceLeDiff,reduceCtorEq]
   ·simp only[go_sem, ↓reduceIte,Nat.reduceEqDiff,Nat.reduceAdd,Nat.reduceSub,Nat.reduceLeDiff,reduceCtorEq,hd]
   ·simp only[dt,aS,bd,dr,eM,Option.map_some,vQ,fc,decide_true,Bool.true_and]
  ·have fc:¬i<cells.length:=by omega
   (try((repeat(revert hN;revert N;apply Pn.out));refine wk (tw @h0 (tw @h2 (tw @h4 (tw @h8 (tw @h9 (tw @uu (tw @hg (tw @dJ (tw @hn (tw @ly @ae.eq_1)))))))))) ?_;(repeat(refine Pn.mk ?_;intro N hN))))
   refine iW (.inl rfl) (r1:=.int .i64 i) (r2:=.bool false) ?_ ?_ ?_
   ·simp only[go_sem, ↓reduceIte,Nat.reduceEqDiff,Nat.reduceAdd,Nat.reduceSub,Nat.reduceLeDiff,reduceCtorEq]
   ·simp only[go_sem, ↓reduceIte,Nat.reduceEqDiff,Nat.reduceAdd,Nat.reduceSub,Nat.reduceLeDiff,reduceCtorEq]
   ·simp only[dt,aS,bd,dr,eM,Option.map_some,vQ,fc,decide_false,Bool.false_and]
end Go.Proofs.YtgoljkjaameagaaGreat.V

namespace Go.Proofs.YtgoljkjaameagaaGreat.V
open Go.RowKit
theorem K0 {s:ay} {l m:List ab} (hA:gL s l) (hR:iM m) (hm:∀x∈m,x∈l) (hlen:m.length<=l.length):gL s m:=by
 refine⟨⟨Nat.le_trans hlen hA.1.lL,fun i hi=>?_⟩,fun t ht=>hA.2 t (hm t ht)⟩
 obtain⟨j,hj,gP⟩:=List.getElem_of_mem (hm _ (fj hi))
 have h1:=hA.1.ok j hj
 rw[CT,ei hj,gP]at h1
 exact⟨h1.1,h1.2.1,fun h0=>hR _ _ (by omega) hi⟩
def G8 (s:ax) (x:ab):Bool:=decide (fK s.aU.ai x.aC=x.aQ)
def sf (s:ax) (a:List ab) (qs:List au) (i:Nat):Bool:=decide (0<=dm a (kG qs i))&&(!G8 s (aD a (dm a (kG qs i)).toNat)&&(decide (i=0)||iI (kG qs (i-1)) (kG qs i)))
noncomputable def p4 (s:ax) (a:List ab) (qs:List au):Bool:=@decide (∀i,i<qs.length->sf s a qs i=true) (Classical.propDecidable _)
theorem lq {s:ax} {a:List ab} {qs:List au}:p4 s a qs=true↔∀i,i<qs.length->sf s a qs i=true:=by simp[p4]
theorem xb {s:ax} {a:List ab} {qs:List au} {i:Nat} (hi:i<qs.length) (h:sf s a qs i=false):p4 s a qs=false:=by
 rw[Bool.eq_false_iff]
 intro hc
 have:=lq.1 hc i hi
 rw[h]at this;cases this
theorem mT {s:ax} {a:List ab} {qs:List au} {i:Nat} (h:sf s a qs i=true):0<=dm a (kG qs i)/\G8 s (aD a (dm a (kG qs i)).toNat)=false/\(i=0∨iI (kG qs (i-1)) (kG qs i)=true):=by
 unfold sf at h
 simp only[Bool.and_eq_true,decide_eq_true_eq,Bool.not_eq_true',Bool.or_eq_true]at h
 exact h
theorem FK {s:ax} {a:List ab} {qs:List au} (h:p4 s a qs=true):uS qs:=by
 have h1:=lq.1 h
 have key:∀d i j:Nat,j=i+1+d->j<qs.length->iI (kG qs i) (kG qs j)=true:=by
  intro d
  induction d with
  |zero=>
   intro i j hj hl
   subst hj
   rcases(mT (h1 (i+1+0) hl)).2.2 with h2|h2
   ·omega
   ·simpa using h2
  |succ d ih=>
   intro i j hj hl
   have h3:=ih i (i+1+d) rfl (by omega)
   rcases(mT (h1 j hl)).2.2 with h2|h2
   ·omega
   ·have e:j-1=i+1+d:=by omega
    rw[e]at h2
    exact il h3 h2
 unfold uS
 rw[List.pairwise_iff_getElem]
 intro i j hi hj zF
 have:=key (j-i-1) i j (by omega) hj
 rwa [jT hi,jT hj]at this
theorem Mw {s:ax} {a:List ab} {qs:List au} (h:p4 s a qs=true):∀q∈qs,q∈a.map (·.aC):=by
 intro q hq
 obtain⟨i,hi,rfl⟩:=List.getElem_of_mem hq
 obtain⟨h1,_,_⟩:=mT (lq.1 h i hi)
 obtain⟨h2,h3⟩:=gj h1
 rw[jT hi]at h3
 rw[<-h3]
 exact List.mem_map_of_mem (f:=(·.aC)) (fj (by rw[jT hi]at h2;exact h2))
theorem Mi {L:List au} (h:uS L):L.Nodup:=List.Pairwise.imp (fun {a b} po e=>by rw[e,iF]at po;cases po) h
theorem AB {s:ax} {a:List ab} {qs:List au} (h:p4 s a qs=true):qs.length<=a.length:=by
 have:=sW (Mi (FK h)) (Mw h)
 rwa [List.length_map]at this
def ib (s:ax) (a:List ab):List au:=(a.filter fun x=> !G8 s x).map (·.aC)
theorem J2 {s:ax} {a:List ab} (h:iM a):uS (ib s a):=by
 rw[k9]at h
 unfold ib uS
 rw[List.pairwise_map]
 exact List.Pairwise.sublist List.filter_sublist h
theorem DJ {a:List ab} (h:iM a) {i:Nat} (hi:i<a.length):dm a a[i].aC=i:=by
 have h0:0<=dm a a[i].aC:=by
  rcases Int.lt_or_le (dm a a[i].aC) 0 with h0|h0
  ·exact absurd rfl (oL.1 h0 a[i] (List.getElem_mem hi))
  ·exact h0
 obtain⟨h1,h2⟩:=gj h0
 have h3:(dm a a[i].aC).toNat=i:=by
  rcases Nat.lt_trichotomy (dm a a[i].aC).toNat i with h4|h4|h4
  ·have:=h _ _ h4 hi
   rw[h2,ei hi,iF]at this;cases this
  ·exact h4
  ·have:=h _ _ h4 h1
   rw[h2,ei hi,iF]at this;cases this
 omega
theorem J1 {s:ax} {a:List ab} (h:iM a) (p:au):p∈ib s a↔0<=dm a p/\G8 s (aD a (dm a p).toNat)=false:=by
 unfold ib
 rw[List.mem_map]
 constructor
 ·rintro⟨x,hx,rfl⟩
  obtain⟨h1,h2⟩:=List.mem_filter.1 hx
  obtain⟨i,hi,rfl⟩:=List.getElem_of_mem h1
  rw[DJ h hi]
  refine⟨by omega,?_⟩
  rw[Int.toNat_natCast,ei hi]
  simpa using h2
 ·rintro⟨h1,h2⟩
  obtain⟨h3,h4⟩:=gj h1
  rw[ei h3]at h2 h4
  exact⟨_,List.mem_filter.2 ⟨List.getElem_mem h3,by rw[h2];rfl⟩,h4⟩
theorem pz {p:ab->Bool} {a:List ab} (h:iM a):iM (cV p a):=by
 rw[k9]at h ⊢
 exact List.Pairwise.sublist List.filter_sublist h
theorem GA {p:ab->Bool} {a:List ab}:∀x∈cV p a,x∈a:=fun x hx=>(List.mem_filter.1 hx).1
theorem Gy {s:ay} {p:ab->Bool} {a:List ab} (h:gL s a):gL s (cV p a):=K0 h (pz h.1.uh) GA (yC p a)
theorem HY {a:List ab} (h:iM a) {x:ab} (hx:x∈a):fK a x.aC=x.aQ:=by
 obtain⟨i,hi,rfl⟩:=List.getElem_of_mem hx
 unfold fK
 rw[DJ h hi,if_pos (by omega),Int.toNat_natCast,ei hi]
theorem HZ {a:List ab} {x:ab} (h:fK a x.aC=x.aQ) (h0:0<=x.aQ):x∈a:=by
 by_cases hc:0<=dm a x.aC
 ·obtain⟨h1,h2⟩:=gj hc
  rw[fK,if_pos hc]at h
  have:x=aD a (dm a x.aC).toNat:=by
   cases tJ:aD a (dm a x.aC).toNat with
   |mk b t=>rw[tJ]at h h2;cases x;simp_all
  rw[this];exact fj h1
 ·rw[fK,if_neg hc]at h;omega
theorem Kt {s:ax} {a:List ab} {qs:List au} (hR:iM a) (h:p4 s a qs=true) {x:ab} (hx:x∈a) (hs:G8 s x=true):x.aC∉qs:=by
 intro hq
 obtain⟨i,hi,CG⟩:=List.getElem_of_mem hq
 obtain⟨j,hj,rfl⟩:=List.getElem_of_mem hx
 have h1:=(mT (lq.1 h i hi)).2.1
 rw[jT hi,CG,DJ hR hj,Int.toNat_natCast,ei hj,hs]at h1
 cases h1
theorem FJ {s:ax} {r a:List ab} {qs:List au} (h:uR s r a) (hw:p4 s a qs=true):uR s r (cV (iS qs) a):=by
 refine⟨h.sys,h.right,Gy h.AF,h.wr,?_⟩
 have h1:=h.wa
 unfold eX at h1 ⊢
 rw[List.all_eq_true]at h1 ⊢
 intro x hx
 have h2:=of_decide_eq_true (h1 x hx)
 have h0:=(ek (h.sys.nr.2 x hx)).1
 have h3:=HZ h2 h0
 have h4:G8 s x=true:=decide_eq_true (HY h.sys.nr.1.uh hx)
 have h5:=Kt h.AF.1.uh hw h3 h4
 refine decide_eq_true (HY (pz h.AF.1.uh) (List.mem_filter.2 ⟨h3,?_⟩))
 unfold iS
 rw[decide_eq_false h5];rfl
end Go.Proofs.YtgoljkjaameagaaGreat.V

namespace Go.Proofs.YtgoljkjaameagaaGreat.V
open Go.RowKit
attribute [local irreducible] dE wpOps fS Call
attribute [local go_sem] aH fq eG fH fG cX upd bZ K.av cD AV.cells AV.cell rowOf rowsOf part ld rowAt br bP dn dR gK bx cQ eb fD eS di dW cN cL dH dI bD aW cF bB cH cG dU dX dV cE bG cP dS bz aI cJ cq gJ bj cz bE aT de aX dp AV.undef bq bt dL dQ dB dz cw ea ee cj dZ dY cI cK List.getD_cons_zero List.getD_cons_succ List.getD_nil List.all_cons List.all_nil Bool.and_true Bool.true_and Bool.and_self Bool.not_true Bool.not_false Option.map_some Option.map_none Option.bind_some Option.bind_none List.length_cons List.length_nil List.take_succ_cons List.take_zero List.take_nil List.drop_succ_cons List.drop_zero List.drop_nil List.head?_cons List.map_cons List.map_nil List.getElem?_cons_zero List.getElem?_cons_succ List.cons_append List.nil_append List.append_nil List.length_map List.set_cons_zero List.set_cons_succ Nat.reduceMul eq_self Int.toNat_natCast Int.natCast_nonneg and_self true_and and_true decide_true decide_false Bool.false_eq_true Nat.zero_add Nat.add_zero List.contains_cons List.contains_nil Bool.or_false Bool.false_or beq_self_eq_true Nat.reduceBEq ne_eq not_true_eq_false not_false_eq_true Id.mk.injEq false_and and_false Nat.reduceLT Int.reduceLE Int.reduceLT Int.reduceToNat Int.reduceNeg Int.reduceAdd Nat.le_refl List.length_append beq_true beq_false Bool.not_eq_eq_eq_not or_false false_or dD ah aq aF aY bp bK aP bc aN aV cC bF
theorem zK (s:ax) (hA:gL s.aJ s.aU.ai) (x:ab):aj Tryz.prog 245 [.agg (ar s),.agg (aa x)] (.bool (G8 s x)):=by
 refine aj.body eH rfl fun hl n0=>?_
 clear hl
 have h:=Qu s.aU.ai x.aC hA.1.uh (by have:=hA.1.lL;omega)
 rw[ae]at h
 (repeat(first|((repeat(revert hN;revert N;apply Pn.out));refine wk (tw @ar.eq_1 @aa.eq_1) ?_;(repeat(refine Pn.mk ?_;intro N hN)))|((try apply Or.inl);refine⟨_,aj.x (h) (sd (tw @ar.eq_1 @aa.eq_1)),?_⟩;refine hN _ _ ?_;clear hN N)))
 exact aM (b:=decide (fK s.aU.ai x.aC=x.aQ)) (.inl rfl) (sd @Nat.zero_add) rfl
theorem OO (qs:List au) (p:au) (hR:uS qs) (hl:qs.length<=1048576):aj Tryz.prog 178 [.sl (qs.map ae),.agg (ae p)] (.bool (decide (p∈qs))):=by
 refine aj.body eH rfl fun j8 n0=>?_
 clear j8
 have h:=C4 qs p hR hl
 rw[LU hR,ae]at h
 (repeat(first|((repeat(revert hN;revert N;apply Pn.out));refine wk @ae.eq_1 ?_;(repeat(refine Pn.mk ?_;intro N hN)))|((try apply Or.inl);refine⟨_,aj.x (h) (sd @ae.eq_1),?_⟩;refine hN _ _ ?_;clear hN N)))
 exact aM (b:=decide (p∈qs)) (.inl rfl) (sd @Nat.zero_add) rfl
theorem G9 {s:ax} {a:List ab} {k:Nat} (h:k<a.length):ib s (a.take (k+1))=ib s (a.take k)++if G8 s (aD a k)=true then[]else[(aD a k).aC]:=by
 unfold ib
 rw[List.take_succ_eq_append_getElem h,List.filter_append,List.map_append,ei h]
 congr 1
 cases hb:G8 s a[k]<;>simp[hb]
theorem Cm (s:ax) (a:List ab):(ib s a).length<=a.length:=by
 unfold ib;rw[List.length_map];exact List.length_filter_le _ _
def PN (L:List au) (v:AV) (g:Rows) (n:Nat):Prop:=(L=[]/\v=.cm)∨∃u:Id,v=.own u 0 L.length/\g u=some ⟨true,2,L.map ae⟩/\u.bY<n/\0<L.length/\u.site=177006004
theorem PN.frame {L:List au} {v v':AV} {g g':Rows} {n n':Nat} (h:PN L v g n) (he:v'=v) (hn:n<=n') (hf:∀x:Id,x.bY<n->g' x=g x):PN L v' g' n':=by
 subst he
 rcases h with h|⟨u,h1,h2,h3,h4⟩
 ·exact .inl h
 ·exact .inr ⟨u,h1,(hf u h3).trans h2,by omega,h4⟩
theorem Pe (s:ax) (hA:gL s.aJ s.aU.ai) (a:List ab) (ha:a.length<=1048576):∃w,(w=.cm/\ib s a=[]∨w=.sl ((ib s a).map ae))/\aj Tryz.prog 177 [.agg (ar s),.agg [.sl (a.map aa)]] w:=by
 refine⟨if ib s a=[]then .cm else .sl ((ib s a).map ae),?_,?_⟩
 ·by_cases h:ib s a=[]
  ·exact .inl ⟨if_pos h,h⟩
  ·exact .inr (if_neg h)
 refine aj.body eH rfl fun j8 n0=>?_
 clear j8
 have eF:(a.map aa).length=a.length:=by simp
 (try((repeat(revert hN;revert N;apply Pn.out));refine wk @eF ?_;(repeat(refine Pn.mk ?_;intro N hN))))
 refine aZ (fun n env st=>∃k:Nat,n=(a.length)-k/\k<=(a.length)/\env 11=.int .i64 (k:Int)/\st.get ⟨177000000,n0⟩=some ⟨true,4,[ar s]⟩/\(n0+1<=st.next/\PN (ib s (a.take k)) (env 5) st.get st.next)) (a.length) ⟨0,by omega,by omega,sl (tw @eF @ar.eq_1),sl (tw @eF @ar.eq_1),by(try dsimp only);exact⟨by omega,.inl ⟨rfl,sd @Nat.zero_add⟩⟩⟩ ?_
 rintro n_b env_b st_b ⟨k,rfl,ble,b11,bg0,bI0⟩ fM
 have b2:=fM 2 (by kernel_rfl);have b9:=fM 9 (by kernel_rfl);have xd:=fM 10 (by kernel_rfl)
 simp only[go_sem, ↓reduceIte,Nat.reduceEqDiff,Nat.reduceAdd,Nat.reduceSub,Nat.reduceLeDiff,reduceCtorEq,eF,ar]at b2 b9 xd
 clear fM
 obtain⟨bn,b5⟩:=bI0
 have vS:=dP (i:=⟨177000000,n0⟩) (n:=st_b.next) (by(try dsimp only);omega)
 by_cases hk:(k:Int)<(a.length:Int)
 ·have fC:∀{e:Env} {gg:Rows} {nx:Nat},(e 11=.int .i64 (IntKind.i64.wrap ((k:Int)+1)))->(gg ⟨177000000,n0⟩=some ⟨true,4,[ar s]⟩)->(n0+1<=nx/\PN (ib s (a.take (k+1))) (e 5) gg nx)->∃m0,m0<(a.length)-k/\∃k:Nat,m0=(a.length)-k/\k<=(a.length)/\e 11=.int .i64 (k:Int)/\gg ⟨177000000,n0⟩=some ⟨true,4,[ar s]⟩/\(n0+1<=nx/\PN (ib s (a.take k)) (e 5) gg nx):=fun x1 x2 x3=>⟨_,by omega,k+1,rfl,by omega,(by rw[x1,az (by omega)]),x2,x3⟩
  have fm:k<a.length:=by omega
  have eh:=fa fm
  have uB:=zK s hA (aD a k)
  have qS:=G9 (s:=s) fm
  have hlen:=Cm s (a.take k)
  rw[List.length_take]at hlen
  rw[ar]at uB
  generalize aD a k=x at eh uB qS
  generalize ib s (a.take k)=M at b5 qS hlen
  cases hb:G8 s x
  ·rw[hb]at uB qS
   rw[if_neg (by simp)]at qS
   have HC:(ib s (a.take (k+1))).map ae=M.map ae++[[.int .i64 x.aC.eT,.int .i64 x.aC.eO]]:=by rw[qS,List.map_append];rfl
   have uC:(ib s (a.take (k+1))).length=M.length+1:=by rw[qS];simp
   rcases b5 with⟨hM,b5⟩|⟨u,b5,hug,I8,kr,S5⟩
   ·subst hM
    (repeat(first|((repeat(revert hN;revert N;apply Pn.out));refine wk (tw @b11 (tw @bg0 (tw @b2 (tw @b9 (tw @xd (tw @hk (tw @eh (tw @eF (tw @vS (tw @b5 (tw @ar.eq_1 @aa.eq_1))))))))))) ?_;(repeat(refine Pn.mk ?_;intro N hN)))|((try apply Or.inl);refine⟨_,aj.x (uB) (sd (tw @b11 (tw @bg0 (tw @b2 (tw @b9 (tw @xd (tw @hk (tw @eh (tw @eF (tw @vS (tw @b5 (tw @ar.eq_1 @aa.eq_1)))))))))))),?_⟩;refine hN _ _ ?_;clear hN N)))
    refine fC ?_ ?_ (by(try dsimp only);exact⟨by omega,.inr ⟨⟨177006004,st_b.next+1+1+1⟩,by rw[uC];simp only[go_sem, ↓reduceIte,Nat.reduceEqDiff,Nat.reduceAdd,Nat.reduceSub,Nat.reduceLeDiff,reduceCtorEq]<;>rfl,by rw[HC];simp only[go_sem, ↓reduceIte,Nat.reduceEqDiff,Nat.reduceAdd,Nat.reduceSub,Nat.reduceLeDiff,reduceCtorEq]<;>rfl,by(try dsimp only);omega,by rw[uC];omega,rfl⟩⟩)
    all_goals simp only[go_sem, ↓reduceIte,Nat.reduceEqDiff,Nat.reduceAdd,Nat.reduceSub,Nat.reduceLeDiff,reduceCtorEq,b11,bg0,b2,b9,xd,vS,eF,ar]
   ·have vu:=dP I8
    have KO:(M.map ae).length=M.length:=by simp
    have hM1:M.length<=16777215:=by omega
    have ux:=gH S5 (b:=177000000) (v:=n0) (by decide)
    (repeat(first|((repeat(revert hN;revert N;apply Pn.out));refine wk (tw @b11 (tw @bg0 (tw @b2 (tw @b9 (tw @xd (tw @hk (tw @eh (tw @eF (tw @vS (tw @b5 (tw @hug (tw @vu (tw @KO (tw @hM1 (tw @ux (tw @ar.eq_1 @aa.eq_1)))))))))))))))) ?_;(repeat(refine Pn.mk ?_;intro N hN)))|((try apply Or.inl);refine⟨_,aj.x (uB) (sd (tw @b11 (tw @bg0 (tw @b2 (tw @b9 (tw @xd (tw @hk (tw @eh (tw @eF (tw @vS (tw @b5 (tw @hug (tw @vu (tw @KO (tw @hM1 (tw @ux (tw @ar.eq_1 @aa.eq_1))))))))))))))))),?_⟩;refine hN _ _ ?_;clear hN N)))
    refine fC ?_ ?_ (by(try dsimp only);exact⟨by omega,.inr ⟨⟨177006004,st_b.next+1+1+1⟩,by rw[uC];simp only[go_sem, ↓reduceIte,Nat.reduceEqDiff,Nat.reduceAdd,Nat.reduceSub,Nat.reduceLeDiff,reduceCtorEq]<;>rfl,by rw[HC];simp only[go_sem, ↓reduceIte,Nat.reduceEqDiff,Nat.reduceAdd,Nat.reduceSub,Nat.reduceLeDiff,reduceCtorEq]<;>rfl,by(try dsimp only);omega,by rw[uC];omega,rfl⟩⟩)
    all_goals simp only[go_sem, ↓reduceIte,Nat.reduceEqDiff,Nat.reduceAdd,Nat.reduceSub,Nat.reduceLeDiff,reduceCtorEq,b11,bg0,b2,b9,xd,vS,ux,eF,ar]
  ·rw[hb]at uB qS
   rw[if_pos rfl,List.append_nil]at qS
   (repeat(first|((repeat(revert hN;revert N;apply Pn.out));refine wk (tw @b11 (tw @bg0 (tw @b2 (tw @b9 (tw @xd (tw @hk (tw @eh (tw @eF (tw @vS (tw @ar.eq_1 @aa.eq_1)))))))))) ?_;(repeat(refine Pn.mk ?_;intro N hN)))|((try apply Or.inl);refine⟨_,aj.x (uB) (sd (tw @b11 (tw @bg0 (tw @b2 (tw @b9 (tw @xd (tw @hk (tw @eh (tw @eF (tw @vS (tw @ar.eq_1 @aa.eq_1))))))))))),?_⟩;refine hN _ _ ?_;clear hN N)))
   refine fC ?_ ?_ (by(try dsimp only);exact⟨by omega,by rw[qS];exact b5.frame (sd @Nat.zero_add) (by omega) fun x hx=>(by have h9:=dP hx;simp only[go_sem, ↓reduceIte,Nat.reduceEqDiff,Nat.reduceAdd,Nat.reduceSub,Nat.reduceLeDiff,reduceCtorEq,h9])⟩)
   all_goals simp only[go_sem, ↓reduceIte,Nat.reduceEqDiff,Nat.reduceAdd,Nat.reduceSub,Nat.reduceLeDiff,reduceCtorEq,b11,bg0,b2,b9,xd,vS,eF,ar]
 ·have kq:k=a.length:=by omega
  subst kq
  rw[List.take_length]at b5
  (try((repeat(revert hN;revert N;apply Pn.out));refine wk (tw @b11 (tw @bg0 (tw @b2 (tw @b9 (tw @xd (tw @hk @eF)))))) ?_;(repeat(refine Pn.mk ?_;intro N hN))))
  rcases b5 with⟨hM,b5⟩|⟨u,b5,hug,I8,kr,S5⟩
  ·rw[if_pos hM]
   exact iJ (.inl rfl) (vs:=[.cm]) (sd @b5) (by simp only[eL,jt])
  ·rw[if_neg (by intro h;rw[h]at kr;simp at kr)]
   exact iJ (.inl rfl) (vs:=[.own u 0 (ib s a).length]) (sd @b5) (by
    simp only[eL]
    exact eY (e:=ae) (n:=5) hug rfl fun x=>by simp[ae,aS,bd,dr])
theorem Ku {s:ax} {a:List ab} {qs:List au} (h:iM a) (i:Nat):sf s a qs i=(decide (kG qs i∈ib s a)&&(decide (i=0)||iI (kG qs (i-1)) (kG qs i))):=by
 unfold sf
 rw[<-Bool.and_assoc]
 congr 1
 rw[Bool.eq_iff_iff,Bool.and_eq_true,decide_eq_true_eq,decide_eq_true_eq,J1 h,Bool.not_eq_true']
theorem Gw (s:ax) (hA:gL s.aJ s.aU.ai) (a:List ab) (hF:iM a) (ha:a.length<=1048576) (qs:List au) (hq:qs.length<=1048576):aj Tryz.prog 110 [.agg (ar s),.agg [.sl (a.map aa)],.sl (qs.map ae)] (.bool (p4 s a qs)):=by
 refine aj.body eH rfl fun j8 n0=>?_
 clear j8
 obtain⟨w,hw,h1⟩:=Pe s hA a ha
 have uC:=Cm s a
 have fc:∀p,aj Tryz.prog 178 [w,.agg (ae p)] (.bool (decide (p∈ib s a))):=fun p=>by
  have h:=OO (ib s a) p (J2 hF) (by omega)
  rcases hw with⟨rfl,hs⟩|rfl
  ·rw[hs]at h ⊢
   exact h.cut mixed (.cm (.same _ .nil))
  ·exact h
 have KU:∀g n,fz g (n+1) w=some w:=fun g n=>by
  rcases hw with⟨rfl,_⟩|rfl
  ·exact aP _ _
  ·exact bK _ _ _
 have eF:(qs.map ae).length=qs.length:=by simp
 rw[ar]at h1 ⊢
 (repeat(first|((repeat(revert hN;revert N;apply Pn.out));refine wk @eF ?_;(repeat(refine Pn.mk ?_;intro N hN)))|((try apply Or.inl);refine⟨_,aj.x (h1) (sd @eF),?_⟩;refine hN _ _ ?_;clear hN N)))
 refine aZ (fun n env st=>∃k:Nat,n=(qs.length)-k/\k<=(qs.length)/\env 15=.int .i64 (k:Int)/\(∀j:Nat,j<k->sf s a qs j=true)) (qs.length) ⟨0,by omega,by omega,sl @eF,fun _ h=>absurd h (Nat.not_lt_zero _)⟩ ?_
 rintro n_f env_f st_f ⟨k,rfl,fle,f15,fA0⟩ ffr
 have f2:=ffr 2 (by kernel_rfl);have f7:=ffr 7 (by kernel_rfl);have f13:=ffr 13 (by kernel_rfl);have f14:=ffr 14 (by kernel_rfl)
 simp only[go_sem, ↓reduceIte,Nat.reduceEqDiff,Nat.reduceAdd,Nat.reduceSub,Nat.reduceLeDiff,reduceCtorEq,eF]at f2 f7 f13 f14
 clear ffr
 by_cases hk:(k:Int)<(qs.length:Int)
 ·have kd:∀{e:Env},(e 15=.int .i64 (IntKind.i64.wrap ((k:Int)+1)))->(sf s a qs k=true)->∃m0,m0<(qs.length)-k/\∃k:Nat,m0=(qs.length)-k/\k<=(qs.length)/\e 15=.int .i64 (k:Int)/\(∀j:Nat,j<k->sf s a qs j=true):=fun x1 x2=>⟨_,by omega,k+1,rfl,by omega,(by rw[x1,az (by omega)]),(all_succ fA0 x2)⟩
  have fm:k<qs.length:=by omega
  have eh:=yR fm
  have hi:=fc (kG qs k)
  have rK:=Ku (s:=s) (qs:=qs) hF k
  rw[ae]at hi
  cases b1:decide (kG qs k∈ib s a)
  ·rw[b1]at hi rK
   rw[Bool.false_and]at rK
   have jH:=xb fm rK
   (repeat(first|((repeat(revert hN;revert N;apply Pn.out));refine wk (tw @f15 (tw @f2 (tw @f7 (tw @f13 (tw @f14 (tw @hk (tw @eh (tw @eF (tw @KU @ae.eq_1))))))))) ?_;(repeat(refine Pn.mk ?_;intro N hN)))|((try apply Or.inl);refine⟨_,aj.x (hi) (sd (tw @f15 (tw @f2 (tw @f7 (tw @f13 (tw @f14 (tw @hk (tw @eh (tw @eF (tw @KU @ae.eq_1)))))))))),?_⟩;refine hN _ _ ?_;clear hN N)))
   exact aM (b:=false) (.inl rfl) (sd @Nat.zero_add) jH.symm
  ·rw[b1]at hi rK
   rw[Bool.true_and]at rK
   by_cases lz:(0:Int)<(k:Int)
   ·have sk:k-1<qs.length:=by omega
    have qy:=yR sk
    have mW:IntKind.i64.wrap ((k:Int)-1)=((k-1:Nat):Int):=by rw[bU (by omega)];omega
    have mC:0<=((k-1:Nat):Int):=by omega
    have hl:=Fm (kG qs (k-1)) (kG qs k)
    have On:decide (k=0)=false:=decide_eq_false (by omega)
    rw[On,Bool.false_or]at rK
    rw[ae,ae]at hl
    cases b2:iI (kG qs (k-1)) (kG qs k)
    ·rw[b2]at hl rK
     have jH:=xb fm rK
     (repeat(first|((repeat(revert hN;revert N;apply Pn.out));refine wk (tw @f15 (tw @f2 (tw @f7 (tw @f13 (tw @f14 (tw @hk (tw @lz (tw @eh (tw @qy (tw @mW (tw @mC (tw @eF (tw @KU @ae.eq_1))))))))))))) ?_;(repeat(refine Pn.mk ?_;intro N hN)))|((try apply Or.inl);refine⟨_,aj.x (hi) (sd (tw @f15 (tw @f2 (tw @f7 (tw @f13 (tw @f14 (tw @hk (tw @lz (tw @eh (tw @qy (tw @mW (tw @mC (tw @eF (tw @KU @ae.eq_1)))))))))))))),?_⟩;refine hN _ _ ?_;clear hN N)|((try apply Or.inl);refine⟨_,aj.x (hl) (sd (tw @f15 (tw @f2 (tw @f7 (tw @f13 (tw @f14 (tw @hk (tw @lz (tw @eh (tw @qy (tw @mW (tw @mC (tw @eF (tw @KU @ae.eq_1)))))))))))))),?_⟩;refine hN _ _ ?_;clear hN N)))
     exact aM (b:=false) (.inl rfl) (sd @Nat.zero_add) jH.symm
    ·rw[b2]at hl rK
     (repeat(first|((repeat(revert hN;revert N;apply Pn.out));refine wk (tw @f15 (tw @f2 (tw @f7 (tw @f13 (tw @f14 (tw @hk (tw @lz (tw @eh (tw @qy (tw @mW (tw @mC (tw @eF (tw @KU @ae.eq_1))))))))))))) ?_;(repeat(refine Pn.mk ?_;intro N hN)))|((try apply Or.inl);refine⟨_,aj.x (hi) (sd (tw @f15 (tw @f2 (tw @f7 (tw @f13 (tw @f14 (tw @hk (tw @lz (tw @eh (tw @qy (tw @mW (tw @mC (tw @eF (tw @KU @ae.eq_1)))))))))))))),?_⟩;refine hN _ _ ?_;clear hN N)|((try apply Or.inl);refine⟨_,aj.x (hl) (sd (tw @f15 (tw @f2 (tw @f7 (tw @f13 (tw @f14 (tw @hk (tw @lz (tw @eh (tw @qy (tw @mW (tw @mC (tw @eF (tw @KU @ae.eq_1)))))))))))))),?_⟩;refine hN _ _ ?_;clear hN N)))
     exact kd (sd (tw @f15 (tw @f2 (tw @f7 (tw @f13 (tw @f14 @eF)))))) (rK)
   ·have On:decide (k=0)=true:=decide_eq_true (by omega)
    rw[On,Bool.true_or]at rK
    (repeat(first|((repeat(revert hN;revert N;apply Pn.out));refine wk (tw @f15 (tw @f2 (tw @f7 (tw @f13 (tw @f14 (tw @hk (tw @lz (tw @eh (tw @eF (tw @KU @ae.eq_1)))))))))) ?_;(repeat(refine Pn.mk ?_;intro N hN)))|((try apply Or.inl);refine⟨_,aj.x (hi) (sd (tw @f15 (tw @f2 (tw @f7 (tw @f13 (tw @f14 (tw @hk (tw @lz (tw @eh (tw @eF (tw @KU @ae.eq_1))))))))))),?_⟩;refine hN _ _ ?_;clear hN N)))
    exact kd (sd (tw @f15 (tw @f2 (tw @f7 (tw @f13 (tw @f14 @eF)))))) (rK)
 ·have kq:k=qs.length:=by omega
  subst kq
  (try((repeat(revert hN;revert N;apply Pn.out));refine wk (tw @f15 (tw @f2 (tw @f7 (tw @f13 (tw @f14 (tw @hk @eF)))))) ?_;(repeat(refine Pn.mk ?_;intro N hN))))
  exact aM (b:=true) (.inl rfl) (sd @Nat.zero_add) (lq.2 fun i hi=>fA0 i hi).symm
theorem DP (s:ax) (hA:gL s.aJ s.aU.ai) (a:List ab) (hF:iM a) (ha:a.length<=1048576) (qs:List au) (hq:qs.length<=1048576):aj Tryz.prog 107 [.cR (ar s),.cR [.sl (a.map aa)],.sl (qs.map ae)] (.bool (p4 s a qs)):=by
 refine aj.body eH rfl fun j8 n0=>?_
 clear j8
 have eF:(qs.map ae).length=qs.length:=by simp
 have SO:(a.map aa).length=a.length:=by simp
 by_cases hlen:(a.length:Int)<(qs.length:Int)
 ·have jH:p4 s a qs=false:=by
   rw[Bool.eq_false_iff]
   intro hc
   have:=AB hc
   omega
  (try((repeat(revert hN;revert N;apply Pn.out));refine wk (tw @eF (tw @SO @hlen)) ?_;(repeat(refine Pn.mk ?_;intro N hN))))
  exact aM (b:=false) (.inl rfl) (sd @Nat.zero_add) jH.symm
 (try((repeat(revert hN;revert N;apply Pn.out));refine wk (tw @eF (tw @SO @hlen)) ?_;(repeat(refine Pn.mk ?_;intro N hN))))
 refine aZ (fun n env st=>∃k:Nat,n=(qs.length)-k/\k<=(qs.length)/\env 7=.int .i64 (k:Int)/\(∀j:Nat,j<k->sf s a qs j=true)) (qs.length) ⟨0,by omega,by omega,sl @eF,fun _ h=>absurd h (Nat.not_lt_zero _)⟩ ?_
 rintro n_f env_f st_f ⟨k,rfl,fle,f7,fA0⟩ ffr
 have f0:=ffr 0 (by kernel_rfl);have f1:=ffr 1 (by kernel_rfl);have f2:=ffr 2 (by kernel_rfl)
 simp only[go_sem, ↓reduceIte,Nat.reduceEqDiff,Nat.reduceAdd,Nat.reduceSub,Nat.reduceLeDiff,reduceCtorEq,eF]at f0 f1 f2
 clear ffr
 by_cases hk:(k:Int)<(qs.length:Int)
 ·have kd:∀{e:Env},(e 7=.int .i64 (IntKind.i64.wrap ((k:Int)+1)))->(sf s a qs k=true)->∃m0,m0<(qs.length)-k/\∃k:Nat,m0=(qs.length)-k/\k<=(qs.length)/\e 7=.int .i64 (k:Int)/\(∀j:Nat,j<k->sf s a qs j=true):=fun x1 x2=>⟨_,by omega,k+1,rfl,by omega,(by rw[x1,az (by omega)]),(all_succ fA0 x2)⟩
  have fm:k<qs.length:=by omega
  have eh:=yR fm
  have hi:=kV a (kG qs k) hF ha
  have rK:sf s a qs k=(decide (0<=dm a (kG qs k))&&(!G8 s (aD a (dm a (kG qs k)).toNat)&&(decide (k=0)||iI (kG qs (k-1)) (kG qs k)))):=rfl
  rw[ae]at hi
  by_cases b1:dm a (kG qs k)<0
  ·rw[decide_eq_false (by omega),Bool.false_and]at rK
   have jH:=xb fm rK
   (repeat(first|((repeat(revert hN;revert N;apply Pn.out));refine wk (tw @f7 (tw @f0 (tw @f1 (tw @f2 (tw @hk (tw @eh (tw @eF (tw @b1 @ae.eq_1)))))))) ?_;(repeat(refine Pn.mk ?_;intro N hN)))|((try apply Or.inl);refine⟨_,aj.x (hi) (sd (tw @f7 (tw @f0 (tw @f1 (tw @f2 (tw @hk (tw @eh (tw @eF (tw @b1 @ae.eq_1))))))))),?_⟩;refine hN _ _ ?_;clear hN N)))
   exact aM (b:=false) (.inl rfl) (sd @Nat.zero_add) jH.symm
  ·rw[decide_eq_true (by omega),Bool.true_and]at rK
   have h0:0<=dm a (kG qs k):=by omega
   obtain⟨h2,h3⟩:=gj h0
   have xg:=fa h2
   have uB:=GH s hA (aD a (dm a (kG qs k)).toNat)
   have hse:decide (fK s.aU.ai (aD a (dm a (kG qs k)).toNat).aC=(aD a (dm a (kG qs k)).toNat).aQ)=G8 s (aD a (dm a (kG qs k)).toNat):=rfl
   rw[hse]at uB
   rw[aa]at xg uB
   generalize aD a (dm a (kG qs k)).toNat=x at xg uB rK
   cases b2:G8 s x
   ·rw[b2]at uB rK
    rw[Bool.not_false,Bool.true_and]at rK
    by_cases lz:(0:Int)<(k:Int)
    ·have sk:k-1<qs.length:=by omega
     have qy:=yR sk
     have mW:IntKind.i64.wrap ((k:Int)-1)=((k-1:Nat):Int):=by rw[bU (by omega)];omega
     have mC:0<=((k-1:Nat):Int):=by omega
     have hl:=lH (kG qs (k-1)) (kG qs k)
     have On:decide (k=0)=false:=decide_eq_false (by omega)
     rw[On,Bool.false_or]at rK
     rw[ae,ae]at hl
     cases b3:iI (kG qs (k-1)) (kG qs k)
     ·rw[b3]at hl rK
      have jH:=xb fm rK
      (repeat(first|((repeat(revert hN;revert N;apply Pn.out));refine wk (tw @f7 (tw @f0 (tw @f1 (tw @f2 (tw @hk (tw @lz (tw @eh (tw @qy (tw @mW (tw @mC (tw @eF (tw @b1 (tw @h0 (tw @xg @ae.eq_1)))))))))))))) ?_;(repeat(refine Pn.mk ?_;intro N hN)))|((try apply Or.inl);refine⟨_,aj.x (hi) (sd (tw @f7 (tw @f0 (tw @f1 (tw @f2 (tw @hk (tw @lz (tw @eh (tw @qy (tw @mW (tw @mC (tw @eF (tw @b1 (tw @h0 (tw @xg @ae.eq_1))))))))))))))),?_⟩;refine hN _ _ ?_;clear hN N)|((try apply Or.inl);refine⟨_,aj.x (uB) (sd (tw @f7 (tw @f0 (tw @f1 (tw @f2 (tw @hk (tw @lz (tw @eh (tw @qy (tw @mW (tw @mC (tw @eF (tw @b1 (tw @h0 (tw @xg @ae.eq_1))))))))))))))),?_⟩;refine hN _ _ ?_;clear hN N)|((try apply Or.inl);refine⟨_,aj.x (hl) (sd (tw @f7 (tw @f0 (tw @f1 (tw @f2 (tw @hk (tw @lz (tw @eh (tw @qy (tw @mW (tw @mC (tw @eF (tw @b1 (tw @h0 (tw @xg @ae.eq_1))))))))))))))),?_⟩;refine hN _ _ ?_;clear hN N)))
      exact aM (b:=false) (.inl rfl) (sd @Nat.zero_add) jH.symm
     ·rw[b3]at hl rK
      (repeat(first|((repeat(revert hN;revert N;apply Pn.out));refine wk (tw @f7 (tw @f0 (tw @f1 (tw @f2 (tw @hk (tw @lz (tw @eh (tw @qy (tw @mW (tw @mC (tw @eF (tw @b1 (tw @h0 (tw @xg @ae.eq_1)))))))))))))) ?_;(repeat(refine Pn.mk ?_;intro N hN)))|((try apply Or.inl);refine⟨_,aj.x (hi) (sd (tw @f7 (tw @f0 (tw @f1 (tw @f2 (tw @hk (tw @lz (tw @eh (tw @qy (tw @mW (tw @mC (tw @eF (tw @b1 (tw @h0 (tw @xg @ae.eq_1))))))))))))))),?_⟩;refine hN _ _ ?_;clear hN N)|((try apply Or.inl);refine⟨_,aj.x (uB) (sd (tw @f7 (tw @f0 (tw @f1 (tw @f2 (tw @hk (tw @lz (tw @eh (tw @qy (tw @mW (tw @mC (tw @eF (tw @b1 (tw @h0 (tw @xg @ae.eq_1))))))))))))))),?_⟩;refine hN _ _ ?_;clear hN N)|((try apply Or.inl);refine⟨_,aj.x (hl) (sd (tw @f7 (tw @f0 (tw @f1 (tw @f2 (tw @hk (tw @lz (tw @eh (tw @qy (tw @mW (tw @mC (tw @eF (tw @b1 (tw @h0 (tw @xg @ae.eq_1))))))))))))))),?_⟩;refine hN _ _ ?_;clear hN N)))
      exact kd (sd (tw @f7 (tw @f0 (tw @f1 (tw @f2 @eF))))) (rK)
    ·have On:decide (k=0)=true:=decide_eq_true (by omega)
     rw[On,Bool.true_or]at rK
     (repeat(first|((repeat(revert hN;revert N;apply Pn.out));refine wk (tw @f7 (tw @f0 (tw @f1 (tw @f2 (tw @hk (tw @lz (tw @eh (tw @eF (tw @b1 (tw @h0 (tw @xg @ae.eq_1))))))))))) ?_;(repeat(refine Pn.mk ?_;intro N hN)))|((try apply Or.inl);refine⟨_,aj.x (hi) (sd (tw @f7 (tw @f0 (tw @f1 (tw @f2 (tw @hk (tw @lz (tw @eh (tw @eF (tw @b1 (tw @h0 (tw @xg @ae.eq_1)))))))))))),?_⟩;refine hN _ _ ?_;clear hN N)|((try apply Or.inl);refine⟨_,aj.x (uB) (sd (tw @f7 (tw @f0 (tw @f1 (tw @f2 (tw @hk (tw @lz (tw @eh (tw @eF (tw @b1 (tw @h0 (tw @xg @ae.eq_1)))))))))))),?_⟩;refine hN _ _ ?_;clear hN N)))
     exact kd (sd (tw @f7 (tw @f0 (tw @f1 (tw @f2 @eF))))) (rK)
   ·rw[b2]at uB rK
    rw[Bool.not_true,Bool.false_and]at rK
    have jH:=xb fm rK
    (repeat(first|((repeat(revert hN;revert N;apply Pn.out));refine wk (tw @f7 (tw @f0 (tw @f1 (tw @f2 (tw @hk (tw @eh (tw @eF (tw @b1 (tw @h0 (tw @xg @ae.eq_1)))))))))) ?_;(repeat(refine Pn.mk ?_;intro N hN)))|((try apply Or.inl);refine⟨_,aj.x (hi) (sd (tw @f7 (tw @f0 (tw @f1 (tw @f2 (tw @hk (tw @eh (tw @eF (tw @b1 (tw @h0 (tw @xg @ae.eq_1))))))))))),?_⟩;refine hN _ _ ?_;clear hN N)|((try apply Or.inl);refine⟨_,aj.x (uB) (sd (tw @f7 (tw @f0 (tw @f1 (tw @f2 (tw @hk (tw @eh (tw @eF (tw @b1 (tw @h0 (tw @xg @ae.eq_1))))))))))),?_⟩;refine hN _ _ ?_;clear hN N)))
    exact aM (b:=false) (.inl rfl) (sd @Nat.zero_add) jH.symm
 ·have kq:k=qs.length:=by omega
  subst kq
  (try((repeat(revert hN;revert N;apply Pn.out));refine wk (tw @f7 (tw @f0 (tw @f1 (tw @f2 (tw @hk @eF))))) ?_;(repeat(refine Pn.mk ?_;intro N hN))))
  exact aM (b:=true) (.inl rfl) (sd @Nat.zero_add) (lq.2 fun i hi=>fA0 i hi).symm
theorem zQ (l:List ab) (k:Nat) (hk:k<l.length) (hl:l.length<=1048576) (n0:Nat):Call Tryz.prog 176 [.cR [.sl (l.map aa)],.int .i64 k] ⟨fun _=>none,n0⟩ (Hw n0 (l.eraseIdx k)):=by
 refine CN NK rfl fun j8=>?_
 try simp only[q]
 clear j8
 have eF:(l.map aa).length=l.length:=by simp
 have dG:∀m:List ab,(m.map aa).all (fun c=>c.length==3&&c.all AV.cell)=true:=fun m=>all_map fun x=>⟨rfl,rfl⟩
 have lz:(0:Int)<=(k:Int):=by omega
 have sk:(k:Int)<=(l.length:Int):=by omega
 have mC:(k:Int)+1<=(l.length:Int):=by omega
 have hw:IntKind.i64.wrap ((k:Int)+1)=((k+1:Nat):Int):=az (by omega)
 have Uk:(0:Int)<=((k+1:Nat):Int):=by omega
 have hk4:((k+1:Nat):Int)<=(l.length:Int):=by omega
 have ht:(l.map aa).take k=(l.take k).map aa:=List.map_take.symm
 have hd:(l.map aa).drop (k+1)=(l.drop (k+1)).map aa:=List.map_drop.symm
 have PY:=dG (l.take k)
 have TX:=dG (l.drop (k+1))
 have hc3:=eq_true (show ∀cs:List AV,cs∈l.map aa->cs.length=3 from fun cs dq=>by
  obtain⟨x,_,rfl⟩:=List.mem_map.1 dq
  rfl)
 have IZ:((l.drop (k+1)).map aa).take (l.length-(k+1))=(l.drop (k+1)).map aa:=List.take_of_length_le (by simp)
 have Ur:((l.drop (k+1)).map aa).length=l.length-(k+1):=by simp
 have Gd:k+(l.length-(k+1))<=16777216:=by omega
 have hes:(l.eraseIdx k).length=k+(l.length-(k+1)):=by rw[List.length_eraseIdx,if_pos hk];omega
 have hem:(l.eraseIdx k).map aa=(l.take k).map aa++(l.drop (k+1)).map aa:=by rw[List.eraseIdx_eq_take_drop_succ,List.map_append]
 have Uq:(l.take k).length=k:=by rw[List.length_take];omega
 have hln2:(l.drop (k+1)).length=l.length-(k+1):=by simp
 have hc4:(List.map aa (List.take k l)).length=k:=by rw[List.length_map,Uq]
 have KE:k<=16777216:=by omega
 (try((repeat(revert hN;revert N;apply Pn.out));refine wk (tw @eF (tw @hc3 (tw @Nat.sub_zero (tw @IZ (tw @Ur (tw @Gd (tw @hc4 (tw @KE (tw @lz (tw @sk (tw @mC (tw @Uk (tw @hk4 (tw @hw (tw @ht (tw @hd (tw @PY @TX))))))))))))))))) ?_;(repeat(refine Pn.mk ?_;intro N hN))))
 exact gV (.inl rfl) (vs:=[.agg [.own ⟨176001015,n0+1⟩ 0 (l.eraseIdx k).length]]) (by rw[hes];simp only[fe,ig,go_sem, ↓reduceIte,Nat.reduceEqDiff,Nat.reduceAdd,Nat.reduceSub,Nat.reduceLeDiff,reduceCtorEq]) ⟨⟨176001015,n0+1⟩,rfl,by rw[hem];simp only[go_sem, ↓reduceIte,Nat.reduceEqDiff,Nat.reduceAdd,Nat.reduceSub,Nat.reduceLeDiff,reduceCtorEq],by(try dsimp only);omega,by(try dsimp only);omega⟩
theorem erase_filter:∀{m:List ab} (_:m.Pairwise fun a b=>iI a.aC b.aC=true) {k:Nat} (hk:k<m.length),m.eraseIdx k=m.filter fun x=> !decide (x.aC=m[k].aC)
 |[],_,k,hk=>by simp at hk
 |x::r,h,0,hk=>by
  obtain⟨h1,h2⟩:=List.pairwise_cons.1 h
  rw[List.eraseIdx_cons_zero,List.filter_cons,if_neg (by simp)]
  symm
  rw[List.filter_eq_self]
  intro y hy
  have:=h1 y hy
  simp only[List.getElem_cons_zero,Bool.not_eq_true',decide_eq_false_iff_not]
  intro e
  rw[e,iF]at this;cases this
 |x::r,h,k+1,hk=>by
  obtain⟨h1,h2⟩:=List.pairwise_cons.1 h
  have CH:k<r.length:=by simpa using hk
  have ih:=erase_filter h2 CH
  have hx:=h1 _ (List.getElem_mem CH)
  rw[List.eraseIdx_cons_succ,List.filter_cons,ih,if_pos]
  ·rfl
  ·simp only[List.getElem_cons_succ,Bool.not_eq_true',decide_eq_false_iff_not]
   intro e
   rw[e,iF]at hx;cases hx
theorem DM {a:List ab} {qs:List au} {i:Nat} (hi:i<qs.length):cV (iS (qs.take (i+1))) a=(cV (iS (qs.take i)) a).filter fun x=> !decide (x.aC=kG qs i):=by
 unfold cV
 rw[List.filter_filter]
 congr 1
 funext x
 unfold iS
 have hm:x.aC∈qs.take (i+1)↔x.aC∈qs.take i∨x.aC=qs[i]:=by rw[List.take_succ_eq_append_getElem hi,List.mem_append,List.mem_singleton]
 rw[jT hi,Bool.eq_iff_iff]
 simp only[Bool.not_eq_true',decide_eq_false_iff_not,Bool.and_eq_true,hm,not_or]
 exact And.comm
theorem BP {a:List ab} {qs:List au} {i:Nat} (hR:iM a) (hi:i<qs.length) (h0:0<=dm (cV (iS (qs.take i)) a) (kG qs i)):(cV (iS (qs.take i)) a).eraseIdx (dm (cV (iS (qs.take i)) a) (kG qs i)).toNat=cV (iS (qs.take (i+1))) a:=by
 obtain⟨h1,h2⟩:=gj h0
 rw[ei h1]at h2
 rw[erase_filter (k9.1 (pz hR)) h1,DM hi,h2]
theorem Gz {s:ax} {a:List ab} {qs:List au} {i:Nat} (hR:iM a) (hw:p4 s a qs=true) (hi:i<qs.length):0<=dm (cV (iS (qs.take i)) a) (kG qs i):=by
 have h1:=(mT (lq.1 hw i hi)).1
 obtain⟨h2,h3⟩:=gj h1
 rcases Int.lt_or_le (dm (cV (iS (qs.take i)) a) (kG qs i)) 0 with h|h
 ·refine absurd h3 (oL.1 h _ (List.mem_filter.2 ⟨fj h2,?_⟩))
  rw[Bool.not_eq_true',iS,decide_eq_false_iff_not,h3]
  intro hm
  obtain⟨j,hj,HA⟩:=List.getElem_of_mem hm
  rw[List.length_take]at hj
  rw[List.getElem_take]at HA
  have:=(FK hw).at_ (i:=j) (j:=i) (by omega) hi
  rw[jT (by omega),HA,iF]at this;cases this
 ·exact h
theorem BX (s:ax) (a:List ab) (hR:iM a) (ha:a.length<=1048576) (qs:List au) (hw:p4 s a qs=true) (hq:qs.length<=1048576) (n0:Nat):Call Tryz.prog 108 [.cR [.sl (a.map aa)],.sl (qs.map ae)] ⟨fun _=>none,n0⟩ (Hw n0 (cV (iS qs) a)):=by
 refine gY eH rfl fun j8=>?_
 clear j8
 have eF:(qs.map ae).length=qs.length:=by simp
 have hz:cV (iS []) a=a:=by unfold cV iS;simp
 (try((repeat(revert hN;revert N;apply Pn.out));refine wk @eF ?_;(repeat(refine Pn.mk ?_;intro N hN))))
 refine .inr (bf _ _ _ _ _ (fun r σ1 M3=>?_) (Hw.val (fun n=>BS a ha n) (by simp only[ah,aq,aN,Option.map_some])))
 obtain⟨⟨o,rfl,q1,q2,q3⟩,hK⟩:=M3
 obtain⟨g1,x1⟩:=σ1
 (try dsimp only at q1 q2 q3 hK)
 have qb:=hK.1
 have k4:=hK.2 ⟨108000000,n0⟩ (by(try dsimp only);omega)
 simp only[go_sem, ↓reduceIte,Nat.reduceEqDiff,Nat.reduceAdd,Nat.reduceSub,Nat.reduceLeDiff,reduceCtorEq]at k4
 (try dsimp only at qb)
 refine hN _ _ ?_
 clear hN N
 (try((repeat(revert hN;revert N;apply Pn.out));refine wk (tw @k4 @eF) ?_;(repeat(refine Pn.mk ?_;intro N hN))))
 refine aZ (fun n env st=>∃k:Nat,n=(qs.length)-k/\k<=(qs.length)/\env 6=.int .i64 (k:Int)/\st.get ⟨108000000,n0⟩=some ⟨true,1,[[.cm]]⟩/\(x1<st.next/\∃o:Id,st.get ⟨108001002,x1⟩=some ⟨true,1,[[.own o 0 (cV (iS (qs.take k)) a).length]]⟩/\st.get o=some ⟨true,3,(cV (iS (qs.take k)) a).map aa⟩/\n0<o.bY/\o.bY<st.next/\(⟨108001002,x1⟩=o->False))) (qs.length) ⟨0,by omega,by omega,sl (tw @eF @k4),sl (tw @eF @k4),by(try dsimp only);exact⟨by omega,o,sd @hz,(by have vo:=dP (i:=o) (n:=x1) (by omega);simp only[go_sem, ↓reduceIte,Nat.reduceEqDiff,Nat.reduceAdd,Nat.reduceSub,Nat.reduceLeDiff,reduceCtorEq,hz,vo,q1]),by omega,by omega,fun e=>by rw[<-e]at q3;(try dsimp only at q3);omega⟩⟩ ?_
 rintro n_f env_f st_f ⟨k,rfl,fle,f6,fg0,fI0⟩ ffr
 have f1:=ffr 1 (by kernel_rfl);have f4:=ffr 4 (by kernel_rfl);have f5:=ffr 5 (by kernel_rfl)
 simp only[go_sem, ↓reduceIte,Nat.reduceEqDiff,Nat.reduceAdd,Nat.reduceSub,Nat.reduceLeDiff,reduceCtorEq,eF,k4]at f1 f4 f5
 clear ffr
 obtain⟨fx,o2,fX,fo,fo1,fo2,fXo⟩:=fI0
 have vX:=dP (i:=⟨108001002,x1⟩) (n:=st_f.next) (by(try dsimp only);omega)
 have vo:=dP (i:=o2) (n:=st_f.next) (by omega)
 have v4:=dP (i:=⟨108000000,n0⟩) (n:=st_f.next) (by(try dsimp only);omega)
 by_cases hk:(k:Int)<(qs.length:Int)
 ·have kd:∀{e:Env} {gg:Rows} {nx:Nat},(e 6=.int .i64 (IntKind.i64.wrap ((k:Int)+1)))->(gg ⟨108000000,n0⟩=some ⟨true,1,[[.cm]]⟩)->(x1<nx/\∃o:Id,gg ⟨108001002,x1⟩=some ⟨true,1,[[.own o 0 (cV (iS (qs.take (k+1))) a).length]]⟩/\gg o=some ⟨true,3,(cV (iS (qs.take (k+1))) a).map aa⟩/\n0<o.bY/\o.bY<nx/\(⟨108001002,x1⟩=o->False))->∃m0,m0<(qs.length)-k/\∃k:Nat,m0=(qs.length)-k/\k<=(qs.length)/\e 6=.int .i64 (k:Int)/\gg ⟨108000000,n0⟩=some ⟨true,1,[[.cm]]⟩/\(x1<nx/\∃o:Id,gg ⟨108001002,x1⟩=some ⟨true,1,[[.own o 0 (cV (iS (qs.take k)) a).length]]⟩/\gg o=some ⟨true,3,(cV (iS (qs.take k)) a).map aa⟩/\n0<o.bY/\o.bY<nx/\(⟨108001002,x1⟩=o->False)):=fun x1 x2 x3=>⟨_,by omega,k+1,rfl,by omega,(by rw[x1,az (by omega)]),x2,x3⟩
  have fm:k<qs.length:=by omega
  have eh:=yR fm
  have h0:=Gz hR hw fm
  have AJ:=yC (iS (qs.take k)) a
  obtain⟨h4,_⟩:=gj h0
  have hi:=kV (cV (iS (qs.take k)) a) (kG qs k) (pz hR) (by omega)
  have M8:=fun n=>zQ (cV (iS (qs.take k)) a) (dm (cV (iS (qs.take k)) a) (kG qs k)).toNat h4 (by omega) n
  rw[Int.toNat_of_nonneg h0,BP hR fm h0]at M8
  generalize cV (iS (qs.take k)) a=T at fX fo hi M8 h0 AJ
  rw[ae]at hi eh
  (try((repeat(revert hN;revert N;apply Pn.out));refine wk (tw @f6 (tw @fg0 (tw @f1 (tw @f4 (tw @f5 (tw @hk (tw @eh @eF))))))) ?_;(repeat(refine Pn.mk ?_;intro N hN))))
  refine .inl ⟨_,aj.x hi (by
   rw[ah,rV (o:=o2) (L:=T)]
   ·simp only[ah,aq,bc,aF,Option.map_some]
   ·simp only[go_sem, ↓reduceIte,Nat.reduceEqDiff,Nat.reduceAdd,Nat.reduceSub,Nat.reduceLeDiff,reduceCtorEq,vX,fX]
   ·simp only[go_sem, ↓reduceIte,Nat.reduceEqDiff,Nat.reduceAdd,Nat.reduceSub,Nat.reduceLeDiff,reduceCtorEq,vo,fo]),?_⟩
  refine hN _ _ ?_
  clear hN N
  (try((repeat(revert hN;revert N;apply Pn.out));refine wk (tw @f6 (tw @fg0 (tw @f1 (tw @f4 @f5)))) ?_;(repeat(refine Pn.mk ?_;intro N hN))))
  refine .inr (bf _ _ _ _ _ (fun r σ2 Gk=>?_) (Hw.val M8 (by
   rw[ah,rV (o:=o2) (L:=T)]
   ·simp only[ah,aq,bc,aF,Option.map_some]
   ·simp only[go_sem, ↓reduceIte,Nat.reduceEqDiff,Nat.reduceAdd,Nat.reduceSub,Nat.reduceLeDiff,reduceCtorEq,vX,fX]
   ·simp only[go_sem, ↓reduceIte,Nat.reduceEqDiff,Nat.reduceAdd,Nat.reduceSub,Nat.reduceLeDiff,reduceCtorEq,vo,fo])))
  obtain⟨⟨o3,rfl,p1,p2,p3⟩,Hy⟩:=Gk
  obtain⟨g2,x2⟩:=σ2
  (try dsimp only at p1 p2 p3 Hy)
  have Dy:=Hy.1
  (try dsimp only at Dy)
  have kX:=Hy.2 ⟨108001002,x1⟩ (by(try dsimp only);omega)
  have k5:=Hy.2 ⟨108000000,n0⟩ (by(try dsimp only);omega)
  simp only[go_sem, ↓reduceIte,Nat.reduceEqDiff,Nat.reduceAdd,Nat.reduceSub,Nat.reduceLeDiff,reduceCtorEq,vX,v4,fX,f6,fg0,f1,f4,f5]at kX k5
  refine hN _ _ ?_
  clear hN N
  have X3:(⟨108001002,x1⟩=o3)=False:=eq_false fun e=>by rw[<-e]at p2;(try dsimp only at p2);omega
  have X4:(o3=⟨108001002,x1⟩)=False:=eq_false fun e=>by rw[e]at p2;(try dsimp only at p2);omega
  (try((repeat(revert hN;revert N;apply Pn.out));refine wk (tw @f6 (tw @fg0 (tw @f1 (tw @f4 (tw @f5 @kX))))) ?_;(repeat(refine Pn.mk ?_;intro N hN))))
  refine kd ?_ ?_ (by(try dsimp only);exact⟨by omega,o3,sd @Nat.zero_add,sd (tw @X4 @p1),by omega,by omega,fun e=>by rw[<-e]at p2;(try dsimp only at p2);omega⟩)
  all_goals simp only[go_sem, ↓reduceIte,Nat.reduceEqDiff,Nat.reduceAdd,Nat.reduceSub,Nat.reduceLeDiff,reduceCtorEq,f6,fg0,f1,f4,f5,k5]
 ·have kq:k=qs.length:=by omega
  subst kq
  rw[List.take_length]at fX fo
  (try((repeat(revert hN;revert N;apply Pn.out));refine wk (tw @f6 (tw @fg0 (tw @f1 (tw @f4 (tw @f5 (tw @hk (tw @eF @fX))))))) ?_;(repeat(refine Pn.mk ?_;intro N hN))))
  have oc:(o2=(⟨108000000,n0⟩:Id))=False:=eq_false fun e=>by rw[e]at fo1;(try dsimp only at fo1);omega
  exact gV (.inl rfl) (vs:=[.agg [.own o2 0 (cV (iS qs) a).length]]) (sd (tw @f6 (tw @fg0 (tw @f1 (tw @f4 @f5))))) ⟨o2,rfl,sd (tw @oc @fo),by omega,by(try dsimp only);omega⟩
noncomputable def D9 (s:ax) (r a:List ab) (qs:List au):Int×Int:=if jU s r a=0 then(if p4 s a qs=true then(if (pZ s r (cV (iS qs) a)).2=true then(((qs.length:Int)+((pZ s r (cV (iS qs) a)).1.length:Int)),0)else(0,3))else(0,2))else(0,jU s r a)
theorem Ch {s:ax} {r a:List ab} (h:uR s r a):(pZ s r a).1.length<=1000:=by
 cases bw:eX a r
 ·rw[Ac bw];simp
 ·rw[wL bw]
  have h2:=BL h.w h.right bw
  have h3:=h2.lL
  have h4:=h2.len
  have h5:=h.right.1.lL
  (try dsimp only);omega
theorem GI (s:ax) (r a:List ab) (hR:uR s r a):aj Tryz.prog 103 [.cR (ar s),.cR [.sl (r.map aa)],.cR [.sl (a.map aa)]] (.gy [.sl ((pZ s r a).1.map aa),.bool (pZ s r a).2]):=by
 cases bw:eX a r
 ·rw[Ac bw]
  refine aj.body eH rfl fun j8 n0=>?_
  clear j8
  have Fh:=lU a r hR.right.1.uh (by have:=hR.right.1.lL;omega) (by have:=hR.AF.1.lL;omega)
  rw[bw]at Fh
  (repeat(first|((repeat(revert hN;revert N;apply Pn.out));refine wk @Nat.zero_add ?_;(repeat(refine Pn.mk ?_;intro N hN)))|((try apply Or.inl);refine⟨_,aj.x (Fh) (sd @Nat.zero_add),?_⟩;refine hN _ _ ?_;clear hN N)))
  exact iJ (.inl rfl) (vs:=[.own ⟨103001000,n0+1⟩ 0 0,.bool false]) (sd @Nat.zero_add) (by
   simp only[eL,dt,aS,bd,eM]
   have:=eY (e:=aa) (g:=br (fun _=>none) ⟨103001000,n0+1⟩ ⟨true,3,[]⟩) (l:=[]) (sz:=3) (len:=0) (id:=⟨103001000,n0+1⟩) (n:=4) (sl @Nat.zero_add) rfl (fun x=>E4 _ 3 x)
   rw[this];rfl)
 ·rw[wL bw]
  exact Jl s a hR.sys.w hR.w r hR.right bw
theorem G0 (s:ax) (r a:List ab) (h:uR s r a):aj Tryz.prog 105 [.agg (ar s),.agg [.sl (r.map aa)],.agg [.sl (a.map aa)]] (.gy [OX aa (pZ s r a).1,.bool (pZ s r a).2]):=fun n0=>
 bf _ _ _ _ _ (fun q σ' hq=>by
  obtain⟨v,rfl,hv,_⟩:=hq
  rcases hv with⟨h0,rfl⟩|⟨u,rfl,h3,_,_,h7⟩
  ·exact⟨_,by simp only[dt,aS,bd,jt,eM,Option.map_some];rfl,by rw[h0];rfl⟩
  ·have:=eY (e:=aa) (n:=4) h3 rfl fun x=>E4 _ 3 x
   exact⟨_,by simp only[dt,aS,bd,this,eM,Option.map_some];rfl,by rw[OX,if_neg (by omega)]⟩) (GZ s r a h ⟨fun _=>none,n0⟩)
theorem y9 (s:ax) (r a:List ab) (qs:List au) (hn:gz s.aJ) (hg:s.aJ.aE.length<=1048576) (ht:s.aJ.ai.length<=1048576) (hq:qs.length<=1048576):aj Tryz.prog 52 [.agg (ar s),.agg [.sl (r.map aa)],.agg [.sl (a.map aa)],.sl (qs.map ae)] (.gy [.int .i64 (D9 s r a qs).1,.int .i64 (D9 s r a qs).2]):=by
 have h1:=DQ s r a hn hg ht
 refine aj.body eH rfl fun j8 n0=>?_
 clear j8
 have eF:(qs.map ae).length=qs.length:=by simp
 by_cases h0:jU s r a=0
 ·have hR:=Cf.1 h0
  rw[h0]at h1
  have h2:=DP s hR.sys.nr a hR.AF.1.uh (by have:=hR.AF.1.lL;omega) qs hq
  cases bw:p4 s a qs
  ·have hr:D9 s r a qs=(0,2):=by rw[D9,if_pos h0,bw];rfl
   rw[hr]
   rw[bw]at h2
   rw[ar]at h1 h2 ⊢
   (repeat(first|((repeat(revert hN;revert N;apply Pn.out));refine wk @Nat.zero_add ?_;(repeat(refine Pn.mk ?_;intro N hN)))|((try apply Or.inl);refine⟨_,aj.x (h1) (sd @Nat.zero_add),?_⟩;refine hN _ _ ?_;clear hN N)|((try apply Or.inl);refine⟨_,aj.x (h2) (sd @Nat.zero_add),?_⟩;refine hN _ _ ?_;clear hN N)))
   exact iJ (.inl rfl) (vs:=[.int .i64 0,.int .i64 2]) (sd @Nat.zero_add) (by simp only[eL,dt,aS,bd,dr,Option.map_some])
  ·have hB:=FJ hR bw
   have KQ:=fun n=>BX s a hR.AF.1.uh (by have:=hR.AF.1.lL;omega) qs bw hq n
   have Gm:=GI s r (cV (iS qs) a) hB
   have Oe:=Ch hB
   have Rk:=AB bw
   have haf:=hR.AF.1.lL
   rw[D9,if_pos h0,if_pos bw]
   rw[bw]at h2
   generalize cV (iS qs) a=b at KQ Gm Oe ⊢
   generalize pZ s r b=R at Gm Oe ⊢
   rw[ar]at h1 h2 Gm ⊢
   (repeat(first|((repeat(revert hN;revert N;apply Pn.out));refine wk @Nat.zero_add ?_;(repeat(refine Pn.mk ?_;intro N hN)))|((try apply Or.inl);refine⟨_,aj.x (h1) (sd @Nat.zero_add),?_⟩;refine hN _ _ ?_;clear hN N)|((try apply Or.inl);refine⟨_,aj.x (h2) (sd @Nat.zero_add),?_⟩;refine hN _ _ ?_;clear hN N)))
   refine .inr (bf _ _ _ _ _ (fun q σ1 M3=>?_) (Hw.val KQ (by simp only[dD,ah,aq,bK,aV,Option.map_some,go_sem, ↓reduceIte,Nat.reduceEqDiff,Nat.reduceAdd,Nat.reduceSub,Nat.reduceLeDiff,reduceCtorEq])))
   obtain⟨⟨o,rfl,q1,q2,q3⟩,hK⟩:=M3
   obtain⟨g1,x1⟩:=σ1
   (try dsimp only at q1 q2 q3 hK)
   have qb:=hK.1
   (try dsimp only at qb)
   have kA:=hK.2 ⟨52000000,n0⟩ (by(try dsimp only);omega)
   have kB:=hK.2 ⟨52000001,n0⟩ (by(try dsimp only);omega)
   simp only[go_sem, ↓reduceIte,Nat.reduceEqDiff,Nat.reduceAdd,Nat.reduceSub,Nat.reduceLeDiff,reduceCtorEq]at kA kB
   refine hN _ _ ?_
   clear hN N
   (try((repeat(revert hN;revert N;apply Pn.out));refine wk (tw @kA @kB) ?_;(repeat(refine Pn.mk ?_;intro N hN))))
   have vo:=dP (i:=o) (n:=x1) (by omega)
   refine .inl ⟨_,aj.x Gm (by
    have hX:=rV (g:=br (br g1 ⟨52006002,x1⟩ ⟨true,1,[[.cm]]⟩) ⟨52006002,x1⟩ ⟨true,1,[[.own o 0 b.length]]⟩) (X:=⟨52006002,x1⟩) (o:=o) (L:=b) (sd @Nat.zero_add) (sd (tw @vo @q1))
    rw[ah,ah,ah,hX]
    simp only[dD,aq,bK,aF,aV,ah,Option.map_some,go_sem, ↓reduceIte,Nat.reduceEqDiff,Nat.reduceAdd,Nat.reduceSub,Nat.reduceLeDiff,reduceCtorEq,kA,kB]),?_⟩
   refine hN _ _ ?_
   clear hN N
   obtain⟨L,z⟩:=R
   have yj:(L.map aa).length=L.length:=by simp
   (try dsimp only at Oe ⊢)
   cases z
   ·(try((repeat(revert hN;revert N;apply Pn.out));refine wk @Nat.zero_add ?_;(repeat(refine Pn.mk ?_;intro N hN))))
    exact iJ (.inl rfl) (vs:=[.int .i64 0,.int .i64 3]) (sd @Nat.zero_add) (by simp[eL,dt,aS,bd,dr])
   ·have LH:IntKind.i64.wrap ((qs.length:Int)+(L.length:Int))=(qs.length:Int)+(L.length:Int):=bU (by omega)
    (try((repeat(revert hN;revert N;apply Pn.out));refine wk (tw @eF (tw @yj @LH)) ?_;(repeat(refine Pn.mk ?_;intro N hN))))
    exact iJ (.inl rfl) (vs:=[.int .i64 ((qs.length:Int)+(L.length:Int)),.int .i64 0]) (sd @LH) (by simp[eL,dt,aS,bd,dr])
 ·have hd:decide (jU s r a=0)=false:=decide_eq_false h0
  have hr:D9 s r a qs=(0,jU s r a):=by rw[D9,if_neg h0]
  rw[hr]
  rw[ar]at h1 ⊢
  (repeat(first|((repeat(revert hN;revert N;apply Pn.out));refine wk @hd ?_;(repeat(refine Pn.mk ?_;intro N hN)))|((try apply Or.inl);refine⟨_,aj.x (h1) (sd @hd),?_⟩;refine hN _ _ ?_;clear hN N)))
  exact iJ (.inl rfl) (vs:=[.int .i64 0,.int .i64 (jU s r a)]) (sd @Nat.zero_add) (by simp only[eL,dt,aS,bd,dr,Option.map_some])
theorem y8 (s:ax) (r a:List ab) (qs:List au) (hn:gz s.aJ) (hm:uV s) (hr:r.length<=1048576) (ha:a.length<=1048576) (hq:qs.length<=1048576):aj Tryz.prog 54 [.agg (ar s),.agg [.sl (r.map aa)],.agg [.sl (a.map aa)],.sl (qs.map ae)] (.gy [.int .i64 (D9 s r a qs).1,.int .i64 (D9 s r a qs).2]):=by
 have h1:=Ab s r a hn hm hr ha
 refine aj.body eH rfl fun j8 n0=>?_
 clear j8
 have eF:(qs.map ae).length=qs.length:=by simp
 by_cases h0:jU s r a=0
 ·have hR:=Cf.1 h0
  rw[h0]at h1
  have h2:=Gw s hR.sys.nr a hR.AF.1.uh (by have:=hR.AF.1.lL;omega) qs hq
  cases bw:p4 s a qs
  ·have hr:D9 s r a qs=(0,2):=by rw[D9,if_pos h0,bw];rfl
   rw[hr]
   rw[bw]at h2
   rw[ar]at h1 h2 ⊢
   (repeat(first|((repeat(revert hN;revert N;apply Pn.out));refine wk @Nat.zero_add ?_;(repeat(refine Pn.mk ?_;intro N hN)))|((try apply Or.inl);refine⟨_,aj.x (h1) (sd @Nat.zero_add),?_⟩;refine hN _ _ ?_;clear hN N)|((try apply Or.inl);refine⟨_,aj.x (h2) (sd @Nat.zero_add),?_⟩;refine hN _ _ ?_;clear hN N)))
   exact iJ (.inl rfl) (vs:=[.int .i64 0,.int .i64 2]) (sd @Nat.zero_add) (by simp only[eL,dt,aS,bd,dr,Option.map_some])
  ·have hB:=FJ hR bw
   have M8:=Hr a qs hR.some ha hq
   have Gm:=G0 s r (cV (iS qs) a) hB
   have Oe:=Ch hB
   have Rk:=AB bw
   have haf:=hR.AF.1.lL
   rw[D9,if_pos h0,if_pos bw]
   rw[bw]at h2
   generalize cV (iS qs) a=b at M8 Gm Oe ⊢
   generalize pZ s r b=R at Gm Oe ⊢
   obtain⟨L,z⟩:=R
   (try dsimp only at Oe Gm ⊢)
   have AJ:=Jw (e:=aa) (L:=L)
   have qb:=AJ.cell.1
   have Dy:=AJ.cell.2
   unfold AV.cells at qb
   unfold AV.cell at Dy
   have yj:(L.map aa).length=L.length:=by simp
   generalize OX aa L=w at Gm AJ qb Dy
   rw[ar]at h1 h2 Gm ⊢
   cases z
   ·(repeat(first|((repeat(revert hN;revert N;apply Pn.out));refine wk (tw @qb @Dy) ?_;(repeat(refine Pn.mk ?_;intro N hN)))|((try apply Or.inl);refine⟨_,aj.x (h1) (sd (tw @qb @Dy)),?_⟩;refine hN _ _ ?_;clear hN N)|((try apply Or.inl);refine⟨_,aj.x (h2) (sd (tw @qb @Dy)),?_⟩;refine hN _ _ ?_;clear hN N)|((try apply Or.inl);refine⟨_,aj.x (M8) (sd (tw @qb @Dy)),?_⟩;refine hN _ _ ?_;clear hN N)|((try apply Or.inl);refine⟨_,aj.x (Gm) (sd (tw @qb @Dy)),?_⟩;refine hN _ _ ?_;clear hN N)))
    exact iJ (.inl rfl) (vs:=[.int .i64 0,.int .i64 3]) (sd @Nat.zero_add) (by simp[eL,dt,aS,bd,dr])
   ·have LH:IntKind.i64.wrap ((qs.length:Int)+(L.length:Int))=(qs.length:Int)+(L.length:Int):=bU (by omega)
    rcases AJ with⟨rfl,QK⟩|rfl
    ·subst QK
     have Ja:IntKind.i64.wrap ((qs.length:Int)+((0:Nat):Int))=(qs.length:Int)+((0:Nat):Int):=bU (by omega)
     (repeat(first|((repeat(revert hN;revert N;apply Pn.out));refine wk (tw @eF @Ja) ?_;(repeat(refine Pn.mk ?_;intro N hN)))|((try apply Or.inl);refine⟨_,aj.x (h1) (sd (tw @eF @Ja)),?_⟩;refine hN _ _ ?_;clear hN N)|((try apply Or.inl);refine⟨_,aj.x (h2) (sd (tw @eF @Ja)),?_⟩;refine hN _ _ ?_;clear hN N)|((try apply Or.inl);refine⟨_,aj.x (M8) (sd (tw @eF @Ja)),?_⟩;refine hN _ _ ?_;clear hN N)|((try apply Or.inl);refine⟨_,aj.x (Gm) (sd (tw @eF @Ja)),?_⟩;refine hN _ _ ?_;clear hN N)))
     exact iJ (.inl rfl) (vs:=[.int .i64 ((qs.length:Int)+((0:Nat):Int)),.int .i64 0]) (sd @Ja) (by simp[eL,dt,aS,bd,dr])
    ·(repeat(first|((repeat(revert hN;revert N;apply Pn.out));refine wk (tw @eF (tw @yj @LH)) ?_;(repeat(refine Pn.mk ?_;intro N hN)))|((try apply Or.inl);refine⟨_,aj.x (h1) (sd (tw @eF (tw @yj @LH))),?_⟩;refine hN _ _ ?_;clear hN N)|((try apply Or.inl);refine⟨_,aj.x (h2) (sd (tw @eF (tw @yj @LH))),?_⟩;refine hN _ _ ?_;clear hN N)|((try apply Or.inl);refine⟨_,aj.x (M8) (sd (tw @eF (tw @yj @LH))),?_⟩;refine hN _ _ ?_;clear hN N)|((try apply Or.inl);refine⟨_,aj.x (Gm) (sd (tw @eF (tw @yj @LH))),?_⟩;refine hN _ _ ?_;clear hN N)))
     exact iJ (.inl rfl) (vs:=[.int .i64 ((qs.length:Int)+(L.length:Int)),.int .i64 0]) (sd @LH) (by simp[eL,dt,aS,bd,dr])
 ·have hd:decide (jU s r a=0)=false:=decide_eq_false h0
  have hr:D9 s r a qs=(0,jU s r a):=by rw[D9,if_neg h0]
  rw[hr]
  rw[ar]at h1 ⊢
  (repeat(first|((repeat(revert hN;revert N;apply Pn.out));refine wk @hd ?_;(repeat(refine Pn.mk ?_;intro N hN)))|((try apply Or.inl);refine⟨_,aj.x (h1) (sd @hd),?_⟩;refine hN _ _ ?_;clear hN N)))
  exact iJ (.inl rfl) (vs:=[.int .i64 0,.int .i64 (jU s r a)]) (sd @Nat.zero_add) (by simp only[eL,dt,aS,bd,dr,Option.map_some])
theorem Mo (xs:List au) (l:Int) (h0:0<=l) (h1:l<=1048576):aj Tryz.prog 51 [.sl (xs.map ae),.int .i64 l] (.int .i64 (xi xs.length l)):=by
 have h:=Ey (show mU Tryz.prog 51=some (FC 51) by kernel_rfl) (xs.map ae) l h0 h1
 rwa [List.length_map]at h
theorem Ms (xs:List au) (h:xs.length<=1048576):l8 Tryz.prog 53 [.sl (xs.map ae)] (.sl (xs.map ae)):=
 Aq (show mU Tryz.prog 53=some (Cs 53 109 2 [.int .i64 0,.int .i64 0]) by kernel_rfl) rfl (fun _=>rfl) (fun _=>rfl) (fun x g=>by simp[ae,ah,aq,aF]) xs h fun x _=>y4 x
theorem Lg (xs:List au):aj Tryz.prog 55 [.sl (xs.map ae),.sl (xs.map ae)] (.bool true):=by
 have h:=zr (show mU Tryz.prog 55=some (Bj 55 112 2) by kernel_rfl) (e:=ae) (fun _=>rfl) (fun x g=>by simp[ae,ah,aq,bc,aF]) xs xs x9
 rwa [decide_eq_true rfl]at h
theorem Jm (Qt:ax->eI->eI->List au->Int×Int)
  (Ro:∀s r a qs,gz s.aJ->uV s->r.ai.length<=1048576->a.ai.length<=1048576->qs.length<=1048576->aj Tryz.prog 52 [.agg (ar s),.agg (aK r),.agg (aK a),.sl (qs.map ae)] (.gy [.int .i64 (Qt s r a qs).1,.int .i64 (Qt s r a qs).2]))
  (Ra:∀s r a qs,gz s.aJ->uV s->r.ai.length<=1048576->a.ai.length<=1048576->qs.length<=1048576->aj Tryz.prog 54 [.agg (ar s),.agg (aK r),.agg (aK a),.sl (qs.map ae)] (.gy [.int .i64 (Qt s r a qs).1,.int .i64 (Qt s r a qs).2]))
  (s:ax) (r a:eI) (qs:List au) (hn:gz s.aJ):aj Tryz.prog 9 [.agg (ar s),.agg (aK r),.agg (aK a),.sl (qs.map ae)] (.bool true):=by
 refine aj.body eH rfl fun hl n0=>?_
 clear hl
 have h1:=Ez s 1048576 (by omega) (by omega) hn
 by_cases hf:(qP s:Int)<=1048576
 ·rw[gW hf]at h1
  have iP:¬(1048576:Int)-(qP s:Int)<0:=by omega
  have h2:=nw r (1048576-qP s) (by omega) (by omega)
  by_cases hg:(r.ai.length:Int)<=1048576-qP s
  ·rw[gW hg]at h2
   have qx:¬(1048576:Int)-(qP s:Int)-(r.ai.length:Int)<0:=by omega
   have h3:=nw a (1048576-qP s-r.ai.length) (by omega) (by omega)
   by_cases hh:(a.ai.length:Int)<=1048576-qP s-r.ai.length
   ·rw[gW hh]at h3
    have CF:¬(1048576:Int)-(qP s:Int)-(r.ai.length:Int)-(a.ai.length:Int)<0:=by omega
    have h4:=Mo qs (1048576-qP s-r.ai.length-a.ai.length) (by omega) (by omega)
    by_cases hi:(qs.length:Int)<=1048576-qP s-r.ai.length-a.ai.length
    ·rw[gW hi]at h4
     have mj:¬(1048576:Int)-(qP s:Int)-(r.ai.length:Int)-(a.ai.length:Int)-(qs.length:Int)<0:=by omega
     have sm:=Hd (s:=s) (by omega)
     have am:a.ai.length<=1048576:=by omega
     have rm:r.ai.length<=1048576:=by omega
     have qm:qs.length<=1048576:=by omega
     have t1:=EC s sm
     have t2:=ny a am
     have t3:=ny r rm
     have t4:=Ms qs qm
     have r1:=Ro s r a qs hn sm rm am qm
     have r2:=Ra s r a qs hn sm rm am qm
     have q1:=Da s
     have q2:=rq a
     have q3:=rq r
     have q4:=Lg qs
     obtain⟨⟨x,c⟩,hRe⟩:∃R,Qt s r a qs=R:=⟨_,rfl⟩
     rw[hRe]at r1 r2
     (try dsimp only at r1 r2)
     have e2:decide (c=c)=true:=by simp
     have e3:decide (x=x)=true:=by simp
     rw[ar]at h1 t1 r1 r2 q1
     rw[aK]at h2 h3 t2 t3 q2 q3
     rw[aK,aK]at r1 r2
     (repeat(first|((repeat(revert hN;revert N;apply Pn.out));refine wk (tw @ar.eq_1 (tw @aK.eq_1 (tw @iP (tw @qx (tw @CF (tw @mj (tw @e2 @e3))))))) ?_;(repeat(refine Pn.mk ?_;intro N hN)))|((try apply Or.inl);refine⟨_,aj.x (h1) (sd (tw @ar.eq_1 (tw @aK.eq_1 (tw @iP (tw @qx (tw @CF (tw @mj (tw @e2 @e3)))))))),?_⟩;refine hN _ _ ?_;clear hN N)|((try apply Or.inl);refine⟨_,aj.x (h2) (sd (tw @ar.eq_1 (tw @aK.eq_1 (tw @iP (tw @qx (tw @CF (tw @mj (tw @e2 @e3)))))))),?_⟩;refine hN _ _ ?_;clear hN N)|((try apply Or.inl);refine⟨_,aj.x (h3) (sd (tw @ar.eq_1 (tw @aK.eq_1 (tw @iP (tw @qx (tw @CF (tw @mj (tw @e2 @e3)))))))),?_⟩;refine hN _ _ ?_;clear hN N)|((try apply Or.inl);refine⟨_,aj.x (h4) (sd (tw @ar.eq_1 (tw @aK.eq_1 (tw @iP (tw @qx (tw @CF (tw @mj (tw @e2 @e3)))))))),?_⟩;refine hN _ _ ?_;clear hN N)|((try apply Or.inl);refine⟨_,l8.x (t1) _,?_⟩;refine hN _ _ ?_;clear hN N)|((try apply Or.inl);refine⟨_,l8.x (t3) _,?_⟩;refine hN _ _ ?_;clear hN N)|((try apply Or.inl);refine⟨_,l8.x (t2) _,?_⟩;refine hN _ _ ?_;clear hN N)|((try apply Or.inl);refine⟨_,l8.x (t4) _,?_⟩;refine hN _ _ ?_;clear hN N)|((try apply Or.inl);refine⟨_,aj.x (r1) (sd (tw @ar.eq_1 (tw @aK.eq_1 (tw @iP (tw @qx (tw @CF (tw @mj (tw @e2 @e3)))))))),?_⟩;refine hN _ _ ?_;clear hN N)|((try apply Or.inl);refine⟨_,aj.x (r2) (sd (tw @ar.eq_1 (tw @aK.eq_1 (tw @iP (tw @qx (tw @CF (tw @mj (tw @e2 @e3)))))))),?_⟩;refine hN _ _ ?_;clear hN N)|((try apply Or.inl);refine⟨_,aj.x (q1) (sd (tw @ar.eq_1 (tw @aK.eq_1 (tw @iP (tw @qx (tw @CF (tw @mj (tw @e2 @e3)))))))),?_⟩;refine hN _ _ ?_;clear hN N)|((try apply Or.inl);refine⟨_,aj.x (q3) (sd (tw @ar.eq_1 (tw @aK.eq_1 (tw @iP (tw @qx (tw @CF (tw @mj (tw @e2 @e3)))))))),?_⟩;refine hN _ _ ?_;clear hN N)|((try apply Or.inl);refine⟨_,aj.x (q2) (sd (tw @ar.eq_1 (tw @aK.eq_1 (tw @iP (tw @qx (tw @CF (tw @mj (tw @e2 @e3)))))))),?_⟩;refine hN _ _ ?_;clear hN N)|((try apply Or.inl);refine⟨_,aj.x (q4) (sd (tw @ar.eq_1 (tw @aK.eq_1 (tw @iP (tw @qx (tw @CF (tw @mj (tw @e2 @e3)))))))),?_⟩;refine hN _ _ ?_;clear hN N)))
     exact aM (b:=true) (.inl rfl) (sd @Nat.zero_add) rfl
    ·rw[ir hi]at h4
     rw[ar]at h1
     rw[aK]at h2 h3
     (repeat(first|((repeat(revert hN;revert N;apply Pn.out));refine wk (tw @ar.eq_1 (tw @aK.eq_1 (tw @iP (tw @qx @CF)))) ?_;(repeat(refine Pn.mk ?_;intro N hN)))|((try apply Or.inl);refine⟨_,aj.x (h1) (sd (tw @ar.eq_1 (tw @aK.eq_1 (tw @iP (tw @qx @CF))))),?_⟩;refine hN _ _ ?_;clear hN N)|((try apply Or.inl);refine⟨_,aj.x (h2) (sd (tw @ar.eq_1 (tw @aK.eq_1 (tw @iP (tw @qx @CF))))),?_⟩;refine hN _ _ ?_;clear hN N)|((try apply Or.inl);refine⟨_,aj.x (h3) (sd (tw @ar.eq_1 (tw @aK.eq_1 (tw @iP (tw @qx @CF))))),?_⟩;refine hN _ _ ?_;clear hN N)|((try apply Or.inl);refine⟨_,aj.x (h4) (sd (tw @ar.eq_1 (tw @aK.eq_1 (tw @iP (tw @qx @CF))))),?_⟩;refine hN _ _ ?_;clear hN N)))
     exact aM (b:=true) (.inl rfl) (sd @Nat.zero_add) rfl
   ·rw[ir hh]at h3
    rw[ar]at h1
    rw[aK]at h2 h3
    (repeat(first|((repeat(revert hN;revert N;apply Pn.out));refine wk (tw @ar.eq_1 (tw @aK.eq_1 (tw @iP @qx))) ?_;(repeat(refine Pn.mk ?_;intro N hN)))|((try apply Or.inl);refine⟨_,aj.x (h1) (sd (tw @ar.eq_1 (tw @aK.eq_1 (tw @iP @qx)))),?_⟩;refine hN _ _ ?_;clear hN N)|((try apply Or.inl);refine⟨_,aj.x (h2) (sd (tw @ar.eq_1 (tw @aK.eq_1 (tw @iP @qx)))),?_⟩;refine hN _ _ ?_;clear hN N)|((try apply Or.inl);refine⟨_,aj.x (h3) (sd (tw @ar.eq_1 (tw @aK.eq_1 (tw @iP @qx)))),?_⟩;refine hN _ _ ?_;clear hN N)))
    exact aM (b:=true) (.inl rfl) (sd @Nat.zero_add) rfl
  ·rw[ir hg]at h2
   rw[ar]at h1
   rw[aK]at h2
   (repeat(first|((repeat(revert hN;revert N;apply Pn.out));refine wk (tw @ar.eq_1 (tw @aK.eq_1 @iP)) ?_;(repeat(refine Pn.mk ?_;intro N hN)))|((try apply Or.inl);refine⟨_,aj.x (h1) (sd (tw @ar.eq_1 (tw @aK.eq_1 @iP))),?_⟩;refine hN _ _ ?_;clear hN N)|((try apply Or.inl);refine⟨_,aj.x (h2) (sd (tw @ar.eq_1 (tw @aK.eq_1 @iP))),?_⟩;refine hN _ _ ?_;clear hN N)))
   exact aM (b:=true) (.inl rfl) (sd @Nat.zero_add) rfl
 ·rw[ir hf]at h1
  rw[ar]at h1
  (repeat(first|((repeat(revert hN;revert N;apply Pn.out));refine wk (tw @ar.eq_1 @aK.eq_1) ?_;(repeat(refine Pn.mk ?_;intro N hN)))|((try apply Or.inl);refine⟨_,aj.x (h1) (sd (tw @ar.eq_1 @aK.eq_1)),?_⟩;refine hN _ _ ?_;clear hN N)))
  exact aM (b:=true) (.inl rfl) (sd @Nat.zero_add) rfl
end Go.Proofs.YtgoljkjaameagaaGreat.V

namespace Go.Proofs.YtgoljkjaameagaaGreat
open Go.ChangeShapes Go.WideShapes Go.ChangeAt Go.RowKit Go.Deep
section
variable {H:Type} {enc:TypeId×Value->H} {P:Program} {w:World}
theorem lv.RJ {α:Type} {rep:World->List Nat->List Value->α->Prop} {sz:Nat} {w:World} {b o len cap:Nat} (ow:Nat->List Value) (fs:Nat->List Nat) (ds:Nat->α) (hc:len<=cap) (hm:cap<=maxLen)
  (hl:∀i,i<len->(ow i).length=sz) (hr:∀i,i<len->rep w (fs i) (ow i) (ds i)) (CC:∀i,i<len->∀j u,(ow i)[j]? =some u->w.cell? ⟨b,o+(i*sz+j),none⟩=some u):
  lv rep sz w ([b]++((List.range len).map fs).flatten) (.slice (some ⟨b,o,none⟩) len cap) ((List.range len).map ds):=by
 refine⟨(List.range len).map ow,(List.range len).map fs,[b],rfl,⟨some ⟨b,o,none⟩,cap,by simp,by simpa using hc,hm,.inr ⟨b,o,rfl,rfl,fun j u hj=>?_⟩⟩,by simp,by simp,fun i cs f d h1 h2 h3=>?_⟩
 ·have hlen:∀cs∈(List.range len).map ow,cs.length=sz:=fun cs dq=>by
   obtain⟨i,hi,rfl⟩:=List.mem_map.1 dq
   exact hl i (List.mem_range.1 hi)
  have gP:=(List.getElem?_eq_some_iff.1 hj).1
  have Lo:((List.range len).map ow).flatten.length=len*sz:=by
   rw[List.length_flatten,List.map_map]
   have:∀(l:List Nat),(∀i∈l,i<len)->(l.map (List.length∘ow)).sum=l.length*sz:=by
    intro l
    induction l with
    |nil=>intro _;simp
    |cons a l ih=>intro h;rw[List.map_cons,List.sum_cons,ih fun i hi=>h i (List.mem_cons_of_mem _ hi)];simp only[Function.comp,hl a (h a (by simp)),List.length_cons,Nat.add_mul];omega
   rw[this _ fun i hi=>List.mem_range.1 hi,List.length_range]
  rw[Lo]at gP
  have I4:0<sz:=by
   rcases Nat.eq_zero_or_pos sz with h|h
   ·subst h;simp at gP
   ·exact h
  have hi:j / sz<len:=(Nat.div_lt_iff_lt_mul I4).2 gP
  have KN:j % sz<sz:=Nat.mod_lt _ I4
  have HA:j=(j / sz)*sz+j % sz:=by rw[Nat.mul_comm];exact(Nat.div_add_mod j sz).symm
  rw[HA,tC hlen (i:=j / sz) (cs:=ow (j / sz)) (by simp[hi]) KN]at hj
  rw[HA]
  have:=CC (j / sz) hi (j % sz) u hj
  rw[<-HA]at this ⊢
  exact this
 ·have hi:i<len:=by
   have:=(List.getElem?_eq_some_iff.1 h1).1
   simpa using this
  simp[hi]at h1 h2 h3
  subst h1 h2 h3
  exact⟨hr i hi,hl i hi⟩
theorem ki (b o k:Nat):(⟨b,o,none⟩:Addr).add k=⟨b,o+k,none⟩:=by
 unfold Addr.add;split
 ·rename_i h;subst h;rfl
 ·rfl
theorem mN {α:Type} {rep:World->List Nat->List Value->α->Prop} {Q:α->Prop} {t e:TypeId} {sz fuel:Nat} {cs:List Value} {x:DataW H×List MemPlace} (ht:P.underlying t=some (.slice e)) (hC:P.cellsOf e=sz) (I4:0<sz)
  (h:DataW.trod enc P w 0 (fun _=>true) true fuel t cs=some x) (hel:∀n pS y,pS.length=sz->DataW.trod enc P w 0 (fun _=>true) true n e pS=some y->∃f d,e9 f 0 w.heap.size/\rep w f pS d/\Q d):
  ∃A n c f xs,cs=[.slice A n c]/\e9 f 0 w.heap.size/\lv rep sz w f (.slice A n c) xs/\∀d∈xs,Q d:=by
 rcases open_slice ht h with⟨rfl,_⟩|⟨a,len,cap,m,n,D,Pl,rfl,_,hl,hm,KO,_,hi⟩
 ·exact⟨none,0,0,[],[],rfl,e9.nil _ _,lv.nil _ _ _,fun d h=>by cases h⟩
 rw[hC]at hi
 simp only[if_true]at KO
 by_cases h0:len=0
 ·subst h0
  exact⟨some a,0,cap,[],[],rfl,e9.nil _ _,⟨[],[],[],rfl,⟨some a,cap,rfl,Nat.zero_le _,hm,.inl ⟨rfl,rfl⟩⟩,rfl,rfl,fun i cs f d hc=>by simp at hc⟩,fun d h=>by cases h⟩
 obtain⟨b,o,sp⟩:=a
 have cell0:∃v,w.cell? ⟨b,o,sp⟩=some v:=by
  obtain⟨pS,hc,_⟩:=hi 0 (by omega)
  obtain⟨_,ly,CC⟩:=World.cells?_some hc
  refine⟨pS[0]'(by omega),?_⟩
  have:=CC 0 I4
  rw[List.getElem?_eq_getElem (by omega)]at this
  simpa[Addr.add]using this
 obtain⟨v0,so⟩:=cell0
 have hb:b<w.heap.size:=World.block_lt_of_cell? w _ so
 have OH:sp=none:=by
  unfold World.cell? at so
  split at so
  ·split at so
   ·cases so
   ·rename_i h;simpa using h
  ·cases so
 subst OH
 have key:∀i,i<len->∃pS f d,pS.length=sz/\e9 f 0 w.heap.size/\rep w f pS d/\Q d/\∀j u,pS[j]? =some u->w.cell? ⟨b,o+(i*sz+j),none⟩=some u:=fun i lO=>by
  obtain⟨pS,hc,htr⟩:=hi i (by omega)
  obtain⟨_,ly,CC⟩:=World.cells?_some hc
  obtain⟨f,d,h1,h2,h3⟩:=hel n pS _ ly htr
  refine⟨pS,f,d,ly,h1,h2,h3,fun j u hj=>?_⟩
  have gP:=(List.getElem?_eq_some_iff.1 hj).1
  have:=CC j (by omega)
  rw[hj]at this
  rw[<-this,Go.Deep.add_add,ki]
 have:Nonempty α:=by
  obtain⟨_,_,d,_⟩:=key 0 (by omega)
  exact⟨d⟩
 let cf:Nat->List Value:=fun i=>if hi:i<len then(key i hi).choose else[]
 let ff:Nat->List Nat:=fun i=>if hi:i<len then(key i hi).choose_spec.choose else[]
 let df:Nat->α:=fun i=>if hi:i<len then(key i hi).choose_spec.choose_spec.choose else Classical.choice this
 have dG:∀i,i<len->(cf i).length=sz/\e9 (ff i) 0 w.heap.size/\rep w (ff i) (cf i) (df i)/\Q (df i)/\∀j u,(cf i)[j]? =some u->w.cell? ⟨b,o+(i*sz+j),none⟩=some u:=fun i hi=>by
  have:=(key i hi).choose_spec.choose_spec.choose_spec
  simp only[cf,ff,df,dif_pos hi]
  exact this
 refine⟨some ⟨b,o,none⟩,len,cap,_,(List.range len).map df,rfl,?_,lv.RJ cf ff df hl hm (fun i hi=>(dG i hi).1) (fun i hi=>(dG i hi).2.2.1) (fun i hi=>(dG i hi).2.2.2.2),fun d hd=>?_⟩
 ·intro x hx
  rcases List.mem_append.1 hx with hx|hx
  ·simp at hx;subst hx;exact⟨Nat.zero_le _,hb⟩
  ·obtain⟨l,SM,Qf⟩:=List.mem_flatten.1 hx
   obtain⟨i,hi,rfl⟩:=List.mem_map.1 SM
   exact(dG i (List.mem_range.1 hi)).2.1 x Qf
 ·obtain⟨i,hi,rfl⟩:=List.mem_map.1 hd
  exact(dG i (List.mem_range.1 hi)).2.2.2.1
end
section
variable {H:Type} {enc:TypeId×Value->H} {w:World} {fuel:Nat} {cs:List Value} {x:DataW H×List MemPlace}
abbrev TT (enc:TypeId×Value->H) (w:World) (fuel t:Nat) (cs:List Value) (x:DataW H×List MemPlace):Prop:=DataW.trod enc Tryz.prog w 0 (fun _=>true) true fuel t cs=some x
theorem OY (h:TT enc w fuel 31 cs x):∃A n c f xs,cs=[.slice A n c]/\e9 f 0 w.heap.size/\uU w f (.slice A n c) xs:=by
 obtain⟨A,n,c,f,xs,h1,h2,h3,_⟩:=mN (rep:=EL) (Q:=fun _=>True) Tryz.underlying31 (sz:=1) (by kernel_rfl) (by omega) h fun n pS y hl hy=>by
  obtain⟨b,rfl,_⟩:=DataW.trod_int Tryz.underlying2 hy
  exact⟨[],b,e9.nil _ _,⟨rfl,rfl⟩,trivial⟩
 exact⟨A,n,c,f,xs,h1,h2,h3⟩
theorem lX {t:TypeId} {fs:Array Field} (ht:Tryz.prog.underlying t=some (.struct fs)) (h:TT enc w fuel t cs x):cs.length=Tryz.prog.cellsOf t/\∃n,∀(i:Nat) (f:Field),fs[i]? =some f->∃y,TT enc w n f.type ((cs.drop f.offset).take (Tryz.prog.cellsOf f.type)) y:=by
 obtain⟨xs,n,_,_,hl,Qf,hf⟩:=DataW.trod_struct ht h
 refine⟨hl,n,fun i f hi=>?_⟩
 have lO:i<xs.length:=by rw[Qf];exact(Array.getElem?_eq_some_iff.1 hi).1
 exact⟨xs[i],(hf i f hi).trans (List.getElem?_eq_getElem lO)⟩
theorem OQ {l:List Value} (h:l.length=2):∃a b,l=[a,b]:=by
 match l,h with
 |[a,b],_=>exact⟨a,b,rfl⟩
theorem U6 {l:List Value} (h:l.length=3):∃a b c,l=[a,b,c]:=by
 match l,h with
 |[a,b,c],_=>exact⟨a,b,c,rfl⟩
theorem U5 {l:List Value} (h:l.length=1):∃a,l=[a]:=by
 match l,h with
 |[a],_=>exact⟨a,rfl⟩
theorem U7 {l:List Value} (h:l.length=4):∃a b c d,l=[a,b,c,d]:=by
 match l,h with
 |[a,b,c,d],_=>exact⟨a,b,c,d,rfl⟩
theorem L3 (h:TT enc w fuel 22 cs x):∃A n c f xs,cs=[.slice A n c]/\e9 f 0 w.heap.size/\qW w f (.slice A n c) xs/\∀d∈xs,d.aL.size<=9223372036854775807:=by
 exact mN (rep:=HO) (Q:=fun d=>d.aL.size<=9223372036854775807) Tryz.underlying22 (sz:=2) (by kernel_rfl) (by omega) h fun n pS y hl hy=>by
  obtain⟨_,m,hf⟩:=lX Tryz.underlying247 hy
  obtain⟨a,b,rfl⟩:=OQ hl
  ·skip
   obtain⟨y0,h0⟩:=hf 0 _ rfl
   obtain⟨y1,h1⟩:=hf 1 _ rfl
   rw[show Tryz.prog.cellsOf _=1 from by kernel_rfl]at h0 h1
   obtain⟨p,e0,_,ws⟩:=DataW.trod_string Tryz.underlying9 h0
   obtain⟨q,e1,_⟩:=DataW.trod_int Tryz.underlying2 h1
   simp at e0 e1
   subst e0 e1
   exact⟨[],⟨p,q⟩,e9.nil _ _,⟨rfl,rfl⟩,by simpa[maxLen]using ws⟩
theorem L4 (h:TT enc w fuel 23 cs x):∃A n c f xs,cs=[.slice A n c]/\e9 f 0 w.heap.size/\qY w f (.slice A n c) xs/\∀d∈xs,d.aL.size<=9223372036854775807:=by
 exact mN (rep:=HP) (Q:=fun d=>d.aL.size<=9223372036854775807) Tryz.underlying23 (sz:=2) (by kernel_rfl) (by omega) h fun n pS y hl hy=>by
  obtain⟨_,m,hf⟩:=lX Tryz.underlying250 hy
  obtain⟨a,b,rfl⟩:=OQ hl
  ·skip
   obtain⟨y0,h0⟩:=hf 0 _ rfl
   obtain⟨y1,h1⟩:=hf 1 _ rfl
   rw[show Tryz.prog.cellsOf _=1 from by kernel_rfl]at h0 h1
   obtain⟨p,e0,_,ws⟩:=DataW.trod_string Tryz.underlying9 h0
   obtain⟨A1,n1,c1,f1,R4,e1,k1,s1⟩:=OY h1
   simp at e0 e1
   subst e0 e1
   exact⟨_,⟨p,R4⟩,k1,⟨_,f1,rfl,rfl,s1⟩,by simpa[maxLen]using ws⟩
theorem GQ (h:TT enc w fuel 26 cs x):∃A n c f xs,cs=[.slice A n c]/\e9 f 0 w.heap.size/\iz w f (.slice A n c) xs:=by
 obtain⟨A,n,c,f,xs,h1,h2,h3,_⟩:=mN (rep:=AO) (Q:=fun _=>True) Tryz.underlying26 (sz:=3) (by kernel_rfl) (by omega) h fun n pS y hl hy=>by
  obtain⟨_,m,hf⟩:=lX Tryz.underlying208 hy
  obtain⟨a,b,c,rfl⟩:=U6 hl
  ·skip
   obtain⟨y0,h0⟩:=hf 0 _ rfl
   obtain⟨y1,h1⟩:=hf 1 _ rfl
   rw[show Tryz.prog.cellsOf _=2 from by kernel_rfl]at h0
   rw[show Tryz.prog.cellsOf _=1 from by kernel_rfl]at h1
   obtain⟨_,m2,KI⟩:=lX Tryz.underlying163 h0
   obtain⟨z0,g0⟩:=KI 0 _ rfl
   obtain⟨z1,g1⟩:=KI 1 _ rfl
   rw[show Tryz.prog.cellsOf _=1 from by kernel_rfl]at g0 g1
   obtain⟨px,e0,_⟩:=DataW.trod_int Tryz.underlying2 g0
   obtain⟨py,e1,_⟩:=DataW.trod_int Tryz.underlying2 g1
   obtain⟨ti,e2,_⟩:=DataW.trod_int Tryz.underlying2 h1
   simp at e0 e1 e2
   subst e0 e1 e2
   exact⟨[],⟨⟨px,py⟩,ti⟩,e9.nil _ _,⟨rfl,rfl⟩,trivial⟩
 exact⟨A,n,c,f,xs,h1,h2,h3⟩
theorem qL (h:TT enc w fuel 28 cs x):∃A n c f,∃d:eI,cs=[.slice A n c]/\e9 f 0 w.heap.size/\iz w f (.slice A n c) d.ai:=by
 obtain⟨hl,m,hf⟩:=lX Tryz.underlying28 h
 rw[show Tryz.prog.cellsOf _=1 from by kernel_rfl]at hl
 obtain⟨a,rfl⟩:=U5 hl
 ·skip
  obtain⟨y0,h0⟩:=hf 0 _ rfl
  rw[show Tryz.prog.cellsOf _=1 from by kernel_rfl]at h0
  obtain⟨A1,n1,c1,f1,R4,e1,k1,s1⟩:=GQ h0
  simp at e1
  subst e1
  exact⟨A1,n1,c1,f1,⟨R4⟩,rfl,k1,s1⟩
theorem JC (h:TT enc w fuel 30 cs x):∃A0 n0 c0 f0 A1 n1 c1 f1 A2 n2 c2 f2,∃d:ax,cs=[.slice A0 n0 c0,.slice A1 n1 c1,.slice A2 n2 c2,.int .i64 d.aB]/\e9 f0 0 w.heap.size/\qW w f0 (.slice A0 n0 c0) d.aJ.aE/\e9 f1 0 w.heap.size/\qY w f1 (.slice A1 n1 c1) d.aJ.ai/\e9 f2 0 w.heap.size/\iz w f2 (.slice A2 n2 c2) d.aU.ai/\(∀g∈d.aJ.aE,g.aL.size<=9223372036854775807)/\∀t∈d.aJ.ai,t.aL.size<=9223372036854775807:=by
 obtain⟨hl,m,hf⟩:=lX Tryz.underlying30 h
 rw[show Tryz.prog.cellsOf _=4 from by kernel_rfl]at hl
 obtain⟨a,b,c,d,rfl⟩:=U7 hl
 ·skip
  obtain⟨y0,h0⟩:=hf 0 _ rfl
  obtain⟨y1,h1⟩:=hf 1 _ rfl
  obtain⟨y2,h2⟩:=hf 2 _ rfl
  rw[show Tryz.prog.cellsOf _=2 from by kernel_rfl]at h0
  rw[show Tryz.prog.cellsOf _=1 from by kernel_rfl]at h1 h2
  obtain⟨_,m2,KI⟩:=lX Tryz.underlying25 h0
  obtain⟨z0,g0⟩:=KI 0 _ rfl
  obtain⟨z1,g1⟩:=KI 1 _ rfl
  rw[show Tryz.prog.cellsOf _=1 from by kernel_rfl]at g0 g1
  obtain⟨A0,n0,c0,f0,xs0,e0,k0,s0,o0⟩:=L3 g0
  obtain⟨A1,n1,c1,f1,R4,e1,k1,s1,o1⟩:=L4 g1
  obtain⟨A2,n2,c2,f2,d2,e2,k2,s2⟩:=qL h1
  obtain⟨t,e3,_⟩:=DataW.trod_int Tryz.underlying2 h2
  simp at e0 e1 e2 e3
  subst e0 e1 e2 e3
  exact⟨A0,n0,c0,f0,A1,n1,c1,f1,A2,n2,c2,f2,⟨⟨xs0,R4⟩,d2,t⟩,rfl,k0,s0,k1,s1,k2,s2,o0,o1⟩
end
end Go.Proofs.YtgoljkjaameagaaGreat

namespace Go.Proofs.YtgoljkjaameagaaGreat
open Go.ChangeShapes Go.WideShapes Go.ChangeAt Go.RowKit V
theorem RN:ownKnob Tryz.prog.godebug=none:=by kernel_rfl
theorem zS:laidOutB Tryz.prog=true:=by kernel_rfl
namespace V
theorem JB {H:Type} {enc:TypeId×Value->H} {w:World} {fuel:Nat} {cs:List Value} {x:DataW H×List MemPlace} (h:TT enc w fuel 85 cs x):∃A n c f xs,cs=[.slice A n c]/\e9 f 0 w.heap.size/\lv ui 2 w f (.slice A n c) xs:=by
 obtain⟨A,n,c,f,xs,h1,h2,h3,_⟩:=mN (rep:=ui) (Q:=fun _=>True) Tryz.underlying85 (sz:=2) (by kernel_rfl) (by omega) h fun n pS y hl hy=>by
  obtain⟨_,m,hf⟩:=lX Tryz.underlying163 hy
  obtain⟨a,b,rfl⟩:=OQ hl
  ·skip
   obtain⟨z0,g0⟩:=hf 0 _ rfl
   obtain⟨z1,g1⟩:=hf 1 _ rfl
   rw[show Tryz.prog.cellsOf _=1 from by kernel_rfl]at g0 g1
   obtain⟨px,e0,_⟩:=DataW.trod_int Tryz.underlying2 g0
   obtain⟨py,e1,_⟩:=DataW.trod_int Tryz.underlying2 g1
   simp at e0 e1
   subst e0 e1
   exact⟨[],⟨px,py⟩,e9.nil _ _,⟨rfl,rfl⟩,trivial⟩
 exact⟨A,n,c,f,xs,h1,h2,h3⟩
theorem CV {P:Program} {w:World} {D:Nat->Prop} {f:List Nat} {v:Value} {xs:List au} (h:lv ui 2 w f v xs) (hD:∀b∈f,D b):jD P w D (.sl (xs.map ae)) v:=
 o9 h hD (fun _ _=>rfl) (fun x _ a ha=>by simp[ae]at ha;rcases ha with rfl|rfl<;>rfl) fun x _ f' cs hr hf=>by
  obtain⟨_,rfl⟩:=hr
  intro j a ha
  match j,ha with
  |0,ha=>simp[ae]at ha;subst ha;exact⟨_,rfl,.int _ _⟩
  |1,ha=>simp[ae]at ha;subst ha;exact⟨_,rfl,.int _ _⟩
  |j+2,ha=>simp[ae]at ha
end V
theorem Md (s:ax) (r a:eI) (qs:List au) (hn:gz s.aJ):aj Tryz.prog 9 [.agg (ar s),.agg (aK r),.agg (aK a),.sl (qs.map ae)] (.bool true):=
 Jm (fun s r a qs=>D9 s r.ai a.ai qs) (fun s r a qs hn hm _ _ hq=>y9 s r.ai a.ai qs hn hm.s.g hm.s.t hq) (fun s r a qs hn hm hr ha hq=>y8 s r.ai a.ai qs hn hm hr ha hq) s r a qs hn
theorem Ea (os:Os) (started:os.Started) (H:Type) (enc:TypeId×Value->H):
  ReturnsInHanded {} Tryz.checked os 9 .any (Rows.fnExactRepairCostSpec.pre6 enc Tryz.prog Tryz.f9 Rows.fnExactRepairCostRow.domain false) (Rows.fnExactRepairCostSpec.post enc Tryz.prog Tryz.f9 false true false false):=by
 refine returnsInHanded_of_change (C:=Tryz.checked) RN started (by kernel_rfl) Tryz.func9
  (ChangeSpec.witness6 (enc:=enc) (C:=Tryz.checked) false ⟨#[], #[.agg #[.slice none 0 0,.slice none 0 0,.slice none 0 0,.int .i64 0],.agg #[.slice none 0 0],.agg #[.slice none 0 0],.slice none 0 0],[]⟩ 8 (by kernel_rfl) (by kernel_rfl) (by kernel_rfl) (by kernel_rfl)) ?_
 intro W base args ds gs before M7 hW hcnd _
 have qD:∀(j:Nat) t v,Tryz.f9.params[j]? =some t->args[j]? =some v->Value.okWide Tryz.prog W .any base t v:=M7
 have hW':=hW
 obtain⟨p,q,hA0,hV,rfl,CD,pr⟩:=hW
 have hA:DataW.TrodAll enc Tryz.prog W 0 (fun _=>true) true Tryz.f9.params.toList args.toList ds p:=hA0
 rw[Tryz.params9]at hA qD
 obtain⟨v0,Vc,d0,ds0,p0,q0,nH,rfl,rfl,h0,r0⟩:=trodAll_cons hA
 obtain⟨v1,vs1,d1,ds1,p1,q1,rfl,rfl,rfl,h1,r1⟩:=trodAll_cons r0
 obtain⟨v2,vs2,d2,ds2,p2,q2,rfl,rfl,rfl,h2,r2⟩:=trodAll_cons r1
 obtain⟨v3,vs3,d3,ds3,p3,q3,rfl,rfl,rfl,h3,r3⟩:=trodAll_cons r2
 obtain⟨rfl,rfl,rfl⟩:=trodAll_nil r3
 obtain rfl:args= #[v0,v1,v2,v3]:=by cases args;simp_all
 obtain⟨rfl,rfl⟩:=trodVars_none hV
 obtain⟨PV,rfl,_⟩:=okWide_struct Tryz.underlying30 (qD 0 30 v0 rfl rfl)
 obtain⟨Tv,rfl,_⟩:=okWide_struct Tryz.underlying28 (qD 1 28 v1 rfl rfl)
 obtain⟨Tu,rfl,_⟩:=okWide_struct Tryz.underlying28 (qD 2 28 v2 rfl rfl)
 obtain⟨A5,n5,c5,rfl⟩:=okWide_slice Tryz.underlying85 (qD 3 85 v3 rfl rfl)
 have k0:=h0
 have k1:=h1
 have k2:=h2
 have k3:=h3
 have lt0:∀x∈p0,x.block<W.heap.size:=by obtain⟨m,hm⟩:=k0;exact DataW.trod_lt m _ _ _ hm
 have Qj:∀x∈p1,x.block<W.heap.size:=by obtain⟨m,hm⟩:=k1;exact DataW.trod_lt m _ _ _ hm
 have Qk:∀x∈p2,x.block<W.heap.size:=by obtain⟨m,hm⟩:=k2;exact DataW.trod_lt m _ _ _ hm
 have U8:∀x∈p3,x.block<W.heap.size:=by obtain⟨m,hm⟩:=k3;exact DataW.trod_lt m _ _ _ hm
 obtain⟨A0,n0,c0,f0,A1,n1,c1,f1,A2,n2,c2,f2,s,dq,w0,s0,w1,s1,w2,s2,o0,o1⟩:∃A0 n0 c0 f0 A1 n1 c1 f1 A2 n2 c2 f2,∃d:ax,(Value.agg PV).cells.toList=[.slice A0 n0 c0,.slice A1 n1 c1,.slice A2 n2 c2,.int .i64 d.aB]/\e9 f0 0 W.heap.size/\qW W f0 (.slice A0 n0 c0) d.aJ.aE/\e9 f1 0 W.heap.size/\qY W f1 (.slice A1 n1 c1) d.aJ.ai/\e9 f2 0 W.heap.size/\iz W f2 (.slice A2 n2 c2) d.aU.ai/\(∀g∈d.aJ.aE,g.aL.size<=9223372036854775807)/\∀t∈d.aJ.ai,t.aL.size<=9223372036854775807:=by
  obtain⟨fuel,hf⟩:=h0
  exact JC hf
 obtain⟨f5,qs,w5,s5⟩:∃f,∃d:List au,e9 f 0 W.heap.size/\lv ui 2 W f (.slice A5 n5 c5) d:=by
  obtain⟨fuel,hf⟩:=h3
  obtain⟨A,n,c,f,xs,e,w,z⟩:=JB hf
  simp[Value.cells]at e
  obtain⟨rfl,rfl,rfl⟩:=e
  exact⟨f,xs,w,z⟩
 obtain⟨A4,n4,c4,f4,rr,Lm,w4,s4⟩:∃A n c f,∃d:eI,(Value.agg Tv).cells.toList=[.slice A n c]/\e9 f 0 W.heap.size/\iz W f (.slice A n c) d.ai:=by
  obtain⟨fuel,hf⟩:=h1
  exact qL hf
 obtain⟨A3,n3,c3,f3,a,QV,w3,s3⟩:∃A n c f,∃d:eI,(Value.agg Tu).cells.toList=[.slice A n c]/\e9 f 0 W.heap.size/\iz W f (.slice A n c) d.ai:=by
  obtain⟨fuel,hf⟩:=h2
  exact qL hf
 obtain rfl:PV= #[.slice A0 n0 c0,.slice A1 n1 c1,.slice A2 n2 c2,.int .i64 s.aB]:=by
  cases PV;simp[Value.cells]at dq;subst dq;rfl
 obtain rfl:Tu= #[.slice A3 n3 c3]:=by
  cases Tu;simp[Value.cells]at QV;subst QV;rfl
 obtain rfl:Tv= #[.slice A4 n4 c4]:=by
  cases Tv;simp[Value.cells]at Lm;subst Lm;rfl
 clear hA0 M7
 have gN:fA Tryz.prog W (fun b=>b<W.heap.size) (fun _=>none) [.agg (ar s),.agg (aK rr),.agg (aK a),.sl (qs.map ae)] #[.agg #[.slice A0 n0 c0,.slice A1 n1 c1,.slice A2 n2 c2,.int .i64 s.aB],.agg #[.slice A4 n4 c4],.agg #[.slice A3 n3 c3],.slice A5 n5 c5]:=by
  have h:=ke (CW s0 (fun b hb=>(w0 b hb).2) s1 (fun b hb=>(w1 b hb).2) s2 (fun b hb=>(w2 b hb).2)) (ke (qT s4 (fun b hb=>(w4 b hb).2)) (ke (qT s3 (fun b hb=>(w3 b hb).2)) (ke (CV s5 (fun b hb=>(w5 b hb).2)) (⟨rfl,fun j b hj=>by cases j<;>cases hj⟩:fA Tryz.prog W (fun b=>b<W.heap.size) (fun _=>none) [] #[]))))
  simpa using h
 have je:=OP mixed (Md s rr a qs ⟨o0,o1⟩) gN
 clear s0 s1 s2 s3 s4 s5 w0 w1 w2 w3 w4 w5 gN
 refine(je.mono fun e W' ⟨he,bel⟩=>?_)
 subst he
 exact⟨_,rfl,_,_,_,[],_,[],hW',trodAll_mk1 (shut_bool Tryz.underlying4 _),(trodAll_cons_mk (Below.trod zS (by kernel_rfl) (of_decide_eq_true (by kernel_rfl)) k0 bel lt0) (trodAll_cons_mk (Below.trod zS (by kernel_rfl) (of_decide_eq_true (by kernel_rfl)) k1 bel Qj) (trodAll_cons_mk (Below.trod zS (by kernel_rfl) (of_decide_eq_true (by kernel_rfl)) k2 bel Qk) (trodAll_cons_mk (Below.trod zS (by kernel_rfl) (of_decide_eq_true (by kernel_rfl)) k3 bel U8) trodAll_mk0)))),rfl,bel.frame _,fun h=>by cases h⟩
end Go.Proofs.YtgoljkjaameagaaGreat

namespace Go.Proofs.YtgoljkjaameagaaGreat
open Go.ChangeShapes Go.WideShapes Go.ChangeAt Go.RowKit
theorem rkN:Tryz.pinned.checked.prog.funcNamed Rows.fnExactRepairCostRow.func=some 9:=by kernel_rfl
theorem rkJ:joinedFacts Tryz.pinned.checked.prog 9 Tryz.f9 Rows.fnExactRepairCostSpec Rows.fnExactRepairCostRow=true:=by
 unfold joinedFacts
 repeat(with_reducible refine Bool.and_eq_true_iff.2 ⟨?_,by as_aux_lemma=>kernel_rfl⟩)
 as_aux_lemma=>kernel_rfl
theorem rkI:Tryz.f9.isInstance Tryz.pinned.checked.prog Rows.fnExactRepairCostRow.origin Rows.fnExactRepairCostRow.targs:=of_decide_eq_true (by kernel_rfl)
theorem rkW:Tryz.f9.isWrapper Tryz.pinned.checked.prog Rows.fnExactRepairCostRow.wrapper Rows.fnExactRepairCostRow.mainSum:=by
 unfold Func.isWrapper;first|(rw[if_pos (by decide+kernel)];kernel_rfl)|(rw[if_neg (by decide+kernel)];exact⟨rfl,rfl⟩)
theorem JN:Rows.fnExactRepairCostRow.holds Tryz.pinned (OpenSpec.ofChange Rows.fnExactRepairCostSpec):=
 OpenClaim.holds_of_wide 9 Tryz.f9 rfl rfl rfl rfl rfl rfl rfl ⟨rfl,rfl,rfl,rfl,rfl⟩ rfl rfl rfl rfl rfl rkN Tryz.func9 rkJ rkI rkW
  (fun os started H enc _=>Ea os started H enc)
theorem fnExactRepairCost_proved:Rows.FnExactRepairCostSaid:=JN
end Go.Proofs.YtgoljkjaameagaaGreat
