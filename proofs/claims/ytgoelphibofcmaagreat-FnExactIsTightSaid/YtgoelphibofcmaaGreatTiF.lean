/- Networks by matrices: whether every cut holds. -/
import Derived.Test.YtgoelphibofcmaaGreatTiE
import Derived.Test.YtgoelphibofcmaaGreatTiC
import Derived.RangeFuncCalls
import Derived.OrdersIn
import Derived.Test.YtgoelphibofcmaaGreatTiB
import Derived.Test.YtgoelphibofcmaaGreatChecked
import Derived.ProofKit
import Derived.Deep.Slices
import Derived.ChangeSame
import Derived.Test.YtgoelphibofcmaaGreatRows
import Derived.OpenShut
import Derived.ShutString
import Derived.ChangeOld
import Derived.Below
set_option linter.unusedVariables false
set_option linter.unusedSimpArgs false
set_option maxRecDepth 100000
set_option maxHeartbeats 16000000
namespace Go.Proofs.YtgoelphibofcmaaGreat.V
open Go.RowKit
attribute [local irreducible] dI wpOps ib Call
attribute [local go_sem] aJ gu eW gR gQ cE upd cw K.av cY AV.cells AV.cell rowOf rowsOf part ld rowAt bB cr dY eG jq bP dq eT gP fx dE eK dn dm eu ew bU bp db bR de dc eI eL eJ da cm dp eH bQ aO di cI jo bE cU bV aY du aV ea AV.undef bG bJ eA eE ei ep cJ eR eV cG eO eM dh dj List.getD_cons_zero List.getD_cons_succ List.getD_nil List.all_cons List.all_nil Bool.and_true Bool.true_and Bool.and_self Bool.not_true Bool.not_false Option.map_some Option.map_none Option.bind_some Option.bind_none List.length_cons List.length_nil List.take_succ_cons List.take_zero List.take_nil List.drop_succ_cons List.drop_zero List.drop_nil List.head?_cons List.map_cons List.map_nil List.getElem?_cons_zero List.getElem?_cons_succ List.cons_append List.nil_append List.append_nil List.length_map List.set_cons_zero List.set_cons_succ Nat.reduceMul eq_self Int.toNat_natCast Int.natCast_nonneg and_self true_and and_true decide_true decide_false Bool.false_eq_true Nat.zero_add Nat.add_zero List.contains_cons List.contains_nil Bool.or_false Bool.false_or beq_self_eq_true Nat.reduceBEq ne_eq not_true_eq_false not_false_eq_true Id.mk.injEq false_and and_false Nat.reduceLT Int.reduceLE Int.reduceLT Int.reduceToNat Int.reduceNeg Int.reduceAdd Nat.le_refl List.length_append beq_true beq_false Bool.not_eq_eq_eq_not or_false false_or eh ao aq aK br bI cC bc bz aQ bt cX cj
noncomputable def sF (n:Nat) (bs:List PB) (t:Int):Bool:=@decide (kh n bs t) (Classical.propDecidable _)
theorem xj {n:Nat} {bs:List PB} {t:Int} (h:kh n bs t):true=sF n bs t:=by simp[sF,h]
theorem Au {n:Nat} {bs:List PB} {t:Int} (h:¬kh n bs t):false=sF n bs t:=by simp[sF,h]
theorem JR (cnt:Nat) (hn:cnt<=1048576) (bs:List PB) (hb:∀b∈bs,b.a<cnt/\b.b<cnt) (cK:∀b∈bs,0<=b.s/\b.s<=4) (ml:bs.length<=1048576) (t:Int) (ht:t<=1099511627776):
  aj Tryz.prog 223 [.int .i64 cnt,.sl (bs.map ay),.int .i64 t] (.bool (sF cnt bs t)):=by
 refine aj.body ej rfl fun hl n0=>?_
 clear hl
 have ox:=y9 bs (fun _ _=>0) (fun b h=>(cK b h).1) (fun _ _=>Int.le_refl _)
 have hle:=room_le bs (fun _ _=>0) 0 (fun b h=>(cK b h).2) (fun _ _=>Int.le_refl _) (Int.le_refl _)
 have fU:bs.foldl nh (fun _ _=>0)=kG bs:=rfl
 rw[fU]at ox hle
 (try((repeat(revert hN;revert N;apply Pn.out));refine wk @Nat.zero_add ?_;(repeat(refine Pn.mk ?_;intro N hN))))
 refine aH (fun m env st=>∃y:Nat,m=cnt+1-y/\1<=y/\env 7=.int .i64 (y:Int)/\y<=cnt+1/\∀z,1<=z->z<y->z<cnt->∀S:Nat->Bool,S 0=true->S z=false->t<=iP S bs) (cnt+1-1) ⟨1,rfl,Nat.le_refl _,by(simp only[go_sem, ↓reduceIte,Nat.reduceEqDiff,Nat.reduceAdd,Nat.reduceSub,Nat.reduceLeDiff,reduceCtorEq])<;>rfl,by omega,fun z h1 h2=>by omega⟩ ?_
 rintro m env_b st_b ⟨y,rfl,hy1,b7,hyl,dC⟩ bkp
 have b0:=bkp 0 (by kernel_rfl)
 have b1:=bkp 1 (by kernel_rfl)
 have b2:=bkp 2 (by kernel_rfl)
 simp only[go_sem, ↓reduceIte,Nat.reduceEqDiff,Nat.reduceAdd,Nat.reduceSub,Nat.reduceLeDiff,reduceCtorEq]at b0 b1 b2
 clear bkp
 by_cases hy:(y:Int)<(cnt:Int)
 ·have hyn:y<cnt:=by omega
  (try((repeat(revert hN;revert N;apply Pn.out));refine wk (tw @b0 (tw @b1 (tw @b2 (tw @b7 @hy)))) ?_;(repeat(refine Pn.mk ?_;intro N hN))))
  refine .inr (aU _ _ _ _ _ (fun r σ1 hq=>?_) (AZ cnt (by omega) hn bs hb cK ml _))
  obtain⟨X,o1,o2,R1,R2,rfl,I,E9,hM,_⟩:=hq
  refine hN _ _ ?_
  clear hN N
  (try((repeat(revert hN;revert N;apply Pn.out));refine wk (tw @b0 (tw @b1 (tw @b2 @b7))) ?_;(repeat(refine Pn.mk ?_;intro N hN))))
  have Oh:=Nj cnt (by omega) hn (kG bs) (fun u v _ _=>⟨ox u v,by have:=hle u v;omega⟩) 0 y (by omega) hyn (by omega) t ht X o1 o2 R1 R2 σ1.next I
  refine .inr (aU _ _ _ _ _ (fun r σ2 hq=>?_) (Oh _ hM (by(try dsimp only);omega)))
  obtain⟨val,rfl,rK,lx⟩:=hq
  refine hN _ _ ?_
  clear hN N
  by_cases dy:val<t
  ·(try((repeat(revert hN;revert N;apply Pn.out));refine wk (tw @b0 (tw @b1 (tw @b2 (tw @b7 @dy)))) ?_;(repeat(refine Pn.mk ?_;intro N hN))))
   obtain⟨S,h1,h2,h3⟩:=rK.1 dy
   rw[z6 hb]at h3
   exact aI (b:=false) (.inl rfl) (sd @Nat.zero_add) (Au fun h=>by have:=h S h1 ⟨y,hyn,h2⟩;omega)
  ·have hw:IntKind.i64.wrap ((y:Int)+1)=((y+1:Nat):Int):=ax (by omega)
   (try((repeat(revert hN;revert N;apply Pn.out));refine wk (tw @b0 (tw @b1 (tw @b2 (tw @b7 (tw @dy @hw))))) ?_;(repeat(refine Pn.mk ?_;intro N hN))))
   refine⟨_,?_,y+1,rfl,by omega,sd (tw @b7 @hw),by omega,fun z h1 h2 h3 S Ms Mt=>?_⟩
   ·omega
   ·by_cases hzy:z=y
    ·subst hzy
     rcases Int.lt_or_le (iP S bs) t with h|h
     ·exact absurd (rK.2 ⟨S,Ms,Mt,by rw[z6 hb];exact h⟩) dy
     ·exact h
    ·exact dC z h1 (by omega) h3 S Ms Mt
 ·(try((repeat(revert hN;revert N;apply Pn.out));refine wk (tw @b0 (tw @b1 (tw @b2 (tw @b7 @hy)))) ?_;(repeat(refine Pn.mk ?_;intro N hN))))
  exact aI (b:=true) (.inl rfl) (sd @Nat.zero_add) (xj fun S h0 ⟨z,hz,hzf⟩=>by
   have:z≠0:=by rintro rfl;rw[h0]at hzf;cases hzf
   exact dC z (by omega) (by omega) hz S h0 hzf)
theorem Hp (cnt:Nat) (hn:cnt<=1048576) (bs:List PB) (hb:∀b∈bs,b.a<cnt/\b.b<cnt) (cK:∀b∈bs,0<=b.s/\b.s<=4) (ml:bs.length<=1048576) (t:Int) (ht:t<=1099511627776):
  aj Tryz.prog 223 [.int .i64 cnt,ze bs,.int .i64 t] (.bool (sF cnt bs t)):=by
 have h:=JR cnt hn bs hb cK ml t ht
 cases bs with
 |nil=>exact h.cut mixed (.same _ (.cu (.same _ .nil)))
 |cons b r=>rw[zf (by simp)];exact h
end Go.Proofs.YtgoelphibofcmaaGreat.V

namespace Go.Proofs.YtgoelphibofcmaaGreat.V
open Go.RowKit
attribute [local irreducible] dI wpOps ib Call
attribute [local go_sem] aJ gu eW gR gQ cE upd cw K.av cY AV.cells AV.cell rowOf rowsOf part ld rowAt bB cr dY eG jq bP dq eT gP fx dE eK dn dm eu ew bU bp db bR de dc eI eL eJ da cm dp eH bQ aO di cI jo bE cU bV aY du aV ea AV.undef bG bJ eA eE ei ep cJ eR eV cG eO eM dh dj List.getD_cons_zero List.getD_cons_succ List.getD_nil List.all_cons List.all_nil Bool.and_true Bool.true_and Bool.and_self Bool.not_true Bool.not_false Option.map_some Option.map_none Option.bind_some Option.bind_none List.length_cons List.length_nil List.take_succ_cons List.take_zero List.take_nil List.drop_succ_cons List.drop_zero List.drop_nil List.head?_cons List.map_cons List.map_nil List.getElem?_cons_zero List.getElem?_cons_succ List.cons_append List.nil_append List.append_nil List.length_map List.set_cons_zero List.set_cons_succ Nat.reduceMul eq_self Int.toNat_natCast Int.natCast_nonneg and_self true_and and_true decide_true decide_false Bool.false_eq_true Nat.zero_add Nat.add_zero List.contains_cons List.contains_nil Bool.or_false Bool.false_or beq_self_eq_true Nat.reduceBEq ne_eq not_true_eq_false not_false_eq_true Id.mk.injEq false_and and_false Nat.reduceLT Int.reduceLE Int.reduceLT Int.reduceToNat Int.reduceNeg Int.reduceAdd Nat.le_refl List.length_append beq_true beq_false Bool.not_eq_eq_eq_not or_false false_or eh ao aq aK br bI cC bc bz aQ bt cX cj
def BH:Prop:=∀(s:au) (l:List ae),gW s->jw s l->aj Tryz.prog 222 [.agg (ab s),.agg [.sl (l.map ad)]] (ze (bL s l))
noncomputable def tA (s:au) (l:List ae) (t:Int):Bool:=if 64<ig s l t then false else sF (ig s l t) (cL (dQ (aE t (bL s l))) (bL s l)) t
theorem CE (s:au) (l:List ae) (t:Int):tA s l t=mW s l t:=by
 letI:=Classical.propDecidable (ot l.length (bL s l) t)
 unfold tA
 by_cases h:64<ig s l t
 ·rw[if_pos h]
  exact(lW (p:=False) ⟨False.elim,fun k=>by have:=k.1;unfold ig at h;omega⟩).symm.trans (by simp) |>.symm
 ·rw[if_neg h]
  by_cases hp:kh (ig s l t) (cL (dQ (aE t (bL s l))) (bL s l)) t
  ·rw[<-xj hp]
   exact((lW (p:=True) ⟨fun _=>⟨by unfold ig at h;omega,hp⟩,fun _=>trivial⟩).symm.trans (by simp)).symm
  ·rw[<-Au hp]
   exact((lW (p:=False) ⟨False.elim,fun k=>hp k.2⟩).symm.trans (by simp)).symm
theorem Io (Rv:BH) (s:au) (l:List ae) (t:Int) (ht:t<=1099511627776) (h1:1<=l.length) (hS:gW s) (hA:jw s l):aj Tryz.prog 197 [.agg (ab s),.agg [.sl (l.map ad)],.int .i64 t] (.gN [.bool (mW s l t),.bool (decide ¬64<ig s l t)]):=by
 rw[<-CE]
 refine aj.body ej rfl fun hl n0=>?_
 clear hl
 have hb:=wZ (l:=l) hS
 have ml:=po (s:=s) hA.1
 have An:=hA.1.so
 have s6:=Rv s l hS hA
 have O0:=x9 l.length h1 (by omega) (bL s l) (fun b h=>⟨(hb b h).1,(hb b h).2.1⟩) (by omega) t
 have hL:=sH (aE t (bL s l))
 have fA:=C7 hL (fun b h=>⟨(hb b h).1,(hb b h).2.1⟩)
 have hlen:=(mC (dQ (aE t (bL s l))) (bL s l)).1
 have oV:=jA l.length (dQ (aE t (bL s l)))
 have hho:=Hp (ig s l t) (by unfold ig;omega) (cL (dQ (aE t (bL s l))) (bL s l)) (fun b h=>⟨(fA b h).1,(fA b h).2.1⟩) (fun b h=>by
  obtain⟨_,_,_,c,hc,cR⟩:=fA b h
  rw[cR];have:=hb c hc;omega) (by omega) t ht
 have fy:(l.map ad).length=l.length:=by simp
 have hzB:∀(g:Rows) (n:Nat) (bs:List PB),V.fz g (n+1) (ze bs)=some (ze bs):=fun g n bs=>by
  unfold ze;split
  ·exact bc _ _
  ·exact cC _ _ _
 rw[ab]at s6
 rw[<-ig]at O0
 have xn:∀(g:Rows) (x:Int),cH (eh g) 6 [.int .i64 l.length,ze (bL s l),.int .i64 x]=some [.int .i64 l.length,ze (bL s l),.int .i64 x]:=fun g x=>by simp only[ao,aq,aK,hzB,Option.map_some]
 have hzh:∀(g:Rows) (x y:Int),cH (eh g) 6 [.int .i64 x,ze (cL (dQ (aE t (bL s l))) (bL s l)),.int .i64 y]=some [.int .i64 x,ze (cL (dQ (aE t (bL s l))) (bL s l)),.int .i64 y]:=fun g x y=>by simp only[ao,aq,aK,hzB,Option.map_some]
 generalize ze (bL s l)=B1 at *
 generalize ze (cL (dQ (aE t (bL s l))) (bL s l))=B2 at *
 by_cases sZ:(64:Int)<(ig s l t:Int)
 ·have s4:64<ig s l t:=by omega
  (repeat(first|((repeat(revert hN;revert N;apply Pn.out));refine wk (tw @ab.eq_1 (tw @sZ @fy)) ?_;(repeat(refine Pn.mk ?_;intro N hN)))|((try apply Or.inl);refine⟨_,aj.x (s6) (sd (tw @ab.eq_1 (tw @sZ @fy))),?_⟩;refine hN _ _ ?_;clear hN N)))
  refine⟨_,aj.x O0 (xn _ _),?_⟩
  refine hN _ _ ?_
  clear hN N
  (try((repeat(revert hN;revert N;apply Pn.out));refine wk @sZ ?_;(repeat(refine Pn.mk ?_;intro N hN))))
  exact gz (.inl rfl) (r1:=.bool false) (r2:=.bool false) (sd @Nat.zero_add) (sd @Nat.zero_add) (by rw[tA,if_pos s4,decide_eq_false fun h=>h s4];simp only[dU,aP,bx,dO,Option.map_some])
 ·have s4:¬64<ig s l t:=by omega
  (repeat(first|((repeat(revert hN;revert N;apply Pn.out));refine wk (tw @ab.eq_1 (tw @sZ @fy)) ?_;(repeat(refine Pn.mk ?_;intro N hN)))|((try apply Or.inl);refine⟨_,aj.x (s6) (sd (tw @ab.eq_1 (tw @sZ @fy))),?_⟩;refine hN _ _ ?_;clear hN N)))
  refine⟨_,aj.x O0 (xn _ _),?_⟩
  refine hN _ _ ?_
  clear hN N
  (try((repeat(revert hN;revert N;apply Pn.out));refine wk @sZ ?_;(repeat(refine Pn.mk ?_;intro N hN))))
  refine .inl ⟨_,aj.x hho (hzh _ _ _),?_⟩
  refine hN _ _ ?_
  clear hN N
  (try((repeat(revert hN;revert N;apply Pn.out));refine wk @Nat.zero_add ?_;(repeat(refine Pn.mk ?_;intro N hN))))
  exact gz (.inl rfl) (r1:=.bool (sF (ig s l t) (cL (dQ (aE t (bL s l))) (bL s l)) t)) (r2:=.bool true) (sd @Nat.zero_add) (sd @Nat.zero_add) (by rw[tA,if_neg s4,decide_eq_true s4];simp only[dU,aP,bx,dO,Option.map_some])
theorem ta (t:Int):aj Tryz.prog 196 [.int .i64 t] (.bool (iM t 1 16)):=by
 refine aj.body ej rfl fun hl n0=>?_
 clear hl
 have h:=kM t 1 16
 (repeat(first|((repeat(revert hN;revert N;apply Pn.out));refine wk @Nat.zero_add ?_;(repeat(refine Pn.mk ?_;intro N hN)))|((try apply Or.inl);refine⟨_,aj.x (h) (sd @Nat.zero_add),?_⟩;refine hN _ _ ?_;clear hN N)))
 exact aI (b:=iM t 1 16) (.inl rfl) (sd @Nat.zero_add) rfl
theorem wc (Rv:BH) (s:aC) (hn:fK s.aB) (hg:s.aB.aA.length<=1048576) (ht:s.aB.ah.length<=1048576) (hs:∀t∈s.aB.ah,t.bH.length<=1048576) (hl:s.aX.ah.length<=1048576):aj Tryz.prog 105 [.agg (aw s)] (.bool (mE s)):=by
 refine aj.body ej rfl fun mm n0=>?_
 clear mm
 by_cases h0:(s.aX.ah.length:Int)=0
 ·have hd:decide ((s.aX.ah.length:Int)=0)=true:=decide_eq_true h0
  (try((repeat(revert hN;revert N;apply Pn.out));refine wk (tw @aw.eq_1 @hd) ?_;(repeat(refine Pn.mk ?_;intro N hN))))
  exact aI (b:=false) (.inl rfl) (sd @Nat.zero_add) (jJ fun h=>by have:=h.some;omega)
 have hd:decide ((s.aX.ah.length:Int)=0)=false:=decide_eq_false h0
 have Mu:=mM s.aB s.aX.ah hn hg ht hs hl
 have OQ:=ta s.az
 have key:aj Tryz.prog 163 [.agg (ab s.aB),.agg [.sl (s.aX.ah.map ad)],.int .i64 s.az] (.gN [.bool (mE s),.int .i64 (if pZ s.aB&&oQ s.aB s.aX.ah then(if iM s.az 1 16 then(if 64<ig s.aB s.aX.ah s.az then 4 else 0)else 2)else 1)]):=by
  refine aj.body ej rfl fun mm n0=>?_
  clear mm
  rw[ab]at Mu
  cases hA:pZ s.aB&&oQ s.aB s.aX.ah
  ·rw[hA]at Mu
   have kV:mE s=false:=(jJ fun h=>by rw[lV.2 h.set,lI.2 h.Bc]at hA;cases hA).symm
   (repeat(first|((repeat(revert hN;revert N;apply Pn.out));refine wk @ab.eq_1 ?_;(repeat(refine Pn.mk ?_;intro N hN)))|((try apply Or.inl);refine⟨_,aj.x (Mu) (sd @ab.eq_1),?_⟩;refine hN _ _ ?_;clear hN N)))
   exact gz (.inl rfl) (r1:=.bool false) (r2:=.int .i64 1) (sd @Nat.zero_add) (sd @Nat.zero_add) (by rw[kV];simp only[dU,aP,bx,dO,dL,Option.map_some];rfl)
  rw[hA]at Mu
  simp only[Bool.and_eq_true]at hA
  have hS:=lV.1 hA.1
  have hP:=lI.1 hA.2
  cases hT:iM s.az 1 16
  ·rw[hT]at OQ
   have kV:mE s=false:=(jJ fun h=>by have:=h.Nr;rw[hT]at this;cases this).symm
   (repeat(first|((repeat(revert hN;revert N;apply Pn.out));refine wk @ab.eq_1 ?_;(repeat(refine Pn.mk ?_;intro N hN)))|((try apply Or.inl);refine⟨_,aj.x (Mu) (sd @ab.eq_1),?_⟩;refine hN _ _ ?_;clear hN N)|((try apply Or.inl);refine⟨_,aj.x (OQ) (sd @ab.eq_1),?_⟩;refine hN _ _ ?_;clear hN N)))
   exact gz (.inl rfl) (r1:=.bool false) (r2:=.int .i64 2) (sd @Nat.zero_add) (sd @Nat.zero_add) (by rw[kV];simp only[dU,aP,bx,dO,dL,Option.map_some];rfl)
  have JZ:=dP hT
  rw[hT]at OQ
  have cK:=Io Rv s.aB s.aX.ah s.az (by omega) (by omega) hS hP
  rw[ab]at cK
  have hsy:mE s=mW s.aB s.aX.ah s.az:=by
   cases hB:mW s.aB s.aX.ah s.az
   ·exact(jJ fun h=>by have:=oJ.2 h.holds;rw[hB]at this;cases this).symm
   ·exact(Bg ⟨hS,hP,by omega,hT,oJ.1 hB⟩).symm
  by_cases sZ:64<ig s.aB s.aX.ah s.az
  ·rw[decide_eq_false fun h=>h sZ]at cK
   have kV:mE s=false:=(jJ fun h=>by have:=h.holds.1;unfold ig at sZ;omega).symm
   (repeat(first|((repeat(revert hN;revert N;apply Pn.out));refine wk @ab.eq_1 ?_;(repeat(refine Pn.mk ?_;intro N hN)))|((try apply Or.inl);refine⟨_,aj.x (Mu) (sd @ab.eq_1),?_⟩;refine hN _ _ ?_;clear hN N)|((try apply Or.inl);refine⟨_,aj.x (OQ) (sd @ab.eq_1),?_⟩;refine hN _ _ ?_;clear hN N)|((try apply Or.inl);refine⟨_,aj.x (cK) (sd @ab.eq_1),?_⟩;refine hN _ _ ?_;clear hN N)))
   exact gz (.inl rfl) (r1:=.bool false) (r2:=.int .i64 4) (sd @Nat.zero_add) (sd @Nat.zero_add) (by rw[kV,if_pos sZ];simp only[dU,aP,bx,dO,dL,Option.map_some])
  ·rw[decide_eq_true sZ,<-hsy]at cK
   (repeat(first|((repeat(revert hN;revert N;apply Pn.out));refine wk @ab.eq_1 ?_;(repeat(refine Pn.mk ?_;intro N hN)))|((try apply Or.inl);refine⟨_,aj.x (Mu) (sd @ab.eq_1),?_⟩;refine hN _ _ ?_;clear hN N)|((try apply Or.inl);refine⟨_,aj.x (OQ) (sd @ab.eq_1),?_⟩;refine hN _ _ ?_;clear hN N)|((try apply Or.inl);refine⟨_,aj.x (cK) (sd @ab.eq_1),?_⟩;refine hN _ _ ?_;clear hN N)))
   exact gz (.inl rfl) (r1:=.bool (mE s)) (r2:=.int .i64 0) (sd @Nat.zero_add) (sd @Nat.zero_add) (by rw[if_neg sZ];simp only[dU,aP,bx,dO,dL,Option.map_some])
 generalize hcode:(if pZ s.aB&&oQ s.aB s.aX.ah then(if iM s.az 1 16 then(if 64<ig s.aB s.aX.ah s.az then(4:Int)else 0)else 2)else 1)=code at key
 rw[ab]at key
 cases hB:mE s
 ·rw[hB]at key
  (repeat(first|((repeat(revert hN;revert N;apply Pn.out));refine wk (tw @aw.eq_1 @hd) ?_;(repeat(refine Pn.mk ?_;intro N hN)))|((try apply Or.inl);refine⟨_,aj.x (key) (sd (tw @aw.eq_1 @hd)),?_⟩;refine hN _ _ ?_;clear hN N)))
  exact aI (b:=false) (.inl rfl) (sd @Nat.zero_add) rfl
 ·rw[hB]at key
  have hP:=vJ.1 hB
  have hc:code=0:=by
   rw[<-hcode,lV.2 hP.set,lI.2 hP.Bc,hP.Nr]
   have:=hP.holds.1
   simp only[Bool.and_self,if_true]
   rw[if_neg (by unfold ig;omega)]
  rw[hc]at key
  (repeat(first|((repeat(revert hN;revert N;apply Pn.out));refine wk (tw @aw.eq_1 @hd) ?_;(repeat(refine Pn.mk ?_;intro N hN)))|((try apply Or.inl);refine⟨_,aj.x (key) (sd (tw @aw.eq_1 @hd)),?_⟩;refine hN _ _ ?_;clear hN N)))
  exact aI (b:=true) (.inl rfl) (sd @Nat.zero_add) rfl
end Go.Proofs.YtgoelphibofcmaaGreat.V

namespace Go.Proofs.YtgoelphibofcmaaGreat.V
open Go.RowKit
variable {P:Program} {hs:Nat}
theorem Gd {q n i:Nat} {ops:Array Oper} {Q:Exit->Act->World->Prop} {K K':Act->World->Prop} {a:Act} {w:World} (oy:∀(j:Nat) (o:Oper),ops[j]? =some o->∀c,o.op≠.defer c) (kV:¬LetsOut Q) (hK:∀a w,K a w->K' a w) (h:wpOp P ops Q i K a w):wpOpIn (Fence.wide.inRound q) n P ops Q i K' a w:=by
 unfold wpOp at h
 unfold wpOpIn
 split at h
 ·rename_i ho;simp only[ho];exact hK _ _ h
 ·rename_i o ho
  simp only[ho]
  split at h
  ·rename_i hw
   rw[if_pos hw]
   replace h:=h.resolve_right fun hc=>kV hc.2
   refine⟨fun _ _=>trivial,?_⟩
   rw[Oper.semAt_eq _ _ _ (oy i o ho)]
   unfold Oper.wp at h
   generalize (execOp a.eval o).run P w=r at *
   cases r with
   |ok m w'=>
    cases m<;>simp only[Oper.upon,Oper.uponIn]at h ⊢
    case value=>exact hK _ _ h
    case skip=>exact hK _ _ h
    case defer=>exact hK _ _ h
    case enter f args=>
     refine⟨fun h=>by simp[Fence.wide]at h,CallsIn.inRound q (callsIn_wide.2 (h.mono fun e Ji he=>?_))⟩
     cases e with
     |returned v=>exact hK _ _ he
     |panicked c=>exact he
     |outgrown=>exact he
    case row r args=>exact⟨fun h=>by simp[Fence.wide]at h,fun c cs _=>let ⟨v,Ji,h1,s⟩:=h c cs;⟨v,Ji,hK _ _ h1,stepsIn_wide.2 s⟩⟩
   |halt x w'=>cases x<;>simp only[Oper.upon,Oper.uponIn]at h ⊢;exact h
  ·rename_i hw
   rw[if_neg hw]
   exact⟨fun _ _=>trivial,hK _ _ h⟩
theorem vV {q n:Nat} {md:Region.Mode} {ops:Array Oper} {Q:Exit->Act->World->Prop} (oy:∀(j:Nat) (o:Oper),ops[j]? =some o->∀c,o.op≠.defer c) (kV:¬LetsOut Q):∀(fuel:Nat) (listed:Array Bool) (a:Act) (w:World),wpAny P md ops Q fuel listed a w->wpAnyIn (Fence.wide.inRound q) n P md ops Q fuel listed a w
 |0,_,_,_,h=>h
 |fuel+1,listed,_,_,h=>⟨h.1,fun i hi=>Gd oy kV (fun a w=>vV oy kV fuel _ a w) (h.2 i hi)⟩
def Ec:Op->Bool
 | .defer _=>true
 |_=>false
theorem HU {ops:Array Oper} (h:(ops.all fun o=> !Ec o.op)=true):∀(j:Nat) (o:Oper),ops[j]? =some o->∀c,o.op≠.defer c:=fun j o hj c hc=>by
 have:=Array.all_eq_true_iff_forall_mem.1 h o (Array.mem_of_getElem? hj)
 rw[hc]at this
 simp[Ec]at this
theorem y5 (hm:P.follows .mixedOrders=true) {nt site0 id q n:Nat} {ops:Array Oper} {vl:List aL} (h:qm P nt site0 ops true false=some vl) (oy:∀(j:Nat) (o:Oper),ops[j]? =some o->∀c,o.op≠.defer c)
  {K:Env->ar->Prop} {env:Env} {σ:ar} {a:Act} {w:World} {D:Nat->Prop} {ι:Names} {Q:Exit->Act->World->Prop} (hv:wpOps (Sound P) true vl K env σ) (cK:St P hs nt D ι env σ a w)
  (hK:∀iw σ' a' w' D' ι',K iw σ'->Step hs D ι w D' ι' w'->St P hs nt D' ι' iw σ' a' w'->a'.defers=a.defers->Q .normal a' w'):(Code.region id ops true).wpIn (Fence.wide.inRound q) n P Q a w:=by
 have dC:∃hidden r6,allM (km P ops nt site0 true false (jk ops) hidden) ops.toList 0=some r6/\vl=r6/\nH ops r6 (jk ops)=true:=by
  unfold qm at h
  simp only[if_true,Bool.not_true,Bool.false_or]at h
  split at h
  ·rename_i r6 h'
   split at h
   ·rename_i uC;simp at h;exact⟨_,r6,h',h.symm,uC⟩
   ·cases h
  ·cases h
 obtain⟨hidden,r6,dC,rfl,uC⟩:=dC
 obtain⟨qt,T0⟩:=cK.drew
 obtain⟨hlen,_⟩:=nC dC
 have kr:vl.length=ops.size:=by rw[hlen];simp
 have Cn:=vQ (X:=Sound P) (K:=K) (n:=σ.next) uC kr vl 0 (Array.replicate ops.size false) env σ.get (by simp) (by simp) (fun i hi=>by simp[hi]) (by simp[kr]) (fun k i h=>by
  exfalso
  rcases Nat.lt_or_ge k ops.size with hk|hk
  ·simp[hk]at h
  ·simp[Nat.not_lt.2 hk]at h) hv
 rw[kr]at Cn
 have hw:=wS (Q:=fun e a w=>e=.normal/\Q .normal a w) dC ops.size _ env σ.get a w.drew D ι (fun _=>False) Cn qt.rW qt.used (fun _ h=>h.elim) qt.env qt.size fun iQ g1 a1 w1 D1 ι1 U1 hk T S1 Re E1 tz hd=>⟨rfl,hK iQ ⟨g1,σ.next+1⟩ a1 w1 D1 ι1 hk (T0.trans T) ⟨S1,Re.next,E1,tz⟩ hd⟩
 have fA:=vV (q:=q) (n:=n) (Q:=fun e a w=>e=.normal/\Q .normal a w) oy (by rintro⟨_,_,hc,_⟩;cases hc) ops.size _ a w.drew hw
 refine wpIn_mono (wpIn_region_any (id:=id) hm fA) ?_
 rintro e a w ⟨rfl,h⟩
 exact h
end Go.Proofs.YtgoelphibofcmaaGreat.V

namespace Go.Proofs.YtgoelphibofcmaaGreat.V
open Go.RowKit Go.Shelf
attribute [local go_sem] Oper.semAt_some
def gU (n₀:Nat) (W W':World):Prop:=W.heap.size<=W'.heap.size/\(∀(b:Nat) (cells:Array Value) (T:TypeId) (fr:Nat×Nat),W.heap[b]? =some (Obj.cells cells T fr)->T≠226->T≠246->W'.heap[b]? =W.heap[b]?)/\∀k,k<n₀->k<W.heap.size->W'.heap[k]? =W.heap[k]?
theorem gU.trans {n₀:Nat} {A B C:World} (h:gU n₀ A B) (k:gU n₀ B C):gU n₀ A C:=⟨Nat.le_trans h.1 k.1,fun b cells T fr hb h1 h2=>by
 have e:=h.2.1 b cells T fr hb h1 h2
 rw[<-e]at hb ⊢
 exact k.2.1 b cells T fr hb h1 h2,fun b hb hs=>(k.2.2 b hb (Nat.lt_of_lt_of_le hs h.1)).trans (h.2.2 b hb hs)⟩
theorem gU.of {n₀:Nat} {W W':World} (h:Below W.heap.size W W'):gU n₀ W W':=⟨h.size,fun b cells T fr hb _ _=>h.block b (Array.getElem?_eq_some_iff.1 hb).1,fun k _ hs=>h.block k hs⟩
theorem gU.refl (n₀:Nat) (W:World):gU n₀ W W:=⟨Nat.le_refl _,fun _ _ _ _ _ _ _=>rfl,fun _ _ _=>rfl⟩
theorem gU.b {n₀ m:Nat} (hm:n₀<=m) (W:World) (l:Nat) (o o':Obj) (hl:m<=l) (h:W.heap[l]? =some o) (hc:o.isCells=false) (_:o.isWalk=false):gU n₀ W (W.putObj l o'):=by
 refine⟨by simp,fun b cells T fr hb _ _=>?_,fun k hk _=>World.putObj_heap_other (by omega)⟩
 by_cases ml:b=l
 ·subst ml;rw[h]at hb;cases hb;cases hc
 ·exact World.putObj_heap_other ml
def Jq (bs:List PB):List Value:=bs.flatMap fun b=>[.int .i64 b.a,.int .i64 b.b,.int .i64 b.s]
theorem GJ (bs:List PB) (b:PB):Jq (bs++[b])=Jq bs++[.int .i64 b.a,.int .i64 b.b,.int .i64 b.s]:=by simp[Jq]
def ni (s:au) (l:List ae) (pre:List (LF l)):List PB:=(pre.map (·.1)).flatMap (xX s l)
theorem wV (s:au) (l:List ae) (pre:List (LF l)) (x:LF l):ni s l (pre++[x])=ni s l pre++xX s l x.1:=by simp[ni]
theorem GI (s:au) (l:List ae) (x:Nat×Nat×Int):(xX s l x).length<=1:=by
 unfold xX;split<;>simp
theorem GK (s:au) (l:List ae) (pre:List (LF l)):(ni s l pre).length<=pre.length:=by
 unfold ni
 induction pre with
 |nil=>simp
 |cons x r ih=>
  have:=GI s l x.1
  simp only[List.map_cons,List.flatMap_cons,List.length_append,List.length_cons]at ih ⊢
  omega
theorem xF (l:List ae) (i:Nat):∀m,(kB l i m).length<=m
 |0=>by simp[kB]
 |m+1=>by
  rw[mv,List.length_append]
  have:=xF l i m
  have:(AX l i (1-(m:Int))).length<=1:=by unfold AX;split<;>simp
  omega
theorem AY (l:List ae):∀n,(kY l n).length<=n*2
 |0=>by simp[kY]
 |n+1=>by
  rw[lS,List.length_append]
  have:=AY l n
  have:=xF l n 2
  omega
theorem Am {β:Type} (B:Nat) (c:Array Value) (t:TypeId) (fr:Nat×Nat):Own (fun(_:β) W=>W.heap[B]? =some (.cells c t fr)):=fun _ X _ row h hg hr=>(hg.block B (Array.getElem?_eq_some_iff.1 h).1 (fun e=>by
 obtain⟨o,ho,hc⟩:=hr B e.symm
 rw[h]at ho;cases ho;cases hc)).trans h
theorem gU.app {n₀:Nat} {W w1:World} {B k:Nat} {v v':Value} {xs:List Value} {tmp:Obj} (hv:Boxed W B 226 v) (fy:W.ownsRow n₀ 246 3 v k xs) (DW:(W.alloc tmp).grownBy w1 v.ownBlock) (hb:Below n₀ W (w1.setCell ⟨B,0,none⟩ v')):gU n₀ W (w1.setCell ⟨B,0,none⟩ v'):=by
 refine⟨hb.size,fun b cells T fr h h1 h2=>?_,fun k hk _=>hb.block k hk⟩
 have dy:=(Array.getElem?_eq_some_iff.1 h).1
 have hbB:b≠B:=by
  rintro rfl
  rw[show W.heap[b]? = _ from hv]at h
  cases h
  exact h1 rfl
 have Qy:some b≠v.ownBlock:=by
  rcases fy.2 with⟨rfl,_⟩|⟨g,cap,cur,rfl,_,hg,_⟩
  ·simp[Value.ownBlock]
  ·intro e
   obtain rfl:b=g:=by simpa[Value.ownBlock]using e
   rw[hg]at h;cases h
   exact h2 rfl
 refine(Below.heap_setCell w1 ⟨B,0,none⟩ v' b hbB).trans ?_
 exact(DW.block b (by simp;omega) Qy).trans (Below.heap_alloc W tmp b dy)
theorem PF {w:World} {vS:Value} {l:List ae} (hP:oP w vS l):Gv (gU w.heap.size) vS l where
 refl:=gU.refl _
 trans:=gU.trans
 of:=gU.of
 size h:=h.1
 typed h:=h.2.1
 pl {W W'} h hp:=by
  obtain⟨A,c,rfl,hm,hc⟩:=hp.sl
  refine⟨A,c,rfl,hm,?_⟩
  by_cases hl:l=[]
  ·exact .inl hl
  have kW:0<l.length:=List.length_pos_iff.2 hl
  rcases hc with h0|⟨b,o,rfl,j4⟩
  ·exact absurd h0 hl
  obtain⟨A',c',e,_,kq⟩:=hP.sl
  cases e
  rcases kq with h0|⟨b',o',e,hcell'⟩
  ·exact absurd h0 hl
  cases e
  have hb:=th (hcell' 0 kW).1
  have hk:=h.2.2 b hb (th (j4 0 kW).1)
  refine .inr ⟨b,o,rfl,fun i hi=>?_⟩
  have Al:∀x,W'.cell? ⟨b,x,none⟩=W.cell? ⟨b,x,none⟩:=fun x=>World.cell?_of_block hk
  rw[Al,Al,Al]
  exact j4 i hi
theorem rrE {P:Program} {nt site0:Nat} {ops:Array Oper} {vl:List aL} (_:xZ P ops site0 false (jk ops) (qx P false ops.toList 0) ops.toList 0=some vl:=by(conv=>lhs;cbv)<;>exact rfl) (h:qm P nt site0 ops true false=some vl:=by kernel_rfl):qm P nt site0 ops true false=some vl:=h
theorem HM (l:List Value) (d:Value):l=(List.range l.length).map fun i=>(⟨l⟩:Array Value).getD i d:=by
 refine List.ext_getElem (by simp) fun i h1 h2=>?_
 simp[h1]
theorem CX {X:fq} {d:Bool} {ops:List aL} {K:Env->ar->Prop} {env:Env} {σ:ar} (h:dI X (.dR d ops) (fun _=>K) env σ):wpOps X d ops K env σ:=h
theorem ub (W:World) (T:TypeId) (x y z:Value):∀(j:Nat) (u:Value),[x,y,z][j]? =some u->(W.alloc (.cells #[x,y,z] T)).cell? ((⟨W.heap.size,0,none⟩:Addr).add j)=some u:=fun j u h=>by
 have hb:(W.alloc (.cells #[x,y,z] T)).heap[W.heap.size]? =some (.cells #[x,y,z] T (0,0)):=World.alloc_heap_new _ _
 have e:∀k,(W.alloc (.cells #[x,y,z] T)).cell? ⟨W.heap.size,k,none⟩=(#[x,y,z]:Array Value)[k]? :=fun k=>by
  unfold World.cell?
  rw[show(W.alloc (.cells #[x,y,z] T)).heap[(⟨W.heap.size,k,none⟩:Addr).block]? = _ from hb]
  rfl
 rw[show(⟨W.heap.size,0,none⟩:Addr).add j=⟨W.heap.size,j,none⟩ by simp[Addr.add];exact fun h=>h.symm,e]
 simpa using h
def GQ (n b:Nat):Names:=fun id=>if id=⟨1,0⟩then some ⟨n,2,2,none⟩else if id=⟨2,0⟩then some ⟨n+1,1,1,none⟩else if id=⟨3,0⟩then some ⟨n+1+1,1,1,none⟩else if id=⟨4,0⟩then some ⟨b,2,2,none⟩else if id=⟨5,0⟩then some ⟨n+1+1+1,1,1,none⟩else none
def KZ (s:au) (l:List ae) (i k:Nat):Rows:=fun id=>if id=⟨1,0⟩then some ⟨false,2,[ab s]⟩else if id=⟨2,0⟩then some ⟨false,1,[[.sl (l.map ad)]]⟩else if id=⟨4,0⟩then some ⟨false,2,[[.int .i64 (i:Int),.int .i64 (k:Int)]]⟩else none
def LS (s:au) (l:List ae) (i k:Nat) (d:Int):Env:=cw [.agg (ab s),.agg [.sl (l.map ad)],.ptr ⟨1,0⟩ 0 0,.ptr ⟨2,0⟩ 0 0,.cu,.ptr ⟨3,0⟩ 0 0,.ptr ⟨4,0⟩ 0 0,.int .i64 d,.undef,.agg [.sl (l.map ad)],.fn 264 [.ptr ⟨5,0⟩ 0 0],.agg [.int .i64 (i:Int),.int .i64 (k:Int)],.int .i64 d]
theorem C4 {P:Program} {W:World} {D:Nat->Prop} {ι:Names} {B:re} {cells:Array Value} {T:TypeId} {cs:List AV} (hk:B.k=none) (hb:W.heap[B.b]? =some (.cells cells T (0,0))) (hC:cells.size=B.C) (hz:B.sz=cs.length) (hl:cs.length=cells.size) (hf:∀a∈cs,a.cell=true) (hr:∀(j:Nat) (a:AV),cs[j]? =some a->∃v,cells[j]? =some v/\cq P W D ι a v):gV P W D ι B ⟨false,cs.length,[cs]⟩:=
 k6.obj ⟨hz,⟨cells,T,hb,hC⟩,by simp;omega,fun c hc=>by simp at hc;rw[hc],fun c hc=>by simp at hc;rw[hc];exact hf,fun i j c a hi hj=>by
  match i,hi with
  |0,hi=>
   simp at hi;subst hi
   obtain⟨v,h1,h2⟩:=hr j a hj
   exact⟨v,by simp[World.cell?,hb,h1],h2⟩
  |i+1,hi=>simp at hi⟩ hk
theorem HE:(Tryz.prog.info? 246).map (fun i=>(i.zero,i.size,i.bytes))=some (some (.agg #[.int .i64 0,.int .i64 0,.int .i64 0]),3,24):=by kernel_rfl
end Go.Proofs.YtgoelphibofcmaaGreat.V

namespace Go.Proofs.YtgoelphibofcmaaGreat.V
open Go.RowKit Go.Shelf
attribute [local go_sem] Oper.semAt_some
attribute [local irreducible] dI wpOps ib Call
attribute [local go_sem] aJ gu eW gR gQ cE upd cw K.av cY AV.cells AV.cell rowOf rowsOf part ld rowAt bB cr dY eG jq bP dq eT gP fx dE eK dn dm eu ew bU bp db bR de dc eI eL eJ da cm dp eH bQ aO di cI jo bE cU bV aY du aV ea AV.undef bG bJ eA eE ei ep cJ eR eV cG eO eM dh dj List.getD_cons_zero List.getD_cons_succ List.getD_nil List.all_cons List.all_nil Bool.and_true Bool.true_and Bool.and_self Bool.not_true Bool.not_false Option.map_some Option.map_none Option.bind_some Option.bind_none List.length_cons List.length_nil List.take_succ_cons List.take_zero List.take_nil List.drop_succ_cons List.drop_zero List.drop_nil List.head?_cons List.map_cons List.map_nil List.getElem?_cons_zero List.getElem?_cons_succ List.cons_append List.nil_append List.append_nil List.length_map List.set_cons_zero List.set_cons_succ Nat.reduceMul eq_self Int.toNat_natCast Int.natCast_nonneg and_self true_and and_true decide_true decide_false Bool.false_eq_true Nat.zero_add Nat.add_zero List.contains_cons List.contains_nil Bool.or_false Bool.false_or beq_self_eq_true Nat.reduceBEq ne_eq not_true_eq_false not_false_eq_true Id.mk.injEq false_and and_false Nat.reduceLT Int.reduceLE Int.reduceLT Int.reduceToNat Int.reduceNeg Int.reduceAdd Nat.le_refl List.length_append beq_true beq_false Bool.not_eq_eq_eq_not or_false false_or eh ao aq aK br bI cC bc bz aQ bt cX cj
theorem GO (s:au) (l:List ae) (hF:ke s) (hA:jw s l) (w:World) (Ag At:Option Addr) (ng cg nt ct:Nat) (vS:Value) (hT:jr Tryz.prog w (fun b=>b<w.heap.size) (.agg (ab s)) (.agg #[.slice Ag ng cg,.slice At nt ct])) (hP:oP w vS l):
  CallsIn Fence.wide 5 Tryz.prog 222 #[.agg #[.slice Ag ng cg,.slice At nt ct],.agg #[vS]] w fun e W'=>∃v,e=.returned v/\W'.ownsRow w.heap.size 246 3 v (bL s l).length (Jq (bL s l))/\(v=.slice none 0 0↔bL s l=[])/\Below w.heap.size w W':=by
 obtain⟨A,cp,rfl,_,_⟩:=hP.sl
 obtain⟨i0,hi,Ln,tz,kf⟩:=info_parts HE
 refine callsIn_of_wp_marks Tryz.func222 rfl trivial ?_ rfl
 simp only[Tryz.ntmps222,List.size_toArray,List.length_cons,List.length_nil,Nat.reduceAdd,Nat.reduceSub,Array.replicate_succ,Array.replicate_zero,List.push_toArray,List.append_toArray,List.nil_append,List.cons_append]
 gi_wp2_with (refine⟨trivial,?_⟩;gi_at_call 244;refine(yT _ _ _).mono ?_;rintro e w' ⟨rfl,rfl⟩)
 have bT:((w.alloc (.cells #[.slice Ag ng cg,.slice At nt ct] 38)).heap[w.heap.size]?)=some (.cells #[.slice Ag ng cg,.slice At nt ct] 38 (0,0)):=World.alloc_heap_new _ _
 obtain⟨w1,rL⟩:∃w1,w.alloc (.cells #[.slice Ag ng cg,.slice At nt ct] 38)=w1:=⟨_,rfl⟩
 have Oo:w1.heap.size=w.heap.size+1:=by rw[<-rL];simp
 have DR:Below w.heap.size w w1:=by rw[<-rL];exact(Below.refl _ w).alloc (Nat.le_refl _) _
 rw[rL]at bT ⊢
 clear rL
 have bA:=Boxed.new w1 41 (.slice A l.length cp)
 have bO:=Boxed.new (w1.alloc (.cells #[.slice A l.length cp] 41)) 226 (.slice none 0 0)
 have bN:=Boxed.new ((w1.alloc (.cells #[.slice A l.length cp] 41)).alloc (.cells #[.slice none 0 0] 226)) 41 (.slice A l.length cp)
 replace bA:=(bA.alloc (.cells #[.slice none 0 0] 226)).alloc (.cells #[.slice A l.length cp] 41)
 replace bO:=bO.alloc (.cells #[.slice A l.length cp] 41)
 simp only[World.size_alloc,Oo]at bA bO bN
 have rE:Below w1.heap.size w1 (((w1.alloc (.cells #[.slice A l.length cp] 41)).alloc (.cells #[.slice none 0 0] 226)).alloc (.cells #[.slice A l.length cp] 41)):=(((Below.refl _ w1).alloc (Nat.le_refl _) _).alloc (by simp) _).alloc (by simp;omega) _
 have e5:(((w1.alloc (.cells #[.slice A l.length cp] 41)).alloc (.cells #[.slice none 0 0] 226)).alloc (.cells #[.slice A l.length cp] 41)).heap.size=w.heap.size+4:=by simp;omega
 obtain⟨W0,hW0⟩:∃W0,((w1.alloc (.cells #[.slice A l.length cp] 41)).alloc (.cells #[.slice none 0 0] 226)).alloc (.cells #[.slice A l.length cp] 41)=W0:=⟨_,rfl⟩
 rw[hW0]at bA bO bN rE e5 ⊢
 clear hW0
 have Aj:Below w.heap.size w W0:=DR.trans (rE.mono (by omega))
 replace bT:=(rE.block w.heap.size (by omega)).trans bT
 have hP0:oP W0 (.slice A l.length cp) l:=hP.below Aj
 have kl:=PF hP
 have ml:=po (s:=s) hA.1
 refine wpIn_rangeFunc_ownH (n:=5) rfl (by omega) (gf:=264) (lb:= #[.pointer (some ⟨w.heap.size+1+1+1,0,none⟩)]) rfl trivial (enters_of Tryz.func264 (by kernel_rfl) rfl)
  (HS l hA.1 (w.heap.size+1+1+1) (5-1) (by omega) (.slice A l.length cp) (gU w.heap.size) kl W0 bN hP0) gU.trans (gU.b (by omega)) (Below.refl _ _) (fun _=>rfl)
  (fun pre W=>((∃v,Boxed W (w.heap.size+1+1) 226 v/\W.ownsRow w.heap.size 246 3 v (ni s l pre).length (Jq (ni s l pre))/\(v=.slice none 0 0↔ni s l pre=[]))/\(Boxed W (w.heap.size+1) 41 (.slice A l.length cp)/\W.heap[w.heap.size]? =some (.cells #[.slice Ag ng cg,.slice At nt ct] 38 (0,0))))/\Below w.heap.size w W)
  (fun _ _ _=>False)
  (OwnFrom.and (OwnFrom.and (Own.from (holdsRow_own w.heap.size (w.heap.size+1+1) 226 246 3 (fun pre=>(ni s l pre).length) (fun pre=>Jq (ni s l pre)) (fun pre v=>v=.slice none 0 0↔ni s l pre=[])) _) (OwnFrom.and (Own.from (boxed_own _ _ _) _) (Own.from (Am _ _ _ _) _))) (ownFrom_below (Nat.le_refl _) (by omega)))
  (fun _ _ _ _ _ hs _ _=>hs)
  ⟨⟨⟨_,bO,World.ownsRow_nil _ _ _ _,by simp[ni]⟩,bA,bT⟩,Aj⟩
  (fun x a' W=>∃Bx,w.heap.size+1+1<Bx/\W.heap[Bx]? =some (.cells #[.int .i64 (x.1.1:Int),.int .i64 (x.1.2.1:Int)] 283 (0,0))/\a'={tmps:= #[.agg #[.slice Ag ng cg,.slice At nt ct],.agg #[.slice A l.length cp],.pointer (some ⟨w.heap.size,0,none⟩),.pointer (some ⟨w.heap.size+1,0,none⟩),.slice none 0 0,.pointer (some ⟨w.heap.size+1+1,0,none⟩),.pointer (some ⟨Bx,0,none⟩),.int .i64 x.1.2.2,undef,.agg #[.slice A l.length cp],.func (.func 264) #[] #[.pointer (some ⟨w.heap.size+1+1+1,0,none⟩)],.agg #[.int .i64 (x.1.1:Int),.int .i64 (x.1.2.1:Int)],.int .i64 x.1.2.2,undef,undef,undef,undef,undef,undef,undef,undef,undef,undef,undef,undef,undef,undef,undef,undef,undef,undef,undef,undef,undef,undef,undef,undef,undef,undef,undef,undef,undef],defers:=[]})
  (fun x a' _ X Y row hs hg hr=>by obtain⟨Bx,h1,h2,h3⟩:=hs;exact⟨Bx,h1,Am Bx _ _ _ () X Y row h2 hg (fun r e=>(hr r e).2),h3⟩)
  ?assign ?body ?done ?stop
 case assign=>
  rintro q pre ⟨⟨x0,x1,x2⟩,hx⟩ W K ⟨⟨⟨v,hv,fy,hnil⟩,bA1,bT1⟩,hB⟩ hK
  simp only[DK]
  gi_wp2
  exact hK _ _ ((KeepsOthers.alloc _ _).from _) (gU.of ((Below.refl _ W).alloc (Nat.le_refl _) _)) ⟨⟨⟨v,hv.alloc _,fy.alloc _,hnil⟩,bA1.alloc _,(Below.heap_alloc _ _ _ (Array.getElem?_eq_some_iff.1 bT1).1).trans bT1⟩,hB.alloc hB.size _⟩ ⟨W.heap.size,hv.lt,World.alloc_heap_new _ _,rfl⟩
 case body=>
  rintro q pre ⟨⟨x0,x1,x2⟩,hx⟩ a' W hq hqr ⟨⟨⟨v,hv,fy,hnil⟩,bA1,bT1⟩,hB⟩ ⟨Bx,hBx,bX,rfl⟩ dy
  obtain⟨BE,Ll,zJ⟩:=hx
  simp only at BE Ll zJ bX
  obtain⟨A',c',e',_,hc⟩:=(hP.below hB).sl
  cases e'
  have cR:∃b o,A=some ⟨b,o,none⟩/\W.cell? ⟨b,o+x0*3+2,none⟩=some (.int .i64 (aG l x0).aN)/\W.cell? ⟨b,o+x1*3+2,none⟩=some (.int .i64 (aG l x1).aN):=by
   rcases hc with rfl|⟨b,o,rfl,j4⟩
   ·simp at BE
   ·exact⟨b,o,rfl,by rw[Nat.add_assoc];exact(j4 x0 BE).2.2,by rw[Nat.add_assoc];exact(j4 x1 Ll).2.2⟩
  obtain⟨b,o,rfl,cP0,cP1⟩:=cR
  have cT0:W.cell? ⟨w.heap.size,0,none⟩=some (.slice Ag ng cg):=by simp[World.cell?,bT1]
  have cT1:W.cell? ⟨w.heap.size,1,none⟩=some (.slice At nt ct):=by simp[World.cell?,bT1]
  have cX0:W.cell? ⟨Bx,0,none⟩=some (.int .i64 (x0:Int)):=by simp[World.cell?,bX]
  have cX1:W.cell? ⟨Bx,1,none⟩=some (.int .i64 (x1:Int)):=by simp[World.cell?,bX]
  have cA:=bA1.cell
  have dP0:W.drew.cell? ⟨b,o+x0*3+2,none⟩=some (.int .i64 (aG l x0).aN):=cP0
  have dP1:W.drew.cell? ⟨b,o+x1*3+2,none⟩=some (.int .i64 (aG l x1).aN):=cP1
  have dT0:W.drew.cell? ⟨w.heap.size,0,none⟩=some (.slice Ag ng cg):=cT0
  have dT1:W.drew.cell? ⟨w.heap.size,1,none⟩=some (.slice At nt ct):=cT1
  have dX0:W.drew.cell? ⟨Bx,0,none⟩=some (.int .i64 (x0:Int)):=cX0
  have dX1:W.drew.cell? ⟨Bx,1,none⟩=some (.int .i64 (x1:Int)):=cX1
  have dA:W.drew.cell? ⟨w.heap.size+1,0,none⟩=some (.slice (some ⟨b,o,none⟩) l.length cp):=cA
  have rJ:∀i,i<l.length->aG l i∈l:=fun i hi=>by
   unfold aG
   rw[List.getD_eq_getElem?_getD,List.getElem?_eq_getElem hi]
   exact List.getElem_mem hi
  have Se:=mixed
  have hfw:=hA.1.so
  have Qz:=GN s hF (aG l x0).aN x2 (aG l x1).aN (hA.2 _ (rJ x0 BE)) (hA.2 _ (rJ x1 Ll)) (jc (by omega))
  have hTW:jr Tryz.prog W (fun b=>b<w.heap.size) (.agg (ab s)) (.agg #[.slice Ag ng cg,.slice At nt ct]):=hT.frame (fun b hb=>hB.block b hb) (fun _ h=>h)
  have hAW:jr Tryz.prog W (fun b=>b<w.heap.size) (.sl (l.map ad)) (.slice (some ⟨b,o,none⟩) l.length cp):=hP.eD.frame (fun b hb=>hB.block b hb) (fun _ h=>h)
  obtain⟨fT,hT0,hT1⟩:∃f:Nat->Value,(∀j,j<(ab s).length->(#[Value.slice Ag ng cg,.slice At nt ct])[j]? =some (f j))/\∀j a,(ab s)[j]? =some a->jr Tryz.prog W (fun b=>b<w.heap.size) a (f j):=by
   cases hTW with
   |agg _ _ f _ _ h3 h4=>exact⟨f,h3,h4⟩
  have cK:St Tryz.prog W.heap.size 42 (fun b=>b<w.heap.size) (GQ w.heap.size Bx) (LS s l x0 x1 x2) ⟨KZ s l x0 x1,1⟩ {tmps:= #[.agg #[.slice Ag ng cg,.slice At nt ct],.agg #[.slice (some ⟨b,o,none⟩) l.length cp],.pointer (some ⟨w.heap.size,0,none⟩),.pointer (some ⟨w.heap.size+1,0,none⟩),.slice none 0 0,.pointer (some ⟨w.heap.size+1+1,0,none⟩),.pointer (some ⟨Bx,0,none⟩),.int .i64 x2,undef,.agg #[.slice (some ⟨b,o,none⟩) l.length cp],.func (.func 264) #[] #[.pointer (some ⟨w.heap.size+1+1+1,0,none⟩)],.agg #[.int .i64 (x0:Int),.int .i64 (x1:Int)],.int .i64 x2,undef,undef,undef,undef,undef,undef,undef,undef,undef,undef,undef,undef,undef,undef,undef,undef,undef,undef,undef,undef,undef,undef,undef,undef,undef,undef,undef,undef,undef],defers:=[]} W:=by
   have n1:(GQ w.heap.size Bx) ⟨1,0⟩=some ⟨w.heap.size,2,2,none⟩:=rfl
   have n2:(GQ w.heap.size Bx) ⟨2,0⟩=some ⟨w.heap.size+1,1,1,none⟩:=rfl
   have n3:(GQ w.heap.size Bx) ⟨3,0⟩=some ⟨w.heap.size+1+1,1,1,none⟩:=rfl
   have n4:(GQ w.heap.size Bx) ⟨4,0⟩=some ⟨Bx,2,2,none⟩:=rfl
   have n5:(GQ w.heap.size Bx) ⟨5,0⟩=some ⟨w.heap.size+1+1+1,1,1,none⟩:=rfl
   have rp:∀(id:Id) (B:re),(GQ w.heap.size Bx) id=some B->B.k=none->cq Tryz.prog W (fun b=>b<w.heap.size) (GQ w.heap.size Bx) (.ptr id 0 0) (.pointer (some ⟨B.b,0,none⟩)):=fun id B h hk=>by
    have:=cq.ptr (P:=Tryz.prog) (w:=W) (D:=fun b=>b<w.heap.size) id 0 0 B h hk
    simpa using this
   have ri:∀n:Int,cq Tryz.prog W (fun b=>b<w.heap.size) (GQ w.heap.size Bx) (.int .i64 n) (.int .i64 n):=fun n=>.eD _ _ (.int _ _)
   have hA1:jr Tryz.prog W (fun b=>b<w.heap.size) (.agg [.sl (l.map ad)]) (.agg #[.slice (some ⟨b,o,none⟩) l.length cp]):=.agg _ _ (fun _=>.slice (some ⟨b,o,none⟩) l.length cp) rfl (fun a ha=>by simp at ha;rw[ha];rfl) (fun j hj=>by match j,hj with|0,_=>rfl|j+1,hj=>simp at hj) (fun j a ha=>by match j,ha with|0,ha=>simp at ha;subst ha;exact hAW|j+1,ha=>simp at ha)
   refine⟨⟨Nat.le_refl _,fun b hb=>Nat.lt_of_lt_of_le hb hB.size,fun id r hg=>?_,fun id jR r r' B B' h _ hw=>?_⟩,fun id hid=>?_,fun t=>?_,rfl⟩
   ·replace hg:KZ s l x0 x1 id=some r:=hg
    unfold KZ at hg
    split at hg
    ·rename_i e;subst e;injection hg with hg;subst hg
     exact⟨_,n1,C4 (cs:=ab s) rfl bT1 rfl rfl rfl (fun a ha=>by simp[ab]at ha;rcases ha with rfl|rfl<;>rfl) (fun j a ha=>⟨_,hT0 j (List.getElem?_eq_some_iff.1 ha).1,.eD _ _ (hT1 j a ha)⟩),fun h=>(by cases h),fun h=>(by cases h)⟩
    ·split at hg
     ·rename_i e;subst e;injection hg with hg;subst hg
      exact⟨_,n2,C4 (cs:=[.sl (l.map ad)]) rfl bA1 rfl rfl rfl (fun a ha=>by simp at ha;rw[ha];rfl) (fun j a ha=>by match j,ha with|0,ha=>simp at ha;subst ha;exact⟨_,rfl,.eD _ _ hAW⟩|j+1,ha=>simp at ha),fun h=>(by cases h),fun h=>(by cases h)⟩
     ·split at hg
      ·rename_i e;subst e;injection hg with hg;subst hg
       exact⟨_,n4,C4 (cs:=[.int .i64 (x0:Int),.int .i64 (x1:Int)]) rfl bX rfl rfl rfl (fun a ha=>by simp at ha;rcases ha with rfl|rfl<;>rfl) (fun j a ha=>by match j,ha with|0,ha=>simp at ha;subst ha;exact⟨_,rfl,ri _⟩|1,ha=>simp at ha;subst ha;exact⟨_,rfl,ri _⟩|j+2,ha=>simp at ha),fun h=>(by cases h),fun h=>(by cases h)⟩
      ·cases hg
   ·exfalso
    replace h:KZ s l x0 x1 id=some r:=h
    unfold KZ at h
    split at h
    ·injection h with h;subst h;cases hw
    ·split at h
     ·injection h with h;subst h;cases hw
     ·split at h
      ·injection h with h;subst h;cases hw
      ·cases h
   ·left
    unfold GQ at hid
    repeat' (split at hid)
    all_goals first|(rename_i e;subst e;exact Nat.zero_lt_one)|exact absurd rfl hid
   ·match t with
    |0=>exact .eD _ _ hTW
    |1=>exact .eD _ _ hA1
    |2=>exact rp _ _ n1 rfl
    |3=>exact rp _ _ n2 rfl
    |4=>exact .eD _ _ .cu
    |5=>exact rp _ _ n3 rfl
    |6=>exact rp _ _ n4 rfl
    |7=>exact ri _
    |8=>exact cq.undef
    |9=>exact .eD _ _ hA1
    |10=>exact .fn _ _ _ (fun _=>.pointer (some ⟨w.heap.size+1+1+1,0,none⟩)) (by kernel_rfl) rfl (fun j hj=>by match j,hj with|0,_=>rfl|j+1,hj=>simp at hj) (fun j a ha=>by match j,ha with|0,ha=>simp at ha;subst ha;exact rp _ _ n5 rfl|j+1,ha=>simp at ha)
    |11=>exact .agg _ _ (fun j=>if j=0 then .int .i64 (x0:Int)else .int .i64 (x1:Int)) rfl (fun a ha=>by simp at ha;rcases ha with rfl|rfl<;>rfl) (fun j hj=>by match j,hj with|0,_=>rfl|1,_=>rfl|j+2,hj=>simp at hj;omega) (fun j a ha=>by match j,ha with|0,ha=>simp at ha;subst ha;exact ri _|1,ha=>simp at ha;subst ha;exact ri _|j+2,ha=>simp at ha)
    |12=>exact ri _
    |13=>exact cq.undef
    |14=>exact cq.undef
    |15=>exact cq.undef
    |16=>exact cq.undef
    |17=>exact cq.undef
    |18=>exact cq.undef
    |19=>exact cq.undef
    |20=>exact cq.undef
    |21=>exact cq.undef
    |22=>exact cq.undef
    |23=>exact cq.undef
    |24=>exact cq.undef
    |25=>exact cq.undef
    |26=>exact cq.undef
    |27=>exact cq.undef
    |28=>exact cq.undef
    |29=>exact cq.undef
    |30=>exact cq.undef
    |31=>exact cq.undef
    |32=>exact cq.undef
    |33=>exact cq.undef
    |34=>exact cq.undef
    |35=>exact cq.undef
    |36=>exact cq.undef
    |37=>exact cq.undef
    |38=>exact cq.undef
    |39=>exact cq.undef
    |40=>exact cq.undef
    |41=>exact cq.undef
    |t+42=>exact cq.undef
  have hV:wpOps (Call Tryz.prog) true ?vl (fun e _=>e 5=.ptr ⟨3,0⟩ 0 0/\e 6=.ptr ⟨4,0⟩ 0 0/\e 8=.int .i64 (gw s (aG l x0).aN x2 (aG l x1).aN)) (LS s l x0 x1 x2) ⟨KZ s l x0 x1,1⟩:= ?hv
  gi_wp2
  refine y5 mixed (rrE (nt:=42) (site0:=222005000)) (HU (by kernel_rfl)) (kN (fun _ _ _ _ h=>gY mixed h) ki (fun _ _ h=>h) _ _ _ hV) cK ?_
  rintro e1 σ1 ⟨tm,df⟩ w3 D1 ι1 ⟨h5,h6,h8⟩ T1 rf Cp
  case hv=>
   refine CX ?_
   have e0:=fh BE
   have e1:=fh Ll
   (repeat(first|((repeat(revert hN;revert N;apply Pn.out));refine wk (tw @e0 (tw @e1 (tw @LS.eq_1 (tw @KZ.eq_1 (tw @ad.eq_1 @ab.eq_1))))) ?_;(repeat(refine Pn.mk ?_;intro N hN)))|((try apply Or.inl);refine⟨_,aj.x (Qz) (sd (tw @e0 (tw @e1 (tw @LS.eq_1 (tw @KZ.eq_1 (tw @ad.eq_1 @ab.eq_1)))))),?_⟩;refine hN _ _ ?_;clear hN N)))
   exact⟨sd @LS.eq_1,sd @LS.eq_1,sd @LS.eq_1⟩
  ·have Ak:Below W.heap.size W w3:=T1.below
   have zI:∀id B,GQ w.heap.size Bx id=some B->ι1 id=some B:=T1.names
   have p5:tm.getD 5 undef=.pointer (some ⟨w.heap.size+1+1,0,none⟩):=by
    have g:=rf.env 5
    rw[h5]at g
    obtain⟨B,e,hB,_⟩:=iq g
    have h:=zI ⟨3,0⟩ ⟨w.heap.size+1+1,1,1,none⟩ rfl
    rw[h]at hB;injection hB with hB;subst hB
    simpa using e
   have p6:tm.getD 6 undef=.pointer (some ⟨Bx,0,none⟩):=by
    have g:=rf.env 6
    rw[h6]at g
    obtain⟨B,e,hB,_⟩:=iq g
    have h:=zI ⟨4,0⟩ ⟨Bx,2,2,none⟩ rfl
    rw[h]at hB;injection hB with hB;subst hB
    simpa using e
   have p8:tm.getD 8 undef=.int .i64 (gw s (aG l x0).aN x2 (aG l x1).aN):=by
    have g:=rf.env 8
    rw[h8]at g
    exact cV g
   have e5:=rf.size
   obtain⟨tl⟩:=tm
   obtain⟨f,Jg,hf⟩:∃f:Nat->Value,tl=[f 0,f 1,f 2,f 3,f 4,f 5,f 6,f 7,f 8,f 9,f 10,f 11,f 12,f 13,f 14,f 15,f 16,f 17,f 18,f 19,f 20,f 21,f 22,f 23,f 24,f 25,f 26,f 27,f 28,f 29,f 30,f 31,f 32,f 33,f 34,f 35,f 36,f 37,f 38,f 39,f 40,f 41]/\∀i,f i=(⟨tl⟩:Array Value).getD i undef:=by
    refine⟨fun i=>(⟨tl⟩:Array Value).getD i undef,?_,fun _=>rfl⟩
    have h:=HM tl undef
    rw[show tl.length=42 from e5]at h
    exact h
   rw[<-hf]at p5 p6 p8
   have RW:df=[]:=Cp
   subst RW
   clear hf rf cK hV
   subst Jg
   rw[p5,p6,p8]
   have QX:=hv.kept (grown_of Ak) (by simp)
   have D5:=fy.kept (grown_of Ak) (by rcases fy.2 with⟨e,_⟩|⟨_,_,_,e,_⟩<;>rw[e]<;>simp[Value.ownBlock])
   have hc3:=QX.cell
   have Sj:w.heap.size<=w3.heap.size:=Nat.le_trans hB.size Ak.size
   have eX0:w3.cell? ⟨Bx,0,none⟩=some (.int .i64 (x0:Int)):=(Ak.cell (p:=⟨Bx,0,none⟩) (Array.getElem?_eq_some_iff.1 bX).1).trans cX0
   have eX1:w3.cell? ⟨Bx,1,none⟩=some (.int .i64 (x1:Int)):=(Ak.cell (p:=⟨Bx,1,none⟩) (Array.getElem?_eq_some_iff.1 bX).1).trans cX1
   have l7:(ni s l pre).length<=2097152:=by
    have h1:=GK s l pre
    have h2:=AY l l.length
    omega
   have hKF:KeepsFrom (w.heap.size+4) W w3:=⟨Ak.size,fun k o _ hk _=>(Ak.block k (Array.getElem?_eq_some_iff.1 hk).1).trans hk⟩
   have hKT:gU w.heap.size W w3:=gU.of Ak
   have Rj:w3.heap[w.heap.size+1]? = _:=(Ak.block _ bA1.lt).trans bA1
   have Rk:=(Ak.block _ (Array.getElem?_eq_some_iff.1 bT1).1).trans bT1
   by_cases kW:0<gw s (aG l x0).aN x2 (aG l x1).aN
   ·have s6:ni s l (pre++[⟨(x0,x1,x2),BE,Ll,zJ⟩])=ni s l pre++[⟨x0,x1,gw s (aG l x0).aN x2 (aG l x1).aN⟩]:=by
     rw[wV];simp only[xX,if_pos kW]
    gi_wp2_with (gi_at_builtin;refine wpListIn_append_own _ rfl _ _ 226 rfl w.heap.size 246 i0 (.agg #[.int .i64 0,.int .i64 0,.int .i64 0]) 3 24 (by kernel_rfl) hi Ln tz kf rfl (by decide) _ _ _ rfl (D5.alloc _) ⟨w3.heap.size,0,none⟩ 1 1 [.int .i64 (x0:Int),.int .i64 (x1:Int),.int .i64 (gw s (aG l x0).aN x2 (aG l x1).aN)] rfl rfl (ub _ _ _ _ _) (by simp[Value.oneCell']) (by unfold maxLen;omega) (by omega) (by simp;omega) ?_;intro v' w4 Ld DW _;obtain⟨g',cap',rfl⟩:=ownsRow_succ Ld;obtain⟨xl,MY,JX,uA,Hd⟩:=QX.appended (by decide) D5 Sj (by omega) Ld DW;have JQ:=gU.app QX D5 DW Hd;have pc:=xl.cell;have hf1:=xl.frozen)
    exact⟨hKF.trans (uA.from _),hKT.trans JQ,⟨⟨_,MY,by rw[s6,GJ,List.length_append];exact JX,by rw[s6];simp⟩,(JQ.2.1 _ _ _ _ Rj (by decide) (by decide)).trans Rj,(JQ.2.1 _ _ _ _ Rk (by decide) (by decide)).trans Rk⟩,hB.trans ((Ak.mono hB.size).trans Hd)⟩
   ·have s6:ni s l (pre++[⟨(x0,x1,x2),BE,Ll,zJ⟩])=ni s l pre:=by
     rw[wV];simp only[xX,if_neg kW,List.append_nil]
    gi_wp2
    exact⟨hKF,hKT,⟨⟨v,QX,by rw[s6];exact D5,by rw[s6];exact hnil⟩,Rj,Rk⟩,hB.trans (Ak.mono hB.size)⟩
 case done=>
  rintro D ys W hD D9 ⟨⟨⟨v,hv,fy,hnil⟩,_⟩,hB⟩ hK
  have hc:=hv.cell
  have I4:ni s l ys=bL s l:=by rw[GP,<-D9];rfl
  rw[I4]at fy hnil
  gi_wp2
  refine⟨by simp,.inl ⟨_,_,rfl,run_takeDeferred hK,?_⟩⟩
  exact⟨_,results_tmp rfl _ _ _,v,rfl,ownsRow_putObj fy _ hK rfl,hnil,hB.trans (belowK_b (w:=w) (Nat.le_refl _) W D _ _ (by omega) hK rfl rfl)⟩
 case stop=>
  rintro D c pre W _ _ h _
  exact h.elim
end Go.Proofs.YtgoelphibofcmaaGreat.V

namespace Go.Proofs.YtgoelphibofcmaaGreat.V
open Go.RowKit Go.Shelf
theorem DE:∀{bs:List PB} {i j:Nat} {b:PB},bs[i]? =some b->j<3->(Jq bs)[i*3+j]? =([.int .i64 b.a,.int .i64 b.b,.int .i64 b.s]:List Value)[j]?
 |c::bs,0,j,b,h,hj=>by
  simp at h;subst h
  simp only[Jq,List.flatMap_cons,Nat.zero_mul,Nat.zero_add]
  rw[List.getElem?_append_left (by simpa using hj)]
 |c::bs,i+1,j,b,h,hj=>by
  simp only[List.getElem?_cons_succ]at h
  have:=DE (bs:=bs) (i:=i) (j:=j) h hj
  simp only[Jq,List.flatMap_cons]at this ⊢
  rw[List.getElem?_append_right (by simp;omega),<-this]
  congr 1
  simp;omega
theorem qu {P:Program} {w:World} {D:Nat->Prop} {rows:List (List AV)} {v:Value} (h:jr P w D (.sl rows) v):∃A n c,v=.slice A n c:=by
 cases h with
 |C9 a c _=>exact⟨_,_,_,rfl⟩
 |sl=>exact⟨_,_,_,rfl⟩
theorem pY {P:Program} {w:World} {D:Nat->Prop} {ι:Names} {rows:List (List AV)} {v:Value} (h:cq P w D ι (.sl rows) v):jr P w D (.sl rows) v:=by
 cases h with
 |eD _ _ h=>exact h
theorem Kt {P:Program} {w:World} {D:Nat->Prop} {l:List ae} {v:Value} (h:jr P w D (.sl (l.map ad)) v):oP w v l:=by
 generalize hr:l.map ad=rows at h
 cases h with
 |C9 a c hc=>
  have:l=[]:=by simpa using hr
  subst this
  exact⟨a,c,rfl,⟨Nat.zero_le _,hc⟩,.inl rfl⟩
 |sl _ b o n c sz vs h1 h2 h3 h4 h5 h5' h6 h7=>
  have hn:n=l.length:=by rw[<-h1,<-hr];simp
  subst hn
  refine⟨some ⟨b,o,none⟩,c,rfl,⟨h2,h3⟩,?_⟩
  by_cases hl:l=[]
  ·exact .inl hl
  refine .inr ⟨b,o,rfl,fun i hi=>?_⟩
  have hg:rows[i]? =some (ad (aG l i)):=by rw[<-hr];exact fh hi
  have e5:sz=3:=by rw[<-h5 _ (List.mem_of_getElem? hg)];rfl
  subst e5
  have k:∀(j:Nat) (x:Int),(ad (aG l i))[j]? =some (.int .i64 x)->j<3->w.cell? ⟨b,o+(i*3+j),none⟩=some (.int .i64 x):=fun j x hj h3=>by
   have:=h7 i j _ _ hg hj
   rw[h6 i j hi h3,cV (.eD (ι:=fun _=>none) _ _ this)]
  exact⟨k 0 _ rfl (by omega),k 1 _ rfl (by omega),k 2 _ rfl (by omega)⟩
theorem LR:BH:=by
 intro s l hS hA n
 refine iG ?_
 intro hs D ι w vs S U A
 obtain⟨u0,QW,r0⟩:=A.2 0 _ rfl
 obtain⟨u1,Pw,r1⟩:=A.2 1 _ rfl
 have dy:∀b,D b->b<w.heap.size:=S.dead
 obtain⟨v0,f0,rfl,Ln,_,QD,Oe⟩:=jg r0
 obtain⟨v1,f1,rfl,tz,_,hf1,JW⟩:=jg r1
 have g0:=pY (Oe 0 _ rfl)
 have g1:=pY (Oe 1 _ rfl)
 have a0:=pY (JW 0 _ rfl)
 obtain⟨Ag,ng,cg,eg⟩:=qu g0
 obtain⟨At,nt,ct,et⟩:=qu g1
 have e0:v0= #[.slice Ag ng cg,.slice At nt ct]:=by
  obtain⟨vl⟩:=v0
  have q0:=QD 0 (by simp[ab])
  have q1:=QD 1 (by simp[ab])
  rw[eg]at q0;rw[et]at q1
  match vl,Ln with
  |[a,b],_=>simp at q0 q1;rw[q0,q1]
 have e1:v1= #[f1 0]:=by
  obtain⟨vl⟩:=v1
  have q0:=hf1 0 (by simp)
  match vl,tz with
  |[a],_=>simp at q0;rw[q0]
 subst e0 e1
 have evs:vs= #[.agg #[.slice Ag ng cg,.slice At nt ct],.agg #[f1 0]]:=by
  obtain⟨vl⟩:=vs
  have hz:=A.1
  match vl,hz with
  |[a,b],_=>simp at QW Pw;rw[QW,Pw]
 subst evs
 have up:∀{a v},jr Tryz.prog w D a v->jr Tryz.prog w (fun b=>b<w.heap.size) a v:=fun h=>h.frame (fun _ _=>rfl) dy
 have hT:jr Tryz.prog w (fun b=>b<w.heap.size) (.agg (ab s)) (.agg #[.slice Ag ng cg,.slice At nt ct]):=
  .agg _ _ f0 Ln (fun a ha=>by simp[ab]at ha;rcases ha with rfl|rfl<;>rfl) QD (fun j a ha=>by
   match j,ha with
   |0,ha=>simp[ab]at ha;subst ha;exact up g0
   |1,ha=>simp[ab]at ha;subst ha;exact up g1
   |j+2,ha=>simp[ab]at ha)
 refine(callsIn_wide.1 (GO s l hS.form hA w Ag At ng cg nt ct (f1 0) hT (Kt a0))).mono ?_
 rintro e W' ⟨v,rfl,⟨hl,hown⟩,hnil,hB⟩
 have S':fV Tryz.prog hs D ι (fun _=>none) W':=S.stay (fun b hb=>hB.block b hb) hB.size (fun _ h=>h) (fun b hb=>Nat.lt_of_lt_of_le (dy b hb) hB.size) (fun _ h=>.inl h) (fun _ _ h=>h)
 have T:Step hs D ι w D ι W':=Step.stay S (fun b hb=>hB.block b hb) hB.size hB.os hB.tape hB.output (fun _ h=>h) (fun _ h=>.inl h) (fun _ _ h=>h)
 rcases hown with⟨rfl,h0⟩|⟨gb,cap,cur,rfl,Pb,hblk,hle,He,cR,mV⟩
 ·have OS:bL s l=[]:=hnil.1 rfl
  exact⟨.cu,_,n,D,ι,_,rfl,⟨.cu,lN _ _,by rw[OS];rfl⟩,T,S',U,Nat.le_refl _,.eD _ _ .cu⟩
 ·have OS:bL s l≠[]:=fun h=>by have:=hnil.2 h;cases this
  have jl:ι ⟨0,n⟩=none:=fresh U (fun h=>h)
  have gj:∀{a v},cq Tryz.prog W' D ι a v->cq Tryz.prog W' D (kb ι ⟨0,n⟩ ⟨gb,3,cap*3,none⟩) a v:=fun h=>h.frame (fun _ _=>rfl) (fun _ h=>h) (eU jl)
  have hR:gV Tryz.prog W' D (kb ι ⟨0,n⟩ ⟨gb,3,cap*3,none⟩) ⟨gb,3,cap*3,none⟩ ⟨true,3,(bL s l).map ay⟩:=by
   refine k6.obj ⟨rfl,⟨cur,_,hblk,cR⟩,?_,fun cs hc=>?_,fun cs hc a ha=>?_,fun i j cs a hi hj=>?_⟩ rfl
   ·simp only[List.length_map];exact Nat.mul_le_mul_right 3 hle
   ·obtain⟨b,_,rfl⟩:=List.mem_map.1 hc;rfl
   ·obtain⟨b,_,rfl⟩:=List.mem_map.1 hc
    simp[ay]at ha
    rcases ha with rfl|rfl|rfl<;>rfl
   ·rw[List.getElem?_map]at hi
    simp only[Option.map_eq_some_iff]at hi
    obtain⟨b,hb,rfl⟩:=hi
    have hj3:j<3:=by have:=(List.getElem?_eq_some_iff.1 hj).1;simpa[ay]using this
    have lv:=(List.getElem?_eq_some_iff.1 hb).1
    have hg:=DE hb hj3
    rw[<-mV,List.getElem?_take,if_pos (by omega)]at hg
    have key:∀x:Value,([.int .i64 b.a,.int .i64 b.b,.int .i64 b.s]:List Value)[j]? =some x->W'.cell? ⟨gb,i*3+j,none⟩=some x:=fun x hx=>by
     rw[hx]at hg
     have e:W'.cell? ⟨gb,i*3+j,none⟩=cur[i*3+j]? :=by
      unfold World.cell?
      rw[show W'.heap[(⟨gb,i*3+j,none⟩:Addr).block]? = _ from hblk]
      rfl
     rw[e,<-Array.getElem?_toList];exact hg
    match j,hj with
    |0,hj=>simp[ay]at hj;subst hj;exact⟨_,key _ rfl,.eD _ _ (.int _ _)⟩
    |1,hj=>simp[ay]at hj;subst hj;exact⟨_,key _ rfl,.eD _ _ (.int _ _)⟩
    |2,hj=>simp[ay]at hj;subst hj;exact⟨_,key _ rfl,.eD _ _ (.int _ _)⟩
    |j+3,hj=>simp[ay]at hj
  have S2:=fV.add (r:=⟨true,3,(bL s l).map ay⟩) S S' jl Pb hR
  refine⟨.own ⟨0,n⟩ 0 (bL s l).length,bB (fun _=>none) ⟨0,n⟩ ⟨true,3,(bL s l).map ay⟩,n+1,D,kb ι ⟨0,n⟩ ⟨gb,3,cap*3,none⟩,_,rfl,⟨ze (bL s l),?_,rfl⟩,T.trans (Step.stay S' (fun _ _=>rfl) (Nat.le_refl _) rfl rfl rfl (fun _ h=>h) (fun _ h=>.inl h) (eU jl)),S2,U.upd.next,Nat.le_succ _,.own _ _ _ _ _ _ (dF _ _ _) rfl hle (.inr (by simp)) (by simp) He⟩
  unfold ze
  rw[if_neg OS]
  have hg:(bB (fun _=>none) (⟨0,n⟩:Id) ⟨true,3,(bL s l).map ay⟩:Rows) ⟨0,n⟩=some ⟨true,3,(bL s l).map ay⟩:=by simp[bB]
  have:=gZ (n:=5) hg rfl fun b=>tk _ 4 b
  simpa using this
end Go.Proofs.YtgoelphibofcmaaGreat.V

namespace Go.Proofs.YtgoelphibofcmaaGreat.V
open Go.RowKit
attribute [local irreducible] dI wpOps ib Call
attribute [local go_sem] aJ gu eW gR gQ cE upd cw K.av cY AV.cells AV.cell rowOf rowsOf part ld rowAt bB cr dY eG jq bP dq eT gP fx dE eK dn dm eu ew bU bp db bR de dc eI eL eJ da cm dp eH bQ aO di cI jo bE cU bV aY du aV ea AV.undef bG bJ eA eE ei ep cJ eR eV cG eO eM dh dj List.getD_cons_zero List.getD_cons_succ List.getD_nil List.all_cons List.all_nil Bool.and_true Bool.true_and Bool.and_self Bool.not_true Bool.not_false Option.map_some Option.map_none Option.bind_some Option.bind_none List.length_cons List.length_nil List.take_succ_cons List.take_zero List.take_nil List.drop_succ_cons List.drop_zero List.drop_nil List.head?_cons List.map_cons List.map_nil List.getElem?_cons_zero List.getElem?_cons_succ List.cons_append List.nil_append List.append_nil List.length_map List.set_cons_zero List.set_cons_succ Nat.reduceMul eq_self Int.toNat_natCast Int.natCast_nonneg and_self true_and and_true decide_true decide_false Bool.false_eq_true Nat.zero_add Nat.add_zero List.contains_cons List.contains_nil Bool.or_false Bool.false_or beq_self_eq_true Nat.reduceBEq ne_eq not_true_eq_false not_false_eq_true Id.mk.injEq false_and and_false Nat.reduceLT Int.reduceLE Int.reduceLT Int.reduceToNat Int.reduceNeg Int.reduceAdd Nat.le_refl List.length_append beq_true beq_false Bool.not_eq_eq_eq_not or_false false_or eh ao aq aK br bI cC bc bz aQ bt cX cj
theorem NB (s:aC) (l:List ae) (p:ai) (t:Int):Jj s l p t=j3 s l p t:=by
 unfold Jj j3
 congr 1
 by_cases h:fG l p=t
 ·simp[h]
 ·have h2:¬t=fG l p:=fun e=>h e.symm
  simp[h,h2]
theorem Bp (s:aC) (l:List ae) (p:ai):∀n,(wO s l p n).head? =((List.range n).find? fun k:Nat=>j3 s l p k).map fun k:Nat=>(⟨p,(k:Int)⟩:ae)
 |0=>by simp[wO]
 |n+1=>by
  have ih:=Bp s l p n
  rw[wO,NB,List.range_succ,List.find?_append,Option.map_or,<-ih]
  cases h:j3 s l p (n:Nat)
  ·simp[h]
  ·simp[h,List.head?_append]
theorem Br (s:aC) (l:List ae):∀ps:List ai,(r7 s l ps).head? =(ps.find? fun p=>decide (0<=hZ s l p)).map fun p=>(⟨p,hZ s l p⟩:ae)
 |[]=>by simp[r7]
 |p::ps=>by
  have ih:=Br s l ps
  have h1:=Bp s l p s.aB.ah.length
  have e:r7 s l (p::ps)=wO s l p s.aB.ah.length++r7 s l ps:=by simp[r7]
  rw[e,List.head?_append,h1,ih,List.find?_cons]
  rcases hf:(List.range s.aB.ah.length).find? fun k:Nat=>j3 s l p k with _|k
  ·have hw:hZ s l p= -1:=by rw[hZ,hf]
   simp[hw]
  ·have hw:hZ s l p=(k:Int):=by rw[hZ,hf]
   simp[hw]
theorem Cc (s:aC) (l:List ae):(r7 s l (cz s l)).head? =(iy s l).map fun q=>(⟨q.1,q.2⟩:ae):=by
 rw[Br,iy]
 simp[Function.comp_def]
theorem Kl (lb:List ae) (hb:gK lb) (t:ae):aj Tryz.prog 168 [.agg (ad t),.bK [.sl (lb.map ad)]] (.bool (!decide (fG lb t.aF=t.aN))):=by
 refine aj.body ej rfl fun hl n0=>?_
 clear hl
 have h:=Jo lb t.aF hb.FQ (by have:=hb.so;omega)
 (repeat(first|((repeat(revert hN;revert N;apply Pn.out));refine wk (tw @ad.eq_1 @aa.eq_1) ?_;(repeat(refine Pn.mk ?_;intro N hN)))|((try apply Or.inl);refine⟨_,aj.x (h) (sd (tw @ad.eq_1 @aa.eq_1)),?_⟩;refine hN _ _ ?_;clear hN N)))
 exact aI (b:= !decide (fG lb t.aF=t.aN)) (.inl rfl) (sd @Nat.zero_add) (by simp)
theorem BN (la lb:List ae) (ha:gK la) (hb:gK lb):aj Tryz.prog 107 [.agg [.sl (la.map ad)],.agg [.sl (lb.map ad)]] (.bool (kd la lb)):=by
 refine aj.body ej rfl fun hl n0=>?_
 clear hl
 have h1:=rF la
 have h2:=rF lb
 rw[rz.2 ha]at h1
 rw[rz.2 hb]at h2
 have h3:aj Tryz.prog 166 [.sl (la.map ad),.fn 168 [.bK [.sl (lb.map ad)]]] (.bool (la.any fun t=> !decide (fG lb t.aF=t.aN))):=
  kn ug (show np Tryz.prog 166=some (yn 166 202) by kernel_rfl)
   (show np Tryz.prog 202=some (pM 202 3 true) by kernel_rfl) la (by have:=ha.so;omega) _ _ _ rfl (fun g=>by rw[ao,aQ,aq];rfl) (fun x _=>Kl lb hb x) fun g=>by rw[ao,aQ,aq];rfl
 (repeat(first|((repeat(revert hN;revert N;apply Pn.out));refine wk @Nat.zero_add ?_;(repeat(refine Pn.mk ?_;intro N hN)))|((try apply Or.inl);refine⟨_,aj.x (h1) (sd @Nat.zero_add),?_⟩;refine hN _ _ ?_;clear hN N)|((try apply Or.inl);refine⟨_,aj.x (h2) (sd @Nat.zero_add),?_⟩;refine hN _ _ ?_;clear hN N)|((try apply Or.inl);refine⟨_,aj.x (h3) (sd @Nat.zero_add),?_⟩;refine hN _ _ ?_;clear hN N)))
 exact aI (b:= !(la.any fun t=> !decide (fG lb t.aF=t.aN))) (.inl rfl) (sd @Nat.zero_add) (by rw[Dy];rfl)
theorem yk (s:aC) (l:List ae) (hn:fK s.aB) (hm:tR s) (hl:l.length<=1048576):aj Tryz.prog 63 [.agg (aw s),.agg [.sl (l.map ad)]] (.int .i64 (if qg s l then 0 else 1)):=by
 refine aj.body ej rfl fun mm n0=>?_
 clear mm
 have h1:=wc LR s hn hm.s.g hm.s.t hm.s.s hm.a
 have h2:=mM s.aB l hn hm.s.g hm.s.t hm.s.s hl
 cases b1:mE s
 ·rw[b1]at h1
  rw[aw]at h1 ⊢
  (repeat(first|((repeat(revert hN;revert N;apply Pn.out));refine wk @Nat.zero_add ?_;(repeat(refine Pn.mk ?_;intro N hN)))|((try apply Or.inl);refine⟨_,aj.x (h1) (sd @Nat.zero_add),?_⟩;refine hN _ _ ?_;clear hN N)))
  exact bj (b:=1) (.inl rfl) (sd @Nat.zero_add) (by simp[qg,b1])
 have ev:pZ s.aB=true:=lV.2 (vJ.1 b1).set
 rw[b1]at h1
 rw[ev,Bool.true_and]at h2
 rw[aw]at h1 ⊢
 rw[ab]at h2
 cases b2:oQ s.aB l
 ·rw[b2]at h2
  (repeat(first|((repeat(revert hN;revert N;apply Pn.out));refine wk @Nat.zero_add ?_;(repeat(refine Pn.mk ?_;intro N hN)))|((try apply Or.inl);refine⟨_,aj.x (h1) (sd @Nat.zero_add),?_⟩;refine hN _ _ ?_;clear hN N)|((try apply Or.inl);refine⟨_,aj.x (h2) (sd @Nat.zero_add),?_⟩;refine hN _ _ ?_;clear hN N)))
  exact bj (b:=1) (.inl rfl) (sd @Nat.zero_add) (by simp[qg,b1,b2])
 ·rw[b2]at h2
  (repeat(first|((repeat(revert hN;revert N;apply Pn.out));refine wk @Nat.zero_add ?_;(repeat(refine Pn.mk ?_;intro N hN)))|((try apply Or.inl);refine⟨_,aj.x (h1) (sd @Nat.zero_add),?_⟩;refine hN _ _ ?_;clear hN N)|((try apply Or.inl);refine⟨_,aj.x (h2) (sd @Nat.zero_add),?_⟩;refine hN _ _ ?_;clear hN N)))
  exact bj (b:=0) (.inl rfl) (sd @Nat.zero_add) (by simp[qg,b1,b2])
theorem yz (s:aC) (l:List ae) (hn:fK s.aB) (hm:tR s) (hl:l.length<=1048576):aj Tryz.prog 69 [.agg (aw s),.agg [.sl (l.map ad)]] (.int .i64 (iN s l)):=by
 refine aj.body ej rfl fun mm n0=>?_
 clear mm
 have h1:=yk s l hn hm hl
 cases b:qg s l
 ·rw[b]at h1
  rw[aw]at h1 ⊢
  (repeat(first|((repeat(revert hN;revert N;apply Pn.out));refine wk @Nat.zero_add ?_;(repeat(refine Pn.mk ?_;intro N hN)))|((try apply Or.inl);refine⟨_,aj.x (h1) (sd @Nat.zero_add),?_⟩;refine hN _ _ ?_;clear hN N)))
  exact bj (b:=1) (.inl rfl) (sd @Nat.zero_add) (by simp[iN,b])
 obtain⟨hP,hA⟩:=qh.1 b
 have h2:=BN s.aX.ah l hP.Bc.1 hA.1
 rw[b]at h1
 rw[aw]at h1 ⊢
 cases b2:kd s.aX.ah l
 ·rw[b2]at h2
  (repeat(first|((repeat(revert hN;revert N;apply Pn.out));refine wk @Nat.zero_add ?_;(repeat(refine Pn.mk ?_;intro N hN)))|((try apply Or.inl);refine⟨_,aj.x (h1) (sd @Nat.zero_add),?_⟩;refine hN _ _ ?_;clear hN N)|((try apply Or.inl);refine⟨_,aj.x (h2) (sd @Nat.zero_add),?_⟩;refine hN _ _ ?_;clear hN N)))
  exact bj (b:=2) (.inl rfl) (sd @Nat.zero_add) (by simp[iN,b,b2])
 ·rw[b2]at h2
  (repeat(first|((repeat(revert hN;revert N;apply Pn.out));refine wk @Nat.zero_add ?_;(repeat(refine Pn.mk ?_;intro N hN)))|((try apply Or.inl);refine⟨_,aj.x (h1) (sd @Nat.zero_add),?_⟩;refine hN _ _ ?_;clear hN N)|((try apply Or.inl);refine⟨_,aj.x (h2) (sd @Nat.zero_add),?_⟩;refine hN _ _ ?_;clear hN N)))
  exact bj (b:=0) (.inl rfl) (sd @Nat.zero_add) (by simp[iN,b,b2])
theorem Bu {s:aC} (hP:wb s) {l:List ae} (hW:kd s.aX.ah l=true):l≠[]:=by
 intro e
 subst e
 have h1:=hP.some
 unfold kd at hW
 rw[List.all_eq_true]at hW
 have h2:=hW _ (gy (l:=s.aX.ah) (i:=0) (by omega))
 have h3:=(dP (hP.Bc.2 _ (gy (l:=s.aX.ah) (i:=0) (by omega)))).1
 simp[fG,dZ]at h2
 omega
theorem EA (s:aC) (l:List ae) (hn:fK s.aB) (hm:tR s) (hl:l.length<=1048576):aj Tryz.prog 23 [.agg (aw s),.agg [.sl (l.map ad)]] (.gN [.bool (jG s l).1,.int .i64 (jG s l).2]):=by
 refine aj.body ej rfl fun mm n0=>?_
 clear mm
 have h1:=yz s l hn hm hl
 by_cases h0:iN s l=0
 ·obtain⟨hP,hA,hW⟩:=xI.1 h0
  have hr:jG s l=(!(iy s l).isSome,0):=by rw[jG,if_pos h0]
  have hh:=Cc s l
  rw[h0]at h1
  rw[hr]
  have hc:=fun σ=>KK s hP l hA (Bu hP hW) σ
  rw[aw]at h1 hc ⊢
  (repeat(first|((repeat(revert hN;revert N;apply Pn.out));refine wk @Nat.zero_add ?_;(repeat(refine Pn.mk ?_;intro N hN)))|((try apply Or.inl);refine⟨_,aj.x (h1) (sd @Nat.zero_add),?_⟩;refine hN _ _ ?_;clear hN N)))
  refine .inr (aU _ _ _ _ _ (fun r σ1 hq=>?_) (hc _))
  obtain⟨g1,x1⟩:=σ1
  (try dsimp only at hq)
  refine hN _ _ ?_
  clear hN N
  rcases hq with⟨h2,h3⟩|⟨u,h2,h3,h4,h5,h6,h8⟩
  ·subst h3
   rw[h2]at hh
   have hf:iy s l=none:=by
    cases hf:iy s l with
    |none=>rfl
    |some q=>rw[hf]at hh;simp at hh
   have d0:decide (((0:Nat):Int)=0)=true:=rfl
   (try((repeat(revert hN;revert N;apply Pn.out));refine wk @d0 ?_;(repeat(refine Pn.mk ?_;intro N hN))))
   exact gz (.inl rfl) (r1:=.bool true) (r2:=.int .i64 0) (sd @Nat.zero_add) (sd @Nat.zero_add) (by simp only[dU,aP,bx,dO,dL,Option.map_some,hf,Option.isSome_none,Bool.not_false])
  ·subst h2
   have hf:(iy s l).isSome=true:=by
    cases hf:iy s l with
    |none=>rw[hf]at hh;simp only[Option.map_none,List.head?_eq_none_iff]at hh;rw[hh]at h6;simp at h6
    |some q=>rfl
   have d0:decide (((r7 s l (cz s l)).length:Int)=0)=false:=decide_eq_false (by omega)
   (try((repeat(revert hN;revert N;apply Pn.out));refine wk @d0 ?_;(repeat(refine Pn.mk ?_;intro N hN))))
   exact gz (.inl rfl) (r1:=.bool false) (r2:=.int .i64 0) (sd @Nat.zero_add) (sd @Nat.zero_add) (by simp only[dU,aP,bx,dO,dL,Option.map_some,hf,Bool.not_true])
 ·have hd:decide (iN s l=0)=false:=decide_eq_false h0
  have hr:jG s l=(false,iN s l):=by rw[jG,if_neg h0]
  rw[hr]
  rw[aw]at h1 ⊢
  (repeat(first|((repeat(revert hN;revert N;apply Pn.out));refine wk @hd ?_;(repeat(refine Pn.mk ?_;intro N hN)))|((try apply Or.inl);refine⟨_,aj.x (h1) (sd @hd),?_⟩;refine hN _ _ ?_;clear hN N)))
  exact gz (.inl rfl) (r1:=.bool false) (r2:=.int .i64 (iN s l)) (sd @Nat.zero_add) (sd @Nat.zero_add) (by simp only[dU,aP,bx,dO,dL,Option.map_some])
end Go.Proofs.YtgoelphibofcmaaGreat.V

namespace Go.Proofs.YtgoelphibofcmaaGreat
open Go.ChangeShapes Go.WideShapes Go.ChangeAt Go.RowKit Go.Deep
section
variable {H:Type} {enc:TypeId×Value->H} {P:Program} {w:World}
theorem ma.PK {α:Type} {rep:World->List Nat->List Value->α->Prop} {sz:Nat} {w:World} {b o len cap:Nat} (nG:Nat->List Value) (fs:Nat->List Nat) (ds:Nat->α) (hc:len<=cap) (hm:cap<=maxLen)
  (hl:∀i,i<len->(nG i).length=sz) (hr:∀i,i<len->rep w (fs i) (nG i) (ds i)) (vW:∀i,i<len->∀j u,(nG i)[j]? =some u->w.cell? ⟨b,o+(i*sz+j),none⟩=some u):
  ma rep sz w ([b]++((List.range len).map fs).flatten) (.slice (some ⟨b,o,none⟩) len cap) ((List.range len).map ds):=by
 refine⟨(List.range len).map nG,(List.range len).map fs,[b],rfl,⟨some ⟨b,o,none⟩,cap,by simp,by simpa using hc,hm,.inr ⟨b,o,rfl,rfl,fun j u hj=>?_⟩⟩,by simp,by simp,fun i cs f d h1 h2 h3=>?_⟩
 ·have hlen:∀cs∈(List.range len).map nG,cs.length=sz:=fun cs cR=>by
   obtain⟨i,hi,rfl⟩:=List.mem_map.1 cR
   exact hl i (List.mem_range.1 hi)
  have gm:=(List.getElem?_eq_some_iff.1 hj).1
  have JK:((List.range len).map nG).flatten.length=len*sz:=by
   rw[List.length_flatten,List.map_map]
   have:∀(l:List Nat),(∀i∈l,i<len)->(l.map (List.length∘nG)).sum=l.length*sz:=by
    intro l
    induction l with
    |nil=>intro _;simp
    |cons a l ih=>intro h;rw[List.map_cons,List.sum_cons,ih fun i hi=>h i (List.mem_cons_of_mem _ hi)];simp only[Function.comp,hl a (h a (by simp)),List.length_cons,Nat.add_mul];omega
   rw[this _ fun i hi=>List.mem_range.1 hi,List.length_range]
  rw[JK]at gm
  have QU:0<sz:=by
   rcases Nat.eq_zero_or_pos sz with h|h
   ·subst h;simp at gm
   ·exact h
  have hi:j / sz<len:=(Nat.div_lt_iff_lt_mul QU).2 gm
  have N7:j % sz<sz:=Nat.mod_lt _ QU
  have JP:j=(j / sz)*sz+j % sz:=by rw[Nat.mul_comm];exact(Nat.div_add_mod j sz).symm
  rw[JP,sr hlen (i:=j / sz) (cs:=nG (j / sz)) (by simp[hi]) N7]at hj
  rw[JP]
  have:=vW (j / sz) hi (j % sz) u hj
  rw[<-JP]at this ⊢
  exact this
 ·have hi:i<len:=by
   have:=(List.getElem?_eq_some_iff.1 h1).1
   simpa using this
  simp[hi]at h1 h2 h3
  subst h1 h2 h3
  exact⟨hr i hi,hl i hi⟩
theorem jW (b o k:Nat):(⟨b,o,none⟩:Addr).add k=⟨b,o+k,none⟩:=by
 unfold Addr.add;split
 ·rename_i h;subst h;rfl
 ·rfl
theorem oN {α:Type} {rep:World->List Nat->List Value->α->Prop} {Q:α->Prop} {t e:TypeId} {sz fuel:Nat} {cs:List Value} {x:DataW H×List MemPlace} (ht:P.underlying t=some (.slice e)) (hC:P.cellsOf e=sz) (QU:0<sz)
  (h:DataW.trod enc P w 0 (fun _=>true) true fuel t cs=some x) (hel:∀n pb y,pb.length=sz->DataW.trod enc P w 0 (fun _=>true) true n e pb=some y->∃f d,fD f 0 w.heap.size/\rep w f pb d/\Q d):
  ∃A n c f xs,cs=[.slice A n c]/\fD f 0 w.heap.size/\ma rep sz w f (.slice A n c) xs/\∀d∈xs,Q d:=by
 rcases open_slice ht h with⟨rfl,_⟩|⟨a,len,cap,m,n,D,Pl,rfl,_,hl,hm,Jb,_,hi⟩
 ·exact⟨none,0,0,[],[],rfl,fD.nil _ _,ma.nil _ _ _,fun d h=>by cases h⟩
 rw[hC]at hi
 simp only[if_true]at Jb
 by_cases h0:len=0
 ·subst h0
  exact⟨some a,0,cap,[],[],rfl,fD.nil _ _,⟨[],[],[],rfl,⟨some a,cap,rfl,Nat.zero_le _,hm,.inl ⟨rfl,rfl⟩⟩,rfl,rfl,fun i cs f d hc=>by simp at hc⟩,fun d h=>by cases h⟩
 obtain⟨b,o,sp⟩:=a
 have cell0:∃v,w.cell? ⟨b,o,sp⟩=some v:=by
  obtain⟨pb,hc,_⟩:=hi 0 (by omega)
  obtain⟨_,oV,vW⟩:=World.cells?_some hc
  refine⟨pb[0]'(by omega),?_⟩
  have:=vW 0 QU
  rw[List.getElem?_eq_getElem (by omega)]at this
  simpa[Addr.add]using this
 obtain⟨v0,pK⟩:=cell0
 have hb:b<w.heap.size:=World.block_lt_of_cell? w _ pK
 have MS:sp=none:=by
  unfold World.cell? at pK
  split at pK
  ·split at pK
   ·cases pK
   ·rename_i h;simpa using h
  ·cases pK
 subst MS
 have key:∀i,i<len->∃pb f d,pb.length=sz/\fD f 0 w.heap.size/\rep w f pb d/\Q d/\∀j u,pb[j]? =some u->w.cell? ⟨b,o+(i*sz+j),none⟩=some u:=fun i lv=>by
  obtain⟨pb,hc,htr⟩:=hi i (by omega)
  obtain⟨_,oV,vW⟩:=World.cells?_some hc
  obtain⟨f,d,h1,h2,h3⟩:=hel n pb _ oV htr
  refine⟨pb,f,d,oV,h1,h2,h3,fun j u hj=>?_⟩
  have gm:=(List.getElem?_eq_some_iff.1 hj).1
  have:=vW j (by omega)
  rw[hj]at this
  rw[<-this,Go.Deep.add_add,jW]
 have:Nonempty α:=by
  obtain⟨_,_,d,_⟩:=key 0 (by omega)
  exact⟨d⟩
 let cf:Nat->List Value:=fun i=>if hi:i<len then(key i hi).choose else[]
 let ff:Nat->List Nat:=fun i=>if hi:i<len then(key i hi).choose_spec.choose else[]
 let df:Nat->α:=fun i=>if hi:i<len then(key i hi).choose_spec.choose_spec.choose else Classical.choice this
 have dC:∀i,i<len->(cf i).length=sz/\fD (ff i) 0 w.heap.size/\rep w (ff i) (cf i) (df i)/\Q (df i)/\∀j u,(cf i)[j]? =some u->w.cell? ⟨b,o+(i*sz+j),none⟩=some u:=fun i hi=>by
  have:=(key i hi).choose_spec.choose_spec.choose_spec
  simp only[cf,ff,df,dif_pos hi]
  exact this
 refine⟨some ⟨b,o,none⟩,len,cap,_,(List.range len).map df,rfl,?_,ma.PK cf ff df hl hm (fun i hi=>(dC i hi).1) (fun i hi=>(dC i hi).2.2.1) (fun i hi=>(dC i hi).2.2.2.2),fun d hd=>?_⟩
 ·intro x hx
  rcases List.mem_append.1 hx with hx|hx
  ·simp at hx;subst hx;exact⟨Nat.zero_le _,hb⟩
  ·obtain⟨l,zG,Om⟩:=List.mem_flatten.1 hx
   obtain⟨i,hi,rfl⟩:=List.mem_map.1 zG
   exact(dC i (List.mem_range.1 hi)).2.1 x Om
 ·obtain⟨i,hi,rfl⟩:=List.mem_map.1 hd
  exact(dC i (List.mem_range.1 hi)).2.2.2.1
end
section
variable {H:Type} {enc:TypeId×Value->H} {w:World} {fuel:Nat} {cs:List Value} {x:DataW H×List MemPlace}
abbrev TT (enc:TypeId×Value->H) (w:World) (fuel t:Nat) (cs:List Value) (x:DataW H×List MemPlace):Prop:=DataW.trod enc Tryz.prog w 0 (fun _=>true) true fuel t cs=some x
theorem M7 (h:TT enc w fuel 56 cs x):∃A n c f xs,cs=[.slice A n c]/\fD f 0 w.heap.size/\tQ w f (.slice A n c) xs:=by
 obtain⟨A,n,c,f,xs,h1,h2,h3,_⟩:=oN (rep:=Dx) (Q:=fun _=>True) Tryz.underlying56 (sz:=1) (by kernel_rfl) (by omega) h fun n pb y hl hy=>by
  obtain⟨b,rfl,_⟩:=DataW.trod_int Tryz.underlying2 hy
  exact⟨[],b,fD.nil _ _,⟨rfl,rfl⟩,trivial⟩
 exact⟨A,n,c,f,xs,h1,h2,h3⟩
theorem mz {t:TypeId} {fs:Array Field} (ht:Tryz.prog.underlying t=some (.struct fs)) (h:TT enc w fuel t cs x):cs.length=Tryz.prog.cellsOf t/\∃n,∀(i:Nat) (f:Field),fs[i]? =some f->∃y,TT enc w n f.type ((cs.drop f.offset).take (Tryz.prog.cellsOf f.type)) y:=by
 obtain⟨xs,n,_,_,hl,Om,hf⟩:=DataW.trod_struct ht h
 refine⟨hl,n,fun i f hi=>?_⟩
 have lv:i<xs.length:=by rw[Om];exact(Array.getElem?_eq_some_iff.1 hi).1
 exact⟨xs[i],(hf i f hi).trans (List.getElem?_eq_getElem lv)⟩
theorem PG {l:List Value} (h:l.length=2):∃a b,l=[a,b]:=by
 match l,h with
 |[a,b],_=>exact⟨a,b,rfl⟩
theorem SM {l:List Value} (h:l.length=3):∃a b c,l=[a,b,c]:=by
 match l,h with
 |[a,b,c],_=>exact⟨a,b,c,rfl⟩
theorem SL {l:List Value} (h:l.length=1):∃a,l=[a]:=by
 match l,h with
 |[a],_=>exact⟨a,rfl⟩
theorem SN {l:List Value} (h:l.length=4):∃a b c d,l=[a,b,c,d]:=by
 match l,h with
 |[a,b,c,d],_=>exact⟨a,b,c,d,rfl⟩
theorem Km (h:TT enc w fuel 22 cs x):∃A n c f xs,cs=[.slice A n c]/\fD f 0 w.heap.size/\qd w f (.slice A n c) xs/\∀d∈xs,d.aD.size<=9223372036854775807:=by
 exact oN (rep:=Gy) (Q:=fun d=>d.aD.size<=9223372036854775807) Tryz.underlying22 (sz:=2) (by kernel_rfl) (by omega) h fun n pb y hl hy=>by
  obtain⟨_,m,hf⟩:=mz Tryz.underlying191 hy
  obtain⟨a,b,rfl⟩:=PG hl
  ·skip
   obtain⟨y0,h0⟩:=hf 0 _ rfl
   obtain⟨y1,h1⟩:=hf 1 _ rfl
   rw[show Tryz.prog.cellsOf _=1 from by kernel_rfl]at h0 h1
   obtain⟨p,e0,_,ws⟩:=DataW.trod_string Tryz.underlying9 h0
   obtain⟨q,e1,_⟩:=DataW.trod_int Tryz.underlying2 h1
   simp at e0 e1
   subst e0 e1
   exact⟨[],⟨p,q⟩,fD.nil _ _,⟨rfl,rfl⟩,by simpa[maxLen]using ws⟩
theorem Kn (h:TT enc w fuel 23 cs x):∃A n c f xs,cs=[.slice A n c]/\fD f 0 w.heap.size/\qe w f (.slice A n c) xs/\∀d∈xs,d.aD.size<=9223372036854775807:=by
 exact oN (rep:=Gz) (Q:=fun d=>d.aD.size<=9223372036854775807) Tryz.underlying23 (sz:=2) (by kernel_rfl) (by omega) h fun n pb y hl hy=>by
  obtain⟨_,m,hf⟩:=mz Tryz.underlying193 hy
  obtain⟨a,b,rfl⟩:=PG hl
  ·skip
   obtain⟨y0,h0⟩:=hf 0 _ rfl
   obtain⟨y1,h1⟩:=hf 1 _ rfl
   rw[show Tryz.prog.cellsOf _=1 from by kernel_rfl]at h0 h1
   obtain⟨p,e0,_,ws⟩:=DataW.trod_string Tryz.underlying9 h0
   obtain⟨A1,n1,c1,f1,P5,e1,k1,s1⟩:=M7 h1
   simp at e0 e1
   subst e0 e1
   exact⟨_,⟨p,P5⟩,k1,⟨_,f1,rfl,rfl,s1⟩,by simpa[maxLen]using ws⟩
theorem FI (h:TT enc w fuel 26 cs x):∃A n c f xs,cs=[.slice A n c]/\fD f 0 w.heap.size/\iK w f (.slice A n c) xs:=by
 obtain⟨A,n,c,f,xs,h1,h2,h3,_⟩:=oN (rep:=zL) (Q:=fun _=>True) Tryz.underlying26 (sz:=3) (by kernel_rfl) (by omega) h fun n pb y hl hy=>by
  obtain⟨_,m,hf⟩:=mz Tryz.underlying143 hy
  obtain⟨a,b,c,rfl⟩:=SM hl
  ·skip
   obtain⟨y0,h0⟩:=hf 0 _ rfl
   obtain⟨y1,h1⟩:=hf 1 _ rfl
   rw[show Tryz.prog.cellsOf _=2 from by kernel_rfl]at h0
   rw[show Tryz.prog.cellsOf _=1 from by kernel_rfl]at h1
   obtain⟨_,m2,O7⟩:=mz Tryz.underlying66 h0
   obtain⟨z0,g0⟩:=O7 0 _ rfl
   obtain⟨z1,g1⟩:=O7 1 _ rfl
   rw[show Tryz.prog.cellsOf _=1 from by kernel_rfl]at g0 g1
   obtain⟨px,e0,_⟩:=DataW.trod_int Tryz.underlying2 g0
   obtain⟨py,e1,_⟩:=DataW.trod_int Tryz.underlying2 g1
   obtain⟨ti,e2,_⟩:=DataW.trod_int Tryz.underlying2 h1
   simp at e0 e1 e2
   subst e0 e1 e2
   exact⟨[],⟨⟨px,py⟩,ti⟩,fD.nil _ _,⟨rfl,rfl⟩,trivial⟩
 exact⟨A,n,c,f,xs,h1,h2,h3⟩
theorem uW (h:TT enc w fuel 28 cs x):∃A n c f,∃d:fB,cs=[.slice A n c]/\fD f 0 w.heap.size/\iK w f (.slice A n c) d.ah:=by
 obtain⟨hl,m,hf⟩:=mz Tryz.underlying28 h
 rw[show Tryz.prog.cellsOf _=1 from by kernel_rfl]at hl
 obtain⟨a,rfl⟩:=SL hl
 ·skip
  obtain⟨y0,h0⟩:=hf 0 _ rfl
  rw[show Tryz.prog.cellsOf _=1 from by kernel_rfl]at h0
  obtain⟨A1,n1,c1,f1,P5,e1,k1,s1⟩:=FI h0
  simp at e1
  subst e1
  exact⟨A1,n1,c1,f1,⟨P5⟩,rfl,k1,s1⟩
theorem HW (h:TT enc w fuel 30 cs x):∃A0 n0 c0 f0 A1 n1 c1 f1 A2 n2 c2 f2,∃d:aC,cs=[.slice A0 n0 c0,.slice A1 n1 c1,.slice A2 n2 c2,.int .i64 d.az]/\fD f0 0 w.heap.size/\qd w f0 (.slice A0 n0 c0) d.aB.aA/\fD f1 0 w.heap.size/\qe w f1 (.slice A1 n1 c1) d.aB.ah/\fD f2 0 w.heap.size/\iK w f2 (.slice A2 n2 c2) d.aX.ah/\(∀g∈d.aB.aA,g.aD.size<=9223372036854775807)/\∀t∈d.aB.ah,t.aD.size<=9223372036854775807:=by
 obtain⟨hl,m,hf⟩:=mz Tryz.underlying30 h
 rw[show Tryz.prog.cellsOf _=4 from by kernel_rfl]at hl
 obtain⟨a,b,c,d,rfl⟩:=SN hl
 ·skip
  obtain⟨y0,h0⟩:=hf 0 _ rfl
  obtain⟨y1,h1⟩:=hf 1 _ rfl
  obtain⟨y2,h2⟩:=hf 2 _ rfl
  rw[show Tryz.prog.cellsOf _=2 from by kernel_rfl]at h0
  rw[show Tryz.prog.cellsOf _=1 from by kernel_rfl]at h1 h2
  obtain⟨_,m2,O7⟩:=mz Tryz.underlying25 h0
  obtain⟨z0,g0⟩:=O7 0 _ rfl
  obtain⟨z1,g1⟩:=O7 1 _ rfl
  rw[show Tryz.prog.cellsOf _=1 from by kernel_rfl]at g0 g1
  obtain⟨A0,n0,c0,f0,xs0,e0,k0,s0,o0⟩:=Km g0
  obtain⟨A1,n1,c1,f1,P5,e1,k1,s1,o1⟩:=Kn g1
  obtain⟨A2,n2,c2,f2,d2,e2,k2,s2⟩:=uW h1
  obtain⟨t,e3,_⟩:=DataW.trod_int Tryz.underlying2 h2
  simp at e0 e1 e2 e3
  subst e0 e1 e2 e3
  exact⟨A0,n0,c0,f0,A1,n1,c1,f1,A2,n2,c2,f2,⟨⟨xs0,P5⟩,d2,t⟩,rfl,k0,s0,k1,s1,k2,s2,o0,o1⟩
end
end Go.Proofs.YtgoelphibofcmaaGreat

namespace Go.Proofs.YtgoelphibofcmaaGreat
open Go.ChangeShapes Go.WideShapes Go.ChangeAt Go.RowKit V
theorem PO:ownKnob Tryz.prog.godebug=none:=by kernel_rfl
theorem HJ:laidOutB Tryz.prog=true:=by kernel_rfl
theorem AI (s:aC) (a:fB) (hn:fK s.aB):aj Tryz.prog 4 [.agg (aw s),.agg (aS a)] (.bool true):=
 FB (fun s a=>jG s a.ah) (fun s a hn hm _=>EB s a.ah hn hm.s.g hm.s.t) (fun s a hn hm hl=>EA s a.ah hn hm hl) s a hn
theorem uH (os:Os) (started:os.Started) (H:Type) (enc:TypeId×Value->H):
  ReturnsInHanded {} Tryz.checked os 4 .any (Rows.fnExactIsTightSpec.pre6 enc Tryz.prog Tryz.f4 Rows.fnExactIsTightRow.domain false) (Rows.fnExactIsTightSpec.post enc Tryz.prog Tryz.f4 false true false false):=by
 refine returnsInHanded_of_change (C:=Tryz.checked) PO started (by kernel_rfl) Tryz.func4
  (ChangeSpec.witness6 (enc:=enc) (C:=Tryz.checked) false ⟨#[], #[.agg #[.slice none 0 0,.slice none 0 0,.slice none 0 0,.int .i64 0],.agg #[.slice none 0 0]],[]⟩ 8 (by kernel_rfl) (by kernel_rfl) (by kernel_rfl) (by kernel_rfl)) ?_
 intro W base args ds gs before Lj hW hcnd _
 have rK:∀(j:Nat) t v,Tryz.f4.params[j]? =some t->args[j]? =some v->Value.okWide Tryz.prog W .any base t v:=Lj
 have hW':=hW
 obtain⟨p,q,hA0,hV,rfl,BA,oy⟩:=hW
 have hA:DataW.TrodAll enc Tryz.prog W 0 (fun _=>true) true Tryz.f4.params.toList args.toList ds p:=hA0
 rw[Tryz.params4]at hA rK
 obtain⟨v0,SR,d0,ds0,p0,q0,mU,rfl,rfl,h0,r0⟩:=trodAll_cons hA
 obtain⟨v1,vs1,d1,ds1,p1,q1,rfl,rfl,rfl,h1,r1⟩:=trodAll_cons r0
 obtain⟨rfl,rfl,rfl⟩:=trodAll_nil r1
 obtain rfl:args= #[v0,v1]:=by cases args;simp_all
 obtain⟨rfl,rfl⟩:=trodVars_none hV
 obtain⟨N0,rfl,_⟩:=okWide_struct Tryz.underlying30 (rK 0 30 v0 rfl rfl)
 obtain⟨Rn,rfl,_⟩:=okWide_struct Tryz.underlying28 (rK 1 28 v1 rfl rfl)
 have k0:=h0
 have k1:=h1
 have lt0:∀x∈p0,x.block<W.heap.size:=by obtain⟨m,hm⟩:=k0;exact DataW.trod_lt m _ _ _ hm
 have Ot:∀x∈p1,x.block<W.heap.size:=by obtain⟨m,hm⟩:=k1;exact DataW.trod_lt m _ _ _ hm
 obtain⟨A0,n0,c0,f0,A1,n1,c1,f1,A2,n2,c2,f2,s,cR,w0,s0,w1,s1,w2,s2,o0,o1⟩:∃A0 n0 c0 f0 A1 n1 c1 f1 A2 n2 c2 f2,∃d:aC,(Value.agg N0).cells.toList=[.slice A0 n0 c0,.slice A1 n1 c1,.slice A2 n2 c2,.int .i64 d.az]/\fD f0 0 W.heap.size/\qd W f0 (.slice A0 n0 c0) d.aB.aA/\fD f1 0 W.heap.size/\qe W f1 (.slice A1 n1 c1) d.aB.ah/\fD f2 0 W.heap.size/\iK W f2 (.slice A2 n2 c2) d.aX.ah/\(∀g∈d.aB.aA,g.aD.size<=9223372036854775807)/\∀t∈d.aB.ah,t.aD.size<=9223372036854775807:=by
  obtain⟨fuel,hf⟩:=h0
  exact HW hf
 obtain⟨A3,n3,c3,f3,a,OZ,w3,s3⟩:∃A n c f,∃d:fB,(Value.agg Rn).cells.toList=[.slice A n c]/\fD f 0 W.heap.size/\iK W f (.slice A n c) d.ah:=by
  obtain⟨fuel,hf⟩:=h1
  exact uW hf
 obtain rfl:N0= #[.slice A0 n0 c0,.slice A1 n1 c1,.slice A2 n2 c2,.int .i64 s.az]:=by
  cases N0;simp[Value.cells]at cR;subst cR;rfl
 obtain rfl:Rn= #[.slice A3 n3 c3]:=by
  cases Rn;simp[Value.cells]at OZ;subst OZ;rfl
 clear hA0 Lj
 have gj:fa Tryz.prog W (fun b=>b<W.heap.size) (fun _=>none) [.agg (aw s),.agg (aS a)] #[.agg #[.slice A0 n0 c0,.slice A1 n1 c1,.slice A2 n2 c2,.int .i64 s.az],.agg #[.slice A3 n3 c3]]:=by
  have h:=lT (BP s0 (fun b hb=>(w0 b hb).2) s1 (fun b hb=>(w1 b hb).2) s2 (fun b hb=>(w2 b hb).2)) (lT (xS s3 (fun b hb=>(w3 b hb).2)) (⟨rfl,fun j b hj=>by cases j<;>cases hj⟩:fa Tryz.prog W (fun b=>b<W.heap.size) (fun _=>none) [] #[]))
  simpa using h
 have iL:=M1 mixed (AI s a ⟨o0,o1⟩) gj
 clear s0 s1 s2 s3 w0 w1 w2 w3 gj
 refine(iL.mono fun e W' ⟨he,bel⟩=>?_)
 subst he
 exact⟨_,rfl,_,_,_,[],_,[],hW',trodAll_mk1 (shut_bool Tryz.underlying4 _),(trodAll_cons_mk (Below.trod HJ (by kernel_rfl) (of_decide_eq_true (by kernel_rfl)) k0 bel lt0) (trodAll_cons_mk (Below.trod HJ (by kernel_rfl) (of_decide_eq_true (by kernel_rfl)) k1 bel Ot) trodAll_mk0)),rfl,bel.frame _,fun h=>by cases h⟩
end Go.Proofs.YtgoelphibofcmaaGreat

namespace Go.Proofs.YtgoelphibofcmaaGreat
open Go.ChangeShapes Go.WideShapes Go.ChangeAt Go.RowKit
theorem itN:Tryz.pinned.checked.prog.funcNamed Rows.fnExactIsTightRow.func=some 4:=by kernel_rfl
theorem itJ:joinedFacts Tryz.pinned.checked.prog 4 Tryz.f4 Rows.fnExactIsTightSpec Rows.fnExactIsTightRow=true:=by
 unfold joinedFacts
 repeat(with_reducible refine Bool.and_eq_true_iff.2 ⟨?_,by as_aux_lemma=>kernel_rfl⟩)
 as_aux_lemma=>kernel_rfl
theorem itI:Tryz.f4.isInstance Tryz.pinned.checked.prog Rows.fnExactIsTightRow.origin Rows.fnExactIsTightRow.targs:=of_decide_eq_true (by kernel_rfl)
theorem itW:Tryz.f4.isWrapper Tryz.pinned.checked.prog Rows.fnExactIsTightRow.wrapper Rows.fnExactIsTightRow.mainSum:=by
 unfold Func.isWrapper;first|(rw[if_pos (by decide+kernel)];kernel_rfl)|(rw[if_neg (by decide+kernel)];exact⟨rfl,rfl⟩)
theorem yC:Rows.fnExactIsTightRow.holds Tryz.pinned (OpenSpec.ofChange Rows.fnExactIsTightSpec):=
 OpenClaim.holds_of_wide 4 Tryz.f4 rfl rfl rfl rfl rfl rfl rfl ⟨rfl,rfl,rfl,rfl,rfl⟩ rfl rfl rfl rfl rfl itN Tryz.func4 itJ itI itW
  (fun os started H enc _=>uH os started H enc)
theorem fnExactIsTight_proved:Rows.FnExactIsTightSaid:=yC
end Go.Proofs.YtgoelphibofcmaaGreat
