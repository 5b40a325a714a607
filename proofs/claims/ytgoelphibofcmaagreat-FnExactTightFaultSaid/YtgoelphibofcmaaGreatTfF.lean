/- Networks by matrices: whether every cut holds. -/
import Derived.Test.YtgoelphibofcmaaGreatTfE
import Derived.Test.YtgoelphibofcmaaGreatTfC
import Derived.RangeFuncCalls
import Derived.OrdersIn
import Derived.Test.YtgoelphibofcmaaGreatTfB
import Derived.Test.YtgoelphibofcmaaGreatChecked
import Derived.Test.YtgoelphibofcmaaGreatTfD
import Derived.ProofKit
import Derived.Deep.Slices
import Derived.ChangeSame
import Derived.Test.YtgoelphibofcmaaGreatRows
import Derived.OpenShut
import Derived.ShutString
import Derived.ChangeOld
import Derived.Below
set_option linter.unusedVariables false
set_option linter.unusedSimpArgs false
set_option maxRecDepth 100000
set_option maxHeartbeats 16000000
namespace Go.Proofs.YtgoelphibofcmaaGreat.V
open Go.RowKit
attribute [local irreducible] dD wpOps gI Call
attribute [local go_sem] aK fW eU gE gy cE upd ck K.av cN AV.cells AV.cell rowOf rowsOf part ld rowAt bB bY dO ev iI bK db eI gr e8 dx eB cZ cY ea ec bQ aY cQ bP cU cR ez eC eA cP bV da ew bL aL cW cF iH bz cK bR aU dh aT dP AV.undef bF bG eh eu dX dY cI eH eK cD eE eD cV cX List.getD_cons_zero List.getD_cons_succ List.getD_nil List.all_cons List.all_nil Bool.and_true Bool.true_and Bool.and_self Bool.not_true Bool.not_false Option.map_some Option.map_none Option.bind_some Option.bind_none List.length_cons List.length_nil List.take_succ_cons List.take_zero List.take_nil List.drop_succ_cons List.drop_zero List.drop_nil List.head?_cons List.map_cons List.map_nil List.getElem?_cons_zero List.getElem?_cons_succ List.cons_append List.nil_append List.append_nil List.length_map List.set_cons_zero List.set_cons_succ Nat.reduceMul eq_self Int.toNat_natCast Int.natCast_nonneg and_self true_and and_true decide_true decide_false Bool.false_eq_true Nat.zero_add Nat.add_zero List.contains_cons List.contains_nil Bool.or_false Bool.false_or beq_self_eq_true Nat.reduceBEq ne_eq not_true_eq_false not_false_eq_true Id.mk.injEq false_and and_false Nat.reduceLT Int.reduceLE Int.reduceLT Int.reduceToNat Int.reduceNeg Int.reduceAdd Nat.le_refl List.length_append beq_true beq_false Bool.not_eq_eq_eq_not or_false false_or dQ aj aq aH bd bE cm aW bc aN bf cL bU
noncomputable def sP (n:Nat) (bs:List PB) (t:Int):Bool:=@decide (kj n bs t) (Classical.propDecidable _)
theorem xF {n:Nat} {bs:List PB} {t:Int} (h:kj n bs t):true=sP n bs t:=by simp[sP,h]
theorem AP {n:Nat} {bs:List PB} {t:Int} (h:¬kj n bs t):false=sP n bs t:=by simp[sP,h]
theorem Kf (cnt:Nat) (hn:cnt<=1048576) (bs:List PB) (hb:∀b∈bs,b.a<cnt/\b.b<cnt) (dc:∀b∈bs,0<=b.s/\b.s<=4) (mo:bs.length<=1048576) (t:Int) (ht:t<=1099511627776):
  ao Tryz.prog 223 [.int .i64 cnt,.sl (bs.map ay),.int .i64 t] (.bool (sP cnt bs t)):=by
 refine ao.body eG rfl fun hl n0=>?_
 clear hl
 have oH:=zu bs (fun _ _=>0) (fun b h=>(dc b h).1) (fun _ _=>Int.le_refl _)
 have hle:=room_le bs (fun _ _=>0) 0 (fun b h=>(dc b h).2) (fun _ _=>Int.le_refl _) (Int.le_refl _)
 have fV:bs.foldl nk (fun _ _=>0)=kJ bs:=rfl
 rw[fV]at oH hle
 (try((repeat(revert hN;revert N;apply Pn.out));refine wk @Nat.zero_add ?_;(repeat(refine Pn.mk ?_;intro N hN))))
 refine aJ (fun m env st=>∃y:Nat,m=cnt+1-y/\1<=y/\env 7=.int .i64 (y:Int)/\y<=cnt+1/\∀z,1<=z->z<y->z<cnt->∀S:Nat->Bool,S 0=true->S z=false->t<=iS S bs) (cnt+1-1) ⟨1,rfl,Nat.le_refl _,by(simp only[go_sem, ↓reduceIte,Nat.reduceEqDiff,Nat.reduceAdd,Nat.reduceSub,Nat.reduceLeDiff,reduceCtorEq])<;>rfl,by omega,fun z h1 h2=>by omega⟩ ?_
 rintro m env_b st_b ⟨y,rfl,hy1,b7,hyl,dF⟩ bkp
 have b0:=bkp 0 (by kernel_rfl)
 have b1:=bkp 1 (by kernel_rfl)
 have b2:=bkp 2 (by kernel_rfl)
 simp only[go_sem, ↓reduceIte,Nat.reduceEqDiff,Nat.reduceAdd,Nat.reduceSub,Nat.reduceLeDiff,reduceCtorEq]at b0 b1 b2
 clear bkp
 by_cases hy:(y:Int)<(cnt:Int)
 ·have hyn:y<cnt:=by omega
  (try((repeat(revert hN;revert N;apply Pn.out));refine wk (tw @b0 (tw @b1 (tw @b2 (tw @b7 @hy)))) ?_;(repeat(refine Pn.mk ?_;intro N hN))))
  refine .inr (aV _ _ _ _ _ (fun r σ1 hq=>?_) (Bn cnt (by omega) hn bs hb dc mo _))
  obtain⟨X,o1,o2,R1,R2,rfl,I,Fv,hM,_⟩:=hq
  refine hN _ _ ?_
  clear hN N
  (try((repeat(revert hN;revert N;apply Pn.out));refine wk (tw @b0 (tw @b1 (tw @b2 @b7))) ?_;(repeat(refine Pn.mk ?_;intro N hN))))
  have OO:=NO cnt (by omega) hn (kJ bs) (fun u v _ _=>⟨oH u v,by have:=hle u v;omega⟩) 0 y (by omega) hyn (by omega) t ht X o1 o2 R1 R2 σ1.next I
  refine .inr (aV _ _ _ _ _ (fun r σ2 hq=>?_) (OO _ hM (by(try dsimp only);omega)))
  obtain⟨val,rfl,rV,lz⟩:=hq
  refine hN _ _ ?_
  clear hN N
  by_cases dz:val<t
  ·(try((repeat(revert hN;revert N;apply Pn.out));refine wk (tw @b0 (tw @b1 (tw @b2 (tw @b7 @dz)))) ?_;(repeat(refine Pn.mk ?_;intro N hN))))
   obtain⟨S,h1,h2,h3⟩:=rV.1 dz
   rw[As hb]at h3
   exact aI (b:=false) (.inl rfl) (sd @Nat.zero_add) (AP fun h=>by have:=h S h1 ⟨y,hyn,h2⟩;omega)
  ·have hw:IntKind.i64.wrap ((y:Int)+1)=((y+1:Nat):Int):=ax (by omega)
   (try((repeat(revert hN;revert N;apply Pn.out));refine wk (tw @b0 (tw @b1 (tw @b2 (tw @b7 (tw @dz @hw))))) ?_;(repeat(refine Pn.mk ?_;intro N hN))))
   refine⟨_,?_,y+1,rfl,by omega,sd (tw @b7 @hw),by omega,fun z h1 h2 h3 S MX MY=>?_⟩
   ·omega
   ·by_cases hzy:z=y
    ·subst hzy
     rcases Int.lt_or_le (iS S bs) t with h|h
     ·exact absurd (rV.2 ⟨S,MX,MY,by rw[As hb];exact h⟩) dz
     ·exact h
    ·exact dF z h1 (by omega) h3 S MX MY
 ·(try((repeat(revert hN;revert N;apply Pn.out));refine wk (tw @b0 (tw @b1 (tw @b2 (tw @b7 @hy)))) ?_;(repeat(refine Pn.mk ?_;intro N hN))))
  exact aI (b:=true) (.inl rfl) (sd @Nat.zero_add) (xF fun S h0 ⟨z,hz,hzf⟩=>by
   have:z≠0:=by rintro rfl;rw[h0]at hzf;cases hzf
   exact dF z (by omega) (by omega) hz S h0 hzf)
theorem HR (cnt:Nat) (hn:cnt<=1048576) (bs:List PB) (hb:∀b∈bs,b.a<cnt/\b.b<cnt) (dc:∀b∈bs,0<=b.s/\b.s<=4) (mo:bs.length<=1048576) (t:Int) (ht:t<=1099511627776):
  ao Tryz.prog 223 [.int .i64 cnt,zz bs,.int .i64 t] (.bool (sP cnt bs t)):=by
 have h:=Kf cnt hn bs hb dc mo t ht
 cases bs with
 |nil=>exact h.cut mixed (.same _ (.cj (.same _ .nil)))
 |cons b r=>rw[zA (by simp)];exact h
end Go.Proofs.YtgoelphibofcmaaGreat.V

namespace Go.Proofs.YtgoelphibofcmaaGreat.V
open Go.RowKit
attribute [local irreducible] dD wpOps gI Call
attribute [local go_sem] aK fW eU gE gy cE upd ck K.av cN AV.cells AV.cell rowOf rowsOf part ld rowAt bB bY dO ev iI bK db eI gr e8 dx eB cZ cY ea ec bQ aY cQ bP cU cR ez eC eA cP bV da ew bL aL cW cF iH bz cK bR aU dh aT dP AV.undef bF bG eh eu dX dY cI eH eK cD eE eD cV cX List.getD_cons_zero List.getD_cons_succ List.getD_nil List.all_cons List.all_nil Bool.and_true Bool.true_and Bool.and_self Bool.not_true Bool.not_false Option.map_some Option.map_none Option.bind_some Option.bind_none List.length_cons List.length_nil List.take_succ_cons List.take_zero List.take_nil List.drop_succ_cons List.drop_zero List.drop_nil List.head?_cons List.map_cons List.map_nil List.getElem?_cons_zero List.getElem?_cons_succ List.cons_append List.nil_append List.append_nil List.length_map List.set_cons_zero List.set_cons_succ Nat.reduceMul eq_self Int.toNat_natCast Int.natCast_nonneg and_self true_and and_true decide_true decide_false Bool.false_eq_true Nat.zero_add Nat.add_zero List.contains_cons List.contains_nil Bool.or_false Bool.false_or beq_self_eq_true Nat.reduceBEq ne_eq not_true_eq_false not_false_eq_true Id.mk.injEq false_and and_false Nat.reduceLT Int.reduceLE Int.reduceLT Int.reduceToNat Int.reduceNeg Int.reduceAdd Nat.le_refl List.length_append beq_true beq_false Bool.not_eq_eq_eq_not or_false false_or dQ aj aq aH bd bE cm aW bc aN bf cL bU
def B3:Prop:=∀(s:aw) (l:List ae),gZ s->jx s l->ao Tryz.prog 222 [.agg (ab s),.agg [.sl (l.map ad)]] (zz (cu s l))
noncomputable def tN (s:aw) (l:List ae) (t:Int):Bool:=if 64<ik s l t then false else sP (ik s l t) (de (dV (aE t (cu s l))) (cu s l)) t
theorem CZ (s:aw) (l:List ae) (t:Int):tN s l t=nf s l t:=by
 letI:=Classical.propDecidable (oE l.length (cu s l) t)
 unfold tN
 by_cases h:64<ik s l t
 ·rw[if_pos h]
  exact(lY (p:=False) ⟨False.elim,fun k=>by have:=k.1;unfold ik at h;omega⟩).symm.trans (by simp) |>.symm
 ·rw[if_neg h]
  by_cases hp:kj (ik s l t) (de (dV (aE t (cu s l))) (cu s l)) t
  ·rw[<-xF hp]
   exact((lY (p:=True) ⟨fun _=>⟨by unfold ik at h;omega,hp⟩,fun _=>trivial⟩).symm.trans (by simp)).symm
  ·rw[<-AP hp]
   exact((lY (p:=False) ⟨False.elim,fun k=>hp k.2⟩).symm.trans (by simp)).symm
theorem IQ (R6:B3) (s:aw) (l:List ae) (t:Int) (ht:t<=1099511627776) (h1:1<=l.length) (hS:gZ s) (hA:jx s l):ao Tryz.prog 197 [.agg (ab s),.agg [.sl (l.map ad)],.int .i64 t] (.gx [.bool (nf s l t),.bool (decide ¬64<ik s l t)]):=by
 rw[<-CZ]
 refine ao.body eG rfl fun hl n0=>?_
 clear hl
 have hb:=xj (l:=l) hS
 have mo:=pE (s:=s) hA.1
 have AJ:=hA.1.sH
 have tj:=R6 s l hS hA
 have Pw:=yC l.length h1 (by omega) (cu s l) (fun b h=>⟨(hb b h).1,(hb b h).2.1⟩) (by omega) t
 have hL:=sR (aE t (cu s l))
 have fB:=Dt hL (fun b h=>⟨(hb b h).1,(hb b h).2.1⟩)
 have hlen:=(mH (dV (aE t (cu s l))) (cu s l)).1
 have nX:=jB l.length (dV (aE t (cu s l)))
 have hho:=HR (ik s l t) (by unfold ik;omega) (de (dV (aE t (cu s l))) (cu s l)) (fun b h=>⟨(fB b h).1,(fB b h).2.1⟩) (fun b h=>by
  obtain⟨_,_,_,c,hc,dn⟩:=fB b h
  rw[dn];have:=hb c hc;omega) (by omega) t ht
 have fA:(l.map ad).length=l.length:=by simp
 have hzB:∀(g:Rows) (n:Nat) (bs:List PB),V.fz g (n+1) (zz bs)=some (zz bs):=fun g n bs=>by
  unfold zz;split
  ·exact aW _ _
  ·exact cm _ _ _
 rw[ab]at tj
 rw[<-ik]at Pw
 have xI:∀(g:Rows) (x:Int),cG (dQ g) 6 [.int .i64 l.length,zz (cu s l),.int .i64 x]=some [.int .i64 l.length,zz (cu s l),.int .i64 x]:=fun g x=>by simp only[aj,aq,aH,hzB,Option.map_some]
 have hzh:∀(g:Rows) (x y:Int),cG (dQ g) 6 [.int .i64 x,zz (de (dV (aE t (cu s l))) (cu s l)),.int .i64 y]=some [.int .i64 x,zz (de (dV (aE t (cu s l))) (cu s l)),.int .i64 y]:=fun g x y=>by simp only[aj,aq,aH,hzB,Option.map_some]
 generalize zz (cu s l)=B1 at *
 generalize zz (de (dV (aE t (cu s l))) (cu s l))=B2 at *
 by_cases tf:(64:Int)<(ik s l t:Int)
 ·have tg:64<ik s l t:=by omega
  (repeat(first|((repeat(revert hN;revert N;apply Pn.out));refine wk (tw @ab.eq_1 (tw @tf @fA)) ?_;(repeat(refine Pn.mk ?_;intro N hN)))|((try apply Or.inl);refine⟨_,ao.x (tj) (sd (tw @ab.eq_1 (tw @tf @fA))),?_⟩;refine hN _ _ ?_;clear hN N)))
  refine⟨_,ao.x Pw (xI _ _),?_⟩
  refine hN _ _ ?_
  clear hN N
  (try((repeat(revert hN;revert N;apply Pn.out));refine wk @tf ?_;(repeat(refine Pn.mk ?_;intro N hN))))
  exact jk (.inl rfl) (r1:=.bool false) (r2:=.bool false) (sd @Nat.zero_add) (sd @Nat.zero_add) (by rw[tN,if_pos tg,decide_eq_false fun h=>h tg];simp only[dM,aP,bt,dU,Option.map_some])
 ·have tg:¬64<ik s l t:=by omega
  (repeat(first|((repeat(revert hN;revert N;apply Pn.out));refine wk (tw @ab.eq_1 (tw @tf @fA)) ?_;(repeat(refine Pn.mk ?_;intro N hN)))|((try apply Or.inl);refine⟨_,ao.x (tj) (sd (tw @ab.eq_1 (tw @tf @fA))),?_⟩;refine hN _ _ ?_;clear hN N)))
  refine⟨_,ao.x Pw (xI _ _),?_⟩
  refine hN _ _ ?_
  clear hN N
  (try((repeat(revert hN;revert N;apply Pn.out));refine wk @tf ?_;(repeat(refine Pn.mk ?_;intro N hN))))
  refine .inl ⟨_,ao.x hho (hzh _ _ _),?_⟩
  refine hN _ _ ?_
  clear hN N
  (try((repeat(revert hN;revert N;apply Pn.out));refine wk @Nat.zero_add ?_;(repeat(refine Pn.mk ?_;intro N hN))))
  exact jk (.inl rfl) (r1:=.bool (sP (ik s l t) (de (dV (aE t (cu s l))) (cu s l)) t)) (r2:=.bool true) (sd @Nat.zero_add) (sd @Nat.zero_add) (by rw[tN,if_neg tg,decide_eq_true tg];simp only[dM,aP,bt,dU,Option.map_some])
theorem tq (t:Int):ao Tryz.prog 196 [.int .i64 t] (.bool (iP t 1 16)):=by
 refine ao.body eG rfl fun hl n0=>?_
 clear hl
 have h:=kP t 1 16
 (repeat(first|((repeat(revert hN;revert N;apply Pn.out));refine wk @Nat.zero_add ?_;(repeat(refine Pn.mk ?_;intro N hN)))|((try apply Or.inl);refine⟨_,ao.x (h) (sd @Nat.zero_add),?_⟩;refine hN _ _ ?_;clear hN N)))
 exact aI (b:=iP t 1 16) (.inl rfl) (sd @Nat.zero_add) rfl
theorem wG (R6:B3) (s:aB) (hn:fJ s.aC) (hg:s.aC.aA.length<=1048576) (ht:s.aC.ah.length<=1048576) (hs:∀t∈s.aC.ah,t.bI.length<=1048576) (hl:s.bh.ah.length<=1048576):ao Tryz.prog 105 [.agg (au s)] (.bool (mK s)):=by
 refine ao.body eG rfl fun mu n0=>?_
 clear mu
 by_cases h0:(s.bh.ah.length:Int)=0
 ·have hd:decide ((s.bh.ah.length:Int)=0)=true:=decide_eq_true h0
  (try((repeat(revert hN;revert N;apply Pn.out));refine wk (tw @au.eq_1 @hd) ?_;(repeat(refine Pn.mk ?_;intro N hN))))
  exact aI (b:=false) (.inl rfl) (sd @Nat.zero_add) (jL fun h=>by have:=h.some;omega)
 have hd:decide ((s.bh.ah.length:Int)=0)=false:=decide_eq_false h0
 have MZ:=mQ s.aC s.bh.ah hn hg ht hs hl
 have Po:=tq s.az
 have key:ao Tryz.prog 163 [.agg (ab s.aC),.agg [.sl (s.bh.ah.map ad)],.int .i64 s.az] (.gx [.bool (mK s),.int .i64 (if qg s.aC&&o9 s.aC s.bh.ah then(if iP s.az 1 16 then(if 64<ik s.aC s.bh.ah s.az then 4 else 0)else 2)else 1)]):=by
  refine ao.body eG rfl fun mu n0=>?_
  clear mu
  rw[ab]at MZ
  cases hA:qg s.aC&&o9 s.aC s.bh.ah
  ·rw[hA]at MZ
   have kZ:mK s=false:=(jL fun h=>by rw[lX.2 h.set,lL.2 h.Bw]at hA;cases hA).symm
   (repeat(first|((repeat(revert hN;revert N;apply Pn.out));refine wk @ab.eq_1 ?_;(repeat(refine Pn.mk ?_;intro N hN)))|((try apply Or.inl);refine⟨_,ao.x (MZ) (sd @ab.eq_1),?_⟩;refine hN _ _ ?_;clear hN N)))
   exact jk (.inl rfl) (r1:=.bool false) (r2:=.int .i64 1) (sd @Nat.zero_add) (sd @Nat.zero_add) (by rw[kZ];simp only[dM,aP,bt,dU,dC,Option.map_some];rfl)
  rw[hA]at MZ
  simp only[Bool.and_eq_true]at hA
  have hS:=lX.1 hA.1
  have hP:=lL.1 hA.2
  cases hT:iP s.az 1 16
  ·rw[hT]at Po
   have kZ:mK s=false:=(jL fun h=>by have:=h.NU;rw[hT]at this;cases this).symm
   (repeat(first|((repeat(revert hN;revert N;apply Pn.out));refine wk @ab.eq_1 ?_;(repeat(refine Pn.mk ?_;intro N hN)))|((try apply Or.inl);refine⟨_,ao.x (MZ) (sd @ab.eq_1),?_⟩;refine hN _ _ ?_;clear hN N)|((try apply Or.inl);refine⟨_,ao.x (Po) (sd @ab.eq_1),?_⟩;refine hN _ _ ?_;clear hN N)))
   exact jk (.inl rfl) (r1:=.bool false) (r2:=.int .i64 2) (sd @Nat.zero_add) (sd @Nat.zero_add) (by rw[kZ];simp only[dM,aP,bt,dU,dC,Option.map_some];rfl)
  have Kn:=eb hT
  rw[hT]at Po
  have dc:=IQ R6 s.aC s.bh.ah s.az (by omega) (by omega) hS hP
  rw[ab]at dc
  have hsy:mK s=nf s.aC s.bh.ah s.az:=by
   cases hB:nf s.aC s.bh.ah s.az
   ·exact(jL fun h=>by have:=oR.2 h.holds;rw[hB]at this;cases this).symm
   ·exact(BB ⟨hS,hP,by omega,hT,oR.1 hB⟩).symm
  by_cases tf:64<ik s.aC s.bh.ah s.az
  ·rw[decide_eq_false fun h=>h tf]at dc
   have kZ:mK s=false:=(jL fun h=>by have:=h.holds.1;unfold ik at tf;omega).symm
   (repeat(first|((repeat(revert hN;revert N;apply Pn.out));refine wk @ab.eq_1 ?_;(repeat(refine Pn.mk ?_;intro N hN)))|((try apply Or.inl);refine⟨_,ao.x (MZ) (sd @ab.eq_1),?_⟩;refine hN _ _ ?_;clear hN N)|((try apply Or.inl);refine⟨_,ao.x (Po) (sd @ab.eq_1),?_⟩;refine hN _ _ ?_;clear hN N)|((try apply Or.inl);refine⟨_,ao.x (dc) (sd @ab.eq_1),?_⟩;refine hN _ _ ?_;clear hN N)))
   exact jk (.inl rfl) (r1:=.bool false) (r2:=.int .i64 4) (sd @Nat.zero_add) (sd @Nat.zero_add) (by rw[kZ,if_pos tf];simp only[dM,aP,bt,dU,dC,Option.map_some])
  ·rw[decide_eq_true tf,<-hsy]at dc
   (repeat(first|((repeat(revert hN;revert N;apply Pn.out));refine wk @ab.eq_1 ?_;(repeat(refine Pn.mk ?_;intro N hN)))|((try apply Or.inl);refine⟨_,ao.x (MZ) (sd @ab.eq_1),?_⟩;refine hN _ _ ?_;clear hN N)|((try apply Or.inl);refine⟨_,ao.x (Po) (sd @ab.eq_1),?_⟩;refine hN _ _ ?_;clear hN N)|((try apply Or.inl);refine⟨_,ao.x (dc) (sd @ab.eq_1),?_⟩;refine hN _ _ ?_;clear hN N)))
   exact jk (.inl rfl) (r1:=.bool (mK s)) (r2:=.int .i64 0) (sd @Nat.zero_add) (sd @Nat.zero_add) (by rw[if_neg tf];simp only[dM,aP,bt,dU,dC,Option.map_some])
 generalize hcode:(if qg s.aC&&o9 s.aC s.bh.ah then(if iP s.az 1 16 then(if 64<ik s.aC s.bh.ah s.az then(4:Int)else 0)else 2)else 1)=code at key
 rw[ab]at key
 cases hB:mK s
 ·rw[hB]at key
  (repeat(first|((repeat(revert hN;revert N;apply Pn.out));refine wk (tw @au.eq_1 @hd) ?_;(repeat(refine Pn.mk ?_;intro N hN)))|((try apply Or.inl);refine⟨_,ao.x (key) (sd (tw @au.eq_1 @hd)),?_⟩;refine hN _ _ ?_;clear hN N)))
  exact aI (b:=false) (.inl rfl) (sd @Nat.zero_add) rfl
 ·rw[hB]at key
  have hP:=v8.1 hB
  have hc:code=0:=by
   rw[<-hcode,lX.2 hP.set,lL.2 hP.Bw,hP.NU]
   have:=hP.holds.1
   simp only[Bool.and_self,if_true]
   rw[if_neg (by unfold ik;omega)]
  rw[hc]at key
  (repeat(first|((repeat(revert hN;revert N;apply Pn.out));refine wk (tw @au.eq_1 @hd) ?_;(repeat(refine Pn.mk ?_;intro N hN)))|((try apply Or.inl);refine⟨_,ao.x (key) (sd (tw @au.eq_1 @hd)),?_⟩;refine hN _ _ ?_;clear hN N)))
  exact aI (b:=true) (.inl rfl) (sd @Nat.zero_add) rfl
end Go.Proofs.YtgoelphibofcmaaGreat.V

namespace Go.Proofs.YtgoelphibofcmaaGreat.V
open Go.RowKit
variable {P:Program} {hs:Nat}
theorem Gx {q n i:Nat} {ops:Array Oper} {Q:Exit->Act->World->Prop} {K K':Act->World->Prop} {a:Act} {w:World} (oI:∀(j:Nat) (o:Oper),ops[j]? =some o->∀c,o.op≠.defer c) (kZ:¬LetsOut Q) (hK:∀a w,K a w->K' a w) (h:wpOp P ops Q i K a w):wpOpIn (Fence.wide.inRound q) n P ops Q i K' a w:=by
 unfold wpOp at h
 unfold wpOpIn
 split at h
 ·rename_i ho;simp only[ho];exact hK _ _ h
 ·rename_i o ho
  simp only[ho]
  split at h
  ·rename_i hw
   rw[if_pos hw]
   replace h:=h.resolve_right fun hc=>kZ hc.2
   refine⟨fun _ _=>trivial,?_⟩
   rw[Oper.semAt_eq _ _ _ (oI i o ho)]
   unfold Oper.wp at h
   generalize (execOp a.eval o).run P w=r at *
   cases r with
   |ok m w'=>
    cases m<;>simp only[Oper.upon,Oper.uponIn]at h ⊢
    case value=>exact hK _ _ h
    case skip=>exact hK _ _ h
    case defer=>exact hK _ _ h
    case enter f args=>
     refine⟨fun h=>by simp[Fence.wide]at h,CallsIn.inRound q (callsIn_wide.2 (h.mono fun e JI he=>?_))⟩
     cases e with
     |returned v=>exact hK _ _ he
     |panicked c=>exact he
     |outgrown=>exact he
    case row r args=>exact⟨fun h=>by simp[Fence.wide]at h,fun c cs _=>let ⟨v,JI,h1,s⟩:=h c cs;⟨v,JI,hK _ _ h1,stepsIn_wide.2 s⟩⟩
   |halt x w'=>cases x<;>simp only[Oper.upon,Oper.uponIn]at h ⊢;exact h
  ·rename_i hw
   rw[if_neg hw]
   exact⟨fun _ _=>trivial,hK _ _ h⟩
theorem wu {q n:Nat} {md:Region.Mode} {ops:Array Oper} {Q:Exit->Act->World->Prop} (oI:∀(j:Nat) (o:Oper),ops[j]? =some o->∀c,o.op≠.defer c) (kZ:¬LetsOut Q):∀(fuel:Nat) (listed:Array Bool) (a:Act) (w:World),wpAny P md ops Q fuel listed a w->wpAnyIn (Fence.wide.inRound q) n P md ops Q fuel listed a w
 |0,_,_,_,h=>h
 |fuel+1,listed,_,_,h=>⟨h.1,fun i hi=>Gx oI kZ (fun a w=>wu oI kZ fuel _ a w) (h.2 i hi)⟩
def Ew:Op->Bool
 | .defer _=>true
 |_=>false
theorem Iq {ops:Array Oper} (h:(ops.all fun o=> !Ew o.op)=true):∀(j:Nat) (o:Oper),ops[j]? =some o->∀c,o.op≠.defer c:=fun j o hj c hc=>by
 have:=Array.all_eq_true_iff_forall_mem.1 h o (Array.mem_of_getElem? hj)
 rw[hc]at this
 simp[Ew]at this
theorem zq (hm:P.follows .mixedOrders=true) {nt site0 id q n:Nat} {ops:Array Oper} {vl:List aM} (h:qw P nt site0 ops true false=some vl) (oI:∀(j:Nat) (o:Oper),ops[j]? =some o->∀c,o.op≠.defer c)
  {K:Env->ar->Prop} {env:Env} {σ:ar} {a:Act} {w:World} {D:Nat->Prop} {ι:Names} {Q:Exit->Act->World->Prop} (hv:wpOps (Sound P) true vl K env σ) (dc:St P hs nt D ι env σ a w)
  (hK:∀iy σ' a' w' D' ι',K iy σ'->Step hs D ι w D' ι' w'->St P hs nt D' ι' iy σ' a' w'->a'.defers=a.defers->Q .normal a' w'):(Code.region id ops true).wpIn (Fence.wide.inRound q) n P Q a w:=by
 have dF:∃hidden sk,allM (ko P ops nt site0 true false (jo ops) hidden) ops.toList 0=some sk/\vl=sk/\nP ops sk (jo ops)=true:=by
  unfold qw at h
  simp only[if_true,Bool.not_true,Bool.false_or]at h
  split at h
  ·rename_i sk h'
   split at h
   ·rename_i uP;simp at h;exact⟨_,sk,h',h.symm,uP⟩
   ·cases h
  ·cases h
 obtain⟨hidden,sk,dF,rfl,uP⟩:=dF
 obtain⟨qF,T0⟩:=dc.drew
 obtain⟨hlen,_⟩:=nK dF
 have kB:vl.length=ops.size:=by rw[hlen];simp
 have CG:=wo (X:=Sound P) (K:=K) (n:=σ.next) uP kB vl 0 (Array.replicate ops.size false) env σ.get (by simp) (by simp) (fun i hi=>by simp[hi]) (by simp[kB]) (fun k i h=>by
  exfalso
  rcases Nat.lt_or_ge k ops.size with hk|hk
  ·simp[hk]at h
  ·simp[Nat.not_lt.2 hk]at h) hv
 rw[kB]at CG
 have hw:=xe (Q:=fun e a w=>e=.normal/\Q .normal a w) dF ops.size _ env σ.get a w.drew D ι (fun _=>False) CG qF.sb qF.used (fun _ h=>h.elim) qF.env qF.size fun iT g1 a1 w1 D1 ι1 U1 hk T S1 RM E1 tM hd=>⟨rfl,hK iT ⟨g1,σ.next+1⟩ a1 w1 D1 ι1 hk (T0.trans T) ⟨S1,RM.next,E1,tM⟩ hd⟩
 have fB:=wu (q:=q) (n:=n) (Q:=fun e a w=>e=.normal/\Q .normal a w) oI (by rintro⟨_,_,hc,_⟩;cases hc) ops.size _ a w.drew hw
 refine wpIn_mono (wpIn_region_any (id:=id) hm fB) ?_
 rintro e a w ⟨rfl,h⟩
 exact h
end Go.Proofs.YtgoelphibofcmaaGreat.V

namespace Go.Proofs.YtgoelphibofcmaaGreat.V
open Go.RowKit Go.Shelf
attribute [local go_sem] Oper.semAt_some
def gY (n₀:Nat) (W W':World):Prop:=W.heap.size<=W'.heap.size/\(∀(b:Nat) (cells:Array Value) (T:TypeId) (fr:Nat×Nat),W.heap[b]? =some (Obj.cells cells T fr)->T≠226->T≠246->W'.heap[b]? =W.heap[b]?)/\∀k,k<n₀->k<W.heap.size->W'.heap[k]? =W.heap[k]?
theorem gY.trans {n₀:Nat} {A B C:World} (h:gY n₀ A B) (k:gY n₀ B C):gY n₀ A C:=⟨Nat.le_trans h.1 k.1,fun b cells T fr hb h1 h2=>by
 have e:=h.2.1 b cells T fr hb h1 h2
 rw[<-e]at hb ⊢
 exact k.2.1 b cells T fr hb h1 h2,fun b hb hs=>(k.2.2 b hb (Nat.lt_of_lt_of_le hs h.1)).trans (h.2.2 b hb hs)⟩
theorem gY.of {n₀:Nat} {W W':World} (h:Below W.heap.size W W'):gY n₀ W W':=⟨h.size,fun b cells T fr hb _ _=>h.block b (Array.getElem?_eq_some_iff.1 hb).1,fun k _ hs=>h.block k hs⟩
theorem gY.refl (n₀:Nat) (W:World):gY n₀ W W:=⟨Nat.le_refl _,fun _ _ _ _ _ _ _=>rfl,fun _ _ _=>rfl⟩
theorem gY.b {n₀ m:Nat} (hm:n₀<=m) (W:World) (l:Nat) (o o':Obj) (hl:m<=l) (h:W.heap[l]? =some o) (hc:o.isCells=false) (_:o.isWalk=false):gY n₀ W (W.putObj l o'):=by
 refine⟨by simp,fun b cells T fr hb _ _=>?_,fun k hk _=>World.putObj_heap_other (by omega)⟩
 by_cases mo:b=l
 ·subst mo;rw[h]at hb;cases hb;cases hc
 ·exact World.putObj_heap_other mo
def JP (bs:List PB):List Value:=bs.flatMap fun b=>[.int .i64 b.a,.int .i64 b.b,.int .i64 b.s]
theorem Hc (bs:List PB) (b:PB):JP (bs++[b])=JP bs++[.int .i64 b.a,.int .i64 b.b,.int .i64 b.s]:=by simp[JP]
def np (s:aw) (l:List ae) (pre:List (L9 l)):List PB:=(pre.map (·.1)).flatMap (yq s l)
theorem xh (s:aw) (l:List ae) (pre:List (L9 l)) (x:L9 l):np s l (pre++[x])=np s l pre++yq s l x.1:=by simp[np]
theorem Hb (s:aw) (l:List ae) (x:Nat×Nat×Int):(yq s l x).length<=1:=by
 unfold yq;split<;>simp
theorem Hd (s:aw) (l:List ae) (pre:List (L9 l)):(np s l pre).length<=pre.length:=by
 unfold np
 induction pre with
 |nil=>simp
 |cons x r ih=>
  have:=Hb s l x.1
  simp only[List.map_cons,List.flatMap_cons,List.length_append,List.length_cons]at ih ⊢
  omega
theorem xU (l:List ae) (i:Nat):∀m,(kF l i m).length<=m
 |0=>by simp[kF]
 |m+1=>by
  rw[mB,List.length_append]
  have:=xU l i m
  have:(Bl l i (1-(m:Int))).length<=1:=by unfold Bl;split<;>simp
  omega
theorem Bm (l:List ae):∀n,(k7 l n).length<=n*2
 |0=>by simp[k7]
 |n+1=>by
  rw[lU,List.length_append]
  have:=Bm l n
  have:=xU l n 2
  omega
theorem AI {β:Type} (B:Nat) (c:Array Value) (t:TypeId) (fr:Nat×Nat):Own (fun(_:β) W=>W.heap[B]? =some (.cells c t fr)):=fun _ X _ row h hg hr=>(hg.block B (Array.getElem?_eq_some_iff.1 h).1 (fun e=>by
 obtain⟨o,ho,hc⟩:=hr B e.symm
 rw[h]at ho;cases ho;cases hc)).trans h
theorem gY.app {n₀:Nat} {W w1:World} {B k:Nat} {v v':Value} {xs:List Value} {tmp:Obj} (hv:Boxed W B 226 v) (fA:W.ownsRow n₀ 246 3 v k xs) (Ek:(W.alloc tmp).grownBy w1 v.ownBlock) (hb:Below n₀ W (w1.setCell ⟨B,0,none⟩ v')):gY n₀ W (w1.setCell ⟨B,0,none⟩ v'):=by
 refine⟨hb.size,fun b cells T fr h h1 h2=>?_,fun k hk _=>hb.block k hk⟩
 have dz:=(Array.getElem?_eq_some_iff.1 h).1
 have hbB:b≠B:=by
  rintro rfl
  rw[show W.heap[b]? = _ from hv]at h
  cases h
  exact h1 rfl
 have Q4:some b≠v.ownBlock:=by
  rcases fA.2 with⟨rfl,_⟩|⟨g,cap,cur,rfl,_,hg,_⟩
  ·simp[Value.ownBlock]
  ·intro e
   obtain rfl:b=g:=by simpa[Value.ownBlock]using e
   rw[hg]at h;cases h
   exact h2 rfl
 refine(Below.heap_setCell w1 ⟨B,0,none⟩ v' b hbB).trans ?_
 exact(Ek.block b (by simp;omega) Q4).trans (Below.heap_alloc W tmp b dz)
theorem Qd {w:World} {vS:Value} {l:List ae} (hP:o8 w vS l):GW (gY w.heap.size) vS l where
 refl:=gY.refl _
 trans:=gY.trans
 of:=gY.of
 size h:=h.1
 typed h:=h.2.1
 pl {W W'} h hp:=by
  obtain⟨A,c,rfl,hm,hc⟩:=hp.sl
  refine⟨A,c,rfl,hm,?_⟩
  by_cases hl:l=[]
  ·exact .inl hl
  have k5:0<l.length:=List.length_pos_iff.2 hl
  rcases hc with h0|⟨b,o,rfl,j5⟩
  ·exact absurd h0 hl
  obtain⟨A',c',e,_,kz⟩:=hP.sl
  cases e
  rcases kz with h0|⟨b',o',e,hcell'⟩
  ·exact absurd h0 hl
  cases e
  have hb:=tA (hcell' 0 k5).1
  have hk:=h.2.2 b hb (tA (j5 0 k5).1)
  refine .inr ⟨b,o,rfl,fun i hi=>?_⟩
  have AH:∀x,W'.cell? ⟨b,x,none⟩=W.cell? ⟨b,x,none⟩:=fun x=>World.cell?_of_block hk
  rw[AH,AH,AH]
  exact j5 i hi
theorem rrE {P:Program} {nt site0:Nat} {ops:Array Oper} {vl:List aM} (_:yv P ops site0 false (jo ops) (qJ P false ops.toList 0) ops.toList 0=some vl:=by(conv=>lhs;cbv)<;>exact rfl) (h:qw P nt site0 ops true false=some vl:=by kernel_rfl):qw P nt site0 ops true false=some vl:=h
theorem Ih (l:List Value) (d:Value):l=(List.range l.length).map fun i=>(⟨l⟩:Array Value).getD i d:=by
 refine List.ext_getElem (by simp) fun i h1 h2=>?_
 simp[h1]
theorem Dg {X:fu} {d:Bool} {ops:List aM} {K:Env->ar->Prop} {env:Env} {σ:ar} (h:dD X (.dW d ops) (fun _=>K) env σ):wpOps X d ops K env σ:=h
theorem ur (W:World) (T:TypeId) (x y z:Value):∀(j:Nat) (u:Value),[x,y,z][j]? =some u->(W.alloc (.cells #[x,y,z] T)).cell? ((⟨W.heap.size,0,none⟩:Addr).add j)=some u:=fun j u h=>by
 have hb:(W.alloc (.cells #[x,y,z] T)).heap[W.heap.size]? =some (.cells #[x,y,z] T (0,0)):=World.alloc_heap_new _ _
 have e:∀k,(W.alloc (.cells #[x,y,z] T)).cell? ⟨W.heap.size,k,none⟩=(#[x,y,z]:Array Value)[k]? :=fun k=>by
  unfold World.cell?
  rw[show(W.alloc (.cells #[x,y,z] T)).heap[(⟨W.heap.size,k,none⟩:Addr).block]? = _ from hb]
  rfl
 rw[show(⟨W.heap.size,0,none⟩:Addr).add j=⟨W.heap.size,j,none⟩ by simp[Addr.add];exact fun h=>h.symm,e]
 simpa using h
def Hj (n b:Nat):Names:=fun id=>if id=⟨1,0⟩then some ⟨n,2,2,none⟩else if id=⟨2,0⟩then some ⟨n+1,1,1,none⟩else if id=⟨3,0⟩then some ⟨n+1+1,1,1,none⟩else if id=⟨4,0⟩then some ⟨b,2,2,none⟩else if id=⟨5,0⟩then some ⟨n+1+1+1,1,1,none⟩else none
def Lr (s:aw) (l:List ae) (i k:Nat):Rows:=fun id=>if id=⟨1,0⟩then some ⟨false,2,[ab s]⟩else if id=⟨2,0⟩then some ⟨false,1,[[.sl (l.map ad)]]⟩else if id=⟨4,0⟩then some ⟨false,2,[[.int .i64 (i:Int),.int .i64 (k:Int)]]⟩else none
def Mn (s:aw) (l:List ae) (i k:Nat) (d:Int):Env:=ck [.agg (ab s),.agg [.sl (l.map ad)],.ptr ⟨1,0⟩ 0 0,.ptr ⟨2,0⟩ 0 0,.cj,.ptr ⟨3,0⟩ 0 0,.ptr ⟨4,0⟩ 0 0,.int .i64 d,.undef,.agg [.sl (l.map ad)],.fn 264 [.ptr ⟨5,0⟩ 0 0],.agg [.int .i64 (i:Int),.int .i64 (k:Int)],.int .i64 d]
theorem Dq {P:Program} {W:World} {D:Nat->Prop} {ι:Names} {B:rz} {cells:Array Value} {T:TypeId} {cs:List AV} (hk:B.k=none) (hb:W.heap[B.b]? =some (.cells cells T (0,0))) (hC:cells.size=B.C) (hz:B.sz=cs.length) (hl:cs.length=cells.size) (hf:∀a∈cs,a.cell=true) (hr:∀(j:Nat) (a:AV),cs[j]? =some a->∃v,cells[j]? =some v/\cq P W D ι a v):gq P W D ι B ⟨false,cs.length,[cs]⟩:=
 lf.obj ⟨hz,⟨cells,T,hb,hC⟩,by simp;omega,fun c hc=>by simp at hc;rw[hc],fun c hc=>by simp at hc;rw[hc];exact hf,fun i j c a hi hj=>by
  match i,hi with
  |0,hi=>
   simp at hi;subst hi
   obtain⟨v,h1,h2⟩:=hr j a hj
   exact⟨v,by simp[World.cell?,hb,h1],h2⟩
  |i+1,hi=>simp at hi⟩ hk
theorem H7:(Tryz.prog.info? 246).map (fun i=>(i.zero,i.size,i.bytes))=some (some (.agg #[.int .i64 0,.int .i64 0,.int .i64 0]),3,24):=by kernel_rfl
end Go.Proofs.YtgoelphibofcmaaGreat.V

namespace Go.Proofs.YtgoelphibofcmaaGreat.V
open Go.RowKit Go.Shelf
attribute [local go_sem] Oper.semAt_some
attribute [local irreducible] dD wpOps gI Call
attribute [local go_sem] aK fW eU gE gy cE upd ck K.av cN AV.cells AV.cell rowOf rowsOf part ld rowAt bB bY dO ev iI bK db eI gr e8 dx eB cZ cY ea ec bQ aY cQ bP cU cR ez eC eA cP bV da ew bL aL cW cF iH bz cK bR aU dh aT dP AV.undef bF bG eh eu dX dY cI eH eK cD eE eD cV cX List.getD_cons_zero List.getD_cons_succ List.getD_nil List.all_cons List.all_nil Bool.and_true Bool.true_and Bool.and_self Bool.not_true Bool.not_false Option.map_some Option.map_none Option.bind_some Option.bind_none List.length_cons List.length_nil List.take_succ_cons List.take_zero List.take_nil List.drop_succ_cons List.drop_zero List.drop_nil List.head?_cons List.map_cons List.map_nil List.getElem?_cons_zero List.getElem?_cons_succ List.cons_append List.nil_append List.append_nil List.length_map List.set_cons_zero List.set_cons_succ Nat.reduceMul eq_self Int.toNat_natCast Int.natCast_nonneg and_self true_and and_true decide_true decide_false Bool.false_eq_true Nat.zero_add Nat.add_zero List.contains_cons List.contains_nil Bool.or_false Bool.false_or beq_self_eq_true Nat.reduceBEq ne_eq not_true_eq_false not_false_eq_true Id.mk.injEq false_and and_false Nat.reduceLT Int.reduceLE Int.reduceLT Int.reduceToNat Int.reduceNeg Int.reduceAdd Nat.le_refl List.length_append beq_true beq_false Bool.not_eq_eq_eq_not or_false false_or dQ aj aq aH bd bE cm aW bc aN bf cL bU
theorem Hh (s:aw) (l:List ae) (hF:kg s) (hA:jx s l) (w:World) (Ag At:Option Addr) (ng cg nt ct:Nat) (vS:Value) (hT:js Tryz.prog w (fun b=>b<w.heap.size) (.agg (ab s)) (.agg #[.slice Ag ng cg,.slice At nt ct])) (hP:o8 w vS l):
  CallsIn Fence.wide 5 Tryz.prog 222 #[.agg #[.slice Ag ng cg,.slice At nt ct],.agg #[vS]] w fun e W'=>∃v,e=.returned v/\W'.ownsRow w.heap.size 246 3 v (cu s l).length (JP (cu s l))/\(v=.slice none 0 0↔cu s l=[])/\Below w.heap.size w W':=by
 obtain⟨A,cp,rfl,_,_⟩:=hP.sl
 obtain⟨i0,hi,LR,tM,kh⟩:=info_parts H7
 refine callsIn_of_wp_marks Tryz.func222 rfl trivial ?_ rfl
 simp only[Tryz.ntmps222,List.size_toArray,List.length_cons,List.length_nil,Nat.reduceAdd,Nat.reduceSub,Array.replicate_succ,Array.replicate_zero,List.push_toArray,List.append_toArray,List.nil_append,List.cons_append]
 gi_wp2_with (refine⟨trivial,?_⟩;gi_at_call 244;refine(zh _ _ _).mono ?_;rintro e w' ⟨rfl,rfl⟩)
 have bT:((w.alloc (.cells #[.slice Ag ng cg,.slice At nt ct] 38)).heap[w.heap.size]?)=some (.cells #[.slice Ag ng cg,.slice At nt ct] 38 (0,0)):=World.alloc_heap_new _ _
 obtain⟨w1,rW⟩:∃w1,w.alloc (.cells #[.slice Ag ng cg,.slice At nt ct] 38)=w1:=⟨_,rfl⟩
 have OU:w1.heap.size=w.heap.size+1:=by rw[<-rW];simp
 have zW:Below w.heap.size w w1:=by rw[<-rW];exact(Below.refl _ w).alloc (Nat.le_refl _) _
 rw[rW]at bT ⊢
 clear rW
 have bA:=Boxed.new w1 41 (.slice A l.length cp)
 have bO:=Boxed.new (w1.alloc (.cells #[.slice A l.length cp] 41)) 226 (.slice none 0 0)
 have bN:=Boxed.new ((w1.alloc (.cells #[.slice A l.length cp] 41)).alloc (.cells #[.slice none 0 0] 226)) 41 (.slice A l.length cp)
 replace bA:=(bA.alloc (.cells #[.slice none 0 0] 226)).alloc (.cells #[.slice A l.length cp] 41)
 replace bO:=bO.alloc (.cells #[.slice A l.length cp] 41)
 simp only[World.size_alloc,OU]at bA bO bN
 have pc:Below w1.heap.size w1 (((w1.alloc (.cells #[.slice A l.length cp] 41)).alloc (.cells #[.slice none 0 0] 226)).alloc (.cells #[.slice A l.length cp] 41)):=(((Below.refl _ w1).alloc (Nat.le_refl _) _).alloc (by simp) _).alloc (by simp;omega) _
 have e9:(((w1.alloc (.cells #[.slice A l.length cp] 41)).alloc (.cells #[.slice none 0 0] 226)).alloc (.cells #[.slice A l.length cp] 41)).heap.size=w.heap.size+4:=by simp;omega
 obtain⟨W0,hW0⟩:∃W0,((w1.alloc (.cells #[.slice A l.length cp] 41)).alloc (.cells #[.slice none 0 0] 226)).alloc (.cells #[.slice A l.length cp] 41)=W0:=⟨_,rfl⟩
 rw[hW0]at bA bO bN pc e9 ⊢
 clear hW0
 have AF:Below w.heap.size w W0:=zW.trans (pc.mono (by omega))
 replace bT:=(pc.block w.heap.size (by omega)).trans bT
 have hP0:o8 W0 (.slice A l.length cp) l:=hP.below AF
 have kl:=Qd hP
 have mo:=pE (s:=s) hA.1
 refine wpIn_rangeFunc_ownH (n:=5) rfl (by omega) (gf:=264) (lb:= #[.pointer (some ⟨w.heap.size+1+1+1,0,none⟩)]) rfl trivial (enters_of Tryz.func264 (by kernel_rfl) rfl)
  (Io l hA.1 (w.heap.size+1+1+1) (5-1) (by omega) (.slice A l.length cp) (gY w.heap.size) kl W0 bN hP0) gY.trans (gY.b (by omega)) (Below.refl _ _) (fun _=>rfl)
  (fun pre W=>((∃v,Boxed W (w.heap.size+1+1) 226 v/\W.ownsRow w.heap.size 246 3 v (np s l pre).length (JP (np s l pre))/\(v=.slice none 0 0↔np s l pre=[]))/\(Boxed W (w.heap.size+1) 41 (.slice A l.length cp)/\W.heap[w.heap.size]? =some (.cells #[.slice Ag ng cg,.slice At nt ct] 38 (0,0))))/\Below w.heap.size w W)
  (fun _ _ _=>False)
  (OwnFrom.and (OwnFrom.and (Own.from (holdsRow_own w.heap.size (w.heap.size+1+1) 226 246 3 (fun pre=>(np s l pre).length) (fun pre=>JP (np s l pre)) (fun pre v=>v=.slice none 0 0↔np s l pre=[])) _) (OwnFrom.and (Own.from (boxed_own _ _ _) _) (Own.from (AI _ _ _ _) _))) (ownFrom_below (Nat.le_refl _) (by omega)))
  (fun _ _ _ _ _ hs _ _=>hs)
  ⟨⟨⟨_,bO,World.ownsRow_nil _ _ _ _,by simp[np]⟩,bA,bT⟩,AF⟩
  (fun x a' W=>∃Bx,w.heap.size+1+1<Bx/\W.heap[Bx]? =some (.cells #[.int .i64 (x.1.1:Int),.int .i64 (x.1.2.1:Int)] 283 (0,0))/\a'={tmps:= #[.agg #[.slice Ag ng cg,.slice At nt ct],.agg #[.slice A l.length cp],.pointer (some ⟨w.heap.size,0,none⟩),.pointer (some ⟨w.heap.size+1,0,none⟩),.slice none 0 0,.pointer (some ⟨w.heap.size+1+1,0,none⟩),.pointer (some ⟨Bx,0,none⟩),.int .i64 x.1.2.2,undef,.agg #[.slice A l.length cp],.func (.func 264) #[] #[.pointer (some ⟨w.heap.size+1+1+1,0,none⟩)],.agg #[.int .i64 (x.1.1:Int),.int .i64 (x.1.2.1:Int)],.int .i64 x.1.2.2,undef,undef,undef,undef,undef,undef,undef,undef,undef,undef,undef,undef,undef,undef,undef,undef,undef,undef,undef,undef,undef,undef,undef,undef,undef,undef,undef,undef,undef],defers:=[]})
  (fun x a' _ X Y row hs hg hr=>by obtain⟨Bx,h1,h2,h3⟩:=hs;exact⟨Bx,h1,AI Bx _ _ _ () X Y row h2 hg (fun r e=>(hr r e).2),h3⟩)
  ?assign ?body ?done ?stop
 case assign=>
  rintro q pre ⟨⟨x0,x1,x2⟩,hx⟩ W K ⟨⟨⟨v,hv,fA,uO⟩,bA1,bT1⟩,hB⟩ hK
  simp only[D9]
  gi_wp2
  exact hK _ _ ((KeepsOthers.alloc _ _).from _) (gY.of ((Below.refl _ W).alloc (Nat.le_refl _) _)) ⟨⟨⟨v,hv.alloc _,fA.alloc _,uO⟩,bA1.alloc _,(Below.heap_alloc _ _ _ (Array.getElem?_eq_some_iff.1 bT1).1).trans bT1⟩,hB.alloc hB.size _⟩ ⟨W.heap.size,hv.lt,World.alloc_heap_new _ _,rfl⟩
 case body=>
  rintro q pre ⟨⟨x0,x1,x2⟩,hx⟩ a' W hq hqr ⟨⟨⟨v,hv,fA,uO⟩,bA1,bT1⟩,hB⟩ ⟨Bx,hBx,bX,rfl⟩ dz
  obtain⟨BY,LP,z7⟩:=hx
  simp only at BY LP z7 bX
  obtain⟨A',c',e',_,hc⟩:=(hP.below hB).sl
  cases e'
  have dn:∃b o,A=some ⟨b,o,none⟩/\W.cell? ⟨b,o+x0*3+2,none⟩=some (.int .i64 (aG l x0).aQ)/\W.cell? ⟨b,o+x1*3+2,none⟩=some (.int .i64 (aG l x1).aQ):=by
   rcases hc with rfl|⟨b,o,rfl,j5⟩
   ·simp at BY
   ·exact⟨b,o,rfl,by rw[Nat.add_assoc];exact(j5 x0 BY).2.2,by rw[Nat.add_assoc];exact(j5 x1 LP).2.2⟩
  obtain⟨b,o,rfl,cP0,cP1⟩:=dn
  have cT0:W.cell? ⟨w.heap.size,0,none⟩=some (.slice Ag ng cg):=by simp[World.cell?,bT1]
  have cT1:W.cell? ⟨w.heap.size,1,none⟩=some (.slice At nt ct):=by simp[World.cell?,bT1]
  have cX0:W.cell? ⟨Bx,0,none⟩=some (.int .i64 (x0:Int)):=by simp[World.cell?,bX]
  have cX1:W.cell? ⟨Bx,1,none⟩=some (.int .i64 (x1:Int)):=by simp[World.cell?,bX]
  have cA:=bA1.cell
  have dP0:W.drew.cell? ⟨b,o+x0*3+2,none⟩=some (.int .i64 (aG l x0).aQ):=cP0
  have dP1:W.drew.cell? ⟨b,o+x1*3+2,none⟩=some (.int .i64 (aG l x1).aQ):=cP1
  have dT0:W.drew.cell? ⟨w.heap.size,0,none⟩=some (.slice Ag ng cg):=cT0
  have dT1:W.drew.cell? ⟨w.heap.size,1,none⟩=some (.slice At nt ct):=cT1
  have dX0:W.drew.cell? ⟨Bx,0,none⟩=some (.int .i64 (x0:Int)):=cX0
  have dX1:W.drew.cell? ⟨Bx,1,none⟩=some (.int .i64 (x1:Int)):=cX1
  have dA:W.drew.cell? ⟨w.heap.size+1,0,none⟩=some (.slice (some ⟨b,o,none⟩) l.length cp):=cA
  have rU:∀i,i<l.length->aG l i∈l:=fun i hi=>by
   unfold aG
   rw[List.getD_eq_getElem?_getD,List.getElem?_eq_getElem hi]
   exact List.getElem_mem hi
  have SM:=mixed
  have hfw:=hA.1.sH
  have Q5:=Hg s hF (aG l x0).aQ x2 (aG l x1).aQ (hA.2 _ (rU x0 BY)) (hA.2 _ (rU x1 LP)) (jg (by omega))
  have hTW:js Tryz.prog W (fun b=>b<w.heap.size) (.agg (ab s)) (.agg #[.slice Ag ng cg,.slice At nt ct]):=hT.frame (fun b hb=>hB.block b hb) (fun _ h=>h)
  have hAW:js Tryz.prog W (fun b=>b<w.heap.size) (.sl (l.map ad)) (.slice (some ⟨b,o,none⟩) l.length cp):=hP.eF.frame (fun b hb=>hB.block b hb) (fun _ h=>h)
  obtain⟨fT,hT0,hT1⟩:∃f:Nat->Value,(∀j,j<(ab s).length->(#[Value.slice Ag ng cg,.slice At nt ct])[j]? =some (f j))/\∀j a,(ab s)[j]? =some a->js Tryz.prog W (fun b=>b<w.heap.size) a (f j):=by
   cases hTW with
   |agg _ _ f _ _ h3 h4=>exact⟨f,h3,h4⟩
  have dc:St Tryz.prog W.heap.size 42 (fun b=>b<w.heap.size) (Hj w.heap.size Bx) (Mn s l x0 x1 x2) ⟨Lr s l x0 x1,1⟩ {tmps:= #[.agg #[.slice Ag ng cg,.slice At nt ct],.agg #[.slice (some ⟨b,o,none⟩) l.length cp],.pointer (some ⟨w.heap.size,0,none⟩),.pointer (some ⟨w.heap.size+1,0,none⟩),.slice none 0 0,.pointer (some ⟨w.heap.size+1+1,0,none⟩),.pointer (some ⟨Bx,0,none⟩),.int .i64 x2,undef,.agg #[.slice (some ⟨b,o,none⟩) l.length cp],.func (.func 264) #[] #[.pointer (some ⟨w.heap.size+1+1+1,0,none⟩)],.agg #[.int .i64 (x0:Int),.int .i64 (x1:Int)],.int .i64 x2,undef,undef,undef,undef,undef,undef,undef,undef,undef,undef,undef,undef,undef,undef,undef,undef,undef,undef,undef,undef,undef,undef,undef,undef,undef,undef,undef,undef,undef],defers:=[]} W:=by
   have n1:(Hj w.heap.size Bx) ⟨1,0⟩=some ⟨w.heap.size,2,2,none⟩:=rfl
   have n2:(Hj w.heap.size Bx) ⟨2,0⟩=some ⟨w.heap.size+1,1,1,none⟩:=rfl
   have n3:(Hj w.heap.size Bx) ⟨3,0⟩=some ⟨w.heap.size+1+1,1,1,none⟩:=rfl
   have n4:(Hj w.heap.size Bx) ⟨4,0⟩=some ⟨Bx,2,2,none⟩:=rfl
   have n5:(Hj w.heap.size Bx) ⟨5,0⟩=some ⟨w.heap.size+1+1+1,1,1,none⟩:=rfl
   have rp:∀(id:Id) (B:rz),(Hj w.heap.size Bx) id=some B->B.k=none->cq Tryz.prog W (fun b=>b<w.heap.size) (Hj w.heap.size Bx) (.ptr id 0 0) (.pointer (some ⟨B.b,0,none⟩)):=fun id B h hk=>by
    have:=cq.ptr (P:=Tryz.prog) (w:=W) (D:=fun b=>b<w.heap.size) id 0 0 B h hk
    simpa using this
   have ri:∀n:Int,cq Tryz.prog W (fun b=>b<w.heap.size) (Hj w.heap.size Bx) (.int .i64 n) (.int .i64 n):=fun n=>.eF _ _ (.int _ _)
   have hA1:js Tryz.prog W (fun b=>b<w.heap.size) (.agg [.sl (l.map ad)]) (.agg #[.slice (some ⟨b,o,none⟩) l.length cp]):=.agg _ _ (fun _=>.slice (some ⟨b,o,none⟩) l.length cp) rfl (fun a ha=>by simp at ha;rw[ha];rfl) (fun j hj=>by match j,hj with|0,_=>rfl|j+1,hj=>simp at hj) (fun j a ha=>by match j,ha with|0,ha=>simp at ha;subst ha;exact hAW|j+1,ha=>simp at ha)
   refine⟨⟨Nat.le_refl _,fun b hb=>Nat.lt_of_lt_of_le hb hB.size,fun id r hg=>?_,fun id jJ r r' B B' h _ hw=>?_⟩,fun id hid=>?_,fun t=>?_,rfl⟩
   ·replace hg:Lr s l x0 x1 id=some r:=hg
    unfold Lr at hg
    split at hg
    ·rename_i e;subst e;injection hg with hg;subst hg
     exact⟨_,n1,Dq (cs:=ab s) rfl bT1 rfl rfl rfl (fun a ha=>by simp[ab]at ha;rcases ha with rfl|rfl<;>rfl) (fun j a ha=>⟨_,hT0 j (List.getElem?_eq_some_iff.1 ha).1,.eF _ _ (hT1 j a ha)⟩),fun h=>(by cases h),fun h=>(by cases h)⟩
    ·split at hg
     ·rename_i e;subst e;injection hg with hg;subst hg
      exact⟨_,n2,Dq (cs:=[.sl (l.map ad)]) rfl bA1 rfl rfl rfl (fun a ha=>by simp at ha;rw[ha];rfl) (fun j a ha=>by match j,ha with|0,ha=>simp at ha;subst ha;exact⟨_,rfl,.eF _ _ hAW⟩|j+1,ha=>simp at ha),fun h=>(by cases h),fun h=>(by cases h)⟩
     ·split at hg
      ·rename_i e;subst e;injection hg with hg;subst hg
       exact⟨_,n4,Dq (cs:=[.int .i64 (x0:Int),.int .i64 (x1:Int)]) rfl bX rfl rfl rfl (fun a ha=>by simp at ha;rcases ha with rfl|rfl<;>rfl) (fun j a ha=>by match j,ha with|0,ha=>simp at ha;subst ha;exact⟨_,rfl,ri _⟩|1,ha=>simp at ha;subst ha;exact⟨_,rfl,ri _⟩|j+2,ha=>simp at ha),fun h=>(by cases h),fun h=>(by cases h)⟩
      ·cases hg
   ·exfalso
    replace h:Lr s l x0 x1 id=some r:=h
    unfold Lr at h
    split at h
    ·injection h with h;subst h;cases hw
    ·split at h
     ·injection h with h;subst h;cases hw
     ·split at h
      ·injection h with h;subst h;cases hw
      ·cases h
   ·left
    unfold Hj at hid
    repeat' (split at hid)
    all_goals first|(rename_i e;subst e;exact Nat.zero_lt_one)|exact absurd rfl hid
   ·match t with
    |0=>exact .eF _ _ hTW
    |1=>exact .eF _ _ hA1
    |2=>exact rp _ _ n1 rfl
    |3=>exact rp _ _ n2 rfl
    |4=>exact .eF _ _ .cj
    |5=>exact rp _ _ n3 rfl
    |6=>exact rp _ _ n4 rfl
    |7=>exact ri _
    |8=>exact cq.undef
    |9=>exact .eF _ _ hA1
    |10=>exact .fn _ _ _ (fun _=>.pointer (some ⟨w.heap.size+1+1+1,0,none⟩)) (by kernel_rfl) rfl (fun j hj=>by match j,hj with|0,_=>rfl|j+1,hj=>simp at hj) (fun j a ha=>by match j,ha with|0,ha=>simp at ha;subst ha;exact rp _ _ n5 rfl|j+1,ha=>simp at ha)
    |11=>exact .agg _ _ (fun j=>if j=0 then .int .i64 (x0:Int)else .int .i64 (x1:Int)) rfl (fun a ha=>by simp at ha;rcases ha with rfl|rfl<;>rfl) (fun j hj=>by match j,hj with|0,_=>rfl|1,_=>rfl|j+2,hj=>simp at hj;omega) (fun j a ha=>by match j,ha with|0,ha=>simp at ha;subst ha;exact ri _|1,ha=>simp at ha;subst ha;exact ri _|j+2,ha=>simp at ha)
    |12=>exact ri _
    |13=>exact cq.undef
    |14=>exact cq.undef
    |15=>exact cq.undef
    |16=>exact cq.undef
    |17=>exact cq.undef
    |18=>exact cq.undef
    |19=>exact cq.undef
    |20=>exact cq.undef
    |21=>exact cq.undef
    |22=>exact cq.undef
    |23=>exact cq.undef
    |24=>exact cq.undef
    |25=>exact cq.undef
    |26=>exact cq.undef
    |27=>exact cq.undef
    |28=>exact cq.undef
    |29=>exact cq.undef
    |30=>exact cq.undef
    |31=>exact cq.undef
    |32=>exact cq.undef
    |33=>exact cq.undef
    |34=>exact cq.undef
    |35=>exact cq.undef
    |36=>exact cq.undef
    |37=>exact cq.undef
    |38=>exact cq.undef
    |39=>exact cq.undef
    |40=>exact cq.undef
    |41=>exact cq.undef
    |t+42=>exact cq.undef
  have hV:wpOps (Call Tryz.prog) true ?vl (fun e _=>e 5=.ptr ⟨3,0⟩ 0 0/\e 6=.ptr ⟨4,0⟩ 0 0/\e 8=.int .i64 (gJ s (aG l x0).aQ x2 (aG l x1).aQ)) (Mn s l x0 x1 x2) ⟨Lr s l x0 x1,1⟩:= ?hv
  gi_wp2
  refine zq mixed (rrE (nt:=42) (site0:=222005000)) (Iq (by kernel_rfl)) (kQ (fun _ _ _ _ h=>fR mixed h) km (fun _ _ h=>h) _ _ _ hV) dc ?_
  rintro e1 σ1 ⟨tm,df⟩ w3 D1 ι1 ⟨h5,h6,h8⟩ T1 rG CI
  case hv=>
   refine Dg ?_
   have e0:=fm BY
   have e1:=fm LP
   (repeat(first|((repeat(revert hN;revert N;apply Pn.out));refine wk (tw @e0 (tw @e1 (tw @Mn.eq_1 (tw @Lr.eq_1 (tw @ad.eq_1 @ab.eq_1))))) ?_;(repeat(refine Pn.mk ?_;intro N hN)))|((try apply Or.inl);refine⟨_,ao.x (Q5) (sd (tw @e0 (tw @e1 (tw @Mn.eq_1 (tw @Lr.eq_1 (tw @ad.eq_1 @ab.eq_1)))))),?_⟩;refine hN _ _ ?_;clear hN N)))
   exact⟨sd @Mn.eq_1,sd @Mn.eq_1,sd @Mn.eq_1⟩
  ·have AG:Below W.heap.size W w3:=T1.below
   have z6:∀id B,Hj w.heap.size Bx id=some B->ι1 id=some B:=T1.names
   have p5:tm.getD 5 undef=.pointer (some ⟨w.heap.size+1+1,0,none⟩):=by
    have g:=rG.env 5
    rw[h5]at g
    obtain⟨B,e,hB,_⟩:=ir g
    have h:=z6 ⟨3,0⟩ ⟨w.heap.size+1+1,1,1,none⟩ rfl
    rw[h]at hB;injection hB with hB;subst hB
    simpa using e
   have p6:tm.getD 6 undef=.pointer (some ⟨Bx,0,none⟩):=by
    have g:=rG.env 6
    rw[h6]at g
    obtain⟨B,e,hB,_⟩:=ir g
    have h:=z6 ⟨4,0⟩ ⟨Bx,2,2,none⟩ rfl
    rw[h]at hB;injection hB with hB;subst hB
    simpa using e
   have p8:tm.getD 8 undef=.int .i64 (gJ s (aG l x0).aQ x2 (aG l x1).aQ):=by
    have g:=rG.env 8
    rw[h8]at g
    exact dp g
   have e9:=rG.size
   obtain⟨tl⟩:=tm
   obtain⟨f,JG,hf⟩:∃f:Nat->Value,tl=[f 0,f 1,f 2,f 3,f 4,f 5,f 6,f 7,f 8,f 9,f 10,f 11,f 12,f 13,f 14,f 15,f 16,f 17,f 18,f 19,f 20,f 21,f 22,f 23,f 24,f 25,f 26,f 27,f 28,f 29,f 30,f 31,f 32,f 33,f 34,f 35,f 36,f 37,f 38,f 39,f 40,f 41]/\∀i,f i=(⟨tl⟩:Array Value).getD i undef:=by
    refine⟨fun i=>(⟨tl⟩:Array Value).getD i undef,?_,fun _=>rfl⟩
    have h:=Ih tl undef
    rw[show tl.length=42 from e9]at h
    exact h
   rw[<-hf]at p5 p6 p8
   have Sw:df=[]:=CI
   subst Sw
   clear hf rG dc hV
   subst JG
   rw[p5,p6,p8]
   have Ru:=hv.kept (grown_of AG) (by simp)
   have Eo:=fA.kept (grown_of AG) (by rcases fA.2 with⟨e,_⟩|⟨_,_,_,e,_⟩<;>rw[e]<;>simp[Value.ownBlock])
   have hc3:=Ru.cell
   have SR:w.heap.size<=w3.heap.size:=Nat.le_trans hB.size AG.size
   have eX0:w3.cell? ⟨Bx,0,none⟩=some (.int .i64 (x0:Int)):=(AG.cell (p:=⟨Bx,0,none⟩) (Array.getElem?_eq_some_iff.1 bX).1).trans cX0
   have eX1:w3.cell? ⟨Bx,1,none⟩=some (.int .i64 (x1:Int)):=(AG.cell (p:=⟨Bx,1,none⟩) (Array.getElem?_eq_some_iff.1 bX).1).trans cX1
   have l9:(np s l pre).length<=2097152:=by
    have h1:=Hd s l pre
    have h2:=Bm l l.length
    omega
   have hKF:KeepsFrom (w.heap.size+4) W w3:=⟨AG.size,fun k o _ hk _=>(AG.block k (Array.getElem?_eq_some_iff.1 hk).1).trans hk⟩
   have hKT:gY w.heap.size W w3:=gY.of AG
   have RS:w3.heap[w.heap.size+1]? = _:=(AG.block _ bA1.lt).trans bA1
   have RT:=(AG.block _ (Array.getElem?_eq_some_iff.1 bT1).1).trans bT1
   by_cases k5:0<gJ s (aG l x0).aQ x2 (aG l x1).aQ
   ·have tj:np s l (pre++[⟨(x0,x1,x2),BY,LP,z7⟩])=np s l pre++[⟨x0,x1,gJ s (aG l x0).aQ x2 (aG l x1).aQ⟩]:=by
     rw[xh];simp only[yq,if_pos k5]
    gi_wp2_with (gi_at_builtin;refine wpListIn_append_own _ rfl _ _ 226 rfl w.heap.size 246 i0 (.agg #[.int .i64 0,.int .i64 0,.int .i64 0]) 3 24 (by kernel_rfl) hi LR tM kh rfl (by decide) _ _ _ rfl (Eo.alloc _) ⟨w3.heap.size,0,none⟩ 1 1 [.int .i64 (x0:Int),.int .i64 (x1:Int),.int .i64 (gJ s (aG l x0).aQ x2 (aG l x1).aQ)] rfl rfl (ur _ _ _ _ _) (by simp[Value.oneCell']) (by unfold maxLen;omega) (by omega) (by simp;omega) ?_;intro v' w4 LH Ek _;obtain⟨g',cap',rfl⟩:=ownsRow_succ LH;obtain⟨xH,Nu,Kl,uM,HF⟩:=Ru.appended (by decide) Eo SR (by omega) LH Ek;have Ke:=gY.app Ru Eo Ek HF;have pr:=xH.cell;have hf1:=xH.frozen)
    exact⟨hKF.trans (uM.from _),hKT.trans Ke,⟨⟨_,Nu,by rw[tj,Hc,List.length_append];exact Kl,by rw[tj];simp⟩,(Ke.2.1 _ _ _ _ RS (by decide) (by decide)).trans RS,(Ke.2.1 _ _ _ _ RT (by decide) (by decide)).trans RT⟩,hB.trans ((AG.mono hB.size).trans HF)⟩
   ·have tj:np s l (pre++[⟨(x0,x1,x2),BY,LP,z7⟩])=np s l pre:=by
     rw[xh];simp only[yq,if_neg k5,List.append_nil]
    gi_wp2
    exact⟨hKF,hKT,⟨⟨v,Ru,by rw[tj];exact Eo,by rw[tj];exact uO⟩,RS,RT⟩,hB.trans (AG.mono hB.size)⟩
 case done=>
  rintro D ys W hD Et ⟨⟨⟨v,hv,fA,uO⟩,_⟩,hB⟩ hK
  have hc:=hv.cell
  have Ju:np s l ys=cu s l:=by rw[Hi,<-Et];rfl
  rw[Ju]at fA uO
  gi_wp2
  refine⟨by simp,.inl ⟨_,_,rfl,run_takeDeferred hK,?_⟩⟩
  exact⟨_,results_tmp rfl _ _ _,v,rfl,ownsRow_putObj fA _ hK rfl,uO,hB.trans (belowK_b (w:=w) (Nat.le_refl _) W D _ _ (by omega) hK rfl rfl)⟩
 case stop=>
  rintro D c pre W _ _ h _
  exact h.elim
end Go.Proofs.YtgoelphibofcmaaGreat.V

namespace Go.Proofs.YtgoelphibofcmaaGreat.V
open Go.RowKit Go.Shelf
theorem DY:∀{bs:List PB} {i j:Nat} {b:PB},bs[i]? =some b->j<3->(JP bs)[i*3+j]? =([.int .i64 b.a,.int .i64 b.b,.int .i64 b.s]:List Value)[j]?
 |c::bs,0,j,b,h,hj=>by
  simp at h;subst h
  simp only[JP,List.flatMap_cons,Nat.zero_mul,Nat.zero_add]
  rw[List.getElem?_append_left (by simpa using hj)]
 |c::bs,i+1,j,b,h,hj=>by
  simp only[List.getElem?_cons_succ]at h
  have:=DY (bs:=bs) (i:=i) (j:=j) h hj
  simp only[JP,List.flatMap_cons]at this ⊢
  rw[List.getElem?_append_right (by simp;omega),<-this]
  congr 1
  simp;omega
theorem qG {P:Program} {w:World} {D:Nat->Prop} {rows:List (List AV)} {v:Value} (h:js P w D (.sl rows) v):∃A n c,v=.slice A n c:=by
 cases h with
 |z8 a c _=>exact⟨_,_,_,rfl⟩
 |sl=>exact⟨_,_,_,rfl⟩
theorem qf {P:Program} {w:World} {D:Nat->Prop} {ι:Names} {rows:List (List AV)} {v:Value} (h:cq P w D ι (.sl rows) v):js P w D (.sl rows) v:=by
 cases h with
 |eF _ _ h=>exact h
theorem KR {P:Program} {w:World} {D:Nat->Prop} {l:List ae} {v:Value} (h:js P w D (.sl (l.map ad)) v):o8 w v l:=by
 generalize hr:l.map ad=rows at h
 cases h with
 |z8 a c hc=>
  have:l=[]:=by simpa using hr
  subst this
  exact⟨a,c,rfl,⟨Nat.zero_le _,hc⟩,.inl rfl⟩
 |sl _ b o n c sz vs h1 h2 h3 h4 h5 h5' h6 h7=>
  have hn:n=l.length:=by rw[<-h1,<-hr];simp
  subst hn
  refine⟨some ⟨b,o,none⟩,c,rfl,⟨h2,h3⟩,?_⟩
  by_cases hl:l=[]
  ·exact .inl hl
  refine .inr ⟨b,o,rfl,fun i hi=>?_⟩
  have hg:rows[i]? =some (ad (aG l i)):=by rw[<-hr];exact fm hi
  have e9:sz=3:=by rw[<-h5 _ (List.mem_of_getElem? hg)];rfl
  subst e9
  have k:∀(j:Nat) (x:Int),(ad (aG l i))[j]? =some (.int .i64 x)->j<3->w.cell? ⟨b,o+(i*3+j),none⟩=some (.int .i64 x):=fun j x hj h3=>by
   have:=h7 i j _ _ hg hj
   rw[h6 i j hi h3,dp (.eF (ι:=fun _=>none) _ _ this)]
  exact⟨k 0 _ rfl (by omega),k 1 _ rfl (by omega),k 2 _ rfl (by omega)⟩
theorem Mm:B3:=by
 intro s l hS hA n
 refine gz ?_
 intro hs D ι w vs S U A
 obtain⟨u0,Rt,r0⟩:=A.2 0 _ rfl
 obtain⟨u1,P5,r1⟩:=A.2 1 _ rfl
 have dz:∀b,D b->b<w.heap.size:=S.dead
 obtain⟨v0,f0,rfl,LR,_,Q9,OL⟩:=iF r0
 obtain⟨v1,f1,rfl,tM,_,hf1,Kk⟩:=iF r1
 have g0:=qf (OL 0 _ rfl)
 have g1:=qf (OL 1 _ rfl)
 have a0:=qf (Kk 0 _ rfl)
 obtain⟨Ag,ng,cg,eg⟩:=qG g0
 obtain⟨At,nt,ct,et⟩:=qG g1
 have e0:v0= #[.slice Ag ng cg,.slice At nt ct]:=by
  obtain⟨vl⟩:=v0
  have q0:=Q9 0 (by simp[ab])
  have q1:=Q9 1 (by simp[ab])
  rw[eg]at q0;rw[et]at q1
  match vl,LR with
  |[a,b],_=>simp at q0 q1;rw[q0,q1]
 have e1:v1= #[f1 0]:=by
  obtain⟨vl⟩:=v1
  have q0:=hf1 0 (by simp)
  match vl,tM with
  |[a],_=>simp at q0;rw[q0]
 subst e0 e1
 have evs:vs= #[.agg #[.slice Ag ng cg,.slice At nt ct],.agg #[f1 0]]:=by
  obtain⟨vl⟩:=vs
  have hz:=A.1
  match vl,hz with
  |[a,b],_=>simp at Rt P5;rw[Rt,P5]
 subst evs
 have up:∀{a v},js Tryz.prog w D a v->js Tryz.prog w (fun b=>b<w.heap.size) a v:=fun h=>h.frame (fun _ _=>rfl) dz
 have hT:js Tryz.prog w (fun b=>b<w.heap.size) (.agg (ab s)) (.agg #[.slice Ag ng cg,.slice At nt ct]):=
  .agg _ _ f0 LR (fun a ha=>by simp[ab]at ha;rcases ha with rfl|rfl<;>rfl) Q9 (fun j a ha=>by
   match j,ha with
   |0,ha=>simp[ab]at ha;subst ha;exact up g0
   |1,ha=>simp[ab]at ha;subst ha;exact up g1
   |j+2,ha=>simp[ab]at ha)
 refine(callsIn_wide.1 (Hh s l hS.form hA w Ag At ng cg nt ct (f1 0) hT (KR a0))).mono ?_
 rintro e W' ⟨v,rfl,⟨hl,hown⟩,uO,hB⟩
 have S':fU Tryz.prog hs D ι (fun _=>none) W':=S.stay (fun b hb=>hB.block b hb) hB.size (fun _ h=>h) (fun b hb=>Nat.lt_of_lt_of_le (dz b hb) hB.size) (fun _ h=>.inl h) (fun _ _ h=>h)
 have T:Step hs D ι w D ι W':=Step.stay S (fun b hb=>hB.block b hb) hB.size hB.os hB.tape hB.output (fun _ h=>h) (fun _ h=>.inl h) (fun _ _ h=>h)
 rcases hown with⟨rfl,h0⟩|⟨gb,cap,cur,rfl,PK,hblk,hle,HG,dn,mZ⟩
 ·have Pq:cu s l=[]:=uO.1 rfl
  exact⟨.cj,_,n,D,ι,_,rfl,⟨.cj,kr _ _,by rw[Pq];rfl⟩,T,S',U,Nat.le_refl _,.eF _ _ .cj⟩
 ·have Pq:cu s l≠[]:=fun h=>by have:=uO.2 h;cases this
  have jq:ι ⟨0,n⟩=none:=fresh U (fun h=>h)
  have gp:∀{a v},cq Tryz.prog W' D ι a v->cq Tryz.prog W' D (ke ι ⟨0,n⟩ ⟨gb,3,cap*3,none⟩) a v:=fun h=>h.frame (fun _ _=>rfl) (fun _ h=>h) (eY jq)
  have hR:gq Tryz.prog W' D (ke ι ⟨0,n⟩ ⟨gb,3,cap*3,none⟩) ⟨gb,3,cap*3,none⟩ ⟨true,3,(cu s l).map ay⟩:=by
   refine lf.obj ⟨rfl,⟨cur,_,hblk,dn⟩,?_,fun cs hc=>?_,fun cs hc a ha=>?_,fun i j cs a hi hj=>?_⟩ rfl
   ·simp only[List.length_map];exact Nat.mul_le_mul_right 3 hle
   ·obtain⟨b,_,rfl⟩:=List.mem_map.1 hc;rfl
   ·obtain⟨b,_,rfl⟩:=List.mem_map.1 hc
    simp[ay]at ha
    rcases ha with rfl|rfl|rfl<;>rfl
   ·rw[List.getElem?_map]at hi
    simp only[Option.map_eq_some_iff]at hi
    obtain⟨b,hb,rfl⟩:=hi
    have hj3:j<3:=by have:=(List.getElem?_eq_some_iff.1 hj).1;simpa[ay]using this
    have ly:=(List.getElem?_eq_some_iff.1 hb).1
    have hg:=DY hb hj3
    rw[<-mZ,List.getElem?_take,if_pos (by omega)]at hg
    have key:∀x:Value,([.int .i64 b.a,.int .i64 b.b,.int .i64 b.s]:List Value)[j]? =some x->W'.cell? ⟨gb,i*3+j,none⟩=some x:=fun x hx=>by
     rw[hx]at hg
     have e:W'.cell? ⟨gb,i*3+j,none⟩=cur[i*3+j]? :=by
      unfold World.cell?
      rw[show W'.heap[(⟨gb,i*3+j,none⟩:Addr).block]? = _ from hblk]
      rfl
     rw[e,<-Array.getElem?_toList];exact hg
    match j,hj with
    |0,hj=>simp[ay]at hj;subst hj;exact⟨_,key _ rfl,.eF _ _ (.int _ _)⟩
    |1,hj=>simp[ay]at hj;subst hj;exact⟨_,key _ rfl,.eF _ _ (.int _ _)⟩
    |2,hj=>simp[ay]at hj;subst hj;exact⟨_,key _ rfl,.eF _ _ (.int _ _)⟩
    |j+3,hj=>simp[ay]at hj
  have S2:=fU.add (r:=⟨true,3,(cu s l).map ay⟩) S S' jq PK hR
  refine⟨.own ⟨0,n⟩ 0 (cu s l).length,bB (fun _=>none) ⟨0,n⟩ ⟨true,3,(cu s l).map ay⟩,n+1,D,ke ι ⟨0,n⟩ ⟨gb,3,cap*3,none⟩,_,rfl,⟨zz (cu s l),?_,rfl⟩,T.trans (Step.stay S' (fun _ _=>rfl) (Nat.le_refl _) rfl rfl rfl (fun _ h=>h) (fun _ h=>.inl h) (eY jq)),S2,U.upd.next,Nat.le_succ _,.own _ _ _ _ _ _ (dH _ _ _) rfl hle (.inr (by simp)) (by simp) HG⟩
  unfold zz
  rw[if_neg Pq]
  have hg:(bB (fun _=>none) (⟨0,n⟩:Id) ⟨true,3,(cu s l).map ay⟩:Rows) ⟨0,n⟩=some ⟨true,3,(cu s l).map ay⟩:=by simp[bB]
  have:=gu (n:=5) hg rfl fun b=>tD _ 4 b
  simpa using this
end Go.Proofs.YtgoelphibofcmaaGreat.V

namespace Go.Proofs.YtgoelphibofcmaaGreat.V
open Go.RowKit
attribute [local irreducible] dD wpOps gI Call
attribute [local go_sem] aK fW eU gE gy cE upd ck K.av cN AV.cells AV.cell rowOf rowsOf part ld rowAt bB bY dO ev iI bK db eI gr e8 dx eB cZ cY ea ec bQ aY cQ bP cU cR ez eC eA cP bV da ew bL aL cW cF iH bz cK bR aU dh aT dP AV.undef bF bG eh eu dX dY cI eH eK cD eE eD cV cX List.getD_cons_zero List.getD_cons_succ List.getD_nil List.all_cons List.all_nil Bool.and_true Bool.true_and Bool.and_self Bool.not_true Bool.not_false Option.map_some Option.map_none Option.bind_some Option.bind_none List.length_cons List.length_nil List.take_succ_cons List.take_zero List.take_nil List.drop_succ_cons List.drop_zero List.drop_nil List.head?_cons List.map_cons List.map_nil List.getElem?_cons_zero List.getElem?_cons_succ List.cons_append List.nil_append List.append_nil List.length_map List.set_cons_zero List.set_cons_succ Nat.reduceMul eq_self Int.toNat_natCast Int.natCast_nonneg and_self true_and and_true decide_true decide_false Bool.false_eq_true Nat.zero_add Nat.add_zero List.contains_cons List.contains_nil Bool.or_false Bool.false_or beq_self_eq_true Nat.reduceBEq ne_eq not_true_eq_false not_false_eq_true Id.mk.injEq false_and and_false Nat.reduceLT Int.reduceLE Int.reduceLT Int.reduceToNat Int.reduceNeg Int.reduceAdd Nat.le_refl List.length_append beq_true beq_false Bool.not_eq_eq_eq_not or_false false_or dQ aj aq aH bd bE cm aW bc aN bf cL bU
theorem N5 (s:aB) (l:List ae) (p:ai) (t:Int):JJ s l p t=j4 s l p t:=by
 unfold JJ j4
 congr 1
 by_cases h:fH l p=t
 ·simp[h]
 ·have h2:¬t=fH l p:=fun e=>h e.symm
  simp[h,h2]
theorem BL (s:aB) (l:List ae) (p:ai):∀n,(w9 s l p n).head? =((List.range n).find? fun k:Nat=>j4 s l p k).map fun k:Nat=>(⟨p,(k:Int)⟩:ae)
 |0=>by simp[w9]
 |n+1=>by
  have ih:=BL s l p n
  rw[w9,N5,List.range_succ,List.find?_append,Option.map_or,<-ih]
  cases h:j4 s l p (n:Nat)
  ·simp[h]
  ·simp[h,List.head?_append]
theorem BM (s:aB) (l:List ae):∀ps:List ai,(ph s l ps).head? =(ps.find? fun p=>decide (0<=ij s l p)).map fun p=>(⟨p,ij s l p⟩:ae)
 |[]=>by simp[ph]
 |p::ps=>by
  have ih:=BM s l ps
  have h1:=BL s l p s.aC.ah.length
  have e:ph s l (p::ps)=w9 s l p s.aC.ah.length++ph s l ps:=by simp[ph]
  rw[e,List.head?_append,h1,ih,List.find?_cons]
  rcases hf:(List.range s.aC.ah.length).find? fun k:Nat=>j4 s l p k with _|k
  ·have hw:ij s l p= -1:=by rw[ij,hf]
   simp[hw]
  ·have hw:ij s l p=(k:Int):=by rw[ij,hf]
   simp[hw]
theorem Cv (s:aB) (l:List ae):(ph s l (bW s l)).head? =(jY s l).map fun q=>(⟨q.1,q.2⟩:ae):=by
 rw[BM,jY]
 simp[Function.comp_def]
theorem KJ (lb:List ae) (hb:gQ lb) (t:ae):ao Tryz.prog 168 [.agg (ad t),.cr [.sl (lb.map ad)]] (.bool (!decide (fH lb t.aF=t.aQ))):=by
 refine ao.body eG rfl fun hl n0=>?_
 clear hl
 have h:=JN lb t.aF hb.F9 (by have:=hb.sH;omega)
 (repeat(first|((repeat(revert hN;revert N;apply Pn.out));refine wk (tw @ad.eq_1 @aa.eq_1) ?_;(repeat(refine Pn.mk ?_;intro N hN)))|((try apply Or.inl);refine⟨_,ao.x (h) (sd (tw @ad.eq_1 @aa.eq_1)),?_⟩;refine hN _ _ ?_;clear hN N)))
 exact aI (b:= !decide (fH lb t.aF=t.aQ)) (.inl rfl) (sd @Nat.zero_add) (by simp)
theorem B8 (la lb:List ae) (ha:gQ la) (hb:gQ lb):ao Tryz.prog 107 [.agg [.sl (la.map ad)],.agg [.sl (lb.map ad)]] (.bool (kf la lb)):=by
 refine ao.body eG rfl fun hl n0=>?_
 clear hl
 have h1:=rQ la
 have h2:=rQ lb
 rw[rN.2 ha]at h1
 rw[rN.2 hb]at h2
 have h3:ao Tryz.prog 166 [.sl (la.map ad),.fn 168 [.cr [.sl (lb.map ad)]]] (.bool (la.any fun t=> !decide (fH lb t.aF=t.aQ))):=
  kq uz (show ns Tryz.prog 166=some (yO 166 202) by kernel_rfl)
   (show ns Tryz.prog 202=some (pV 202 3 true) by kernel_rfl) la (by have:=ha.sH;omega) _ _ _ rfl (fun g=>by rw[aj,aN,aq];rfl) (fun x _=>KJ lb hb x) fun g=>by rw[aj,aN,aq];rfl
 (repeat(first|((repeat(revert hN;revert N;apply Pn.out));refine wk @Nat.zero_add ?_;(repeat(refine Pn.mk ?_;intro N hN)))|((try apply Or.inl);refine⟨_,ao.x (h1) (sd @Nat.zero_add),?_⟩;refine hN _ _ ?_;clear hN N)|((try apply Or.inl);refine⟨_,ao.x (h2) (sd @Nat.zero_add),?_⟩;refine hN _ _ ?_;clear hN N)|((try apply Or.inl);refine⟨_,ao.x (h3) (sd @Nat.zero_add),?_⟩;refine hN _ _ ?_;clear hN N)))
 exact aI (b:= !(la.any fun t=> !decide (fH lb t.aF=t.aQ))) (.inl rfl) (sd @Nat.zero_add) (by rw[DV];rfl)
theorem yL (s:aB) (l:List ae) (hn:fJ s.aC) (hm:uf s) (hl:l.length<=1048576):ao Tryz.prog 63 [.agg (au s),.agg [.sl (l.map ad)]] (.int .i64 (if qo s l then 0 else 1)):=by
 refine ao.body eG rfl fun mu n0=>?_
 clear mu
 have h1:=wG Mm s hn hm.s.g hm.s.t hm.s.s hm.a
 have h2:=mQ s.aC l hn hm.s.g hm.s.t hm.s.s hl
 cases b1:mK s
 ·rw[b1]at h1
  rw[au]at h1 ⊢
  (repeat(first|((repeat(revert hN;revert N;apply Pn.out));refine wk @Nat.zero_add ?_;(repeat(refine Pn.mk ?_;intro N hN)))|((try apply Or.inl);refine⟨_,ao.x (h1) (sd @Nat.zero_add),?_⟩;refine hN _ _ ?_;clear hN N)))
  exact bx (b:=1) (.inl rfl) (sd @Nat.zero_add) (by simp[qo,b1])
 have eO:qg s.aC=true:=lX.2 (v8.1 b1).set
 rw[b1]at h1
 rw[eO,Bool.true_and]at h2
 rw[au]at h1 ⊢
 rw[ab]at h2
 cases b2:o9 s.aC l
 ·rw[b2]at h2
  (repeat(first|((repeat(revert hN;revert N;apply Pn.out));refine wk @Nat.zero_add ?_;(repeat(refine Pn.mk ?_;intro N hN)))|((try apply Or.inl);refine⟨_,ao.x (h1) (sd @Nat.zero_add),?_⟩;refine hN _ _ ?_;clear hN N)|((try apply Or.inl);refine⟨_,ao.x (h2) (sd @Nat.zero_add),?_⟩;refine hN _ _ ?_;clear hN N)))
  exact bx (b:=1) (.inl rfl) (sd @Nat.zero_add) (by simp[qo,b1,b2])
 ·rw[b2]at h2
  (repeat(first|((repeat(revert hN;revert N;apply Pn.out));refine wk @Nat.zero_add ?_;(repeat(refine Pn.mk ?_;intro N hN)))|((try apply Or.inl);refine⟨_,ao.x (h1) (sd @Nat.zero_add),?_⟩;refine hN _ _ ?_;clear hN N)|((try apply Or.inl);refine⟨_,ao.x (h2) (sd @Nat.zero_add),?_⟩;refine hN _ _ ?_;clear hN N)))
  exact bx (b:=0) (.inl rfl) (sd @Nat.zero_add) (by simp[qo,b1,b2])
theorem yW (s:aB) (l:List ae) (hn:fJ s.aC) (hm:uf s) (hl:l.length<=1048576):ao Tryz.prog 69 [.agg (au s),.agg [.sl (l.map ad)]] (.int .i64 (iQ s l)):=by
 refine ao.body eG rfl fun mu n0=>?_
 clear mu
 have h1:=yL s l hn hm hl
 cases b:qo s l
 ·rw[b]at h1
  rw[au]at h1 ⊢
  (repeat(first|((repeat(revert hN;revert N;apply Pn.out));refine wk @Nat.zero_add ?_;(repeat(refine Pn.mk ?_;intro N hN)))|((try apply Or.inl);refine⟨_,ao.x (h1) (sd @Nat.zero_add),?_⟩;refine hN _ _ ?_;clear hN N)))
  exact bx (b:=1) (.inl rfl) (sd @Nat.zero_add) (by simp[iQ,b])
 obtain⟨hP,hA⟩:=qp.1 b
 have h2:=B8 s.bh.ah l hP.Bw.1 hA.1
 rw[b]at h1
 rw[au]at h1 ⊢
 cases b2:kf s.bh.ah l
 ·rw[b2]at h2
  (repeat(first|((repeat(revert hN;revert N;apply Pn.out));refine wk @Nat.zero_add ?_;(repeat(refine Pn.mk ?_;intro N hN)))|((try apply Or.inl);refine⟨_,ao.x (h1) (sd @Nat.zero_add),?_⟩;refine hN _ _ ?_;clear hN N)|((try apply Or.inl);refine⟨_,ao.x (h2) (sd @Nat.zero_add),?_⟩;refine hN _ _ ?_;clear hN N)))
  exact bx (b:=2) (.inl rfl) (sd @Nat.zero_add) (by simp[iQ,b,b2])
 ·rw[b2]at h2
  (repeat(first|((repeat(revert hN;revert N;apply Pn.out));refine wk @Nat.zero_add ?_;(repeat(refine Pn.mk ?_;intro N hN)))|((try apply Or.inl);refine⟨_,ao.x (h1) (sd @Nat.zero_add),?_⟩;refine hN _ _ ?_;clear hN N)|((try apply Or.inl);refine⟨_,ao.x (h2) (sd @Nat.zero_add),?_⟩;refine hN _ _ ?_;clear hN N)))
  exact bx (b:=0) (.inl rfl) (sd @Nat.zero_add) (by simp[iQ,b,b2])
theorem BP {s:aB} (hP:ue s) {l:List ae} (hW:kf s.bh.ah l=true):l≠[]:=by
 intro e
 subst e
 have h1:=hP.some
 unfold kf at hW
 rw[List.all_eq_true]at hW
 have h2:=hW _ (ig (l:=s.bh.ah) (i:=0) (by omega))
 have h3:=(eb (hP.Bw.2 _ (ig (l:=s.bh.ah) (i:=0) (by omega)))).1
 simp[fH,ek]at h2
 omega
end Go.Proofs.YtgoelphibofcmaaGreat.V

namespace Go.Proofs.YtgoelphibofcmaaGreat.V
open Go.RowKit
attribute [local irreducible] dD wpOps gI Call
attribute [local go_sem] aK fW eU gE gy cE upd ck K.av cN AV.cells AV.cell rowOf rowsOf part ld rowAt bB bY dO ev iI bK db eI gr e8 dx eB cZ cY ea ec bQ aY cQ bP cU cR ez eC eA cP bV da ew bL aL cW cF iH bz cK bR aU dh aT dP AV.undef bF bG eh eu dX dY cI eH eK cD eE eD cV cX List.getD_cons_zero List.getD_cons_succ List.getD_nil List.all_cons List.all_nil Bool.and_true Bool.true_and Bool.and_self Bool.not_true Bool.not_false Option.map_some Option.map_none Option.bind_some Option.bind_none List.length_cons List.length_nil List.take_succ_cons List.take_zero List.take_nil List.drop_succ_cons List.drop_zero List.drop_nil List.head?_cons List.map_cons List.map_nil List.getElem?_cons_zero List.getElem?_cons_succ List.cons_append List.nil_append List.append_nil List.length_map List.set_cons_zero List.set_cons_succ Nat.reduceMul eq_self Int.toNat_natCast Int.natCast_nonneg and_self true_and and_true decide_true decide_false Bool.false_eq_true Nat.zero_add Nat.add_zero List.contains_cons List.contains_nil Bool.or_false Bool.false_or beq_self_eq_true Nat.reduceBEq ne_eq not_true_eq_false not_false_eq_true Id.mk.injEq false_and and_false Nat.reduceLT Int.reduceLE Int.reduceLT Int.reduceToNat Int.reduceNeg Int.reduceAdd Nat.le_refl List.length_append beq_true beq_false Bool.not_eq_eq_eq_not or_false false_or dQ aj aq aH bd bE cm aW bc aN bf cL bU
variable {P:Program}
def nF {α:Type} (R:GA α) (z:Nat) (g:Rows) (a:AV) (xs:List α) (ids:List Id):Prop:=∃o rows is,a=.own o 0 xs.length/\g o=some ⟨true,z,rows⟩/\eR R g rows xs is/\ids=o::is
theorem nF.frame {α:Type} {R:GA α} {z:Nat} {g g':Rows} {a:AV} {xs:List α} {ids:List Id} (ok:yi R z) (h:nF R z g a xs ids) (hf:∀i∈ids,g' i=g i):nF R z g' a xs ids:=by
 obtain⟨o,rows,is,h1,h2,h3,rfl⟩:=h
 exact⟨o,rows,is,h1,(hf o (by simp)).trans h2,h3.frame ok fun i hi=>hf i (by simp[hi]),rfl⟩
theorem nF.fz {α:Type} {R:GA α} {z n:Nat} {e:α->List AV} {g:Rows} {a:AV} {xs:List α} {ids:List Id} (h:nF R z g a xs ids) (hz:∀{cs x ids},R g cs x ids->cG (dQ g) n cs=some (e x)):V.fz (dQ g) (n+1) a=some (.sl (xs.map e)):=by
 obtain⟨o,rows,is,rfl,h2,h3,rfl⟩:=h
 rw[gT]
 simp only[dQ,h2,Option.map_some,if_true]
 rw[if_pos (by rw[h3.len];omega),List.drop_zero,List.take_of_length_le (by rw[h3.len];exact Nat.le_refl _),h3.fz hz];rfl
def sq {α:Type} (e:α->List AV):GA α:=fun _ cs x ids=>cs=e x/\ids=[]
theorem Hy {α:Type} {e:α->List AV} {z:Nat} (hz:∀x,(e x).length=z) (hc:∀x,(e x).all AV.cell=true) (hs:z<qM):yi (sq e) z where
 frame:=fun h _=>h
 len:=fun h=>by rw[h.1];exact hz _
 cell:=fun h=>by rw[h.1];exact hc _
 live:=fun h i hi=>by rw[h.2]at hi;cases hi
 small:=hs
def G4:GA fe:=fun g cs t ids=>∃i,cs=[.str t.aD,.own i 0 t.bI.length]/\g i=some ⟨true,1,t.bI.map bq⟩/\ids=[i]
theorem NV:yi G4 2 where
 frame:=fun⟨i,h1,h2,h3⟩ hf=>⟨i,h1,(hf i (by rw[h3];simp)).trans h2,h3⟩
 len:=fun⟨i,h1,_⟩=>by rw[h1];rfl
 cell:=fun⟨i,h1,_⟩=>by rw[h1];rfl
 live:=fun⟨i,h1,h2,h3⟩ j hj=>by
  rw[h3]at hj
  have:j=i:=by simpa using hj
  subst this
  exact⟨_,h2,rfl,by simp[qM]⟩
 small:=by simp[qM]
theorem K3 {g:Rows} {cs:List AV} {t:fe} {ids:List Id} (n:Nat) (h:G4 g cs t ids):cG (dQ g) (n+2) cs=some (bj t):=by
 obtain⟨i,rfl,h2,_⟩:=h
 have h3:V.fz (dQ g) (n+2) (.own i 0 t.bI.length)=some (.sl (t.bI.map bq)):=ib (e:=bq) (sz:=1) (by simp[dQ,h2]) rfl fun x=>by simp[bq,aj,aq,aH]
 simp only[aj,aq,bE,h3,Option.map_some,bj]
end Go.Proofs.YtgoelphibofcmaaGreat.V

namespace Go.Proofs.YtgoelphibofcmaaGreat.V
open Go.RowKit
attribute [local irreducible] dD wpOps gI Call
attribute [local go_sem] aK fW eU gE gy cE upd ck K.av cN AV.cells AV.cell rowOf rowsOf part ld rowAt bB bY dO ev iI bK db eI gr e8 dx eB cZ cY ea ec bQ aY cQ bP cU cR ez eC eA cP bV da ew bL aL cW cF iH bz cK bR aU dh aT dP AV.undef bF bG eh eu dX dY cI eH eK cD eE eD cV cX List.getD_cons_zero List.getD_cons_succ List.getD_nil List.all_cons List.all_nil Bool.and_true Bool.true_and Bool.and_self Bool.not_true Bool.not_false Option.map_some Option.map_none Option.bind_some Option.bind_none List.length_cons List.length_nil List.take_succ_cons List.take_zero List.take_nil List.drop_succ_cons List.drop_zero List.drop_nil List.head?_cons List.map_cons List.map_nil List.getElem?_cons_zero List.getElem?_cons_succ List.cons_append List.nil_append List.append_nil List.length_map List.set_cons_zero List.set_cons_succ Nat.reduceMul eq_self Int.toNat_natCast Int.natCast_nonneg and_self true_and and_true decide_true decide_false Bool.false_eq_true Nat.zero_add Nat.add_zero List.contains_cons List.contains_nil Bool.or_false Bool.false_or beq_self_eq_true Nat.reduceBEq ne_eq not_true_eq_false not_false_eq_true Id.mk.injEq false_and and_false Nat.reduceLT Int.reduceLE Int.reduceLT Int.reduceToNat Int.reduceNeg Int.reduceAdd Nat.le_refl List.length_append beq_true beq_false Bool.not_eq_eq_eq_not or_false false_or dQ aj aq aH bd bE cm aW bc aN bf cL bU
theorem Pg:yi (sq bZ) 2:=Hy (fun _=>rfl) (fun _=>rfl) (by simp[qM])
theorem Lu:yi (sq ad) 3:=Hy (fun _=>rfl) (fun _=>rfl) (by simp[qM])
def GO (g:Rows) (v:AV) (a:eQ) (ids:List Id):Prop:=∃x,v=.agg [x]/\nF (sq ad) 3 g x a.ah ids
structure G3 (g:Rows) (v:AV) (s:aB) (ids:List Id):Prop where
 ex:∃a b c i1 i2 i3,v=.agg [a,b,c,.int .i64 s.az]/\nF (sq bZ) 2 g a s.aC.aA i1/\nF G4 2 g b s.aC.ah i2/\nF (sq ad) 3 g c s.bh.ah i3/\ids=i1++(i2++i3)
theorem GO.frame {g g':Rows} {v:AV} {a:eQ} {ids:List Id} (h:GO g v a ids) (hf:∀i∈ids,g' i=g i):GO g' v a ids:=by
 obtain⟨x,h1,h2⟩:=h
 exact⟨x,h1,h2.frame Lu hf⟩
theorem G3.frame {g g':Rows} {v:AV} {s:aB} {ids:List Id} (h:G3 g v s ids) (hf:∀i∈ids,g' i=g i):G3 g' v s ids:=by
 obtain⟨a,b,c,i1,i2,i3,h1,h2,h3,h4,rfl⟩:=h.ex
 exact⟨a,b,c,i1,i2,i3,h1,h2.frame Pg fun i hi=>hf i (by simp[hi]),h3.frame NV fun i hi=>hf i (by simp[hi]),h4.frame Lu fun i hi=>hf i (by simp[hi]),rfl⟩
theorem GO.fz {g:Rows} {v:AV} {a:eQ} {ids:List Id} (n:Nat) (h:GO g v a ids):V.fz (dQ g) (n+4) v=some (.agg (aS a)):=by
 obtain⟨x,rfl,h2⟩:=h
 have h3:=h2.fz (n:=n+2) (e:=ad) fun hc=>by rw[hc.1];simp[ad,aj,aq,aH]
 simp only[bc,aj,aq,h3,Option.map_some,aS]
theorem G3.fz {g:Rows} {v:AV} {s:aB} {ids:List Id} (n:Nat) (h:G3 g v s ids):V.fz (dQ g) (n+5) v=some (.agg (au s)):=by
 obtain⟨a,b,c,i1,i2,i3,rfl,h2,h3,h4,rfl⟩:=h.ex
 have q1:=h2.fz (n:=n+3) (e:=bZ) fun hc=>by rw[hc.1];simp[bZ,aj,aq,aH,bE]
 have q2:=h3.fz (n:=n+3) (e:=bj) fun hc=>K3 (n+1) hc
 have q3:=h4.fz (n:=n+3) (e:=ad) fun hc=>by rw[hc.1];simp[ad,aj,aq,aH]
 simp only[bc,aj,aq,q1,q2,q3,aH,Option.map_some,au]
end Go.Proofs.YtgoelphibofcmaaGreat.V

namespace Go.Proofs.YtgoelphibofcmaaGreat
open Go.RowKit
end Go.Proofs.YtgoelphibofcmaaGreat

namespace Go.Proofs.YtgoelphibofcmaaGreat.V
open Go.RowKit
attribute [local irreducible] dD wpOps gI Call
attribute [local go_sem] aK fW eU gE gy cE upd ck K.av cN AV.cells AV.cell rowOf rowsOf part ld rowAt bB bY dO ev iI bK db eI gr e8 dx eB cZ cY ea ec bQ aY cQ bP cU cR ez eC eA cP bV da ew bL aL cW cF iH bz cK bR aU dh aT dP AV.undef bF bG eh eu dX dY cI eH eK cD eE eD cV cX List.getD_cons_zero List.getD_cons_succ List.getD_nil List.all_cons List.all_nil Bool.and_true Bool.true_and Bool.and_self Bool.not_true Bool.not_false Option.map_some Option.map_none Option.bind_some Option.bind_none List.length_cons List.length_nil List.take_succ_cons List.take_zero List.take_nil List.drop_succ_cons List.drop_zero List.drop_nil List.head?_cons List.map_cons List.map_nil List.getElem?_cons_zero List.getElem?_cons_succ List.cons_append List.nil_append List.append_nil List.length_map List.set_cons_zero List.set_cons_succ Nat.reduceMul eq_self Int.toNat_natCast Int.natCast_nonneg and_self true_and and_true decide_true decide_false Bool.false_eq_true Nat.zero_add Nat.add_zero List.contains_cons List.contains_nil Bool.or_false Bool.false_or beq_self_eq_true Nat.reduceBEq ne_eq not_true_eq_false not_false_eq_true Id.mk.injEq false_and and_false Nat.reduceLT Int.reduceLE Int.reduceLT Int.reduceToNat Int.reduceNeg Int.reduceAdd Nat.le_refl List.length_append beq_true beq_false Bool.not_eq_eq_eq_not or_false false_or dQ aj aq aH bd bE cm aW bc aN bf cL bU
def L8 (σ:ar) (ids:List Id) (g:Rows) (n:Nat):Prop:=σ.next<=n/\∀x:Id,x.aZ<σ.next->x∉ids->g x=σ.get x
theorem L8.trans {a b:ar} {i j:List Id} {g:Rows} {n:Nat} (h:L8 a i b.get b.next) (k:L8 b j g n):L8 a (i++j) g n:=
 ⟨Nat.le_trans h.1 k.1,fun x hx hi=>(k.2 x (Nat.lt_of_lt_of_le hx h.1) fun hc=>hi (by simp[hc])).trans (h.2 x hx fun hc=>hi (by simp[hc]))⟩
theorem L8.sub {a:ar} {i j:List Id} {g:Rows} {n:Nat} (h:L8 a i g n) (hs:∀x∈i,x∈j):L8 a j g n:=⟨h.1,fun x hx hj=>h.2 x hx fun hi=>hj (hs x hi)⟩
end Go.Proofs.YtgoelphibofcmaaGreat.V

namespace Go.Proofs.YtgoelphibofcmaaGreat.V
open Go.RowKit
attribute [local irreducible] dD wpOps gI Call
attribute [local go_sem] aK fW eU gE gy cE upd ck K.av cN AV.cells AV.cell rowOf rowsOf part ld rowAt bB bY dO ev iI bK db eI gr e8 dx eB cZ cY ea ec bQ aY cQ bP cU cR ez eC eA cP bV da ew bL aL cW cF iH bz cK bR aU dh aT dP AV.undef bF bG eh eu dX dY cI eH eK cD eE eD cV cX List.getD_cons_zero List.getD_cons_succ List.getD_nil List.all_cons List.all_nil Bool.and_true Bool.true_and Bool.and_self Bool.not_true Bool.not_false Option.map_some Option.map_none Option.bind_some Option.bind_none List.length_cons List.length_nil List.take_succ_cons List.take_zero List.take_nil List.drop_succ_cons List.drop_zero List.drop_nil List.head?_cons List.map_cons List.map_nil List.getElem?_cons_zero List.getElem?_cons_succ List.cons_append List.nil_append List.append_nil List.length_map List.set_cons_zero List.set_cons_succ Nat.reduceMul eq_self Int.toNat_natCast Int.natCast_nonneg and_self true_and and_true decide_true decide_false Bool.false_eq_true Nat.zero_add Nat.add_zero List.contains_cons List.contains_nil Bool.or_false Bool.false_or beq_self_eq_true Nat.reduceBEq ne_eq not_true_eq_false not_false_eq_true Id.mk.injEq false_and and_false Nat.reduceLT Int.reduceLE Int.reduceLT Int.reduceToNat Int.reduceNeg Int.reduceAdd Nat.le_refl List.length_append beq_true beq_false Bool.not_eq_eq_eq_not or_false false_or dQ aj aq aH bd bE cm aW bc aN bf cL bU
theorem nF.flat {α:Type} {e:α->List AV} {z:Nat} {g:Rows} {a:AV} {xs:List α} {ids:List Id} (h:nF (sq e) z g a xs ids):∃o,a=.own o 0 xs.length/\g o=some ⟨true,z,xs.map e⟩/\ids=[o]:=by
 obtain⟨o,rows,is,h1,h2,h3,rfl⟩:=h
 have:∀{rows:List (List AV)} {xs:List α} {is:List Id},eR (sq e) g rows xs is->rows=xs.map e/\is=[]:=fun h=>by
  induction h with
  |nil=>exact⟨rfl,rfl⟩
  |cons h1 _ ih=>obtain⟨rfl,rfl⟩:=h1;obtain⟨rfl,rfl⟩:=ih;exact⟨rfl,rfl⟩
 obtain⟨rfl,rfl⟩:=this h3
 exact⟨o,h1,h2,rfl⟩
end Go.Proofs.YtgoelphibofcmaaGreat.V

namespace Go.Proofs.YtgoelphibofcmaaGreat.V
open Go.RowKit
attribute [local irreducible] dD wpOps gI Call
attribute [local go_sem] aK fW eU gE gy cE upd ck K.av cN AV.cells AV.cell rowOf rowsOf part ld rowAt bB bY dO ev iI bK db eI gr e8 dx eB cZ cY ea ec bQ aY cQ bP cU cR ez eC eA cP bV da ew bL aL cW cF iH bz cK bR aU dh aT dP AV.undef bF bG eh eu dX dY cI eH eK cD eE eD cV cX List.getD_cons_zero List.getD_cons_succ List.getD_nil List.all_cons List.all_nil Bool.and_true Bool.true_and Bool.and_self Bool.not_true Bool.not_false Option.map_some Option.map_none Option.bind_some Option.bind_none List.length_cons List.length_nil List.take_succ_cons List.take_zero List.take_nil List.drop_succ_cons List.drop_zero List.drop_nil List.head?_cons List.map_cons List.map_nil List.getElem?_cons_zero List.getElem?_cons_succ List.cons_append List.nil_append List.append_nil List.length_map List.set_cons_zero List.set_cons_succ eq_self Int.toNat_natCast Int.natCast_nonneg and_self true_and and_true decide_true decide_false Bool.false_eq_true Nat.zero_add Nat.add_zero List.contains_cons List.contains_nil Bool.or_false Bool.false_or beq_self_eq_true ne_eq not_true_eq_false not_false_eq_true Id.mk.injEq false_and and_false Nat.le_refl List.length_append beq_true beq_false Bool.not_eq_eq_eq_not or_false false_or dQ aj aq aH bd bE cm aW bc aN bf cL bU
section
variable {P:Program} {α:Type} {e:α->List AV} {z:Nat} {g g':Rows} {v:AV} {L:List α} {ids:List Id}
def EX (e:α->List AV) (z:Nat) (g:Rows) (v:AV) (L:List α) (ids:List Id):Prop:=(L=[]/\v=.cj/\ids=[])∨∃o,v=.own o 0 L.length/\g o=some ⟨true,z,L.map e⟩/\ids=[o]/\0<L.length
def nlS (e:α->List AV) (L:List α):AV:=if L.length=0 then .cj else .sl (L.map e)
theorem EX.frame (h:EX e z g v L ids) (hf:∀i∈ids,g' i=g i):EX e z g' v L ids:=by
 rcases h with h|⟨o,h1,h2,rfl,hp⟩
 ·exact .inl h
 ·exact .inr ⟨o,h1,(hf o (by simp)).trans h2,rfl,hp⟩
def Aa (e:α->List AV) (L:List α) (w:AV):Prop:=(w=.cj/\L=[])∨w=.sl (L.map e)
theorem EX.fz (h:EX e z g v L ids) (he:∀x g,cG g 5 (e x)=some (e x)):∃w,V.fz (dQ g) 6 v=some w/\Aa e L w:=by
 rcases h with⟨rfl,rfl,_⟩|⟨o,rfl,h2,_⟩
 ·exact⟨.cj,aW _ _,.inl ⟨rfl,rfl⟩⟩
 ·exact⟨_,ib (e:=e) (sz:=z) (by simp[dQ,h2]) rfl fun x=>he x _,.inr rfl⟩
def GX (P:Program) (f:Nat) (args:List AV) (e:α->List AV) (z:Nat) (L:List α) (c:Int):Prop:=
 ∀n:Nat,Call P f args ⟨fun _=>none,n⟩ (fun r σ'=>∃v ids,r=.gx [v,.int .i64 c]/\EX e z σ'.get v L ids/\nH n σ'.next ids)
theorem ES (hm:P.follows .mixedOrders=true) {f:Nat} {args:List AV} {σ:ar} {K:AV->ar->Prop} (h:Call P f args σ K):Call P f args σ (fun r σ'=>K r σ'/\σ.next<=σ'.next):=
 gz fun hs D ι w vs S U A=>(fR hm h hs D ι w vs S U A).mono (by
  rintro e w' ⟨r,g',n',D2,ι1,u,rfl,hK,T,S1,U1,hn,hR⟩
  exact⟨r,g',n',D2,ι1,u,rfl,⟨hK,hn⟩,T,S1,U1,hn,hR⟩)
theorem GX.s {f:Nat} {args:List AV} {c:Int} (he:∀x g,dS g 4 (e x)=some (e x)) (h:GX P f args e z L c):ao P f args (.gx [nlS e L,.int .i64 c]):=fun n=>
 aV _ _ _ _ _ (fun r σ' hq=>by
  obtain⟨v,ids,rfl,ho,hi⟩:=hq
  rcases ho with⟨rfl,rfl,_⟩|⟨o,rfl,h2,_,hp⟩
  ·exact⟨_,by simp only[dM,aP,bt,kr,dC,Option.map_some];rfl,rfl⟩
  ·have:=gu (e:=e) (n:=4) h2 rfl fun x=>he x _
   exact⟨_,by simp only[dM,aP,bt,this,dC,Option.map_some];rfl,by rw[nlS,if_neg (by omega)]⟩) (h n)
end
theorem Aa.two {α:Type} {e:α->List AV} {L:List α} {w:AV} (h:Aa e L w):nD [w] [.sl (L.map e)]:=by
 rcases h with⟨rfl,rfl⟩|rfl
 ·exact .cj .nil
 ·exact .same _ .nil
theorem Aa.cut {α:Type} {e:α->List AV} {L:List α} {w:AV} (h:Aa e L w) {l l':List AV} (hl:nD l l'):nD (w::l) (.sl (L.map e)::l'):=by
 rcases h with⟨rfl,rfl⟩|rfl
 ·exact .cj hl
 ·exact .same _ hl
end Go.Proofs.YtgoelphibofcmaaGreat.V

namespace Go.Proofs.YtgoelphibofcmaaGreat.V
open Go.RowKit
attribute [local irreducible] dD wpOps gI Call
attribute [local go_sem] aK fW eU gE gy cE upd ck K.av cN AV.cells AV.cell rowOf rowsOf part ld rowAt bB bY dO ev iI bK db eI gr e8 dx eB cZ cY ea ec bQ aY cQ bP cU cR ez eC eA cP bV da ew bL aL cW cF iH bz cK bR aU dh aT dP AV.undef bF bG eh eu dX dY cI eH eK cD eE eD cV cX List.getD_cons_zero List.getD_cons_succ List.getD_nil List.all_cons List.all_nil Bool.and_true Bool.true_and Bool.and_self Bool.not_true Bool.not_false Option.map_some Option.map_none Option.bind_some Option.bind_none List.length_cons List.length_nil List.take_succ_cons List.take_zero List.take_nil List.drop_succ_cons List.drop_zero List.drop_nil List.head?_cons List.map_cons List.map_nil List.getElem?_cons_zero List.getElem?_cons_succ List.cons_append List.nil_append List.append_nil List.length_map List.set_cons_zero List.set_cons_succ Nat.reduceMul eq_self Int.toNat_natCast Int.natCast_nonneg and_self true_and and_true decide_true decide_false Bool.false_eq_true Nat.zero_add Nat.add_zero List.contains_cons List.contains_nil Bool.or_false Bool.false_or beq_self_eq_true Nat.reduceBEq ne_eq not_true_eq_false not_false_eq_true Id.mk.injEq false_and and_false Nat.reduceLT Int.reduceLE Int.reduceLT Int.reduceToNat Int.reduceNeg Int.reduceAdd Nat.le_refl List.length_append beq_true beq_false Bool.not_eq_eq_eq_not or_false false_or dQ aj aq aH bd bE cm aW bc aN bf cL bU
theorem Lc (s:aB) (hP:ue s) (l:List ae) (hA:jx s.aC l) (h0:l≠[]) (σ:ar):Call Tryz.prog 70 [.agg (au s),.agg [.sl (l.map ad)]] σ (fun r σ'=>Kept σ σ'/\((ph s l (bW s l)=[]/\r=.cj)∨∃o:Id,r=.own o 0 (ph s l (bW s l)).length/\σ'.get o=some ⟨true,3,(ph s l (bW s l)).map ad⟩/\o.aZ<σ'.next/\0<(ph s l (bW s l)).length)):=by
 refine GR mixed (args':=[.agg (au s),.agg [.sl (l.map ad)]]) (by simp[au,bc,aj,aq,cm,aH]) (aV _ _ _ _ _ (fun r σ' hq=>?_) (ES mixed (K9 s hP l hA h0 ⟨fun _=>none,σ.next⟩)))
 obtain⟨hq,hn⟩:=hq
 (try dsimp only at hq hn)
 rcases hq with⟨h2,rfl⟩|⟨u,rfl,h3,h4,h5,h6,h8⟩
 ·exact⟨[],rfl,fun i hi=>by(cases hi),⟨hn,fun j hj=>oX (g':=σ'.get) (List.not_mem_nil)⟩,.inl ⟨h2,rfl⟩⟩
 ·(try dsimp only at h4)
  refine⟨[u],rfl,fun i hi=>?_,⟨hn,fun j hj=>oX fun hc=>?_⟩,.inr ⟨u,rfl,(wg (by simp)).trans h3,h5,h6⟩⟩
  ·rw[List.mem_singleton.1 hi]
   exact⟨_,h3,rfl,fun cs dn a ha=>by
    obtain⟨x,_,rfl⟩:=List.mem_map.1 dn
    simp[ad]at ha
    rcases ha with rfl|rfl|rfl<;>rfl⟩
  ·rw[List.mem_singleton.1 hc]at hj;omega
theorem yk (s:aB) (l:List ae) (hn:fJ s.aC) (hm:uf s) (hl:l.length<=1048576):ao Tryz.prog 25 [.agg (au s),.agg [.sl (l.map ad)]] (.gx [.agg (nz (hZ s l).1),.int .i64 (hZ s l).2]):=by
 refine ao.body eG rfl fun mu n0=>?_
 clear mu
 have h1:=yW s l hn hm hl
 by_cases h0:iQ s l=0
 ·obtain⟨hP,hA,hW⟩:=xY.1 h0
  have hh:=Cv s l
  rw[h0]at h1
  have hc:=fun σ=>Lc s hP l hA (BP hP hW) σ
  rw[au]at h1 hc ⊢
  rcases hf:jY s l with _|⟨p,t⟩
  ·have hr:hZ s l=(none,3):=by rw[hZ,if_pos h0,hf];rfl
   rw[hr]
   rw[hf]at hh
   have uO:ph s l (bW s l)=[]:=by simpa using hh
   rw[uO]at hc
   (repeat(first|((repeat(revert hN;revert N;apply Pn.out));refine wk @Nat.zero_add ?_;(repeat(refine Pn.mk ?_;intro N hN)))|((try apply Or.inl);refine⟨_,ao.x (h1) (sd @Nat.zero_add),?_⟩;refine hN _ _ ?_;clear hN N)))
   refine .inr (aV _ _ _ _ _ (fun r σ1 hq=>?_) (hc _))
   obtain⟨g1,x1⟩:=σ1
   (try dsimp only at hq)
   obtain⟨hK,hq⟩:=hq
   have k4:=hK.2 ⟨25000002,n0⟩ (by(try dsimp only);omega)
   simp only[go_sem, ↓reduceIte,Nat.reduceEqDiff,Nat.reduceAdd,Nat.reduceSub,Nat.reduceLeDiff,reduceCtorEq]at k4
   refine hN _ _ ?_
   clear hN N
   rcases hq with⟨h2,h3⟩|⟨u,h2,h3,h5,h6⟩
   ·subst h3
    have d0:decide (((0:Nat):Int)=0)=true:=rfl
    (try((repeat(revert hN;revert N;apply Pn.out));refine wk (tw @d0 @k4) ?_;(repeat(refine Pn.mk ?_;intro N hN))))
    exact jU (.inl rfl) (vs:=[.agg [.int .i64 0,.int .i64 0,.int .i64 0],.int .i64 3]) (sd @Nat.zero_add) (by simp only[eT,nz,dM,j8,aP,bt,dU,dC,Option.map_some])
   ·simp at h6
  ·have hr:hZ s l=(some (p,t),0):=by rw[hZ,if_pos h0,hf];rfl
   rw[hr]
   rw[hf]at hh
   obtain⟨L,hL⟩:∃L,ph s l (bW s l)=⟨p,t⟩::L:=by
    rcases hw:ph s l (bW s l)with _|⟨q,L⟩
    ·rw[hw]at hh;cases hh
    ·rw[hw]at hh;simp only[List.head?_cons,Option.map_some,Option.some.injEq]at hh;exact⟨L,by rw[hh]⟩
   rw[hL]at hc
   (repeat(first|((repeat(revert hN;revert N;apply Pn.out));refine wk @Nat.zero_add ?_;(repeat(refine Pn.mk ?_;intro N hN)))|((try apply Or.inl);refine⟨_,ao.x (h1) (sd @Nat.zero_add),?_⟩;refine hN _ _ ?_;clear hN N)))
   refine .inr (aV _ _ _ _ _ (fun r σ1 hq=>?_) (hc _))
   obtain⟨g1,x1⟩:=σ1
   (try dsimp only at hq)
   obtain⟨hK,hq⟩:=hq
   have k4:=hK.2 ⟨25000002,n0⟩ (by(try dsimp only);omega)
   simp only[go_sem, ↓reduceIte,Nat.reduceEqDiff,Nat.reduceAdd,Nat.reduceSub,Nat.reduceLeDiff,reduceCtorEq]at k4
   refine hN _ _ ?_
   clear hN N
   rcases hq with⟨h2,h3⟩|⟨u,h2,h3,h5,h6⟩
   ·cases h2
   ·subst h2
    have vu:=dw h5
    have PI:(List.map ad (⟨p,t⟩::L))[0]? =some [.int .i64 p.eM,.int .i64 p.ep,.int .i64 t]:=rfl
    generalize GJ:List.map ad (⟨p,t⟩::L)=rows at h3 PI
    generalize List.length (⟨p,t⟩::L)=n at h6 ⊢
    have d0:decide ((n:Int)=0)=false:=decide_eq_false (by omega)
    have d1:(0:Int)<(n:Int):=by omega
    (try((repeat(revert hN;revert N;apply Pn.out));refine wk (tw @d0 (tw @d1 (tw @h3 (tw @vu (tw @PI @k4))))) ?_;(repeat(refine Pn.mk ?_;intro N hN))))
    exact jU (.inl rfl) (vs:=[.agg [.int .i64 p.eM,.int .i64 p.ep,.int .i64 t],.int .i64 0]) (sd @Nat.zero_add) (by simp only[eT,nz,dM,j8,aP,bt,dU,dC,Option.map_some])
 ·have hd:decide (iQ s l=0)=false:=decide_eq_false h0
  have hr:hZ s l=(none,iQ s l):=by rw[hZ,if_neg h0]
  rw[hr]
  rw[au]at h1 ⊢
  (repeat(first|((repeat(revert hN;revert N;apply Pn.out));refine wk @hd ?_;(repeat(refine Pn.mk ?_;intro N hN)))|((try apply Or.inl);refine⟨_,ao.x (h1) (sd @hd),?_⟩;refine hN _ _ ?_;clear hN N)))
  exact jU (.inl rfl) (vs:=[.agg [.int .i64 0,.int .i64 0,.int .i64 0],.int .i64 (iQ s l)]) (sd @Nat.zero_add) (by simp only[eT,nz,dM,j8,aP,bt,dU,dC,Option.map_some])
end Go.Proofs.YtgoelphibofcmaaGreat.V

namespace Go.Proofs.YtgoelphibofcmaaGreat
open Go.ChangeShapes Go.WideShapes Go.ChangeAt Go.RowKit Go.Deep
section
variable {H:Type} {enc:TypeId×Value->H} {P:Program} {w:World}
theorem mc.Qi {α:Type} {rep:World->List Nat->List Value->α->Prop} {sz:Nat} {w:World} {b o len cap:Nat} (nO:Nat->List Value) (fs:Nat->List Nat) (ds:Nat->α) (hc:len<=cap) (hm:cap<=maxLen)
  (hl:∀i,i<len->(nO i).length=sz) (hr:∀i,i<len->rep w (fs i) (nO i) (ds i)) (wv:∀i,i<len->∀j u,(nO i)[j]? =some u->w.cell? ⟨b,o+(i*sz+j),none⟩=some u):
  mc rep sz w ([b]++((List.range len).map fs).flatten) (.slice (some ⟨b,o,none⟩) len cap) ((List.range len).map ds):=by
 refine⟨(List.range len).map nO,(List.range len).map fs,[b],rfl,⟨some ⟨b,o,none⟩,cap,by simp,by simpa using hc,hm,.inr ⟨b,o,rfl,rfl,fun j u hj=>?_⟩⟩,by simp,by simp,fun i cs f d h1 h2 h3=>?_⟩
 ·have hlen:∀cs∈(List.range len).map nO,cs.length=sz:=fun cs dn=>by
   obtain⟨i,hi,rfl⟩:=List.mem_map.1 dn
   exact hl i (List.mem_range.1 hi)
  have gw:=(List.getElem?_eq_some_iff.1 hj).1
  have J8:((List.range len).map nO).flatten.length=len*sz:=by
   rw[List.length_flatten,List.map_map]
   have:∀(l:List Nat),(∀i∈l,i<len)->(l.map (List.length∘nO)).sum=l.length*sz:=by
    intro l
    induction l with
    |nil=>intro _;simp
    |cons a l ih=>intro h;rw[List.map_cons,List.sum_cons,ih fun i hi=>h i (List.mem_cons_of_mem _ hi)];simp only[Function.comp,hl a (h a (by simp)),List.length_cons,Nat.add_mul];omega
   rw[this _ fun i hi=>List.mem_range.1 hi,List.length_range]
  rw[J8]at gw
  have Rr:0<sz:=by
   rcases Nat.eq_zero_or_pos sz with h|h
   ·subst h;simp at gw
   ·exact h
  have hi:j / sz<len:=(Nat.div_lt_iff_lt_mul Rr).2 gw
  have OE:j % sz<sz:=Nat.mod_lt _ Rr
  have Kd:j=(j / sz)*sz+j % sz:=by rw[Nat.mul_comm];exact(Nat.div_add_mod j sz).symm
  rw[Kd,sJ hlen (i:=j / sz) (cs:=nO (j / sz)) (by simp[hi]) OE]at hj
  rw[Kd]
  have:=wv (j / sz) hi (j % sz) u hj
  rw[<-Kd]at this ⊢
  exact this
 ·have hi:i<len:=by
   have:=(List.getElem?_eq_some_iff.1 h1).1
   simpa using this
  simp[hi]at h1 h2 h3
  subst h1 h2 h3
  exact⟨hr i hi,hl i hi⟩
theorem jW (b o k:Nat):(⟨b,o,none⟩:Addr).add k=⟨b,o+k,none⟩:=by
 unfold Addr.add;split
 ·rename_i h;subst h;rfl
 ·rfl
theorem oY {α:Type} {rep:World->List Nat->List Value->α->Prop} {Q:α->Prop} {t e:TypeId} {sz fuel:Nat} {cs:List Value} {x:DataW H×List MemPlace} (ht:P.underlying t=some (.slice e)) (hC:P.cellsOf e=sz) (Rr:0<sz)
  (h:DataW.trod enc P w 0 (fun _=>true) true fuel t cs=some x) (hel:∀n pq y,pq.length=sz->DataW.trod enc P w 0 (fun _=>true) true n e pq=some y->∃f d,fC f 0 w.heap.size/\rep w f pq d/\Q d):
  ∃A n c f xs,cs=[.slice A n c]/\fC f 0 w.heap.size/\mc rep sz w f (.slice A n c) xs/\∀d∈xs,Q d:=by
 rcases open_slice ht h with⟨rfl,_⟩|⟨a,len,cap,m,n,D,Pl,rfl,_,hl,hm,JC,_,hi⟩
 ·exact⟨none,0,0,[],[],rfl,fC.nil _ _,mc.nil _ _ _,fun d h=>by cases h⟩
 rw[hC]at hi
 simp only[if_true]at JC
 by_cases h0:len=0
 ·subst h0
  exact⟨some a,0,cap,[],[],rfl,fC.nil _ _,⟨[],[],[],rfl,⟨some a,cap,rfl,Nat.zero_le _,hm,.inl ⟨rfl,rfl⟩⟩,rfl,rfl,fun i cs f d hc=>by simp at hc⟩,fun d h=>by cases h⟩
 obtain⟨b,o,sp⟩:=a
 have cell0:∃v,w.cell? ⟨b,o,sp⟩=some v:=by
  obtain⟨pq,hc,_⟩:=hi 0 (by omega)
  obtain⟨_,nX,wv⟩:=World.cells?_some hc
  refine⟨pq[0]'(by omega),?_⟩
  have:=wv 0 Rr
  rw[List.getElem?_eq_getElem (by omega)]at this
  simpa[Addr.add]using this
 obtain⟨v0,pU⟩:=cell0
 have hb:b<w.heap.size:=World.block_lt_of_cell? w _ pU
 have Np:sp=none:=by
  unfold World.cell? at pU
  split at pU
  ·split at pU
   ·cases pU
   ·rename_i h;simpa using h
  ·cases pU
 subst Np
 have key:∀i,i<len->∃pq f d,pq.length=sz/\fC f 0 w.heap.size/\rep w f pq d/\Q d/\∀j u,pq[j]? =some u->w.cell? ⟨b,o+(i*sz+j),none⟩=some u:=fun i ly=>by
  obtain⟨pq,hc,htr⟩:=hi i (by omega)
  obtain⟨_,nX,wv⟩:=World.cells?_some hc
  obtain⟨f,d,h1,h2,h3⟩:=hel n pq _ nX htr
  refine⟨pq,f,d,nX,h1,h2,h3,fun j u hj=>?_⟩
  have gw:=(List.getElem?_eq_some_iff.1 hj).1
  have:=wv j (by omega)
  rw[hj]at this
  rw[<-this,Go.Deep.add_add,jW]
 have:Nonempty α:=by
  obtain⟨_,_,d,_⟩:=key 0 (by omega)
  exact⟨d⟩
 let cf:Nat->List Value:=fun i=>if hi:i<len then(key i hi).choose else[]
 let ff:Nat->List Nat:=fun i=>if hi:i<len then(key i hi).choose_spec.choose else[]
 let df:Nat->α:=fun i=>if hi:i<len then(key i hi).choose_spec.choose_spec.choose else Classical.choice this
 have dF:∀i,i<len->(cf i).length=sz/\fC (ff i) 0 w.heap.size/\rep w (ff i) (cf i) (df i)/\Q (df i)/\∀j u,(cf i)[j]? =some u->w.cell? ⟨b,o+(i*sz+j),none⟩=some u:=fun i hi=>by
  have:=(key i hi).choose_spec.choose_spec.choose_spec
  simp only[cf,ff,df,dif_pos hi]
  exact this
 refine⟨some ⟨b,o,none⟩,len,cap,_,(List.range len).map df,rfl,?_,mc.Qi cf ff df hl hm (fun i hi=>(dF i hi).1) (fun i hi=>(dF i hi).2.2.1) (fun i hi=>(dF i hi).2.2.2.2),fun d hd=>?_⟩
 ·intro x hx
  rcases List.mem_append.1 hx with hx|hx
  ·simp at hx;subst hx;exact⟨Nat.zero_le _,hb⟩
  ·obtain⟨l,zY,OS⟩:=List.mem_flatten.1 hx
   obtain⟨i,hi,rfl⟩:=List.mem_map.1 zY
   exact(dF i (List.mem_range.1 hi)).2.1 x OS
 ·obtain⟨i,hi,rfl⟩:=List.mem_map.1 hd
  exact(dF i (List.mem_range.1 hi)).2.2.2.1
end
section
variable {H:Type} {enc:TypeId×Value->H} {w:World} {fuel:Nat} {cs:List Value} {x:DataW H×List MemPlace}
abbrev TT (enc:TypeId×Value->H) (w:World) (fuel t:Nat) (cs:List Value) (x:DataW H×List MemPlace):Prop:=DataW.trod enc Tryz.prog w 0 (fun _=>true) true fuel t cs=some x
theorem NC (h:TT enc w fuel 56 cs x):∃A n c f xs,cs=[.slice A n c]/\fC f 0 w.heap.size/\ud w f (.slice A n c) xs:=by
 obtain⟨A,n,c,f,xs,h1,h2,h3,_⟩:=oY (rep:=DU) (Q:=fun _=>True) Tryz.underlying56 (sz:=1) (by kernel_rfl) (by omega) h fun n pq y hl hy=>by
  obtain⟨b,rfl,_⟩:=DataW.trod_int Tryz.underlying2 hy
  exact⟨[],b,fC.nil _ _,⟨rfl,rfl⟩,trivial⟩
 exact⟨A,n,c,f,xs,h1,h2,h3⟩
theorem mC {t:TypeId} {fs:Array Field} (ht:Tryz.prog.underlying t=some (.struct fs)) (h:TT enc w fuel t cs x):cs.length=Tryz.prog.cellsOf t/\∃n,∀(i:Nat) (f:Field),fs[i]? =some f->∃y,TT enc w n f.type ((cs.drop f.offset).take (Tryz.prog.cellsOf f.type)) y:=by
 obtain⟨xs,n,_,_,hl,OS,hf⟩:=DataW.trod_struct ht h
 refine⟨hl,n,fun i f hi=>?_⟩
 have ly:i<xs.length:=by rw[OS];exact(Array.getElem?_eq_some_iff.1 hi).1
 exact⟨xs[i],(hf i f hi).trans (List.getElem?_eq_getElem ly)⟩
theorem Qe {l:List Value} (h:l.length=2):∃a b,l=[a,b]:=by
 match l,h with
 |[a,b],_=>exact⟨a,b,rfl⟩
theorem Tm {l:List Value} (h:l.length=3):∃a b c,l=[a,b,c]:=by
 match l,h with
 |[a,b,c],_=>exact⟨a,b,c,rfl⟩
theorem Tl {l:List Value} (h:l.length=1):∃a,l=[a]:=by
 match l,h with
 |[a],_=>exact⟨a,rfl⟩
theorem Tn {l:List Value} (h:l.length=4):∃a b c d,l=[a,b,c,d]:=by
 match l,h with
 |[a,b,c,d],_=>exact⟨a,b,c,d,rfl⟩
theorem KK (h:TT enc w fuel 22 cs x):∃A n c f xs,cs=[.slice A n c]/\fC f 0 w.heap.size/\ql w f (.slice A n c) xs/\∀d∈xs,d.aD.size<=9223372036854775807:=by
 exact oY (rep:=G0) (Q:=fun d=>d.aD.size<=9223372036854775807) Tryz.underlying22 (sz:=2) (by kernel_rfl) (by omega) h fun n pq y hl hy=>by
  obtain⟨_,m,hf⟩:=mC Tryz.underlying191 hy
  obtain⟨a,b,rfl⟩:=Qe hl
  ·skip
   obtain⟨y0,h0⟩:=hf 0 _ rfl
   obtain⟨y1,h1⟩:=hf 1 _ rfl
   rw[show Tryz.prog.cellsOf _=1 from by kernel_rfl]at h0 h1
   obtain⟨p,e0,_,ws⟩:=DataW.trod_string Tryz.underlying9 h0
   obtain⟨q,e1,_⟩:=DataW.trod_int Tryz.underlying2 h1
   simp at e0 e1
   subst e0 e1
   exact⟨[],⟨p,q⟩,fC.nil _ _,⟨rfl,rfl⟩,by simpa[maxLen]using ws⟩
theorem KL (h:TT enc w fuel 23 cs x):∃A n c f xs,cs=[.slice A n c]/\fC f 0 w.heap.size/\qm w f (.slice A n c) xs/\∀d∈xs,d.aD.size<=9223372036854775807:=by
 exact oY (rep:=G1) (Q:=fun d=>d.aD.size<=9223372036854775807) Tryz.underlying23 (sz:=2) (by kernel_rfl) (by omega) h fun n pq y hl hy=>by
  obtain⟨_,m,hf⟩:=mC Tryz.underlying193 hy
  obtain⟨a,b,rfl⟩:=Qe hl
  ·skip
   obtain⟨y0,h0⟩:=hf 0 _ rfl
   obtain⟨y1,h1⟩:=hf 1 _ rfl
   rw[show Tryz.prog.cellsOf _=1 from by kernel_rfl]at h0 h1
   obtain⟨p,e0,_,ws⟩:=DataW.trod_string Tryz.underlying9 h0
   obtain⟨A1,n1,c1,f1,QA,e1,k1,s1⟩:=NC h1
   simp at e0 e1
   subst e0 e1
   exact⟨_,⟨p,QA⟩,k1,⟨_,f1,rfl,rfl,s1⟩,by simpa[maxLen]using ws⟩
theorem F1 (h:TT enc w fuel 26 cs x):∃A n c f xs,cs=[.slice A n c]/\fC f 0 w.heap.size/\iN w f (.slice A n c) xs:=by
 obtain⟨A,n,c,f,xs,h1,h2,h3,_⟩:=oY (rep:=Ac) (Q:=fun _=>True) Tryz.underlying26 (sz:=3) (by kernel_rfl) (by omega) h fun n pq y hl hy=>by
  obtain⟨_,m,hf⟩:=mC Tryz.underlying143 hy
  obtain⟨a,b,c,rfl⟩:=Tm hl
  ·skip
   obtain⟨y0,h0⟩:=hf 0 _ rfl
   obtain⟨y1,h1⟩:=hf 1 _ rfl
   rw[show Tryz.prog.cellsOf _=2 from by kernel_rfl]at h0
   rw[show Tryz.prog.cellsOf _=1 from by kernel_rfl]at h1
   obtain⟨_,m2,PF⟩:=mC Tryz.underlying66 h0
   obtain⟨z0,g0⟩:=PF 0 _ rfl
   obtain⟨z1,g1⟩:=PF 1 _ rfl
   rw[show Tryz.prog.cellsOf _=1 from by kernel_rfl]at g0 g1
   obtain⟨px,e0,_⟩:=DataW.trod_int Tryz.underlying2 g0
   obtain⟨py,e1,_⟩:=DataW.trod_int Tryz.underlying2 g1
   obtain⟨ti,e2,_⟩:=DataW.trod_int Tryz.underlying2 h1
   simp at e0 e1 e2
   subst e0 e1 e2
   exact⟨[],⟨⟨px,py⟩,ti⟩,fC.nil _ _,⟨rfl,rfl⟩,trivial⟩
 exact⟨A,n,c,f,xs,h1,h2,h3⟩
theorem vp (h:TT enc w fuel 28 cs x):∃A n c f,∃d:eQ,cs=[.slice A n c]/\fC f 0 w.heap.size/\iN w f (.slice A n c) d.ah:=by
 obtain⟨hl,m,hf⟩:=mC Tryz.underlying28 h
 rw[show Tryz.prog.cellsOf _=1 from by kernel_rfl]at hl
 obtain⟨a,rfl⟩:=Tl hl
 ·skip
  obtain⟨y0,h0⟩:=hf 0 _ rfl
  rw[show Tryz.prog.cellsOf _=1 from by kernel_rfl]at h0
  obtain⟨A1,n1,c1,f1,QA,e1,k1,s1⟩:=F1 h0
  simp at e1
  subst e1
  exact⟨A1,n1,c1,f1,⟨QA⟩,rfl,k1,s1⟩
theorem Is (h:TT enc w fuel 30 cs x):∃A0 n0 c0 f0 A1 n1 c1 f1 A2 n2 c2 f2,∃d:aB,cs=[.slice A0 n0 c0,.slice A1 n1 c1,.slice A2 n2 c2,.int .i64 d.az]/\fC f0 0 w.heap.size/\ql w f0 (.slice A0 n0 c0) d.aC.aA/\fC f1 0 w.heap.size/\qm w f1 (.slice A1 n1 c1) d.aC.ah/\fC f2 0 w.heap.size/\iN w f2 (.slice A2 n2 c2) d.bh.ah/\(∀g∈d.aC.aA,g.aD.size<=9223372036854775807)/\∀t∈d.aC.ah,t.aD.size<=9223372036854775807:=by
 obtain⟨hl,m,hf⟩:=mC Tryz.underlying30 h
 rw[show Tryz.prog.cellsOf _=4 from by kernel_rfl]at hl
 obtain⟨a,b,c,d,rfl⟩:=Tn hl
 ·skip
  obtain⟨y0,h0⟩:=hf 0 _ rfl
  obtain⟨y1,h1⟩:=hf 1 _ rfl
  obtain⟨y2,h2⟩:=hf 2 _ rfl
  rw[show Tryz.prog.cellsOf _=2 from by kernel_rfl]at h0
  rw[show Tryz.prog.cellsOf _=1 from by kernel_rfl]at h1 h2
  obtain⟨_,m2,PF⟩:=mC Tryz.underlying25 h0
  obtain⟨z0,g0⟩:=PF 0 _ rfl
  obtain⟨z1,g1⟩:=PF 1 _ rfl
  rw[show Tryz.prog.cellsOf _=1 from by kernel_rfl]at g0 g1
  obtain⟨A0,n0,c0,f0,xs0,e0,k0,s0,o0⟩:=KK g0
  obtain⟨A1,n1,c1,f1,QA,e1,k1,s1,o1⟩:=KL g1
  obtain⟨A2,n2,c2,f2,d2,e2,k2,s2⟩:=vp h1
  obtain⟨t,e3,_⟩:=DataW.trod_int Tryz.underlying2 h2
  simp at e0 e1 e2 e3
  subst e0 e1 e2 e3
  exact⟨A0,n0,c0,f0,A1,n1,c1,f1,A2,n2,c2,f2,⟨⟨xs0,QA⟩,d2,t⟩,rfl,k0,s0,k1,s1,k2,s2,o0,o1⟩
end
end Go.Proofs.YtgoelphibofcmaaGreat

namespace Go.Proofs.YtgoelphibofcmaaGreat
open Go.ChangeShapes Go.WideShapes Go.ChangeAt Go.RowKit V
theorem Qm:ownKnob Tryz.prog.godebug=none:=by kernel_rfl
theorem Ic:laidOutB Tryz.prog=true:=by kernel_rfl
theorem wh (s:aB) (a:eQ) (hn:fJ s.aC):ao Tryz.prog 5 [.agg (au s),.agg (aS a)] (.bool true):=
 FU (fun s a=>hZ s a.ah) (fun s a hn hm _=>yl s a.ah hn hm.s.g hm.s.t) (fun s a hn hm hl=>yk s a.ah hn hm hl) s a hn
theorem rf (os:Os) (started:os.Started) (H:Type) (enc:TypeId×Value->H):
  ReturnsInHanded {} Tryz.checked os 5 .any (Rows.fnExactTightFaultSpec.pre6 enc Tryz.prog Tryz.f5 Rows.fnExactTightFaultRow.domain false) (Rows.fnExactTightFaultSpec.post enc Tryz.prog Tryz.f5 false true false false):=by
 refine returnsInHanded_of_change (C:=Tryz.checked) Qm started (by kernel_rfl) Tryz.func5
  (ChangeSpec.witness6 (enc:=enc) (C:=Tryz.checked) false ⟨#[], #[.agg #[.slice none 0 0,.slice none 0 0,.slice none 0 0,.int .i64 0],.agg #[.slice none 0 0]],[]⟩ 8 (by kernel_rfl) (by kernel_rfl) (by kernel_rfl) (by kernel_rfl)) ?_
 intro W base args ds gs before LN hW hcnd _
 have rV:∀(j:Nat) t v,Tryz.f5.params[j]? =some t->args[j]? =some v->Value.okWide Tryz.prog W .any base t v:=LN
 have hW':=hW
 obtain⟨p,q,hA0,hV,rfl,BU,oI⟩:=hW
 have hA:DataW.TrodAll enc Tryz.prog W 0 (fun _=>true) true Tryz.f5.params.toList args.toList ds p:=hA0
 rw[Tryz.params5]at hA rV
 obtain⟨v0,Tr,d0,ds0,p0,q0,mY,rfl,rfl,h0,r0⟩:=trodAll_cons hA
 obtain⟨v1,vs1,d1,ds1,p1,q1,rfl,rfl,rfl,h1,r1⟩:=trodAll_cons r0
 obtain⟨rfl,rfl,rfl⟩:=trodAll_nil r1
 obtain rfl:args= #[v0,v1]:=by cases args;simp_all
 obtain⟨rfl,rfl⟩:=trodVars_none hV
 obtain⟨Ox,rfl,_⟩:=okWide_struct Tryz.underlying30 (rV 0 30 v0 rfl rfl)
 obtain⟨RW,rfl,_⟩:=okWide_struct Tryz.underlying28 (rV 1 28 v1 rfl rfl)
 have k0:=h0
 have k1:=h1
 have lt0:∀x∈p0,x.block<W.heap.size:=by obtain⟨m,hm⟩:=k0;exact DataW.trod_lt m _ _ _ hm
 have OX:∀x∈p1,x.block<W.heap.size:=by obtain⟨m,hm⟩:=k1;exact DataW.trod_lt m _ _ _ hm
 obtain⟨A0,n0,c0,f0,A1,n1,c1,f1,A2,n2,c2,f2,s,dn,w0,s0,w1,s1,w2,s2,o0,o1⟩:∃A0 n0 c0 f0 A1 n1 c1 f1 A2 n2 c2 f2,∃d:aB,(Value.agg Ox).cells.toList=[.slice A0 n0 c0,.slice A1 n1 c1,.slice A2 n2 c2,.int .i64 d.az]/\fC f0 0 W.heap.size/\ql W f0 (.slice A0 n0 c0) d.aC.aA/\fC f1 0 W.heap.size/\qm W f1 (.slice A1 n1 c1) d.aC.ah/\fC f2 0 W.heap.size/\iN W f2 (.slice A2 n2 c2) d.bh.ah/\(∀g∈d.aC.aA,g.aD.size<=9223372036854775807)/\∀t∈d.aC.ah,t.aD.size<=9223372036854775807:=by
  obtain⟨fuel,hf⟩:=h0
  exact Is hf
 obtain⟨A3,n3,c3,f3,a,Pv,w3,s3⟩:∃A n c f,∃d:eQ,(Value.agg RW).cells.toList=[.slice A n c]/\fC f 0 W.heap.size/\iN W f (.slice A n c) d.ah:=by
  obtain⟨fuel,hf⟩:=h1
  exact vp hf
 obtain rfl:Ox= #[.slice A0 n0 c0,.slice A1 n1 c1,.slice A2 n2 c2,.int .i64 s.az]:=by
  cases Ox;simp[Value.cells]at dn;subst dn;rfl
 obtain rfl:RW= #[.slice A3 n3 c3]:=by
  cases RW;simp[Value.cells]at Pv;subst Pv;rfl
 clear hA0 LN
 have gp:fh Tryz.prog W (fun b=>b<W.heap.size) (fun _=>none) [.agg (au s),.agg (aS a)] #[.agg #[.slice A0 n0 c0,.slice A1 n1 c1,.slice A2 n2 c2,.int .i64 s.az],.agg #[.slice A3 n3 c3]]:=by
  have h:=lV (Ca s0 (fun b hb=>(w0 b hb).2) s1 (fun b hb=>(w1 b hb).2) s2 (fun b hb=>(w2 b hb).2)) (lV (yh s3 (fun b hb=>(w3 b hb).2)) (⟨rfl,fun j b hj=>by cases j<;>cases hj⟩:fh Tryz.prog W (fun b=>b<W.heap.size) (fun _=>none) [] #[]))
  simpa using h
 have iO:=Nx mixed (wh s a ⟨o0,o1⟩) gp
 clear s0 s1 s2 s3 w0 w1 w2 w3 gp
 refine(iO.mono fun e W' ⟨he,bel⟩=>?_)
 subst he
 exact⟨_,rfl,_,_,_,[],_,[],hW',trodAll_mk1 (shut_bool Tryz.underlying4 _),(trodAll_cons_mk (Below.trod Ic (by kernel_rfl) (of_decide_eq_true (by kernel_rfl)) k0 bel lt0) (trodAll_cons_mk (Below.trod Ic (by kernel_rfl) (of_decide_eq_true (by kernel_rfl)) k1 bel OX) trodAll_mk0)),rfl,bel.frame _,fun h=>by cases h⟩
end Go.Proofs.YtgoelphibofcmaaGreat

namespace Go.Proofs.YtgoelphibofcmaaGreat
open Go.ChangeShapes Go.WideShapes Go.ChangeAt Go.RowKit
theorem tfN:Tryz.pinned.checked.prog.funcNamed Rows.fnExactTightFaultRow.func=some 5:=by kernel_rfl
theorem tfJ:joinedFacts Tryz.pinned.checked.prog 5 Tryz.f5 Rows.fnExactTightFaultSpec Rows.fnExactTightFaultRow=true:=by
 unfold joinedFacts
 repeat(with_reducible refine Bool.and_eq_true_iff.2 ⟨?_,by as_aux_lemma=>kernel_rfl⟩)
 as_aux_lemma=>kernel_rfl
theorem tfI:Tryz.f5.isInstance Tryz.pinned.checked.prog Rows.fnExactTightFaultRow.origin Rows.fnExactTightFaultRow.targs:=of_decide_eq_true (by kernel_rfl)
theorem tfW:Tryz.f5.isWrapper Tryz.pinned.checked.prog Rows.fnExactTightFaultRow.wrapper Rows.fnExactTightFaultRow.mainSum:=by
 unfold Func.isWrapper;first|(rw[if_pos (by decide+kernel)];kernel_rfl)|(rw[if_neg (by decide+kernel)];exact⟨rfl,rfl⟩)
theorem tt:Rows.fnExactTightFaultRow.holds Tryz.pinned (OpenSpec.ofChange Rows.fnExactTightFaultSpec):=
 OpenClaim.holds_of_wide 5 Tryz.f5 rfl rfl rfl rfl rfl rfl rfl ⟨rfl,rfl,rfl,rfl,rfl⟩ rfl rfl rfl rfl rfl tfN Tryz.func5 tfJ tfI tfW
  (fun os started H enc _=>rf os started H enc)
theorem fnExactTightFault_proved:Rows.FnExactTightFaultSaid:=tt
end Go.Proofs.YtgoelphibofcmaaGreat
