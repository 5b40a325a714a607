/- Bounds, points and directions, walked in the small language. -/
import Derived.Test.YtgoelphibofcmaaGreatTfB
import Derived.Test.YtgoelphibofcmaaGreatChecked
import Derived.Test.YtgoelphibofcmaaGreatTfA
set_option linter.unusedVariables false
set_option linter.unusedSimpArgs false
set_option maxRecDepth 100000
set_option maxHeartbeats 16000000
namespace Go.Proofs.YtgoelphibofcmaaGreat.V
open Go.RowKit
attribute [local irreducible] dD wpOps gI Call
attribute [local go_sem] aK fW eU gE gy cE upd ck K.av cN AV.cells AV.cell rowOf rowsOf part ld rowAt bB bY dO ev iI bK db eI gr e8 dx eB cZ cY ea ec bQ aY cQ bP cU cR ez eC eA cP bV da ew bL aL cW cF iH bz cK bR aU dh aT dP AV.undef bF bG eh eu dX dY cI eH eK cD eE eD cV cX List.getD_cons_zero List.getD_cons_succ List.getD_nil List.all_cons List.all_nil Bool.and_true Bool.true_and Bool.and_self Bool.not_true Bool.not_false Option.map_some Option.map_none Option.bind_some Option.bind_none List.length_cons List.length_nil List.take_succ_cons List.take_zero List.take_nil List.drop_succ_cons List.drop_zero List.drop_nil List.head?_cons List.map_cons List.map_nil List.getElem?_cons_zero List.getElem?_cons_succ List.cons_append List.nil_append List.append_nil List.length_map List.set_cons_zero List.set_cons_succ Nat.reduceMul eq_self Int.toNat_natCast Int.natCast_nonneg and_self true_and and_true decide_true decide_false Bool.false_eq_true Nat.zero_add Nat.add_zero List.contains_cons List.contains_nil Bool.or_false Bool.false_or beq_self_eq_true Nat.reduceBEq ne_eq not_true_eq_false not_false_eq_true Id.mk.injEq false_and and_false Nat.reduceLT Int.reduceLE Int.reduceLT Int.reduceToNat Int.reduceNeg Int.reduceAdd Nat.le_refl List.length_append beq_true beq_false Bool.not_eq_eq_eq_not or_false false_or dQ aj aq aH bd bE cm aW bc aN bf cL bU
def iP (n lo hi:Int):Bool:=decide (lo<=n)&&decide (n<=hi)
theorem eb {n lo hi:Int} (h:iP n lo hi=true):lo<=n/\n<=hi:=by simpa[iP]using h
theorem jg {n lo hi:Int} (h:lo<=n/\n<=hi):iP n lo hi=true:=by simpa[iP]using h
def r8 (p:ai):Bool:=iP p.eM (-60) 60&&iP p.ep (-60) 60
theorem lp (n lo hi:Int):ao Tryz.prog 137 [.int .i64 n,.int .i64 lo,.int .i64 hi] (.bool (iP n lo hi)):=by
 refine ao.body eG rfl fun hl n0=>?_
 clear hl
 by_cases h1:lo<=n
 ·(try((repeat(revert hN;revert N;apply Pn.out));refine wk @h1 ?_;(repeat(refine Pn.mk ?_;intro N hN))))
  exact aI (b:=decide (n<=hi)) (.inl rfl) (sd @Nat.zero_add) (by simp[iP,h1])
 ·(try((repeat(revert hN;revert N;apply Pn.out));refine wk @h1 ?_;(repeat(refine Pn.mk ?_;intro N hN))))
  exact aI (b:=false) (.inl rfl) (sd @Nat.zero_add) (by simp[iP,h1])
theorem kP (n lo hi:Int):ao Tryz.prog 141 [.int .i64 n,.int .i64 lo,.int .i64 hi] (.bool (iP n lo hi)):=by
 refine ao.body eG rfl fun hl n0=>?_
 clear hl
 by_cases h1:lo<=n
 ·(try((repeat(revert hN;revert N;apply Pn.out));refine wk @h1 ?_;(repeat(refine Pn.mk ?_;intro N hN))))
  exact aI (b:=decide (n<=hi)) (.inl rfl) (sd @Nat.zero_add) (by simp[iP,h1])
 ·(try((repeat(revert hN;revert N;apply Pn.out));refine wk @h1 ?_;(repeat(refine Pn.mk ?_;intro N hN))))
  exact aI (b:=false) (.inl rfl) (sd @Nat.zero_add) (by simp[iP,h1])
theorem Ia (d:Int):ao Tryz.prog 173 [.int .i64 d] (.bool (iP d 0 3)):=by
 refine ao.body eG rfl fun hl n0=>?_
 clear hl
 have h:=lp d 0 3
 (repeat(first|((repeat(revert hN;revert N;apply Pn.out));refine wk @Nat.zero_add ?_;(repeat(refine Pn.mk ?_;intro N hN)))|((try apply Or.inl);refine⟨_,ao.x (h) (sd @Nat.zero_add),?_⟩;refine hN _ _ ?_;clear hN N)))
 exact aI (b:=iP d 0 3) (.inl rfl) (sd @Nat.zero_add) rfl
theorem uW (p:ai):ao Tryz.prog 123 [.agg (aa p)] (.bool (r8 p)):=by
 refine ao.body eG rfl fun hl n0=>?_
 clear hl
 have h1:=lp p.eM (-60) 60
 have h2:=lp p.ep (-60) 60
 by_cases q:iP p.eM (-60) 60=true
 ·rw[q]at h1
  (repeat(first|((repeat(revert hN;revert N;apply Pn.out));refine wk @aa.eq_1 ?_;(repeat(refine Pn.mk ?_;intro N hN)))|((try apply Or.inl);refine⟨_,ao.x (h1) (sd @aa.eq_1),?_⟩;refine hN _ _ ?_;clear hN N)|((try apply Or.inl);refine⟨_,ao.x (h2) (sd @aa.eq_1),?_⟩;refine hN _ _ ?_;clear hN N)))
  exact aI (b:=iP p.ep (-60) 60) (.inl rfl) (sd @Nat.zero_add) (by rw[r8,q];rfl)
 ·rw[Bool.not_eq_true]at q
  rw[q]at h1
  (repeat(first|((repeat(revert hN;revert N;apply Pn.out));refine wk @aa.eq_1 ?_;(repeat(refine Pn.mk ?_;intro N hN)))|((try apply Or.inl);refine⟨_,ao.x (h1) (sd @aa.eq_1),?_⟩;refine hN _ _ ?_;clear hN N)|((try apply Or.inl);refine⟨_,ao.x (h2) (sd @aa.eq_1),?_⟩;refine hN _ _ ?_;clear hN N)))
  exact aI (b:=false) (.inl rfl) (sd @Nat.zero_add) (by rw[r8,q];rfl)
theorem j7 (p:ai):ao Tryz.prog 140 [.agg (aa p)] (.bool (r8 p)):=by
 refine ao.body eG rfl fun hl n0=>?_
 clear hl
 have h1:=kP p.eM (-60) 60
 have h2:=kP p.ep (-60) 60
 by_cases q:iP p.eM (-60) 60=true
 ·rw[q]at h1
  (repeat(first|((repeat(revert hN;revert N;apply Pn.out));refine wk @aa.eq_1 ?_;(repeat(refine Pn.mk ?_;intro N hN)))|((try apply Or.inl);refine⟨_,ao.x (h1) (sd @aa.eq_1),?_⟩;refine hN _ _ ?_;clear hN N)|((try apply Or.inl);refine⟨_,ao.x (h2) (sd @aa.eq_1),?_⟩;refine hN _ _ ?_;clear hN N)))
  exact aI (b:=iP p.ep (-60) 60) (.inl rfl) (sd @Nat.zero_add) (by rw[r8,q];rfl)
 ·rw[Bool.not_eq_true]at q
  rw[q]at h1
  (repeat(first|((repeat(revert hN;revert N;apply Pn.out));refine wk @aa.eq_1 ?_;(repeat(refine Pn.mk ?_;intro N hN)))|((try apply Or.inl);refine⟨_,ao.x (h1) (sd @aa.eq_1),?_⟩;refine hN _ _ ?_;clear hN N)|((try apply Or.inl);refine⟨_,ao.x (h2) (sd @aa.eq_1),?_⟩;refine hN _ _ ?_;clear hN N)))
  exact aI (b:=false) (.inl rfl) (sd @Nat.zero_add) (by rw[r8,q];rfl)
def r7 (d:Int):Int:=if iP d 0 3 then(d+2) % 4 else -1
def bJ (p:ai) (d:Int):ai:=
 if d=0 then⟨p.eM,p.ep+1⟩else if d=1 then⟨p.eM+1,p.ep⟩else if d=2 then⟨p.eM,p.ep-1⟩else if d=3 then⟨p.eM-1,p.ep⟩else p
def iB (n:Int):Prop:=-4611686018427387904<=n/\n<=4611686018427387904
theorem rZ (p:ai) (d:Int) (hd:iP d 0 3=true) (hx:iB p.eM) (hy:iB p.ep):ao Tryz.prog 122 [.agg (aa p),.int .i64 d] (.agg (aa (bJ p d))):=by
 refine ao.body eG rfl fun hl n0=>?_
 clear hl
 obtain⟨x1,x2⟩:=hx
 obtain⟨y1,y2⟩:=hy
 have w1:IntKind.i64.wrap (p.eM+1)=p.eM+1:=bp (by omega)
 have w2:IntKind.i64.wrap (p.eM-1)=p.eM-1:=bp (by omega)
 have w3:IntKind.i64.wrap (p.ep+1)=p.ep+1:=bp (by omega)
 have w4:IntKind.i64.wrap (p.ep-1)=p.ep-1:=bp (by omega)
 have hb:=eb hd
 have hc:d=0∨d=1∨d=2∨d=3:=by omega
 rcases hc with rfl|rfl|rfl|rfl
 ·(try((repeat(revert hN;revert N;apply Pn.out));refine wk (tw @aa.eq_1 @w3) ?_;(repeat(refine Pn.mk ?_;intro N hN))))
  exact jU (.inl rfl) (vs:=[.agg (aa (bJ p 0))]) (by simp only[go_sem, ↓reduceIte,Nat.reduceEqDiff,Nat.reduceAdd,Nat.reduceSub,Nat.reduceLeDiff,reduceCtorEq,e5,gV,aa,bJ]) (by simp[eT,aa,fY,dS])
 ·(try((repeat(revert hN;revert N;apply Pn.out));refine wk (tw @aa.eq_1 @w1) ?_;(repeat(refine Pn.mk ?_;intro N hN))))
  exact jU (.inl rfl) (vs:=[.agg (aa (bJ p 1))]) (by simp[e5,gV,aa,bJ,ld,rowAt,bB,upd,part]) (by simp[eT,aa,fY,dS])
 ·(try((repeat(revert hN;revert N;apply Pn.out));refine wk (tw @aa.eq_1 @w4) ?_;(repeat(refine Pn.mk ?_;intro N hN))))
  exact jU (.inl rfl) (vs:=[.agg (aa (bJ p 2))]) (by simp[e5,gV,aa,bJ,ld,rowAt,bB,upd,part]) (by simp[eT,aa,fY,dS])
 ·(try((repeat(revert hN;revert N;apply Pn.out));refine wk (tw @aa.eq_1 @w2) ?_;(repeat(refine Pn.mk ?_;intro N hN))))
  exact jU (.inl rfl) (vs:=[.agg (aa (bJ p 3))]) (by simp[e5,gV,aa,bJ,ld,rowAt,bB,upd,part]) (by simp[eT,aa,fY,dS])
theorem zm (p p2:ai) (x y:Int) (hx:IntKind.i64.wrap (p.eM+p2.eM)=x) (hy:IntKind.i64.wrap (p.ep+p2.ep)=y):ao Tryz.prog 184 [.agg (aa p),.agg (aa p2)] (.agg [.int .i64 x,.int .i64 y]):=by
 refine ao.body eG rfl fun hl n0=>?_
 clear hl
 (try((repeat(revert hN;revert N;apply Pn.out));refine wk (tw @aa.eq_1 (tw @hx @hy)) ?_;(repeat(refine Pn.mk ?_;intro N hN))))
 exact jU (.inl rfl) (vs:=[.agg [.int .i64 x,.int .i64 y]]) (by simp only[go_sem, ↓reduceIte,Nat.reduceEqDiff,Nat.reduceAdd,Nat.reduceSub,Nat.reduceLeDiff,reduceCtorEq,e5,gV,aa]) (by simp[eT,fY,dS])
theorem vZ (p:ai) (d:Int) (hd:iP d 0 3=true) (hx:iB p.eM) (hy:iB p.ep):ao Tryz.prog 149 [.agg (aa p),.int .i64 d] (.agg (aa (bJ p d))):=by
 refine ao.body eG rfl fun hl n0=>?_
 clear hl
 obtain⟨x1,x2⟩:=hx
 obtain⟨y1,y2⟩:=hy
 have hb:=eb hd
 have hc:d=0∨d=1∨d=2∨d=3:=by omega
 rcases hc with rfl|rfl|rfl|rfl
 ·have h:=zm p ⟨0,1⟩ (p.eM) (p.ep+1) (by rw[bp (by constructor<;>simp only<;>omega)]<;>(try simp only)<;>(try omega)) (by rw[bp (by constructor<;>simp only<;>omega)]<;>(try simp only)<;>(try omega))
  simp only[aa]at h
  (repeat(first|((repeat(revert hN;revert N;apply Pn.out));refine wk @aa.eq_1 ?_;(repeat(refine Pn.mk ?_;intro N hN)))|((try apply Or.inl);refine⟨_,ao.x (h) (sd @aa.eq_1),?_⟩;refine hN _ _ ?_;clear hN N)))
  exact jU (.inl rfl) (vs:=[.agg (aa (bJ p 0))]) (by simp[e5,gV,aa,bJ,ld,rowAt,bB,upd,part]) (by simp[eT,aa,fY,dS])
 ·have h:=zm p ⟨1,0⟩ (p.eM+1) (p.ep) (by rw[bp (by constructor<;>simp only<;>omega)]<;>(try simp only)<;>(try omega)) (by rw[bp (by constructor<;>simp only<;>omega)]<;>(try simp only)<;>(try omega))
  simp only[aa]at h
  (repeat(first|((repeat(revert hN;revert N;apply Pn.out));refine wk @aa.eq_1 ?_;(repeat(refine Pn.mk ?_;intro N hN)))|((try apply Or.inl);refine⟨_,ao.x (h) (sd @aa.eq_1),?_⟩;refine hN _ _ ?_;clear hN N)))
  exact jU (.inl rfl) (vs:=[.agg (aa (bJ p 1))]) (by simp[e5,gV,aa,bJ,ld,rowAt,bB,upd,part]) (by simp[eT,aa,fY,dS])
 ·have h:=zm p ⟨0,(-1)⟩ (p.eM) (p.ep-1) (by rw[bp (by constructor<;>simp only<;>omega)]<;>(try simp only)<;>(try omega)) (by rw[bp (by constructor<;>simp only<;>omega)]<;>(try simp only)<;>(try omega))
  simp only[aa]at h
  (repeat(first|((repeat(revert hN;revert N;apply Pn.out));refine wk @aa.eq_1 ?_;(repeat(refine Pn.mk ?_;intro N hN)))|((try apply Or.inl);refine⟨_,ao.x (h) (sd @aa.eq_1),?_⟩;refine hN _ _ ?_;clear hN N)))
  exact jU (.inl rfl) (vs:=[.agg (aa (bJ p 2))]) (by simp[e5,gV,aa,bJ,ld,rowAt,bB,upd,part]) (by simp[eT,aa,fY,dS])
 ·have h:=zm p ⟨(-1),0⟩ (p.eM-1) (p.ep) (by rw[bp (by constructor<;>simp only<;>omega)]<;>(try simp only)<;>(try omega)) (by rw[bp (by constructor<;>simp only<;>omega)]<;>(try simp only)<;>(try omega))
  simp only[aa]at h
  (repeat(first|((repeat(revert hN;revert N;apply Pn.out));refine wk @aa.eq_1 ?_;(repeat(refine Pn.mk ?_;intro N hN)))|((try apply Or.inl);refine⟨_,ao.x (h) (sd @aa.eq_1),?_⟩;refine hN _ _ ?_;clear hN N)))
  exact jU (.inl rfl) (vs:=[.agg (aa (bJ p 3))]) (by simp[e5,gV,aa,bJ,ld,rowAt,bB,upd,part]) (by simp[eT,aa,fY,dS])
theorem Df (d:Int) (hd:iP d 0 3=true):ao Tryz.prog 153 [.int .i64 d] (.int .i64 (r7 d)):=by
 refine ao.body eG rfl fun hl n0=>?_
 clear hl
 have hb:=eb hd
 have hw:IntKind.i64.wrap (d+2)=d+2:=bp (by omega)
 have ht:Int.tmod (d+2) 4=(d+2) % 4:=Int.tmod_eq_emod_of_nonneg (by omega)
 have h4:¬((4:Int)=0):=by omega
 (try((repeat(revert hN;revert N;apply Pn.out));refine wk (tw @hw (tw @ht @h4)) ?_;(repeat(refine Pn.mk ?_;intro N hN))))
 exact bx (b:=(d+2) % 4) (.inl rfl) (sd @Nat.zero_add) (by rw[r7,if_pos hd])
theorem B9 (d:Int) (hd:iP d 0 3=true):ao Tryz.prog 125 [.int .i64 d] (.int .i64 (r7 d)):=by
 refine ao.body eG rfl fun hl n0=>?_
 clear hl
 have hb:=eb hd
 have hw:IntKind.i64.wrap (d+2)=d+2:=bp (by omega)
 have ht:Int.tmod (d+2) 4=(d+2) % 4:=Int.tmod_eq_emod_of_nonneg (by omega)
 have h4:¬((4:Int)=0):=by omega
 have h:=Ia d
 rw[hd]at h
 (repeat(first|((repeat(revert hN;revert N;apply Pn.out));refine wk (tw @hw (tw @ht @h4)) ?_;(repeat(refine Pn.mk ?_;intro N hN)))|((try apply Or.inl);refine⟨_,ao.x (h) (sd (tw @hw (tw @ht @h4))),?_⟩;refine hN _ _ ?_;clear hN N)))
 exact bx (b:=(d+2) % 4) (.inl rfl) (sd @Nat.zero_add) (by rw[r7,if_pos hd])
end Go.Proofs.YtgoelphibofcmaaGreat.V

namespace Go.Proofs.YtgoelphibofcmaaGreat.V
open Go.RowKit
attribute [local irreducible] dD wpOps gI Call
attribute [local go_sem] aK fW eU gE gy cE upd ck K.av cN AV.cells AV.cell rowOf rowsOf part ld rowAt bB bY dO ev iI bK db eI gr e8 dx eB cZ cY ea ec bQ aY cQ bP cU cR ez eC eA cP bV da ew bL aL cW cF iH bz cK bR aU dh aT dP AV.undef bF bG eh eu dX dY cI eH eK cD eE eD cV cX List.getD_cons_zero List.getD_cons_succ List.getD_nil List.all_cons List.all_nil Bool.and_true Bool.true_and Bool.and_self Bool.not_true Bool.not_false Option.map_some Option.map_none Option.bind_some Option.bind_none List.length_cons List.length_nil List.take_succ_cons List.take_zero List.take_nil List.drop_succ_cons List.drop_zero List.drop_nil List.head?_cons List.map_cons List.map_nil List.getElem?_cons_zero List.getElem?_cons_succ List.cons_append List.nil_append List.append_nil List.length_map List.set_cons_zero List.set_cons_succ Nat.reduceMul eq_self Int.toNat_natCast Int.natCast_nonneg and_self true_and and_true decide_true decide_false Bool.false_eq_true Nat.zero_add Nat.add_zero List.contains_cons List.contains_nil Bool.or_false Bool.false_or beq_self_eq_true Nat.reduceBEq ne_eq not_true_eq_false not_false_eq_true Id.mk.injEq false_and and_false Nat.reduceLT Int.reduceLE Int.reduceLT Int.reduceToNat Int.reduceNeg Int.reduceAdd Nat.le_refl List.length_append beq_true beq_false Bool.not_eq_eq_eq_not or_false false_or dQ aj aq aH bd bE cm aW bc aN bf cL bU
def eP (s:aw) (t:Int):Bool:=iP t 0 ((s.ah.length:Int)-1)
theorem C2 (s:aw) (t:Int):ao Tryz.prog 136 [.cr (ab s),.int .i64 t] (.bool (eP s t)):=by
 refine ao.body eG rfl fun hl n0=>?_
 have hn:s.ah.length<=9223372036854775807:=by
  have h1:=(hl (.cr (ab s)) (by simp)).A7 (a:=.sl (s.ah.map bj)) (by simp[ab])
  simpa using h1.len
 clear hl
 have hw:IntKind.i64.wrap ((s.ah.length:Int)-1)=(s.ah.length:Int)-1:=bp (by omega)
 have h:=lp t 0 ((s.ah.length:Int)-1)
 (repeat(first|((repeat(revert hN;revert N;apply Pn.out));refine wk (tw @ab.eq_1 @hw) ?_;(repeat(refine Pn.mk ?_;intro N hN)))|((try apply Or.inl);refine⟨_,ao.x (h) (sd (tw @ab.eq_1 @hw)),?_⟩;refine hN _ _ ?_;clear hN N)))
 exact aI (b:=eP s t) (.inl rfl) (by simp only[go_sem, ↓reduceIte,Nat.reduceEqDiff,Nat.reduceAdd,Nat.reduceSub,Nat.reduceLeDiff,reduceCtorEq,eP]) rfl
theorem xL (t n:Int) (h0:0<=n) (h1:n<=9223372036854775807):ao Tryz.prog 139 [.int .i64 t,.int .i64 n] (.bool (iP t 0 (n-1))):=by
 refine ao.body eG rfl fun hl n0=>?_
 clear hl
 have hw:IntKind.i64.wrap (n-1)=n-1:=bp (by omega)
 have h:=kP t 0 (n-1)
 (repeat(first|((repeat(revert hN;revert N;apply Pn.out));refine wk @hw ?_;(repeat(refine Pn.mk ?_;intro N hN)))|((try apply Or.inl);refine⟨_,ao.x (h) (sd @hw),?_⟩;refine hN _ _ ?_;clear hN N)))
 exact aI (b:=iP t 0 (n-1)) (.inl rfl) (sd @Nat.zero_add) rfl
theorem H9 (s:aw) (t:Int):ao Tryz.prog 83 [.agg (ab s),.int .i64 t] (.bool (eP s t)):=by
 refine ao.body eG rfl fun hl n0=>?_
 have hn:s.ah.length<=9223372036854775807:=by
  have h1:=(hl (.agg (ab s)) (by simp)).Mf (a:=.sl (s.ah.map bj)) (by simp[ab])
  simpa using h1.len
 clear hl
 have h:=xL t s.ah.length (by omega) (by omega)
 (repeat(first|((repeat(revert hN;revert N;apply Pn.out));refine wk @ab.eq_1 ?_;(repeat(refine Pn.mk ?_;intro N hN)))|((try apply Or.inl);refine⟨_,ao.x (h) (sd @ab.eq_1),?_⟩;refine hN _ _ ?_;clear hN N)))
 exact aI (b:=eP s t) (.inl rfl) (by simp only[go_sem, ↓reduceIte,Nat.reduceEqDiff,Nat.reduceAdd,Nat.reduceSub,Nat.reduceLeDiff,reduceCtorEq,eP]) rfl
def zj:fe:=⟨⟨#[]⟩,[]⟩
def dj (s:aw) (t:Int):fe:=s.ah.getD t.toNat zj
def di (t:fe) (d:Int):Int:=t.bI.getD d.toNat 0
def pP (s:aw) (g:Int):gO:=s.aA.getD g.toNat ⟨⟨#[]⟩,0⟩
def sg (s:aw) (g:Int):Int:=if g=0 then 0 else(pP s (g-1)).ef
def gJ (s:aw) (a d b:Int):Int:=if di (dj s a) d=di (dj s b) (r7 d)then sg s (di (dj s a) d)else 0
structure kg (s:aw):Prop where
 vW:∀t∈s.ah,t.bI.length=4
 uG:∀t∈s.ah,∀g∈t.bI,0<=g/\g<=s.aA.length
theorem getD_map {α β:Type} (e:α->β) {l:List α} {k:Nat} {d:α} (h:k<l.length):(l.map e)[k]? =some (e (l.getD k d)):=by simp[List.getD_eq_getElem?_getD,h]
theorem wV (s:aw) (g:Int) (h0:0<=g) (h1:g<=s.aA.length):ao Tryz.prog 126 [.cr (ab s),.int .i64 g] (.int .i64 (sg s g)):=by
 refine ao.body eG rfl fun hl n0=>?_
 have hn:s.aA.length<=9223372036854775807:=by
  have h1:=(hl (.cr (ab s)) (by simp)).A7 (a:=.sl (s.aA.map bZ)) (by simp[ab])
  simpa using h1.len
 clear hl
 by_cases hg:g=0
 ·have e:decide (g=0)=true:=decide_eq_true hg
  (try((repeat(revert hN;revert N;apply Pn.out));refine wk (tw @ab.eq_1 @e) ?_;(repeat(refine Pn.mk ?_;intro N hN))))
  exact bx (b:=0) (.inl rfl) (sd @Nat.zero_add) (by rw[sg,if_pos hg])
 ·have e:decide (g=0)=false:=decide_eq_false hg
  have hw:IntKind.i64.wrap (g-1)=g-1:=bp (by omega)
  have oH:0<=g-1:=by omega
  have gF:(s.aA.map bZ)[(g-1).toNat]? =some (bZ (pP s (g-1))):=getD_map bZ (by omega)
  (try((repeat(revert hN;revert N;apply Pn.out));refine wk (tw @ab.eq_1 (tw @e (tw @hw (tw @oH (tw @gF @bZ.eq_1))))) ?_;(repeat(refine Pn.mk ?_;intro N hN))))
  exact bx (b:=(pP s (g-1)).ef) (.inl rfl) (sd @Nat.zero_add) (by rw[sg,if_neg hg])
theorem oy {s:aw} {a:Int} (h:eP s a=true):0<=a/\(s.ah.map bj)[a.toNat]? =some (bj (dj s a))/\dj s a∈s.ah:=by
 have h':=eb h
 have dz:a.toNat<s.ah.length:=by omega
 refine⟨h'.1,getD_map bj dz,?_⟩
 unfold dj
 rw[List.getD_eq_getElem?_getD,List.getElem?_eq_getElem dz]
 exact List.getElem_mem dz
theorem ou {t:fe} {d:Int} (h:t.bI.length=4) (hd:iP d 0 3=true):(t.bI.map bq)[d.toNat]? =some [.int .i64 (di t d)]:=by
 have:=eb hd
 exact getD_map bq (by omega)
theorem Bz {t:fe} {d:Int} (h:t.bI.length=4) (hd:iP d 0 3=true):di t d∈t.bI:=by
 have:=eb hd
 have dz:d.toNat<t.bI.length:=by omega
 unfold di
 rw[List.getD_eq_getElem?_getD,List.getElem?_eq_getElem dz]
 exact List.getElem_mem dz
theorem zk {d:Int} (hd:iP d 0 3=true):iP (r7 d) 0 3=true:=by
 have:=eb hd
 refine jg ?_
 rw[r7,if_pos hd];omega
theorem xN (s:aw) (hF:kg s) (a d b:Int) (ha:eP s a=true) (hb:eP s b=true) (hd:iP d 0 3=true):ao Tryz.prog 147 [.cr (ab s),.int .i64 a,.int .i64 d,.int .i64 b] (.int .i64 (gJ s a d b)):=by
 refine ao.body eG rfl fun hl n0=>?_
 clear hl
 obtain⟨a0,a1,a2⟩:=oy ha
 obtain⟨b0,b1,b2⟩:=oy hb
 have s1:=ou (hF.vW _ a2) hd
 have s2:=ou (hF.vW _ b2) (zk hd)
 have gl:=hF.uG _ a2 _ (Bz (hF.vW _ a2) hd)
 have d0:=(eb hd).1
 have d1:=(eb (zk hd)).1
 have h:=B9 d hd
 have hs:=wV s (di (dj s a) d) gl.1 gl.2
 rw[ab]at hs
 by_cases e:di (dj s a) d=di (dj s b) (r7 d)
 ·have e':decide (di (dj s a) d=di (dj s b) (r7 d))=true:=decide_eq_true e
  (repeat(first|((repeat(revert hN;revert N;apply Pn.out));refine wk (tw @ab.eq_1 (tw @bj.eq_1 (tw @a0 (tw @a1 (tw @b0 (tw @b1 (tw @s1 (tw @s2 (tw @d0 (tw @d1 @e')))))))))) ?_;(repeat(refine Pn.mk ?_;intro N hN)))|((try apply Or.inl);refine⟨_,ao.x (h) (sd (tw @ab.eq_1 (tw @bj.eq_1 (tw @a0 (tw @a1 (tw @b0 (tw @b1 (tw @s1 (tw @s2 (tw @d0 (tw @d1 @e'))))))))))),?_⟩;refine hN _ _ ?_;clear hN N)|((try apply Or.inl);refine⟨_,ao.x (hs) (sd (tw @ab.eq_1 (tw @bj.eq_1 (tw @a0 (tw @a1 (tw @b0 (tw @b1 (tw @s1 (tw @s2 (tw @d0 (tw @d1 @e'))))))))))),?_⟩;refine hN _ _ ?_;clear hN N)))
  exact bx (b:=sg s (di (dj s a) d)) (.inl rfl) (sd @Nat.zero_add) (by rw[gJ,if_pos e])
 ·have e':decide (di (dj s a) d=di (dj s b) (r7 d))=false:=decide_eq_false e
  (repeat(first|((repeat(revert hN;revert N;apply Pn.out));refine wk (tw @ab.eq_1 (tw @bj.eq_1 (tw @a0 (tw @a1 (tw @b0 (tw @b1 (tw @s1 (tw @s2 (tw @d0 (tw @d1 @e')))))))))) ?_;(repeat(refine Pn.mk ?_;intro N hN)))|((try apply Or.inl);refine⟨_,ao.x (h) (sd (tw @ab.eq_1 (tw @bj.eq_1 (tw @a0 (tw @a1 (tw @b0 (tw @b1 (tw @s1 (tw @s2 (tw @d0 (tw @d1 @e'))))))))))),?_⟩;refine hN _ _ ?_;clear hN N)))
  exact bx (b:=0) (.inl rfl) (sd @Nat.zero_add) (by rw[gJ,if_neg e])
theorem DD (s:aw) (hF:kg s) (a d:Int) (ha:eP s a=true) (hd:iP d 0 3=true):ao Tryz.prog 185 [.agg (ab s),.int .i64 a,.int .i64 d] (.int .i64 (sg s (di (dj s a) d))):=by
 refine ao.body eG rfl fun hl n0=>?_
 have hn:s.aA.length<=9223372036854775807:=by
  have h1:=(hl (.agg (ab s)) (by simp)).Mf (a:=.sl (s.aA.map bZ)) (by simp[ab])
  simpa using h1.len
 clear hl
 obtain⟨a0,a1,a2⟩:=oy ha
 have s1:=ou (hF.vW _ a2) hd
 have gl:=hF.uG _ a2 _ (Bz (hF.vW _ a2) hd)
 have d0:=(eb hd).1
 by_cases hg:di (dj s a) d=0
 ·have e:¬(0<di (dj s a) d):=by omega
  (try((repeat(revert hN;revert N;apply Pn.out));refine wk (tw @ab.eq_1 (tw @bj.eq_1 (tw @a0 (tw @a1 (tw @s1 (tw @d0 @e)))))) ?_;(repeat(refine Pn.mk ?_;intro N hN))))
  exact bx (b:=0) (.inl rfl) (sd @Nat.zero_add) (by rw[sg,if_pos hg])
 ·have e:0<di (dj s a) d:=by omega
  have hw:IntKind.i64.wrap (di (dj s a) d-1)=di (dj s a) d-1:=bp (by omega)
  have oH:0<=di (dj s a) d-1:=by omega
  have gF:(s.aA.map bZ)[(di (dj s a) d-1).toNat]? =some (bZ (pP s (di (dj s a) d-1))):=getD_map bZ (by omega)
  (try((repeat(revert hN;revert N;apply Pn.out));refine wk (tw @ab.eq_1 (tw @bj.eq_1 (tw @a0 (tw @a1 (tw @s1 (tw @d0 (tw @e (tw @hw (tw @oH (tw @gF @bZ.eq_1)))))))))) ?_;(repeat(refine Pn.mk ?_;intro N hN))))
  exact bx (b:=(pP s (di (dj s a) d-1)).ef) (.inl rfl) (sd @Nat.zero_add) (by rw[sg,if_neg hg])
theorem Hg (s:aw) (hF:kg s) (a d b:Int) (ha:eP s a=true) (hb:eP s b=true) (hd:iP d 0 3=true):ao Tryz.prog 150 [.agg (ab s),.int .i64 a,.int .i64 d,.int .i64 b] (.int .i64 (gJ s a d b)):=by
 refine ao.body eG rfl fun hl n0=>?_
 clear hl
 obtain⟨a0,a1,a2⟩:=oy ha
 obtain⟨b0,b1,b2⟩:=oy hb
 have s1:=ou (hF.vW _ a2) hd
 have s2:=ou (hF.vW _ b2) (zk hd)
 have d0:=(eb hd).1
 have d1:=(eb (zk hd)).1
 have h:=Df d hd
 have hs:=DD s hF a d ha hd
 rw[ab]at hs
 by_cases e:di (dj s a) d=di (dj s b) (r7 d)
 ·have e':decide (di (dj s a) d=di (dj s b) (r7 d))=true:=decide_eq_true e
  (repeat(first|((repeat(revert hN;revert N;apply Pn.out));refine wk (tw @ab.eq_1 (tw @bj.eq_1 (tw @a0 (tw @a1 (tw @b0 (tw @b1 (tw @s1 (tw @s2 (tw @d0 (tw @d1 @e')))))))))) ?_;(repeat(refine Pn.mk ?_;intro N hN)))|((try apply Or.inl);refine⟨_,ao.x (h) (sd (tw @ab.eq_1 (tw @bj.eq_1 (tw @a0 (tw @a1 (tw @b0 (tw @b1 (tw @s1 (tw @s2 (tw @d0 (tw @d1 @e'))))))))))),?_⟩;refine hN _ _ ?_;clear hN N)|((try apply Or.inl);refine⟨_,ao.x (hs) (sd (tw @ab.eq_1 (tw @bj.eq_1 (tw @a0 (tw @a1 (tw @b0 (tw @b1 (tw @s1 (tw @s2 (tw @d0 (tw @d1 @e'))))))))))),?_⟩;refine hN _ _ ?_;clear hN N)))
  exact bx (b:=sg s (di (dj s a) d)) (.inl rfl) (sd @Nat.zero_add) (by rw[gJ,if_pos e])
 ·have e':decide (di (dj s a) d=di (dj s b) (r7 d))=false:=decide_eq_false e
  (repeat(first|((repeat(revert hN;revert N;apply Pn.out));refine wk (tw @ab.eq_1 (tw @bj.eq_1 (tw @a0 (tw @a1 (tw @b0 (tw @b1 (tw @s1 (tw @s2 (tw @d0 (tw @d1 @e')))))))))) ?_;(repeat(refine Pn.mk ?_;intro N hN)))|((try apply Or.inl);refine⟨_,ao.x (h) (sd (tw @ab.eq_1 (tw @bj.eq_1 (tw @a0 (tw @a1 (tw @b0 (tw @b1 (tw @s1 (tw @s2 (tw @d0 (tw @d1 @e'))))))))))),?_⟩;refine hN _ _ ?_;clear hN N)))
  exact bx (b:=0) (.inl rfl) (sd @Nat.zero_add) (by rw[gJ,if_neg e])
end Go.Proofs.YtgoelphibofcmaaGreat.V

namespace Go.Proofs.YtgoelphibofcmaaGreat
open Go.RowKit
def kE (n:Int):Bool:=(decide (97<=n)&&decide (n<=122))||(decide (65<=n)&&decide (n<=90))
def kY (n:Int):Bool:=decide (48<=n)&&decide (n<=57)
def tb (i:Nat) (n:Int):Prop:=kE n=true∨(0<i/\(kY n=true∨n=95))
def ub (s:ByteArray):Prop:=(1<=s.size/\s.size<=12)/\∀i (h:i<s.size),tb i s[i].toNat
open Classical in
noncomputable def jw (s:ByteArray):Bool:=decide (ub s)
theorem Db {s:ByteArray} (h:ub s):true=jw s:=by simp[jw,h]
theorem dJ {s:ByteArray} (h:¬ub s):false=jw s:=by simp[jw,h]
theorem Bk {s:ByteArray} {b:Bool} (hb:b=true) (h:ub s):b=jw s:=by simp[jw,h,hb]
theorem qN {s:ByteArray} {b:Bool} (hb:b=false) (h:¬ub s):b=jw s:=by simp[jw,h,hb]
theorem uZ (w:World) (n:Int):Calls Tryz.prog 212 #[.int .u8 n] w fun e w'=>e=.returned (.bool (kE n))/\w=w':=by
 go_enter Tryz.func212,Tryz.ntmps212
 go_wp2_with fail
 all_goals
  go_ret
  exact⟨iv (by unfold kE;simp[*];try omega),rfl⟩
theorem Fh (w:World) (n:Int):Calls Tryz.prog 213 #[.int .u8 n] w fun e w'=>e=.returned (.bool (kY n))/\w=w':=by
 go_enter Tryz.func213,Tryz.ntmps213
 go_wp2_with fail
 all_goals
  go_ret
  exact⟨iv (by unfold kY;simp[*];try omega),rfl⟩
theorem Bv (w:World) (s:ByteArray) (hs:s.size<=9223372036854775807):Calls Tryz.prog 189 #[.string s] w fun e w'=>e=.returned (.bool (jw s))/\Below w.heap.size w w':=by
 by_cases h1:1<=s.size
 case neg=>
  go_enter Tryz.func189,Tryz.ntmps189
  go_wp2_with fail
  go_ret
  exact⟨iv (dJ fun h=>h1 h.1.1),Below.refl _ _⟩
 by_cases h2:s.size<=12
 case neg=>
  go_enter Tryz.func189,Tryz.ntmps189
  go_wp2_with fail
  go_ret
  exact⟨iv (dJ fun h=>h2 h.1.2),Below.refl _ _⟩
 go_enter Tryz.func189,Tryz.ntmps189
 go_wp2_with fail
 refine(uZ _ _).mono ?_
 rintro e w' ⟨rfl,rfl⟩
 cases h3:kE s[0].toNat
 ·go_wp2_with fail
  go_ret
  exact⟨iv (dJ fun h=>by have:=h.2 0 (by omega);simp only[tb]at this;rw[h3]at this;simp at this),Below.refl _ _⟩
 ·replace h3:=Lib.hid h3
  go_wp2_with fail
  go_loop [3] (fun i=>∃k:Nat,1<=k/\k<=s.size/\i=.int .i64 k/\Hid (∀j (h:j<s.size),j<k->tb j s[j].toNat)) (fun i=>s.size-(intOf i).toNat)
  case atStart=>exact⟨1,by omega,by omega,rfl,Lib.hid fun j h hj=>by
   obtain rfl:j=0:=by omega
   exact .inl h3.out⟩
  case round=>
   obtain⟨k,wC,hk,rfl,dF⟩:=hrel
   by_cases dz:k<s.size
   ·go_wp2_with fail
    refine(uZ _ _).mono ?_
    rintro e w' ⟨rfl,rfl⟩
    have kZ:tb k s[k].toNat∨¬tb k s[k].toNat:=Classical.em _
    cases hl:kE s[k].toNat
    ·go_wp2_with fail
     refine(Fh _ _).mono ?_
     rintro e w' ⟨rfl,rfl⟩
     cases hd:kY s[k].toNat
     ·by_cases tF:(s[k].toNat:Int)=95
      ·have R4:((s[k].toNat:Int) !=95)=false:=by simp;omega
       replace tF:=Lib.hid tF
       replace hl:=Lib.hid hl
       replace hd:=Lib.hid hd
       go_wp2_with fail
       go_round
       case rel=>exact⟨k+1,by omega,by omega,by go_num,Lib.hid fun j h hj=>by
        by_cases xE:j=k
        ·subst xE;exact .inr ⟨by omega,.inr tF.out⟩
        ·exact dF.out j h (by omega)⟩
       case measure=>simp[intOf];omega
      ·have R4:((s[k].toNat:Int) !=95)=true:=by simp;omega
       replace tF:=Lib.hid tF
       replace hl:=Lib.hid hl
       replace hd:=Lib.hid hd
       go_wp2_with fail
       go_ret
       exact⟨iv (dJ fun h=>by
        have:=h.2 k dz;simp only[tb,hl.out,hd.out]at this;exact tF.out (by simp at this;exact this.2)),Below.refl _ _⟩
     ·replace hl:=Lib.hid hl
      replace hd:=Lib.hid hd
      go_wp2_with fail
      go_round
      case rel=>exact⟨k+1,by omega,by omega,by go_num,Lib.hid fun j h hj=>by
       by_cases xE:j=k
       ·subst xE;exact .inr ⟨by omega,.inl hd.out⟩
       ·exact dF.out j h (by omega)⟩
      case measure=>simp[intOf];omega
    ·replace hl:=Lib.hid hl
     go_wp2_with fail
     go_round
     case rel=>exact⟨k+1,by omega,by omega,by go_num,Lib.hid fun j h hj=>by
      by_cases xE:j=k
      ·subst xE;exact .inl hl.out
      ·exact dF.out j h (by omega)⟩
     case measure=>simp[intOf];omega
   ·go_wp2_with fail
    go_ret
    exact⟨iv (Db ⟨⟨h1,h2⟩,fun i h=>dF.out i h (by omega)⟩),Below.refl _ _⟩
theorem AZ (w:World) (s:ByteArray) (hs:s.size<=9223372036854775807):Calls Tryz.prog 198 #[.string s] w fun e w'=>e=.returned (.bool (jw s))/\w=w':=by
 go_enter Tryz.func198,Tryz.ntmps198
 go_wp2_with fail
 go_loop [8] (fun i=>∃k:Nat,k<=s.size/\i=.int .i64 k/\Hid (∀j (h:j<s.size),j<k->tb j s[j].toNat)) (fun i=>s.size-(intOf i).toNat)
 case atStart=>exact⟨0,by omega,rfl,Lib.hid fun j h hj=>by omega⟩
 case round=>
  obtain⟨k,hk,rfl,dF⟩:=hrel
  by_cases dz:k<s.size
  ·have hc:(s[k].toNat:Int)<48∨(48<=(s[k].toNat:Int)/\(s[k].toNat:Int)<=57)∨(58<=(s[k].toNat:Int)/\(s[k].toNat:Int)<=64)∨(65<=(s[k].toNat:Int)/\(s[k].toNat:Int)<=90)∨(91<=(s[k].toNat:Int)/\(s[k].toNat:Int)<=94)∨(95<=(s[k].toNat:Int)/\(s[k].toNat:Int)<=95)∨(96<=(s[k].toNat:Int)/\(s[k].toNat:Int)<=96)∨(97<=(s[k].toNat:Int)/\(s[k].toNat:Int)<=122)∨123<=(s[k].toNat:Int):=by omega
   by_cases wz:k=0
   ·subst wz
    rcases hc with h|⟨h,h'⟩|⟨h,h'⟩|⟨h,h'⟩|⟨h,h'⟩|⟨h,h'⟩|⟨h,h'⟩|⟨h,h'⟩|h
    ·have tF:((s[0].toNat:Int) !=95)=true:=by simp;try omega
     go_wp2_with fail
     all_goals first
      |(go_ret;exact⟨iv (dJ fun hh=>by have:=hh.2 0 dz;simp[tb,kE,kY]at this;omega),rfl⟩)
      |(exfalso;simp_all;done)
      |(exfalso;simp_all;omega)
    ·have tF:((s[0].toNat:Int) !=95)=true:=by simp;try omega
     go_wp2_with fail
     all_goals first
      |(go_ret;exact⟨iv (dJ fun hh=>by have:=hh.2 0 dz;simp[tb,kE,kY]at this;omega),rfl⟩)
      |(exfalso;simp_all;done)
      |(exfalso;simp_all;omega)
    ·have tF:((s[0].toNat:Int) !=95)=true:=by simp;try omega
     go_wp2_with fail
     all_goals first
      |(go_ret;exact⟨iv (dJ fun hh=>by have:=hh.2 0 dz;simp[tb,kE,kY]at this;omega),rfl⟩)
      |(exfalso;simp_all;done)
      |(exfalso;simp_all;omega)
    ·have tF:((s[0].toNat:Int) !=95)=true:=by simp;try omega
     go_wp2_with fail
     go_round
     case rel=>exact⟨0+1,by omega,by go_num,Lib.hid fun j hj xE=>by
      by_cases HO:j=0
      ·subst HO;simp[tb,kE,kY];omega
      ·exact dF.out j hj (by omega)⟩
     case measure=>simp[intOf];try omega
    ·have tF:((s[0].toNat:Int) !=95)=true:=by simp;try omega
     go_wp2_with fail
     all_goals first
      |(go_ret;exact⟨iv (dJ fun hh=>by have:=hh.2 0 dz;simp[tb,kE,kY]at this;omega),rfl⟩)
      |(exfalso;simp_all;done)
      |(exfalso;simp_all;omega)
    ·have tF:((s[0].toNat:Int) !=95)=false:=by simp;try omega
     go_wp2_with fail
     all_goals first
      |(go_ret;exact⟨iv (dJ fun hh=>by have:=hh.2 0 dz;simp[tb,kE,kY]at this;omega),rfl⟩)
      |(exfalso;simp_all;done)
      |(exfalso;simp_all;omega)
    ·have tF:((s[0].toNat:Int) !=95)=true:=by simp;try omega
     go_wp2_with fail
     all_goals first
      |(go_ret;exact⟨iv (dJ fun hh=>by have:=hh.2 0 dz;simp[tb,kE,kY]at this;omega),rfl⟩)
      |(exfalso;simp_all;done)
      |(exfalso;simp_all;omega)
    ·have tF:((s[0].toNat:Int) !=95)=true:=by simp;try omega
     go_wp2_with fail
     go_round
     case rel=>exact⟨0+1,by omega,by go_num,Lib.hid fun j hj xE=>by
      by_cases HO:j=0
      ·subst HO;simp[tb,kE,kY];omega
      ·exact dF.out j hj (by omega)⟩
     case measure=>simp[intOf];try omega
    ·have tF:((s[0].toNat:Int) !=95)=true:=by simp;try omega
     go_wp2_with fail
     all_goals first
      |(go_ret;exact⟨iv (dJ fun hh=>by have:=hh.2 0 dz;simp[tb,kE,kY]at this;omega),rfl⟩)
      |(exfalso;simp_all;done)
      |(exfalso;simp_all;omega)
   ·have hz:((k:Int)==0)=false:=by simpa using wz
    have wC:1<=k:=by omega
    clear wz
    rcases hc with h|⟨h,h'⟩|⟨h,h'⟩|⟨h,h'⟩|⟨h,h'⟩|⟨h,h'⟩|⟨h,h'⟩|⟨h,h'⟩|h
    ·have tF:((s[k].toNat:Int) !=95)=true:=by simp;try omega
     go_wp2_with fail
     all_goals first
      |(go_ret;exact⟨iv (dJ fun hh=>by have:=hh.2 k dz;simp[tb,kE,kY]at this;omega),rfl⟩)
      |(exfalso;simp_all;done)
      |(exfalso;simp_all;omega)
    ·have tF:((s[k].toNat:Int) !=95)=true:=by simp;try omega
     go_wp2_with fail
     go_round
     case rel=>exact⟨k+1,by omega,by go_num,Lib.hid fun j hj xE=>by
      by_cases HO:j=k
      ·subst HO;simp[tb,kE,kY];omega
      ·exact dF.out j hj (by omega)⟩
     case measure=>simp[intOf];try omega
    ·have tF:((s[k].toNat:Int) !=95)=true:=by simp;try omega
     go_wp2_with fail
     all_goals first
      |(go_ret;exact⟨iv (dJ fun hh=>by have:=hh.2 k dz;simp[tb,kE,kY]at this;omega),rfl⟩)
      |(exfalso;simp_all;done)
      |(exfalso;simp_all;omega)
    ·have tF:((s[k].toNat:Int) !=95)=true:=by simp;try omega
     go_wp2_with fail
     go_round
     case rel=>exact⟨k+1,by omega,by go_num,Lib.hid fun j hj xE=>by
      by_cases HO:j=k
      ·subst HO;simp[tb,kE,kY];omega
      ·exact dF.out j hj (by omega)⟩
     case measure=>simp[intOf];try omega
    ·have tF:((s[k].toNat:Int) !=95)=true:=by simp;try omega
     go_wp2_with fail
     all_goals first
      |(go_ret;exact⟨iv (dJ fun hh=>by have:=hh.2 k dz;simp[tb,kE,kY]at this;omega),rfl⟩)
      |(exfalso;simp_all;done)
      |(exfalso;simp_all;omega)
    ·have tF:((s[k].toNat:Int) !=95)=false:=by simp;try omega
     go_wp2_with fail
     go_round
     case rel=>exact⟨k+1,by omega,by go_num,Lib.hid fun j hj xE=>by
      by_cases HO:j=k
      ·subst HO;simp[tb,kE,kY];omega
      ·exact dF.out j hj (by omega)⟩
     case measure=>simp[intOf];try omega
    ·have tF:((s[k].toNat:Int) !=95)=true:=by simp;try omega
     go_wp2_with fail
     all_goals first
      |(go_ret;exact⟨iv (dJ fun hh=>by have:=hh.2 k dz;simp[tb,kE,kY]at this;omega),rfl⟩)
      |(exfalso;simp_all;done)
      |(exfalso;simp_all;omega)
    ·have tF:((s[k].toNat:Int) !=95)=true:=by simp;try omega
     go_wp2_with fail
     go_round
     case rel=>exact⟨k+1,by omega,by go_num,Lib.hid fun j hj xE=>by
      by_cases HO:j=k
      ·subst HO;simp[tb,kE,kY];omega
      ·exact dF.out j hj (by omega)⟩
     case measure=>simp[intOf];try omega
    ·have tF:((s[k].toNat:Int) !=95)=true:=by simp;try omega
     go_wp2_with fail
     all_goals first
      |(go_ret;exact⟨iv (dJ fun hh=>by have:=hh.2 k dz;simp[tb,kE,kY]at this;omega),rfl⟩)
      |(exfalso;simp_all;done)
      |(exfalso;simp_all;omega)
  ·by_cases h1:1<=s.size
   ·by_cases h2:s.size<=12
    ·go_wp2_with fail
     go_ret
     exact⟨iv (Bk (by simp<;>omega) ⟨⟨h1,h2⟩,fun i h=>dF.out i h (by omega)⟩),rfl⟩
    ·go_wp2_with fail
     go_ret
     exact⟨iv (qN (by simp<;>omega) fun h=>h2 h.1.2),rfl⟩
   ·go_wp2_with fail
    go_ret
    exact⟨iv (qN (by simp<;>omega) fun h=>h1 h.1.1),rfl⟩
end Go.Proofs.YtgoelphibofcmaaGreat

namespace Go.Proofs.YtgoelphibofcmaaGreat.V
open Go.RowKit
theorem mixed:Tryz.prog.follows .mixedOrders=true:=by kernel_rfl
variable {P:Program} {w:World} {D:Nat->Prop} {ι:Names}
theorem pz {f:Nat} {args:List AV} {r:AV} {Tr:Array Value} {u0:Value} (mY:∀(w:World) (D:Nat->Prop) (ι:Names) vs,fh P w D ι args vs->vs=Tr) (hr:∀(w:World) (D:Nat->Prop) (ι:Names),cq P w D ι r u0) (BU:∀g,fY g 6 r=some r)
  (h:∀w,Calls P f Tr w fun e w'=>e=.returned u0/\Below w.heap.size w w'):ao P f args r:=by
 intro n
 refine gz fun hs D ι w vs S U A=>?_
 have:=mY w D ι vs A
 subst this
 refine(h w).mono ?_
 rintro e w' ⟨rfl,hb⟩
 exact⟨r,_,n,D,ι,u0,rfl,⟨r,BU _,rfl⟩,Step.stay S hb.block hb.size hb.os hb.tape hb.output (fun _ h=>h) (fun _ h=>.inl h) (fun _ _ h=>h),
  S.stay hb.block hb.size (fun _ h=>h) (fun b hd=>Nat.lt_of_lt_of_le (S.dead b hd) hb.size) (fun _ h=>.inl h) (fun _ _ h=>h),U,Nat.le_refl _,hr _ _ _⟩
theorem Bs {s:ByteArray} {vs:Array Value} (h:fh P w D ι [.str s] vs):vs= #[.string s]:=by
 obtain⟨h1,h2⟩:=h
 obtain⟨u,hu,hr⟩:=h2 0 _ rfl
 rw[fq hr]at hu
 obtain⟨l⟩:=vs
 cases l with
 |nil=>simp at h1
 |cons a l=>cases l with
  |nil=>simp at hu;subst hu;rfl
  |cons b l=>simp at h1
theorem EH (s:ByteArray) (hs:s.size<=9223372036854775807):ao Tryz.prog 189 [.str s] (.bool (jw s)):=
 pz (fun _ _ _ _=>Bs) (fun _ _ _=>.eF _ _ (.bool _)) (fun g=>dU g 5 _) fun w=>Bv w s hs
theorem Ev (s:ByteArray) (hs:s.size<=9223372036854775807):ao Tryz.prog 198 [.str s] (.bool (jw s)):=
 pz (fun _ _ _ _=>Bs) (fun _ _ _=>.eF _ _ (.bool _)) (fun g=>dU g 5 _) fun w=>(AZ w s hs).mono (by rintro e w' ⟨rfl,rfl⟩;exact⟨rfl,Below.refl _ _⟩)
end Go.Proofs.YtgoelphibofcmaaGreat.V

namespace Go.Proofs.YtgoelphibofcmaaGreat.V
open Go.RowKit
attribute [local irreducible] dD wpOps gI Call
attribute [local go_sem] aK fW eU gE gy cE upd ck K.av cN AV.cells AV.cell rowOf rowsOf part ld rowAt bB bY dO ev iI bK db eI gr e8 dx eB cZ cY ea ec bQ aY cQ bP cU cR ez eC eA cP bV da ew bL aL cW cF iH bz cK bR aU dh aT dP AV.undef bF bG eh eu dX dY cI eH eK cD eE eD cV cX List.getD_cons_zero List.getD_cons_succ List.getD_nil List.all_cons List.all_nil Bool.and_true Bool.true_and Bool.and_self Bool.not_true Bool.not_false Option.map_some Option.map_none Option.bind_some Option.bind_none List.length_cons List.length_nil List.take_succ_cons List.take_zero List.take_nil List.drop_succ_cons List.drop_zero List.drop_nil List.head?_cons List.map_cons List.map_nil List.getElem?_cons_zero List.getElem?_cons_succ List.cons_append List.nil_append List.append_nil List.length_map List.set_cons_zero List.set_cons_succ Nat.reduceMul eq_self Int.toNat_natCast Int.natCast_nonneg and_self true_and and_true decide_true decide_false Bool.false_eq_true Nat.zero_add Nat.add_zero List.contains_cons List.contains_nil Bool.or_false Bool.false_or beq_self_eq_true Nat.reduceBEq ne_eq not_true_eq_false not_false_eq_true Id.mk.injEq false_and and_false Nat.reduceLT Int.reduceLE Int.reduceLT Int.reduceToNat Int.reduceNeg Int.reduceAdd Nat.le_refl List.length_append beq_true beq_false Bool.not_eq_eq_eq_not or_false false_or dQ aj aq aH bd bE cm aW bc aN bf cL bU
def pb (s:aw) (i:Nat):gO:=s.aA.getD i ⟨⟨#[]⟩,0⟩
def ox (s:aw) (i:Nat):fe:=s.ah.getD i zj
def B6 (s:aw) (i:Nat):Prop:=jw (pb s i).aD=true/\iP (pb s i).ef 1 4=true/\∀j,j<i->(pb s j).aD≠(pb s i).aD
def Ad (s:aw) (i:Nat):Prop:=jw (ox s i).aD=true/\(ox s i).bI.length=4/\(∀j,j<i->(ox s j).aD≠(ox s i).aD)/\∀g∈(ox s i).bI,iP g 0 s.aA.length=true
structure gZ (s:aw):Prop where
 uG:s.aA.length<=200
 some:1<=s.ah.length
 BE:s.ah.length<=160
 QR:∀i,i<s.aA.length->B6 s i
 tok:∀i,i<s.ah.length->Ad s i
noncomputable def qg (s:aw):Bool:=@decide (gZ s) (Classical.propDecidable _)
theorem lX {s:aw}:qg s=true↔gZ s:=by simp[qg]
theorem ft {s:aw} (h:¬gZ s):false=qg s:=by simp[qg,h]
theorem By {s:aw} (h:gZ s):true=qg s:=by simp[qg,h]
theorem zE {s:aw} {i:Nat} (h:i<s.ah.length):(s.ah.map bj)[i]? =some (bj (ox s i)):=getD_map bj h
theorem yK {s:aw} {i:Nat} (h:i<s.aA.length):(s.aA.map bZ)[i]? =some (bZ (pb s i)):=getD_map bZ h
theorem gZ.form {s:aw} (h:gZ s):kg s:=by
 have key:∀t∈s.ah,∃i,i<s.ah.length/\t=ox s i:=fun t ht=>by
  obtain⟨i,hi,rfl⟩:=List.getElem_of_mem ht
  exact⟨i,hi,by simp[ox,List.getD_eq_getElem?_getD,hi]⟩
 refine⟨fun t ht=>?_,fun t ht g hg=>?_⟩
 ·obtain⟨i,hi,rfl⟩:=key t ht
  exact(h.tok i hi).2.1
 ·obtain⟨i,hi,rfl⟩:=key t ht
  exact eb ((h.tok i hi).2.2.2 g hg)
def dq (l:List ByteArray):List (List AV):=l.map fun n=>[.str n,.bool true]
abbrev mS:MK:=⟨false,[.tS]⟩
theorem ya (n:ByteArray):∀(l:List ByteArray) (i:Nat),∃r,fN mS [.str n] (dq l) i=some r/\((r=none/\n∉l)∨∃j,r=some (i+j)/\n∈l/\(dq l)[j]? =some [.str n,.bool true])
 |[],i=>⟨none,rfl,.inl ⟨rfl,by simp⟩⟩
 |m::l,i=>by
  obtain⟨r,h1,h2⟩:=ya n l (i+1)
  by_cases h:n=m
  ·subst h
   exact⟨some i,by simp[dq,fN,e8,gr,MK.ks],.inr ⟨0,rfl,by simp,rfl⟩⟩
  ·refine⟨r,?_,?_⟩
   ·unfold dq at h1 ⊢
    simp only[List.map_cons,fN,MK.ks,List.length_cons,List.length_nil,Nat.zero_add,List.take_succ_cons,List.take_zero,e8,gr,h,decide_false,Bool.and_true]
    exact h1
   ·rcases h2 with⟨rfl,h2⟩|⟨j,rfl,h2,h3⟩
    ·exact .inl ⟨rfl,by simp[h,h2]⟩
    ·exact .inr ⟨j+1,by congr 1;omega,by simp[h2],by simpa[dq]using h3⟩
theorem vU (n:ByteArray) (l:List ByteArray):(n∉l/\fE mS (.str n) (dq l)=some none)∨∃j,n∈l/\fE mS (.str n) (dq l)=some (some j)/\(dq l)[j]? =some [.str n,.bool true]:=by
 obtain⟨r,h1,h2⟩:=ya n l 0
 have e:fE mS (.str n) (dq l)=some r:=by
  unfold fE
  rw[if_pos ⟨rfl,rfl,rfl⟩];exact h1
 rcases h2 with⟨rfl,h2⟩|⟨j,rfl,h2,h3⟩
 ·exact .inl ⟨h2,e⟩
 ·exact .inr ⟨j,h2,by rw[e,Nat.zero_add],h3⟩
theorem NQ (s:aw) (g:Int):ao Tryz.prog 200 [.int .i64 g,.cr (ab s)] (.bool (!iP g 0 s.aA.length)):=by
 refine ao.body eG rfl fun hl n0=>?_
 clear hl
 have h:=kP g 0 s.aA.length
 (repeat(first|((repeat(revert hN;revert N;apply Pn.out));refine wk @ab.eq_1 ?_;(repeat(refine Pn.mk ?_;intro N hN)))|((try apply Or.inl);refine⟨_,ao.x (h) (sd @ab.eq_1),?_⟩;refine hN _ _ ?_;clear hN N)))
 exact aI (b:= !iP g 0 s.aA.length) (.inl rfl) (sd @Nat.zero_add) rfl
theorem JZ:On bq (fun c=>.int .i64 c) 1 false:=⟨fun _=>rfl,fun _=>rfl,fun x g=>by rw[aj,aH,aq];rfl⟩
theorem KY (s:aw) (l:List Int) (hl:l.length<=1048576):ao Tryz.prog 199 [.sl (l.map bq),.fn 200 [.cr (ab s)]] (.bool (l.any fun g=> !iP g 0 s.aA.length)):=
 kq JZ (show ns Tryz.prog 199=some (yO 199 224) by kernel_rfl)
  (show ns Tryz.prog 224=some (pV 224 1 false) by kernel_rfl) l hl _ _ _ rfl (fun g=>by rw[aj,aN,aq];rfl) (fun x _=>NQ s x) fun g=>by rw[aj,aN,aq];rfl
theorem vk {α:Type} (f:Nat->α) (n k:Nat) (x:α):x∉(List.range k).map f↔∀j,j<k->f j≠x:=by
 constructor
 ·intro h j hj he
  exact h (List.mem_map.2 ⟨j,List.mem_range.2 hj,he⟩)
 ·intro h hm
  obtain⟨j,hj,he⟩:=List.mem_map.1 hm
  exact h j (List.mem_range.1 hj) he
theorem Cb (s:aw) (hn:fJ s) (hg:s.aA.length<=1048576) (ht:s.ah.length<=1048576) (hs:∀t∈s.ah,t.bI.length<=1048576):ao Tryz.prog 164 [.agg (ab s)] (.bool (qg s)):=by
 refine ao.body eG rfl fun hl n0=>?_
 clear hl
 have PL:∀i,i<s.aA.length->(pb s i).aD.size<=9223372036854775807:=fun i hi=>hn.1 _ (by simp[pb,List.getD_eq_getElem?_getD,hi])
 have Ns:∀i,i<s.ah.length->(ox s i).aD.size<=9223372036854775807:=fun i hi=>hn.2 _ (by simp[ox,List.getD_eq_getElem?_getD,hi])
 have wT:∀i,i<s.ah.length->(ox s i).bI.length<=1048576:=fun i hi=>hs _ (by simp[ox,List.getD_eq_getElem?_getD,hi])
 have hw:=kP (s.ah.length:Int) 1 160
 by_cases h1:(200:Int)<(s.aA.length:Int)
 ·(try((repeat(revert hN;revert N;apply Pn.out));refine wk (tw @ab.eq_1 @h1) ?_;(repeat(refine Pn.mk ?_;intro N hN))))
  exact aI (b:=false) (.inl rfl) (sd @Nat.zero_add) (ft fun h=>by have:=h.uG;omega)
 by_cases h2:iP (s.ah.length:Int) 1 160=true
 ·have BS:=eb h2
  rw[h2]at hw
  (repeat(first|((repeat(revert hN;revert N;apply Pn.out));refine wk (tw @ab.eq_1 @h1) ?_;(repeat(refine Pn.mk ?_;intro N hN)))|((try apply Or.inl);refine⟨_,ao.x (hw) (sd (tw @ab.eq_1 @h1)),?_⟩;refine hN _ _ ?_;clear hN N)))
  refine aJ (fun n env st=>∃k:Nat,n=(s.aA.length)-k/\k<=(s.aA.length)/\env 24=.int .i64 (k:Int)/\st.get ⟨164000000,n0⟩=some ⟨true,2,[ab s]⟩/\st.get ⟨164003000,n0+1+1⟩=some ⟨true,mS.nA,dq ((List.range k).map fun i=>(pb s i).aD)⟩/\(∀j:Nat,j<k->B6 s j)) (s.aA.length) ⟨0,by omega,by omega,by(try simp only[go_sem, ↓reduceIte,Nat.reduceEqDiff,Nat.reduceAdd,Nat.reduceSub,Nat.reduceLeDiff,reduceCtorEq,ab,List.range_zero,List.map_nil,dq]);try rfl,by(try simp only[go_sem, ↓reduceIte,Nat.reduceEqDiff,Nat.reduceAdd,Nat.reduceSub,Nat.reduceLeDiff,reduceCtorEq,ab,List.range_zero,List.map_nil,dq]);try rfl,by(try simp only[go_sem, ↓reduceIte,Nat.reduceEqDiff,Nat.reduceAdd,Nat.reduceSub,Nat.reduceLeDiff,reduceCtorEq,ab,List.range_zero,List.map_nil,dq]);try rfl,fun _ h=>absurd h (Nat.not_lt_zero _)⟩ ?_
  rintro n_a env_a st_a ⟨k,rfl,ale,a24,ag0,ag1,kR⟩ dv
  have a1:=dv 1 (by kernel_rfl);have a3:=dv 3 (by kernel_rfl);have a22:=dv 22 (by kernel_rfl);have a23:=dv 23 (by kernel_rfl)
  simp only[go_sem, ↓reduceIte,Nat.reduceEqDiff,Nat.reduceAdd,Nat.reduceSub,Nat.reduceLeDiff,reduceCtorEq,ab,List.range_zero,List.map_nil,dq]at a1 a3 a22 a23
  clear dv
  by_cases hk:(k:Int)<(s.aA.length:Int)
  ·have cw:∀{e:Env} {gg:Rows},(e 24=.int .i64 (IntKind.i64.wrap ((k:Int)+1)))->(gg ⟨164000000,n0⟩=some ⟨true,2,[ab s]⟩)->(gg ⟨164003000,n0+1+1⟩=some ⟨true,mS.nA,dq ((List.range (k+1)).map fun i=>(pb s i).aD)⟩)->(B6 s k)->∃m0,m0<(s.aA.length)-k/\∃k:Nat,m0=(s.aA.length)-k/\k<=(s.aA.length)/\e 24=.int .i64 (k:Int)/\gg ⟨164000000,n0⟩=some ⟨true,2,[ab s]⟩/\gg ⟨164003000,n0+1+1⟩=some ⟨true,mS.nA,dq ((List.range k).map fun i=>(pb s i).aD)⟩/\(∀j:Nat,j<k->B6 s j):=fun x1 x2 x3 x4=>⟨_,by omega,k+1,rfl,by omega,(by rw[x1,ax (by omega)]),x2,x3,(all_succ kR x4)⟩
   have e7:k<s.aA.length:=by omega
   have eJ:=yK e7
   have rD:=Ev (pb s k).aD (PL k e7)
   have JF:=kP (pb s k).ef 1 4
   have AR:=vU (pb s k).aD ((List.range k).map fun i=>(pb s i).aD)
   rw[vk _ k]at AR
   have kZ:(¬B6 s k)->¬gZ s:=fun h hp=>h (hp.QR k e7)
   generalize tK:pb s k=gl at *
   cases hb:jw gl.aD
   ·rw[hb]at rD
    (repeat(first|((repeat(revert hN;revert N;apply Pn.out));refine wk (tw @a24 (tw @ag0 (tw @ag1 (tw @a1 (tw @a3 (tw @a22 (tw @a23 (tw @hk (tw @eJ (tw @bZ.eq_1 @ab.eq_1)))))))))) ?_;(repeat(refine Pn.mk ?_;intro N hN)))|((try apply Or.inl);refine⟨_,ao.x (rD) (sd (tw @a24 (tw @ag0 (tw @ag1 (tw @a1 (tw @a3 (tw @a22 (tw @a23 (tw @hk (tw @eJ (tw @bZ.eq_1 @ab.eq_1))))))))))),?_⟩;refine hN _ _ ?_;clear hN N)))
    exact aI (b:=false) (.inl rfl) (sd @Nat.zero_add) (ft (kZ fun h=>by rw[B6,tK,hb]at h;cases h.1))
   ·rw[hb]at rD
    rcases AR with⟨CJ,l9⟩|⟨j,fB,l9,fA⟩
    ·cases dc:iP gl.ef 1 4
     ·rw[dc]at JF
      (repeat(first|((repeat(revert hN;revert N;apply Pn.out));refine wk (tw @a24 (tw @ag0 (tw @ag1 (tw @a1 (tw @a3 (tw @a22 (tw @a23 (tw @hk (tw @eJ (tw @l9 (tw @bZ.eq_1 @ab.eq_1))))))))))) ?_;(repeat(refine Pn.mk ?_;intro N hN)))|((try apply Or.inl);refine⟨_,ao.x (rD) (sd (tw @a24 (tw @ag0 (tw @ag1 (tw @a1 (tw @a3 (tw @a22 (tw @a23 (tw @hk (tw @eJ (tw @l9 (tw @bZ.eq_1 @ab.eq_1)))))))))))),?_⟩;refine hN _ _ ?_;clear hN N)|((try apply Or.inl);refine⟨_,ao.x (JF) (sd (tw @a24 (tw @ag0 (tw @ag1 (tw @a1 (tw @a3 (tw @a22 (tw @a23 (tw @hk (tw @eJ (tw @l9 (tw @bZ.eq_1 @ab.eq_1)))))))))))),?_⟩;refine hN _ _ ?_;clear hN N)))
      exact aI (b:=false) (.inl rfl) (sd @Nat.zero_add) (ft (kZ fun h=>by rw[B6,tK,dc]at h;cases h.2.1))
     ·rw[dc]at JF
      have iU:dq ((List.range k).map fun i=>(pb s i).aD)++[[.str gl.aD,.bool true]]=dq (List.map (fun i=>(pb s i).aD) (List.range k++[k])):=by simp[dq,tK]
      (repeat(first|((repeat(revert hN;revert N;apply Pn.out));refine wk (tw @a24 (tw @ag0 (tw @ag1 (tw @a1 (tw @a3 (tw @a22 (tw @a23 (tw @hk (tw @eJ (tw @l9 (tw @bZ.eq_1 @ab.eq_1))))))))))) ?_;(repeat(refine Pn.mk ?_;intro N hN)))|((try apply Or.inl);refine⟨_,ao.x (rD) (sd (tw @a24 (tw @ag0 (tw @ag1 (tw @a1 (tw @a3 (tw @a22 (tw @a23 (tw @hk (tw @eJ (tw @l9 (tw @bZ.eq_1 @ab.eq_1)))))))))))),?_⟩;refine hN _ _ ?_;clear hN N)|((try apply Or.inl);refine⟨_,ao.x (JF) (sd (tw @a24 (tw @ag0 (tw @ag1 (tw @a1 (tw @a3 (tw @a22 (tw @a23 (tw @hk (tw @eJ (tw @l9 (tw @bZ.eq_1 @ab.eq_1)))))))))))),?_⟩;refine hN _ _ ?_;clear hN N)))
      refine cw ?_ ?_ ?_ (⟨by rw[tK];exact hb,by rw[tK];exact dc,fun j hj=>by rw[tK];exact CJ j hj⟩)
      all_goals simp only[go_sem, ↓reduceIte,Nat.reduceEqDiff,Nat.reduceAdd,Nat.reduceSub,Nat.reduceLeDiff,reduceCtorEq,a24,ag0,ag1,a1,a3,a22,a23,l9,iU]
    ·(repeat(first|((repeat(revert hN;revert N;apply Pn.out));refine wk (tw @a24 (tw @ag0 (tw @ag1 (tw @a1 (tw @a3 (tw @a22 (tw @a23 (tw @hk (tw @eJ (tw @l9 (tw @fA (tw @bZ.eq_1 @ab.eq_1)))))))))))) ?_;(repeat(refine Pn.mk ?_;intro N hN)))|((try apply Or.inl);refine⟨_,ao.x (rD) (sd (tw @a24 (tw @ag0 (tw @ag1 (tw @a1 (tw @a3 (tw @a22 (tw @a23 (tw @hk (tw @eJ (tw @l9 (tw @fA (tw @bZ.eq_1 @ab.eq_1))))))))))))),?_⟩;refine hN _ _ ?_;clear hN N)))
     exact aI (b:=false) (.inl rfl) (sd @Nat.zero_add) (ft (kZ fun h=>by
      rw[B6,tK]at h
      obtain⟨i,hi,he⟩:=List.mem_map.1 fB
      exact h.2.2 i (List.mem_range.1 hi) he))
  ·have kW:k=s.aA.length:=by omega
   (try((repeat(revert hN;revert N;apply Pn.out));refine wk (tw @a24 (tw @ag0 (tw @ag1 (tw @a1 (tw @a3 (tw @a22 (tw @a23 (tw @hk @ab.eq_1)))))))) ?_;(repeat(refine Pn.mk ?_;intro N hN))))
   refine aJ (fun n env st=>∃j:Nat,n=(s.ah.length)-j/\j<=(s.ah.length)/\env 52=.int .i64 (j:Int)/\st.get ⟨164000000,n0⟩=some ⟨true,2,[ab s]⟩/\st.get ⟨164011000,st_a.next+1⟩=some ⟨true,mS.nA,dq ((List.range j).map fun i=>(ox s i).aD)⟩/\(∀i:Nat,i<j->Ad s i)/\(st_a.next<st.next)) (s.ah.length) ⟨0,by omega,by omega,by(try simp only[go_sem, ↓reduceIte,Nat.reduceEqDiff,Nat.reduceAdd,Nat.reduceSub,Nat.reduceLeDiff,reduceCtorEq,a24,ag0,ag1,a1,a3,a22,a23,ab,List.range_zero,List.map_nil,dq]);try rfl,by(try simp only[go_sem, ↓reduceIte,Nat.reduceEqDiff,Nat.reduceAdd,Nat.reduceSub,Nat.reduceLeDiff,reduceCtorEq,a24,ag0,ag1,a1,a3,a22,a23,ab,List.range_zero,List.map_nil,dq]);try rfl,by(try simp only[go_sem, ↓reduceIte,Nat.reduceEqDiff,Nat.reduceAdd,Nat.reduceSub,Nat.reduceLeDiff,reduceCtorEq,a24,ag0,ag1,a1,a3,a22,a23,ab,List.range_zero,List.map_nil,dq]);try rfl,fun _ h=>absurd h (Nat.not_lt_zero _),(by(try dsimp only);omega)⟩ ?_
   rintro n_b env_b st_b ⟨j,rfl,ble,b52,bg0,bg1,bA0,bI0⟩ ej
   have b1:=ej 1 (by kernel_rfl);have b6:=ej 6 (by kernel_rfl);have Cf:=ej 50 (by kernel_rfl);have Cg:=ej 51 (by kernel_rfl)
   simp only[go_sem, ↓reduceIte,Nat.reduceEqDiff,Nat.reduceAdd,Nat.reduceSub,Nat.reduceLeDiff,reduceCtorEq,a24,ag0,ag1,a1,a3,a22,a23,ab,List.range_zero,List.map_nil,dq]at b1 b6 Cf Cg
   clear ej
   by_cases hj:(j:Int)<(s.ah.length:Int)
   ·have eL:∀{e:Env} {gg:Rows} {nx:Nat},(e 52=.int .i64 (IntKind.i64.wrap ((j:Int)+1)))->(gg ⟨164000000,n0⟩=some ⟨true,2,[ab s]⟩)->(gg ⟨164011000,st_a.next+1⟩=some ⟨true,mS.nA,dq ((List.range (j+1)).map fun i=>(ox s i).aD)⟩)->(Ad s j)->(st_a.next<nx)->∃m0,m0<(s.ah.length)-j/\∃j:Nat,m0=(s.ah.length)-j/\j<=(s.ah.length)/\e 52=.int .i64 (j:Int)/\gg ⟨164000000,n0⟩=some ⟨true,2,[ab s]⟩/\gg ⟨164011000,st_a.next+1⟩=some ⟨true,mS.nA,dq ((List.range j).map fun i=>(ox s i).aD)⟩/\(∀i:Nat,i<j->Ad s i)/\(st_a.next<nx):=fun x1 x2 x3 x4 x5=>⟨_,by omega,j+1,rfl,by omega,(by rw[x1,ax (by omega)]),x2,x3,(all_succ bA0 x4),x5⟩
    have nu:j<s.ah.length:=by omega
    have mZ:=zE nu
    have rD:=Ev (ox s j).aD (Ns j nu)
    have Rs:=KY s (ox s j).bI (wT j nu)
    have AR:=vU (ox s j).aD ((List.range j).map fun i=>(ox s i).aD)
    rw[vk _ j]at AR
    have kZ:(¬Ad s j)->¬gZ s:=fun h hp=>h (hp.tok j nu)
    have fZ:(⟨164011000,st_a.next+1⟩:Id)≠⟨164000000,n0⟩:=by simp
    generalize htd:ox s j=tl at *
    cases hb:jw tl.aD
    ·rw[hb]at rD
     (repeat(first|((repeat(revert hN;revert N;apply Pn.out));refine wk (tw @b52 (tw @bg0 (tw @bg1 (tw @b1 (tw @b6 (tw @Cf (tw @Cg (tw @hj (tw @mZ (tw @bj.eq_1 @ab.eq_1)))))))))) ?_;(repeat(refine Pn.mk ?_;intro N hN)))|((try apply Or.inl);refine⟨_,ao.x (rD) (sd (tw @b52 (tw @bg0 (tw @bg1 (tw @b1 (tw @b6 (tw @Cf (tw @Cg (tw @hj (tw @mZ (tw @bj.eq_1 @ab.eq_1))))))))))),?_⟩;refine hN _ _ ?_;clear hN N)))
     exact aI (b:=false) (.inl rfl) (sd @Nat.zero_add) (ft (kZ fun h=>by rw[Ad,htd,hb]at h;cases h.1))
    ·rw[hb]at rD
     rcases AR with⟨CJ,l9⟩|⟨i,fB,l9,fA⟩
     ·by_cases h4:(tl.bI.length:Int)=4
      ·have yM:decide ((tl.bI.length:Int)=4)=true:=decide_eq_true h4
       cases hany:tl.bI.any fun g=> !iP g 0 s.aA.length
       ·rw[hany]at Rs
        have iU:dq ((List.range j).map fun i=>(ox s i).aD)++[[.str tl.aD,.bool true]]=dq (List.map (fun i=>(ox s i).aD) (List.range j++[j])):=by simp[dq,htd]
        (repeat(first|((repeat(revert hN;revert N;apply Pn.out));refine wk (tw @b52 (tw @bg0 (tw @bg1 (tw @b1 (tw @b6 (tw @Cf (tw @Cg (tw @hj (tw @mZ (tw @l9 (tw @yM (tw @bj.eq_1 @ab.eq_1)))))))))))) ?_;(repeat(refine Pn.mk ?_;intro N hN)))|((try apply Or.inl);refine⟨_,ao.x (rD) (sd (tw @b52 (tw @bg0 (tw @bg1 (tw @b1 (tw @b6 (tw @Cf (tw @Cg (tw @hj (tw @mZ (tw @l9 (tw @yM (tw @bj.eq_1 @ab.eq_1))))))))))))),?_⟩;refine hN _ _ ?_;clear hN N)|((try apply Or.inl);refine⟨_,ao.x (Rs) (sd (tw @b52 (tw @bg0 (tw @bg1 (tw @b1 (tw @b6 (tw @Cf (tw @Cg (tw @hj (tw @mZ (tw @l9 (tw @yM (tw @bj.eq_1 @ab.eq_1))))))))))))),?_⟩;refine hN _ _ ?_;clear hN N)))
        refine eL ?_ ?_ ?_ (⟨by rw[htd];exact hb,by rw[htd];omega,fun i hi=>(by rw[htd];exact CJ i hi),fun g hg=>by rw[htd]at hg;have:=List.any_eq_false.1 hany g hg;simpa using this⟩) (by(try dsimp only);omega)
        all_goals simp only[go_sem, ↓reduceIte,Nat.reduceEqDiff,Nat.reduceAdd,Nat.reduceSub,Nat.reduceLeDiff,reduceCtorEq,b52,bg0,bg1,b1,b6,Cf,Cg,l9,iU]
       ·rw[hany]at Rs
        (repeat(first|((repeat(revert hN;revert N;apply Pn.out));refine wk (tw @b52 (tw @bg0 (tw @bg1 (tw @b1 (tw @b6 (tw @Cf (tw @Cg (tw @hj (tw @mZ (tw @l9 (tw @yM (tw @bj.eq_1 @ab.eq_1)))))))))))) ?_;(repeat(refine Pn.mk ?_;intro N hN)))|((try apply Or.inl);refine⟨_,ao.x (rD) (sd (tw @b52 (tw @bg0 (tw @bg1 (tw @b1 (tw @b6 (tw @Cf (tw @Cg (tw @hj (tw @mZ (tw @l9 (tw @yM (tw @bj.eq_1 @ab.eq_1))))))))))))),?_⟩;refine hN _ _ ?_;clear hN N)|((try apply Or.inl);refine⟨_,ao.x (Rs) (sd (tw @b52 (tw @bg0 (tw @bg1 (tw @b1 (tw @b6 (tw @Cf (tw @Cg (tw @hj (tw @mZ (tw @l9 (tw @yM (tw @bj.eq_1 @ab.eq_1))))))))))))),?_⟩;refine hN _ _ ?_;clear hN N)))
        exact aI (b:=false) (.inl rfl) (sd @Nat.zero_add) (ft (kZ fun h=>by
         rw[Ad,htd]at h
         obtain⟨g,hg,hq⟩:=List.any_eq_true.1 hany
         have:=h.2.2.2 g hg
         rw[this]at hq;cases hq))
      ·have yM:decide ((tl.bI.length:Int)=4)=false:=decide_eq_false h4
       (repeat(first|((repeat(revert hN;revert N;apply Pn.out));refine wk (tw @b52 (tw @bg0 (tw @bg1 (tw @b1 (tw @b6 (tw @Cf (tw @Cg (tw @hj (tw @mZ (tw @l9 (tw @yM (tw @bj.eq_1 @ab.eq_1)))))))))))) ?_;(repeat(refine Pn.mk ?_;intro N hN)))|((try apply Or.inl);refine⟨_,ao.x (rD) (sd (tw @b52 (tw @bg0 (tw @bg1 (tw @b1 (tw @b6 (tw @Cf (tw @Cg (tw @hj (tw @mZ (tw @l9 (tw @yM (tw @bj.eq_1 @ab.eq_1))))))))))))),?_⟩;refine hN _ _ ?_;clear hN N)))
       exact aI (b:=false) (.inl rfl) (sd @Nat.zero_add) (ft (kZ fun h=>by rw[Ad,htd]at h;have:=h.2.1;omega))
     ·(repeat(first|((repeat(revert hN;revert N;apply Pn.out));refine wk (tw @b52 (tw @bg0 (tw @bg1 (tw @b1 (tw @b6 (tw @Cf (tw @Cg (tw @hj (tw @mZ (tw @l9 (tw @fA (tw @bj.eq_1 @ab.eq_1)))))))))))) ?_;(repeat(refine Pn.mk ?_;intro N hN)))|((try apply Or.inl);refine⟨_,ao.x (rD) (sd (tw @b52 (tw @bg0 (tw @bg1 (tw @b1 (tw @b6 (tw @Cf (tw @Cg (tw @hj (tw @mZ (tw @l9 (tw @fA (tw @bj.eq_1 @ab.eq_1))))))))))))),?_⟩;refine hN _ _ ?_;clear hN N)))
      exact aI (b:=false) (.inl rfl) (sd @Nat.zero_add) (ft (kZ fun h=>by
       rw[Ad,htd]at h
       obtain⟨i,hi,he⟩:=List.mem_map.1 fB
       exact h.2.2.1 i (List.mem_range.1 hi) he))
   ·(try((repeat(revert hN;revert N;apply Pn.out));refine wk (tw @b52 (tw @bg0 (tw @bg1 (tw @b1 (tw @b6 (tw @Cf (tw @Cg (tw @hj @ab.eq_1)))))))) ?_;(repeat(refine Pn.mk ?_;intro N hN))))
    exact aI (b:=true) (.inl rfl) (sd @Nat.zero_add) (By ⟨by omega,by omega,by omega,fun i hi=>kR i (by omega),fun i hi=>bA0 i (by omega)⟩)
 ·rw[Bool.not_eq_true]at h2
  rw[h2]at hw
  (repeat(first|((repeat(revert hN;revert N;apply Pn.out));refine wk (tw @ab.eq_1 @h1) ?_;(repeat(refine Pn.mk ?_;intro N hN)))|((try apply Or.inl);refine⟨_,ao.x (hw) (sd (tw @ab.eq_1 @h1)),?_⟩;refine hN _ _ ?_;clear hN N)))
  exact aI (b:=false) (.inl rfl) (sd @Nat.zero_add) (ft fun h=>by
   have h3:=h.some
   have h4:=h.BE
   rw[jg ⟨by omega,by omega⟩]at h2;cases h2)
end Go.Proofs.YtgoelphibofcmaaGreat.V

namespace Go.Proofs.YtgoelphibofcmaaGreat.V
open Go.RowKit
attribute [local irreducible] dD wpOps gI Call
attribute [local go_sem] aK fW eU gE gy cE upd ck K.av cN AV.cells AV.cell rowOf rowsOf part ld rowAt bB bY dO ev iI bK db eI gr e8 dx eB cZ cY ea ec bQ aY cQ bP cU cR ez eC eA cP bV da ew bL aL cW cF iH bz cK bR aU dh aT dP AV.undef bF bG eh eu dX dY cI eH eK cD eE eD cV cX List.getD_cons_zero List.getD_cons_succ List.getD_nil List.all_cons List.all_nil Bool.and_true Bool.true_and Bool.and_self Bool.not_true Bool.not_false Option.map_some Option.map_none Option.bind_some Option.bind_none List.length_cons List.length_nil List.take_succ_cons List.take_zero List.take_nil List.drop_succ_cons List.drop_zero List.drop_nil List.head?_cons List.map_cons List.map_nil List.getElem?_cons_zero List.getElem?_cons_succ List.cons_append List.nil_append List.append_nil List.length_map List.set_cons_zero List.set_cons_succ Nat.reduceMul eq_self Int.toNat_natCast Int.natCast_nonneg and_self true_and and_true decide_true decide_false Bool.false_eq_true Nat.zero_add Nat.add_zero List.contains_cons List.contains_nil Bool.or_false Bool.false_or beq_self_eq_true Nat.reduceBEq ne_eq not_true_eq_false not_false_eq_true Id.mk.injEq false_and and_false Nat.reduceLT Int.reduceLE Int.reduceLT Int.reduceToNat Int.reduceNeg Int.reduceAdd Nat.le_refl List.length_append beq_true beq_false Bool.not_eq_eq_eq_not or_false false_or dQ aj aq aH bd bE cm aW bc aN bf cL bU
theorem tC {α:Type} {p:α->Bool} {xs:List α} {k:Nat} (hk:k<xs.length) (h1:p xs[k]=true) (h2:∀j (h:j<xs.length),j<k->p xs[j]=false):im p xs=k:=by
 have:xs.findIdx p=k:=by rw[List.findIdx_eq hk];exact⟨h1,fun j hj=>h2 j (by omega) hj⟩
 rw[im,this,if_pos hk]
theorem xt {α:Type} {p:α->Bool} {xs:List α} (h:∀j (h:j<xs.length),p xs[j]=false):im p xs= -1:=by
 rw[im,if_neg]
 rw[List.findIdx_lt_length]
 rintro⟨x,hx,HW⟩
 obtain⟨j,hj,rfl⟩:=List.getElem_of_mem hx
 rw[h j hj]at HW;cases HW
theorem yJ {s:aw} {i:Nat} (h:i<s.aA.length):pb s i=s.aA[i]:=by simp[pb,List.getD_eq_getElem?_getD,h]
theorem zD {s:aw} {i:Nat} (h:i<s.ah.length):ox s i=s.ah[i]:=by simp[ox,List.getD_eq_getElem?_getD,h]
def Js (s:aw) (n:ByteArray):Int:=im (fun g:gO=>decide (g.aD=n)) s.aA
def L0 (s:aw) (n:ByteArray):Int:=im (fun t:fe=>decide (t.aD=n)) s.ah
theorem FL (s:aw) (nm:ByteArray):ao Tryz.prog 190 [.cr (ab s),.str nm] (.int .i64 (Js s nm+1)):=by
 refine ao.body eG rfl fun hl n0=>?_
 have hlen:s.aA.length<=9223372036854775807:=by
  have h1:=(hl (.cr (ab s)) (by simp)).A7 (a:=.sl (s.aA.map bZ)) (by simp[ab])
  simpa using h1.len
 clear hl
 (try((repeat(revert hN;revert N;apply Pn.out));refine wk @ab.eq_1 ?_;(repeat(refine Pn.mk ?_;intro N hN))))
 refine aJ (fun n env st=>∃k:Nat,n=(s.aA.length)-k/\k<=(s.aA.length)/\env 5=.int .i64 (k:Int)/\(∀j:Nat,j<k->∀h:j<s.aA.length,decide (s.aA[j].aD=nm)=false)) (s.aA.length) ⟨0,by omega,by omega,sl @ab.eq_1,fun _ h=>absurd h (Nat.not_lt_zero _)⟩ ?_
 rintro n_a env_a st_a ⟨k,rfl,ale,a5,kR⟩ dv
 have a0:=dv 0 (by kernel_rfl);have a1:=dv 1 (by kernel_rfl)
 simp only[go_sem, ↓reduceIte,Nat.reduceEqDiff,Nat.reduceAdd,Nat.reduceSub,Nat.reduceLeDiff,reduceCtorEq,ab]at a0 a1
 clear dv
 by_cases hk:(k:Int)<(s.aA.length:Int)
 ·have cw:∀{e:Env},(e 5=.int .i64 (IntKind.i64.wrap ((k:Int)+1)))->(∀h:k<s.aA.length,decide (s.aA[k].aD=nm)=false)->∃m0,m0<(s.aA.length)-k/\∃k:Nat,m0=(s.aA.length)-k/\k<=(s.aA.length)/\e 5=.int .i64 (k:Int)/\(∀j:Nat,j<k->∀h:j<s.aA.length,decide (s.aA[j].aD=nm)=false):=fun x1 x2=>⟨_,by omega,k+1,rfl,by omega,(by rw[x1,ax (by omega)]),(all_succ kR x2)⟩
  have e7:k<s.aA.length:=by omega
  have eJ:=yK e7
  have e:=yJ e7
  cases hd:decide ((pb s k).aD=nm)
  ·have Q6:=of_decide_eq_false hd
   (try((repeat(revert hN;revert N;apply Pn.out));refine wk (tw @a5 (tw @a0 (tw @a1 (tw @hk (tw @eJ (tw @Q6 (tw @hd (tw @bZ.eq_1 @ab.eq_1)))))))) ?_;(repeat(refine Pn.mk ?_;intro N hN))))
   exact cw (sd (tw @a5 (tw @a0 @a1))) (fun _=>by rw[e]at hd;exact hd)
  ·have Q6:=of_decide_eq_true hd
   have hw:IntKind.i64.wrap ((k:Int)+1)=(k:Int)+1:=bp (by omega)
   (try((repeat(revert hN;revert N;apply Pn.out));refine wk (tw @a5 (tw @a0 (tw @a1 (tw @hk (tw @eJ (tw @hd (tw @hw (tw @bZ.eq_1 @ab.eq_1)))))))) ?_;(repeat(refine Pn.mk ?_;intro N hN))))
   exact bx (b:=(k:Int)+1) (.inl rfl) (sd @Nat.zero_add) (by rw[Js,tC e7 (by rw[e]at hd;exact hd) fun j h hj=>kR j hj h])
 ·(try((repeat(revert hN;revert N;apply Pn.out));refine wk (tw @a5 (tw @a0 (tw @a1 (tw @hk @ab.eq_1)))) ?_;(repeat(refine Pn.mk ?_;intro N hN))))
  exact bx (b:=0) (.inl rfl) (sd @Nat.zero_add) (by rw[Js,xt fun j h=>kR j (by omega) h];rfl)
theorem FM (s:aw) (nm:ByteArray):ao Tryz.prog 191 [.cr (ab s),.str nm] (.int .i64 (L0 s nm)):=by
 refine ao.body eG rfl fun hl n0=>?_
 have hlen:s.ah.length<=9223372036854775807:=by
  have h1:=(hl (.cr (ab s)) (by simp)).A7 (a:=.sl (s.ah.map bj)) (by simp[ab])
  simpa using h1.len
 clear hl
 (try((repeat(revert hN;revert N;apply Pn.out));refine wk @ab.eq_1 ?_;(repeat(refine Pn.mk ?_;intro N hN))))
 refine aJ (fun n env st=>∃k:Nat,n=(s.ah.length)-k/\k<=(s.ah.length)/\env 5=.int .i64 (k:Int)/\(∀j:Nat,j<k->∀h:j<s.ah.length,decide (s.ah[j].aD=nm)=false)) (s.ah.length) ⟨0,by omega,by omega,sl @ab.eq_1,fun _ h=>absurd h (Nat.not_lt_zero _)⟩ ?_
 rintro n_a env_a st_a ⟨k,rfl,ale,a5,kR⟩ dv
 have a0:=dv 0 (by kernel_rfl);have a1:=dv 1 (by kernel_rfl)
 simp only[go_sem, ↓reduceIte,Nat.reduceEqDiff,Nat.reduceAdd,Nat.reduceSub,Nat.reduceLeDiff,reduceCtorEq,ab]at a0 a1
 clear dv
 by_cases hk:(k:Int)<(s.ah.length:Int)
 ·have cw:∀{e:Env},(e 5=.int .i64 (IntKind.i64.wrap ((k:Int)+1)))->(∀h:k<s.ah.length,decide (s.ah[k].aD=nm)=false)->∃m0,m0<(s.ah.length)-k/\∃k:Nat,m0=(s.ah.length)-k/\k<=(s.ah.length)/\e 5=.int .i64 (k:Int)/\(∀j:Nat,j<k->∀h:j<s.ah.length,decide (s.ah[j].aD=nm)=false):=fun x1 x2=>⟨_,by omega,k+1,rfl,by omega,(by rw[x1,ax (by omega)]),(all_succ kR x2)⟩
  have e7:k<s.ah.length:=by omega
  have eJ:=zE e7
  have e:=zD e7
  cases hd:decide ((ox s k).aD=nm)
  ·(try((repeat(revert hN;revert N;apply Pn.out));refine wk (tw @a5 (tw @a0 (tw @a1 (tw @hk (tw @eJ (tw @hd (tw @bj.eq_1 @ab.eq_1))))))) ?_;(repeat(refine Pn.mk ?_;intro N hN))))
   exact cw (sd (tw @a5 (tw @a0 @a1))) (fun _=>by rw[e]at hd;exact hd)
  ·(try((repeat(revert hN;revert N;apply Pn.out));refine wk (tw @a5 (tw @a0 (tw @a1 (tw @hk (tw @eJ (tw @hd (tw @bj.eq_1 @ab.eq_1))))))) ?_;(repeat(refine Pn.mk ?_;intro N hN))))
   exact bx (b:=(k:Int)) (.inl rfl) (sd @Nat.zero_add) (by rw[L0,tC e7 (by rw[e]at hd;exact hd) fun j h hj=>kR j hj h])
 ·(try((repeat(revert hN;revert N;apply Pn.out));refine wk (tw @a5 (tw @a0 (tw @a1 (tw @hk @ab.eq_1)))) ?_;(repeat(refine Pn.mk ?_;intro N hN))))
  exact bx (b:=-1) (.inl rfl) (sd @Nat.zero_add) (by rw[L0,xt fun j h=>kR j (by omega) h])
theorem MC {s:aw} {i:Nat} (h:i<s.aA.length):Js s (pb s i).aD=i↔∀j,j<i->(pb s j).aD≠(pb s i).aD:=by
 constructor
 ·intro he j hj hc
  have gw:j<s.aA.length:=by omega
  have:s.aA.findIdx (fun g:gO=>decide (g.aD=(pb s i).aD))<=j:=by
   rcases Nat.lt_or_ge j (s.aA.findIdx fun g:gO=>decide (g.aD=(pb s i).aD))with dz|oH
   ·have:=List.not_of_lt_findIdx dz
    rw[<-yJ gw]at this
    simp[hc]at this
   ·exact oH
  unfold Js im at he
  split at he<;>omega
 ·intro hd
  exact tC h (by rw[<-yJ h];simp) fun j gw hj=>by rw[<-yJ gw];simpa using hd j hj
theorem NT {s:aw} {i:Nat} (h:i<s.ah.length):L0 s (ox s i).aD=i↔∀j,j<i->(ox s j).aD≠(ox s i).aD:=by
 constructor
 ·intro he j hj hc
  have gw:j<s.ah.length:=by omega
  have:s.ah.findIdx (fun g:fe=>decide (g.aD=(ox s i).aD))<=j:=by
   rcases Nat.lt_or_ge j (s.ah.findIdx fun g:fe=>decide (g.aD=(ox s i).aD))with dz|oH
   ·have:=List.not_of_lt_findIdx dz
    rw[<-zD gw]at this
    simp[hc]at this
   ·exact oH
  unfold L0 im at he
  split at he<;>omega
 ·intro hd
  exact tC h (by rw[<-zD h];simp) fun j gw hj=>by rw[<-zD gw];simpa using hd j hj
theorem Kz (s:aw) (hn:fJ s) (hg:s.aA.length<=1048576) (ht:s.ah.length<=1048576):ao Tryz.prog 156 [.cr (ab s)] (.bool (qg s)):=by
 refine ao.body eG rfl fun hl n0=>?_
 clear hl
 have PL:∀i,i<s.aA.length->(pb s i).aD.size<=9223372036854775807:=fun i hi=>hn.1 _ (by simp[pb,List.getD_eq_getElem?_getD,hi])
 have Ns:∀i,i<s.ah.length->(ox s i).aD.size<=9223372036854775807:=fun i hi=>hn.2 _ (by simp[ox,List.getD_eq_getElem?_getD,hi])
 by_cases h1:(200:Int)<(s.aA.length:Int)
 ·(try((repeat(revert hN;revert N;apply Pn.out));refine wk (tw @ab.eq_1 @h1) ?_;(repeat(refine Pn.mk ?_;intro N hN))))
  exact aI (b:=false) (.inl rfl) (sd @Nat.zero_add) (ft fun h=>by have:=h.uG;omega)
 by_cases h2:(s.ah.length:Int)<1
 ·(try((repeat(revert hN;revert N;apply Pn.out));refine wk (tw @ab.eq_1 (tw @h1 @h2)) ?_;(repeat(refine Pn.mk ?_;intro N hN))))
  exact aI (b:=false) (.inl rfl) (sd @Nat.zero_add) (ft fun h=>by have:=h.some;omega)
 by_cases h3:(160:Int)<(s.ah.length:Int)
 ·(try((repeat(revert hN;revert N;apply Pn.out));refine wk (tw @ab.eq_1 (tw @h1 (tw @h2 @h3))) ?_;(repeat(refine Pn.mk ?_;intro N hN))))
  exact aI (b:=false) (.inl rfl) (sd @Nat.zero_add) (ft fun h=>by have:=h.BE;omega)
 (try((repeat(revert hN;revert N;apply Pn.out));refine wk (tw @ab.eq_1 (tw @h1 (tw @h2 @h3))) ?_;(repeat(refine Pn.mk ?_;intro N hN))))
 refine aJ (fun n env st=>∃k:Nat,n=(s.aA.length)-k/\k<=(s.aA.length)/\env 3=.int .i64 (k:Int)/\(∀j:Nat,j<k->B6 s j)) (s.aA.length) ⟨0,by omega,by omega,sl @ab.eq_1,fun _ h=>absurd h (Nat.not_lt_zero _)⟩ ?_
 rintro n_a env_a st_a ⟨k,rfl,ale,a3,kR⟩ dv
 have a0:=dv 0 (by kernel_rfl)
 simp only[go_sem, ↓reduceIte,Nat.reduceEqDiff,Nat.reduceAdd,Nat.reduceSub,Nat.reduceLeDiff,reduceCtorEq,ab]at a0
 clear dv
 by_cases hk:(k:Int)<(s.aA.length:Int)
 ·have cw:∀{e:Env},(e 3=.int .i64 (IntKind.i64.wrap ((k:Int)+1)))->(B6 s k)->∃m0,m0<(s.aA.length)-k/\∃k:Nat,m0=(s.aA.length)-k/\k<=(s.aA.length)/\e 3=.int .i64 (k:Int)/\(∀j:Nat,j<k->B6 s j):=fun x1 x2=>⟨_,by omega,k+1,rfl,by omega,(by rw[x1,ax (by omega)]),(all_succ kR x2)⟩
  have e7:k<s.aA.length:=by omega
  have eJ:=yK e7
  have rD:=EH (pb s k).aD (PL k e7)
  have JF:=lp (pb s k).ef 1 4
  have zX:=FL s (pb s k).aD
  have qE:=MC e7
  have kZ:(¬B6 s k)->¬gZ s:=fun h hp=>h (hp.QR k e7)
  have hw:IntKind.i64.wrap ((k:Int)+1)=(k:Int)+1:=bp (by omega)
  generalize tK:pb s k=gl at *
  cases hb:jw gl.aD
  ·rw[hb]at rD
   (repeat(first|((repeat(revert hN;revert N;apply Pn.out));refine wk (tw @a3 (tw @a0 (tw @hk (tw @eJ (tw @bZ.eq_1 @ab.eq_1))))) ?_;(repeat(refine Pn.mk ?_;intro N hN)))|((try apply Or.inl);refine⟨_,ao.x (rD) (sd (tw @a3 (tw @a0 (tw @hk (tw @eJ (tw @bZ.eq_1 @ab.eq_1)))))),?_⟩;refine hN _ _ ?_;clear hN N)))
   exact aI (b:=false) (.inl rfl) (sd @Nat.zero_add) (ft (kZ fun h=>by rw[B6,tK,hb]at h;cases h.1))
  rw[hb]at rD
  cases dc:iP gl.ef 1 4
  ·rw[dc]at JF
   (repeat(first|((repeat(revert hN;revert N;apply Pn.out));refine wk (tw @a3 (tw @a0 (tw @hk (tw @eJ (tw @bZ.eq_1 @ab.eq_1))))) ?_;(repeat(refine Pn.mk ?_;intro N hN)))|((try apply Or.inl);refine⟨_,ao.x (rD) (sd (tw @a3 (tw @a0 (tw @hk (tw @eJ (tw @bZ.eq_1 @ab.eq_1)))))),?_⟩;refine hN _ _ ?_;clear hN N)|((try apply Or.inl);refine⟨_,ao.x (JF) (sd (tw @a3 (tw @a0 (tw @hk (tw @eJ (tw @bZ.eq_1 @ab.eq_1)))))),?_⟩;refine hN _ _ ?_;clear hN N)))
   exact aI (b:=false) (.inl rfl) (sd @Nat.zero_add) (ft (kZ fun h=>by rw[B6,tK,dc]at h;cases h.2.1))
  rw[dc]at JF
  rw[ab]at zX
  by_cases hq:Js s gl.aD=(k:Int)
  ·have hd:decide (Js s gl.aD+1=(k:Int)+1)=true:=decide_eq_true (by omega)
   have tk:decide (Js s gl.aD=(k:Int))=true:=decide_eq_true hq
   (repeat(first|((repeat(revert hN;revert N;apply Pn.out));refine wk (tw @a3 (tw @a0 (tw @hk (tw @eJ (tw @hw (tw @hd (tw @tk (tw @bZ.eq_1 @ab.eq_1)))))))) ?_;(repeat(refine Pn.mk ?_;intro N hN)))|((try apply Or.inl);refine⟨_,ao.x (rD) (sd (tw @a3 (tw @a0 (tw @hk (tw @eJ (tw @hw (tw @hd (tw @tk (tw @bZ.eq_1 @ab.eq_1))))))))),?_⟩;refine hN _ _ ?_;clear hN N)|((try apply Or.inl);refine⟨_,ao.x (JF) (sd (tw @a3 (tw @a0 (tw @hk (tw @eJ (tw @hw (tw @hd (tw @tk (tw @bZ.eq_1 @ab.eq_1))))))))),?_⟩;refine hN _ _ ?_;clear hN N)|((try apply Or.inl);refine⟨_,ao.x (zX) (sd (tw @a3 (tw @a0 (tw @hk (tw @eJ (tw @hw (tw @hd (tw @tk (tw @bZ.eq_1 @ab.eq_1))))))))),?_⟩;refine hN _ _ ?_;clear hN N)))
   exact cw (sd (tw @a3 (tw @a0 @hw))) (⟨by rw[tK];exact hb,by rw[tK];exact dc,fun j hj=>by rw[tK];exact qE.1 hq j hj⟩)
  ·have hd:decide (Js s gl.aD+1=(k:Int)+1)=false:=decide_eq_false (by omega)
   have tk:decide (Js s gl.aD=(k:Int))=false:=decide_eq_false hq
   (repeat(first|((repeat(revert hN;revert N;apply Pn.out));refine wk (tw @a3 (tw @a0 (tw @hk (tw @eJ (tw @hw (tw @hd (tw @tk (tw @bZ.eq_1 @ab.eq_1)))))))) ?_;(repeat(refine Pn.mk ?_;intro N hN)))|((try apply Or.inl);refine⟨_,ao.x (rD) (sd (tw @a3 (tw @a0 (tw @hk (tw @eJ (tw @hw (tw @hd (tw @tk (tw @bZ.eq_1 @ab.eq_1))))))))),?_⟩;refine hN _ _ ?_;clear hN N)|((try apply Or.inl);refine⟨_,ao.x (JF) (sd (tw @a3 (tw @a0 (tw @hk (tw @eJ (tw @hw (tw @hd (tw @tk (tw @bZ.eq_1 @ab.eq_1))))))))),?_⟩;refine hN _ _ ?_;clear hN N)|((try apply Or.inl);refine⟨_,ao.x (zX) (sd (tw @a3 (tw @a0 (tw @hk (tw @eJ (tw @hw (tw @hd (tw @tk (tw @bZ.eq_1 @ab.eq_1))))))))),?_⟩;refine hN _ _ ?_;clear hN N)))
   exact aI (b:=false) (.inl rfl) (sd @Nat.zero_add) (ft (kZ fun h=>by
    rw[B6,tK]at h
    exact hq (qE.2 h.2.2)))
 ·have kW:k=s.aA.length:=by omega
  (try((repeat(revert hN;revert N;apply Pn.out));refine wk (tw @a3 (tw @a0 (tw @hk @ab.eq_1))) ?_;(repeat(refine Pn.mk ?_;intro N hN))))
  refine aJ (fun n env st=>∃j:Nat,n=(s.ah.length)-j/\j<=(s.ah.length)/\env 5=.int .i64 (j:Int)/\(∀i:Nat,i<j->Ad s i)) (s.ah.length) ⟨0,by omega,by omega,sl (tw @a3 (tw @a0 @ab.eq_1)),fun _ h=>absurd h (Nat.not_lt_zero _)⟩ ?_
  rintro n_b env_b st_b ⟨j,rfl,ble,b5,bA0⟩ ej
  have b0:=ej 0 (by kernel_rfl)
  simp only[go_sem, ↓reduceIte,Nat.reduceEqDiff,Nat.reduceAdd,Nat.reduceSub,Nat.reduceLeDiff,reduceCtorEq,a3,a0,ab]at b0
  clear ej
  by_cases hj:(j:Int)<(s.ah.length:Int)
  ·have eL:∀{e:Env},(e 5=.int .i64 (IntKind.i64.wrap ((j:Int)+1)))->(Ad s j)->∃m0,m0<(s.ah.length)-j/\∃j:Nat,m0=(s.ah.length)-j/\j<=(s.ah.length)/\e 5=.int .i64 (j:Int)/\(∀i:Nat,i<j->Ad s i):=fun x1 x2=>⟨_,by omega,j+1,rfl,by omega,(by rw[x1,ax (by omega)]),(all_succ bA0 x2)⟩
   have nu:j<s.ah.length:=by omega
   have mZ:=zE nu
   have rD:=EH (ox s j).aD (Ns j nu)
   have zX:=FM s (ox s j).aD
   have qE:=NT nu
   have kZ:(¬Ad s j)->¬gZ s:=fun h hp=>h (hp.tok j nu)
   generalize htd:ox s j=tl at *
   cases hb:jw tl.aD
   ·rw[hb]at rD
    (repeat(first|((repeat(revert hN;revert N;apply Pn.out));refine wk (tw @b5 (tw @b0 (tw @hj (tw @mZ (tw @bj.eq_1 @ab.eq_1))))) ?_;(repeat(refine Pn.mk ?_;intro N hN)))|((try apply Or.inl);refine⟨_,ao.x (rD) (sd (tw @b5 (tw @b0 (tw @hj (tw @mZ (tw @bj.eq_1 @ab.eq_1)))))),?_⟩;refine hN _ _ ?_;clear hN N)))
    exact aI (b:=false) (.inl rfl) (sd @Nat.zero_add) (ft (kZ fun h=>by rw[Ad,htd,hb]at h;cases h.1))
   rw[hb]at rD
   by_cases h4:(tl.bI.length:Int)=4
   ·have yM:decide ((tl.bI.length:Int)=4)=true:=decide_eq_true h4
    rw[ab]at zX
    by_cases hq:L0 s tl.aD=(j:Int)
    ·have hd:decide (L0 s tl.aD=(j:Int))=true:=decide_eq_true hq
     (repeat(first|((repeat(revert hN;revert N;apply Pn.out));refine wk (tw @b5 (tw @b0 (tw @hj (tw @mZ (tw @yM (tw @hd (tw @bj.eq_1 @ab.eq_1))))))) ?_;(repeat(refine Pn.mk ?_;intro N hN)))|((try apply Or.inl);refine⟨_,ao.x (rD) (sd (tw @b5 (tw @b0 (tw @hj (tw @mZ (tw @yM (tw @hd (tw @bj.eq_1 @ab.eq_1)))))))),?_⟩;refine hN _ _ ?_;clear hN N)|((try apply Or.inl);refine⟨_,ao.x (zX) (sd (tw @b5 (tw @b0 (tw @hj (tw @mZ (tw @yM (tw @hd (tw @bj.eq_1 @ab.eq_1)))))))),?_⟩;refine hN _ _ ?_;clear hN N)))
     refine aJ (fun n env st=>∃i:Nat,n=(4)-i/\i<=(4)/\env 7=.int .i64 (i:Int)/\st.get ⟨156012007,st_b.next+1⟩=some ⟨true,2,[bj tl]⟩/\(∀x:Nat,x<i->iP (tl.bI.getD x 0) 0 s.aA.length=true)) (4) ⟨0,by omega,by omega,sl (tw @b5 (tw @b0 (tw @bj.eq_1 @ab.eq_1))),sl (tw @b5 (tw @b0 (tw @bj.eq_1 @ab.eq_1))),fun _ h=>absurd h (Nat.not_lt_zero _)⟩ ?_
     rintro n_c env_c st_c ⟨i,rfl,cle,c7,cg0,cA0⟩ cfr
     have c0:=cfr 0 (by kernel_rfl);have c5:=cfr 5 (by kernel_rfl);have c6:=cfr 6 (by kernel_rfl)
     simp only[go_sem, ↓reduceIte,Nat.reduceEqDiff,Nat.reduceAdd,Nat.reduceSub,Nat.reduceLeDiff,reduceCtorEq,b5,b0,bj,ab]at c0 c5 c6
     clear cfr
     by_cases hi:(i:Int)<4
     ·have gU:∀{e:Env} {gg:Rows},(e 7=.int .i64 (IntKind.i64.wrap ((i:Int)+1)))->(gg ⟨156012007,st_b.next+1⟩=some ⟨true,2,[bj tl]⟩)->(iP (tl.bI.getD i 0) 0 s.aA.length=true)->∃m0,m0<(4)-i/\∃i:Nat,m0=(4)-i/\i<=(4)/\e 7=.int .i64 (i:Int)/\gg ⟨156012007,st_b.next+1⟩=some ⟨true,2,[bj tl]⟩/\(∀x:Nat,x<i->iP (tl.bI.getD x 0) 0 s.aA.length=true):=fun x1 x2 x3=>⟨_,by omega,i+1,rfl,by omega,(by rw[x1,ax (by omega)]),x2,(all_succ cA0 x3)⟩
      have fB:i<tl.bI.length:=by omega
      have jZ:(tl.bI.map bq)[i]? =some (bq (tl.bI.getD i 0)):=getD_map bq fB
      have rU:tl.bI.getD i 0∈tl.bI:=by rw[List.getD_eq_getElem?_getD,List.getElem?_eq_getElem fB];exact List.getElem_mem fB
      have HP:=lp (tl.bI.getD i 0) 0 s.aA.length
      generalize M6:tl.bI.getD i 0=gv at *
      cases hv:iP gv 0 s.aA.length
      ·rw[hv]at HP
       (repeat(first|((repeat(revert hN;revert N;apply Pn.out));refine wk (tw @c7 (tw @cg0 (tw @c0 (tw @c5 (tw @c6 (tw @hi (tw @jZ (tw @bq.eq_1 (tw @bj.eq_1 @ab.eq_1))))))))) ?_;(repeat(refine Pn.mk ?_;intro N hN)))|((try apply Or.inl);refine⟨_,ao.x (HP) (sd (tw @c7 (tw @cg0 (tw @c0 (tw @c5 (tw @c6 (tw @hi (tw @jZ (tw @bq.eq_1 (tw @bj.eq_1 @ab.eq_1)))))))))),?_⟩;refine hN _ _ ?_;clear hN N)))
       exact aI (b:=false) (.inl rfl) (sd @Nat.zero_add) (ft (kZ fun h=>by
        rw[Ad,htd]at h
        have:=h.2.2.2 gv rU
        rw[hv]at this;cases this))
      ·rw[hv]at HP
       (repeat(first|((repeat(revert hN;revert N;apply Pn.out));refine wk (tw @c7 (tw @cg0 (tw @c0 (tw @c5 (tw @c6 (tw @hi (tw @jZ (tw @bq.eq_1 (tw @bj.eq_1 @ab.eq_1))))))))) ?_;(repeat(refine Pn.mk ?_;intro N hN)))|((try apply Or.inl);refine⟨_,ao.x (HP) (sd (tw @c7 (tw @cg0 (tw @c0 (tw @c5 (tw @c6 (tw @hi (tw @jZ (tw @bq.eq_1 (tw @bj.eq_1 @ab.eq_1)))))))))),?_⟩;refine hN _ _ ?_;clear hN N)))
       refine gU ?_ ?_ (hv)
       all_goals simp only[go_sem, ↓reduceIte,Nat.reduceEqDiff,Nat.reduceAdd,Nat.reduceSub,Nat.reduceLeDiff,reduceCtorEq,c7,cg0,c0,c5,c6]
     ·have hi4:i=4:=by omega
      (try((repeat(revert hN;revert N;apply Pn.out));refine wk (tw @c7 (tw @cg0 (tw @c0 (tw @c5 (tw @c6 (tw @hi (tw @bj.eq_1 @ab.eq_1))))))) ?_;(repeat(refine Pn.mk ?_;intro N hN))))
      exact eL (sd (tw @b5 (tw @b0 (tw @c7 (tw @cg0 (tw @c0 (tw @c5 @c6))))))) (⟨by rw[htd];exact hb,by rw[htd];omega,fun x hx=>(by rw[htd];exact qE.1 hq x hx),fun g hg=>by
       rw[htd]at hg
       obtain⟨x,hx,rfl⟩:=List.getElem_of_mem hg
       have:=cA0 x (by omega)
       rwa [List.getD_eq_getElem?_getD,List.getElem?_eq_getElem hx]at this⟩)
    ·have hd:decide (L0 s tl.aD=(j:Int))=false:=decide_eq_false hq
     (repeat(first|((repeat(revert hN;revert N;apply Pn.out));refine wk (tw @b5 (tw @b0 (tw @hj (tw @mZ (tw @yM (tw @hd (tw @bj.eq_1 @ab.eq_1))))))) ?_;(repeat(refine Pn.mk ?_;intro N hN)))|((try apply Or.inl);refine⟨_,ao.x (rD) (sd (tw @b5 (tw @b0 (tw @hj (tw @mZ (tw @yM (tw @hd (tw @bj.eq_1 @ab.eq_1)))))))),?_⟩;refine hN _ _ ?_;clear hN N)|((try apply Or.inl);refine⟨_,ao.x (zX) (sd (tw @b5 (tw @b0 (tw @hj (tw @mZ (tw @yM (tw @hd (tw @bj.eq_1 @ab.eq_1)))))))),?_⟩;refine hN _ _ ?_;clear hN N)))
     exact aI (b:=false) (.inl rfl) (sd @Nat.zero_add) (ft (kZ fun h=>by
      rw[Ad,htd]at h
      exact hq (qE.2 h.2.2.1)))
   ·have yM:decide ((tl.bI.length:Int)=4)=false:=decide_eq_false h4
    (repeat(first|((repeat(revert hN;revert N;apply Pn.out));refine wk (tw @b5 (tw @b0 (tw @hj (tw @mZ (tw @yM (tw @bj.eq_1 @ab.eq_1)))))) ?_;(repeat(refine Pn.mk ?_;intro N hN)))|((try apply Or.inl);refine⟨_,ao.x (rD) (sd (tw @b5 (tw @b0 (tw @hj (tw @mZ (tw @yM (tw @bj.eq_1 @ab.eq_1))))))),?_⟩;refine hN _ _ ?_;clear hN N)))
    exact aI (b:=false) (.inl rfl) (sd @Nat.zero_add) (ft (kZ fun h=>by rw[Ad,htd]at h;have:=h.2.1;omega))
  ·(try((repeat(revert hN;revert N;apply Pn.out));refine wk (tw @b5 (tw @b0 (tw @hj @ab.eq_1))) ?_;(repeat(refine Pn.mk ?_;intro N hN))))
   exact aI (b:=true) (.inl rfl) (sd @Nat.zero_add) (By ⟨by omega,by omega,by omega,fun i hi=>kR i (by omega),fun i hi=>bA0 i (by omega)⟩)
end Go.Proofs.YtgoelphibofcmaaGreat.V

namespace Go.Proofs.YtgoelphibofcmaaGreat.V
def ki (a b:ai):Bool:=decide (a.ep<b.ep)||(decide (a.ep=b.ep)&&decide (a.eM<b.eM))
theorem tP {a b:ai}:ki a b=true↔a.ep<b.ep∨(a.ep=b.ep/\a.eM<b.eM):=by simp[ki]
theorem oK {a b:ai}:ki a b=false↔¬(a.ep<b.ep∨(a.ep=b.ep/\a.eM<b.eM)):=by rw[<-tP,Bool.not_eq_true]
theorem zo {a b:ai} (h1:a.eM=b.eM) (h2:a.ep=b.ep):a=b:=by cases a;cases b;simp_all
theorem iq {a b c:ai} (h:ki a b=true) (k:ki b c=true):ki a c=true:=by rw[tP]at *;omega
theorem mz {a:ai}:ki a a=false:=by rw[oK];omega
theorem Ik {a b:ai} (h:ki a b=true):ki b a=false:=by rw[tP]at h;rw[oK];omega
theorem zb {a b:ai} (h:ki a b=false) (fZ:a≠b):ki b a=true:=by
 rw[oK]at h;rw[tP]
 by_cases hy:a.ep=b.ep
 ·by_cases hx:a.eM=b.eM
  ·exact absurd (zo hx hy) fZ
  ·omega
 ·omega
def qy (a b:Int):Int:=if a<b then -1 else if b<a then 1 else 0
def KN (a b:Int):Int:=if a=0 then b else a
def pa (a b:ai):Int:=KN (qy a.ep b.ep) (qy a.eM b.eM)
theorem mi (a b:ai):decide (pa a b<0)=ki a b:=by
 unfold pa KN qy ki
 by_cases h1:a.ep<b.ep
 ·simp[h1]
 ·by_cases h2:b.ep<a.ep
  ·have:¬a.ep=b.ep:=by omega
   simp[h1,h2,this]
  ·have:a.ep=b.ep:=by omega
   by_cases h3:a.eM<b.eM
   ·simp[h1,h2,this,h3]
   ·by_cases h4:b.eM<a.eM<;>simp[h1,h2,this,h3,h4]
theorem E7 (a b:ai):(pa a b=0)↔a=b:=by
 cases a;cases b
 unfold pa KN qy
 simp only[ai.mk.injEq]
 split<;>(try split)<;>(try split)<;>(try split)<;>omega
def Ip:ae:=⟨⟨0,0⟩,0⟩
def aG (l:List ae) (i:Nat):ae:=l.getD i Ip
theorem iE {l:List ae} {i:Nat} (h:i<l.length):aG l i=l[i]:=by simp[aG,List.getD_eq_getElem?_getD,h]
theorem ig {l:List ae} {i:Nat} (h:i<l.length):aG l i∈l:=by rw[iE h];exact List.getElem_mem h
def uc (l:List ae):Prop:=∀i j:Nat,i<j->j<l.length->ki (aG l i).aF (aG l j).aF=true
def pW (l:List ae) (p:ai):Nat:=l.findIdx fun c=>decide (c.aF=p)
def ek (l:List ae) (p:ai):Int:=if pW l p<l.length then(pW l p:Int)else -1
def lT (l:List ae) (p:ai):Nat:=l.findIdx fun c=> !ki c.aF p
theorem y7 {l:List ae} {p:ai} {i:Nat} (hi:i<=l.length) (h1:∀x,x<i->ki (aG l x).aF p=true) (h2:i<l.length->ki (aG l i).aF p=false):lT l p=i:=by
 unfold lT
 by_cases h:i<l.length
 ·rw[List.findIdx_eq h]
  refine⟨by have:=h2 h;rw[iE h]at this;simp[this],fun j hj=>?_⟩
  have:=h1 j hj
  rw[iE (by omega)]at this
  simp[this]
 ·have:i=l.length:=by omega
  subst this
  refine List.findIdx_eq_length_of_false fun x hx=>?_
  obtain⟨j,hj,rfl⟩:=List.getElem_of_mem hx
  have:=h1 j hj
  rw[iE hj]at this
  simp[this]
theorem za {l:List ae} {p:ai} (hR:uc l):ek l p=if lT l p<l.length/\(aG l (lT l p)).aF=p then(lT l p:Int)else -1:=by
 by_cases h:∃i,i<l.length/\(aG l i).aF=p
 ·obtain⟨i,hi,hp⟩:=h
  have h1:lT l p=i:=y7 (by omega) (fun x hx=>by rw[<-hp];exact hR x i hx hi) fun _=>by rw[hp];exact mz
  have h2:pW l p=i:=by
   rw[pW,List.findIdx_eq hi]
   refine⟨by rw[iE hi]at hp;simpa using hp,fun j hj=>?_⟩
   have:=hR j i hj hi
   rw[hp,iE (by omega)]at this
   simp only[decide_eq_false_iff_not]
   intro hc
   rw[hc,mz]at this
   cases this
  rw[ek,h1,h2,if_pos hi,if_pos ⟨hi,hp⟩]
 ·have h2:¬pW l p<l.length:=by
   rw[pW,List.findIdx_lt_length]
   rintro⟨c,hc,he⟩
   obtain⟨j,hj,rfl⟩:=List.getElem_of_mem hc
   exact h ⟨j,hj,by rw[iE hj];simpa using he⟩
  rw[ek,if_neg h2,if_neg]
  rintro⟨h3,h4⟩
  exact h ⟨_,h3,h4⟩
theorem mv {l:List ae} {p:ai} (h:0<=ek l p):(ek l p).toNat<l.length/\(aG l (ek l p).toNat).aF=p:=by
 unfold ek at h ⊢
 split at h
 ·rename_i hc
  rw[if_pos hc]
  refine⟨by omega,?_⟩
  have:=of_decide_eq_true (List.findIdx_getElem (p:=fun c:ae=>decide (c.aF=p)) (xs:=l) (w:=hc))
  rw[Int.toNat_natCast,iE hc]
  exact this
 ·omega
def fH (l:List ae) (p:ai):Int:=if 0<=ek l p then(aG l (ek l p).toNat).aQ else -1
end Go.Proofs.YtgoelphibofcmaaGreat.V

namespace Go.Proofs.YtgoelphibofcmaaGreat.V
open Go.RowKit
attribute [local irreducible] dD wpOps gI Call
attribute [local go_sem] aK fW eU gE gy cE upd ck K.av cN AV.cells AV.cell rowOf rowsOf part ld rowAt bB bY dO ev iI bK db eI gr e8 dx eB cZ cY ea ec bQ aY cQ bP cU cR ez eC eA cP bV da ew bL aL cW cF iH bz cK bR aU dh aT dP AV.undef bF bG eh eu dX dY cI eH eK cD eE eD cV cX List.getD_cons_zero List.getD_cons_succ List.getD_nil List.all_cons List.all_nil Bool.and_true Bool.true_and Bool.and_self Bool.not_true Bool.not_false Option.map_some Option.map_none Option.bind_some Option.bind_none List.length_cons List.length_nil List.take_succ_cons List.take_zero List.take_nil List.drop_succ_cons List.drop_zero List.drop_nil List.head?_cons List.map_cons List.map_nil List.getElem?_cons_zero List.getElem?_cons_succ List.cons_append List.nil_append List.append_nil List.length_map List.set_cons_zero List.set_cons_succ Nat.reduceMul eq_self Int.toNat_natCast Int.natCast_nonneg and_self true_and and_true decide_true decide_false Bool.false_eq_true Nat.zero_add Nat.add_zero List.contains_cons List.contains_nil Bool.or_false Bool.false_or beq_self_eq_true Nat.reduceBEq ne_eq not_true_eq_false not_false_eq_true Id.mk.injEq false_and and_false Nat.reduceLT Int.reduceLE Int.reduceLT Int.reduceToNat Int.reduceNeg Int.reduceAdd Nat.le_refl List.length_append beq_true beq_false Bool.not_eq_eq_eq_not or_false false_or dQ aj aq aH bd bE cm aW bc aN bf cL bU
theorem nE (a b:ai):ao Tryz.prog 160 [.agg (aa a),.agg (aa b)] (.bool (ki a b)):=by
 refine ao.body eG rfl fun hl n0=>?_
 clear hl
 by_cases h0:a.ep<b.ep
 ·(try((repeat(revert hN;revert N;apply Pn.out));refine wk (tw @aa.eq_1 @h0) ?_;(repeat(refine Pn.mk ?_;intro N hN))))
  exact aI (b:=true) (.inl rfl) (sd @Nat.zero_add) (by simp[ki,h0])
 ·by_cases h1:a.ep=b.ep
  ·have h2:¬b.ep<b.ep:=by omega
   (try((repeat(revert hN;revert N;apply Pn.out));refine wk (tw @aa.eq_1 (tw @h1 @h2)) ?_;(repeat(refine Pn.mk ?_;intro N hN))))
   exact aI (b:=decide (a.eM<b.eM)) (.inl rfl) (sd @Nat.zero_add) (by simp[ki,h1])
  ·(try((repeat(revert hN;revert N;apply Pn.out));refine wk (tw @aa.eq_1 (tw @h0 @h1)) ?_;(repeat(refine Pn.mk ?_;intro N hN))))
   exact aI (b:=false) (.inl rfl) (sd @Nat.zero_add) (by simp[ki,h0,h1])
end Go.Proofs.YtgoelphibofcmaaGreat.V

namespace Go.Proofs.YtgoelphibofcmaaGreat.V
open Go.RowKit
attribute [local irreducible] dD wpOps gI Call
attribute [local go_sem] aK fW eU gE gy cE upd ck K.av cN AV.cells AV.cell rowOf rowsOf part ld rowAt bB bY dO ev iI bK db eI gr e8 dx eB cZ cY ea ec bQ aY cQ bP cU cR ez eC eA cP bV da ew bL aL cW cF iH bz cK bR aU dh aT dP AV.undef bF bG eh eu dX dY cI eH eK cD eE eD cV cX List.getD_cons_zero List.getD_cons_succ List.getD_nil List.all_cons List.all_nil Bool.and_true Bool.true_and Bool.and_self Bool.not_true Bool.not_false Option.map_some Option.map_none Option.bind_some Option.bind_none List.length_cons List.length_nil List.take_succ_cons List.take_zero List.take_nil List.drop_succ_cons List.drop_zero List.drop_nil List.head?_cons List.map_cons List.map_nil List.getElem?_cons_zero List.getElem?_cons_succ List.cons_append List.nil_append List.append_nil List.length_map List.set_cons_zero List.set_cons_succ Nat.reduceMul eq_self Int.toNat_natCast Int.natCast_nonneg and_self true_and and_true decide_true decide_false Bool.false_eq_true Nat.zero_add Nat.add_zero List.contains_cons List.contains_nil Bool.or_false Bool.false_or beq_self_eq_true Nat.reduceBEq ne_eq not_true_eq_false not_false_eq_true Id.mk.injEq false_and and_false Nat.reduceLT Int.reduceLE Int.reduceLT Int.reduceToNat Int.reduceNeg Int.reduceAdd Nat.le_refl List.length_append beq_true beq_false Bool.not_eq_eq_eq_not or_false false_or dQ aj aq aH bd bE cm aW bc aN bf cL bU
theorem fm {l:List ae} {i:Nat} (h:i<l.length):(l.map ad)[i]? =some (ad (aG l i)):=getD_map ad h
def EW (l:List ae) (i:Nat):Prop:=r8 (aG l i).aF=true/\iP (aG l i).aQ 0 159=true/\(0<i->ki (aG l (i-1)).aF (aG l i).aF=true)
structure gQ (l:List ae):Prop where
 sH:l.length<=500
 ok:∀i,i<l.length->EW l i
noncomputable def nU (l:List ae):Bool:=@decide (gQ l) (Classical.propDecidable _)
theorem rN {l:List ae}:nU l=true↔gQ l:=by simp[nU]
theorem jP {l:List ae} (h:¬gQ l):false=nU l:=by simp[nU,h]
theorem xw {l:List ae} (h:gQ l):true=nU l:=by simp[nU,h]
theorem gQ.F9 {l:List ae} (h:gQ l):uc l:=by
 intro i j Em hj
 induction j with
 |zero=>omega
 |succ j ih=>
  have h1:=(h.ok (j+1) hj).2.2 (by omega)
  rw[Nat.add_sub_cancel]at h1
  by_cases he:i=j
  ·subst he;exact h1
  ·exact iq (ih (by omega) (by omega)) h1
theorem gQ.pt {l:List ae} (h:gQ l) {i:Nat} (hi:i<l.length):r8 (aG l i).aF=true:=(h.ok i hi).1
theorem om {p:ai} (h:r8 p=true):iB p.eM/\iB p.ep:=by
 unfold r8 at h
 simp only[Bool.and_eq_true]at h
 have:=eb h.1;have:=eb h.2
 unfold iB;omega
theorem FN (l:List ae):ao Tryz.prog 159 [.cr [.sl (l.map ad)]] (.bool (nU l)):=by
 refine ao.body eG rfl fun hl n0=>?_
 clear hl
 by_cases h1:(500:Int)<(l.length:Int)
 ·(try((repeat(revert hN;revert N;apply Pn.out));refine wk @h1 ?_;(repeat(refine Pn.mk ?_;intro N hN))))
  exact aI (b:=false) (.inl rfl) (sd @Nat.zero_add) (jP fun h=>by have:=h.sH;omega)
 (try((repeat(revert hN;revert N;apply Pn.out));refine wk @h1 ?_;(repeat(refine Pn.mk ?_;intro N hN))))
 refine aJ (fun n env st=>∃k:Nat,n=(l.length)-k/\k<=(l.length)/\env 3=.int .i64 (k:Int)/\(∀j:Nat,j<k->EW l j)) (l.length) ⟨0,by omega,by omega,sl @Nat.zero_add,fun _ h=>absurd h (Nat.not_lt_zero _)⟩ ?_
 rintro n_a env_a st_a ⟨k,rfl,ale,a3,kR⟩ dv
 have a0:=dv 0 (by kernel_rfl)
 simp only[go_sem, ↓reduceIte,Nat.reduceEqDiff,Nat.reduceAdd,Nat.reduceSub,Nat.reduceLeDiff,reduceCtorEq]at a0
 clear dv
 by_cases hk:(k:Int)<(l.length:Int)
 ·have cw:∀{e:Env},(e 3=.int .i64 (IntKind.i64.wrap ((k:Int)+1)))->(EW l k)->∃m0,m0<(l.length)-k/\∃k:Nat,m0=(l.length)-k/\k<=(l.length)/\e 3=.int .i64 (k:Int)/\(∀j:Nat,j<k->EW l j):=fun x1 x2=>⟨_,by omega,k+1,rfl,by omega,(by rw[x1,ax (by omega)]),(all_succ kR x2)⟩
  have e7:k<l.length:=by omega
  have eJ:=fm e7
  have kZ:(¬EW l k)->¬gQ l:=fun h hp=>h (hp.ok k e7)
  have hp:=uW (aG l k).aF
  have ht:=lp (aG l k).aQ 0 159
  cases b1:r8 (aG l k).aF
  ·rw[b1]at hp
   (repeat(first|((repeat(revert hN;revert N;apply Pn.out));refine wk (tw @a3 (tw @a0 (tw @hk (tw @eJ (tw @ad.eq_1 @aa.eq_1))))) ?_;(repeat(refine Pn.mk ?_;intro N hN)))|((try apply Or.inl);refine⟨_,ao.x (hp) (sd (tw @a3 (tw @a0 (tw @hk (tw @eJ (tw @ad.eq_1 @aa.eq_1)))))),?_⟩;refine hN _ _ ?_;clear hN N)))
   exact aI (b:=false) (.inl rfl) (sd @Nat.zero_add) (jP (kZ fun h=>by rw[EW,b1]at h;cases h.1))
  rw[b1]at hp
  cases b2:iP (aG l k).aQ 0 159
  ·rw[b2]at ht
   (repeat(first|((repeat(revert hN;revert N;apply Pn.out));refine wk (tw @a3 (tw @a0 (tw @hk (tw @eJ (tw @ad.eq_1 @aa.eq_1))))) ?_;(repeat(refine Pn.mk ?_;intro N hN)))|((try apply Or.inl);refine⟨_,ao.x (hp) (sd (tw @a3 (tw @a0 (tw @hk (tw @eJ (tw @ad.eq_1 @aa.eq_1)))))),?_⟩;refine hN _ _ ?_;clear hN N)|((try apply Or.inl);refine⟨_,ao.x (ht) (sd (tw @a3 (tw @a0 (tw @hk (tw @eJ (tw @ad.eq_1 @aa.eq_1)))))),?_⟩;refine hN _ _ ?_;clear hN N)))
   exact aI (b:=false) (.inl rfl) (sd @Nat.zero_add) (jP (kZ fun h=>by rw[EW,b2]at h;cases h.2.1))
  rw[b2]at ht
  by_cases h0:(0:Int)<(k:Int)
  ·have uK:=fm (l:=l) (i:=k-1) (by omega)
   have hw:IntKind.i64.wrap ((k:Int)-1)=((k-1:Nat):Int):=by rw[bp (by have:=e7;omega)];omega
   have hq:=nE (aG l (k-1)).aF (aG l k).aF
   cases b3:ki (aG l (k-1)).aF (aG l k).aF
   ·rw[b3]at hq
    (repeat(first|((repeat(revert hN;revert N;apply Pn.out));refine wk (tw @a3 (tw @a0 (tw @hk (tw @eJ (tw @uK (tw @h0 (tw @hw (tw @ad.eq_1 @aa.eq_1)))))))) ?_;(repeat(refine Pn.mk ?_;intro N hN)))|((try apply Or.inl);refine⟨_,ao.x (hp) (sd (tw @a3 (tw @a0 (tw @hk (tw @eJ (tw @uK (tw @h0 (tw @hw (tw @ad.eq_1 @aa.eq_1))))))))),?_⟩;refine hN _ _ ?_;clear hN N)|((try apply Or.inl);refine⟨_,ao.x (ht) (sd (tw @a3 (tw @a0 (tw @hk (tw @eJ (tw @uK (tw @h0 (tw @hw (tw @ad.eq_1 @aa.eq_1))))))))),?_⟩;refine hN _ _ ?_;clear hN N)|((try apply Or.inl);refine⟨_,ao.x (hq) (sd (tw @a3 (tw @a0 (tw @hk (tw @eJ (tw @uK (tw @h0 (tw @hw (tw @ad.eq_1 @aa.eq_1))))))))),?_⟩;refine hN _ _ ?_;clear hN N)))
    exact aI (b:=false) (.inl rfl) (sd @Nat.zero_add) (jP (kZ fun h=>by have:=h.2.2 (by omega);rw[b3]at this;cases this))
   ·rw[b3]at hq
    (repeat(first|((repeat(revert hN;revert N;apply Pn.out));refine wk (tw @a3 (tw @a0 (tw @hk (tw @eJ (tw @uK (tw @h0 (tw @hw (tw @ad.eq_1 @aa.eq_1)))))))) ?_;(repeat(refine Pn.mk ?_;intro N hN)))|((try apply Or.inl);refine⟨_,ao.x (hp) (sd (tw @a3 (tw @a0 (tw @hk (tw @eJ (tw @uK (tw @h0 (tw @hw (tw @ad.eq_1 @aa.eq_1))))))))),?_⟩;refine hN _ _ ?_;clear hN N)|((try apply Or.inl);refine⟨_,ao.x (ht) (sd (tw @a3 (tw @a0 (tw @hk (tw @eJ (tw @uK (tw @h0 (tw @hw (tw @ad.eq_1 @aa.eq_1))))))))),?_⟩;refine hN _ _ ?_;clear hN N)|((try apply Or.inl);refine⟨_,ao.x (hq) (sd (tw @a3 (tw @a0 (tw @hk (tw @eJ (tw @uK (tw @h0 (tw @hw (tw @ad.eq_1 @aa.eq_1))))))))),?_⟩;refine hN _ _ ?_;clear hN N)))
    exact cw (sd (tw @a3 @a0)) (⟨b1,b2,fun _=>b3⟩)
  ·have wz:k=0:=by omega
   (repeat(first|((repeat(revert hN;revert N;apply Pn.out));refine wk (tw @a3 (tw @a0 (tw @hk (tw @eJ (tw @h0 (tw @ad.eq_1 @aa.eq_1)))))) ?_;(repeat(refine Pn.mk ?_;intro N hN)))|((try apply Or.inl);refine⟨_,ao.x (hp) (sd (tw @a3 (tw @a0 (tw @hk (tw @eJ (tw @h0 (tw @ad.eq_1 @aa.eq_1))))))),?_⟩;refine hN _ _ ?_;clear hN N)|((try apply Or.inl);refine⟨_,ao.x (ht) (sd (tw @a3 (tw @a0 (tw @hk (tw @eJ (tw @h0 (tw @ad.eq_1 @aa.eq_1))))))),?_⟩;refine hN _ _ ?_;clear hN N)))
   exact cw (sd (tw @a3 @a0)) (⟨b1,b2,fun h=>by omega⟩)
 ·(try((repeat(revert hN;revert N;apply Pn.out));refine wk (tw @a3 (tw @a0 @hk)) ?_;(repeat(refine Pn.mk ?_;intro N hN))))
  exact aI (b:=true) (.inl rfl) (sd @Nat.zero_add) (xw ⟨by omega,fun i hi=>kR i (by omega)⟩)
theorem xq (a b:Int):ao Tryz.prog 178 [.int .i64 a,.int .i64 b] (.int .i64 (qy a b)):=by
 have nan:∀x:Int,ao Tryz.prog 208 [.int .i64 x] (.bool false):=fun x=>by
  refine ao.body eG rfl fun hl n0=>?_
  clear hl
  have e:decide (x=x)=true:=decide_eq_true rfl
  (try((repeat(revert hN;revert N;apply Pn.out));refine wk @e ?_;(repeat(refine Pn.mk ?_;intro N hN))))
  exact aI (b:=false) (.inl rfl) (sd @Nat.zero_add) rfl
 refine ao.body eG rfl fun hl n0=>?_
 clear hl
 have ha:=nan a
 have hb:=nan b
 by_cases h1:a<b
 ·(repeat(first|((repeat(revert hN;revert N;apply Pn.out));refine wk @h1 ?_;(repeat(refine Pn.mk ?_;intro N hN)))|((try apply Or.inl);refine⟨_,ao.x (ha) (sd @h1),?_⟩;refine hN _ _ ?_;clear hN N)|((try apply Or.inl);refine⟨_,ao.x (hb) (sd @h1),?_⟩;refine hN _ _ ?_;clear hN N)))
  exact bx (b:=-1) (.inl rfl) (sd @Nat.zero_add) (by rw[qy,if_pos h1])
 by_cases h2:b<a
 ·(repeat(first|((repeat(revert hN;revert N;apply Pn.out));refine wk (tw @h1 @h2) ?_;(repeat(refine Pn.mk ?_;intro N hN)))|((try apply Or.inl);refine⟨_,ao.x (ha) (sd (tw @h1 @h2)),?_⟩;refine hN _ _ ?_;clear hN N)|((try apply Or.inl);refine⟨_,ao.x (hb) (sd (tw @h1 @h2)),?_⟩;refine hN _ _ ?_;clear hN N)))
  exact bx (b:=1) (.inl rfl) (sd @Nat.zero_add) (by rw[qy,if_neg h1,if_pos h2])
 ·(repeat(first|((repeat(revert hN;revert N;apply Pn.out));refine wk (tw @h1 @h2) ?_;(repeat(refine Pn.mk ?_;intro N hN)))|((try apply Or.inl);refine⟨_,ao.x (ha) (sd (tw @h1 @h2)),?_⟩;refine hN _ _ ?_;clear hN N)|((try apply Or.inl);refine⟨_,ao.x (hb) (sd (tw @h1 @h2)),?_⟩;refine hN _ _ ?_;clear hN N)))
  exact bx (b:=0) (.inl rfl) (sd @Nat.zero_add) (by rw[qy,if_neg h1,if_neg h2])
def GM:List Int->Int
 |[]=>0
 |a::r=>if a=0 then GM r else a
theorem Iu:∀{l:List Int} {k:Nat} (hk:k<l.length),l[k]≠0->(∀j (h:j<l.length),j<k->l[j]=0)->GM l=l[k]
 |a::r,0,_,h,_=>by
  have h':a≠0:=h
  rw[GM,if_neg h'];rfl
 |a::r,k+1,hk,h,h0=>by
  have h':a=0:=h0 0 (by simp) (by omega)
  rw[GM,if_pos h',Iu (k:=k) (by simpa using hk) h fun j hj xE=>h0 (j+1) (by simpa using hj) (by omega)];rfl
theorem Bp:∀{l:List Int},(∀j (h:j<l.length),l[j]=0)->GM l=0
 |[],_=>rfl
 |a::r,h=>by
  have h':a=0:=h 0 (by simp)
  rw[GM,if_pos h',Bp fun j hj=>h (j+1) (by simpa using hj)]
theorem KO (a b:Int):GM [a,b]=KN a b:=by
 unfold KN
 by_cases h:a=0
 ·rw[GM,if_pos h,if_pos h,GM,GM];split<;>simp_all
 ·rw[GM,if_neg h,if_neg h]
theorem JT (l:List Int):ao Tryz.prog 177 [.sl (l.map bq)] (.int .i64 (GM l)):=by
 refine ao.body eG rfl fun hl n0=>?_
 have hlen:l.length<=9223372036854775807:=by simpa using(hl (.sl (l.map bq)) (by simp)).len
 clear hl
 (try((repeat(revert hN;revert N;apply Pn.out));refine wk @Nat.zero_add ?_;(repeat(refine Pn.mk ?_;intro N hN))))
 refine aJ (fun n env st=>∃k:Nat,n=(l.length)-k/\k<=(l.length)/\env 8=.int .i64 (k:Int)/\(∀j:Nat,j<k->∀h:j<l.length,l[j]=0)) (l.length) ⟨0,by omega,by omega,sl @Nat.zero_add,fun _ h=>absurd h (Nat.not_lt_zero _)⟩ ?_
 rintro n_a env_a st_a ⟨k,rfl,ale,a8,kR⟩ dv
 have a3:=dv 3 (by kernel_rfl);have a6:=dv 6 (by kernel_rfl);have a7:=dv 7 (by kernel_rfl)
 simp only[go_sem, ↓reduceIte,Nat.reduceEqDiff,Nat.reduceAdd,Nat.reduceSub,Nat.reduceLeDiff,reduceCtorEq]at a3 a6 a7
 clear dv
 by_cases hk:(k:Int)<(l.length:Int)
 ·have cw:∀{e:Env},(e 8=.int .i64 (IntKind.i64.wrap ((k:Int)+1)))->(∀h:k<l.length,l[k]=0)->∃m0,m0<(l.length)-k/\∃k:Nat,m0=(l.length)-k/\k<=(l.length)/\e 8=.int .i64 (k:Int)/\(∀j:Nat,j<k->∀h:j<l.length,l[j]=0):=fun x1 x2=>⟨_,by omega,k+1,rfl,by omega,(by rw[x1,ax (by omega)]),(all_succ kR x2)⟩
  have e7:k<l.length:=by omega
  have eJ:(l.map bq)[k]? =some (bq l[k]):=by simp[e7]
  generalize hv:l[k]=v at eJ
  by_cases h0:v=0
  ·have e:decide (v=0)=true:=decide_eq_true h0
   (try((repeat(revert hN;revert N;apply Pn.out));refine wk (tw @a8 (tw @a3 (tw @a6 (tw @a7 (tw @e (tw @hk (tw @eJ @bq.eq_1))))))) ?_;(repeat(refine Pn.mk ?_;intro N hN))))
   exact cw (sd (tw @a8 (tw @a3 (tw @a6 @a7)))) (fun _=>hv.trans h0)
  ·have e:decide (v=0)=false:=decide_eq_false h0
   (try((repeat(revert hN;revert N;apply Pn.out));refine wk (tw @a8 (tw @a3 (tw @a6 (tw @a7 (tw @e (tw @hk (tw @eJ @bq.eq_1))))))) ?_;(repeat(refine Pn.mk ?_;intro N hN))))
   exact bx (b:=v) (.inl rfl) (sd @Nat.zero_add) (by rw[Iu e7 (by rw[hv];exact h0) fun j h hj=>kR j hj h,hv])
 ·(try((repeat(revert hN;revert N;apply Pn.out));refine wk (tw @a8 (tw @a3 (tw @a6 (tw @a7 @hk)))) ?_;(repeat(refine Pn.mk ?_;intro N hN))))
  exact bx (b:=0) (.inl rfl) (sd @Nat.zero_add) (by rw[Bp fun j h=>kR j (by omega) h])
section
attribute [local go_sem] List.drop_zero List.take_succ_cons List.take_zero List.length_cons List.length_nil gT yI nV
theorem mU (a b:ai):ao Tryz.prog 130 [.agg (aa a),.agg (aa b)] (.int .i64 (pa a b)):=by
 refine ao.body eG rfl fun hl n0=>?_
 clear hl
 have h1:=xq a.ep b.ep
 have h2:=xq a.eM b.eM
 have h3:=JT [qy a.ep b.ep,qy a.eM b.eM]
 rw[KO,List.map_cons,List.map_cons,List.map_nil,bq,bq]at h3
 (repeat(first|((repeat(revert hN;revert N;apply Pn.out));refine wk @aa.eq_1 ?_;(repeat(refine Pn.mk ?_;intro N hN)))|((try apply Or.inl);refine⟨_,ao.x (h1) (sd @aa.eq_1),?_⟩;refine hN _ _ ?_;clear hN N)|((try apply Or.inl);refine⟨_,ao.x (h2) (sd @aa.eq_1),?_⟩;refine hN _ _ ?_;clear hN N)|((try apply Or.inl);refine⟨_,ao.x (h3) (sd @aa.eq_1),?_⟩;refine hN _ _ ?_;clear hN N)))
 exact bx (b:=pa a b) (.inl rfl) (by simp only[go_sem, ↓reduceIte,Nat.reduceEqDiff,Nat.reduceAdd,Nat.reduceSub,Nat.reduceLeDiff,reduceCtorEq,pa]) rfl
end
theorem Ks (a b:ai):ao Tryz.prog 201 [.agg (aa a),.agg (aa b)] (.bool (ki a b)):=by
 refine ao.body eG rfl fun hl n0=>?_
 clear hl
 have h1:=mU a b
 rw[aa,aa]at h1
 (repeat(first|((repeat(revert hN;revert N;apply Pn.out));refine wk @aa.eq_1 ?_;(repeat(refine Pn.mk ?_;intro N hN)))|((try apply Or.inl);refine⟨_,ao.x (h1) (sd @aa.eq_1),?_⟩;refine hN _ _ ?_;clear hN N)))
 exact aI (b:=decide (pa a b<0)) (.inl rfl) (sd @Nat.zero_add) (mi a b)
theorem jX (t:ae) (p:ai):ao Tryz.prog 143 [.agg (ad t),.agg (aa p)] (.int .i64 (pa t.aF p)):=by
 refine ao.body eG rfl fun hl n0=>?_
 clear hl
 have h1:=mU t.aF p
 rw[aa,aa]at h1
 (repeat(first|((repeat(revert hN;revert N;apply Pn.out));refine wk (tw @ad.eq_1 @aa.eq_1) ?_;(repeat(refine Pn.mk ?_;intro N hN)))|((try apply Or.inl);refine⟨_,ao.x (h1) (sd (tw @ad.eq_1 @aa.eq_1)),?_⟩;refine hN _ _ ?_;clear hN N)))
 exact bx (b:=pa t.aF p) (.inl rfl) (sd @Nat.zero_add) rfl
theorem rQ (l:List ae):ao Tryz.prog 165 [.agg [.sl (l.map ad)]] (.bool (nU l)):=by
 refine ao.body eG rfl fun hl n0=>?_
 have hlen:l.length<=9223372036854775807:=by
  have h1:=(hl (.agg [.sl (l.map ad)]) (by simp)).Mf (a:=.sl (l.map ad)) (by simp)
  simpa using h1.len
 clear hl
 (try((repeat(revert hN;revert N;apply Pn.out));refine wk @Nat.zero_add ?_;(repeat(refine Pn.mk ?_;intro N hN))))
 refine aJ (fun n env st=>∃k:Nat,n=(l.length)-k/\k<=(l.length)/\env 8=.int .i64 (k:Int)/\st.get ⟨165000000,n0⟩=some ⟨true,1,[[.sl (l.map ad)]]⟩/\(∀j:Nat,j<k->EW l j)) (l.length) ⟨0,by omega,by omega,sl @Nat.zero_add,sl @Nat.zero_add,fun _ h=>absurd h (Nat.not_lt_zero _)⟩ ?_
 rintro n_a env_a st_a ⟨k,rfl,ale,a8,ag0,kR⟩ dv
 have a1:=dv 1 (by kernel_rfl);have a6:=dv 6 (by kernel_rfl);have a7:=dv 7 (by kernel_rfl)
 simp only[go_sem, ↓reduceIte,Nat.reduceEqDiff,Nat.reduceAdd,Nat.reduceSub,Nat.reduceLeDiff,reduceCtorEq]at a1 a6 a7
 clear dv
 by_cases hk:(k:Int)<(l.length:Int)
 ·have cw:∀{e:Env} {gg:Rows},(e 8=.int .i64 (IntKind.i64.wrap ((k:Int)+1)))->(gg ⟨165000000,n0⟩=some ⟨true,1,[[.sl (l.map ad)]]⟩)->(EW l k)->∃m0,m0<(l.length)-k/\∃k:Nat,m0=(l.length)-k/\k<=(l.length)/\e 8=.int .i64 (k:Int)/\gg ⟨165000000,n0⟩=some ⟨true,1,[[.sl (l.map ad)]]⟩/\(∀j:Nat,j<k->EW l j):=fun x1 x2 x3=>⟨_,by omega,k+1,rfl,by omega,(by rw[x1,ax (by omega)]),x2,(all_succ kR x3)⟩
  have e7:k<l.length:=by omega
  have eJ:=fm e7
  have kZ:(¬EW l k)->¬gQ l:=fun h hp=>h (hp.ok k e7)
  have hp:=j7 (aG l k).aF
  have ht:=xL (aG l k).aQ 160 (by omega) (by omega)
  rw[show(160:Int)-1=159 from rfl]at ht
  cases b1:r8 (aG l k).aF
  ·rw[b1]at hp
   (repeat(first|((repeat(revert hN;revert N;apply Pn.out));refine wk (tw @a8 (tw @ag0 (tw @a1 (tw @a6 (tw @a7 (tw @hk (tw @eJ (tw @ad.eq_1 @aa.eq_1)))))))) ?_;(repeat(refine Pn.mk ?_;intro N hN)))|((try apply Or.inl);refine⟨_,ao.x (hp) (sd (tw @a8 (tw @ag0 (tw @a1 (tw @a6 (tw @a7 (tw @hk (tw @eJ (tw @ad.eq_1 @aa.eq_1))))))))),?_⟩;refine hN _ _ ?_;clear hN N)))
   exact aI (b:=false) (.inl rfl) (sd @Nat.zero_add) (jP (kZ fun h=>by rw[EW,b1]at h;cases h.1))
  rw[b1]at hp
  cases b2:iP (aG l k).aQ 0 159
  ·rw[b2]at ht
   (repeat(first|((repeat(revert hN;revert N;apply Pn.out));refine wk (tw @a8 (tw @ag0 (tw @a1 (tw @a6 (tw @a7 (tw @hk (tw @eJ (tw @ad.eq_1 @aa.eq_1)))))))) ?_;(repeat(refine Pn.mk ?_;intro N hN)))|((try apply Or.inl);refine⟨_,ao.x (hp) (sd (tw @a8 (tw @ag0 (tw @a1 (tw @a6 (tw @a7 (tw @hk (tw @eJ (tw @ad.eq_1 @aa.eq_1))))))))),?_⟩;refine hN _ _ ?_;clear hN N)|((try apply Or.inl);refine⟨_,ao.x (ht) (sd (tw @a8 (tw @ag0 (tw @a1 (tw @a6 (tw @a7 (tw @hk (tw @eJ (tw @ad.eq_1 @aa.eq_1))))))))),?_⟩;refine hN _ _ ?_;clear hN N)))
   exact aI (b:=false) (.inl rfl) (sd @Nat.zero_add) (jP (kZ fun h=>by rw[EW,b2]at h;cases h.2.1))
  rw[b2]at ht
  by_cases h0:(0:Int)<(k:Int)
  ·have uK:=fm (l:=l) (i:=k-1) (by omega)
   have hw:IntKind.i64.wrap ((k:Int)-1)=((k-1:Nat):Int):=by rw[bp (by omega)];omega
   have hq:=Ks (aG l (k-1)).aF (aG l k).aF
   cases b3:ki (aG l (k-1)).aF (aG l k).aF
   ·rw[b3]at hq
    (repeat(first|((repeat(revert hN;revert N;apply Pn.out));refine wk (tw @a8 (tw @ag0 (tw @a1 (tw @a6 (tw @a7 (tw @hk (tw @eJ (tw @uK (tw @h0 (tw @hw (tw @ad.eq_1 @aa.eq_1))))))))))) ?_;(repeat(refine Pn.mk ?_;intro N hN)))|((try apply Or.inl);refine⟨_,ao.x (hp) (sd (tw @a8 (tw @ag0 (tw @a1 (tw @a6 (tw @a7 (tw @hk (tw @eJ (tw @uK (tw @h0 (tw @hw (tw @ad.eq_1 @aa.eq_1)))))))))))),?_⟩;refine hN _ _ ?_;clear hN N)|((try apply Or.inl);refine⟨_,ao.x (ht) (sd (tw @a8 (tw @ag0 (tw @a1 (tw @a6 (tw @a7 (tw @hk (tw @eJ (tw @uK (tw @h0 (tw @hw (tw @ad.eq_1 @aa.eq_1)))))))))))),?_⟩;refine hN _ _ ?_;clear hN N)|((try apply Or.inl);refine⟨_,ao.x (hq) (sd (tw @a8 (tw @ag0 (tw @a1 (tw @a6 (tw @a7 (tw @hk (tw @eJ (tw @uK (tw @h0 (tw @hw (tw @ad.eq_1 @aa.eq_1)))))))))))),?_⟩;refine hN _ _ ?_;clear hN N)))
    exact aI (b:=false) (.inl rfl) (sd @Nat.zero_add) (jP (kZ fun h=>by have:=h.2.2 (by omega);rw[b3]at this;cases this))
   ·rw[b3]at hq
    (repeat(first|((repeat(revert hN;revert N;apply Pn.out));refine wk (tw @a8 (tw @ag0 (tw @a1 (tw @a6 (tw @a7 (tw @hk (tw @eJ (tw @uK (tw @h0 (tw @hw (tw @ad.eq_1 @aa.eq_1))))))))))) ?_;(repeat(refine Pn.mk ?_;intro N hN)))|((try apply Or.inl);refine⟨_,ao.x (hp) (sd (tw @a8 (tw @ag0 (tw @a1 (tw @a6 (tw @a7 (tw @hk (tw @eJ (tw @uK (tw @h0 (tw @hw (tw @ad.eq_1 @aa.eq_1)))))))))))),?_⟩;refine hN _ _ ?_;clear hN N)|((try apply Or.inl);refine⟨_,ao.x (ht) (sd (tw @a8 (tw @ag0 (tw @a1 (tw @a6 (tw @a7 (tw @hk (tw @eJ (tw @uK (tw @h0 (tw @hw (tw @ad.eq_1 @aa.eq_1)))))))))))),?_⟩;refine hN _ _ ?_;clear hN N)|((try apply Or.inl);refine⟨_,ao.x (hq) (sd (tw @a8 (tw @ag0 (tw @a1 (tw @a6 (tw @a7 (tw @hk (tw @eJ (tw @uK (tw @h0 (tw @hw (tw @ad.eq_1 @aa.eq_1)))))))))))),?_⟩;refine hN _ _ ?_;clear hN N)))
    refine cw ?_ ?_ (⟨b1,b2,fun _=>b3⟩)
    all_goals simp only[go_sem, ↓reduceIte,Nat.reduceEqDiff,Nat.reduceAdd,Nat.reduceSub,Nat.reduceLeDiff,reduceCtorEq,a8,ag0,a1,a6,a7]
  ·have wz:k=0:=by omega
   (repeat(first|((repeat(revert hN;revert N;apply Pn.out));refine wk (tw @a8 (tw @ag0 (tw @a1 (tw @a6 (tw @a7 (tw @hk (tw @eJ (tw @h0 (tw @ad.eq_1 @aa.eq_1))))))))) ?_;(repeat(refine Pn.mk ?_;intro N hN)))|((try apply Or.inl);refine⟨_,ao.x (hp) (sd (tw @a8 (tw @ag0 (tw @a1 (tw @a6 (tw @a7 (tw @hk (tw @eJ (tw @h0 (tw @ad.eq_1 @aa.eq_1)))))))))),?_⟩;refine hN _ _ ?_;clear hN N)|((try apply Or.inl);refine⟨_,ao.x (ht) (sd (tw @a8 (tw @ag0 (tw @a1 (tw @a6 (tw @a7 (tw @hk (tw @eJ (tw @h0 (tw @ad.eq_1 @aa.eq_1)))))))))),?_⟩;refine hN _ _ ?_;clear hN N)))
   refine cw ?_ ?_ (⟨b1,b2,fun h=>by omega⟩)
   all_goals simp only[go_sem, ↓reduceIte,Nat.reduceEqDiff,Nat.reduceAdd,Nat.reduceSub,Nat.reduceLeDiff,reduceCtorEq,a8,ag0,a1,a6,a7]
 ·(try((repeat(revert hN;revert N;apply Pn.out));refine wk (tw @a8 (tw @ag0 (tw @a1 (tw @a6 (tw @a7 @hk))))) ?_;(repeat(refine Pn.mk ?_;intro N hN))))
  refine aI (b:=decide ((l.length:Int)<=500)) (.inl rfl) (sd @Nat.zero_add) ?_
  by_cases h5:(l.length:Int)<=500
  ·rw[decide_eq_true h5];exact xw ⟨by omega,fun i hi=>kR i (by omega)⟩
  ·rw[decide_eq_false h5];exact jP fun h=>by have:=h.sH;omega
end Go.Proofs.YtgoelphibofcmaaGreat.V

namespace Go.Proofs.YtgoelphibofcmaaGreat.V
open Go.RowKit
attribute [local irreducible] dD wpOps gI Call
attribute [local go_sem] aK fW eU gE gy cE upd ck K.av cN AV.cells AV.cell rowOf rowsOf part ld rowAt bB bY dO ev iI bK db eI gr e8 dx eB cZ cY ea ec bQ aY cQ bP cU cR ez eC eA cP bV da ew bL aL cW cF iH bz cK bR aU dh aT dP AV.undef bF bG eh eu dX dY cI eH eK cD eE eD cV cX List.getD_cons_zero List.getD_cons_succ List.getD_nil List.all_cons List.all_nil Bool.and_true Bool.true_and Bool.and_self Bool.not_true Bool.not_false Option.map_some Option.map_none Option.bind_some Option.bind_none List.length_cons List.length_nil List.take_succ_cons List.take_zero List.take_nil List.drop_succ_cons List.drop_zero List.drop_nil List.head?_cons List.map_cons List.map_nil List.getElem?_cons_zero List.getElem?_cons_succ List.cons_append List.nil_append List.append_nil List.length_map List.set_cons_zero List.set_cons_succ Nat.reduceMul eq_self Int.toNat_natCast Int.natCast_nonneg and_self true_and and_true decide_true decide_false Bool.false_eq_true Nat.zero_add Nat.add_zero List.contains_cons List.contains_nil Bool.or_false Bool.false_or beq_self_eq_true Nat.reduceBEq ne_eq not_true_eq_false not_false_eq_true Id.mk.injEq false_and and_false Nat.reduceLT Int.reduceLE Int.reduceLT Int.reduceToNat Int.reduceNeg Int.reduceAdd Nat.le_refl List.length_append beq_true beq_false Bool.not_eq_eq_eq_not or_false false_or dQ aj aq aH bd bE cm aW bc aN bf cL bU
theorem xl (cells:List ae) (p:ai) (hR:uc cells) (Fq:cells.length<=1048576):
  ao Tryz.prog 142 [.sl (cells.map ad),.agg (aa p),.fn 143 []] (.gx [.int .i64 (lT cells p),.bool (decide (lT cells p<cells.length)&&decide ((aG cells (lT cells p)).aF=p))]):=by
 refine ao.body eG rfl fun hl n0=>?_
 clear hl
 (try((repeat(revert hN;revert N;apply Pn.out));refine wk @aa.eq_1 ?_;(repeat(refine Pn.mk ?_;intro N hN))))
 refine aJ (fun n env st=>∃i j:Nat,n=j-i/\i<=j/\j<=cells.length/\(∀x,x<i->ki (aG cells x).aF p=true)/\(∀x,j<=x->x<cells.length->ki (aG cells x).aF p=false)/\env 9=.int .i64 i/\env 10=.int .i64 j/\st.get ⟨142000000,n0⟩=some ⟨true,2,[aa p]⟩) cells.length ⟨0,cells.length,by omega,by omega,by omega,fun x h=>by omega,fun x h1 h2=>by omega,by(simp only[go_sem, ↓reduceIte,Nat.reduceEqDiff,Nat.reduceAdd,Nat.reduceSub,Nat.reduceLeDiff,reduceCtorEq])<;>rfl,sd @Nat.zero_add,sd @aa.eq_1⟩ ?_
 rintro n env st ⟨i,j,rfl,Em,hj,jA,BV,h9,h10,hg⟩ fr
 have h0:=fr 0 (by kernel_rfl)
 have h2:=fr 2 (by kernel_rfl)
 have h4:=fr 4 (by kernel_rfl)
 have h8:=fr 8 (by kernel_rfl)
 simp only[go_sem, ↓reduceIte,Nat.reduceEqDiff,Nat.reduceAdd,Nat.reduceSub,Nat.reduceLeDiff,reduceCtorEq]at h0 h2 h4 h8
 clear fr
 by_cases dz:(i:Int)<(j:Int)
 ·have e1:IntKind.i64.wrap ((i:Int)+j)=((i+j:Nat):Int):=by rw[bp (by omega)];rfl
  have hm:(i+j) / 2<cells.length:=by omega
  have gF:(cells.map ad)[(i+j) / 2]? =some (ad (aG cells ((i+j) / 2))):=fm (l:=cells) hm
  have e2:IntKind.i64.wrap ((IntKind.u64.wrap ((i+j:Nat):Int)).fdiv (2 ^ min 1 IntKind.u64.bits))=(((i+j) / 2:Nat):Int):=by
   have h:IntKind.u64.wrap ((i+j:Nat):Int)=((i+j:Nat):Int):=by rw[IntKind.wrap_u64];omega
   rw[h,show min 1 IntKind.u64.bits=1 from rfl,show((2:Int) ^ 1)=2 from rfl,Int.fdiv_eq_ediv_of_nonneg _ (by omega)]
   rw[bp (by omega)];omega
  have Pb:IntKind.i64.wrap ((IntKind.u64.wrap ((i+j:Nat):Int)).fdiv (2 ^ min 1 64))=(((i+j) / 2:Nat):Int):=e2
  have e3:=ax (k:=(i+j) / 2) (by omega)
  by_cases hc:pa (aG cells ((i+j) / 2)).aF p<0
  ·have hl:ki (aG cells ((i+j) / 2)).aF p=true:=by rw[<-mi];simpa using hc
   (repeat(first|((repeat(revert hN;revert N;apply Pn.out));refine wk (tw @h0 (tw @h2 (tw @h4 (tw @h8 (tw @h9 (tw @h10 (tw @hg (tw @dz (tw @e1 (tw @e2 (tw @Pb (tw @gF (tw @hc (tw @ad.eq_1 @aa.eq_1)))))))))))))) ?_;(repeat(refine Pn.mk ?_;intro N hN)))|((try apply Or.inl);refine⟨_,ao.x (jX (aG cells ((i+j) / 2)) p) (sd (tw @h0 (tw @h2 (tw @h4 (tw @h8 (tw @h9 (tw @h10 (tw @hg (tw @dz (tw @e1 (tw @e2 (tw @Pb (tw @gF (tw @hc (tw @ad.eq_1 @aa.eq_1))))))))))))))),?_⟩;refine hN _ _ ?_;clear hN N)))
   refine⟨_,?_,(i+j) / 2+1,j,rfl,by omega,hj,fun x hx=>?_,BV,sd @e3,sd @h10,sd (tw @hg @aa.eq_1)⟩
   ·omega
   ·by_cases Nv:x=(i+j) / 2
    ·subst Nv;exact hl
    ·exact iq (hR x _ (by omega) hm) hl
  ·have hl:ki (aG cells ((i+j) / 2)).aF p=false:=by rw[<-mi];simpa using hc
   (repeat(first|((repeat(revert hN;revert N;apply Pn.out));refine wk (tw @h0 (tw @h2 (tw @h4 (tw @h8 (tw @h9 (tw @h10 (tw @hg (tw @dz (tw @e1 (tw @e2 (tw @Pb (tw @gF (tw @hc (tw @ad.eq_1 @aa.eq_1)))))))))))))) ?_;(repeat(refine Pn.mk ?_;intro N hN)))|((try apply Or.inl);refine⟨_,ao.x (jX (aG cells ((i+j) / 2)) p) (sd (tw @h0 (tw @h2 (tw @h4 (tw @h8 (tw @h9 (tw @h10 (tw @hg (tw @dz (tw @e1 (tw @e2 (tw @Pb (tw @gF (tw @hc (tw @ad.eq_1 @aa.eq_1))))))))))))))),?_⟩;refine hN _ _ ?_;clear hN N)))
   refine⟨_,?_,i,(i+j) / 2,rfl,by omega,by omega,jA,fun x h1 h2=>?_,sd @h9,sd (tw @e2 @Pb),sd (tw @hg @aa.eq_1)⟩
   ·omega
   ·by_cases Nv:x=(i+j) / 2
    ·subst Nv;exact hl
    ·rw[Bool.eq_false_iff]
     intro hc
     have h3:=iq (hR ((i+j) / 2) x (by omega) h2) hc
     rw[hl]at h3;cases h3
 ·have M8:i=j:=by omega
  subst M8
  have CP:lT cells p=i:=y7 hj jA fun h=>BV i (Nat.le_refl _) h
  by_cases hn:(i:Int)<(cells.length:Int)
  ·have fB:i<cells.length:=by omega
   have gF:(cells.map ad)[i]? =some (ad (aG cells i)):=fm (l:=cells) fB
   have hd:decide (pa (aG cells i).aF p=0)=decide ((aG cells i).aF=p):=by simp only[E7]
   (repeat(first|((repeat(revert hN;revert N;apply Pn.out));refine wk (tw @h0 (tw @h2 (tw @h4 (tw @h8 (tw @h9 (tw @h10 (tw @hg (tw @dz (tw @hn (tw @gF (tw @ad.eq_1 @aa.eq_1))))))))))) ?_;(repeat(refine Pn.mk ?_;intro N hN)))|((try apply Or.inl);refine⟨_,ao.x (jX (aG cells i) p) (sd (tw @h0 (tw @h2 (tw @h4 (tw @h8 (tw @h9 (tw @h10 (tw @hg (tw @dz (tw @hn (tw @gF (tw @ad.eq_1 @aa.eq_1)))))))))))),?_⟩;refine hN _ _ ?_;clear hN N)))
   refine jk (.inl rfl) (r1:=.int .i64 i) (r2:=.bool (decide ((aG cells i).aF=p))) ?_ ?_ ?_
   ·simp only[go_sem, ↓reduceIte,Nat.reduceEqDiff,Nat.reduceAdd,Nat.reduceSub,Nat.reduceLeDiff,reduceCtorEq]
   ·simp only[go_sem, ↓reduceIte,Nat.reduceEqDiff,Nat.reduceAdd,Nat.reduceSub,Nat.reduceLeDiff,reduceCtorEq,hd]
   ·simp only[dM,aP,bt,dC,dU,Option.map_some,CP,fB,decide_true,Bool.true_and]
  ·have fB:¬i<cells.length:=by omega
   (try((repeat(revert hN;revert N;apply Pn.out));refine wk (tw @h0 (tw @h2 (tw @h4 (tw @h8 (tw @h9 (tw @h10 (tw @hg (tw @dz (tw @hn (tw @ad.eq_1 @aa.eq_1)))))))))) ?_;(repeat(refine Pn.mk ?_;intro N hN))))
   refine jk (.inl rfl) (r1:=.int .i64 i) (r2:=.bool false) ?_ ?_ ?_
   ·simp only[go_sem, ↓reduceIte,Nat.reduceEqDiff,Nat.reduceAdd,Nat.reduceSub,Nat.reduceLeDiff,reduceCtorEq]
   ·simp only[go_sem, ↓reduceIte,Nat.reduceEqDiff,Nat.reduceAdd,Nat.reduceSub,Nat.reduceLeDiff,reduceCtorEq]
   ·simp only[dM,aP,bt,dC,dU,Option.map_some,CP,fB,decide_false,Bool.false_and]
theorem F3 (l:List ae) (p:ai) (hR:uc l) (Fq:l.length<=1048576):ao Tryz.prog 265 [.agg [.sl (l.map ad)],.agg (aa p)] (.int .i64 (ek l p)):=by
 refine ao.body eG rfl fun hl n0=>?_
 clear hl
 rw[za hR]
 have hb:=xl l p hR Fq
 rw[aa]at hb
 cases hf:(decide (lT l p<l.length)&&decide ((aG l (lT l p)).aF=p))
 ·rw[hf]at hb
  (repeat(first|((repeat(revert hN;revert N;apply Pn.out));refine wk @aa.eq_1 ?_;(repeat(refine Pn.mk ?_;intro N hN)))|((try apply Or.inl);refine⟨_,ao.x (hb) (sd @aa.eq_1),?_⟩;refine hN _ _ ?_;clear hN N)))
  exact bx (b:=-1) (.inl rfl) (sd @Nat.zero_add) (by rw[if_neg];intro h;simp[h.1,h.2]at hf)
 ·rw[hf]at hb
  (repeat(first|((repeat(revert hN;revert N;apply Pn.out));refine wk @aa.eq_1 ?_;(repeat(refine Pn.mk ?_;intro N hN)))|((try apply Or.inl);refine⟨_,ao.x (hb) (sd @aa.eq_1),?_⟩;refine hN _ _ ?_;clear hN N)))
  exact bx (b:=(lT l p:Int)) (.inl rfl) (sd @Nat.zero_add) (by rw[if_pos];simpa using hf)
theorem JN (l:List ae) (p:ai) (hR:uc l) (Fq:l.length<=1048576):ao Tryz.prog 117 [.agg [.sl (l.map ad)],.agg (aa p)] (.int .i64 (fH l p)):=by
 refine ao.body eG rfl fun hl n0=>?_
 clear hl
 have hi:=za (l:=l) (p:=p) hR
 have hb:=xl l p hR Fq
 rw[aa]at hb
 cases hf:(decide (lT l p<l.length)&&decide ((aG l (lT l p)).aF=p))
 ·rw[hf]at hb
  (repeat(first|((repeat(revert hN;revert N;apply Pn.out));refine wk @aa.eq_1 ?_;(repeat(refine Pn.mk ?_;intro N hN)))|((try apply Or.inl);refine⟨_,ao.x (hb) (sd @aa.eq_1),?_⟩;refine hN _ _ ?_;clear hN N)))
  exact bx (b:=-1) (.inl rfl) (sd @Nat.zero_add) (by
   have hx:ek l p= -1:=by rw[hi,if_neg (by intro h;simp[h.1,h.2]at hf)]
   rw[fH,hx];rfl)
 ·rw[hf]at hb
  have hc:lT l p<l.length/\(aG l (lT l p)).aF=p:=by simpa using hf
  have hg:=fm hc.1
  (repeat(first|((repeat(revert hN;revert N;apply Pn.out));refine wk (tw @aa.eq_1 (tw @hg @ad.eq_1)) ?_;(repeat(refine Pn.mk ?_;intro N hN)))|((try apply Or.inl);refine⟨_,ao.x (hb) (sd (tw @aa.eq_1 (tw @hg @ad.eq_1))),?_⟩;refine hN _ _ ?_;clear hN N)))
  exact bx (b:=(aG l (lT l p)).aQ) (.inl rfl) (sd @Nat.zero_add) (by
   have hx:ek l p=(lT l p:Int):=by rw[hi,if_pos hc]
   rw[fH,hx,if_pos (by omega),Int.toNat_natCast])
theorem pZ (l:List ae) (p:ai) (hR:uc l) (Fq:l.length<=1048576):ao Tryz.prog 124 [.cr [.sl (l.map ad)],.agg (aa p)] (.int .i64 (ek l p)):=by
 refine ao.body eG rfl fun hl n0=>?_
 clear hl
 rw[za hR]
 (try((repeat(revert hN;revert N;apply Pn.out));refine wk @aa.eq_1 ?_;(repeat(refine Pn.mk ?_;intro N hN))))
 refine aJ (fun n env st=>∃i j:Nat,n=j-i/\i<=j/\j<=l.length/\(∀x,x<i->ki (aG l x).aF p=true)/\(∀x,j<=x->x<l.length->ki (aG l x).aF p=false)/\env 5=.int .i64 i/\env 6=.int .i64 j/\st.get ⟨124000000,n0⟩=some ⟨true,2,[aa p]⟩) l.length ⟨0,l.length,by omega,by omega,by omega,fun x h=>by omega,fun x h1 h2=>by omega,by(simp only[go_sem, ↓reduceIte,Nat.reduceEqDiff,Nat.reduceAdd,Nat.reduceSub,Nat.reduceLeDiff,reduceCtorEq])<;>rfl,sd @Nat.zero_add,sd @aa.eq_1⟩ ?_
 rintro n env st ⟨i,j,rfl,Em,hj,jA,BV,h5,h6,hg⟩ fr
 have h0:=fr 0 (by kernel_rfl)
 have h3:=fr 3 (by kernel_rfl)
 simp only[go_sem, ↓reduceIte,Nat.reduceEqDiff,Nat.reduceAdd,Nat.reduceSub,Nat.reduceLeDiff,reduceCtorEq]at h0 h3
 clear fr
 by_cases dz:(i:Int)<(j:Int)
 ·have e1:IntKind.i64.wrap ((i:Int)+j)=((i+j:Nat):Int):=by rw[bp (by omega)];rfl
  have hm:(i+j) / 2<l.length:=by omega
  have gF:=fm hm
  have e2:IntKind.i64.wrap (((i+j:Nat):Int).tdiv 2)=(((i+j) / 2:Nat):Int):=by
   rw[Int.tdiv_eq_ediv_of_nonneg (by omega),bp (by omega)];omega
  have e3:=ax (k:=(i+j) / 2) (by omega)
  have hq:=nE (aG l ((i+j) / 2)).aF p
  cases hl:ki (aG l ((i+j) / 2)).aF p
  ·rw[hl]at hq
   (repeat(first|((repeat(revert hN;revert N;apply Pn.out));refine wk (tw @h0 (tw @h3 (tw @h5 (tw @h6 (tw @hg (tw @dz (tw @e1 (tw @e2 (tw @gF (tw @ad.eq_1 @aa.eq_1)))))))))) ?_;(repeat(refine Pn.mk ?_;intro N hN)))|((try apply Or.inl);refine⟨_,ao.x (hq) (sd (tw @h0 (tw @h3 (tw @h5 (tw @h6 (tw @hg (tw @dz (tw @e1 (tw @e2 (tw @gF (tw @ad.eq_1 @aa.eq_1))))))))))),?_⟩;refine hN _ _ ?_;clear hN N)))
   refine⟨_,?_,i,(i+j) / 2,rfl,by omega,by omega,jA,fun x h1 h2=>?_,sd @h5,sd @e2,sd (tw @hg @aa.eq_1)⟩
   ·omega
   ·by_cases Nv:x=(i+j) / 2
    ·subst Nv;exact hl
    ·rw[Bool.eq_false_iff]
     intro hc
     have h3:=iq (hR ((i+j) / 2) x (by omega) h2) hc
     rw[hl]at h3;cases h3
  ·rw[hl]at hq
   (repeat(first|((repeat(revert hN;revert N;apply Pn.out));refine wk (tw @h0 (tw @h3 (tw @h5 (tw @h6 (tw @hg (tw @dz (tw @e1 (tw @e2 (tw @gF (tw @ad.eq_1 @aa.eq_1)))))))))) ?_;(repeat(refine Pn.mk ?_;intro N hN)))|((try apply Or.inl);refine⟨_,ao.x (hq) (sd (tw @h0 (tw @h3 (tw @h5 (tw @h6 (tw @hg (tw @dz (tw @e1 (tw @e2 (tw @gF (tw @ad.eq_1 @aa.eq_1))))))))))),?_⟩;refine hN _ _ ?_;clear hN N)))
   refine⟨_,?_,(i+j) / 2+1,j,rfl,by omega,hj,fun x hx=>?_,BV,sd @e3,sd @h6,sd (tw @hg @aa.eq_1)⟩
   ·omega
   ·by_cases Nv:x=(i+j) / 2
    ·subst Nv;exact hl
    ·exact iq (hR x _ (by omega) hm) hl
 ·have M8:i=j:=by omega
  subst M8
  have CP:lT l p=i:=y7 hj jA fun h=>BV i (Nat.le_refl _) h
  by_cases hn:(i:Int)<(l.length:Int)
  ·have fB:i<l.length:=by omega
   have gF:=fm fB
   by_cases hp:(aG l i).aF=p
   ·have hx:decide ((aG l i).aF.eM=p.eM)=true:=decide_eq_true (by rw[hp])
    have hy:decide ((aG l i).aF.ep=p.ep)=true:=decide_eq_true (by rw[hp])
    (try((repeat(revert hN;revert N;apply Pn.out));refine wk (tw @h0 (tw @h3 (tw @h5 (tw @h6 (tw @hg (tw @dz (tw @hn (tw @gF (tw @hx (tw @hy (tw @ad.eq_1 @aa.eq_1))))))))))) ?_;(repeat(refine Pn.mk ?_;intro N hN))))
    exact bx (b:=(i:Int)) (.inl rfl) (sd @Nat.zero_add) (by rw[CP,if_pos ⟨fB,hp⟩])
   ·by_cases hx:(aG l i).aF.eM=p.eM
    ·have sQ:decide ((aG l i).aF.eM=p.eM)=true:=decide_eq_true hx
     have Rx:decide ((aG l i).aF.ep=p.ep)=false:=decide_eq_false fun h=>hp (zo hx h)
     (try((repeat(revert hN;revert N;apply Pn.out));refine wk (tw @h0 (tw @h3 (tw @h5 (tw @h6 (tw @hg (tw @dz (tw @hn (tw @gF (tw @sQ (tw @Rx (tw @ad.eq_1 @aa.eq_1))))))))))) ?_;(repeat(refine Pn.mk ?_;intro N hN))))
     exact bx (b:=-1) (.inl rfl) (sd @Nat.zero_add) (by rw[CP,if_neg fun h=>hp h.2])
    ·have sQ:decide ((aG l i).aF.eM=p.eM)=false:=decide_eq_false hx
     (try((repeat(revert hN;revert N;apply Pn.out));refine wk (tw @h0 (tw @h3 (tw @h5 (tw @h6 (tw @hg (tw @dz (tw @hn (tw @gF (tw @sQ (tw @Bool.false_and (tw @ad.eq_1 @aa.eq_1))))))))))) ?_;(repeat(refine Pn.mk ?_;intro N hN))))
     exact bx (b:=-1) (.inl rfl) (sd @Nat.zero_add) (by rw[CP,if_neg fun h=>hp h.2])
  ·have fB:¬i<l.length:=by omega
   (try((repeat(revert hN;revert N;apply Pn.out));refine wk (tw @h0 (tw @h3 (tw @h5 (tw @h6 (tw @hg (tw @dz (tw @hn (tw @ad.eq_1 @aa.eq_1)))))))) ?_;(repeat(refine Pn.mk ?_;intro N hN))))
   exact bx (b:=-1) (.inl rfl) (sd @Nat.zero_add) (by rw[CP,if_neg fun h=>fB h.1])
theorem tO (l:List ae) (p:ai) (hR:uc l) (Fq:l.length<=1048576):ao Tryz.prog 98 [.cr [.sl (l.map ad)],.agg (aa p)] (.int .i64 (fH l p)):=by
 refine ao.body eG rfl fun hl n0=>?_
 clear hl
 have hb:=pZ l p hR Fq
 by_cases hi:ek l p<0
 ·rw[aa]at hb
  (repeat(first|((repeat(revert hN;revert N;apply Pn.out));refine wk (tw @aa.eq_1 @hi) ?_;(repeat(refine Pn.mk ?_;intro N hN)))|((try apply Or.inl);refine⟨_,ao.x (hb) (sd (tw @aa.eq_1 @hi)),?_⟩;refine hN _ _ ?_;clear hN N)))
  exact bx (b:=-1) (.inl rfl) (sd @Nat.zero_add) (by rw[fH,if_neg (by omega)])
 ·have h0:0<=ek l p:=by omega
  have hg:=fm (mv h0).1
  rw[aa]at hb
  (repeat(first|((repeat(revert hN;revert N;apply Pn.out));refine wk (tw @aa.eq_1 (tw @hi (tw @h0 (tw @hg @ad.eq_1)))) ?_;(repeat(refine Pn.mk ?_;intro N hN)))|((try apply Or.inl);refine⟨_,ao.x (hb) (sd (tw @aa.eq_1 (tw @hi (tw @h0 (tw @hg @ad.eq_1))))),?_⟩;refine hN _ _ ?_;clear hN N)))
  exact bx (b:=(aG l (ek l p).toNat).aQ) (.inl rfl) (sd @Nat.zero_add) (by rw[fH,if_pos h0])
def jx (s:aw) (l:List ae):Prop:=gQ l/\∀t∈l,eP s t.aQ=true
noncomputable def o9 (s:aw) (l:List ae):Bool:=nU l&&l.all fun t=>eP s t.aQ
theorem lL {s:aw} {l:List ae}:o9 s l=true↔jx s l:=by simp[o9,jx,rN]
theorem uz:On ad (fun c=>.agg (ad c)) 3 true:=⟨fun _=>rfl,fun _=>rfl,fun x g=>by simp only[ad,aj,aq,bc,aH,Option.map_some]⟩
theorem F0 (s:aw) (t:ae) (hs:s.ah.length<=1048576):ao Tryz.prog 167 [.agg (ad t),.cr (ab s)] (.bool (!eP s t.aQ)):=by
 refine ao.body eG rfl fun hl n0=>?_
 clear hl
 have h:=H9 s t.aQ
 rw[ab]at h
 (repeat(first|((repeat(revert hN;revert N;apply Pn.out));refine wk (tw @ad.eq_1 @ab.eq_1) ?_;(repeat(refine Pn.mk ?_;intro N hN)))|((try apply Or.inl);refine⟨_,ao.x (h) (sd (tw @ad.eq_1 @ab.eq_1)),?_⟩;refine hN _ _ ?_;clear hN N)))
 exact aI (b:= !eP s t.aQ) (.inl rfl) (sd @Nat.zero_add) rfl
theorem K4 (s:aw) (l:List ae) (hs:s.ah.length<=1048576) (hl:l.length<=1048576):ao Tryz.prog 166 [.sl (l.map ad),.fn 167 [.cr (ab s)]] (.bool (l.any fun t=> !eP s t.aQ)):=
 kq uz (show ns Tryz.prog 166=some (yO 166 202) by kernel_rfl)
  (show ns Tryz.prog 202=some (pV 202 3 true) by kernel_rfl) l hl _ _ _ rfl (fun g=>by rw[aj,aN,aq];rfl) (fun x _=>F0 s x hs) fun g=>by rw[aj,aN,aq];rfl
theorem DV {α:Type} (p:α->Bool) (l:List α):(!l.any fun t=> !p t)=l.all p:=by
 induction l with
 |nil=>rfl
 |cons x l ih=>simp only[List.any_cons,List.all_cons,<-ih];cases p x<;>simp
theorem mQ (s:aw) (l:List ae) (hn:fJ s) (hg:s.aA.length<=1048576) (ht:s.ah.length<=1048576) (hs:∀t∈s.ah,t.bI.length<=1048576) (hl:l.length<=1048576):ao Tryz.prog 106 [.agg (ab s),.agg [.sl (l.map ad)]] (.bool (qg s&&o9 s l)):=by
 refine ao.body eG rfl fun hl n0=>?_
 clear hl
 have h1:=Cb s hn hg ht hs
 have h2:=rQ l
 have h3:=K4 s l ht hl
 rw[ab]at h1 h3
 cases b1:qg s
 ·rw[b1]at h1
  (repeat(first|((repeat(revert hN;revert N;apply Pn.out));refine wk @ab.eq_1 ?_;(repeat(refine Pn.mk ?_;intro N hN)))|((try apply Or.inl);refine⟨_,ao.x (h1) (sd @ab.eq_1),?_⟩;refine hN _ _ ?_;clear hN N)))
  exact aI (b:=false) (.inl rfl) (sd @Nat.zero_add) rfl
 rw[b1]at h1
 cases b2:nU l
 ·rw[b2]at h2
  (repeat(first|((repeat(revert hN;revert N;apply Pn.out));refine wk @ab.eq_1 ?_;(repeat(refine Pn.mk ?_;intro N hN)))|((try apply Or.inl);refine⟨_,ao.x (h1) (sd @ab.eq_1),?_⟩;refine hN _ _ ?_;clear hN N)|((try apply Or.inl);refine⟨_,ao.x (h2) (sd @ab.eq_1),?_⟩;refine hN _ _ ?_;clear hN N)))
  exact aI (b:=false) (.inl rfl) (sd @Nat.zero_add) (by rw[o9,b2];rfl)
 rw[b2]at h2
 (repeat(first|((repeat(revert hN;revert N;apply Pn.out));refine wk @ab.eq_1 ?_;(repeat(refine Pn.mk ?_;intro N hN)))|((try apply Or.inl);refine⟨_,ao.x (h1) (sd @ab.eq_1),?_⟩;refine hN _ _ ?_;clear hN N)|((try apply Or.inl);refine⟨_,ao.x (h2) (sd @ab.eq_1),?_⟩;refine hN _ _ ?_;clear hN N)|((try apply Or.inl);refine⟨_,ao.x (h3) (sd @ab.eq_1),?_⟩;refine hN _ _ ?_;clear hN N)))
 exact aI (b:= !(l.any fun t=> !eP s t.aQ)) (.inl rfl) (sd @Nat.zero_add) (by rw[DV,o9,b2];rfl)
theorem Ey (s:aw) (l:List ae):ao Tryz.prog 97 [.cr (ab s),.cr [.sl (l.map ad)]] (.bool (o9 s l)):=by
 refine ao.body eG rfl fun hl n0=>?_
 have hlen:l.length<=9223372036854775807:=by
  have h1:=(hl (.cr [.sl (l.map ad)]) (by simp)).A7 (a:=.sl (l.map ad)) (by simp)
  simpa using h1.len
 clear hl
 have h2:=FN l
 cases b2:nU l
 ·rw[b2]at h2
  (repeat(first|((repeat(revert hN;revert N;apply Pn.out));refine wk @Nat.zero_add ?_;(repeat(refine Pn.mk ?_;intro N hN)))|((try apply Or.inl);refine⟨_,ao.x (h2) (sd @Nat.zero_add),?_⟩;refine hN _ _ ?_;clear hN N)))
  exact aI (b:=false) (.inl rfl) (sd @Nat.zero_add) (by rw[o9,b2];rfl)
 rw[b2]at h2
 (repeat(first|((repeat(revert hN;revert N;apply Pn.out));refine wk @Nat.zero_add ?_;(repeat(refine Pn.mk ?_;intro N hN)))|((try apply Or.inl);refine⟨_,ao.x (h2) (sd @Nat.zero_add),?_⟩;refine hN _ _ ?_;clear hN N)))
 refine aJ (fun n env st=>∃k:Nat,n=(l.length)-k/\k<=(l.length)/\env 5=.int .i64 (k:Int)/\(∀j:Nat,j<k->eP s (aG l j).aQ=true)) (l.length) ⟨0,by omega,by omega,sl @Nat.zero_add,fun _ h=>absurd h (Nat.not_lt_zero _)⟩ ?_
 rintro n_a env_a st_a ⟨k,rfl,ale,a5,kR⟩ dv
 have a0:=dv 0 (by kernel_rfl);have a1:=dv 1 (by kernel_rfl)
 simp only[go_sem, ↓reduceIte,Nat.reduceEqDiff,Nat.reduceAdd,Nat.reduceSub,Nat.reduceLeDiff,reduceCtorEq]at a0 a1
 clear dv
 by_cases hk:(k:Int)<(l.length:Int)
 ·have cw:∀{e:Env},(e 5=.int .i64 (IntKind.i64.wrap ((k:Int)+1)))->(eP s (aG l k).aQ=true)->∃m0,m0<(l.length)-k/\∃k:Nat,m0=(l.length)-k/\k<=(l.length)/\e 5=.int .i64 (k:Int)/\(∀j:Nat,j<k->eP s (aG l j).aQ=true):=fun x1 x2=>⟨_,by omega,k+1,rfl,by omega,(by rw[x1,ax (by omega)]),(all_succ kR x2)⟩
  have e7:k<l.length:=by omega
  have eJ:=fm e7
  have ht:=C2 s (aG l k).aQ
  cases b3:eP s (aG l k).aQ
  ·rw[b3]at ht
   (repeat(first|((repeat(revert hN;revert N;apply Pn.out));refine wk (tw @a5 (tw @a0 (tw @a1 (tw @hk (tw @eJ @ad.eq_1))))) ?_;(repeat(refine Pn.mk ?_;intro N hN)))|((try apply Or.inl);refine⟨_,ao.x (ht) (sd (tw @a5 (tw @a0 (tw @a1 (tw @hk (tw @eJ @ad.eq_1)))))),?_⟩;refine hN _ _ ?_;clear hN N)))
   exact aI (b:=false) (.inl rfl) (sd @Nat.zero_add) (by
    have:l.all (fun t=>eP s t.aQ)=false:=List.all_eq_false.2 ⟨_,ig e7,by rw[b3];simp⟩
    rw[o9,this,Bool.and_false])
  ·rw[b3]at ht
   (repeat(first|((repeat(revert hN;revert N;apply Pn.out));refine wk (tw @a5 (tw @a0 (tw @a1 (tw @hk (tw @eJ @ad.eq_1))))) ?_;(repeat(refine Pn.mk ?_;intro N hN)))|((try apply Or.inl);refine⟨_,ao.x (ht) (sd (tw @a5 (tw @a0 (tw @a1 (tw @hk (tw @eJ @ad.eq_1)))))),?_⟩;refine hN _ _ ?_;clear hN N)))
   exact cw (sd (tw @a5 (tw @a0 @a1))) (b3)
 ·(try((repeat(revert hN;revert N;apply Pn.out));refine wk (tw @a5 (tw @a0 (tw @a1 @hk))) ?_;(repeat(refine Pn.mk ?_;intro N hN))))
  exact aI (b:=true) (.inl rfl) (sd @Nat.zero_add) (by
   have:l.all (fun t=>eP s t.aQ)=true:=List.all_eq_true.2 fun t ht=>by
    obtain⟨j,hj,rfl⟩:=List.getElem_of_mem ht
    have:=kR j (by omega)
    rwa [iE hj]at this
   rw[o9,b2,this];rfl)
theorem wW (l:List ae) (hF:gQ l) (i:Nat) (d:Int) (hi:i<l.length) (hd:iP d 0 3=true):ao Tryz.prog 217 [.cr [.sl (l.map ad)],.int .i64 i,.int .i64 d] (.int .i64 (ek l (bJ (aG l i).aF d))):=by
 refine ao.body eG rfl fun hl n0=>?_
 clear hl
 have hg:=fm hi
 have hp:=om (hF.pt hi)
 have h1:=rZ (aG l i).aF d hd hp.1 hp.2
 have h2:=pZ l (bJ (aG l i).aF d) hF.F9 (by have:=hF.sH;omega)
 rw[aa]at h1 h2
 (repeat(first|((repeat(revert hN;revert N;apply Pn.out));refine wk (tw @ad.eq_1 (tw @hg @aa.eq_1)) ?_;(repeat(refine Pn.mk ?_;intro N hN)))|((try apply Or.inl);refine⟨_,ao.x (h1) (sd (tw @ad.eq_1 (tw @hg @aa.eq_1))),?_⟩;refine hN _ _ ?_;clear hN N)|((try apply Or.inl);refine⟨_,ao.x (h2) (sd (tw @ad.eq_1 (tw @hg @aa.eq_1))),?_⟩;refine hN _ _ ?_;clear hN N)))
 exact bx (b:=ek l (bJ (aG l i).aF d)) (.inl rfl) (sd @Nat.zero_add) rfl
end Go.Proofs.YtgoelphibofcmaaGreat.V

namespace Go.Proofs.YtgoelphibofcmaaGreat.V
open Go.RowKit
def isApp:fX->Bool
 | .append .. =>true
 |_=>false
variable {P:Program} {X:fu} {K:Env->ar->Prop} {env:Env} {σ:ar}
theorem L4 {draw:Bool} {o:aM} {r:List aM} (_:isApp o.op=false) (h:∀N:AV->ar->Prop,(∀v s,wpOps X draw r K (upd env o.dst v) s->N v s)->if aK o.guard env then fW X draw o env σ N else N .undef σ):wpOps X draw (o::r) K env σ:=N3 h
end Go.Proofs.YtgoelphibofcmaaGreat.V

namespace Go.Proofs.YtgoelphibofcmaaGreat.V
open Go.RowKit
section
variable {α:Type} {enc:α->List AV} {sz:Nat} {g g':Rows} {a:AV} {xs:List α} {ids:List Id}
end
abbrev GA (α:Type):=Rows->List AV->α->List Id->Prop
structure yi {α:Type} (R:GA α) (sz:Nat):Prop where
 frame:∀{g g':Rows} {cs x ids},R g cs x ids->(∀i∈ids,g' i=g i)->R g' cs x ids
 len:∀{g cs x ids},R g cs x ids->cs.length=sz
 cell:∀{g cs x ids},R g cs x ids->cs.all AV.cell=true
 live:∀{g cs x ids},R g cs x ids->∀i∈ids,∃r,g i=some r/\r.w=true/\r.sz<qM
 small:sz<qM
inductive eR {α:Type} (R:GA α) (g:Rows):List (List AV)->List α->List Id->Prop
 |nil:eR R g [] [] []
 |cons {cs x i1 rs xs i2}:R g cs x i1->eR R g rs xs i2->eR R g (cs::rs) (x::xs) (i1++i2)
section
variable {α:Type} {R:GA α} {sz:Nat} {g g':Rows} {rows r1 r2:List (List AV)} {xs x1 x2:List α} {ids i1 i2:List Id}
theorem eR.len (h:eR R g rows xs ids):rows.length=xs.length:=by
 induction h with
 |nil=>rfl
 |cons _ _ ih=>simp[ih]
theorem eR.frame (ok:yi R sz) (h:eR R g rows xs ids) (hf:∀i∈ids,g' i=g i):eR R g' rows xs ids:=by
 induction h with
 |nil=>exact .nil
 |cons h1 _ ih=>exact .cons (ok.frame h1 fun i hi=>hf i (List.mem_append_left _ hi)) (ih fun i hi=>hf i (List.mem_append_right _ hi))
theorem eR.app (h1:eR R g r1 x1 i1) (h2:eR R g r2 x2 i2):eR R g (r1++r2) (x1++x2) (i1++i2):=by
 induction h1 with
 |nil=>exact h2
 |cons h _ ih=>rw[List.append_assoc];exact .cons h ih
theorem eR.one {cs:List AV} {x:α} (h:R g cs x ids):eR R g [cs] [x] ids:=by
 have:=eR.cons h eR.nil
 rwa [List.append_nil]at this
theorem eR.split (h:eR R g rows xs ids):∀k (hk:k<xs.length),∃r1 cs r2 i1 ic i2,rows=r1++cs::r2/\r1.length=k/\ids=i1++(ic++i2)/\eR R g r1 (xs.take k) i1/\R g cs xs[k] ic/\eR R g r2 (xs.drop (k+1)) i2:=by
 induction h with
 |nil=>intro k hk;simp at hk
 |cons h1 h2 ih=>
  rename_i cs x j1 rs xs j2
  intro k hk
  cases k with
  |zero=>exact⟨[],cs,rs,[],j1,j2,rfl,rfl,rfl,.nil,h1,h2⟩
  |succ k=>
   obtain⟨r1,pq,r2,i1,ic,i2,rfl,hl,rfl,h3,h4,h5⟩:=ih k (by simpa using hk)
   exact⟨cs::r1,pq,r2,j1++i1,ic,i2,rfl,by simp[hl],by rw[List.append_assoc],.cons h1 h3,h4,h5⟩
theorem eR.at_ (h:eR R g rows xs ids) (k:Nat) (hk:k<xs.length):∃cs ic,rows[k]? =some cs/\R g cs xs[k] ic/\∀i∈ic,i∈ids:=by
 obtain⟨r1,cs,r2,i1,ic,i2,rfl,hl,rfl,h3,h4,h5⟩:=h.split k hk
 refine⟨cs,ic,by rw[List.getElem?_append_right (by omega)];simp[hl],h4,fun i hi=>by simp[hi]⟩
theorem eR.fz {n:Nat} {e:α->List AV} (h:eR R g rows xs ids) (hz:∀{cs x ids},R g cs x ids->cG (dQ g) n cs=some (e x)):dK (dQ g) n rows=some (xs.map e):=by
 induction h with
 |nil=>rw[dK];rfl
 |cons h1 _ ih=>rw[dK,hz h1,ih];rfl
end
section
variable {α:Type} {R:GA α} {sz:Nat} {g g':Rows} {a:AV} {xs:List α} {ids:List Id}
end
end Go.Proofs.YtgoelphibofcmaaGreat.V

namespace Go.Proofs.YtgoelphibofcmaaGreat.V
open Go.RowKit
variable {P:Program} {X:fu} {K:Env->ar->Prop} {env:Env} {σ:ar}
def mb {α:Type} (enc:α->List AV) (sz:Nat) (x:AV) (g:Rows) (S:Id->Prop) (L:List α):Prop:=∃o:Id,S o/\x=.own o 0 L.length/\g o=some ⟨true,sz,L.map enc⟩
section
variable {α:Type} {enc:α->List AV} {sz:Nat} {x:AV} {g g':Rows} {S:Id->Prop} {L L':List α}
theorem mb.cast (h:mb enc sz x g S L) (hL:L'=L):mb enc sz x g S L':=by subst hL;exact h
theorem mb.frame (h:mb enc sz x g S L) (hg:∀o:Id,S o->g' o=g o):mb enc sz x g' S L:=by
 obtain⟨o,h1,h2,h3⟩:=h
 exact⟨o,h1,h2,(hg o h1).trans h3⟩
theorem mb.app (hz:∀a,(enc a).length=sz/\(enc a).all AV.cell=true) (h:mb enc sz x g S L) (id:Id) (hid:S id) (M:List α) (hlen:L.length+M.length<=dP):
  ∃v g',aU g id sz x (M.map enc)=some (v,g')/\mb enc sz v g' S (L++M)/\∀j:Id,¬S j->g' j=g j:=by
 obtain⟨o,h1,rfl,h4⟩:=h
 refine⟨.own id 0 (L.length+(M.map enc).length),bB (bY g o) id ⟨true,sz,L.map enc++M.map enc⟩,?_,⟨id,hid,by simp,by simp[bB]⟩,fun j hj=>?_⟩
 ·have ha:=all_map (l:=M) hz
  simp only[aU,h4,Option.bind_some]
  rw[if_pos ⟨trivial,trivial,by simp,by simpa using hlen,ha⟩]
 ·have e1:¬j=id:=fun h=>hj (h▸hid)
  have e2:¬j=o:=fun h=>hj (h▸h1)
  simp[bB,bY,e1,e2]
theorem N1 {draw:Bool} {o:aM} {r:List aM} {x' y:O} {xv:AV} (M:List α) (ho:o.op=.append sz x' y) (hw:aK o.guard env=true) (hx:cE env x'=xv) (hO:mb enc sz xv σ.get S L)
  (hy:bz σ.get (cE env y)=some (M.map enc)) (hz:∀a,(enc a).length=sz/\(enc a).all AV.cell=true) (hid:S ⟨o.site,σ.next⟩) (hlen:L.length+M.length<=dP)
  (next:∀v g',mb enc sz v g' S (L++M)->(∀j:Id,¬S j->g' j=σ.get j)->wpOps X draw r K (upd env o.dst v) ⟨g',σ.next⟩):wpOps X draw (o::r) K env σ:=by
 obtain⟨v,g',h1,h2,h3⟩:=hO.app hz ⟨o.site,σ.next⟩ hid M hlen
 unfold wpOps
 rw[if_pos hw]
 unfold fW
 simp only[ho,gE,hy,hx,Option.bind_some,h1]
 exact next v g' h2 h3
theorem mb.fY {n:Nat} (h:mb enc sz x g S L) (he:∀a,dS g n (enc a)=some (enc a)):fY g (n+1) x=some (.sl (L.map enc)):=by
 obtain⟨o,_,rfl,h3⟩:=h
 exact gu h3 rfl he
end
theorem dm {a b:Id} (h:a.aZ<b.aZ):(a=b)=False/\(b=a)=False:=by
 constructor<;>(simp only[eq_iff_iff,iff_false];rintro rfl;omega)
theorem zy {o:Id} {a:Nat} (h:o.site=a) {b v:Nat} (sO:(a==b)=false):(o=⟨b,v⟩)=False:=by
 simp only[eq_iff_iff,iff_false]
 rintro rfl
 simp only at h
 subst h
 simp at sO
def eN (n:Nat):List AV:=[.int .i64 n]
theorem fzN (g:Rows) (n:Nat) (a:Nat):cG g (n+1) (eN a)=some (eN a):=by simp[eN,aj,aq,aH]
theorem MB (g:Rows) (n:Nat) (a:Nat):dS g (n+1) (eN a)=some (eN a):=by simp[eN,aP,bt,dC]
def Oq:GA (List Nat):=fun g cs x ids=>∃id,cs=[.own id 0 x.length]/\g id=some ⟨true,1,x.map eN⟩/\ids=[id]
theorem KD:yi Oq 1 where
 frame:=fun⟨id,h1,h2,h3⟩ hf=>by subst h3;exact⟨id,h1,(hf id (by simp)).trans h2,rfl⟩
 len:=fun⟨id,h1,_⟩=>by subst h1;rfl
 cell:=fun⟨id,h1,_⟩=>by subst h1;rfl
 live:=fun⟨id,h1,h2,h3⟩ i hi=>by
  subst h3
  have:i=id:=by simpa using hi
  subst this
  exact⟨_,h2,rfl,by simp[qM]⟩
 small:=by simp[qM]
def zV (l:List Nat):List AV:=[.sl (l.map eN)]
theorem Ij {g:Rows} {rows:List (List AV)} {xs:List (List Nat)} {ids:List Id} (n:Nat) (h:eR Oq g rows xs ids):gR g (n+2) rows=some (xs.map zV):=by
 induction h with
 |nil=>rw[gR];rfl
 |cons h1 _ ih=>
  obtain⟨id,rfl,h2,_⟩:=h1
  rw[gR,ih,aP,bt,gu (e:=eN) (sz:=1) h2 rfl fun a=>MB g n a];rfl
end Go.Proofs.YtgoelphibofcmaaGreat.V

namespace Go.Proofs.YtgoelphibofcmaaGreat.V
def bi (b:Bool):Int:=if b then 1 else 0
def lG (f:Nat->Int):Nat->Int
 |0=>0
 |n+1=>lG f n+f n
theorem fS {f g:Nat->Int}:∀{n:Nat},(∀i,i<n->f i=g i)->lG f n=lG g n
 |0,_=>rfl
 |n+1,h=>by
  simp only[lG]
  rw[fS fun i hi=>h i (by omega),h n (by omega)]
theorem qZ {f g:Nat->Int}:∀{n:Nat},(∀i,i<n->f i<=g i)->lG f n<=lG g n
 |0,_=>Int.le_refl _
 |n+1,h=>by
  simp only[lG]
  have:=qZ (n:=n) fun i hi=>h i (by omega)
  have:=h n (by omega)
  omega
theorem jG:∀{n:Nat} {f:Nat->Int},(∀i,i<n->f i=0)->lG f n=0
 |0,_,_=>rfl
 |n+1,f,h=>by
  simp only[lG]
  rw[jG fun i hi=>h i (by omega),h n (by omega)];rfl
theorem oV {f:Nat->Int} {a:Nat} {d:Int}:∀n,lG (fun i=>f i+if i=a then d else 0) n=lG f n+if a<n then d else 0
 |0=>by simp[lG]
 |n+1=>by
  simp only[lG]
  rw[oV n]
  by_cases h:n=a
  ·subst h;simp;omega
  ·rw[if_neg h]
   by_cases h2:a<n
   ·rw[if_pos h2,if_pos (by omega)];omega
   ·rw[if_neg h2,if_neg (by omega)];omega
def lP (n:Nat) (S:Nat->Bool) (f:Nat->Nat->Int):Int:=lG (fun u=>lG (fun v=>if S u&& !S v then f u v else 0) n) n
def bump (f:Nat->Nat->Int) (a b:Nat) (d:Int):Nat->Nat->Int:=fun u v=>f u v+if u=a/\v=b then d else 0
theorem oG {n:Nat} {S:Nat->Bool} {f:Nat->Nat->Int} {a b:Nat} {d:Int} (ha:a<n) (hb:b<n):lP n S (bump f a b d)=lP n S f+if S a&& !S b then d else 0:=by
 unfold lP
 have h1:∀u,u<n->lG (fun v=>if S u&& !S v then bump f a b d u v else 0) n=lG (fun v=>if S u&& !S v then f u v else 0) n+if u=a then(if S a&& !S b then d else 0)else 0:=by
  intro u hu
  by_cases h:u=a
  ·subst h
   have h2:∀v,v<n->(if S u&& !S v then bump f u b d u v else 0)=(fun v=>if S u&& !S v then f u v else 0) v+if v=b then(if S u&& !S b then d else 0)else 0:=by
    intro v hv
    unfold bump
    by_cases h3:v=b
    ·subst h3;simp only[and_self,if_true];split<;>omega
    ·simp only[h3,and_false,if_false];split<;>omega
   rw[fS h2,oV,if_pos hb,if_pos rfl]
  ·rw[if_neg h,Int.add_zero]
   refine fS fun v hv=>?_
   unfold bump
   simp[h]
 rw[fS h1,oV,if_pos ha]
theorem JW {n:Nat} {S:Nat->Bool} {f c:Nat->Nat->Int} (h:∀u v,u<n->v<n->f u v<=c u v):lP n S f<=lP n S c:=
 qZ fun u hu=>qZ fun v hv=>by split;exact h u v hu hv;exact Int.le_refl _
theorem JV {n:Nat} {S:Nat->Bool} {f c:Nat->Nat->Int} (h:∀u v,u<n->v<n->S u=true->S v=false->f u v=c u v):lP n S f=lP n S c:=
 fS fun u hu=>fS fun v hv=>by
  split
  ·rename_i hc
   simp only[Bool.and_eq_true,Bool.not_eq_true']at hc
   exact h u v hu hv hc.1 hc.2
  ·rfl
def j6 (f:Nat->Nat->Int) (a b:Nat):Nat->Nat->Int:=bump (bump f a b 1) b a (-1)
theorem Fc {n:Nat} {S:Nat->Bool} {f:Nat->Nat->Int} {a b:Nat} (ha:a<n) (hb:b<n):lP n S (j6 f a b)=lP n S f+bi (S a)-bi (S b):=by
 unfold j6
 rw[oG hb ha,oG ha hb]
 cases S a<;>cases S b<;>simp[bi]<;>omega
def lN (f:Nat->Nat->Int):List Nat->Nat->Nat->Int
 |a::b::r=>lN (j6 f a b) (b::r)
 |_=>f
def qk (f c:Nat->Nat->Int):List Nat->Prop
 |a::b::r=>f a b<c a b/\qk f c (b::r)
 |_=>True
theorem Ai {n:Nat} {S:Nat->Bool}:∀(r:List Nat) (a:Nat) (f:Nat->Nat->Int),(∀x∈a::r,x<n)->lP n S (lN f (a::r))=lP n S f+bi (S a)-bi (S ((a::r).getLast (by simp)))
 |[],a,f,_=>by simp[lN]
 |b::r,a,f,h=>by
  rw[lN,Ai r b (j6 f a b) fun x hx=>h x (List.mem_cons_of_mem _ hx),Fc (h a (by simp)) (h b (by simp)),List.getLast_cons_cons]
  generalize bi (S b)=q
  omega
theorem qk.less {f g c:Nat->Nat->Int}:∀{p:List Nat},qk f c p->(∀u,u∈p->∀v,g u v<=f u v)->qk g c p
 |[],_,_=>trivial
 |[_],_,_=>trivial
 |a::b::r,h,hl=>⟨Int.lt_of_le_of_lt (hl a (by simp) b) h.1,qk.less (p:=b::r) h.2 fun u hu=>hl u (List.mem_cons_of_mem _ hu)⟩
theorem DW {n:Nat} {c:Nat->Nat->Int}:∀(p:List Nat) (f:Nat->Nat->Int),p.Nodup->qk f c p->(∀u v,u<n->v<n->f u v<=c u v)->∀u v,u<n->v<n->lN f p u v<=c u v
 |[],f,_,_,h=>h
 |[_],f,_,_,h=>h
 |a::b::r,f,hn,hr,h=>by
  rw[lN]
  have sO:a∉b::r:=(List.nodup_cons.1 hn).1
  refine DW (b::r) _ (List.nodup_cons.1 hn).2 (hr.2.less fun u hu v=>?_) fun u v hu hv=>?_
  ·unfold j6 bump
   have:u≠a:=by rintro rfl;exact sO hu
   simp only[this,false_and,if_false]
   split<;>omega
  ·have h0:=h u v hu hv
   have h1:=hr.1
   unfold j6 bump
   by_cases e:u=a/\v=b
   ·obtain⟨rfl,rfl⟩:=e
    rw[if_pos ⟨rfl,rfl⟩];split<;>omega
   ·rw[if_neg e];split<;>omega
structure k9 (n:Nat) (c f:Nat->Nat->Int) (x y:Nat) (val:Int):Prop where
 le:∀u v,u<n->v<n->f u v<=c u v
 cut:∀S:Nat->Bool,S x=true->S y=false->lP n S f=val
theorem k9.zero {n:Nat} {c:Nat->Nat->Int} {x y:Nat} (h:∀u v,u<n->v<n->0<=c u v):k9 n c (fun _ _=>0) x y 0:=
 ⟨h,fun S _ _=>jG fun u hu=>jG fun v hv=>by split<;>rfl⟩
theorem k9.congr {n:Nat} {c f g:Nat->Nat->Int} {x y:Nat} {val:Int} (h:k9 n c f x y val) (e:∀u v,u<n->v<n->g u v=f u v):k9 n c g x y val:=
 ⟨fun u v hu hv=>by rw[e u v hu hv];exact h.le u v hu hv,fun S hx hy=>by
  rw[<-h.cut S hx hy]
  exact fS fun u hu=>fS fun v hv=>by rw[e u v hu hv]⟩
theorem k9.aug {n:Nat} {c f:Nat->Nat->Int} {x y:Nat} {val:Int} (h:k9 n c f x y val) {r:List Nat} (hl:(x::r).getLast (by simp)=y) (hn:(x::r).Nodup) (hr:qk f c (x::r)) (hb:∀v∈x::r,v<n):k9 n c (lN f (x::r)) x y (val+1):=
 ⟨DW _ _ hn hr h.le,fun S hx hy=>by rw[Ai r x f hb,hl,h.cut S hx hy,hx,hy];simp[bi]⟩
theorem k9.bound {n:Nat} {c f:Nat->Nat->Int} {x y:Nat} {val:Int} (h:k9 n c f x y val) {S:Nat->Bool} (hx:S x=true) (hy:S y=false):val<=lP n S c:=by
 rw[<-h.cut S hx hy];exact JW h.le
theorem k9.full {n:Nat} {c f:Nat->Nat->Int} {x y:Nat} {val:Int} (h:k9 n c f x y val) {S:Nat->Bool} (hx:S x=true) (hy:S y=false) (hS:∀u v,u<n->v<n->S u=true->S v=false->¬f u v<c u v):val=lP n S c:=by
 rw[<-h.cut S hx hy]
 exact JV fun u v hu hv h1 h2=>by have:=hS u v hu hv h1 h2;have:=h.le u v hu hv;omega
structure PB where
 a:Nat
 b:Nat
 s:Int
 deriving Inhabited
def bH (bs:List PB) (i:Nat):PB:=bs.getD i default
def iS (S:Nat->Bool) (bs:List PB):Int:=(bs.map fun b=>if S b.a=S b.b then 0 else b.s).sum
def nk (c:Nat->Nat->Int) (b:PB):Nat->Nat->Int:=bump (bump c b.a b.b b.s) b.b b.a b.s
def kJ (bs:List PB):Nat->Nat->Int:=bs.foldl nk fun _ _=>0
theorem Dp (bs:List PB) (b:PB):kJ (bs++[b])=nk (kJ bs) b:=by simp[kJ]
theorem Ar {n:Nat} {S:Nat->Bool}:∀(bs:List PB) (c:Nat->Nat->Int),(∀b∈bs,b.a<n/\b.b<n)->lP n S (bs.foldl nk c)=lP n S c+iS S bs
 |[],c,_=>by simp[iS]
 |b::bs,c,h=>by
  have hb:=h b (by simp)
  rw[List.foldl_cons,Ar bs _ fun x hx=>h x (List.mem_cons_of_mem _ hx)]
  unfold nk iS
  rw[oG hb.2 hb.1,oG hb.1 hb.2,List.map_cons,List.sum_cons]
  cases S b.a<;>cases S b.b<;>simp<;>omega
theorem As {n:Nat} {S:Nat->Bool} {bs:List PB} (h:∀b∈bs,b.a<n/\b.b<n):lP n S (kJ bs)=iS S bs:=by
 rw[kJ,Ar bs _ h]
 have:lP n S (fun _ _=>0)=0:=jG fun u hu=>jG fun v hv=>by split<;>rfl
 omega
theorem zu:∀(bs:List PB) (c:Nat->Nat->Int),(∀b∈bs,0<=b.s)->(∀u v,0<=c u v)->∀u v,0<=bs.foldl nk c u v
 |[],c,_,h=>h
 |b::bs,c,hb,h=>by
  rw[List.foldl_cons]
  refine zu bs _ (fun x hx=>hb x (List.mem_cons_of_mem _ hx)) fun u v=>?_
  have:=hb b (by simp);have:=h u v
  unfold nk bump
  split<;>split<;>omega
theorem room_le:∀(bs:List PB) (c:Nat->Nat->Int) (m:Int),(∀b∈bs,b.s<=4)->(∀u v,c u v<=m)->0<=m->∀u v,bs.foldl nk c u v<=m+8*bs.length
 |[],c,m,_,h,_=>fun u v=>by have:=h u v;simp;omega
 |b::bs,c,m,hb,h,h0=>fun u v=>by
  rw[List.foldl_cons]
  have:=room_le bs (nk c b) (m+8) (fun x hx=>hb x (List.mem_cons_of_mem _ hx)) (fun u v=>by
   have:=hb b (by simp);have:=h u v
   unfold nk bump
   split<;>split<;>omega) (by omega) u v
  simp only[List.length_cons];omega
def kj (n:Nat) (bs:List PB) (t:Int):Prop:=∀S:Nat->Bool,S 0=true->(∃y,y<n/\S y=false)->t<=iS S bs
def Fa (S:Nat->Bool) (bs:List PB) (f:Nat->Int):Int:=lG (fun i=>f i*(bi (S (bH bs i).a)-bi (S (bH bs i).b))) bs.length
structure jM (bs:List PB) (f:Nat->Int) (x y:Nat) (val:Int):Prop where
 le:∀i,i<bs.length->f i<=(bH bs i).s/\-(bH bs i).s<=f i
 cut:∀S:Nat->Bool,S x=true->S y=false->Fa S bs f=val
theorem uq (S:Nat->Bool):∀bs:List PB,iS S bs=lG (fun i=>if S (bH bs i).a=S (bH bs i).b then 0 else(bH bs i).s) bs.length:=by
 intro bs
 have key:∀n,n<=bs.length->iS S (bs.take n)=lG (fun i=>if S (bH bs i).a=S (bH bs i).b then 0 else(bH bs i).s) n:=by
  intro n
  induction n with
  |zero=>intro _;rfl
  |succ n ih=>
   intro h
   have e:bH bs n=bs[n]:=by simp[bH,List.getD_eq_getElem?_getD,List.getElem?_eq_getElem (show n<bs.length by omega)]
   rw[List.take_succ_eq_append_getElem (by omega),lG,<-ih (by omega),e]
   unfold iS
   rw[List.map_append,List.sum_append]
   simp only[List.map_cons,List.map_nil,List.sum_cons,List.sum_nil,Int.add_zero]
 have:=key bs.length (Nat.le_refl _)
 rwa [List.take_length]at this
theorem jM.bound {bs:List PB} {f:Nat->Int} {x y:Nat} {val:Int} (h:jM bs f x y val) {S:Nat->Bool} (hx:S x=true) (hy:S y=false):val<=iS S bs:=by
 rw[<-h.cut S hx hy,uq]
 refine qZ fun i hi=>?_
 have:=h.le i hi
 cases S (bH bs i).a<;>cases S (bH bs i).b<;>simp[bi]<;>omega
def fx (bs:List PB) (f:Nat->Int) (i u:Nat):Int:=if (bH bs i).a=u then(bH bs i).s-f i else(bH bs i).s+f i
def bw (bs:List PB) (i u:Nat):Nat:=if (bH bs i).a=u then(bH bs i).b else(bH bs i).a
theorem jM.full {bs:List PB} {f:Nat->Int} {x y:Nat} {val:Int} (h:jM bs f x y val) {S:Nat->Bool} (hx:S x=true) (hy:S y=false)
  (hS:∀i,i<bs.length->((bH bs i).a≠(bH bs i).b->(S (bH bs i).a=true->S (bH bs i).b=false->¬0<fx bs f i (bH bs i).a)/\(S (bH bs i).b=true->S (bH bs i).a=false->¬0<fx bs f i (bH bs i).b))):val=iS S bs:=by
 rw[<-h.cut S hx hy,uq]
 refine fS fun i hi=>?_
 have h1:=h.le i hi
 by_cases sO:(bH bs i).a=(bH bs i).b
 ·rw[sO];simp
 ·have h2:=hS i hi sO
  unfold fx at h2
  rw[if_pos rfl,if_neg sO]at h2
  cases ha:S (bH bs i).a<;>cases hb:S (bH bs i).b<;>rw[ha,hb]at h2<;>simp[bi]at h2 ⊢ <;>omega
def sZ (bs:List PB) (f:Nat->Int) (i u:Nat):Nat->Int:=fun j=>f j+if j=i then(if (bH bs i).a=u then 1 else -1)else 0
theorem Fb {S:Nat->Bool} {bs:List PB} {f:Nat->Int} {i u:Nat} (hi:i<bs.length) (hu:(bH bs i).a=u∨(bH bs i).b=u):Fa S bs (sZ bs f i u)=Fa S bs f+bi (S u)-bi (S (bw bs i u)):=by
 unfold Fa sZ
 have e:∀j,j<bs.length->(f j+if j=i then(if (bH bs i).a=u then 1 else -1)else 0)*(bi (S (bH bs j).a)-bi (S (bH bs j).b))=(fun j=>f j*(bi (S (bH bs j).a)-bi (S (bH bs j).b))) j+if j=i then(if (bH bs i).a=u then 1 else -1)*(bi (S (bH bs i).a)-bi (S (bH bs i).b))else 0:=by
  intro j hj
  by_cases h:j=i
  ·subst h;simp only[if_true];rw[Int.add_mul]
  ·simp only[h,if_false];simp
 rw[fS e,oV,if_pos hi]
 unfold bw
 by_cases ha:(bH bs i).a=u
 ·rw[if_pos ha,if_pos ha,ha];omega
 ·rw[if_neg ha,if_neg ha]
  rcases hu with hu|hu
  ·exact absurd hu ha
  ·rw[hu];omega
theorem oe:∀(n:Nat) (l:List Nat),l.Nodup->(∀x∈l,x<n)->l.length<=n
 |0,l,_,h=>by
  cases l with
  |nil=>simp
  |cons x l=>exact absurd (h x (by simp)) (by omega)
 |n+1,l,hn,h=>by
  have h1:=oe n (l.erase n) (hn.erase _) fun x hx=>by
   have h2:=(hn.mem_erase_iff).1 hx
   have h3:=h x h2.2
   have h4:=h2.1
   omega
  rw[List.length_erase]at h1
  split at h1<;>omega
end Go.Proofs.YtgoelphibofcmaaGreat.V

namespace Go.Proofs.YtgoelphibofcmaaGreat.V
def er (L:Nat->Nat) (b:PB):Nat->Nat:=fun k=>if L k=max (L b.a) (L b.b)then min (L b.a) (L b.b)else L k
def dV (bs:List PB):Nat->Nat:=bs.foldl er id
theorem uX (bs:List PB) (b:PB):dV (bs++[b])=er (dV bs) b:=by simp[dV]
structure jt (L:Nat->Nat):Prop where
 le:∀k,L k<=k
 idem:∀k,L (L k)=L k
theorem jt.step {L:Nat->Nat} (h:jt L) (b:PB):jt (er L b):=by
 have ha:=h.idem b.a
 have hb:=h.idem b.b
 refine⟨fun k=>?_,fun k=>?_⟩
 ·have:=h.le k
  unfold er
  split<;>omega
 ·have hk:=h.idem k
  have hm:L (min (L b.a) (L b.b))=min (L b.a) (L b.b):=by
   rcases Nat.le_total (L b.a) (L b.b)with h1|h1
   ·rw[Nat.min_eq_left h1,ha]
   ·rw[Nat.min_eq_right h1,hb]
  unfold er
  by_cases h1:L k=max (L b.a) (L b.b)
  ·rw[if_pos h1,hm];split<;>rfl
  ·rw[if_neg h1,hk,if_neg h1]
theorem uY:∀(bs:List PB) (L:Nat->Nat),jt L->jt (bs.foldl er L)
 |[],_,h=>h
 |b::bs,L,h=>uY bs _ (h.step b)
theorem sR (bs:List PB):jt (dV bs):=uY bs id ⟨fun _=>Nat.le_refl _,fun _=>rfl⟩
def leads (n:Nat) (L:Nat->Nat):List Nat:=(List.range n).filter fun i=>L i==i
def members (n:Nat) (L:Nat->Nat) (i:Nat):List Nat:=(List.range n).filter fun k=>L k==i
def fj (n:Nat) (L:Nat->Nat):List (List Nat):=(leads n L).map (members n L)
def br (L:Nat->Nat) (k:Nat):Nat:=(leads (L k) L).length
theorem gG (n:Nat) (L:Nat->Nat):leads (n+1) L=leads n L++if L n=n then[n]else[]:=by
 unfold leads
 rw[List.range_succ,List.filter_append]
 congr 1
 by_cases h:L n=n<;>simp[h]
theorem ji (n:Nat) (L:Nat->Nat) (i:Nat):members (n+1) L i=members n L i++if L n=i then[n]else[]:=by
 unfold members
 rw[List.range_succ,List.filter_append]
 congr 1
 by_cases h:L n=i<;>simp[h]
theorem mA {L:Nat->Nat} (h:jt L) {n i:Nat} (hn:n<=i):members n L i=[]:=by
 unfold members
 rw[List.filter_eq_nil_iff]
 intro k hk
 have:=h.le k
 have:=List.mem_range.1 hk
 simp;omega
theorem sS (n:Nat) (L:Nat->Nat):(leads n L).Nodup:=List.nodup_range.filter _
theorem xQ {n:Nat} {L:Nat->Nat} {i:Nat}:i∈leads n L↔i<n/\L i=i:=by simp[leads]
theorem lq {n:Nat} {L:Nat->Nat} {i k:Nat}:k∈members n L i↔k<n/\L k=i:=by simp[members]
theorem FW {L:Nat->Nat} {m n:Nat} (h:m<=n):∃r,leads n L=leads m L++r:=by
 obtain⟨d,rfl⟩:=Nat.le.dest h
 clear h
 induction d with
 |zero=>exact⟨[],by simp⟩
 |succ d ih=>
  obtain⟨r,hr⟩:=ih
  exact⟨r++if L (m+d)=m+d then[m+d]else[],by rw[<-Nat.add_assoc,gG,hr,List.append_assoc]⟩
theorem oJ {L:Nat->Nat} (h:jt L) {n k:Nat} (hk:k<n):(leads n L)[br L k]? =some (L k):=by
 have h1:=h.le k
 obtain⟨r,hr⟩:=FW (L:=L) (show L k+1<=n by omega)
 rw[hr,gG,if_pos (h.idem k),List.append_assoc]
 unfold br
 rw[List.getElem?_append_right (Nat.le_refl _),Nat.sub_self];rfl
theorem jS {L:Nat->Nat} (h:jt L) {n k:Nat} (hk:k<n):br L k<(leads n L).length:=(List.getElem?_eq_some_iff.1 (oJ h hk)).1
theorem r5 {L:Nat->Nat} (h:jt L) {n k i:Nat} (hk:k<n) (hi:i<(leads n L).length):k∈members n L (leads n L)[i]↔br L k=i:=by
 rw[lq]
 have h1:=oJ h hk
 rw[List.getElem?_eq_getElem (jS h hk)]at h1
 injection h1 with h1
 constructor
 ·rintro⟨_,h2⟩
  rw[<-h1]at h2
  exact(List.getElem_inj (sS n L)).1 h2
 ·rintro rfl
  exact⟨hk,h1.symm⟩
def de (L:Nat->Nat) (bs:List PB):List PB:=bs.filterMap fun b=>if br L b.a=br L b.b then none else some ⟨br L b.a,br L b.b,b.s⟩
def eW (L:Nat->Nat) (bs:List PB):List PB:=bs.filterMap fun b=>if br L b.a=br L b.b then none else some ⟨min (br L b.a) (br L b.b),max (br L b.a) (br L b.b),b.s⟩
theorem zw (L:Nat->Nat) (bs:List PB) (b:PB):de L (bs++[b])=de L bs++if br L b.a=br L b.b then[]else[⟨br L b.a,br L b.b,b.s⟩]:=by
 unfold de
 rw[List.filterMap_append]
 congr 1
 by_cases h:br L b.a=br L b.b<;>simp[h]
theorem zx (L:Nat->Nat) (bs:List PB) (b:PB):eW L (bs++[b])=eW L bs++if br L b.a=br L b.b then[]else[⟨min (br L b.a) (br L b.b),max (br L b.a) (br L b.b),b.s⟩]:=by
 unfold eW
 rw[List.filterMap_append]
 congr 1
 by_cases h:br L b.a=br L b.b<;>simp[h]
theorem rL (S:Nat->Bool) (b:PB) (bs:List PB):iS S (b::bs)=(if S b.a=S b.b then 0 else b.s)+iS S bs:=by simp[iS]
theorem xn (S:Nat->Bool) (L:Nat->Nat):∀bs:List PB,iS S (eW L bs)=iS S (de L bs)
 |[]=>rfl
 |b::bs=>by
  have ih:=xn S L bs
  unfold eW de at ih ⊢
  rw[List.filterMap_cons,List.filterMap_cons]
  by_cases h:br L b.a=br L b.b
  ·simp only[h,if_true];exact ih
  ·simp only[h,if_false]
   rw[rL,rL,ih]
   congr 1
   simp only
   rcases Nat.le_total (br L b.a) (br L b.b)with h1|h1
   ·rw[Nat.min_eq_left h1,Nat.max_eq_right h1]
   ·rw[Nat.min_eq_right h1,Nat.max_eq_left h1]
    cases S (br L b.a)<;>cases S (br L b.b)<;>rfl
theorem Dt {L:Nat->Nat} (h:jt L) {n:Nat} {bs:List PB} (hb:∀b∈bs,b.a<n/\b.b<n):∀b∈de L bs,b.a<(leads n L).length/\b.b<(leads n L).length/\b.a≠b.b/\∃c∈bs,b.s=c.s:=by
 intro b hm
 unfold de at hm
 obtain⟨c,hc,he⟩:=List.mem_filterMap.1 hm
 split at he
 ·cases he
 ·rename_i fZ
  simp only[Option.some.injEq]at he
  subst he
  exact⟨jS h (hb c hc).1,jS h (hb c hc).2,fZ,c,hc,rfl⟩
theorem Du {L:Nat->Nat} (h:jt L) {n:Nat} {bs:List PB} (hb:∀b∈bs,b.a<n/\b.b<n):∀b∈eW L bs,b.a<(leads n L).length/\b.b<(leads n L).length/\b.a≠b.b/\∃c∈bs,b.s=c.s:=by
 intro b hm
 unfold eW at hm
 obtain⟨c,hc,he⟩:=List.mem_filterMap.1 hm
 split at he
 ·cases he
 ·rename_i fZ
  simp only[Option.some.injEq]at he
  subst he
  have h1:=jS h (hb c hc).1
  have h2:=jS h (hb c hc).2
  refine⟨by simp only;omega,by simp only;omega,by simp only;omega,c,hc,rfl⟩
theorem mH (L:Nat->Nat) (bs:List PB):(de L bs).length<=bs.length/\(eW L bs).length<=bs.length:=⟨List.length_filterMap_le ..,List.length_filterMap_le ..⟩
theorem jB (n:Nat) (L:Nat->Nat):(leads n L).length<=n:=by
 have:=List.length_filter_le (fun i=>L i==i) (List.range n)
 simpa[leads]using this
def aE (t:Int) (bs:List PB):List PB:=bs.filter fun b=>decide (t<=b.s)
def oE (n:Nat) (bs:List PB) (t:Int):Prop:=
 (leads n (dV (aE t bs))).length<=64/\kj (leads n (dV (aE t bs))).length (de (dV (aE t bs)) bs) t
theorem CR {n:Nat} {L:Nat->Nat} {bs:List PB} {t:Int}:kj n (eW L bs) t↔kj n (de L bs) t:=by
 unfold kj
 constructor<;>intro h S h0 hy<;>have:=h S h0 hy<;>rw[xn]at *<;>exact this
end Go.Proofs.YtgoelphibofcmaaGreat.V

namespace Go.Proofs.YtgoelphibofcmaaGreat.V
open Go.RowKit
attribute [local irreducible] dD wpOps gI Call
attribute [local go_sem] aK fW eU gE gy cE upd ck K.av cN AV.cells AV.cell rowOf rowsOf part ld rowAt bB bY dO ev iI bK db eI gr e8 dx eB cZ cY ea ec bQ aY cQ bP cU cR ez eC eA cP bV da ew bL aL cW cF iH bz cK bR aU dh aT dP AV.undef bF bG eh eu dX dY cI eH eK cD eE eD cV cX List.getD_cons_zero List.getD_cons_succ List.getD_nil List.all_cons List.all_nil Bool.and_true Bool.true_and Bool.and_self Bool.not_true Bool.not_false Option.map_some Option.map_none Option.bind_some Option.bind_none List.length_cons List.length_nil List.take_succ_cons List.take_zero List.take_nil List.drop_succ_cons List.drop_zero List.drop_nil List.head?_cons List.map_cons List.map_nil List.getElem?_cons_zero List.getElem?_cons_succ List.cons_append List.nil_append List.append_nil List.length_map List.set_cons_zero List.set_cons_succ Nat.reduceMul eq_self Int.toNat_natCast Int.natCast_nonneg and_self true_and and_true decide_true decide_false Bool.false_eq_true Nat.zero_add Nat.add_zero List.contains_cons List.contains_nil Bool.or_false Bool.false_or beq_self_eq_true Nat.reduceBEq ne_eq not_true_eq_false not_false_eq_true Id.mk.injEq false_and and_false Nat.reduceLT Int.reduceLE Int.reduceLT Int.reduceToNat Int.reduceNeg Int.reduceAdd Nat.le_refl List.length_append beq_true beq_false Bool.not_eq_eq_eq_not or_false false_or dQ aj aq aH bd bE cm aW bc aN bf cL bU
def ay (b:PB):List AV:=[.int .i64 b.a,.int .i64 b.b,.int .i64 b.s]
theorem L6:∀b:PB,(ay b).length=3/\(ay b).all AV.cell=true:=fun _=>⟨rfl,rfl⟩
theorem yH (g:Rows) (n:Nat) (b:PB):cG g (n+1) (ay b)=some (ay b):=by simp[ay,aj,aq,aH]
theorem tD (g:Rows) (n:Nat) (b:PB):dS g (n+1) (ay b)=some (ay b):=by simp[ay,aP,bt,dC]
theorem Hp:On ay (fun c=>.agg (ay c)) 3 true:=⟨fun _=>rfl,fun _=>rfl,fun x g=>by simp only[ay,aj,aq,bc,aH,Option.map_some]⟩
def mh (s:aw) (l:List ae) (i:Nat) (d:Int):List PB:=
 if 0<=ek l (bJ (aG l i).aF d)/\0<gJ s (aG l i).aQ d (aG l (ek l (bJ (aG l i).aF d)).toNat).aQ then
  [⟨i,(ek l (bJ (aG l i).aF d)).toNat,gJ s (aG l i).aQ d (aG l (ek l (bJ (aG l i).aF d)).toNat).aQ⟩]else[]
def fK (s:aw) (l:List ae) (i m:Nat):List PB:=(List.range m).flatMap fun j:Nat=>mh s l i (1-(j:Int))
def gD (s:aw) (l:List ae) (n:Nat):List PB:=(List.range n).flatMap fun i=>fK s l i 2
def cu (s:aw) (l:List ae):List PB:=gD s l l.length
theorem po (s:aw) (l:List ae) (i m:Nat):fK s l i (m+1)=fK s l i m++mh s l i (1-(m:Int)):=by simp[fK,List.range_succ]
theorem qt (s:aw) (l:List ae) (n:Nat):gD s l (n+1)=gD s l n++fK s l n 2:=by simp[gD,List.range_succ]
theorem Ch (s:aw) (l:List ae) (i:Nat) (d:Int):(mh s l i d).length<=1:=by unfold mh;split<;>simp
theorem qq (s:aw) (l:List ae) (i m:Nat):(fK s l i m).length<=m:=by
 induction m with
 |zero=>simp[fK]
 |succ m ih=>rw[po,List.length_append];have:=Ch s l i (1-(m:Int));omega
theorem sC (s:aw) (l:List ae) (n:Nat):(gD s l n).length<=2*n:=by
 induction n with
 |zero=>simp[gD]
 |succ n ih=>rw[qt,List.length_append];have:=qq s l n 2;omega
def sB:Id->Prop:=fun o=>o.site=193001000∨o.site=193012006
theorem C3 (s:aw) (l:List ae) (hS:kg s) (hA:jx s l):ao Tryz.prog 193 [.cr (ab s),.cr [.sl (l.map ad)]] (.sl ((cu s l).map ay)):=by
 refine ao.body eG rfl fun hl n0=>?_
 clear hl
 have hF:=hA.1
 have AJ:=hF.sH
 (try((repeat(revert hN;revert N;apply Pn.out));refine wk @Nat.zero_add ?_;(repeat(refine Pn.mk ?_;intro N hN))))
 refine aJ (fun n env st=>∃k:Nat,n=(l.length)-k/\k<=(l.length)/\env 6=.int .i64 (k:Int)/\(mb ay 3 (env 5) st.get sB (gD s l k))) (l.length) ⟨0,by omega,by omega,sl @Nat.zero_add,⟨⟨193001000,n0+1⟩,.inl rfl,by simp only[go_sem, ↓reduceIte,Nat.reduceEqDiff,Nat.reduceAdd,Nat.reduceSub,Nat.reduceLeDiff,reduceCtorEq];rfl,by simp only[go_sem, ↓reduceIte,Nat.reduceEqDiff,Nat.reduceAdd,Nat.reduceSub,Nat.reduceLeDiff,reduceCtorEq];rfl⟩⟩ ?_
 rintro n_a env_a st_a ⟨k,rfl,ale,a6,nj⟩ dv
 have a0:=dv 0 (by kernel_rfl);have a1:=dv 1 (by kernel_rfl)
 simp only[go_sem, ↓reduceIte,Nat.reduceEqDiff,Nat.reduceAdd,Nat.reduceSub,Nat.reduceLeDiff,reduceCtorEq]at a0 a1
 clear dv
 by_cases hk:(k:Int)<(l.length:Int)
 ·have cw:∀{e:Env} {gg:Rows},(e 6=.int .i64 (IntKind.i64.wrap ((k:Int)+1)))->(mb ay 3 (e 5) gg sB (gD s l (k+1)))->∃m0,m0<(l.length)-k/\∃k:Nat,m0=(l.length)-k/\k<=(l.length)/\e 6=.int .i64 (k:Int)/\(mb ay 3 (e 5) gg sB (gD s l k)):=fun x1 x2=>⟨_,by omega,k+1,rfl,by omega,(by rw[x1,ax (by omega)]),x2⟩
  have e7:k<l.length:=by omega
  have eJ:=fm e7
  have Tc:=sC s l k
  (try((repeat(revert hN;revert N;apply Pn.out));refine wk (tw @a6 (tw @a0 (tw @a1 @hk))) ?_;(repeat(refine Pn.mk ?_;intro N hN))))
  refine aJ (fun n env st=>∃m:Nat,n=(2)-m/\m<=(2)/\env 7=(.int .i64 (1-(m:Int)))/\(mb ay 3 (env 5) st.get sB (gD s l k++fK s l k m))) (2) ⟨0,by omega,by omega,sl (tw @a6 (tw @a0 @a1)),by(simp only[go_sem, ↓reduceIte,Nat.reduceEqDiff,Nat.reduceAdd,Nat.reduceSub,Nat.reduceLeDiff,reduceCtorEq];exact nj.cast (by simp[fK]))⟩ ?_
  rintro n_b env_b st_b ⟨m,rfl,ble,b7,bI0⟩ ej
  have b0:=ej 0 (by kernel_rfl);have b1:=ej 1 (by kernel_rfl);have b6:=ej 6 (by kernel_rfl)
  simp only[go_sem, ↓reduceIte,Nat.reduceEqDiff,Nat.reduceAdd,Nat.reduceSub,Nat.reduceLeDiff,reduceCtorEq,a6,a0,a1]at b0 b1 b6
  clear ej
  have Q7:=qq s l k m
  have ll:=po s l k m
  by_cases hm:(m:Int)<2
  ·have eL:∀{e:Env} {gg:Rows},(e 7=(.int .i64 (1-((m+1):Int))))->(mb ay 3 (e 5) gg sB (gD s l k++fK s l k (m+1)))->∃m0,m0<(2)-m/\∃m:Nat,m0=(2)-m/\m<=(2)/\e 7=(.int .i64 (1-(m:Int)))/\(mb ay 3 (e 5) gg sB (gD s l k++fK s l k m)):=fun x1 x2=>⟨_,by omega,m+1,rfl,by omega,x1,x2⟩
   have oH:(0:Int)<=1-(m:Int):=by omega
   have hd:iP (1-(m:Int)) 0 3=true:=jg (by omega)
   have hw:IntKind.i64.wrap (1-(m:Int)-1)=1-((m:Int)+1):=by rw[bp (by omega)];omega
   have Rm:=wW l hF k (1-(m:Int)) e7 hd
   unfold mh at ll
   have hT:=hA.2 _ (ig e7)
   generalize zX:ek l (bJ (aG l k).aF (1-(m:Int)))=ix at *
   by_cases hi:ix<0
   ·rw[if_neg (by omega),List.append_nil]at ll
    (repeat(first|((repeat(revert hN;revert N;apply Pn.out));refine wk (tw @b7 (tw @b0 (tw @b1 (tw @b6 (tw @oH (tw @hw @hi)))))) ?_;(repeat(refine Pn.mk ?_;intro N hN)))|((try apply Or.inl);refine⟨_,ao.x (Rm) (sd (tw @b7 (tw @b0 (tw @b1 (tw @b6 (tw @oH (tw @hw @hi))))))),?_⟩;refine hN _ _ ?_;clear hN N)))
    exact eL (sd (tw @b7 (tw @b0 (tw @b1 (tw @b6 @hw))))) (by(simp only[go_sem, ↓reduceIte,Nat.reduceEqDiff,Nat.reduceAdd,Nat.reduceSub,Nat.reduceLeDiff,reduceCtorEq];exact bI0.cast (by rw[ll])))
   ·have GD:0<=ix:=by omega
    have M9:=mv (l:=l) (p:=bJ (aG l k).aF (1-(m:Int))) (by omega)
    rw[zX]at M9
    have jZ:=fm M9.1
    have tj:=xN s hS (aG l k).aQ (1-(m:Int)) (aG l ix.toNat).aQ hT (hA.2 _ (ig M9.1)) hd
    generalize Q5:gJ s (aG l k).aQ (1-(m:Int)) (aG l ix.toNat).aQ=bv at *
    by_cases hb:0<bv
    ·rw[if_pos ⟨GD,hb⟩]at ll
     (repeat(first|((repeat(revert hN;revert N;apply Pn.out));refine wa (tw @b7 (tw @b0 (tw @b1 (tw @b6 (tw @oH (tw @hw (tw @hi (tw @GD (tw @eJ (tw @jZ (tw @hb @ad.eq_1))))))))))) ?_;(repeat(refine Pn.mk ?_;intro N hN)))|((try apply Or.inl);refine⟨_,ao.x (Rm) (sd (tw @b7 (tw @b0 (tw @b1 (tw @b6 (tw @oH (tw @hw (tw @hi (tw @GD (tw @eJ (tw @jZ (tw @hb @ad.eq_1)))))))))))),?_⟩;refine hN _ _ ?_;clear hN N)|((try apply Or.inl);refine⟨_,ao.x (tj) (sd (tw @b7 (tw @b0 (tw @b1 (tw @b6 (tw @oH (tw @hw (tw @hi (tw @GD (tw @eJ (tw @jZ (tw @hb @ad.eq_1)))))))))))),?_⟩;refine hN _ _ ?_;clear hN N)))
     refine N1 (enc:=ay) (S:=sB) (L:=gD s l k++fK s l k m) (xv:=env_b 5) [⟨k,ix.toNat,bv⟩] rfl rfl (sd @Nat.zero_add) (bI0.frame fun o ho=>by rcases ho with ho|ho<;>simp only[go_sem, ↓reduceIte,Nat.reduceEqDiff,Nat.reduceAdd,Nat.reduceSub,Nat.reduceLeDiff,reduceCtorEq,zy ho]) (sd (tw @ay.eq_1 (Int.toNat_of_nonneg GD))) L6 (.inr rfl) (by simp only[dP,List.length_append,List.length_cons,List.length_nil];omega) fun v g' hO jq=>?_
     rw[List.append_assoc,<-ll]at hO
     clear jq
     (try((repeat(revert hN;revert N;apply Pn.out));refine wk (tw @b7 (tw @b0 (tw @b1 (tw @b6 @hw)))) ?_;(repeat(refine Pn.mk ?_;intro N hN))))
     exact eL (sd (tw @b7 (tw @b0 (tw @b1 (tw @b6 @hw))))) (by(simp only[go_sem, ↓reduceIte,Nat.reduceEqDiff,Nat.reduceAdd,Nat.reduceSub,Nat.reduceLeDiff,reduceCtorEq];exact hO))
    ·rw[if_neg fun h=>hb h.2,List.append_nil]at ll
     (repeat(first|((repeat(revert hN;revert N;apply Pn.out));refine wk (tw @b7 (tw @b0 (tw @b1 (tw @b6 (tw @oH (tw @hw (tw @hi (tw @GD (tw @eJ (tw @jZ (tw @hb @ad.eq_1))))))))))) ?_;(repeat(refine Pn.mk ?_;intro N hN)))|((try apply Or.inl);refine⟨_,ao.x (Rm) (sd (tw @b7 (tw @b0 (tw @b1 (tw @b6 (tw @oH (tw @hw (tw @hi (tw @GD (tw @eJ (tw @jZ (tw @hb @ad.eq_1)))))))))))),?_⟩;refine hN _ _ ?_;clear hN N)|((try apply Or.inl);refine⟨_,ao.x (tj) (sd (tw @b7 (tw @b0 (tw @b1 (tw @b6 (tw @oH (tw @hw (tw @hi (tw @GD (tw @eJ (tw @jZ (tw @hb @ad.eq_1)))))))))))),?_⟩;refine hN _ _ ?_;clear hN N)))
     exact eL (sd (tw @b7 (tw @b0 (tw @b1 (tw @b6 @hw))))) (by(simp only[go_sem, ↓reduceIte,Nat.reduceEqDiff,Nat.reduceAdd,Nat.reduceSub,Nat.reduceLeDiff,reduceCtorEq];exact bI0.cast (by rw[ll])))
  ·have OE:m=2:=by omega
   subst OE
   have dz:¬(0:Int)<=1-((2:Nat):Int):=by omega
   (try((repeat(revert hN;revert N;apply Pn.out));refine wk (tw @b7 (tw @b0 (tw @b1 (tw @b6 @dz)))) ?_;(repeat(refine Pn.mk ?_;intro N hN))))
   exact cw (sd (tw @a6 (tw @a0 (tw @a1 (tw @b7 (tw @b0 (tw @b1 @b6))))))) (by(simp only[go_sem, ↓reduceIte,Nat.reduceEqDiff,Nat.reduceAdd,Nat.reduceSub,Nat.reduceLeDiff,reduceCtorEq];exact bI0.cast (by rw[qt])))
 ·have kW:k=l.length:=by omega
  (try((repeat(revert hN;revert N;apply Pn.out));refine wk (tw @a6 (tw @a0 (tw @a1 @hk))) ?_;(repeat(refine Pn.mk ?_;intro N hN))))
  exact vO (.inl rfl) (by simp only[go_sem, ↓reduceIte,Nat.reduceEqDiff,Nat.reduceAdd,Nat.reduceSub,Nat.reduceLeDiff,reduceCtorEq];rfl) (by rw[kW]at nj;exact nj.fY fun b=>tD _ _ b)
end Go.Proofs.YtgoelphibofcmaaGreat.V

namespace Go.Proofs.YtgoelphibofcmaaGreat.V
open Go.RowKit
attribute [local irreducible] dD wpOps gI Call
attribute [local go_sem] aK fW eU gE gy cE upd ck K.av cN AV.cells AV.cell rowOf rowsOf part ld rowAt bB bY dO ev iI bK db eI gr e8 dx eB cZ cY ea ec bQ aY cQ bP cU cR ez eC eA cP bV da ew bL aL cW cF iH bz cK bR aU dh aT dP AV.undef bF bG eh eu dX dY cI eH eK cD eE eD cV cX List.getD_cons_zero List.getD_cons_succ List.getD_nil List.all_cons List.all_nil Bool.and_true Bool.true_and Bool.and_self Bool.not_true Bool.not_false Option.map_some Option.map_none Option.bind_some Option.bind_none List.length_cons List.length_nil List.take_succ_cons List.take_zero List.take_nil List.drop_succ_cons List.drop_zero List.drop_nil List.head?_cons List.map_cons List.map_nil List.getElem?_cons_zero List.getElem?_cons_succ List.cons_append List.nil_append List.append_nil List.length_map List.set_cons_zero List.set_cons_succ Nat.reduceMul eq_self Int.toNat_natCast Int.natCast_nonneg and_self true_and and_true decide_true decide_false Bool.false_eq_true Nat.zero_add Nat.add_zero List.contains_cons List.contains_nil Bool.or_false Bool.false_or beq_self_eq_true Nat.reduceBEq ne_eq not_true_eq_false not_false_eq_true Id.mk.injEq false_and and_false Nat.reduceLT Int.reduceLE Int.reduceLT Int.reduceToNat Int.reduceNeg Int.reduceAdd Nat.le_refl List.length_append beq_true beq_false Bool.not_eq_eq_eq_not or_false false_or dQ aj aq aH bd bE cm aW bc aN bf cL bU
theorem A9 (a b:Nat):ao Tryz.prog 215 [.int .i64 a,.int .i64 b] (.int .i64 (min a b:Nat)):=by
 refine ao.body eG rfl fun hl n0=>?_
 clear hl
 by_cases h:(a:Int)<(b:Int)
 ·(try((repeat(revert hN;revert N;apply Pn.out));refine wk @h ?_;(repeat(refine Pn.mk ?_;intro N hN))))
  exact bx (b:=(a:Int)) (.inl rfl) (sd @Nat.zero_add) (by omega)
 ·(try((repeat(revert hN;revert N;apply Pn.out));refine wk @h ?_;(repeat(refine Pn.mk ?_;intro N hN))))
  exact bx (b:=(b:Int)) (.inl rfl) (sd @Nat.zero_add) (by omega)
theorem A8 (a b:Nat):ao Tryz.prog 216 [.int .i64 a,.int .i64 b] (.int .i64 (max a b:Nat)):=by
 refine ao.body eG rfl fun hl n0=>?_
 clear hl
 by_cases h:(b:Int)<(a:Int)
 ·(try((repeat(revert hN;revert N;apply Pn.out));refine wk @h ?_;(repeat(refine Pn.mk ?_;intro N hN))))
  exact bx (b:=(a:Int)) (.inl rfl) (sd @Nat.zero_add) (by omega)
 ·(try((repeat(revert hN;revert N;apply Pn.out));refine wk @h ?_;(repeat(refine Pn.mk ?_;intro N hN))))
  exact bx (b:=(b:Int)) (.inl rfl) (sd @Nat.zero_add) (by omega)
def du (f:Nat->Nat) (n:Nat):List (List AV):=(List.range n).map fun i=>eN (f i)
theorem fP (f:Nat->Nat) (n:Nat):(du f n).length=n:=by simp[du]
theorem fc {f:Nat->Nat} {n i:Nat} (h:i<n):(du f n)[i]? =some (eN (f i)):=by simp[du,h]
theorem gN {f g:Nat->Nat} {n:Nat} (h:∀i,i<n->f i=g i):du f n=du g n:=List.map_congr_left fun i hi=>by rw[h i (List.mem_range.1 hi)]
theorem oW {f g:Nat->Nat} {n k v:Nat} (hk:k<n) (hv:g k=v) (h:∀i,i<n->i≠k->g i=f i):(du f n).set k (eN v)=du g n:=by
 refine List.ext_getElem? fun i=>?_
 rw[List.getElem?_set]
 by_cases hi:k=i
 ·subst hi
  rw[if_pos rfl,fP,if_pos hk,fc hk,hv]
 ·rw[if_neg hi]
  by_cases fB:i<n
  ·rw[fc fB,fc fB,h i fB (fun h=>hi h.symm)]
  ·rw[List.getElem?_eq_none (by rw[fP];omega),List.getElem?_eq_none (by rw[fP];omega)]
theorem Bc (cnt:Nat) (hn:cnt<=1048576) (bs:List PB) (hb:∀b∈bs,b.a<cnt/\b.b<cnt) (mo:bs.length<=1048576):ao Tryz.prog 214 [.int .i64 cnt,.sl (bs.map ay)] (.sl ((fj cnt (dV bs)).map zV)):=by
 refine ao.body eG rfl fun hl n0=>?_
 clear hl
 (try((repeat(revert hN;revert N;apply Pn.out));refine wk @Nat.zero_add ?_;(repeat(refine Pn.mk ?_;intro N hN))))
 refine aJ (fun n env st=>∃k:Nat,n=(cnt)-k/\k<=(cnt)/\env 6=.int .i64 (k:Int)/\(∃o:Id,env 5=.own o 0 k/\st.get o=some ⟨true,1,du id k⟩/\o.aZ<st.next)) (cnt) ⟨0,by omega,by omega,sl @Nat.zero_add,⟨⟨214001000,n0+1⟩,sd @Nat.zero_add,by simp only[go_sem, ↓reduceIte,Nat.reduceEqDiff,Nat.reduceAdd,Nat.reduceSub,Nat.reduceLeDiff,reduceCtorEq];rfl,by(try dsimp only);omega⟩⟩ ?_
 rintro n_a env_a st_a ⟨k,rfl,ale,a6,nj⟩ dv
 have a0:=dv 0 (by kernel_rfl);have a1:=dv 1 (by kernel_rfl)
 simp only[go_sem, ↓reduceIte,Nat.reduceEqDiff,Nat.reduceAdd,Nat.reduceSub,Nat.reduceLeDiff,reduceCtorEq]at a0 a1
 clear dv
 obtain⟨o,a5,ag,lQ⟩:=nj
 have tl:=fP id k
 have pU:=dw lQ
 by_cases hk:(k:Int)<(cnt:Int)
 ·have cw:∀{e:Env} {gg:Rows} {nx:Nat},(e 6=.int .i64 (IntKind.i64.wrap ((k:Int)+1)))->(∃o:Id,e 5=.own o 0 (k+1)/\gg o=some ⟨true,1,du id (k+1)⟩/\o.aZ<nx)->∃m0,m0<(cnt)-k/\∃k:Nat,m0=(cnt)-k/\k<=(cnt)/\e 6=.int .i64 (k:Int)/\(∃o:Id,e 5=.own o 0 k/\gg o=some ⟨true,1,du id k⟩/\o.aZ<nx):=fun x1 x2=>⟨_,by omega,k+1,rfl,by omega,(by rw[x1,ax (by omega)]),x2⟩
  have e7:k<cnt:=by omega
  have e1:k+1<=16777216:=by omega
  have pf:du id k++[[.int .i64 (k:Int)]]=du id (k+1):=by simp[du,List.range_succ,eN]
  (try((repeat(revert hN;revert N;apply Pn.out));refine wk (tw @a6 (tw @a0 (tw @a1 (tw @a5 (tw @ag (tw @pU (tw @hk (tw @tl (tw @e1 @pf))))))))) ?_;(repeat(refine Pn.mk ?_;intro N hN))))
  exact cw (sd (tw @a6 (tw @a0 @a1))) (⟨⟨214005003,st_a.next+1⟩,sd @Nat.zero_add,sd @pf,by(try dsimp only);omega⟩)
 have kW:k=cnt:=by omega
 subst kW
 have SV:st_a.get o=some ⟨true,1,du (dV (bs.take 0)) k⟩:=ag
 clear ag
 (try((repeat(revert hN;revert N;apply Pn.out));refine wk (tw @a6 (tw @a0 (tw @a1 @hk))) ?_;(repeat(refine Pn.mk ?_;intro N hN))))
 refine aJ (fun n env st=>∃j:Nat,n=(bs.length)-j/\j<=(bs.length)/\env 7=.int .i64 (j:Int)/\st.get o=some ⟨true,1,du (dV (bs.take j)) k⟩/\(o.aZ<st.next)) (bs.length) ⟨0,by omega,by omega,sl (tw @a6 (tw @a0 (tw @a1 (tw @a5 @SV)))),sl (tw @a6 (tw @a0 (tw @a1 (tw @a5 @SV)))),(by(try dsimp only);omega)⟩ ?_
 rintro n_b env_b st_b ⟨j,rfl,ble,b7,bg0,bI0⟩ ej
 have b0:=ej 0 (by kernel_rfl);have b1:=ej 1 (by kernel_rfl);have b5:=ej 5 (by kernel_rfl)
 simp only[go_sem, ↓reduceIte,Nat.reduceEqDiff,Nat.reduceAdd,Nat.reduceSub,Nat.reduceLeDiff,reduceCtorEq,a6,a0,a1,a5,SV]at b0 b1 b5
 clear ej
 by_cases hj:(j:Int)<(bs.length:Int)
 ·have eL:∀{e:Env} {gg:Rows} {nx:Nat},(e 7=.int .i64 (IntKind.i64.wrap ((j:Int)+1)))->(gg o=some ⟨true,1,du (dV (bs.take (j+1))) k⟩)->(o.aZ<nx)->∃m0,m0<(bs.length)-j/\∃j:Nat,m0=(bs.length)-j/\j<=(bs.length)/\e 7=.int .i64 (j:Int)/\gg o=some ⟨true,1,du (dV (bs.take j)) k⟩/\(o.aZ<nx):=fun x1 x2 x3=>⟨_,by omega,j+1,rfl,by omega,(by rw[x1,ax (by omega)]),x2,x3⟩
  have nu:j<bs.length:=by omega
  have Ej:(bs.map ay)[j]? =some (ay bs[j]):=by simp[nu]
  have Lz:=hb _ (List.getElem_mem nu)
  have mZ:bs.take (j+1)=bs.take j++[bs[j]]:=List.take_succ_eq_append_getElem nu
  have ll:dV (bs.take (j+1))=er (dV (bs.take j)) bs[j]:=by rw[mZ,uX]
  generalize dV (bs.take j)=L at *
  generalize bs[j]=b at *
  have hA:=fc (f:=L) Lz.1
  have hB:=fc (f:=L) Lz.2
  have QW:=A9 (L b.a) (L b.b)
  have QX:=A8 (L b.a) (L b.b)
  have tl:=fP L k
  have gn:(b.a:Int)<(k:Int):=by omega
  have fw:(b.b:Int)<(k:Int):=by omega
  (try((repeat(revert hN;revert N;apply Pn.out));refine wk (tw @b7 (tw @bg0 (tw @b0 (tw @b1 (tw @b5 (tw @hj (tw @Ej (tw @ay.eq_1 (tw @hA (tw @hB (tw @gn (tw @fw (tw @tl @eN.eq_1))))))))))))) ?_;(repeat(refine Pn.mk ?_;intro N hN))))
  refine aJ (fun n env st=>∃i:Nat,n=(k)-i/\i<=(k)/\env 10=.int .i64 (i:Int)/\st.get o=some ⟨true,1,du (fun x=>if x<i then er L b x else L x) k⟩/\(o.aZ<st.next)) (k) ⟨0,by omega,by omega,sl (tw @b7 (tw @bg0 (tw @b0 (tw @b1 (tw @b5 @Nat.not_lt_zero))))),sl (tw @b7 (tw @bg0 (tw @b0 (tw @b1 (tw @b5 @Nat.not_lt_zero))))),(by(try dsimp only);omega)⟩ ?_
  rintro n_c env_c st_c ⟨i,rfl,cle,jn,cg0,cI0⟩ cfr
  have c0:=cfr 0 (by kernel_rfl);have c1:=cfr 1 (by kernel_rfl);have c5:=cfr 5 (by kernel_rfl);have c7:=cfr 7 (by kernel_rfl);have c8:=cfr 8 (by kernel_rfl);have c9:=cfr 9 (by kernel_rfl)
  simp only[go_sem, ↓reduceIte,Nat.reduceEqDiff,Nat.reduceAdd,Nat.reduceSub,Nat.reduceLeDiff,reduceCtorEq,b7,bg0,b0,b1,b5,Nat.not_lt_zero]at c0 c1 c5 c7 c8 c9
  clear cfr
  have hC:=fc (f:=fun x=>if x<i then er L b x else L x) (n:=k) (i:=i)
  have tc:=fP (fun x=>if x<i then er L b x else L x) k
  by_cases hi:(i:Int)<(k:Int)
  ·have gU:∀{e:Env} {gg:Rows} {nx:Nat},(e 10=.int .i64 (IntKind.i64.wrap ((i:Int)+1)))->(gg o=some ⟨true,1,du (fun x=>if x<(i+1)then er L b x else L x) k⟩)->(o.aZ<nx)->∃m0,m0<(k)-i/\∃i:Nat,m0=(k)-i/\i<=(k)/\e 10=.int .i64 (i:Int)/\gg o=some ⟨true,1,du (fun x=>if x<i then er L b x else L x) k⟩/\(o.aZ<nx):=fun x1 x2 x3=>⟨_,by omega,i+1,rfl,by omega,(by rw[x1,ax (by omega)]),x2,x3⟩
   have fB:i<k:=by omega
   replace hC:=hC fB
   rw[if_neg (Nat.lt_irrefl i)]at hC
   by_cases he:L i=max (L b.a) (L b.b)
   ·have tJ:decide ((L i:Int)=((max (L b.a) (L b.b):Nat):Int))=true:=decide_eq_true (by rw[he])
    have eO:(du (fun x=>if x<i then er L b x else L x) k).set i (eN (min (L b.a) (L b.b)))=du (fun x=>if x<i+1 then er L b x else L x) k:=oW fB (by rw[if_pos (by omega),er,if_pos he]) fun x hx BZ=>by
     by_cases h:x<i
     ·rw[if_pos h,if_pos (by omega)]
     ·rw[if_neg h,if_neg (by omega)]
    rw[eN]at eO hC
    (repeat(first|((repeat(revert hN;revert N;apply Pn.out));refine wk (tw @jn (tw @cg0 (tw @c0 (tw @c1 (tw @c5 (tw @c7 (tw @c8 (tw @c9 (tw @hi (tw @hC (tw @tc (tw @tJ @eO)))))))))))) ?_;(repeat(refine Pn.mk ?_;intro N hN)))|((try apply Or.inl);refine⟨_,ao.x (QW) (sd (tw @jn (tw @cg0 (tw @c0 (tw @c1 (tw @c5 (tw @c7 (tw @c8 (tw @c9 (tw @hi (tw @hC (tw @tc (tw @tJ @eO))))))))))))),?_⟩;refine hN _ _ ?_;clear hN N)|((try apply Or.inl);refine⟨_,ao.x (QX) (sd (tw @jn (tw @cg0 (tw @c0 (tw @c1 (tw @c5 (tw @c7 (tw @c8 (tw @c9 (tw @hi (tw @hC (tw @tc (tw @tJ @eO))))))))))))),?_⟩;refine hN _ _ ?_;clear hN N)))
    refine gU ?_ ?_ (by(try dsimp only);omega)
    all_goals simp only[go_sem, ↓reduceIte,Nat.reduceEqDiff,Nat.reduceAdd,Nat.reduceSub,Nat.reduceLeDiff,reduceCtorEq,jn,cg0,c0,c1,c5,c7,c8,c9]
   ·have tJ:decide ((L i:Int)=((max (L b.a) (L b.b):Nat):Int))=false:=decide_eq_false fun h=>he (by omega)
    have lR:du (fun x=>if x<i then er L b x else L x) k=du (fun x=>if x<i+1 then er L b x else L x) k:=gN fun x hx=>by
     by_cases h:x<i
     ·rw[if_pos h,if_pos (by omega)]
     ·by_cases BZ:x=i
      ·subst BZ;rw[if_neg h,if_pos (by omega),er,if_neg he]
      ·rw[if_neg h,if_neg (by omega)]
    rw[eN]at hC
    (repeat(first|((repeat(revert hN;revert N;apply Pn.out));refine wk (tw @jn (tw @cg0 (tw @c0 (tw @c1 (tw @c5 (tw @c7 (tw @c8 (tw @c9 (tw @hi (tw @hC (tw @tc @tJ))))))))))) ?_;(repeat(refine Pn.mk ?_;intro N hN)))|((try apply Or.inl);refine⟨_,ao.x (QW) (sd (tw @jn (tw @cg0 (tw @c0 (tw @c1 (tw @c5 (tw @c7 (tw @c8 (tw @c9 (tw @hi (tw @hC (tw @tc @tJ)))))))))))),?_⟩;refine hN _ _ ?_;clear hN N)|((try apply Or.inl);refine⟨_,ao.x (QX) (sd (tw @jn (tw @cg0 (tw @c0 (tw @c1 (tw @c5 (tw @c7 (tw @c8 (tw @c9 (tw @hi (tw @hC (tw @tc @tJ)))))))))))),?_⟩;refine hN _ _ ?_;clear hN N)))
    rw[lR]at cg0
    refine gU ?_ ?_ (by(try dsimp only);omega)
    all_goals simp only[go_sem, ↓reduceIte,Nat.reduceEqDiff,Nat.reduceAdd,Nat.reduceSub,Nat.reduceLeDiff,reduceCtorEq,jn,cg0,c0,c1,c5,c7,c8,c9]
  ·have xD:i=k:=by omega
   subst xD
   have dF:du (fun x=>if x<i then er L b x else L x) i=du (er L b) i:=gN fun x hx=>if_pos hx
   rw[dF]at cg0
   rw[<-ll]at cg0
   (try((repeat(revert hN;revert N;apply Pn.out));refine wk (tw @jn (tw @cg0 (tw @c0 (tw @c1 (tw @c5 (tw @c7 (tw @c8 (tw @c9 (tw @hi @tc))))))))) ?_;(repeat(refine Pn.mk ?_;intro N hN))))
   refine eL ?_ ?_ (by(try dsimp only);omega)
   all_goals simp only[go_sem, ↓reduceIte,Nat.reduceEqDiff,Nat.reduceAdd,Nat.reduceSub,Nat.reduceLeDiff,reduceCtorEq,b7,bg0,b0,b1,b5,jn,cg0,c0,c1,c5,c7,c8,c9]
 have gw:j=bs.length:=by omega
 subst gw
 rw[List.take_length]at bg0
 have hL:=sR bs
 generalize dV bs=L at *
 have tl:=fP L k
 (try((repeat(revert hN;revert N;apply Pn.out));refine wk (tw @b7 (tw @bg0 (tw @b0 (tw @b1 (tw @b5 @hj))))) ?_;(repeat(refine Pn.mk ?_;intro N hN))))
 have Nd:o.aZ<st_b.next:=bI0
 refine aJ (fun n env st=>∃i:Nat,n=(k)-i/\i<=(k)/\env 12=.int .i64 (i:Int)/\st.get o=some ⟨true,1,du L k⟩/\(∃oo rows ids,env 11=.own oo 0 rows.length/\st.get oo=some ⟨true,1,rows⟩/\eR Oq st.get rows ((leads i L).map (members k L)) ids/\(∀x∈oo::ids,st_b.next<=x.aZ/\x.aZ<st.next)/\st_b.next<=st.next/\oo∉ids)) (k) ⟨0,by omega,by omega,sl (tw @b7 (tw @bg0 (tw @b0 (tw @b1 (tw @b5 (dw Nd)))))),sl (tw @b7 (tw @bg0 (tw @b0 (tw @b1 (tw @b5 (dw Nd)))))),⟨⟨214016000,st_b.next+1⟩,[],[],by(simp only[go_sem, ↓reduceIte,Nat.reduceEqDiff,Nat.reduceAdd,Nat.reduceSub,Nat.reduceLeDiff,reduceCtorEq])<;>rfl,sd @Nat.zero_add,.nil,fun x hx=>by rw[List.mem_singleton.1 hx];(try dsimp only);omega,by(try dsimp only);omega,by simp⟩⟩ ?_
 rintro n_d env_d st_d ⟨i,rfl,dle,d12,dg0,dI0⟩ dfr
 have d0:=dfr 0 (by kernel_rfl);have d5:=dfr 5 (by kernel_rfl)
 simp only[go_sem, ↓reduceIte,Nat.reduceEqDiff,Nat.reduceAdd,Nat.reduceSub,Nat.reduceLeDiff,reduceCtorEq,b7,bg0,b0,b1,b5,dw Nd]at d0 d5
 clear dfr
 obtain⟨oo,rows,ids,d11,dg,hR,ny,hle,z6⟩:=dI0
 have pf:=gG i L
 have tL:=hR.len
 by_cases hi:(i:Int)<(k:Int)
 ·have sW:∀{e:Env} {gg:Rows} {nx:Nat},(e 12=.int .i64 (IntKind.i64.wrap ((i:Int)+1)))->(gg o=some ⟨true,1,du L k⟩)->(∃oo rows ids,e 11=.own oo 0 rows.length/\gg oo=some ⟨true,1,rows⟩/\eR Oq gg rows ((leads (i+1) L).map (members k L)) ids/\(∀x∈oo::ids,st_b.next<=x.aZ/\x.aZ<nx)/\st_b.next<=nx/\oo∉ids)->∃m0,m0<(k)-i/\∃i:Nat,m0=(k)-i/\i<=(k)/\e 12=.int .i64 (i:Int)/\gg o=some ⟨true,1,du L k⟩/\(∃oo rows ids,e 11=.own oo 0 rows.length/\gg oo=some ⟨true,1,rows⟩/\eR Oq gg rows ((leads i L).map (members k L)) ids/\(∀x∈oo::ids,st_b.next<=x.aZ/\x.aZ<nx)/\st_b.next<=nx/\oo∉ids):=fun x1 x2 x3=>⟨_,by omega,i+1,rfl,by omega,(by rw[x1,ax (by omega)]),x2,x3⟩
  have fB:i<k:=by omega
  have hC:=fc (f:=L) fB
  have iY:=dw (i:=o) (n:=st_d.next) (by omega)
  have P6:=dw (i:=oo) (n:=st_d.next) (ny oo (by simp)).2
  by_cases he:L i=i
  ·rw[if_pos he]at pf
   have tJ:decide ((L i:Int)=(i:Int))=true:=decide_eq_true (by rw[he])
   rw[eN]at hC
   (try((repeat(revert hN;revert N;apply Pn.out));refine wk (tw @d12 (tw @dg0 (tw @d0 (tw @d5 (tw @d11 (tw @dg (tw @hi (tw @hC (tw @tl (tw @tJ (tw @iY @P6))))))))))) ?_;(repeat(refine Pn.mk ?_;intro N hN))))
   refine aJ (fun n env st=>∃m:Nat,n=((k-i))-m/\m<=((k-i))/\env 14=(.int .i64 ((i+m:Nat):Int))/\(∃pp:Id,env 13=.own pp 0 (members (i+m) L i).length/\st.get pp=some ⟨true,1,(members (i+m) L i).map eN⟩/\st_d.next<=pp.aZ/\pp.aZ<st.next/\(∀x:Id,x.aZ<st_d.next->st.get x=st_d.get x)/\st_d.next<=st.next)) ((k-i)) ⟨0,by omega,by omega,sl (tw @d12 (tw @dg0 (tw @d0 (tw @d5 @d11)))),⟨⟨214021000,st_d.next+1+1⟩,by rw[show members (i+0) L i=[]from mA hL (Nat.le_refl i)];(simp only[go_sem, ↓reduceIte,Nat.reduceEqDiff,Nat.reduceAdd,Nat.reduceSub,Nat.reduceLeDiff,reduceCtorEq])<;>rfl,by rw[show members (i+0) L i=[]from mA hL (Nat.le_refl i)];(simp only[go_sem, ↓reduceIte,Nat.reduceEqDiff,Nat.reduceAdd,Nat.reduceSub,Nat.reduceLeDiff,reduceCtorEq])<;>rfl,by(try dsimp only);omega,by(try dsimp only);omega,fun x hx=>sd (dw hx),by(try dsimp only);omega⟩⟩ ?_
   rintro n_f env_f st_f ⟨m,rfl,fle,f14,fI0⟩ ffr
   have f0:=ffr 0 (by kernel_rfl);have f5:=ffr 5 (by kernel_rfl);have f11:=ffr 11 (by kernel_rfl);have f12:=ffr 12 (by kernel_rfl)
   simp only[go_sem, ↓reduceIte,Nat.reduceEqDiff,Nat.reduceAdd,Nat.reduceSub,Nat.reduceLeDiff,reduceCtorEq,d12,dg0,d0,d5,d11]at f0 f5 f11 f12
   clear ffr
   obtain⟨pp,f13,fg,Nh,HS,jq,iU⟩:=fI0
   have uL:st_f.get o=some ⟨true,1,du L k⟩:=(jq o (by omega)).trans dg0
   have SE:st_f.get oo=some ⟨true,1,rows⟩:=(jq oo (ny oo (by simp)).2).trans dg
   have rF:=dw HS
   have AY:=dw (i:=o) (n:=st_f.next) (by omega)
   have P7:=dw (i:=oo) (n:=st_f.next) (by have:=(ny oo (by simp)).2;omega)
   have OF:members (i+(m+1)) L i=members (i+m) L i++if L (i+m)=i then[i+m]else[]:=ji (i+m) L i
   have SN:(members (i+m) L i).length<=i+m:=by
    have:=List.length_filter_le (fun k=>L k==i) (List.range (i+m))
    simpa[members]using this
   have x1:=dm (a:=o) (b:=pp) (by omega)
   have x2:=dm (a:=oo) (b:=pp) (by have:=(ny oo (by simp)).2;omega)
   have x3:=dm (a:=o) (b:=oo) (by have:=(ny oo (by simp)).1;omega)
   by_cases hm:m<k-i
   ·have qO:∀{e:Env} {gg:Rows} {nx:Nat},(e 14=(.int .i64 ((i+(m+1):Nat):Int)))->(∃pp:Id,e 13=.own pp 0 (members (i+(m+1)) L i).length/\gg pp=some ⟨true,1,(members (i+(m+1)) L i).map eN⟩/\st_d.next<=pp.aZ/\pp.aZ<nx/\(∀x:Id,x.aZ<st_d.next->gg x=st_d.get x)/\st_d.next<=nx)->∃m0,m0<((k-i))-m/\∃m:Nat,m0=((k-i))-m/\m<=((k-i))/\e 14=(.int .i64 ((i+m:Nat):Int))/\(∃pp:Id,e 13=.own pp 0 (members (i+m) L i).length/\gg pp=some ⟨true,1,(members (i+m) L i).map eN⟩/\st_d.next<=pp.aZ/\pp.aZ<nx/\(∀x:Id,x.aZ<st_d.next->gg x=st_d.get x)/\st_d.next<=nx):=fun x1 x2=>⟨_,by omega,m+1,rfl,by omega,x1,x2⟩
    have Rl:((i+m:Nat):Int)<(k:Int):=by omega
    have R7:=fc (f:=L) (show i+m<k by omega)
    have hw:IntKind.i64.wrap (((i+m:Nat):Int)+1)=((i+(m+1):Nat):Int):=by rw[bp (by omega)];omega
    rw[eN]at R7
    by_cases hq:L (i+m)=i
    ·have tk:decide ((L (i+m):Int)=(i:Int))=true:=decide_eq_true (by rw[hq])
     rw[if_pos hq]at OF
     have e1:(members (i+m) L i).length+1<=16777216:=by omega
     have pS:((members (i+m) L i).map eN).length=(members (i+m) L i).length:=by simp
     (try((repeat(revert hN;revert N;apply Pn.out));refine wk (tw @f14 (tw @f0 (tw @f5 (tw @f11 (tw @f12 (tw @f13 (tw @fg (tw @uL (tw @Rl (tw @R7 (tw @tl (tw @tk (tw @rF (tw @AY (tw @x1 (tw @e1 @pS)))))))))))))))) ?_;(repeat(refine Pn.mk ?_;intro N hN))))
     exact qO (sd (tw @f14 (tw @f0 (tw @f5 (tw @f11 (tw @f12 (tw @uL (tw @hw (tw @AY @x1))))))))) (⟨⟨214026003,st_f.next+1+1⟩,by rw[OF,List.length_append];simp only[go_sem, ↓reduceIte,Nat.reduceEqDiff,Nat.reduceAdd,Nat.reduceSub,Nat.reduceLeDiff,reduceCtorEq,List.length_cons,List.length_nil],by rw[OF,List.map_append,List.map_cons,List.map_nil];simp only[go_sem, ↓reduceIte,Nat.reduceEqDiff,Nat.reduceAdd,Nat.reduceSub,Nat.reduceLeDiff,reduceCtorEq,eN],by(try dsimp only);omega,by(try dsimp only);omega,fun x hx=>by
      have y1:=jq x hx
      have y2:=dm (a:=x) (b:=pp) (by omega)
      simp only[go_sem, ↓reduceIte,Nat.reduceEqDiff,Nat.reduceAdd,Nat.reduceSub,Nat.reduceLeDiff,reduceCtorEq,dw (show x.aZ<st_f.next by omega),y1,y2],by(try dsimp only);omega⟩)
    ·have tk:decide ((L (i+m):Int)=(i:Int))=false:=decide_eq_false fun h=>hq (by omega)
     rw[if_neg hq,List.append_nil]at OF
     (try((repeat(revert hN;revert N;apply Pn.out));refine wk (tw @f14 (tw @f0 (tw @f5 (tw @f11 (tw @f12 (tw @f13 (tw @fg (tw @uL (tw @Rl (tw @R7 (tw @tl (tw @tk (tw @rF (tw @AY @x1)))))))))))))) ?_;(repeat(refine Pn.mk ?_;intro N hN))))
     exact qO (sd (tw @f14 (tw @f0 (tw @f5 (tw @f11 (tw @f12 (tw @uL @hw))))))) (⟨pp,by rw[OF];simp only[go_sem, ↓reduceIte,Nat.reduceEqDiff,Nat.reduceAdd,Nat.reduceSub,Nat.reduceLeDiff,reduceCtorEq,f13],by rw[OF];simp only[go_sem, ↓reduceIte,Nat.reduceEqDiff,Nat.reduceAdd,Nat.reduceSub,Nat.reduceLeDiff,reduceCtorEq,fg],Nh,by(try dsimp only);omega,jq,by(try dsimp only);omega⟩)
   ·have hmk:i+m=k:=by omega
    have Rl:¬((i+m:Nat):Int)<(k:Int):=by omega
    rw[hmk]at f13 fg SN
    have e1:rows.length+1<=16777216:=by
     have:=jB i L
     rw[tL,List.length_map];omega
    (try((repeat(revert hN;revert N;apply Pn.out));refine wk (tw @f14 (tw @f0 (tw @f5 (tw @f11 (tw @f12 (tw @f13 (tw @fg (tw @uL (tw @SE (tw @Rl (tw @rF (tw @AY (tw @P7 (tw @x1 (tw @x2 @e1))))))))))))))) ?_;(repeat(refine Pn.mk ?_;intro N hN))))
    refine sW ?_ ?_ (⟨⟨214027003,st_f.next+1⟩,rows++[[.own pp 0 (members k L i).length]],ids++[pp],by rw[List.length_append];simp only[go_sem, ↓reduceIte,Nat.reduceEqDiff,Nat.reduceAdd,Nat.reduceSub,Nat.reduceLeDiff,reduceCtorEq,List.length_cons,List.length_nil],sd @Nat.zero_add,by
      rw[pf,List.map_append]
      refine(hR.frame KD fun x hx=>?_).app (.one ⟨pp,rfl,?_,rfl⟩)
      ·have h1:=ny x (by simp[hx])
       have y1:=jq x h1.2
       have y2:=dm (a:=x) (b:=pp) (by omega)
       have y3:(x=oo)=False:=by
        simp only[eq_iff_iff,iff_false]
        rintro rfl
        exact z6 hx
       simp only[go_sem, ↓reduceIte,Nat.reduceEqDiff,Nat.reduceAdd,Nat.reduceSub,Nat.reduceLeDiff,reduceCtorEq,dw (show x.aZ<st_f.next by omega),y1,y2,y3]
      ·simp only[go_sem, ↓reduceIte,Nat.reduceEqDiff,Nat.reduceAdd,Nat.reduceSub,Nat.reduceLeDiff,reduceCtorEq,rF,x2,fg],fun x hx=>by
      rcases List.mem_cons.1 hx with rfl|hx
      ·(try dsimp only);omega
      ·rcases List.mem_append.1 hx with hx|hx
       ·have:=ny x (by simp[hx]);(try dsimp only);omega
       ·rw[List.mem_singleton.1 hx];(try dsimp only);omega,by(try dsimp only);omega,fun hc=>by
      rcases List.mem_append.1 hc with hc|hc
      ·have:=(ny _ (List.mem_cons_of_mem _ hc)).2;(try dsimp only at this);omega
      ·have:=List.mem_singleton.1 hc;rw[<-this]at HS;(try dsimp only at HS);omega⟩)
    all_goals simp only[go_sem, ↓reduceIte,Nat.reduceEqDiff,Nat.reduceAdd,Nat.reduceSub,Nat.reduceLeDiff,reduceCtorEq,f14,f0,f5,f11,f12,uL,AY,x3]
  ·rw[if_neg he,List.append_nil]at pf
   have tJ:decide ((L i:Int)=(i:Int))=false:=decide_eq_false fun h=>he (by omega)
   rw[eN]at hC
   (try((repeat(revert hN;revert N;apply Pn.out));refine wk (tw @d12 (tw @dg0 (tw @d0 (tw @d5 (tw @d11 (tw @dg (tw @hi (tw @hC (tw @tl (tw @tJ (tw @iY @P6))))))))))) ?_;(repeat(refine Pn.mk ?_;intro N hN))))
   refine sW ?_ ?_ (⟨oo,rows,ids,sd @d11,sd @dg,by rw[pf];exact hR,fun x hx=>by have:=ny x hx;(try dsimp only);omega,by(try dsimp only);omega,z6⟩)
   all_goals simp only[go_sem, ↓reduceIte,Nat.reduceEqDiff,Nat.reduceAdd,Nat.reduceSub,Nat.reduceLeDiff,reduceCtorEq,d12,dg0,d0,d5]
 ·have xD:i=k:=by omega
  (try((repeat(revert hN;revert N;apply Pn.out));refine wk (tw @d12 (tw @dg0 (tw @d0 (tw @d5 (tw @d11 (tw @dg @hi)))))) ?_;(repeat(refine Pn.mk ?_;intro N hN))))
  refine vO (.inl rfl) (by simp only[go_sem, ↓reduceIte,Nat.reduceEqDiff,Nat.reduceAdd,Nat.reduceSub,Nat.reduceLeDiff,reduceCtorEq];rfl) ?_
  rw[tE dg (by simp) (rows':=(fj k L).map zV) (by rw[List.drop_zero,List.take_of_length_le (Nat.le_refl _)];rw[xD]at hR;exact Ij 3 hR)]
end Go.Proofs.YtgoelphibofcmaaGreat.V

namespace Go.Proofs.YtgoelphibofcmaaGreat.V
open Go.RowKit
attribute [local irreducible] dD wpOps gI Call
attribute [local go_sem] aK fW eU gE gy cE upd ck K.av cN AV.cells AV.cell rowOf rowsOf part ld rowAt bB bY dO ev iI bK db eI gr e8 dx eB cZ cY ea ec bQ aY cQ bP cU cR ez eC eA cP bV da ew bL aL cW cF iH bz cK bR aU dh aT dP AV.undef bF bG eh eu dX dY cI eH eK cD eE eD cV cX List.getD_cons_zero List.getD_cons_succ List.getD_nil List.all_cons List.all_nil Bool.and_true Bool.true_and Bool.and_self Bool.not_true Bool.not_false Option.map_some Option.map_none Option.bind_some Option.bind_none List.length_cons List.length_nil List.take_succ_cons List.take_zero List.take_nil List.drop_succ_cons List.drop_zero List.drop_nil List.head?_cons List.map_cons List.map_nil List.getElem?_cons_zero List.getElem?_cons_succ List.cons_append List.nil_append List.append_nil List.length_map List.set_cons_zero List.set_cons_succ Nat.reduceMul eq_self Int.toNat_natCast Int.natCast_nonneg and_self true_and and_true decide_true decide_false Bool.false_eq_true Nat.zero_add Nat.add_zero List.contains_cons List.contains_nil Bool.or_false Bool.false_or beq_self_eq_true Nat.reduceBEq ne_eq not_true_eq_false not_false_eq_true Id.mk.injEq false_and and_false Nat.reduceLT Int.reduceLE Int.reduceLT Int.reduceToNat Int.reduceNeg Int.reduceAdd Nat.le_refl List.length_append beq_true beq_false Bool.not_eq_eq_eq_not or_false false_or dQ aj aq aH bd bE cm aW bc aN bf cL bU
theorem we (n:Nat):List.replicate n [AV.int .i64 0]=du (fun _=>0) n:=by
 refine List.ext_getElem? fun i=>?_
 by_cases h:i<n
 ·rw[fc h,List.getElem?_replicate,if_pos h];rfl
 ·rw[List.getElem?_eq_none (by simp;omega),List.getElem?_eq_none (by rw[fP];omega)]
def cC (cnt:Nat) (L:Nat->Nat) (i m:Nat):Nat->Nat:=fun x=>if br L x<i then br L x else if x∈(members cnt L ((leads cnt L).getD i 0)).take m then i else 0
theorem od (cnt:Nat) (L:Nat->Nat):cC cnt L 0 0=fun _=>0:=by funext x;simp[cC]
theorem s7 (t:Int) (bs:List PB) (k:Nat) (h:k<bs.length):aE t (bs.take (k+1))=aE t (bs.take k)++if t<=(bs[k]).s then[bs[k]]else[]:=by
 unfold aE
 rw[List.take_succ_eq_append_getElem h,List.filter_append]
 congr 1
 by_cases h:t<=bs[k].s<;>simp[h]
theorem v7 {t:Int} {bs:List PB} {b:PB} (h:b∈aE t bs):b∈bs:=(List.mem_filter.1 h).1
theorem mJ (t:Int) (bs:List PB):(aE t bs).length<=bs.length:=List.length_filter_le _ _
theorem Be (cnt:Nat) (hn:cnt<=1048576) (bs:List PB) (hb:∀b∈bs,b.a<cnt/\b.b<cnt) (mo:bs.length<=1048576) (t:Int):ao Tryz.prog 192 [.int .i64 cnt,.sl (bs.map ay),.int .i64 t] (.gx [.int .i64 (leads cnt (dV (aE t bs))).length,.sl ((eW (dV (aE t bs)) bs).map ay)]):=by
 refine ao.body eG rfl fun hl n0=>?_
 clear hl
 (try((repeat(revert hN;revert N;apply Pn.out));refine wk @Nat.zero_add ?_;(repeat(refine Pn.mk ?_;intro N hN))))
 refine aJ (fun n env st=>∃k:Nat,n=(bs.length)-k/\k<=(bs.length)/\env 9=.int .i64 (k:Int)/\(∃o:Id,env 8=.own o 0 (aE t (bs.take k)).length/\st.get o=some ⟨true,3,(aE t (bs.take k)).map ay⟩/\o.aZ<st.next)) (bs.length) ⟨0,by omega,by omega,sl @Nat.zero_add,⟨⟨192001000,n0+1⟩,by(simp only[go_sem, ↓reduceIte,Nat.reduceEqDiff,Nat.reduceAdd,Nat.reduceSub,Nat.reduceLeDiff,reduceCtorEq])<;>rfl,by(simp only[go_sem, ↓reduceIte,Nat.reduceEqDiff,Nat.reduceAdd,Nat.reduceSub,Nat.reduceLeDiff,reduceCtorEq])<;>rfl,by(try dsimp only);omega⟩⟩ ?_
 rintro n_a env_a st_a ⟨k,rfl,ale,a9,nj⟩ dv
 have a0:=dv 0 (by kernel_rfl);have a1:=dv 1 (by kernel_rfl);have a2:=dv 2 (by kernel_rfl)
 simp only[go_sem, ↓reduceIte,Nat.reduceEqDiff,Nat.reduceAdd,Nat.reduceSub,Nat.reduceLeDiff,reduceCtorEq]at a0 a1 a2
 clear dv
 obtain⟨o,a8,ag,lQ⟩:=nj
 have pU:=dw lQ
 by_cases hk:(k:Int)<(bs.length:Int)
 ·have cw:∀{e:Env} {gg:Rows} {nx:Nat},(e 9=.int .i64 (IntKind.i64.wrap ((k:Int)+1)))->(∃o:Id,e 8=.own o 0 (aE t (bs.take (k+1))).length/\gg o=some ⟨true,3,(aE t (bs.take (k+1))).map ay⟩/\o.aZ<nx)->∃m0,m0<(bs.length)-k/\∃k:Nat,m0=(bs.length)-k/\k<=(bs.length)/\e 9=.int .i64 (k:Int)/\(∃o:Id,e 8=.own o 0 (aE t (bs.take k)).length/\gg o=some ⟨true,3,(aE t (bs.take k)).map ay⟩/\o.aZ<nx):=fun x1 x2=>⟨_,by omega,k+1,rfl,by omega,(by rw[x1,ax (by omega)]),x2⟩
  have e7:k<bs.length:=by omega
  have eJ:(bs.map ay)[k]? =some (ay bs[k]):=by simp[e7]
  have hs:=s7 t bs k e7
  have AW:=mJ t (bs.take k)
  rw[List.length_take]at AW
  by_cases hc:t<=(bs[k]).s
  ·rw[if_pos hc]at hs
   have e1:(aE t (bs.take k)).length+1<=16777216:=by omega
   have pS:((aE t (bs.take k)).map ay).length=(aE t (bs.take k)).length:=by simp
   generalize bs[k]=b at *
   (try((repeat(revert hN;revert N;apply Pn.out));refine wk (tw @a9 (tw @a0 (tw @a1 (tw @a2 (tw @a8 (tw @ag (tw @pU (tw @hk (tw @eJ (tw @hc (tw @e1 (tw @pS @ay.eq_1)))))))))))) ?_;(repeat(refine Pn.mk ?_;intro N hN))))
   exact cw (sd (tw @a9 (tw @a0 (tw @a1 @a2)))) (⟨⟨192006006,st_a.next+1+1⟩,by rw[hs,List.length_append];simp only[go_sem, ↓reduceIte,Nat.reduceEqDiff,Nat.reduceAdd,Nat.reduceSub,Nat.reduceLeDiff,reduceCtorEq,List.length_cons,List.length_nil],by rw[hs,List.map_append,List.map_cons,List.map_nil];simp only[go_sem, ↓reduceIte,Nat.reduceEqDiff,Nat.reduceAdd,Nat.reduceSub,Nat.reduceLeDiff,reduceCtorEq,ay],by(try dsimp only);omega⟩)
  ·rw[if_neg hc,List.append_nil]at hs
   generalize bs[k]=b at *
   (try((repeat(revert hN;revert N;apply Pn.out));refine wk (tw @a9 (tw @a0 (tw @a1 (tw @a2 (tw @a8 (tw @ag (tw @pU (tw @hk (tw @eJ (tw @hc @ay.eq_1)))))))))) ?_;(repeat(refine Pn.mk ?_;intro N hN))))
   exact cw (sd (tw @a9 (tw @a0 (tw @a1 @a2)))) (⟨o,by rw[hs];simp only[go_sem, ↓reduceIte,Nat.reduceEqDiff,Nat.reduceAdd,Nat.reduceSub,Nat.reduceLeDiff,reduceCtorEq,a8],by rw[hs];simp only[go_sem, ↓reduceIte,Nat.reduceEqDiff,Nat.reduceAdd,Nat.reduceSub,Nat.reduceLeDiff,reduceCtorEq,ag],by(try dsimp only);omega⟩)
 have kW:k=bs.length:=by omega
 subst kW
 rw[List.take_length]at a8 ag
 have GC:=Bc cnt hn (aE t bs) (fun b h=>hb b (v7 h)) (by have:=mJ t bs;omega)
 have hL:=sR (aE t bs)
 have BU:fz (dQ st_a.get) 6 (.own o 0 (aE t bs).length)=some (.sl ((aE t bs).map ay)):=ib (sz:=3) (by simp[dQ,ag]) rfl fun b=>yH _ 4 b
 have SC:∀x,cG (dQ st_a.get) 6 [.int .i64 x,.own o 0 (aE t bs).length]=some [.int .i64 x,.sl ((aE t bs).map ay)]:=fun x=>by simp only[aj,aq,aH,BU,Option.map_some]
 (try((repeat(revert hN;revert N;apply Pn.out));refine wk (tw @a9 (tw @a0 (tw @a1 (tw @a2 (tw @a8 @hk))))) ?_;(repeat(refine Pn.mk ?_;intro N hN))))
 refine .inl ⟨_,ao.x GC (SC _),?_⟩
 refine hN _ _ ?_
 clear hN N
 generalize dV (aE t bs)=L at *
 have rT:((fj cnt L).map zV).length=(leads cnt L).length:=by simp[fj]
 have Ri:=jB cnt L
 have jv:(0:Int)<=(cnt:Int):=by omega
 have pr:(cnt:Int)<=((16777216:Nat):Int):=by omega
 have gp:List.replicate cnt [AV.int .i64 0]=du (cC cnt L 0 0) cnt:=by rw[we,od]
 (try((repeat(revert hN;revert N;apply Pn.out));refine wk (tw @a9 (tw @a0 (tw @a1 (tw @a2 (tw @jv (tw @pr @Int.le_refl)))))) ?_;(repeat(refine Pn.mk ?_;intro N hN))))
 refine aJ (fun n env st=>∃i:Nat,n=((leads cnt L).length)-i/\i<=((leads cnt L).length)/\env 12=.int .i64 (i:Int)/\st.get ⟨192008001,st_a.next+1+1⟩=some ⟨true,1,du (cC cnt L i 0) cnt⟩/\(st_a.next+1+1<st.next)) ((leads cnt L).length) ⟨0,by omega,by omega,sl (tw @a9 (tw @a0 (tw @a1 (tw @a2 @gp)))),sl (tw @a9 (tw @a0 (tw @a1 (tw @a2 @gp)))),(by(try dsimp only);omega)⟩ ?_
 rintro n_c env_c st_c ⟨i,rfl,cle,yu,cg0,cI0⟩ cfr
 have c1:=cfr 1 (by kernel_rfl);have jn:=cfr 10 (by kernel_rfl);have nq:=cfr 11 (by kernel_rfl)
 simp only[go_sem, ↓reduceIte,Nat.reduceEqDiff,Nat.reduceAdd,Nat.reduceSub,Nat.reduceLeDiff,reduceCtorEq,a9,a0,a1,a2,gp]at c1 jn nq
 clear cfr
 by_cases hi:(i:Int)<((leads cnt L).length:Int)
 ·have gU:∀{e:Env} {gg:Rows} {nx:Nat},(e 12=.int .i64 (IntKind.i64.wrap ((i:Int)+1)))->(gg ⟨192008001,st_a.next+1+1⟩=some ⟨true,1,du (cC cnt L (i+1) 0) cnt⟩)->(st_a.next+1+1<nx)->∃m0,m0<((leads cnt L).length)-i/\∃i:Nat,m0=((leads cnt L).length)-i/\i<=((leads cnt L).length)/\e 12=.int .i64 (i:Int)/\gg ⟨192008001,st_a.next+1+1⟩=some ⟨true,1,du (cC cnt L i 0) cnt⟩/\(st_a.next+1+1<nx):=fun x1 x2 x3=>⟨_,by omega,i+1,rfl,by omega,(by rw[x1,ax (by omega)]),x2,x3⟩
  have fB:i<(leads cnt L).length:=by omega
  have jZ:((fj cnt L).map zV)[i]? =some (zV (members cnt L (leads cnt L)[i])):=by simp[fj,fB]
  have tK:(leads cnt L).getD i 0=(leads cnt L)[i]:=by simp[List.getD_eq_getElem?_getD,fB]
  have AX:∀m,cC cnt L i m=fun x=>if br L x<i then br L x else if x∈(members cnt L (leads cnt L)[i]).take m then i else 0:=fun m=>by unfold cC;rw[tK]
  have qE:=fun x (hx:x<cnt)=>r5 hL (n:=cnt) (k:=x) (i:=i) hx fB
  have oI:(members cnt L (leads cnt L)[i]).Nodup:=List.nodup_range.filter _
  have JC:∀x∈members cnt L (leads cnt L)[i],x<cnt:=fun x hx=>(lq.1 hx).1
  have hMc:(members cnt L (leads cnt L)[i]).length<=cnt:=by
   have:=List.length_filter_le (fun k=>L k==(leads cnt L)[i]) (List.range cnt)
   simpa[members]using this
  generalize members cnt L (leads cnt L)[i]=M at *
  have BT:(M.map eN).length=M.length:=by simp
  (try((repeat(revert hN;revert N;apply Pn.out));refine wk (tw @yu (tw @cg0 (tw @c1 (tw @jn (tw @nq (tw @hi @rT)))))) ?_;(repeat(refine Pn.mk ?_;intro N hN))))
  refine aJ (fun n env st=>∃m:Nat,n=(M.length)-m/\m<=(M.length)/\env 13=.int .i64 (m:Int)/\st.get ⟨192008001,st_a.next+1+1⟩=some ⟨true,1,du (cC cnt L i m) cnt⟩/\(st_a.next+1+1<st.next)) (M.length) ⟨0,by omega,by omega,sl (tw @yu (tw @cg0 (tw @c1 (tw @jn @nq)))),sl (tw @yu (tw @cg0 (tw @c1 (tw @jn @nq)))),(by(try dsimp only);omega)⟩ ?_
  rintro n_d env_d st_d ⟨m,rfl,dle,d13,dg0,dI0⟩ dfr
  have d1:=dfr 1 (by kernel_rfl);have d10:=dfr 10 (by kernel_rfl);have d11:=dfr 11 (by kernel_rfl);have d12:=dfr 12 (by kernel_rfl)
  simp only[go_sem, ↓reduceIte,Nat.reduceEqDiff,Nat.reduceAdd,Nat.reduceSub,Nat.reduceLeDiff,reduceCtorEq,yu,cg0,c1,jn,nq]at d1 d10 d11 d12
  clear dfr
  have tl:=fP (cC cnt L i m) cnt
  by_cases hm:(m:Int)<(M.length:Int)
  ·have sW:∀{e:Env} {gg:Rows} {nx:Nat},(e 13=.int .i64 (IntKind.i64.wrap ((m:Int)+1)))->(gg ⟨192008001,st_a.next+1+1⟩=some ⟨true,1,du (cC cnt L i (m+1)) cnt⟩)->(st_a.next+1+1<nx)->∃m0,m0<(M.length)-m/\∃m:Nat,m0=(M.length)-m/\m<=(M.length)/\e 13=.int .i64 (m:Int)/\gg ⟨192008001,st_a.next+1+1⟩=some ⟨true,1,du (cC cnt L i m) cnt⟩/\(st_a.next+1+1<nx):=fun x1 x2 x3=>⟨_,by omega,m+1,rfl,by omega,(by rw[x1,ax (by omega)]),x2,x3⟩
   have yT:m<M.length:=by omega
   have uK:(M.map eN)[m]? =some (eN M[m]):=by simp[yT]
   have uR:=JC _ (List.getElem_mem yT)
   have BZ:(M[m]:Int)<(cnt:Int):=by omega
   have BY:=fc (f:=cC cnt L i m) uR
   have eO:(du (cC cnt L i m) cnt).set M[m] (eN i)=du (cC cnt L i (m+1)) cnt:=oW uR (by
    have h1:=(qE _ uR).1 (List.getElem_mem yT)
    rw[AX]
    simp only[]
    rw[if_neg (by omega),if_pos (by rw[List.take_succ_eq_append_getElem yT];exact List.mem_append_right _ (List.mem_singleton.2 rfl))]) fun x hx fZ=>by
    rw[AX,AX]
    simp only[]
    rw[List.take_succ_eq_append_getElem yT]
    simp only[List.mem_append,List.mem_singleton,fZ,or_false]
   rw[eN]at eO BY
   generalize M[m]=xm at *
   (try((repeat(revert hN;revert N;apply Pn.out));refine wk (tw @d13 (tw @dg0 (tw @d1 (tw @d10 (tw @d11 (tw @d12 (tw @hm (tw @hi (tw @jZ (tw @rT (tw @uK (tw @BT (tw @BZ (tw @BY (tw @tl (tw @eO (tw @zV.eq_1 @eN.eq_1))))))))))))))))) ?_;(repeat(refine Pn.mk ?_;intro N hN))))
   refine sW ?_ ?_ (by(try dsimp only);omega)
   all_goals simp only[go_sem, ↓reduceIte,Nat.reduceEqDiff,Nat.reduceAdd,Nat.reduceSub,Nat.reduceLeDiff,reduceCtorEq,d13,dg0,d1,d10,d11,d12,eO]
  ·have pS:m=M.length:=by omega
   subst pS
   have iU:du (cC cnt L i M.length) cnt=du (cC cnt L (i+1) 0) cnt:=gN fun x hx=>by
    rw[AX,List.take_length]
    simp only[cC,List.take_zero,List.not_mem_nil,if_false]
    have h1:=qE x hx
    by_cases h2:br L x<i
    ·rw[if_pos h2,if_pos (by omega)]
    ·rw[if_neg h2]
     by_cases h3:x∈M
     ·rw[if_pos h3,if_pos (by have:=h1.1 h3;omega),h1.1 h3]
     ·rw[if_neg h3,if_neg fun h4=>h3 (h1.2 (by omega))]
   (try((repeat(revert hN;revert N;apply Pn.out));refine wk (tw @d13 (tw @dg0 (tw @d1 (tw @d10 (tw @d11 (tw @d12 (tw @hm (tw @hi (tw @jZ (tw @rT (tw @BT @zV.eq_1))))))))))) ?_;(repeat(refine Pn.mk ?_;intro N hN))))
   refine gU ?_ ?_ (by(try dsimp only);omega)
   all_goals simp only[go_sem, ↓reduceIte,Nat.reduceEqDiff,Nat.reduceAdd,Nat.reduceSub,Nat.reduceLeDiff,reduceCtorEq,yu,cg0,c1,jn,nq,d13,dg0,d1,d10,d11,d12,iU]
 have ly:i=(leads cnt L).length:=by omega
 subst ly
 have z6:du (cC cnt L (leads cnt L).length 0) cnt=du (br L) cnt:=gN fun x hx=>by rw[cC,if_pos (jS hL hx)]
 rw[z6]at cg0
 have tl:=fP (br L) cnt
 (try((repeat(revert hN;revert N;apply Pn.out));refine wk (tw @yu (tw @cg0 (tw @c1 (tw @jn (tw @nq (tw @hi @rT)))))) ?_;(repeat(refine Pn.mk ?_;intro N hN))))
 have M3:st_a.next+1+1<st_c.next:=cI0
 refine aJ (fun n env st=>∃j:Nat,n=(bs.length)-j/\j<=(bs.length)/\env 15=.int .i64 (j:Int)/\st.get ⟨192008001,st_a.next+1+1⟩=some ⟨true,1,du (br L) cnt⟩/\(∃p:Id,env 14=.own p 0 (eW L (bs.take j)).length/\st.get p=some ⟨true,3,(eW L (bs.take j)).map ay⟩/\st_c.next<=p.aZ/\p.aZ<st.next)) (bs.length) ⟨0,by omega,by omega,sl (tw @yu (tw @cg0 (tw @c1 (tw @jn @nq)))),sl (tw @yu (tw @cg0 (tw @c1 (tw @jn @nq)))),⟨⟨192016000,st_c.next+1⟩,by(simp only[go_sem, ↓reduceIte,Nat.reduceEqDiff,Nat.reduceAdd,Nat.reduceSub,Nat.reduceLeDiff,reduceCtorEq])<;>rfl,by(simp only[go_sem, ↓reduceIte,Nat.reduceEqDiff,Nat.reduceAdd,Nat.reduceSub,Nat.reduceLeDiff,reduceCtorEq])<;>rfl,by(try dsimp only);omega,by(try dsimp only);omega⟩⟩ ?_
 rintro n_f env_f st_f ⟨j,rfl,fle,f15,fg0,fI0⟩ ffr
 have f1:=ffr 1 (by kernel_rfl);have f10:=ffr 10 (by kernel_rfl);have f11:=ffr 11 (by kernel_rfl)
 simp only[go_sem, ↓reduceIte,Nat.reduceEqDiff,Nat.reduceAdd,Nat.reduceSub,Nat.reduceLeDiff,reduceCtorEq,yu,cg0,c1,jn,nq]at f1 f10 f11
 clear ffr
 obtain⟨p,f14,fg,Nh,HS⟩:=fI0
 have x1:=dm (a:=⟨192008001,st_a.next+1+1⟩) (b:=p) (by(try dsimp only);omega)
 have rF:=dw HS
 have hvn:st_a.next+1+1<st_f.next:=by omega
 have H5:=dw (i:=⟨192008001,st_a.next+1+1⟩) (n:=st_f.next) hvn
 have AW:=(mH L (bs.take j)).2
 rw[List.length_take]at AW
 by_cases hj:(j:Int)<(bs.length:Int)
 ·have qO:∀{e:Env} {gg:Rows} {nx:Nat},(e 15=.int .i64 (IntKind.i64.wrap ((j:Int)+1)))->(gg ⟨192008001,st_a.next+1+1⟩=some ⟨true,1,du (br L) cnt⟩)->(∃p:Id,e 14=.own p 0 (eW L (bs.take (j+1))).length/\gg p=some ⟨true,3,(eW L (bs.take (j+1))).map ay⟩/\st_c.next<=p.aZ/\p.aZ<nx)->∃m0,m0<(bs.length)-j/\∃j:Nat,m0=(bs.length)-j/\j<=(bs.length)/\e 15=.int .i64 (j:Int)/\gg ⟨192008001,st_a.next+1+1⟩=some ⟨true,1,du (br L) cnt⟩/\(∃p:Id,e 14=.own p 0 (eW L (bs.take j)).length/\gg p=some ⟨true,3,(eW L (bs.take j)).map ay⟩/\st_c.next<=p.aZ/\p.aZ<nx):=fun x1 x2 x3=>⟨_,by omega,j+1,rfl,by omega,(by rw[x1,ax (by omega)]),x2,x3⟩
  have nu:j<bs.length:=by omega
  have Ej:(bs.map ay)[j]? =some (ay bs[j]):=by simp[nu]
  have Lz:=hb _ (List.getElem_mem nu)
  have hs:=zx L (bs.take j) bs[j]
  rw[<-List.take_succ_eq_append_getElem nu]at hs
  generalize bs[j]=b at *
  have hA:=fc (f:=br L) Lz.1
  have hB:=fc (f:=br L) Lz.2
  have gn:(b.a:Int)<(cnt:Int):=by omega
  have fw:(b.b:Int)<(cnt:Int):=by omega
  have QW:=A9 (br L b.a) (br L b.b)
  have QX:=A8 (br L b.a) (br L b.b)
  rw[eN]at hA hB
  by_cases he:br L b.a=br L b.b
  ·rw[if_pos he,List.append_nil]at hs
   have tJ:decide ((br L b.a:Int)=(br L b.b:Int))=true:=decide_eq_true (by rw[he])
   (try((repeat(revert hN;revert N;apply Pn.out));refine wk (tw @f15 (tw @fg0 (tw @f1 (tw @f10 (tw @f11 (tw @f14 (tw @fg (tw @hj (tw @Ej (tw @hA (tw @hB (tw @gn (tw @fw (tw @tl (tw @tJ (tw @x1 (tw @rF @ay.eq_1))))))))))))))))) ?_;(repeat(refine Pn.mk ?_;intro N hN))))
   refine qO ?_ ?_ (⟨p,by rw[hs];simp only[go_sem, ↓reduceIte,Nat.reduceEqDiff,Nat.reduceAdd,Nat.reduceSub,Nat.reduceLeDiff,reduceCtorEq,f14],by rw[hs];simp only[go_sem, ↓reduceIte,Nat.reduceEqDiff,Nat.reduceAdd,Nat.reduceSub,Nat.reduceLeDiff,reduceCtorEq,fg],Nh,by(try dsimp only);omega⟩)
   all_goals simp only[go_sem, ↓reduceIte,Nat.reduceEqDiff,Nat.reduceAdd,Nat.reduceSub,Nat.reduceLeDiff,reduceCtorEq,f15,fg0,f1,f10,f11]
  ·rw[if_neg he]at hs
   have tJ:decide ((br L b.a:Int)=(br L b.b:Int))=false:=decide_eq_false fun h=>he (by omega)
   have e1:(eW L (bs.take j)).length+1<=16777216:=by omega
   have pS:((eW L (bs.take j)).map ay).length=(eW L (bs.take j)).length:=by simp
   (repeat(first|((repeat(revert hN;revert N;apply Pn.out));refine wk (tw @f15 (tw @fg0 (tw @f1 (tw @f10 (tw @f11 (tw @f14 (tw @fg (tw @hj (tw @Ej (tw @hA (tw @hB (tw @gn (tw @fw (tw @tl (tw @tJ (tw @x1 (tw @rF (tw @H5 (tw @e1 (tw @pS @ay.eq_1)))))))))))))))))))) ?_;(repeat(refine Pn.mk ?_;intro N hN)))|((try apply Or.inl);refine⟨_,ao.x (QW) (sd (tw @f15 (tw @fg0 (tw @f1 (tw @f10 (tw @f11 (tw @f14 (tw @fg (tw @hj (tw @Ej (tw @hA (tw @hB (tw @gn (tw @fw (tw @tl (tw @tJ (tw @x1 (tw @rF (tw @H5 (tw @e1 (tw @pS @ay.eq_1))))))))))))))))))))),?_⟩;refine hN _ _ ?_;clear hN N)|((try apply Or.inl);refine⟨_,ao.x (QX) (sd (tw @f15 (tw @fg0 (tw @f1 (tw @f10 (tw @f11 (tw @f14 (tw @fg (tw @hj (tw @Ej (tw @hA (tw @hB (tw @gn (tw @fw (tw @tl (tw @tJ (tw @x1 (tw @rF (tw @H5 (tw @e1 (tw @pS @ay.eq_1))))))))))))))))))))),?_⟩;refine hN _ _ ?_;clear hN N)))
   refine qO ?_ ?_ (⟨⟨192023014,st_f.next+1+1+1+1⟩,by rw[hs,List.length_append];simp only[go_sem, ↓reduceIte,Nat.reduceEqDiff,Nat.reduceAdd,Nat.reduceSub,Nat.reduceLeDiff,reduceCtorEq,List.length_cons,List.length_nil],by rw[hs,List.map_append,List.map_cons,List.map_nil];simp only[go_sem, ↓reduceIte,Nat.reduceEqDiff,Nat.reduceAdd,Nat.reduceSub,Nat.reduceLeDiff,reduceCtorEq,ay],by(try dsimp only);omega,by(try dsimp only);omega⟩)
   all_goals simp only[go_sem, ↓reduceIte,Nat.reduceEqDiff,Nat.reduceAdd,Nat.reduceSub,Nat.reduceLeDiff,reduceCtorEq,f15,fg0,f1,f10,f11,x1,H5]
 ·have gw:j=bs.length:=by omega
  subst gw
  rw[List.take_length]at f14 fg
  (try((repeat(revert hN;revert N;apply Pn.out));refine wk (tw @f15 (tw @fg0 (tw @f1 (tw @f10 (tw @f11 (tw @f14 (tw @hj @rT))))))) ?_;(repeat(refine Pn.mk ?_;intro N hN))))
  refine jk (.inl rfl) (r1:=.int .i64 ((leads cnt L).length:Int)) (sd @Nat.zero_add) (by simp only[go_sem, ↓reduceIte,Nat.reduceEqDiff,Nat.reduceAdd,Nat.reduceSub,Nat.reduceLeDiff,reduceCtorEq];rfl) ?_
  have h1:fY st_f.get 5 (.own p 0 (eW L bs).length)=some (.sl ((eW L bs).map ay)):=gu (sz:=3) fg rfl fun b=>tD _ 3 b
  simp only[dM,aP,bt,dC,h1,Option.map_some]
end Go.Proofs.YtgoelphibofcmaaGreat.V

namespace Go.Proofs.YtgoelphibofcmaaGreat.V
def DS (bs:List PB) (e v:Nat):Prop:=(bH bs e).a=v∨(bH bs e).b=v
def iL (bs:List PB) (m v:Nat):List Nat:=(List.range m).filter fun i=>(bH bs i).a==v||(bH bs i).b==v
theorem qI {bs:List PB} {m v e:Nat}:e∈iL bs m v↔e<m/\DS bs e v:=by simp[iL,DS]
theorem FF (bs:List PB) (m v:Nat):iL bs (m+1) v=iL bs m v++if (bH bs m).a=v∨(bH bs m).b=v then[m]else[]:=by
 unfold iL
 rw[List.range_succ,List.filter_append]
 congr 1
 by_cases h:(bH bs m).a=v<;>by_cases h2:(bH bs m).b=v<;>simp[h,h2]
theorem qH (bs:List PB) (m v:Nat):(iL bs m v).length<=m:=by
 have:=List.length_filter_le (fun i=>(bH bs i).a==v||(bH bs i).b==v) (List.range m)
 simpa[iL]using this
def mN (cnt:Nat) (bs:List PB):Prop:=∀e,e<bs.length->(bH bs e).a<cnt/\(bH bs e).b<cnt/\(bH bs e).a≠(bH bs e).b
theorem oi {cnt:Nat} {bs:List PB} (h:mN cnt bs) {e v:Nat} (he:e<bs.length):bw bs e v<cnt:=by
 have:=h e he;unfold bw;split;exact this.2.1;exact this.1
theorem Iv {cnt:Nat} {bs:List PB} (h:mN cnt bs) {e v:Nat} (he:e<bs.length) (hi:DS bs e v):bw bs e v≠v:=by
 have h1:=(h e he).2.2
 unfold bw
 split
 ·rename_i ha;rw[<-ha];exact fun h=>h1 h.symm
 ·rename_i ha;rcases hi with hi|hi
  ·exact absurd hi ha
  ·rw[<-hi];exact h1
theorem xX {bs:List PB} {e v:Nat}:DS bs e (bw bs e v):=by
 unfold bw DS;split
 ·exact .inr rfl
 ·exact .inl rfl
theorem oj {cnt:Nat} {bs:List PB} (h:mN cnt bs) {e v:Nat} (he:e<bs.length) (hi:DS bs e v):bw bs e (bw bs e v)=v:=by
 have h1:=(h e he).2.2
 unfold bw
 by_cases ha:(bH bs e).a=v
 ·rw[if_pos ha,if_neg h1];exact ha
 ·rw[if_neg ha,if_pos rfl]
  rcases hi with hi|hi
  ·exact absurd hi ha
  ·exact hi
structure yj (cnt:Nat) (bs:List PB) (f:Nat->Int) (y:Nat) (out:Nat->Int):Prop where
 lo:∀v,v<cnt->-1<=out v/\out v<=cnt
 first:out y=0
 zero:∀v,v<cnt->out v=0->v=y
 down:∀v,v<cnt->0<out v->∃e,e<bs.length/\DS bs e v/\0<fx bs f e v/\out (bw bs e v)=out v-1
 shut:∀e v,e<bs.length->DS bs e v->0<=out (bw bs e v)->0<fx bs f e v->0<=out v
structure zR (cnt:Nat) (bs:List PB) (f:Nat->Int) (y:Nat) (out:Nat->Int) (Q:List Nat) (i:Nat):Prop where
 nd:Q.Nodup
 lt:∀x∈Q,x<cnt
 iff:∀v,v<cnt->(0<=out v↔v∈Q)
 lo:∀v,v<cnt->-1<=out v
 first:out y=0
 up:∀j (h:j<Q.length),out Q[j]<=j
 zero:∀v,v<cnt->out v=0->v=y
 down:∀v,v<cnt->0<out v->∃e,e<bs.length/\DS bs e v/\0<fx bs f e v/\out (bw bs e v)=out v-1
 shut:∀j (h:j<Q.length),j<i->∀e,e<bs.length->DS bs e Q[j]->0<fx bs f e (bw bs e Q[j])->0<=out (bw bs e Q[j])
section
variable {cnt:Nat} {bs:List PB} {f:Nat->Int} {y:Nat} {out:Nat->Int} {Q:List Nat} {i:Nat}
theorem zR.start (hy:y<cnt):zR cnt bs f y (fun v=>if v=y then 0 else -1) [y] 0 where
 nd:=by simp
 lt:=fun x hx=>by rw[List.mem_singleton.1 hx];exact hy
 iff:=fun v _=>by
  by_cases h:v=y<;>simp[h]
 lo:=fun v _=>by split<;>omega
 first:=if_pos rfl
 up:=fun j h=>by
  have:j=0:=by simp at h;omega
  subst this;simp
 zero:=fun v _ h=>by
  by_cases hv:v=y
  ·exact hv
  ·rw[if_neg hv]at h;omega
 down:=fun v _ h=>by
  by_cases hv:v=y
  ·rw[if_pos hv]at h;omega
  ·rw[if_neg hv]at h;omega
 shut:=fun j h hj=>by omega
theorem zR.len (h:zR cnt bs f y out Q i):Q.length<=cnt:=oe cnt Q h.nd h.lt
theorem zR.visit (h:zR cnt bs f y out Q i) (ok:mN cnt bs) (hi:i<Q.length) {e:Nat} (he:e<bs.length) (pd:DS bs e Q[i]) (jQ:out (bw bs e Q[i])<0) (fV:0<fx bs f e (bw bs e Q[i])):
  zR cnt bs f y (fun v=>if v=bw bs e Q[i]then out Q[i]+1 else out v) (Q++[bw bs e Q[i]]) i:=by
 have LL:0<=out Q[i]:=(h.iff _ (h.lt _ (List.getElem_mem hi))).2 (List.getElem_mem hi)
 have hq:=oi ok (v:=Q[i]) he
 have fZ:=Iv ok he pd
 have Ro:=oj ok he pd
 have SS:bw bs e Q[i]∉Q:=fun hm=>by have:=(h.iff _ hq).2 hm;omega
 have AX:=h.up i hi
 generalize hw:bw bs e Q[i]=w at *
 have pg:∀v,0<=out v->(if v=w then out Q[i]+1 else out v)=out v:=fun v hv=>by
  rw[if_neg];rintro rfl;omega
 have mono:∀v,0<=out v->0<=(if v=w then out Q[i]+1 else out v):=fun v hv=>by rw[pg v hv];exact hv
 refine⟨?_,?_,?_,?_,?_,?_,?_,?_,?_⟩
 ·rw[List.nodup_append]
  exact⟨h.nd,by simp,fun a ha b hb=>by rw[List.mem_singleton.1 hb];rintro rfl;exact SS ha⟩
 ·intro x hx
  rcases List.mem_append.1 hx with hx|hx
  ·exact h.lt x hx
  ·rw[List.mem_singleton.1 hx];exact hq
 ·intro v hv
  by_cases GL:v=w
  ·subst GL;simp;omega
  ·rw[if_neg GL,h.iff v hv];simp[GL]
 ·intro v hv
  by_cases GL:v=w
  ·rw[if_pos GL];omega
  ·rw[if_neg GL];exact h.lo v hv
 ·rw[pg y (by rw[h.first];exact Int.le_refl _)];exact h.first
 ·intro j hj
  by_cases gw:j<Q.length
  ·rw[List.getElem_append_left gw,pg _ ((h.iff _ (h.lt _ (List.getElem_mem gw))).2 (List.getElem_mem gw))]
   exact h.up j gw
  ·have Kd:j=Q.length:=by simp at hj;omega
   subst Kd
   simp
   omega
 ·intro v hv h0
  by_cases GL:v=w
  ·rw[if_pos GL]at h0;omega
  ·rw[if_neg GL]at h0;exact h.zero v hv h0
 ·intro v hv h0
  by_cases GL:v=w
  ·subst GL
   rw[if_pos rfl]
   refine⟨e,he,by rw[<-hw];exact xX,fV,?_⟩
   rw[Ro,pg _ LL];omega
  ·rw[if_neg GL]at h0 ⊢
   obtain⟨e',h1,h2,h3,h4⟩:=h.down v hv h0
   exact⟨e',h1,h2,h3,by rw[pg _ (by omega)];exact h4⟩
 ·intro j hj l8 e' J7 LG hr
  have gw:j<Q.length:=by omega
  rw[List.getElem_append_left gw]at LG hr ⊢
  exact mono _ (h.shut j gw l8 e' J7 LG hr)
theorem zR.next (h:zR cnt bs f y out Q i) (hi:i<Q.length) (hs:∀e∈iL bs bs.length Q[i],0<fx bs f e (bw bs e Q[i])->0<=out (bw bs e Q[i])):zR cnt bs f y out Q (i+1):=
 ⟨h.nd,h.lt,h.iff,h.lo,h.first,h.up,h.zero,h.down,fun j hj l8 e he pd hr=>by
  by_cases Kd:j=i
  ·subst Kd;exact hs e (qI.2 ⟨he,pd⟩) hr
  ·exact h.shut j hj (by omega) e he pd hr⟩
theorem zR.done (h:zR cnt bs f y out Q i) (ok:mN cnt bs) (hi:Q.length<=i):yj cnt bs f y out where
 lo:=fun v hv=>⟨h.lo v hv,by
  by_cases h0:0<=out v
  ·obtain⟨j,hj,rfl⟩:=List.getElem_of_mem ((h.iff v hv).1 h0)
   have:=h.up j hj
   have:=h.len
   omega
  ·omega⟩
 first:=h.first
 zero:=h.zero
 down:=h.down
 shut:=fun e v he pd h0 hr=>by
  obtain⟨j,hj,OC⟩:=List.getElem_of_mem ((h.iff _ (oi ok he)).1 h0)
  have h2:=h.shut j hj (by omega) e he (by rw[OC];exact xX)
  rw[OC,oj ok he pd]at h2
  exact h2 hr
end
end Go.Proofs.YtgoelphibofcmaaGreat.V

namespace Go.Proofs.YtgoelphibofcmaaGreat.V
open Go.RowKit
def AV.clean:AV->Bool
 | .int .. | .bool _| .str _| .cj| .gj| .iM| .iX| .own .. | .ptr .. | .map .. | .qx _=>true
 | .sl l=>l.isEmpty
 |_=>false
def AV.yz:AV->Bool
 | .agg cs=>cs.all AV.clean
 | .gx cs=>cs.all fun a=>match a with
  | .agg cs=>cs.all AV.clean
  |a=>a.clean
 |a=>a.clean
def yd (ids:List Id) (g g':Rows):Rows:=fun id=>if id∈ids then g' id else g id
theorem wg {ids:List Id} {g g':Rows} {id:Id} (h:id∈ids):yd ids g g' id=g' id:=if_pos h
theorem oX {ids:List Id} {g g':Rows} {id:Id} (h:id∉ids):yd ids g g' id=g id:=if_neg h
section
variable {P:Program} {w w':World} {D D' D1 D2:Nat->Prop} {ι ι1 ι2:Names}
theorem jE {a:AV} {v:Value} (hp:a.clean=true) (h:cq P w D1 ι1 a v):cq P w D2 ι1 a v:=by
 cases h with
 |eF a v h=>
  cases h with
  |int=>exact .eF _ _ (.int _ _)
  |bool=>exact .eF _ _ (.bool _)
  |str=>exact .eF _ _ (.str _)
  |cj=>exact .eF _ _ .cj
  |gj=>exact .eF _ _ .gj
  |iM=>exact .eF _ _ .iM
  |iX=>exact .eF _ _ .iX
  |z8 a c h=>exact .eF _ _ (.z8 a c h)
  |sl rows b o n c sz vs h1 h2 h3=>
   have:rows=[]:=by simpa[AV.clean]using hp
   subst this
   simp only[List.length_nil]at h1
   subst h1
   exact .eF _ _ (.z8 _ _ h3)
  |cr=>simp[AV.clean]at hp
  |agg=>simp[AV.clean]at hp
  |fn=>simp[AV.clean]at hp
 |own id off len o cap B h1 h2 h3 h4 h5 h6=>exact .own id off len o cap B h1 h2 h3 h4 h5 h6
 |map id m B h1 h2=>exact .map id m B h1 h2
 |qx id c B h1 h2=>exact .qx id c B h1 h2
 |ptr id i off B h1 h2=>exact .ptr id i off B h1 h2
 |agg=>simp[AV.clean]at hp
 |gx=>simp[AV.clean]at hp
 |fn=>simp[AV.clean]at hp
 |sV=>simp[AV.clean]at hp
theorem lE {cs:List AV} {v:Value} (hc:cs.all AV.clean=true) (h:cq P w D1 ι1 (.agg cs) v):cq P w D2 ι1 (.agg cs) v:=by
 obtain⟨vs,f,rfl,h1,h2,h3,h4⟩:=iF h
 rw[List.all_eq_true]at hc
 exact .agg cs vs f h1 h2 h3 fun j a ha=>jE (hc a (List.mem_of_getElem? ha)) (h4 j a ha)
theorem Dk {a:AV} {v:Value} (hp:a.yz=true) (h:cq P w D1 ι1 a v):cq P w D2 ι1 a v:=by
 cases a with
 |agg cs=>exact lE hp h
 |gx cs=>
  obtain⟨vs,f,rfl,h1,h3,h4⟩:=tT h
  simp only[AV.yz,List.all_eq_true]at hp
  refine .gx cs vs f h1 h3 fun j a ha=>?_
  have:=hp a (List.mem_of_getElem? ha)
  split at this
  ·exact lE this (h4 j _ ha)
  ·exact jE this (h4 j _ ha)
 |_=>exact jE hp h
theorem Di {ag:Bool} {n:Nat} {cs:List AV} {x:AV} {v:Value} (hc:∀a∈cs,a.clean=true) (hp:part ag n cs=some x) (hr:cq P w D1 ι1 x v):cq P w D2 ι1 x v:=by
 unfold part at hp
 split at hp
 ·split at hp
  ·simp only[Option.some.injEq]at hp;subst hp
   exact lE (List.all_eq_true.2 fun a ha=>hc a (List.mem_of_mem_take ha)) hr
  ·cases hp
 ·exact jE (hc x (List.mem_of_mem_head? hp)) hr
theorem gq.clean {B:rz} {r:Row} (R:gq P w D1 ι1 B r) (h:∀cs∈r.rows,∀a∈cs,a.clean=true):gq P w D2 ι1 B r:=
 ⟨R.sz,R.flat,fun hk=>⟨R.sz,(R.row hk).wH,(R.row hk).fits,(R.row hk).len,R.flat,fun i j cs a hi hj=>by
  obtain⟨v,q1,q2⟩:=(R.row hk).at_ i j cs a hi hj
  exact⟨v,q1,jE (h cs (List.mem_of_getElem? hi) a (List.mem_of_getElem? hj)) q2⟩⟩,fun m hm=>by
  obtain⟨h1,es,c,h2,h3,h5,h4⟩:=R.map m hm
  refine⟨h1,es,c,h2,h3,h5,fun i cs hi=>?_⟩
  obtain⟨e,kv,vv,q1,q2,q3,q4,q5⟩:=h4 i cs hi
  have hc:=h cs (List.mem_of_getElem? hi)
  exact⟨e,kv,vv,q1,q2,q3,Di hc q2 q4,jE (hc vv (List.mem_of_getElem? q3)) q5⟩,fun c hc=>by
  obtain⟨h1,buf,s,q,h2,h3,h4⟩:=R.chan c hc
  refine⟨h1,buf,s,q,h2,h3,fun i cs hi=>?_⟩
  obtain⟨a,u,rfl,q2,q3⟩:=h4 i cs hi
  exact⟨a,u,rfl,q2,jE (h [a] (List.mem_of_getElem? hi) a (by simp)) q3⟩⟩
def Handed (ids:List Id) (g:Rows):Prop:=∀id∈ids,∃r,g id=some r/\r.w=true/\∀cs∈r.rows,∀a∈cs,a.clean=true
theorem Gv {f:Nat} {args args':List AV} {g:Rows} {n:Nat} {K:AV->ar->Prop} (hv:cG (dQ g) 6 args=some args')
  (h:Sound P f args' ⟨fun _=>none,n⟩ fun r σ'=>∃ids,r.yz=true/\Handed ids σ'.get/\K r ⟨yd ids g σ'.get,σ'.next⟩):Sound P f args ⟨g,n⟩ K:=by
 intro hs D ι w vs S U A
 let E:Nat->Prop:=fun b=>D b∨∃id r B,g id=some r/\ι id=some B/\b=B.b
 have lt:∀id r B,g id=some r->ι id=some B->B.b<w.heap.size:=fun id r B h1 h2=>by
  obtain⟨B',dr,R,_⟩:=S.row id r h1
  rw[h2]at dr;injection dr with dr;subst dr
  exact R.lt
 have S0:fU P w.heap.size E ι (fun _=>none) w:=⟨Nat.le_refl _,fun b hb=>by
  rcases hb with hb|⟨id,r,B,h1,h2,rfl⟩
  ·exact S.dead b hb
  ·exact lt id r B h1 h2,fun id r h=>(by cases h),fun id jJ r r' B B' h=>(by cases h)⟩
 obtain⟨l1,l2⟩:=gi hv
 have A':fh P w E ι args' vs:=⟨by rw[A.1,l1],fun j a hj=>by
  obtain⟨a0,kV,hz⟩:=l2 j a hj
  obtain⟨u,hu,hr⟩:=A.2 j a0 kV
  refine⟨u,hu,(qC (D2:=E) (ι2:=ι) (fun b h=>.inl h) (fun id row hg hw=>?_) 6 a0 u a hr hz).1⟩
  unfold dQ at hg
  simp only[Option.map_eq_some_iff]at hg
  obtain⟨r,nB,rfl⟩:=hg
  obtain⟨B,hB,R,_,_⟩:=S.row id r nB
  exact⟨B,hB,R.flag true,.inr ⟨id,r,B,nB,hB,rfl⟩⟩⟩
 refine(h w.heap.size E ι w vs S0 U A').mono ?_
 rintro e w' ⟨r0,g',n',D2,ι1,u,rfl,⟨ids,nX,hid,hK⟩,T,S1,U1,hn,hR⟩
 have hb:∀b,b<w.heap.size->w'.heap[b]? =w.heap[b]? :=T.below.block
 have hz:=T.below.size
 have frame:∀{a v},cq P w D ι a v->cq P w' D ι1 a v:=fun h=>h.frame (fun b hd=>hb b (S.dead b hd)) (fun _ h=>h) T.names
 refine⟨r0,_,n',D,ι1,u,rfl,hK,⟨T.below.mono S.lo,fun b hd=>hb b (S.dead b hd),fun _ h=>h,T.names,fun _ h=>.inl h⟩,⟨Nat.le_trans S.lo hz,fun b hd=>Nat.lt_of_lt_of_le (S.dead b hd) hz,fun id r hr=>?_,fun Qc id2 r1 r2 B1 B2 h1 h2 hw zW pc Ly=>?_⟩,U1,hn,Dk nX hR⟩
 ·by_cases hi:id∈ids
  ·rw[wg hi]at hr
   obtain⟨r',nB,hw,hcr⟩:=hid id hi
   rw[hr]at nB;injection nB with nB;subst nB
   obtain⟨B,hB,R,k1,k2⟩:=S1.row id r hr
   have jA:=k1 hw
   exact⟨B,hB,R.clean hcr,fun _=>Nat.le_trans S.lo jA,fun _ hd=>Nat.lt_irrefl _ (Nat.lt_of_lt_of_le (S.dead _ hd) jA)⟩
  ·rw[oX hi]at hr
   obtain⟨B,hB,R,k1,k2⟩:=S.row id r hr
   have QS:=lt id r B hr hB
   exact⟨B,T.names _ _ hB,R.frame (hb _ QS) fun a v h=>frame h,k1,k2⟩
 ·have new:∀{id r B},id∈ids->yd ids g g' id=some r->ι1 id=some B->w.heap.size<=B.b/\g' id=some r/\r.w=true:=fun {id r B} hi hr hB=>by
   rw[wg hi]at hr
   obtain⟨r',nB,hw,_⟩:=hid id hi
   replace nB:g' id=some r':=nB
   rw[hr]at nB;injection nB with nB;subst nB
   obtain⟨B',dr,_,k1,_⟩:=S1.row id r hr
   rw[hB]at dr;injection dr with dr;subst dr
   exact⟨k1 hw,hr,hw⟩
  have xV:∀{id r B},id∉ids->yd ids g g' id=some r->ι1 id=some B->B.b<w.heap.size/\g id=some r/\ι id=some B:=fun {id r B} hi hr hB=>by
   rw[oX hi]at hr
   obtain⟨B',dr,_⟩:=S.row id r hr
   have:=T.names _ _ dr
   rw[hB]at this;injection this with this;subst this
   exact⟨lt id r _ hr dr,hr,dr⟩
  by_cases i1:Qc∈ids
  ·obtain⟨a1,a2,a3⟩:=new i1 h1 zW
   by_cases i2:id2∈ids
   ·obtain⟨b1,b2,b3⟩:=new i2 h2 pc
    exact S1.inj Qc id2 r1 r2 B1 B2 a2 b2 hw zW pc Ly
   ·obtain⟨b1,_⟩:=xV i2 h2 pc
    omega
  ·obtain⟨a1,a2,a3⟩:=xV i1 h1 zW
   by_cases i2:id2∈ids
   ·obtain⟨b1,_⟩:=new i2 h2 pc
    omega
   ·obtain⟨b1,b2,b3⟩:=xV i2 h2 pc
    exact S.inj Qc id2 r1 r2 B1 B2 a2 b2 hw a3 b3 Ly
theorem GR (hm:P.follows .mixedOrders=true) {f:Nat} {args args':List AV} {σ:ar} {K:AV->ar->Prop} (hv:cG (dQ σ.get) 6 args=some args')
  (h:Call P f args' ⟨fun _=>none,σ.next⟩ fun r σ'=>∃ids,r.yz=true/\Handed ids σ'.get/\K r ⟨yd ids σ.get σ'.get,σ'.next⟩):Call P f args σ K:=
 gz (Gv hv (fR hm h))
end
end Go.Proofs.YtgoelphibofcmaaGreat.V

namespace Go.Proofs.YtgoelphibofcmaaGreat.V
open Go.RowKit
attribute [local irreducible] dD wpOps gI Call
attribute [local go_sem] aK fW eU gE gy cE upd ck K.av cN AV.cells AV.cell rowOf rowsOf part ld rowAt bB bY dO ev iI bK db eI gr e8 dx eB cZ cY ea ec bQ aY cQ bP cU cR ez eC eA cP bV da ew bL aL cW cF iH bz cK bR aU dh aT dP AV.undef bF bG eh eu dX dY cI eH eK cD eE eD cV cX List.getD_cons_zero List.getD_cons_succ List.getD_nil List.all_cons List.all_nil Bool.and_true Bool.true_and Bool.and_self Bool.not_true Bool.not_false Option.map_some Option.map_none Option.bind_some Option.bind_none List.length_cons List.length_nil List.take_succ_cons List.take_zero List.take_nil List.drop_succ_cons List.drop_zero List.drop_nil List.head?_cons List.map_cons List.map_nil List.getElem?_cons_zero List.getElem?_cons_succ List.cons_append List.nil_append List.append_nil List.length_map List.set_cons_zero List.set_cons_succ Nat.reduceMul eq_self Int.toNat_natCast Int.natCast_nonneg and_self true_and and_true decide_true decide_false Bool.false_eq_true Nat.zero_add Nat.add_zero List.contains_cons List.contains_nil Bool.or_false Bool.false_or beq_self_eq_true Nat.reduceBEq ne_eq not_true_eq_false not_false_eq_true Id.mk.injEq false_and and_false Nat.reduceLT Int.reduceLE Int.reduceLT Int.reduceToNat Int.reduceNeg Int.reduceAdd Nat.le_refl List.length_append beq_true beq_false Bool.not_eq_eq_eq_not or_false false_or dQ aj aq aH bd bE cm aW bc aN bf cL bU
def lI (P:Program) (f:Nat) (args:List AV) (R:AV->Prop):Prop:=∀n:Nat,Call P f args ⟨fun _=>none,n⟩ fun r0 σ'=>∃r',fY σ'.get 6 r0=some r'/\R r'
theorem ao.r {P:Program} {f:Nat} {args:List AV} {r:AV} (h:ao P f args r):lI P f args (fun r'=>r'=r):=h
theorem Fo {P:Program} {f:Nat} {args args':List AV} {g:Rows} {n:Nat} {R:AV->Prop} (hv:cG (dQ g) 6 args=some args') (h:Sound P f args' ⟨fun _=>none,n⟩ fun r0 σ'=>∃r',fY σ'.get 6 r0=some r'/\R r'):Sound P f args ⟨g,n⟩ fun r σ'=>R r/\σ'=⟨g,n⟩:=by
 intro hs D ι w vs S U A
 refine(xc (g0:=g) (K:=R) ⟨args',hv,h⟩ (fun _ _ h=>h) S U A).mono ?_
 rintro e w' ⟨r,D',u,rfl,hR,T,S',hr⟩
 exact⟨r,g,n,D',ι,u,rfl,⟨hR,rfl⟩,T,S',U,Nat.le_refl _,hr⟩
theorem lI.x {P:Program} (hm:P.follows .mixedOrders=true) {f:Nat} {args args':List AV} {R:AV->Prop} (h:lI P f args' R) {σ:ar} (hv:cG (dQ σ.get) 6 args=some args'):Call P f args σ fun r σ'=>R r/\σ'=σ:=
 gz (Fo hv (fR hm (h σ.next)))
theorem lI.body {P:Program} {f:Nat} {args:List AV} {R:AV->Prop} {nt na:Nat} {body:VC} {res:List ni} (hf:ns P f=some ⟨nt,na,body,res⟩) (ha:na=args.length) (h:(∀a∈args,dZ a)->∀n:Nat,dD (Call P) body (kb res fun r0 σ'=>∃r',fY σ'.get 6 r0=some r'/\R r') (ck args) ⟨fun _=>none,n⟩):lI P f args R:=fun n=>lJ hf ha fun hl=>h hl n
def dG (f:Nat->Int) (n:Nat):List (List AV):=(List.range n).map fun i=>bq (f i)
theorem dt (f:Nat->Int) (n:Nat):(dG f n).length=n:=by simp[dG]
theorem dB {f:Nat->Int} {n i:Nat} (h:i<n):(dG f n)[i]? =some (bq (f i)):=by simp[dG,h]
theorem kO {f g:Nat->Int} {n k:Nat} {v:Int} (hk:k<n) (hv:g k=v) (h:∀i,i<n->i≠k->g i=f i):(dG f n).set k (bq v)=dG g n:=by
 refine List.ext_getElem? fun i=>?_
 rw[List.getElem?_set]
 by_cases hi:k=i
 ·subst hi
  rw[if_pos rfl,dt,if_pos hk,dB hk,hv]
 ·rw[if_neg hi]
  by_cases fB:i<n
  ·rw[dB fB,dB fB,h i fB (fun h=>hi h.symm)]
  ·rw[List.getElem?_eq_none (by rw[dt];omega),List.getElem?_eq_none (by rw[dt];omega)]
theorem Gl (f:Nat->Int) (n:Nat):dG f (n+1)=dG f n++[bq (f n)]:=by simp[dG,List.range_succ]
theorem fzI (g:Rows) (n:Nat) (a:Int):cG g (n+1) (bq a)=some (bq a):=by simp[bq,aj,aq,aH]
theorem RZ (g:Rows) (n:Nat) (a:Int):dS g (n+1) (bq a)=some (bq a):=by simp[bq,aP,bt,dC]
theorem I4 {g:Rows} {f:Nat->Int} {n m:Nat}:gR g (m+1) (dG f n)=some (dG f n):=by
 have:dG f n=((List.range n).map f).map bq:=by simp[dG]
 rw[this];exact sM fun x=>RZ g m x
theorem zF {g:Rows} {f:Nat->Int} {n m:Nat}:dK g (m+1) (dG f n)=some (dG f n):=by
 have:dG f n=((List.range n).map f).map bq:=by simp[dG]
 rw[this];exact ml fun x=>fzI g m x
def NR (l:List Nat):AV:=if l=[]then .cj else .sl (l.map eN)
def pD (cnt:Nat) (bs:List PB) (m:Nat):List (List AV):=(List.range cnt).map fun v=>[NR (iL bs m v)]
theorem Cd {cnt:Nat} {bs:List PB} {m v:Nat} (h:v<cnt):(pD cnt bs m)[v]? =some [NR (iL bs m v)]:=by simp[pD,h]
def fF (cnt:Nat) (bs:List PB) (f:Nat->Int):List AV:=[.int .i64 cnt,.sl (bs.map ay),.sl (pD cnt bs bs.length),.sl (dG f bs.length)]
theorem tz {bs:List PB} {e:Nat} (h:e<bs.length):(bs.map ay)[e]? =some (ay (bH bs e)):=getD_map ay h
def Small (bs:List PB) (f:Nat->Int):Prop:=∀e,e<bs.length->(0<=(bH bs e).s/\(bH bs e).s<=4)/\-4<=f e/\f e<=4
theorem IK (cnt:Nat) (bs:List PB) (f:Nat->Int) (hs:Small bs f) (e v:Nat) (he:e<bs.length):ao Tryz.prog 260 [.cr (fF cnt bs f),.int .i64 v,.int .i64 e] (.gx [.int .i64 (fx bs f e v),.int .i64 (bw bs e v)]):=by
 refine ao.body eG rfl fun hl n0=>?_
 clear hl
 have hb:=tz he
 have hf:=dB (f:=f) he
 obtain⟨⟨s0,s1⟩,s2,s3⟩:=hs e he
 have w1:IntKind.i64.wrap ((bH bs e).s-f e)=(bH bs e).s-f e:=bp (by omega)
 have w2:IntKind.i64.wrap ((bH bs e).s+f e)=(bH bs e).s+f e:=bp (by omega)
 unfold fx bw
 generalize bH bs e=b at *
 by_cases h:b.a=v
 ·have hd:decide ((b.a:Int)=(v:Int))=true:=decide_eq_true (by rw[h])
  (try((repeat(revert hN;revert N;apply Pn.out));refine wk (tw @fF.eq_1 (tw @hb (tw @hf (tw @ay.eq_1 (tw @bq.eq_1 (tw @hd (tw @w1 @w2))))))) ?_;(repeat(refine Pn.mk ?_;intro N hN))))
  refine jk (.inl rfl) (by simp only[go_sem, ↓reduceIte,Nat.reduceEqDiff,Nat.reduceAdd,Nat.reduceSub,Nat.reduceLeDiff,reduceCtorEq];rfl) (by simp only[go_sem, ↓reduceIte,Nat.reduceEqDiff,Nat.reduceAdd,Nat.reduceSub,Nat.reduceLeDiff,reduceCtorEq];rfl) ?_
  simp only[dM,aP,bt,dC,Option.map_some,if_pos h]
 ·have hd:decide ((b.a:Int)=(v:Int))=false:=decide_eq_false fun hc=>h (by omega)
  (try((repeat(revert hN;revert N;apply Pn.out));refine wk (tw @fF.eq_1 (tw @hb (tw @hf (tw @ay.eq_1 (tw @bq.eq_1 (tw @hd (tw @w1 @w2))))))) ?_;(repeat(refine Pn.mk ?_;intro N hN))))
  refine jk (.inl rfl) (by simp only[go_sem, ↓reduceIte,Nat.reduceEqDiff,Nat.reduceAdd,Nat.reduceSub,Nat.reduceLeDiff,reduceCtorEq];rfl) (by simp only[go_sem, ↓reduceIte,Nat.reduceEqDiff,Nat.reduceAdd,Nat.reduceSub,Nat.reduceLeDiff,reduceCtorEq];rfl) ?_
  simp only[dM,aP,bt,dC,Option.map_some,if_neg h]
theorem EI (cnt:Nat) (hn:cnt<=1048576) (bs:List PB) (ok:mN cnt bs) (mo:bs.length<=1048576) (f:Nat->Int) (hs:Small bs f) (y:Nat) (hy:y<cnt):
  lI Tryz.prog 239 [.cr (fF cnt bs f),.int .i64 y] fun r=>∃out,r=.sl (dG out cnt)/\yj cnt bs f y out:=by
 refine lI.body eG rfl fun hl n0=>?_
 clear hl
 (try((repeat(revert hN;revert N;apply Pn.out));refine wk @fF.eq_1 ?_;(repeat(refine Pn.mk ?_;intro N hN))))
 refine aJ (fun n env st=>∃k:Nat,n=(cnt)-k/\k<=(cnt)/\env 6=.int .i64 (k:Int)/\(∃o:Id,env 5=.own o 0 k/\st.get o=some ⟨true,1,dG (fun _=>-1) k⟩/\o.aZ<st.next)) (cnt) ⟨0,by omega,by omega,sl @fF.eq_1,⟨⟨239001000,n0+1⟩,by(simp only[go_sem, ↓reduceIte,Nat.reduceEqDiff,Nat.reduceAdd,Nat.reduceSub,Nat.reduceLeDiff,reduceCtorEq])<;>rfl,by(simp only[go_sem, ↓reduceIte,Nat.reduceEqDiff,Nat.reduceAdd,Nat.reduceSub,Nat.reduceLeDiff,reduceCtorEq])<;>rfl,by(try dsimp only);omega⟩⟩ ?_
 rintro n_a env_a st_a ⟨k,rfl,ale,a6,nj⟩ dv
 have a0:=dv 0 (by kernel_rfl);have a1:=dv 1 (by kernel_rfl)
 simp only[go_sem, ↓reduceIte,Nat.reduceEqDiff,Nat.reduceAdd,Nat.reduceSub,Nat.reduceLeDiff,reduceCtorEq,fF]at a0 a1
 clear dv
 obtain⟨o,a5,ag,lQ⟩:=nj
 have tl:=dt (fun _=>-1) k
 have pU:=dw lQ
 by_cases hk:(k:Int)<(cnt:Int)
 ·have cw:∀{e:Env} {gg:Rows} {nx:Nat},(e 6=.int .i64 (IntKind.i64.wrap ((k:Int)+1)))->(∃o:Id,e 5=.own o 0 (k+1)/\gg o=some ⟨true,1,dG (fun _=>-1) (k+1)⟩/\o.aZ<nx)->∃m0,m0<(cnt)-k/\∃k:Nat,m0=(cnt)-k/\k<=(cnt)/\e 6=.int .i64 (k:Int)/\(∃o:Id,e 5=.own o 0 k/\gg o=some ⟨true,1,dG (fun _=>-1) k⟩/\o.aZ<nx):=fun x1 x2=>⟨_,by omega,k+1,rfl,by omega,(by rw[x1,ax (by omega)]),x2⟩
  have e1:k+1<=16777216:=by omega
  have pf:dG (fun _=>-1) k++[[.int .i64 (-1)]]=dG (fun _=>-1) (k+1):=(Gl _ _).symm
  (try((repeat(revert hN;revert N;apply Pn.out));refine wk (tw @a6 (tw @a0 (tw @a1 (tw @a5 (tw @ag (tw @pU (tw @hk (tw @tl (tw @e1 (tw @pf @fF.eq_1)))))))))) ?_;(repeat(refine Pn.mk ?_;intro N hN))))
  exact cw (sd (tw @a6 (tw @a0 (tw @a1 @fF.eq_1)))) (⟨⟨239005002,st_a.next+1⟩,sd @Nat.zero_add,sd @pf,by(try dsimp only);omega⟩)
 have kW:k=cnt:=by omega
 subst kW
 have Ry:(y:Int)<(k:Int):=by omega
 have hym:=dB (f:=fun _=>-1) hy
 have AS:(dG (fun _=>-1) k).set y (bq 0)=dG (fun v=>if v=y then 0 else -1) k:=kO hy (if_pos rfl) fun i _ hi=>if_neg hi
 rw[bq]at AS hym
 (try((repeat(revert hN;revert N;apply Pn.out));refine wk (tw @a6 (tw @a0 (tw @a1 (tw @a5 (tw @ag (tw @pU (tw @hk (tw @tl (tw @Ry (tw @hym (tw @AS @fF.eq_1))))))))))) ?_;(repeat(refine Pn.mk ?_;intro N hN))))
 refine aJ (fun m env st=>∃(i:Nat) (out:Nat->Int) (Q:List Nat) (p:Id),m=k-i/\env 8=.int .i64 (i:Int)/\env 7=.own p 0 Q.length/\st.get p=some ⟨true,1,Q.map eN⟩/\st.get o=some ⟨true,1,dG out k⟩/\o.aZ<p.aZ/\p.aZ<st.next/\zR k bs f y out Q i/\i<=Q.length) k ⟨0,_,[y],⟨239007001,st_a.next+1+1⟩,by omega,by(simp only[go_sem, ↓reduceIte,Nat.reduceEqDiff,Nat.reduceAdd,Nat.reduceSub,Nat.reduceLeDiff,reduceCtorEq])<;>rfl,by(simp only[go_sem, ↓reduceIte,Nat.reduceEqDiff,Nat.reduceAdd,Nat.reduceSub,Nat.reduceLeDiff,reduceCtorEq])<;>rfl,by(simp only[go_sem, ↓reduceIte,Nat.reduceEqDiff,Nat.reduceAdd,Nat.reduceSub,Nat.reduceLeDiff,reduceCtorEq])<;>rfl,sd @pU,by(try dsimp only);omega,by(try dsimp only);omega,zR.start hy,by simp⟩ ?_
 rintro n env_b st_b ⟨i,out,Q,p,rfl,b8,b7,bgp,bgo,dL,hpn,hB,hiq⟩ ej
 have b0:=ej 0 (by kernel_rfl)
 have b5:=ej 5 (by kernel_rfl)
 simp only[go_sem, ↓reduceIte,Nat.reduceEqDiff,Nat.reduceAdd,Nat.reduceSub,Nat.reduceLeDiff,reduceCtorEq,a6,a0,a1,a5,fF]at b0 b5
 clear ej
 have S6:=hB.len
 have RD:=dt out k
 have hqm:(Q.map eN).length=Q.length:=by simp
 have rF:=dw hpn
 have iY:=dw (i:=o) (n:=st_b.next) (by omega)
 by_cases hi:(i:Int)<(Q.length:Int)
 ·have fB:i<Q.length:=by omega
  have jZ:(Q.map eN)[i]? =some (eN Q[i]):=by simp[fB]
  have LL:=hB.lt _ (List.getElem_mem fB)
  obtain⟨vt,Nt⟩:∃vt,vt=Q[i]:=⟨_,rfl⟩
  rw[<-Nt]at jZ LL
  have hA:=Cd (cnt:=k) (bs:=bs) (m:=bs.length) LL
  have Kn:(vt:Int)<(k:Int):=by omega
  have ly:=qH bs bs.length vt
  have hme:∀x,x<(iL bs bs.length vt).length->(iL bs bs.length vt).getD x 0<bs.length/\DS bs ((iL bs bs.length vt).getD x 0) vt:=fun x hx=>by
   rw[List.getD_eq_getElem?_getD,List.getElem?_eq_getElem hx]
   exact qI.1 (List.getElem_mem hx)
  have PS:∀e∈iL bs bs.length vt,∃x,x<(iL bs bs.length vt).length/\(iL bs bs.length vt).getD x 0=e:=fun e he=>by
   obtain⟨x,hx,rfl⟩:=List.getElem_of_mem he
   exact⟨x,hx,by rw[List.getD_eq_getElem?_getD,List.getElem?_eq_getElem hx];rfl⟩
  generalize hIn:iL bs bs.length vt=I at *
  unfold NR at hA
  by_cases Sh:I=[]
  ·rw[if_pos Sh]at hA
   have hI1:I.length=0:=by rw[Sh];rfl
   (try((repeat(revert hN;revert N;apply Pn.out));refine wk (tw @b0 (tw @b5 (tw @b7 (tw @b8 (tw @bgp (tw @hi (tw @jZ (tw @hqm (tw @eN.eq_1 @fF.eq_1))))))))) ?_;(repeat(refine Pn.mk ?_;intro N hN))))
   refine aJ (fun n env st=>∃x:Nat,n=(I.length)-x/\x<=(I.length)/\env 10=.int .i64 (x:Int)/\(∃(iD:Nat->Int) (Q':List Nat) (p':Id),env 7=.own p' 0 Q'.length/\st.get p'=some ⟨true,1,Q'.map eN⟩/\st.get o=some ⟨true,1,dG iD k⟩/\o.aZ<p'.aZ/\p'.aZ<st.next/\zR k bs f y iD Q' i/\(∃h:i<Q'.length,Q'[i]=vt)/\(∀z,z<x->0<fx bs f (I.getD z 0) (bw bs (I.getD z 0) vt)->0<=iD (bw bs (I.getD z 0) vt)))) (I.length) ⟨0,by omega,by omega,sl (tw @b0 (tw @b5 (tw @b8 @fF.eq_1))),⟨out,Q,p,sd @b7,sd @bgp,sd @bgo,dL,by(try dsimp only);omega,hB,⟨fB,Nt.symm⟩,fun z hz=>by omega⟩⟩ ?_
   rintro n_c env_c st_c ⟨x,rfl,cle,jn,cI0⟩ cfr
   have c0:=cfr 0 (by kernel_rfl);have c5:=cfr 5 (by kernel_rfl);have c8:=cfr 8 (by kernel_rfl);have c9:=cfr 9 (by kernel_rfl)
   simp only[go_sem, ↓reduceIte,Nat.reduceEqDiff,Nat.reduceAdd,Nat.reduceSub,Nat.reduceLeDiff,reduceCtorEq,b0,b5,b8,fF]at c0 c5 c8 c9
   clear cfr
   obtain⟨iD,Q',p',c7,Hk,xp,CT,Ni,dr,⟨wQ,pT⟩,JE⟩:=cI0
   have S7:=dr.len
   have NW:=dt iD k
   have Nj:(Q'.map eN).length=Q'.length:=by simp
   have yV:=dw Ni
   have lS:=dw (i:=o) (n:=st_c.next) (by omega)
   have x1:=dm CT
   have hx:¬(x:Int)<((0:Nat):Int):=by omega
   have hxe:x=I.length:=by omega
   have hw:IntKind.i64.wrap ((i:Int)+1)=((i+1:Nat):Int):=ax (by omega)
   (try((repeat(revert hN;revert N;apply Pn.out));refine wk (tw @jn (tw @c0 (tw @c5 (tw @c8 (tw @c9 (tw @c7 (tw @hx (tw @hA (tw @Kn @fF.eq_1))))))))) ?_;(repeat(refine Pn.mk ?_;intro N hN))))
   refine⟨_,?_,i+1,iD,Q',p',rfl,sd (tw @jn (tw @c0 (tw @c5 (tw @c8 (tw @c9 @hw))))),sd @c7,sd @Hk,sd @xp,CT,by(try dsimp only);omega,dr.next wQ fun e he hr=>?_,by omega⟩
   ·omega
   ·rw[pT,hIn]at he
    rw[pT]at hr ⊢
    obtain⟨z,hz,rfl⟩:=PS e he
    exact JE z (by omega) hr
  ·rw[if_neg Sh]at hA
   have pR:(I.map eN).length=I.length:=by simp
   (try((repeat(revert hN;revert N;apply Pn.out));refine wk (tw @b0 (tw @b5 (tw @b7 (tw @b8 (tw @bgp (tw @hi (tw @jZ (tw @hqm (tw @eN.eq_1 @fF.eq_1))))))))) ?_;(repeat(refine Pn.mk ?_;intro N hN))))
   refine aJ (fun n env st=>∃x:Nat,n=(I.length)-x/\x<=(I.length)/\env 10=.int .i64 (x:Int)/\(∃(iD:Nat->Int) (Q':List Nat) (p':Id),env 7=.own p' 0 Q'.length/\st.get p'=some ⟨true,1,Q'.map eN⟩/\st.get o=some ⟨true,1,dG iD k⟩/\o.aZ<p'.aZ/\p'.aZ<st.next/\zR k bs f y iD Q' i/\(∃h:i<Q'.length,Q'[i]=vt)/\(∀z,z<x->0<fx bs f (I.getD z 0) (bw bs (I.getD z 0) vt)->0<=iD (bw bs (I.getD z 0) vt)))) (I.length) ⟨0,by omega,by omega,sl (tw @b0 (tw @b5 (tw @b8 @fF.eq_1))),⟨out,Q,p,sd @b7,sd @bgp,sd @bgo,dL,by(try dsimp only);omega,hB,⟨fB,Nt.symm⟩,fun z hz=>by omega⟩⟩ ?_
   rintro n_c env_c st_c ⟨x,rfl,cle,jn,cI0⟩ cfr
   have c0:=cfr 0 (by kernel_rfl);have c5:=cfr 5 (by kernel_rfl);have c8:=cfr 8 (by kernel_rfl);have c9:=cfr 9 (by kernel_rfl)
   simp only[go_sem, ↓reduceIte,Nat.reduceEqDiff,Nat.reduceAdd,Nat.reduceSub,Nat.reduceLeDiff,reduceCtorEq,b0,b5,b8,fF]at c0 c5 c8 c9
   clear cfr
   obtain⟨iD,Q',p',c7,Hk,xp,CT,Ni,dr,⟨wQ,pT⟩,JE⟩:=cI0
   have S7:=dr.len
   have NW:=dt iD k
   have Nj:(Q'.map eN).length=Q'.length:=by simp
   have yV:=dw Ni
   have lS:=dw (i:=o) (n:=st_c.next) (by omega)
   have x1:=dm CT
   by_cases hx:(x:Int)<(I.length:Int)
   ·have gU:∀{e:Env} {gg:Rows} {nx:Nat},(e 10=.int .i64 (IntKind.i64.wrap ((x:Int)+1)))->(∃(iD:Nat->Int) (Q':List Nat) (p':Id),e 7=.own p' 0 Q'.length/\gg p'=some ⟨true,1,Q'.map eN⟩/\gg o=some ⟨true,1,dG iD k⟩/\o.aZ<p'.aZ/\p'.aZ<nx/\zR k bs f y iD Q' i/\(∃h:i<Q'.length,Q'[i]=vt)/\(∀z,z<(x+1)->0<fx bs f (I.getD z 0) (bw bs (I.getD z 0) vt)->0<=iD (bw bs (I.getD z 0) vt)))->∃m0,m0<(I.length)-x/\∃x:Nat,m0=(I.length)-x/\x<=(I.length)/\e 10=.int .i64 (x:Int)/\(∃(iD:Nat->Int) (Q':List Nat) (p':Id),e 7=.own p' 0 Q'.length/\gg p'=some ⟨true,1,Q'.map eN⟩/\gg o=some ⟨true,1,dG iD k⟩/\o.aZ<p'.aZ/\p'.aZ<nx/\zR k bs f y iD Q' i/\(∃h:i<Q'.length,Q'[i]=vt)/\(∀z,z<x->0<fx bs f (I.getD z 0) (bw bs (I.getD z 0) vt)->0<=iD (bw bs (I.getD z 0) vt))):=fun x1 x2=>⟨_,by omega,x+1,rfl,by omega,(by rw[x1,ax (by omega)]),x2⟩
    have OT:x<I.length:=by omega
    have MG:(I.map eN)[x]? =some (eN (I.getD x 0)):=getD_map eN OT
    obtain⟨he,pd⟩:=hme x OT
    obtain⟨e,Q8⟩:∃e,e=I.getD x 0:=⟨_,rfl⟩
    rw[<-Q8]at MG he pd
    have iC:=tz he
    have hq:=oi ok (v:=vt) he
    have Ro:=oj ok he pd
    have Nl:=IK k bs f hs e (bw bs e vt) he
    have PE:=ok e he
    have rW:IntKind.i64.wrap (((bH bs e).a:Int)+((bH bs e).b:Int))=((bH bs e).a:Int)+((bH bs e).b:Int):=bp (by omega)
    have tn:IntKind.i64.wrap (((bH bs e).a:Int)+((bH bs e).b:Int)-(vt:Int))=(bw bs e vt:Int):=by
     rw[bp (by omega)]
     unfold bw
     rcases pd with h1|h1
     ·rw[if_pos h1];omega
     ·rw[if_neg fun h2=>PE.2.2 (h2.trans h1.symm)];omega
    have OK:(bw bs e vt:Int)<(k:Int):=by omega
    have M5:=dB (f:=iD) hq
    have Ka:=dB (f:=iD) LL
    rw[fF]at Nl
    have AX:=dr.up i wQ
    rw[pT]at AX
    have jA:=dr.lo vt LL
    have hw3:IntKind.i64.wrap (iD vt+1)=iD vt+1:=bp (by omega)
    rw[bq]at M5 Ka
    generalize tj:bH bs e=b at *
    by_cases jQ:iD (bw bs e vt)<0
    ·by_cases fV:0<fx bs f e (bw bs e vt)
     ·have hV:=dr.visit ok wQ (e:=e) he (by rw[pT];exact pd) (by rw[pT];exact jQ) (by rw[pT];exact fV)
      rw[pT]at hV
      have eO:(dG iD k).set (bw bs e vt) (bq (iD vt+1))=dG (fun v=>if v=bw bs e vt then iD vt+1 else iD v) k:=kO hq (if_pos rfl) fun v _ hv=>if_neg hv
      rw[bq]at eO
      have e1:Q'.length+1<=16777216:=by omega
      (repeat(first|((repeat(revert hN;revert N;apply Pn.out));refine wk (tw @jn (tw @c0 (tw @c5 (tw @c8 (tw @c9 (tw @c7 (tw @Hk (tw @xp (tw @hx (tw @hA (tw @pR (tw @MG (tw @Kn (tw @iC (tw @rW (tw @tn (tw @OK (tw @M5 (tw @Ka (tw @jQ (tw @fV (tw @hw3 (tw @eO (tw @Nj (tw @NW (tw @yV (tw @lS (tw @x1 (tw @e1 (tw @eN.eq_1 (tw @ay.eq_1 @fF.eq_1))))))))))))))))))))))))))))))) ?_;(repeat(refine Pn.mk ?_;intro N hN)))|((try apply Or.inl);refine⟨_,ao.x (Nl) (sd (tw @jn (tw @c0 (tw @c5 (tw @c8 (tw @c9 (tw @c7 (tw @Hk (tw @xp (tw @hx (tw @hA (tw @pR (tw @MG (tw @Kn (tw @iC (tw @rW (tw @tn (tw @OK (tw @M5 (tw @Ka (tw @jQ (tw @fV (tw @hw3 (tw @eO (tw @Nj (tw @NW (tw @yV (tw @lS (tw @x1 (tw @e1 (tw @eN.eq_1 (tw @ay.eq_1 @fF.eq_1)))))))))))))))))))))))))))))))),?_⟩;refine hN _ _ ?_;clear hN N)))
      exact gU (sd (tw @jn (tw @c0 (tw @c5 (tw @c8 @c9))))) (⟨_,Q'++[bw bs e vt],⟨239020003,st_c.next+1+1+1+1+1+1⟩,by rw[List.length_append];simp only[go_sem, ↓reduceIte,Nat.reduceEqDiff,Nat.reduceAdd,Nat.reduceSub,Nat.reduceLeDiff,reduceCtorEq,List.length_cons,List.length_nil],by rw[List.map_append,List.map_cons,List.map_nil];simp only[go_sem, ↓reduceIte,Nat.reduceEqDiff,Nat.reduceAdd,Nat.reduceSub,Nat.reduceLeDiff,reduceCtorEq,eN],sd (tw @lS @x1),by(try dsimp only);omega,by(try dsimp only);omega,hV,⟨by simp;omega,by rw[List.getElem_append_left wQ];exact pT⟩,fun z hz hr=>by
       by_cases Qb:z=x
       ·subst Qb
        rw[<-Q8,if_pos rfl]
        have:=(dr.iff vt LL).2 (by rw[<-pT];exact List.getElem_mem wQ)
        omega
       ·have:=JE z (by omega) hr
        split
        ·have:=(dr.iff vt LL).2 (by rw[<-pT];exact List.getElem_mem wQ)
         omega
        ·exact this⟩)
     ·(repeat(first|((repeat(revert hN;revert N;apply Pn.out));refine wk (tw @jn (tw @c0 (tw @c5 (tw @c8 (tw @c9 (tw @c7 (tw @Hk (tw @xp (tw @hx (tw @hA (tw @pR (tw @MG (tw @Kn (tw @iC (tw @rW (tw @tn (tw @OK (tw @M5 (tw @jQ (tw @fV (tw @NW (tw @yV (tw @lS (tw @x1 (tw @eN.eq_1 (tw @ay.eq_1 @fF.eq_1)))))))))))))))))))))))))) ?_;(repeat(refine Pn.mk ?_;intro N hN)))|((try apply Or.inl);refine⟨_,ao.x (Nl) (sd (tw @jn (tw @c0 (tw @c5 (tw @c8 (tw @c9 (tw @c7 (tw @Hk (tw @xp (tw @hx (tw @hA (tw @pR (tw @MG (tw @Kn (tw @iC (tw @rW (tw @tn (tw @OK (tw @M5 (tw @jQ (tw @fV (tw @NW (tw @yV (tw @lS (tw @x1 (tw @eN.eq_1 (tw @ay.eq_1 @fF.eq_1))))))))))))))))))))))))))),?_⟩;refine hN _ _ ?_;clear hN N)))
      exact gU (sd (tw @jn (tw @c0 (tw @c5 (tw @c8 @c9))))) (⟨iD,Q',p',sd @c7,sd (tw @Hk @yV),sd (tw @xp @lS),CT,by(try dsimp only);omega,dr,⟨wQ,pT⟩,fun z hz hr=>by
       by_cases Qb:z=x
       ·subst Qb;rw[<-Q8]at hr;exact absurd hr fV
       ·exact JE z (by omega) hr⟩)
    ·(repeat(first|((repeat(revert hN;revert N;apply Pn.out));refine wk (tw @jn (tw @c0 (tw @c5 (tw @c8 (tw @c9 (tw @c7 (tw @Hk (tw @xp (tw @hx (tw @hA (tw @pR (tw @MG (tw @Kn (tw @iC (tw @rW (tw @tn (tw @OK (tw @M5 (tw @jQ (tw @NW (tw @yV (tw @lS (tw @x1 (tw @eN.eq_1 (tw @ay.eq_1 @fF.eq_1))))))))))))))))))))))))) ?_;(repeat(refine Pn.mk ?_;intro N hN)))|((try apply Or.inl);refine⟨_,ao.x (Nl) (sd (tw @jn (tw @c0 (tw @c5 (tw @c8 (tw @c9 (tw @c7 (tw @Hk (tw @xp (tw @hx (tw @hA (tw @pR (tw @MG (tw @Kn (tw @iC (tw @rW (tw @tn (tw @OK (tw @M5 (tw @jQ (tw @NW (tw @yV (tw @lS (tw @x1 (tw @eN.eq_1 (tw @ay.eq_1 @fF.eq_1)))))))))))))))))))))))))),?_⟩;refine hN _ _ ?_;clear hN N)))
     exact gU (sd (tw @jn (tw @c0 (tw @c5 (tw @c8 @c9))))) (⟨iD,Q',p',sd @c7,sd (tw @Hk @yV),sd (tw @xp @lS),CT,by(try dsimp only);omega,dr,⟨wQ,pT⟩,fun z hz hr=>by
      by_cases Qb:z=x
      ·subst Qb;rw[<-Q8];omega
      ·exact JE z (by omega) hr⟩)
   ·have hxe:x=I.length:=by omega
    have hw:IntKind.i64.wrap ((i:Int)+1)=((i+1:Nat):Int):=ax (by omega)
    (try((repeat(revert hN;revert N;apply Pn.out));refine wk (tw @jn (tw @c0 (tw @c5 (tw @c8 (tw @c9 (tw @c7 (tw @hx (tw @hA (tw @pR (tw @Kn @fF.eq_1)))))))))) ?_;(repeat(refine Pn.mk ?_;intro N hN))))
    refine⟨_,?_,i+1,iD,Q',p',rfl,sd (tw @jn (tw @c0 (tw @c5 (tw @c8 (tw @c9 @hw))))),sd @c7,sd @Hk,sd @xp,CT,by(try dsimp only);omega,dr.next wQ fun e he hr=>?_,by omega⟩
    ·omega
    ·rw[pT,hIn]at he
     rw[pT]at hr ⊢
     obtain⟨z,hz,rfl⟩:=PS e he
     exact JE z (by omega) hr
 ·(try((repeat(revert hN;revert N;apply Pn.out));refine wk (tw @b0 (tw @b5 (tw @b7 (tw @b8 (tw @hi @fF.eq_1))))) ?_;(repeat(refine Pn.mk ?_;intro N hN))))
  have rS:fY st_b.get 6 (.own o 0 k)=some (.sl (dG out k)):=tE bgo (by rw[RD];omega) (by rw[List.drop_zero,List.take_of_length_le (by rw[RD];omega)];exact I4)
  exact⟨_,rfl,_,by simp only[go_sem, ↓reduceIte,Nat.reduceEqDiff,Nat.reduceAdd,Nat.reduceSub,Nat.reduceLeDiff,reduceCtorEq,eT];exact rS,out,rfl,hB.done ok (by omega)⟩
end Go.Proofs.YtgoelphibofcmaaGreat.V

namespace Go.Proofs.YtgoelphibofcmaaGreat.V
open Go.RowKit
attribute [local irreducible] dD wpOps gI Call
attribute [local go_sem] aK fW eU gE gy cE upd ck K.av cN AV.cells AV.cell rowOf rowsOf part ld rowAt bB bY dO ev iI bK db eI gr e8 dx eB cZ cY ea ec bQ aY cQ bP cU cR ez eC eA cP bV da ew bL aL cW cF iH bz cK bR aU dh aT dP AV.undef bF bG eh eu dX dY cI eH eK cD eE eD cV cX List.getD_cons_zero List.getD_cons_succ List.getD_nil List.all_cons List.all_nil Bool.and_true Bool.true_and Bool.and_self Bool.not_true Bool.not_false Option.map_some Option.map_none Option.bind_some Option.bind_none List.length_cons List.length_nil List.take_succ_cons List.take_zero List.take_nil List.drop_succ_cons List.drop_zero List.drop_nil List.head?_cons List.map_cons List.map_nil List.getElem?_cons_zero List.getElem?_cons_succ List.cons_append List.nil_append List.append_nil List.length_map List.set_cons_zero List.set_cons_succ eq_self Int.toNat_natCast Int.natCast_nonneg and_self true_and and_true decide_true decide_false Bool.false_eq_true Nat.zero_add Nat.add_zero List.contains_cons List.contains_nil Bool.or_false Bool.false_or beq_self_eq_true ne_eq not_true_eq_false not_false_eq_true Id.mk.injEq false_and and_false Nat.le_refl List.length_append beq_true beq_false Bool.not_eq_eq_eq_not or_false false_or dQ aj aq aH bd bE cm aW bc aN bf cL bU
def Oo:GA (List Nat):=fun g cs x ids=>(x=[]/\cs=[.cj]/\ids=[])∨∃id,cs=[.own id 0 x.length]/\0<x.length/\g id=some ⟨true,1,x.map eN⟩/\ids=[id]
theorem LW:yi Oo 1 where
 frame:=fun h hf=>by
  rcases h with h|⟨id,h1,h0,h2,h3⟩
  ·exact .inl h
  ·subst h3;exact .inr ⟨id,h1,h0,(hf id (by simp)).trans h2,rfl⟩
 len:=fun h=>by rcases h with⟨_,h,_⟩|⟨id,h,_⟩<;>subst h<;>rfl
 cell:=fun h=>by rcases h with⟨_,h,_⟩|⟨id,h,_⟩<;>subst h<;>rfl
 live:=fun h i hi=>by
  rcases h with⟨_,_,h⟩|⟨id,h1,h0,h2,h3⟩
  ·subst h;cases hi
  ·subst h3
   have:i=id:=by simpa using hi
   subst this
   exact⟨_,h2,rfl,by simp[qM]⟩
 small:=by simp[qM]
theorem Nz {g:Rows} {rows:List (List AV)} {xs:List (List Nat)} {ids:List Id} (n:Nat) (h:eR Oo g rows xs ids):dK (dQ g) (n+2) rows=some (xs.map fun l=>[NR l]):=
 h.fz (fun {cs x ids} h=>by
  rcases h with⟨h0,h1,_⟩|⟨id,h1,h0,h2,_⟩
  ·subst h0 h1;rw[aj,aq,aW];rfl
  ·have fZ:x≠[]:=by rintro rfl;simp at h0
   subst h1
   rw[aj,aq,ib (e:=eN) (sz:=1) (by simp[dQ,h2]) rfl fun a=>fzN _ n a]
   simp[NR,fZ])
theorem eR.Qo {α:Type} {R:GA α} {sz:Nat} {g:Rows} {rows:List (List AV)} {xs:List α} {ids:List Id} (ok:yi R sz) (h:eR R g rows xs ids) (oI:ids.Nodup) (k:Nat) (hk:k<xs.length):
  ∃cs ic,rows[k]? =some cs/\R g cs xs[k] ic/\(∀i∈ic,i∈ids)/\∀(g':Rows) pq x' OV,R g' pq x' OV->(∀i∈ids,i∉ic->g' i=g i)->OV.Nodup->(∀i∈OV,i∉ids)->∃CY,eR R g' (rows.set k pq) (xs.set k x') CY/\CY.Nodup/\∀i∈CY,i∈OV∨i∈ids:=by
 obtain⟨r1,cs,r2,i1,ic,i2,rfl,rfl,rfl,h3,h4,h5⟩:=h.split k hk
 obtain⟨n1,n2,n3⟩:=List.nodup_append.1 oI
 obtain⟨nc,n5,n4⟩:=List.nodup_append.1 n2
 refine⟨cs,ic,by simp,h4,fun i hi=>by simp[hi],fun g' pq x' OV hR hf hn' j0=>⟨i1++(OV++i2),?_,?_,fun i hi=>?_⟩⟩
 ·have e:xs.set r1.length x'=xs.take r1.length++x'::xs.drop (r1.length+1):=by rw[List.set_eq_take_append_cons_drop,if_pos hk]
  have e2:(r1++cs::r2).set r1.length pq=r1++pq::r2:=by simp
  rw[e,e2]
  refine(h3.frame ok fun i hi=>hf i (by simp[hi]) fun hc=>n3 i hi i (by simp[hc]) rfl).app (.cons hR (h5.frame ok fun i hi=>hf i (by simp[hi]) fun hc=>n4 i hc i hi rfl))
 ·rw[List.nodup_append,List.nodup_append]
  refine⟨n1,⟨hn',n5,fun x hx y hy he=>?_⟩,fun x hx y hy he=>?_⟩
  ·subst he;exact j0 x hx (by simp[hy])
  ·subst he
   rcases List.mem_append.1 hy with hy|hy
   ·exact j0 x hy (by simp[hx])
   ·exact n3 x hx x (by simp[hy]) rfl
 ·rcases List.mem_append.1 hi with hi|hi
  ·exact .inr (by simp[hi])
  ·rcases List.mem_append.1 hi with hi|hi
   ·exact .inl hi
   ·exact .inr (by simp[hi])
def qj (A:Id) (lo:Nat) (L:List (List Nat)) (g:Rows) (nx:Nat):Prop:=∃rows ids,g A=some ⟨true,1,rows⟩/\eR Oo g rows L ids/\ids.Nodup/\∀i∈ids,lo<i.aZ/\i.aZ<nx
def aX (cnt:Nat) (bs:List PB) (A F:Id):List AV:=[.int .i64 cnt,.sl (bs.map ay),.own A 0 cnt,.own F 0 bs.length]
def k6 (cnt:Nat) (bs:List PB) (m:Nat):List (List Nat):=(List.range cnt).map fun v=>iL bs m v
theorem jh (cnt:Nat) (bs:List PB) (m:Nat):(k6 cnt bs m).length=cnt:=by simp[k6]
structure nG (cnt:Nat) (bs:List PB) (f:Nat->Int) (X A F:Id) (g:Rows) (nx:Nat):Prop where
 x:g X=some ⟨true,4,[aX cnt bs A F]⟩
 a:qj A F.aZ (k6 cnt bs bs.length) g nx
 f:g F=some ⟨true,1,dG f bs.length⟩
 xa:X.aZ<A.aZ
 af:A.aZ<F.aZ
 fn:F.aZ<nx
theorem qj.fz {A:Id} {lo cnt:Nat} {bs:List PB} {m nx n:Nat} {g:Rows} (h:qj A lo (k6 cnt bs m) g nx):V.fz (dQ g) (n+3) (.own A 0 cnt)=some (.sl (pD cnt bs m)):=by
 obtain⟨rows,ids,h1,h2,_,_⟩:=h
 have hl:=h2.len
 rw[jh]at hl
 rw[gT]
 simp only[dQ,h1,Option.map_some,if_true]
 rw[if_pos (by omega),List.drop_zero,List.take_of_length_le (by omega)]
 have:=Nz n h2
 rw[this]
 simp[k6,pD]
theorem nG.fz {cnt:Nat} {bs:List PB} {f:Nat->Int} {X A F:Id} {g:Rows} {nx:Nat} (h:nG cnt bs f X A F g nx):V.fz (dQ g) 6 (.ptr X 0 0)=some (.cr (fF cnt bs f)):=by
 have hF:dQ g F=some ⟨true,1,dG f bs.length⟩:=by simp[dQ,h.f]
 have hX:dQ g X=some ⟨true,4,[aX cnt bs A F]⟩:=by simp[dQ,h.x]
 have hf:V.fz (dQ g) 5 (.own F 0 bs.length)=some (.sl (dG f bs.length)):=by
  rw[gT]
  simp only[hF,if_true]
  rw[if_pos (by rw[dt];omega),List.drop_zero,List.take_of_length_le (by rw[dt];omega),zF];rfl
 have ha:=h.a.fz (n:=2)
 rw[bf]
 simp only[hX,if_true,List.getElem?_cons_zero,List.drop_zero,aX,aj,aq,aH,cm,ha,hf,Option.map_some,fF]
theorem FE (cnt:Nat) (bs:List PB):k6 cnt bs 0=List.replicate cnt []:=by
 refine List.ext_getElem? fun i=>?_
 simp only[k6,List.getElem?_map,List.getElem?_replicate]
 by_cases h:i<cnt
 ·rw[List.getElem?_range h,if_pos h];rfl
 ·rw[List.getElem?_eq_none (by simpa using h),if_neg h];rfl
theorem x9 (g:Rows):∀n:Nat,eR Oo g (List.replicate n [.cj]) (List.replicate n []) []
 |0=>.nil
 |n+1=>.cons (i1:=[]) (.inl ⟨rfl,rfl,rfl⟩) (x9 g n)
def wU (cnt:Nat) (bs:List PB) (m:Nat):List (List Nat):=(k6 cnt bs m).set (bH bs m).a (iL bs m (bH bs m).a++[m])
theorem A5 {cnt:Nat} {bs:List PB} {m v:Nat} (hv:v<cnt) (fZ:(bH bs m).a≠v):(wU cnt bs m)[v]? =some (iL bs m v):=by
 unfold wU
 rw[List.getElem?_set_ne fZ]
 simp[k6,hv]
theorem FD {cnt:Nat} {bs:List PB} {m:Nat} (ha:(bH bs m).a<cnt) (hb:(bH bs m).b<cnt) (fZ:(bH bs m).a≠(bH bs m).b):(wU cnt bs m).set (bH bs m).b (iL bs m (bH bs m).b++[m])=k6 cnt bs (m+1):=by
 refine List.ext_getElem? fun i=>?_
 by_cases hi:i<cnt
 ·have hr:(k6 cnt bs (m+1))[i]? =some (iL bs (m+1) i):=by simp[k6,hi]
  rw[hr,FF]
  by_cases h1:(bH bs m).b=i
  ·rw[List.getElem?_set,if_pos h1,if_pos (by simp[wU,jh];omega),if_pos (.inr h1),h1]
  ·rw[List.getElem?_set_ne h1]
   by_cases h2:(bH bs m).a=i
   ·unfold wU
    rw[List.getElem?_set,if_pos h2,if_pos (by rw[jh];omega),if_pos (.inl h2),h2]
   ·rw[A5 hi h2,if_neg (fun h=>h.elim h2 h1),List.append_nil]
 ·rw[List.getElem?_eq_none (by simp[wU,jh];omega),List.getElem?_eq_none (by rw[jh];omega)]
theorem ku {α:Type} {l:List α} {k:Nat} {x:α} (h:l[k]? =some x) (hk:k<l.length):l[k]=x:=by
 rw[List.getElem?_eq_getElem hk]at h;exact Option.some.inj h
theorem EB {A K:Id} {lo Ql nx k j:Nat} {L:List (List Nat)} {La:List Nat} {g:Rows} {rows:List (List AV)} {ids:List Id} (hR:eR Oo g rows L ids) (oI:ids.Nodup) (ny:∀i∈ids,lo<i.aZ/\i.aZ<Ql) (hA:A.aZ<=lo) (hL:L[k]? =some La) (hK1:Ql<=K.aZ) (MU:K.aZ<nx) (jA:lo<Ql):
  ∃cs,rows[k]? =some cs/\((La=[]/\cs=[.cj])∨∃id:Id,cs=[.own id 0 La.length]/\0<La.length/\g id=some ⟨true,1,La.map eN⟩/\id.aZ<Ql/\lo<id.aZ)/\
   ∀g':Rows,g' A=some ⟨true,1,rows.set k [.own K 0 (La.length+1)]⟩->g' K=some ⟨true,1,La.map eN++[[.int .i64 j]]⟩->(∀i:Id,i.aZ<Ql->(i=A)=False->(∀id,cs=[.own id 0 La.length]->(i=id)=False)->g' i=g i)->qj A lo (L.set k (La++[j])) g' nx:=by
 have hk:k<L.length:=(List.getElem?_eq_some_iff.1 hL).1
 have Sj:=ku hL hk
 obtain⟨cs,ic,dn,Oz,PM,uQ⟩:=hR.Qo LW oI k hk
 rw[Sj]at Oz
 refine⟨cs,dn,?_,fun g' h1 h2 h3=>?_⟩
 ·rcases Oz with⟨h1,h2,_⟩|⟨id,h1,h2,h3,h4⟩
  ·exact .inl ⟨h1,h2⟩
  ·subst h4
   have:=ny id (PM id (by simp))
   exact .inr ⟨id,h1,h2,h3,this.2,this.1⟩
 ·obtain⟨CY,q1,q2,q3⟩:=uQ g' [.own K 0 (La.length+1)] (La++[j]) [K] (.inr ⟨K,by simp,by simp,by rw[h2];simp[eN],rfl⟩) (fun i hi Rn=>by
   refine h3 i (ny i hi).2 ?_ fun id hid=>?_
   ·simp only[eq_iff_iff,iff_false];rintro rfl;have:=ny _ hi;omega
   ·simp only[eq_iff_iff,iff_false]
    rintro rfl
    rcases Oz with⟨_,h4,_⟩|⟨jJ,h4,_,_,h5⟩
    ·rw[hid]at h4;cases h4
    ·rw[hid]at h4
     simp only[List.cons.injEq,AV.own.injEq,and_true]at h4
     rw[h5,h4]at Rn
     exact Rn (by simp)) (by simp) fun i hi hc=>by
   rw[List.mem_singleton.1 hi]at hc;have:=ny _ hc;omega
  refine⟨_,CY,h1,q1,q2,fun i hi=>?_⟩
  rcases q3 i hi with h|h
  ·rw[List.mem_singleton.1 h];omega
  ·have:=ny i h;omega
theorem K8 {P:Program} {Q:Ex->Env->ar->Prop} {c:VC} {env:Env} {σ:ar} (I:Env->ar->Prop) (h2:∀e s,I e s->Q .normal e s) (h1:∀N':Env->ar->Prop,(∀e s,I e s->N' e s)->dD (Call P) c (dh N' Q) env σ):dD (Call P) c Q env σ:=by
 refine jm (fun _ _ _ _ h=>h) aV c _ _ env σ (fun x e s h=>?_) (h1 I fun _ _ h=>h)
 cases x with
 |normal=>exact h2 e s h
 |exit id=>exact h
 |ret=>exact h
end Go.Proofs.YtgoelphibofcmaaGreat.V
