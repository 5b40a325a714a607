/- The check of a tile set. -/
import Derived.Test.YtiabgllilcfheaaGreatCmB
import Derived.Test.YtiabgllilcfheaaGreatCmA
set_option linter.unusedVariables false
set_option linter.unusedSimpArgs false
set_option maxRecDepth 100000
set_option maxHeartbeats 16000000
namespace Go.Proofs.YtiabgllilcfheaaGreat.V
open Go.RowKit
attribute [local irreducible] er wpOps fY Call
attribute [local go_sem] aF fC eR fN fK du upd cw K.av cQ AV.cells AV.cell rowOf rowsOf part ld rowAt bK cq dH dX gG bP dd eh fJ fa dw ea db da dM dP bV bd cU bU cW cV dV eb dZ cR bY dc dY bQ aD cY cF gF bD cL bW aY dn bj dI AV.undef bH bJ dQ dW dL dK cK ef eo cz ee ec cX cZ List.getD_cons_zero List.getD_cons_succ List.getD_nil List.all_cons List.all_nil Bool.and_true Bool.true_and Bool.and_self Bool.not_true Bool.not_false Option.map_some Option.map_none Option.bind_some Option.bind_none List.length_cons List.length_nil List.take_succ_cons List.take_zero List.take_nil List.drop_succ_cons List.drop_zero List.drop_nil List.head?_cons List.map_cons List.map_nil List.getElem?_cons_zero List.getElem?_cons_succ List.cons_append List.nil_append List.append_nil List.length_map List.set_cons_zero List.set_cons_succ Nat.reduceMul eq_self Int.toNat_natCast Int.natCast_nonneg and_self true_and and_true decide_true decide_false Bool.false_eq_true Nat.zero_add Nat.add_zero List.contains_cons List.contains_nil Bool.or_false Bool.false_or beq_self_eq_true Nat.reduceBEq ne_eq not_true_eq_false not_false_eq_true Id.mk.injEq false_and and_false Nat.reduceLT Int.reduceLE Int.reduceLT Int.reduceToNat Int.reduceNeg Int.reduceAdd Nat.le_refl List.length_append beq_true beq_false Bool.not_eq_eq_eq_not or_false false_or eu ai aj aP bh bZ cm aW bx aK bf cP bI
def rV (s:ay) (i:Nat):kE:=s.br.getD i ⟨⟨#[]⟩,0⟩
def qS (s:ay) (i:Nat):jE:=s.aq.getD i Cz
def FA (s:ay) (i:Nat):Prop:=kD (rV s i).cI=true/\js (rV s i).iX 1 4=true/\∀j,j<i->(rV s j).cI≠(rV s i).cI
def Dj (s:ay) (i:Nat):Prop:=kD (qS s i).cI=true/\(qS s i).ep.length=4/\(∀j,j<i->(qS s j).cI≠(qS s i).cI)/\∀g∈(qS s i).ep,js g 0 s.br.length=true
structure iF (s:ay):Prop where
 wG:s.br.length<=200
 some:1<=s.aq.length
 Bw:s.aq.length<=160
 WZ:∀i,i<s.br.length->FA s i
 tok:∀i,i<s.aq.length->Dj s i
noncomputable def tu (s:ay):Bool:=@decide (iF s) (Classical.propDecidable _)
theorem nY {s:ay}:tu s=true↔iF s:=by simp[tu]
theorem gO {s:ay} (h:¬iF s):false=tu s:=by simp[tu,h]
theorem E7 {s:ay} (h:iF s):true=tu s:=by simp[tu,h]
theorem CQ {s:ay} {i:Nat} (h:i<s.aq.length):(s.aq.map dD)[i]? =some (dD (qS s i)):=getD_map dD h
theorem B8 {s:ay} {i:Nat} (h:i<s.br.length):(s.br.map ez)[i]? =some (ez (rV s i)):=getD_map ez h
theorem iF.form {s:ay} (h:iF s):jV s:=by
 have key:∀t∈s.aq,∃i,i<s.aq.length/\t=qS s i:=fun t ht=>by
  obtain⟨i,hi,rfl⟩:=List.getElem_of_mem ht
  exact⟨i,hi,by simp[qS,List.getD_eq_getElem?_getD,hi]⟩
 refine⟨fun t ht=>?_,fun t ht g hg=>?_⟩
 ·obtain⟨i,hi,rfl⟩:=key t ht
  exact(h.tok i hi).2.1
 ·obtain⟨i,hi,rfl⟩:=key t ht
  exact eL ((h.tok i hi).2.2.2 g hg)
def eF (l:List ByteArray):List (List AV):=l.map fun n=>[.str n,.bool true]
abbrev mS:MK:=⟨false,[.tS]⟩
theorem Bt (n:ByteArray):∀(l:List ByteArray) (i:Nat),∃r,iy mS [.str n] (eF l) i=some r/\((r=none/\n∉l)∨∃j,r=some (i+j)/\n∈l/\(eF l)[j]? =some [.str n,.bool true])
 |[],i=>⟨none,rfl,.inl ⟨rfl,by simp⟩⟩
 |m::l,i=>by
  obtain⟨r,h1,h2⟩:=Bt n l (i+1)
  by_cases h:n=m
  ·subst h
   exact⟨some i,by simp[eF,iy,fa,fJ,MK.ks],.inr ⟨0,rfl,by simp,rfl⟩⟩
  ·refine⟨r,?_,?_⟩
   ·unfold eF at h1 ⊢
    simp only[List.map_cons,iy,MK.ks,List.length_cons,List.length_nil,Nat.zero_add,List.take_succ_cons,List.take_zero,fa,fJ,h,decide_false,Bool.and_true]
    exact h1
   ·rcases h2 with⟨rfl,h2⟩|⟨j,rfl,h2,h3⟩
    ·exact .inl ⟨rfl,by simp[h,h2]⟩
    ·exact .inr ⟨j+1,by congr 1;omega,by simp[h2],by simpa[eF]using h3⟩
theorem zt (n:ByteArray) (l:List ByteArray):(n∉l/\gW mS (.str n) (eF l)=some none)∨∃j,n∈l/\gW mS (.str n) (eF l)=some (some j)/\(eF l)[j]? =some [.str n,.bool true]:=by
 obtain⟨r,h1,h2⟩:=Bt n l 0
 have e:gW mS (.str n) (eF l)=some r:=by
  unfold gW
  rw[if_pos ⟨rfl,rfl,rfl⟩];exact h1
 rcases h2 with⟨rfl,h2⟩|⟨j,rfl,h2,h3⟩
 ·exact .inl ⟨h2,e⟩
 ·exact .inr ⟨j,h2,by rw[e,Nat.zero_add],h3⟩
theorem Sw (s:ay) (g:Int):au Tryz.prog 134 [.int .i64 g,.dv (ad s)] (.bool (!js g 0 s.br.length)):=by
 refine au.body fF rfl fun hl n0=>?_
 clear hl
 have h:=mu g 0 s.br.length
 (repeat(first|((repeat(revert hN;revert N;apply Pn.out));refine wk @ad.eq_1 ?_;(repeat(refine Pn.mk ?_;intro N hN)))|((try apply Or.inl);refine⟨_,au.x (h) (sd @ad.eq_1),?_⟩;refine hN _ _ ?_;clear hN N)))
 exact cu (b:= !js g 0 s.br.length) (.inl rfl) (sd @Nat.zero_add) rfl
theorem Oe:UM aJ (fun c=>.int .i64 c) 1 false:=⟨fun _=>rfl,fun _=>rfl,fun x g=>by rw[ai,aP,aj];rfl⟩
theorem Pv (s:ay) (l:List Int) (hl:l.length<=1048576):au Tryz.prog 133 [.sl (l.map aJ),.fn 134 [.dv (ad s)]] (.bool (l.any fun g=> !js g 0 s.br.length)):=
 lX Oe (show BP Tryz.prog 133=some (Cb 133 151) by kernel_rfl)
  (show BP Tryz.prog 151=some (s9 151 1 false) by kernel_rfl) l hl _ _ _ rfl (fun g=>by rw[ai,aK,aj];rfl) (fun x _=>Sw s x) fun g=>by rw[ai,aK,aj];rfl
theorem y4 {α:Type} (f:Nat->α) (n k:Nat) (x:α):x∉(List.range k).map f↔∀j,j<k->f j≠x:=by
 constructor
 ·intro h j hj he
  exact h (List.mem_map.2 ⟨j,List.mem_range.2 hj,he⟩)
 ·intro h hm
  obtain⟨j,hj,he⟩:=List.mem_map.1 hm
  exact h j (List.mem_range.1 hj) he
theorem FD (s:ay) (hn:jj s) (hg:s.br.length<=1048576) (ht:s.aq.length<=1048576) (hs:∀t∈s.aq,t.ep.length<=1048576):au Tryz.prog 102 [.agg (ad s)] (.bool (tu s)):=by
 refine au.body fF rfl fun hl n0=>?_
 clear hl
 have VJ:∀i,i<s.br.length->(rV s i).cI.size<=9223372036854775807:=fun i hi=>hn.1 _ (by simp[rV,List.getD_eq_getElem?_getD,hi])
 have V1:∀i,i<s.aq.length->(qS s i).cI.size<=9223372036854775807:=fun i hi=>hn.2 _ (by simp[qS,List.getD_eq_getElem?_getD,hi])
 have z8:∀i,i<s.aq.length->(qS s i).ep.length<=1048576:=fun i hi=>hs _ (by simp[qS,List.getD_eq_getElem?_getD,hi])
 have hw:=mu (s.aq.length:Int) 1 160
 by_cases h1:(200:Int)<(s.br.length:Int)
 ·(try((repeat(revert hN;revert N;apply Pn.out));refine wk (tw @ad.eq_1 @h1) ?_;(repeat(refine Pn.mk ?_;intro N hN))))
  exact cu (b:=false) (.inl rfl) (sd @Nat.zero_add) (gO fun h=>by have:=h.wG;omega)
 by_cases h2:js (s.aq.length:Int) 1 160=true
 ·have C5:=eL h2
  rw[h2]at hw
  (repeat(first|((repeat(revert hN;revert N;apply Pn.out));refine wk (tw @ad.eq_1 @h1) ?_;(repeat(refine Pn.mk ?_;intro N hN)))|((try apply Or.inl);refine⟨_,au.x (hw) (sd (tw @ad.eq_1 @h1)),?_⟩;refine hN _ _ ?_;clear hN N)))
  refine bz (fun n env st=>∃k:Nat,n=(s.br.length)-k/\k<=(s.br.length)/\env 24=.int .i64 (k:Int)/\st.get ⟨102000000,n0⟩=some ⟨true,2,[ad s]⟩/\st.get ⟨102003000,n0+1+1⟩=some ⟨true,mS.pU,eF ((List.range k).map fun i=>(rV s i).cI)⟩/\(∀j:Nat,j<k->FA s j)) (s.br.length) ⟨0,ae,ae,by(try simp only[go_sem, ↓reduceIte,Nat.reduceEqDiff,Nat.reduceAdd,Nat.reduceSub,Nat.reduceLeDiff,reduceCtorEq,ad,List.range_zero,List.map_nil,eF]);try rfl,by(try simp only[go_sem, ↓reduceIte,Nat.reduceEqDiff,Nat.reduceAdd,Nat.reduceSub,Nat.reduceLeDiff,reduceCtorEq,ad,List.range_zero,List.map_nil,eF]);try rfl,by(try simp only[go_sem, ↓reduceIte,Nat.reduceEqDiff,Nat.reduceAdd,Nat.reduceSub,Nat.reduceLeDiff,reduceCtorEq,ad,List.range_zero,List.map_nil,eF]);try rfl,fun _ h=>absurd h (Nat.not_lt_zero _)⟩ ?_
  rintro n_a env_a st_a ⟨k,rfl,ale,a24,ag0,ag1,pR⟩ eJ
  have a1:=eJ 1 (by kernel_rfl);have a3:=eJ 3 (by kernel_rfl);have a22:=eJ 22 (by kernel_rfl);have a23:=eJ 23 (by kernel_rfl)
  simp only[go_sem, ↓reduceIte,Nat.reduceEqDiff,Nat.reduceAdd,Nat.reduceSub,Nat.reduceLeDiff,reduceCtorEq,ad,List.range_zero,List.map_nil,eF]at a1 a3 a22 a23
  clear eJ
  by_cases hk:(k:Int)<(s.br.length:Int)
  ·have dx:∀{e:Env} {gg:Rows},(e 24=.int .i64 (IntKind.i64.wrap ((k:Int)+1)))->(gg ⟨102000000,n0⟩=some ⟨true,2,[ad s]⟩)->(gg ⟨102003000,n0+1+1⟩=some ⟨true,mS.pU,eF ((List.range (k+1)).map fun i=>(rV s i).cI)⟩)->(FA s k)->∃m0,m0<(s.br.length)-k/\∃k:Nat,m0=(s.br.length)-k/\k<=(s.br.length)/\e 24=.int .i64 (k:Int)/\gg ⟨102000000,n0⟩=some ⟨true,2,[ad s]⟩/\gg ⟨102003000,n0+1+1⟩=some ⟨true,mS.pU,eF ((List.range k).map fun i=>(rV s i).cI)⟩/\(∀j:Nat,j<k->FA s j):=fun x1 x2 x3 x4=>⟨_,ae,k+1,rfl,ae,(by rw[x1,az ae]),x2,x3,(all_succ pR x4)⟩
   have iR:k<s.br.length:=ae
   have gq:=B8 iR
   have s5:=HR (rV s k).cI (VJ k iR)
   have NJ:=mu (rV s k).iX 1 4
   have Eg:=zt (rV s k).cI ((List.range k).map fun i=>(rV s i).cI)
   rw[y4 _ k]at Eg
   have lQ:(¬FA s k)->¬iF s:=fun h hp=>h (hp.WZ k iR)
   generalize tz:rV s k=gl at *
   cases hb:kD gl.cI
   ·rw[hb]at s5
    (repeat(first|((repeat(revert hN;revert N;apply Pn.out));refine wk (tw @a24 (tw @ag0 (tw @ag1 (tw @a1 (tw @a3 (tw @a22 (tw @a23 (tw @hk (tw @gq (tw @ez.eq_1 @ad.eq_1)))))))))) ?_;(repeat(refine Pn.mk ?_;intro N hN)))|((try apply Or.inl);refine⟨_,au.x (s5) (sd (tw @a24 (tw @ag0 (tw @ag1 (tw @a1 (tw @a3 (tw @a22 (tw @a23 (tw @hk (tw @gq (tw @ez.eq_1 @ad.eq_1))))))))))),?_⟩;refine hN _ _ ?_;clear hN N)))
    exact cu (b:=false) (.inl rfl) (sd @Nat.zero_add) (gO (lQ fun h=>by rw[FA,tz,hb]at h;cases h.1))
   ·rw[hb]at s5
    rcases Eg with⟨F9,mE⟩|⟨j,fU,mE,fI⟩
    ·cases ev:js gl.iX 1 4
     ·rw[ev]at NJ
      (repeat(first|((repeat(revert hN;revert N;apply Pn.out));refine wk (tw @a24 (tw @ag0 (tw @ag1 (tw @a1 (tw @a3 (tw @a22 (tw @a23 (tw @hk (tw @gq (tw @mE (tw @ez.eq_1 @ad.eq_1))))))))))) ?_;(repeat(refine Pn.mk ?_;intro N hN)))|((try apply Or.inl);refine⟨_,au.x (s5) (sd (tw @a24 (tw @ag0 (tw @ag1 (tw @a1 (tw @a3 (tw @a22 (tw @a23 (tw @hk (tw @gq (tw @mE (tw @ez.eq_1 @ad.eq_1)))))))))))),?_⟩;refine hN _ _ ?_;clear hN N)|((try apply Or.inl);refine⟨_,au.x (NJ) (sd (tw @a24 (tw @ag0 (tw @ag1 (tw @a1 (tw @a3 (tw @a22 (tw @a23 (tw @hk (tw @gq (tw @mE (tw @ez.eq_1 @ad.eq_1)))))))))))),?_⟩;refine hN _ _ ?_;clear hN N)))
      exact cu (b:=false) (.inl rfl) (sd @Nat.zero_add) (gO (lQ fun h=>by rw[FA,tz,ev]at h;cases h.2.1))
     ·rw[ev]at NJ
      have pr:eF ((List.range k).map fun i=>(rV s i).cI)++[[.str gl.cI,.bool true]]=eF (List.map (fun i=>(rV s i).cI) (List.range k++[k])):=by simp[eF,tz]
      (repeat(first|((repeat(revert hN;revert N;apply Pn.out));refine wk (tw @a24 (tw @ag0 (tw @ag1 (tw @a1 (tw @a3 (tw @a22 (tw @a23 (tw @hk (tw @gq (tw @mE (tw @ez.eq_1 @ad.eq_1))))))))))) ?_;(repeat(refine Pn.mk ?_;intro N hN)))|((try apply Or.inl);refine⟨_,au.x (s5) (sd (tw @a24 (tw @ag0 (tw @ag1 (tw @a1 (tw @a3 (tw @a22 (tw @a23 (tw @hk (tw @gq (tw @mE (tw @ez.eq_1 @ad.eq_1)))))))))))),?_⟩;refine hN _ _ ?_;clear hN N)|((try apply Or.inl);refine⟨_,au.x (NJ) (sd (tw @a24 (tw @ag0 (tw @ag1 (tw @a1 (tw @a3 (tw @a22 (tw @a23 (tw @hk (tw @gq (tw @mE (tw @ez.eq_1 @ad.eq_1)))))))))))),?_⟩;refine hN _ _ ?_;clear hN N)))
      refine dx ?_ ?_ ?_ (⟨by rw[tz];exact hb,by rw[tz];exact ev,fun j hj=>by rw[tz];exact F9 j hj⟩)
      all_goals simp only[go_sem, ↓reduceIte,Nat.reduceEqDiff,Nat.reduceAdd,Nat.reduceSub,Nat.reduceLeDiff,reduceCtorEq,a24,ag0,ag1,a1,a3,a22,a23,mE,pr]
    ·(repeat(first|((repeat(revert hN;revert N;apply Pn.out));refine wk (tw @a24 (tw @ag0 (tw @ag1 (tw @a1 (tw @a3 (tw @a22 (tw @a23 (tw @hk (tw @gq (tw @mE (tw @fI (tw @ez.eq_1 @ad.eq_1)))))))))))) ?_;(repeat(refine Pn.mk ?_;intro N hN)))|((try apply Or.inl);refine⟨_,au.x (s5) (sd (tw @a24 (tw @ag0 (tw @ag1 (tw @a1 (tw @a3 (tw @a22 (tw @a23 (tw @hk (tw @gq (tw @mE (tw @fI (tw @ez.eq_1 @ad.eq_1))))))))))))),?_⟩;refine hN _ _ ?_;clear hN N)))
     exact cu (b:=false) (.inl rfl) (sd @Nat.zero_add) (gO (lQ fun h=>by
      rw[FA,tz]at h
      obtain⟨i,hi,he⟩:=List.mem_map.1 fU
      exact h.2.2 i (List.mem_range.1 hi) he))
  ·have mU:k=s.br.length:=ae
   (try((repeat(revert hN;revert N;apply Pn.out));refine wk (tw @a24 (tw @ag0 (tw @ag1 (tw @a1 (tw @a3 (tw @a22 (tw @a23 (tw @hk @ad.eq_1)))))))) ?_;(repeat(refine Pn.mk ?_;intro N hN))))
   refine bz (fun n env st=>∃j:Nat,n=(s.aq.length)-j/\j<=(s.aq.length)/\env 52=.int .i64 (j:Int)/\st.get ⟨102000000,n0⟩=some ⟨true,2,[ad s]⟩/\st.get ⟨102011000,st_a.next+1⟩=some ⟨true,mS.pU,eF ((List.range j).map fun i=>(qS s i).cI)⟩/\(∀i:Nat,i<j->Dj s i)/\(st_a.next<st.next)) (s.aq.length) ⟨0,ae,ae,by(try simp only[go_sem, ↓reduceIte,Nat.reduceEqDiff,Nat.reduceAdd,Nat.reduceSub,Nat.reduceLeDiff,reduceCtorEq,a24,ag0,ag1,a1,a3,a22,a23,ad,List.range_zero,List.map_nil,eF]);try rfl,by(try simp only[go_sem, ↓reduceIte,Nat.reduceEqDiff,Nat.reduceAdd,Nat.reduceSub,Nat.reduceLeDiff,reduceCtorEq,a24,ag0,ag1,a1,a3,a22,a23,ad,List.range_zero,List.map_nil,eF]);try rfl,by(try simp only[go_sem, ↓reduceIte,Nat.reduceEqDiff,Nat.reduceAdd,Nat.reduceSub,Nat.reduceLeDiff,reduceCtorEq,a24,ag0,ag1,a1,a3,a22,a23,ad,List.range_zero,List.map_nil,eF]);try rfl,fun _ h=>absurd h (Nat.not_lt_zero _),aU⟩ ?_
   rintro n_b env_b st_b ⟨j,rfl,ble,b52,bg0,bg1,bA0,bI0⟩ eW
   have b1:=eW 1 (by kernel_rfl);have b6:=eW 6 (by kernel_rfl);have FG:=eW 50 (by kernel_rfl);have FH:=eW 51 (by kernel_rfl)
   simp only[go_sem, ↓reduceIte,Nat.reduceEqDiff,Nat.reduceAdd,Nat.reduceSub,Nat.reduceLeDiff,reduceCtorEq,a24,ag0,ag1,a1,a3,a22,a23,ad,List.range_zero,List.map_nil,eF]at b1 b6 FG FH
   clear eW
   by_cases hj:(j:Int)<(s.aq.length:Int)
   ·have fh:∀{e:Env} {gg:Rows} {nx:Nat},(e 52=.int .i64 (IntKind.i64.wrap ((j:Int)+1)))->(gg ⟨102000000,n0⟩=some ⟨true,2,[ad s]⟩)->(gg ⟨102011000,st_a.next+1⟩=some ⟨true,mS.pU,eF ((List.range (j+1)).map fun i=>(qS s i).cI)⟩)->(Dj s j)->(st_a.next<nx)->∃m0,m0<(s.aq.length)-j/\∃j:Nat,m0=(s.aq.length)-j/\j<=(s.aq.length)/\e 52=.int .i64 (j:Int)/\gg ⟨102000000,n0⟩=some ⟨true,2,[ad s]⟩/\gg ⟨102011000,st_a.next+1⟩=some ⟨true,mS.pU,eF ((List.range j).map fun i=>(qS s i).cI)⟩/\(∀i:Nat,i<j->Dj s i)/\(st_a.next<nx):=fun x1 x2 x3 x4 x5=>⟨_,ae,j+1,rfl,ae,(by rw[x1,az ae]),x2,x3,(all_succ bA0 x4),x5⟩
    have oi:j<s.aq.length:=ae
    have nE:=CQ oi
    have s5:=HR (qS s j).cI (V1 j oi)
    have XD:=Pv s (qS s j).ep (z8 j oi)
    have Eg:=zt (qS s j).cI ((List.range j).map fun i=>(qS s i).cI)
    rw[y4 _ j]at Eg
    have lQ:(¬Dj s j)->¬iF s:=fun h hp=>h (hp.tok j oi)
    have iN:(⟨102011000,st_a.next+1⟩:Id)≠⟨102000000,n0⟩:=by simp
    generalize htd:qS s j=tl at *
    cases hb:kD tl.cI
    ·rw[hb]at s5
     (repeat(first|((repeat(revert hN;revert N;apply Pn.out));refine wk (tw @b52 (tw @bg0 (tw @bg1 (tw @b1 (tw @b6 (tw @FG (tw @FH (tw @hj (tw @nE (tw @dD.eq_1 @ad.eq_1)))))))))) ?_;(repeat(refine Pn.mk ?_;intro N hN)))|((try apply Or.inl);refine⟨_,au.x (s5) (sd (tw @b52 (tw @bg0 (tw @bg1 (tw @b1 (tw @b6 (tw @FG (tw @FH (tw @hj (tw @nE (tw @dD.eq_1 @ad.eq_1))))))))))),?_⟩;refine hN _ _ ?_;clear hN N)))
     exact cu (b:=false) (.inl rfl) (sd @Nat.zero_add) (gO (lQ fun h=>by rw[Dj,htd,hb]at h;cases h.1))
    ·rw[hb]at s5
     rcases Eg with⟨F9,mE⟩|⟨i,fU,mE,fI⟩
     ·by_cases h4:(tl.ep.length:Int)=4
      ·have B9:decide ((tl.ep.length:Int)=4)=true:=decide_eq_true h4
       cases hany:tl.ep.any fun g=> !js g 0 s.br.length
       ·rw[hany]at XD
        have pr:eF ((List.range j).map fun i=>(qS s i).cI)++[[.str tl.cI,.bool true]]=eF (List.map (fun i=>(qS s i).cI) (List.range j++[j])):=by simp[eF,htd]
        (repeat(first|((repeat(revert hN;revert N;apply Pn.out));refine wk (tw @b52 (tw @bg0 (tw @bg1 (tw @b1 (tw @b6 (tw @FG (tw @FH (tw @hj (tw @nE (tw @mE (tw @B9 (tw @dD.eq_1 @ad.eq_1)))))))))))) ?_;(repeat(refine Pn.mk ?_;intro N hN)))|((try apply Or.inl);refine⟨_,au.x (s5) (sd (tw @b52 (tw @bg0 (tw @bg1 (tw @b1 (tw @b6 (tw @FG (tw @FH (tw @hj (tw @nE (tw @mE (tw @B9 (tw @dD.eq_1 @ad.eq_1))))))))))))),?_⟩;refine hN _ _ ?_;clear hN N)|((try apply Or.inl);refine⟨_,au.x (XD) (sd (tw @b52 (tw @bg0 (tw @bg1 (tw @b1 (tw @b6 (tw @FG (tw @FH (tw @hj (tw @nE (tw @mE (tw @B9 (tw @dD.eq_1 @ad.eq_1))))))))))))),?_⟩;refine hN _ _ ?_;clear hN N)))
        refine fh ?_ ?_ ?_ (⟨by rw[htd];exact hb,by rw[htd];omega,fun i hi=>(by rw[htd];exact F9 i hi),fun g hg=>by rw[htd]at hg;have:=List.any_eq_false.1 hany g hg;simpa using this⟩) aU
        all_goals simp only[go_sem, ↓reduceIte,Nat.reduceEqDiff,Nat.reduceAdd,Nat.reduceSub,Nat.reduceLeDiff,reduceCtorEq,b52,bg0,bg1,b1,b6,FG,FH,mE,pr]
       ·rw[hany]at XD
        (repeat(first|((repeat(revert hN;revert N;apply Pn.out));refine wk (tw @b52 (tw @bg0 (tw @bg1 (tw @b1 (tw @b6 (tw @FG (tw @FH (tw @hj (tw @nE (tw @mE (tw @B9 (tw @dD.eq_1 @ad.eq_1)))))))))))) ?_;(repeat(refine Pn.mk ?_;intro N hN)))|((try apply Or.inl);refine⟨_,au.x (s5) (sd (tw @b52 (tw @bg0 (tw @bg1 (tw @b1 (tw @b6 (tw @FG (tw @FH (tw @hj (tw @nE (tw @mE (tw @B9 (tw @dD.eq_1 @ad.eq_1))))))))))))),?_⟩;refine hN _ _ ?_;clear hN N)|((try apply Or.inl);refine⟨_,au.x (XD) (sd (tw @b52 (tw @bg0 (tw @bg1 (tw @b1 (tw @b6 (tw @FG (tw @FH (tw @hj (tw @nE (tw @mE (tw @B9 (tw @dD.eq_1 @ad.eq_1))))))))))))),?_⟩;refine hN _ _ ?_;clear hN N)))
        exact cu (b:=false) (.inl rfl) (sd @Nat.zero_add) (gO (lQ fun h=>by
         rw[Dj,htd]at h
         obtain⟨g,hg,hq⟩:=List.any_eq_true.1 hany
         have:=h.2.2.2 g hg
         rw[this]at hq;cases hq))
      ·have B9:decide ((tl.ep.length:Int)=4)=false:=decide_eq_false h4
       (repeat(first|((repeat(revert hN;revert N;apply Pn.out));refine wk (tw @b52 (tw @bg0 (tw @bg1 (tw @b1 (tw @b6 (tw @FG (tw @FH (tw @hj (tw @nE (tw @mE (tw @B9 (tw @dD.eq_1 @ad.eq_1)))))))))))) ?_;(repeat(refine Pn.mk ?_;intro N hN)))|((try apply Or.inl);refine⟨_,au.x (s5) (sd (tw @b52 (tw @bg0 (tw @bg1 (tw @b1 (tw @b6 (tw @FG (tw @FH (tw @hj (tw @nE (tw @mE (tw @B9 (tw @dD.eq_1 @ad.eq_1))))))))))))),?_⟩;refine hN _ _ ?_;clear hN N)))
       exact cu (b:=false) (.inl rfl) (sd @Nat.zero_add) (gO (lQ fun h=>by rw[Dj,htd]at h;have:=h.2.1;omega))
     ·(repeat(first|((repeat(revert hN;revert N;apply Pn.out));refine wk (tw @b52 (tw @bg0 (tw @bg1 (tw @b1 (tw @b6 (tw @FG (tw @FH (tw @hj (tw @nE (tw @mE (tw @fI (tw @dD.eq_1 @ad.eq_1)))))))))))) ?_;(repeat(refine Pn.mk ?_;intro N hN)))|((try apply Or.inl);refine⟨_,au.x (s5) (sd (tw @b52 (tw @bg0 (tw @bg1 (tw @b1 (tw @b6 (tw @FG (tw @FH (tw @hj (tw @nE (tw @mE (tw @fI (tw @dD.eq_1 @ad.eq_1))))))))))))),?_⟩;refine hN _ _ ?_;clear hN N)))
      exact cu (b:=false) (.inl rfl) (sd @Nat.zero_add) (gO (lQ fun h=>by
       rw[Dj,htd]at h
       obtain⟨i,hi,he⟩:=List.mem_map.1 fU
       exact h.2.2.1 i (List.mem_range.1 hi) he))
   ·(try((repeat(revert hN;revert N;apply Pn.out));refine wk (tw @b52 (tw @bg0 (tw @bg1 (tw @b1 (tw @b6 (tw @FG (tw @FH (tw @hj @ad.eq_1)))))))) ?_;(repeat(refine Pn.mk ?_;intro N hN))))
    exact cu (b:=true) (.inl rfl) (sd @Nat.zero_add) (E7 ⟨ae,ae,ae,fun i hi=>pR i ae,fun i hi=>bA0 i ae⟩)
 ·rw[Bool.not_eq_true]at h2
  rw[h2]at hw
  (repeat(first|((repeat(revert hN;revert N;apply Pn.out));refine wk (tw @ad.eq_1 @h1) ?_;(repeat(refine Pn.mk ?_;intro N hN)))|((try apply Or.inl);refine⟨_,au.x (hw) (sd (tw @ad.eq_1 @h1)),?_⟩;refine hN _ _ ?_;clear hN N)))
  exact cu (b:=false) (.inl rfl) (sd @Nat.zero_add) (gO fun h=>by
   have h3:=h.some
   have h4:=h.Bw
   rw[jo ⟨ae,ae⟩]at h2;cases h2)
theorem xD {α:Type} {p:α->Bool} {xs:List α} {k:Nat} (hk:k<xs.length) (h1:p xs[k]=true) (h2:∀j (h:j<xs.length),j<k->p xs[j]=false):jx p xs=k:=by
 have:xs.findIdx p=k:=by rw[List.findIdx_eq hk];exact⟨h1,fun j hj=>h2 j ae hj⟩
 rw[jx,this,if_pos hk]
theorem AB {α:Type} {p:α->Bool} {xs:List α} (h:∀j (h:j<xs.length),p xs[j]=false):jx p xs= -1:=by
 rw[jx,if_neg]
 rw[List.findIdx_lt_length]
 rintro⟨x,hx,LB⟩
 obtain⟨j,hj,rfl⟩:=List.getElem_of_mem hx
 rw[h j hj]at LB;cases LB
theorem B7 {s:ay} {i:Nat} (h:i<s.br.length):rV s i=s.br[i]:=by simp[rV,List.getD_eq_getElem?_getD,h]
theorem CP {s:ay} {i:Nat} (h:i<s.aq.length):qS s i=s.aq[i]:=by simp[qS,List.getD_eq_getElem?_getD,h]
def Nv (s:ay) (n:ByteArray):Int:=jx (fun g:kE=>decide (g.cI=n)) s.br
def QD (s:ay) (n:ByteArray):Int:=jx (fun t:jE=>decide (t.cI=n)) s.aq
theorem Jp (s:ay) (nm:ByteArray):au Tryz.prog 93 [.dv (ad s),.str nm] (.int .i64 (Nv s nm+1)):=by
 refine au.body fF rfl fun hl n0=>?_
 have hlen:s.br.length<=9223372036854775807:=by
  have h1:=(hl (.dv (ad s)) (by simp)).Es (a:=.sl (s.br.map ez)) (by simp[ad])
  simpa using h1.len
 clear hl
 (try((repeat(revert hN;revert N;apply Pn.out));refine wk @ad.eq_1 ?_;(repeat(refine Pn.mk ?_;intro N hN))))
 refine bz (fun n env st=>∃k:Nat,n=(s.br.length)-k/\k<=(s.br.length)/\env 5=.int .i64 (k:Int)/\(∀j:Nat,j<k->∀h:j<s.br.length,decide (s.br[j].cI=nm)=false)) (s.br.length) ⟨0,ae,ae,sl @ad.eq_1,fun _ h=>absurd h (Nat.not_lt_zero _)⟩ ?_
 rintro n_a env_a st_a ⟨k,rfl,ale,a5,pR⟩ eJ
 have a0:=eJ 0 (by kernel_rfl);have a1:=eJ 1 (by kernel_rfl)
 simp only[go_sem, ↓reduceIte,Nat.reduceEqDiff,Nat.reduceAdd,Nat.reduceSub,Nat.reduceLeDiff,reduceCtorEq,ad]at a0 a1
 clear eJ
 by_cases hk:(k:Int)<(s.br.length:Int)
 ·have dx:∀{e:Env},(e 5=.int .i64 (IntKind.i64.wrap ((k:Int)+1)))->(∀h:k<s.br.length,decide (s.br[k].cI=nm)=false)->∃m0,m0<(s.br.length)-k/\∃k:Nat,m0=(s.br.length)-k/\k<=(s.br.length)/\e 5=.int .i64 (k:Int)/\(∀j:Nat,j<k->∀h:j<s.br.length,decide (s.br[j].cI=nm)=false):=fun x1 x2=>⟨_,ae,k+1,rfl,ae,(by rw[x1,az ae]),(all_succ pR x2)⟩
  have iR:k<s.br.length:=ae
  have gq:=B8 iR
  have e:=B7 iR
  cases hd:decide ((rV s k).cI=nm)
  ·have Xk:=of_decide_eq_false hd
   (try((repeat(revert hN;revert N;apply Pn.out));refine wk (tw @a5 (tw @a0 (tw @a1 (tw @hk (tw @gq (tw @Xk (tw @hd (tw @ez.eq_1 @ad.eq_1)))))))) ?_;(repeat(refine Pn.mk ?_;intro N hN))))
   exact dx (sd (tw @a5 (tw @a0 @a1))) (fun _=>by rw[e]at hd;exact hd)
  ·have Xk:=of_decide_eq_true hd
   have hw:IntKind.i64.wrap ((k:Int)+1)=(k:Int)+1:=cD ae
   (try((repeat(revert hN;revert N;apply Pn.out));refine wk (tw @a5 (tw @a0 (tw @a1 (tw @hk (tw @gq (tw @hd (tw @hw (tw @ez.eq_1 @ad.eq_1)))))))) ?_;(repeat(refine Pn.mk ?_;intro N hN))))
   exact dU (b:=(k:Int)+1) (.inl rfl) (sd @Nat.zero_add) (by rw[Nv,xD iR (by rw[e]at hd;exact hd) fun j h hj=>pR j hj h])
 ·(try((repeat(revert hN;revert N;apply Pn.out));refine wk (tw @a5 (tw @a0 (tw @a1 (tw @hk @ad.eq_1)))) ?_;(repeat(refine Pn.mk ?_;intro N hN))))
  exact dU (b:=0) (.inl rfl) (sd @Nat.zero_add) (by rw[Nv,AB fun j h=>pR j ae h];rfl)
theorem Jq (s:ay) (nm:ByteArray):au Tryz.prog 94 [.dv (ad s),.str nm] (.int .i64 (QD s nm)):=by
 refine au.body fF rfl fun hl n0=>?_
 have hlen:s.aq.length<=9223372036854775807:=by
  have h1:=(hl (.dv (ad s)) (by simp)).Es (a:=.sl (s.aq.map dD)) (by simp[ad])
  simpa using h1.len
 clear hl
 (try((repeat(revert hN;revert N;apply Pn.out));refine wk @ad.eq_1 ?_;(repeat(refine Pn.mk ?_;intro N hN))))
 refine bz (fun n env st=>∃k:Nat,n=(s.aq.length)-k/\k<=(s.aq.length)/\env 5=.int .i64 (k:Int)/\(∀j:Nat,j<k->∀h:j<s.aq.length,decide (s.aq[j].cI=nm)=false)) (s.aq.length) ⟨0,ae,ae,sl @ad.eq_1,fun _ h=>absurd h (Nat.not_lt_zero _)⟩ ?_
 rintro n_a env_a st_a ⟨k,rfl,ale,a5,pR⟩ eJ
 have a0:=eJ 0 (by kernel_rfl);have a1:=eJ 1 (by kernel_rfl)
 simp only[go_sem, ↓reduceIte,Nat.reduceEqDiff,Nat.reduceAdd,Nat.reduceSub,Nat.reduceLeDiff,reduceCtorEq,ad]at a0 a1
 clear eJ
 by_cases hk:(k:Int)<(s.aq.length:Int)
 ·have dx:∀{e:Env},(e 5=.int .i64 (IntKind.i64.wrap ((k:Int)+1)))->(∀h:k<s.aq.length,decide (s.aq[k].cI=nm)=false)->∃m0,m0<(s.aq.length)-k/\∃k:Nat,m0=(s.aq.length)-k/\k<=(s.aq.length)/\e 5=.int .i64 (k:Int)/\(∀j:Nat,j<k->∀h:j<s.aq.length,decide (s.aq[j].cI=nm)=false):=fun x1 x2=>⟨_,ae,k+1,rfl,ae,(by rw[x1,az ae]),(all_succ pR x2)⟩
  have iR:k<s.aq.length:=ae
  have gq:=CQ iR
  have e:=CP iR
  cases hd:decide ((qS s k).cI=nm)
  ·(try((repeat(revert hN;revert N;apply Pn.out));refine wk (tw @a5 (tw @a0 (tw @a1 (tw @hk (tw @gq (tw @hd (tw @dD.eq_1 @ad.eq_1))))))) ?_;(repeat(refine Pn.mk ?_;intro N hN))))
   exact dx (sd (tw @a5 (tw @a0 @a1))) (fun _=>by rw[e]at hd;exact hd)
  ·(try((repeat(revert hN;revert N;apply Pn.out));refine wk (tw @a5 (tw @a0 (tw @a1 (tw @hk (tw @gq (tw @hd (tw @dD.eq_1 @ad.eq_1))))))) ?_;(repeat(refine Pn.mk ?_;intro N hN))))
   exact dU (b:=(k:Int)) (.inl rfl) (sd @Nat.zero_add) (by rw[QD,xD iR (by rw[e]at hd;exact hd) fun j h hj=>pR j hj h])
 ·(try((repeat(revert hN;revert N;apply Pn.out));refine wk (tw @a5 (tw @a0 (tw @a1 (tw @hk @ad.eq_1)))) ?_;(repeat(refine Pn.mk ?_;intro N hN))))
  exact dU (b:=-1) (.inl rfl) (sd @Nat.zero_add) (by rw[QD,AB fun j h=>pR j ae h])
theorem Rj {s:ay} {i:Nat} (h:i<s.br.length):Nv s (rV s i).cI=i↔∀j,j<i->(rV s j).cI≠(rV s i).cI:=by
 constructor
 ·intro he j hj hc
  have iv:j<s.br.length:=ae
  have:s.br.findIdx (fun g:kE=>decide (g.cI=(rV s i).cI))<=j:=by
   rcases Nat.lt_or_ge j (s.br.findIdx fun g:kE=>decide (g.cI=(rV s i).cI))with eM|kC
   ·have:=List.not_of_lt_findIdx eM
    rw[<-B7 iv]at this
    simp[hc]at this
   ·exact kC
  unfold Nv jx at he
  split at he<;>omega
 ·intro hd
  exact xD h (by rw[<-B7 h];simp) fun j iv hj=>by rw[<-B7 iv];simpa using hd j hj
theorem SA {s:ay} {i:Nat} (h:i<s.aq.length):QD s (qS s i).cI=i↔∀j,j<i->(qS s j).cI≠(qS s i).cI:=by
 constructor
 ·intro he j hj hc
  have iv:j<s.aq.length:=ae
  have:s.aq.findIdx (fun g:jE=>decide (g.cI=(qS s i).cI))<=j:=by
   rcases Nat.lt_or_ge j (s.aq.findIdx fun g:jE=>decide (g.cI=(qS s i).cI))with eM|kC
   ·have:=List.not_of_lt_findIdx eM
    rw[<-CP iv]at this
    simp[hc]at this
   ·exact kC
  unfold QD jx at he
  split at he<;>omega
 ·intro hd
  exact xD h (by rw[<-CP h];simp) fun j iv hj=>by rw[<-CP iv];simpa using hd j hj
theorem O0 (s:ay) (hn:jj s) (hg:s.br.length<=1048576) (ht:s.aq.length<=1048576):au Tryz.prog 59 [.dv (ad s)] (.bool (tu s)):=by
 refine au.body fF rfl fun hl n0=>?_
 clear hl
 have VJ:∀i,i<s.br.length->(rV s i).cI.size<=9223372036854775807:=fun i hi=>hn.1 _ (by simp[rV,List.getD_eq_getElem?_getD,hi])
 have V1:∀i,i<s.aq.length->(qS s i).cI.size<=9223372036854775807:=fun i hi=>hn.2 _ (by simp[qS,List.getD_eq_getElem?_getD,hi])
 by_cases h1:(200:Int)<(s.br.length:Int)
 ·(try((repeat(revert hN;revert N;apply Pn.out));refine wk (tw @ad.eq_1 @h1) ?_;(repeat(refine Pn.mk ?_;intro N hN))))
  exact cu (b:=false) (.inl rfl) (sd @Nat.zero_add) (gO fun h=>by have:=h.wG;omega)
 by_cases h2:(s.aq.length:Int)<1
 ·(try((repeat(revert hN;revert N;apply Pn.out));refine wk (tw @ad.eq_1 (tw @h1 @h2)) ?_;(repeat(refine Pn.mk ?_;intro N hN))))
  exact cu (b:=false) (.inl rfl) (sd @Nat.zero_add) (gO fun h=>by have:=h.some;omega)
 by_cases h3:(160:Int)<(s.aq.length:Int)
 ·(try((repeat(revert hN;revert N;apply Pn.out));refine wk (tw @ad.eq_1 (tw @h1 (tw @h2 @h3))) ?_;(repeat(refine Pn.mk ?_;intro N hN))))
  exact cu (b:=false) (.inl rfl) (sd @Nat.zero_add) (gO fun h=>by have:=h.Bw;omega)
 (try((repeat(revert hN;revert N;apply Pn.out));refine wk (tw @ad.eq_1 (tw @h1 (tw @h2 @h3))) ?_;(repeat(refine Pn.mk ?_;intro N hN))))
 refine bz (fun n env st=>∃k:Nat,n=(s.br.length)-k/\k<=(s.br.length)/\env 3=.int .i64 (k:Int)/\(∀j:Nat,j<k->FA s j)) (s.br.length) ⟨0,ae,ae,sl @ad.eq_1,fun _ h=>absurd h (Nat.not_lt_zero _)⟩ ?_
 rintro n_a env_a st_a ⟨k,rfl,ale,a3,pR⟩ eJ
 have a0:=eJ 0 (by kernel_rfl)
 simp only[go_sem, ↓reduceIte,Nat.reduceEqDiff,Nat.reduceAdd,Nat.reduceSub,Nat.reduceLeDiff,reduceCtorEq,ad]at a0
 clear eJ
 by_cases hk:(k:Int)<(s.br.length:Int)
 ·have dx:∀{e:Env},(e 3=.int .i64 (IntKind.i64.wrap ((k:Int)+1)))->(FA s k)->∃m0,m0<(s.br.length)-k/\∃k:Nat,m0=(s.br.length)-k/\k<=(s.br.length)/\e 3=.int .i64 (k:Int)/\(∀j:Nat,j<k->FA s j):=fun x1 x2=>⟨_,ae,k+1,rfl,ae,(by rw[x1,az ae]),(all_succ pR x2)⟩
  have iR:k<s.br.length:=ae
  have gq:=B8 iR
  have s5:=H8 (rV s k).cI (VJ k iR)
  have NJ:=k6 (rV s k).iX 1 4
  have C9:=Jp s (rV s k).cI
  have ud:=Rj iR
  have lQ:(¬FA s k)->¬iF s:=fun h hp=>h (hp.WZ k iR)
  have hw:IntKind.i64.wrap ((k:Int)+1)=(k:Int)+1:=cD ae
  generalize tz:rV s k=gl at *
  cases hb:kD gl.cI
  ·rw[hb]at s5
   (repeat(first|((repeat(revert hN;revert N;apply Pn.out));refine wk (tw @a3 (tw @a0 (tw @hk (tw @gq (tw @ez.eq_1 @ad.eq_1))))) ?_;(repeat(refine Pn.mk ?_;intro N hN)))|((try apply Or.inl);refine⟨_,au.x (s5) (sd (tw @a3 (tw @a0 (tw @hk (tw @gq (tw @ez.eq_1 @ad.eq_1)))))),?_⟩;refine hN _ _ ?_;clear hN N)))
   exact cu (b:=false) (.inl rfl) (sd @Nat.zero_add) (gO (lQ fun h=>by rw[FA,tz,hb]at h;cases h.1))
  rw[hb]at s5
  cases ev:js gl.iX 1 4
  ·rw[ev]at NJ
   (repeat(first|((repeat(revert hN;revert N;apply Pn.out));refine wk (tw @a3 (tw @a0 (tw @hk (tw @gq (tw @ez.eq_1 @ad.eq_1))))) ?_;(repeat(refine Pn.mk ?_;intro N hN)))|((try apply Or.inl);refine⟨_,au.x (s5) (sd (tw @a3 (tw @a0 (tw @hk (tw @gq (tw @ez.eq_1 @ad.eq_1)))))),?_⟩;refine hN _ _ ?_;clear hN N)|((try apply Or.inl);refine⟨_,au.x (NJ) (sd (tw @a3 (tw @a0 (tw @hk (tw @gq (tw @ez.eq_1 @ad.eq_1)))))),?_⟩;refine hN _ _ ?_;clear hN N)))
   exact cu (b:=false) (.inl rfl) (sd @Nat.zero_add) (gO (lQ fun h=>by rw[FA,tz,ev]at h;cases h.2.1))
  rw[ev]at NJ
  rw[ad]at C9
  by_cases hq:Nv s gl.cI=(k:Int)
  ·have hd:decide (Nv s gl.cI+1=(k:Int)+1)=true:=decide_eq_true ae
   have nr:decide (Nv s gl.cI=(k:Int))=true:=decide_eq_true hq
   (repeat(first|((repeat(revert hN;revert N;apply Pn.out));refine wk (tw @a3 (tw @a0 (tw @hk (tw @gq (tw @hw (tw @hd (tw @nr (tw @ez.eq_1 @ad.eq_1)))))))) ?_;(repeat(refine Pn.mk ?_;intro N hN)))|((try apply Or.inl);refine⟨_,au.x (s5) (sd (tw @a3 (tw @a0 (tw @hk (tw @gq (tw @hw (tw @hd (tw @nr (tw @ez.eq_1 @ad.eq_1))))))))),?_⟩;refine hN _ _ ?_;clear hN N)|((try apply Or.inl);refine⟨_,au.x (NJ) (sd (tw @a3 (tw @a0 (tw @hk (tw @gq (tw @hw (tw @hd (tw @nr (tw @ez.eq_1 @ad.eq_1))))))))),?_⟩;refine hN _ _ ?_;clear hN N)|((try apply Or.inl);refine⟨_,au.x (C9) (sd (tw @a3 (tw @a0 (tw @hk (tw @gq (tw @hw (tw @hd (tw @nr (tw @ez.eq_1 @ad.eq_1))))))))),?_⟩;refine hN _ _ ?_;clear hN N)))
   exact dx (sd (tw @a3 (tw @a0 @hw))) (⟨by rw[tz];exact hb,by rw[tz];exact ev,fun j hj=>by rw[tz];exact ud.1 hq j hj⟩)
  ·have hd:decide (Nv s gl.cI+1=(k:Int)+1)=false:=decide_eq_false ae
   have nr:decide (Nv s gl.cI=(k:Int))=false:=decide_eq_false hq
   (repeat(first|((repeat(revert hN;revert N;apply Pn.out));refine wk (tw @a3 (tw @a0 (tw @hk (tw @gq (tw @hw (tw @hd (tw @nr (tw @ez.eq_1 @ad.eq_1)))))))) ?_;(repeat(refine Pn.mk ?_;intro N hN)))|((try apply Or.inl);refine⟨_,au.x (s5) (sd (tw @a3 (tw @a0 (tw @hk (tw @gq (tw @hw (tw @hd (tw @nr (tw @ez.eq_1 @ad.eq_1))))))))),?_⟩;refine hN _ _ ?_;clear hN N)|((try apply Or.inl);refine⟨_,au.x (NJ) (sd (tw @a3 (tw @a0 (tw @hk (tw @gq (tw @hw (tw @hd (tw @nr (tw @ez.eq_1 @ad.eq_1))))))))),?_⟩;refine hN _ _ ?_;clear hN N)|((try apply Or.inl);refine⟨_,au.x (C9) (sd (tw @a3 (tw @a0 (tw @hk (tw @gq (tw @hw (tw @hd (tw @nr (tw @ez.eq_1 @ad.eq_1))))))))),?_⟩;refine hN _ _ ?_;clear hN N)))
   exact cu (b:=false) (.inl rfl) (sd @Nat.zero_add) (gO (lQ fun h=>by
    rw[FA,tz]at h
    exact hq (ud.2 h.2.2)))
 ·have mU:k=s.br.length:=ae
  (try((repeat(revert hN;revert N;apply Pn.out));refine wk (tw @a3 (tw @a0 (tw @hk @ad.eq_1))) ?_;(repeat(refine Pn.mk ?_;intro N hN))))
  refine bz (fun n env st=>∃j:Nat,n=(s.aq.length)-j/\j<=(s.aq.length)/\env 5=.int .i64 (j:Int)/\(∀i:Nat,i<j->Dj s i)) (s.aq.length) ⟨0,ae,ae,sl (tw @a3 (tw @a0 @ad.eq_1)),fun _ h=>absurd h (Nat.not_lt_zero _)⟩ ?_
  rintro n_b env_b st_b ⟨j,rfl,ble,b5,bA0⟩ eW
  have b0:=eW 0 (by kernel_rfl)
  simp only[go_sem, ↓reduceIte,Nat.reduceEqDiff,Nat.reduceAdd,Nat.reduceSub,Nat.reduceLeDiff,reduceCtorEq,a3,a0,ad]at b0
  clear eW
  by_cases hj:(j:Int)<(s.aq.length:Int)
  ·have fh:∀{e:Env},(e 5=.int .i64 (IntKind.i64.wrap ((j:Int)+1)))->(Dj s j)->∃m0,m0<(s.aq.length)-j/\∃j:Nat,m0=(s.aq.length)-j/\j<=(s.aq.length)/\e 5=.int .i64 (j:Int)/\(∀i:Nat,i<j->Dj s i):=fun x1 x2=>⟨_,ae,j+1,rfl,ae,(by rw[x1,az ae]),(all_succ bA0 x2)⟩
   have oi:j<s.aq.length:=ae
   have nE:=CQ oi
   have s5:=H8 (qS s j).cI (V1 j oi)
   have C9:=Jq s (qS s j).cI
   have ud:=SA oi
   have lQ:(¬Dj s j)->¬iF s:=fun h hp=>h (hp.tok j oi)
   generalize htd:qS s j=tl at *
   cases hb:kD tl.cI
   ·rw[hb]at s5
    (repeat(first|((repeat(revert hN;revert N;apply Pn.out));refine wk (tw @b5 (tw @b0 (tw @hj (tw @nE (tw @dD.eq_1 @ad.eq_1))))) ?_;(repeat(refine Pn.mk ?_;intro N hN)))|((try apply Or.inl);refine⟨_,au.x (s5) (sd (tw @b5 (tw @b0 (tw @hj (tw @nE (tw @dD.eq_1 @ad.eq_1)))))),?_⟩;refine hN _ _ ?_;clear hN N)))
    exact cu (b:=false) (.inl rfl) (sd @Nat.zero_add) (gO (lQ fun h=>by rw[Dj,htd,hb]at h;cases h.1))
   rw[hb]at s5
   by_cases h4:(tl.ep.length:Int)=4
   ·have B9:decide ((tl.ep.length:Int)=4)=true:=decide_eq_true h4
    rw[ad]at C9
    by_cases hq:QD s tl.cI=(j:Int)
    ·have hd:decide (QD s tl.cI=(j:Int))=true:=decide_eq_true hq
     (repeat(first|((repeat(revert hN;revert N;apply Pn.out));refine wk (tw @b5 (tw @b0 (tw @hj (tw @nE (tw @B9 (tw @hd (tw @dD.eq_1 @ad.eq_1))))))) ?_;(repeat(refine Pn.mk ?_;intro N hN)))|((try apply Or.inl);refine⟨_,au.x (s5) (sd (tw @b5 (tw @b0 (tw @hj (tw @nE (tw @B9 (tw @hd (tw @dD.eq_1 @ad.eq_1)))))))),?_⟩;refine hN _ _ ?_;clear hN N)|((try apply Or.inl);refine⟨_,au.x (C9) (sd (tw @b5 (tw @b0 (tw @hj (tw @nE (tw @B9 (tw @hd (tw @dD.eq_1 @ad.eq_1)))))))),?_⟩;refine hN _ _ ?_;clear hN N)))
     refine bz (fun n env st=>∃i:Nat,n=(4)-i/\i<=(4)/\env 7=.int .i64 (i:Int)/\st.get ⟨59012007,st_b.next+1⟩=some ⟨true,2,[dD tl]⟩/\(∀x:Nat,x<i->js (tl.ep.getD x 0) 0 s.br.length=true)) (4) ⟨0,ae,ae,sl (tw @b5 (tw @b0 (tw @dD.eq_1 @ad.eq_1))),sl (tw @b5 (tw @b0 (tw @dD.eq_1 @ad.eq_1))),fun _ h=>absurd h (Nat.not_lt_zero _)⟩ ?_
     rintro n_c env_c st_c ⟨i,rfl,cle,c7,cg0,cA0⟩ iV
     have c0:=iV 0 (by kernel_rfl);have c5:=iV 5 (by kernel_rfl);have c6:=iV 6 (by kernel_rfl)
     simp only[go_sem, ↓reduceIte,Nat.reduceEqDiff,Nat.reduceAdd,Nat.reduceSub,Nat.reduceLeDiff,reduceCtorEq,b5,b0,dD,ad]at c0 c5 c6
     clear iV
     by_cases hi:(i:Int)<4
     ·have gQ:∀{e:Env} {gg:Rows},(e 7=.int .i64 (IntKind.i64.wrap ((i:Int)+1)))->(gg ⟨59012007,st_b.next+1⟩=some ⟨true,2,[dD tl]⟩)->(js (tl.ep.getD i 0) 0 s.br.length=true)->∃m0,m0<(4)-i/\∃i:Nat,m0=(4)-i/\i<=(4)/\e 7=.int .i64 (i:Int)/\gg ⟨59012007,st_b.next+1⟩=some ⟨true,2,[dD tl]⟩/\(∀x:Nat,x<i->js (tl.ep.getD x 0) 0 s.br.length=true):=fun x1 x2 x3=>⟨_,ae,i+1,rfl,ae,(by rw[x1,az ae]),x2,(all_succ cA0 x3)⟩
      have fU:i<tl.ep.length:=ae
      have jb:(tl.ep.map aJ)[i]? =some (aJ (tl.ep.getD i 0)):=getD_map aJ fU
      have sZ:tl.ep.getD i 0∈tl.ep:=by rw[List.getD_eq_getElem?_getD,List.getElem?_eq_getElem fU];exact List.getElem_mem fU
      have Lu:=k6 (tl.ep.getD i 0) 0 s.br.length
      generalize RK:tl.ep.getD i 0=gv at *
      cases hv:js gv 0 s.br.length
      ·rw[hv]at Lu
       (repeat(first|((repeat(revert hN;revert N;apply Pn.out));refine wk (tw @c7 (tw @cg0 (tw @c0 (tw @c5 (tw @c6 (tw @hi (tw @jb (tw @aJ.eq_1 (tw @dD.eq_1 @ad.eq_1))))))))) ?_;(repeat(refine Pn.mk ?_;intro N hN)))|((try apply Or.inl);refine⟨_,au.x (Lu) (sd (tw @c7 (tw @cg0 (tw @c0 (tw @c5 (tw @c6 (tw @hi (tw @jb (tw @aJ.eq_1 (tw @dD.eq_1 @ad.eq_1)))))))))),?_⟩;refine hN _ _ ?_;clear hN N)))
       exact cu (b:=false) (.inl rfl) (sd @Nat.zero_add) (gO (lQ fun h=>by
        rw[Dj,htd]at h
        have:=h.2.2.2 gv sZ
        rw[hv]at this;cases this))
      ·rw[hv]at Lu
       (repeat(first|((repeat(revert hN;revert N;apply Pn.out));refine wk (tw @c7 (tw @cg0 (tw @c0 (tw @c5 (tw @c6 (tw @hi (tw @jb (tw @aJ.eq_1 (tw @dD.eq_1 @ad.eq_1))))))))) ?_;(repeat(refine Pn.mk ?_;intro N hN)))|((try apply Or.inl);refine⟨_,au.x (Lu) (sd (tw @c7 (tw @cg0 (tw @c0 (tw @c5 (tw @c6 (tw @hi (tw @jb (tw @aJ.eq_1 (tw @dD.eq_1 @ad.eq_1)))))))))),?_⟩;refine hN _ _ ?_;clear hN N)))
       refine gQ ?_ ?_ (hv)
       all_goals simp only[go_sem, ↓reduceIte,Nat.reduceEqDiff,Nat.reduceAdd,Nat.reduceSub,Nat.reduceLeDiff,reduceCtorEq,c7,cg0,c0,c5,c6]
     ·have hi4:i=4:=ae
      (try((repeat(revert hN;revert N;apply Pn.out));refine wk (tw @c7 (tw @cg0 (tw @c0 (tw @c5 (tw @c6 (tw @hi (tw @dD.eq_1 @ad.eq_1))))))) ?_;(repeat(refine Pn.mk ?_;intro N hN))))
      exact fh (sd (tw @b5 (tw @b0 (tw @c7 (tw @cg0 (tw @c0 (tw @c5 @c6))))))) (⟨by rw[htd];exact hb,by rw[htd];omega,fun x hx=>(by rw[htd];exact ud.1 hq x hx),fun g hg=>by
       rw[htd]at hg
       obtain⟨x,hx,rfl⟩:=List.getElem_of_mem hg
       have:=cA0 x ae
       rwa [List.getD_eq_getElem?_getD,List.getElem?_eq_getElem hx]at this⟩)
    ·have hd:decide (QD s tl.cI=(j:Int))=false:=decide_eq_false hq
     (repeat(first|((repeat(revert hN;revert N;apply Pn.out));refine wk (tw @b5 (tw @b0 (tw @hj (tw @nE (tw @B9 (tw @hd (tw @dD.eq_1 @ad.eq_1))))))) ?_;(repeat(refine Pn.mk ?_;intro N hN)))|((try apply Or.inl);refine⟨_,au.x (s5) (sd (tw @b5 (tw @b0 (tw @hj (tw @nE (tw @B9 (tw @hd (tw @dD.eq_1 @ad.eq_1)))))))),?_⟩;refine hN _ _ ?_;clear hN N)|((try apply Or.inl);refine⟨_,au.x (C9) (sd (tw @b5 (tw @b0 (tw @hj (tw @nE (tw @B9 (tw @hd (tw @dD.eq_1 @ad.eq_1)))))))),?_⟩;refine hN _ _ ?_;clear hN N)))
     exact cu (b:=false) (.inl rfl) (sd @Nat.zero_add) (gO (lQ fun h=>by
      rw[Dj,htd]at h
      exact hq (ud.2 h.2.2.1)))
   ·have B9:decide ((tl.ep.length:Int)=4)=false:=decide_eq_false h4
    (repeat(first|((repeat(revert hN;revert N;apply Pn.out));refine wk (tw @b5 (tw @b0 (tw @hj (tw @nE (tw @B9 (tw @dD.eq_1 @ad.eq_1)))))) ?_;(repeat(refine Pn.mk ?_;intro N hN)))|((try apply Or.inl);refine⟨_,au.x (s5) (sd (tw @b5 (tw @b0 (tw @hj (tw @nE (tw @B9 (tw @dD.eq_1 @ad.eq_1))))))),?_⟩;refine hN _ _ ?_;clear hN N)))
    exact cu (b:=false) (.inl rfl) (sd @Nat.zero_add) (gO (lQ fun h=>by rw[Dj,htd]at h;have:=h.2.1;omega))
  ·(try((repeat(revert hN;revert N;apply Pn.out));refine wk (tw @b5 (tw @b0 (tw @hj @ad.eq_1))) ?_;(repeat(refine Pn.mk ?_;intro N hN))))
   exact cu (b:=true) (.inl rfl) (sd @Nat.zero_add) (E7 ⟨ae,ae,ae,fun i hi=>pR i ae,fun i hi=>bA0 i ae⟩)
end Go.Proofs.YtiabgllilcfheaaGreat.V

namespace Go.Proofs.YtiabgllilcfheaaGreat.V
def jH (a b:ar):Bool:=decide (a.fE<b.fE)||(decide (a.fE=b.fE)&&decide (a.fP<b.fP))
theorem xP {a b:ar}:jH a b=true↔a.fE<b.fE∨(a.fE=b.fE/\a.fP<b.fP):=by simp[jH]
theorem rn {a b:ar}:jH a b=false↔¬(a.fE<b.fE∨(a.fE=b.fE/\a.fP<b.fP)):=by rw[<-xP,Bool.not_eq_true]
theorem CD {a b:ar} (h1:a.fP=b.fP) (h2:a.fE=b.fE):a=b:=by cases a;cases b;simp_all
theorem jg {a b c:ar} (h:jH a b=true) (k:jH b c=true):jH a c=true:=by rw[xP]at *;omega
theorem jM {a:ar}:jH a a=false:=by rw[rn];omega
theorem L3 {a b:ar} (h:jH a b=true):jH b a=false:=by rw[xP]at h;rw[rn];omega
theorem Cs {a b:ar} (h:jH a b=false) (iN:a≠b):jH b a=true:=by
 rw[rn]at h;rw[xP]
 by_cases hy:a.fE=b.fE
 ·by_cases hx:a.fP=b.fP
  ·exact absurd (CD hx hy) iN
  ·omega
 ·omega
def tR (a b:Int):Int:=if a<b then -1 else if b<a then 1 else 0
def Pg (a b:Int):Int:=if a=0 then b else a
def tT (a b:ar):Int:=Pg (tR a.fE b.fE) (tR a.fP b.fP)
theorem xC (a b:ar):decide (tT a b<0)=jH a b:=by
 unfold tT Pg tR jH
 by_cases h1:a.fE<b.fE
 ·simp[h1]
 ·by_cases h2:b.fE<a.fE
  ·have:¬a.fE=b.fE:=ae
   simp[h1,h2,this]
  ·have:a.fE=b.fE:=ae
   by_cases h3:a.fP<b.fP
   ·simp[h1,h2,this,h3]
   ·by_cases h4:b.fP<a.fP<;>simp[h1,h2,this,h3,h4]
theorem IC (a b:ar):(tT a b=0)↔a=b:=by
 cases a;cases b
 unfold tT Pg tR
 simp only[ar.mk.injEq]
 split<;>(try split)<;>(try split)<;>(try split)<;>omega
def Mc:aa:=⟨⟨0,0⟩,0⟩
def aQ (l:List aa) (i:Nat):aa:=l.getD i Mc
theorem fm {l:List aa} {i:Nat} (h:i<l.length):aQ l i=l[i]:=by simp[aQ,List.getD_eq_getElem?_getD,h]
theorem fQ {l:List aa} {i:Nat} (h:i<l.length):aQ l i∈l:=by rw[fm h];exact List.getElem_mem h
def jt (l:List aa):Prop:=∀i j:Nat,i<j->j<l.length->jH (aQ l i).aV (aQ l j).aV=true
def rZ (l:List aa) (p:ar):Nat:=l.findIdx fun c=>decide (c.aV=p)
def eO (l:List aa) (p:ar):Int:=if rZ l p<l.length then(rZ l p:Int)else -1
def nS (l:List aa) (p:ar):Nat:=l.findIdx fun c=> !jH c.aV p
theorem Co {l:List aa} {p:ar} {i:Nat} (hi:i<=l.length) (h1:∀x,x<i->jH (aQ l x).aV p=true) (h2:i<l.length->jH (aQ l i).aV p=false):nS l p=i:=by
 unfold nS
 by_cases h:i<l.length
 ·rw[List.findIdx_eq h]
  refine⟨by have:=h2 h;rw[fm h]at this;simp[this],fun j hj=>?_⟩
  have:=h1 j hj
  rw[fm ae]at this
  simp[this]
 ·have:i=l.length:=ae
  subst this
  refine List.findIdx_eq_length_of_false fun x hx=>?_
  obtain⟨j,hj,rfl⟩:=List.getElem_of_mem hx
  have:=h1 j hj
  rw[fm hj]at this
  simp[this]
theorem Cr {l:List aa} {p:ar} (hR:jt l):eO l p=if nS l p<l.length/\(aQ l (nS l p)).aV=p then(nS l p:Int)else -1:=by
 by_cases h:∃i,i<l.length/\(aQ l i).aV=p
 ·obtain⟨i,hi,hp⟩:=h
  have h1:nS l p=i:=Co ae (fun x hx=>by rw[<-hp];exact hR x i hx hi) fun _=>by rw[hp];exact jM
  have h2:rZ l p=i:=by
   rw[rZ,List.findIdx_eq hi]
   refine⟨by rw[fm hi]at hp;simpa using hp,fun j hj=>?_⟩
   have:=hR j i hj hi
   rw[hp,fm ae]at this
   simp only[decide_eq_false_iff_not]
   intro hc
   rw[hc,jM]at this
   cases this
  rw[eO,h1,h2,if_pos hi,if_pos ⟨hi,hp⟩]
 ·have h2:¬rZ l p<l.length:=by
   rw[rZ,List.findIdx_lt_length]
   rintro⟨c,hc,he⟩
   obtain⟨j,hj,rfl⟩:=List.getElem_of_mem hc
   exact h ⟨j,hj,by rw[fm hj];simpa using he⟩
  rw[eO,if_neg h2,if_neg]
  rintro⟨h3,h4⟩
  exact h ⟨_,h3,h4⟩
theorem kZ {l:List aa} {p:ar} (h:0<=eO l p):(eO l p).toNat<l.length/\(aQ l (eO l p).toNat).aV=p:=by
 unfold eO at h ⊢
 split at h
 ·rename_i hc
  rw[if_pos hc]
  refine⟨ae,?_⟩
  have:=of_decide_eq_true (List.findIdx_getElem (p:=fun c:aa=>decide (c.aV=p)) (xs:=l) (w:=hc))
  rw[Int.toNat_natCast,fm hc]
  exact this
 ·omega
def fe (l:List aa) (p:ar):Int:=if 0<=eO l p then(aQ l (eO l p).toNat).bp else -1
end Go.Proofs.YtiabgllilcfheaaGreat.V

namespace Go.Proofs.YtiabgllilcfheaaGreat.V
open Go.RowKit
attribute [local irreducible] er wpOps fY Call
attribute [local go_sem] aF fC eR fN fK du upd cw K.av cQ AV.cells AV.cell rowOf rowsOf part ld rowAt bK cq dH dX gG bP dd eh fJ fa dw ea db da dM dP bV bd cU bU cW cV dV eb dZ cR bY dc dY bQ aD cY cF gF bD cL bW aY dn bj dI AV.undef bH bJ dQ dW dL dK cK ef eo cz ee ec cX cZ List.getD_cons_zero List.getD_cons_succ List.getD_nil List.all_cons List.all_nil Bool.and_true Bool.true_and Bool.and_self Bool.not_true Bool.not_false Option.map_some Option.map_none Option.bind_some Option.bind_none List.length_cons List.length_nil List.take_succ_cons List.take_zero List.take_nil List.drop_succ_cons List.drop_zero List.drop_nil List.head?_cons List.map_cons List.map_nil List.getElem?_cons_zero List.getElem?_cons_succ List.cons_append List.nil_append List.append_nil List.length_map List.set_cons_zero List.set_cons_succ Nat.reduceMul eq_self Int.toNat_natCast Int.natCast_nonneg and_self true_and and_true decide_true decide_false Bool.false_eq_true Nat.zero_add Nat.add_zero List.contains_cons List.contains_nil Bool.or_false Bool.false_or beq_self_eq_true Nat.reduceBEq ne_eq not_true_eq_false not_false_eq_true Id.mk.injEq false_and and_false Nat.reduceLT Int.reduceLE Int.reduceLT Int.reduceToNat Int.reduceNeg Int.reduceAdd Nat.le_refl List.length_append beq_true beq_false Bool.not_eq_eq_eq_not or_false false_or eu ai aj aP bh bZ cm aW bx aK bf cP bI
theorem mM (a b:ar):au Tryz.prog 88 [.agg (ah a),.agg (ah b)] (.bool (jH a b)):=by
 refine au.body fF rfl fun hl n0=>?_
 clear hl
 by_cases h0:a.fE<b.fE
 ·(try((repeat(revert hN;revert N;apply Pn.out));refine wk (tw @ah.eq_1 @h0) ?_;(repeat(refine Pn.mk ?_;intro N hN))))
  exact cu (b:=true) (.inl rfl) (sd @Nat.zero_add) (by simp[jH,h0])
 ·by_cases h1:a.fE=b.fE
  ·have h2:¬b.fE<b.fE:=ae
   (try((repeat(revert hN;revert N;apply Pn.out));refine wk (tw @ah.eq_1 (tw @h1 @h2)) ?_;(repeat(refine Pn.mk ?_;intro N hN))))
   exact cu (b:=decide (a.fP<b.fP)) (.inl rfl) (sd @Nat.zero_add) (by simp[jH,h1])
  ·(try((repeat(revert hN;revert N;apply Pn.out));refine wk (tw @ah.eq_1 (tw @h0 @h1)) ?_;(repeat(refine Pn.mk ?_;intro N hN))))
   exact cu (b:=false) (.inl rfl) (sd @Nat.zero_add) (by simp[jH,h0,h1])
theorem fR {l:List aa} {i:Nat} (h:i<l.length):(l.map ab)[i]? =some (ab (aQ l i)):=getD_map ab h
def Dg (l:List aa) (i:Nat):Prop:=zf (aQ l i).aV=true/\js (aQ l i).bp 0 159=true/\(0<i->jH (aQ l (i-1)).aV (aQ l i).aV=true)
structure jz (l:List aa):Prop where
 nO:l.length<=500
 ok:∀i,i<l.length->Dg l i
noncomputable def qt (l:List aa):Bool:=@decide (jz l) (Classical.propDecidable _)
theorem vm {l:List aa}:qt l=true↔jz l:=by simp[qt]
theorem lj {l:List aa} (h:¬jz l):false=qt l:=by simp[qt,h]
theorem AE {l:List aa} (h:jz l):true=qt l:=by simp[qt,h]
theorem jz.om {l:List aa} (h:jz l):jt l:=by
 intro i j Gd hj
 induction j with
 |zero=>omega
 |succ j ih=>
  have h1:=(h.ok (j+1) hj).2.2 ae
  rw[Nat.add_sub_cancel]at h1
  by_cases he:i=j
  ·subst he;exact h1
  ·exact jg (ih ae ae) h1
theorem jz.pt {l:List aa} (h:jz l) {i:Nat} (hi:i<l.length):zf (aQ l i).aV=true:=(h.ok i hi).1
theorem qM {p:ar} (h:zf p=true):iB p.fP/\iB p.fE:=by
 unfold zf at h
 simp only[Bool.and_eq_true]at h
 have:=eL h.1;have:=eL h.2
 unfold iB;omega
theorem Jr (l:List aa):au Tryz.prog 53 [.dv [.sl (l.map ab)]] (.bool (qt l)):=by
 refine au.body fF rfl fun hl n0=>?_
 clear hl
 by_cases h1:(500:Int)<(l.length:Int)
 ·(try((repeat(revert hN;revert N;apply Pn.out));refine wk @h1 ?_;(repeat(refine Pn.mk ?_;intro N hN))))
  exact cu (b:=false) (.inl rfl) (sd @Nat.zero_add) (lj fun h=>by have:=h.nO;omega)
 (try((repeat(revert hN;revert N;apply Pn.out));refine wk @h1 ?_;(repeat(refine Pn.mk ?_;intro N hN))))
 refine bz (fun n env st=>∃k:Nat,n=(l.length)-k/\k<=(l.length)/\env 3=.int .i64 (k:Int)/\(∀j:Nat,j<k->Dg l j)) (l.length) ⟨0,ae,ae,sl @Nat.zero_add,fun _ h=>absurd h (Nat.not_lt_zero _)⟩ ?_
 rintro n_a env_a st_a ⟨k,rfl,ale,a3,pR⟩ eJ
 have a0:=eJ 0 (by kernel_rfl)
 simp only[go_sem, ↓reduceIte,Nat.reduceEqDiff,Nat.reduceAdd,Nat.reduceSub,Nat.reduceLeDiff,reduceCtorEq]at a0
 clear eJ
 by_cases hk:(k:Int)<(l.length:Int)
 ·have dx:∀{e:Env},(e 3=.int .i64 (IntKind.i64.wrap ((k:Int)+1)))->(Dg l k)->∃m0,m0<(l.length)-k/\∃k:Nat,m0=(l.length)-k/\k<=(l.length)/\e 3=.int .i64 (k:Int)/\(∀j:Nat,j<k->Dg l j):=fun x1 x2=>⟨_,ae,k+1,rfl,ae,(by rw[x1,az ae]),(all_succ pR x2)⟩
  have iR:k<l.length:=ae
  have gq:=fR iR
  have lQ:(¬Dg l k)->¬jz l:=fun h hp=>h (hp.ok k iR)
  have hp:=tb (aQ l k).aV
  have ht:=k6 (aQ l k).bp 0 159
  cases b1:zf (aQ l k).aV
  ·rw[b1]at hp
   (repeat(first|((repeat(revert hN;revert N;apply Pn.out));refine wk (tw @a3 (tw @a0 (tw @hk (tw @gq (tw @ab.eq_1 @ah.eq_1))))) ?_;(repeat(refine Pn.mk ?_;intro N hN)))|((try apply Or.inl);refine⟨_,au.x (hp) (sd (tw @a3 (tw @a0 (tw @hk (tw @gq (tw @ab.eq_1 @ah.eq_1)))))),?_⟩;refine hN _ _ ?_;clear hN N)))
   exact cu (b:=false) (.inl rfl) (sd @Nat.zero_add) (lj (lQ fun h=>by rw[Dg,b1]at h;cases h.1))
  rw[b1]at hp
  cases b2:js (aQ l k).bp 0 159
  ·rw[b2]at ht
   (repeat(first|((repeat(revert hN;revert N;apply Pn.out));refine wk (tw @a3 (tw @a0 (tw @hk (tw @gq (tw @ab.eq_1 @ah.eq_1))))) ?_;(repeat(refine Pn.mk ?_;intro N hN)))|((try apply Or.inl);refine⟨_,au.x (hp) (sd (tw @a3 (tw @a0 (tw @hk (tw @gq (tw @ab.eq_1 @ah.eq_1)))))),?_⟩;refine hN _ _ ?_;clear hN N)|((try apply Or.inl);refine⟨_,au.x (ht) (sd (tw @a3 (tw @a0 (tw @hk (tw @gq (tw @ab.eq_1 @ah.eq_1)))))),?_⟩;refine hN _ _ ?_;clear hN N)))
   exact cu (b:=false) (.inl rfl) (sd @Nat.zero_add) (lj (lQ fun h=>by rw[Dg,b2]at h;cases h.2.1))
  rw[b2]at ht
  by_cases h0:(0:Int)<(k:Int)
  ·have uP:=fR (l:=l) (i:=k-1) ae
   have hw:IntKind.i64.wrap ((k:Int)-1)=((k-1:Nat):Int):=by rw[cD (by have:=iR;omega)];omega
   have hq:=mM (aQ l (k-1)).aV (aQ l k).aV
   cases b3:jH (aQ l (k-1)).aV (aQ l k).aV
   ·rw[b3]at hq
    (repeat(first|((repeat(revert hN;revert N;apply Pn.out));refine wk (tw @a3 (tw @a0 (tw @hk (tw @gq (tw @uP (tw @h0 (tw @hw (tw @ab.eq_1 @ah.eq_1)))))))) ?_;(repeat(refine Pn.mk ?_;intro N hN)))|((try apply Or.inl);refine⟨_,au.x (hp) (sd (tw @a3 (tw @a0 (tw @hk (tw @gq (tw @uP (tw @h0 (tw @hw (tw @ab.eq_1 @ah.eq_1))))))))),?_⟩;refine hN _ _ ?_;clear hN N)|((try apply Or.inl);refine⟨_,au.x (ht) (sd (tw @a3 (tw @a0 (tw @hk (tw @gq (tw @uP (tw @h0 (tw @hw (tw @ab.eq_1 @ah.eq_1))))))))),?_⟩;refine hN _ _ ?_;clear hN N)|((try apply Or.inl);refine⟨_,au.x (hq) (sd (tw @a3 (tw @a0 (tw @hk (tw @gq (tw @uP (tw @h0 (tw @hw (tw @ab.eq_1 @ah.eq_1))))))))),?_⟩;refine hN _ _ ?_;clear hN N)))
    exact cu (b:=false) (.inl rfl) (sd @Nat.zero_add) (lj (lQ fun h=>by have:=h.2.2 ae;rw[b3]at this;cases this))
   ·rw[b3]at hq
    (repeat(first|((repeat(revert hN;revert N;apply Pn.out));refine wk (tw @a3 (tw @a0 (tw @hk (tw @gq (tw @uP (tw @h0 (tw @hw (tw @ab.eq_1 @ah.eq_1)))))))) ?_;(repeat(refine Pn.mk ?_;intro N hN)))|((try apply Or.inl);refine⟨_,au.x (hp) (sd (tw @a3 (tw @a0 (tw @hk (tw @gq (tw @uP (tw @h0 (tw @hw (tw @ab.eq_1 @ah.eq_1))))))))),?_⟩;refine hN _ _ ?_;clear hN N)|((try apply Or.inl);refine⟨_,au.x (ht) (sd (tw @a3 (tw @a0 (tw @hk (tw @gq (tw @uP (tw @h0 (tw @hw (tw @ab.eq_1 @ah.eq_1))))))))),?_⟩;refine hN _ _ ?_;clear hN N)|((try apply Or.inl);refine⟨_,au.x (hq) (sd (tw @a3 (tw @a0 (tw @hk (tw @gq (tw @uP (tw @h0 (tw @hw (tw @ab.eq_1 @ah.eq_1))))))))),?_⟩;refine hN _ _ ?_;clear hN N)))
    exact dx (sd (tw @a3 @a0)) (⟨b1,b2,fun _=>b3⟩)
  ·have xk:k=0:=ae
   (repeat(first|((repeat(revert hN;revert N;apply Pn.out));refine wk (tw @a3 (tw @a0 (tw @hk (tw @gq (tw @h0 (tw @ab.eq_1 @ah.eq_1)))))) ?_;(repeat(refine Pn.mk ?_;intro N hN)))|((try apply Or.inl);refine⟨_,au.x (hp) (sd (tw @a3 (tw @a0 (tw @hk (tw @gq (tw @h0 (tw @ab.eq_1 @ah.eq_1))))))),?_⟩;refine hN _ _ ?_;clear hN N)|((try apply Or.inl);refine⟨_,au.x (ht) (sd (tw @a3 (tw @a0 (tw @hk (tw @gq (tw @h0 (tw @ab.eq_1 @ah.eq_1))))))),?_⟩;refine hN _ _ ?_;clear hN N)))
   exact dx (sd (tw @a3 @a0)) (⟨b1,b2,fun h=>ae⟩)
 ·(try((repeat(revert hN;revert N;apply Pn.out));refine wk (tw @a3 (tw @a0 @hk)) ?_;(repeat(refine Pn.mk ?_;intro N hN))))
  exact cu (b:=true) (.inl rfl) (sd @Nat.zero_add) (AE ⟨ae,fun i hi=>pR i ae⟩)
theorem AA (a b:Int):au Tryz.prog 111 [.int .i64 a,.int .i64 b] (.int .i64 (tR a b)):=by
 have nan:∀x:Int,au Tryz.prog 139 [.int .i64 x] (.bool false):=fun x=>by
  refine au.body fF rfl fun hl n0=>?_
  clear hl
  have e:decide (x=x)=true:=decide_eq_true rfl
  (try((repeat(revert hN;revert N;apply Pn.out));refine wk @e ?_;(repeat(refine Pn.mk ?_;intro N hN))))
  exact cu (b:=false) (.inl rfl) (sd @Nat.zero_add) rfl
 refine au.body fF rfl fun hl n0=>?_
 clear hl
 have ha:=nan a
 have hb:=nan b
 by_cases h1:a<b
 ·(repeat(first|((repeat(revert hN;revert N;apply Pn.out));refine wk @h1 ?_;(repeat(refine Pn.mk ?_;intro N hN)))|((try apply Or.inl);refine⟨_,au.x (ha) (sd @h1),?_⟩;refine hN _ _ ?_;clear hN N)|((try apply Or.inl);refine⟨_,au.x (hb) (sd @h1),?_⟩;refine hN _ _ ?_;clear hN N)))
  exact dU (b:=-1) (.inl rfl) (sd @Nat.zero_add) (by rw[tR,if_pos h1])
 by_cases h2:b<a
 ·(repeat(first|((repeat(revert hN;revert N;apply Pn.out));refine wk (tw @h1 @h2) ?_;(repeat(refine Pn.mk ?_;intro N hN)))|((try apply Or.inl);refine⟨_,au.x (ha) (sd (tw @h1 @h2)),?_⟩;refine hN _ _ ?_;clear hN N)|((try apply Or.inl);refine⟨_,au.x (hb) (sd (tw @h1 @h2)),?_⟩;refine hN _ _ ?_;clear hN N)))
  exact dU (b:=1) (.inl rfl) (sd @Nat.zero_add) (by rw[tR,if_neg h1,if_pos h2])
 ·(repeat(first|((repeat(revert hN;revert N;apply Pn.out));refine wk (tw @h1 @h2) ?_;(repeat(refine Pn.mk ?_;intro N hN)))|((try apply Or.inl);refine⟨_,au.x (ha) (sd (tw @h1 @h2)),?_⟩;refine hN _ _ ?_;clear hN N)|((try apply Or.inl);refine⟨_,au.x (hb) (sd (tw @h1 @h2)),?_⟩;refine hN _ _ ?_;clear hN N)))
  exact dU (b:=0) (.inl rfl) (sd @Nat.zero_add) (by rw[tR,if_neg h1,if_neg h2])
def Kp:List Int->Int
 |[]=>0
 |a::r=>if a=0 then Kp r else a
theorem Mi:∀{l:List Int} {k:Nat} (hk:k<l.length),l[k]≠0->(∀j (h:j<l.length),j<k->l[j]=0)->Kp l=l[k]
 |a::r,0,_,h,_=>by
  have h':a≠0:=h
  rw[Kp,if_neg h'];rfl
 |a::r,k+1,hk,h,h0=>by
  have h':a=0:=h0 0 (by simp) ae
  rw[Kp,if_pos h',Mi (k:=k) (by simpa using hk) h fun j hj AN=>h0 (j+1) (by simpa using hj) ae];rfl
theorem EU:∀{l:List Int},(∀j (h:j<l.length),l[j]=0)->Kp l=0
 |[],_=>rfl
 |a::r,h=>by
  have h':a=0:=h 0 (by simp)
  rw[Kp,if_pos h',EU fun j hj=>h (j+1) (by simpa using hj)]
theorem Ph (a b:Int):Kp [a,b]=Pg a b:=by
 unfold Pg
 by_cases h:a=0
 ·rw[Kp,if_pos h,if_pos h,Kp,Kp];split<;>simp_all
 ·rw[Kp,if_neg h,if_neg h]
theorem N7 (l:List Int):au Tryz.prog 110 [.sl (l.map aJ)] (.int .i64 (Kp l)):=by
 refine au.body fF rfl fun hl n0=>?_
 have hlen:l.length<=9223372036854775807:=by simpa using(hl (.sl (l.map aJ)) (by simp)).len
 clear hl
 (try((repeat(revert hN;revert N;apply Pn.out));refine wk @Nat.zero_add ?_;(repeat(refine Pn.mk ?_;intro N hN))))
 refine bz (fun n env st=>∃k:Nat,n=(l.length)-k/\k<=(l.length)/\env 8=.int .i64 (k:Int)/\(∀j:Nat,j<k->∀h:j<l.length,l[j]=0)) (l.length) ⟨0,ae,ae,sl @Nat.zero_add,fun _ h=>absurd h (Nat.not_lt_zero _)⟩ ?_
 rintro n_a env_a st_a ⟨k,rfl,ale,a8,pR⟩ eJ
 have a3:=eJ 3 (by kernel_rfl);have a6:=eJ 6 (by kernel_rfl);have a7:=eJ 7 (by kernel_rfl)
 simp only[go_sem, ↓reduceIte,Nat.reduceEqDiff,Nat.reduceAdd,Nat.reduceSub,Nat.reduceLeDiff,reduceCtorEq]at a3 a6 a7
 clear eJ
 by_cases hk:(k:Int)<(l.length:Int)
 ·have dx:∀{e:Env},(e 8=.int .i64 (IntKind.i64.wrap ((k:Int)+1)))->(∀h:k<l.length,l[k]=0)->∃m0,m0<(l.length)-k/\∃k:Nat,m0=(l.length)-k/\k<=(l.length)/\e 8=.int .i64 (k:Int)/\(∀j:Nat,j<k->∀h:j<l.length,l[j]=0):=fun x1 x2=>⟨_,ae,k+1,rfl,ae,(by rw[x1,az ae]),(all_succ pR x2)⟩
  have iR:k<l.length:=ae
  have gq:(l.map aJ)[k]? =some (aJ l[k]):=by simp[iR]
  generalize hv:l[k]=v at gq
  by_cases h0:v=0
  ·have e:decide (v=0)=true:=decide_eq_true h0
   (try((repeat(revert hN;revert N;apply Pn.out));refine wk (tw @a8 (tw @a3 (tw @a6 (tw @a7 (tw @e (tw @hk (tw @gq @aJ.eq_1))))))) ?_;(repeat(refine Pn.mk ?_;intro N hN))))
   exact dx (sd (tw @a8 (tw @a3 (tw @a6 @a7)))) (fun _=>hv.trans h0)
  ·have e:decide (v=0)=false:=decide_eq_false h0
   (try((repeat(revert hN;revert N;apply Pn.out));refine wk (tw @a8 (tw @a3 (tw @a6 (tw @a7 (tw @e (tw @hk (tw @gq @aJ.eq_1))))))) ?_;(repeat(refine Pn.mk ?_;intro N hN))))
   exact dU (b:=v) (.inl rfl) (sd @Nat.zero_add) (by rw[Mi iR (by rw[hv];exact h0) fun j h hj=>pR j hj h,hv])
 ·(try((repeat(revert hN;revert N;apply Pn.out));refine wk (tw @a8 (tw @a3 (tw @a6 (tw @a7 @hk)))) ?_;(repeat(refine Pn.mk ?_;intro N hN))))
  exact dU (b:=0) (.inl rfl) (sd @Nat.zero_add) (by rw[EU fun j h=>pR j ae h])
section
attribute [local go_sem] List.drop_zero List.take_succ_cons List.take_zero List.length_cons List.length_nil iW B4 qv
theorem ph (a b:ar):au Tryz.prog 84 [.agg (ah a),.agg (ah b)] (.int .i64 (tT a b)):=by
 refine au.body fF rfl fun hl n0=>?_
 clear hl
 have h1:=AA a.fE b.fE
 have h2:=AA a.fP b.fP
 have h3:=N7 [tR a.fE b.fE,tR a.fP b.fP]
 rw[Ph,List.map_cons,List.map_cons,List.map_nil,aJ,aJ]at h3
 (repeat(first|((repeat(revert hN;revert N;apply Pn.out));refine wk @ah.eq_1 ?_;(repeat(refine Pn.mk ?_;intro N hN)))|((try apply Or.inl);refine⟨_,au.x (h1) (sd @ah.eq_1),?_⟩;refine hN _ _ ?_;clear hN N)|((try apply Or.inl);refine⟨_,au.x (h2) (sd @ah.eq_1),?_⟩;refine hN _ _ ?_;clear hN N)|((try apply Or.inl);refine⟨_,au.x (h3) (sd @ah.eq_1),?_⟩;refine hN _ _ ?_;clear hN N)))
 exact dU (b:=tT a b) (.inl rfl) (by simp only[go_sem, ↓reduceIte,Nat.reduceEqDiff,Nat.reduceAdd,Nat.reduceSub,Nat.reduceLeDiff,reduceCtorEq,tT]) rfl
end
theorem OQ (a b:ar):au Tryz.prog 79 [.agg (ah a),.agg (ah b)] (.bool (jH a b)):=by
 refine au.body fF rfl fun hl n0=>?_
 clear hl
 have h1:=ph a b
 rw[ah,ah]at h1
 (repeat(first|((repeat(revert hN;revert N;apply Pn.out));refine wk @ah.eq_1 ?_;(repeat(refine Pn.mk ?_;intro N hN)))|((try apply Or.inl);refine⟨_,au.x (h1) (sd @ah.eq_1),?_⟩;refine hN _ _ ?_;clear hN N)))
 exact cu (b:=decide (tT a b<0)) (.inl rfl) (sd @Nat.zero_add) (xC a b)
theorem lF (t:aa) (p:ar):au Tryz.prog 68 [.agg (ab t),.agg (ah p)] (.int .i64 (tT t.aV p)):=by
 refine au.body fF rfl fun hl n0=>?_
 clear hl
 have h1:=ph t.aV p
 rw[ah,ah]at h1
 (repeat(first|((repeat(revert hN;revert N;apply Pn.out));refine wk (tw @ab.eq_1 @ah.eq_1) ?_;(repeat(refine Pn.mk ?_;intro N hN)))|((try apply Or.inl);refine⟨_,au.x (h1) (sd (tw @ab.eq_1 @ah.eq_1)),?_⟩;refine hN _ _ ?_;clear hN N)))
 exact dU (b:=tT t.aV p) (.inl rfl) (sd @Nat.zero_add) rfl
theorem vp (l:List aa):au Tryz.prog 43 [.agg [.sl (l.map ab)]] (.bool (qt l)):=by
 refine au.body fF rfl fun hl n0=>?_
 have hlen:l.length<=9223372036854775807:=by
  have h1:=(hl (.agg [.sl (l.map ab)]) (by simp)).QW (a:=.sl (l.map ab)) (by simp)
  simpa using h1.len
 clear hl
 (try((repeat(revert hN;revert N;apply Pn.out));refine wk @Nat.zero_add ?_;(repeat(refine Pn.mk ?_;intro N hN))))
 refine bz (fun n env st=>∃k:Nat,n=(l.length)-k/\k<=(l.length)/\env 8=.int .i64 (k:Int)/\st.get ⟨43000000,n0⟩=some ⟨true,1,[[.sl (l.map ab)]]⟩/\(∀j:Nat,j<k->Dg l j)) (l.length) ⟨0,ae,ae,sl @Nat.zero_add,sl @Nat.zero_add,fun _ h=>absurd h (Nat.not_lt_zero _)⟩ ?_
 rintro n_a env_a st_a ⟨k,rfl,ale,a8,ag0,pR⟩ eJ
 have a1:=eJ 1 (by kernel_rfl);have a6:=eJ 6 (by kernel_rfl);have a7:=eJ 7 (by kernel_rfl)
 simp only[go_sem, ↓reduceIte,Nat.reduceEqDiff,Nat.reduceAdd,Nat.reduceSub,Nat.reduceLeDiff,reduceCtorEq]at a1 a6 a7
 clear eJ
 by_cases hk:(k:Int)<(l.length:Int)
 ·have dx:∀{e:Env} {gg:Rows},(e 8=.int .i64 (IntKind.i64.wrap ((k:Int)+1)))->(gg ⟨43000000,n0⟩=some ⟨true,1,[[.sl (l.map ab)]]⟩)->(Dg l k)->∃m0,m0<(l.length)-k/\∃k:Nat,m0=(l.length)-k/\k<=(l.length)/\e 8=.int .i64 (k:Int)/\gg ⟨43000000,n0⟩=some ⟨true,1,[[.sl (l.map ab)]]⟩/\(∀j:Nat,j<k->Dg l j):=fun x1 x2 x3=>⟨_,ae,k+1,rfl,ae,(by rw[x1,az ae]),x2,(all_succ pR x3)⟩
  have iR:k<l.length:=ae
  have gq:=fR iR
  have lQ:(¬Dg l k)->¬jz l:=fun h hp=>h (hp.ok k iR)
  have hp:=tJ (aQ l k).aV
  have ht:=AZ (aQ l k).bp 160 ae ae
  rw[show(160:Int)-1=159 from rfl]at ht
  cases b1:zf (aQ l k).aV
  ·rw[b1]at hp
   (repeat(first|((repeat(revert hN;revert N;apply Pn.out));refine wk (tw @a8 (tw @ag0 (tw @a1 (tw @a6 (tw @a7 (tw @hk (tw @gq (tw @ab.eq_1 @ah.eq_1)))))))) ?_;(repeat(refine Pn.mk ?_;intro N hN)))|((try apply Or.inl);refine⟨_,au.x (hp) (sd (tw @a8 (tw @ag0 (tw @a1 (tw @a6 (tw @a7 (tw @hk (tw @gq (tw @ab.eq_1 @ah.eq_1))))))))),?_⟩;refine hN _ _ ?_;clear hN N)))
   exact cu (b:=false) (.inl rfl) (sd @Nat.zero_add) (lj (lQ fun h=>by rw[Dg,b1]at h;cases h.1))
  rw[b1]at hp
  cases b2:js (aQ l k).bp 0 159
  ·rw[b2]at ht
   (repeat(first|((repeat(revert hN;revert N;apply Pn.out));refine wk (tw @a8 (tw @ag0 (tw @a1 (tw @a6 (tw @a7 (tw @hk (tw @gq (tw @ab.eq_1 @ah.eq_1)))))))) ?_;(repeat(refine Pn.mk ?_;intro N hN)))|((try apply Or.inl);refine⟨_,au.x (hp) (sd (tw @a8 (tw @ag0 (tw @a1 (tw @a6 (tw @a7 (tw @hk (tw @gq (tw @ab.eq_1 @ah.eq_1))))))))),?_⟩;refine hN _ _ ?_;clear hN N)|((try apply Or.inl);refine⟨_,au.x (ht) (sd (tw @a8 (tw @ag0 (tw @a1 (tw @a6 (tw @a7 (tw @hk (tw @gq (tw @ab.eq_1 @ah.eq_1))))))))),?_⟩;refine hN _ _ ?_;clear hN N)))
   exact cu (b:=false) (.inl rfl) (sd @Nat.zero_add) (lj (lQ fun h=>by rw[Dg,b2]at h;cases h.2.1))
  rw[b2]at ht
  by_cases h0:(0:Int)<(k:Int)
  ·have uP:=fR (l:=l) (i:=k-1) ae
   have hw:IntKind.i64.wrap ((k:Int)-1)=((k-1:Nat):Int):=by rw[cD ae];omega
   have hq:=OQ (aQ l (k-1)).aV (aQ l k).aV
   cases b3:jH (aQ l (k-1)).aV (aQ l k).aV
   ·rw[b3]at hq
    (repeat(first|((repeat(revert hN;revert N;apply Pn.out));refine wk (tw @a8 (tw @ag0 (tw @a1 (tw @a6 (tw @a7 (tw @hk (tw @gq (tw @uP (tw @h0 (tw @hw (tw @ab.eq_1 @ah.eq_1))))))))))) ?_;(repeat(refine Pn.mk ?_;intro N hN)))|((try apply Or.inl);refine⟨_,au.x (hp) (sd (tw @a8 (tw @ag0 (tw @a1 (tw @a6 (tw @a7 (tw @hk (tw @gq (tw @uP (tw @h0 (tw @hw (tw @ab.eq_1 @ah.eq_1)))))))))))),?_⟩;refine hN _ _ ?_;clear hN N)|((try apply Or.inl);refine⟨_,au.x (ht) (sd (tw @a8 (tw @ag0 (tw @a1 (tw @a6 (tw @a7 (tw @hk (tw @gq (tw @uP (tw @h0 (tw @hw (tw @ab.eq_1 @ah.eq_1)))))))))))),?_⟩;refine hN _ _ ?_;clear hN N)|((try apply Or.inl);refine⟨_,au.x (hq) (sd (tw @a8 (tw @ag0 (tw @a1 (tw @a6 (tw @a7 (tw @hk (tw @gq (tw @uP (tw @h0 (tw @hw (tw @ab.eq_1 @ah.eq_1)))))))))))),?_⟩;refine hN _ _ ?_;clear hN N)))
    exact cu (b:=false) (.inl rfl) (sd @Nat.zero_add) (lj (lQ fun h=>by have:=h.2.2 ae;rw[b3]at this;cases this))
   ·rw[b3]at hq
    (repeat(first|((repeat(revert hN;revert N;apply Pn.out));refine wk (tw @a8 (tw @ag0 (tw @a1 (tw @a6 (tw @a7 (tw @hk (tw @gq (tw @uP (tw @h0 (tw @hw (tw @ab.eq_1 @ah.eq_1))))))))))) ?_;(repeat(refine Pn.mk ?_;intro N hN)))|((try apply Or.inl);refine⟨_,au.x (hp) (sd (tw @a8 (tw @ag0 (tw @a1 (tw @a6 (tw @a7 (tw @hk (tw @gq (tw @uP (tw @h0 (tw @hw (tw @ab.eq_1 @ah.eq_1)))))))))))),?_⟩;refine hN _ _ ?_;clear hN N)|((try apply Or.inl);refine⟨_,au.x (ht) (sd (tw @a8 (tw @ag0 (tw @a1 (tw @a6 (tw @a7 (tw @hk (tw @gq (tw @uP (tw @h0 (tw @hw (tw @ab.eq_1 @ah.eq_1)))))))))))),?_⟩;refine hN _ _ ?_;clear hN N)|((try apply Or.inl);refine⟨_,au.x (hq) (sd (tw @a8 (tw @ag0 (tw @a1 (tw @a6 (tw @a7 (tw @hk (tw @gq (tw @uP (tw @h0 (tw @hw (tw @ab.eq_1 @ah.eq_1)))))))))))),?_⟩;refine hN _ _ ?_;clear hN N)))
    refine dx ?_ ?_ (⟨b1,b2,fun _=>b3⟩)
    all_goals simp only[go_sem, ↓reduceIte,Nat.reduceEqDiff,Nat.reduceAdd,Nat.reduceSub,Nat.reduceLeDiff,reduceCtorEq,a8,ag0,a1,a6,a7]
  ·have xk:k=0:=ae
   (repeat(first|((repeat(revert hN;revert N;apply Pn.out));refine wk (tw @a8 (tw @ag0 (tw @a1 (tw @a6 (tw @a7 (tw @hk (tw @gq (tw @h0 (tw @ab.eq_1 @ah.eq_1))))))))) ?_;(repeat(refine Pn.mk ?_;intro N hN)))|((try apply Or.inl);refine⟨_,au.x (hp) (sd (tw @a8 (tw @ag0 (tw @a1 (tw @a6 (tw @a7 (tw @hk (tw @gq (tw @h0 (tw @ab.eq_1 @ah.eq_1)))))))))),?_⟩;refine hN _ _ ?_;clear hN N)|((try apply Or.inl);refine⟨_,au.x (ht) (sd (tw @a8 (tw @ag0 (tw @a1 (tw @a6 (tw @a7 (tw @hk (tw @gq (tw @h0 (tw @ab.eq_1 @ah.eq_1)))))))))),?_⟩;refine hN _ _ ?_;clear hN N)))
   refine dx ?_ ?_ (⟨b1,b2,fun h=>ae⟩)
   all_goals simp only[go_sem, ↓reduceIte,Nat.reduceEqDiff,Nat.reduceAdd,Nat.reduceSub,Nat.reduceLeDiff,reduceCtorEq,a8,ag0,a1,a6,a7]
 ·(try((repeat(revert hN;revert N;apply Pn.out));refine wk (tw @a8 (tw @ag0 (tw @a1 (tw @a6 (tw @a7 @hk))))) ?_;(repeat(refine Pn.mk ?_;intro N hN))))
  refine cu (b:=decide ((l.length:Int)<=500)) (.inl rfl) (sd @Nat.zero_add) ?_
  by_cases h5:(l.length:Int)<=500
  ·rw[decide_eq_true h5];exact AE ⟨ae,fun i hi=>pR i ae⟩
  ·rw[decide_eq_false h5];exact lj fun h=>by have:=h.nO;omega
theorem Ax (cells:List aa) (p:ar) (hR:jt cells) (I0:cells.length<=1048576):
  au Tryz.prog 67 [.sl (cells.map ab),.agg (ah p),.fn 68 []] (.ib [.int .i64 (nS cells p),.bool (decide (nS cells p<cells.length)&&decide ((aQ cells (nS cells p)).aV=p))]):=by
 refine au.body fF rfl fun hl n0=>?_
 clear hl
 (try((repeat(revert hN;revert N;apply Pn.out));refine wk @ah.eq_1 ?_;(repeat(refine Pn.mk ?_;intro N hN))))
 refine bz (fun n env st=>∃i j:Nat,n=j-i/\i<=j/\j<=cells.length/\(∀x,x<i->jH (aQ cells x).aV p=true)/\(∀x,j<=x->x<cells.length->jH (aQ cells x).aV p=false)/\env 9=.int .i64 i/\env 10=.int .i64 j/\st.get ⟨67000000,n0⟩=some ⟨true,2,[ah p]⟩) cells.length ⟨0,cells.length,ae,ae,ae,fun x h=>ae,fun x h1 h2=>ae,by(simp only[go_sem, ↓reduceIte,Nat.reduceEqDiff,Nat.reduceAdd,Nat.reduceSub,Nat.reduceLeDiff,reduceCtorEq])<;>rfl,sd @Nat.zero_add,sd @ah.eq_1⟩ ?_
 rintro n env st ⟨i,j,rfl,Gd,hj,kI,Fs,h9,DW,hg⟩ fr
 have h0:=fr 0 (by kernel_rfl)
 have h2:=fr 2 (by kernel_rfl)
 have h4:=fr 4 (by kernel_rfl)
 have h8:=fr 8 (by kernel_rfl)
 simp only[go_sem, ↓reduceIte,Nat.reduceEqDiff,Nat.reduceAdd,Nat.reduceSub,Nat.reduceLeDiff,reduceCtorEq]at h0 h2 h4 h8
 clear fr
 by_cases eM:(i:Int)<(j:Int)
 ·have e1:IntKind.i64.wrap ((i:Int)+j)=((i+j:Nat):Int):=by rw[cD ae];rfl
  have hm:(i+j) / 2<cells.length:=ae
  have ji:(cells.map ab)[(i+j) / 2]? =some (ab (aQ cells ((i+j) / 2))):=fR (l:=cells) hm
  have e2:IntKind.i64.wrap ((IntKind.u64.wrap ((i+j:Nat):Int)).fdiv (2 ^ min 1 IntKind.u64.bits))=(((i+j) / 2:Nat):Int):=by
   have h:IntKind.u64.wrap ((i+j:Nat):Int)=((i+j:Nat):Int):=by rw[IntKind.wrap_u64];omega
   rw[h,show min 1 IntKind.u64.bits=1 from rfl,show((2:Int) ^ 1)=2 from rfl,Int.fdiv_eq_ediv_of_nonneg _ ae]
   rw[cD ae];omega
  have U7:IntKind.i64.wrap ((IntKind.u64.wrap ((i+j:Nat):Int)).fdiv (2 ^ min 1 64))=(((i+j) / 2:Nat):Int):=e2
  have e3:=az (k:=(i+j) / 2) ae
  by_cases hc:tT (aQ cells ((i+j) / 2)).aV p<0
  ·have hl:jH (aQ cells ((i+j) / 2)).aV p=true:=by rw[<-xC];simpa using hc
   (repeat(first|((repeat(revert hN;revert N;apply Pn.out));refine wk (tw @h0 (tw @h2 (tw @h4 (tw @h8 (tw @h9 (tw @DW (tw @hg (tw @eM (tw @e1 (tw @e2 (tw @U7 (tw @ji (tw @hc (tw @ab.eq_1 @ah.eq_1)))))))))))))) ?_;(repeat(refine Pn.mk ?_;intro N hN)))|((try apply Or.inl);refine⟨_,au.x (lF (aQ cells ((i+j) / 2)) p) (sd (tw @h0 (tw @h2 (tw @h4 (tw @h8 (tw @h9 (tw @DW (tw @hg (tw @eM (tw @e1 (tw @e2 (tw @U7 (tw @ji (tw @hc (tw @ab.eq_1 @ah.eq_1))))))))))))))),?_⟩;refine hN _ _ ?_;clear hN N)))
   refine⟨_,?_,(i+j) / 2+1,j,rfl,ae,hj,fun x hx=>?_,Fs,sd @e3,sd @DW,sd (tw @hg @ah.eq_1)⟩
   ·omega
   ·by_cases NN:x=(i+j) / 2
    ·subst NN;exact hl
    ·exact jg (hR x _ ae hm) hl
  ·have hl:jH (aQ cells ((i+j) / 2)).aV p=false:=by rw[<-xC];simpa using hc
   (repeat(first|((repeat(revert hN;revert N;apply Pn.out));refine wk (tw @h0 (tw @h2 (tw @h4 (tw @h8 (tw @h9 (tw @DW (tw @hg (tw @eM (tw @e1 (tw @e2 (tw @U7 (tw @ji (tw @hc (tw @ab.eq_1 @ah.eq_1)))))))))))))) ?_;(repeat(refine Pn.mk ?_;intro N hN)))|((try apply Or.inl);refine⟨_,au.x (lF (aQ cells ((i+j) / 2)) p) (sd (tw @h0 (tw @h2 (tw @h4 (tw @h8 (tw @h9 (tw @DW (tw @hg (tw @eM (tw @e1 (tw @e2 (tw @U7 (tw @ji (tw @hc (tw @ab.eq_1 @ah.eq_1))))))))))))))),?_⟩;refine hN _ _ ?_;clear hN N)))
   refine⟨_,?_,i,(i+j) / 2,rfl,ae,ae,kI,fun x h1 h2=>?_,sd @h9,sd (tw @e2 @U7),sd (tw @hg @ah.eq_1)⟩
   ·omega
   ·by_cases NN:x=(i+j) / 2
    ·subst NN;exact hl
    ·rw[Bool.eq_false_iff]
     intro hc
     have h3:=jg (hR ((i+j) / 2) x ae h2) hc
     rw[hl]at h3;cases h3
 ·have RM:i=j:=ae
  subst RM
  have D9:nS cells p=i:=Co hj kI fun h=>Fs i (Nat.le_refl _) h
  by_cases hn:(i:Int)<(cells.length:Int)
  ·have fU:i<cells.length:=ae
   have ji:(cells.map ab)[i]? =some (ab (aQ cells i)):=fR (l:=cells) fU
   have hd:decide (tT (aQ cells i).aV p=0)=decide ((aQ cells i).aV=p):=by simp only[IC]
   (repeat(first|((repeat(revert hN;revert N;apply Pn.out));refine wk (tw @h0 (tw @h2 (tw @h4 (tw @h8 (tw @h9 (tw @DW (tw @hg (tw @eM (tw @hn (tw @ji (tw @ab.eq_1 @ah.eq_1))))))))))) ?_;(repeat(refine Pn.mk ?_;intro N hN)))|((try apply Or.inl);refine⟨_,au.x (lF (aQ cells i) p) (sd (tw @h0 (tw @h2 (tw @h4 (tw @h8 (tw @h9 (tw @DW (tw @hg (tw @eM (tw @hn (tw @ji (tw @ab.eq_1 @ah.eq_1)))))))))))),?_⟩;refine hN _ _ ?_;clear hN N)))
   refine jL (.inl rfl) (r1:=.int .i64 i) (r2:=.bool (decide ((aQ cells i).aV=p))) ?_ ?_ ?_
   ·simp only[go_sem, ↓reduceIte,Nat.reduceEqDiff,Nat.reduceAdd,Nat.reduceSub,Nat.reduceLeDiff,reduceCtorEq]
   ·simp only[go_sem, ↓reduceIte,Nat.reduceEqDiff,Nat.reduceAdd,Nat.reduceSub,Nat.reduceLeDiff,reduceCtorEq,hd]
   ·simp only[fu,bF,cH,eK,fD,Option.map_some,D9,fU,decide_true,Bool.true_and]
  ·have fU:¬i<cells.length:=ae
   (try((repeat(revert hN;revert N;apply Pn.out));refine wk (tw @h0 (tw @h2 (tw @h4 (tw @h8 (tw @h9 (tw @DW (tw @hg (tw @eM (tw @hn (tw @ab.eq_1 @ah.eq_1)))))))))) ?_;(repeat(refine Pn.mk ?_;intro N hN))))
   refine jL (.inl rfl) (r1:=.int .i64 i) (r2:=.bool false) ?_ ?_ ?_
   ·simp only[go_sem, ↓reduceIte,Nat.reduceEqDiff,Nat.reduceAdd,Nat.reduceSub,Nat.reduceLeDiff,reduceCtorEq]
   ·simp only[go_sem, ↓reduceIte,Nat.reduceEqDiff,Nat.reduceAdd,Nat.reduceSub,Nat.reduceLeDiff,reduceCtorEq]
   ·simp only[fu,bF,cH,eK,fD,Option.map_some,D9,fU,decide_false,Bool.false_and]
theorem JM (l:List aa) (p:ar) (hR:jt l) (I0:l.length<=1048576):au Tryz.prog 191 [.agg [.sl (l.map ab)],.agg (ah p)] (.int .i64 (eO l p)):=by
 refine au.body fF rfl fun hl n0=>?_
 clear hl
 rw[Cr hR]
 have hb:=Ax l p hR I0
 rw[ah]at hb
 cases hf:(decide (nS l p<l.length)&&decide ((aQ l (nS l p)).aV=p))
 ·rw[hf]at hb
  (repeat(first|((repeat(revert hN;revert N;apply Pn.out));refine wk @ah.eq_1 ?_;(repeat(refine Pn.mk ?_;intro N hN)))|((try apply Or.inl);refine⟨_,au.x (hb) (sd @ah.eq_1),?_⟩;refine hN _ _ ?_;clear hN N)))
  exact dU (b:=-1) (.inl rfl) (sd @Nat.zero_add) (by rw[if_neg];intro h;simp[h.1,h.2]at hf)
 ·rw[hf]at hb
  (repeat(first|((repeat(revert hN;revert N;apply Pn.out));refine wk @ah.eq_1 ?_;(repeat(refine Pn.mk ?_;intro N hN)))|((try apply Or.inl);refine⟨_,au.x (hb) (sd @ah.eq_1),?_⟩;refine hN _ _ ?_;clear hN N)))
  exact dU (b:=(nS l p:Int)) (.inl rfl) (sd @Nat.zero_add) (by rw[if_pos];simpa using hf)
theorem UU (l:List aa) (p:ar) (hR:jt l) (I0:l.length<=1048576):au Tryz.prog 35 [.agg [.sl (l.map ab)],.agg (ah p)] (.int .i64 (fe l p)):=by
 refine au.body fF rfl fun hl n0=>?_
 clear hl
 have hi:=Cr (l:=l) (p:=p) hR
 have hb:=Ax l p hR I0
 rw[ah]at hb
 cases hf:(decide (nS l p<l.length)&&decide ((aQ l (nS l p)).aV=p))
 ·rw[hf]at hb
  (repeat(first|((repeat(revert hN;revert N;apply Pn.out));refine wk @ah.eq_1 ?_;(repeat(refine Pn.mk ?_;intro N hN)))|((try apply Or.inl);refine⟨_,au.x (hb) (sd @ah.eq_1),?_⟩;refine hN _ _ ?_;clear hN N)))
  exact dU (b:=-1) (.inl rfl) (sd @Nat.zero_add) (by
   have hx:eO l p= -1:=by rw[hi,if_neg (by intro h;simp[h.1,h.2]at hf)]
   rw[fe,hx];rfl)
 ·rw[hf]at hb
  have hc:nS l p<l.length/\(aQ l (nS l p)).aV=p:=by simpa using hf
  have hg:=fR hc.1
  (repeat(first|((repeat(revert hN;revert N;apply Pn.out));refine wk (tw @ah.eq_1 (tw @hg @ab.eq_1)) ?_;(repeat(refine Pn.mk ?_;intro N hN)))|((try apply Or.inl);refine⟨_,au.x (hb) (sd (tw @ah.eq_1 (tw @hg @ab.eq_1))),?_⟩;refine hN _ _ ?_;clear hN N)))
  exact dU (b:=(aQ l (nS l p)).bp) (.inl rfl) (sd @Nat.zero_add) (by
   have hx:eO l p=(nS l p:Int):=by rw[hi,if_pos hc]
   rw[fe,hx,if_pos ae,Int.toNat_natCast])
theorem oL (l:List aa) (p:ar) (hR:jt l) (I0:l.length<=1048576):au Tryz.prog 72 [.dv [.sl (l.map ab)],.agg (ah p)] (.int .i64 (eO l p)):=by
 refine au.body fF rfl fun hl n0=>?_
 clear hl
 rw[Cr hR]
 (try((repeat(revert hN;revert N;apply Pn.out));refine wk @ah.eq_1 ?_;(repeat(refine Pn.mk ?_;intro N hN))))
 refine bz (fun n env st=>∃i j:Nat,n=j-i/\i<=j/\j<=l.length/\(∀x,x<i->jH (aQ l x).aV p=true)/\(∀x,j<=x->x<l.length->jH (aQ l x).aV p=false)/\env 5=.int .i64 i/\env 6=.int .i64 j/\st.get ⟨72000000,n0⟩=some ⟨true,2,[ah p]⟩) l.length ⟨0,l.length,ae,ae,ae,fun x h=>ae,fun x h1 h2=>ae,by(simp only[go_sem, ↓reduceIte,Nat.reduceEqDiff,Nat.reduceAdd,Nat.reduceSub,Nat.reduceLeDiff,reduceCtorEq])<;>rfl,sd @Nat.zero_add,sd @ah.eq_1⟩ ?_
 rintro n env st ⟨i,j,rfl,Gd,hj,kI,Fs,h5,h6,hg⟩ fr
 have h0:=fr 0 (by kernel_rfl)
 have h3:=fr 3 (by kernel_rfl)
 simp only[go_sem, ↓reduceIte,Nat.reduceEqDiff,Nat.reduceAdd,Nat.reduceSub,Nat.reduceLeDiff,reduceCtorEq]at h0 h3
 clear fr
 by_cases eM:(i:Int)<(j:Int)
 ·have e1:IntKind.i64.wrap ((i:Int)+j)=((i+j:Nat):Int):=by rw[cD ae];rfl
  have hm:(i+j) / 2<l.length:=ae
  have ji:=fR hm
  have e2:IntKind.i64.wrap (((i+j:Nat):Int).tdiv 2)=(((i+j) / 2:Nat):Int):=by
   rw[Int.tdiv_eq_ediv_of_nonneg ae,cD ae];omega
  have e3:=az (k:=(i+j) / 2) ae
  have hq:=mM (aQ l ((i+j) / 2)).aV p
  cases hl:jH (aQ l ((i+j) / 2)).aV p
  ·rw[hl]at hq
   (repeat(first|((repeat(revert hN;revert N;apply Pn.out));refine wk (tw @h0 (tw @h3 (tw @h5 (tw @h6 (tw @hg (tw @eM (tw @e1 (tw @e2 (tw @ji (tw @ab.eq_1 @ah.eq_1)))))))))) ?_;(repeat(refine Pn.mk ?_;intro N hN)))|((try apply Or.inl);refine⟨_,au.x (hq) (sd (tw @h0 (tw @h3 (tw @h5 (tw @h6 (tw @hg (tw @eM (tw @e1 (tw @e2 (tw @ji (tw @ab.eq_1 @ah.eq_1))))))))))),?_⟩;refine hN _ _ ?_;clear hN N)))
   refine⟨_,?_,i,(i+j) / 2,rfl,ae,ae,kI,fun x h1 h2=>?_,sd @h5,sd @e2,sd (tw @hg @ah.eq_1)⟩
   ·omega
   ·by_cases NN:x=(i+j) / 2
    ·subst NN;exact hl
    ·rw[Bool.eq_false_iff]
     intro hc
     have h3:=jg (hR ((i+j) / 2) x ae h2) hc
     rw[hl]at h3;cases h3
  ·rw[hl]at hq
   (repeat(first|((repeat(revert hN;revert N;apply Pn.out));refine wk (tw @h0 (tw @h3 (tw @h5 (tw @h6 (tw @hg (tw @eM (tw @e1 (tw @e2 (tw @ji (tw @ab.eq_1 @ah.eq_1)))))))))) ?_;(repeat(refine Pn.mk ?_;intro N hN)))|((try apply Or.inl);refine⟨_,au.x (hq) (sd (tw @h0 (tw @h3 (tw @h5 (tw @h6 (tw @hg (tw @eM (tw @e1 (tw @e2 (tw @ji (tw @ab.eq_1 @ah.eq_1))))))))))),?_⟩;refine hN _ _ ?_;clear hN N)))
   refine⟨_,?_,(i+j) / 2+1,j,rfl,ae,hj,fun x hx=>?_,Fs,sd @e3,sd @h6,sd (tw @hg @ah.eq_1)⟩
   ·omega
   ·by_cases NN:x=(i+j) / 2
    ·subst NN;exact hl
    ·exact jg (hR x _ ae hm) hl
 ·have RM:i=j:=ae
  subst RM
  have D9:nS l p=i:=Co hj kI fun h=>Fs i (Nat.le_refl _) h
  by_cases hn:(i:Int)<(l.length:Int)
  ·have fU:i<l.length:=ae
   have ji:=fR fU
   by_cases hp:(aQ l i).aV=p
   ·have hx:decide ((aQ l i).aV.fP=p.fP)=true:=decide_eq_true (by rw[hp])
    have hy:decide ((aQ l i).aV.fE=p.fE)=true:=decide_eq_true (by rw[hp])
    (try((repeat(revert hN;revert N;apply Pn.out));refine wk (tw @h0 (tw @h3 (tw @h5 (tw @h6 (tw @hg (tw @eM (tw @hn (tw @ji (tw @hx (tw @hy (tw @ab.eq_1 @ah.eq_1))))))))))) ?_;(repeat(refine Pn.mk ?_;intro N hN))))
    exact dU (b:=(i:Int)) (.inl rfl) (sd @Nat.zero_add) (by rw[D9,if_pos ⟨fU,hp⟩])
   ·by_cases hx:(aQ l i).aV.fP=p.fP
    ·have uR:decide ((aQ l i).aV.fP=p.fP)=true:=decide_eq_true hx
     have XJ:decide ((aQ l i).aV.fE=p.fE)=false:=decide_eq_false fun h=>hp (CD hx h)
     (try((repeat(revert hN;revert N;apply Pn.out));refine wk (tw @h0 (tw @h3 (tw @h5 (tw @h6 (tw @hg (tw @eM (tw @hn (tw @ji (tw @uR (tw @XJ (tw @ab.eq_1 @ah.eq_1))))))))))) ?_;(repeat(refine Pn.mk ?_;intro N hN))))
     exact dU (b:=-1) (.inl rfl) (sd @Nat.zero_add) (by rw[D9,if_neg fun h=>hp h.2])
    ·have uR:decide ((aQ l i).aV.fP=p.fP)=false:=decide_eq_false hx
     (try((repeat(revert hN;revert N;apply Pn.out));refine wk (tw @h0 (tw @h3 (tw @h5 (tw @h6 (tw @hg (tw @eM (tw @hn (tw @ji (tw @uR (tw @Bool.false_and (tw @ab.eq_1 @ah.eq_1))))))))))) ?_;(repeat(refine Pn.mk ?_;intro N hN))))
     exact dU (b:=-1) (.inl rfl) (sd @Nat.zero_add) (by rw[D9,if_neg fun h=>hp h.2])
  ·have fU:¬i<l.length:=ae
   (try((repeat(revert hN;revert N;apply Pn.out));refine wk (tw @h0 (tw @h3 (tw @h5 (tw @h6 (tw @hg (tw @eM (tw @hn (tw @ab.eq_1 @ah.eq_1)))))))) ?_;(repeat(refine Pn.mk ?_;intro N hN))))
   exact dU (b:=-1) (.inl rfl) (sd @Nat.zero_add) (by rw[D9,if_neg fun h=>fU h.1])
theorem xO (l:List aa) (p:ar) (hR:jt l) (I0:l.length<=1048576):au Tryz.prog 38 [.dv [.sl (l.map ab)],.agg (ah p)] (.int .i64 (fe l p)):=by
 refine au.body fF rfl fun hl n0=>?_
 clear hl
 have hb:=oL l p hR I0
 by_cases hi:eO l p<0
 ·rw[ah]at hb
  (repeat(first|((repeat(revert hN;revert N;apply Pn.out));refine wk (tw @ah.eq_1 @hi) ?_;(repeat(refine Pn.mk ?_;intro N hN)))|((try apply Or.inl);refine⟨_,au.x (hb) (sd (tw @ah.eq_1 @hi)),?_⟩;refine hN _ _ ?_;clear hN N)))
  exact dU (b:=-1) (.inl rfl) (sd @Nat.zero_add) (by rw[fe,if_neg ae])
 ·have h0:0<=eO l p:=ae
  have hg:=fR (kZ h0).1
  rw[ah]at hb
  (repeat(first|((repeat(revert hN;revert N;apply Pn.out));refine wk (tw @ah.eq_1 (tw @hi (tw @h0 (tw @hg @ab.eq_1)))) ?_;(repeat(refine Pn.mk ?_;intro N hN)))|((try apply Or.inl);refine⟨_,au.x (hb) (sd (tw @ah.eq_1 (tw @hi (tw @h0 (tw @hg @ab.eq_1))))),?_⟩;refine hN _ _ ?_;clear hN N)))
  exact dU (b:=(aQ l (eO l p).toNat).bp) (.inl rfl) (sd @Nat.zero_add) (by rw[fe,if_pos h0])
def gH (s:ay) (l:List aa):Prop:=jz l/\∀t∈l,eU s t.bp=true
noncomputable def rU (s:ay) (l:List aa):Bool:=qt l&&l.all fun t=>eU s t.bp
theorem nI {s:ay} {l:List aa}:rU s l=true↔gH s l:=by simp[rU,gH,vm]
theorem sQ:UM ab (fun c=>.agg (ab c)) 3 true:=⟨fun _=>rfl,fun _=>rfl,fun x g=>by simp only[ab,ai,aj,bx,aP,Option.map_some]⟩
theorem JG (s:ay) (t:aa) (hs:s.aq.length<=1048576):au Tryz.prog 103 [.agg (ab t),.dv (ad s)] (.bool (!eU s t.bp)):=by
 refine au.body fF rfl fun hl n0=>?_
 clear hl
 have h:=LQ s t.bp
 rw[ad]at h
 (repeat(first|((repeat(revert hN;revert N;apply Pn.out));refine wk (tw @ab.eq_1 @ad.eq_1) ?_;(repeat(refine Pn.mk ?_;intro N hN)))|((try apply Or.inl);refine⟨_,au.x (h) (sd (tw @ab.eq_1 @ad.eq_1)),?_⟩;refine hN _ _ ?_;clear hN N)))
 exact cu (b:= !eU s t.bp) (.inl rfl) (sd @Nat.zero_add) rfl
theorem PA (s:ay) (l:List aa) (hs:s.aq.length<=1048576) (hl:l.length<=1048576):au Tryz.prog 44 [.sl (l.map ab),.fn 103 [.dv (ad s)]] (.bool (l.any fun t=> !eU s t.bp)):=
 lX sQ (show BP Tryz.prog 44=some (Cb 44 66) by kernel_rfl)
  (show BP Tryz.prog 66=some (s9 66 3 true) by kernel_rfl) l hl _ _ _ rfl (fun g=>by rw[ai,aK,aj];rfl) (fun x _=>JG s x hs) fun g=>by rw[ai,aK,aj];rfl
theorem Hi {α:Type} (p:α->Bool) (l:List α):(!l.any fun t=> !p t)=l.all p:=by
 induction l with
 |nil=>rfl
 |cons x l ih=>simp only[List.any_cons,List.all_cons,<-ih];cases p x<;>simp
theorem pf (s:ay) (l:List aa) (hn:jj s) (hg:s.br.length<=1048576) (ht:s.aq.length<=1048576) (hs:∀t∈s.aq,t.ep.length<=1048576) (hl:l.length<=1048576):au Tryz.prog 76 [.agg (ad s),.agg [.sl (l.map ab)]] (.bool (tu s&&rU s l)):=by
 refine au.body fF rfl fun hl n0=>?_
 clear hl
 have h1:=FD s hn hg ht hs
 have h2:=vp l
 have h3:=PA s l ht hl
 rw[ad]at h1 h3
 cases b1:tu s
 ·rw[b1]at h1
  (repeat(first|((repeat(revert hN;revert N;apply Pn.out));refine wk @ad.eq_1 ?_;(repeat(refine Pn.mk ?_;intro N hN)))|((try apply Or.inl);refine⟨_,au.x (h1) (sd @ad.eq_1),?_⟩;refine hN _ _ ?_;clear hN N)))
  exact cu (b:=false) (.inl rfl) (sd @Nat.zero_add) rfl
 rw[b1]at h1
 cases b2:qt l
 ·rw[b2]at h2
  (repeat(first|((repeat(revert hN;revert N;apply Pn.out));refine wk @ad.eq_1 ?_;(repeat(refine Pn.mk ?_;intro N hN)))|((try apply Or.inl);refine⟨_,au.x (h1) (sd @ad.eq_1),?_⟩;refine hN _ _ ?_;clear hN N)|((try apply Or.inl);refine⟨_,au.x (h2) (sd @ad.eq_1),?_⟩;refine hN _ _ ?_;clear hN N)))
  exact cu (b:=false) (.inl rfl) (sd @Nat.zero_add) (by rw[rU,b2];rfl)
 rw[b2]at h2
 (repeat(first|((repeat(revert hN;revert N;apply Pn.out));refine wk @ad.eq_1 ?_;(repeat(refine Pn.mk ?_;intro N hN)))|((try apply Or.inl);refine⟨_,au.x (h1) (sd @ad.eq_1),?_⟩;refine hN _ _ ?_;clear hN N)|((try apply Or.inl);refine⟨_,au.x (h2) (sd @ad.eq_1),?_⟩;refine hN _ _ ?_;clear hN N)|((try apply Or.inl);refine⟨_,au.x (h3) (sd @ad.eq_1),?_⟩;refine hN _ _ ?_;clear hN N)))
 exact cu (b:= !(l.any fun t=> !eU s t.bp)) (.inl rfl) (sd @Nat.zero_add) (by rw[Hi,rU,b2];rfl)
theorem HV (s:ay) (l:List aa):au Tryz.prog 60 [.dv (ad s),.dv [.sl (l.map ab)]] (.bool (rU s l)):=by
 refine au.body fF rfl fun hl n0=>?_
 have hlen:l.length<=9223372036854775807:=by
  have h1:=(hl (.dv [.sl (l.map ab)]) (by simp)).Es (a:=.sl (l.map ab)) (by simp)
  simpa using h1.len
 clear hl
 have h2:=Jr l
 cases b2:qt l
 ·rw[b2]at h2
  (repeat(first|((repeat(revert hN;revert N;apply Pn.out));refine wk @Nat.zero_add ?_;(repeat(refine Pn.mk ?_;intro N hN)))|((try apply Or.inl);refine⟨_,au.x (h2) (sd @Nat.zero_add),?_⟩;refine hN _ _ ?_;clear hN N)))
  exact cu (b:=false) (.inl rfl) (sd @Nat.zero_add) (by rw[rU,b2];rfl)
 rw[b2]at h2
 (repeat(first|((repeat(revert hN;revert N;apply Pn.out));refine wk @Nat.zero_add ?_;(repeat(refine Pn.mk ?_;intro N hN)))|((try apply Or.inl);refine⟨_,au.x (h2) (sd @Nat.zero_add),?_⟩;refine hN _ _ ?_;clear hN N)))
 refine bz (fun n env st=>∃k:Nat,n=(l.length)-k/\k<=(l.length)/\env 5=.int .i64 (k:Int)/\(∀j:Nat,j<k->eU s (aQ l j).bp=true)) (l.length) ⟨0,ae,ae,sl @Nat.zero_add,fun _ h=>absurd h (Nat.not_lt_zero _)⟩ ?_
 rintro n_a env_a st_a ⟨k,rfl,ale,a5,pR⟩ eJ
 have a0:=eJ 0 (by kernel_rfl);have a1:=eJ 1 (by kernel_rfl)
 simp only[go_sem, ↓reduceIte,Nat.reduceEqDiff,Nat.reduceAdd,Nat.reduceSub,Nat.reduceLeDiff,reduceCtorEq]at a0 a1
 clear eJ
 by_cases hk:(k:Int)<(l.length:Int)
 ·have dx:∀{e:Env},(e 5=.int .i64 (IntKind.i64.wrap ((k:Int)+1)))->(eU s (aQ l k).bp=true)->∃m0,m0<(l.length)-k/\∃k:Nat,m0=(l.length)-k/\k<=(l.length)/\e 5=.int .i64 (k:Int)/\(∀j:Nat,j<k->eU s (aQ l j).bp=true):=fun x1 x2=>⟨_,ae,k+1,rfl,ae,(by rw[x1,az ae]),(all_succ pR x2)⟩
  have iR:k<l.length:=ae
  have gq:=fR iR
  have ht:=yR s (aQ l k).bp
  cases b3:eU s (aQ l k).bp
  ·rw[b3]at ht
   (repeat(first|((repeat(revert hN;revert N;apply Pn.out));refine wk (tw @a5 (tw @a0 (tw @a1 (tw @hk (tw @gq @ab.eq_1))))) ?_;(repeat(refine Pn.mk ?_;intro N hN)))|((try apply Or.inl);refine⟨_,au.x (ht) (sd (tw @a5 (tw @a0 (tw @a1 (tw @hk (tw @gq @ab.eq_1)))))),?_⟩;refine hN _ _ ?_;clear hN N)))
   exact cu (b:=false) (.inl rfl) (sd @Nat.zero_add) (by
    have:l.all (fun t=>eU s t.bp)=false:=List.all_eq_false.2 ⟨_,fQ iR,by rw[b3];simp⟩
    rw[rU,this,Bool.and_false])
  ·rw[b3]at ht
   (repeat(first|((repeat(revert hN;revert N;apply Pn.out));refine wk (tw @a5 (tw @a0 (tw @a1 (tw @hk (tw @gq @ab.eq_1))))) ?_;(repeat(refine Pn.mk ?_;intro N hN)))|((try apply Or.inl);refine⟨_,au.x (ht) (sd (tw @a5 (tw @a0 (tw @a1 (tw @hk (tw @gq @ab.eq_1)))))),?_⟩;refine hN _ _ ?_;clear hN N)))
   exact dx (sd (tw @a5 (tw @a0 @a1))) (b3)
 ·(try((repeat(revert hN;revert N;apply Pn.out));refine wk (tw @a5 (tw @a0 (tw @a1 @hk))) ?_;(repeat(refine Pn.mk ?_;intro N hN))))
  exact cu (b:=true) (.inl rfl) (sd @Nat.zero_add) (by
   have:l.all (fun t=>eU s t.bp)=true:=List.all_eq_true.2 fun t ht=>by
    obtain⟨j,hj,rfl⟩:=List.getElem_of_mem ht
    have:=pR j ae
    rwa [fm hj]at this
   rw[rU,b2,this];rfl)
theorem Ab (l:List aa) (hF:jz l) (i:Nat) (d:Int) (hi:i<l.length) (hd:js d 0 3=true):au Tryz.prog 123 [.dv [.sl (l.map ab)],.int .i64 i,.int .i64 d] (.int .i64 (eO l (dq (aQ l i).aV d))):=by
 refine au.body fF rfl fun hl n0=>?_
 clear hl
 have hg:=fR hi
 have hp:=qM (hF.pt hi)
 have h1:=rl (aQ l i).aV d hd hp.1 hp.2
 have h2:=oL l (dq (aQ l i).aV d) hF.om (by have:=hF.nO;omega)
 rw[ah]at h1 h2
 (repeat(first|((repeat(revert hN;revert N;apply Pn.out));refine wk (tw @ab.eq_1 (tw @hg @ah.eq_1)) ?_;(repeat(refine Pn.mk ?_;intro N hN)))|((try apply Or.inl);refine⟨_,au.x (h1) (sd (tw @ab.eq_1 (tw @hg @ah.eq_1))),?_⟩;refine hN _ _ ?_;clear hN N)|((try apply Or.inl);refine⟨_,au.x (h2) (sd (tw @ab.eq_1 (tw @hg @ah.eq_1))),?_⟩;refine hN _ _ ?_;clear hN N)))
 exact dU (b:=eO l (dq (aQ l i).aV d)) (.inl rfl) (sd @Nat.zero_add) rfl
end Go.Proofs.YtiabgllilcfheaaGreat.V

namespace Go.Proofs.YtiabgllilcfheaaGreat.V
open Go.RowKit
def isApp:iH->Bool
 | .append .. =>true
 |_=>false
variable {P:Program} {X:gP} {K:Env->ax->Prop} {env:Env} {σ:ax}
theorem QH {draw:Bool} {o:bc} {r:List bc} (_:isApp o.op=false) (h:∀N:AV->ax->Prop,(∀v s,wpOps X draw r K (upd env o.dst v) s->N v s)->if aF o.guard env then fC X draw o env σ N else N .undef σ):wpOps X draw (o::r) K env σ:=SI h
end Go.Proofs.YtiabgllilcfheaaGreat.V

namespace Go.Proofs.YtiabgllilcfheaaGreat.V
open Go.RowKit
section
variable {α:Type} {enc:α->List AV} {sz:Nat} {g g':Rows} {a:AV} {xs:List α} {ids:List Id}
end
abbrev Np (α:Type):=Rows->List AV->α->List Id->Prop
structure De {α:Type} (R:Np α) (sz:Nat):Prop where
 frame:∀{g g':Rows} {cs x ids},R g cs x ids->(∀i∈ids,g' i=g i)->R g' cs x ids
 len:∀{g cs x ids},R g cs x ids->cs.length=sz
 cell:∀{g cs x ids},R g cs x ids->cs.all AV.cell=true
 live:∀{g cs x ids},R g cs x ids->∀i∈ids,∃r,g i=some r/\r.w=true/\r.sz<xp
 small:sz<xp
inductive fX {α:Type} (R:Np α) (g:Rows):List (List AV)->List α->List Id->Prop
 |nil:fX R g [] [] []
 |cons {cs x i1 rs xs i2}:R g cs x i1->fX R g rs xs i2->fX R g (cs::rs) (x::xs) (i1++i2)
section
variable {α:Type} {R:Np α} {sz:Nat} {g g':Rows} {rows r1 r2:List (List AV)} {xs x1 x2:List α} {ids i1 i2:List Id}
theorem fX.len (h:fX R g rows xs ids):rows.length=xs.length:=by
 induction h with
 |nil=>rfl
 |cons _ _ ih=>simp[ih]
theorem fX.frame (ok:De R sz) (h:fX R g rows xs ids) (hf:∀i∈ids,g' i=g i):fX R g' rows xs ids:=by
 induction h with
 |nil=>exact .nil
 |cons h1 _ ih=>exact .cons (ok.frame h1 fun i hi=>hf i (List.mem_append_left _ hi)) (ih fun i hi=>hf i (List.mem_append_right _ hi))
theorem fX.app (h1:fX R g r1 x1 i1) (h2:fX R g r2 x2 i2):fX R g (r1++r2) (x1++x2) (i1++i2):=by
 induction h1 with
 |nil=>exact h2
 |cons h _ ih=>rw[List.append_assoc];exact .cons h ih
theorem fX.one {cs:List AV} {x:α} (h:R g cs x ids):fX R g [cs] [x] ids:=by
 have:=fX.cons h fX.nil
 rwa [List.append_nil]at this
theorem fX.split (h:fX R g rows xs ids):∀k (hk:k<xs.length),∃r1 cs r2 i1 ic i2,rows=r1++cs::r2/\r1.length=k/\ids=i1++(ic++i2)/\fX R g r1 (xs.take k) i1/\R g cs xs[k] ic/\fX R g r2 (xs.drop (k+1)) i2:=by
 induction h with
 |nil=>intro k hk;simp at hk
 |cons h1 h2 ih=>
  rename_i cs x j1 rs xs j2
  intro k hk
  cases k with
  |zero=>exact⟨[],cs,rs,[],j1,j2,rfl,rfl,rfl,.nil,h1,h2⟩
  |succ k=>
   obtain⟨r1,tU,r2,i1,ic,i2,rfl,hl,rfl,h3,h4,h5⟩:=ih k (by simpa using hk)
   exact⟨cs::r1,tU,r2,j1++i1,ic,i2,rfl,by simp[hl],by rw[List.append_assoc],.cons h1 h3,h4,h5⟩
theorem fX.at_ (h:fX R g rows xs ids) (k:Nat) (hk:k<xs.length):∃cs ic,rows[k]? =some cs/\R g cs xs[k] ic/\∀i∈ic,i∈ids:=by
 obtain⟨r1,cs,r2,i1,ic,i2,rfl,hl,rfl,h3,h4,h5⟩:=h.split k hk
 refine⟨cs,ic,by rw[List.getElem?_append_right ae];simp[hl],h4,fun i hi=>by simp[hi]⟩
theorem fX.fz {n:Nat} {e:α->List AV} (h:fX R g rows xs ids) (hz:∀{cs x ids},R g cs x ids->eC (eu g) n cs=some (e x)):eZ (eu g) n rows=some (xs.map e):=by
 induction h with
 |nil=>rw[eZ];rfl
 |cons h1 _ ih=>rw[eZ,hz h1,ih];rfl
end
section
variable {α:Type} {R:Np α} {sz:Nat} {g g':Rows} {a:AV} {xs:List α} {ids:List Id}
end
variable {P:Program} {X:gP} {K:Env->ax->Prop} {env:Env} {σ:ax}
def ox {α:Type} (enc:α->List AV) (sz:Nat) (x:AV) (g:Rows) (S:Id->Prop) (L:List α):Prop:=∃o:Id,S o/\x=.own o 0 L.length/\g o=some ⟨true,sz,L.map enc⟩
section
variable {α:Type} {enc:α->List AV} {sz:Nat} {x:AV} {g g':Rows} {S:Id->Prop} {L L':List α}
theorem ox.cast (h:ox enc sz x g S L) (hL:L'=L):ox enc sz x g S L':=by subst hL;exact h
theorem ox.frame (h:ox enc sz x g S L) (hg:∀o:Id,S o->g' o=g o):ox enc sz x g' S L:=by
 obtain⟨o,h1,h2,h3⟩:=h
 exact⟨o,h1,h2,(hg o h1).trans h3⟩
theorem ox.app (hz:∀a,(enc a).length=sz/\(enc a).all AV.cell=true) (h:ox enc sz x g S L) (id:Id) (hid:S id) (M:List α) (hlen:L.length+M.length<=dI):
  ∃v g',aY g id sz x (M.map enc)=some (v,g')/\ox enc sz v g' S (L++M)/\∀j:Id,¬S j->g' j=g j:=by
 obtain⟨o,h1,rfl,h4⟩:=h
 refine⟨.own id 0 (L.length+(M.map enc).length),bK (cq g o) id ⟨true,sz,L.map enc++M.map enc⟩,?_,⟨id,hid,by simp,by simp[bK]⟩,fun j hj=>?_⟩
 ·have ha:=all_map (l:=M) hz
  simp only[aY,h4,Option.bind_some]
  rw[if_pos ⟨trivial,trivial,by simp,by simpa using hlen,ha⟩]
 ·have e1:¬j=id:=fun h=>hj (h▸hid)
  have e2:¬j=o:=fun h=>hj (h▸h1)
  simp[bK,cq,e1,e2]
theorem SG {draw:Bool} {o:bc} {r:List bc} {x' y:O} {xv:AV} (M:List α) (ho:o.op=.append sz x' y) (hw:aF o.guard env=true) (hx:du env x'=xv) (hO:ox enc sz xv σ.get S L)
  (hy:bD σ.get (du env y)=some (M.map enc)) (hz:∀a,(enc a).length=sz/\(enc a).all AV.cell=true) (hid:S ⟨o.site,σ.next⟩) (hlen:L.length+M.length<=dI)
  (next:∀v g',ox enc sz v g' S (L++M)->(∀j:Id,¬S j->g' j=σ.get j)->wpOps X draw r K (upd env o.dst v) ⟨g',σ.next⟩):wpOps X draw (o::r) K env σ:=by
 obtain⟨v,g',h1,h2,h3⟩:=hO.app hz ⟨o.site,σ.next⟩ hid M hlen
 unfold wpOps
 rw[if_pos hw]
 unfold fC
 simp only[ho,fN,hy,hx,Option.bind_some,h1]
 exact next v g' h2 h3
theorem ox.gU {n:Nat} (h:ox enc sz x g S L) (he:∀a,fb g n (enc a)=some (enc a)):gU g (n+1) x=some (.sl (L.map enc)):=by
 obtain⟨o,_,rfl,h3⟩:=h
 exact eE h3 rfl he
end
theorem dp {a b:Id} (h:a.bt<b.bt):(a=b)=False/\(b=a)=False:=by
 constructor<;>(simp only[eq_iff_iff,iff_false];rintro rfl;omega)
theorem CJ {o:Id} {a:Nat} (h:o.site=a) {b v:Nat} (qz:(a==b)=false):(o=⟨b,v⟩)=False:=by
 simp only[eq_iff_iff,iff_false]
 rintro rfl
 simp only at h
 subst h
 simp at qz
def eN (n:Nat):List AV:=[.int .i64 n]
theorem zN:∀a:Nat,(eN a).length=1/\(eN a).all AV.cell=true:=fun _=>⟨rfl,rfl⟩
theorem fzN (g:Rows) (n:Nat) (a:Nat):eC g (n+1) (eN a)=some (eN a):=by simp[eN,ai,aj,aP]
theorem Rg (g:Rows) (n:Nat) (a:Nat):fb g (n+1) (eN a)=some (eN a):=by simp[eN,bF,cH,eK]
def T9:Np (List Nat):=fun g cs x ids=>∃id,cs=[.own id 0 x.length]/\g id=some ⟨true,1,x.map eN⟩/\ids=[id]
theorem Sf:De T9 1 where
 frame:=fun⟨id,h1,h2,h3⟩ hf=>by subst h3;exact⟨id,h1,(hf id (by simp)).trans h2,rfl⟩
 len:=fun⟨id,h1,_⟩=>by subst h1;rfl
 cell:=fun⟨id,h1,_⟩=>by subst h1;rfl
 live:=fun⟨id,h1,h2,h3⟩ i hi=>by
  subst h3
  have:i=id:=by simpa using hi
  subst this
  exact⟨_,h2,rfl,by simp[xp]⟩
 small:=by simp[xp]
def C4 (l:List Nat):List AV:=[.sl (l.map eN)]
theorem L1 {g:Rows} {rows:List (List AV)} {xs:List (List Nat)} {ids:List Id} (n:Nat) (h:fX T9 g rows xs ids):iu g (n+2) rows=some (xs.map C4):=by
 induction h with
 |nil=>rw[iu];rfl
 |cons h1 _ ih=>
  obtain⟨id,rfl,h2,_⟩:=h1
  rw[iu,ih,bF,cH,eE (e:=eN) (sz:=1) h2 rfl fun a=>Rg g n a];rfl
end Go.Proofs.YtiabgllilcfheaaGreat.V

namespace Go.Proofs.YtiabgllilcfheaaGreat.V
def bi (b:Bool):Int:=if b then 1 else 0
def nC (f:Nat->Int):Nat->Int
 |0=>0
 |n+1=>nC f n+f n
theorem jr {f g:Nat->Int}:∀{n:Nat},(∀i,i<n->f i=g i)->nC f n=nC g n
 |0,_=>rfl
 |n+1,h=>by
  simp only[nC]
  rw[jr fun i hi=>h i ae,h n ae]
theorem uD {f g:Nat->Int}:∀{n:Nat},(∀i,i<n->f i<=g i)->nC f n<=nC g n
 |0,_=>Int.le_refl _
 |n+1,h=>by
  simp only[nC]
  have:=uD (n:=n) fun i hi=>h i ae
  have:=h n ae
  omega
theorem kS:∀{n:Nat} {f:Nat->Int},(∀i,i<n->f i=0)->nC f n=0
 |0,_,_=>rfl
 |n+1,f,h=>by
  simp only[nC]
  rw[kS fun i hi=>h i ae,h n ae];rfl
theorem rK {f:Nat->Int} {a:Nat} {d:Int}:∀n,nC (fun i=>f i+if i=a then d else 0) n=nC f n+if a<n then d else 0
 |0=>by simp[nC]
 |n+1=>by
  simp only[nC]
  rw[rK n]
  by_cases h:n=a
  ·subst h;simp;omega
  ·rw[if_neg h]
   by_cases h2:a<n
   ·rw[if_pos h2,if_pos ae];omega
   ·rw[if_neg h2,if_neg ae];omega
def nM (n:Nat) (S:Nat->Bool) (f:Nat->Nat->Int):Int:=nC (fun u=>nC (fun v=>if S u&& !S v then f u v else 0) n) n
def bump (f:Nat->Nat->Int) (a b:Nat) (d:Int):Nat->Nat->Int:=fun u v=>f u v+if u=a/\v=b then d else 0
theorem q9 {n:Nat} {S:Nat->Bool} {f:Nat->Nat->Int} {a b:Nat} {d:Int} (ha:a<n) (hb:b<n):nM n S (bump f a b d)=nM n S f+if S a&& !S b then d else 0:=by
 unfold nM
 have h1:∀u,u<n->nC (fun v=>if S u&& !S v then bump f a b d u v else 0) n=nC (fun v=>if S u&& !S v then f u v else 0) n+if u=a then(if S a&& !S b then d else 0)else 0:=by
  intro u hu
  by_cases h:u=a
  ·subst h
   have h2:∀v,v<n->(if S u&& !S v then bump f u b d u v else 0)=(fun v=>if S u&& !S v then f u v else 0) v+if v=b then(if S u&& !S b then d else 0)else 0:=by
    intro v hv
    unfold bump
    by_cases h3:v=b
    ·subst h3;simp only[and_self,if_true];split<;>omega
    ·simp only[h3,and_false,if_false];split<;>omega
   rw[jr h2,rK,if_pos hb,if_pos rfl]
  ·rw[if_neg h,Int.add_zero]
   refine jr fun v hv=>?_
   unfold bump
   simp[h]
 rw[jr h1,rK,if_pos ha]
theorem Oa {n:Nat} {S:Nat->Bool} {f c:Nat->Nat->Int} (h:∀u v,u<n->v<n->f u v<=c u v):nM n S f<=nM n S c:=
 uD fun u hu=>uD fun v hv=>by split;exact h u v hu hv;exact Int.le_refl _
theorem N9 {n:Nat} {S:Nat->Bool} {f c:Nat->Nat->Int} (h:∀u v,u<n->v<n->S u=true->S v=false->f u v=c u v):nM n S f=nM n S c:=
 jr fun u hu=>jr fun v hv=>by
  split
  ·rename_i hc
   simp only[Bool.and_eq_true,Bool.not_eq_true']at hc
   exact h u v hu hv hc.1 hc.2
  ·rfl
def lK (f:Nat->Nat->Int) (a b:Nat):Nat->Nat->Int:=bump (bump f a b 1) b a (-1)
theorem IJ {n:Nat} {S:Nat->Bool} {f:Nat->Nat->Int} {a b:Nat} (ha:a<n) (hb:b<n):nM n S (lK f a b)=nM n S f+bi (S a)-bi (S b):=by
 unfold lK
 rw[q9 hb ha,q9 ha hb]
 cases S a<;>cases S b<;>simp[bi]<;>omega
def nJ (f:Nat->Nat->Int):List Nat->Nat->Nat->Int
 |a::b::r=>nJ (lK f a b) (b::r)
 |_=>f
def tH (f c:Nat->Nat->Int):List Nat->Prop
 |a::b::r=>f a b<c a b/\tH f c (b::r)
 |_=>True
theorem Dq {n:Nat} {S:Nat->Bool}:∀(r:List Nat) (a:Nat) (f:Nat->Nat->Int),(∀x∈a::r,x<n)->nM n S (nJ f (a::r))=nM n S f+bi (S a)-bi (S ((a::r).getLast (by simp)))
 |[],a,f,_=>by simp[nJ]
 |b::r,a,f,h=>by
  rw[nJ,Dq r b (lK f a b) fun x hx=>h x (List.mem_cons_of_mem _ hx),IJ (h a (by simp)) (h b (by simp)),List.getLast_cons_cons]
  generalize bi (S b)=q
  omega
theorem tH.less {f g c:Nat->Nat->Int}:∀{p:List Nat},tH f c p->(∀u,u∈p->∀v,g u v<=f u v)->tH g c p
 |[],_,_=>trivial
 |[_],_,_=>trivial
 |a::b::r,h,hl=>⟨Int.lt_of_le_of_lt (hl a (by simp) b) h.1,tH.less (p:=b::r) h.2 fun u hu=>hl u (List.mem_cons_of_mem _ hu)⟩
theorem Hj {n:Nat} {c:Nat->Nat->Int}:∀(p:List Nat) (f:Nat->Nat->Int),p.Nodup->tH f c p->(∀u v,u<n->v<n->f u v<=c u v)->∀u v,u<n->v<n->nJ f p u v<=c u v
 |[],f,_,_,h=>h
 |[_],f,_,_,h=>h
 |a::b::r,f,hn,hr,h=>by
  rw[nJ]
  have qz:a∉b::r:=(List.nodup_cons.1 hn).1
  refine Hj (b::r) _ (List.nodup_cons.1 hn).2 (hr.2.less fun u hu v=>?_) fun u v hu hv=>?_
  ·unfold lK bump
   have:u≠a:=by rintro rfl;exact qz hu
   simp only[this,false_and,if_false]
   split<;>omega
  ·have h0:=h u v hu hv
   have h1:=hr.1
   unfold lK bump
   by_cases e:u=a/\v=b
   ·obtain⟨rfl,rfl⟩:=e
    rw[if_pos ⟨rfl,rfl⟩];split<;>omega
   ·rw[if_neg e];split<;>omega
structure pb (n:Nat) (c f:Nat->Nat->Int) (x y:Nat) (val:Int):Prop where
 le:∀u v,u<n->v<n->f u v<=c u v
 cut:∀S:Nat->Bool,S x=true->S y=false->nM n S f=val
theorem pb.zero {n:Nat} {c:Nat->Nat->Int} {x y:Nat} (h:∀u v,u<n->v<n->0<=c u v):pb n c (fun _ _=>0) x y 0:=
 ⟨h,fun S _ _=>kS fun u hu=>kS fun v hv=>by split<;>rfl⟩
theorem pb.aug {n:Nat} {c f:Nat->Nat->Int} {x y:Nat} {val:Int} (h:pb n c f x y val) {r:List Nat} (hl:(x::r).getLast (by simp)=y) (hn:(x::r).Nodup) (hr:tH f c (x::r)) (hb:∀v∈x::r,v<n):pb n c (nJ f (x::r)) x y (val+1):=
 ⟨Hj _ _ hn hr h.le,fun S hx hy=>by rw[Dq r x f hb,hl,h.cut S hx hy,hx,hy];simp[bi]⟩
theorem pb.bound {n:Nat} {c f:Nat->Nat->Int} {x y:Nat} {val:Int} (h:pb n c f x y val) {S:Nat->Bool} (hx:S x=true) (hy:S y=false):val<=nM n S c:=by
 rw[<-h.cut S hx hy];exact Oa h.le
theorem pb.full {n:Nat} {c f:Nat->Nat->Int} {x y:Nat} {val:Int} (h:pb n c f x y val) {S:Nat->Bool} (hx:S x=true) (hy:S y=false) (hS:∀u v,u<n->v<n->S u=true->S v=false->¬f u v<c u v):val=nM n S c:=by
 rw[<-h.cut S hx hy]
 exact N9 fun u v hu hv h1 h2=>by have:=hS u v hu hv h1 h2;have:=h.le u v hu hv;omega
structure PB where
 a:Nat
 b:Nat
 s:Int
 deriving Inhabited
def dm (bs:List PB) (i:Nat):PB:=bs.getD i default
def jZ (S:Nat->Bool) (bs:List PB):Int:=(bs.map fun b=>if S b.a=S b.b then 0 else b.s).sum
def pC (c:Nat->Nat->Int) (b:PB):Nat->Nat->Int:=bump (bump c b.a b.b b.s) b.b b.a b.s
def mi (bs:List PB):Nat->Nat->Int:=bs.foldl pC fun _ _=>0
theorem GN (bs:List PB) (b:PB):mi (bs++[b])=pC (mi bs) b:=by simp[mi]
theorem DF {n:Nat} {S:Nat->Bool}:∀(bs:List PB) (c:Nat->Nat->Int),(∀b∈bs,b.a<n/\b.b<n)->nM n S (bs.foldl pC c)=nM n S c+jZ S bs
 |[],c,_=>by simp[jZ]
 |b::bs,c,h=>by
  have hb:=h b (by simp)
  rw[List.foldl_cons,DF bs _ fun x hx=>h x (List.mem_cons_of_mem _ hx)]
  unfold pC jZ
  rw[q9 hb.2 hb.1,q9 hb.1 hb.2,List.map_cons,List.sum_cons]
  cases S b.a<;>cases S b.b<;>simp<;>omega
theorem DG {n:Nat} {S:Nat->Bool} {bs:List PB} (h:∀b∈bs,b.a<n/\b.b<n):nM n S (mi bs)=jZ S bs:=by
 rw[mi,DF bs _ h]
 have:nM n S (fun _ _=>0)=0:=kS fun u hu=>kS fun v hv=>by split<;>rfl
 omega
theorem CG:∀(bs:List PB) (c:Nat->Nat->Int),(∀b∈bs,0<=b.s)->(∀u v,0<=c u v)->∀u v,0<=bs.foldl pC c u v
 |[],c,_,h=>h
 |b::bs,c,hb,h=>by
  rw[List.foldl_cons]
  refine CG bs _ (fun x hx=>hb x (List.mem_cons_of_mem _ hx)) fun u v=>?_
  have:=hb b (by simp);have:=h u v
  unfold pC bump
  split<;>split<;>omega
theorem room_le:∀(bs:List PB) (c:Nat->Nat->Int) (m:Int),(∀b∈bs,b.s<=4)->(∀u v,c u v<=m)->0<=m->∀u v,bs.foldl pC c u v<=m+8*bs.length
 |[],c,m,_,h,_=>fun u v=>by have:=h u v;simp;omega
 |b::bs,c,m,hb,h,h0=>fun u v=>by
  rw[List.foldl_cons]
  have:=room_le bs (pC c b) (m+8) (fun x hx=>hb x (List.mem_cons_of_mem _ hx)) (fun u v=>by
   have:=hb b (by simp);have:=h u v
   unfold pC bump
   split<;>split<;>omega) ae u v
  simp only[List.length_cons];omega
def lS (n:Nat) (bs:List PB) (t:Int):Prop:=∀S:Nat->Bool,S 0=true->(∃y,y<n/\S y=false)->t<=jZ S bs
def IH (S:Nat->Bool) (bs:List PB) (f:Nat->Int):Int:=nC (fun i=>f i*(bi (S (dm bs i).a)-bi (S (dm bs i).b))) bs.length
structure k9 (bs:List PB) (f:Nat->Int) (x y:Nat) (val:Int):Prop where
 le:∀i,i<bs.length->f i<=(dm bs i).s/\-(dm bs i).s<=f i
 cut:∀S:Nat->Bool,S x=true->S y=false->IH S bs f=val
theorem yk (S:Nat->Bool):∀bs:List PB,jZ S bs=nC (fun i=>if S (dm bs i).a=S (dm bs i).b then 0 else(dm bs i).s) bs.length:=by
 intro bs
 have key:∀n,n<=bs.length->jZ S (bs.take n)=nC (fun i=>if S (dm bs i).a=S (dm bs i).b then 0 else(dm bs i).s) n:=by
  intro n
  induction n with
  |zero=>intro _;rfl
  |succ n ih=>
   intro h
   have e:dm bs n=bs[n]:=by simp[dm,List.getD_eq_getElem?_getD,List.getElem?_eq_getElem (show n<bs.length by omega)]
   rw[List.take_succ_eq_append_getElem ae,nC,<-ih ae,e]
   unfold jZ
   rw[List.map_append,List.sum_append]
   simp only[List.map_cons,List.map_nil,List.sum_cons,List.sum_nil,Int.add_zero]
 have:=key bs.length (Nat.le_refl _)
 rwa [List.take_length]at this
theorem k9.bound {bs:List PB} {f:Nat->Int} {x y:Nat} {val:Int} (h:k9 bs f x y val) {S:Nat->Bool} (hx:S x=true) (hy:S y=false):val<=jZ S bs:=by
 rw[<-h.cut S hx hy,yk]
 refine uD fun i hi=>?_
 have:=h.le i hi
 cases S (dm bs i).a<;>cases S (dm bs i).b<;>simp[bi]<;>omega
def gR (bs:List PB) (f:Nat->Int) (i u:Nat):Int:=if (dm bs i).a=u then(dm bs i).s-f i else(dm bs i).s+f i
def dh (bs:List PB) (i u:Nat):Nat:=if (dm bs i).a=u then(dm bs i).b else(dm bs i).a
theorem k9.full {bs:List PB} {f:Nat->Int} {x y:Nat} {val:Int} (h:k9 bs f x y val) {S:Nat->Bool} (hx:S x=true) (hy:S y=false)
  (hS:∀i,i<bs.length->((dm bs i).a≠(dm bs i).b->(S (dm bs i).a=true->S (dm bs i).b=false->¬0<gR bs f i (dm bs i).a)/\(S (dm bs i).b=true->S (dm bs i).a=false->¬0<gR bs f i (dm bs i).b))):val=jZ S bs:=by
 rw[<-h.cut S hx hy,yk]
 refine jr fun i hi=>?_
 have h1:=h.le i hi
 by_cases qz:(dm bs i).a=(dm bs i).b
 ·rw[qz];simp
 ·have h2:=hS i hi qz
  unfold gR at h2
  rw[if_pos rfl,if_neg qz]at h2
  cases ha:S (dm bs i).a<;>cases hb:S (dm bs i).b<;>rw[ha,hb]at h2<;>simp[bi]at h2 ⊢ <;>omega
def wV (bs:List PB) (f:Nat->Int) (i u:Nat):Nat->Int:=fun j=>f j+if j=i then(if (dm bs i).a=u then 1 else -1)else 0
theorem II {S:Nat->Bool} {bs:List PB} {f:Nat->Int} {i u:Nat} (hi:i<bs.length) (hu:(dm bs i).a=u∨(dm bs i).b=u):IH S bs (wV bs f i u)=IH S bs f+bi (S u)-bi (S (dh bs i u)):=by
 unfold IH wV
 have e:∀j,j<bs.length->(f j+if j=i then(if (dm bs i).a=u then 1 else -1)else 0)*(bi (S (dm bs j).a)-bi (S (dm bs j).b))=(fun j=>f j*(bi (S (dm bs j).a)-bi (S (dm bs j).b))) j+if j=i then(if (dm bs i).a=u then 1 else -1)*(bi (S (dm bs i).a)-bi (S (dm bs i).b))else 0:=by
  intro j hj
  by_cases h:j=i
  ·subst h;simp only[if_true];rw[Int.add_mul]
  ·simp only[h,if_false];simp
 rw[jr e,rK,if_pos hi]
 unfold dh
 by_cases ha:(dm bs i).a=u
 ·rw[if_pos ha,if_pos ha,ha];omega
 ·rw[if_neg ha,if_neg ha]
  rcases hu with hu|hu
  ·exact absurd hu ha
  ·rw[hu];omega
theorem qI:∀(n:Nat) (l:List Nat),l.Nodup->(∀x∈l,x<n)->l.length<=n
 |0,l,_,h=>by
  cases l with
  |nil=>simp
  |cons x l=>exact absurd (h x (by simp)) ae
 |n+1,l,hn,h=>by
  have h1:=qI n (l.erase n) (hn.erase _) fun x hx=>by
   have h2:=(hn.mem_erase_iff).1 hx
   have h3:=h x h2.2
   have h4:=h2.1
   omega
  rw[List.length_erase]at h1
  split at h1<;>omega
def fA (L:Nat->Nat) (b:PB):Nat->Nat:=fun k=>if L k=max (L b.a) (L b.b)then min (L b.a) (L b.b)else L k
def fc (bs:List PB):Nat->Nat:=bs.foldl fA id
theorem yS (bs:List PB) (b:PB):fc (bs++[b])=fA (fc bs) b:=by simp[fc]
structure kr (L:Nat->Nat):Prop where
 le:∀k,L k<=k
 idem:∀k,L (L k)=L k
theorem kr.step {L:Nat->Nat} (h:kr L) (b:PB):kr (fA L b):=by
 have ha:=h.idem b.a
 have hb:=h.idem b.b
 refine⟨fun k=>?_,fun k=>?_⟩
 ·have:=h.le k
  unfold fA
  split<;>omega
 ·have hk:=h.idem k
  have hm:L (min (L b.a) (L b.b))=min (L b.a) (L b.b):=by
   rcases Nat.le_total (L b.a) (L b.b)with h1|h1
   ·rw[Nat.min_eq_left h1,ha]
   ·rw[Nat.min_eq_right h1,hb]
  unfold fA
  by_cases h1:L k=max (L b.a) (L b.b)
  ·rw[if_pos h1,hm];split<;>rfl
  ·rw[if_neg h1,hk,if_neg h1]
theorem yT:∀(bs:List PB) (L:Nat->Nat),kr L->kr (bs.foldl fA L)
 |[],_,h=>h
 |b::bs,L,h=>yT bs _ (h.step b)
theorem wP (bs:List PB):kr (fc bs):=yT bs id ⟨fun _=>Nat.le_refl _,fun _=>rfl⟩
def leads (n:Nat) (L:Nat->Nat):List Nat:=(List.range n).filter fun i=>L i==i
def members (n:Nat) (L:Nat->Nat) (i:Nat):List Nat:=(List.range n).filter fun k=>L k==i
def gJ (n:Nat) (L:Nat->Nat):List (List Nat):=(leads n L).map (members n L)
def de (L:Nat->Nat) (k:Nat):Nat:=(leads (L k) L).length
theorem iY (n:Nat) (L:Nat->Nat):leads (n+1) L=leads n L++if L n=n then[n]else[]:=by
 unfold leads
 rw[List.range_succ,List.filter_append]
 congr 1
 by_cases h:L n=n<;>simp[h]
theorem kh (n:Nat) (L:Nat->Nat) (i:Nat):members (n+1) L i=members n L i++if L n=i then[n]else[]:=by
 unfold members
 rw[List.range_succ,List.filter_append]
 congr 1
 by_cases h:L n=i<;>simp[h]
theorem oM {L:Nat->Nat} (h:kr L) {n i:Nat} (hn:n<=i):members n L i=[]:=by
 unfold members
 rw[List.filter_eq_nil_iff]
 intro k hk
 have:=h.le k
 have:=List.mem_range.1 hk
 simp;omega
theorem wQ (n:Nat) (L:Nat->Nat):(leads n L).Nodup:=List.nodup_range.filter _
theorem A9 {n:Nat} {L:Nat->Nat} {i:Nat}:i∈leads n L↔i<n/\L i=i:=by simp[leads]
theorem mZ {n:Nat} {L:Nat->Nat} {i k:Nat}:k∈members n L i↔k<n/\L k=i:=by simp[members]
theorem Jz {L:Nat->Nat} {m n:Nat} (h:m<=n):∃r,leads n L=leads m L++r:=by
 obtain⟨d,rfl⟩:=Nat.le.dest h
 clear h
 induction d with
 |zero=>exact⟨[],by simp⟩
 |succ d ih=>
  obtain⟨r,hr⟩:=ih
  exact⟨r++if L (m+d)=m+d then[m+d]else[],by rw[<-Nat.add_assoc,iY,hr,List.append_assoc]⟩
theorem rm {L:Nat->Nat} (h:kr L) {n k:Nat} (hk:k<n):(leads n L)[de L k]? =some (L k):=by
 have h1:=h.le k
 obtain⟨r,hr⟩:=Jz (L:=L) (show L k+1<=n by omega)
 rw[hr,iY,if_pos (h.idem k),List.append_assoc]
 unfold de
 rw[List.getElem?_append_right (Nat.le_refl _),Nat.sub_self];rfl
theorem lr {L:Nat->Nat} (h:kr L) {n k:Nat} (hk:k<n):de L k<(leads n L).length:=(List.getElem?_eq_some_iff.1 (rm h hk)).1
theorem vL {L:Nat->Nat} (h:kr L) {n k i:Nat} (hk:k<n) (hi:i<(leads n L).length):k∈members n L (leads n L)[i]↔de L k=i:=by
 rw[mZ]
 have h1:=rm h hk
 rw[List.getElem?_eq_getElem (lr h hk)]at h1
 injection h1 with h1
 constructor
 ·rintro⟨_,h2⟩
  rw[<-h1]at h2
  exact(List.getElem_inj (wQ n L)).1 h2
 ·rintro rfl
  exact⟨hk,h1.symm⟩
def eB (L:Nat->Nat) (bs:List PB):List PB:=bs.filterMap fun b=>if de L b.a=de L b.b then none else some ⟨de L b.a,de L b.b,b.s⟩
def gi (L:Nat->Nat) (bs:List PB):List PB:=bs.filterMap fun b=>if de L b.a=de L b.b then none else some ⟨min (de L b.a) (de L b.b),max (de L b.a) (de L b.b),b.s⟩
theorem CH (L:Nat->Nat) (bs:List PB) (b:PB):eB L (bs++[b])=eB L bs++if de L b.a=de L b.b then[]else[⟨de L b.a,de L b.b,b.s⟩]:=by
 unfold eB
 rw[List.filterMap_append]
 congr 1
 by_cases h:de L b.a=de L b.b<;>simp[h]
theorem CI (L:Nat->Nat) (bs:List PB) (b:PB):gi L (bs++[b])=gi L bs++if de L b.a=de L b.b then[]else[⟨min (de L b.a) (de L b.b),max (de L b.a) (de L b.b),b.s⟩]:=by
 unfold gi
 rw[List.filterMap_append]
 congr 1
 by_cases h:de L b.a=de L b.b<;>simp[h]
theorem ve (S:Nat->Bool) (b:PB) (bs:List PB):jZ S (b::bs)=(if S b.a=S b.b then 0 else b.s)+jZ S bs:=by simp[jZ]
theorem Ay (S:Nat->Bool) (L:Nat->Nat):∀bs:List PB,jZ S (gi L bs)=jZ S (eB L bs)
 |[]=>rfl
 |b::bs=>by
  have ih:=Ay S L bs
  unfold gi eB at ih ⊢
  rw[List.filterMap_cons,List.filterMap_cons]
  by_cases h:de L b.a=de L b.b
  ·simp only[h,if_true];exact ih
  ·simp only[h,if_false]
   rw[ve,ve,ih]
   congr 1
   simp only
   rcases Nat.le_total (de L b.a) (de L b.b)with h1|h1
   ·rw[Nat.min_eq_left h1,Nat.max_eq_right h1]
   ·rw[Nat.min_eq_right h1,Nat.max_eq_left h1]
    cases S (de L b.a)<;>cases S (de L b.b)<;>rfl
theorem GR {L:Nat->Nat} (h:kr L) {n:Nat} {bs:List PB} (hb:∀b∈bs,b.a<n/\b.b<n):∀b∈eB L bs,b.a<(leads n L).length/\b.b<(leads n L).length/\b.a≠b.b/\∃c∈bs,b.s=c.s:=by
 intro b hm
 unfold eB at hm
 obtain⟨c,hc,he⟩:=List.mem_filterMap.1 hm
 split at he
 ·cases he
 ·rename_i iN
  simp only[Option.some.injEq]at he
  subst he
  exact⟨lr h (hb c hc).1,lr h (hb c hc).2,iN,c,hc,rfl⟩
theorem GU {L:Nat->Nat} (h:kr L) {n:Nat} {bs:List PB} (hb:∀b∈bs,b.a<n/\b.b<n):∀b∈gi L bs,b.a<(leads n L).length/\b.b<(leads n L).length/\b.a≠b.b/\∃c∈bs,b.s=c.s:=by
 intro b hm
 unfold gi at hm
 obtain⟨c,hc,he⟩:=List.mem_filterMap.1 hm
 split at he
 ·cases he
 ·rename_i iN
  simp only[Option.some.injEq]at he
  subst he
  have h1:=lr h (hb c hc).1
  have h2:=lr h (hb c hc).2
  refine⟨by simp only;omega,by simp only;omega,by simp only;omega,c,hc,rfl⟩
theorem oV (L:Nat->Nat) (bs:List PB):(eB L bs).length<=bs.length/\(gi L bs).length<=bs.length:=⟨List.length_filterMap_le ..,List.length_filterMap_le ..⟩
theorem kK (n:Nat) (L:Nat->Nat):(leads n L).length<=n:=by
 have:=List.length_filter_le (fun i=>L i==i) (List.range n)
 simpa[leads]using this
def bw (t:Int) (bs:List PB):List PB:=bs.filter fun b=>decide (t<=b.s)
def qW (n:Nat) (bs:List PB) (t:Int):Prop:=
 (leads n (fc (bw t bs))).length<=64/\lS (leads n (fc (bw t bs))).length (eB (fc (bw t bs)) bs) t
theorem Gf {n:Nat} {L:Nat->Nat} {bs:List PB} {t:Int}:lS n (gi L bs) t↔lS n (eB L bs) t:=by
 unfold lS
 constructor<;>intro h S h0 hy<;>have:=h S h0 hy<;>rw[Ay]at *<;>exact this
end Go.Proofs.YtiabgllilcfheaaGreat.V

namespace Go.Proofs.YtiabgllilcfheaaGreat.V
open Go.RowKit
attribute [local irreducible] er wpOps fY Call
attribute [local go_sem] aF fC eR fN fK du upd cw K.av cQ AV.cells AV.cell rowOf rowsOf part ld rowAt bK cq dH dX gG bP dd eh fJ fa dw ea db da dM dP bV bd cU bU cW cV dV eb dZ cR bY dc dY bQ aD cY cF gF bD cL bW aY dn bj dI AV.undef bH bJ dQ dW dL dK cK ef eo cz ee ec cX cZ List.getD_cons_zero List.getD_cons_succ List.getD_nil List.all_cons List.all_nil Bool.and_true Bool.true_and Bool.and_self Bool.not_true Bool.not_false Option.map_some Option.map_none Option.bind_some Option.bind_none List.length_cons List.length_nil List.take_succ_cons List.take_zero List.take_nil List.drop_succ_cons List.drop_zero List.drop_nil List.head?_cons List.map_cons List.map_nil List.getElem?_cons_zero List.getElem?_cons_succ List.cons_append List.nil_append List.append_nil List.length_map List.set_cons_zero List.set_cons_succ Nat.reduceMul eq_self Int.toNat_natCast Int.natCast_nonneg and_self true_and and_true decide_true decide_false Bool.false_eq_true Nat.zero_add Nat.add_zero List.contains_cons List.contains_nil Bool.or_false Bool.false_or beq_self_eq_true Nat.reduceBEq ne_eq not_true_eq_false not_false_eq_true Id.mk.injEq false_and and_false Nat.reduceLT Int.reduceLE Int.reduceLT Int.reduceToNat Int.reduceNeg Int.reduceAdd Nat.le_refl List.length_append beq_true beq_false Bool.not_eq_eq_eq_not or_false false_or eu ai aj aP bh bZ cm aW bx aK bf cP bI
def aI (b:PB):List AV:=[.int .i64 b.a,.int .i64 b.b,.int .i64 b.s]
theorem QK:∀b:PB,(aI b).length=3/\(aI b).all AV.cell=true:=fun _=>⟨rfl,rfl⟩
theorem B3 (g:Rows) (n:Nat) (b:PB):eC g (n+1) (aI b)=some (aI b):=by simp[aI,ai,aj,aP]
theorem xE (g:Rows) (n:Nat) (b:PB):fb g (n+1) (aI b)=some (aI b):=by simp[aI,bF,cH,eK]
theorem K0:UM aI (fun c=>.agg (aI c)) 3 true:=⟨fun _=>rfl,fun _=>rfl,fun x g=>by simp only[aI,ai,aj,bx,aP,Option.map_some]⟩
def oD (s:ay) (l:List aa) (i:Nat) (d:Int):List PB:=
 if 0<=eO l (dq (aQ l i).aV d)/\0<iI s (aQ l i).bp d (aQ l (eO l (dq (aQ l i).aV d)).toNat).bp then
  [⟨i,(eO l (dq (aQ l i).aV d)).toNat,iI s (aQ l i).bp d (aQ l (eO l (dq (aQ l i).aV d)).toNat).bp⟩]else[]
def iq (s:ay) (l:List aa) (i m:Nat):List PB:=(List.range m).flatMap fun j:Nat=>oD s l i (1-(j:Int))
def iU (s:ay) (l:List aa) (n:Nat):List PB:=(List.range n).flatMap fun i=>iq s l i 2
def dz (s:ay) (l:List aa):List PB:=iU s l l.length
theorem sq (s:ay) (l:List aa) (i m:Nat):iq s l i (m+1)=iq s l i m++oD s l i (1-(m:Int)):=by simp[iq,List.range_succ]
theorem tM (s:ay) (l:List aa) (n:Nat):iU s l (n+1)=iU s l n++iq s l n 2:=by simp[iU,List.range_succ]
theorem FI (s:ay) (l:List aa) (i:Nat) (d:Int):(oD s l i d).length<=1:=by unfold oD;split<;>simp
theorem tL (s:ay) (l:List aa) (i m:Nat):(iq s l i m).length<=m:=by
 induction m with
 |zero=>simp[iq]
 |succ m ih=>rw[sq,List.length_append];have:=FI s l i (1-(m:Int));omega
theorem wq (s:ay) (l:List aa) (n:Nat):(iU s l n).length<=2*n:=by
 induction n with
 |zero=>simp[iU]
 |succ n ih=>rw[tM,List.length_append];have:=tL s l n 2;omega
def sB:Id->Prop:=fun o=>o.site=97001000∨o.site=97012006
theorem Gr (s:ay) (l:List aa) (hS:jV s) (hA:gH s l):au Tryz.prog 97 [.dv (ad s),.dv [.sl (l.map ab)]] (.sl ((dz s l).map aI)):=by
 refine au.body fF rfl fun hl n0=>?_
 clear hl
 have hF:=hA.1
 have F8:=hF.nO
 (try((repeat(revert hN;revert N;apply Pn.out));refine wk @Nat.zero_add ?_;(repeat(refine Pn.mk ?_;intro N hN))))
 refine bz (fun n env st=>∃k:Nat,n=(l.length)-k/\k<=(l.length)/\env 6=.int .i64 (k:Int)/\(ox aI 3 (env 5) st.get sB (iU s l k))) (l.length) ⟨0,ae,ae,sl @Nat.zero_add,⟨⟨97001000,n0+1⟩,.inl rfl,by simp only[go_sem, ↓reduceIte,Nat.reduceEqDiff,Nat.reduceAdd,Nat.reduceSub,Nat.reduceLeDiff,reduceCtorEq];rfl,by simp only[go_sem, ↓reduceIte,Nat.reduceEqDiff,Nat.reduceAdd,Nat.reduceSub,Nat.reduceLeDiff,reduceCtorEq];rfl⟩⟩ ?_
 rintro n_a env_a st_a ⟨k,rfl,ale,a6,oh⟩ eJ
 have a0:=eJ 0 (by kernel_rfl);have a1:=eJ 1 (by kernel_rfl)
 simp only[go_sem, ↓reduceIte,Nat.reduceEqDiff,Nat.reduceAdd,Nat.reduceSub,Nat.reduceLeDiff,reduceCtorEq]at a0 a1
 clear eJ
 by_cases hk:(k:Int)<(l.length:Int)
 ·have dx:∀{e:Env} {gg:Rows},(e 6=.int .i64 (IntKind.i64.wrap ((k:Int)+1)))->(ox aI 3 (e 5) gg sB (iU s l (k+1)))->∃m0,m0<(l.length)-k/\∃k:Nat,m0=(l.length)-k/\k<=(l.length)/\e 6=.int .i64 (k:Int)/\(ox aI 3 (e 5) gg sB (iU s l k)):=fun x1 x2=>⟨_,ae,k+1,rfl,ae,(by rw[x1,az ae]),x2⟩
  have iR:k<l.length:=ae
  have gq:=fR iR
  have NL:=wq s l k
  (try((repeat(revert hN;revert N;apply Pn.out));refine wk (tw @a6 (tw @a0 (tw @a1 @hk))) ?_;(repeat(refine Pn.mk ?_;intro N hN))))
  refine bz (fun n env st=>∃m:Nat,n=(2)-m/\m<=(2)/\env 7=(.int .i64 (1-(m:Int)))/\(ox aI 3 (env 5) st.get sB (iU s l k++iq s l k m))) (2) ⟨0,ae,ae,sl (tw @a6 (tw @a0 @a1)),by(simp only[go_sem, ↓reduceIte,Nat.reduceEqDiff,Nat.reduceAdd,Nat.reduceSub,Nat.reduceLeDiff,reduceCtorEq];exact oh.cast (by simp[iq]))⟩ ?_
  rintro n_b env_b st_b ⟨m,rfl,ble,b7,bI0⟩ eW
  have b0:=eW 0 (by kernel_rfl);have b1:=eW 1 (by kernel_rfl);have b6:=eW 6 (by kernel_rfl)
  simp only[go_sem, ↓reduceIte,Nat.reduceEqDiff,Nat.reduceAdd,Nat.reduceSub,Nat.reduceLeDiff,reduceCtorEq,a6,a0,a1]at b0 b1 b6
  clear eW
  have Qc:=tL s l k m
  have mW:=sq s l k m
  by_cases hm:(m:Int)<2
  ·have fh:∀{e:Env} {gg:Rows},(e 7=(.int .i64 (1-((m+1):Int))))->(ox aI 3 (e 5) gg sB (iU s l k++iq s l k (m+1)))->∃m0,m0<(2)-m/\∃m:Nat,m0=(2)-m/\m<=(2)/\e 7=(.int .i64 (1-(m:Int)))/\(ox aI 3 (e 5) gg sB (iU s l k++iq s l k m)):=fun x1 x2=>⟨_,ae,m+1,rfl,ae,x1,x2⟩
   have kC:(0:Int)<=1-(m:Int):=ae
   have hd:js (1-(m:Int)) 0 3=true:=jo ae
   have hw:IntKind.i64.wrap (1-(m:Int)-1)=1-((m:Int)+1):=by rw[cD ae];omega
   have Uv:=Ab l hF k (1-(m:Int)) iR hd
   unfold oD at mW
   have hT:=hA.2 _ (fQ iR)
   generalize C9:eO l (dq (aQ l k).aV (1-(m:Int)))=ix at *
   by_cases hi:ix<0
   ·rw[if_neg ae,List.append_nil]at mW
    (repeat(first|((repeat(revert hN;revert N;apply Pn.out));refine wk (tw @b7 (tw @b0 (tw @b1 (tw @b6 (tw @kC (tw @hw @hi)))))) ?_;(repeat(refine Pn.mk ?_;intro N hN)))|((try apply Or.inl);refine⟨_,au.x (Uv) (sd (tw @b7 (tw @b0 (tw @b1 (tw @b6 (tw @kC (tw @hw @hi))))))),?_⟩;refine hN _ _ ?_;clear hN N)))
    exact fh (sd (tw @b7 (tw @b0 (tw @b1 (tw @b6 @hw))))) (by(simp only[go_sem, ↓reduceIte,Nat.reduceEqDiff,Nat.reduceAdd,Nat.reduceSub,Nat.reduceLeDiff,reduceCtorEq];exact bI0.cast (by rw[mW])))
   ·have Kk:0<=ix:=ae
    have RN:=kZ (l:=l) (p:=dq (aQ l k).aV (1-(m:Int))) ae
    rw[C9]at RN
    have jb:=fR RN.1
    have zK:=A5 s hS (aQ l k).bp (1-(m:Int)) (aQ l ix.toNat).bp hT (hA.2 _ (fQ RN.1)) hd
    generalize Xh:iI s (aQ l k).bp (1-(m:Int)) (aQ l ix.toNat).bp=bv at *
    by_cases hb:0<bv
    ·rw[if_pos ⟨Kk,hb⟩]at mW
     (repeat(first|((repeat(revert hN;revert N;apply Pn.out));refine wa (tw @b7 (tw @b0 (tw @b1 (tw @b6 (tw @kC (tw @hw (tw @hi (tw @Kk (tw @gq (tw @jb (tw @hb @ab.eq_1))))))))))) ?_;(repeat(refine Pn.mk ?_;intro N hN)))|((try apply Or.inl);refine⟨_,au.x (Uv) (sd (tw @b7 (tw @b0 (tw @b1 (tw @b6 (tw @kC (tw @hw (tw @hi (tw @Kk (tw @gq (tw @jb (tw @hb @ab.eq_1)))))))))))),?_⟩;refine hN _ _ ?_;clear hN N)|((try apply Or.inl);refine⟨_,au.x (zK) (sd (tw @b7 (tw @b0 (tw @b1 (tw @b6 (tw @kC (tw @hw (tw @hi (tw @Kk (tw @gq (tw @jb (tw @hb @ab.eq_1)))))))))))),?_⟩;refine hN _ _ ?_;clear hN N)))
     refine SG (enc:=aI) (S:=sB) (L:=iU s l k++iq s l k m) (xv:=env_b 5) [⟨k,ix.toNat,bv⟩] rfl rfl (sd @Nat.zero_add) (bI0.frame fun o ho=>by rcases ho with ho|ho<;>simp only[go_sem, ↓reduceIte,Nat.reduceEqDiff,Nat.reduceAdd,Nat.reduceSub,Nat.reduceLeDiff,reduceCtorEq,CJ ho]) (sd (tw @aI.eq_1 (Int.toNat_of_nonneg Kk))) QK (.inr rfl) (by simp only[dI,List.length_append,List.length_cons,List.length_nil];omega) fun v g' hO jn=>?_
     rw[List.append_assoc,<-mW]at hO
     clear jn
     (try((repeat(revert hN;revert N;apply Pn.out));refine wk (tw @b7 (tw @b0 (tw @b1 (tw @b6 @hw)))) ?_;(repeat(refine Pn.mk ?_;intro N hN))))
     exact fh (sd (tw @b7 (tw @b0 (tw @b1 (tw @b6 @hw))))) (by(simp only[go_sem, ↓reduceIte,Nat.reduceEqDiff,Nat.reduceAdd,Nat.reduceSub,Nat.reduceLeDiff,reduceCtorEq];exact hO))
    ·rw[if_neg fun h=>hb h.2,List.append_nil]at mW
     (repeat(first|((repeat(revert hN;revert N;apply Pn.out));refine wk (tw @b7 (tw @b0 (tw @b1 (tw @b6 (tw @kC (tw @hw (tw @hi (tw @Kk (tw @gq (tw @jb (tw @hb @ab.eq_1))))))))))) ?_;(repeat(refine Pn.mk ?_;intro N hN)))|((try apply Or.inl);refine⟨_,au.x (Uv) (sd (tw @b7 (tw @b0 (tw @b1 (tw @b6 (tw @kC (tw @hw (tw @hi (tw @Kk (tw @gq (tw @jb (tw @hb @ab.eq_1)))))))))))),?_⟩;refine hN _ _ ?_;clear hN N)|((try apply Or.inl);refine⟨_,au.x (zK) (sd (tw @b7 (tw @b0 (tw @b1 (tw @b6 (tw @kC (tw @hw (tw @hi (tw @Kk (tw @gq (tw @jb (tw @hb @ab.eq_1)))))))))))),?_⟩;refine hN _ _ ?_;clear hN N)))
     exact fh (sd (tw @b7 (tw @b0 (tw @b1 (tw @b6 @hw))))) (by(simp only[go_sem, ↓reduceIte,Nat.reduceEqDiff,Nat.reduceAdd,Nat.reduceSub,Nat.reduceLeDiff,reduceCtorEq];exact bI0.cast (by rw[mW])))
  ·have Ce:m=2:=ae
   subst Ce
   have eM:¬(0:Int)<=1-((2:Nat):Int):=ae
   (try((repeat(revert hN;revert N;apply Pn.out));refine wk (tw @b7 (tw @b0 (tw @b1 (tw @b6 @eM)))) ?_;(repeat(refine Pn.mk ?_;intro N hN))))
   exact dx (sd (tw @a6 (tw @a0 (tw @a1 (tw @b7 (tw @b0 (tw @b1 @b6))))))) (by(simp only[go_sem, ↓reduceIte,Nat.reduceEqDiff,Nat.reduceAdd,Nat.reduceSub,Nat.reduceLeDiff,reduceCtorEq];exact bI0.cast (by rw[tM])))
 ·have mU:k=l.length:=ae
  (try((repeat(revert hN;revert N;apply Pn.out));refine wk (tw @a6 (tw @a0 (tw @a1 @hk))) ?_;(repeat(refine Pn.mk ?_;intro N hN))))
  exact zp (.inl rfl) (by simp only[go_sem, ↓reduceIte,Nat.reduceEqDiff,Nat.reduceAdd,Nat.reduceSub,Nat.reduceLeDiff,reduceCtorEq];rfl) (by rw[mU]at oh;exact oh.gU fun b=>xE _ _ b)
theorem Ew (a b:Nat):au Tryz.prog 122 [.int .i64 a,.int .i64 b] (.int .i64 (min a b:Nat)):=by
 refine au.body fF rfl fun hl n0=>?_
 clear hl
 by_cases h:(a:Int)<(b:Int)
 ·(try((repeat(revert hN;revert N;apply Pn.out));refine wk @h ?_;(repeat(refine Pn.mk ?_;intro N hN))))
  exact dU (b:=(a:Int)) (.inl rfl) (sd @Nat.zero_add) ae
 ·(try((repeat(revert hN;revert N;apply Pn.out));refine wk @h ?_;(repeat(refine Pn.mk ?_;intro N hN))))
  exact dU (b:=(b:Int)) (.inl rfl) (sd @Nat.zero_add) ae
theorem Ev (a b:Nat):au Tryz.prog 54 [.int .i64 a,.int .i64 b] (.int .i64 (max a b:Nat)):=by
 refine au.body fF rfl fun hl n0=>?_
 clear hl
 by_cases h:(b:Int)<(a:Int)
 ·(try((repeat(revert hN;revert N;apply Pn.out));refine wk @h ?_;(repeat(refine Pn.mk ?_;intro N hN))))
  exact dU (b:=(a:Int)) (.inl rfl) (sd @Nat.zero_add) ae
 ·(try((repeat(revert hN;revert N;apply Pn.out));refine wk @h ?_;(repeat(refine Pn.mk ?_;intro N hN))))
  exact dU (b:=(b:Int)) (.inl rfl) (sd @Nat.zero_add) ae
def eI (f:Nat->Nat) (n:Nat):List (List AV):=(List.range n).map fun i=>eN (f i)
theorem iz (f:Nat->Nat) (n:Nat):(eI f n).length=n:=by simp[eI]
theorem gD {f:Nat->Nat} {n i:Nat} (h:i<n):(eI f n)[i]? =some (eN (f i)):=by simp[eI,h]
theorem jh {f g:Nat->Nat} {n:Nat} (h:∀i,i<n->f i=g i):eI f n=eI g n:=List.map_congr_left fun i hi=>by rw[h i (List.mem_range.1 hi)]
theorem rL {f g:Nat->Nat} {n k v:Nat} (hk:k<n) (hv:g k=v) (h:∀i,i<n->i≠k->g i=f i):(eI f n).set k (eN v)=eI g n:=by
 refine List.ext_getElem? fun i=>?_
 rw[List.getElem?_set]
 by_cases hi:k=i
 ·subst hi
  rw[if_pos rfl,iz,if_pos hk,gD hk,hv]
 ·rw[if_neg hi]
  by_cases fU:i<n
  ·rw[gD fU,gD fU,h i fU (fun h=>hi h.symm)]
  ·rw[List.getElem?_eq_none (by rw[iz];omega),List.getElem?_eq_none (by rw[iz];omega)]
theorem EB (cnt:Nat) (hn:cnt<=1048576) (bs:List PB) (hb:∀b∈bs,b.a<cnt/\b.b<cnt) (iK:bs.length<=1048576):au Tryz.prog 121 [.int .i64 cnt,.sl (bs.map aI)] (.sl ((gJ cnt (fc bs)).map C4)):=by
 refine au.body fF rfl fun hl n0=>?_
 clear hl
 (try((repeat(revert hN;revert N;apply Pn.out));refine wk @Nat.zero_add ?_;(repeat(refine Pn.mk ?_;intro N hN))))
 refine bz (fun n env st=>∃k:Nat,n=(cnt)-k/\k<=(cnt)/\env 6=.int .i64 (k:Int)/\(∃o:Id,env 5=.own o 0 k/\st.get o=some ⟨true,1,eI id k⟩/\o.bt<st.next)) (cnt) ⟨0,ae,ae,sl @Nat.zero_add,⟨⟨121001000,n0+1⟩,sd @Nat.zero_add,by simp only[go_sem, ↓reduceIte,Nat.reduceEqDiff,Nat.reduceAdd,Nat.reduceSub,Nat.reduceLeDiff,reduceCtorEq];rfl,aU⟩⟩ ?_
 rintro n_a env_a st_a ⟨k,rfl,ale,a6,oh⟩ eJ
 have a0:=eJ 0 (by kernel_rfl);have a1:=eJ 1 (by kernel_rfl)
 simp only[go_sem, ↓reduceIte,Nat.reduceEqDiff,Nat.reduceAdd,Nat.reduceSub,Nat.reduceLeDiff,reduceCtorEq]at a0 a1
 clear eJ
 obtain⟨o,a5,ag,xJ⟩:=oh
 have tl:=iz id k
 have s8:=dj xJ
 by_cases hk:(k:Int)<(cnt:Int)
 ·have dx:∀{e:Env} {gg:Rows} {nx:Nat},(e 6=.int .i64 (IntKind.i64.wrap ((k:Int)+1)))->(∃o:Id,e 5=.own o 0 (k+1)/\gg o=some ⟨true,1,eI id (k+1)⟩/\o.bt<nx)->∃m0,m0<(cnt)-k/\∃k:Nat,m0=(cnt)-k/\k<=(cnt)/\e 6=.int .i64 (k:Int)/\(∃o:Id,e 5=.own o 0 k/\gg o=some ⟨true,1,eI id k⟩/\o.bt<nx):=fun x1 x2=>⟨_,ae,k+1,rfl,ae,(by rw[x1,az ae]),x2⟩
  have iR:k<cnt:=ae
  have e1:k+1<=16777216:=ae
  have rY:eI id k++[[.int .i64 (k:Int)]]=eI id (k+1):=by simp[eI,List.range_succ,eN]
  (try((repeat(revert hN;revert N;apply Pn.out));refine wk (tw @a6 (tw @a0 (tw @a1 (tw @a5 (tw @ag (tw @s8 (tw @hk (tw @tl (tw @e1 @rY))))))))) ?_;(repeat(refine Pn.mk ?_;intro N hN))))
  exact dx (sd (tw @a6 (tw @a0 @a1))) (⟨⟨121005003,st_a.next+1⟩,sd @Nat.zero_add,sd @rY,aU⟩)
 have mU:k=cnt:=ae
 subst mU
 have Zr:st_a.get o=some ⟨true,1,eI (fc (bs.take 0)) k⟩:=ag
 clear ag
 (try((repeat(revert hN;revert N;apply Pn.out));refine wk (tw @a6 (tw @a0 (tw @a1 @hk))) ?_;(repeat(refine Pn.mk ?_;intro N hN))))
 refine bz (fun n env st=>∃j:Nat,n=(bs.length)-j/\j<=(bs.length)/\env 7=.int .i64 (j:Int)/\st.get o=some ⟨true,1,eI (fc (bs.take j)) k⟩/\(o.bt<st.next)) (bs.length) ⟨0,ae,ae,sl (tw @a6 (tw @a0 (tw @a1 (tw @a5 @Zr)))),sl (tw @a6 (tw @a0 (tw @a1 (tw @a5 @Zr)))),aU⟩ ?_
 rintro n_b env_b st_b ⟨j,rfl,ble,b7,bg0,bI0⟩ eW
 have b0:=eW 0 (by kernel_rfl);have b1:=eW 1 (by kernel_rfl);have b5:=eW 5 (by kernel_rfl)
 simp only[go_sem, ↓reduceIte,Nat.reduceEqDiff,Nat.reduceAdd,Nat.reduceSub,Nat.reduceLeDiff,reduceCtorEq,a6,a0,a1,a5,Zr]at b0 b1 b5
 clear eW
 by_cases hj:(j:Int)<(bs.length:Int)
 ·have fh:∀{e:Env} {gg:Rows} {nx:Nat},(e 7=.int .i64 (IntKind.i64.wrap ((j:Int)+1)))->(gg o=some ⟨true,1,eI (fc (bs.take (j+1))) k⟩)->(o.bt<nx)->∃m0,m0<(bs.length)-j/\∃j:Nat,m0=(bs.length)-j/\j<=(bs.length)/\e 7=.int .i64 (j:Int)/\gg o=some ⟨true,1,eI (fc (bs.take j)) k⟩/\(o.bt<nx):=fun x1 x2 x3=>⟨_,ae,j+1,rfl,ae,(by rw[x1,az ae]),x2,x3⟩
  have oi:j<bs.length:=ae
  have D8:(bs.map aI)[j]? =some (aI bs[j]):=by simp[oi]
  have Oq:=hb _ (List.getElem_mem oi)
  have nE:bs.take (j+1)=bs.take j++[bs[j]]:=List.take_succ_eq_append_getElem oi
  have mW:fc (bs.take (j+1))=fA (fc (bs.take j)) bs[j]:=by rw[nE,yS]
  generalize fc (bs.take j)=L at *
  generalize bs[j]=b at *
  have hA:=gD (f:=L) Oq.1
  have hB:=gD (f:=L) Oq.2
  have Xa:=Ew (L b.a) (L b.b)
  have Xb:=Ev (L b.a) (L b.b)
  have tl:=iz L k
  have iO:(b.a:Int)<(k:Int):=ae
  have gK:(b.b:Int)<(k:Int):=ae
  (try((repeat(revert hN;revert N;apply Pn.out));refine wk (tw @b7 (tw @bg0 (tw @b0 (tw @b1 (tw @b5 (tw @hj (tw @D8 (tw @aI.eq_1 (tw @hA (tw @hB (tw @iO (tw @gK (tw @tl @eN.eq_1))))))))))))) ?_;(repeat(refine Pn.mk ?_;intro N hN))))
  refine bz (fun n env st=>∃i:Nat,n=(k)-i/\i<=(k)/\env 10=.int .i64 (i:Int)/\st.get o=some ⟨true,1,eI (fun x=>if x<i then fA L b x else L x) k⟩/\(o.bt<st.next)) (k) ⟨0,ae,ae,sl (tw @b7 (tw @bg0 (tw @b0 (tw @b1 (tw @b5 @Nat.not_lt_zero))))),sl (tw @b7 (tw @bg0 (tw @b0 (tw @b1 (tw @b5 @Nat.not_lt_zero))))),aU⟩ ?_
  rintro n_c env_c st_c ⟨i,rfl,cle,iE,cg0,cI0⟩ iV
  have c0:=iV 0 (by kernel_rfl);have c1:=iV 1 (by kernel_rfl);have c5:=iV 5 (by kernel_rfl);have c7:=iV 7 (by kernel_rfl);have c8:=iV 8 (by kernel_rfl);have c9:=iV 9 (by kernel_rfl)
  simp only[go_sem, ↓reduceIte,Nat.reduceEqDiff,Nat.reduceAdd,Nat.reduceSub,Nat.reduceLeDiff,reduceCtorEq,b7,bg0,b0,b1,b5,Nat.not_lt_zero]at c0 c1 c5 c7 c8 c9
  clear iV
  have hC:=gD (f:=fun x=>if x<i then fA L b x else L x) (n:=k) (i:=i)
  have tc:=iz (fun x=>if x<i then fA L b x else L x) k
  by_cases hi:(i:Int)<(k:Int)
  ·have gQ:∀{e:Env} {gg:Rows} {nx:Nat},(e 10=.int .i64 (IntKind.i64.wrap ((i:Int)+1)))->(gg o=some ⟨true,1,eI (fun x=>if x<(i+1)then fA L b x else L x) k⟩)->(o.bt<nx)->∃m0,m0<(k)-i/\∃i:Nat,m0=(k)-i/\i<=(k)/\e 10=.int .i64 (i:Int)/\gg o=some ⟨true,1,eI (fun x=>if x<i then fA L b x else L x) k⟩/\(o.bt<nx):=fun x1 x2 x3=>⟨_,ae,i+1,rfl,ae,(by rw[x1,az ae]),x2,x3⟩
   have fU:i<k:=ae
   replace hC:=hC fU
   rw[if_neg (Nat.lt_irrefl i)]at hC
   by_cases he:L i=max (L b.a) (L b.b)
   ·have wI:decide ((L i:Int)=((max (L b.a) (L b.b):Nat):Int))=true:=decide_eq_true (by rw[he])
    have fj:(eI (fun x=>if x<i then fA L b x else L x) k).set i (eN (min (L b.a) (L b.b)))=eI (fun x=>if x<i+1 then fA L b x else L x) k:=rL fU (by rw[if_pos ae,fA,if_pos he]) fun x hx Fw=>by
     by_cases h:x<i
     ·rw[if_pos h,if_pos ae]
     ·rw[if_neg h,if_neg ae]
    rw[eN]at fj hC
    (repeat(first|((repeat(revert hN;revert N;apply Pn.out));refine wk (tw @iE (tw @cg0 (tw @c0 (tw @c1 (tw @c5 (tw @c7 (tw @c8 (tw @c9 (tw @hi (tw @hC (tw @tc (tw @wI @fj)))))))))))) ?_;(repeat(refine Pn.mk ?_;intro N hN)))|((try apply Or.inl);refine⟨_,au.x (Xa) (sd (tw @iE (tw @cg0 (tw @c0 (tw @c1 (tw @c5 (tw @c7 (tw @c8 (tw @c9 (tw @hi (tw @hC (tw @tc (tw @wI @fj))))))))))))),?_⟩;refine hN _ _ ?_;clear hN N)|((try apply Or.inl);refine⟨_,au.x (Xb) (sd (tw @iE (tw @cg0 (tw @c0 (tw @c1 (tw @c5 (tw @c7 (tw @c8 (tw @c9 (tw @hi (tw @hC (tw @tc (tw @wI @fj))))))))))))),?_⟩;refine hN _ _ ?_;clear hN N)))
    refine gQ ?_ ?_ aU
    all_goals simp only[go_sem, ↓reduceIte,Nat.reduceEqDiff,Nat.reduceAdd,Nat.reduceSub,Nat.reduceLeDiff,reduceCtorEq,iE,cg0,c0,c1,c5,c7,c8,c9]
   ·have wI:decide ((L i:Int)=((max (L b.a) (L b.b):Nat):Int))=false:=decide_eq_false fun h=>he ae
    have nP:eI (fun x=>if x<i then fA L b x else L x) k=eI (fun x=>if x<i+1 then fA L b x else L x) k:=jh fun x hx=>by
     by_cases h:x<i
     ·rw[if_pos h,if_pos ae]
     ·by_cases Fw:x=i
      ·subst Fw;rw[if_neg h,if_pos ae,fA,if_neg he]
      ·rw[if_neg h,if_neg ae]
    rw[eN]at hC
    (repeat(first|((repeat(revert hN;revert N;apply Pn.out));refine wk (tw @iE (tw @cg0 (tw @c0 (tw @c1 (tw @c5 (tw @c7 (tw @c8 (tw @c9 (tw @hi (tw @hC (tw @tc @wI))))))))))) ?_;(repeat(refine Pn.mk ?_;intro N hN)))|((try apply Or.inl);refine⟨_,au.x (Xa) (sd (tw @iE (tw @cg0 (tw @c0 (tw @c1 (tw @c5 (tw @c7 (tw @c8 (tw @c9 (tw @hi (tw @hC (tw @tc @wI)))))))))))),?_⟩;refine hN _ _ ?_;clear hN N)|((try apply Or.inl);refine⟨_,au.x (Xb) (sd (tw @iE (tw @cg0 (tw @c0 (tw @c1 (tw @c5 (tw @c7 (tw @c8 (tw @c9 (tw @hi (tw @hC (tw @tc @wI)))))))))))),?_⟩;refine hN _ _ ?_;clear hN N)))
    rw[nP]at cg0
    refine gQ ?_ ?_ aU
    all_goals simp only[go_sem, ↓reduceIte,Nat.reduceEqDiff,Nat.reduceAdd,Nat.reduceSub,Nat.reduceLeDiff,reduceCtorEq,iE,cg0,c0,c1,c5,c7,c8,c9]
  ·have AM:i=k:=ae
   subst AM
   have eP:eI (fun x=>if x<i then fA L b x else L x) i=eI (fA L b) i:=jh fun x hx=>if_pos hx
   rw[eP]at cg0
   rw[<-mW]at cg0
   (try((repeat(revert hN;revert N;apply Pn.out));refine wk (tw @iE (tw @cg0 (tw @c0 (tw @c1 (tw @c5 (tw @c7 (tw @c8 (tw @c9 (tw @hi @tc))))))))) ?_;(repeat(refine Pn.mk ?_;intro N hN))))
   refine fh ?_ ?_ aU
   all_goals simp only[go_sem, ↓reduceIte,Nat.reduceEqDiff,Nat.reduceAdd,Nat.reduceSub,Nat.reduceLeDiff,reduceCtorEq,b7,bg0,b0,b1,b5,iE,cg0,c0,c1,c5,c7,c8,c9]
 have iv:j=bs.length:=ae
 subst iv
 rw[List.take_length]at bg0
 have hL:=wP bs
 generalize fc bs=L at *
 have tl:=iz L k
 (try((repeat(revert hN;revert N;apply Pn.out));refine wk (tw @b7 (tw @bg0 (tw @b0 (tw @b1 (tw @b5 @hj))))) ?_;(repeat(refine Pn.mk ?_;intro N hN))))
 have RT:o.bt<st_b.next:=bI0
 refine bz (fun n env st=>∃i:Nat,n=(k)-i/\i<=(k)/\env 12=.int .i64 (i:Int)/\st.get o=some ⟨true,1,eI L k⟩/\(∃oo rows ids,env 11=.own oo 0 rows.length/\st.get oo=some ⟨true,1,rows⟩/\fX T9 st.get rows ((leads i L).map (members k L)) ids/\(∀x∈oo::ids,st_b.next<=x.bt/\x.bt<st.next)/\st_b.next<=st.next/\oo∉ids)) (k) ⟨0,ae,ae,sl (tw @b7 (tw @bg0 (tw @b0 (tw @b1 (tw @b5 (dj RT)))))),sl (tw @b7 (tw @bg0 (tw @b0 (tw @b1 (tw @b5 (dj RT)))))),⟨⟨121016000,st_b.next+1⟩,[],[],by(simp only[go_sem, ↓reduceIte,Nat.reduceEqDiff,Nat.reduceAdd,Nat.reduceSub,Nat.reduceLeDiff,reduceCtorEq])<;>rfl,sd @Nat.zero_add,.nil,fun x hx=>by rw[List.mem_singleton.1 hx];(try dsimp only);omega,aU,by simp⟩⟩ ?_
 rintro n_d env_d st_d ⟨i,rfl,dle,d12,dg0,dI0⟩ dfr
 have d0:=dfr 0 (by kernel_rfl);have d5:=dfr 5 (by kernel_rfl)
 simp only[go_sem, ↓reduceIte,Nat.reduceEqDiff,Nat.reduceAdd,Nat.reduceSub,Nat.reduceLeDiff,reduceCtorEq,b7,bg0,b0,b1,b5,dj RT]at d0 d5
 clear dfr
 obtain⟨oo,rows,ids,d11,dg,hR,pN,hle,l6⟩:=dI0
 have rY:=iY i L
 have xK:=hR.len
 by_cases hi:(i:Int)<(k:Int)
 ·have wS:∀{e:Env} {gg:Rows} {nx:Nat},(e 12=.int .i64 (IntKind.i64.wrap ((i:Int)+1)))->(gg o=some ⟨true,1,eI L k⟩)->(∃oo rows ids,e 11=.own oo 0 rows.length/\gg oo=some ⟨true,1,rows⟩/\fX T9 gg rows ((leads (i+1) L).map (members k L)) ids/\(∀x∈oo::ids,st_b.next<=x.bt/\x.bt<nx)/\st_b.next<=nx/\oo∉ids)->∃m0,m0<(k)-i/\∃i:Nat,m0=(k)-i/\i<=(k)/\e 12=.int .i64 (i:Int)/\gg o=some ⟨true,1,eI L k⟩/\(∃oo rows ids,e 11=.own oo 0 rows.length/\gg oo=some ⟨true,1,rows⟩/\fX T9 gg rows ((leads i L).map (members k L)) ids/\(∀x∈oo::ids,st_b.next<=x.bt/\x.bt<nx)/\st_b.next<=nx/\oo∉ids):=fun x1 x2 x3=>⟨_,ae,i+1,rfl,ae,(by rw[x1,az ae]),x2,x3⟩
  have fU:i<k:=ae
  have hC:=gD (f:=L) fU
  have lp:=dj (i:=o) (n:=st_d.next) ae
  have V3:=dj (i:=oo) (n:=st_d.next) (pN oo (by simp)).2
  by_cases he:L i=i
  ·rw[if_pos he]at rY
   have wI:decide ((L i:Int)=(i:Int))=true:=decide_eq_true (by rw[he])
   rw[eN]at hC
   (try((repeat(revert hN;revert N;apply Pn.out));refine wk (tw @d12 (tw @dg0 (tw @d0 (tw @d5 (tw @d11 (tw @dg (tw @hi (tw @hC (tw @tl (tw @wI (tw @lp @V3))))))))))) ?_;(repeat(refine Pn.mk ?_;intro N hN))))
   refine bz (fun n env st=>∃m:Nat,n=((k-i))-m/\m<=((k-i))/\env 14=(.int .i64 ((i+m:Nat):Int))/\(∃pp:Id,env 13=.own pp 0 (members (i+m) L i).length/\st.get pp=some ⟨true,1,(members (i+m) L i).map eN⟩/\st_d.next<=pp.bt/\pp.bt<st.next/\(∀x:Id,x.bt<st_d.next->st.get x=st_d.get x)/\st_d.next<=st.next)) ((k-i)) ⟨0,ae,ae,sl (tw @d12 (tw @dg0 (tw @d0 (tw @d5 @d11)))),⟨⟨121021000,st_d.next+1+1⟩,by rw[show members (i+0) L i=[]from oM hL (Nat.le_refl i)];(simp only[go_sem, ↓reduceIte,Nat.reduceEqDiff,Nat.reduceAdd,Nat.reduceSub,Nat.reduceLeDiff,reduceCtorEq])<;>rfl,by rw[show members (i+0) L i=[]from oM hL (Nat.le_refl i)];(simp only[go_sem, ↓reduceIte,Nat.reduceEqDiff,Nat.reduceAdd,Nat.reduceSub,Nat.reduceLeDiff,reduceCtorEq])<;>rfl,aU,aU,fun x hx=>sd (dj hx),aU⟩⟩ ?_
   rintro n_f env_f st_f ⟨m,rfl,fle,f14,fI0⟩ ffr
   have f0:=ffr 0 (by kernel_rfl);have f5:=ffr 5 (by kernel_rfl);have f11:=ffr 11 (by kernel_rfl);have f12:=ffr 12 (by kernel_rfl)
   simp only[go_sem, ↓reduceIte,Nat.reduceEqDiff,Nat.reduceAdd,Nat.reduceSub,Nat.reduceLeDiff,reduceCtorEq,d12,dg0,d0,d5,d11]at f0 f5 f11 f12
   clear ffr
   obtain⟨pp,f13,fg,RW,Lx,jn,pr⟩:=fI0
   have ub:st_f.get o=some ⟨true,1,eI L k⟩:=(jn o ae).trans dg0
   have Y7:st_f.get oo=some ⟨true,1,rows⟩:=(jn oo (pN oo (by simp)).2).trans dg
   have Da:=dj Lx
   have Ej:=dj (i:=o) (n:=st_f.next) ae
   have V4:=dj (i:=oo) (n:=st_f.next) (by have:=(pN oo (by simp)).2;omega)
   have OC:members (i+(m+1)) L i=members (i+m) L i++if L (i+m)=i then[i+m]else[]:=kh (i+m) L i
   have Zj:(members (i+m) L i).length<=i+m:=by
    have:=List.length_filter_le (fun k=>L k==i) (List.range (i+m))
    simpa[members]using this
   have x1:=dp (a:=o) (b:=pp) ae
   have x2:=dp (a:=oo) (b:=pp) (by have:=(pN oo (by simp)).2;omega)
   have x3:=dp (a:=o) (b:=oo) (by have:=(pN oo (by simp)).1;omega)
   by_cases hm:m<k-i
   ·have uu:∀{e:Env} {gg:Rows} {nx:Nat},(e 14=(.int .i64 ((i+(m+1):Nat):Int)))->(∃pp:Id,e 13=.own pp 0 (members (i+(m+1)) L i).length/\gg pp=some ⟨true,1,(members (i+(m+1)) L i).map eN⟩/\st_d.next<=pp.bt/\pp.bt<nx/\(∀x:Id,x.bt<st_d.next->gg x=st_d.get x)/\st_d.next<=nx)->∃m0,m0<((k-i))-m/\∃m:Nat,m0=((k-i))-m/\m<=((k-i))/\e 14=(.int .i64 ((i+m:Nat):Int))/\(∃pp:Id,e 13=.own pp 0 (members (i+m) L i).length/\gg pp=some ⟨true,1,(members (i+m) L i).map eN⟩/\st_d.next<=pp.bt/\pp.bt<nx/\(∀x:Id,x.bt<st_d.next->gg x=st_d.get x)/\st_d.next<=nx):=fun x1 x2=>⟨_,ae,m+1,rfl,ae,x1,x2⟩
    have Xx:((i+m:Nat):Int)<(k:Int):=ae
    have Yy:=gD (f:=L) (show i+m<k by omega)
    have hw:IntKind.i64.wrap (((i+m:Nat):Int)+1)=((i+(m+1):Nat):Int):=by rw[cD ae];omega
    rw[eN]at Yy
    by_cases hq:L (i+m)=i
    ·have nr:decide ((L (i+m):Int)=(i:Int))=true:=decide_eq_true (by rw[hq])
     rw[if_pos hq]at OC
     have e1:(members (i+m) L i).length+1<=16777216:=ae
     have gp:((members (i+m) L i).map eN).length=(members (i+m) L i).length:=by simp
     (try((repeat(revert hN;revert N;apply Pn.out));refine wk (tw @f14 (tw @f0 (tw @f5 (tw @f11 (tw @f12 (tw @f13 (tw @fg (tw @ub (tw @Xx (tw @Yy (tw @tl (tw @nr (tw @Da (tw @Ej (tw @x1 (tw @e1 @gp)))))))))))))))) ?_;(repeat(refine Pn.mk ?_;intro N hN))))
     exact uu (sd (tw @f14 (tw @f0 (tw @f5 (tw @f11 (tw @f12 (tw @ub (tw @hw (tw @Ej @x1))))))))) (⟨⟨121026003,st_f.next+1+1⟩,by rw[OC,List.length_append];simp only[go_sem, ↓reduceIte,Nat.reduceEqDiff,Nat.reduceAdd,Nat.reduceSub,Nat.reduceLeDiff,reduceCtorEq,List.length_cons,List.length_nil],by rw[OC,List.map_append,List.map_cons,List.map_nil];simp only[go_sem, ↓reduceIte,Nat.reduceEqDiff,Nat.reduceAdd,Nat.reduceSub,Nat.reduceLeDiff,reduceCtorEq,eN],aU,aU,fun x hx=>by
      have y1:=jn x hx
      have y2:=dp (a:=x) (b:=pp) ae
      simp only[go_sem, ↓reduceIte,Nat.reduceEqDiff,Nat.reduceAdd,Nat.reduceSub,Nat.reduceLeDiff,reduceCtorEq,dj (show x.bt<st_f.next by omega),y1,y2],aU⟩)
    ·have nr:decide ((L (i+m):Int)=(i:Int))=false:=decide_eq_false fun h=>hq ae
     rw[if_neg hq,List.append_nil]at OC
     (try((repeat(revert hN;revert N;apply Pn.out));refine wk (tw @f14 (tw @f0 (tw @f5 (tw @f11 (tw @f12 (tw @f13 (tw @fg (tw @ub (tw @Xx (tw @Yy (tw @tl (tw @nr (tw @Da (tw @Ej @x1)))))))))))))) ?_;(repeat(refine Pn.mk ?_;intro N hN))))
     exact uu (sd (tw @f14 (tw @f0 (tw @f5 (tw @f11 (tw @f12 (tw @ub @hw))))))) (⟨pp,by rw[OC];simp only[go_sem, ↓reduceIte,Nat.reduceEqDiff,Nat.reduceAdd,Nat.reduceSub,Nat.reduceLeDiff,reduceCtorEq,f13],by rw[OC];simp only[go_sem, ↓reduceIte,Nat.reduceEqDiff,Nat.reduceAdd,Nat.reduceSub,Nat.reduceLeDiff,reduceCtorEq,fg],RW,aU,jn,aU⟩)
   ·have hmk:i+m=k:=ae
    have Xx:¬((i+m:Nat):Int)<(k:Int):=ae
    rw[hmk]at f13 fg Zj
    have e1:rows.length+1<=16777216:=by
     have:=kK i L
     rw[xK,List.length_map];omega
    (try((repeat(revert hN;revert N;apply Pn.out));refine wk (tw @f14 (tw @f0 (tw @f5 (tw @f11 (tw @f12 (tw @f13 (tw @fg (tw @ub (tw @Y7 (tw @Xx (tw @Da (tw @Ej (tw @V4 (tw @x1 (tw @x2 @e1))))))))))))))) ?_;(repeat(refine Pn.mk ?_;intro N hN))))
    refine wS ?_ ?_ (⟨⟨121027003,st_f.next+1⟩,rows++[[.own pp 0 (members k L i).length]],ids++[pp],by rw[List.length_append];simp only[go_sem, ↓reduceIte,Nat.reduceEqDiff,Nat.reduceAdd,Nat.reduceSub,Nat.reduceLeDiff,reduceCtorEq,List.length_cons,List.length_nil],sd @Nat.zero_add,by
      rw[rY,List.map_append]
      refine(hR.frame Sf fun x hx=>?_).app (.one ⟨pp,rfl,?_,rfl⟩)
      ·have h1:=pN x (by simp[hx])
       have y1:=jn x h1.2
       have y2:=dp (a:=x) (b:=pp) ae
       have y3:(x=oo)=False:=by
        simp only[eq_iff_iff,iff_false]
        rintro rfl
        exact l6 hx
       simp only[go_sem, ↓reduceIte,Nat.reduceEqDiff,Nat.reduceAdd,Nat.reduceSub,Nat.reduceLeDiff,reduceCtorEq,dj (show x.bt<st_f.next by omega),y1,y2,y3]
      ·simp only[go_sem, ↓reduceIte,Nat.reduceEqDiff,Nat.reduceAdd,Nat.reduceSub,Nat.reduceLeDiff,reduceCtorEq,Da,x2,fg],fun x hx=>by
      rcases List.mem_cons.1 hx with rfl|hx
      ·(try dsimp only);omega
      ·rcases List.mem_append.1 hx with hx|hx
       ·have:=pN x (by simp[hx]);(try dsimp only);omega
       ·rw[List.mem_singleton.1 hx];(try dsimp only);omega,aU,fun hc=>by
      rcases List.mem_append.1 hc with hc|hc
      ·have:=(pN _ (List.mem_cons_of_mem _ hc)).2;(try dsimp only at this);omega
      ·have:=List.mem_singleton.1 hc;rw[<-this]at Lx;(try dsimp only at Lx);omega⟩)
    all_goals simp only[go_sem, ↓reduceIte,Nat.reduceEqDiff,Nat.reduceAdd,Nat.reduceSub,Nat.reduceLeDiff,reduceCtorEq,f14,f0,f5,f11,f12,ub,Ej,x3]
  ·rw[if_neg he,List.append_nil]at rY
   have wI:decide ((L i:Int)=(i:Int))=false:=decide_eq_false fun h=>he ae
   rw[eN]at hC
   (try((repeat(revert hN;revert N;apply Pn.out));refine wk (tw @d12 (tw @dg0 (tw @d0 (tw @d5 (tw @d11 (tw @dg (tw @hi (tw @hC (tw @tl (tw @wI (tw @lp @V3))))))))))) ?_;(repeat(refine Pn.mk ?_;intro N hN))))
   refine wS ?_ ?_ (⟨oo,rows,ids,sd @d11,sd @dg,by rw[rY];exact hR,fun x hx=>by have:=pN x hx;(try dsimp only);omega,aU,l6⟩)
   all_goals simp only[go_sem, ↓reduceIte,Nat.reduceEqDiff,Nat.reduceAdd,Nat.reduceSub,Nat.reduceLeDiff,reduceCtorEq,d12,dg0,d0,d5]
 ·have AM:i=k:=ae
  (try((repeat(revert hN;revert N;apply Pn.out));refine wk (tw @d12 (tw @dg0 (tw @d0 (tw @d5 (tw @d11 (tw @dg @hi)))))) ?_;(repeat(refine Pn.mk ?_;intro N hN))))
  refine zp (.inl rfl) (by simp only[go_sem, ↓reduceIte,Nat.reduceEqDiff,Nat.reduceAdd,Nat.reduceSub,Nat.reduceLeDiff,reduceCtorEq];rfl) ?_
  rw[tX dg (by simp) (rows':=(gJ k L).map C4) (by rw[List.drop_zero,List.take_of_length_le (Nat.le_refl _)];rw[AM]at hR;exact L1 3 hR)]
theorem zD (n:Nat):List.replicate n [AV.int .i64 0]=eI (fun _=>0) n:=by
 refine List.ext_getElem? fun i=>?_
 by_cases h:i<n
 ·rw[gD h,List.getElem?_replicate,if_pos h];rfl
 ·rw[List.getElem?_eq_none (by simp;omega),List.getElem?_eq_none (by rw[iz];omega)]
def dJ (cnt:Nat) (L:Nat->Nat) (i m:Nat):Nat->Nat:=fun x=>if de L x<i then de L x else if x∈(members cnt L ((leads cnt L).getD i 0)).take m then i else 0
theorem qG (cnt:Nat) (L:Nat->Nat):dJ cnt L 0 0=fun _=>0:=by funext x;simp[dJ]
theorem w6 (t:Int) (bs:List PB) (k:Nat) (h:k<bs.length):bw t (bs.take (k+1))=bw t (bs.take k)++if t<=(bs[k]).s then[bs[k]]else[]:=by
 unfold bw
 rw[List.take_succ_eq_append_getElem h,List.filter_append]
 congr 1
 by_cases h:t<=bs[k].s<;>simp[h]
theorem zy {t:Int} {bs:List PB} {b:PB} (h:b∈bw t bs):b∈bs:=(List.mem_filter.1 h).1
theorem oZ (t:Int) (bs:List PB):(bw t bs).length<=bs.length:=List.length_filter_le _ _
theorem ED (cnt:Nat) (hn:cnt<=1048576) (bs:List PB) (hb:∀b∈bs,b.a<cnt/\b.b<cnt) (iK:bs.length<=1048576) (t:Int):au Tryz.prog 96 [.int .i64 cnt,.sl (bs.map aI),.int .i64 t] (.ib [.int .i64 (leads cnt (fc (bw t bs))).length,.sl ((gi (fc (bw t bs)) bs).map aI)]):=by
 refine au.body fF rfl fun hl n0=>?_
 clear hl
 (try((repeat(revert hN;revert N;apply Pn.out));refine wk @Nat.zero_add ?_;(repeat(refine Pn.mk ?_;intro N hN))))
 refine bz (fun n env st=>∃k:Nat,n=(bs.length)-k/\k<=(bs.length)/\env 9=.int .i64 (k:Int)/\(∃o:Id,env 8=.own o 0 (bw t (bs.take k)).length/\st.get o=some ⟨true,3,(bw t (bs.take k)).map aI⟩/\o.bt<st.next)) (bs.length) ⟨0,ae,ae,sl @Nat.zero_add,⟨⟨96001000,n0+1⟩,by(simp only[go_sem, ↓reduceIte,Nat.reduceEqDiff,Nat.reduceAdd,Nat.reduceSub,Nat.reduceLeDiff,reduceCtorEq])<;>rfl,by(simp only[go_sem, ↓reduceIte,Nat.reduceEqDiff,Nat.reduceAdd,Nat.reduceSub,Nat.reduceLeDiff,reduceCtorEq])<;>rfl,aU⟩⟩ ?_
 rintro n_a env_a st_a ⟨k,rfl,ale,a9,oh⟩ eJ
 have a0:=eJ 0 (by kernel_rfl);have a1:=eJ 1 (by kernel_rfl);have a2:=eJ 2 (by kernel_rfl)
 simp only[go_sem, ↓reduceIte,Nat.reduceEqDiff,Nat.reduceAdd,Nat.reduceSub,Nat.reduceLeDiff,reduceCtorEq]at a0 a1 a2
 clear eJ
 obtain⟨o,a8,ag,xJ⟩:=oh
 have s8:=dj xJ
 by_cases hk:(k:Int)<(bs.length:Int)
 ·have dx:∀{e:Env} {gg:Rows} {nx:Nat},(e 9=.int .i64 (IntKind.i64.wrap ((k:Int)+1)))->(∃o:Id,e 8=.own o 0 (bw t (bs.take (k+1))).length/\gg o=some ⟨true,3,(bw t (bs.take (k+1))).map aI⟩/\o.bt<nx)->∃m0,m0<(bs.length)-k/\∃k:Nat,m0=(bs.length)-k/\k<=(bs.length)/\e 9=.int .i64 (k:Int)/\(∃o:Id,e 8=.own o 0 (bw t (bs.take k)).length/\gg o=some ⟨true,3,(bw t (bs.take k)).map aI⟩/\o.bt<nx):=fun x1 x2=>⟨_,ae,k+1,rfl,ae,(by rw[x1,az ae]),x2⟩
  have iR:k<bs.length:=ae
  have gq:(bs.map aI)[k]? =some (aI bs[k]):=by simp[iR]
  have hs:=w6 t bs k iR
  have yK:=oZ t (bs.take k)
  rw[List.length_take]at yK
  by_cases hc:t<=(bs[k]).s
  ·rw[if_pos hc]at hs
   have e1:(bw t (bs.take k)).length+1<=16777216:=ae
   have gp:((bw t (bs.take k)).map aI).length=(bw t (bs.take k)).length:=by simp
   generalize bs[k]=b at *
   (try((repeat(revert hN;revert N;apply Pn.out));refine wk (tw @a9 (tw @a0 (tw @a1 (tw @a2 (tw @a8 (tw @ag (tw @s8 (tw @hk (tw @gq (tw @hc (tw @e1 (tw @gp @aI.eq_1)))))))))))) ?_;(repeat(refine Pn.mk ?_;intro N hN))))
   exact dx (sd (tw @a9 (tw @a0 (tw @a1 @a2)))) (⟨⟨96006006,st_a.next+1+1⟩,by rw[hs,List.length_append];simp only[go_sem, ↓reduceIte,Nat.reduceEqDiff,Nat.reduceAdd,Nat.reduceSub,Nat.reduceLeDiff,reduceCtorEq,List.length_cons,List.length_nil],by rw[hs,List.map_append,List.map_cons,List.map_nil];simp only[go_sem, ↓reduceIte,Nat.reduceEqDiff,Nat.reduceAdd,Nat.reduceSub,Nat.reduceLeDiff,reduceCtorEq,aI],aU⟩)
  ·rw[if_neg hc,List.append_nil]at hs
   generalize bs[k]=b at *
   (try((repeat(revert hN;revert N;apply Pn.out));refine wk (tw @a9 (tw @a0 (tw @a1 (tw @a2 (tw @a8 (tw @ag (tw @s8 (tw @hk (tw @gq (tw @hc @aI.eq_1)))))))))) ?_;(repeat(refine Pn.mk ?_;intro N hN))))
   exact dx (sd (tw @a9 (tw @a0 (tw @a1 @a2)))) (⟨o,by rw[hs];simp only[go_sem, ↓reduceIte,Nat.reduceEqDiff,Nat.reduceAdd,Nat.reduceSub,Nat.reduceLeDiff,reduceCtorEq,a8],by rw[hs];simp only[go_sem, ↓reduceIte,Nat.reduceEqDiff,Nat.reduceAdd,Nat.reduceSub,Nat.reduceLeDiff,reduceCtorEq,ag],aU⟩)
 have mU:k=bs.length:=ae
 subst mU
 rw[List.take_length]at a8 ag
 have AL:=EB cnt hn (bw t bs) (fun b h=>hb b (zy h)) (by have:=oZ t bs;omega)
 have hL:=wP (bw t bs)
 have Ou:fz (eu st_a.get) 6 (.own o 0 (bw t bs).length)=some (.sl ((bw t bs).map aI)):=kG (sz:=3) (by simp[eu,ag]) rfl fun b=>B3 _ 4 b
 have Y5:∀x,eC (eu st_a.get) 6 [.int .i64 x,.own o 0 (bw t bs).length]=some [.int .i64 x,.sl ((bw t bs).map aI)]:=fun x=>by simp only[ai,aj,aP,Ou,Option.map_some]
 (try((repeat(revert hN;revert N;apply Pn.out));refine wk (tw @a9 (tw @a0 (tw @a1 (tw @a2 (tw @a8 @hk))))) ?_;(repeat(refine Pn.mk ?_;intro N hN))))
 refine .inl ⟨_,au.x AL (Y5 _),?_⟩
 refine hN _ _ ?_
 clear hN N
 generalize fc (bw t bs)=L at *
 have uN:((gJ cnt L).map C4).length=(leads cnt L).length:=by simp[gJ]
 have Xu:=kK cnt L
 have kB:(0:Int)<=(cnt:Int):=ae
 have sr:(cnt:Int)<=((16777216:Nat):Int):=ae
 have iP:List.replicate cnt [AV.int .i64 0]=eI (dJ cnt L 0 0) cnt:=by rw[zD,qG]
 (try((repeat(revert hN;revert N;apply Pn.out));refine wk (tw @a9 (tw @a0 (tw @a1 (tw @a2 (tw @kB (tw @sr @Int.le_refl)))))) ?_;(repeat(refine Pn.mk ?_;intro N hN))))
 refine bz (fun n env st=>∃i:Nat,n=((leads cnt L).length)-i/\i<=((leads cnt L).length)/\env 12=.int .i64 (i:Int)/\st.get ⟨96008001,st_a.next+1+1⟩=some ⟨true,1,eI (dJ cnt L i 0) cnt⟩/\(st_a.next+1+1<st.next)) ((leads cnt L).length) ⟨0,ae,ae,sl (tw @a9 (tw @a0 (tw @a1 (tw @a2 @iP)))),sl (tw @a9 (tw @a0 (tw @a1 (tw @a2 @iP)))),aU⟩ ?_
 rintro n_c env_c st_c ⟨i,rfl,cle,qi,cg0,cI0⟩ iV
 have c1:=iV 1 (by kernel_rfl);have iE:=iV 10 (by kernel_rfl);have pG:=iV 11 (by kernel_rfl)
 simp only[go_sem, ↓reduceIte,Nat.reduceEqDiff,Nat.reduceAdd,Nat.reduceSub,Nat.reduceLeDiff,reduceCtorEq,a9,a0,a1,a2,iP]at c1 iE pG
 clear iV
 by_cases hi:(i:Int)<((leads cnt L).length:Int)
 ·have gQ:∀{e:Env} {gg:Rows} {nx:Nat},(e 12=.int .i64 (IntKind.i64.wrap ((i:Int)+1)))->(gg ⟨96008001,st_a.next+1+1⟩=some ⟨true,1,eI (dJ cnt L (i+1) 0) cnt⟩)->(st_a.next+1+1<nx)->∃m0,m0<((leads cnt L).length)-i/\∃i:Nat,m0=((leads cnt L).length)-i/\i<=((leads cnt L).length)/\e 12=.int .i64 (i:Int)/\gg ⟨96008001,st_a.next+1+1⟩=some ⟨true,1,eI (dJ cnt L i 0) cnt⟩/\(st_a.next+1+1<nx):=fun x1 x2 x3=>⟨_,ae,i+1,rfl,ae,(by rw[x1,az ae]),x2,x3⟩
  have fU:i<(leads cnt L).length:=ae
  have jb:((gJ cnt L).map C4)[i]? =some (C4 (members cnt L (leads cnt L)[i])):=by simp[gJ,fU]
  have tz:(leads cnt L).getD i 0=(leads cnt L)[i]:=by simp[List.getD_eq_getElem?_getD,fU]
  have mA:∀m,dJ cnt L i m=fun x=>if de L x<i then de L x else if x∈(members cnt L (leads cnt L)[i]).take m then i else 0:=fun m=>by unfold dJ;rw[tz]
  have ud:=fun x (hx:x<cnt)=>vL hL (n:=cnt) (k:=x) (i:=i) hx fU
  have re:(members cnt L (leads cnt L)[i]).Nodup:=List.nodup_range.filter _
  have RS:∀x∈members cnt L (leads cnt L)[i],x<cnt:=fun x hx=>(mZ.1 hx).1
  have hMc:(members cnt L (leads cnt L)[i]).length<=cnt:=by
   have:=List.length_filter_le (fun k=>L k==(leads cnt L)[i]) (List.range cnt)
   simpa[members]using this
  generalize members cnt L (leads cnt L)[i]=M at *
  have Fq:(M.map eN).length=M.length:=by simp
  (try((repeat(revert hN;revert N;apply Pn.out));refine wk (tw @qi (tw @cg0 (tw @c1 (tw @iE (tw @pG (tw @hi @uN)))))) ?_;(repeat(refine Pn.mk ?_;intro N hN))))
  refine bz (fun n env st=>∃m:Nat,n=(M.length)-m/\m<=(M.length)/\env 13=.int .i64 (m:Int)/\st.get ⟨96008001,st_a.next+1+1⟩=some ⟨true,1,eI (dJ cnt L i m) cnt⟩/\(st_a.next+1+1<st.next)) (M.length) ⟨0,ae,ae,sl (tw @qi (tw @cg0 (tw @c1 (tw @iE @pG)))),sl (tw @qi (tw @cg0 (tw @c1 (tw @iE @pG)))),aU⟩ ?_
  rintro n_d env_d st_d ⟨m,rfl,dle,d13,dg0,dI0⟩ dfr
  have d1:=dfr 1 (by kernel_rfl);have d10:=dfr 10 (by kernel_rfl);have d11:=dfr 11 (by kernel_rfl);have d12:=dfr 12 (by kernel_rfl)
  simp only[go_sem, ↓reduceIte,Nat.reduceEqDiff,Nat.reduceAdd,Nat.reduceSub,Nat.reduceLeDiff,reduceCtorEq,qi,cg0,c1,iE,pG]at d1 d10 d11 d12
  clear dfr
  have tl:=iz (dJ cnt L i m) cnt
  by_cases hm:(m:Int)<(M.length:Int)
  ·have wS:∀{e:Env} {gg:Rows} {nx:Nat},(e 13=.int .i64 (IntKind.i64.wrap ((m:Int)+1)))->(gg ⟨96008001,st_a.next+1+1⟩=some ⟨true,1,eI (dJ cnt L i (m+1)) cnt⟩)->(st_a.next+1+1<nx)->∃m0,m0<(M.length)-m/\∃m:Nat,m0=(M.length)-m/\m<=(M.length)/\e 13=.int .i64 (m:Int)/\gg ⟨96008001,st_a.next+1+1⟩=some ⟨true,1,eI (dJ cnt L i m) cnt⟩/\(st_a.next+1+1<nx):=fun x1 x2 x3=>⟨_,ae,m+1,rfl,ae,(by rw[x1,az ae]),x2,x3⟩
   have Cf:m<M.length:=ae
   have uP:(M.map eN)[m]? =some (eN M[m]):=by simp[Cf]
   have yL:=RS _ (List.getElem_mem Cf)
   have Fw:(M[m]:Int)<(cnt:Int):=ae
   have HO:=gD (f:=dJ cnt L i m) yL
   have fj:(eI (dJ cnt L i m) cnt).set M[m] (eN i)=eI (dJ cnt L i (m+1)) cnt:=rL yL (by
    have h1:=(ud _ yL).1 (List.getElem_mem Cf)
    rw[mA]
    simp only[]
    rw[if_neg ae,if_pos (by rw[List.take_succ_eq_append_getElem Cf];exact List.mem_append_right _ (List.mem_singleton.2 rfl))]) fun x hx iN=>by
    rw[mA,mA]
    simp only[]
    rw[List.take_succ_eq_append_getElem Cf]
    simp only[List.mem_append,List.mem_singleton,iN,or_false]
   rw[eN]at fj HO
   generalize M[m]=xm at *
   (try((repeat(revert hN;revert N;apply Pn.out));refine wk (tw @d13 (tw @dg0 (tw @d1 (tw @d10 (tw @d11 (tw @d12 (tw @hm (tw @hi (tw @jb (tw @uN (tw @uP (tw @Fq (tw @Fw (tw @HO (tw @tl (tw @fj (tw @C4.eq_1 @eN.eq_1))))))))))))))))) ?_;(repeat(refine Pn.mk ?_;intro N hN))))
   refine wS ?_ ?_ aU
   all_goals simp only[go_sem, ↓reduceIte,Nat.reduceEqDiff,Nat.reduceAdd,Nat.reduceSub,Nat.reduceLeDiff,reduceCtorEq,d13,dg0,d1,d10,d11,d12,fj]
  ·have gp:m=M.length:=ae
   subst gp
   have pr:eI (dJ cnt L i M.length) cnt=eI (dJ cnt L (i+1) 0) cnt:=jh fun x hx=>by
    rw[mA,List.take_length]
    simp only[dJ,List.take_zero,List.not_mem_nil,if_false]
    have h1:=ud x hx
    by_cases h2:de L x<i
    ·rw[if_pos h2,if_pos ae]
    ·rw[if_neg h2]
     by_cases h3:x∈M
     ·rw[if_pos h3,if_pos (by have:=h1.1 h3;omega),h1.1 h3]
     ·rw[if_neg h3,if_neg fun h4=>h3 (h1.2 ae)]
   (try((repeat(revert hN;revert N;apply Pn.out));refine wk (tw @d13 (tw @dg0 (tw @d1 (tw @d10 (tw @d11 (tw @d12 (tw @hm (tw @hi (tw @jb (tw @uN (tw @Fq @C4.eq_1))))))))))) ?_;(repeat(refine Pn.mk ?_;intro N hN))))
   refine gQ ?_ ?_ aU
   all_goals simp only[go_sem, ↓reduceIte,Nat.reduceEqDiff,Nat.reduceAdd,Nat.reduceSub,Nat.reduceLeDiff,reduceCtorEq,qi,cg0,c1,iE,pG,d13,dg0,d1,d10,d11,d12,pr]
 have l5:i=(leads cnt L).length:=ae
 subst l5
 have l6:eI (dJ cnt L (leads cnt L).length 0) cnt=eI (de L) cnt:=jh fun x hx=>by rw[dJ,if_pos (lr hL hx)]
 rw[l6]at cg0
 have tl:=iz (de L) cnt
 (try((repeat(revert hN;revert N;apply Pn.out));refine wk (tw @qi (tw @cg0 (tw @c1 (tw @iE (tw @pG (tw @hi @uN)))))) ?_;(repeat(refine Pn.mk ?_;intro N hN))))
 have Ul:st_a.next+1+1<st_c.next:=cI0
 refine bz (fun n env st=>∃j:Nat,n=(bs.length)-j/\j<=(bs.length)/\env 15=.int .i64 (j:Int)/\st.get ⟨96008001,st_a.next+1+1⟩=some ⟨true,1,eI (de L) cnt⟩/\(∃p:Id,env 14=.own p 0 (gi L (bs.take j)).length/\st.get p=some ⟨true,3,(gi L (bs.take j)).map aI⟩/\st_c.next<=p.bt/\p.bt<st.next)) (bs.length) ⟨0,ae,ae,sl (tw @qi (tw @cg0 (tw @c1 (tw @iE @pG)))),sl (tw @qi (tw @cg0 (tw @c1 (tw @iE @pG)))),⟨⟨96016000,st_c.next+1⟩,by(simp only[go_sem, ↓reduceIte,Nat.reduceEqDiff,Nat.reduceAdd,Nat.reduceSub,Nat.reduceLeDiff,reduceCtorEq])<;>rfl,by(simp only[go_sem, ↓reduceIte,Nat.reduceEqDiff,Nat.reduceAdd,Nat.reduceSub,Nat.reduceLeDiff,reduceCtorEq])<;>rfl,aU,aU⟩⟩ ?_
 rintro n_f env_f st_f ⟨j,rfl,fle,f15,fg0,fI0⟩ ffr
 have f1:=ffr 1 (by kernel_rfl);have f10:=ffr 10 (by kernel_rfl);have f11:=ffr 11 (by kernel_rfl)
 simp only[go_sem, ↓reduceIte,Nat.reduceEqDiff,Nat.reduceAdd,Nat.reduceSub,Nat.reduceLeDiff,reduceCtorEq,qi,cg0,c1,iE,pG]at f1 f10 f11
 clear ffr
 obtain⟨p,f14,fg,RW,Lx⟩:=fI0
 have x1:=dp (a:=⟨96008001,st_a.next+1+1⟩) (b:=p) aU
 have Da:=dj Lx
 have hvn:st_a.next+1+1<st_f.next:=ae
 have LK:=dj (i:=⟨96008001,st_a.next+1+1⟩) (n:=st_f.next) hvn
 have yK:=(oV L (bs.take j)).2
 rw[List.length_take]at yK
 by_cases hj:(j:Int)<(bs.length:Int)
 ·have uu:∀{e:Env} {gg:Rows} {nx:Nat},(e 15=.int .i64 (IntKind.i64.wrap ((j:Int)+1)))->(gg ⟨96008001,st_a.next+1+1⟩=some ⟨true,1,eI (de L) cnt⟩)->(∃p:Id,e 14=.own p 0 (gi L (bs.take (j+1))).length/\gg p=some ⟨true,3,(gi L (bs.take (j+1))).map aI⟩/\st_c.next<=p.bt/\p.bt<nx)->∃m0,m0<(bs.length)-j/\∃j:Nat,m0=(bs.length)-j/\j<=(bs.length)/\e 15=.int .i64 (j:Int)/\gg ⟨96008001,st_a.next+1+1⟩=some ⟨true,1,eI (de L) cnt⟩/\(∃p:Id,e 14=.own p 0 (gi L (bs.take j)).length/\gg p=some ⟨true,3,(gi L (bs.take j)).map aI⟩/\st_c.next<=p.bt/\p.bt<nx):=fun x1 x2 x3=>⟨_,ae,j+1,rfl,ae,(by rw[x1,az ae]),x2,x3⟩
  have oi:j<bs.length:=ae
  have D8:(bs.map aI)[j]? =some (aI bs[j]):=by simp[oi]
  have Oq:=hb _ (List.getElem_mem oi)
  have hs:=CI L (bs.take j) bs[j]
  rw[<-List.take_succ_eq_append_getElem oi]at hs
  generalize bs[j]=b at *
  have hA:=gD (f:=de L) Oq.1
  have hB:=gD (f:=de L) Oq.2
  have iO:(b.a:Int)<(cnt:Int):=ae
  have gK:(b.b:Int)<(cnt:Int):=ae
  have Xa:=Ew (de L b.a) (de L b.b)
  have Xb:=Ev (de L b.a) (de L b.b)
  rw[eN]at hA hB
  by_cases he:de L b.a=de L b.b
  ·rw[if_pos he,List.append_nil]at hs
   have wI:decide ((de L b.a:Int)=(de L b.b:Int))=true:=decide_eq_true (by rw[he])
   (try((repeat(revert hN;revert N;apply Pn.out));refine wk (tw @f15 (tw @fg0 (tw @f1 (tw @f10 (tw @f11 (tw @f14 (tw @fg (tw @hj (tw @D8 (tw @hA (tw @hB (tw @iO (tw @gK (tw @tl (tw @wI (tw @x1 (tw @Da @aI.eq_1))))))))))))))))) ?_;(repeat(refine Pn.mk ?_;intro N hN))))
   refine uu ?_ ?_ (⟨p,by rw[hs];simp only[go_sem, ↓reduceIte,Nat.reduceEqDiff,Nat.reduceAdd,Nat.reduceSub,Nat.reduceLeDiff,reduceCtorEq,f14],by rw[hs];simp only[go_sem, ↓reduceIte,Nat.reduceEqDiff,Nat.reduceAdd,Nat.reduceSub,Nat.reduceLeDiff,reduceCtorEq,fg],RW,aU⟩)
   all_goals simp only[go_sem, ↓reduceIte,Nat.reduceEqDiff,Nat.reduceAdd,Nat.reduceSub,Nat.reduceLeDiff,reduceCtorEq,f15,fg0,f1,f10,f11]
  ·rw[if_neg he]at hs
   have wI:decide ((de L b.a:Int)=(de L b.b:Int))=false:=decide_eq_false fun h=>he ae
   have e1:(gi L (bs.take j)).length+1<=16777216:=ae
   have gp:((gi L (bs.take j)).map aI).length=(gi L (bs.take j)).length:=by simp
   (repeat(first|((repeat(revert hN;revert N;apply Pn.out));refine wk (tw @f15 (tw @fg0 (tw @f1 (tw @f10 (tw @f11 (tw @f14 (tw @fg (tw @hj (tw @D8 (tw @hA (tw @hB (tw @iO (tw @gK (tw @tl (tw @wI (tw @x1 (tw @Da (tw @LK (tw @e1 (tw @gp @aI.eq_1)))))))))))))))))))) ?_;(repeat(refine Pn.mk ?_;intro N hN)))|((try apply Or.inl);refine⟨_,au.x (Xa) (sd (tw @f15 (tw @fg0 (tw @f1 (tw @f10 (tw @f11 (tw @f14 (tw @fg (tw @hj (tw @D8 (tw @hA (tw @hB (tw @iO (tw @gK (tw @tl (tw @wI (tw @x1 (tw @Da (tw @LK (tw @e1 (tw @gp @aI.eq_1))))))))))))))))))))),?_⟩;refine hN _ _ ?_;clear hN N)|((try apply Or.inl);refine⟨_,au.x (Xb) (sd (tw @f15 (tw @fg0 (tw @f1 (tw @f10 (tw @f11 (tw @f14 (tw @fg (tw @hj (tw @D8 (tw @hA (tw @hB (tw @iO (tw @gK (tw @tl (tw @wI (tw @x1 (tw @Da (tw @LK (tw @e1 (tw @gp @aI.eq_1))))))))))))))))))))),?_⟩;refine hN _ _ ?_;clear hN N)))
   refine uu ?_ ?_ (⟨⟨96023014,st_f.next+1+1+1+1⟩,by rw[hs,List.length_append];simp only[go_sem, ↓reduceIte,Nat.reduceEqDiff,Nat.reduceAdd,Nat.reduceSub,Nat.reduceLeDiff,reduceCtorEq,List.length_cons,List.length_nil],by rw[hs,List.map_append,List.map_cons,List.map_nil];simp only[go_sem, ↓reduceIte,Nat.reduceEqDiff,Nat.reduceAdd,Nat.reduceSub,Nat.reduceLeDiff,reduceCtorEq,aI],aU,aU⟩)
   all_goals simp only[go_sem, ↓reduceIte,Nat.reduceEqDiff,Nat.reduceAdd,Nat.reduceSub,Nat.reduceLeDiff,reduceCtorEq,f15,fg0,f1,f10,f11,x1,LK]
 ·have iv:j=bs.length:=ae
  subst iv
  rw[List.take_length]at f14 fg
  (try((repeat(revert hN;revert N;apply Pn.out));refine wk (tw @f15 (tw @fg0 (tw @f1 (tw @f10 (tw @f11 (tw @f14 (tw @hj @uN))))))) ?_;(repeat(refine Pn.mk ?_;intro N hN))))
  refine jL (.inl rfl) (r1:=.int .i64 ((leads cnt L).length:Int)) (sd @Nat.zero_add) (by simp only[go_sem, ↓reduceIte,Nat.reduceEqDiff,Nat.reduceAdd,Nat.reduceSub,Nat.reduceLeDiff,reduceCtorEq];rfl) ?_
  have h1:gU st_f.get 5 (.own p 0 (gi L bs).length)=some (.sl ((gi L bs).map aI)):=eE (sz:=3) fg rfl fun b=>xE _ 3 b
  simp only[fu,bF,cH,eK,h1,Option.map_some]
end Go.Proofs.YtiabgllilcfheaaGreat.V

namespace Go.Proofs.YtiabgllilcfheaaGreat.V
def He (bs:List PB) (e v:Nat):Prop:=(dm bs e).a=v∨(dm bs e).b=v
def jR (bs:List PB) (m v:Nat):List Nat:=(List.range m).filter fun i=>(dm bs i).a==v||(dm bs i).b==v
theorem ui {bs:List PB} {m v e:Nat}:e∈jR bs m v↔e<m/\He bs e v:=by simp[jR,He]
theorem Jk (bs:List PB) (m v:Nat):jR bs (m+1) v=jR bs m v++if (dm bs m).a=v∨(dm bs m).b=v then[m]else[]:=by
 unfold jR
 rw[List.range_succ,List.filter_append]
 congr 1
 by_cases h:(dm bs m).a=v<;>by_cases h2:(dm bs m).b=v<;>simp[h,h2]
theorem uh (bs:List PB) (m v:Nat):(jR bs m v).length<=m:=by
 have:=List.length_filter_le (fun i=>(dm bs i).a==v||(dm bs i).b==v) (List.range m)
 simpa[jR]using this
def pd (cnt:Nat) (bs:List PB):Prop:=∀e,e<bs.length->(dm bs e).a<cnt/\(dm bs e).b<cnt/\(dm bs e).a≠(dm bs e).b
theorem qK {cnt:Nat} {bs:List PB} (h:pd cnt bs) {e v:Nat} (he:e<bs.length):dh bs e v<cnt:=by
 have:=h e he;unfold dh;split;exact this.2.1;exact this.1
theorem Mj {cnt:Nat} {bs:List PB} (h:pd cnt bs) {e v:Nat} (he:e<bs.length) (hi:He bs e v):dh bs e v≠v:=by
 have h1:=(h e he).2.2
 unfold dh
 split
 ·rename_i ha;rw[<-ha];exact fun h=>h1 h.symm
 ·rename_i ha;rcases hi with hi|hi
  ·exact absurd hi ha
  ·rw[<-hi];exact h1
theorem Bh {bs:List PB} {e v:Nat}:He bs e (dh bs e v):=by
 unfold dh He;split
 ·exact .inr rfl
 ·exact .inl rfl
theorem qL {cnt:Nat} {bs:List PB} (h:pd cnt bs) {e v:Nat} (he:e<bs.length) (hi:He bs e v):dh bs e (dh bs e v)=v:=by
 have h1:=(h e he).2.2
 unfold dh
 by_cases ha:(dm bs e).a=v
 ·rw[if_pos ha,if_neg h1];exact ha
 ·rw[if_neg ha,if_pos rfl]
  rcases hi with hi|hi
  ·exact absurd hi ha
  ·exact hi
structure BD (cnt:Nat) (bs:List PB) (f:Nat->Int) (y:Nat) (out:Nat->Int):Prop where
 lo:∀v,v<cnt->-1<=out v/\out v<=cnt
 first:out y=0
 zero:∀v,v<cnt->out v=0->v=y
 down:∀v,v<cnt->0<out v->∃e,e<bs.length/\He bs e v/\0<gR bs f e v/\out (dh bs e v)=out v-1
 shut:∀e v,e<bs.length->He bs e v->0<=out (dh bs e v)->0<gR bs f e v->0<=out v
structure C1 (cnt:Nat) (bs:List PB) (f:Nat->Int) (y:Nat) (out:Nat->Int) (Q:List Nat) (i:Nat):Prop where
 nd:Q.Nodup
 lt:∀x∈Q,x<cnt
 iff:∀v,v<cnt->(0<=out v↔v∈Q)
 lo:∀v,v<cnt->-1<=out v
 first:out y=0
 up:∀j (h:j<Q.length),out Q[j]<=j
 zero:∀v,v<cnt->out v=0->v=y
 down:∀v,v<cnt->0<out v->∃e,e<bs.length/\He bs e v/\0<gR bs f e v/\out (dh bs e v)=out v-1
 shut:∀j (h:j<Q.length),j<i->∀e,e<bs.length->He bs e Q[j]->0<gR bs f e (dh bs e Q[j])->0<=out (dh bs e Q[j])
section
variable {cnt:Nat} {bs:List PB} {f:Nat->Int} {y:Nat} {out:Nat->Int} {Q:List Nat} {i:Nat}
theorem C1.start (hy:y<cnt):C1 cnt bs f y (fun v=>if v=y then 0 else -1) [y] 0 where
 nd:=by simp
 lt:=fun x hx=>by rw[List.mem_singleton.1 hx];exact hy
 iff:=fun v _=>by
  by_cases h:v=y<;>simp[h]
 lo:=fun v _=>by split<;>omega
 first:=if_pos rfl
 up:=fun j h=>by
  have:j=0:=by simp at h;omega
  subst this;simp
 zero:=fun v _ h=>by
  by_cases hv:v=y
  ·exact hv
  ·rw[if_neg hv]at h;omega
 down:=fun v _ h=>by
  by_cases hv:v=y
  ·rw[if_pos hv]at h;omega
  ·rw[if_neg hv]at h;omega
 shut:=fun j h hj=>by omega
theorem C1.len (h:C1 cnt bs f y out Q i):Q.length<=cnt:=qI cnt Q h.nd h.lt
theorem C1.visit (h:C1 cnt bs f y out Q i) (ok:pd cnt bs) (hi:i<Q.length) {e:Nat} (he:e<bs.length) (rW:He bs e Q[i]) (ll:out (dh bs e Q[i])<0) (ik:0<gR bs f e (dh bs e Q[i])):
  C1 cnt bs f y (fun v=>if v=dh bs e Q[i]then out Q[i]+1 else out v) (Q++[dh bs e Q[i]]) i:=by
 have Qr:0<=out Q[i]:=(h.iff _ (h.lt _ (List.getElem_mem hi))).2 (List.getElem_mem hi)
 have hq:=qK ok (v:=Q[i]) he
 have iN:=Mj ok he rW
 have VR:=qL ok he rW
 have Zo:dh bs e Q[i]∉Q:=fun hm=>by have:=(h.iff _ hq).2 hm;omega
 have mA:=h.up i hi
 generalize hw:dh bs e Q[i]=w at *
 have sa:∀v,0<=out v->(if v=w then out Q[i]+1 else out v)=out v:=fun v hv=>by
  rw[if_neg];rintro rfl;omega
 have mono:∀v,0<=out v->0<=(if v=w then out Q[i]+1 else out v):=fun v hv=>by rw[sa v hv];exact hv
 refine⟨?_,?_,?_,?_,?_,?_,?_,?_,?_⟩
 ·rw[List.nodup_append]
  exact⟨h.nd,by simp,fun a ha b hb=>by rw[List.mem_singleton.1 hb];rintro rfl;exact Zo ha⟩
 ·intro x hx
  rcases List.mem_append.1 hx with hx|hx
  ·exact h.lt x hx
  ·rw[List.mem_singleton.1 hx];exact hq
 ·intro v hv
  by_cases Kn:v=w
  ·subst Kn;simp;omega
  ·rw[if_neg Kn,h.iff v hv];simp[Kn]
 ·intro v hv
  by_cases Kn:v=w
  ·rw[if_pos Kn];omega
  ·rw[if_neg Kn];exact h.lo v hv
 ·rw[sa y (by rw[h.first];exact Int.le_refl _)];exact h.first
 ·intro j hj
  by_cases iv:j<Q.length
  ·rw[List.getElem_append_left iv,sa _ ((h.iff _ (h.lt _ (List.getElem_mem iv))).2 (List.getElem_mem iv))]
   exact h.up j iv
  ·have OA:j=Q.length:=by simp at hj;omega
   subst OA
   simp
   omega
 ·intro v hv h0
  by_cases Kn:v=w
  ·rw[if_pos Kn]at h0;omega
  ·rw[if_neg Kn]at h0;exact h.zero v hv h0
 ·intro v hv h0
  by_cases Kn:v=w
  ·subst Kn
   rw[if_pos rfl]
   refine⟨e,he,by rw[<-hw];exact Bh,ik,?_⟩
   rw[VR,sa _ Qr];omega
  ·rw[if_neg Kn]at h0 ⊢
   obtain⟨e',h1,h2,h3,h4⟩:=h.down v hv h0
   exact⟨e',h1,h2,h3,by rw[sa _ ae];exact h4⟩
 ·intro j hj ns e' HF Qg hr
  have iv:j<Q.length:=ae
  rw[List.getElem_append_left iv]at Qg hr ⊢
  exact mono _ (h.shut j iv ns e' HF Qg hr)
theorem C1.next (h:C1 cnt bs f y out Q i) (hi:i<Q.length) (hs:∀e∈jR bs bs.length Q[i],0<gR bs f e (dh bs e Q[i])->0<=out (dh bs e Q[i])):C1 cnt bs f y out Q (i+1):=
 ⟨h.nd,h.lt,h.iff,h.lo,h.first,h.up,h.zero,h.down,fun j hj ns e he rW hr=>by
  by_cases OA:j=i
  ·subst OA;exact hs e (ui.2 ⟨he,rW⟩) hr
  ·exact h.shut j hj ae e he rW hr⟩
theorem C1.done (h:C1 cnt bs f y out Q i) (ok:pd cnt bs) (hi:Q.length<=i):BD cnt bs f y out where
 lo:=fun v hv=>⟨h.lo v hv,by
  by_cases h0:0<=out v
  ·obtain⟨j,hj,rfl⟩:=List.getElem_of_mem ((h.iff v hv).1 h0)
   have:=h.up j hj
   have:=h.len
   omega
  ·omega⟩
 first:=h.first
 zero:=h.zero
 down:=h.down
 shut:=fun e v he rW h0 hr=>by
  obtain⟨j,hj,Up⟩:=List.getElem_of_mem ((h.iff _ (qK ok he)).1 h0)
  have h2:=h.shut j hj ae e he (by rw[Up];exact Bh)
  rw[Up,qL ok he rW]at h2
  exact h2 hr
end
end Go.Proofs.YtiabgllilcfheaaGreat.V

namespace Go.Proofs.YtiabgllilcfheaaGreat.V
open Go.RowKit
def AV.clean:AV->Bool
 | .int .. | .bool _| .str _| .ck| .iZ| .jS| .j6| .own .. | .ptr .. | .map .. | .tQ _=>true
 | .sl l=>l.isEmpty
 |_=>false
def AV.BT:AV->Bool
 | .agg cs=>cs.all AV.clean
 | .ib cs=>cs.all fun a=>match a with
  | .agg cs=>cs.all AV.clean
  |a=>a.clean
 |a=>a.clean
def Bv (ids:List Id) (g g':Rows):Rows:=fun id=>if id∈ids then g' id else g id
theorem uF {ids:List Id} {g g':Rows} {id:Id} (h:id∈ids):Bv ids g g' id=g' id:=if_pos h
theorem oc {ids:List Id} {g g':Rows} {id:Id} (h:id∉ids):Bv ids g g' id=g id:=if_neg h
section
variable {P:Program} {w w':World} {D D' D1 D2:Nat->Prop} {ι ι1 ι2:Names}
theorem kP {a:AV} {v:Value} (hp:a.clean=true) (h:dy P w D1 ι1 a v):dy P w D2 ι1 a v:=by
 cases h with
 |fy a v h=>
  cases h with
  |int=>exact .fy _ _ (.int _ _)
  |bool=>exact .fy _ _ (.bool _)
  |str=>exact .fy _ _ (.str _)
  |ck=>exact .fy _ _ .ck
  |iZ=>exact .fy _ _ .iZ
  |jS=>exact .fy _ _ .jS
  |j6=>exact .fy _ _ .j6
  |Db a c h=>exact .fy _ _ (.Db a c h)
  |sl rows b o n c sz vs h1 h2 h3=>
   have:rows=[]:=by simpa[AV.clean]using hp
   subst this
   simp only[List.length_nil]at h1
   subst h1
   exact .fy _ _ (.Db _ _ h3)
  |dv=>simp[AV.clean]at hp
  |agg=>simp[AV.clean]at hp
  |fn=>simp[AV.clean]at hp
 |own id off len o cap B h1 h2 h3 h4 h5 h6=>exact .own id off len o cap B h1 h2 h3 h4 h5 h6
 |map id m B h1 h2=>exact .map id m B h1 h2
 |tQ id c B h1 h2=>exact .tQ id c B h1 h2
 |ptr id i off B h1 h2=>exact .ptr id i off B h1 h2
 |agg=>simp[AV.clean]at hp
 |ib=>simp[AV.clean]at hp
 |fn=>simp[AV.clean]at hp
 |wR=>simp[AV.clean]at hp
theorem ny {cs:List AV} {v:Value} (hc:cs.all AV.clean=true) (h:dy P w D1 ι1 (.agg cs) v):dy P w D2 ι1 (.agg cs) v:=by
 obtain⟨vs,f,rfl,h1,h2,h3,h4⟩:=jN h
 rw[List.all_eq_true]at hc
 exact .agg cs vs f h1 h2 h3 fun j a ha=>kP (hc a (List.mem_of_getElem? ha)) (h4 j a ha)
theorem GK {a:AV} {v:Value} (hp:a.BT=true) (h:dy P w D1 ι1 a v):dy P w D2 ι1 a v:=by
 cases a with
 |agg cs=>exact ny hp h
 |ib cs=>
  obtain⟨vs,f,rfl,h1,h3,h4⟩:=xS h
  simp only[AV.BT,List.all_eq_true]at hp
  refine .ib cs vs f h1 h3 fun j a ha=>?_
  have:=hp a (List.mem_of_getElem? ha)
  split at this
  ·exact ny this (h4 j _ ha)
  ·exact kP this (h4 j _ ha)
 |_=>exact kP hp h
theorem GG {ag:Bool} {n:Nat} {cs:List AV} {x:AV} {v:Value} (hc:∀a∈cs,a.clean=true) (hp:part ag n cs=some x) (hr:dy P w D1 ι1 x v):dy P w D2 ι1 x v:=by
 unfold part at hp
 split at hp
 ·split at hp
  ·simp only[Option.some.injEq]at hp;subst hp
   exact ny (List.all_eq_true.2 fun a ha=>hc a (List.mem_of_mem_take ha)) hr
  ·cases hp
 ·exact kP (hc x (List.mem_of_mem_head? hp)) hr
theorem jk.clean {B:uS} {r:Row} (R:jk P w D1 ι1 B r) (h:∀cs∈r.rows,∀a∈cs,a.clean=true):jk P w D2 ι1 B r:=
 ⟨R.sz,R.flat,fun hk=>⟨R.sz,(R.row hk).zQ,(R.row hk).fits,(R.row hk).len,R.flat,fun i j cs a hi hj=>by
  obtain⟨v,q1,q2⟩:=(R.row hk).at_ i j cs a hi hj
  exact⟨v,q1,kP (h cs (List.mem_of_getElem? hi) a (List.mem_of_getElem? hj)) q2⟩⟩,fun m hm=>by
  obtain⟨h1,es,c,h2,h3,h5,h4⟩:=R.map m hm
  refine⟨h1,es,c,h2,h3,h5,fun i cs hi=>?_⟩
  obtain⟨e,kv,vv,q1,q2,q3,q4,q5⟩:=h4 i cs hi
  have hc:=h cs (List.mem_of_getElem? hi)
  exact⟨e,kv,vv,q1,q2,q3,GG hc q2 q4,kP (hc vv (List.mem_of_getElem? q3)) q5⟩,fun c hc=>by
  obtain⟨h1,buf,s,q,h2,h3,h4⟩:=R.chan c hc
  refine⟨h1,buf,s,q,h2,h3,fun i cs hi=>?_⟩
  obtain⟨a,u,rfl,q2,q3⟩:=h4 i cs hi
  exact⟨a,u,rfl,q2,kP (h [a] (List.mem_of_getElem? hi) a (by simp)) q3⟩⟩
def Handed (ids:List Id) (g:Rows):Prop:=∀id∈ids,∃r,g id=some r/\r.w=true/\∀cs∈r.rows,∀a∈cs,a.clean=true
theorem J8 {f:Nat} {args args':List AV} {g:Rows} {n:Nat} {K:AV->ax->Prop} (hv:eC (eu g) 6 args=some args')
  (h:Sound P f args' ⟨fun _=>none,n⟩ fun r σ'=>∃ids,r.BT=true/\Handed ids σ'.get/\K r ⟨Bv ids g σ'.get,σ'.next⟩):Sound P f args ⟨g,n⟩ K:=by
 intro hs D ι w vs S U A
 let E:Nat->Prop:=fun b=>D b∨∃id r B,g id=some r/\ι id=some B/\b=B.b
 have lt:∀id r B,g id=some r->ι id=some B->B.b<w.heap.size:=fun id r B h1 h2=>by
  obtain⟨B',eG,R,_⟩:=S.row id r h1
  rw[h2]at eG;injection eG with eG;subst eG
  exact R.lt
 have S0:iD P w.heap.size E ι (fun _=>none) w:=⟨Nat.le_refl _,fun b hb=>by
  rcases hb with hb|⟨id,r,B,h1,h2,rfl⟩
  ·exact S.dead b hb
  ·exact lt id r B h1 h2,fun id r h=>(by cases h),fun id kV r r' B B' h=>(by cases h)⟩
 obtain⟨l1,l2⟩:=iJ hv
 have A':gy P w E ι args' vs:=⟨by rw[A.1,l1],fun j a hj=>by
  obtain⟨a0,mz,hz⟩:=l2 j a hj
  obtain⟨u,hu,hr⟩:=A.2 j a0 mz
  refine⟨u,hu,(tY (D2:=E) (ι2:=ι) (fun b h=>.inl h) (fun id row hg hw=>?_) 6 a0 u a hr hz).1⟩
  unfold eu at hg
  simp only[Option.map_eq_some_iff]at hg
  obtain⟨r,pS,rfl⟩:=hg
  obtain⟨B,hB,R,_,_⟩:=S.row id r pS
  exact⟨B,hB,R.flag true,.inr ⟨id,r,B,pS,hB,rfl⟩⟩⟩
 refine(h w.heap.size E ι w vs S0 U A').mono ?_
 rintro e w' ⟨r0,g',n',D2,ι1,u,rfl,⟨ids,pJ,hid,hK⟩,T,S1,U1,hn,hR⟩
 have hb:∀b,b<w.heap.size->w'.heap[b]? =w.heap[b]? :=T.below.block
 have hz:=T.below.size
 have frame:∀{a v},dy P w D ι a v->dy P w' D ι1 a v:=fun h=>h.frame (fun b hd=>hb b (S.dead b hd)) (fun _ h=>h) T.names
 refine⟨r0,_,n',D,ι1,u,rfl,hK,⟨T.below.mono S.lo,fun b hd=>hb b (S.dead b hd),fun _ h=>h,T.names,fun _ h=>.inl h⟩,⟨Nat.le_trans S.lo hz,fun b hd=>Nat.lt_of_lt_of_le (S.dead b hd) hz,fun id r hr=>?_,fun Wc id2 r1 r2 B1 B2 h1 h2 hw C6 lP Kj=>?_⟩,U1,hn,GK pJ hR⟩
 ·by_cases hi:id∈ids
  ·rw[uF hi]at hr
   obtain⟨r',pS,hw,hcr⟩:=hid id hi
   rw[hr]at pS;injection pS with pS;subst pS
   obtain⟨B,hB,R,k1,k2⟩:=S1.row id r hr
   have kI:=k1 hw
   exact⟨B,hB,R.clean hcr,fun _=>Nat.le_trans S.lo kI,fun _ hd=>Nat.lt_irrefl _ (Nat.lt_of_lt_of_le (S.dead _ hd) kI)⟩
  ·rw[oc hi]at hr
   obtain⟨B,hB,R,k1,k2⟩:=S.row id r hr
   have W4:=lt id r B hr hB
   exact⟨B,T.names _ _ hB,R.frame (hb _ W4) fun a v h=>frame h,k1,k2⟩
 ·have new:∀{id r B},id∈ids->Bv ids g g' id=some r->ι1 id=some B->w.heap.size<=B.b/\g' id=some r/\r.w=true:=fun {id r B} hi hr hB=>by
   rw[uF hi]at hr
   obtain⟨r',pS,hw,_⟩:=hid id hi
   replace pS:g' id=some r':=pS
   rw[hr]at pS;injection pS with pS;subst pS
   obtain⟨B',eG,_,k1,_⟩:=S1.row id r hr
   rw[hB]at eG;injection eG with eG;subst eG
   exact⟨k1 hw,hr,hw⟩
  have Bf:∀{id r B},id∉ids->Bv ids g g' id=some r->ι1 id=some B->B.b<w.heap.size/\g id=some r/\ι id=some B:=fun {id r B} hi hr hB=>by
   rw[oc hi]at hr
   obtain⟨B',eG,_⟩:=S.row id r hr
   have:=T.names _ _ eG
   rw[hB]at this;injection this with this;subst this
   exact⟨lt id r _ hr eG,hr,eG⟩
  by_cases i1:Wc∈ids
  ·obtain⟨a1,a2,a3⟩:=new i1 h1 C6
   by_cases i2:id2∈ids
   ·obtain⟨b1,b2,b3⟩:=new i2 h2 lP
    exact S1.inj Wc id2 r1 r2 B1 B2 a2 b2 hw C6 lP Kj
   ·obtain⟨b1,_⟩:=Bf i2 h2 lP
    omega
  ·obtain⟨a1,a2,a3⟩:=Bf i1 h1 C6
   by_cases i2:id2∈ids
   ·obtain⟨b1,_⟩:=new i2 h2 lP
    omega
   ·obtain⟨b1,b2,b3⟩:=Bf i2 h2 lP
    exact S.inj Wc id2 r1 r2 B1 B2 a2 b2 hw a3 b3 Kj
theorem Dd (hm:P.follows .mixedOrders=true) {f:Nat} {args args':List AV} {σ:ax} {K:AV->ax->Prop} (hv:eC (eu σ.get) 6 args=some args')
  (h:Call P f args' ⟨fun _=>none,σ.next⟩ fun r σ'=>∃ids,r.BT=true/\Handed ids σ'.get/\K r ⟨Bv ids σ.get σ'.get,σ'.next⟩):Call P f args σ K:=
 iS (J8 hv (iC hm h))
end
end Go.Proofs.YtiabgllilcfheaaGreat.V

namespace Go.Proofs.YtiabgllilcfheaaGreat.V
open Go.RowKit
attribute [local irreducible] er wpOps fY Call
attribute [local go_sem] aF fC eR fN fK du upd cw K.av cQ AV.cells AV.cell rowOf rowsOf part ld rowAt bK cq dH dX gG bP dd eh fJ fa dw ea db da dM dP bV bd cU bU cW cV dV eb dZ cR bY dc dY bQ aD cY cF gF bD cL bW aY dn bj dI AV.undef bH bJ dQ dW dL dK cK ef eo cz ee ec cX cZ List.getD_cons_zero List.getD_cons_succ List.getD_nil List.all_cons List.all_nil Bool.and_true Bool.true_and Bool.and_self Bool.not_true Bool.not_false Option.map_some Option.map_none Option.bind_some Option.bind_none List.length_cons List.length_nil List.take_succ_cons List.take_zero List.take_nil List.drop_succ_cons List.drop_zero List.drop_nil List.head?_cons List.map_cons List.map_nil List.getElem?_cons_zero List.getElem?_cons_succ List.cons_append List.nil_append List.append_nil List.length_map List.set_cons_zero List.set_cons_succ Nat.reduceMul eq_self Int.toNat_natCast Int.natCast_nonneg and_self true_and and_true decide_true decide_false Bool.false_eq_true Nat.zero_add Nat.add_zero List.contains_cons List.contains_nil Bool.or_false Bool.false_or beq_self_eq_true Nat.reduceBEq ne_eq not_true_eq_false not_false_eq_true Id.mk.injEq false_and and_false Nat.reduceLT Int.reduceLE Int.reduceLT Int.reduceToNat Int.reduceNeg Int.reduceAdd Nat.le_refl List.length_append beq_true beq_false Bool.not_eq_eq_eq_not or_false false_or eu ai aj aP bh bZ cm aW bx aK bf cP bI
def iQ (P:Program) (f:Nat) (args:List AV) (R:AV->Prop):Prop:=∀n:Nat,Call P f args ⟨fun _=>none,n⟩ fun r0 σ'=>∃r',gU σ'.get 6 r0=some r'/\R r'
theorem IU {P:Program} {f:Nat} {args args':List AV} {g:Rows} {n:Nat} {R:AV->Prop} (hv:eC (eu g) 6 args=some args') (h:Sound P f args' ⟨fun _=>none,n⟩ fun r0 σ'=>∃r',gU σ'.get 6 r0=some r'/\R r'):Sound P f args ⟨g,n⟩ fun r σ'=>R r/\σ'=⟨g,n⟩:=by
 intro hs D ι w vs S U A
 refine(Ao (g0:=g) (K:=R) ⟨args',hv,h⟩ (fun _ _ h=>h) S U A).mono ?_
 rintro e w' ⟨r,D',u,rfl,hR,T,S',hr⟩
 exact⟨r,g,n,D',ι,u,rfl,⟨hR,rfl⟩,T,S',U,Nat.le_refl _,hr⟩
theorem iQ.x {P:Program} (hm:P.follows .mixedOrders=true) {f:Nat} {args args':List AV} {R:AV->Prop} (h:iQ P f args' R) {σ:ax} (hv:eC (eu σ.get) 6 args=some args'):Call P f args σ fun r σ'=>R r/\σ'=σ:=
 iS (IU hv (iC hm (h σ.next)))
theorem iQ.body {P:Program} {f:Nat} {args:List AV} {R:AV->Prop} {nt na:Nat} {body:VC} {res:List pB} (hf:BP P f=some ⟨nt,na,body,res⟩) (ha:na=args.length) (h:(∀a∈args,fB a)->∀n:Nat,er (Call P) body (mh res fun r0 σ'=>∃r',gU σ'.get 6 r0=some r'/\R r') (cw args) ⟨fun _=>none,n⟩):iQ P f args R:=fun n=>nH hf ha fun hl=>h hl n
def eT (f:Nat->Int) (n:Nat):List (List AV):=(List.range n).map fun i=>aJ (f i)
theorem eH (f:Nat->Int) (n:Nat):(eT f n).length=n:=by simp[eT]
theorem eQ {f:Nat->Int} {n i:Nat} (h:i<n):(eT f n)[i]? =some (aJ (f i)):=by simp[eT,h]
theorem mo {f g:Nat->Int} {n k:Nat} {v:Int} (hk:k<n) (hv:g k=v) (h:∀i,i<n->i≠k->g i=f i):(eT f n).set k (aJ v)=eT g n:=by
 refine List.ext_getElem? fun i=>?_
 rw[List.getElem?_set]
 by_cases hi:k=i
 ·subst hi
  rw[if_pos rfl,eH,if_pos hk,eQ hk,hv]
 ·rw[if_neg hi]
  by_cases fU:i<n
  ·rw[eQ fU,eQ fU,h i fU (fun h=>hi h.symm)]
  ·rw[List.getElem?_eq_none (by rw[eH];omega),List.getElem?_eq_none (by rw[eH];omega)]
theorem J2 (f:Nat->Int) (n:Nat):eT f (n+1)=eT f n++[aJ (f n)]:=by simp[eT,List.range_succ]
theorem fzI (g:Rows) (n:Nat) (a:Int):eC g (n+1) (aJ a)=some (aJ a):=by simp[aJ,ai,aj,aP]
theorem Rf (g:Rows) (n:Nat) (a:Int):fb g (n+1) (aJ a)=some (aJ a):=by simp[aJ,bF,cH,eK]
theorem MO {g:Rows} {f:Nat->Int} {n m:Nat}:iu g (m+1) (eT f n)=some (eT f n):=by
 have:eT f n=((List.range n).map f).map aJ:=by simp[eT]
 rw[this];exact wE fun x=>Rf g m x
theorem CR {g:Rows} {f:Nat->Int} {n m:Nat}:eZ g (m+1) (eT f n)=some (eT f n):=by
 have:eT f n=((List.range n).map f).map aJ:=by simp[eT]
 rw[this];exact kF fun x=>fzI g m x
def Sx (l:List Nat):AV:=if l=[]then .ck else .sl (l.map eN)
def sJ (cnt:Nat) (bs:List PB) (m:Nat):List (List AV):=(List.range cnt).map fun v=>[Sx (jR bs m v)]
theorem FF {cnt:Nat} {bs:List PB} {m v:Nat} (h:v<cnt):(sJ cnt bs m)[v]? =some [Sx (jR bs m v)]:=by simp[sJ,h]
def ig (cnt:Nat) (bs:List PB) (f:Nat->Int):List AV:=[.int .i64 cnt,.sl (bs.map aI),.sl (sJ cnt bs bs.length),.sl (eT f bs.length)]
theorem xw {bs:List PB} {e:Nat} (h:e<bs.length):(bs.map aI)[e]? =some (aI (dm bs e)):=getD_map aI h
def Small (bs:List PB) (f:Nat->Int):Prop:=∀e,e<bs.length->(0<=(dm bs e).s/\(dm bs e).s<=4)/\-4<=f e/\f e<=4
theorem MF (cnt:Nat) (bs:List PB) (f:Nat->Int) (hs:Small bs f) (e v:Nat) (he:e<bs.length):au Tryz.prog 163 [.dv (ig cnt bs f),.int .i64 v,.int .i64 e] (.ib [.int .i64 (gR bs f e v),.int .i64 (dh bs e v)]):=by
 refine au.body fF rfl fun hl n0=>?_
 clear hl
 have hb:=xw he
 have hf:=eQ (f:=f) he
 obtain⟨⟨s0,s1⟩,s2,s3⟩:=hs e he
 have w1:IntKind.i64.wrap ((dm bs e).s-f e)=(dm bs e).s-f e:=cD ae
 have w2:IntKind.i64.wrap ((dm bs e).s+f e)=(dm bs e).s+f e:=cD ae
 unfold gR dh
 generalize dm bs e=b at *
 by_cases h:b.a=v
 ·have hd:decide ((b.a:Int)=(v:Int))=true:=decide_eq_true (by rw[h])
  (try((repeat(revert hN;revert N;apply Pn.out));refine wk (tw @ig.eq_1 (tw @hb (tw @hf (tw @aI.eq_1 (tw @aJ.eq_1 (tw @hd (tw @w1 @w2))))))) ?_;(repeat(refine Pn.mk ?_;intro N hN))))
  refine jL (.inl rfl) (by simp only[go_sem, ↓reduceIte,Nat.reduceEqDiff,Nat.reduceAdd,Nat.reduceSub,Nat.reduceLeDiff,reduceCtorEq];rfl) (by simp only[go_sem, ↓reduceIte,Nat.reduceEqDiff,Nat.reduceAdd,Nat.reduceSub,Nat.reduceLeDiff,reduceCtorEq];rfl) ?_
  simp only[fu,bF,cH,eK,Option.map_some,if_pos h]
 ·have hd:decide ((b.a:Int)=(v:Int))=false:=decide_eq_false fun hc=>h ae
  (try((repeat(revert hN;revert N;apply Pn.out));refine wk (tw @ig.eq_1 (tw @hb (tw @hf (tw @aI.eq_1 (tw @aJ.eq_1 (tw @hd (tw @w1 @w2))))))) ?_;(repeat(refine Pn.mk ?_;intro N hN))))
  refine jL (.inl rfl) (by simp only[go_sem, ↓reduceIte,Nat.reduceEqDiff,Nat.reduceAdd,Nat.reduceSub,Nat.reduceLeDiff,reduceCtorEq];rfl) (by simp only[go_sem, ↓reduceIte,Nat.reduceEqDiff,Nat.reduceAdd,Nat.reduceSub,Nat.reduceLeDiff,reduceCtorEq];rfl) ?_
  simp only[fu,bF,cH,eK,Option.map_some,if_neg h]
theorem Ib (cnt:Nat) (hn:cnt<=1048576) (bs:List PB) (ok:pd cnt bs) (iK:bs.length<=1048576) (f:Nat->Int) (hs:Small bs f) (y:Nat) (hy:y<cnt):
  iQ Tryz.prog 146 [.dv (ig cnt bs f),.int .i64 y] fun r=>∃out,r=.sl (eT out cnt)/\BD cnt bs f y out:=by
 refine iQ.body fF rfl fun hl n0=>?_
 clear hl
 (try((repeat(revert hN;revert N;apply Pn.out));refine wk @ig.eq_1 ?_;(repeat(refine Pn.mk ?_;intro N hN))))
 refine bz (fun n env st=>∃k:Nat,n=(cnt)-k/\k<=(cnt)/\env 6=.int .i64 (k:Int)/\(∃o:Id,env 5=.own o 0 k/\st.get o=some ⟨true,1,eT (fun _=>-1) k⟩/\o.bt<st.next)) (cnt) ⟨0,ae,ae,sl @ig.eq_1,⟨⟨146001000,n0+1⟩,by(simp only[go_sem, ↓reduceIte,Nat.reduceEqDiff,Nat.reduceAdd,Nat.reduceSub,Nat.reduceLeDiff,reduceCtorEq])<;>rfl,by(simp only[go_sem, ↓reduceIte,Nat.reduceEqDiff,Nat.reduceAdd,Nat.reduceSub,Nat.reduceLeDiff,reduceCtorEq])<;>rfl,aU⟩⟩ ?_
 rintro n_a env_a st_a ⟨k,rfl,ale,a6,oh⟩ eJ
 have a0:=eJ 0 (by kernel_rfl);have a1:=eJ 1 (by kernel_rfl)
 simp only[go_sem, ↓reduceIte,Nat.reduceEqDiff,Nat.reduceAdd,Nat.reduceSub,Nat.reduceLeDiff,reduceCtorEq,ig]at a0 a1
 clear eJ
 obtain⟨o,a5,ag,xJ⟩:=oh
 have tl:=eH (fun _=>-1) k
 have s8:=dj xJ
 by_cases hk:(k:Int)<(cnt:Int)
 ·have dx:∀{e:Env} {gg:Rows} {nx:Nat},(e 6=.int .i64 (IntKind.i64.wrap ((k:Int)+1)))->(∃o:Id,e 5=.own o 0 (k+1)/\gg o=some ⟨true,1,eT (fun _=>-1) (k+1)⟩/\o.bt<nx)->∃m0,m0<(cnt)-k/\∃k:Nat,m0=(cnt)-k/\k<=(cnt)/\e 6=.int .i64 (k:Int)/\(∃o:Id,e 5=.own o 0 k/\gg o=some ⟨true,1,eT (fun _=>-1) k⟩/\o.bt<nx):=fun x1 x2=>⟨_,ae,k+1,rfl,ae,(by rw[x1,az ae]),x2⟩
  have e1:k+1<=16777216:=ae
  have rY:eT (fun _=>-1) k++[[.int .i64 (-1)]]=eT (fun _=>-1) (k+1):=(J2 _ _).symm
  (try((repeat(revert hN;revert N;apply Pn.out));refine wk (tw @a6 (tw @a0 (tw @a1 (tw @a5 (tw @ag (tw @s8 (tw @hk (tw @tl (tw @e1 (tw @rY @ig.eq_1)))))))))) ?_;(repeat(refine Pn.mk ?_;intro N hN))))
  exact dx (sd (tw @a6 (tw @a0 (tw @a1 @ig.eq_1)))) (⟨⟨146005002,st_a.next+1⟩,sd @Nat.zero_add,sd @rY,aU⟩)
 have mU:k=cnt:=ae
 subst mU
 have XK:(y:Int)<(k:Int):=ae
 have hym:=eQ (f:=fun _=>-1) hy
 have Eh:(eT (fun _=>-1) k).set y (aJ 0)=eT (fun v=>if v=y then 0 else -1) k:=mo hy (if_pos rfl) fun i _ hi=>if_neg hi
 rw[aJ]at Eh hym
 (try((repeat(revert hN;revert N;apply Pn.out));refine wk (tw @a6 (tw @a0 (tw @a1 (tw @a5 (tw @ag (tw @s8 (tw @hk (tw @tl (tw @XK (tw @hym (tw @Eh @ig.eq_1))))))))))) ?_;(repeat(refine Pn.mk ?_;intro N hN))))
 refine bz (fun m env st=>∃(i:Nat) (out:Nat->Int) (Q:List Nat) (p:Id),m=k-i/\env 8=.int .i64 (i:Int)/\env 7=.own p 0 Q.length/\st.get p=some ⟨true,1,Q.map eN⟩/\st.get o=some ⟨true,1,eT out k⟩/\o.bt<p.bt/\p.bt<st.next/\C1 k bs f y out Q i/\i<=Q.length) k ⟨0,_,[y],⟨146007001,st_a.next+1+1⟩,ae,by(simp only[go_sem, ↓reduceIte,Nat.reduceEqDiff,Nat.reduceAdd,Nat.reduceSub,Nat.reduceLeDiff,reduceCtorEq])<;>rfl,by(simp only[go_sem, ↓reduceIte,Nat.reduceEqDiff,Nat.reduceAdd,Nat.reduceSub,Nat.reduceLeDiff,reduceCtorEq])<;>rfl,by(simp only[go_sem, ↓reduceIte,Nat.reduceEqDiff,Nat.reduceAdd,Nat.reduceSub,Nat.reduceLeDiff,reduceCtorEq])<;>rfl,sd @s8,aU,aU,C1.start hy,by simp⟩ ?_
 rintro n env_b st_b ⟨i,out,Q,p,rfl,b8,b7,bgp,bgo,eS,hpn,hB,hiq⟩ eW
 have b0:=eW 0 (by kernel_rfl)
 have b5:=eW 5 (by kernel_rfl)
 simp only[go_sem, ↓reduceIte,Nat.reduceEqDiff,Nat.reduceAdd,Nat.reduceSub,Nat.reduceLeDiff,reduceCtorEq,a6,a0,a1,a5,ig]at b0 b5
 clear eW
 have hql:=hB.len
 have XR:=eH out k
 have hqm:(Q.map eN).length=Q.length:=by simp
 have Da:=dj hpn
 have lp:=dj (i:=o) (n:=st_b.next) ae
 by_cases hi:(i:Int)<(Q.length:Int)
 ·have fU:i<Q.length:=ae
  have jb:(Q.map eN)[i]? =some (eN Q[i]):=by simp[fU]
  have Qr:=hB.lt _ (List.getElem_mem fU)
  obtain⟨vt,R7⟩:∃vt,vt=Q[i]:=⟨_,rfl⟩
  rw[<-R7]at jb Qr
  have hA:=FF (cnt:=k) (bs:=bs) (m:=bs.length) Qr
  have OK:(vt:Int)<(k:Int):=ae
  have l5:=uh bs bs.length vt
  have hme:∀x,x<(jR bs bs.length vt).length->(jR bs bs.length vt).getD x 0<bs.length/\He bs ((jR bs bs.length vt).getD x 0) vt:=fun x hx=>by
   rw[List.getD_eq_getElem?_getD,List.getElem?_eq_getElem hx]
   exact ui.1 (List.getElem_mem hx)
  have Uu:∀e∈jR bs bs.length vt,∃x,x<(jR bs bs.length vt).length/\(jR bs bs.length vt).getD x 0=e:=fun e he=>by
   obtain⟨x,hx,rfl⟩:=List.getElem_of_mem he
   exact⟨x,hx,by rw[List.getD_eq_getElem?_getD,List.getElem?_eq_getElem hx];rfl⟩
  generalize hIn:jR bs bs.length vt=I at *
  unfold Sx at hA
  by_cases Om:I=[]
  ·rw[if_pos Om]at hA
   have hI1:I.length=0:=by rw[Om];rfl
   (try((repeat(revert hN;revert N;apply Pn.out));refine wk (tw @b0 (tw @b5 (tw @b7 (tw @b8 (tw @bgp (tw @hi (tw @jb (tw @hqm (tw @eN.eq_1 @ig.eq_1))))))))) ?_;(repeat(refine Pn.mk ?_;intro N hN))))
   refine bz (fun n env st=>∃x:Nat,n=(I.length)-x/\x<=(I.length)/\env 10=.int .i64 (x:Int)/\(∃(jK:Nat->Int) (Q':List Nat) (p':Id),env 7=.own p' 0 Q'.length/\st.get p'=some ⟨true,1,Q'.map eN⟩/\st.get o=some ⟨true,1,eT jK k⟩/\o.bt<p'.bt/\p'.bt<st.next/\C1 k bs f y jK Q' i/\(∃h:i<Q'.length,Q'[i]=vt)/\(∀z,z<x->0<gR bs f (I.getD z 0) (dh bs (I.getD z 0) vt)->0<=jK (dh bs (I.getD z 0) vt)))) (I.length) ⟨0,ae,ae,sl (tw @b0 (tw @b5 (tw @b8 @ig.eq_1))),⟨out,Q,p,sd @b7,sd @bgp,sd @bgo,eS,aU,hB,⟨fU,R7.symm⟩,fun z hz=>ae⟩⟩ ?_
   rintro n_c env_c st_c ⟨x,rfl,cle,iE,cI0⟩ iV
   have c0:=iV 0 (by kernel_rfl);have c5:=iV 5 (by kernel_rfl);have c8:=iV 8 (by kernel_rfl);have c9:=iV 9 (by kernel_rfl)
   simp only[go_sem, ↓reduceIte,Nat.reduceEqDiff,Nat.reduceAdd,Nat.reduceSub,Nat.reduceLeDiff,reduceCtorEq,b0,b5,b8,ig]at c0 c5 c8 c9
   clear iV
   obtain⟨jK,Q',p',c7,KT,Az,Gg,RX,eG,⟨zY,s6⟩,NI⟩:=cI0
   have ZA:=eG.len
   have SB:=eH jK k
   have RY:(Q'.map eN).length=Q'.length:=by simp
   have Ch:=dj RX
   have nQ:=dj (i:=o) (n:=st_c.next) ae
   have x1:=dp Gg
   have hx:¬(x:Int)<((0:Nat):Int):=ae
   have hxe:x=I.length:=ae
   have hw:IntKind.i64.wrap ((i:Int)+1)=((i+1:Nat):Int):=az ae
   (try((repeat(revert hN;revert N;apply Pn.out));refine wk (tw @iE (tw @c0 (tw @c5 (tw @c8 (tw @c9 (tw @c7 (tw @hx (tw @hA (tw @OK @ig.eq_1))))))))) ?_;(repeat(refine Pn.mk ?_;intro N hN))))
   refine⟨_,?_,i+1,jK,Q',p',rfl,sd (tw @iE (tw @c0 (tw @c5 (tw @c8 (tw @c9 @hw))))),sd @c7,sd @KT,sd @Az,Gg,aU,eG.next zY fun e he hr=>?_,ae⟩
   ·omega
   ·rw[s6,hIn]at he
    rw[s6]at hr ⊢
    obtain⟨z,hz,rfl⟩:=Uu e he
    exact NI z ae hr
  ·rw[if_neg Om]at hA
   have sW:(I.map eN).length=I.length:=by simp
   (try((repeat(revert hN;revert N;apply Pn.out));refine wk (tw @b0 (tw @b5 (tw @b7 (tw @b8 (tw @bgp (tw @hi (tw @jb (tw @hqm (tw @eN.eq_1 @ig.eq_1))))))))) ?_;(repeat(refine Pn.mk ?_;intro N hN))))
   refine bz (fun n env st=>∃x:Nat,n=(I.length)-x/\x<=(I.length)/\env 10=.int .i64 (x:Int)/\(∃(jK:Nat->Int) (Q':List Nat) (p':Id),env 7=.own p' 0 Q'.length/\st.get p'=some ⟨true,1,Q'.map eN⟩/\st.get o=some ⟨true,1,eT jK k⟩/\o.bt<p'.bt/\p'.bt<st.next/\C1 k bs f y jK Q' i/\(∃h:i<Q'.length,Q'[i]=vt)/\(∀z,z<x->0<gR bs f (I.getD z 0) (dh bs (I.getD z 0) vt)->0<=jK (dh bs (I.getD z 0) vt)))) (I.length) ⟨0,ae,ae,sl (tw @b0 (tw @b5 (tw @b8 @ig.eq_1))),⟨out,Q,p,sd @b7,sd @bgp,sd @bgo,eS,aU,hB,⟨fU,R7.symm⟩,fun z hz=>ae⟩⟩ ?_
   rintro n_c env_c st_c ⟨x,rfl,cle,iE,cI0⟩ iV
   have c0:=iV 0 (by kernel_rfl);have c5:=iV 5 (by kernel_rfl);have c8:=iV 8 (by kernel_rfl);have c9:=iV 9 (by kernel_rfl)
   simp only[go_sem, ↓reduceIte,Nat.reduceEqDiff,Nat.reduceAdd,Nat.reduceSub,Nat.reduceLeDiff,reduceCtorEq,b0,b5,b8,ig]at c0 c5 c8 c9
   clear iV
   obtain⟨jK,Q',p',c7,KT,Az,Gg,RX,eG,⟨zY,s6⟩,NI⟩:=cI0
   have ZA:=eG.len
   have SB:=eH jK k
   have RY:(Q'.map eN).length=Q'.length:=by simp
   have Ch:=dj RX
   have nQ:=dj (i:=o) (n:=st_c.next) ae
   have x1:=dp Gg
   by_cases hx:(x:Int)<(I.length:Int)
   ·have gQ:∀{e:Env} {gg:Rows} {nx:Nat},(e 10=.int .i64 (IntKind.i64.wrap ((x:Int)+1)))->(∃(jK:Nat->Int) (Q':List Nat) (p':Id),e 7=.own p' 0 Q'.length/\gg p'=some ⟨true,1,Q'.map eN⟩/\gg o=some ⟨true,1,eT jK k⟩/\o.bt<p'.bt/\p'.bt<nx/\C1 k bs f y jK Q' i/\(∃h:i<Q'.length,Q'[i]=vt)/\(∀z,z<(x+1)->0<gR bs f (I.getD z 0) (dh bs (I.getD z 0) vt)->0<=jK (dh bs (I.getD z 0) vt)))->∃m0,m0<(I.length)-x/\∃x:Nat,m0=(I.length)-x/\x<=(I.length)/\e 10=.int .i64 (x:Int)/\(∃(jK:Nat->Int) (Q':List Nat) (p':Id),e 7=.own p' 0 Q'.length/\gg p'=some ⟨true,1,Q'.map eN⟩/\gg o=some ⟨true,1,eT jK k⟩/\o.bt<p'.bt/\p'.bt<nx/\C1 k bs f y jK Q' i/\(∃h:i<Q'.length,Q'[i]=vt)/\(∀z,z<x->0<gR bs f (I.getD z 0) (dh bs (I.getD z 0) vt)->0<=jK (dh bs (I.getD z 0) vt))):=fun x1 x2=>⟨_,ae,x+1,rfl,ae,(by rw[x1,az ae]),x2⟩
    have UE:x<I.length:=ae
    have Ro:(I.map eN)[x]? =some (eN (I.getD x 0)):=getD_map eN UE
    obtain⟨he,rW⟩:=hme x UE
    obtain⟨e,Xl⟩:∃e,e=I.getD x 0:=⟨_,rfl⟩
    rw[<-Xl]at Ro he rW
    have jB:=xw he
    have hq:=qK ok (v:=vt) he
    have VR:=qL ok he rW
    have Qn:=MF k bs f hs e (dh bs e vt) he
    have VD:=ok e he
    have tD:IntKind.i64.wrap (((dm bs e).a:Int)+((dm bs e).b:Int))=((dm bs e).a:Int)+((dm bs e).b:Int):=cD ae
    have xl:IntKind.i64.wrap (((dm bs e).a:Int)+((dm bs e).b:Int)-(vt:Int))=(dh bs e vt:Int):=by
     rw[cD ae]
     unfold dh
     rcases rW with h1|h1
     ·rw[if_pos h1];omega
     ·rw[if_neg fun h2=>VD.2.2 (h2.trans h1.symm)];omega
    have Uz:(dh bs e vt:Int)<(k:Int):=ae
    have RJ:=eQ (f:=jK) hq
    have Ow:=eQ (f:=jK) Qr
    rw[ig]at Qn
    have mA:=eG.up i zY
    rw[s6]at mA
    have kI:=eG.lo vt Qr
    have hw3:IntKind.i64.wrap (jK vt+1)=jK vt+1:=cD ae
    rw[aJ]at RJ Ow
    generalize zK:dm bs e=b at *
    by_cases ll:jK (dh bs e vt)<0
    ·by_cases ik:0<gR bs f e (dh bs e vt)
     ·have hV:=eG.visit ok zY (e:=e) he (by rw[s6];exact rW) (by rw[s6];exact ll) (by rw[s6];exact ik)
      rw[s6]at hV
      have fj:(eT jK k).set (dh bs e vt) (aJ (jK vt+1))=eT (fun v=>if v=dh bs e vt then jK vt+1 else jK v) k:=mo hq (if_pos rfl) fun v _ hv=>if_neg hv
      rw[aJ]at fj
      have e1:Q'.length+1<=16777216:=ae
      (repeat(first|((repeat(revert hN;revert N;apply Pn.out));refine wk (tw @iE (tw @c0 (tw @c5 (tw @c8 (tw @c9 (tw @c7 (tw @KT (tw @Az (tw @hx (tw @hA (tw @sW (tw @Ro (tw @OK (tw @jB (tw @tD (tw @xl (tw @Uz (tw @RJ (tw @Ow (tw @ll (tw @ik (tw @hw3 (tw @fj (tw @RY (tw @SB (tw @Ch (tw @nQ (tw @x1 (tw @e1 (tw @eN.eq_1 (tw @aI.eq_1 @ig.eq_1))))))))))))))))))))))))))))))) ?_;(repeat(refine Pn.mk ?_;intro N hN)))|((try apply Or.inl);refine⟨_,au.x (Qn) (sd (tw @iE (tw @c0 (tw @c5 (tw @c8 (tw @c9 (tw @c7 (tw @KT (tw @Az (tw @hx (tw @hA (tw @sW (tw @Ro (tw @OK (tw @jB (tw @tD (tw @xl (tw @Uz (tw @RJ (tw @Ow (tw @ll (tw @ik (tw @hw3 (tw @fj (tw @RY (tw @SB (tw @Ch (tw @nQ (tw @x1 (tw @e1 (tw @eN.eq_1 (tw @aI.eq_1 @ig.eq_1)))))))))))))))))))))))))))))))),?_⟩;refine hN _ _ ?_;clear hN N)))
      exact gQ (sd (tw @iE (tw @c0 (tw @c5 (tw @c8 @c9))))) (⟨_,Q'++[dh bs e vt],⟨146020003,st_c.next+1+1+1+1+1+1⟩,by rw[List.length_append];simp only[go_sem, ↓reduceIte,Nat.reduceEqDiff,Nat.reduceAdd,Nat.reduceSub,Nat.reduceLeDiff,reduceCtorEq,List.length_cons,List.length_nil],by rw[List.map_append,List.map_cons,List.map_nil];simp only[go_sem, ↓reduceIte,Nat.reduceEqDiff,Nat.reduceAdd,Nat.reduceSub,Nat.reduceLeDiff,reduceCtorEq,eN],sd (tw @nQ @x1),aU,aU,hV,⟨by simp;omega,by rw[List.getElem_append_left zY];exact s6⟩,fun z hz hr=>by
       by_cases Wb:z=x
       ·subst Wb
        rw[<-Xl,if_pos rfl]
        have:=(eG.iff vt Qr).2 (by rw[<-s6];exact List.getElem_mem zY)
        omega
       ·have:=NI z ae hr
        split
        ·have:=(eG.iff vt Qr).2 (by rw[<-s6];exact List.getElem_mem zY)
         omega
        ·exact this⟩)
     ·(repeat(first|((repeat(revert hN;revert N;apply Pn.out));refine wk (tw @iE (tw @c0 (tw @c5 (tw @c8 (tw @c9 (tw @c7 (tw @KT (tw @Az (tw @hx (tw @hA (tw @sW (tw @Ro (tw @OK (tw @jB (tw @tD (tw @xl (tw @Uz (tw @RJ (tw @ll (tw @ik (tw @SB (tw @Ch (tw @nQ (tw @x1 (tw @eN.eq_1 (tw @aI.eq_1 @ig.eq_1)))))))))))))))))))))))))) ?_;(repeat(refine Pn.mk ?_;intro N hN)))|((try apply Or.inl);refine⟨_,au.x (Qn) (sd (tw @iE (tw @c0 (tw @c5 (tw @c8 (tw @c9 (tw @c7 (tw @KT (tw @Az (tw @hx (tw @hA (tw @sW (tw @Ro (tw @OK (tw @jB (tw @tD (tw @xl (tw @Uz (tw @RJ (tw @ll (tw @ik (tw @SB (tw @Ch (tw @nQ (tw @x1 (tw @eN.eq_1 (tw @aI.eq_1 @ig.eq_1))))))))))))))))))))))))))),?_⟩;refine hN _ _ ?_;clear hN N)))
      exact gQ (sd (tw @iE (tw @c0 (tw @c5 (tw @c8 @c9))))) (⟨jK,Q',p',sd @c7,sd (tw @KT @Ch),sd (tw @Az @nQ),Gg,aU,eG,⟨zY,s6⟩,fun z hz hr=>by
       by_cases Wb:z=x
       ·subst Wb;rw[<-Xl]at hr;exact absurd hr ik
       ·exact NI z ae hr⟩)
    ·(repeat(first|((repeat(revert hN;revert N;apply Pn.out));refine wk (tw @iE (tw @c0 (tw @c5 (tw @c8 (tw @c9 (tw @c7 (tw @KT (tw @Az (tw @hx (tw @hA (tw @sW (tw @Ro (tw @OK (tw @jB (tw @tD (tw @xl (tw @Uz (tw @RJ (tw @ll (tw @SB (tw @Ch (tw @nQ (tw @x1 (tw @eN.eq_1 (tw @aI.eq_1 @ig.eq_1))))))))))))))))))))))))) ?_;(repeat(refine Pn.mk ?_;intro N hN)))|((try apply Or.inl);refine⟨_,au.x (Qn) (sd (tw @iE (tw @c0 (tw @c5 (tw @c8 (tw @c9 (tw @c7 (tw @KT (tw @Az (tw @hx (tw @hA (tw @sW (tw @Ro (tw @OK (tw @jB (tw @tD (tw @xl (tw @Uz (tw @RJ (tw @ll (tw @SB (tw @Ch (tw @nQ (tw @x1 (tw @eN.eq_1 (tw @aI.eq_1 @ig.eq_1)))))))))))))))))))))))))),?_⟩;refine hN _ _ ?_;clear hN N)))
     exact gQ (sd (tw @iE (tw @c0 (tw @c5 (tw @c8 @c9))))) (⟨jK,Q',p',sd @c7,sd (tw @KT @Ch),sd (tw @Az @nQ),Gg,aU,eG,⟨zY,s6⟩,fun z hz hr=>by
      by_cases Wb:z=x
      ·subst Wb;rw[<-Xl];omega
      ·exact NI z ae hr⟩)
   ·have hxe:x=I.length:=ae
    have hw:IntKind.i64.wrap ((i:Int)+1)=((i+1:Nat):Int):=az ae
    (try((repeat(revert hN;revert N;apply Pn.out));refine wk (tw @iE (tw @c0 (tw @c5 (tw @c8 (tw @c9 (tw @c7 (tw @hx (tw @hA (tw @sW (tw @OK @ig.eq_1)))))))))) ?_;(repeat(refine Pn.mk ?_;intro N hN))))
    refine⟨_,?_,i+1,jK,Q',p',rfl,sd (tw @iE (tw @c0 (tw @c5 (tw @c8 (tw @c9 @hw))))),sd @c7,sd @KT,sd @Az,Gg,aU,eG.next zY fun e he hr=>?_,ae⟩
    ·omega
    ·rw[s6,hIn]at he
     rw[s6]at hr ⊢
     obtain⟨z,hz,rfl⟩:=Uu e he
     exact NI z ae hr
 ·(try((repeat(revert hN;revert N;apply Pn.out));refine wk (tw @b0 (tw @b5 (tw @b7 (tw @b8 (tw @hi @ig.eq_1))))) ?_;(repeat(refine Pn.mk ?_;intro N hN))))
  have vD:gU st_b.get 6 (.own o 0 k)=some (.sl (eT out k)):=tX bgo (by rw[XR];omega) (by rw[List.drop_zero,List.take_of_length_le (by rw[XR];omega)];exact MO)
  exact⟨_,rfl,_,by simp only[go_sem, ↓reduceIte,Nat.reduceEqDiff,Nat.reduceAdd,Nat.reduceSub,Nat.reduceLeDiff,reduceCtorEq,gx];exact vD,out,rfl,hB.done ok ae⟩
end Go.Proofs.YtiabgllilcfheaaGreat.V

namespace Go.Proofs.YtiabgllilcfheaaGreat.V
open Go.RowKit
attribute [local irreducible] er wpOps fY Call
attribute [local go_sem] aF fC eR fN fK du upd cw K.av cQ AV.cells AV.cell rowOf rowsOf part ld rowAt bK cq dH dX gG bP dd eh fJ fa dw ea db da dM dP bV bd cU bU cW cV dV eb dZ cR bY dc dY bQ aD cY cF gF bD cL bW aY dn bj dI AV.undef bH bJ dQ dW dL dK cK ef eo cz ee ec cX cZ List.getD_cons_zero List.getD_cons_succ List.getD_nil List.all_cons List.all_nil Bool.and_true Bool.true_and Bool.and_self Bool.not_true Bool.not_false Option.map_some Option.map_none Option.bind_some Option.bind_none List.length_cons List.length_nil List.take_succ_cons List.take_zero List.take_nil List.drop_succ_cons List.drop_zero List.drop_nil List.head?_cons List.map_cons List.map_nil List.getElem?_cons_zero List.getElem?_cons_succ List.cons_append List.nil_append List.append_nil List.length_map List.set_cons_zero List.set_cons_succ eq_self Int.toNat_natCast Int.natCast_nonneg and_self true_and and_true decide_true decide_false Bool.false_eq_true Nat.zero_add Nat.add_zero List.contains_cons List.contains_nil Bool.or_false Bool.false_or beq_self_eq_true ne_eq not_true_eq_false not_false_eq_true Id.mk.injEq false_and and_false Nat.le_refl List.length_append beq_true beq_false Bool.not_eq_eq_eq_not or_false false_or eu ai aj aP bh bZ cm aW bx aK bf cP bI
def T8:Np (List Nat):=fun g cs x ids=>(x=[]/\cs=[.ck]/\ids=[])∨∃id,cs=[.own id 0 x.length]/\0<x.length/\g id=some ⟨true,1,x.map eN⟩/\ids=[id]
theorem Qz:De T8 1 where
 frame:=fun h hf=>by
  rcases h with h|⟨id,h1,h0,h2,h3⟩
  ·exact .inl h
  ·subst h3;exact .inr ⟨id,h1,h0,(hf id (by simp)).trans h2,rfl⟩
 len:=fun h=>by rcases h with⟨_,h,_⟩|⟨id,h,_⟩<;>subst h<;>rfl
 cell:=fun h=>by rcases h with⟨_,h,_⟩|⟨id,h,_⟩<;>subst h<;>rfl
 live:=fun h i hi=>by
  rcases h with⟨_,_,h⟩|⟨id,h1,h0,h2,h3⟩
  ·subst h;cases hi
  ·subst h3
   have:i=id:=by simpa using hi
   subst this
   exact⟨_,h2,rfl,by simp[xp]⟩
 small:=by simp[xp]
theorem Sg {g:Rows} {rows:List (List AV)} {xs:List (List Nat)} {ids:List Id} (n:Nat) (h:fX T8 g rows xs ids):eZ (eu g) (n+2) rows=some (xs.map fun l=>[Sx l]):=
 h.fz (fun {cs x ids} h=>by
  rcases h with⟨h0,h1,_⟩|⟨id,h1,h0,h2,_⟩
  ·subst h0 h1;rw[ai,aj,aW];rfl
  ·have iN:x≠[]:=by rintro rfl;simp at h0
   subst h1
   rw[ai,aj,kG (e:=eN) (sz:=1) (by simp[eu,h2]) rfl fun a=>fzN _ n a]
   simp[Sx,iN])
theorem fX.Wq {α:Type} {R:Np α} {sz:Nat} {g:Rows} {rows:List (List AV)} {xs:List α} {ids:List Id} (ok:De R sz) (h:fX R g rows xs ids) (re:ids.Nodup) (k:Nat) (hk:k<xs.length):
  ∃cs ic,rows[k]? =some cs/\R g cs xs[k] ic/\(∀i∈ic,i∈ids)/\∀(g':Rows) tU x' UH,R g' tU x' UH->(∀i∈ids,i∉ic->g' i=g i)->UH.Nodup->(∀i∈UH,i∉ids)->∃Gl,fX R g' (rows.set k tU) (xs.set k x') Gl/\Gl.Nodup/\∀i∈Gl,i∈UH∨i∈ids:=by
 obtain⟨r1,cs,r2,i1,ic,i2,rfl,rfl,rfl,h3,h4,h5⟩:=h.split k hk
 obtain⟨n1,n2,n3⟩:=List.nodup_append.1 re
 obtain⟨nc,n5,n4⟩:=List.nodup_append.1 n2
 refine⟨cs,ic,by simp,h4,fun i hi=>by simp[hi],fun g' tU x' UH hR hf hn' lG=>⟨i1++(UH++i2),?_,?_,fun i hi=>?_⟩⟩
 ·have e:xs.set r1.length x'=xs.take r1.length++x'::xs.drop (r1.length+1):=by rw[List.set_eq_take_append_cons_drop,if_pos hk]
  have e2:(r1++cs::r2).set r1.length tU=r1++tU::r2:=by simp
  rw[e,e2]
  refine(h3.frame ok fun i hi=>hf i (by simp[hi]) fun hc=>n3 i hi i (by simp[hc]) rfl).app (.cons hR (h5.frame ok fun i hi=>hf i (by simp[hi]) fun hc=>n4 i hc i hi rfl))
 ·rw[List.nodup_append,List.nodup_append]
  refine⟨n1,⟨hn',n5,fun x hx y hy he=>?_⟩,fun x hx y hy he=>?_⟩
  ·subst he;exact lG x hx (by simp[hy])
  ·subst he
   rcases List.mem_append.1 hy with hy|hy
   ·exact lG x hy (by simp[hx])
   ·exact n3 x hx x (by simp[hy]) rfl
 ·rcases List.mem_append.1 hi with hi|hi
  ·exact .inr (by simp[hi])
  ·rcases List.mem_append.1 hi with hi|hi
   ·exact .inl hi
   ·exact .inr (by simp[hi])
def tG (A:Id) (lo:Nat) (L:List (List Nat)) (g:Rows) (nx:Nat):Prop:=∃rows ids,g A=some ⟨true,1,rows⟩/\fX T8 g rows L ids/\ids.Nodup/\∀i∈ids,lo<i.bt/\i.bt<nx
def cJ (cnt:Nat) (bs:List PB) (A F:Id):List AV:=[.int .i64 cnt,.sl (bs.map aI),.own A 0 cnt,.own F 0 bs.length]
def mH (cnt:Nat) (bs:List PB) (m:Nat):List (List Nat):=(List.range cnt).map fun v=>jR bs m v
theorem kf (cnt:Nat) (bs:List PB) (m:Nat):(mH cnt bs m).length=cnt:=by simp[mH]
structure pY (cnt:Nat) (bs:List PB) (f:Nat->Int) (X A F:Id) (g:Rows) (nx:Nat):Prop where
 x:g X=some ⟨true,4,[cJ cnt bs A F]⟩
 a:tG A F.bt (mH cnt bs bs.length) g nx
 f:g F=some ⟨true,1,eT f bs.length⟩
 xa:X.bt<A.bt
 af:A.bt<F.bt
 fn:F.bt<nx
theorem tG.fz {A:Id} {lo cnt:Nat} {bs:List PB} {m nx n:Nat} {g:Rows} (h:tG A lo (mH cnt bs m) g nx):V.fz (eu g) (n+3) (.own A 0 cnt)=some (.sl (sJ cnt bs m)):=by
 obtain⟨rows,ids,h1,h2,_,_⟩:=h
 have hl:=h2.len
 rw[kf]at hl
 rw[iW]
 simp only[eu,h1,Option.map_some,if_true]
 rw[if_pos ae,List.drop_zero,List.take_of_length_le ae]
 have:=Sg n h2
 rw[this]
 simp[mH,sJ]
theorem pY.fz {cnt:Nat} {bs:List PB} {f:Nat->Int} {X A F:Id} {g:Rows} {nx:Nat} (h:pY cnt bs f X A F g nx):V.fz (eu g) 6 (.ptr X 0 0)=some (.dv (ig cnt bs f)):=by
 have hF:eu g F=some ⟨true,1,eT f bs.length⟩:=by simp[eu,h.f]
 have hX:eu g X=some ⟨true,4,[cJ cnt bs A F]⟩:=by simp[eu,h.x]
 have hf:V.fz (eu g) 5 (.own F 0 bs.length)=some (.sl (eT f bs.length)):=by
  rw[iW]
  simp only[hF,if_true]
  rw[if_pos (by rw[eH];omega),List.drop_zero,List.take_of_length_le (by rw[eH];omega),CR];rfl
 have ha:=h.a.fz (n:=2)
 rw[bf]
 simp only[hX,if_true,List.getElem?_cons_zero,List.drop_zero,cJ,ai,aj,aP,cm,ha,hf,Option.map_some,ig]
theorem Jj (cnt:Nat) (bs:List PB):mH cnt bs 0=List.replicate cnt []:=by
 refine List.ext_getElem? fun i=>?_
 simp only[mH,List.getElem?_map,List.getElem?_replicate]
 by_cases h:i<cnt
 ·rw[List.getElem?_range h,if_pos h];rfl
 ·rw[List.getElem?_eq_none (by simpa using h),if_neg h];rfl
theorem Bs (g:Rows):∀n:Nat,fX T8 g (List.replicate n [.ck]) (List.replicate n []) []
 |0=>.nil
 |n+1=>.cons (i1:=[]) (.inl ⟨rfl,rfl,rfl⟩) (Bs g n)
def Aa (cnt:Nat) (bs:List PB) (m:Nat):List (List Nat):=(mH cnt bs m).set (dm bs m).a (jR bs m (dm bs m).a++[m])
theorem Em {cnt:Nat} {bs:List PB} {m v:Nat} (hv:v<cnt) (iN:(dm bs m).a≠v):(Aa cnt bs m)[v]? =some (jR bs m v):=by
 unfold Aa
 rw[List.getElem?_set_ne iN]
 simp[mH,hv]
theorem Ji {cnt:Nat} {bs:List PB} {m:Nat} (ha:(dm bs m).a<cnt) (hb:(dm bs m).b<cnt) (iN:(dm bs m).a≠(dm bs m).b):(Aa cnt bs m).set (dm bs m).b (jR bs m (dm bs m).b++[m])=mH cnt bs (m+1):=by
 refine List.ext_getElem? fun i=>?_
 by_cases hi:i<cnt
 ·have hr:(mH cnt bs (m+1))[i]? =some (jR bs (m+1) i):=by simp[mH,hi]
  rw[hr,Jk]
  by_cases h1:(dm bs m).b=i
  ·rw[List.getElem?_set,if_pos h1,if_pos (by simp[Aa,kf];omega),if_pos (.inr h1),h1]
  ·rw[List.getElem?_set_ne h1]
   by_cases h2:(dm bs m).a=i
   ·unfold Aa
    rw[List.getElem?_set,if_pos h2,if_pos (by rw[kf];omega),if_pos (.inl h2),h2]
   ·rw[Em hi h2,if_neg (fun h=>h.elim h2 h1),List.append_nil]
 ·rw[List.getElem?_eq_none (by simp[Aa,kf];omega),List.getElem?_eq_none (by rw[kf];omega)]
theorem lY {α:Type} {l:List α} {k:Nat} {x:α} (h:l[k]? =some x) (hk:k<l.length):l[k]=x:=by
 rw[List.getElem?_eq_getElem hk]at h;exact Option.some.inj h
theorem HZ {A K:Id} {lo Wk nx k j:Nat} {L:List (List Nat)} {La:List Nat} {g:Rows} {rows:List (List AV)} {ids:List Id} (hR:fX T8 g rows L ids) (re:ids.Nodup) (pN:∀i∈ids,lo<i.bt/\i.bt<Wk) (hA:A.bt<=lo) (hL:L[k]? =some La) (hK1:Wk<=K.bt) (RA:K.bt<nx) (kI:lo<Wk):
  ∃cs,rows[k]? =some cs/\((La=[]/\cs=[.ck])∨∃id:Id,cs=[.own id 0 La.length]/\0<La.length/\g id=some ⟨true,1,La.map eN⟩/\id.bt<Wk/\lo<id.bt)/\
   ∀g':Rows,g' A=some ⟨true,1,rows.set k [.own K 0 (La.length+1)]⟩->g' K=some ⟨true,1,La.map eN++[[.int .i64 j]]⟩->(∀i:Id,i.bt<Wk->(i=A)=False->(∀id,cs=[.own id 0 La.length]->(i=id)=False)->g' i=g i)->tG A lo (L.set k (La++[j])) g' nx:=by
 have hk:k<L.length:=(List.getElem?_eq_some_iff.1 hL).1
 have YJ:=lY hL hk
 obtain⟨cs,ic,eD,Uh,VK,yJ⟩:=hR.Wq Qz re k hk
 rw[YJ]at Uh
 refine⟨cs,eD,?_,fun g' h1 h2 h3=>?_⟩
 ·rcases Uh with⟨h1,h2,_⟩|⟨id,h1,h2,h3,h4⟩
  ·exact .inl ⟨h1,h2⟩
  ·subst h4
   have:=pN id (VK id (by simp))
   exact .inr ⟨id,h1,h2,h3,this.2,this.1⟩
 ·obtain⟨Gl,q1,q2,q3⟩:=yJ g' [.own K 0 (La.length+1)] (La++[j]) [K] (.inr ⟨K,by simp,by simp,by rw[h2];simp[eN],rfl⟩) (fun i hi Xy=>by
   refine h3 i (pN i hi).2 ?_ fun id hid=>?_
   ·simp only[eq_iff_iff,iff_false];rintro rfl;have:=pN _ hi;omega
   ·simp only[eq_iff_iff,iff_false]
    rintro rfl
    rcases Uh with⟨_,h4,_⟩|⟨kV,h4,_,_,h5⟩
    ·rw[hid]at h4;cases h4
    ·rw[hid]at h4
     simp only[List.cons.injEq,AV.own.injEq,and_true]at h4
     rw[h5,h4]at Xy
     exact Xy (by simp)) (by simp) fun i hi hc=>by
   rw[List.mem_singleton.1 hi]at hc;have:=pN _ hc;omega
  refine⟨_,Gl,h1,q1,q2,fun i hi=>?_⟩
  rcases q3 i hi with h|h
  ·rw[List.mem_singleton.1 h];omega
  ·have:=pN i h;omega
theorem PF {P:Program} {Q:Ex->Env->ax->Prop} {c:VC} {env:Env} {σ:ax} (I:Env->ax->Prop) (h2:∀e s,I e s->Q .normal e s) (h1:∀N':Env->ax->Prop,(∀e s,I e s->N' e s)->er (Call P) c (dn N' Q) env σ):er (Call P) c Q env σ:=by
 refine km (fun _ _ _ _ h=>h) aA c _ _ env σ (fun x e s h=>?_) (h1 I fun _ _ h=>h)
 cases x with
 |normal=>exact h2 e s h
 |exit id=>exact h
 |ret=>exact h
end Go.Proofs.YtiabgllilcfheaaGreat.V

namespace Go.Proofs.YtiabgllilcfheaaGreat.V
open Go.RowKit
attribute [local irreducible] er wpOps fY Call
attribute [local go_sem] aF fC eR fN fK du upd cw K.av cQ AV.cells AV.cell rowOf rowsOf part ld rowAt bK cq dH dX gG bP dd eh fJ fa dw ea db da dM dP bV bd cU bU cW cV dV eb dZ cR bY dc dY bQ aD cY cF gF bD cL bW aY dn bj dI AV.undef bH bJ dQ dW dL dK cK ef eo cz ee ec cX cZ List.getD_cons_zero List.getD_cons_succ List.getD_nil List.all_cons List.all_nil Bool.and_true Bool.true_and Bool.and_self Bool.not_true Bool.not_false Option.map_some Option.map_none Option.bind_some Option.bind_none List.length_cons List.length_nil List.take_succ_cons List.take_zero List.take_nil List.drop_succ_cons List.drop_zero List.drop_nil List.head?_cons List.map_cons List.map_nil List.getElem?_cons_zero List.getElem?_cons_succ List.cons_append List.nil_append List.append_nil List.length_map List.set_cons_zero List.set_cons_succ Nat.reduceMul eq_self Int.toNat_natCast Int.natCast_nonneg and_self true_and and_true decide_true decide_false Bool.false_eq_true Nat.zero_add Nat.add_zero List.contains_cons List.contains_nil Bool.or_false Bool.false_or beq_self_eq_true Nat.reduceBEq ne_eq not_true_eq_false not_false_eq_true Id.mk.injEq false_and and_false Nat.reduceLT Int.reduceLE Int.reduceLT Int.reduceToNat Int.reduceNeg Int.reduceAdd Nat.le_refl List.length_append beq_true beq_false Bool.not_eq_eq_eq_not or_false false_or eu ai aj aP bh bZ cm aW bx aK bf cP bI
theorem LS (cnt:Nat) (hn:cnt<=1048576) (bs:List PB) (ok:pd cnt bs) (iK:bs.length<=1048576) (σ:ax):
  Call Tryz.prog 144 [.int .i64 cnt,.sl (bs.map aI)] σ fun r σ'=>∃X A F,r=.ptr X 0 0/\σ.next<=X.bt/\pY cnt bs (fun _=>0) X A F σ'.get σ'.next:=by
 refine xX Q3 rfl fun hl=>?_
 simp only[zL,S5,XW,XX,XY,Ts,XZ,Z6,X0,Z7,S6,mL,G7,PL,PM,PN,G8,PO,S7,PQ,S8,S9]
 try simp only[q]
 clear hl
 have kB:(0:Int)<=(cnt:Int):=ae
 have sr:(cnt:Int)<=((16777216:Nat):Int):=ae
 have Ki:(0:Int)<=(bs.length:Int):=ae
 have Qb:(bs.length:Int)<=((16777216:Nat):Int):=ae
 have hz:List.replicate bs.length [AV.int .i64 0]=eT (fun _=>0) bs.length:=by
  refine List.ext_getElem? fun i=>?_
  by_cases h:i<bs.length
  ·rw[eQ h,List.getElem?_replicate,if_pos h];rfl
  ·rw[List.getElem?_eq_none (by simp;omega),List.getElem?_eq_none (by rw[eH];omega)]
 (try((repeat(revert hN;revert N;apply Pn.out));refine wk (tw @kB (tw @sr (tw @Ki (tw @Qb (tw @Int.le_refl @hz))))) ?_;(repeat(refine Pn.mk ?_;intro N hN))))
 obtain⟨X,hX⟩:∃X:Id,X=⟨144001003,σ.next+1⟩:=⟨_,rfl⟩
 obtain⟨A,hA⟩:∃X:Id,X=⟨144002002,σ.next+1+1⟩:=⟨_,rfl⟩
 obtain⟨F,hF⟩:∃X:Id,X=⟨144003003,σ.next+1+1+1⟩:=⟨_,rfl⟩
 have hXA:X.bt<A.bt:=by rw[hX,hA];(try dsimp only);omega
 have hAF:A.bt<F.bt:=by rw[hA,hF];(try dsimp only);omega
 have hXs:σ.next<=X.bt:=by rw[hX];(try dsimp only);omega
 refine bz (fun n env st=>∃j:Nat,n=(bs.length)-j/\j<=(bs.length)/\env 6=.int .i64 (j:Int)/\env 5=(.ptr X 0 0)/\st.get X=some ⟨true,4,[cJ cnt bs A F]⟩/\st.get F=some ⟨true,1,eT (fun _=>0) bs.length⟩/\(tG A F.bt (mH cnt bs j) st.get st.next/\F.bt<st.next)) (bs.length) ⟨0,ae,ae,by(try simp only[go_sem, ↓reduceIte,Nat.reduceEqDiff,Nat.reduceAdd,Nat.reduceSub,Nat.reduceLeDiff,reduceCtorEq,hX,hF,hA,cJ,hz]);try rfl,by(try simp only[go_sem, ↓reduceIte,Nat.reduceEqDiff,Nat.reduceAdd,Nat.reduceSub,Nat.reduceLeDiff,reduceCtorEq,hX,hF,hA,cJ,hz]);try rfl,by(try simp only[go_sem, ↓reduceIte,Nat.reduceEqDiff,Nat.reduceAdd,Nat.reduceSub,Nat.reduceLeDiff,reduceCtorEq,hX,hF,hA,cJ,hz]);try rfl,by(try simp only[go_sem, ↓reduceIte,Nat.reduceEqDiff,Nat.reduceAdd,Nat.reduceSub,Nat.reduceLeDiff,reduceCtorEq,hX,hF,hA,cJ,hz]);try rfl,⟨⟨List.replicate cnt [.ck],[],by rw[hA];(simp only[go_sem, ↓reduceIte,Nat.reduceEqDiff,Nat.reduceAdd,Nat.reduceSub,Nat.reduceLeDiff,reduceCtorEq])<;>rfl,by rw[Jj];exact Bs _ _,List.nodup_nil,fun i hi=>by cases hi⟩,by rw[hF];(try dsimp only);omega⟩⟩ ?_
 rintro n_a env_a st_a ⟨j,rfl,ale,a6,a5,ag0,ag1,oh⟩ eJ
 have a0:=eJ 0 (by kernel_rfl);have a1:=eJ 1 (by kernel_rfl)
 simp only[go_sem, ↓reduceIte,Nat.reduceEqDiff,Nat.reduceAdd,Nat.reduceSub,Nat.reduceLeDiff,reduceCtorEq,hX,hF,hA,cJ,hz]at a0 a1
 clear eJ
 obtain⟨⟨rows,ids,ag,hR,re,pN⟩,hFn⟩:=oh
 have x1:=dp hXA
 have x2:=dp hAF
 have x3:=dp (a:=X) (b:=F) ae
 have vX:=dj (i:=X) (n:=st_a.next) ae
 have vA:=dj (i:=A) (n:=st_a.next) ae
 have vF:=dj (i:=F) (n:=st_a.next) ae
 by_cases hj:(j:Int)<(bs.length:Int)
 ·have dx:∀{e:Env} {gg:Rows} {nx:Nat},(e 6=.int .i64 (IntKind.i64.wrap ((j:Int)+1)))->(e 5=(.ptr X 0 0))->(gg X=some ⟨true,4,[cJ cnt bs A F]⟩)->(gg F=some ⟨true,1,eT (fun _=>0) bs.length⟩)->(tG A F.bt (mH cnt bs (j+1)) gg nx/\F.bt<nx)->∃m0,m0<(bs.length)-j/\∃j:Nat,m0=(bs.length)-j/\j<=(bs.length)/\e 6=.int .i64 (j:Int)/\e 5=(.ptr X 0 0)/\gg X=some ⟨true,4,[cJ cnt bs A F]⟩/\gg F=some ⟨true,1,eT (fun _=>0) bs.length⟩/\(tG A F.bt (mH cnt bs j) gg nx/\F.bt<nx):=fun x1 x2 x3 x4 x5=>⟨_,ae,j+1,rfl,ae,(by rw[x1,az ae]),x2,x3,x4,x5⟩
  have oi:j<bs.length:=ae
  have jB:=xw oi
  obtain⟨ha1,Vt,iN⟩:=ok j oi
  have iO:((dm bs j).a:Int)<(cnt:Int):=ae
  have gK:((dm bs j).b:Int)<(cnt:Int):=ae
  have pr:=Ji (m:=j) ha1 Vt iN
  have e1:=uh bs j (dm bs j).a
  have e2:=uh bs j (dm bs j).b
  have VH:(Aa cnt bs j)[(dm bs j).b]? =some (jR bs j (dm bs j).b):=Em Vt iN
  have Ny:(mH cnt bs j)[(dm bs j).a]? =some (jR bs j (dm bs j).a):=by simp[mH,ha1]
  have Yw:Aa cnt bs j=(mH cnt bs j).set (dm bs j).a (jR bs j (dm bs j).a++[j]):=rfl
  have RE:(Aa cnt bs j).length=cnt:=by rw[Yw,List.length_set,kf]
  have j4:=hR.len
  rw[kf]at j4
  obtain⟨cs7,kd,Lm,Ly⟩:=HZ (A:=A) (K:=⟨144007022,st_a.next+1⟩) (nx:=st_a.next+1+1) (j:=j) hR re pN ae Ny aU aU hFn
  rw[<-Yw]at Ly
  obtain⟨c7,rfl⟩:∃c,cs7=[c]:=by
   rcases Lm with⟨_,h⟩|⟨id,h,_⟩<;>exact⟨_,h⟩
  generalize jR bs j (dm bs j).a=La at *
  generalize jR bs j (dm bs j).b=Lb at *
  generalize dm bs j=b at *
  generalize Aa cnt bs j=LA at *
  clear Yw
  (try((repeat(revert hN;revert N;apply Pn.out));refine wk (tw @a6 (tw @a5 (tw @ag0 (tw @ag1 (tw @a0 (tw @a1 (tw @hj (tw @jB (tw @aI.eq_1 (tw @ag (tw @kd (tw @iO (tw @gK (tw @j4 (tw @x1 (tw @x2 (tw @x3 (tw @vX (tw @vA (tw @vF @cJ.eq_1)))))))))))))))))))) ?_;(repeat(refine Pn.mk ?_;intro N hN))))
  refine lJ (fun e s=>e 0=.int .i64 cnt/\e 1=.sl (bs.map aI)/\e 5=.ptr X 0 0/\e 6=.int .i64 j/\s.get X=some ⟨true,4,[cJ cnt bs A F]⟩/\s.get F=some ⟨true,1,eT (fun _=>0) bs.length⟩/\tG A F.bt LA s.get s.next/\F.bt<s.next) ?_ ?_
  ·rintro e1 s1 ⟨m0,m1,m5,m6,mX,mF,⟨rows1,ids1,mg,mR,mnd,mver⟩,mn⟩
   refine hN _ _ ?_
   clear hN N
   have j5:=mR.len
   rw[RE]at j5
   have wX:=dj (i:=X) (n:=s1.next) ae
   have wA:=dj (i:=A) (n:=s1.next) ae
   have wF:=dj (i:=F) (n:=s1.next) ae
   obtain⟨cs8,ke,Ln,Lz⟩:=HZ (A:=A) (K:=⟨144008022,s1.next⟩) (nx:=s1.next+1) (j:=j) mR mnd mver ae VH aU aU mn
   rw[pr]at Lz
   obtain⟨c8,rfl⟩:∃c,cs8=[c]:=by
    rcases Ln with⟨_,h⟩|⟨id,h,_⟩<;>exact⟨_,h⟩
   (try((repeat(revert hN;revert N;apply Pn.out));refine wk (tw @m0 (tw @m1 (tw @m5 (tw @m6 (tw @mX (tw @mF (tw @hj (tw @jB (tw @aI.eq_1 (tw @mg (tw @ke (tw @iO (tw @gK (tw @j5 (tw @x1 (tw @x2 (tw @x3 (tw @wX (tw @wA (tw @wF @cJ.eq_1)))))))))))))))))))) ?_;(repeat(refine Pn.mk ?_;intro N hN))))
   refine PF (fun e s=>e 0=.int .i64 cnt/\e 1=.sl (bs.map aI)/\e 5=.ptr X 0 0/\e 6=.int .i64 j/\s.get X=some ⟨true,4,[cJ cnt bs A F]⟩/\s.get F=some ⟨true,1,eT (fun _=>0) bs.length⟩/\tG A F.bt (mH cnt bs (j+1)) s.get s.next/\F.bt<s.next) ?_ ?_
   ·rintro e2 s2 ⟨p0,p1,p5,p6,pX,pF,pL,pn⟩
    simp only[dn,bj]
    refine hN _ _ ?_
    clear hN N
    (try((repeat(revert hN;revert N;apply Pn.out));refine wk (tw @p0 (tw @p1 (tw @p5 @p6))) ?_;(repeat(refine Pn.mk ?_;intro N hN))))
    refine dx ?_ ?_ ?_ ?_ (⟨by obtain⟨r,i,q1,q2,q3,q4⟩:=pL;exact⟨r,i,sd @q1,q2,q3,fun x hx=>by have:=q4 x hx;(try dsimp only);omega⟩,aU⟩)
    all_goals simp only[go_sem, ↓reduceIte,Nat.reduceEqDiff,Nat.reduceAdd,Nat.reduceSub,Nat.reduceLeDiff,reduceCtorEq,p0,p1,p5,p6,pX,pF]
   ·intro N hN
    rcases Ln with⟨P9,DZ⟩|⟨id,DZ,hLp,hid,Oy,xI⟩
    ·simp only[List.cons.injEq,and_true]at DZ
     subst DZ
     subst P9
     refine dS ?_ ?_<;>(try((repeat(revert hN;revert N;apply Pn.out));refine wk (tw @m0 (tw @m1 (tw @m5 (tw @m6 (tw @mX (tw @mF (tw @hj (tw @jB (tw @aI.eq_1 (tw @mg (tw @ke (tw @iO (tw @gK (tw @j5 (tw @x1 (tw @x2 (tw @x3 (tw @wX (tw @wA (tw @wF @cJ.eq_1)))))))))))))))))))) ?_;(repeat(refine Pn.mk ?_;intro N hN))))<;>(try refine dS ?_ ?_)<;>(try((repeat(revert hN;revert N;apply Pn.out));refine wk (tw @m0 (tw @m1 (tw @m5 (tw @m6 (tw @mX (tw @mF (tw @hj (tw @jB (tw @aI.eq_1 (tw @mg (tw @ke (tw @iO (tw @gK (tw @j5 (tw @x1 (tw @x2 (tw @x3 (tw @wX (tw @wA (tw @wF @cJ.eq_1)))))))))))))))))))) ?_;(repeat(refine Pn.mk ?_;intro N hN))))<;>(try refine dS ?_ ?_)<;>(try((repeat(revert hN;revert N;apply Pn.out));refine wk (tw @m0 (tw @m1 (tw @m5 (tw @m6 (tw @mX (tw @mF (tw @hj (tw @jB (tw @aI.eq_1 (tw @mg (tw @ke (tw @iO (tw @gK (tw @j5 (tw @x1 (tw @x2 (tw @x3 (tw @wX (tw @wA (tw @wF @cJ.eq_1)))))))))))))))))))) ?_;(repeat(refine Pn.mk ?_;intro N hN))))<;>(try refine dS ?_ ?_)<;>(try((repeat(revert hN;revert N;apply Pn.out));refine wk (tw @m0 (tw @m1 (tw @m5 (tw @m6 (tw @mX (tw @mF (tw @hj (tw @jB (tw @aI.eq_1 (tw @mg (tw @ke (tw @iO (tw @gK (tw @j5 (tw @x1 (tw @x2 (tw @x3 (tw @wX (tw @wA (tw @wF @cJ.eq_1)))))))))))))))))))) ?_;(repeat(refine Pn.mk ?_;intro N hN))))<;>(try refine dS ?_ ?_)<;>(try((repeat(revert hN;revert N;apply Pn.out));refine wk (tw @m0 (tw @m1 (tw @m5 (tw @m6 (tw @mX (tw @mF (tw @hj (tw @jB (tw @aI.eq_1 (tw @mg (tw @ke (tw @iO (tw @gK (tw @j5 (tw @x1 (tw @x2 (tw @x3 (tw @wX (tw @wA (tw @wF @cJ.eq_1)))))))))))))))))))) ?_;(repeat(refine Pn.mk ?_;intro N hN))))<;>(try refine dS ?_ ?_)<;>(try((repeat(revert hN;revert N;apply Pn.out));refine wk (tw @m0 (tw @m1 (tw @m5 (tw @m6 (tw @mX (tw @mF (tw @hj (tw @jB (tw @aI.eq_1 (tw @mg (tw @ke (tw @iO (tw @gK (tw @j5 (tw @x1 (tw @x2 (tw @x3 (tw @wX (tw @wA (tw @wF @cJ.eq_1)))))))))))))))))))) ?_;(repeat(refine Pn.mk ?_;intro N hN))))
     all_goals
      refine⟨by simp only[go_sem, ↓reduceIte,Nat.reduceEqDiff,Nat.reduceAdd,Nat.reduceSub,Nat.reduceLeDiff,reduceCtorEq,m0,m1,m5,m6,mX,mF,hj,jB,aI,mg,ke,iO,gK,j5,x1,x2,x3,wX,wA,wF,cJ],by simp only[go_sem, ↓reduceIte,Nat.reduceEqDiff,Nat.reduceAdd,Nat.reduceSub,Nat.reduceLeDiff,reduceCtorEq,m0,m1,m5,m6,mX,mF,hj,jB,aI,mg,ke,iO,gK,j5,x1,x2,x3,wX,wA,wF,cJ],by simp only[go_sem, ↓reduceIte,Nat.reduceEqDiff,Nat.reduceAdd,Nat.reduceSub,Nat.reduceLeDiff,reduceCtorEq,m0,m1,m5,m6,mX,mF,hj,jB,aI,mg,ke,iO,gK,j5,x1,x2,x3,wX,wA,wF,cJ],by simp only[go_sem, ↓reduceIte,Nat.reduceEqDiff,Nat.reduceAdd,Nat.reduceSub,Nat.reduceLeDiff,reduceCtorEq,m0,m1,m5,m6,mX,mF,hj,jB,aI,mg,ke,iO,gK,j5,x1,x2,x3,wX,wA,wF,cJ],by simp only[go_sem, ↓reduceIte,Nat.reduceEqDiff,Nat.reduceAdd,Nat.reduceSub,Nat.reduceLeDiff,reduceCtorEq,m0,m1,m5,m6,mX,mF,hj,jB,aI,mg,ke,iO,gK,j5,x1,x2,x3,wX,wA,wF,cJ],by simp only[go_sem, ↓reduceIte,Nat.reduceEqDiff,Nat.reduceAdd,Nat.reduceSub,Nat.reduceLeDiff,reduceCtorEq,m0,m1,m5,m6,mX,mF,hj,jB,aI,mg,ke,iO,gK,j5,x1,x2,x3,wX,wA,wF,cJ],Lz _ (by simp only[go_sem, ↓reduceIte,Nat.reduceEqDiff,Nat.reduceAdd,Nat.reduceSub,Nat.reduceLeDiff,reduceCtorEq,m0,m1,m5,m6,mX,mF,hj,jB,aI,mg,ke,iO,gK,j5,x1,x2,x3,wX,wA,wF,cJ,List.length_nil]) (by simp only[go_sem, ↓reduceIte,Nat.reduceEqDiff,Nat.reduceAdd,Nat.reduceSub,Nat.reduceLeDiff,reduceCtorEq,m0,m1,m5,m6,mX,mF,hj,jB,aI,mg,ke,iO,gK,j5,x1,x2,x3,wX,wA,wF,cJ,List.map_nil,List.nil_append]) (fun i hi RL fU=>?_),aU⟩
      clear fU
      simp only[go_sem, ↓reduceIte,Nat.reduceEqDiff,Nat.reduceAdd,Nat.reduceSub,Nat.reduceLeDiff,reduceCtorEq,wX,wA,wF,dj hi,RL]
    ·simp only[List.cons.injEq,and_true]at DZ
     subst DZ
     have uH:=dj Oy
     have y1:=dp (a:=A) (b:=id) ae
     have y2:=dp (a:=F) (b:=id) xI
     have y3:=dp (a:=X) (b:=id) ae
     have e3:Lb.length+1<=16777216:=ae
     have z1:(Lb.map eN).length=Lb.length:=by simp
     refine dS ?_ ?_<;>(try((repeat(revert hN;revert N;apply Pn.out));refine wk (tw @m0 (tw @m1 (tw @m5 (tw @m6 (tw @mX (tw @mF (tw @hj (tw @jB (tw @aI.eq_1 (tw @mg (tw @ke (tw @iO (tw @gK (tw @j5 (tw @x1 (tw @x2 (tw @x3 (tw @wX (tw @wA (tw @wF (tw @cJ.eq_1 (tw @hid (tw @uH (tw @y1 (tw @y2 (tw @y3 (tw @e3 @z1))))))))))))))))))))))))))) ?_;(repeat(refine Pn.mk ?_;intro N hN))))<;>(try refine dS ?_ ?_)<;>(try((repeat(revert hN;revert N;apply Pn.out));refine wk (tw @m0 (tw @m1 (tw @m5 (tw @m6 (tw @mX (tw @mF (tw @hj (tw @jB (tw @aI.eq_1 (tw @mg (tw @ke (tw @iO (tw @gK (tw @j5 (tw @x1 (tw @x2 (tw @x3 (tw @wX (tw @wA (tw @wF (tw @cJ.eq_1 (tw @hid (tw @uH (tw @y1 (tw @y2 (tw @y3 (tw @e3 @z1))))))))))))))))))))))))))) ?_;(repeat(refine Pn.mk ?_;intro N hN))))<;>(try refine dS ?_ ?_)<;>(try((repeat(revert hN;revert N;apply Pn.out));refine wk (tw @m0 (tw @m1 (tw @m5 (tw @m6 (tw @mX (tw @mF (tw @hj (tw @jB (tw @aI.eq_1 (tw @mg (tw @ke (tw @iO (tw @gK (tw @j5 (tw @x1 (tw @x2 (tw @x3 (tw @wX (tw @wA (tw @wF (tw @cJ.eq_1 (tw @hid (tw @uH (tw @y1 (tw @y2 (tw @y3 (tw @e3 @z1))))))))))))))))))))))))))) ?_;(repeat(refine Pn.mk ?_;intro N hN))))<;>(try refine dS ?_ ?_)<;>(try((repeat(revert hN;revert N;apply Pn.out));refine wk (tw @m0 (tw @m1 (tw @m5 (tw @m6 (tw @mX (tw @mF (tw @hj (tw @jB (tw @aI.eq_1 (tw @mg (tw @ke (tw @iO (tw @gK (tw @j5 (tw @x1 (tw @x2 (tw @x3 (tw @wX (tw @wA (tw @wF (tw @cJ.eq_1 (tw @hid (tw @uH (tw @y1 (tw @y2 (tw @y3 (tw @e3 @z1))))))))))))))))))))))))))) ?_;(repeat(refine Pn.mk ?_;intro N hN))))<;>(try refine dS ?_ ?_)<;>(try((repeat(revert hN;revert N;apply Pn.out));refine wk (tw @m0 (tw @m1 (tw @m5 (tw @m6 (tw @mX (tw @mF (tw @hj (tw @jB (tw @aI.eq_1 (tw @mg (tw @ke (tw @iO (tw @gK (tw @j5 (tw @x1 (tw @x2 (tw @x3 (tw @wX (tw @wA (tw @wF (tw @cJ.eq_1 (tw @hid (tw @uH (tw @y1 (tw @y2 (tw @y3 (tw @e3 @z1))))))))))))))))))))))))))) ?_;(repeat(refine Pn.mk ?_;intro N hN))))<;>(try refine dS ?_ ?_)<;>(try((repeat(revert hN;revert N;apply Pn.out));refine wk (tw @m0 (tw @m1 (tw @m5 (tw @m6 (tw @mX (tw @mF (tw @hj (tw @jB (tw @aI.eq_1 (tw @mg (tw @ke (tw @iO (tw @gK (tw @j5 (tw @x1 (tw @x2 (tw @x3 (tw @wX (tw @wA (tw @wF (tw @cJ.eq_1 (tw @hid (tw @uH (tw @y1 (tw @y2 (tw @y3 (tw @e3 @z1))))))))))))))))))))))))))) ?_;(repeat(refine Pn.mk ?_;intro N hN))))
     all_goals
      refine⟨by simp only[go_sem, ↓reduceIte,Nat.reduceEqDiff,Nat.reduceAdd,Nat.reduceSub,Nat.reduceLeDiff,reduceCtorEq,m0,m1,m5,m6,mX,mF,hj,jB,aI,mg,ke,iO,gK,j5,x1,x2,x3,wX,wA,wF,cJ,hid,uH,y1,y2,y3,e3,z1],by simp only[go_sem, ↓reduceIte,Nat.reduceEqDiff,Nat.reduceAdd,Nat.reduceSub,Nat.reduceLeDiff,reduceCtorEq,m0,m1,m5,m6,mX,mF,hj,jB,aI,mg,ke,iO,gK,j5,x1,x2,x3,wX,wA,wF,cJ,hid,uH,y1,y2,y3,e3,z1],by simp only[go_sem, ↓reduceIte,Nat.reduceEqDiff,Nat.reduceAdd,Nat.reduceSub,Nat.reduceLeDiff,reduceCtorEq,m0,m1,m5,m6,mX,mF,hj,jB,aI,mg,ke,iO,gK,j5,x1,x2,x3,wX,wA,wF,cJ,hid,uH,y1,y2,y3,e3,z1],by simp only[go_sem, ↓reduceIte,Nat.reduceEqDiff,Nat.reduceAdd,Nat.reduceSub,Nat.reduceLeDiff,reduceCtorEq,m0,m1,m5,m6,mX,mF,hj,jB,aI,mg,ke,iO,gK,j5,x1,x2,x3,wX,wA,wF,cJ,hid,uH,y1,y2,y3,e3,z1],by simp only[go_sem, ↓reduceIte,Nat.reduceEqDiff,Nat.reduceAdd,Nat.reduceSub,Nat.reduceLeDiff,reduceCtorEq,m0,m1,m5,m6,mX,mF,hj,jB,aI,mg,ke,iO,gK,j5,x1,x2,x3,wX,wA,wF,cJ,hid,uH,y1,y2,y3,e3,z1],by simp only[go_sem, ↓reduceIte,Nat.reduceEqDiff,Nat.reduceAdd,Nat.reduceSub,Nat.reduceLeDiff,reduceCtorEq,m0,m1,m5,m6,mX,mF,hj,jB,aI,mg,ke,iO,gK,j5,x1,x2,x3,wX,wA,wF,cJ,hid,uH,y1,y2,y3,e3,z1],Lz _ (by simp only[go_sem, ↓reduceIte,Nat.reduceEqDiff,Nat.reduceAdd,Nat.reduceSub,Nat.reduceLeDiff,reduceCtorEq,m0,m1,m5,m6,mX,mF,hj,jB,aI,mg,ke,iO,gK,j5,x1,x2,x3,wX,wA,wF,cJ,hid,uH,y1,y2,y3,e3,z1,List.length_nil]) (by simp only[go_sem, ↓reduceIte,Nat.reduceEqDiff,Nat.reduceAdd,Nat.reduceSub,Nat.reduceLeDiff,reduceCtorEq,m0,m1,m5,m6,mX,mF,hj,jB,aI,mg,ke,iO,gK,j5,x1,x2,x3,wX,wA,wF,cJ,hid,uH,y1,y2,y3,e3,z1,List.map_nil,List.nil_append]) (fun i hi RL fU=>?_),aU⟩
      have iN:=fU id rfl
      simp only[go_sem, ↓reduceIte,Nat.reduceEqDiff,Nat.reduceAdd,Nat.reduceSub,Nat.reduceLeDiff,reduceCtorEq,wX,wA,wF,dj hi,RL,iN]
  ·intro N hN
   rcases Lm with⟨P9,DZ⟩|⟨id,DZ,hLp,hid,Oy,xI⟩
   ·simp only[List.cons.injEq,and_true]at DZ
    subst DZ
    subst P9
    refine dS ?_ ?_<;>(try((repeat(revert hN;revert N;apply Pn.out));refine wk (tw @a6 (tw @a5 (tw @ag0 (tw @ag1 (tw @a0 (tw @a1 (tw @hj (tw @jB (tw @aI.eq_1 (tw @ag (tw @kd (tw @iO (tw @gK (tw @j4 (tw @x1 (tw @x2 (tw @x3 (tw @vX (tw @vA (tw @vF @cJ.eq_1)))))))))))))))))))) ?_;(repeat(refine Pn.mk ?_;intro N hN))))<;>(try refine dS ?_ ?_)<;>(try((repeat(revert hN;revert N;apply Pn.out));refine wk (tw @a6 (tw @a5 (tw @ag0 (tw @ag1 (tw @a0 (tw @a1 (tw @hj (tw @jB (tw @aI.eq_1 (tw @ag (tw @kd (tw @iO (tw @gK (tw @j4 (tw @x1 (tw @x2 (tw @x3 (tw @vX (tw @vA (tw @vF @cJ.eq_1)))))))))))))))))))) ?_;(repeat(refine Pn.mk ?_;intro N hN))))<;>(try refine dS ?_ ?_)<;>(try((repeat(revert hN;revert N;apply Pn.out));refine wk (tw @a6 (tw @a5 (tw @ag0 (tw @ag1 (tw @a0 (tw @a1 (tw @hj (tw @jB (tw @aI.eq_1 (tw @ag (tw @kd (tw @iO (tw @gK (tw @j4 (tw @x1 (tw @x2 (tw @x3 (tw @vX (tw @vA (tw @vF @cJ.eq_1)))))))))))))))))))) ?_;(repeat(refine Pn.mk ?_;intro N hN))))<;>(try refine dS ?_ ?_)<;>(try((repeat(revert hN;revert N;apply Pn.out));refine wk (tw @a6 (tw @a5 (tw @ag0 (tw @ag1 (tw @a0 (tw @a1 (tw @hj (tw @jB (tw @aI.eq_1 (tw @ag (tw @kd (tw @iO (tw @gK (tw @j4 (tw @x1 (tw @x2 (tw @x3 (tw @vX (tw @vA (tw @vF @cJ.eq_1)))))))))))))))))))) ?_;(repeat(refine Pn.mk ?_;intro N hN))))<;>(try refine dS ?_ ?_)<;>(try((repeat(revert hN;revert N;apply Pn.out));refine wk (tw @a6 (tw @a5 (tw @ag0 (tw @ag1 (tw @a0 (tw @a1 (tw @hj (tw @jB (tw @aI.eq_1 (tw @ag (tw @kd (tw @iO (tw @gK (tw @j4 (tw @x1 (tw @x2 (tw @x3 (tw @vX (tw @vA (tw @vF @cJ.eq_1)))))))))))))))))))) ?_;(repeat(refine Pn.mk ?_;intro N hN))))<;>(try refine dS ?_ ?_)<;>(try((repeat(revert hN;revert N;apply Pn.out));refine wk (tw @a6 (tw @a5 (tw @ag0 (tw @ag1 (tw @a0 (tw @a1 (tw @hj (tw @jB (tw @aI.eq_1 (tw @ag (tw @kd (tw @iO (tw @gK (tw @j4 (tw @x1 (tw @x2 (tw @x3 (tw @vX (tw @vA (tw @vF @cJ.eq_1)))))))))))))))))))) ?_;(repeat(refine Pn.mk ?_;intro N hN))))
    all_goals
     refine⟨by simp only[go_sem, ↓reduceIte,Nat.reduceEqDiff,Nat.reduceAdd,Nat.reduceSub,Nat.reduceLeDiff,reduceCtorEq,a6,a5,ag0,ag1,a0,a1,hj,jB,aI,ag,kd,iO,gK,j4,x1,x2,x3,vX,vA,vF,cJ],by simp only[go_sem, ↓reduceIte,Nat.reduceEqDiff,Nat.reduceAdd,Nat.reduceSub,Nat.reduceLeDiff,reduceCtorEq,a6,a5,ag0,ag1,a0,a1,hj,jB,aI,ag,kd,iO,gK,j4,x1,x2,x3,vX,vA,vF,cJ],by simp only[go_sem, ↓reduceIte,Nat.reduceEqDiff,Nat.reduceAdd,Nat.reduceSub,Nat.reduceLeDiff,reduceCtorEq,a6,a5,ag0,ag1,a0,a1,hj,jB,aI,ag,kd,iO,gK,j4,x1,x2,x3,vX,vA,vF,cJ],by simp only[go_sem, ↓reduceIte,Nat.reduceEqDiff,Nat.reduceAdd,Nat.reduceSub,Nat.reduceLeDiff,reduceCtorEq,a6,a5,ag0,ag1,a0,a1,hj,jB,aI,ag,kd,iO,gK,j4,x1,x2,x3,vX,vA,vF,cJ],by simp only[go_sem, ↓reduceIte,Nat.reduceEqDiff,Nat.reduceAdd,Nat.reduceSub,Nat.reduceLeDiff,reduceCtorEq,a6,a5,ag0,ag1,a0,a1,hj,jB,aI,ag,kd,iO,gK,j4,x1,x2,x3,vX,vA,vF,cJ],by simp only[go_sem, ↓reduceIte,Nat.reduceEqDiff,Nat.reduceAdd,Nat.reduceSub,Nat.reduceLeDiff,reduceCtorEq,a6,a5,ag0,ag1,a0,a1,hj,jB,aI,ag,kd,iO,gK,j4,x1,x2,x3,vX,vA,vF,cJ],Ly _ (by simp only[go_sem, ↓reduceIte,Nat.reduceEqDiff,Nat.reduceAdd,Nat.reduceSub,Nat.reduceLeDiff,reduceCtorEq,a6,a5,ag0,ag1,a0,a1,hj,jB,aI,ag,kd,iO,gK,j4,x1,x2,x3,vX,vA,vF,cJ,List.length_nil]) (by simp only[go_sem, ↓reduceIte,Nat.reduceEqDiff,Nat.reduceAdd,Nat.reduceSub,Nat.reduceLeDiff,reduceCtorEq,a6,a5,ag0,ag1,a0,a1,hj,jB,aI,ag,kd,iO,gK,j4,x1,x2,x3,vX,vA,vF,cJ,List.map_nil,List.nil_append]) (fun i hi RL fU=>?_),aU⟩
     clear fU
     simp only[go_sem, ↓reduceIte,Nat.reduceEqDiff,Nat.reduceAdd,Nat.reduceSub,Nat.reduceLeDiff,reduceCtorEq,vX,vA,vF,dj hi,RL]
   ·simp only[List.cons.injEq,and_true]at DZ
    subst DZ
    have uH:=dj Oy
    have y1:=dp (a:=A) (b:=id) ae
    have y2:=dp (a:=F) (b:=id) xI
    have y3:=dp (a:=X) (b:=id) ae
    have e3:La.length+1<=16777216:=ae
    have z1:(La.map eN).length=La.length:=by simp
    refine dS ?_ ?_<;>(try((repeat(revert hN;revert N;apply Pn.out));refine wk (tw @a6 (tw @a5 (tw @ag0 (tw @ag1 (tw @a0 (tw @a1 (tw @hj (tw @jB (tw @aI.eq_1 (tw @ag (tw @kd (tw @iO (tw @gK (tw @j4 (tw @x1 (tw @x2 (tw @x3 (tw @vX (tw @vA (tw @vF (tw @cJ.eq_1 (tw @hid (tw @uH (tw @y1 (tw @y2 (tw @y3 (tw @e3 @z1))))))))))))))))))))))))))) ?_;(repeat(refine Pn.mk ?_;intro N hN))))<;>(try refine dS ?_ ?_)<;>(try((repeat(revert hN;revert N;apply Pn.out));refine wk (tw @a6 (tw @a5 (tw @ag0 (tw @ag1 (tw @a0 (tw @a1 (tw @hj (tw @jB (tw @aI.eq_1 (tw @ag (tw @kd (tw @iO (tw @gK (tw @j4 (tw @x1 (tw @x2 (tw @x3 (tw @vX (tw @vA (tw @vF (tw @cJ.eq_1 (tw @hid (tw @uH (tw @y1 (tw @y2 (tw @y3 (tw @e3 @z1))))))))))))))))))))))))))) ?_;(repeat(refine Pn.mk ?_;intro N hN))))<;>(try refine dS ?_ ?_)<;>(try((repeat(revert hN;revert N;apply Pn.out));refine wk (tw @a6 (tw @a5 (tw @ag0 (tw @ag1 (tw @a0 (tw @a1 (tw @hj (tw @jB (tw @aI.eq_1 (tw @ag (tw @kd (tw @iO (tw @gK (tw @j4 (tw @x1 (tw @x2 (tw @x3 (tw @vX (tw @vA (tw @vF (tw @cJ.eq_1 (tw @hid (tw @uH (tw @y1 (tw @y2 (tw @y3 (tw @e3 @z1))))))))))))))))))))))))))) ?_;(repeat(refine Pn.mk ?_;intro N hN))))<;>(try refine dS ?_ ?_)<;>(try((repeat(revert hN;revert N;apply Pn.out));refine wk (tw @a6 (tw @a5 (tw @ag0 (tw @ag1 (tw @a0 (tw @a1 (tw @hj (tw @jB (tw @aI.eq_1 (tw @ag (tw @kd (tw @iO (tw @gK (tw @j4 (tw @x1 (tw @x2 (tw @x3 (tw @vX (tw @vA (tw @vF (tw @cJ.eq_1 (tw @hid (tw @uH (tw @y1 (tw @y2 (tw @y3 (tw @e3 @z1))))))))))))))))))))))))))) ?_;(repeat(refine Pn.mk ?_;intro N hN))))<;>(try refine dS ?_ ?_)<;>(try((repeat(revert hN;revert N;apply Pn.out));refine wk (tw @a6 (tw @a5 (tw @ag0 (tw @ag1 (tw @a0 (tw @a1 (tw @hj (tw @jB (tw @aI.eq_1 (tw @ag (tw @kd (tw @iO (tw @gK (tw @j4 (tw @x1 (tw @x2 (tw @x3 (tw @vX (tw @vA (tw @vF (tw @cJ.eq_1 (tw @hid (tw @uH (tw @y1 (tw @y2 (tw @y3 (tw @e3 @z1))))))))))))))))))))))))))) ?_;(repeat(refine Pn.mk ?_;intro N hN))))<;>(try refine dS ?_ ?_)<;>(try((repeat(revert hN;revert N;apply Pn.out));refine wk (tw @a6 (tw @a5 (tw @ag0 (tw @ag1 (tw @a0 (tw @a1 (tw @hj (tw @jB (tw @aI.eq_1 (tw @ag (tw @kd (tw @iO (tw @gK (tw @j4 (tw @x1 (tw @x2 (tw @x3 (tw @vX (tw @vA (tw @vF (tw @cJ.eq_1 (tw @hid (tw @uH (tw @y1 (tw @y2 (tw @y3 (tw @e3 @z1))))))))))))))))))))))))))) ?_;(repeat(refine Pn.mk ?_;intro N hN))))
    all_goals
     refine⟨by simp only[go_sem, ↓reduceIte,Nat.reduceEqDiff,Nat.reduceAdd,Nat.reduceSub,Nat.reduceLeDiff,reduceCtorEq,a6,a5,ag0,ag1,a0,a1,hj,jB,aI,ag,kd,iO,gK,j4,x1,x2,x3,vX,vA,vF,cJ,hid,uH,y1,y2,y3,e3,z1],by simp only[go_sem, ↓reduceIte,Nat.reduceEqDiff,Nat.reduceAdd,Nat.reduceSub,Nat.reduceLeDiff,reduceCtorEq,a6,a5,ag0,ag1,a0,a1,hj,jB,aI,ag,kd,iO,gK,j4,x1,x2,x3,vX,vA,vF,cJ,hid,uH,y1,y2,y3,e3,z1],by simp only[go_sem, ↓reduceIte,Nat.reduceEqDiff,Nat.reduceAdd,Nat.reduceSub,Nat.reduceLeDiff,reduceCtorEq,a6,a5,ag0,ag1,a0,a1,hj,jB,aI,ag,kd,iO,gK,j4,x1,x2,x3,vX,vA,vF,cJ,hid,uH,y1,y2,y3,e3,z1],by simp only[go_sem, ↓reduceIte,Nat.reduceEqDiff,Nat.reduceAdd,Nat.reduceSub,Nat.reduceLeDiff,reduceCtorEq,a6,a5,ag0,ag1,a0,a1,hj,jB,aI,ag,kd,iO,gK,j4,x1,x2,x3,vX,vA,vF,cJ,hid,uH,y1,y2,y3,e3,z1],by simp only[go_sem, ↓reduceIte,Nat.reduceEqDiff,Nat.reduceAdd,Nat.reduceSub,Nat.reduceLeDiff,reduceCtorEq,a6,a5,ag0,ag1,a0,a1,hj,jB,aI,ag,kd,iO,gK,j4,x1,x2,x3,vX,vA,vF,cJ,hid,uH,y1,y2,y3,e3,z1],by simp only[go_sem, ↓reduceIte,Nat.reduceEqDiff,Nat.reduceAdd,Nat.reduceSub,Nat.reduceLeDiff,reduceCtorEq,a6,a5,ag0,ag1,a0,a1,hj,jB,aI,ag,kd,iO,gK,j4,x1,x2,x3,vX,vA,vF,cJ,hid,uH,y1,y2,y3,e3,z1],Ly _ (by simp only[go_sem, ↓reduceIte,Nat.reduceEqDiff,Nat.reduceAdd,Nat.reduceSub,Nat.reduceLeDiff,reduceCtorEq,a6,a5,ag0,ag1,a0,a1,hj,jB,aI,ag,kd,iO,gK,j4,x1,x2,x3,vX,vA,vF,cJ,hid,uH,y1,y2,y3,e3,z1,List.length_nil]) (by simp only[go_sem, ↓reduceIte,Nat.reduceEqDiff,Nat.reduceAdd,Nat.reduceSub,Nat.reduceLeDiff,reduceCtorEq,a6,a5,ag0,ag1,a0,a1,hj,jB,aI,ag,kd,iO,gK,j4,x1,x2,x3,vX,vA,vF,cJ,hid,uH,y1,y2,y3,e3,z1,List.map_nil,List.nil_append]) (fun i hi RL fU=>?_),aU⟩
     have iN:=fU id rfl
     simp only[go_sem, ↓reduceIte,Nat.reduceEqDiff,Nat.reduceAdd,Nat.reduceSub,Nat.reduceLeDiff,reduceCtorEq,vX,vA,vF,dj hi,RL,iN]
 ·have iv:j=bs.length:=ae
  subst iv
  (try((repeat(revert hN;revert N;apply Pn.out));refine wk (tw @a6 (tw @a5 (tw @ag0 (tw @ag1 (tw @a0 (tw @a1 @hj)))))) ?_;(repeat(refine Pn.mk ?_;intro N hN))))
  exact gN (.inl rfl) (by simp only[gS,jD,go_sem, ↓reduceIte,Nat.reduceEqDiff,Nat.reduceAdd,Nat.reduceSub,Nat.reduceLeDiff,reduceCtorEq];rfl) ⟨X,A,F,rfl,hXs,⟨ag0,⟨rows,ids,ag,hR,re,fun x hx=>by have:=pN x hx;(try dsimp only);omega⟩,ag1,hXA,hAF,aU⟩⟩
theorem tG.frame {A:Id} {lo nx Ae:Nat} {L:List (List Nat)} {g g':Rows} (h:tG A lo L g nx) (hA:A.bt<nx) (hf:∀i:Id,i.bt<nx->lo<i.bt∨i=A->g' i=g i) (hn:nx<=Ae):tG A lo L g' Ae:=by
 obtain⟨rows,ids,h1,h2,h3,h4⟩:=h
 refine⟨rows,ids,(hf A hA (.inr rfl)).trans h1,h2.frame Qz fun i hi=>hf i (h4 i hi).2 (.inl (h4 i hi).1),h3,fun i hi=>?_⟩
 have:=h4 i hi;omega
theorem pY.frame {cnt:Nat} {bs:List PB} {f:Nat->Int} {X A F:Id} {g g':Rows} {nx Ae:Nat} (h:pY cnt bs f X A F g nx) (hf:∀i:Id,i.bt<nx->g' i=g i) (hn:nx<=Ae):pY cnt bs f X A F g' Ae:=by
 have h1:=h.xa;have h2:=h.af;have h3:=h.fn
 exact⟨(hf X ae).trans h.x,h.a.frame ae (fun i hi _=>hf i hi) hn,(hf F h3).trans h.f,h1,h2,ae⟩
theorem pY.Ve {cnt:Nat} {bs:List PB} {f f':Nat->Int} {X A F:Id} {g g':Rows} {nx Ae:Nat} (h:pY cnt bs f X A F g nx) (hF:g' F=some ⟨true,1,eT f' bs.length⟩) (hf:∀i:Id,i.bt<nx->(i=F)=False->g' i=g i) (hn:nx<=Ae):pY cnt bs f' X A F g' Ae:=by
 have h1:=h.xa;have h2:=h.af;have h3:=h.fn
 refine⟨(hf X ae (dp ae).1).trans h.x,h.a.frame ae (fun i hi kI=>hf i hi ?_) hn,hF,h1,h2,ae⟩
 rcases kI with kI|rfl
 ·exact(dp kI).2
 ·exact(dp h2).1
theorem Sn (cnt:Nat) (bs:List PB) (f:Nat->Int) (hs:Small bs f) (e v:Nat) (he:e<bs.length) (X A F:Id) (σ:ax) (nx:Nat) (hS:pY cnt bs f X A F σ.get nx) (hn:nx<=σ.next):
  Call Tryz.prog 164 [.ptr X 0 0,.int .i64 v,.int .i64 e] σ fun r σ'=>pY cnt bs (wV bs f e v) X A F σ'.get nx/\σ.next<=σ'.next/\∀i:Id,(i=F)=False->σ'.get i=σ.get i:=by
 refine ij fF rfl fun hl=>?_
 clear hl
 have hX:=hS.x
 have hF:=hS.f
 have hb:=xw he
 have Y3:=eQ (f:=f) he
 have tl:=eH f bs.length
 obtain⟨⟨s0,s1⟩,s2,s3⟩:=hs e he
 have hei:(e:Int)<(bs.length:Int):=ae
 have w1:IntKind.i64.wrap (f e+1)=f e+1:=cD ae
 have w2:IntKind.i64.wrap (f e-1)=f e+-1:=by rw[cD ae];omega
 rw[aJ]at Y3
 unfold wV
 by_cases h:(dm bs e).a=v
 ·have fj:(eT f bs.length).set e (aJ (f e+1))=eT (fun j=>f j+if j=e then(if (dm bs e).a=v then 1 else -1)else 0) bs.length:=mo he (by rw[if_pos rfl,if_pos h]) fun i _ hi=>by rw[if_neg hi,Int.add_zero]
  rw[aJ]at fj
  generalize Xh:dm bs e=b at *
  have hd:decide ((b.a:Int)=(v:Int))=true:=decide_eq_true (by rw[h])
  (try((repeat(revert hN;revert N;apply Pn.out));refine wk (tw @hX (tw @hF (tw @hb (tw @Y3 (tw @tl (tw @hei (tw @w1 (tw @fj (tw @hd (tw @aI.eq_1 @cJ.eq_1)))))))))) ?_;(repeat(refine Pn.mk ?_;intro N hN))))
  exact gN (.inr rfl) (vs:=[]) rfl ⟨hS.Ve (sd @Nat.zero_add) (fun i hi iN=>sd @iN) (Nat.le_refl _),aU,fun i iN=>sd @iN⟩
 ·have fj:(eT f bs.length).set e (aJ (f e+-1))=eT (fun j=>f j+if j=e then(if (dm bs e).a=v then 1 else -1)else 0) bs.length:=mo he (by rw[if_pos rfl,if_neg h]) fun i _ hi=>by rw[if_neg hi,Int.add_zero]
  rw[aJ]at fj
  generalize Xh:dm bs e=b at *
  have hd:decide ((b.a:Int)=(v:Int))=false:=decide_eq_false fun hc=>h ae
  (try((repeat(revert hN;revert N;apply Pn.out));refine wk (tw @hX (tw @hF (tw @hb (tw @Y3 (tw @tl (tw @hei (tw @w2 (tw @fj (tw @hd (tw @aI.eq_1 @cJ.eq_1)))))))))) ?_;(repeat(refine Pn.mk ?_;intro N hN))))
  exact gN (.inr rfl) (vs:=[]) rfl ⟨hS.Ve (sd @Nat.zero_add) (fun i hi iN=>sd @iN) (Nat.le_refl _),aU,fun i iN=>sd @iN⟩
structure pZ (bs:List PB) (out:Nat->Int) (f f':Nat->Int) (x v:Nat):Prop where
 le:∀i,i<bs.length->f' i<=(dm bs i).s/\-(dm bs i).s<=f' i
 cut:∀S:Nat->Bool,IH S bs f'=IH S bs f+bi (S x)-bi (S v)
 Bf:∀e,e<bs.length->out (dm bs e).a<=out v->out (dm bs e).b<=out v->f' e=f e
section
variable {cnt:Nat} {bs:List PB} {out:Nat->Int} {f f':Nat->Int} {x v y:Nat}
theorem pZ.start (h:∀i,i<bs.length->f i<=(dm bs i).s/\-(dm bs i).s<=f i):pZ bs out f f x x:=⟨h,fun S=>ae,fun _ _ _ _=>rfl⟩
theorem pZ.step (h:pZ bs out f f' x v) {e:Nat} (he:e<bs.length) (hi:He bs e v) (hr:0<gR bs f' e v) (hd:out (dh bs e v)=out v-1):pZ bs out f (wV bs f' e v) x (dh bs e v):=by
 refine⟨fun i l5=>?_,fun S=>?_,fun i l5 ha hb=>?_⟩
 ·have h1:=h.le i l5
  unfold wV
  by_cases C8:i=e
  ·subst C8
   rw[if_pos rfl]
   unfold gR at hr
   split at hr<;>rename_i hc
   ·rw[if_pos hc];omega
   ·rw[if_neg hc];omega
  ·rw[if_neg C8];omega
 ·rw[II he hi,h.cut S];omega
 ·have C8:i≠e:=by
   rintro rfl
   rcases hi with hi|hi
   ·rw[hi]at ha;omega
   ·rw[hi]at hb;omega
  unfold wV
  rw[if_neg C8,Int.add_zero]
  exact h.Bf i l5 ae ae
theorem pZ.goes (h:pZ bs out f f' x v) (hs:BD cnt bs f y out) (hv:v<cnt) (h0:0<out v):∃e∈jR bs bs.length v,0<gR bs f' e v/\out (dh bs e v)=out v-1:=by
 obtain⟨e,h1,h2,h3,h4⟩:=hs.down v hv h0
 refine⟨e,ui.2 ⟨h1,h2⟩,?_,h4⟩
 have hf:f' e=f e:=by
  refine h.Bf e h1 ?_ ?_
  ·unfold dh at h4
   split at h4
   ·rename_i ha;rw[ha];exact Int.le_refl _
   ·omega
  ·unfold dh at h4
   rcases h2 with h2|h2
   ·rw[if_pos h2]at h4;omega
   ·rw[h2];exact Int.le_refl _
 unfold gR at h3 ⊢
 rw[hf];exact h3
theorem pZ.done {val:Int} (h:pZ bs out f f' x y) (hf:k9 bs f x y val):k9 bs f' x y (val+1):=
 ⟨h.le,fun S hx hy=>by rw[h.cut S,hf.cut S hx hy,hx,hy];simp[bi]⟩
theorem G0 {val:Int} (hs:BD cnt bs f y out) (ok:pd cnt bs) (hf:k9 bs f x y val) (hx:out x<0):∃S:Nat->Bool,S x=true/\S y=false/\val=jZ S bs:=by
 refine⟨fun v=>decide (out v<0),decide_eq_true hx,decide_eq_false (by rw[hs.first];omega),hf.full (decide_eq_true hx) (decide_eq_false (by rw[hs.first];omega)) fun i hi qz=>⟨fun h1 h2 hr=>?_,fun h1 h2 hr=>?_⟩⟩
 ·have Rm:=of_decide_eq_true h1
  have C5:=of_decide_eq_false h2
  have:=hs.shut i (dm bs i).a hi (.inl rfl) (by unfold dh;rw[if_pos rfl];omega) hr
  omega
 ·have Rm:=of_decide_eq_true h1
  have C5:=of_decide_eq_false h2
  have:=hs.shut i (dm bs i).b hi (.inr rfl) (by unfold dh;rw[if_neg qz];omega) hr
  omega
end
theorem zx {bs:List PB} {f:Nat->Int} (ev:∀e,e<bs.length->0<=(dm bs e).s/\(dm bs e).s<=4) (h:∀i,i<bs.length->f i<=(dm bs i).s/\-(dm bs i).s<=f i):Small bs f:=fun e he=>by
 have:=ev e he;have:=h e he;omega
theorem tG.at_ {A:Id} {lo nx v:Nat} {L:List (List Nat)} {l:List Nat} {g:Rows} (h:tG A lo L g nx) (hv:L[v]? =some l) (hl:0<l.length):∃(rows:List (List AV)) (id:Id),g A=some ⟨true,1,rows⟩/\rows.length=L.length/\rows[v]? =some [.own id 0 l.length]/\g id=some ⟨true,1,l.map eN⟩/\lo<id.bt/\id.bt<nx:=by
 obtain⟨rows,ids,h1,h2,h3,h4⟩:=h
 have hk:v<L.length:=(List.getElem?_eq_some_iff.1 hv).1
 obtain⟨cs,ic,eD,hR,VK⟩:=h2.at_ v hk
 rw[lY hv hk]at hR
 rcases hR with⟨h5,_⟩|⟨id,rfl,_,h6,rfl⟩
 ·subst h5;simp at hl
 ·have:=h4 id (VK id (by simp))
  exact⟨rows,id,h1,h2.len,eD,h6,this.1,this.2⟩
theorem Rl (cnt:Nat) (hn:cnt<=1048576) (bs:List PB) (ok:pd cnt bs) (iK:bs.length<=1048576) (ev:∀e,e<bs.length->0<=(dm bs e).s/\(dm bs e).s<=4) (f:Nat->Int) (x y:Nat) (hx:x<cnt) (hy:y<cnt) (OP:x≠y) (val:Int) (hf:k9 bs f x y val)
  (X A F:Id) (σ:ax) (nb:Nat) (hS:pY cnt bs f X A F σ.get nb) (pr:nb<=σ.next):
  Call Tryz.prog 145 [.ptr X 0 0,.int .i64 x,.int .i64 y] σ fun r σ'=>∃b f',r=.bool b/\pY cnt bs f' X A F σ'.get nb/\σ.next<=σ'.next/\(∀i:Id,i.bt<nb->(i=F)=False->σ'.get i=σ.get i)/\
   (b=false->f'=f/\∃S:Nat->Bool,S x=true/\S y=false/\val=jZ S bs)/\(b=true->k9 bs f' x y (val+1)):=by
 refine ij fF rfl fun hl=>?_
 clear hl
 have Fw:(x:Int)<(cnt:Int):=ae
 have hz:∀(g:Rows),(∀i:Id,i.bt<nb->g i=σ.get i)->eC (eu g) 6 [.ptr X 0 0,.int .i64 (y:Int)]=some [.dv (ig cnt bs f),.int .i64 y]:=fun g hg=>by
  have:=(hS.frame hg (Nat.le_refl _)).fz
  simp only[ai,aj,this,aP,Option.map_some]
 (try((repeat(revert hN;revert N;apply Pn.out));refine wk @Nat.zero_add ?_;(repeat(refine Pn.mk ?_;intro N hN))))
 refine .inr (aA _ _ _ _ _ (fun r σ1 hq=>?_) ((Ib cnt hn bs ok iK f (zx ev hf.le) y hy).x mixed (hz _ (fun i hi=>rfl))))
 obtain⟨⟨out,rfl,R3⟩,rfl⟩:=hq
 refine hN _ _ ?_
 clear hN N
 have hox:=eQ (f:=out) hx
 have tl:=eH out cnt
 by_cases ll:out x<0
 ·(try((repeat(revert hN;revert N;apply Pn.out));refine wk (tw @hox (tw @ll (tw @Fw (tw @tl @aJ.eq_1)))) ?_;(repeat(refine Pn.mk ?_;intro N hN))))
  exact gN (.inl rfl) (vs:=[.bool false]) (sd @Nat.zero_add) ⟨false,f,rfl,hS.frame (fun i hi=>rfl) (Nat.le_refl _),aU,fun i _ _=>rfl,fun _=>⟨rfl,G0 R3 ok hf ll⟩,fun h=>by cases h⟩
 (try((repeat(revert hN;revert N;apply Pn.out));refine wk (tw @hox (tw @ll (tw @Fw (tw @tl @aJ.eq_1)))) ?_;(repeat(refine Pn.mk ?_;intro N hN))))
 refine bz (fun m env st=>∃(v:Nat) (f':Nat->Int),m=(out v).toNat/\v<cnt/\0<=out v/\env 8=.int .i64 (v:Int)/\pZ bs out f f' x v/\pY cnt bs f' X A F st.get nb/\(∀i:Id,i.bt<nb->(i=F)=False->st.get i=σ.get i)/\σ.next<=st.next) (out x).toNat ⟨x,f,rfl,hx,ae,by(simp only[go_sem, ↓reduceIte,Nat.reduceEqDiff,Nat.reduceAdd,Nat.reduceSub,Nat.reduceLeDiff,reduceCtorEq]),pZ.start hf.le,hS.frame (fun i hi=>rfl) (Nat.le_refl _),fun i _ _=>rfl,aU⟩ ?_
 rintro m env_b st_b ⟨v,f',rfl,hv,s8,b8,hW,hN1,jn,hle⟩ eW
 have b0:=eW 0 (by kernel_rfl)
 have b2:=eW 2 (by kernel_rfl)
 have b7:=eW 7 (by kernel_rfl)
 simp only[go_sem, ↓reduceIte,Nat.reduceEqDiff,Nat.reduceAdd,Nat.reduceSub,Nat.reduceLeDiff,reduceCtorEq]at b0 b2 b7
 clear eW
 by_cases XG:v=y
 ·have hd:decide ((v:Int)=(y:Int))=true:=decide_eq_true (by rw[XG])
  subst XG
  (try((repeat(revert hN;revert N;apply Pn.out));refine wk (tw @b0 (tw @b2 (tw @b7 (tw @b8 @hd)))) ?_;(repeat(refine Pn.mk ?_;intro N hN))))
  exact gN (.inl rfl) (vs:=[.bool true]) (sd @Nat.zero_add) ⟨true,f',rfl,hN1,aU,jn,fun h=>(by cases h),fun _=>hW.done hf⟩
 have hd:decide ((v:Int)=(y:Int))=false:=decide_eq_false fun h=>XG ae
 have Da:0<out v:=by
  have:=R3.zero v hv
  rcases Int.lt_or_eq_of_le s8 with h|h
  ·exact h
  ·exact absurd (this h.symm) XG
 have Qe:=hW.goes R3 hv Da
 have hIm:∀ed∈jR bs bs.length v,ed<bs.length/\He bs ed v:=fun ed h=>ui.1 h
 have hIL:(mH cnt bs bs.length)[v]? =some (jR bs bs.length v):=by simp[mH,hv]
 have hIl:=uh bs bs.length v
 generalize jR bs bs.length v=I at *
 have hIp:0<I.length:=by
  obtain⟨ed,h,_⟩:=Qe
  exact List.length_pos_of_mem h
 obtain⟨rows,id,Xp,xK,mV,hid,hid1,hid2⟩:=hN1.a.at_ hIL hIp
 rw[kf]at xK
 have hgX:=hN1.x
 have Gi:(v:Int)<(cnt:Int):=ae
 have xJ:=eQ (f:=out) hv
 have tD:IntKind.i64.wrap (out v-1)=out v-1:=cD (by have:=R3.lo v hv;omega)
 have sW:(I.map eN).length=I.length:=by simp
 have Je:=zx ev hW.le
 have sC:∀(g:Rows),(∀i:Id,i.bt<nb->g i=st_b.get i)->∀ed:Nat,eC (eu g) 6 [.ptr X 0 0,.int .i64 (v:Int),.int .i64 (ed:Int)]=some [.dv (ig cnt bs f'),.int .i64 v,.int .i64 ed]:=fun g hg ed=>by
  have:=(hN1.frame hg (Nat.le_refl _)).fz
  simp only[ai,aj,this,aP,Option.map_some]
 rw[aJ]at xJ
 (try((repeat(revert hN;revert N;apply Pn.out));refine wk (tw @b0 (tw @b2 (tw @b7 (tw @b8 @hd)))) ?_;(repeat(refine Pn.mk ?_;intro N hN))))
 refine bz (fun n env st=>∃k:Nat,n=(I.length)-k/\k<=(I.length)/\env 11=.int .i64 (k:Int)/\(∃(wT Hn:Int),env 9=.int .i64 wT/\env 10=.int .i64 Hn/\((wT<0/\∀z,z<k->¬(0<gR bs f' (I.getD z 0) v/\out (dh bs (I.getD z 0) v)=out v-1))∨∃ed:Nat,ed∈I/\Hn=(ed:Int)/\wT=(dh bs ed v:Int)/\0<gR bs f' ed v/\out (dh bs ed v)=out v-1))/\((∀i:Id,st.get i=st_b.get i)/\st_b.next<=st.next)) (I.length) ⟨0,ae,ae,sl (tw @b0 (tw @b2 (tw @b7 @b8))),⟨-1,0,by(simp only[go_sem, ↓reduceIte,Nat.reduceEqDiff,Nat.reduceAdd,Nat.reduceSub,Nat.reduceLeDiff,reduceCtorEq]),by(simp only[go_sem, ↓reduceIte,Nat.reduceEqDiff,Nat.reduceAdd,Nat.reduceSub,Nat.reduceLeDiff,reduceCtorEq]),.inl ⟨ae,fun z hz=>ae⟩⟩,⟨fun i=>rfl,aU⟩⟩ ?_
 rintro n_c env_c st_c ⟨k,rfl,cle,pG,cI0,cI1⟩ iV
 have c0:=iV 0 (by kernel_rfl);have c2:=iV 2 (by kernel_rfl);have c7:=iV 7 (by kernel_rfl);have c8:=iV 8 (by kernel_rfl)
 simp only[go_sem, ↓reduceIte,Nat.reduceEqDiff,Nat.reduceAdd,Nat.reduceSub,Nat.reduceLeDiff,reduceCtorEq,b0,b2,b7,b8]at c0 c2 c7 c8
 clear iV
 obtain⟨wT,Hn,c9,iE,Ll⟩:=cI0
 obtain⟨nP,Ul⟩:=cI1
 have Gc:=(nP X).trans hgX
 have Gb:=(nP A).trans Xp
 have Cc:=(nP id).trans hid
 by_cases hk:(k:Int)<(I.length:Int)
 ·have gQ:∀{e:Env} {gg:Rows} {nx:Nat},(e 11=.int .i64 (IntKind.i64.wrap ((k:Int)+1)))->(∃(wT Hn:Int),e 9=.int .i64 wT/\e 10=.int .i64 Hn/\((wT<0/\∀z,z<(k+1)->¬(0<gR bs f' (I.getD z 0) v/\out (dh bs (I.getD z 0) v)=out v-1))∨∃ed:Nat,ed∈I/\Hn=(ed:Int)/\wT=(dh bs ed v:Int)/\0<gR bs f' ed v/\out (dh bs ed v)=out v-1))->((∀i:Id,gg i=st_b.get i)/\st_b.next<=nx)->∃m0,m0<(I.length)-k/\∃k:Nat,m0=(I.length)-k/\k<=(I.length)/\e 11=.int .i64 (k:Int)/\(∃(wT Hn:Int),e 9=.int .i64 wT/\e 10=.int .i64 Hn/\((wT<0/\∀z,z<k->¬(0<gR bs f' (I.getD z 0) v/\out (dh bs (I.getD z 0) v)=out v-1))∨∃ed:Nat,ed∈I/\Hn=(ed:Int)/\wT=(dh bs ed v:Int)/\0<gR bs f' ed v/\out (dh bs ed v)=out v-1))/\((∀i:Id,gg i=st_b.get i)/\st_b.next<=nx):=fun x1 x2 x3=>⟨_,ae,k+1,rfl,ae,(by rw[x1,az ae]),x2,x3⟩
  have iR:k<I.length:=ae
  have gq:(I.map eN)[k]? =some (eN (I.getD k 0)):=getD_map eN iR
  have sZ:I.getD k 0∈I:=by rw[List.getD_eq_getElem?_getD,List.getElem?_eq_getElem iR];exact List.getElem_mem iR
  obtain⟨he,rW⟩:=hIm _ sZ
  have Qn:=MF cnt bs f' Je (I.getD k 0) v he
  have UF:=sC st_c.get (fun i _=>nP i) (I.getD k 0)
  have hq:=qK ok (v:=v) he
  have Ux:=eQ (f:=out) hq
  obtain⟨ed,hed⟩:∃ed,ed=I.getD k 0:=⟨_,rfl⟩
  rw[<-hed]at gq he rW Qn UF hq Ux sZ
  rw[aJ]at Ux
  rw[eN]at gq
  (try((repeat(revert hN;revert N;apply Pn.out));refine wk (tw @pG (tw @c0 (tw @c2 (tw @c7 (tw @c8 (tw @c9 (tw @iE (tw @hk (tw @Gc (tw @Gb (tw @Cc (tw @mV (tw @xK (tw @Gi (tw @gq (tw @sW @cJ.eq_1)))))))))))))))) ?_;(repeat(refine Pn.mk ?_;intro N hN))))
  refine .inl ⟨_,au.x Qn UF,?_⟩
  refine hN _ _ ?_
  clear hN N
  have stay:∀k',k'=k+1->(¬(0<gR bs f' ed v/\out (dh bs ed v)=out v-1))->((wT<0/\∀z,z<k'->¬(0<gR bs f' (I.getD z 0) v/\out (dh bs (I.getD z 0) v)=out v-1))∨∃ed:Nat,ed∈I/\Hn=(ed:Int)/\wT=(dh bs ed v:Int)/\0<gR bs f' ed v/\out (dh bs ed v)=out v-1):=fun k' HH lQ=>by
   rcases Ll with⟨h1,h2⟩|h
   ·refine .inl ⟨h1,fun z hz=>?_⟩
    by_cases ZQ:z=k
    ·subst ZQ;rw[<-hed];exact lQ
    ·exact h2 z ae
   ·exact .inr h
  by_cases hr:0<gR bs f' ed v
  ·by_cases I6:out (dh bs ed v)=out v-1
   ·have nr:decide (out (dh bs ed v)=out v-1)=true:=decide_eq_true I6
    have found:∃U9:Nat,U9∈I/\(ed:Int)=(U9:Int)/\(dh bs ed v:Int)=(dh bs U9 v:Int)/\0<gR bs f' U9 v/\out (dh bs U9 v)=out v-1:=⟨ed,sZ,rfl,rfl,hr,I6⟩
    by_cases Ge:wT<0
    ·(try((repeat(revert hN;revert N;apply Pn.out));refine wk (tw @pG (tw @c0 (tw @c2 (tw @c7 (tw @c8 (tw @c9 (tw @iE (tw @hk (tw @Gc (tw @Gb (tw @Cc (tw @mV (tw @xK (tw @Gi (tw @gq (tw @sW (tw @hr (tw @Ux (tw @xJ (tw @tD (tw @nr (tw @Ge @cJ.eq_1)))))))))))))))))))))) ?_;(repeat(refine Pn.mk ?_;intro N hN))))
     exact gQ (sd (tw @pG (tw @c0 (tw @c2 (tw @c7 @c8))))) (⟨_,_,sd @Nat.zero_add,sd @Nat.zero_add,.inr found⟩) (⟨nP,aU⟩)
    ·by_cases eM:(dh bs ed v:Int)<wT
     ·(try((repeat(revert hN;revert N;apply Pn.out));refine wk (tw @pG (tw @c0 (tw @c2 (tw @c7 (tw @c8 (tw @c9 (tw @iE (tw @hk (tw @Gc (tw @Gb (tw @Cc (tw @mV (tw @xK (tw @Gi (tw @gq (tw @sW (tw @hr (tw @Ux (tw @xJ (tw @tD (tw @nr (tw @Ge (tw @eM @cJ.eq_1))))))))))))))))))))))) ?_;(repeat(refine Pn.mk ?_;intro N hN))))
      exact gQ (sd (tw @pG (tw @c0 (tw @c2 (tw @c7 @c8))))) (⟨_,_,sd @Nat.zero_add,sd @Nat.zero_add,.inr found⟩) (⟨nP,aU⟩)
     ·(try((repeat(revert hN;revert N;apply Pn.out));refine wk (tw @pG (tw @c0 (tw @c2 (tw @c7 (tw @c8 (tw @c9 (tw @iE (tw @hk (tw @Gc (tw @Gb (tw @Cc (tw @mV (tw @xK (tw @Gi (tw @gq (tw @sW (tw @hr (tw @Ux (tw @xJ (tw @tD (tw @nr (tw @Ge (tw @eM @cJ.eq_1))))))))))))))))))))))) ?_;(repeat(refine Pn.mk ?_;intro N hN))))
      exact gQ (sd (tw @pG (tw @c0 (tw @c2 (tw @c7 @c8))))) (⟨wT,Hn,sd @c9,sd @iE,by
       rcases Ll with⟨h1,_⟩|h
       ·exact absurd h1 Ge
       ·exact .inr h⟩) (⟨nP,aU⟩)
   ·have nr:decide (out (dh bs ed v)=out v-1)=false:=decide_eq_false I6
    (try((repeat(revert hN;revert N;apply Pn.out));refine wk (tw @pG (tw @c0 (tw @c2 (tw @c7 (tw @c8 (tw @c9 (tw @iE (tw @hk (tw @Gc (tw @Gb (tw @Cc (tw @mV (tw @xK (tw @Gi (tw @gq (tw @sW (tw @hr (tw @Ux (tw @xJ (tw @tD (tw @nr @cJ.eq_1))))))))))))))))))))) ?_;(repeat(refine Pn.mk ?_;intro N hN))))
    exact gQ (sd (tw @pG (tw @c0 (tw @c2 (tw @c7 @c8))))) (⟨wT,Hn,sd @c9,sd @iE,stay _ rfl fun h=>I6 h.2⟩) (⟨nP,aU⟩)
  ·(try((repeat(revert hN;revert N;apply Pn.out));refine wk (tw @pG (tw @c0 (tw @c2 (tw @c7 (tw @c8 (tw @c9 (tw @iE (tw @hk (tw @Gc (tw @Gb (tw @Cc (tw @mV (tw @xK (tw @Gi (tw @gq (tw @sW (tw @hr @cJ.eq_1))))))))))))))))) ?_;(repeat(refine Pn.mk ?_;intro N hN))))
   exact gQ (sd (tw @pG (tw @c0 (tw @c2 (tw @c7 @c8))))) (⟨wT,Hn,sd @c9,sd @iE,stay _ rfl fun h=>hr h.1⟩) (⟨nP,aU⟩)
 ·have mU:k=I.length:=ae
  have Y4:∃ed:Nat,ed∈I/\Hn=(ed:Int)/\wT=(dh bs ed v:Int)/\0<gR bs f' ed v/\out (dh bs ed v)=out v-1:=by
   rcases Ll with⟨h1,h2⟩|h
   ·exfalso
    obtain⟨ed,he,hq⟩:=Qe
    obtain⟨z,hz,rfl⟩:=List.getElem_of_mem he
    refine h2 z ae ?_
    rw[List.getD_eq_getElem?_getD,List.getElem?_eq_getElem hz];exact hq
   ·exact h
  obtain⟨ed,sZ,rfl,rfl,hr,I6⟩:=Y4
  obtain⟨he,rW⟩:=hIm _ sZ
  (try((repeat(revert hN;revert N;apply Pn.out));refine wk (tw @pG (tw @c0 (tw @c2 (tw @c7 (tw @c8 (tw @c9 (tw @iE (tw @hk (tw @Gc (tw @Gb (tw @Cc (tw @mV (tw @xK (tw @Gi (tw @sW @cJ.eq_1))))))))))))))) ?_;(repeat(refine Pn.mk ?_;intro N hN))))
  refine .inr (aA _ _ _ _ _ (fun r σ1 hq=>?_) (Sn cnt bs f' Je ed v he X A F ⟨st_c.get,_⟩ nb (hN1.frame (fun i _=>nP i) (Nat.le_refl _)) aU))
  obtain⟨Xc,nu,Lq⟩:=hq
  (try dsimp only at nu Lq)
  refine hN _ _ ?_
  clear hN N
  (try((repeat(revert hN;revert N;apply Pn.out));refine wk (tw @pG (tw @c0 (tw @c2 (tw @c7 (tw @c8 @c9))))) ?_;(repeat(refine Pn.mk ?_;intro N hN))))
  refine⟨_,?_,dh bs ed v,wV bs f' ed v,rfl,qK ok he,ae,sd @Nat.zero_add,hW.step he rW hr I6,Xc,fun i hi hF=>by rw[Lq i hF,nP i,jn i hi hF],aU⟩
  omega
end Go.Proofs.YtiabgllilcfheaaGreat.V
