/- Assemblies: their form, and the place of a point. -/
import Derived.Test.YtgoelphibofcmaaGreatAwB
import Derived.Test.YtgoelphibofcmaaGreatAwC
import Derived.Test.YtgoelphibofcmaaGreatAwA
set_option linter.unusedVariables false
set_option linter.unusedSimpArgs false
set_option maxRecDepth 100000
set_option maxHeartbeats 16000000
namespace Go.Proofs.YtgoelphibofcmaaGreat.V
open Go.RowKit
attribute [local irreducible] eh wpOps fI Call
attribute [local go_sem] aM fj eJ fF fE da upd cu K.av cI AV.cells AV.cell rowOf rowsOf part ld rowAt bK bV dq dM gy bD cY dY fA eS dk dR cW cV dD dE bG bc cL bF cP cN dO dS dQ cK bL cX dN bE aO cR cz gx bm cH bH aY dp bl dr AV.undef bt bz dF dL dy dC cF dX eb cw dV dU cQ cU List.getD_cons_zero List.getD_cons_succ List.getD_nil List.all_cons List.all_nil Bool.and_true Bool.true_and Bool.and_self Bool.not_true Bool.not_false Option.map_some Option.map_none Option.bind_some Option.bind_none List.length_cons List.length_nil List.take_succ_cons List.take_zero List.take_nil List.drop_succ_cons List.drop_zero List.drop_nil List.head?_cons List.map_cons List.map_nil List.getElem?_cons_zero List.getElem?_cons_succ List.cons_append List.nil_append List.append_nil List.length_map List.set_cons_zero List.set_cons_succ Nat.reduceMul eq_self Int.toNat_natCast Int.natCast_nonneg and_self true_and and_true decide_true decide_false Bool.false_eq_true Nat.zero_add Nat.add_zero List.contains_cons List.contains_nil Bool.or_false Bool.false_or beq_self_eq_true Nat.reduceBEq ne_eq not_true_eq_false not_false_eq_true Id.mk.injEq false_and and_false Nat.reduceLT Int.reduceLE Int.reduceLT Int.reduceToNat Int.reduceNeg Int.reduceAdd Nat.le_refl List.length_append beq_true beq_false Bool.not_eq_eq_eq_not or_false false_or dK aj ar aH bd br bW aT aZ aU bf cJ bw
theorem fQ {l:List ah} {i:Nat} (h:i<l.length):(l.map aa)[i]? =some (aa (bj l i)):=getD_map aa h
def Fk (l:List ah) (i:Nat):Prop:=Ar (bj l i).aW=true/\iC (bj l i).aP 0 159=true/\(0<i->j6 (bj l (i-1)).aW (bj l i).aW=true)
structure jB (l:List ah):Prop where
 zb:l.length<=500
 ok:∀i,i<l.length->Fk l i
noncomputable def oG (l:List ah):Bool:=@decide (jB l) (Classical.propDecidable _)
theorem sF {l:List ah}:oG l=true↔jB l:=by simp[oG]
theorem jV {l:List ah} (h:¬jB l):false=oG l:=by simp[oG,h]
theorem x8 {l:List ah} (h:jB l):true=oG l:=by simp[oG,h]
theorem jB.Jf {l:List ah} (h:jB l):oh l:=by
 intro i j JZ hj
 induction j with
 |zero=>omega
 |succ j ih=>
  have h1:=(h.ok (j+1) hj).2.2 (by omega)
  rw[Nat.add_sub_cancel]at h1
  by_cases he:i=j
  ·subst he;exact h1
  ·exact kp (ih (by omega) (by omega)) h1
theorem jB.pt {l:List ah} (h:jB l) {i:Nat} (hi:i<l.length):Ar (bj l i).aW=true:=(h.ok i hi).1
theorem sV {p:aE} (h:Ar p=true):iB p.eZ/\iB p.eT:=by
 unfold Ar at h
 simp only[Bool.and_eq_true]at h
 have:=ej h.1;have:=ej h.2
 unfold iB;omega
theorem F7 (l:List ah):au Tryz.prog 159 [.di [.sl (l.map aa)]] (.bool (oG l)):=by
 refine au.body eG rfl fun hl n0=>?_
 clear hl
 by_cases h1:(500:Int)<(l.length:Int)
 ·(try((repeat(revert hN;revert N;apply Pn.out));refine wk @h1 ?_;(repeat(refine Pn.mk ?_;intro N hN))))
  exact aX (b:=false) (.inl rfl) (sd @Nat.zero_add) (jV fun h=>by have:=h.zb;omega)
 (try((repeat(revert hN;revert N;apply Pn.out));refine wk @h1 ?_;(repeat(refine Pn.mk ?_;intro N hN))))
 refine bh (fun n env st=>∃k:Nat,n=(l.length)-k/\k<=(l.length)/\env 3=.int .i64 (k:Int)/\(∀j:Nat,j<k->Fk l j)) (l.length) ⟨0,by omega,by omega,sl @Nat.zero_add,fun _ h=>absurd h (Nat.not_lt_zero _)⟩ ?_
 rintro n_a env_a st_a ⟨k,rfl,ale,a3,lN⟩ dW
 have a0:=dW 0 (by kernel_rfl)
 simp only[go_sem, ↓reduceIte,Nat.reduceEqDiff,Nat.reduceAdd,Nat.reduceSub,Nat.reduceLeDiff,reduceCtorEq]at a0
 clear dW
 by_cases hk:(k:Int)<(l.length:Int)
 ·have cG:∀{e:Env},(e 3=.int .i64 (IntKind.i64.wrap ((k:Int)+1)))->(Fk l k)->∃m0,m0<(l.length)-k/\∃k:Nat,m0=(l.length)-k/\k<=(l.length)/\e 3=.int .i64 (k:Int)/\(∀j:Nat,j<k->Fk l j):=fun x1 x2=>⟨_,by omega,k+1,rfl,by omega,(by rw[x1,aC (by omega)]),(all_succ lN x2)⟩
  have fw:k<l.length:=by omega
  have eQ:=fQ fw
  have lF:(¬Fk l k)->¬jB l:=fun h hp=>h (hp.ok k fw)
  have hp:=qz (bj l k).aW
  have ht:=ki (bj l k).aP 0 159
  cases b1:Ar (bj l k).aW
  ·rw[b1]at hp
   (repeat(first|((repeat(revert hN;revert N;apply Pn.out));refine wk (tw @a3 (tw @a0 (tw @hk (tw @eQ (tw @aa.eq_1 @ai.eq_1))))) ?_;(repeat(refine Pn.mk ?_;intro N hN)))|((try apply Or.inl);refine⟨_,au.x (hp) (sd (tw @a3 (tw @a0 (tw @hk (tw @eQ (tw @aa.eq_1 @ai.eq_1)))))),?_⟩;refine hN _ _ ?_;clear hN N)))
   exact aX (b:=false) (.inl rfl) (sd @Nat.zero_add) (jV (lF fun h=>by rw[Fk,b1]at h;cases h.1))
  rw[b1]at hp
  cases b2:iC (bj l k).aP 0 159
  ·rw[b2]at ht
   (repeat(first|((repeat(revert hN;revert N;apply Pn.out));refine wk (tw @a3 (tw @a0 (tw @hk (tw @eQ (tw @aa.eq_1 @ai.eq_1))))) ?_;(repeat(refine Pn.mk ?_;intro N hN)))|((try apply Or.inl);refine⟨_,au.x (hp) (sd (tw @a3 (tw @a0 (tw @hk (tw @eQ (tw @aa.eq_1 @ai.eq_1)))))),?_⟩;refine hN _ _ ?_;clear hN N)|((try apply Or.inl);refine⟨_,au.x (ht) (sd (tw @a3 (tw @a0 (tw @hk (tw @eQ (tw @aa.eq_1 @ai.eq_1)))))),?_⟩;refine hN _ _ ?_;clear hN N)))
   exact aX (b:=false) (.inl rfl) (sd @Nat.zero_add) (jV (lF fun h=>by rw[Fk,b2]at h;cases h.2.1))
  rw[b2]at ht
  by_cases h0:(0:Int)<(k:Int)
  ·have vH:=fQ (l:=l) (i:=k-1) (by omega)
   have hw:IntKind.i64.wrap ((k:Int)-1)=((k-1:Nat):Int):=by rw[bQ (by have:=fw;omega)];omega
   have hq:=nW (bj l (k-1)).aW (bj l k).aW
   cases b3:j6 (bj l (k-1)).aW (bj l k).aW
   ·rw[b3]at hq
    (repeat(first|((repeat(revert hN;revert N;apply Pn.out));refine wk (tw @a3 (tw @a0 (tw @hk (tw @eQ (tw @vH (tw @h0 (tw @hw (tw @aa.eq_1 @ai.eq_1)))))))) ?_;(repeat(refine Pn.mk ?_;intro N hN)))|((try apply Or.inl);refine⟨_,au.x (hp) (sd (tw @a3 (tw @a0 (tw @hk (tw @eQ (tw @vH (tw @h0 (tw @hw (tw @aa.eq_1 @ai.eq_1))))))))),?_⟩;refine hN _ _ ?_;clear hN N)|((try apply Or.inl);refine⟨_,au.x (ht) (sd (tw @a3 (tw @a0 (tw @hk (tw @eQ (tw @vH (tw @h0 (tw @hw (tw @aa.eq_1 @ai.eq_1))))))))),?_⟩;refine hN _ _ ?_;clear hN N)|((try apply Or.inl);refine⟨_,au.x (hq) (sd (tw @a3 (tw @a0 (tw @hk (tw @eQ (tw @vH (tw @h0 (tw @hw (tw @aa.eq_1 @ai.eq_1))))))))),?_⟩;refine hN _ _ ?_;clear hN N)))
    exact aX (b:=false) (.inl rfl) (sd @Nat.zero_add) (jV (lF fun h=>by have:=h.2.2 (by omega);rw[b3]at this;cases this))
   ·rw[b3]at hq
    (repeat(first|((repeat(revert hN;revert N;apply Pn.out));refine wk (tw @a3 (tw @a0 (tw @hk (tw @eQ (tw @vH (tw @h0 (tw @hw (tw @aa.eq_1 @ai.eq_1)))))))) ?_;(repeat(refine Pn.mk ?_;intro N hN)))|((try apply Or.inl);refine⟨_,au.x (hp) (sd (tw @a3 (tw @a0 (tw @hk (tw @eQ (tw @vH (tw @h0 (tw @hw (tw @aa.eq_1 @ai.eq_1))))))))),?_⟩;refine hN _ _ ?_;clear hN N)|((try apply Or.inl);refine⟨_,au.x (ht) (sd (tw @a3 (tw @a0 (tw @hk (tw @eQ (tw @vH (tw @h0 (tw @hw (tw @aa.eq_1 @ai.eq_1))))))))),?_⟩;refine hN _ _ ?_;clear hN N)|((try apply Or.inl);refine⟨_,au.x (hq) (sd (tw @a3 (tw @a0 (tw @hk (tw @eQ (tw @vH (tw @h0 (tw @hw (tw @aa.eq_1 @ai.eq_1))))))))),?_⟩;refine hN _ _ ?_;clear hN N)))
    exact cG (sd (tw @a3 @a0)) (⟨b1,b2,fun _=>b3⟩)
  ·have w8:k=0:=by omega
   (repeat(first|((repeat(revert hN;revert N;apply Pn.out));refine wk (tw @a3 (tw @a0 (tw @hk (tw @eQ (tw @h0 (tw @aa.eq_1 @ai.eq_1)))))) ?_;(repeat(refine Pn.mk ?_;intro N hN)))|((try apply Or.inl);refine⟨_,au.x (hp) (sd (tw @a3 (tw @a0 (tw @hk (tw @eQ (tw @h0 (tw @aa.eq_1 @ai.eq_1))))))),?_⟩;refine hN _ _ ?_;clear hN N)|((try apply Or.inl);refine⟨_,au.x (ht) (sd (tw @a3 (tw @a0 (tw @hk (tw @eQ (tw @h0 (tw @aa.eq_1 @ai.eq_1))))))),?_⟩;refine hN _ _ ?_;clear hN N)))
   exact cG (sd (tw @a3 @a0)) (⟨b1,b2,fun h=>by omega⟩)
 ·(try((repeat(revert hN;revert N;apply Pn.out));refine wk (tw @a3 (tw @a0 @hk)) ?_;(repeat(refine Pn.mk ?_;intro N hN))))
  exact aX (b:=true) (.inl rfl) (sd @Nat.zero_add) (x8 ⟨by omega,fun i hi=>lN i (by omega)⟩)
theorem xW (a b:Int):au Tryz.prog 178 [.int .i64 a,.int .i64 b] (.int .i64 (xk a b)):=by
 have nan:∀x:Int,au Tryz.prog 208 [.int .i64 x] (.bool false):=fun x=>by
  refine au.body eG rfl fun hl n0=>?_
  clear hl
  have e:decide (x=x)=true:=decide_eq_true rfl
  (try((repeat(revert hN;revert N;apply Pn.out));refine wk @e ?_;(repeat(refine Pn.mk ?_;intro N hN))))
  exact aX (b:=false) (.inl rfl) (sd @Nat.zero_add) rfl
 refine au.body eG rfl fun hl n0=>?_
 clear hl
 have ha:=nan a
 have hb:=nan b
 by_cases h1:a<b
 ·(repeat(first|((repeat(revert hN;revert N;apply Pn.out));refine wk @h1 ?_;(repeat(refine Pn.mk ?_;intro N hN)))|((try apply Or.inl);refine⟨_,au.x (ha) (sd @h1),?_⟩;refine hN _ _ ?_;clear hN N)|((try apply Or.inl);refine⟨_,au.x (hb) (sd @h1),?_⟩;refine hN _ _ ?_;clear hN N)))
  exact cm (b:=-1) (.inl rfl) (sd @Nat.zero_add) (by rw[xk,if_pos h1])
 by_cases h2:b<a
 ·(repeat(first|((repeat(revert hN;revert N;apply Pn.out));refine wk (tw @h1 @h2) ?_;(repeat(refine Pn.mk ?_;intro N hN)))|((try apply Or.inl);refine⟨_,au.x (ha) (sd (tw @h1 @h2)),?_⟩;refine hN _ _ ?_;clear hN N)|((try apply Or.inl);refine⟨_,au.x (hb) (sd (tw @h1 @h2)),?_⟩;refine hN _ _ ?_;clear hN N)))
  exact cm (b:=1) (.inl rfl) (sd @Nat.zero_add) (by rw[xk,if_neg h1,if_pos h2])
 ·(repeat(first|((repeat(revert hN;revert N;apply Pn.out));refine wk (tw @h1 @h2) ?_;(repeat(refine Pn.mk ?_;intro N hN)))|((try apply Or.inl);refine⟨_,au.x (ha) (sd (tw @h1 @h2)),?_⟩;refine hN _ _ ?_;clear hN N)|((try apply Or.inl);refine⟨_,au.x (hb) (sd (tw @h1 @h2)),?_⟩;refine hN _ _ ?_;clear hN N)))
  exact cm (b:=0) (.inl rfl) (sd @Nat.zero_add) (by rw[xk,if_neg h1,if_neg h2])
def Ha:List Int->Int
 |[]=>0
 |a::r=>if a=0 then Ha r else a
theorem I0:∀{l:List Int} {k:Nat} (hk:k<l.length),l[k]≠0->(∀j (h:j<l.length),j<k->l[j]=0)->Ha l=l[k]
 |a::r,0,_,h,_=>by
  have h':a≠0:=h
  rw[Ha,if_neg h'];rfl
 |a::r,k+1,hk,h,h0=>by
  have h':a=0:=h0 0 (by simp) (by omega)
  rw[Ha,if_pos h',I0 (k:=k) (by simpa using hk) h fun j hj yf=>h0 (j+1) (by simpa using hj) (by omega)];rfl
theorem BU:∀{l:List Int},(∀j (h:j<l.length),l[j]=0)->Ha l=0
 |[],_=>rfl
 |a::r,h=>by
  have h':a=0:=h 0 (by simp)
  rw[Ha,if_pos h',BU fun j hj=>h (j+1) (by simpa using hj)]
theorem Lo (a b:Int):Ha [a,b]=QL a b:=by
 unfold QL
 by_cases h:a=0
 ·rw[Ha,if_pos h,if_pos h,Ha,Ha];split<;>simp_all
 ·rw[Ha,if_neg h,if_neg h]
theorem Km (l:List Int):au Tryz.prog 177 [.sl (l.map bu)] (.int .i64 (Ha l)):=by
 refine au.body eG rfl fun hl n0=>?_
 have hlen:l.length<=9223372036854775807:=by simpa using(hl (.sl (l.map bu)) (by simp)).len
 clear hl
 (try((repeat(revert hN;revert N;apply Pn.out));refine wk @Nat.zero_add ?_;(repeat(refine Pn.mk ?_;intro N hN))))
 refine bh (fun n env st=>∃k:Nat,n=(l.length)-k/\k<=(l.length)/\env 8=.int .i64 (k:Int)/\(∀j:Nat,j<k->∀h:j<l.length,l[j]=0)) (l.length) ⟨0,by omega,by omega,sl @Nat.zero_add,fun _ h=>absurd h (Nat.not_lt_zero _)⟩ ?_
 rintro n_a env_a st_a ⟨k,rfl,ale,a8,lN⟩ dW
 have a3:=dW 3 (by kernel_rfl);have a6:=dW 6 (by kernel_rfl);have a7:=dW 7 (by kernel_rfl)
 simp only[go_sem, ↓reduceIte,Nat.reduceEqDiff,Nat.reduceAdd,Nat.reduceSub,Nat.reduceLeDiff,reduceCtorEq]at a3 a6 a7
 clear dW
 by_cases hk:(k:Int)<(l.length:Int)
 ·have cG:∀{e:Env},(e 8=.int .i64 (IntKind.i64.wrap ((k:Int)+1)))->(∀h:k<l.length,l[k]=0)->∃m0,m0<(l.length)-k/\∃k:Nat,m0=(l.length)-k/\k<=(l.length)/\e 8=.int .i64 (k:Int)/\(∀j:Nat,j<k->∀h:j<l.length,l[j]=0):=fun x1 x2=>⟨_,by omega,k+1,rfl,by omega,(by rw[x1,aC (by omega)]),(all_succ lN x2)⟩
  have fw:k<l.length:=by omega
  have eQ:(l.map bu)[k]? =some (bu l[k]):=by simp[fw]
  generalize hv:l[k]=v at eQ
  by_cases h0:v=0
  ·have e:decide (v=0)=true:=decide_eq_true h0
   (try((repeat(revert hN;revert N;apply Pn.out));refine wk (tw @a8 (tw @a3 (tw @a6 (tw @a7 (tw @e (tw @hk (tw @eQ @bu.eq_1))))))) ?_;(repeat(refine Pn.mk ?_;intro N hN))))
   exact cG (sd (tw @a8 (tw @a3 (tw @a6 @a7)))) (fun _=>hv.trans h0)
  ·have e:decide (v=0)=false:=decide_eq_false h0
   (try((repeat(revert hN;revert N;apply Pn.out));refine wk (tw @a8 (tw @a3 (tw @a6 (tw @a7 (tw @e (tw @hk (tw @eQ @bu.eq_1))))))) ?_;(repeat(refine Pn.mk ?_;intro N hN))))
   exact cm (b:=v) (.inl rfl) (sd @Nat.zero_add) (by rw[I0 fw (by rw[hv];exact h0) fun j h hj=>lN j hj h,hv])
 ·(try((repeat(revert hN;revert N;apply Pn.out));refine wk (tw @a8 (tw @a3 (tw @a6 (tw @a7 @hk)))) ?_;(repeat(refine Pn.mk ?_;intro N hN))))
  exact cm (b:=0) (.inl rfl) (sd @Nat.zero_add) (by rw[BU fun j h=>lN j (by omega) h])
section
attribute [local go_sem] List.drop_zero List.take_succ_cons List.take_zero List.length_cons List.length_nil im zf oH
theorem ny (a b:aE):au Tryz.prog 130 [.agg (ai a),.agg (ai b)] (.int .i64 (tX a b)):=by
 refine au.body eG rfl fun hl n0=>?_
 clear hl
 have h1:=xW a.eT b.eT
 have h2:=xW a.eZ b.eZ
 have h3:=Km [xk a.eT b.eT,xk a.eZ b.eZ]
 rw[Lo,List.map_cons,List.map_cons,List.map_nil,bu,bu]at h3
 (repeat(first|((repeat(revert hN;revert N;apply Pn.out));refine wk @ai.eq_1 ?_;(repeat(refine Pn.mk ?_;intro N hN)))|((try apply Or.inl);refine⟨_,au.x (h1) (sd @ai.eq_1),?_⟩;refine hN _ _ ?_;clear hN N)|((try apply Or.inl);refine⟨_,au.x (h2) (sd @ai.eq_1),?_⟩;refine hN _ _ ?_;clear hN N)|((try apply Or.inl);refine⟨_,au.x (h3) (sd @ai.eq_1),?_⟩;refine hN _ _ ?_;clear hN N)))
 exact cm (b:=tX a b) (.inl rfl) (by simp only[go_sem, ↓reduceIte,Nat.reduceEqDiff,Nat.reduceAdd,Nat.reduceSub,Nat.reduceLeDiff,reduceCtorEq,tX]) rfl
end
theorem KX (a b:aE):au Tryz.prog 201 [.agg (ai a),.agg (ai b)] (.bool (j6 a b)):=by
 refine au.body eG rfl fun hl n0=>?_
 clear hl
 have h1:=ny a b
 rw[ai,ai]at h1
 (repeat(first|((repeat(revert hN;revert N;apply Pn.out));refine wk @ai.eq_1 ?_;(repeat(refine Pn.mk ?_;intro N hN)))|((try apply Or.inl);refine⟨_,au.x (h1) (sd @ai.eq_1),?_⟩;refine hN _ _ ?_;clear hN N)))
 exact aX (b:=decide (tX a b<0)) (.inl rfl) (sd @Nat.zero_add) (y8 a b)
theorem j9 (t:ah) (p:aE):au Tryz.prog 143 [.agg (aa t),.agg (ai p)] (.int .i64 (tX t.aW p)):=by
 refine au.body eG rfl fun hl n0=>?_
 clear hl
 have h1:=ny t.aW p
 rw[ai,ai]at h1
 (repeat(first|((repeat(revert hN;revert N;apply Pn.out));refine wk (tw @aa.eq_1 @ai.eq_1) ?_;(repeat(refine Pn.mk ?_;intro N hN)))|((try apply Or.inl);refine⟨_,au.x (h1) (sd (tw @aa.eq_1 @ai.eq_1)),?_⟩;refine hN _ _ ?_;clear hN N)))
 exact cm (b:=tX t.aW p) (.inl rfl) (sd @Nat.zero_add) rfl
theorem sH (l:List ah):au Tryz.prog 165 [.agg [.sl (l.map aa)]] (.bool (oG l)):=by
 refine au.body eG rfl fun hl n0=>?_
 have hlen:l.length<=9223372036854775807:=by
  have h1:=(hl (.agg [.sl (l.map aa)]) (by simp)).MG (a:=.sl (l.map aa)) (by simp)
  simpa using h1.len
 clear hl
 (try((repeat(revert hN;revert N;apply Pn.out));refine wk @Nat.zero_add ?_;(repeat(refine Pn.mk ?_;intro N hN))))
 refine bh (fun n env st=>∃k:Nat,n=(l.length)-k/\k<=(l.length)/\env 8=.int .i64 (k:Int)/\st.get ⟨165000000,n0⟩=some ⟨true,1,[[.sl (l.map aa)]]⟩/\(∀j:Nat,j<k->Fk l j)) (l.length) ⟨0,by omega,by omega,sl @Nat.zero_add,sl @Nat.zero_add,fun _ h=>absurd h (Nat.not_lt_zero _)⟩ ?_
 rintro n_a env_a st_a ⟨k,rfl,ale,a8,ag0,lN⟩ dW
 have a1:=dW 1 (by kernel_rfl);have a6:=dW 6 (by kernel_rfl);have a7:=dW 7 (by kernel_rfl)
 simp only[go_sem, ↓reduceIte,Nat.reduceEqDiff,Nat.reduceAdd,Nat.reduceSub,Nat.reduceLeDiff,reduceCtorEq]at a1 a6 a7
 clear dW
 by_cases hk:(k:Int)<(l.length:Int)
 ·have cG:∀{e:Env} {gg:Rows},(e 8=.int .i64 (IntKind.i64.wrap ((k:Int)+1)))->(gg ⟨165000000,n0⟩=some ⟨true,1,[[.sl (l.map aa)]]⟩)->(Fk l k)->∃m0,m0<(l.length)-k/\∃k:Nat,m0=(l.length)-k/\k<=(l.length)/\e 8=.int .i64 (k:Int)/\gg ⟨165000000,n0⟩=some ⟨true,1,[[.sl (l.map aa)]]⟩/\(∀j:Nat,j<k->Fk l j):=fun x1 x2 x3=>⟨_,by omega,k+1,rfl,by omega,(by rw[x1,aC (by omega)]),x2,(all_succ lN x3)⟩
  have fw:k<l.length:=by omega
  have eQ:=fQ fw
  have lF:(¬Fk l k)->¬jB l:=fun h hp=>h (hp.ok k fw)
  have hp:=mz (bj l k).aW
  have ht:=yn (bj l k).aP 160 (by omega) (by omega)
  rw[show(160:Int)-1=159 from rfl]at ht
  cases b1:Ar (bj l k).aW
  ·rw[b1]at hp
   (repeat(first|((repeat(revert hN;revert N;apply Pn.out));refine wk (tw @a8 (tw @ag0 (tw @a1 (tw @a6 (tw @a7 (tw @hk (tw @eQ (tw @aa.eq_1 @ai.eq_1)))))))) ?_;(repeat(refine Pn.mk ?_;intro N hN)))|((try apply Or.inl);refine⟨_,au.x (hp) (sd (tw @a8 (tw @ag0 (tw @a1 (tw @a6 (tw @a7 (tw @hk (tw @eQ (tw @aa.eq_1 @ai.eq_1))))))))),?_⟩;refine hN _ _ ?_;clear hN N)))
   exact aX (b:=false) (.inl rfl) (sd @Nat.zero_add) (jV (lF fun h=>by rw[Fk,b1]at h;cases h.1))
  rw[b1]at hp
  cases b2:iC (bj l k).aP 0 159
  ·rw[b2]at ht
   (repeat(first|((repeat(revert hN;revert N;apply Pn.out));refine wk (tw @a8 (tw @ag0 (tw @a1 (tw @a6 (tw @a7 (tw @hk (tw @eQ (tw @aa.eq_1 @ai.eq_1)))))))) ?_;(repeat(refine Pn.mk ?_;intro N hN)))|((try apply Or.inl);refine⟨_,au.x (hp) (sd (tw @a8 (tw @ag0 (tw @a1 (tw @a6 (tw @a7 (tw @hk (tw @eQ (tw @aa.eq_1 @ai.eq_1))))))))),?_⟩;refine hN _ _ ?_;clear hN N)|((try apply Or.inl);refine⟨_,au.x (ht) (sd (tw @a8 (tw @ag0 (tw @a1 (tw @a6 (tw @a7 (tw @hk (tw @eQ (tw @aa.eq_1 @ai.eq_1))))))))),?_⟩;refine hN _ _ ?_;clear hN N)))
   exact aX (b:=false) (.inl rfl) (sd @Nat.zero_add) (jV (lF fun h=>by rw[Fk,b2]at h;cases h.2.1))
  rw[b2]at ht
  by_cases h0:(0:Int)<(k:Int)
  ·have vH:=fQ (l:=l) (i:=k-1) (by omega)
   have hw:IntKind.i64.wrap ((k:Int)-1)=((k-1:Nat):Int):=by rw[bQ (by omega)];omega
   have hq:=KX (bj l (k-1)).aW (bj l k).aW
   cases b3:j6 (bj l (k-1)).aW (bj l k).aW
   ·rw[b3]at hq
    (repeat(first|((repeat(revert hN;revert N;apply Pn.out));refine wk (tw @a8 (tw @ag0 (tw @a1 (tw @a6 (tw @a7 (tw @hk (tw @eQ (tw @vH (tw @h0 (tw @hw (tw @aa.eq_1 @ai.eq_1))))))))))) ?_;(repeat(refine Pn.mk ?_;intro N hN)))|((try apply Or.inl);refine⟨_,au.x (hp) (sd (tw @a8 (tw @ag0 (tw @a1 (tw @a6 (tw @a7 (tw @hk (tw @eQ (tw @vH (tw @h0 (tw @hw (tw @aa.eq_1 @ai.eq_1)))))))))))),?_⟩;refine hN _ _ ?_;clear hN N)|((try apply Or.inl);refine⟨_,au.x (ht) (sd (tw @a8 (tw @ag0 (tw @a1 (tw @a6 (tw @a7 (tw @hk (tw @eQ (tw @vH (tw @h0 (tw @hw (tw @aa.eq_1 @ai.eq_1)))))))))))),?_⟩;refine hN _ _ ?_;clear hN N)|((try apply Or.inl);refine⟨_,au.x (hq) (sd (tw @a8 (tw @ag0 (tw @a1 (tw @a6 (tw @a7 (tw @hk (tw @eQ (tw @vH (tw @h0 (tw @hw (tw @aa.eq_1 @ai.eq_1)))))))))))),?_⟩;refine hN _ _ ?_;clear hN N)))
    exact aX (b:=false) (.inl rfl) (sd @Nat.zero_add) (jV (lF fun h=>by have:=h.2.2 (by omega);rw[b3]at this;cases this))
   ·rw[b3]at hq
    (repeat(first|((repeat(revert hN;revert N;apply Pn.out));refine wk (tw @a8 (tw @ag0 (tw @a1 (tw @a6 (tw @a7 (tw @hk (tw @eQ (tw @vH (tw @h0 (tw @hw (tw @aa.eq_1 @ai.eq_1))))))))))) ?_;(repeat(refine Pn.mk ?_;intro N hN)))|((try apply Or.inl);refine⟨_,au.x (hp) (sd (tw @a8 (tw @ag0 (tw @a1 (tw @a6 (tw @a7 (tw @hk (tw @eQ (tw @vH (tw @h0 (tw @hw (tw @aa.eq_1 @ai.eq_1)))))))))))),?_⟩;refine hN _ _ ?_;clear hN N)|((try apply Or.inl);refine⟨_,au.x (ht) (sd (tw @a8 (tw @ag0 (tw @a1 (tw @a6 (tw @a7 (tw @hk (tw @eQ (tw @vH (tw @h0 (tw @hw (tw @aa.eq_1 @ai.eq_1)))))))))))),?_⟩;refine hN _ _ ?_;clear hN N)|((try apply Or.inl);refine⟨_,au.x (hq) (sd (tw @a8 (tw @ag0 (tw @a1 (tw @a6 (tw @a7 (tw @hk (tw @eQ (tw @vH (tw @h0 (tw @hw (tw @aa.eq_1 @ai.eq_1)))))))))))),?_⟩;refine hN _ _ ?_;clear hN N)))
    refine cG ?_ ?_ (⟨b1,b2,fun _=>b3⟩)
    all_goals simp only[go_sem, ↓reduceIte,Nat.reduceEqDiff,Nat.reduceAdd,Nat.reduceSub,Nat.reduceLeDiff,reduceCtorEq,a8,ag0,a1,a6,a7]
  ·have w8:k=0:=by omega
   (repeat(first|((repeat(revert hN;revert N;apply Pn.out));refine wk (tw @a8 (tw @ag0 (tw @a1 (tw @a6 (tw @a7 (tw @hk (tw @eQ (tw @h0 (tw @aa.eq_1 @ai.eq_1))))))))) ?_;(repeat(refine Pn.mk ?_;intro N hN)))|((try apply Or.inl);refine⟨_,au.x (hp) (sd (tw @a8 (tw @ag0 (tw @a1 (tw @a6 (tw @a7 (tw @hk (tw @eQ (tw @h0 (tw @aa.eq_1 @ai.eq_1)))))))))),?_⟩;refine hN _ _ ?_;clear hN N)|((try apply Or.inl);refine⟨_,au.x (ht) (sd (tw @a8 (tw @ag0 (tw @a1 (tw @a6 (tw @a7 (tw @hk (tw @eQ (tw @h0 (tw @aa.eq_1 @ai.eq_1)))))))))),?_⟩;refine hN _ _ ?_;clear hN N)))
   refine cG ?_ ?_ (⟨b1,b2,fun h=>by omega⟩)
   all_goals simp only[go_sem, ↓reduceIte,Nat.reduceEqDiff,Nat.reduceAdd,Nat.reduceSub,Nat.reduceLeDiff,reduceCtorEq,a8,ag0,a1,a6,a7]
 ·(try((repeat(revert hN;revert N;apply Pn.out));refine wk (tw @a8 (tw @ag0 (tw @a1 (tw @a6 (tw @a7 @hk))))) ?_;(repeat(refine Pn.mk ?_;intro N hN))))
  refine aX (b:=decide ((l.length:Int)<=500)) (.inl rfl) (sd @Nat.zero_add) ?_
  by_cases h5:(l.length:Int)<=500
  ·rw[decide_eq_true h5];exact x8 ⟨by omega,fun i hi=>lN i (by omega)⟩
  ·rw[decide_eq_false h5];exact jV fun h=>by have:=h.zb;omega
end Go.Proofs.YtgoelphibofcmaaGreat.V

namespace Go.Proofs.YtgoelphibofcmaaGreat.V
open Go.RowKit
attribute [local irreducible] eh wpOps fI Call
attribute [local go_sem] aM fj eJ fF fE da upd cu K.av cI AV.cells AV.cell rowOf rowsOf part ld rowAt bK bV dq dM gy bD cY dY fA eS dk dR cW cV dD dE bG bc cL bF cP cN dO dS dQ cK bL cX dN bE aO cR cz gx bm cH bH aY dp bl dr AV.undef bt bz dF dL dy dC cF dX eb cw dV dU cQ cU List.getD_cons_zero List.getD_cons_succ List.getD_nil List.all_cons List.all_nil Bool.and_true Bool.true_and Bool.and_self Bool.not_true Bool.not_false Option.map_some Option.map_none Option.bind_some Option.bind_none List.length_cons List.length_nil List.take_succ_cons List.take_zero List.take_nil List.drop_succ_cons List.drop_zero List.drop_nil List.head?_cons List.map_cons List.map_nil List.getElem?_cons_zero List.getElem?_cons_succ List.cons_append List.nil_append List.append_nil List.length_map List.set_cons_zero List.set_cons_succ Nat.reduceMul eq_self Int.toNat_natCast Int.natCast_nonneg and_self true_and and_true decide_true decide_false Bool.false_eq_true Nat.zero_add Nat.add_zero List.contains_cons List.contains_nil Bool.or_false Bool.false_or beq_self_eq_true Nat.reduceBEq ne_eq not_true_eq_false not_false_eq_true Id.mk.injEq false_and and_false Nat.reduceLT Int.reduceLE Int.reduceLT Int.reduceToNat Int.reduceNeg Int.reduceAdd Nat.le_refl List.length_append beq_true beq_false Bool.not_eq_eq_eq_not or_false false_or dK aj ar aH bd br bW aT aZ aU bf cJ bw
theorem so (cells:List ah) (p:aE) (hR:oh cells) (FK:cells.length<=1048576):
  au Tryz.prog 142 [.sl (cells.map aa),.agg (ai p),.fn 143 []] (.iO [.int .i64 (iJ cells p),.bool (decide (iJ cells p<cells.length)&&decide ((bj cells (iJ cells p)).aW=p))]):=by
 refine au.body eG rfl fun hl n0=>?_
 clear hl
 (try((repeat(revert hN;revert N;apply Pn.out));refine wk @ai.eq_1 ?_;(repeat(refine Pn.mk ?_;intro N hN))))
 refine bh (fun n env st=>∃i j:Nat,n=j-i/\i<=j/\j<=cells.length/\(∀x,x<i->j6 (bj cells x).aW p=true)/\(∀x,j<=x->x<cells.length->j6 (bj cells x).aW p=false)/\env 9=.int .i64 i/\env 10=.int .i64 j/\st.get ⟨142000000,n0⟩=some ⟨true,2,[ai p]⟩) cells.length ⟨0,cells.length,by omega,by omega,by omega,fun x h=>by omega,fun x h1 h2=>by omega,by(simp only[go_sem, ↓reduceIte,Nat.reduceEqDiff,Nat.reduceAdd,Nat.reduceSub,Nat.reduceLeDiff,reduceCtorEq])<;>rfl,sd @Nat.zero_add,sd @ai.eq_1⟩ ?_
 rintro n env st ⟨i,j,rfl,JZ,hj,kh,Cq,h9,h10,hg⟩ fr
 have h0:=fr 0 (by kernel_rfl)
 have h2:=fr 2 (by kernel_rfl)
 have h4:=fr 4 (by kernel_rfl)
 have h8:=fr 8 (by kernel_rfl)
 simp only[go_sem, ↓reduceIte,Nat.reduceEqDiff,Nat.reduceAdd,Nat.reduceSub,Nat.reduceLeDiff,reduceCtorEq]at h0 h2 h4 h8
 clear fr
 by_cases eo:(i:Int)<(j:Int)
 ·have e1:IntKind.i64.wrap ((i:Int)+j)=((i+j:Nat):Int):=by rw[bQ (by omega)];rfl
  have hm:(i+j) / 2<cells.length:=by omega
  have fu:(cells.map aa)[(i+j) / 2]? =some (aa (bj cells ((i+j) / 2))):=fQ (l:=cells) hm
  have e2:IntKind.i64.wrap ((IntKind.u64.wrap ((i+j:Nat):Int)).fdiv (2 ^ min 1 IntKind.u64.bits))=(((i+j) / 2:Nat):Int):=by
   have h:IntKind.u64.wrap ((i+j:Nat):Int)=((i+j:Nat):Int):=by rw[IntKind.wrap_u64];omega
   rw[h,show min 1 IntKind.u64.bits=1 from rfl,show((2:Int) ^ 1)=2 from rfl,Int.fdiv_eq_ediv_of_nonneg _ (by omega)]
   rw[bQ (by omega)];omega
  have Pw:IntKind.i64.wrap ((IntKind.u64.wrap ((i+j:Nat):Int)).fdiv (2 ^ min 1 64))=(((i+j) / 2:Nat):Int):=e2
  have e3:=aC (k:=(i+j) / 2) (by omega)
  by_cases hc:tX (bj cells ((i+j) / 2)).aW p<0
  ·have hl:j6 (bj cells ((i+j) / 2)).aW p=true:=by rw[<-y8];simpa using hc
   (repeat(first|((repeat(revert hN;revert N;apply Pn.out));refine wk (tw @h0 (tw @h2 (tw @h4 (tw @h8 (tw @h9 (tw @h10 (tw @hg (tw @eo (tw @e1 (tw @e2 (tw @Pw (tw @fu (tw @hc (tw @aa.eq_1 @ai.eq_1)))))))))))))) ?_;(repeat(refine Pn.mk ?_;intro N hN)))|((try apply Or.inl);refine⟨_,au.x (j9 (bj cells ((i+j) / 2)) p) (sd (tw @h0 (tw @h2 (tw @h4 (tw @h8 (tw @h9 (tw @h10 (tw @hg (tw @eo (tw @e1 (tw @e2 (tw @Pw (tw @fu (tw @hc (tw @aa.eq_1 @ai.eq_1))))))))))))))),?_⟩;refine hN _ _ ?_;clear hN N)))
   refine⟨_,?_,(i+j) / 2+1,j,rfl,by omega,hj,fun x hx=>?_,Cq,sd @e3,sd @h10,sd (tw @hg @ai.eq_1)⟩
   ·omega
   ·by_cases NS:x=(i+j) / 2
    ·subst NS;exact hl
    ·exact kp (hR x _ (by omega) hm) hl
  ·have hl:j6 (bj cells ((i+j) / 2)).aW p=false:=by rw[<-y8];simpa using hc
   (repeat(first|((repeat(revert hN;revert N;apply Pn.out));refine wk (tw @h0 (tw @h2 (tw @h4 (tw @h8 (tw @h9 (tw @h10 (tw @hg (tw @eo (tw @e1 (tw @e2 (tw @Pw (tw @fu (tw @hc (tw @aa.eq_1 @ai.eq_1)))))))))))))) ?_;(repeat(refine Pn.mk ?_;intro N hN)))|((try apply Or.inl);refine⟨_,au.x (j9 (bj cells ((i+j) / 2)) p) (sd (tw @h0 (tw @h2 (tw @h4 (tw @h8 (tw @h9 (tw @h10 (tw @hg (tw @eo (tw @e1 (tw @e2 (tw @Pw (tw @fu (tw @hc (tw @aa.eq_1 @ai.eq_1))))))))))))))),?_⟩;refine hN _ _ ?_;clear hN N)))
   refine⟨_,?_,i,(i+j) / 2,rfl,by omega,by omega,kh,fun x h1 h2=>?_,sd @h9,sd (tw @e2 @Pw),sd (tw @hg @ai.eq_1)⟩
   ·omega
   ·by_cases NS:x=(i+j) / 2
    ·subst NS;exact hl
    ·rw[Bool.eq_false_iff]
     intro hc
     have h3:=kp (hR ((i+j) / 2) x (by omega) h2) hc
     rw[hl]at h3;cases h3
 ·have Nx:i=j:=by omega
  subst Nx
  have vL:iJ cells p=i:=zE hj kh fun h=>Cq i (Nat.le_refl _) h
  by_cases hn:(i:Int)<(cells.length:Int)
  ·have fB:i<cells.length:=by omega
   have fu:(cells.map aa)[i]? =some (aa (bj cells i)):=fQ (l:=cells) fB
   have hd:decide (tX (bj cells i).aW p=0)=decide ((bj cells i).aW=p):=by simp only[Fv]
   (repeat(first|((repeat(revert hN;revert N;apply Pn.out));refine wk (tw @h0 (tw @h2 (tw @h4 (tw @h8 (tw @h9 (tw @h10 (tw @hg (tw @eo (tw @hn (tw @fu (tw @aa.eq_1 @ai.eq_1))))))))))) ?_;(repeat(refine Pn.mk ?_;intro N hN)))|((try apply Or.inl);refine⟨_,au.x (j9 (bj cells i) p) (sd (tw @h0 (tw @h2 (tw @h4 (tw @h8 (tw @h9 (tw @h10 (tw @hg (tw @eo (tw @hn (tw @fu (tw @aa.eq_1 @ai.eq_1)))))))))))),?_⟩;refine hN _ _ ?_;clear hN N)))
   refine js (.inl rfl) (r1:=.int .i64 i) (r2:=.bool (decide ((bj cells i).aW=p))) ?_ ?_ ?_
   ·simp only[go_sem, ↓reduceIte,Nat.reduceEqDiff,Nat.reduceAdd,Nat.reduceSub,Nat.reduceLeDiff,reduceCtorEq]
   ·simp only[go_sem, ↓reduceIte,Nat.reduceEqDiff,Nat.reduceAdd,Nat.reduceSub,Nat.reduceLeDiff,reduceCtorEq,hd]
   ·simp only[eM,bJ,cD,eA,fN,Option.map_some,vL,fB,decide_true,Bool.true_and]
  ·have fB:¬i<cells.length:=by omega
   (try((repeat(revert hN;revert N;apply Pn.out));refine wk (tw @h0 (tw @h2 (tw @h4 (tw @h8 (tw @h9 (tw @h10 (tw @hg (tw @eo (tw @hn (tw @aa.eq_1 @ai.eq_1)))))))))) ?_;(repeat(refine Pn.mk ?_;intro N hN))))
   refine js (.inl rfl) (r1:=.int .i64 i) (r2:=.bool false) ?_ ?_ ?_
   ·simp only[go_sem, ↓reduceIte,Nat.reduceEqDiff,Nat.reduceAdd,Nat.reduceSub,Nat.reduceLeDiff,reduceCtorEq]
   ·simp only[go_sem, ↓reduceIte,Nat.reduceEqDiff,Nat.reduceAdd,Nat.reduceSub,Nat.reduceLeDiff,reduceCtorEq]
   ·simp only[eM,bJ,cD,eA,fN,Option.map_some,vL,fB,decide_false,Bool.false_and]
theorem Gs (l:List ah) (p:aE) (hR:oh l) (FK:l.length<=1048576):au Tryz.prog 265 [.agg [.sl (l.map aa)],.agg (ai p)] (.int .i64 (eE l p)):=by
 refine au.body eG rfl fun hl n0=>?_
 clear hl
 rw[zF hR]
 have hb:=so l p hR FK
 rw[ai]at hb
 cases hf:(decide (iJ l p<l.length)&&decide ((bj l (iJ l p)).aW=p))
 ·rw[hf]at hb
  (repeat(first|((repeat(revert hN;revert N;apply Pn.out));refine wk @ai.eq_1 ?_;(repeat(refine Pn.mk ?_;intro N hN)))|((try apply Or.inl);refine⟨_,au.x (hb) (sd @ai.eq_1),?_⟩;refine hN _ _ ?_;clear hN N)))
  exact cm (b:=-1) (.inl rfl) (sd @Nat.zero_add) (by rw[if_neg];intro h;simp[h.1,h.2]at hf)
 ·rw[hf]at hb
  (repeat(first|((repeat(revert hN;revert N;apply Pn.out));refine wk @ai.eq_1 ?_;(repeat(refine Pn.mk ?_;intro N hN)))|((try apply Or.inl);refine⟨_,au.x (hb) (sd @ai.eq_1),?_⟩;refine hN _ _ ?_;clear hN N)))
  exact cm (b:=(iJ l p:Int)) (.inl rfl) (sd @Nat.zero_add) (by rw[if_pos];simpa using hf)
theorem Sd (l:List ah) (p:aE) (hR:oh l) (FK:l.length<=1048576):au Tryz.prog 117 [.agg [.sl (l.map aa)],.agg (ai p)] (.int .i64 (gm l p)):=by
 refine au.body eG rfl fun hl n0=>?_
 clear hl
 have hi:=zF (l:=l) (p:=p) hR
 have hb:=so l p hR FK
 rw[ai]at hb
 cases hf:(decide (iJ l p<l.length)&&decide ((bj l (iJ l p)).aW=p))
 ·rw[hf]at hb
  (repeat(first|((repeat(revert hN;revert N;apply Pn.out));refine wk @ai.eq_1 ?_;(repeat(refine Pn.mk ?_;intro N hN)))|((try apply Or.inl);refine⟨_,au.x (hb) (sd @ai.eq_1),?_⟩;refine hN _ _ ?_;clear hN N)))
  exact cm (b:=-1) (.inl rfl) (sd @Nat.zero_add) (by
   have hx:eE l p= -1:=by rw[hi,if_neg (by intro h;simp[h.1,h.2]at hf)]
   rw[gm,hx];rfl)
 ·rw[hf]at hb
  have hc:iJ l p<l.length/\(bj l (iJ l p)).aW=p:=by simpa using hf
  have hg:=fQ hc.1
  (repeat(first|((repeat(revert hN;revert N;apply Pn.out));refine wk (tw @ai.eq_1 (tw @hg @aa.eq_1)) ?_;(repeat(refine Pn.mk ?_;intro N hN)))|((try apply Or.inl);refine⟨_,au.x (hb) (sd (tw @ai.eq_1 (tw @hg @aa.eq_1))),?_⟩;refine hN _ _ ?_;clear hN N)))
  exact cm (b:=(bj l (iJ l p)).aP) (.inl rfl) (sd @Nat.zero_add) (by
   have hx:eE l p=(iJ l p:Int):=by rw[hi,if_pos hc]
   rw[gm,hx,if_pos (by omega),Int.toNat_natCast])
theorem qD (l:List ah) (p:aE) (hR:oh l) (FK:l.length<=1048576):au Tryz.prog 124 [.di [.sl (l.map aa)],.agg (ai p)] (.int .i64 (eE l p)):=by
 refine au.body eG rfl fun hl n0=>?_
 clear hl
 rw[zF hR]
 (try((repeat(revert hN;revert N;apply Pn.out));refine wk @ai.eq_1 ?_;(repeat(refine Pn.mk ?_;intro N hN))))
 refine bh (fun n env st=>∃i j:Nat,n=j-i/\i<=j/\j<=l.length/\(∀x,x<i->j6 (bj l x).aW p=true)/\(∀x,j<=x->x<l.length->j6 (bj l x).aW p=false)/\env 5=.int .i64 i/\env 6=.int .i64 j/\st.get ⟨124000000,n0⟩=some ⟨true,2,[ai p]⟩) l.length ⟨0,l.length,by omega,by omega,by omega,fun x h=>by omega,fun x h1 h2=>by omega,by(simp only[go_sem, ↓reduceIte,Nat.reduceEqDiff,Nat.reduceAdd,Nat.reduceSub,Nat.reduceLeDiff,reduceCtorEq])<;>rfl,sd @Nat.zero_add,sd @ai.eq_1⟩ ?_
 rintro n env st ⟨i,j,rfl,JZ,hj,kh,Cq,h5,h6,hg⟩ fr
 have h0:=fr 0 (by kernel_rfl)
 have h3:=fr 3 (by kernel_rfl)
 simp only[go_sem, ↓reduceIte,Nat.reduceEqDiff,Nat.reduceAdd,Nat.reduceSub,Nat.reduceLeDiff,reduceCtorEq]at h0 h3
 clear fr
 by_cases eo:(i:Int)<(j:Int)
 ·have e1:IntKind.i64.wrap ((i:Int)+j)=((i+j:Nat):Int):=by rw[bQ (by omega)];rfl
  have hm:(i+j) / 2<l.length:=by omega
  have fu:=fQ hm
  have e2:IntKind.i64.wrap (((i+j:Nat):Int).tdiv 2)=(((i+j) / 2:Nat):Int):=by
   rw[Int.tdiv_eq_ediv_of_nonneg (by omega),bQ (by omega)];omega
  have e3:=aC (k:=(i+j) / 2) (by omega)
  have hq:=nW (bj l ((i+j) / 2)).aW p
  cases hl:j6 (bj l ((i+j) / 2)).aW p
  ·rw[hl]at hq
   (repeat(first|((repeat(revert hN;revert N;apply Pn.out));refine wk (tw @h0 (tw @h3 (tw @h5 (tw @h6 (tw @hg (tw @eo (tw @e1 (tw @e2 (tw @fu (tw @aa.eq_1 @ai.eq_1)))))))))) ?_;(repeat(refine Pn.mk ?_;intro N hN)))|((try apply Or.inl);refine⟨_,au.x (hq) (sd (tw @h0 (tw @h3 (tw @h5 (tw @h6 (tw @hg (tw @eo (tw @e1 (tw @e2 (tw @fu (tw @aa.eq_1 @ai.eq_1))))))))))),?_⟩;refine hN _ _ ?_;clear hN N)))
   refine⟨_,?_,i,(i+j) / 2,rfl,by omega,by omega,kh,fun x h1 h2=>?_,sd @h5,sd @e2,sd (tw @hg @ai.eq_1)⟩
   ·omega
   ·by_cases NS:x=(i+j) / 2
    ·subst NS;exact hl
    ·rw[Bool.eq_false_iff]
     intro hc
     have h3:=kp (hR ((i+j) / 2) x (by omega) h2) hc
     rw[hl]at h3;cases h3
  ·rw[hl]at hq
   (repeat(first|((repeat(revert hN;revert N;apply Pn.out));refine wk (tw @h0 (tw @h3 (tw @h5 (tw @h6 (tw @hg (tw @eo (tw @e1 (tw @e2 (tw @fu (tw @aa.eq_1 @ai.eq_1)))))))))) ?_;(repeat(refine Pn.mk ?_;intro N hN)))|((try apply Or.inl);refine⟨_,au.x (hq) (sd (tw @h0 (tw @h3 (tw @h5 (tw @h6 (tw @hg (tw @eo (tw @e1 (tw @e2 (tw @fu (tw @aa.eq_1 @ai.eq_1))))))))))),?_⟩;refine hN _ _ ?_;clear hN N)))
   refine⟨_,?_,(i+j) / 2+1,j,rfl,by omega,hj,fun x hx=>?_,Cq,sd @e3,sd @h6,sd (tw @hg @ai.eq_1)⟩
   ·omega
   ·by_cases NS:x=(i+j) / 2
    ·subst NS;exact hl
    ·exact kp (hR x _ (by omega) hm) hl
 ·have Nx:i=j:=by omega
  subst Nx
  have vL:iJ l p=i:=zE hj kh fun h=>Cq i (Nat.le_refl _) h
  by_cases hn:(i:Int)<(l.length:Int)
  ·have fB:i<l.length:=by omega
   have fu:=fQ fB
   by_cases hp:(bj l i).aW=p
   ·have hx:decide ((bj l i).aW.eZ=p.eZ)=true:=decide_eq_true (by rw[hp])
    have hy:decide ((bj l i).aW.eT=p.eT)=true:=decide_eq_true (by rw[hp])
    (try((repeat(revert hN;revert N;apply Pn.out));refine wk (tw @h0 (tw @h3 (tw @h5 (tw @h6 (tw @hg (tw @eo (tw @hn (tw @fu (tw @hx (tw @hy (tw @aa.eq_1 @ai.eq_1))))))))))) ?_;(repeat(refine Pn.mk ?_;intro N hN))))
    exact cm (b:=(i:Int)) (.inl rfl) (sd @Nat.zero_add) (by rw[vL,if_pos ⟨fB,hp⟩])
   ·by_cases hx:(bj l i).aW.eZ=p.eZ
    ·have xc:decide ((bj l i).aW.eZ=p.eZ)=true:=decide_eq_true hx
     have hy':decide ((bj l i).aW.eT=p.eT)=false:=decide_eq_false fun h=>hp (DI hx h)
     (try((repeat(revert hN;revert N;apply Pn.out));refine wk (tw @h0 (tw @h3 (tw @h5 (tw @h6 (tw @hg (tw @eo (tw @hn (tw @fu (tw @xc (tw @hy' (tw @aa.eq_1 @ai.eq_1))))))))))) ?_;(repeat(refine Pn.mk ?_;intro N hN))))
     exact cm (b:=-1) (.inl rfl) (sd @Nat.zero_add) (by rw[vL,if_neg fun h=>hp h.2])
    ·have xc:decide ((bj l i).aW.eZ=p.eZ)=false:=decide_eq_false hx
     (try((repeat(revert hN;revert N;apply Pn.out));refine wk (tw @h0 (tw @h3 (tw @h5 (tw @h6 (tw @hg (tw @eo (tw @hn (tw @fu (tw @xc (tw @Bool.false_and (tw @aa.eq_1 @ai.eq_1))))))))))) ?_;(repeat(refine Pn.mk ?_;intro N hN))))
     exact cm (b:=-1) (.inl rfl) (sd @Nat.zero_add) (by rw[vL,if_neg fun h=>hp h.2])
  ·have fB:¬i<l.length:=by omega
   (try((repeat(revert hN;revert N;apply Pn.out));refine wk (tw @h0 (tw @h3 (tw @h5 (tw @h6 (tw @hg (tw @eo (tw @hn (tw @aa.eq_1 @ai.eq_1)))))))) ?_;(repeat(refine Pn.mk ?_;intro N hN))))
   exact cm (b:=-1) (.inl rfl) (sd @Nat.zero_add) (by rw[vL,if_neg fun h=>fB h.1])
theorem EX (l:List ah) (p:aE) (hR:oh l) (FK:l.length<=1048576):au Tryz.prog 98 [.di [.sl (l.map aa)],.agg (ai p)] (.int .i64 (gm l p)):=by
 refine au.body eG rfl fun hl n0=>?_
 clear hl
 have hb:=qD l p hR FK
 by_cases hi:eE l p<0
 ·rw[ai]at hb
  (repeat(first|((repeat(revert hN;revert N;apply Pn.out));refine wk (tw @ai.eq_1 @hi) ?_;(repeat(refine Pn.mk ?_;intro N hN)))|((try apply Or.inl);refine⟨_,au.x (hb) (sd (tw @ai.eq_1 @hi)),?_⟩;refine hN _ _ ?_;clear hN N)))
  exact cm (b:=-1) (.inl rfl) (sd @Nat.zero_add) (by rw[gm,if_neg (by omega)])
 ·have h0:0<=eE l p:=by omega
  have hg:=fQ (mN h0).1
  rw[ai]at hb
  (repeat(first|((repeat(revert hN;revert N;apply Pn.out));refine wk (tw @ai.eq_1 (tw @hi (tw @h0 (tw @hg @aa.eq_1)))) ?_;(repeat(refine Pn.mk ?_;intro N hN)))|((try apply Or.inl);refine⟨_,au.x (hb) (sd (tw @ai.eq_1 (tw @hi (tw @h0 (tw @hg @aa.eq_1))))),?_⟩;refine hN _ _ ?_;clear hN N)))
  exact cm (b:=(bj l (eE l p).toNat).aP) (.inl rfl) (sd @Nat.zero_add) (by rw[gm,if_pos h0])
def lE (s:ax) (l:List ah):Prop:=jB l/\∀t∈l,ea s t.aP=true
noncomputable def pH (s:ax) (l:List ah):Bool:=oG l&&l.all fun t=>ea s t.aP
theorem lT {s:ax} {l:List ah}:pH s l=true↔lE s l:=by simp[pH,lE,sF]
theorem vd:Pe aa (fun c=>.agg (aa c)) 3 true:=⟨fun _=>rfl,fun _=>rfl,fun x g=>by simp only[aa,aj,ar,aZ,aH,Option.map_some]⟩
theorem Gl (s:ax) (t:ah) (hs:s.aq.length<=1048576):au Tryz.prog 167 [.agg (aa t),.di (ae s)] (.bool (!ea s t.aP)):=by
 refine au.body eG rfl fun hl n0=>?_
 clear hl
 have h:=vQ s t.aP
 rw[ae]at h
 (repeat(first|((repeat(revert hN;revert N;apply Pn.out));refine wk (tw @aa.eq_1 @ae.eq_1) ?_;(repeat(refine Pn.mk ?_;intro N hN)))|((try apply Or.inl);refine⟨_,au.x (h) (sd (tw @aa.eq_1 @ae.eq_1)),?_⟩;refine hN _ _ ?_;clear hN N)))
 exact aX (b:= !ea s t.aP) (.inl rfl) (sd @Nat.zero_add) rfl
theorem LK (s:ax) (l:List ah) (hs:s.aq.length<=1048576) (hl:l.length<=1048576):au Tryz.prog 166 [.sl (l.map aa),.fn 167 [.di (ae s)]] (.bool (l.any fun t=> !ea s t.aP)):=
 ku vd (show lZ Tryz.prog 166=some (zo 166 202) by kernel_rfl)
  (show lZ Tryz.prog 202=some (sL 202 3 true) by kernel_rfl) l hl _ _ _ rfl (fun g=>by rw[aj,aU,ar];rfl) (fun x _=>Gl s x hs) fun g=>by rw[aj,aU,ar];rfl
theorem Ej {α:Type} (p:α->Bool) (l:List α):(!l.any fun t=> !p t)=l.all p:=by
 induction l with
 |nil=>rfl
 |cons x l ih=>simp only[List.any_cons,List.all_cons,<-ih];cases p x<;>simp
theorem nv (s:ax) (l:List ah) (hn:fm s) (hg:s.aA.length<=1048576) (ht:s.aq.length<=1048576) (hs:∀t∈s.aq,t.bI.length<=1048576) (hl:l.length<=1048576):au Tryz.prog 106 [.agg (ae s),.agg [.sl (l.map aa)]] (.bool (qI s&&pH s l)):=by
 refine au.body eG rfl fun hl n0=>?_
 clear hl
 have h1:=CF s hn hg ht hs
 have h2:=sH l
 have h3:=LK s l ht hl
 rw[ae]at h1 h3
 cases b1:qI s
 ·rw[b1]at h1
  (repeat(first|((repeat(revert hN;revert N;apply Pn.out));refine wk @ae.eq_1 ?_;(repeat(refine Pn.mk ?_;intro N hN)))|((try apply Or.inl);refine⟨_,au.x (h1) (sd @ae.eq_1),?_⟩;refine hN _ _ ?_;clear hN N)))
  exact aX (b:=false) (.inl rfl) (sd @Nat.zero_add) rfl
 rw[b1]at h1
 cases b2:oG l
 ·rw[b2]at h2
  (repeat(first|((repeat(revert hN;revert N;apply Pn.out));refine wk @ae.eq_1 ?_;(repeat(refine Pn.mk ?_;intro N hN)))|((try apply Or.inl);refine⟨_,au.x (h1) (sd @ae.eq_1),?_⟩;refine hN _ _ ?_;clear hN N)|((try apply Or.inl);refine⟨_,au.x (h2) (sd @ae.eq_1),?_⟩;refine hN _ _ ?_;clear hN N)))
  exact aX (b:=false) (.inl rfl) (sd @Nat.zero_add) (by rw[pH,b2];rfl)
 rw[b2]at h2
 (repeat(first|((repeat(revert hN;revert N;apply Pn.out));refine wk @ae.eq_1 ?_;(repeat(refine Pn.mk ?_;intro N hN)))|((try apply Or.inl);refine⟨_,au.x (h1) (sd @ae.eq_1),?_⟩;refine hN _ _ ?_;clear hN N)|((try apply Or.inl);refine⟨_,au.x (h2) (sd @ae.eq_1),?_⟩;refine hN _ _ ?_;clear hN N)|((try apply Or.inl);refine⟨_,au.x (h3) (sd @ae.eq_1),?_⟩;refine hN _ _ ?_;clear hN N)))
 exact aX (b:= !(l.any fun t=> !ea s t.aP)) (.inl rfl) (sd @Nat.zero_add) (by rw[Ej,pH,b2];rfl)
theorem EY (s:ax) (l:List ah):au Tryz.prog 97 [.di (ae s),.di [.sl (l.map aa)]] (.bool (pH s l)):=by
 refine au.body eG rfl fun hl n0=>?_
 have hlen:l.length<=9223372036854775807:=by
  have h1:=(hl (.di [.sl (l.map aa)]) (by simp)).Bw (a:=.sl (l.map aa)) (by simp)
  simpa using h1.len
 clear hl
 have h2:=F7 l
 cases b2:oG l
 ·rw[b2]at h2
  (repeat(first|((repeat(revert hN;revert N;apply Pn.out));refine wk @Nat.zero_add ?_;(repeat(refine Pn.mk ?_;intro N hN)))|((try apply Or.inl);refine⟨_,au.x (h2) (sd @Nat.zero_add),?_⟩;refine hN _ _ ?_;clear hN N)))
  exact aX (b:=false) (.inl rfl) (sd @Nat.zero_add) (by rw[pH,b2];rfl)
 rw[b2]at h2
 (repeat(first|((repeat(revert hN;revert N;apply Pn.out));refine wk @Nat.zero_add ?_;(repeat(refine Pn.mk ?_;intro N hN)))|((try apply Or.inl);refine⟨_,au.x (h2) (sd @Nat.zero_add),?_⟩;refine hN _ _ ?_;clear hN N)))
 refine bh (fun n env st=>∃k:Nat,n=(l.length)-k/\k<=(l.length)/\env 5=.int .i64 (k:Int)/\(∀j:Nat,j<k->ea s (bj l j).aP=true)) (l.length) ⟨0,by omega,by omega,sl @Nat.zero_add,fun _ h=>absurd h (Nat.not_lt_zero _)⟩ ?_
 rintro n_a env_a st_a ⟨k,rfl,ale,a5,lN⟩ dW
 have a0:=dW 0 (by kernel_rfl);have a1:=dW 1 (by kernel_rfl)
 simp only[go_sem, ↓reduceIte,Nat.reduceEqDiff,Nat.reduceAdd,Nat.reduceSub,Nat.reduceLeDiff,reduceCtorEq]at a0 a1
 clear dW
 by_cases hk:(k:Int)<(l.length:Int)
 ·have cG:∀{e:Env},(e 5=.int .i64 (IntKind.i64.wrap ((k:Int)+1)))->(ea s (bj l k).aP=true)->∃m0,m0<(l.length)-k/\∃k:Nat,m0=(l.length)-k/\k<=(l.length)/\e 5=.int .i64 (k:Int)/\(∀j:Nat,j<k->ea s (bj l j).aP=true):=fun x1 x2=>⟨_,by omega,k+1,rfl,by omega,(by rw[x1,aC (by omega)]),(all_succ lN x2)⟩
  have fw:k<l.length:=by omega
  have eQ:=fQ fw
  have ht:=qC s (bj l k).aP
  cases b3:ea s (bj l k).aP
  ·rw[b3]at ht
   (repeat(first|((repeat(revert hN;revert N;apply Pn.out));refine wk (tw @a5 (tw @a0 (tw @a1 (tw @hk (tw @eQ @aa.eq_1))))) ?_;(repeat(refine Pn.mk ?_;intro N hN)))|((try apply Or.inl);refine⟨_,au.x (ht) (sd (tw @a5 (tw @a0 (tw @a1 (tw @hk (tw @eQ @aa.eq_1)))))),?_⟩;refine hN _ _ ?_;clear hN N)))
   exact aX (b:=false) (.inl rfl) (sd @Nat.zero_add) (by
    have:l.all (fun t=>ea s t.aP)=false:=List.all_eq_false.2 ⟨_,jq fw,by rw[b3];simp⟩
    rw[pH,this,Bool.and_false])
  ·rw[b3]at ht
   (repeat(first|((repeat(revert hN;revert N;apply Pn.out));refine wk (tw @a5 (tw @a0 (tw @a1 (tw @hk (tw @eQ @aa.eq_1))))) ?_;(repeat(refine Pn.mk ?_;intro N hN)))|((try apply Or.inl);refine⟨_,au.x (ht) (sd (tw @a5 (tw @a0 (tw @a1 (tw @hk (tw @eQ @aa.eq_1)))))),?_⟩;refine hN _ _ ?_;clear hN N)))
   exact cG (sd (tw @a5 (tw @a0 @a1))) (b3)
 ·(try((repeat(revert hN;revert N;apply Pn.out));refine wk (tw @a5 (tw @a0 (tw @a1 @hk))) ?_;(repeat(refine Pn.mk ?_;intro N hN))))
  exact aX (b:=true) (.inl rfl) (sd @Nat.zero_add) (by
   have:l.all (fun t=>ea s t.aP)=true:=List.all_eq_true.2 fun t ht=>by
    obtain⟨j,hj,rfl⟩:=List.getElem_of_mem ht
    have:=lN j (by omega)
    rwa [gL hj]at this
   rw[pH,b2,this];rfl)
theorem xE (l:List ah) (hF:jB l) (i:Nat) (d:Int) (hi:i<l.length) (hd:iC d 0 3=true):au Tryz.prog 217 [.di [.sl (l.map aa)],.int .i64 i,.int .i64 d] (.int .i64 (eE l (dx (bj l i).aW d))):=by
 refine au.body eG rfl fun hl n0=>?_
 clear hl
 have hg:=fQ hi
 have hp:=sV (hF.pt hi)
 have h1:=yp (bj l i).aW d hd hp.1 hp.2
 have h2:=qD l (dx (bj l i).aW d) hF.Jf (by have:=hF.zb;omega)
 rw[ai]at h1 h2
 (repeat(first|((repeat(revert hN;revert N;apply Pn.out));refine wk (tw @aa.eq_1 (tw @hg @ai.eq_1)) ?_;(repeat(refine Pn.mk ?_;intro N hN)))|((try apply Or.inl);refine⟨_,au.x (h1) (sd (tw @aa.eq_1 (tw @hg @ai.eq_1))),?_⟩;refine hN _ _ ?_;clear hN N)|((try apply Or.inl);refine⟨_,au.x (h2) (sd (tw @aa.eq_1 (tw @hg @ai.eq_1))),?_⟩;refine hN _ _ ?_;clear hN N)))
 exact cm (b:=eE l (dx (bj l i).aW d)) (.inl rfl) (sd @Nat.zero_add) rfl
end Go.Proofs.YtgoelphibofcmaaGreat.V

namespace Go.Proofs.YtgoelphibofcmaaGreat.V
def bi (b:Bool):Int:=if b then 1 else 0
def lK (f:Nat->Int):Nat->Int
 |0=>0
 |n+1=>lK f n+f n
theorem gj {f g:Nat->Int}:∀{n:Nat},(∀i,i<n->f i=g i)->lK f n=lK g n
 |0,_=>rfl
 |n+1,h=>by
  simp only[lK]
  rw[gj fun i hi=>h i (by omega),h n (by omega)]
theorem rV {f g:Nat->Int}:∀{n:Nat},(∀i,i<n->f i<=g i)->lK f n<=lK g n
 |0,_=>Int.le_refl _
 |n+1,h=>by
  simp only[lK]
  have:=rV (n:=n) fun i hi=>h i (by omega)
  have:=h n (by omega)
  omega
theorem jP:∀{n:Nat} {f:Nat->Int},(∀i,i<n->f i=0)->lK f n=0
 |0,_,_=>rfl
 |n+1,f,h=>by
  simp only[lK]
  rw[jP fun i hi=>h i (by omega),h n (by omega)];rfl
theorem pw {f:Nat->Int} {a:Nat} {d:Int}:∀n,lK (fun i=>f i+if i=a then d else 0) n=lK f n+if a<n then d else 0
 |0=>by simp[lK]
 |n+1=>by
  simp only[lK]
  rw[pw n]
  by_cases h:n=a
  ·subst h;simp;omega
  ·rw[if_neg h]
   by_cases h2:a<n
   ·rw[if_pos h2,if_pos (by omega)];omega
   ·rw[if_neg h2,if_neg (by omega)];omega
def l6 (n:Nat) (S:Nat->Bool) (f:Nat->Nat->Int):Int:=lK (fun u=>lK (fun v=>if S u&& !S v then f u v else 0) n) n
def bump (f:Nat->Nat->Int) (a b:Nat) (d:Int):Nat->Nat->Int:=fun u v=>f u v+if u=a/\v=b then d else 0
theorem pc {n:Nat} {S:Nat->Bool} {f:Nat->Nat->Int} {a b:Nat} {d:Int} (ha:a<n) (hb:b<n):l6 n S (bump f a b d)=l6 n S f+if S a&& !S b then d else 0:=by
 unfold l6
 have h1:∀u,u<n->lK (fun v=>if S u&& !S v then bump f a b d u v else 0) n=lK (fun v=>if S u&& !S v then f u v else 0) n+if u=a then(if S a&& !S b then d else 0)else 0:=by
  intro u hu
  by_cases h:u=a
  ·subst h
   have h2:∀v,v<n->(if S u&& !S v then bump f u b d u v else 0)=(fun v=>if S u&& !S v then f u v else 0) v+if v=b then(if S u&& !S b then d else 0)else 0:=by
    intro v hv
    unfold bump
    by_cases h3:v=b
    ·subst h3;simp only[and_self,if_true];split<;>omega
    ·simp only[h3,and_false,if_false];split<;>omega
   rw[gj h2,pw,if_pos hb,if_pos rfl]
  ·rw[if_neg h,Int.add_zero]
   refine gj fun v hv=>?_
   unfold bump
   simp[h]
 rw[gj h1,pw,if_pos ha]
theorem Kp {n:Nat} {S:Nat->Bool} {f c:Nat->Nat->Int} (h:∀u v,u<n->v<n->f u v<=c u v):l6 n S f<=l6 n S c:=
 rV fun u hu=>rV fun v hv=>by split;exact h u v hu hv;exact Int.le_refl _
theorem Ko {n:Nat} {S:Nat->Bool} {f c:Nat->Nat->Int} (h:∀u v,u<n->v<n->S u=true->S v=false->f u v=c u v):l6 n S f=l6 n S c:=
 gj fun u hu=>gj fun v hv=>by
  split
  ·rename_i hc
   simp only[Bool.and_eq_true,Bool.not_eq_true']at hc
   exact h u v hu hv hc.1 hc.2
  ·rfl
def kd (f:Nat->Nat->Int) (a b:Nat):Nat->Nat->Int:=bump (bump f a b 1) b a (-1)
theorem Fz {n:Nat} {S:Nat->Bool} {f:Nat->Nat->Int} {a b:Nat} (ha:a<n) (hb:b<n):l6 n S (kd f a b)=l6 n S f+bi (S a)-bi (S b):=by
 unfold kd
 rw[pc hb ha,pc ha hb]
 cases S a<;>cases S b<;>simp[bi]<;>omega
def lU (f:Nat->Nat->Int):List Nat->Nat->Nat->Int
 |a::b::r=>lU (kd f a b) (b::r)
 |_=>f
def qO (f c:Nat->Nat->Int):List Nat->Prop
 |a::b::r=>f a b<c a b/\qO f c (b::r)
 |_=>True
theorem AF {n:Nat} {S:Nat->Bool}:∀(r:List Nat) (a:Nat) (f:Nat->Nat->Int),(∀x∈a::r,x<n)->l6 n S (lU f (a::r))=l6 n S f+bi (S a)-bi (S ((a::r).getLast (by simp)))
 |[],a,f,_=>by simp[lU]
 |b::r,a,f,h=>by
  rw[lU,AF r b (kd f a b) fun x hx=>h x (List.mem_cons_of_mem _ hx),Fz (h a (by simp)) (h b (by simp)),List.getLast_cons_cons]
  generalize bi (S b)=q
  omega
theorem qO.less {f g c:Nat->Nat->Int}:∀{p:List Nat},qO f c p->(∀u,u∈p->∀v,g u v<=f u v)->qO g c p
 |[],_,_=>trivial
 |[_],_,_=>trivial
 |a::b::r,h,hl=>⟨Int.lt_of_le_of_lt (hl a (by simp) b) h.1,qO.less (p:=b::r) h.2 fun u hu=>hl u (List.mem_cons_of_mem _ hu)⟩
theorem Em {n:Nat} {c:Nat->Nat->Int}:∀(p:List Nat) (f:Nat->Nat->Int),p.Nodup->qO f c p->(∀u v,u<n->v<n->f u v<=c u v)->∀u v,u<n->v<n->lU f p u v<=c u v
 |[],f,_,_,h=>h
 |[_],f,_,_,h=>h
 |a::b::r,f,hn,hr,h=>by
  rw[lU]
  have rh:a∉b::r:=(List.nodup_cons.1 hn).1
  refine Em (b::r) _ (List.nodup_cons.1 hn).2 (hr.2.less fun u hu v=>?_) fun u v hu hv=>?_
  ·unfold kd bump
   have:u≠a:=by rintro rfl;exact rh hu
   simp only[this,false_and,if_false]
   split<;>omega
  ·have h0:=h u v hu hv
   have h1:=hr.1
   unfold kd bump
   by_cases e:u=a/\v=b
   ·obtain⟨rfl,rfl⟩:=e
    rw[if_pos ⟨rfl,rfl⟩];split<;>omega
   ·rw[if_neg e];split<;>omega
structure ll (n:Nat) (c f:Nat->Nat->Int) (x y:Nat) (val:Int):Prop where
 le:∀u v,u<n->v<n->f u v<=c u v
 cut:∀S:Nat->Bool,S x=true->S y=false->l6 n S f=val
theorem ll.zero {n:Nat} {c:Nat->Nat->Int} {x y:Nat} (h:∀u v,u<n->v<n->0<=c u v):ll n c (fun _ _=>0) x y 0:=
 ⟨h,fun S _ _=>jP fun u hu=>jP fun v hv=>by split<;>rfl⟩
theorem ll.congr {n:Nat} {c f g:Nat->Nat->Int} {x y:Nat} {val:Int} (h:ll n c f x y val) (e:∀u v,u<n->v<n->g u v=f u v):ll n c g x y val:=
 ⟨fun u v hu hv=>by rw[e u v hu hv];exact h.le u v hu hv,fun S hx hy=>by
  rw[<-h.cut S hx hy]
  exact gj fun u hu=>gj fun v hv=>by rw[e u v hu hv]⟩
theorem ll.aug {n:Nat} {c f:Nat->Nat->Int} {x y:Nat} {val:Int} (h:ll n c f x y val) {r:List Nat} (hl:(x::r).getLast (by simp)=y) (hn:(x::r).Nodup) (hr:qO f c (x::r)) (hb:∀v∈x::r,v<n):ll n c (lU f (x::r)) x y (val+1):=
 ⟨Em _ _ hn hr h.le,fun S hx hy=>by rw[AF r x f hb,hl,h.cut S hx hy,hx,hy];simp[bi]⟩
theorem ll.bound {n:Nat} {c f:Nat->Nat->Int} {x y:Nat} {val:Int} (h:ll n c f x y val) {S:Nat->Bool} (hx:S x=true) (hy:S y=false):val<=l6 n S c:=by
 rw[<-h.cut S hx hy];exact Kp h.le
theorem ll.full {n:Nat} {c f:Nat->Nat->Int} {x y:Nat} {val:Int} (h:ll n c f x y val) {S:Nat->Bool} (hx:S x=true) (hy:S y=false) (hS:∀u v,u<n->v<n->S u=true->S v=false->¬f u v<c u v):val=l6 n S c:=by
 rw[<-h.cut S hx hy]
 exact Ko fun u v hu hv h1 h2=>by have:=hS u v hu hv h1 h2;have:=h.le u v hu hv;omega
structure PB where
 a:Nat
 b:Nat
 s:Int
 deriving Inhabited
def cE (bs:List PB) (i:Nat):PB:=bs.getD i default
def jb (S:Nat->Bool) (bs:List PB):Int:=(bs.map fun b=>if S b.a=S b.b then 0 else b.s).sum
def nE (c:Nat->Nat->Int) (b:PB):Nat->Nat->Int:=bump (bump c b.a b.b b.s) b.b b.a b.s
def kT (bs:List PB):Nat->Nat->Int:=bs.foldl nE fun _ _=>0
theorem DN (bs:List PB) (b:PB):kT (bs++[b])=nE (kT bs) b:=by simp[kT]
theorem AP {n:Nat} {S:Nat->Bool}:∀(bs:List PB) (c:Nat->Nat->Int),(∀b∈bs,b.a<n/\b.b<n)->l6 n S (bs.foldl nE c)=l6 n S c+jb S bs
 |[],c,_=>by simp[jb]
 |b::bs,c,h=>by
  have hb:=h b (by simp)
  rw[List.foldl_cons,AP bs _ fun x hx=>h x (List.mem_cons_of_mem _ hx)]
  unfold nE jb
  rw[pc hb.2 hb.1,pc hb.1 hb.2,List.map_cons,List.sum_cons]
  cases S b.a<;>cases S b.b<;>simp<;>omega
theorem AQ {n:Nat} {S:Nat->Bool} {bs:List PB} (h:∀b∈bs,b.a<n/\b.b<n):l6 n S (kT bs)=jb S bs:=by
 rw[kT,AP bs _ h]
 have:l6 n S (fun _ _=>0)=0:=jP fun u hu=>jP fun v hv=>by split<;>rfl
 omega
theorem zQ:∀(bs:List PB) (c:Nat->Nat->Int),(∀b∈bs,0<=b.s)->(∀u v,0<=c u v)->∀u v,0<=bs.foldl nE c u v
 |[],c,_,h=>h
 |b::bs,c,hb,h=>by
  rw[List.foldl_cons]
  refine zQ bs _ (fun x hx=>hb x (List.mem_cons_of_mem _ hx)) fun u v=>?_
  have:=hb b (by simp);have:=h u v
  unfold nE bump
  split<;>split<;>omega
theorem room_le:∀(bs:List PB) (c:Nat->Nat->Int) (m:Int),(∀b∈bs,b.s<=4)->(∀u v,c u v<=m)->0<=m->∀u v,bs.foldl nE c u v<=m+8*bs.length
 |[],c,m,_,h,_=>fun u v=>by have:=h u v;simp;omega
 |b::bs,c,m,hb,h,h0=>fun u v=>by
  rw[List.foldl_cons]
  have:=room_le bs (nE c b) (m+8) (fun x hx=>hb x (List.mem_cons_of_mem _ hx)) (fun u v=>by
   have:=hb b (by simp);have:=h u v
   unfold nE bump
   split<;>split<;>omega) (by omega) u v
  simp only[List.length_cons];omega
def kq (n:Nat) (bs:List PB) (t:Int):Prop:=∀S:Nat->Bool,S 0=true->(∃y,y<n/\S y=false)->t<=jb S bs
def Fx (S:Nat->Bool) (bs:List PB) (f:Nat->Int):Int:=lK (fun i=>f i*(bi (S (cE bs i).a)-bi (S (cE bs i).b))) bs.length
structure jT (bs:List PB) (f:Nat->Int) (x y:Nat) (val:Int):Prop where
 le:∀i,i<bs.length->f i<=(cE bs i).s/\-(cE bs i).s<=f i
 cut:∀S:Nat->Bool,S x=true->S y=false->Fx S bs f=val
theorem uY (S:Nat->Bool):∀bs:List PB,jb S bs=lK (fun i=>if S (cE bs i).a=S (cE bs i).b then 0 else(cE bs i).s) bs.length:=by
 intro bs
 have key:∀n,n<=bs.length->jb S (bs.take n)=lK (fun i=>if S (cE bs i).a=S (cE bs i).b then 0 else(cE bs i).s) n:=by
  intro n
  induction n with
  |zero=>intro _;rfl
  |succ n ih=>
   intro h
   have e:cE bs n=bs[n]:=by simp[cE,List.getD_eq_getElem?_getD,List.getElem?_eq_getElem (show n<bs.length by omega)]
   rw[List.take_succ_eq_append_getElem (by omega),lK,<-ih (by omega),e]
   unfold jb
   rw[List.map_append,List.sum_append]
   simp only[List.map_cons,List.map_nil,List.sum_cons,List.sum_nil,Int.add_zero]
 have:=key bs.length (Nat.le_refl _)
 rwa [List.take_length]at this
theorem jT.bound {bs:List PB} {f:Nat->Int} {x y:Nat} {val:Int} (h:jT bs f x y val) {S:Nat->Bool} (hx:S x=true) (hy:S y=false):val<=jb S bs:=by
 rw[<-h.cut S hx hy,uY]
 refine rV fun i hi=>?_
 have:=h.le i hi
 cases S (cE bs i).a<;>cases S (cE bs i).b<;>simp[bi]<;>omega
def fH (bs:List PB) (f:Nat->Int) (i u:Nat):Int:=if (cE bs i).a=u then(cE bs i).s-f i else(cE bs i).s+f i
def ck (bs:List PB) (i u:Nat):Nat:=if (cE bs i).a=u then(cE bs i).b else(cE bs i).a
theorem jT.full {bs:List PB} {f:Nat->Int} {x y:Nat} {val:Int} (h:jT bs f x y val) {S:Nat->Bool} (hx:S x=true) (hy:S y=false)
  (hS:∀i,i<bs.length->((cE bs i).a≠(cE bs i).b->(S (cE bs i).a=true->S (cE bs i).b=false->¬0<fH bs f i (cE bs i).a)/\(S (cE bs i).b=true->S (cE bs i).a=false->¬0<fH bs f i (cE bs i).b))):val=jb S bs:=by
 rw[<-h.cut S hx hy,uY]
 refine gj fun i hi=>?_
 have h1:=h.le i hi
 by_cases rh:(cE bs i).a=(cE bs i).b
 ·rw[rh];simp
 ·have h2:=hS i hi rh
  unfold fH at h2
  rw[if_pos rfl,if_neg rh]at h2
  cases ha:S (cE bs i).a<;>cases hb:S (cE bs i).b<;>rw[ha,hb]at h2<;>simp[bi]at h2 ⊢ <;>omega
def tK (bs:List PB) (f:Nat->Int) (i u:Nat):Nat->Int:=fun j=>f j+if j=i then(if (cE bs i).a=u then 1 else -1)else 0
theorem Fy {S:Nat->Bool} {bs:List PB} {f:Nat->Int} {i u:Nat} (hi:i<bs.length) (hu:(cE bs i).a=u∨(cE bs i).b=u):Fx S bs (tK bs f i u)=Fx S bs f+bi (S u)-bi (S (ck bs i u)):=by
 unfold Fx tK
 have e:∀j,j<bs.length->(f j+if j=i then(if (cE bs i).a=u then 1 else -1)else 0)*(bi (S (cE bs j).a)-bi (S (cE bs j).b))=(fun j=>f j*(bi (S (cE bs j).a)-bi (S (cE bs j).b))) j+if j=i then(if (cE bs i).a=u then 1 else -1)*(bi (S (cE bs i).a)-bi (S (cE bs i).b))else 0:=by
  intro j hj
  by_cases h:j=i
  ·subst h;simp only[if_true];rw[Int.add_mul]
  ·simp only[h,if_false];simp
 rw[gj e,pw,if_pos hi]
 unfold ck
 by_cases ha:(cE bs i).a=u
 ·rw[if_pos ha,if_pos ha,ha];omega
 ·rw[if_neg ha,if_neg ha]
  rcases hu with hu|hu
  ·exact absurd hu ha
  ·rw[hu];omega
theorem oM:∀(n:Nat) (l:List Nat),l.Nodup->(∀x∈l,x<n)->l.length<=n
 |0,l,_,h=>by
  cases l with
  |nil=>simp
  |cons x l=>exact absurd (h x (by simp)) (by omega)
 |n+1,l,hn,h=>by
  have h1:=oM n (l.erase n) (hn.erase _) fun x hx=>by
   have h2:=(hn.mem_erase_iff).1 hx
   have h3:=h x h2.2
   have h4:=h2.1
   omega
  rw[List.length_erase]at h1
  split at h1<;>omega
end Go.Proofs.YtgoelphibofcmaaGreat.V

namespace Go.Proofs.YtgoelphibofcmaaGreat.V
def eO (L:Nat->Nat) (b:PB):Nat->Nat:=fun k=>if L k=max (L b.a) (L b.b)then min (L b.a) (L b.b)else L k
def eD (bs:List PB):Nat->Nat:=bs.foldl eO id
theorem vR (bs:List PB) (b:PB):eD (bs++[b])=eO (eD bs) b:=by simp[eD]
structure jC (L:Nat->Nat):Prop where
 le:∀k,L k<=k
 idem:∀k,L (L k)=L k
theorem jC.step {L:Nat->Nat} (h:jC L) (b:PB):jC (eO L b):=by
 have ha:=h.idem b.a
 have hb:=h.idem b.b
 refine⟨fun k=>?_,fun k=>?_⟩
 ·have:=h.le k
  unfold eO
  split<;>omega
 ·have hk:=h.idem k
  have hm:L (min (L b.a) (L b.b))=min (L b.a) (L b.b):=by
   rcases Nat.le_total (L b.a) (L b.b)with h1|h1
   ·rw[Nat.min_eq_left h1,ha]
   ·rw[Nat.min_eq_right h1,hb]
  unfold eO
  by_cases h1:L k=max (L b.a) (L b.b)
  ·rw[if_pos h1,hm];split<;>rfl
  ·rw[if_neg h1,hk,if_neg h1]
theorem vT:∀(bs:List PB) (L:Nat->Nat),jC L->jC (bs.foldl eO L)
 |[],_,h=>h
 |b::bs,L,h=>vT bs _ (h.step b)
theorem tF (bs:List PB):jC (eD bs):=vT bs id ⟨fun _=>Nat.le_refl _,fun _=>rfl⟩
def leads (n:Nat) (L:Nat->Nat):List Nat:=(List.range n).filter fun i=>L i==i
def members (n:Nat) (L:Nat->Nat) (i:Nat):List Nat:=(List.range n).filter fun k=>L k==i
def fv (n:Nat) (L:Nat->Nat):List (List Nat):=(leads n L).map (members n L)
def cj (L:Nat->Nat) (k:Nat):Nat:=(leads (L k) L).length
theorem gI (n:Nat) (L:Nat->Nat):leads (n+1) L=leads n L++if L n=n then[n]else[]:=by
 unfold leads
 rw[List.range_succ,List.filter_append]
 congr 1
 by_cases h:L n=n<;>simp[h]
theorem jo (n:Nat) (L:Nat->Nat) (i:Nat):members (n+1) L i=members n L i++if L n=i then[n]else[]:=by
 unfold members
 rw[List.range_succ,List.filter_append]
 congr 1
 by_cases h:L n=i<;>simp[h]
theorem mQ {L:Nat->Nat} (h:jC L) {n i:Nat} (hn:n<=i):members n L i=[]:=by
 unfold members
 rw[List.filter_eq_nil_iff]
 intro k hk
 have:=h.le k
 have:=List.mem_range.1 hk
 simp;omega
theorem tG (n:Nat) (L:Nat->Nat):(leads n L).Nodup:=List.nodup_range.filter _
theorem yw {n:Nat} {L:Nat->Nat} {i:Nat}:i∈leads n L↔i<n/\L i=i:=by simp[leads]
theorem ly {n:Nat} {L:Nat->Nat} {i k:Nat}:k∈members n L i↔k<n/\L k=i:=by simp[members]
theorem Ge {L:Nat->Nat} {m n:Nat} (h:m<=n):∃r,leads n L=leads m L++r:=by
 obtain⟨d,rfl⟩:=Nat.le.dest h
 clear h
 induction d with
 |zero=>exact⟨[],by simp⟩
 |succ d ih=>
  obtain⟨r,hr⟩:=ih
  exact⟨r++if L (m+d)=m+d then[m+d]else[],by rw[<-Nat.add_assoc,gI,hr,List.append_assoc]⟩
theorem pg {L:Nat->Nat} (h:jC L) {n k:Nat} (hk:k<n):(leads n L)[cj L k]? =some (L k):=by
 have h1:=h.le k
 obtain⟨r,hr⟩:=Ge (L:=L) (show L k+1<=n by omega)
 rw[hr,gI,if_pos (h.idem k),List.append_assoc]
 unfold cj
 rw[List.getElem?_append_right (Nat.le_refl _),Nat.sub_self];rfl
theorem jY {L:Nat->Nat} (h:jC L) {n k:Nat} (hk:k<n):cj L k<(leads n L).length:=(List.getElem?_eq_some_iff.1 (pg h hk)).1
theorem sR {L:Nat->Nat} (h:jC L) {n k i:Nat} (hk:k<n) (hi:i<(leads n L).length):k∈members n L (leads n L)[i]↔cj L k=i:=by
 rw[ly]
 have h1:=pg h hk
 rw[List.getElem?_eq_getElem (jY h hk)]at h1
 injection h1 with h1
 constructor
 ·rintro⟨_,h2⟩
  rw[<-h1]at h2
  exact(List.getElem_inj (tG n L)).1 h2
 ·rintro rfl
  exact⟨hk,h1.symm⟩
def dt (L:Nat->Nat) (bs:List PB):List PB:=bs.filterMap fun b=>if cj L b.a=cj L b.b then none else some ⟨cj L b.a,cj L b.b,b.s⟩
def eY (L:Nat->Nat) (bs:List PB):List PB:=bs.filterMap fun b=>if cj L b.a=cj L b.b then none else some ⟨min (cj L b.a) (cj L b.b),max (cj L b.a) (cj L b.b),b.s⟩
theorem zS (L:Nat->Nat) (bs:List PB) (b:PB):dt L (bs++[b])=dt L bs++if cj L b.a=cj L b.b then[]else[⟨cj L b.a,cj L b.b,b.s⟩]:=by
 unfold dt
 rw[List.filterMap_append]
 congr 1
 by_cases h:cj L b.a=cj L b.b<;>simp[h]
theorem zT (L:Nat->Nat) (bs:List PB) (b:PB):eY L (bs++[b])=eY L bs++if cj L b.a=cj L b.b then[]else[⟨min (cj L b.a) (cj L b.b),max (cj L b.a) (cj L b.b),b.s⟩]:=by
 unfold eY
 rw[List.filterMap_append]
 congr 1
 by_cases h:cj L b.a=cj L b.b<;>simp[h]
theorem sD (S:Nat->Bool) (b:PB) (bs:List PB):jb S (b::bs)=(if S b.a=S b.b then 0 else b.s)+jb S bs:=by simp[jb]
theorem xU (S:Nat->Bool) (L:Nat->Nat):∀bs:List PB,jb S (eY L bs)=jb S (dt L bs)
 |[]=>rfl
 |b::bs=>by
  have ih:=xU S L bs
  unfold eY dt at ih ⊢
  rw[List.filterMap_cons,List.filterMap_cons]
  by_cases h:cj L b.a=cj L b.b
  ·simp only[h,if_true];exact ih
  ·simp only[h,if_false]
   rw[sD,sD,ih]
   congr 1
   simp only
   rcases Nat.le_total (cj L b.a) (cj L b.b)with h1|h1
   ·rw[Nat.min_eq_left h1,Nat.max_eq_right h1]
   ·rw[Nat.min_eq_right h1,Nat.max_eq_left h1]
    cases S (cj L b.a)<;>cases S (cj L b.b)<;>rfl
theorem DR {L:Nat->Nat} (h:jC L) {n:Nat} {bs:List PB} (hb:∀b∈bs,b.a<n/\b.b<n):∀b∈dt L bs,b.a<(leads n L).length/\b.b<(leads n L).length/\b.a≠b.b/\∃c∈bs,b.s=c.s:=by
 intro b hm
 unfold dt at hm
 obtain⟨c,hc,he⟩:=List.mem_filterMap.1 hm
 split at he
 ·cases he
 ·rename_i gM
  simp only[Option.some.injEq]at he
  subst he
  exact⟨jY h (hb c hc).1,jY h (hb c hc).2,gM,c,hc,rfl⟩
theorem DS {L:Nat->Nat} (h:jC L) {n:Nat} {bs:List PB} (hb:∀b∈bs,b.a<n/\b.b<n):∀b∈eY L bs,b.a<(leads n L).length/\b.b<(leads n L).length/\b.a≠b.b/\∃c∈bs,b.s=c.s:=by
 intro b hm
 unfold eY at hm
 obtain⟨c,hc,he⟩:=List.mem_filterMap.1 hm
 split at he
 ·cases he
 ·rename_i gM
  simp only[Option.some.injEq]at he
  subst he
  have h1:=jY h (hb c hc).1
  have h2:=jY h (hb c hc).2
  refine⟨by simp only;omega,by simp only;omega,by simp only;omega,c,hc,rfl⟩
theorem nh (L:Nat->Nat) (bs:List PB):(dt L bs).length<=bs.length/\(eY L bs).length<=bs.length:=⟨List.length_filterMap_le ..,List.length_filterMap_le ..⟩
theorem jL (n:Nat) (L:Nat->Nat):(leads n L).length<=n:=by
 have:=List.length_filter_le (fun i=>L i==i) (List.range n)
 simpa[leads]using this
def aQ (t:Int) (bs:List PB):List PB:=bs.filter fun b=>decide (t<=b.s)
def pa (n:Nat) (bs:List PB) (t:Int):Prop:=
 (leads n (eD (aQ t bs))).length<=64/\kq (leads n (eD (aQ t bs))).length (dt (eD (aQ t bs)) bs) t
theorem Dc {n:Nat} {L:Nat->Nat} {bs:List PB} {t:Int}:kq n (eY L bs) t↔kq n (dt L bs) t:=by
 unfold kq
 constructor<;>intro h S h0 hy<;>have:=h S h0 hy<;>rw[xU]at *<;>exact this
end Go.Proofs.YtgoelphibofcmaaGreat.V

namespace Go.Proofs.YtgoelphibofcmaaGreat.V
open Go.RowKit
attribute [local irreducible] eh wpOps fI Call
attribute [local go_sem] aM fj eJ fF fE da upd cu K.av cI AV.cells AV.cell rowOf rowsOf part ld rowAt bK bV dq dM gy bD cY dY fA eS dk dR cW cV dD dE bG bc cL bF cP cN dO dS dQ cK bL cX dN bE aO cR cz gx bm cH bH aY dp bl dr AV.undef bt bz dF dL dy dC cF dX eb cw dV dU cQ cU List.getD_cons_zero List.getD_cons_succ List.getD_nil List.all_cons List.all_nil Bool.and_true Bool.true_and Bool.and_self Bool.not_true Bool.not_false Option.map_some Option.map_none Option.bind_some Option.bind_none List.length_cons List.length_nil List.take_succ_cons List.take_zero List.take_nil List.drop_succ_cons List.drop_zero List.drop_nil List.head?_cons List.map_cons List.map_nil List.getElem?_cons_zero List.getElem?_cons_succ List.cons_append List.nil_append List.append_nil List.length_map List.set_cons_zero List.set_cons_succ Nat.reduceMul eq_self Int.toNat_natCast Int.natCast_nonneg and_self true_and and_true decide_true decide_false Bool.false_eq_true Nat.zero_add Nat.add_zero List.contains_cons List.contains_nil Bool.or_false Bool.false_or beq_self_eq_true Nat.reduceBEq ne_eq not_true_eq_false not_false_eq_true Id.mk.injEq false_and and_false Nat.reduceLT Int.reduceLE Int.reduceLT Int.reduceToNat Int.reduceNeg Int.reduceAdd Nat.le_refl List.length_append beq_true beq_false Bool.not_eq_eq_eq_not or_false false_or dK aj ar aH bd br bW aT aZ aU bf cJ bw
def aB (b:PB):List AV:=[.int .i64 b.a,.int .i64 b.b,.int .i64 b.s]
theorem MA:∀b:PB,(aB b).length=3/\(aB b).all AV.cell=true:=fun _=>⟨rfl,rfl⟩
theorem ze (g:Rows) (n:Nat) (b:PB):dd g (n+1) (aB b)=some (aB b):=by simp[aB,aj,ar,aH]
theorem uo (g:Rows) (n:Nat) (b:PB):ew g (n+1) (aB b)=some (aB b):=by simp[aB,bJ,cD,eA]
theorem HK:Pe aB (fun c=>.agg (aB c)) 3 true:=⟨fun _=>rfl,fun _=>rfl,fun x g=>by simp only[aB,aj,ar,aZ,aH,Option.map_some]⟩
def mE (s:ax) (l:List ah) (i:Nat) (d:Int):List PB:=
 if 0<=eE l (dx (bj l i).aW d)/\0<gN s (bj l i).aP d (bj l (eE l (dx (bj l i).aW d)).toNat).aP then
  [⟨i,(eE l (dx (bj l i).aW d)).toNat,gN s (bj l i).aP d (bj l (eE l (dx (bj l i).aW d)).toNat).aP⟩]else[]
def fX (s:ax) (l:List ah) (i m:Nat):List PB:=(List.range m).flatMap fun j:Nat=>mE s l i (1-(j:Int))
def gE (s:ax) (l:List ah) (n:Nat):List PB:=(List.range n).flatMap fun i=>fX s l i 2
def db (s:ax) (l:List ah):List PB:=gE s l l.length
theorem pQ (s:ax) (l:List ah) (i m:Nat):fX s l i (m+1)=fX s l i m++mE s l i (1-(m:Int)):=by simp[fX,List.range_succ]
theorem qU (s:ax) (l:List ah) (n:Nat):gE s l (n+1)=gE s l n++fX s l n 2:=by simp[gE,List.range_succ]
theorem CK (s:ax) (l:List ah) (i:Nat) (d:Int):(mE s l i d).length<=1:=by unfold mE;split<;>simp
theorem qT (s:ax) (l:List ah) (i m:Nat):(fX s l i m).length<=m:=by
 induction m with
 |zero=>simp[fX]
 |succ m ih=>rw[pQ,List.length_append];have:=CK s l i (1-(m:Int));omega
theorem th (s:ax) (l:List ah) (n:Nat):(gE s l n).length<=2*n:=by
 induction n with
 |zero=>simp[gE]
 |succ n ih=>rw[qU,List.length_append];have:=qT s l n 2;omega
def sB:Id->Prop:=fun o=>o.site=193001000∨o.site=193012006
theorem Dq (s:ax) (l:List ah) (hS:ko s) (hA:lE s l):au Tryz.prog 193 [.di (ae s),.di [.sl (l.map aa)]] (.sl ((db s l).map aB)):=by
 refine au.body eG rfl fun hl n0=>?_
 clear hl
 have hF:=hA.1
 have Ns:=hF.zb
 (try((repeat(revert hN;revert N;apply Pn.out));refine wk @Nat.zero_add ?_;(repeat(refine Pn.mk ?_;intro N hN))))
 refine bh (fun n env st=>∃k:Nat,n=(l.length)-k/\k<=(l.length)/\env 6=.int .i64 (k:Int)/\(mu aB 3 (env 5) st.get sB (gE s l k))) (l.length) ⟨0,by omega,by omega,sl @Nat.zero_add,⟨⟨193001000,n0+1⟩,.inl rfl,by simp only[go_sem, ↓reduceIte,Nat.reduceEqDiff,Nat.reduceAdd,Nat.reduceSub,Nat.reduceLeDiff,reduceCtorEq];rfl,by simp only[go_sem, ↓reduceIte,Nat.reduceEqDiff,Nat.reduceAdd,Nat.reduceSub,Nat.reduceLeDiff,reduceCtorEq];rfl⟩⟩ ?_
 rintro n_a env_a st_a ⟨k,rfl,ale,a6,lS⟩ dW
 have a0:=dW 0 (by kernel_rfl);have a1:=dW 1 (by kernel_rfl)
 simp only[go_sem, ↓reduceIte,Nat.reduceEqDiff,Nat.reduceAdd,Nat.reduceSub,Nat.reduceLeDiff,reduceCtorEq]at a0 a1
 clear dW
 by_cases hk:(k:Int)<(l.length:Int)
 ·have cG:∀{e:Env} {gg:Rows},(e 6=.int .i64 (IntKind.i64.wrap ((k:Int)+1)))->(mu aB 3 (e 5) gg sB (gE s l (k+1)))->∃m0,m0<(l.length)-k/\∃k:Nat,m0=(l.length)-k/\k<=(l.length)/\e 6=.int .i64 (k:Int)/\(mu aB 3 (e 5) gg sB (gE s l k)):=fun x1 x2=>⟨_,by omega,k+1,rfl,by omega,(by rw[x1,aC (by omega)]),x2⟩
  have fw:k<l.length:=by omega
  have eQ:=fQ fw
  have hul:=th s l k
  (try((repeat(revert hN;revert N;apply Pn.out));refine wk (tw @a6 (tw @a0 (tw @a1 @hk))) ?_;(repeat(refine Pn.mk ?_;intro N hN))))
  refine bh (fun n env st=>∃m:Nat,n=(2)-m/\m<=(2)/\env 7=(.int .i64 (1-(m:Int)))/\(mu aB 3 (env 5) st.get sB (gE s l k++fX s l k m))) (2) ⟨0,by omega,by omega,sl (tw @a6 (tw @a0 @a1)),by(simp only[go_sem, ↓reduceIte,Nat.reduceEqDiff,Nat.reduceAdd,Nat.reduceSub,Nat.reduceLeDiff,reduceCtorEq];exact lS.cast (by simp[fX]))⟩ ?_
  rintro n_b env_b st_b ⟨m,rfl,ble,b7,bI0⟩ gQ
  have b0:=gQ 0 (by kernel_rfl);have b1:=gQ 1 (by kernel_rfl);have b6:=gQ 6 (by kernel_rfl)
  simp only[go_sem, ↓reduceIte,Nat.reduceEqDiff,Nat.reduceAdd,Nat.reduceSub,Nat.reduceLeDiff,reduceCtorEq,a6,a0,a1]at b0 b1 b6
  clear gQ
  have G4:=qT s l k m
  have lx:=pQ s l k m
  by_cases hm:(m:Int)<2
  ·have iy:∀{e:Env} {gg:Rows},(e 7=(.int .i64 (1-((m+1):Int))))->(mu aB 3 (e 5) gg sB (gE s l k++fX s l k (m+1)))->∃m0,m0<(2)-m/\∃m:Nat,m0=(2)-m/\m<=(2)/\e 7=(.int .i64 (1-(m:Int)))/\(mu aB 3 (e 5) gg sB (gE s l k++fX s l k m)):=fun x1 x2=>⟨_,by omega,m+1,rfl,by omega,x1,x2⟩
   have qt:(0:Int)<=1-(m:Int):=by omega
   have hd:iC (1-(m:Int)) 0 3=true:=kG (by omega)
   have hw:IntKind.i64.wrap (1-(m:Int)-1)=1-((m:Int)+1):=by rw[bQ (by omega)];omega
   have RE:=xE l hF k (1-(m:Int)) fw hd
   unfold mE at lx
   have hT:=hA.2 _ (jq fw)
   generalize FR:eE l (dx (bj l k).aW (1-(m:Int)))=ix at *
   by_cases hi:ix<0
   ·rw[if_neg (by omega),List.append_nil]at lx
    (repeat(first|((repeat(revert hN;revert N;apply Pn.out));refine wk (tw @b7 (tw @b0 (tw @b1 (tw @b6 (tw @qt (tw @hw @hi)))))) ?_;(repeat(refine Pn.mk ?_;intro N hN)))|((try apply Or.inl);refine⟨_,au.x (RE) (sd (tw @b7 (tw @b0 (tw @b1 (tw @b6 (tw @qt (tw @hw @hi))))))),?_⟩;refine hN _ _ ?_;clear hN N)))
    exact iy (sd (tw @b7 (tw @b0 (tw @b1 (tw @b6 @hw))))) (by(simp only[go_sem, ↓reduceIte,Nat.reduceEqDiff,Nat.reduceAdd,Nat.reduceSub,Nat.reduceLeDiff,reduceCtorEq];exact bI0.cast (by rw[lx])))
   ·have ye:0<=ix:=by omega
    have Ny:=mN (l:=l) (p:=dx (bj l k).aW (1-(m:Int))) (by omega)
    rw[FR]at Ny
    have k9:=fQ Ny.1
    have w5:=yq s hS (bj l k).aP (1-(m:Int)) (bj l ix.toNat).aP hT (hA.2 _ (jq Ny.1)) hd
    generalize OP:gN s (bj l k).aP (1-(m:Int)) (bj l ix.toNat).aP=bv at *
    by_cases hb:0<bv
    ·rw[if_pos ⟨ye,hb⟩]at lx
     (repeat(first|((repeat(revert hN;revert N;apply Pn.out));refine wa (tw @b7 (tw @b0 (tw @b1 (tw @b6 (tw @qt (tw @hw (tw @hi (tw @ye (tw @eQ (tw @k9 (tw @hb @aa.eq_1))))))))))) ?_;(repeat(refine Pn.mk ?_;intro N hN)))|((try apply Or.inl);refine⟨_,au.x (RE) (sd (tw @b7 (tw @b0 (tw @b1 (tw @b6 (tw @qt (tw @hw (tw @hi (tw @ye (tw @eQ (tw @k9 (tw @hb @aa.eq_1)))))))))))),?_⟩;refine hN _ _ ?_;clear hN N)|((try apply Or.inl);refine⟨_,au.x (w5) (sd (tw @b7 (tw @b0 (tw @b1 (tw @b6 (tw @qt (tw @hw (tw @hi (tw @ye (tw @eQ (tw @k9 (tw @hb @aa.eq_1)))))))))))),?_⟩;refine hN _ _ ?_;clear hN N)))
     refine Oi (enc:=aB) (S:=sB) (L:=gE s l k++fX s l k m) (xv:=env_b 5) [⟨k,ix.toNat,bv⟩] rfl rfl (sd @Nat.zero_add) (bI0.frame fun o ho=>by rcases ho with ho|ho<;>simp only[go_sem, ↓reduceIte,Nat.reduceEqDiff,Nat.reduceAdd,Nat.reduceSub,Nat.reduceLeDiff,reduceCtorEq,zU ho]) (sd (tw @aB.eq_1 (Int.toNat_of_nonneg ye))) MA (.inr rfl) (by simp only[dr,List.length_append,List.length_cons,List.length_nil];omega) fun v g' hO ik=>?_
     rw[List.append_assoc,<-lx]at hO
     clear ik
     (try((repeat(revert hN;revert N;apply Pn.out));refine wk (tw @b7 (tw @b0 (tw @b1 (tw @b6 @hw)))) ?_;(repeat(refine Pn.mk ?_;intro N hN))))
     exact iy (sd (tw @b7 (tw @b0 (tw @b1 (tw @b6 @hw))))) (by(simp only[go_sem, ↓reduceIte,Nat.reduceEqDiff,Nat.reduceAdd,Nat.reduceSub,Nat.reduceLeDiff,reduceCtorEq];exact hO))
    ·rw[if_neg fun h=>hb h.2,List.append_nil]at lx
     (repeat(first|((repeat(revert hN;revert N;apply Pn.out));refine wk (tw @b7 (tw @b0 (tw @b1 (tw @b6 (tw @qt (tw @hw (tw @hi (tw @ye (tw @eQ (tw @k9 (tw @hb @aa.eq_1))))))))))) ?_;(repeat(refine Pn.mk ?_;intro N hN)))|((try apply Or.inl);refine⟨_,au.x (RE) (sd (tw @b7 (tw @b0 (tw @b1 (tw @b6 (tw @qt (tw @hw (tw @hi (tw @ye (tw @eQ (tw @k9 (tw @hb @aa.eq_1)))))))))))),?_⟩;refine hN _ _ ?_;clear hN N)|((try apply Or.inl);refine⟨_,au.x (w5) (sd (tw @b7 (tw @b0 (tw @b1 (tw @b6 (tw @qt (tw @hw (tw @hi (tw @ye (tw @eQ (tw @k9 (tw @hb @aa.eq_1)))))))))))),?_⟩;refine hN _ _ ?_;clear hN N)))
     exact iy (sd (tw @b7 (tw @b0 (tw @b1 (tw @b6 @hw))))) (by(simp only[go_sem, ↓reduceIte,Nat.reduceEqDiff,Nat.reduceAdd,Nat.reduceSub,Nat.reduceLeDiff,reduceCtorEq];exact bI0.cast (by rw[lx])))
  ·have EJ:m=2:=by omega
   subst EJ
   have eo:¬(0:Int)<=1-((2:Nat):Int):=by omega
   (try((repeat(revert hN;revert N;apply Pn.out));refine wk (tw @b7 (tw @b0 (tw @b1 (tw @b6 @eo)))) ?_;(repeat(refine Pn.mk ?_;intro N hN))))
   exact cG (sd (tw @a6 (tw @a0 (tw @a1 (tw @b7 (tw @b0 (tw @b1 @b6))))))) (by(simp only[go_sem, ↓reduceIte,Nat.reduceEqDiff,Nat.reduceAdd,Nat.reduceSub,Nat.reduceLeDiff,reduceCtorEq];exact bI0.cast (by rw[qU])))
 ·have lO:k=l.length:=by omega
  (try((repeat(revert hN;revert N;apply Pn.out));refine wk (tw @a6 (tw @a0 (tw @a1 @hk))) ?_;(repeat(refine Pn.mk ?_;intro N hN))))
  exact wz (.inl rfl) (by simp only[go_sem, ↓reduceIte,Nat.reduceEqDiff,Nat.reduceAdd,Nat.reduceSub,Nat.reduceLeDiff,reduceCtorEq];rfl) (by rw[lO]at lS;exact lS.gn fun b=>uo _ _ b)
end Go.Proofs.YtgoelphibofcmaaGreat.V

namespace Go.Proofs.YtgoelphibofcmaaGreat.V
open Go.RowKit
attribute [local irreducible] eh wpOps fI Call
attribute [local go_sem] aM fj eJ fF fE da upd cu K.av cI AV.cells AV.cell rowOf rowsOf part ld rowAt bK bV dq dM gy bD cY dY fA eS dk dR cW cV dD dE bG bc cL bF cP cN dO dS dQ cK bL cX dN bE aO cR cz gx bm cH bH aY dp bl dr AV.undef bt bz dF dL dy dC cF dX eb cw dV dU cQ cU List.getD_cons_zero List.getD_cons_succ List.getD_nil List.all_cons List.all_nil Bool.and_true Bool.true_and Bool.and_self Bool.not_true Bool.not_false Option.map_some Option.map_none Option.bind_some Option.bind_none List.length_cons List.length_nil List.take_succ_cons List.take_zero List.take_nil List.drop_succ_cons List.drop_zero List.drop_nil List.head?_cons List.map_cons List.map_nil List.getElem?_cons_zero List.getElem?_cons_succ List.cons_append List.nil_append List.append_nil List.length_map List.set_cons_zero List.set_cons_succ Nat.reduceMul eq_self Int.toNat_natCast Int.natCast_nonneg and_self true_and and_true decide_true decide_false Bool.false_eq_true Nat.zero_add Nat.add_zero List.contains_cons List.contains_nil Bool.or_false Bool.false_or beq_self_eq_true Nat.reduceBEq ne_eq not_true_eq_false not_false_eq_true Id.mk.injEq false_and and_false Nat.reduceLT Int.reduceLE Int.reduceLT Int.reduceToNat Int.reduceNeg Int.reduceAdd Nat.le_refl List.length_append beq_true beq_false Bool.not_eq_eq_eq_not or_false false_or dK aj ar aH bd br bW aT aZ aU bf cJ bw
theorem Bz (a b:Nat):au Tryz.prog 215 [.int .i64 a,.int .i64 b] (.int .i64 (min a b:Nat)):=by
 refine au.body eG rfl fun hl n0=>?_
 clear hl
 by_cases h:(a:Int)<(b:Int)
 ·(try((repeat(revert hN;revert N;apply Pn.out));refine wk @h ?_;(repeat(refine Pn.mk ?_;intro N hN))))
  exact cm (b:=(a:Int)) (.inl rfl) (sd @Nat.zero_add) (by omega)
 ·(try((repeat(revert hN;revert N;apply Pn.out));refine wk @h ?_;(repeat(refine Pn.mk ?_;intro N hN))))
  exact cm (b:=(b:Int)) (.inl rfl) (sd @Nat.zero_add) (by omega)
theorem By (a b:Nat):au Tryz.prog 216 [.int .i64 a,.int .i64 b] (.int .i64 (max a b:Nat)):=by
 refine au.body eG rfl fun hl n0=>?_
 clear hl
 by_cases h:(b:Int)<(a:Int)
 ·(try((repeat(revert hN;revert N;apply Pn.out));refine wk @h ?_;(repeat(refine Pn.mk ?_;intro N hN))))
  exact cm (b:=(a:Int)) (.inl rfl) (sd @Nat.zero_add) (by omega)
 ·(try((repeat(revert hN;revert N;apply Pn.out));refine wk @h ?_;(repeat(refine Pn.mk ?_;intro N hN))))
  exact cm (b:=(b:Int)) (.inl rfl) (sd @Nat.zero_add) (by omega)
def dH (f:Nat->Nat) (n:Nat):List (List AV):=(List.range n).map fun i=>eN (f i)
theorem ga (f:Nat->Nat) (n:Nat):(dH f n).length=n:=by simp[dH]
theorem fq {f:Nat->Nat} {n i:Nat} (h:i<n):(dH f n)[i]? =some (eN (f i)):=by simp[dH,h]
theorem gS {f g:Nat->Nat} {n:Nat} (h:∀i,i<n->f i=g i):dH f n=dH g n:=List.map_congr_left fun i hi=>by rw[h i (List.mem_range.1 hi)]
theorem pz {f g:Nat->Nat} {n k v:Nat} (hk:k<n) (hv:g k=v) (h:∀i,i<n->i≠k->g i=f i):(dH f n).set k (eN v)=dH g n:=by
 refine List.ext_getElem? fun i=>?_
 rw[List.getElem?_set]
 by_cases hi:k=i
 ·subst hi
  rw[if_pos rfl,ga,if_pos hk,fq hk,hv]
 ·rw[if_neg hi]
  by_cases fB:i<n
  ·rw[fq fB,fq fB,h i fB (fun h=>hi h.symm)]
  ·rw[List.getElem?_eq_none (by rw[ga];omega),List.getElem?_eq_none (by rw[ga];omega)]
theorem BB (cnt:Nat) (hn:cnt<=1048576) (bs:List PB) (hb:∀b∈bs,b.a<cnt/\b.b<cnt) (qq:bs.length<=1048576):au Tryz.prog 214 [.int .i64 cnt,.sl (bs.map aB)] (.sl ((fv cnt (eD bs)).map Aj)):=by
 refine au.body eG rfl fun hl n0=>?_
 clear hl
 (try((repeat(revert hN;revert N;apply Pn.out));refine wk @Nat.zero_add ?_;(repeat(refine Pn.mk ?_;intro N hN))))
 refine bh (fun n env st=>∃k:Nat,n=(cnt)-k/\k<=(cnt)/\env 6=.int .i64 (k:Int)/\(∃o:Id,env 5=.own o 0 k/\st.get o=some ⟨true,1,dH id k⟩/\o.cq<st.next)) (cnt) ⟨0,by omega,by omega,sl @Nat.zero_add,⟨⟨214001000,n0+1⟩,sd @Nat.zero_add,by simp only[go_sem, ↓reduceIte,Nat.reduceEqDiff,Nat.reduceAdd,Nat.reduceSub,Nat.reduceLeDiff,reduceCtorEq];rfl,by(try dsimp only);omega⟩⟩ ?_
 rintro n_a env_a st_a ⟨k,rfl,ale,a6,lS⟩ dW
 have a0:=dW 0 (by kernel_rfl);have a1:=dW 1 (by kernel_rfl)
 simp only[go_sem, ↓reduceIte,Nat.reduceEqDiff,Nat.reduceAdd,Nat.reduceSub,Nat.reduceLeDiff,reduceCtorEq]at a0 a1
 clear dW
 obtain⟨o,a5,ag,sb⟩:=lS
 have tl:=ga id k
 have sf:=dP sb
 by_cases hk:(k:Int)<(cnt:Int)
 ·have cG:∀{e:Env} {gg:Rows} {nx:Nat},(e 6=.int .i64 (IntKind.i64.wrap ((k:Int)+1)))->(∃o:Id,e 5=.own o 0 (k+1)/\gg o=some ⟨true,1,dH id (k+1)⟩/\o.cq<nx)->∃m0,m0<(cnt)-k/\∃k:Nat,m0=(cnt)-k/\k<=(cnt)/\e 6=.int .i64 (k:Int)/\(∃o:Id,e 5=.own o 0 k/\gg o=some ⟨true,1,dH id k⟩/\o.cq<nx):=fun x1 x2=>⟨_,by omega,k+1,rfl,by omega,(by rw[x1,aC (by omega)]),x2⟩
  have fw:k<cnt:=by omega
  have e1:k+1<=16777216:=by omega
  have sK:dH id k++[[.int .i64 (k:Int)]]=dH id (k+1):=by simp[dH,List.range_succ,eN]
  (try((repeat(revert hN;revert N;apply Pn.out));refine wk (tw @a6 (tw @a0 (tw @a1 (tw @a5 (tw @ag (tw @sf (tw @hk (tw @tl (tw @e1 @sK))))))))) ?_;(repeat(refine Pn.mk ?_;intro N hN))))
  exact cG (sd (tw @a6 (tw @a0 @a1))) (⟨⟨214005003,st_a.next+1⟩,sd @Nat.zero_add,sd @sK,by(try dsimp only);omega⟩)
 have lO:k=cnt:=by omega
 subst lO
 have Tp:st_a.get o=some ⟨true,1,dH (eD (bs.take 0)) k⟩:=ag
 clear ag
 (try((repeat(revert hN;revert N;apply Pn.out));refine wk (tw @a6 (tw @a0 (tw @a1 @hk))) ?_;(repeat(refine Pn.mk ?_;intro N hN))))
 refine bh (fun n env st=>∃j:Nat,n=(bs.length)-j/\j<=(bs.length)/\env 7=.int .i64 (j:Int)/\st.get o=some ⟨true,1,dH (eD (bs.take j)) k⟩/\(o.cq<st.next)) (bs.length) ⟨0,by omega,by omega,sl (tw @a6 (tw @a0 (tw @a1 (tw @a5 @Tp)))),sl (tw @a6 (tw @a0 (tw @a1 (tw @a5 @Tp)))),(by(try dsimp only);omega)⟩ ?_
 rintro n_b env_b st_b ⟨j,rfl,ble,b7,bg0,bI0⟩ gQ
 have b0:=gQ 0 (by kernel_rfl);have b1:=gQ 1 (by kernel_rfl);have b5:=gQ 5 (by kernel_rfl)
 simp only[go_sem, ↓reduceIte,Nat.reduceEqDiff,Nat.reduceAdd,Nat.reduceSub,Nat.reduceLeDiff,reduceCtorEq,a6,a0,a1,a5,Tp]at b0 b1 b5
 clear gQ
 by_cases hj:(j:Int)<(bs.length:Int)
 ·have iy:∀{e:Env} {gg:Rows} {nx:Nat},(e 7=.int .i64 (IntKind.i64.wrap ((j:Int)+1)))->(gg o=some ⟨true,1,dH (eD (bs.take (j+1))) k⟩)->(o.cq<nx)->∃m0,m0<(bs.length)-j/\∃j:Nat,m0=(bs.length)-j/\j<=(bs.length)/\e 7=.int .i64 (j:Int)/\gg o=some ⟨true,1,dH (eD (bs.take j)) k⟩/\(o.cq<nx):=fun x1 x2 x3=>⟨_,by omega,j+1,rfl,by omega,(by rw[x1,aC (by omega)]),x2,x3⟩
  have jv:j<bs.length:=by omega
  have G5:(bs.map aB)[j]? =some (aB bs[j]):=by simp[jv]
  have L7:=hb _ (List.getElem_mem jv)
  have nK:bs.take (j+1)=bs.take j++[bs[j]]:=List.take_succ_eq_append_getElem jv
  have lx:eD (bs.take (j+1))=eO (eD (bs.take j)) bs[j]:=by rw[nK,vR]
  generalize eD (bs.take j)=L at *
  generalize bs[j]=b at *
  have hA:=fq (f:=L) L7.1
  have hB:=fq (f:=L) L7.2
  have Rg:=Bz (L b.a) (L b.b)
  have Rh:=By (L b.a) (L b.b)
  have tl:=ga L k
  have gz:(b.a:Int)<(k:Int):=by omega
  have fS:(b.b:Int)<(k:Int):=by omega
  (try((repeat(revert hN;revert N;apply Pn.out));refine wk (tw @b7 (tw @bg0 (tw @b0 (tw @b1 (tw @b5 (tw @hj (tw @G5 (tw @aB.eq_1 (tw @hA (tw @hB (tw @gz (tw @fS (tw @tl @eN.eq_1))))))))))))) ?_;(repeat(refine Pn.mk ?_;intro N hN))))
  refine bh (fun n env st=>∃i:Nat,n=(k)-i/\i<=(k)/\env 10=.int .i64 (i:Int)/\st.get o=some ⟨true,1,dH (fun x=>if x<i then eO L b x else L x) k⟩/\(o.cq<st.next)) (k) ⟨0,by omega,by omega,sl (tw @b7 (tw @bg0 (tw @b0 (tw @b1 (tw @b5 @Nat.not_lt_zero))))),sl (tw @b7 (tw @bg0 (tw @b0 (tw @b1 (tw @b5 @Nat.not_lt_zero))))),(by(try dsimp only);omega)⟩ ?_
  rintro n_c env_c st_c ⟨i,rfl,cle,ju,cg0,cI0⟩ cfr
  have c0:=cfr 0 (by kernel_rfl);have c1:=cfr 1 (by kernel_rfl);have c5:=cfr 5 (by kernel_rfl);have c7:=cfr 7 (by kernel_rfl);have c8:=cfr 8 (by kernel_rfl);have c9:=cfr 9 (by kernel_rfl)
  simp only[go_sem, ↓reduceIte,Nat.reduceEqDiff,Nat.reduceAdd,Nat.reduceSub,Nat.reduceLeDiff,reduceCtorEq,b7,bg0,b0,b1,b5,Nat.not_lt_zero]at c0 c1 c5 c7 c8 c9
  clear cfr
  have hC:=fq (f:=fun x=>if x<i then eO L b x else L x) (n:=k) (i:=i)
  have tc:=ga (fun x=>if x<i then eO L b x else L x) k
  by_cases hi:(i:Int)<(k:Int)
  ·have gW:∀{e:Env} {gg:Rows} {nx:Nat},(e 10=.int .i64 (IntKind.i64.wrap ((i:Int)+1)))->(gg o=some ⟨true,1,dH (fun x=>if x<(i+1)then eO L b x else L x) k⟩)->(o.cq<nx)->∃m0,m0<(k)-i/\∃i:Nat,m0=(k)-i/\i<=(k)/\e 10=.int .i64 (i:Int)/\gg o=some ⟨true,1,dH (fun x=>if x<i then eO L b x else L x) k⟩/\(o.cq<nx):=fun x1 x2 x3=>⟨_,by omega,i+1,rfl,by omega,(by rw[x1,aC (by omega)]),x2,x3⟩
   have fB:i<k:=by omega
   replace hC:=hC fB
   rw[if_neg (Nat.lt_irrefl i)]at hC
   by_cases he:L i=max (L b.a) (L b.b)
   ·have w7:decide ((L i:Int)=((max (L b.a) (L b.b):Nat):Int))=true:=decide_eq_true (by rw[he])
    have eP:(dH (fun x=>if x<i then eO L b x else L x) k).set i (eN (min (L b.a) (L b.b)))=dH (fun x=>if x<i+1 then eO L b x else L x) k:=pz fB (by rw[if_pos (by omega),eO,if_pos he]) fun x hx Ct=>by
     by_cases h:x<i
     ·rw[if_pos h,if_pos (by omega)]
     ·rw[if_neg h,if_neg (by omega)]
    rw[eN]at eP hC
    (repeat(first|((repeat(revert hN;revert N;apply Pn.out));refine wk (tw @ju (tw @cg0 (tw @c0 (tw @c1 (tw @c5 (tw @c7 (tw @c8 (tw @c9 (tw @hi (tw @hC (tw @tc (tw @w7 @eP)))))))))))) ?_;(repeat(refine Pn.mk ?_;intro N hN)))|((try apply Or.inl);refine⟨_,au.x (Rg) (sd (tw @ju (tw @cg0 (tw @c0 (tw @c1 (tw @c5 (tw @c7 (tw @c8 (tw @c9 (tw @hi (tw @hC (tw @tc (tw @w7 @eP))))))))))))),?_⟩;refine hN _ _ ?_;clear hN N)|((try apply Or.inl);refine⟨_,au.x (Rh) (sd (tw @ju (tw @cg0 (tw @c0 (tw @c1 (tw @c5 (tw @c7 (tw @c8 (tw @c9 (tw @hi (tw @hC (tw @tc (tw @w7 @eP))))))))))))),?_⟩;refine hN _ _ ?_;clear hN N)))
    refine gW ?_ ?_ (by(try dsimp only);omega)
    all_goals simp only[go_sem, ↓reduceIte,Nat.reduceEqDiff,Nat.reduceAdd,Nat.reduceSub,Nat.reduceLeDiff,reduceCtorEq,ju,cg0,c0,c1,c5,c7,c8,c9]
   ·have w7:decide ((L i:Int)=((max (L b.a) (L b.b):Nat):Int))=false:=decide_eq_false fun h=>he (by omega)
    have l8:dH (fun x=>if x<i then eO L b x else L x) k=dH (fun x=>if x<i+1 then eO L b x else L x) k:=gS fun x hx=>by
     by_cases h:x<i
     ·rw[if_pos h,if_pos (by omega)]
     ·by_cases Ct:x=i
      ·subst Ct;rw[if_neg h,if_pos (by omega),eO,if_neg he]
      ·rw[if_neg h,if_neg (by omega)]
    rw[eN]at hC
    (repeat(first|((repeat(revert hN;revert N;apply Pn.out));refine wk (tw @ju (tw @cg0 (tw @c0 (tw @c1 (tw @c5 (tw @c7 (tw @c8 (tw @c9 (tw @hi (tw @hC (tw @tc @w7))))))))))) ?_;(repeat(refine Pn.mk ?_;intro N hN)))|((try apply Or.inl);refine⟨_,au.x (Rg) (sd (tw @ju (tw @cg0 (tw @c0 (tw @c1 (tw @c5 (tw @c7 (tw @c8 (tw @c9 (tw @hi (tw @hC (tw @tc @w7)))))))))))),?_⟩;refine hN _ _ ?_;clear hN N)|((try apply Or.inl);refine⟨_,au.x (Rh) (sd (tw @ju (tw @cg0 (tw @c0 (tw @c1 (tw @c5 (tw @c7 (tw @c8 (tw @c9 (tw @hi (tw @hC (tw @tc @w7)))))))))))),?_⟩;refine hN _ _ ?_;clear hN N)))
    rw[l8]at cg0
    refine gW ?_ ?_ (by(try dsimp only);omega)
    all_goals simp only[go_sem, ↓reduceIte,Nat.reduceEqDiff,Nat.reduceAdd,Nat.reduceSub,Nat.reduceLeDiff,reduceCtorEq,ju,cg0,c0,c1,c5,c7,c8,c9]
  ·have uw:i=k:=by omega
   subst uw
   have ef:dH (fun x=>if x<i then eO L b x else L x) i=dH (eO L b) i:=gS fun x hx=>if_pos hx
   rw[ef]at cg0
   rw[<-lx]at cg0
   (try((repeat(revert hN;revert N;apply Pn.out));refine wk (tw @ju (tw @cg0 (tw @c0 (tw @c1 (tw @c5 (tw @c7 (tw @c8 (tw @c9 (tw @hi @tc))))))))) ?_;(repeat(refine Pn.mk ?_;intro N hN))))
   refine iy ?_ ?_ (by(try dsimp only);omega)
   all_goals simp only[go_sem, ↓reduceIte,Nat.reduceEqDiff,Nat.reduceAdd,Nat.reduceSub,Nat.reduceLeDiff,reduceCtorEq,b7,bg0,b0,b1,b5,ju,cg0,c0,c1,c5,c7,c8,c9]
 have gV:j=bs.length:=by omega
 subst gV
 rw[List.take_length]at bg0
 have hL:=tF bs
 generalize eD bs=L at *
 have tl:=ga L k
 (try((repeat(revert hN;revert N;apply Pn.out));refine wk (tw @b7 (tw @bg0 (tw @b0 (tw @b1 (tw @b5 @hj))))) ?_;(repeat(refine Pn.mk ?_;intro N hN))))
 have Tq:o.cq<st_b.next:=bI0
 refine bh (fun n env st=>∃i:Nat,n=(k)-i/\i<=(k)/\env 12=.int .i64 (i:Int)/\st.get o=some ⟨true,1,dH L k⟩/\(∃oo rows ids,env 11=.own oo 0 rows.length/\st.get oo=some ⟨true,1,rows⟩/\eI OH st.get rows ((leads i L).map (members k L)) ids/\(∀x∈oo::ids,st_b.next<=x.cq/\x.cq<st.next)/\st_b.next<=st.next/\oo∉ids)) (k) ⟨0,by omega,by omega,sl (tw @b7 (tw @bg0 (tw @b0 (tw @b1 (tw @b5 (dP Tq)))))),sl (tw @b7 (tw @bg0 (tw @b0 (tw @b1 (tw @b5 (dP Tq)))))),⟨⟨214016000,st_b.next+1⟩,[],[],by(simp only[go_sem, ↓reduceIte,Nat.reduceEqDiff,Nat.reduceAdd,Nat.reduceSub,Nat.reduceLeDiff,reduceCtorEq])<;>rfl,sd @Nat.zero_add,.nil,fun x hx=>by rw[List.mem_singleton.1 hx];(try dsimp only);omega,by(try dsimp only);omega,by simp⟩⟩ ?_
 rintro n_d env_d st_d ⟨i,rfl,dle,d12,dg0,dI0⟩ dfr
 have d0:=dfr 0 (by kernel_rfl);have d5:=dfr 5 (by kernel_rfl)
 simp only[go_sem, ↓reduceIte,Nat.reduceEqDiff,Nat.reduceAdd,Nat.reduceSub,Nat.reduceLeDiff,reduceCtorEq,b7,bg0,b0,b1,b5,dP Tq]at d0 d5
 clear dfr
 obtain⟨oo,rows,ids,d11,dg,hR,nP,hle,xb⟩:=dI0
 have sK:=gI i L
 have se:=hR.len
 by_cases hi:(i:Int)<(k:Int)
 ·have tJ:∀{e:Env} {gg:Rows} {nx:Nat},(e 12=.int .i64 (IntKind.i64.wrap ((i:Int)+1)))->(gg o=some ⟨true,1,dH L k⟩)->(∃oo rows ids,e 11=.own oo 0 rows.length/\gg oo=some ⟨true,1,rows⟩/\eI OH gg rows ((leads (i+1) L).map (members k L)) ids/\(∀x∈oo::ids,st_b.next<=x.cq/\x.cq<nx)/\st_b.next<=nx/\oo∉ids)->∃m0,m0<(k)-i/\∃i:Nat,m0=(k)-i/\i<=(k)/\e 12=.int .i64 (i:Int)/\gg o=some ⟨true,1,dH L k⟩/\(∃oo rows ids,e 11=.own oo 0 rows.length/\gg oo=some ⟨true,1,rows⟩/\eI OH gg rows ((leads i L).map (members k L)) ids/\(∀x∈oo::ids,st_b.next<=x.cq/\x.cq<nx)/\st_b.next<=nx/\oo∉ids):=fun x1 x2 x3=>⟨_,by omega,i+1,rfl,by omega,(by rw[x1,aC (by omega)]),x2,x3⟩
  have fB:i<k:=by omega
  have hC:=fq (f:=L) fB
  have pM:=dP (i:=o) (n:=st_d.next) (by omega)
  have Qq:=dP (i:=oo) (n:=st_d.next) (nP oo (by simp)).2
  by_cases he:L i=i
  ·rw[if_pos he]at sK
   have w7:decide ((L i:Int)=(i:Int))=true:=decide_eq_true (by rw[he])
   rw[eN]at hC
   (try((repeat(revert hN;revert N;apply Pn.out));refine wk (tw @d12 (tw @dg0 (tw @d0 (tw @d5 (tw @d11 (tw @dg (tw @hi (tw @hC (tw @tl (tw @w7 (tw @pM @Qq))))))))))) ?_;(repeat(refine Pn.mk ?_;intro N hN))))
   refine bh (fun n env st=>∃m:Nat,n=((k-i))-m/\m<=((k-i))/\env 14=(.int .i64 ((i+m:Nat):Int))/\(∃pp:Id,env 13=.own pp 0 (members (i+m) L i).length/\st.get pp=some ⟨true,1,(members (i+m) L i).map eN⟩/\st_d.next<=pp.cq/\pp.cq<st.next/\(∀x:Id,x.cq<st_d.next->st.get x=st_d.get x)/\st_d.next<=st.next)) ((k-i)) ⟨0,by omega,by omega,sl (tw @d12 (tw @dg0 (tw @d0 (tw @d5 @d11)))),⟨⟨214021000,st_d.next+1+1⟩,by rw[show members (i+0) L i=[]from mQ hL (Nat.le_refl i)];(simp only[go_sem, ↓reduceIte,Nat.reduceEqDiff,Nat.reduceAdd,Nat.reduceSub,Nat.reduceLeDiff,reduceCtorEq])<;>rfl,by rw[show members (i+0) L i=[]from mQ hL (Nat.le_refl i)];(simp only[go_sem, ↓reduceIte,Nat.reduceEqDiff,Nat.reduceAdd,Nat.reduceSub,Nat.reduceLeDiff,reduceCtorEq])<;>rfl,by(try dsimp only);omega,by(try dsimp only);omega,fun x hx=>sd (dP hx),by(try dsimp only);omega⟩⟩ ?_
   rintro n_f env_f st_f ⟨m,rfl,fle,f14,fI0⟩ ffr
   have f0:=ffr 0 (by kernel_rfl);have f5:=ffr 5 (by kernel_rfl);have f11:=ffr 11 (by kernel_rfl);have f12:=ffr 12 (by kernel_rfl)
   simp only[go_sem, ↓reduceIte,Nat.reduceEqDiff,Nat.reduceAdd,Nat.reduceSub,Nat.reduceLeDiff,reduceCtorEq,d12,dg0,d0,d5,d11]at f0 f5 f11 f12
   clear ffr
   obtain⟨pp,f13,fg,NF,Mg,ik,pd⟩:=fI0
   have xt:st_f.get o=some ⟨true,1,dH L k⟩:=(ik o (by omega)).trans dg0
   have S9:st_f.get oo=some ⟨true,1,rows⟩:=(ik oo (nP oo (by simp)).2).trans dg
   have Ao:=dP Mg
   have Bn:=dP (i:=o) (n:=st_f.next) (by omega)
   have Qr:=dP (i:=oo) (n:=st_f.next) (by have:=(nP oo (by simp)).2;omega)
   have NB:members (i+(m+1)) L i=members (i+m) L i++if L (i+m)=i then[i+m]else[]:=jo (i+m) L i
   have Ti:(members (i+m) L i).length<=i+m:=by
    have:=List.length_filter_le (fun k=>L k==i) (List.range (i+m))
    simpa[members]using this
   have x1:=cZ (a:=o) (b:=pp) (by omega)
   have x2:=cZ (a:=oo) (b:=pp) (by have:=(nP oo (by simp)).2;omega)
   have x3:=cZ (a:=o) (b:=oo) (by have:=(nP oo (by simp)).1;omega)
   by_cases hm:m<k-i
   ·have rN:∀{e:Env} {gg:Rows} {nx:Nat},(e 14=(.int .i64 ((i+(m+1):Nat):Int)))->(∃pp:Id,e 13=.own pp 0 (members (i+(m+1)) L i).length/\gg pp=some ⟨true,1,(members (i+(m+1)) L i).map eN⟩/\st_d.next<=pp.cq/\pp.cq<nx/\(∀x:Id,x.cq<st_d.next->gg x=st_d.get x)/\st_d.next<=nx)->∃m0,m0<((k-i))-m/\∃m:Nat,m0=((k-i))-m/\m<=((k-i))/\e 14=(.int .i64 ((i+m:Nat):Int))/\(∃pp:Id,e 13=.own pp 0 (members (i+m) L i).length/\gg pp=some ⟨true,1,(members (i+m) L i).map eN⟩/\st_d.next<=pp.cq/\pp.cq<nx/\(∀x:Id,x.cq<st_d.next->gg x=st_d.get x)/\st_d.next<=nx):=fun x1 x2=>⟨_,by omega,m+1,rfl,by omega,x1,x2⟩
    have Qc:((i+m:Nat):Int)<(k:Int):=by omega
    have Sw:=fq (f:=L) (show i+m<k by omega)
    have hw:IntKind.i64.wrap (((i+m:Nat):Int)+1)=((i+(m+1):Nat):Int):=by rw[bQ (by omega)];omega
    rw[eN]at Sw
    by_cases hq:L (i+m)=i
    ·have l7:decide ((L (i+m):Int)=(i:Int))=true:=decide_eq_true (by rw[hq])
     rw[if_pos hq]at NB
     have e1:(members (i+m) L i).length+1<=16777216:=by omega
     have nA:((members (i+m) L i).map eN).length=(members (i+m) L i).length:=by simp
     (try((repeat(revert hN;revert N;apply Pn.out));refine wk (tw @f14 (tw @f0 (tw @f5 (tw @f11 (tw @f12 (tw @f13 (tw @fg (tw @xt (tw @Qc (tw @Sw (tw @tl (tw @l7 (tw @Ao (tw @Bn (tw @x1 (tw @e1 @nA)))))))))))))))) ?_;(repeat(refine Pn.mk ?_;intro N hN))))
     exact rN (sd (tw @f14 (tw @f0 (tw @f5 (tw @f11 (tw @f12 (tw @xt (tw @hw (tw @Bn @x1))))))))) (⟨⟨214026003,st_f.next+1+1⟩,by rw[NB,List.length_append];simp only[go_sem, ↓reduceIte,Nat.reduceEqDiff,Nat.reduceAdd,Nat.reduceSub,Nat.reduceLeDiff,reduceCtorEq,List.length_cons,List.length_nil],by rw[NB,List.map_append,List.map_cons,List.map_nil];simp only[go_sem, ↓reduceIte,Nat.reduceEqDiff,Nat.reduceAdd,Nat.reduceSub,Nat.reduceLeDiff,reduceCtorEq,eN],by(try dsimp only);omega,by(try dsimp only);omega,fun x hx=>by
      have y1:=ik x hx
      have y2:=cZ (a:=x) (b:=pp) (by omega)
      simp only[go_sem, ↓reduceIte,Nat.reduceEqDiff,Nat.reduceAdd,Nat.reduceSub,Nat.reduceLeDiff,reduceCtorEq,dP (show x.cq<st_f.next by omega),y1,y2],by(try dsimp only);omega⟩)
    ·have l7:decide ((L (i+m):Int)=(i:Int))=false:=decide_eq_false fun h=>hq (by omega)
     rw[if_neg hq,List.append_nil]at NB
     (try((repeat(revert hN;revert N;apply Pn.out));refine wk (tw @f14 (tw @f0 (tw @f5 (tw @f11 (tw @f12 (tw @f13 (tw @fg (tw @xt (tw @Qc (tw @Sw (tw @tl (tw @l7 (tw @Ao (tw @Bn @x1)))))))))))))) ?_;(repeat(refine Pn.mk ?_;intro N hN))))
     exact rN (sd (tw @f14 (tw @f0 (tw @f5 (tw @f11 (tw @f12 (tw @xt @hw))))))) (⟨pp,by rw[NB];simp only[go_sem, ↓reduceIte,Nat.reduceEqDiff,Nat.reduceAdd,Nat.reduceSub,Nat.reduceLeDiff,reduceCtorEq,f13],by rw[NB];simp only[go_sem, ↓reduceIte,Nat.reduceEqDiff,Nat.reduceAdd,Nat.reduceSub,Nat.reduceLeDiff,reduceCtorEq,fg],NF,by(try dsimp only);omega,ik,by(try dsimp only);omega⟩)
   ·have hmk:i+m=k:=by omega
    have Qc:¬((i+m:Nat):Int)<(k:Int):=by omega
    rw[hmk]at f13 fg Ti
    have e1:rows.length+1<=16777216:=by
     have:=jL i L
     rw[se,List.length_map];omega
    (try((repeat(revert hN;revert N;apply Pn.out));refine wk (tw @f14 (tw @f0 (tw @f5 (tw @f11 (tw @f12 (tw @f13 (tw @fg (tw @xt (tw @S9 (tw @Qc (tw @Ao (tw @Bn (tw @Qr (tw @x1 (tw @x2 @e1))))))))))))))) ?_;(repeat(refine Pn.mk ?_;intro N hN))))
    refine tJ ?_ ?_ (⟨⟨214027003,st_f.next+1⟩,rows++[[.own pp 0 (members k L i).length]],ids++[pp],by rw[List.length_append];simp only[go_sem, ↓reduceIte,Nat.reduceEqDiff,Nat.reduceAdd,Nat.reduceSub,Nat.reduceLeDiff,reduceCtorEq,List.length_cons,List.length_nil],sd @Nat.zero_add,by
      rw[sK,List.map_append]
      refine(hR.frame Lc fun x hx=>?_).app (.one ⟨pp,rfl,?_,rfl⟩)
      ·have h1:=nP x (by simp[hx])
       have y1:=ik x h1.2
       have y2:=cZ (a:=x) (b:=pp) (by omega)
       have y3:(x=oo)=False:=by
        simp only[eq_iff_iff,iff_false]
        rintro rfl
        exact xb hx
       simp only[go_sem, ↓reduceIte,Nat.reduceEqDiff,Nat.reduceAdd,Nat.reduceSub,Nat.reduceLeDiff,reduceCtorEq,dP (show x.cq<st_f.next by omega),y1,y2,y3]
      ·simp only[go_sem, ↓reduceIte,Nat.reduceEqDiff,Nat.reduceAdd,Nat.reduceSub,Nat.reduceLeDiff,reduceCtorEq,Ao,x2,fg],fun x hx=>by
      rcases List.mem_cons.1 hx with rfl|hx
      ·(try dsimp only);omega
      ·rcases List.mem_append.1 hx with hx|hx
       ·have:=nP x (by simp[hx]);(try dsimp only);omega
       ·rw[List.mem_singleton.1 hx];(try dsimp only);omega,by(try dsimp only);omega,fun hc=>by
      rcases List.mem_append.1 hc with hc|hc
      ·have:=(nP _ (List.mem_cons_of_mem _ hc)).2;(try dsimp only at this);omega
      ·have:=List.mem_singleton.1 hc;rw[<-this]at Mg;(try dsimp only at Mg);omega⟩)
    all_goals simp only[go_sem, ↓reduceIte,Nat.reduceEqDiff,Nat.reduceAdd,Nat.reduceSub,Nat.reduceLeDiff,reduceCtorEq,f14,f0,f5,f11,f12,xt,Bn,x3]
  ·rw[if_neg he,List.append_nil]at sK
   have w7:decide ((L i:Int)=(i:Int))=false:=decide_eq_false fun h=>he (by omega)
   rw[eN]at hC
   (try((repeat(revert hN;revert N;apply Pn.out));refine wk (tw @d12 (tw @dg0 (tw @d0 (tw @d5 (tw @d11 (tw @dg (tw @hi (tw @hC (tw @tl (tw @w7 (tw @pM @Qq))))))))))) ?_;(repeat(refine Pn.mk ?_;intro N hN))))
   refine tJ ?_ ?_ (⟨oo,rows,ids,sd @d11,sd @dg,by rw[sK];exact hR,fun x hx=>by have:=nP x hx;(try dsimp only);omega,by(try dsimp only);omega,xb⟩)
   all_goals simp only[go_sem, ↓reduceIte,Nat.reduceEqDiff,Nat.reduceAdd,Nat.reduceSub,Nat.reduceLeDiff,reduceCtorEq,d12,dg0,d0,d5]
 ·have uw:i=k:=by omega
  (try((repeat(revert hN;revert N;apply Pn.out));refine wk (tw @d12 (tw @dg0 (tw @d0 (tw @d5 (tw @d11 (tw @dg @hi)))))) ?_;(repeat(refine Pn.mk ?_;intro N hN))))
  refine wz (.inl rfl) (by simp only[go_sem, ↓reduceIte,Nat.reduceEqDiff,Nat.reduceAdd,Nat.reduceSub,Nat.reduceLeDiff,reduceCtorEq];rfl) ?_
  rw[uq dg (by simp) (rows':=(fv k L).map Aj) (by rw[List.drop_zero,List.take_of_length_le (Nat.le_refl _)];rw[uw]at hR;exact IJ 3 hR)]
end Go.Proofs.YtgoelphibofcmaaGreat.V

namespace Go.Proofs.YtgoelphibofcmaaGreat.V
open Go.RowKit
attribute [local irreducible] eh wpOps fI Call
attribute [local go_sem] aM fj eJ fF fE da upd cu K.av cI AV.cells AV.cell rowOf rowsOf part ld rowAt bK bV dq dM gy bD cY dY fA eS dk dR cW cV dD dE bG bc cL bF cP cN dO dS dQ cK bL cX dN bE aO cR cz gx bm cH bH aY dp bl dr AV.undef bt bz dF dL dy dC cF dX eb cw dV dU cQ cU List.getD_cons_zero List.getD_cons_succ List.getD_nil List.all_cons List.all_nil Bool.and_true Bool.true_and Bool.and_self Bool.not_true Bool.not_false Option.map_some Option.map_none Option.bind_some Option.bind_none List.length_cons List.length_nil List.take_succ_cons List.take_zero List.take_nil List.drop_succ_cons List.drop_zero List.drop_nil List.head?_cons List.map_cons List.map_nil List.getElem?_cons_zero List.getElem?_cons_succ List.cons_append List.nil_append List.append_nil List.length_map List.set_cons_zero List.set_cons_succ Nat.reduceMul eq_self Int.toNat_natCast Int.natCast_nonneg and_self true_and and_true decide_true decide_false Bool.false_eq_true Nat.zero_add Nat.add_zero List.contains_cons List.contains_nil Bool.or_false Bool.false_or beq_self_eq_true Nat.reduceBEq ne_eq not_true_eq_false not_false_eq_true Id.mk.injEq false_and and_false Nat.reduceLT Int.reduceLE Int.reduceLT Int.reduceToNat Int.reduceNeg Int.reduceAdd Nat.le_refl List.length_append beq_true beq_false Bool.not_eq_eq_eq_not or_false false_or dK aj ar aH bd br bW aT aZ aU bf cJ bw
theorem wR (n:Nat):List.replicate n [AV.int .i64 0]=dH (fun _=>0) n:=by
 refine List.ext_getElem? fun i=>?_
 by_cases h:i<n
 ·rw[fq h,List.getElem?_replicate,if_pos h];rfl
 ·rw[List.getElem?_eq_none (by simp;omega),List.getElem?_eq_none (by rw[ga];omega)]
def dh (cnt:Nat) (L:Nat->Nat) (i m:Nat):Nat->Nat:=fun x=>if cj L x<i then cj L x else if x∈(members cnt L ((leads cnt L).getD i 0)).take m then i else 0
theorem oL (cnt:Nat) (L:Nat->Nat):dh cnt L 0 0=fun _=>0:=by funext x;simp[dh]
theorem tN (t:Int) (bs:List PB) (k:Nat) (h:k<bs.length):aQ t (bs.take (k+1))=aQ t (bs.take k)++if t<=(bs[k]).s then[bs[k]]else[]:=by
 unfold aQ
 rw[List.take_succ_eq_append_getElem h,List.filter_append]
 congr 1
 by_cases h:t<=bs[k].s<;>simp[h]
theorem wL {t:Int} {bs:List PB} {b:PB} (h:b∈aQ t bs):b∈bs:=(List.mem_filter.1 h).1
theorem ni (t:Int) (bs:List PB):(aQ t bs).length<=bs.length:=List.length_filter_le _ _
theorem BD (cnt:Nat) (hn:cnt<=1048576) (bs:List PB) (hb:∀b∈bs,b.a<cnt/\b.b<cnt) (qq:bs.length<=1048576) (t:Int):au Tryz.prog 192 [.int .i64 cnt,.sl (bs.map aB),.int .i64 t] (.iO [.int .i64 (leads cnt (eD (aQ t bs))).length,.sl ((eY (eD (aQ t bs)) bs).map aB)]):=by
 refine au.body eG rfl fun hl n0=>?_
 clear hl
 (try((repeat(revert hN;revert N;apply Pn.out));refine wk @Nat.zero_add ?_;(repeat(refine Pn.mk ?_;intro N hN))))
 refine bh (fun n env st=>∃k:Nat,n=(bs.length)-k/\k<=(bs.length)/\env 9=.int .i64 (k:Int)/\(∃o:Id,env 8=.own o 0 (aQ t (bs.take k)).length/\st.get o=some ⟨true,3,(aQ t (bs.take k)).map aB⟩/\o.cq<st.next)) (bs.length) ⟨0,by omega,by omega,sl @Nat.zero_add,⟨⟨192001000,n0+1⟩,by(simp only[go_sem, ↓reduceIte,Nat.reduceEqDiff,Nat.reduceAdd,Nat.reduceSub,Nat.reduceLeDiff,reduceCtorEq])<;>rfl,by(simp only[go_sem, ↓reduceIte,Nat.reduceEqDiff,Nat.reduceAdd,Nat.reduceSub,Nat.reduceLeDiff,reduceCtorEq])<;>rfl,by(try dsimp only);omega⟩⟩ ?_
 rintro n_a env_a st_a ⟨k,rfl,ale,a9,lS⟩ dW
 have a0:=dW 0 (by kernel_rfl);have a1:=dW 1 (by kernel_rfl);have a2:=dW 2 (by kernel_rfl)
 simp only[go_sem, ↓reduceIte,Nat.reduceEqDiff,Nat.reduceAdd,Nat.reduceSub,Nat.reduceLeDiff,reduceCtorEq]at a0 a1 a2
 clear dW
 obtain⟨o,a8,ag,sb⟩:=lS
 have sf:=dP sb
 by_cases hk:(k:Int)<(bs.length:Int)
 ·have cG:∀{e:Env} {gg:Rows} {nx:Nat},(e 9=.int .i64 (IntKind.i64.wrap ((k:Int)+1)))->(∃o:Id,e 8=.own o 0 (aQ t (bs.take (k+1))).length/\gg o=some ⟨true,3,(aQ t (bs.take (k+1))).map aB⟩/\o.cq<nx)->∃m0,m0<(bs.length)-k/\∃k:Nat,m0=(bs.length)-k/\k<=(bs.length)/\e 9=.int .i64 (k:Int)/\(∃o:Id,e 8=.own o 0 (aQ t (bs.take k)).length/\gg o=some ⟨true,3,(aQ t (bs.take k)).map aB⟩/\o.cq<nx):=fun x1 x2=>⟨_,by omega,k+1,rfl,by omega,(by rw[x1,aC (by omega)]),x2⟩
  have fw:k<bs.length:=by omega
  have eQ:(bs.map aB)[k]? =some (aB bs[k]):=by simp[fw]
  have hs:=tN t bs k fw
  have Df:=ni t (bs.take k)
  rw[List.length_take]at Df
  by_cases hc:t<=(bs[k]).s
  ·rw[if_pos hc]at hs
   have e1:(aQ t (bs.take k)).length+1<=16777216:=by omega
   have nA:((aQ t (bs.take k)).map aB).length=(aQ t (bs.take k)).length:=by simp
   generalize bs[k]=b at *
   (try((repeat(revert hN;revert N;apply Pn.out));refine wk (tw @a9 (tw @a0 (tw @a1 (tw @a2 (tw @a8 (tw @ag (tw @sf (tw @hk (tw @eQ (tw @hc (tw @e1 (tw @nA @aB.eq_1)))))))))))) ?_;(repeat(refine Pn.mk ?_;intro N hN))))
   exact cG (sd (tw @a9 (tw @a0 (tw @a1 @a2)))) (⟨⟨192006006,st_a.next+1+1⟩,by rw[hs,List.length_append];simp only[go_sem, ↓reduceIte,Nat.reduceEqDiff,Nat.reduceAdd,Nat.reduceSub,Nat.reduceLeDiff,reduceCtorEq,List.length_cons,List.length_nil],by rw[hs,List.map_append,List.map_cons,List.map_nil];simp only[go_sem, ↓reduceIte,Nat.reduceEqDiff,Nat.reduceAdd,Nat.reduceSub,Nat.reduceLeDiff,reduceCtorEq,aB],by(try dsimp only);omega⟩)
  ·rw[if_neg hc,List.append_nil]at hs
   generalize bs[k]=b at *
   (try((repeat(revert hN;revert N;apply Pn.out));refine wk (tw @a9 (tw @a0 (tw @a1 (tw @a2 (tw @a8 (tw @ag (tw @sf (tw @hk (tw @eQ (tw @hc @aB.eq_1)))))))))) ?_;(repeat(refine Pn.mk ?_;intro N hN))))
   exact cG (sd (tw @a9 (tw @a0 (tw @a1 @a2)))) (⟨o,by rw[hs];simp only[go_sem, ↓reduceIte,Nat.reduceEqDiff,Nat.reduceAdd,Nat.reduceSub,Nat.reduceLeDiff,reduceCtorEq,a8],by rw[hs];simp only[go_sem, ↓reduceIte,Nat.reduceEqDiff,Nat.reduceAdd,Nat.reduceSub,Nat.reduceLeDiff,reduceCtorEq,ag],by(try dsimp only);omega⟩)
 have lO:k=bs.length:=by omega
 subst lO
 rw[List.take_length]at a8 ag
 have G6:=BB cnt hn (aQ t bs) (fun b h=>hb b (wL h)) (by have:=ni t bs;omega)
 have hL:=tF (aQ t bs)
 have Bd:fz (dK st_a.get) 6 (.own o 0 (aQ t bs).length)=some (.sl ((aQ t bs).map aB)):=gG (sz:=3) (by simp[dK,ag]) rfl fun b=>ze _ 4 b
 have S8:∀x,dd (dK st_a.get) 6 [.int .i64 x,.own o 0 (aQ t bs).length]=some [.int .i64 x,.sl ((aQ t bs).map aB)]:=fun x=>by simp only[aj,ar,aH,Bd,Option.map_some]
 (try((repeat(revert hN;revert N;apply Pn.out));refine wk (tw @a9 (tw @a0 (tw @a1 (tw @a2 (tw @a8 @hk))))) ?_;(repeat(refine Pn.mk ?_;intro N hN))))
 refine .inl ⟨_,au.x G6 (S8 _),?_⟩
 refine hN _ _ ?_
 clear hN N
 generalize eD (aQ t bs)=L at *
 have sJ:((fv cnt L).map Aj).length=(leads cnt L).length:=by simp[fv]
 have RB:=jL cnt L
 have jF:(0:Int)<=(cnt:Int):=by omega
 have mK:(cnt:Int)<=((16777216:Nat):Int):=by omega
 have gC:List.replicate cnt [AV.int .i64 0]=dH (dh cnt L 0 0) cnt:=by rw[wR,oL]
 (try((repeat(revert hN;revert N;apply Pn.out));refine wk (tw @a9 (tw @a0 (tw @a1 (tw @a2 (tw @jF (tw @mK @Int.le_refl)))))) ?_;(repeat(refine Pn.mk ?_;intro N hN))))
 refine bh (fun n env st=>∃i:Nat,n=((leads cnt L).length)-i/\i<=((leads cnt L).length)/\env 12=.int .i64 (i:Int)/\st.get ⟨192008001,st_a.next+1+1⟩=some ⟨true,1,dH (dh cnt L i 0) cnt⟩/\(st_a.next+1+1<st.next)) ((leads cnt L).length) ⟨0,by omega,by omega,sl (tw @a9 (tw @a0 (tw @a1 (tw @a2 @gC)))),sl (tw @a9 (tw @a0 (tw @a1 (tw @a2 @gC)))),(by(try dsimp only);omega)⟩ ?_
 rintro n_c env_c st_c ⟨i,rfl,cle,yZ,cg0,cI0⟩ cfr
 have c1:=cfr 1 (by kernel_rfl);have ju:=cfr 10 (by kernel_rfl);have nG:=cfr 11 (by kernel_rfl)
 simp only[go_sem, ↓reduceIte,Nat.reduceEqDiff,Nat.reduceAdd,Nat.reduceSub,Nat.reduceLeDiff,reduceCtorEq,a9,a0,a1,a2,gC]at c1 ju nG
 clear cfr
 by_cases hi:(i:Int)<((leads cnt L).length:Int)
 ·have gW:∀{e:Env} {gg:Rows} {nx:Nat},(e 12=.int .i64 (IntKind.i64.wrap ((i:Int)+1)))->(gg ⟨192008001,st_a.next+1+1⟩=some ⟨true,1,dH (dh cnt L (i+1) 0) cnt⟩)->(st_a.next+1+1<nx)->∃m0,m0<((leads cnt L).length)-i/\∃i:Nat,m0=((leads cnt L).length)-i/\i<=((leads cnt L).length)/\e 12=.int .i64 (i:Int)/\gg ⟨192008001,st_a.next+1+1⟩=some ⟨true,1,dH (dh cnt L i 0) cnt⟩/\(st_a.next+1+1<nx):=fun x1 x2 x3=>⟨_,by omega,i+1,rfl,by omega,(by rw[x1,aC (by omega)]),x2,x3⟩
  have fB:i<(leads cnt L).length:=by omega
  have k9:((fv cnt L).map Aj)[i]? =some (Aj (members cnt L (leads cnt L)[i])):=by simp[fv,fB]
  have tu:(leads cnt L).getD i 0=(leads cnt L)[i]:=by simp[List.getD_eq_getElem?_getD,fB]
  have k5:∀m,dh cnt L i m=fun x=>if cj L x<i then cj L x else if x∈(members cnt L (leads cnt L)[i]).take m then i else 0:=fun m=>by unfold dh;rw[tu]
  have rn:=fun x (hx:x<cnt)=>sR hL (n:=cnt) (k:=x) (i:=i) hx fB
  have mm:(members cnt L (leads cnt L)[i]).Nodup:=List.nodup_range.filter _
  have NA:∀x∈members cnt L (leads cnt L)[i],x<cnt:=fun x hx=>(ly.1 hx).1
  have hMc:(members cnt L (leads cnt L)[i]).length<=cnt:=by
   have:=List.length_filter_le (fun k=>L k==(leads cnt L)[i]) (List.range cnt)
   simpa[members]using this
  generalize members cnt L (leads cnt L)[i]=M at *
  have Cp:(M.map eN).length=M.length:=by simp
  (try((repeat(revert hN;revert N;apply Pn.out));refine wk (tw @yZ (tw @cg0 (tw @c1 (tw @ju (tw @nG (tw @hi @sJ)))))) ?_;(repeat(refine Pn.mk ?_;intro N hN))))
  refine bh (fun n env st=>∃m:Nat,n=(M.length)-m/\m<=(M.length)/\env 13=.int .i64 (m:Int)/\st.get ⟨192008001,st_a.next+1+1⟩=some ⟨true,1,dH (dh cnt L i m) cnt⟩/\(st_a.next+1+1<st.next)) (M.length) ⟨0,by omega,by omega,sl (tw @yZ (tw @cg0 (tw @c1 (tw @ju @nG)))),sl (tw @yZ (tw @cg0 (tw @c1 (tw @ju @nG)))),(by(try dsimp only);omega)⟩ ?_
  rintro n_d env_d st_d ⟨m,rfl,dle,d13,dg0,dI0⟩ dfr
  have d1:=dfr 1 (by kernel_rfl);have d10:=dfr 10 (by kernel_rfl);have d11:=dfr 11 (by kernel_rfl);have d12:=dfr 12 (by kernel_rfl)
  simp only[go_sem, ↓reduceIte,Nat.reduceEqDiff,Nat.reduceAdd,Nat.reduceSub,Nat.reduceLeDiff,reduceCtorEq,yZ,cg0,c1,ju,nG]at d1 d10 d11 d12
  clear dfr
  have tl:=ga (dh cnt L i m) cnt
  by_cases hm:(m:Int)<(M.length:Int)
  ·have tJ:∀{e:Env} {gg:Rows} {nx:Nat},(e 13=.int .i64 (IntKind.i64.wrap ((m:Int)+1)))->(gg ⟨192008001,st_a.next+1+1⟩=some ⟨true,1,dH (dh cnt L i (m+1)) cnt⟩)->(st_a.next+1+1<nx)->∃m0,m0<(M.length)-m/\∃m:Nat,m0=(M.length)-m/\m<=(M.length)/\e 13=.int .i64 (m:Int)/\gg ⟨192008001,st_a.next+1+1⟩=some ⟨true,1,dH (dh cnt L i m) cnt⟩/\(st_a.next+1+1<nx):=fun x1 x2 x3=>⟨_,by omega,m+1,rfl,by omega,(by rw[x1,aC (by omega)]),x2,x3⟩
   have zr:m<M.length:=by omega
   have vH:(M.map eN)[m]? =some (eN M[m]):=by simp[zr]
   have vO:=NA _ (List.getElem_mem zr)
   have Ct:(M[m]:Int)<(cnt:Int):=by omega
   have Cs:=fq (f:=dh cnt L i m) vO
   have eP:(dH (dh cnt L i m) cnt).set M[m] (eN i)=dH (dh cnt L i (m+1)) cnt:=pz vO (by
    have h1:=(rn _ vO).1 (List.getElem_mem zr)
    rw[k5]
    simp only[]
    rw[if_neg (by omega),if_pos (by rw[List.take_succ_eq_append_getElem zr];exact List.mem_append_right _ (List.mem_singleton.2 rfl))]) fun x hx gM=>by
    rw[k5,k5]
    simp only[]
    rw[List.take_succ_eq_append_getElem zr]
    simp only[List.mem_append,List.mem_singleton,gM,or_false]
   rw[eN]at eP Cs
   generalize M[m]=xm at *
   (try((repeat(revert hN;revert N;apply Pn.out));refine wk (tw @d13 (tw @dg0 (tw @d1 (tw @d10 (tw @d11 (tw @d12 (tw @hm (tw @hi (tw @k9 (tw @sJ (tw @vH (tw @Cp (tw @Ct (tw @Cs (tw @tl (tw @eP (tw @Aj.eq_1 @eN.eq_1))))))))))))))))) ?_;(repeat(refine Pn.mk ?_;intro N hN))))
   refine tJ ?_ ?_ (by(try dsimp only);omega)
   all_goals simp only[go_sem, ↓reduceIte,Nat.reduceEqDiff,Nat.reduceAdd,Nat.reduceSub,Nat.reduceLeDiff,reduceCtorEq,d13,dg0,d1,d10,d11,d12,eP]
  ·have nA:m=M.length:=by omega
   subst nA
   have pd:dH (dh cnt L i M.length) cnt=dH (dh cnt L (i+1) 0) cnt:=gS fun x hx=>by
    rw[k5,List.take_length]
    simp only[dh,List.take_zero,List.not_mem_nil,if_false]
    have h1:=rn x hx
    by_cases h2:cj L x<i
    ·rw[if_pos h2,if_pos (by omega)]
    ·rw[if_neg h2]
     by_cases h3:x∈M
     ·rw[if_pos h3,if_pos (by have:=h1.1 h3;omega),h1.1 h3]
     ·rw[if_neg h3,if_neg fun h4=>h3 (h1.2 (by omega))]
   (try((repeat(revert hN;revert N;apply Pn.out));refine wk (tw @d13 (tw @dg0 (tw @d1 (tw @d10 (tw @d11 (tw @d12 (tw @hm (tw @hi (tw @k9 (tw @sJ (tw @Cp @Aj.eq_1))))))))))) ?_;(repeat(refine Pn.mk ?_;intro N hN))))
   refine gW ?_ ?_ (by(try dsimp only);omega)
   all_goals simp only[go_sem, ↓reduceIte,Nat.reduceEqDiff,Nat.reduceAdd,Nat.reduceSub,Nat.reduceLeDiff,reduceCtorEq,yZ,cg0,c1,ju,nG,d13,dg0,d1,d10,d11,d12,pd]
 have nI:i=(leads cnt L).length:=by omega
 subst nI
 have xb:dH (dh cnt L (leads cnt L).length 0) cnt=dH (cj L) cnt:=gS fun x hx=>by rw[dh,if_pos (jY hL hx)]
 rw[xb]at cg0
 have tl:=ga (cj L) cnt
 (try((repeat(revert hN;revert N;apply Pn.out));refine wk (tw @yZ (tw @cg0 (tw @c1 (tw @ju (tw @nG (tw @hi @sJ)))))) ?_;(repeat(refine Pn.mk ?_;intro N hN))))
 have Rp:st_a.next+1+1<st_c.next:=cI0
 refine bh (fun n env st=>∃j:Nat,n=(bs.length)-j/\j<=(bs.length)/\env 15=.int .i64 (j:Int)/\st.get ⟨192008001,st_a.next+1+1⟩=some ⟨true,1,dH (cj L) cnt⟩/\(∃p:Id,env 14=.own p 0 (eY L (bs.take j)).length/\st.get p=some ⟨true,3,(eY L (bs.take j)).map aB⟩/\st_c.next<=p.cq/\p.cq<st.next)) (bs.length) ⟨0,by omega,by omega,sl (tw @yZ (tw @cg0 (tw @c1 (tw @ju @nG)))),sl (tw @yZ (tw @cg0 (tw @c1 (tw @ju @nG)))),⟨⟨192016000,st_c.next+1⟩,by(simp only[go_sem, ↓reduceIte,Nat.reduceEqDiff,Nat.reduceAdd,Nat.reduceSub,Nat.reduceLeDiff,reduceCtorEq])<;>rfl,by(simp only[go_sem, ↓reduceIte,Nat.reduceEqDiff,Nat.reduceAdd,Nat.reduceSub,Nat.reduceLeDiff,reduceCtorEq])<;>rfl,by(try dsimp only);omega,by(try dsimp only);omega⟩⟩ ?_
 rintro n_f env_f st_f ⟨j,rfl,fle,f15,fg0,fI0⟩ ffr
 have f1:=ffr 1 (by kernel_rfl);have f10:=ffr 10 (by kernel_rfl);have f11:=ffr 11 (by kernel_rfl)
 simp only[go_sem, ↓reduceIte,Nat.reduceEqDiff,Nat.reduceAdd,Nat.reduceSub,Nat.reduceLeDiff,reduceCtorEq,yZ,cg0,c1,ju,nG]at f1 f10 f11
 clear ffr
 obtain⟨p,f14,fg,NF,Mg⟩:=fI0
 have x1:=cZ (a:=⟨192008001,st_a.next+1+1⟩) (b:=p) (by(try dsimp only);omega)
 have Ao:=dP Mg
 have hvn:st_a.next+1+1<st_f.next:=by omega
 have Ix:=dP (i:=⟨192008001,st_a.next+1+1⟩) (n:=st_f.next) hvn
 have Df:=(nh L (bs.take j)).2
 rw[List.length_take]at Df
 by_cases hj:(j:Int)<(bs.length:Int)
 ·have rN:∀{e:Env} {gg:Rows} {nx:Nat},(e 15=.int .i64 (IntKind.i64.wrap ((j:Int)+1)))->(gg ⟨192008001,st_a.next+1+1⟩=some ⟨true,1,dH (cj L) cnt⟩)->(∃p:Id,e 14=.own p 0 (eY L (bs.take (j+1))).length/\gg p=some ⟨true,3,(eY L (bs.take (j+1))).map aB⟩/\st_c.next<=p.cq/\p.cq<nx)->∃m0,m0<(bs.length)-j/\∃j:Nat,m0=(bs.length)-j/\j<=(bs.length)/\e 15=.int .i64 (j:Int)/\gg ⟨192008001,st_a.next+1+1⟩=some ⟨true,1,dH (cj L) cnt⟩/\(∃p:Id,e 14=.own p 0 (eY L (bs.take j)).length/\gg p=some ⟨true,3,(eY L (bs.take j)).map aB⟩/\st_c.next<=p.cq/\p.cq<nx):=fun x1 x2 x3=>⟨_,by omega,j+1,rfl,by omega,(by rw[x1,aC (by omega)]),x2,x3⟩
  have jv:j<bs.length:=by omega
  have G5:(bs.map aB)[j]? =some (aB bs[j]):=by simp[jv]
  have L7:=hb _ (List.getElem_mem jv)
  have hs:=zT L (bs.take j) bs[j]
  rw[<-List.take_succ_eq_append_getElem jv]at hs
  generalize bs[j]=b at *
  have hA:=fq (f:=cj L) L7.1
  have hB:=fq (f:=cj L) L7.2
  have gz:(b.a:Int)<(cnt:Int):=by omega
  have fS:(b.b:Int)<(cnt:Int):=by omega
  have Rg:=Bz (cj L b.a) (cj L b.b)
  have Rh:=By (cj L b.a) (cj L b.b)
  rw[eN]at hA hB
  by_cases he:cj L b.a=cj L b.b
  ·rw[if_pos he,List.append_nil]at hs
   have w7:decide ((cj L b.a:Int)=(cj L b.b:Int))=true:=decide_eq_true (by rw[he])
   (try((repeat(revert hN;revert N;apply Pn.out));refine wk (tw @f15 (tw @fg0 (tw @f1 (tw @f10 (tw @f11 (tw @f14 (tw @fg (tw @hj (tw @G5 (tw @hA (tw @hB (tw @gz (tw @fS (tw @tl (tw @w7 (tw @x1 (tw @Ao @aB.eq_1))))))))))))))))) ?_;(repeat(refine Pn.mk ?_;intro N hN))))
   refine rN ?_ ?_ (⟨p,by rw[hs];simp only[go_sem, ↓reduceIte,Nat.reduceEqDiff,Nat.reduceAdd,Nat.reduceSub,Nat.reduceLeDiff,reduceCtorEq,f14],by rw[hs];simp only[go_sem, ↓reduceIte,Nat.reduceEqDiff,Nat.reduceAdd,Nat.reduceSub,Nat.reduceLeDiff,reduceCtorEq,fg],NF,by(try dsimp only);omega⟩)
   all_goals simp only[go_sem, ↓reduceIte,Nat.reduceEqDiff,Nat.reduceAdd,Nat.reduceSub,Nat.reduceLeDiff,reduceCtorEq,f15,fg0,f1,f10,f11]
  ·rw[if_neg he]at hs
   have w7:decide ((cj L b.a:Int)=(cj L b.b:Int))=false:=decide_eq_false fun h=>he (by omega)
   have e1:(eY L (bs.take j)).length+1<=16777216:=by omega
   have nA:((eY L (bs.take j)).map aB).length=(eY L (bs.take j)).length:=by simp
   (repeat(first|((repeat(revert hN;revert N;apply Pn.out));refine wk (tw @f15 (tw @fg0 (tw @f1 (tw @f10 (tw @f11 (tw @f14 (tw @fg (tw @hj (tw @G5 (tw @hA (tw @hB (tw @gz (tw @fS (tw @tl (tw @w7 (tw @x1 (tw @Ao (tw @Ix (tw @e1 (tw @nA @aB.eq_1)))))))))))))))))))) ?_;(repeat(refine Pn.mk ?_;intro N hN)))|((try apply Or.inl);refine⟨_,au.x (Rg) (sd (tw @f15 (tw @fg0 (tw @f1 (tw @f10 (tw @f11 (tw @f14 (tw @fg (tw @hj (tw @G5 (tw @hA (tw @hB (tw @gz (tw @fS (tw @tl (tw @w7 (tw @x1 (tw @Ao (tw @Ix (tw @e1 (tw @nA @aB.eq_1))))))))))))))))))))),?_⟩;refine hN _ _ ?_;clear hN N)|((try apply Or.inl);refine⟨_,au.x (Rh) (sd (tw @f15 (tw @fg0 (tw @f1 (tw @f10 (tw @f11 (tw @f14 (tw @fg (tw @hj (tw @G5 (tw @hA (tw @hB (tw @gz (tw @fS (tw @tl (tw @w7 (tw @x1 (tw @Ao (tw @Ix (tw @e1 (tw @nA @aB.eq_1))))))))))))))))))))),?_⟩;refine hN _ _ ?_;clear hN N)))
   refine rN ?_ ?_ (⟨⟨192023014,st_f.next+1+1+1+1⟩,by rw[hs,List.length_append];simp only[go_sem, ↓reduceIte,Nat.reduceEqDiff,Nat.reduceAdd,Nat.reduceSub,Nat.reduceLeDiff,reduceCtorEq,List.length_cons,List.length_nil],by rw[hs,List.map_append,List.map_cons,List.map_nil];simp only[go_sem, ↓reduceIte,Nat.reduceEqDiff,Nat.reduceAdd,Nat.reduceSub,Nat.reduceLeDiff,reduceCtorEq,aB],by(try dsimp only);omega,by(try dsimp only);omega⟩)
   all_goals simp only[go_sem, ↓reduceIte,Nat.reduceEqDiff,Nat.reduceAdd,Nat.reduceSub,Nat.reduceLeDiff,reduceCtorEq,f15,fg0,f1,f10,f11,x1,Ix]
 ·have gV:j=bs.length:=by omega
  subst gV
  rw[List.take_length]at f14 fg
  (try((repeat(revert hN;revert N;apply Pn.out));refine wk (tw @f15 (tw @fg0 (tw @f1 (tw @f10 (tw @f11 (tw @f14 (tw @hj @sJ))))))) ?_;(repeat(refine Pn.mk ?_;intro N hN))))
  refine js (.inl rfl) (r1:=.int .i64 ((leads cnt L).length:Int)) (sd @Nat.zero_add) (by simp only[go_sem, ↓reduceIte,Nat.reduceEqDiff,Nat.reduceAdd,Nat.reduceSub,Nat.reduceLeDiff,reduceCtorEq];rfl) ?_
  have h1:gn st_f.get 5 (.own p 0 (eY L bs).length)=some (.sl ((eY L bs).map aB)):=fG (sz:=3) fg rfl fun b=>uo _ 3 b
  simp only[eM,bJ,cD,eA,h1,Option.map_some]
end Go.Proofs.YtgoelphibofcmaaGreat.V

namespace Go.Proofs.YtgoelphibofcmaaGreat.V
def Eg (bs:List PB) (e v:Nat):Prop:=(cE bs e).a=v∨(cE bs e).b=v
def iS (bs:List PB) (m v:Nat):List Nat:=(List.range m).filter fun i=>(cE bs i).a==v||(cE bs i).b==v
theorem rG {bs:List PB} {m v e:Nat}:e∈iS bs m v↔e<m/\Eg bs e v:=by simp[iS,Eg]
theorem F1 (bs:List PB) (m v:Nat):iS bs (m+1) v=iS bs m v++if (cE bs m).a=v∨(cE bs m).b=v then[m]else[]:=by
 unfold iS
 rw[List.range_succ,List.filter_append]
 congr 1
 by_cases h:(cE bs m).a=v<;>by_cases h2:(cE bs m).b=v<;>simp[h,h2]
theorem rF (bs:List PB) (m v:Nat):(iS bs m v).length<=m:=by
 have:=List.length_filter_le (fun i=>(cE bs i).a==v||(cE bs i).b==v) (List.range m)
 simpa[iS]using this
def nr (cnt:Nat) (bs:List PB):Prop:=∀e,e<bs.length->(cE bs e).a<cnt/\(cE bs e).b<cnt/\(cE bs e).a≠(cE bs e).b
theorem oO {cnt:Nat} {bs:List PB} (h:nr cnt bs) {e v:Nat} (he:e<bs.length):ck bs e v<cnt:=by
 have:=h e he;unfold ck;split;exact this.2.1;exact this.1
theorem I1 {cnt:Nat} {bs:List PB} (h:nr cnt bs) {e v:Nat} (he:e<bs.length) (hi:Eg bs e v):ck bs e v≠v:=by
 have h1:=(h e he).2.2
 unfold ck
 split
 ·rename_i ha;rw[<-ha];exact fun h=>h1 h.symm
 ·rename_i ha;rcases hi with hi|hi
  ·exact absurd hi ha
  ·rw[<-hi];exact h1
theorem yH {bs:List PB} {e v:Nat}:Eg bs e (ck bs e v):=by
 unfold ck Eg;split
 ·exact .inr rfl
 ·exact .inl rfl
theorem oP {cnt:Nat} {bs:List PB} (h:nr cnt bs) {e v:Nat} (he:e<bs.length) (hi:Eg bs e v):ck bs e (ck bs e v)=v:=by
 have h1:=(h e he).2.2
 unfold ck
 by_cases ha:(cE bs e).a=v
 ·rw[if_pos ha,if_neg h1];exact ha
 ·rw[if_neg ha,if_pos rfl]
  rcases hi with hi|hi
  ·exact absurd hi ha
  ·exact hi
structure yT (cnt:Nat) (bs:List PB) (f:Nat->Int) (y:Nat) (out:Nat->Int):Prop where
 lo:∀v,v<cnt->-1<=out v/\out v<=cnt
 first:out y=0
 zero:∀v,v<cnt->out v=0->v=y
 down:∀v,v<cnt->0<out v->∃e,e<bs.length/\Eg bs e v/\0<fH bs f e v/\out (ck bs e v)=out v-1
 shut:∀e v,e<bs.length->Eg bs e v->0<=out (ck bs e v)->0<fH bs f e v->0<=out v
structure Ah (cnt:Nat) (bs:List PB) (f:Nat->Int) (y:Nat) (out:Nat->Int) (Q:List Nat) (i:Nat):Prop where
 nd:Q.Nodup
 lt:∀x∈Q,x<cnt
 iff:∀v,v<cnt->(0<=out v↔v∈Q)
 lo:∀v,v<cnt->-1<=out v
 first:out y=0
 up:∀j (h:j<Q.length),out Q[j]<=j
 zero:∀v,v<cnt->out v=0->v=y
 down:∀v,v<cnt->0<out v->∃e,e<bs.length/\Eg bs e v/\0<fH bs f e v/\out (ck bs e v)=out v-1
 shut:∀j (h:j<Q.length),j<i->∀e,e<bs.length->Eg bs e Q[j]->0<fH bs f e (ck bs e Q[j])->0<=out (ck bs e Q[j])
section
variable {cnt:Nat} {bs:List PB} {f:Nat->Int} {y:Nat} {out:Nat->Int} {Q:List Nat} {i:Nat}
theorem Ah.start (hy:y<cnt):Ah cnt bs f y (fun v=>if v=y then 0 else -1) [y] 0 where
 nd:=by simp
 lt:=fun x hx=>by rw[List.mem_singleton.1 hx];exact hy
 iff:=fun v _=>by
  by_cases h:v=y<;>simp[h]
 lo:=fun v _=>by split<;>omega
 first:=if_pos rfl
 up:=fun j h=>by
  have:j=0:=by simp at h;omega
  subst this;simp
 zero:=fun v _ h=>by
  by_cases hv:v=y
  ·exact hv
  ·rw[if_neg hv]at h;omega
 down:=fun v _ h=>by
  by_cases hv:v=y
  ·rw[if_pos hv]at h;omega
  ·rw[if_neg hv]at h;omega
 shut:=fun j h hj=>by omega
theorem Ah.len (h:Ah cnt bs f y out Q i):Q.length<=cnt:=oM cnt Q h.nd h.lt
theorem Ah.visit (h:Ah cnt bs f y out Q i) (ok:nr cnt bs) (hi:i<Q.length) {e:Nat} (he:e<bs.length) (pK:Eg bs e Q[i]) (jW:out (ck bs e Q[i])<0) (eL:0<fH bs f e (ck bs e Q[i])):
  Ah cnt bs f y (fun v=>if v=ck bs e Q[i]then out Q[i]+1 else out v) (Q++[ck bs e Q[i]]) i:=by
 have An:0<=out Q[i]:=(h.iff _ (h.lt _ (List.getElem_mem hi))).2 (List.getElem_mem hi)
 have hq:=oO ok (v:=Q[i]) he
 have gM:=I1 ok he pK
 have RG:=oP ok he pK
 have Tm:ck bs e Q[i]∉Q:=fun hm=>by have:=(h.iff _ hq).2 hm;omega
 have k5:=h.up i hi
 generalize hw:ck bs e Q[i]=w at *
 have uf:∀v,0<=out v->(if v=w then out Q[i]+1 else out v)=out v:=fun v hv=>by
  rw[if_neg];rintro rfl;omega
 have mono:∀v,0<=out v->0<=(if v=w then out Q[i]+1 else out v):=fun v hv=>by rw[uf v hv];exact hv
 refine⟨?_,?_,?_,?_,?_,?_,?_,?_,?_⟩
 ·rw[List.nodup_append]
  exact⟨h.nd,by simp,fun a ha b hb=>by rw[List.mem_singleton.1 hb];rintro rfl;exact Tm ha⟩
 ·intro x hx
  rcases List.mem_append.1 hx with hx|hx
  ·exact h.lt x hx
  ·rw[List.mem_singleton.1 hx];exact hq
 ·intro v hv
  by_cases EP:v=w
  ·subst EP;simp;omega
  ·rw[if_neg EP,h.iff v hv];simp[EP]
 ·intro v hv
  by_cases EP:v=w
  ·rw[if_pos EP];omega
  ·rw[if_neg EP];exact h.lo v hv
 ·rw[uf y (by rw[h.first];exact Int.le_refl _)];exact h.first
 ·intro j hj
  by_cases gV:j<Q.length
  ·rw[List.getElem_append_left gV,uf _ ((h.iff _ (h.lt _ (List.getElem_mem gV))).2 (List.getElem_mem gV))]
   exact h.up j gV
  ·have KI:j=Q.length:=by simp at hj;omega
   subst KI
   simp
   omega
 ·intro v hv h0
  by_cases EP:v=w
  ·rw[if_pos EP]at h0;omega
  ·rw[if_neg EP]at h0;exact h.zero v hv h0
 ·intro v hv h0
  by_cases EP:v=w
  ·subst EP
   rw[if_pos rfl]
   refine⟨e,he,by rw[<-hw];exact yH,eL,?_⟩
   rw[RG,uf _ An];omega
  ·rw[if_neg EP]at h0 ⊢
   obtain⟨e',h1,h2,h3,h4⟩:=h.down v hv h0
   exact⟨e',h1,h2,h3,by rw[uf _ (by omega)];exact h4⟩
 ·intro j hj ml e' KE Md hr
  have gV:j<Q.length:=by omega
  rw[List.getElem_append_left gV]at Md hr ⊢
  exact mono _ (h.shut j gV ml e' KE Md hr)
theorem Ah.next (h:Ah cnt bs f y out Q i) (hi:i<Q.length) (hs:∀e∈iS bs bs.length Q[i],0<fH bs f e (ck bs e Q[i])->0<=out (ck bs e Q[i])):Ah cnt bs f y out Q (i+1):=
 ⟨h.nd,h.lt,h.iff,h.lo,h.first,h.up,h.zero,h.down,fun j hj ml e he pK hr=>by
  by_cases KI:j=i
  ·subst KI;exact hs e (rG.2 ⟨he,pK⟩) hr
  ·exact h.shut j hj (by omega) e he pK hr⟩
theorem Ah.done (h:Ah cnt bs f y out Q i) (ok:nr cnt bs) (hi:Q.length<=i):yT cnt bs f y out where
 lo:=fun v hv=>⟨h.lo v hv,by
  by_cases h0:0<=out v
  ·obtain⟨j,hj,rfl⟩:=List.getElem_of_mem ((h.iff v hv).1 h0)
   have:=h.up j hj
   have:=h.len
   omega
  ·omega⟩
 first:=h.first
 zero:=h.zero
 down:=h.down
 shut:=fun e v he pK h0 hr=>by
  obtain⟨j,hj,OS⟩:=List.getElem_of_mem ((h.iff _ (oO ok he)).1 h0)
  have h2:=h.shut j hj (by omega) e he (by rw[OS];exact yH)
  rw[OS,oP ok he pK]at h2
  exact h2 hr
end
end Go.Proofs.YtgoelphibofcmaaGreat.V

namespace Go.Proofs.YtgoelphibofcmaaGreat.V
open Go.RowKit
attribute [local irreducible] eh wpOps fI Call
attribute [local go_sem] aM fj eJ fF fE da upd cu K.av cI AV.cells AV.cell rowOf rowsOf part ld rowAt bK bV dq dM gy bD cY dY fA eS dk dR cW cV dD dE bG bc cL bF cP cN dO dS dQ cK bL cX dN bE aO cR cz gx bm cH bH aY dp bl dr AV.undef bt bz dF dL dy dC cF dX eb cw dV dU cQ cU List.getD_cons_zero List.getD_cons_succ List.getD_nil List.all_cons List.all_nil Bool.and_true Bool.true_and Bool.and_self Bool.not_true Bool.not_false Option.map_some Option.map_none Option.bind_some Option.bind_none List.length_cons List.length_nil List.take_succ_cons List.take_zero List.take_nil List.drop_succ_cons List.drop_zero List.drop_nil List.head?_cons List.map_cons List.map_nil List.getElem?_cons_zero List.getElem?_cons_succ List.cons_append List.nil_append List.append_nil List.length_map List.set_cons_zero List.set_cons_succ Nat.reduceMul eq_self Int.toNat_natCast Int.natCast_nonneg and_self true_and and_true decide_true decide_false Bool.false_eq_true Nat.zero_add Nat.add_zero List.contains_cons List.contains_nil Bool.or_false Bool.false_or beq_self_eq_true Nat.reduceBEq ne_eq not_true_eq_false not_false_eq_true Id.mk.injEq false_and and_false Nat.reduceLT Int.reduceLE Int.reduceLT Int.reduceToNat Int.reduceNeg Int.reduceAdd Nat.le_refl List.length_append beq_true beq_false Bool.not_eq_eq_eq_not or_false false_or dK aj ar aH bd br bW aT aZ aU bf cJ bw
def lQ (P:Program) (f:Nat) (args:List AV) (R:AV->Prop):Prop:=∀n:Nat,Call P f args ⟨fun _=>none,n⟩ fun r0 σ'=>∃r',gn σ'.get 6 r0=some r'/\R r'
theorem au.r {P:Program} {f:Nat} {args:List AV} {r:AV} (h:au P f args r):lQ P f args (fun r'=>r'=r):=h
theorem FI {P:Program} {f:Nat} {args eF:List AV} {g:Rows} {n:Nat} {R:AV->Prop} (hv:dd (dK g) 6 args=some eF) (h:Sound P f eF ⟨fun _=>none,n⟩ fun r0 σ'=>∃r',gn σ'.get 6 r0=some r'/\R r'):Sound P f args ⟨g,n⟩ fun r σ'=>R r/\σ'=⟨g,n⟩:=by
 intro hs D ι w vs S U A
 refine(xL (g0:=g) (K:=R) ⟨eF,hv,h⟩ (fun _ _ h=>h) S U A).mono ?_
 rintro e w' ⟨r,D',u,rfl,hR,T,S',hr⟩
 exact⟨r,g,n,D',ι,u,rfl,⟨hR,rfl⟩,T,S',U,Nat.le_refl _,hr⟩
theorem lQ.x {P:Program} (hm:P.follows .mixedOrders=true) {f:Nat} {args eF:List AV} {R:AV->Prop} (h:lQ P f eF R) {σ:aw} (hv:dd (dK σ.get) 6 args=some eF):Call P f args σ fun r σ'=>R r/\σ'=σ:=
 gD (FI hv (ib hm (h σ.next)))
theorem lQ.body {P:Program} {f:Nat} {args:List AV} {R:AV->Prop} {nt na:Nat} {body:VC} {res:List oj} (hf:lZ P f=some ⟨nt,na,body,res⟩) (ha:na=args.length) (h:(∀a∈args,eH a)->∀n:Nat,eh (Call P) body (kS res fun r0 σ'=>∃r',gn σ'.get 6 r0=some r'/\R r') (cu args) ⟨fun _=>none,n⟩):lQ P f args R:=fun n=>lR hf ha fun hl=>h hl n
def ek (f:Nat->Int) (n:Nat):List (List AV):=(List.range n).map fun i=>bu (f i)
theorem dG (f:Nat->Int) (n:Nat):(ek f n).length=n:=by simp[ek]
theorem ec {f:Nat->Int} {n i:Nat} (h:i<n):(ek f n)[i]? =some (bu (f i)):=by simp[ek,h]
theorem kX {f g:Nat->Int} {n k:Nat} {v:Int} (hk:k<n) (hv:g k=v) (h:∀i,i<n->i≠k->g i=f i):(ek f n).set k (bu v)=ek g n:=by
 refine List.ext_getElem? fun i=>?_
 rw[List.getElem?_set]
 by_cases hi:k=i
 ·subst hi
  rw[if_pos rfl,dG,if_pos hk,ec hk,hv]
 ·rw[if_neg hi]
  by_cases fB:i<n
  ·rw[ec fB,ec fB,h i fB (fun h=>hi h.symm)]
  ·rw[List.getElem?_eq_none (by rw[dG];omega),List.getElem?_eq_none (by rw[dG];omega)]
theorem GJ (f:Nat->Int) (n:Nat):ek f (n+1)=ek f n++[bu (f n)]:=by simp[ek,List.range_succ]
theorem fzI (g:Rows) (n:Nat) (a:Int):dd g (n+1) (bu a)=some (bu a):=by simp[bu,aj,ar,aH]
theorem Sq (g:Rows) (n:Nat) (a:Int):ew g (n+1) (bu a)=some (bu a):=by simp[bu,bJ,cD,eA]
theorem Jt {g:Rows} {f:Nat->Int} {n m:Nat}:gU g (m+1) (ek f n)=some (ek f n):=by
 have:ek f n=((List.range n).map f).map bu:=by simp[ek]
 rw[this];exact tr fun x=>Sq g m x
theorem z7 {g:Rows} {f:Nat->Int} {n m:Nat}:ev g (m+1) (ek f n)=some (ek f n):=by
 have:ek f n=((List.range n).map f).map bu:=by simp[ek]
 rw[this];exact qm fun x=>fzI g m x
def Ob (l:List Nat):AV:=if l=[]then .bq else .sl (l.map eN)
def p9 (cnt:Nat) (bs:List PB) (m:Nat):List (List AV):=(List.range cnt).map fun v=>[Ob (iS bs m v)]
theorem CH {cnt:Nat} {bs:List PB} {m v:Nat} (h:v<cnt):(p9 cnt bs m)[v]? =some [Ob (iS bs m v)]:=by simp[p9,h]
def fR (cnt:Nat) (bs:List PB) (f:Nat->Int):List AV:=[.int .i64 cnt,.sl (bs.map aB),.sl (p9 cnt bs bs.length),.sl (ek f bs.length)]
theorem uj {bs:List PB} {e:Nat} (h:e<bs.length):(bs.map aB)[e]? =some (aB (cE bs e)):=getD_map aB h
def Small (bs:List PB) (f:Nat->Int):Prop:=∀e,e<bs.length->(0<=(cE bs e).s/\(cE bs e).s<=4)/\-4<=f e/\f e<=4
theorem Jg (cnt:Nat) (bs:List PB) (f:Nat->Int) (hs:Small bs f) (e v:Nat) (he:e<bs.length):au Tryz.prog 260 [.di (fR cnt bs f),.int .i64 v,.int .i64 e] (.iO [.int .i64 (fH bs f e v),.int .i64 (ck bs e v)]):=by
 refine au.body eG rfl fun hl n0=>?_
 clear hl
 have hb:=uj he
 have hf:=ec (f:=f) he
 obtain⟨⟨s0,s1⟩,s2,s3⟩:=hs e he
 have w1:IntKind.i64.wrap ((cE bs e).s-f e)=(cE bs e).s-f e:=bQ (by omega)
 have w2:IntKind.i64.wrap ((cE bs e).s+f e)=(cE bs e).s+f e:=bQ (by omega)
 unfold fH ck
 generalize cE bs e=b at *
 by_cases h:b.a=v
 ·have hd:decide ((b.a:Int)=(v:Int))=true:=decide_eq_true (by rw[h])
  (try((repeat(revert hN;revert N;apply Pn.out));refine wk (tw @fR.eq_1 (tw @hb (tw @hf (tw @aB.eq_1 (tw @bu.eq_1 (tw @hd (tw @w1 @w2))))))) ?_;(repeat(refine Pn.mk ?_;intro N hN))))
  refine js (.inl rfl) (by simp only[go_sem, ↓reduceIte,Nat.reduceEqDiff,Nat.reduceAdd,Nat.reduceSub,Nat.reduceLeDiff,reduceCtorEq];rfl) (by simp only[go_sem, ↓reduceIte,Nat.reduceEqDiff,Nat.reduceAdd,Nat.reduceSub,Nat.reduceLeDiff,reduceCtorEq];rfl) ?_
  simp only[eM,bJ,cD,eA,Option.map_some,if_pos h]
 ·have hd:decide ((b.a:Int)=(v:Int))=false:=decide_eq_false fun hc=>h (by omega)
  (try((repeat(revert hN;revert N;apply Pn.out));refine wk (tw @fR.eq_1 (tw @hb (tw @hf (tw @aB.eq_1 (tw @bu.eq_1 (tw @hd (tw @w1 @w2))))))) ?_;(repeat(refine Pn.mk ?_;intro N hN))))
  refine js (.inl rfl) (by simp only[go_sem, ↓reduceIte,Nat.reduceEqDiff,Nat.reduceAdd,Nat.reduceSub,Nat.reduceLeDiff,reduceCtorEq];rfl) (by simp only[go_sem, ↓reduceIte,Nat.reduceEqDiff,Nat.reduceAdd,Nat.reduceSub,Nat.reduceLeDiff,reduceCtorEq];rfl) ?_
  simp only[eM,bJ,cD,eA,Option.map_some,if_neg h]
theorem E8 (cnt:Nat) (hn:cnt<=1048576) (bs:List PB) (ok:nr cnt bs) (qq:bs.length<=1048576) (f:Nat->Int) (hs:Small bs f) (y:Nat) (hy:y<cnt):
  lQ Tryz.prog 239 [.di (fR cnt bs f),.int .i64 y] fun r=>∃out,r=.sl (ek out cnt)/\yT cnt bs f y out:=by
 refine lQ.body eG rfl fun hl n0=>?_
 clear hl
 (try((repeat(revert hN;revert N;apply Pn.out));refine wk @fR.eq_1 ?_;(repeat(refine Pn.mk ?_;intro N hN))))
 refine bh (fun n env st=>∃k:Nat,n=(cnt)-k/\k<=(cnt)/\env 6=.int .i64 (k:Int)/\(∃o:Id,env 5=.own o 0 k/\st.get o=some ⟨true,1,ek (fun _=>-1) k⟩/\o.cq<st.next)) (cnt) ⟨0,by omega,by omega,sl @fR.eq_1,⟨⟨239001000,n0+1⟩,by(simp only[go_sem, ↓reduceIte,Nat.reduceEqDiff,Nat.reduceAdd,Nat.reduceSub,Nat.reduceLeDiff,reduceCtorEq])<;>rfl,by(simp only[go_sem, ↓reduceIte,Nat.reduceEqDiff,Nat.reduceAdd,Nat.reduceSub,Nat.reduceLeDiff,reduceCtorEq])<;>rfl,by(try dsimp only);omega⟩⟩ ?_
 rintro n_a env_a st_a ⟨k,rfl,ale,a6,lS⟩ dW
 have a0:=dW 0 (by kernel_rfl);have a1:=dW 1 (by kernel_rfl)
 simp only[go_sem, ↓reduceIte,Nat.reduceEqDiff,Nat.reduceAdd,Nat.reduceSub,Nat.reduceLeDiff,reduceCtorEq,fR]at a0 a1
 clear dW
 obtain⟨o,a5,ag,sb⟩:=lS
 have tl:=dG (fun _=>-1) k
 have sf:=dP sb
 by_cases hk:(k:Int)<(cnt:Int)
 ·have cG:∀{e:Env} {gg:Rows} {nx:Nat},(e 6=.int .i64 (IntKind.i64.wrap ((k:Int)+1)))->(∃o:Id,e 5=.own o 0 (k+1)/\gg o=some ⟨true,1,ek (fun _=>-1) (k+1)⟩/\o.cq<nx)->∃m0,m0<(cnt)-k/\∃k:Nat,m0=(cnt)-k/\k<=(cnt)/\e 6=.int .i64 (k:Int)/\(∃o:Id,e 5=.own o 0 k/\gg o=some ⟨true,1,ek (fun _=>-1) k⟩/\o.cq<nx):=fun x1 x2=>⟨_,by omega,k+1,rfl,by omega,(by rw[x1,aC (by omega)]),x2⟩
  have e1:k+1<=16777216:=by omega
  have sK:ek (fun _=>-1) k++[[.int .i64 (-1)]]=ek (fun _=>-1) (k+1):=(GJ _ _).symm
  (try((repeat(revert hN;revert N;apply Pn.out));refine wk (tw @a6 (tw @a0 (tw @a1 (tw @a5 (tw @ag (tw @sf (tw @hk (tw @tl (tw @e1 (tw @sK @fR.eq_1)))))))))) ?_;(repeat(refine Pn.mk ?_;intro N hN))))
  exact cG (sd (tw @a6 (tw @a0 (tw @a1 @fR.eq_1)))) (⟨⟨239005002,st_a.next+1⟩,sd @Nat.zero_add,sd @sK,by(try dsimp only);omega⟩)
 have lO:k=cnt:=by omega
 subst lO
 have RT:(y:Int)<(k:Int):=by omega
 have hym:=ec (f:=fun _=>-1) hy
 have Bl:(ek (fun _=>-1) k).set y (bu 0)=ek (fun v=>if v=y then 0 else -1) k:=kX hy (if_pos rfl) fun i _ hi=>if_neg hi
 rw[bu]at Bl hym
 (try((repeat(revert hN;revert N;apply Pn.out));refine wk (tw @a6 (tw @a0 (tw @a1 (tw @a5 (tw @ag (tw @sf (tw @hk (tw @tl (tw @RT (tw @hym (tw @Bl @fR.eq_1))))))))))) ?_;(repeat(refine Pn.mk ?_;intro N hN))))
 refine bh (fun m env st=>∃(i:Nat) (out:Nat->Int) (Q:List Nat) (p:Id),m=k-i/\env 8=.int .i64 (i:Int)/\env 7=.own p 0 Q.length/\st.get p=some ⟨true,1,Q.map eN⟩/\st.get o=some ⟨true,1,ek out k⟩/\o.cq<p.cq/\p.cq<st.next/\Ah k bs f y out Q i/\i<=Q.length) k ⟨0,_,[y],⟨239007001,st_a.next+1+1⟩,by omega,by(simp only[go_sem, ↓reduceIte,Nat.reduceEqDiff,Nat.reduceAdd,Nat.reduceSub,Nat.reduceLeDiff,reduceCtorEq])<;>rfl,by(simp only[go_sem, ↓reduceIte,Nat.reduceEqDiff,Nat.reduceAdd,Nat.reduceSub,Nat.reduceLeDiff,reduceCtorEq])<;>rfl,by(simp only[go_sem, ↓reduceIte,Nat.reduceEqDiff,Nat.reduceAdd,Nat.reduceSub,Nat.reduceLeDiff,reduceCtorEq])<;>rfl,sd @sf,by(try dsimp only);omega,by(try dsimp only);omega,Ah.start hy,by simp⟩ ?_
 rintro n env_b st_b ⟨i,out,Q,p,rfl,b8,b7,bgp,bgo,er,hpn,hB,hiq⟩ gQ
 have b0:=gQ 0 (by kernel_rfl)
 have b5:=gQ 5 (by kernel_rfl)
 simp only[go_sem, ↓reduceIte,Nat.reduceEqDiff,Nat.reduceAdd,Nat.reduceSub,Nat.reduceLeDiff,reduceCtorEq,a6,a0,a1,a5,fR]at b0 b5
 clear gQ
 have RJ:=hB.len
 have RY:=dG out k
 have hqm:(Q.map eN).length=Q.length:=by simp
 have Ao:=dP hpn
 have pM:=dP (i:=o) (n:=st_b.next) (by omega)
 by_cases hi:(i:Int)<(Q.length:Int)
 ·have fB:i<Q.length:=by omega
  have k9:(Q.map eN)[i]? =some (eN Q[i]):=by simp[fB]
  have An:=hB.lt _ (List.getElem_mem fB)
  obtain⟨vt,NQ⟩:∃vt,vt=Q[i]:=⟨_,rfl⟩
  rw[<-NQ]at k9 An
  have hA:=CH (cnt:=k) (bs:=bs) (m:=bs.length) An
  have KV:(vt:Int)<(k:Int):=by omega
  have nI:=rF bs bs.length vt
  have hme:∀x,x<(iS bs bs.length vt).length->(iS bs bs.length vt).getD x 0<bs.length/\Eg bs ((iS bs bs.length vt).getD x 0) vt:=fun x hx=>by
   rw[List.getD_eq_getElem?_getD,List.getElem?_eq_getElem hx]
   exact rG.1 (List.getElem_mem hx)
  have Qd:∀e∈iS bs bs.length vt,∃x,x<(iS bs bs.length vt).length/\(iS bs bs.length vt).getD x 0=e:=fun e he=>by
   obtain⟨x,hx,rfl⟩:=List.getElem_of_mem he
   exact⟨x,hx,by rw[List.getD_eq_getElem?_getD,List.getElem?_eq_getElem hx];rfl⟩
  generalize hIn:iS bs bs.length vt=I at *
  unfold Ob at hA
  by_cases SE:I=[]
  ·rw[if_pos SE]at hA
   have hI1:I.length=0:=by rw[SE];rfl
   (try((repeat(revert hN;revert N;apply Pn.out));refine wk (tw @b0 (tw @b5 (tw @b7 (tw @b8 (tw @bgp (tw @hi (tw @k9 (tw @hqm (tw @eN.eq_1 @fR.eq_1))))))))) ?_;(repeat(refine Pn.mk ?_;intro N hN))))
   refine bh (fun n env st=>∃x:Nat,n=(I.length)-x/\x<=(I.length)/\env 10=.int .i64 (x:Int)/\(∃(iK:Nat->Int) (Q':List Nat) (p':Id),env 7=.own p' 0 Q'.length/\st.get p'=some ⟨true,1,Q'.map eN⟩/\st.get o=some ⟨true,1,ek iK k⟩/\o.cq<p'.cq/\p'.cq<st.next/\Ah k bs f y iK Q' i/\(∃h:i<Q'.length,Q'[i]=vt)/\(∀z,z<x->0<fH bs f (I.getD z 0) (ck bs (I.getD z 0) vt)->0<=iK (ck bs (I.getD z 0) vt)))) (I.length) ⟨0,by omega,by omega,sl (tw @b0 (tw @b5 (tw @b8 @fR.eq_1))),⟨out,Q,p,sd @b7,sd @bgp,sd @bgo,er,by(try dsimp only);omega,hB,⟨fB,NQ.symm⟩,fun z hz=>by omega⟩⟩ ?_
   rintro n_c env_c st_c ⟨x,rfl,cle,ju,cI0⟩ cfr
   have c0:=cfr 0 (by kernel_rfl);have c5:=cfr 5 (by kernel_rfl);have c8:=cfr 8 (by kernel_rfl);have c9:=cfr 9 (by kernel_rfl)
   simp only[go_sem, ↓reduceIte,Nat.reduceEqDiff,Nat.reduceAdd,Nat.reduceSub,Nat.reduceLeDiff,reduceCtorEq,b0,b5,b8,fR]at c0 c5 c8 c9
   clear cfr
   obtain⟨iK,Q',p',c7,HD,xV,Dd,NG,dJ,⟨xu,qw⟩,J4⟩:=cI0
   have Ty:=dJ.len
   have Oe:=dG iK k
   have NI:(Q'.map eN).length=Q'.length:=by simp
   have zw:=dP NG
   have l9:=dP (i:=o) (n:=st_c.next) (by omega)
   have x1:=cZ Dd
   have hx:¬(x:Int)<((0:Nat):Int):=by omega
   have hxe:x=I.length:=by omega
   have hw:IntKind.i64.wrap ((i:Int)+1)=((i+1:Nat):Int):=aC (by omega)
   (try((repeat(revert hN;revert N;apply Pn.out));refine wk (tw @ju (tw @c0 (tw @c5 (tw @c8 (tw @c9 (tw @c7 (tw @hx (tw @hA (tw @KV @fR.eq_1))))))))) ?_;(repeat(refine Pn.mk ?_;intro N hN))))
   refine⟨_,?_,i+1,iK,Q',p',rfl,sd (tw @ju (tw @c0 (tw @c5 (tw @c8 (tw @c9 @hw))))),sd @c7,sd @HD,sd @xV,Dd,by(try dsimp only);omega,dJ.next xu fun e he hr=>?_,by omega⟩
   ·omega
   ·rw[qw,hIn]at he
    rw[qw]at hr ⊢
    obtain⟨z,hz,rfl⟩:=Qd e he
    exact J4 z (by omega) hr
  ·rw[if_neg SE]at hA
   have qp:(I.map eN).length=I.length:=by simp
   (try((repeat(revert hN;revert N;apply Pn.out));refine wk (tw @b0 (tw @b5 (tw @b7 (tw @b8 (tw @bgp (tw @hi (tw @k9 (tw @hqm (tw @eN.eq_1 @fR.eq_1))))))))) ?_;(repeat(refine Pn.mk ?_;intro N hN))))
   refine bh (fun n env st=>∃x:Nat,n=(I.length)-x/\x<=(I.length)/\env 10=.int .i64 (x:Int)/\(∃(iK:Nat->Int) (Q':List Nat) (p':Id),env 7=.own p' 0 Q'.length/\st.get p'=some ⟨true,1,Q'.map eN⟩/\st.get o=some ⟨true,1,ek iK k⟩/\o.cq<p'.cq/\p'.cq<st.next/\Ah k bs f y iK Q' i/\(∃h:i<Q'.length,Q'[i]=vt)/\(∀z,z<x->0<fH bs f (I.getD z 0) (ck bs (I.getD z 0) vt)->0<=iK (ck bs (I.getD z 0) vt)))) (I.length) ⟨0,by omega,by omega,sl (tw @b0 (tw @b5 (tw @b8 @fR.eq_1))),⟨out,Q,p,sd @b7,sd @bgp,sd @bgo,er,by(try dsimp only);omega,hB,⟨fB,NQ.symm⟩,fun z hz=>by omega⟩⟩ ?_
   rintro n_c env_c st_c ⟨x,rfl,cle,ju,cI0⟩ cfr
   have c0:=cfr 0 (by kernel_rfl);have c5:=cfr 5 (by kernel_rfl);have c8:=cfr 8 (by kernel_rfl);have c9:=cfr 9 (by kernel_rfl)
   simp only[go_sem, ↓reduceIte,Nat.reduceEqDiff,Nat.reduceAdd,Nat.reduceSub,Nat.reduceLeDiff,reduceCtorEq,b0,b5,b8,fR]at c0 c5 c8 c9
   clear cfr
   obtain⟨iK,Q',p',c7,HD,xV,Dd,NG,dJ,⟨xu,qw⟩,J4⟩:=cI0
   have Ty:=dJ.len
   have Oe:=dG iK k
   have NI:(Q'.map eN).length=Q'.length:=by simp
   have zw:=dP NG
   have l9:=dP (i:=o) (n:=st_c.next) (by omega)
   have x1:=cZ Dd
   by_cases hx:(x:Int)<(I.length:Int)
   ·have gW:∀{e:Env} {gg:Rows} {nx:Nat},(e 10=.int .i64 (IntKind.i64.wrap ((x:Int)+1)))->(∃(iK:Nat->Int) (Q':List Nat) (p':Id),e 7=.own p' 0 Q'.length/\gg p'=some ⟨true,1,Q'.map eN⟩/\gg o=some ⟨true,1,ek iK k⟩/\o.cq<p'.cq/\p'.cq<nx/\Ah k bs f y iK Q' i/\(∃h:i<Q'.length,Q'[i]=vt)/\(∀z,z<(x+1)->0<fH bs f (I.getD z 0) (ck bs (I.getD z 0) vt)->0<=iK (ck bs (I.getD z 0) vt)))->∃m0,m0<(I.length)-x/\∃x:Nat,m0=(I.length)-x/\x<=(I.length)/\e 10=.int .i64 (x:Int)/\(∃(iK:Nat->Int) (Q':List Nat) (p':Id),e 7=.own p' 0 Q'.length/\gg p'=some ⟨true,1,Q'.map eN⟩/\gg o=some ⟨true,1,ek iK k⟩/\o.cq<p'.cq/\p'.cq<nx/\Ah k bs f y iK Q' i/\(∃h:i<Q'.length,Q'[i]=vt)/\(∀z,z<x->0<fH bs f (I.getD z 0) (ck bs (I.getD z 0) vt)->0<=iK (ck bs (I.getD z 0) vt))):=fun x1 x2=>⟨_,by omega,x+1,rfl,by omega,(by rw[x1,aC (by omega)]),x2⟩
    have O9:x<I.length:=by omega
    have M7:(I.map eN)[x]? =some (eN (I.getD x 0)):=getD_map eN O9
    obtain⟨he,pK⟩:=hme x O9
    obtain⟨e,Rr⟩:∃e,e=I.getD x 0:=⟨_,rfl⟩
    rw[<-Rr]at M7 he pK
    have iH:=uj he
    have hq:=oO ok (v:=vt) he
    have RG:=oP ok he pK
    have NK:=Jg k bs f hs e (ck bs e vt) he
    have PW:=ok e he
    have pe:IntKind.i64.wrap (((cE bs e).a:Int)+((cE bs e).b:Int))=((cE bs e).a:Int)+((cE bs e).b:Int):=bQ (by omega)
    have yi:IntKind.i64.wrap (((cE bs e).a:Int)+((cE bs e).b:Int)-(vt:Int))=(ck bs e vt:Int):=by
     rw[bQ (by omega)]
     unfold ck
     rcases pK with h1|h1
     ·rw[if_pos h1];omega
     ·rw[if_neg fun h2=>PW.2.2 (h2.trans h1.symm)];omega
    have O2:(ck bs e vt:Int)<(k:Int):=by omega
    have Nt:=ec (f:=iK) hq
    have KG:=ec (f:=iK) An
    rw[fR]at NK
    have k5:=dJ.up i xu
    rw[qw]at k5
    have kh:=dJ.lo vt An
    have Mo:IntKind.i64.wrap (iK vt+1)=iK vt+1:=bQ (by omega)
    rw[bu]at Nt KG
    generalize w5:cE bs e=b at *
    by_cases jW:iK (ck bs e vt)<0
    ·by_cases eL:0<fH bs f e (ck bs e vt)
     ·have hV:=dJ.visit ok xu (e:=e) he (by rw[qw];exact pK) (by rw[qw];exact jW) (by rw[qw];exact eL)
      rw[qw]at hV
      have eP:(ek iK k).set (ck bs e vt) (bu (iK vt+1))=ek (fun v=>if v=ck bs e vt then iK vt+1 else iK v) k:=kX hq (if_pos rfl) fun v _ hv=>if_neg hv
      rw[bu]at eP
      have e1:Q'.length+1<=16777216:=by omega
      (repeat(first|((repeat(revert hN;revert N;apply Pn.out));refine wk (tw @ju (tw @c0 (tw @c5 (tw @c8 (tw @c9 (tw @c7 (tw @HD (tw @xV (tw @hx (tw @hA (tw @qp (tw @M7 (tw @KV (tw @iH (tw @pe (tw @yi (tw @O2 (tw @Nt (tw @KG (tw @jW (tw @eL (tw @Mo (tw @eP (tw @NI (tw @Oe (tw @zw (tw @l9 (tw @x1 (tw @e1 (tw @eN.eq_1 (tw @aB.eq_1 @fR.eq_1))))))))))))))))))))))))))))))) ?_;(repeat(refine Pn.mk ?_;intro N hN)))|((try apply Or.inl);refine⟨_,au.x (NK) (sd (tw @ju (tw @c0 (tw @c5 (tw @c8 (tw @c9 (tw @c7 (tw @HD (tw @xV (tw @hx (tw @hA (tw @qp (tw @M7 (tw @KV (tw @iH (tw @pe (tw @yi (tw @O2 (tw @Nt (tw @KG (tw @jW (tw @eL (tw @Mo (tw @eP (tw @NI (tw @Oe (tw @zw (tw @l9 (tw @x1 (tw @e1 (tw @eN.eq_1 (tw @aB.eq_1 @fR.eq_1)))))))))))))))))))))))))))))))),?_⟩;refine hN _ _ ?_;clear hN N)))
      exact gW (sd (tw @ju (tw @c0 (tw @c5 (tw @c8 @c9))))) (⟨_,Q'++[ck bs e vt],⟨239020003,st_c.next+1+1+1+1+1+1⟩,by rw[List.length_append];simp only[go_sem, ↓reduceIte,Nat.reduceEqDiff,Nat.reduceAdd,Nat.reduceSub,Nat.reduceLeDiff,reduceCtorEq,List.length_cons,List.length_nil],by rw[List.map_append,List.map_cons,List.map_nil];simp only[go_sem, ↓reduceIte,Nat.reduceEqDiff,Nat.reduceAdd,Nat.reduceSub,Nat.reduceLeDiff,reduceCtorEq,eN],sd (tw @l9 @x1),by(try dsimp only);omega,by(try dsimp only);omega,hV,⟨by simp;omega,by rw[List.getElem_append_left xu];exact qw⟩,fun z hz hr=>by
       by_cases Qz:z=x
       ·subst Qz
        rw[<-Rr,if_pos rfl]
        have:=(dJ.iff vt An).2 (by rw[<-qw];exact List.getElem_mem xu)
        omega
       ·have:=J4 z (by omega) hr
        split
        ·have:=(dJ.iff vt An).2 (by rw[<-qw];exact List.getElem_mem xu)
         omega
        ·exact this⟩)
     ·(repeat(first|((repeat(revert hN;revert N;apply Pn.out));refine wk (tw @ju (tw @c0 (tw @c5 (tw @c8 (tw @c9 (tw @c7 (tw @HD (tw @xV (tw @hx (tw @hA (tw @qp (tw @M7 (tw @KV (tw @iH (tw @pe (tw @yi (tw @O2 (tw @Nt (tw @jW (tw @eL (tw @Oe (tw @zw (tw @l9 (tw @x1 (tw @eN.eq_1 (tw @aB.eq_1 @fR.eq_1)))))))))))))))))))))))))) ?_;(repeat(refine Pn.mk ?_;intro N hN)))|((try apply Or.inl);refine⟨_,au.x (NK) (sd (tw @ju (tw @c0 (tw @c5 (tw @c8 (tw @c9 (tw @c7 (tw @HD (tw @xV (tw @hx (tw @hA (tw @qp (tw @M7 (tw @KV (tw @iH (tw @pe (tw @yi (tw @O2 (tw @Nt (tw @jW (tw @eL (tw @Oe (tw @zw (tw @l9 (tw @x1 (tw @eN.eq_1 (tw @aB.eq_1 @fR.eq_1))))))))))))))))))))))))))),?_⟩;refine hN _ _ ?_;clear hN N)))
      exact gW (sd (tw @ju (tw @c0 (tw @c5 (tw @c8 @c9))))) (⟨iK,Q',p',sd @c7,sd (tw @HD @zw),sd (tw @xV @l9),Dd,by(try dsimp only);omega,dJ,⟨xu,qw⟩,fun z hz hr=>by
       by_cases Qz:z=x
       ·subst Qz;rw[<-Rr]at hr;exact absurd hr eL
       ·exact J4 z (by omega) hr⟩)
    ·(repeat(first|((repeat(revert hN;revert N;apply Pn.out));refine wk (tw @ju (tw @c0 (tw @c5 (tw @c8 (tw @c9 (tw @c7 (tw @HD (tw @xV (tw @hx (tw @hA (tw @qp (tw @M7 (tw @KV (tw @iH (tw @pe (tw @yi (tw @O2 (tw @Nt (tw @jW (tw @Oe (tw @zw (tw @l9 (tw @x1 (tw @eN.eq_1 (tw @aB.eq_1 @fR.eq_1))))))))))))))))))))))))) ?_;(repeat(refine Pn.mk ?_;intro N hN)))|((try apply Or.inl);refine⟨_,au.x (NK) (sd (tw @ju (tw @c0 (tw @c5 (tw @c8 (tw @c9 (tw @c7 (tw @HD (tw @xV (tw @hx (tw @hA (tw @qp (tw @M7 (tw @KV (tw @iH (tw @pe (tw @yi (tw @O2 (tw @Nt (tw @jW (tw @Oe (tw @zw (tw @l9 (tw @x1 (tw @eN.eq_1 (tw @aB.eq_1 @fR.eq_1)))))))))))))))))))))))))),?_⟩;refine hN _ _ ?_;clear hN N)))
     exact gW (sd (tw @ju (tw @c0 (tw @c5 (tw @c8 @c9))))) (⟨iK,Q',p',sd @c7,sd (tw @HD @zw),sd (tw @xV @l9),Dd,by(try dsimp only);omega,dJ,⟨xu,qw⟩,fun z hz hr=>by
      by_cases Qz:z=x
      ·subst Qz;rw[<-Rr];omega
      ·exact J4 z (by omega) hr⟩)
   ·have hxe:x=I.length:=by omega
    have hw:IntKind.i64.wrap ((i:Int)+1)=((i+1:Nat):Int):=aC (by omega)
    (try((repeat(revert hN;revert N;apply Pn.out));refine wk (tw @ju (tw @c0 (tw @c5 (tw @c8 (tw @c9 (tw @c7 (tw @hx (tw @hA (tw @qp (tw @KV @fR.eq_1)))))))))) ?_;(repeat(refine Pn.mk ?_;intro N hN))))
    refine⟨_,?_,i+1,iK,Q',p',rfl,sd (tw @ju (tw @c0 (tw @c5 (tw @c8 (tw @c9 @hw))))),sd @c7,sd @HD,sd @xV,Dd,by(try dsimp only);omega,dJ.next xu fun e he hr=>?_,by omega⟩
    ·omega
    ·rw[qw,hIn]at he
     rw[qw]at hr ⊢
     obtain⟨z,hz,rfl⟩:=Qd e he
     exact J4 z (by omega) hr
 ·(try((repeat(revert hN;revert N;apply Pn.out));refine wk (tw @b0 (tw @b5 (tw @b7 (tw @b8 (tw @hi @fR.eq_1))))) ?_;(repeat(refine Pn.mk ?_;intro N hN))))
  have rl:gn st_b.get 6 (.own o 0 k)=some (.sl (ek out k)):=uq bgo (by rw[RY];omega) (by rw[List.drop_zero,List.take_of_length_le (by rw[RY];omega)];exact Jt)
  exact⟨_,rfl,_,by simp only[go_sem, ↓reduceIte,Nat.reduceEqDiff,Nat.reduceAdd,Nat.reduceSub,Nat.reduceLeDiff,reduceCtorEq,fh];exact rl,out,rfl,hB.done ok (by omega)⟩
end Go.Proofs.YtgoelphibofcmaaGreat.V

namespace Go.Proofs.YtgoelphibofcmaaGreat.V
open Go.RowKit
attribute [local irreducible] eh wpOps fI Call
attribute [local go_sem] aM fj eJ fF fE da upd cu K.av cI AV.cells AV.cell rowOf rowsOf part ld rowAt bK bV dq dM gy bD cY dY fA eS dk dR cW cV dD dE bG bc cL bF cP cN dO dS dQ cK bL cX dN bE aO cR cz gx bm cH bH aY dp bl dr AV.undef bt bz dF dL dy dC cF dX eb cw dV dU cQ cU List.getD_cons_zero List.getD_cons_succ List.getD_nil List.all_cons List.all_nil Bool.and_true Bool.true_and Bool.and_self Bool.not_true Bool.not_false Option.map_some Option.map_none Option.bind_some Option.bind_none List.length_cons List.length_nil List.take_succ_cons List.take_zero List.take_nil List.drop_succ_cons List.drop_zero List.drop_nil List.head?_cons List.map_cons List.map_nil List.getElem?_cons_zero List.getElem?_cons_succ List.cons_append List.nil_append List.append_nil List.length_map List.set_cons_zero List.set_cons_succ eq_self Int.toNat_natCast Int.natCast_nonneg and_self true_and and_true decide_true decide_false Bool.false_eq_true Nat.zero_add Nat.add_zero List.contains_cons List.contains_nil Bool.or_false Bool.false_or beq_self_eq_true ne_eq not_true_eq_false not_false_eq_true Id.mk.injEq false_and and_false Nat.le_refl List.length_append beq_true beq_false Bool.not_eq_eq_eq_not or_false false_or dK aj ar aH bd br bW aT aZ aU bf cJ bw
def OG:Cl (List Nat):=fun g cs x ids=>(x=[]/\cs=[.bq]/\ids=[])∨∃id,cs=[.own id 0 x.length]/\0<x.length/\g id=some ⟨true,1,x.map eN⟩/\ids=[id]
theorem Ms:xe OG 1 where
 frame:=fun h hf=>by
  rcases h with h|⟨id,h1,h0,h2,h3⟩
  ·exact .inl h
  ·subst h3;exact .inr ⟨id,h1,h0,(hf id (by simp)).trans h2,rfl⟩
 len:=fun h=>by rcases h with⟨_,h,_⟩|⟨id,h,_⟩<;>subst h<;>rfl
 cell:=fun h=>by rcases h with⟨_,h,_⟩|⟨id,h,_⟩<;>subst h<;>rfl
 live:=fun h i hi=>by
  rcases h with⟨_,_,h⟩|⟨id,h1,h0,h2,h3⟩
  ·subst h;cases hi
  ·subst h3
   have:i=id:=by simpa using hi
   subst this
   exact⟨_,h2,rfl,by simp[pO]⟩
 small:=by simp[pO]
theorem NY {g:Rows} {rows:List (List AV)} {xs:List (List Nat)} {ids:List Id} (n:Nat) (h:eI OG g rows xs ids):ev (dK g) (n+2) rows=some (xs.map fun l=>[Ob l]):=
 h.fz (fun {cs x ids} h=>by
  rcases h with⟨h0,h1,_⟩|⟨id,h1,h0,h2,_⟩
  ·subst h0 h1;rw[aj,ar,aT];rfl
  ·have gM:x≠[]:=by rintro rfl;simp at h0
   subst h1
   rw[aj,ar,gG (e:=eN) (sz:=1) (by simp[dK,h2]) rfl fun a=>fzN _ n a]
   simp[Ob,gM])
theorem eI.QO {α:Type} {R:Cl α} {sz:Nat} {g:Rows} {rows:List (List AV)} {xs:List α} {ids:List Id} (ok:xe R sz) (h:eI R g rows xs ids) (mm:ids.Nodup) (k:Nat) (hk:k<xs.length):
  ∃cs ic,rows[k]? =some cs/\R g cs xs[k] ic/\(∀i∈ic,i∈ids)/\∀(g':Rows) pR x' Pa,R g' pR x' Pa->(∀i∈ids,i∉ic->g' i=g i)->Pa.Nodup->(∀i∈Pa,i∉ids)->∃Dk,eI R g' (rows.set k pR) (xs.set k x') Dk/\Dk.Nodup/\∀i∈Dk,i∈Pa∨i∈ids:=by
 obtain⟨r1,cs,r2,i1,ic,i2,rfl,rfl,rfl,h3,h4,h5⟩:=h.split k hk
 obtain⟨n1,n2,n3⟩:=List.nodup_append.1 mm
 obtain⟨nc,n5,n4⟩:=List.nodup_append.1 n2
 refine⟨cs,ic,by simp,h4,fun i hi=>by simp[hi],fun g' pR x' Pa hR hf hn' kE=>⟨i1++(Pa++i2),?_,?_,fun i hi=>?_⟩⟩
 ·have e:xs.set r1.length x'=xs.take r1.length++x'::xs.drop (r1.length+1):=by rw[List.set_eq_take_append_cons_drop,if_pos hk]
  have e2:(r1++cs::r2).set r1.length pR=r1++pR::r2:=by simp
  rw[e,e2]
  refine(h3.frame ok fun i hi=>hf i (by simp[hi]) fun hc=>n3 i hi i (by simp[hc]) rfl).app (.cons hR (h5.frame ok fun i hi=>hf i (by simp[hi]) fun hc=>n4 i hc i hi rfl))
 ·rw[List.nodup_append,List.nodup_append]
  refine⟨n1,⟨hn',n5,fun x hx y hy he=>?_⟩,fun x hx y hy he=>?_⟩
  ·subst he;exact kE x hx (by simp[hy])
  ·subst he
   rcases List.mem_append.1 hy with hy|hy
   ·exact kE x hy (by simp[hx])
   ·exact n3 x hx x (by simp[hy]) rfl
 ·rcases List.mem_append.1 hi with hi|hi
  ·exact .inr (by simp[hi])
  ·rcases List.mem_append.1 hi with hi|hi
   ·exact .inl hi
   ·exact .inr (by simp[hi])
def qN (A:Id) (lo:Nat) (L:List (List Nat)) (g:Rows) (nx:Nat):Prop:=∃rows ids,g A=some ⟨true,1,rows⟩/\eI OG g rows L ids/\ids.Nodup/\∀i∈ids,lo<i.cq/\i.cq<nx
def bP (cnt:Nat) (bs:List PB) (A F:Id):List AV:=[.int .i64 cnt,.sl (bs.map aB),.own A 0 cnt,.own F 0 bs.length]
def lg (cnt:Nat) (bs:List PB) (m:Nat):List (List Nat):=(List.range cnt).map fun v=>iS bs m v
theorem jn (cnt:Nat) (bs:List PB) (m:Nat):(lg cnt bs m).length=cnt:=by simp[lg]
structure od (cnt:Nat) (bs:List PB) (f:Nat->Int) (X A F:Id) (g:Rows) (nx:Nat):Prop where
 x:g X=some ⟨true,4,[bP cnt bs A F]⟩
 a:qN A F.cq (lg cnt bs bs.length) g nx
 f:g F=some ⟨true,1,ek f bs.length⟩
 xa:X.cq<A.cq
 af:A.cq<F.cq
 fn:F.cq<nx
theorem qN.fz {A:Id} {lo cnt:Nat} {bs:List PB} {m nx n:Nat} {g:Rows} (h:qN A lo (lg cnt bs m) g nx):V.fz (dK g) (n+3) (.own A 0 cnt)=some (.sl (p9 cnt bs m)):=by
 obtain⟨rows,ids,h1,h2,_,_⟩:=h
 have hl:=h2.len
 rw[jn]at hl
 rw[im]
 simp only[dK,h1,Option.map_some,if_true]
 rw[if_pos (by omega),List.drop_zero,List.take_of_length_le (by omega)]
 have:=NY n h2
 rw[this]
 simp[lg,p9]
theorem od.fz {cnt:Nat} {bs:List PB} {f:Nat->Int} {X A F:Id} {g:Rows} {nx:Nat} (h:od cnt bs f X A F g nx):V.fz (dK g) 6 (.ptr X 0 0)=some (.di (fR cnt bs f)):=by
 have hF:dK g F=some ⟨true,1,ek f bs.length⟩:=by simp[dK,h.f]
 have hX:dK g X=some ⟨true,4,[bP cnt bs A F]⟩:=by simp[dK,h.x]
 have hf:V.fz (dK g) 5 (.own F 0 bs.length)=some (.sl (ek f bs.length)):=by
  rw[im]
  simp only[hF,if_true]
  rw[if_pos (by rw[dG];omega),List.drop_zero,List.take_of_length_le (by rw[dG];omega),z7];rfl
 have ha:=h.a.fz (n:=2)
 rw[bf]
 simp only[hX,if_true,List.getElem?_cons_zero,List.drop_zero,bP,aj,ar,aH,bW,ha,hf,Option.map_some,fR]
theorem F0 (cnt:Nat) (bs:List PB):lg cnt bs 0=List.replicate cnt []:=by
 refine List.ext_getElem? fun i=>?_
 simp only[lg,List.getElem?_map,List.getElem?_replicate]
 by_cases h:i<cnt
 ·rw[List.getElem?_range h,if_pos h];rfl
 ·rw[List.getElem?_eq_none (by simpa using h),if_neg h];rfl
theorem yN (g:Rows):∀n:Nat,eI OG g (List.replicate n [.bq]) (List.replicate n []) []
 |0=>.nil
 |n+1=>.cons (i1:=[]) (.inl ⟨rfl,rfl,rfl⟩) (yN g n)
def xC (cnt:Nat) (bs:List PB) (m:Nat):List (List Nat):=(lg cnt bs m).set (cE bs m).a (iS bs m (cE bs m).a++[m])
theorem Bs {cnt:Nat} {bs:List PB} {m v:Nat} (hv:v<cnt) (gM:(cE bs m).a≠v):(xC cnt bs m)[v]? =some (iS bs m v):=by
 unfold xC
 rw[List.getElem?_set_ne gM]
 simp[lg,hv]
theorem FZ {cnt:Nat} {bs:List PB} {m:Nat} (ha:(cE bs m).a<cnt) (hb:(cE bs m).b<cnt) (gM:(cE bs m).a≠(cE bs m).b):(xC cnt bs m).set (cE bs m).b (iS bs m (cE bs m).b++[m])=lg cnt bs (m+1):=by
 refine List.ext_getElem? fun i=>?_
 by_cases hi:i<cnt
 ·have hr:(lg cnt bs (m+1))[i]? =some (iS bs (m+1) i):=by simp[lg,hi]
  rw[hr,F1]
  by_cases h1:(cE bs m).b=i
  ·rw[List.getElem?_set,if_pos h1,if_pos (by simp[xC,jn];omega),if_pos (.inr h1),h1]
  ·rw[List.getElem?_set_ne h1]
   by_cases h2:(cE bs m).a=i
   ·unfold xC
    rw[List.getElem?_set,if_pos h2,if_pos (by rw[jn];omega),if_pos (.inl h2),h2]
   ·rw[Bs hi h2,if_neg (fun h=>h.elim h2 h1),List.append_nil]
 ·rw[List.getElem?_eq_none (by simp[xC,jn];omega),List.getElem?_eq_none (by rw[jn];omega)]
theorem kz {α:Type} {l:List α} {k:Nat} {x:α} (h:l[k]? =some x) (hk:k<l.length):l[k]=x:=by
 rw[List.getElem?_eq_getElem hk]at h;exact Option.some.inj h
theorem E0 {A K:Id} {lo QK nx k j:Nat} {L:List (List Nat)} {La:List Nat} {g:Rows} {rows:List (List AV)} {ids:List Id} (hR:eI OG g rows L ids) (mm:ids.Nodup) (nP:∀i∈ids,lo<i.cq/\i.cq<QK) (hA:A.cq<=lo) (hL:L[k]? =some La) (hK1:QK<=K.cq) (PI:K.cq<nx) (kh:lo<QK):
  ∃cs,rows[k]? =some cs/\((La=[]/\cs=[.bq])∨∃id:Id,cs=[.own id 0 La.length]/\0<La.length/\g id=some ⟨true,1,La.map eN⟩/\id.cq<QK/\lo<id.cq)/\
   ∀g':Rows,g' A=some ⟨true,1,rows.set k [.own K 0 (La.length+1)]⟩->g' K=some ⟨true,1,La.map eN++[[.int .i64 j]]⟩->(∀i:Id,i.cq<QK->(i=A)=False->(∀id,cs=[.own id 0 La.length]->(i=id)=False)->g' i=g i)->qN A lo (L.set k (La++[j])) g' nx:=by
 have hk:k<L.length:=(List.getElem?_eq_some_iff.1 hL).1
 have SG:=kz hL hk
 obtain⟨cs,ic,du,OO,P7,zt⟩:=hR.QO Ms mm k hk
 rw[SG]at OO
 refine⟨cs,du,?_,fun g' h1 h2 h3=>?_⟩
 ·rcases OO with⟨h1,h2,_⟩|⟨id,h1,h2,h3,h4⟩
  ·exact .inl ⟨h1,h2⟩
  ·subst h4
   have:=nP id (P7 id (by simp))
   exact .inr ⟨id,h1,h2,h3,this.2,this.1⟩
 ·obtain⟨Dk,q1,q2,q3⟩:=zt g' [.own K 0 (La.length+1)] (La++[j]) [K] (.inr ⟨K,by simp,by simp,by rw[h2];simp[eN],rfl⟩) (fun i hi RF=>by
   refine h3 i (nP i hi).2 ?_ fun id hid=>?_
   ·simp only[eq_iff_iff,iff_false];rintro rfl;have:=nP _ hi;omega
   ·simp only[eq_iff_iff,iff_false]
    rintro rfl
    rcases OO with⟨_,h4,_⟩|⟨kF,h4,_,_,h5⟩
    ·rw[hid]at h4;cases h4
    ·rw[hid]at h4
     simp only[List.cons.injEq,AV.own.injEq,and_true]at h4
     rw[h5,h4]at RF
     exact RF (by simp)) (by simp) fun i hi hc=>by
   rw[List.mem_singleton.1 hi]at hc;have:=nP _ hc;omega
  refine⟨_,Dk,h1,q1,q2,fun i hi=>?_⟩
  rcases q3 i hi with h|h
  ·rw[List.mem_singleton.1 h];omega
  ·have:=nP i h;omega
theorem LM {P:Program} {Q:Ex->Env->aw->Prop} {c:VC} {env:Env} {σ:aw} (I:Env->aw->Prop) (h2:∀e s,I e s->Q .normal e s) (h1:∀N':Env->aw->Prop,(∀e s,I e s->N' e s)->eh (Call P) c (dp N' Q) env σ):eh (Call P) c Q env σ:=by
 refine kY (fun _ _ _ _ h=>h) aJ c _ _ env σ (fun x e s h=>?_) (h1 I fun _ _ h=>h)
 cases x with
 |normal=>exact h2 e s h
 |exit id=>exact h
 |ret=>exact h
end Go.Proofs.YtgoelphibofcmaaGreat.V

namespace Go.Proofs.YtgoelphibofcmaaGreat.V
open Go.RowKit
attribute [local irreducible] eh wpOps fI Call
attribute [local go_sem] aM fj eJ fF fE da upd cu K.av cI AV.cells AV.cell rowOf rowsOf part ld rowAt bK bV dq dM gy bD cY dY fA eS dk dR cW cV dD dE bG bc cL bF cP cN dO dS dQ cK bL cX dN bE aO cR cz gx bm cH bH aY dp bl dr AV.undef bt bz dF dL dy dC cF dX eb cw dV dU cQ cU List.getD_cons_zero List.getD_cons_succ List.getD_nil List.all_cons List.all_nil Bool.and_true Bool.true_and Bool.and_self Bool.not_true Bool.not_false Option.map_some Option.map_none Option.bind_some Option.bind_none List.length_cons List.length_nil List.take_succ_cons List.take_zero List.take_nil List.drop_succ_cons List.drop_zero List.drop_nil List.head?_cons List.map_cons List.map_nil List.getElem?_cons_zero List.getElem?_cons_succ List.cons_append List.nil_append List.append_nil List.length_map List.set_cons_zero List.set_cons_succ Nat.reduceMul eq_self Int.toNat_natCast Int.natCast_nonneg and_self true_and and_true decide_true decide_false Bool.false_eq_true Nat.zero_add Nat.add_zero List.contains_cons List.contains_nil Bool.or_false Bool.false_or beq_self_eq_true Nat.reduceBEq ne_eq not_true_eq_false not_false_eq_true Id.mk.injEq false_and and_false Nat.reduceLT Int.reduceLE Int.reduceLT Int.reduceToNat Int.reduceNeg Int.reduceAdd Nat.le_refl List.length_append beq_true beq_false Bool.not_eq_eq_eq_not or_false false_or dK aj ar aH bd br bW aT aZ aU bf cJ bw
theorem IE (cnt:Nat) (hn:cnt<=1048576) (bs:List PB) (ok:nr cnt bs) (qq:bs.length<=1048576) (σ:aw):
  Call Tryz.prog 237 [.int .i64 cnt,.sl (bs.map aB)] σ fun r σ'=>∃X A F,r=.ptr X 0 0/\σ.next<=X.cq/\od cnt bs (fun _=>0) X A F σ'.get σ'.next:=by
 refine p4 MR rfl fun hl=>?_
 try simp only[q]
 clear hl
 have jF:(0:Int)<=(cnt:Int):=by omega
 have mK:(cnt:Int)<=((16777216:Nat):Int):=by omega
 have FN:(0:Int)<=(bs.length:Int):=by omega
 have G1:(bs.length:Int)<=((16777216:Nat):Int):=by omega
 have hz:List.replicate bs.length [AV.int .i64 0]=ek (fun _=>0) bs.length:=by
  refine List.ext_getElem? fun i=>?_
  by_cases h:i<bs.length
  ·rw[ec h,List.getElem?_replicate,if_pos h];rfl
  ·rw[List.getElem?_eq_none (by simp;omega),List.getElem?_eq_none (by rw[dG];omega)]
 (try((repeat(revert hN;revert N;apply Pn.out));refine wk (tw @jF (tw @mK (tw @FN (tw @G1 (tw @Int.le_refl @hz))))) ?_;(repeat(refine Pn.mk ?_;intro N hN))))
 obtain⟨X,hX⟩:∃X:Id,X=⟨237001003,σ.next+1⟩:=⟨_,rfl⟩
 obtain⟨A,hA⟩:∃X:Id,X=⟨237002002,σ.next+1+1⟩:=⟨_,rfl⟩
 obtain⟨F,hF⟩:∃X:Id,X=⟨237003003,σ.next+1+1+1⟩:=⟨_,rfl⟩
 have hXA:X.cq<A.cq:=by rw[hX,hA];(try dsimp only);omega
 have hAF:A.cq<F.cq:=by rw[hA,hF];(try dsimp only);omega
 have hXs:σ.next<=X.cq:=by rw[hX];(try dsimp only);omega
 refine bh (fun n env st=>∃j:Nat,n=(bs.length)-j/\j<=(bs.length)/\env 6=.int .i64 (j:Int)/\env 5=(.ptr X 0 0)/\st.get X=some ⟨true,4,[bP cnt bs A F]⟩/\st.get F=some ⟨true,1,ek (fun _=>0) bs.length⟩/\(qN A F.cq (lg cnt bs j) st.get st.next/\F.cq<st.next)) (bs.length) ⟨0,by omega,by omega,by(try simp only[go_sem, ↓reduceIte,Nat.reduceEqDiff,Nat.reduceAdd,Nat.reduceSub,Nat.reduceLeDiff,reduceCtorEq,hX,hF,hA,bP,hz]);try rfl,by(try simp only[go_sem, ↓reduceIte,Nat.reduceEqDiff,Nat.reduceAdd,Nat.reduceSub,Nat.reduceLeDiff,reduceCtorEq,hX,hF,hA,bP,hz]);try rfl,by(try simp only[go_sem, ↓reduceIte,Nat.reduceEqDiff,Nat.reduceAdd,Nat.reduceSub,Nat.reduceLeDiff,reduceCtorEq,hX,hF,hA,bP,hz]);try rfl,by(try simp only[go_sem, ↓reduceIte,Nat.reduceEqDiff,Nat.reduceAdd,Nat.reduceSub,Nat.reduceLeDiff,reduceCtorEq,hX,hF,hA,bP,hz]);try rfl,⟨⟨List.replicate cnt [.bq],[],by rw[hA];(simp only[go_sem, ↓reduceIte,Nat.reduceEqDiff,Nat.reduceAdd,Nat.reduceSub,Nat.reduceLeDiff,reduceCtorEq])<;>rfl,by rw[F0];exact yN _ _,List.nodup_nil,fun i hi=>by cases hi⟩,by rw[hF];(try dsimp only);omega⟩⟩ ?_
 rintro n_a env_a st_a ⟨j,rfl,ale,a6,a5,ag0,ag1,lS⟩ dW
 have a0:=dW 0 (by kernel_rfl);have a1:=dW 1 (by kernel_rfl)
 simp only[go_sem, ↓reduceIte,Nat.reduceEqDiff,Nat.reduceAdd,Nat.reduceSub,Nat.reduceLeDiff,reduceCtorEq,hX,hF,hA,bP,hz]at a0 a1
 clear dW
 obtain⟨⟨rows,ids,ag,hR,mm,nP⟩,hFn⟩:=lS
 have x1:=cZ hXA
 have x2:=cZ hAF
 have x3:=cZ (a:=X) (b:=F) (by omega)
 have vX:=dP (i:=X) (n:=st_a.next) (by omega)
 have vA:=dP (i:=A) (n:=st_a.next) (by omega)
 have vF:=dP (i:=F) (n:=st_a.next) (by omega)
 by_cases hj:(j:Int)<(bs.length:Int)
 ·have cG:∀{e:Env} {gg:Rows} {nx:Nat},(e 6=.int .i64 (IntKind.i64.wrap ((j:Int)+1)))->(e 5=(.ptr X 0 0))->(gg X=some ⟨true,4,[bP cnt bs A F]⟩)->(gg F=some ⟨true,1,ek (fun _=>0) bs.length⟩)->(qN A F.cq (lg cnt bs (j+1)) gg nx/\F.cq<nx)->∃m0,m0<(bs.length)-j/\∃j:Nat,m0=(bs.length)-j/\j<=(bs.length)/\e 6=.int .i64 (j:Int)/\e 5=(.ptr X 0 0)/\gg X=some ⟨true,4,[bP cnt bs A F]⟩/\gg F=some ⟨true,1,ek (fun _=>0) bs.length⟩/\(qN A F.cq (lg cnt bs j) gg nx/\F.cq<nx):=fun x1 x2 x3 x4 x5=>⟨_,by omega,j+1,rfl,by omega,(by rw[x1,aC (by omega)]),x2,x3,x4,x5⟩
  have jv:j<bs.length:=by omega
  have iH:=uj jv
  obtain⟨ha1,PO,gM⟩:=ok j jv
  have gz:((cE bs j).a:Int)<(cnt:Int):=by omega
  have fS:((cE bs j).b:Int)<(cnt:Int):=by omega
  have pd:=FZ (m:=j) ha1 PO gM
  have e1:=rF bs j (cE bs j).a
  have e2:=rF bs j (cE bs j).b
  have P4:(xC cnt bs j)[(cE bs j).b]? =some (iS bs j (cE bs j).b):=Bs PO gM
  have P3:(lg cnt bs j)[(cE bs j).a]? =some (iS bs j (cE bs j).a):=by simp[lg,ha1]
  have Su:xC cnt bs j=(lg cnt bs j).set (cE bs j).a (iS bs j (cE bs j).a++[j]):=rfl
  have Rl:(xC cnt bs j).length=cnt:=by rw[Su,List.length_set,jn]
  have jc:=hR.len
  rw[jn]at jc
  obtain⟨cs7,jl,H6,Io⟩:=E0 (A:=A) (K:=⟨237007022,st_a.next+1⟩) (nx:=st_a.next+1+1) (j:=j) hR mm nP (by omega) P3 (by(try dsimp only);omega) (by(try dsimp only);omega) hFn
  rw[<-Su]at Io
  obtain⟨c7,rfl⟩:∃c,cs7=[c]:=by
   rcases H6 with⟨_,h⟩|⟨id,h,_⟩<;>exact⟨_,h⟩
  generalize iS bs j (cE bs j).a=La at *
  generalize iS bs j (cE bs j).b=Lb at *
  generalize cE bs j=b at *
  generalize xC cnt bs j=LA at *
  clear Su
  (try((repeat(revert hN;revert N;apply Pn.out));refine wk (tw @a6 (tw @a5 (tw @ag0 (tw @ag1 (tw @a0 (tw @a1 (tw @hj (tw @iH (tw @aB.eq_1 (tw @ag (tw @jl (tw @gz (tw @fS (tw @jc (tw @x1 (tw @x2 (tw @x3 (tw @vX (tw @vA (tw @vF @bP.eq_1)))))))))))))))))))) ?_;(repeat(refine Pn.mk ?_;intro N hN))))
  refine Ae (fun e s=>e 0=.int .i64 cnt/\e 1=.sl (bs.map aB)/\e 5=.ptr X 0 0/\e 6=.int .i64 j/\s.get X=some ⟨true,4,[bP cnt bs A F]⟩/\s.get F=some ⟨true,1,ek (fun _=>0) bs.length⟩/\qN A F.cq LA s.get s.next/\F.cq<s.next) ?_ ?_
  ·rintro e1 s1 ⟨m0,m1,m5,m6,mX,mF,⟨rows1,ids1,mg,mR,mnd,mver⟩,mn⟩
   refine hN _ _ ?_
   clear hN N
   have jd:=mR.len
   rw[Rl]at jd
   have wX:=dP (i:=X) (n:=s1.next) (by omega)
   have wA:=dP (i:=A) (n:=s1.next) (by omega)
   have wF:=dP (i:=F) (n:=s1.next) (by omega)
   obtain⟨cs8,jm,H7,Ip⟩:=E0 (A:=A) (K:=⟨237008022,s1.next⟩) (nx:=s1.next+1) (j:=j) mR mnd mver (by omega) P4 (by(try dsimp only);omega) (by(try dsimp only);omega) mn
   rw[pd]at Ip
   obtain⟨c8,rfl⟩:∃c,cs8=[c]:=by
    rcases H7 with⟨_,h⟩|⟨id,h,_⟩<;>exact⟨_,h⟩
   (try((repeat(revert hN;revert N;apply Pn.out));refine wk (tw @m0 (tw @m1 (tw @m5 (tw @m6 (tw @mX (tw @mF (tw @hj (tw @iH (tw @aB.eq_1 (tw @mg (tw @jm (tw @gz (tw @fS (tw @jd (tw @x1 (tw @x2 (tw @x3 (tw @wX (tw @wA (tw @wF @bP.eq_1)))))))))))))))))))) ?_;(repeat(refine Pn.mk ?_;intro N hN))))
   refine LM (fun e s=>e 0=.int .i64 cnt/\e 1=.sl (bs.map aB)/\e 5=.ptr X 0 0/\e 6=.int .i64 j/\s.get X=some ⟨true,4,[bP cnt bs A F]⟩/\s.get F=some ⟨true,1,ek (fun _=>0) bs.length⟩/\qN A F.cq (lg cnt bs (j+1)) s.get s.next/\F.cq<s.next) ?_ ?_
   ·rintro e2 s2 ⟨p0,p1,p5,p6,pX,pF,pL,pn⟩
    simp only[dp,bl]
    refine hN _ _ ?_
    clear hN N
    (try((repeat(revert hN;revert N;apply Pn.out));refine wk (tw @p0 (tw @p1 (tw @p5 @p6))) ?_;(repeat(refine Pn.mk ?_;intro N hN))))
    refine cG ?_ ?_ ?_ ?_ (⟨by obtain⟨r,i,q1,q2,q3,q4⟩:=pL;exact⟨r,i,sd @q1,q2,q3,fun x hx=>by have:=q4 x hx;(try dsimp only);omega⟩,by(try dsimp only);omega⟩)
    all_goals simp only[go_sem, ↓reduceIte,Nat.reduceEqDiff,Nat.reduceAdd,Nat.reduceSub,Nat.reduceLeDiff,reduceCtorEq,p0,p1,p5,p6,pX,pF]
   ·intro N hN
    rcases H7 with⟨SF,zp⟩|⟨id,zp,hLp,hid,KH,Be⟩
    ·simp only[List.cons.injEq,and_true]at zp
     subst zp
     subst SF
     refine dI ?_ ?_<;>(try((repeat(revert hN;revert N;apply Pn.out));refine wk (tw @m0 (tw @m1 (tw @m5 (tw @m6 (tw @mX (tw @mF (tw @hj (tw @iH (tw @aB.eq_1 (tw @mg (tw @jm (tw @gz (tw @fS (tw @jd (tw @x1 (tw @x2 (tw @x3 (tw @wX (tw @wA (tw @wF @bP.eq_1)))))))))))))))))))) ?_;(repeat(refine Pn.mk ?_;intro N hN))))<;>(try refine dI ?_ ?_)<;>(try((repeat(revert hN;revert N;apply Pn.out));refine wk (tw @m0 (tw @m1 (tw @m5 (tw @m6 (tw @mX (tw @mF (tw @hj (tw @iH (tw @aB.eq_1 (tw @mg (tw @jm (tw @gz (tw @fS (tw @jd (tw @x1 (tw @x2 (tw @x3 (tw @wX (tw @wA (tw @wF @bP.eq_1)))))))))))))))))))) ?_;(repeat(refine Pn.mk ?_;intro N hN))))<;>(try refine dI ?_ ?_)<;>(try((repeat(revert hN;revert N;apply Pn.out));refine wk (tw @m0 (tw @m1 (tw @m5 (tw @m6 (tw @mX (tw @mF (tw @hj (tw @iH (tw @aB.eq_1 (tw @mg (tw @jm (tw @gz (tw @fS (tw @jd (tw @x1 (tw @x2 (tw @x3 (tw @wX (tw @wA (tw @wF @bP.eq_1)))))))))))))))))))) ?_;(repeat(refine Pn.mk ?_;intro N hN))))<;>(try refine dI ?_ ?_)<;>(try((repeat(revert hN;revert N;apply Pn.out));refine wk (tw @m0 (tw @m1 (tw @m5 (tw @m6 (tw @mX (tw @mF (tw @hj (tw @iH (tw @aB.eq_1 (tw @mg (tw @jm (tw @gz (tw @fS (tw @jd (tw @x1 (tw @x2 (tw @x3 (tw @wX (tw @wA (tw @wF @bP.eq_1)))))))))))))))))))) ?_;(repeat(refine Pn.mk ?_;intro N hN))))<;>(try refine dI ?_ ?_)<;>(try((repeat(revert hN;revert N;apply Pn.out));refine wk (tw @m0 (tw @m1 (tw @m5 (tw @m6 (tw @mX (tw @mF (tw @hj (tw @iH (tw @aB.eq_1 (tw @mg (tw @jm (tw @gz (tw @fS (tw @jd (tw @x1 (tw @x2 (tw @x3 (tw @wX (tw @wA (tw @wF @bP.eq_1)))))))))))))))))))) ?_;(repeat(refine Pn.mk ?_;intro N hN))))<;>(try refine dI ?_ ?_)<;>(try((repeat(revert hN;revert N;apply Pn.out));refine wk (tw @m0 (tw @m1 (tw @m5 (tw @m6 (tw @mX (tw @mF (tw @hj (tw @iH (tw @aB.eq_1 (tw @mg (tw @jm (tw @gz (tw @fS (tw @jd (tw @x1 (tw @x2 (tw @x3 (tw @wX (tw @wA (tw @wF @bP.eq_1)))))))))))))))))))) ?_;(repeat(refine Pn.mk ?_;intro N hN))))
     all_goals
      refine⟨by simp only[go_sem, ↓reduceIte,Nat.reduceEqDiff,Nat.reduceAdd,Nat.reduceSub,Nat.reduceLeDiff,reduceCtorEq,m0,m1,m5,m6,mX,mF,hj,iH,aB,mg,jm,gz,fS,jd,x1,x2,x3,wX,wA,wF,bP],by simp only[go_sem, ↓reduceIte,Nat.reduceEqDiff,Nat.reduceAdd,Nat.reduceSub,Nat.reduceLeDiff,reduceCtorEq,m0,m1,m5,m6,mX,mF,hj,iH,aB,mg,jm,gz,fS,jd,x1,x2,x3,wX,wA,wF,bP],by simp only[go_sem, ↓reduceIte,Nat.reduceEqDiff,Nat.reduceAdd,Nat.reduceSub,Nat.reduceLeDiff,reduceCtorEq,m0,m1,m5,m6,mX,mF,hj,iH,aB,mg,jm,gz,fS,jd,x1,x2,x3,wX,wA,wF,bP],by simp only[go_sem, ↓reduceIte,Nat.reduceEqDiff,Nat.reduceAdd,Nat.reduceSub,Nat.reduceLeDiff,reduceCtorEq,m0,m1,m5,m6,mX,mF,hj,iH,aB,mg,jm,gz,fS,jd,x1,x2,x3,wX,wA,wF,bP],by simp only[go_sem, ↓reduceIte,Nat.reduceEqDiff,Nat.reduceAdd,Nat.reduceSub,Nat.reduceLeDiff,reduceCtorEq,m0,m1,m5,m6,mX,mF,hj,iH,aB,mg,jm,gz,fS,jd,x1,x2,x3,wX,wA,wF,bP],by simp only[go_sem, ↓reduceIte,Nat.reduceEqDiff,Nat.reduceAdd,Nat.reduceSub,Nat.reduceLeDiff,reduceCtorEq,m0,m1,m5,m6,mX,mF,hj,iH,aB,mg,jm,gz,fS,jd,x1,x2,x3,wX,wA,wF,bP],Ip _ (by simp only[go_sem, ↓reduceIte,Nat.reduceEqDiff,Nat.reduceAdd,Nat.reduceSub,Nat.reduceLeDiff,reduceCtorEq,m0,m1,m5,m6,mX,mF,hj,iH,aB,mg,jm,gz,fS,jd,x1,x2,x3,wX,wA,wF,bP,List.length_nil]) (by simp only[go_sem, ↓reduceIte,Nat.reduceEqDiff,Nat.reduceAdd,Nat.reduceSub,Nat.reduceLeDiff,reduceCtorEq,m0,m1,m5,m6,mX,mF,hj,iH,aB,mg,jm,gz,fS,jd,x1,x2,x3,wX,wA,wF,bP,List.map_nil,List.nil_append]) (fun i hi Nv fB=>?_),by(try dsimp only);omega⟩
      clear fB
      simp only[go_sem, ↓reduceIte,Nat.reduceEqDiff,Nat.reduceAdd,Nat.reduceSub,Nat.reduceLeDiff,reduceCtorEq,wX,wA,wF,dP hi,Nv]
    ·simp only[List.cons.injEq,and_true]at zp
     subst zp
     have oY:=dP KH
     have y1:=cZ (a:=A) (b:=id) (by omega)
     have y2:=cZ (a:=F) (b:=id) Be
     have y3:=cZ (a:=X) (b:=id) (by omega)
     have e3:Lb.length+1<=16777216:=by omega
     have z1:(Lb.map eN).length=Lb.length:=by simp
     refine dI ?_ ?_<;>(try((repeat(revert hN;revert N;apply Pn.out));refine wk (tw @m0 (tw @m1 (tw @m5 (tw @m6 (tw @mX (tw @mF (tw @hj (tw @iH (tw @aB.eq_1 (tw @mg (tw @jm (tw @gz (tw @fS (tw @jd (tw @x1 (tw @x2 (tw @x3 (tw @wX (tw @wA (tw @wF (tw @bP.eq_1 (tw @hid (tw @oY (tw @y1 (tw @y2 (tw @y3 (tw @e3 @z1))))))))))))))))))))))))))) ?_;(repeat(refine Pn.mk ?_;intro N hN))))<;>(try refine dI ?_ ?_)<;>(try((repeat(revert hN;revert N;apply Pn.out));refine wk (tw @m0 (tw @m1 (tw @m5 (tw @m6 (tw @mX (tw @mF (tw @hj (tw @iH (tw @aB.eq_1 (tw @mg (tw @jm (tw @gz (tw @fS (tw @jd (tw @x1 (tw @x2 (tw @x3 (tw @wX (tw @wA (tw @wF (tw @bP.eq_1 (tw @hid (tw @oY (tw @y1 (tw @y2 (tw @y3 (tw @e3 @z1))))))))))))))))))))))))))) ?_;(repeat(refine Pn.mk ?_;intro N hN))))<;>(try refine dI ?_ ?_)<;>(try((repeat(revert hN;revert N;apply Pn.out));refine wk (tw @m0 (tw @m1 (tw @m5 (tw @m6 (tw @mX (tw @mF (tw @hj (tw @iH (tw @aB.eq_1 (tw @mg (tw @jm (tw @gz (tw @fS (tw @jd (tw @x1 (tw @x2 (tw @x3 (tw @wX (tw @wA (tw @wF (tw @bP.eq_1 (tw @hid (tw @oY (tw @y1 (tw @y2 (tw @y3 (tw @e3 @z1))))))))))))))))))))))))))) ?_;(repeat(refine Pn.mk ?_;intro N hN))))<;>(try refine dI ?_ ?_)<;>(try((repeat(revert hN;revert N;apply Pn.out));refine wk (tw @m0 (tw @m1 (tw @m5 (tw @m6 (tw @mX (tw @mF (tw @hj (tw @iH (tw @aB.eq_1 (tw @mg (tw @jm (tw @gz (tw @fS (tw @jd (tw @x1 (tw @x2 (tw @x3 (tw @wX (tw @wA (tw @wF (tw @bP.eq_1 (tw @hid (tw @oY (tw @y1 (tw @y2 (tw @y3 (tw @e3 @z1))))))))))))))))))))))))))) ?_;(repeat(refine Pn.mk ?_;intro N hN))))<;>(try refine dI ?_ ?_)<;>(try((repeat(revert hN;revert N;apply Pn.out));refine wk (tw @m0 (tw @m1 (tw @m5 (tw @m6 (tw @mX (tw @mF (tw @hj (tw @iH (tw @aB.eq_1 (tw @mg (tw @jm (tw @gz (tw @fS (tw @jd (tw @x1 (tw @x2 (tw @x3 (tw @wX (tw @wA (tw @wF (tw @bP.eq_1 (tw @hid (tw @oY (tw @y1 (tw @y2 (tw @y3 (tw @e3 @z1))))))))))))))))))))))))))) ?_;(repeat(refine Pn.mk ?_;intro N hN))))<;>(try refine dI ?_ ?_)<;>(try((repeat(revert hN;revert N;apply Pn.out));refine wk (tw @m0 (tw @m1 (tw @m5 (tw @m6 (tw @mX (tw @mF (tw @hj (tw @iH (tw @aB.eq_1 (tw @mg (tw @jm (tw @gz (tw @fS (tw @jd (tw @x1 (tw @x2 (tw @x3 (tw @wX (tw @wA (tw @wF (tw @bP.eq_1 (tw @hid (tw @oY (tw @y1 (tw @y2 (tw @y3 (tw @e3 @z1))))))))))))))))))))))))))) ?_;(repeat(refine Pn.mk ?_;intro N hN))))
     all_goals
      refine⟨by simp only[go_sem, ↓reduceIte,Nat.reduceEqDiff,Nat.reduceAdd,Nat.reduceSub,Nat.reduceLeDiff,reduceCtorEq,m0,m1,m5,m6,mX,mF,hj,iH,aB,mg,jm,gz,fS,jd,x1,x2,x3,wX,wA,wF,bP,hid,oY,y1,y2,y3,e3,z1],by simp only[go_sem, ↓reduceIte,Nat.reduceEqDiff,Nat.reduceAdd,Nat.reduceSub,Nat.reduceLeDiff,reduceCtorEq,m0,m1,m5,m6,mX,mF,hj,iH,aB,mg,jm,gz,fS,jd,x1,x2,x3,wX,wA,wF,bP,hid,oY,y1,y2,y3,e3,z1],by simp only[go_sem, ↓reduceIte,Nat.reduceEqDiff,Nat.reduceAdd,Nat.reduceSub,Nat.reduceLeDiff,reduceCtorEq,m0,m1,m5,m6,mX,mF,hj,iH,aB,mg,jm,gz,fS,jd,x1,x2,x3,wX,wA,wF,bP,hid,oY,y1,y2,y3,e3,z1],by simp only[go_sem, ↓reduceIte,Nat.reduceEqDiff,Nat.reduceAdd,Nat.reduceSub,Nat.reduceLeDiff,reduceCtorEq,m0,m1,m5,m6,mX,mF,hj,iH,aB,mg,jm,gz,fS,jd,x1,x2,x3,wX,wA,wF,bP,hid,oY,y1,y2,y3,e3,z1],by simp only[go_sem, ↓reduceIte,Nat.reduceEqDiff,Nat.reduceAdd,Nat.reduceSub,Nat.reduceLeDiff,reduceCtorEq,m0,m1,m5,m6,mX,mF,hj,iH,aB,mg,jm,gz,fS,jd,x1,x2,x3,wX,wA,wF,bP,hid,oY,y1,y2,y3,e3,z1],by simp only[go_sem, ↓reduceIte,Nat.reduceEqDiff,Nat.reduceAdd,Nat.reduceSub,Nat.reduceLeDiff,reduceCtorEq,m0,m1,m5,m6,mX,mF,hj,iH,aB,mg,jm,gz,fS,jd,x1,x2,x3,wX,wA,wF,bP,hid,oY,y1,y2,y3,e3,z1],Ip _ (by simp only[go_sem, ↓reduceIte,Nat.reduceEqDiff,Nat.reduceAdd,Nat.reduceSub,Nat.reduceLeDiff,reduceCtorEq,m0,m1,m5,m6,mX,mF,hj,iH,aB,mg,jm,gz,fS,jd,x1,x2,x3,wX,wA,wF,bP,hid,oY,y1,y2,y3,e3,z1,List.length_nil]) (by simp only[go_sem, ↓reduceIte,Nat.reduceEqDiff,Nat.reduceAdd,Nat.reduceSub,Nat.reduceLeDiff,reduceCtorEq,m0,m1,m5,m6,mX,mF,hj,iH,aB,mg,jm,gz,fS,jd,x1,x2,x3,wX,wA,wF,bP,hid,oY,y1,y2,y3,e3,z1,List.map_nil,List.nil_append]) (fun i hi Nv fB=>?_),by(try dsimp only);omega⟩
      have gM:=fB id rfl
      simp only[go_sem, ↓reduceIte,Nat.reduceEqDiff,Nat.reduceAdd,Nat.reduceSub,Nat.reduceLeDiff,reduceCtorEq,wX,wA,wF,dP hi,Nv,gM]
  ·intro N hN
   rcases H6 with⟨SF,zp⟩|⟨id,zp,hLp,hid,KH,Be⟩
   ·simp only[List.cons.injEq,and_true]at zp
    subst zp
    subst SF
    refine dI ?_ ?_<;>(try((repeat(revert hN;revert N;apply Pn.out));refine wk (tw @a6 (tw @a5 (tw @ag0 (tw @ag1 (tw @a0 (tw @a1 (tw @hj (tw @iH (tw @aB.eq_1 (tw @ag (tw @jl (tw @gz (tw @fS (tw @jc (tw @x1 (tw @x2 (tw @x3 (tw @vX (tw @vA (tw @vF @bP.eq_1)))))))))))))))))))) ?_;(repeat(refine Pn.mk ?_;intro N hN))))<;>(try refine dI ?_ ?_)<;>(try((repeat(revert hN;revert N;apply Pn.out));refine wk (tw @a6 (tw @a5 (tw @ag0 (tw @ag1 (tw @a0 (tw @a1 (tw @hj (tw @iH (tw @aB.eq_1 (tw @ag (tw @jl (tw @gz (tw @fS (tw @jc (tw @x1 (tw @x2 (tw @x3 (tw @vX (tw @vA (tw @vF @bP.eq_1)))))))))))))))))))) ?_;(repeat(refine Pn.mk ?_;intro N hN))))<;>(try refine dI ?_ ?_)<;>(try((repeat(revert hN;revert N;apply Pn.out));refine wk (tw @a6 (tw @a5 (tw @ag0 (tw @ag1 (tw @a0 (tw @a1 (tw @hj (tw @iH (tw @aB.eq_1 (tw @ag (tw @jl (tw @gz (tw @fS (tw @jc (tw @x1 (tw @x2 (tw @x3 (tw @vX (tw @vA (tw @vF @bP.eq_1)))))))))))))))))))) ?_;(repeat(refine Pn.mk ?_;intro N hN))))<;>(try refine dI ?_ ?_)<;>(try((repeat(revert hN;revert N;apply Pn.out));refine wk (tw @a6 (tw @a5 (tw @ag0 (tw @ag1 (tw @a0 (tw @a1 (tw @hj (tw @iH (tw @aB.eq_1 (tw @ag (tw @jl (tw @gz (tw @fS (tw @jc (tw @x1 (tw @x2 (tw @x3 (tw @vX (tw @vA (tw @vF @bP.eq_1)))))))))))))))))))) ?_;(repeat(refine Pn.mk ?_;intro N hN))))<;>(try refine dI ?_ ?_)<;>(try((repeat(revert hN;revert N;apply Pn.out));refine wk (tw @a6 (tw @a5 (tw @ag0 (tw @ag1 (tw @a0 (tw @a1 (tw @hj (tw @iH (tw @aB.eq_1 (tw @ag (tw @jl (tw @gz (tw @fS (tw @jc (tw @x1 (tw @x2 (tw @x3 (tw @vX (tw @vA (tw @vF @bP.eq_1)))))))))))))))))))) ?_;(repeat(refine Pn.mk ?_;intro N hN))))<;>(try refine dI ?_ ?_)<;>(try((repeat(revert hN;revert N;apply Pn.out));refine wk (tw @a6 (tw @a5 (tw @ag0 (tw @ag1 (tw @a0 (tw @a1 (tw @hj (tw @iH (tw @aB.eq_1 (tw @ag (tw @jl (tw @gz (tw @fS (tw @jc (tw @x1 (tw @x2 (tw @x3 (tw @vX (tw @vA (tw @vF @bP.eq_1)))))))))))))))))))) ?_;(repeat(refine Pn.mk ?_;intro N hN))))
    all_goals
     refine⟨by simp only[go_sem, ↓reduceIte,Nat.reduceEqDiff,Nat.reduceAdd,Nat.reduceSub,Nat.reduceLeDiff,reduceCtorEq,a6,a5,ag0,ag1,a0,a1,hj,iH,aB,ag,jl,gz,fS,jc,x1,x2,x3,vX,vA,vF,bP],by simp only[go_sem, ↓reduceIte,Nat.reduceEqDiff,Nat.reduceAdd,Nat.reduceSub,Nat.reduceLeDiff,reduceCtorEq,a6,a5,ag0,ag1,a0,a1,hj,iH,aB,ag,jl,gz,fS,jc,x1,x2,x3,vX,vA,vF,bP],by simp only[go_sem, ↓reduceIte,Nat.reduceEqDiff,Nat.reduceAdd,Nat.reduceSub,Nat.reduceLeDiff,reduceCtorEq,a6,a5,ag0,ag1,a0,a1,hj,iH,aB,ag,jl,gz,fS,jc,x1,x2,x3,vX,vA,vF,bP],by simp only[go_sem, ↓reduceIte,Nat.reduceEqDiff,Nat.reduceAdd,Nat.reduceSub,Nat.reduceLeDiff,reduceCtorEq,a6,a5,ag0,ag1,a0,a1,hj,iH,aB,ag,jl,gz,fS,jc,x1,x2,x3,vX,vA,vF,bP],by simp only[go_sem, ↓reduceIte,Nat.reduceEqDiff,Nat.reduceAdd,Nat.reduceSub,Nat.reduceLeDiff,reduceCtorEq,a6,a5,ag0,ag1,a0,a1,hj,iH,aB,ag,jl,gz,fS,jc,x1,x2,x3,vX,vA,vF,bP],by simp only[go_sem, ↓reduceIte,Nat.reduceEqDiff,Nat.reduceAdd,Nat.reduceSub,Nat.reduceLeDiff,reduceCtorEq,a6,a5,ag0,ag1,a0,a1,hj,iH,aB,ag,jl,gz,fS,jc,x1,x2,x3,vX,vA,vF,bP],Io _ (by simp only[go_sem, ↓reduceIte,Nat.reduceEqDiff,Nat.reduceAdd,Nat.reduceSub,Nat.reduceLeDiff,reduceCtorEq,a6,a5,ag0,ag1,a0,a1,hj,iH,aB,ag,jl,gz,fS,jc,x1,x2,x3,vX,vA,vF,bP,List.length_nil]) (by simp only[go_sem, ↓reduceIte,Nat.reduceEqDiff,Nat.reduceAdd,Nat.reduceSub,Nat.reduceLeDiff,reduceCtorEq,a6,a5,ag0,ag1,a0,a1,hj,iH,aB,ag,jl,gz,fS,jc,x1,x2,x3,vX,vA,vF,bP,List.map_nil,List.nil_append]) (fun i hi Nv fB=>?_),by(try dsimp only);omega⟩
     clear fB
     simp only[go_sem, ↓reduceIte,Nat.reduceEqDiff,Nat.reduceAdd,Nat.reduceSub,Nat.reduceLeDiff,reduceCtorEq,vX,vA,vF,dP hi,Nv]
   ·simp only[List.cons.injEq,and_true]at zp
    subst zp
    have oY:=dP KH
    have y1:=cZ (a:=A) (b:=id) (by omega)
    have y2:=cZ (a:=F) (b:=id) Be
    have y3:=cZ (a:=X) (b:=id) (by omega)
    have e3:La.length+1<=16777216:=by omega
    have z1:(La.map eN).length=La.length:=by simp
    refine dI ?_ ?_<;>(try((repeat(revert hN;revert N;apply Pn.out));refine wk (tw @a6 (tw @a5 (tw @ag0 (tw @ag1 (tw @a0 (tw @a1 (tw @hj (tw @iH (tw @aB.eq_1 (tw @ag (tw @jl (tw @gz (tw @fS (tw @jc (tw @x1 (tw @x2 (tw @x3 (tw @vX (tw @vA (tw @vF (tw @bP.eq_1 (tw @hid (tw @oY (tw @y1 (tw @y2 (tw @y3 (tw @e3 @z1))))))))))))))))))))))))))) ?_;(repeat(refine Pn.mk ?_;intro N hN))))<;>(try refine dI ?_ ?_)<;>(try((repeat(revert hN;revert N;apply Pn.out));refine wk (tw @a6 (tw @a5 (tw @ag0 (tw @ag1 (tw @a0 (tw @a1 (tw @hj (tw @iH (tw @aB.eq_1 (tw @ag (tw @jl (tw @gz (tw @fS (tw @jc (tw @x1 (tw @x2 (tw @x3 (tw @vX (tw @vA (tw @vF (tw @bP.eq_1 (tw @hid (tw @oY (tw @y1 (tw @y2 (tw @y3 (tw @e3 @z1))))))))))))))))))))))))))) ?_;(repeat(refine Pn.mk ?_;intro N hN))))<;>(try refine dI ?_ ?_)<;>(try((repeat(revert hN;revert N;apply Pn.out));refine wk (tw @a6 (tw @a5 (tw @ag0 (tw @ag1 (tw @a0 (tw @a1 (tw @hj (tw @iH (tw @aB.eq_1 (tw @ag (tw @jl (tw @gz (tw @fS (tw @jc (tw @x1 (tw @x2 (tw @x3 (tw @vX (tw @vA (tw @vF (tw @bP.eq_1 (tw @hid (tw @oY (tw @y1 (tw @y2 (tw @y3 (tw @e3 @z1))))))))))))))))))))))))))) ?_;(repeat(refine Pn.mk ?_;intro N hN))))<;>(try refine dI ?_ ?_)<;>(try((repeat(revert hN;revert N;apply Pn.out));refine wk (tw @a6 (tw @a5 (tw @ag0 (tw @ag1 (tw @a0 (tw @a1 (tw @hj (tw @iH (tw @aB.eq_1 (tw @ag (tw @jl (tw @gz (tw @fS (tw @jc (tw @x1 (tw @x2 (tw @x3 (tw @vX (tw @vA (tw @vF (tw @bP.eq_1 (tw @hid (tw @oY (tw @y1 (tw @y2 (tw @y3 (tw @e3 @z1))))))))))))))))))))))))))) ?_;(repeat(refine Pn.mk ?_;intro N hN))))<;>(try refine dI ?_ ?_)<;>(try((repeat(revert hN;revert N;apply Pn.out));refine wk (tw @a6 (tw @a5 (tw @ag0 (tw @ag1 (tw @a0 (tw @a1 (tw @hj (tw @iH (tw @aB.eq_1 (tw @ag (tw @jl (tw @gz (tw @fS (tw @jc (tw @x1 (tw @x2 (tw @x3 (tw @vX (tw @vA (tw @vF (tw @bP.eq_1 (tw @hid (tw @oY (tw @y1 (tw @y2 (tw @y3 (tw @e3 @z1))))))))))))))))))))))))))) ?_;(repeat(refine Pn.mk ?_;intro N hN))))<;>(try refine dI ?_ ?_)<;>(try((repeat(revert hN;revert N;apply Pn.out));refine wk (tw @a6 (tw @a5 (tw @ag0 (tw @ag1 (tw @a0 (tw @a1 (tw @hj (tw @iH (tw @aB.eq_1 (tw @ag (tw @jl (tw @gz (tw @fS (tw @jc (tw @x1 (tw @x2 (tw @x3 (tw @vX (tw @vA (tw @vF (tw @bP.eq_1 (tw @hid (tw @oY (tw @y1 (tw @y2 (tw @y3 (tw @e3 @z1))))))))))))))))))))))))))) ?_;(repeat(refine Pn.mk ?_;intro N hN))))
    all_goals
     refine⟨by simp only[go_sem, ↓reduceIte,Nat.reduceEqDiff,Nat.reduceAdd,Nat.reduceSub,Nat.reduceLeDiff,reduceCtorEq,a6,a5,ag0,ag1,a0,a1,hj,iH,aB,ag,jl,gz,fS,jc,x1,x2,x3,vX,vA,vF,bP,hid,oY,y1,y2,y3,e3,z1],by simp only[go_sem, ↓reduceIte,Nat.reduceEqDiff,Nat.reduceAdd,Nat.reduceSub,Nat.reduceLeDiff,reduceCtorEq,a6,a5,ag0,ag1,a0,a1,hj,iH,aB,ag,jl,gz,fS,jc,x1,x2,x3,vX,vA,vF,bP,hid,oY,y1,y2,y3,e3,z1],by simp only[go_sem, ↓reduceIte,Nat.reduceEqDiff,Nat.reduceAdd,Nat.reduceSub,Nat.reduceLeDiff,reduceCtorEq,a6,a5,ag0,ag1,a0,a1,hj,iH,aB,ag,jl,gz,fS,jc,x1,x2,x3,vX,vA,vF,bP,hid,oY,y1,y2,y3,e3,z1],by simp only[go_sem, ↓reduceIte,Nat.reduceEqDiff,Nat.reduceAdd,Nat.reduceSub,Nat.reduceLeDiff,reduceCtorEq,a6,a5,ag0,ag1,a0,a1,hj,iH,aB,ag,jl,gz,fS,jc,x1,x2,x3,vX,vA,vF,bP,hid,oY,y1,y2,y3,e3,z1],by simp only[go_sem, ↓reduceIte,Nat.reduceEqDiff,Nat.reduceAdd,Nat.reduceSub,Nat.reduceLeDiff,reduceCtorEq,a6,a5,ag0,ag1,a0,a1,hj,iH,aB,ag,jl,gz,fS,jc,x1,x2,x3,vX,vA,vF,bP,hid,oY,y1,y2,y3,e3,z1],by simp only[go_sem, ↓reduceIte,Nat.reduceEqDiff,Nat.reduceAdd,Nat.reduceSub,Nat.reduceLeDiff,reduceCtorEq,a6,a5,ag0,ag1,a0,a1,hj,iH,aB,ag,jl,gz,fS,jc,x1,x2,x3,vX,vA,vF,bP,hid,oY,y1,y2,y3,e3,z1],Io _ (by simp only[go_sem, ↓reduceIte,Nat.reduceEqDiff,Nat.reduceAdd,Nat.reduceSub,Nat.reduceLeDiff,reduceCtorEq,a6,a5,ag0,ag1,a0,a1,hj,iH,aB,ag,jl,gz,fS,jc,x1,x2,x3,vX,vA,vF,bP,hid,oY,y1,y2,y3,e3,z1,List.length_nil]) (by simp only[go_sem, ↓reduceIte,Nat.reduceEqDiff,Nat.reduceAdd,Nat.reduceSub,Nat.reduceLeDiff,reduceCtorEq,a6,a5,ag0,ag1,a0,a1,hj,iH,aB,ag,jl,gz,fS,jc,x1,x2,x3,vX,vA,vF,bP,hid,oY,y1,y2,y3,e3,z1,List.map_nil,List.nil_append]) (fun i hi Nv fB=>?_),by(try dsimp only);omega⟩
     have gM:=fB id rfl
     simp only[go_sem, ↓reduceIte,Nat.reduceEqDiff,Nat.reduceAdd,Nat.reduceSub,Nat.reduceLeDiff,reduceCtorEq,vX,vA,vF,dP hi,Nv,gM]
 ·have gV:j=bs.length:=by omega
  subst gV
  (try((repeat(revert hN;revert N;apply Pn.out));refine wk (tw @a6 (tw @a5 (tw @ag0 (tw @ag1 (tw @a0 (tw @a1 @hj)))))) ?_;(repeat(refine Pn.mk ?_;intro N hN))))
  exact eV (.inl rfl) (by simp only[ft,ij,go_sem, ↓reduceIte,Nat.reduceEqDiff,Nat.reduceAdd,Nat.reduceSub,Nat.reduceLeDiff,reduceCtorEq];rfl) ⟨X,A,F,rfl,hXs,⟨ag0,⟨rows,ids,ag,hR,mm,fun x hx=>by have:=nP x hx;(try dsimp only);omega⟩,ag1,hXA,hAF,by(try dsimp only);omega⟩⟩
end Go.Proofs.YtgoelphibofcmaaGreat.V

namespace Go.Proofs.YtgoelphibofcmaaGreat.V
open Go.RowKit
attribute [local irreducible] eh wpOps fI Call
attribute [local go_sem] aM fj eJ fF fE da upd cu K.av cI AV.cells AV.cell rowOf rowsOf part ld rowAt bK bV dq dM gy bD cY dY fA eS dk dR cW cV dD dE bG bc cL bF cP cN dO dS dQ cK bL cX dN bE aO cR cz gx bm cH bH aY dp bl dr AV.undef bt bz dF dL dy dC cF dX eb cw dV dU cQ cU List.getD_cons_zero List.getD_cons_succ List.getD_nil List.all_cons List.all_nil Bool.and_true Bool.true_and Bool.and_self Bool.not_true Bool.not_false Option.map_some Option.map_none Option.bind_some Option.bind_none List.length_cons List.length_nil List.take_succ_cons List.take_zero List.take_nil List.drop_succ_cons List.drop_zero List.drop_nil List.head?_cons List.map_cons List.map_nil List.getElem?_cons_zero List.getElem?_cons_succ List.cons_append List.nil_append List.append_nil List.length_map List.set_cons_zero List.set_cons_succ Nat.reduceMul eq_self Int.toNat_natCast Int.natCast_nonneg and_self true_and and_true decide_true decide_false Bool.false_eq_true Nat.zero_add Nat.add_zero List.contains_cons List.contains_nil Bool.or_false Bool.false_or beq_self_eq_true Nat.reduceBEq ne_eq not_true_eq_false not_false_eq_true Id.mk.injEq false_and and_false Nat.reduceLT Int.reduceLE Int.reduceLT Int.reduceToNat Int.reduceNeg Int.reduceAdd Nat.le_refl List.length_append beq_true beq_false Bool.not_eq_eq_eq_not or_false false_or dK aj ar aH bd br bW aT aZ aU bf cJ bw
theorem qN.frame {A:Id} {lo nx uA:Nat} {L:List (List Nat)} {g g':Rows} (h:qN A lo L g nx) (hA:A.cq<nx) (hf:∀i:Id,i.cq<nx->lo<i.cq∨i=A->g' i=g i) (hn:nx<=uA):qN A lo L g' uA:=by
 obtain⟨rows,ids,h1,h2,h3,h4⟩:=h
 refine⟨rows,ids,(hf A hA (.inr rfl)).trans h1,h2.frame Ms fun i hi=>hf i (h4 i hi).2 (.inl (h4 i hi).1),h3,fun i hi=>?_⟩
 have:=h4 i hi;omega
theorem od.frame {cnt:Nat} {bs:List PB} {f:Nat->Int} {X A F:Id} {g g':Rows} {nx uA:Nat} (h:od cnt bs f X A F g nx) (hf:∀i:Id,i.cq<nx->g' i=g i) (hn:nx<=uA):od cnt bs f X A F g' uA:=by
 have h1:=h.xa;have h2:=h.af;have h3:=h.fn
 exact⟨(hf X (by omega)).trans h.x,h.a.frame (by omega) (fun i hi _=>hf i hi) hn,(hf F h3).trans h.f,h1,h2,by omega⟩
theorem od.PD {cnt:Nat} {bs:List PB} {f f':Nat->Int} {X A F:Id} {g g':Rows} {nx uA:Nat} (h:od cnt bs f X A F g nx) (hF:g' F=some ⟨true,1,ek f' bs.length⟩) (hf:∀i:Id,i.cq<nx->(i=F)=False->g' i=g i) (hn:nx<=uA):od cnt bs f' X A F g' uA:=by
 have h1:=h.xa;have h2:=h.af;have h3:=h.fn
 refine⟨(hf X (by omega) (cZ (by omega)).1).trans h.x,h.a.frame (by omega) (fun i hi kh=>hf i hi ?_) hn,hF,h1,h2,by omega⟩
 rcases kh with kh|rfl
 ·exact(cZ kh).2
 ·exact(cZ h2).1
theorem N6 (cnt:Nat) (bs:List PB) (f:Nat->Int) (hs:Small bs f) (e v:Nat) (he:e<bs.length) (X A F:Id) (σ:aw) (nx:Nat) (hS:od cnt bs f X A F σ.get nx) (hn:nx<=σ.next):
  Call Tryz.prog 261 [.ptr X 0 0,.int .i64 v,.int .i64 e] σ fun r σ'=>od cnt bs (tK bs f e v) X A F σ'.get nx/\σ.next<=σ'.next/\∀i:Id,(i=F)=False->σ'.get i=σ.get i:=by
 refine fc eG rfl fun hl=>?_
 clear hl
 have hX:=hS.x
 have hF:=hS.f
 have hb:=uj he
 have PX:=ec (f:=f) he
 have tl:=dG f bs.length
 obtain⟨⟨s0,s1⟩,s2,s3⟩:=hs e he
 have hei:(e:Int)<(bs.length:Int):=by omega
 have w1:IntKind.i64.wrap (f e+1)=f e+1:=bQ (by omega)
 have w2:IntKind.i64.wrap (f e-1)=f e+-1:=by rw[bQ (by omega)];omega
 rw[bu]at PX
 unfold tK
 by_cases h:(cE bs e).a=v
 ·have eP:(ek f bs.length).set e (bu (f e+1))=ek (fun j=>f j+if j=e then(if (cE bs e).a=v then 1 else -1)else 0) bs.length:=kX he (by rw[if_pos rfl,if_pos h]) fun i _ hi=>by rw[if_neg hi,Int.add_zero]
  rw[bu]at eP
  generalize OP:cE bs e=b at *
  have hd:decide ((b.a:Int)=(v:Int))=true:=decide_eq_true (by rw[h])
  (try((repeat(revert hN;revert N;apply Pn.out));refine wk (tw @hX (tw @hF (tw @hb (tw @PX (tw @tl (tw @hei (tw @w1 (tw @eP (tw @hd (tw @aB.eq_1 @bP.eq_1)))))))))) ?_;(repeat(refine Pn.mk ?_;intro N hN))))
  exact eV (.inr rfl) (vs:=[]) rfl ⟨hS.PD (sd @Nat.zero_add) (fun i hi gM=>sd @gM) (Nat.le_refl _),by(try dsimp only);omega,fun i gM=>sd @gM⟩
 ·have eP:(ek f bs.length).set e (bu (f e+-1))=ek (fun j=>f j+if j=e then(if (cE bs e).a=v then 1 else -1)else 0) bs.length:=kX he (by rw[if_pos rfl,if_neg h]) fun i _ hi=>by rw[if_neg hi,Int.add_zero]
  rw[bu]at eP
  generalize OP:cE bs e=b at *
  have hd:decide ((b.a:Int)=(v:Int))=false:=decide_eq_false fun hc=>h (by omega)
  (try((repeat(revert hN;revert N;apply Pn.out));refine wk (tw @hX (tw @hF (tw @hb (tw @PX (tw @tl (tw @hei (tw @w2 (tw @eP (tw @hd (tw @aB.eq_1 @bP.eq_1)))))))))) ?_;(repeat(refine Pn.mk ?_;intro N hN))))
  exact eV (.inr rfl) (vs:=[]) rfl ⟨hS.PD (sd @Nat.zero_add) (fun i hi gM=>sd @gM) (Nat.le_refl _),by(try dsimp only);omega,fun i gM=>sd @gM⟩
structure oe (bs:List PB) (out:Nat->Int) (f f':Nat->Int) (x v:Nat):Prop where
 le:∀i,i<bs.length->f' i<=(cE bs i).s/\-(cE bs i).s<=f' i
 cut:∀S:Nat->Bool,Fx S bs f'=Fx S bs f+bi (S x)-bi (S v)
 BT:∀e,e<bs.length->out (cE bs e).a<=out v->out (cE bs e).b<=out v->f' e=f e
section
variable {cnt:Nat} {bs:List PB} {out:Nat->Int} {f f':Nat->Int} {x v y:Nat}
theorem oe.start (h:∀i,i<bs.length->f i<=(cE bs i).s/\-(cE bs i).s<=f i):oe bs out f f x x:=⟨h,fun S=>by omega,fun _ _ _ _=>rfl⟩
theorem oe.step (h:oe bs out f f' x v) {e:Nat} (he:e<bs.length) (hi:Eg bs e v) (hr:0<fH bs f' e v) (hd:out (ck bs e v)=out v-1):oe bs out f (tK bs f' e v) x (ck bs e v):=by
 refine⟨fun i nI=>?_,fun S=>?_,fun i nI ha hb=>?_⟩
 ·have h1:=h.le i nI
  unfold tK
  by_cases JY:i=e
  ·subst JY
   rw[if_pos rfl]
   unfold fH at hr
   split at hr<;>rename_i hc
   ·rw[if_pos hc];omega
   ·rw[if_neg hc];omega
  ·rw[if_neg JY];omega
 ·rw[Fy he hi,h.cut S];omega
 ·have JY:i≠e:=by
   rintro rfl
   rcases hi with hi|hi
   ·rw[hi]at ha;omega
   ·rw[hi]at hb;omega
  unfold tK
  rw[if_neg JY,Int.add_zero]
  exact h.BT i nI (by omega) (by omega)
theorem oe.goes (h:oe bs out f f' x v) (hs:yT cnt bs f y out) (hv:v<cnt) (h0:0<out v):∃e∈iS bs bs.length v,0<fH bs f' e v/\out (ck bs e v)=out v-1:=by
 obtain⟨e,h1,h2,h3,h4⟩:=hs.down v hv h0
 refine⟨e,rG.2 ⟨h1,h2⟩,?_,h4⟩
 have hf:f' e=f e:=by
  refine h.BT e h1 ?_ ?_
  ·unfold ck at h4
   split at h4
   ·rename_i ha;rw[ha];exact Int.le_refl _
   ·omega
  ·unfold ck at h4
   rcases h2 with h2|h2
   ·rw[if_pos h2]at h4;omega
   ·rw[h2];exact Int.le_refl _
 unfold fH at h3 ⊢
 rw[hf];exact h3
theorem oe.done {val:Int} (h:oe bs out f f' x y) (hf:jT bs f x y val):jT bs f' x y (val+1):=
 ⟨h.le,fun S hx hy=>by rw[h.cut S,hf.cut S hx hy,hx,hy];simp[bi]⟩
theorem DW {val:Int} (hs:yT cnt bs f y out) (ok:nr cnt bs) (hf:jT bs f x y val) (hx:out x<0):∃S:Nat->Bool,S x=true/\S y=false/\val=jb S bs:=by
 refine⟨fun v=>decide (out v<0),decide_eq_true hx,decide_eq_false (by rw[hs.first];omega),hf.full (decide_eq_true hx) (decide_eq_false (by rw[hs.first];omega)) fun i hi rh=>⟨fun h1 h2 hr=>?_,fun h1 h2 hr=>?_⟩⟩
 ·have M6:=of_decide_eq_true h1
  have Cn:=of_decide_eq_false h2
  have:=hs.shut i (cE bs i).a hi (.inl rfl) (by unfold ck;rw[if_pos rfl];omega) hr
  omega
 ·have M6:=of_decide_eq_true h1
  have Cn:=of_decide_eq_false h2
  have:=hs.shut i (cE bs i).b hi (.inr rfl) (by unfold ck;rw[if_neg rh];omega) hr
  omega
end
end Go.Proofs.YtgoelphibofcmaaGreat.V

namespace Go.Proofs.YtgoelphibofcmaaGreat.V
open Go.RowKit
attribute [local irreducible] eh wpOps fI Call
attribute [local go_sem] aM fj eJ fF fE da upd cu K.av cI AV.cells AV.cell rowOf rowsOf part ld rowAt bK bV dq dM gy bD cY dY fA eS dk dR cW cV dD dE bG bc cL bF cP cN dO dS dQ cK bL cX dN bE aO cR cz gx bm cH bH aY dp bl dr AV.undef bt bz dF dL dy dC cF dX eb cw dV dU cQ cU List.getD_cons_zero List.getD_cons_succ List.getD_nil List.all_cons List.all_nil Bool.and_true Bool.true_and Bool.and_self Bool.not_true Bool.not_false Option.map_some Option.map_none Option.bind_some Option.bind_none List.length_cons List.length_nil List.take_succ_cons List.take_zero List.take_nil List.drop_succ_cons List.drop_zero List.drop_nil List.head?_cons List.map_cons List.map_nil List.getElem?_cons_zero List.getElem?_cons_succ List.cons_append List.nil_append List.append_nil List.length_map List.set_cons_zero List.set_cons_succ Nat.reduceMul eq_self Int.toNat_natCast Int.natCast_nonneg and_self true_and and_true decide_true decide_false Bool.false_eq_true Nat.zero_add Nat.add_zero List.contains_cons List.contains_nil Bool.or_false Bool.false_or beq_self_eq_true Nat.reduceBEq ne_eq not_true_eq_false not_false_eq_true Id.mk.injEq false_and and_false Nat.reduceLT Int.reduceLE Int.reduceLT Int.reduceToNat Int.reduceNeg Int.reduceAdd Nat.le_refl List.length_append beq_true beq_false Bool.not_eq_eq_eq_not or_false false_or dK aj ar aH bd br bW aT aZ aU bf cJ bw
theorem wK {bs:List PB} {f:Nat->Int} (eC:∀e,e<bs.length->0<=(cE bs e).s/\(cE bs e).s<=4) (h:∀i,i<bs.length->f i<=(cE bs i).s/\-(cE bs i).s<=f i):Small bs f:=fun e he=>by
 have:=eC e he;have:=h e he;omega
theorem qN.at_ {A:Id} {lo nx v:Nat} {L:List (List Nat)} {l:List Nat} {g:Rows} (h:qN A lo L g nx) (hv:L[v]? =some l) (hl:0<l.length):∃(rows:List (List AV)) (id:Id),g A=some ⟨true,1,rows⟩/\rows.length=L.length/\rows[v]? =some [.own id 0 l.length]/\g id=some ⟨true,1,l.map eN⟩/\lo<id.cq/\id.cq<nx:=by
 obtain⟨rows,ids,h1,h2,h3,h4⟩:=h
 have hk:v<L.length:=(List.getElem?_eq_some_iff.1 hv).1
 obtain⟨cs,ic,du,hR,P7⟩:=h2.at_ v hk
 rw[kz hv hk]at hR
 rcases hR with⟨h5,_⟩|⟨id,rfl,_,h6,rfl⟩
 ·subst h5;simp at hl
 ·have:=h4 id (P7 id (by simp))
  exact⟨rows,id,h1,h2.len,du,h6,this.1,this.2⟩
theorem M5 (cnt:Nat) (hn:cnt<=1048576) (bs:List PB) (ok:nr cnt bs) (qq:bs.length<=1048576) (eC:∀e,e<bs.length->0<=(cE bs e).s/\(cE bs e).s<=4) (f:Nat->Int) (x y:Nat) (hx:x<cnt) (hy:y<cnt) (Qv:x≠y) (val:Int) (hf:jT bs f x y val)
  (X A F:Id) (σ:aw) (nb:Nat) (hS:od cnt bs f X A F σ.get nb) (pd:nb<=σ.next):
  Call Tryz.prog 238 [.ptr X 0 0,.int .i64 x,.int .i64 y] σ fun r σ'=>∃b f',r=.bool b/\od cnt bs f' X A F σ'.get nb/\σ.next<=σ'.next/\(∀i:Id,i.cq<nb->(i=F)=False->σ'.get i=σ.get i)/\
   (b=false->f'=f/\∃S:Nat->Bool,S x=true/\S y=false/\val=jb S bs)/\(b=true->jT bs f' x y (val+1)):=by
 refine fc eG rfl fun hl=>?_
 clear hl
 have Ct:(x:Int)<(cnt:Int):=by omega
 have hz:∀(g:Rows),(∀i:Id,i.cq<nb->g i=σ.get i)->dd (dK g) 6 [.ptr X 0 0,.int .i64 (y:Int)]=some [.di (fR cnt bs f),.int .i64 y]:=fun g hg=>by
  have:=(hS.frame hg (Nat.le_refl _)).fz
  simp only[aj,ar,this,aH,Option.map_some]
 (try((repeat(revert hN;revert N;apply Pn.out));refine wk @Nat.zero_add ?_;(repeat(refine Pn.mk ?_;intro N hN))))
 refine .inr (aJ _ _ _ _ _ (fun r σ1 hq=>?_) ((E8 cnt hn bs ok qq f (wK eC hf.le) y hy).x mixed (hz _ (fun i hi=>rfl))))
 obtain⟨⟨out,rfl,Iv⟩,rfl⟩:=hq
 refine hN _ _ ?_
 clear hN N
 have hox:=ec (f:=out) hx
 have tl:=dG out cnt
 by_cases jW:out x<0
 ·(try((repeat(revert hN;revert N;apply Pn.out));refine wk (tw @hox (tw @jW (tw @Ct (tw @tl @bu.eq_1)))) ?_;(repeat(refine Pn.mk ?_;intro N hN))))
  exact eV (.inl rfl) (vs:=[.bool false]) (sd @Nat.zero_add) ⟨false,f,rfl,hS.frame (fun i hi=>rfl) (Nat.le_refl _),by(try dsimp only);omega,fun i _ _=>rfl,fun _=>⟨rfl,DW Iv ok hf jW⟩,fun h=>by cases h⟩
 (try((repeat(revert hN;revert N;apply Pn.out));refine wk (tw @hox (tw @jW (tw @Ct (tw @tl @bu.eq_1)))) ?_;(repeat(refine Pn.mk ?_;intro N hN))))
 refine bh (fun m env st=>∃(v:Nat) (f':Nat->Int),m=(out v).toNat/\v<cnt/\0<=out v/\env 8=.int .i64 (v:Int)/\oe bs out f f' x v/\od cnt bs f' X A F st.get nb/\(∀i:Id,i.cq<nb->(i=F)=False->st.get i=σ.get i)/\σ.next<=st.next) (out x).toNat ⟨x,f,rfl,hx,by omega,by(simp only[go_sem, ↓reduceIte,Nat.reduceEqDiff,Nat.reduceAdd,Nat.reduceSub,Nat.reduceLeDiff,reduceCtorEq]),oe.start hf.le,hS.frame (fun i hi=>rfl) (Nat.le_refl _),fun i _ _=>rfl,by(try dsimp only);omega⟩ ?_
 rintro m env_b st_b ⟨v,f',rfl,hv,sf,b8,hW,hN1,ik,hle⟩ gQ
 have b0:=gQ 0 (by kernel_rfl)
 have b2:=gQ 2 (by kernel_rfl)
 have b7:=gQ 7 (by kernel_rfl)
 simp only[go_sem, ↓reduceIte,Nat.reduceEqDiff,Nat.reduceAdd,Nat.reduceSub,Nat.reduceLeDiff,reduceCtorEq]at b0 b2 b7
 clear gQ
 by_cases RP:v=y
 ·have hd:decide ((v:Int)=(y:Int))=true:=decide_eq_true (by rw[RP])
  subst RP
  (try((repeat(revert hN;revert N;apply Pn.out));refine wk (tw @b0 (tw @b2 (tw @b7 (tw @b8 @hd)))) ?_;(repeat(refine Pn.mk ?_;intro N hN))))
  exact eV (.inl rfl) (vs:=[.bool true]) (sd @Nat.zero_add) ⟨true,f',rfl,hN1,by(try dsimp only);omega,ik,fun h=>(by cases h),fun _=>hW.done hf⟩
 have hd:decide ((v:Int)=(y:Int))=false:=decide_eq_false fun h=>RP (by omega)
 have Ao:0<out v:=by
  have:=Iv.zero v hv
  rcases Int.lt_or_eq_of_le sf with h|h
  ·exact h
  ·exact absurd (this h.symm) RP
 have Mc:=hW.goes Iv hv Ao
 have hIm:∀ed∈iS bs bs.length v,ed<bs.length/\Eg bs ed v:=fun ed h=>rG.1 h
 have hIL:(lg cnt bs bs.length)[v]? =some (iS bs bs.length v):=by simp[lg,hv]
 have hIl:=rF bs bs.length v
 generalize iS bs bs.length v=I at *
 have hIp:0<I.length:=by
  obtain⟨ed,h,_⟩:=Mc
  exact List.length_pos_of_mem h
 obtain⟨rows,id,hgA,se,lv,hid,hid1,hid2⟩:=hN1.a.at_ hIL hIp
 rw[jn]at se
 have hgX:=hN1.x
 have Dg:(v:Int)<(cnt:Int):=by omega
 have sb:=ec (f:=out) hv
 have pe:IntKind.i64.wrap (out v-1)=out v-1:=bQ (by have:=Iv.lo v hv;omega)
 have qp:(I.map eN).length=I.length:=by simp
 have KU:=wK eC hW.le
 have lP:∀(g:Rows),(∀i:Id,i.cq<nb->g i=st_b.get i)->∀ed:Nat,dd (dK g) 6 [.ptr X 0 0,.int .i64 (v:Int),.int .i64 (ed:Int)]=some [.di (fR cnt bs f'),.int .i64 v,.int .i64 ed]:=fun g hg ed=>by
  have:=(hN1.frame hg (Nat.le_refl _)).fz
  simp only[aj,ar,this,aH,Option.map_some]
 rw[bu]at sb
 (try((repeat(revert hN;revert N;apply Pn.out));refine wk (tw @b0 (tw @b2 (tw @b7 (tw @b8 @hd)))) ?_;(repeat(refine Pn.mk ?_;intro N hN))))
 refine bh (fun n env st=>∃k:Nat,n=(I.length)-k/\k<=(I.length)/\env 11=.int .i64 (k:Int)/\(∃(yG Eo:Int),env 9=.int .i64 yG/\env 10=.int .i64 Eo/\((yG<0/\∀z,z<k->¬(0<fH bs f' (I.getD z 0) v/\out (ck bs (I.getD z 0) v)=out v-1))∨∃ed:Nat,ed∈I/\Eo=(ed:Int)/\yG=(ck bs ed v:Int)/\0<fH bs f' ed v/\out (ck bs ed v)=out v-1))/\((∀i:Id,st.get i=st_b.get i)/\st_b.next<=st.next)) (I.length) ⟨0,by omega,by omega,sl (tw @b0 (tw @b2 (tw @b7 @b8))),⟨-1,0,by(simp only[go_sem, ↓reduceIte,Nat.reduceEqDiff,Nat.reduceAdd,Nat.reduceSub,Nat.reduceLeDiff,reduceCtorEq]),by(simp only[go_sem, ↓reduceIte,Nat.reduceEqDiff,Nat.reduceAdd,Nat.reduceSub,Nat.reduceLeDiff,reduceCtorEq]),.inl ⟨by omega,fun z hz=>by omega⟩⟩,⟨fun i=>rfl,by(try dsimp only);omega⟩⟩ ?_
 rintro n_c env_c st_c ⟨k,rfl,cle,nG,cI0,cI1⟩ cfr
 have c0:=cfr 0 (by kernel_rfl);have c2:=cfr 2 (by kernel_rfl);have c7:=cfr 7 (by kernel_rfl);have c8:=cfr 8 (by kernel_rfl)
 simp only[go_sem, ↓reduceIte,Nat.reduceEqDiff,Nat.reduceAdd,Nat.reduceSub,Nat.reduceLeDiff,reduceCtorEq,b0,b2,b7,b8]at c0 c2 c7 c8
 clear cfr
 obtain⟨yG,Eo,c9,ju,H5⟩:=cI0
 obtain⟨l8,Rp⟩:=cI1
 have C9:=(l8 X).trans hgX
 have C8:=(l8 A).trans hgA
 have Db:=(l8 id).trans hid
 by_cases hk:(k:Int)<(I.length:Int)
 ·have gW:∀{e:Env} {gg:Rows} {nx:Nat},(e 11=.int .i64 (IntKind.i64.wrap ((k:Int)+1)))->(∃(yG Eo:Int),e 9=.int .i64 yG/\e 10=.int .i64 Eo/\((yG<0/\∀z,z<(k+1)->¬(0<fH bs f' (I.getD z 0) v/\out (ck bs (I.getD z 0) v)=out v-1))∨∃ed:Nat,ed∈I/\Eo=(ed:Int)/\yG=(ck bs ed v:Int)/\0<fH bs f' ed v/\out (ck bs ed v)=out v-1))->((∀i:Id,gg i=st_b.get i)/\st_b.next<=nx)->∃m0,m0<(I.length)-k/\∃k:Nat,m0=(I.length)-k/\k<=(I.length)/\e 11=.int .i64 (k:Int)/\(∃(yG Eo:Int),e 9=.int .i64 yG/\e 10=.int .i64 Eo/\((yG<0/\∀z,z<k->¬(0<fH bs f' (I.getD z 0) v/\out (ck bs (I.getD z 0) v)=out v-1))∨∃ed:Nat,ed∈I/\Eo=(ed:Int)/\yG=(ck bs ed v:Int)/\0<fH bs f' ed v/\out (ck bs ed v)=out v-1))/\((∀i:Id,gg i=st_b.get i)/\st_b.next<=nx):=fun x1 x2 x3=>⟨_,by omega,k+1,rfl,by omega,(by rw[x1,aC (by omega)]),x2,x3⟩
  have fw:k<I.length:=by omega
  have eQ:(I.map eN)[k]? =some (eN (I.getD k 0)):=getD_map eN fw
  have xw:I.getD k 0∈I:=by rw[List.getD_eq_getElem?_getD,List.getElem?_eq_getElem fw];exact List.getElem_mem fw
  obtain⟨he,pK⟩:=hIm _ xw
  have NK:=Jg cnt bs f' KU (I.getD k 0) v he
  have tC:=lP st_c.get (fun i _=>l8 i) (I.getD k 0)
  have hq:=oO ok (v:=v) he
  have O0:=ec (f:=out) hq
  obtain⟨ed,hed⟩:∃ed,ed=I.getD k 0:=⟨_,rfl⟩
  rw[<-hed]at eQ he pK NK tC hq O0 xw
  rw[bu]at O0
  rw[eN]at eQ
  (try((repeat(revert hN;revert N;apply Pn.out));refine wk (tw @nG (tw @c0 (tw @c2 (tw @c7 (tw @c8 (tw @c9 (tw @ju (tw @hk (tw @C9 (tw @C8 (tw @Db (tw @lv (tw @se (tw @Dg (tw @eQ (tw @qp @bP.eq_1)))))))))))))))) ?_;(repeat(refine Pn.mk ?_;intro N hN))))
  refine .inl ⟨_,au.x NK tC,?_⟩
  refine hN _ _ ?_
  clear hN N
  have stay:∀k',k'=k+1->(¬(0<fH bs f' ed v/\out (ck bs ed v)=out v-1))->((yG<0/\∀z,z<k'->¬(0<fH bs f' (I.getD z 0) v/\out (ck bs (I.getD z 0) v)=out v-1))∨∃ed:Nat,ed∈I/\Eo=(ed:Int)/\yG=(ck bs ed v:Int)/\0<fH bs f' ed v/\out (ck bs ed v)=out v-1):=fun k' KJ lF=>by
   rcases H5 with⟨h1,h2⟩|h
   ·refine .inl ⟨h1,fun z hz=>?_⟩
    by_cases Di:z=k
    ·subst Di;rw[<-hed];exact lF
    ·exact h2 z (by omega)
   ·exact .inr h
  by_cases hr:0<fH bs f' ed v
  ·by_cases JV:out (ck bs ed v)=out v-1
   ·have l7:decide (out (ck bs ed v)=out v-1)=true:=decide_eq_true JV
    have found:∃Py:Nat,Py∈I/\(ed:Int)=(Py:Int)/\(ck bs ed v:Int)=(ck bs Py v:Int)/\0<fH bs f' Py v/\out (ck bs Py v)=out v-1:=⟨ed,xw,rfl,rfl,hr,JV⟩
    by_cases Me:yG<0
    ·(try((repeat(revert hN;revert N;apply Pn.out));refine wk (tw @nG (tw @c0 (tw @c2 (tw @c7 (tw @c8 (tw @c9 (tw @ju (tw @hk (tw @C9 (tw @C8 (tw @Db (tw @lv (tw @se (tw @Dg (tw @eQ (tw @qp (tw @hr (tw @O0 (tw @sb (tw @pe (tw @l7 (tw @Me @bP.eq_1)))))))))))))))))))))) ?_;(repeat(refine Pn.mk ?_;intro N hN))))
     exact gW (sd (tw @nG (tw @c0 (tw @c2 (tw @c7 @c8))))) (⟨_,_,sd @Nat.zero_add,sd @Nat.zero_add,.inr found⟩) (⟨l8,by(try dsimp only);omega⟩)
    ·by_cases eo:(ck bs ed v:Int)<yG
     ·(try((repeat(revert hN;revert N;apply Pn.out));refine wk (tw @nG (tw @c0 (tw @c2 (tw @c7 (tw @c8 (tw @c9 (tw @ju (tw @hk (tw @C9 (tw @C8 (tw @Db (tw @lv (tw @se (tw @Dg (tw @eQ (tw @qp (tw @hr (tw @O0 (tw @sb (tw @pe (tw @l7 (tw @Me (tw @eo @bP.eq_1))))))))))))))))))))))) ?_;(repeat(refine Pn.mk ?_;intro N hN))))
      exact gW (sd (tw @nG (tw @c0 (tw @c2 (tw @c7 @c8))))) (⟨_,_,sd @Nat.zero_add,sd @Nat.zero_add,.inr found⟩) (⟨l8,by(try dsimp only);omega⟩)
     ·(try((repeat(revert hN;revert N;apply Pn.out));refine wk (tw @nG (tw @c0 (tw @c2 (tw @c7 (tw @c8 (tw @c9 (tw @ju (tw @hk (tw @C9 (tw @C8 (tw @Db (tw @lv (tw @se (tw @Dg (tw @eQ (tw @qp (tw @hr (tw @O0 (tw @sb (tw @pe (tw @l7 (tw @Me (tw @eo @bP.eq_1))))))))))))))))))))))) ?_;(repeat(refine Pn.mk ?_;intro N hN))))
      exact gW (sd (tw @nG (tw @c0 (tw @c2 (tw @c7 @c8))))) (⟨yG,Eo,sd @c9,sd @ju,by
       rcases H5 with⟨h1,_⟩|h
       ·exact absurd h1 Me
       ·exact .inr h⟩) (⟨l8,by(try dsimp only);omega⟩)
   ·have l7:decide (out (ck bs ed v)=out v-1)=false:=decide_eq_false JV
    (try((repeat(revert hN;revert N;apply Pn.out));refine wk (tw @nG (tw @c0 (tw @c2 (tw @c7 (tw @c8 (tw @c9 (tw @ju (tw @hk (tw @C9 (tw @C8 (tw @Db (tw @lv (tw @se (tw @Dg (tw @eQ (tw @qp (tw @hr (tw @O0 (tw @sb (tw @pe (tw @l7 @bP.eq_1))))))))))))))))))))) ?_;(repeat(refine Pn.mk ?_;intro N hN))))
    exact gW (sd (tw @nG (tw @c0 (tw @c2 (tw @c7 @c8))))) (⟨yG,Eo,sd @c9,sd @ju,stay _ rfl fun h=>JV h.2⟩) (⟨l8,by(try dsimp only);omega⟩)
  ·(try((repeat(revert hN;revert N;apply Pn.out));refine wk (tw @nG (tw @c0 (tw @c2 (tw @c7 (tw @c8 (tw @c9 (tw @ju (tw @hk (tw @C9 (tw @C8 (tw @Db (tw @lv (tw @se (tw @Dg (tw @eQ (tw @qp (tw @hr @bP.eq_1))))))))))))))))) ?_;(repeat(refine Pn.mk ?_;intro N hN))))
   exact gW (sd (tw @nG (tw @c0 (tw @c2 (tw @c7 @c8))))) (⟨yG,Eo,sd @c9,sd @ju,stay _ rfl fun h=>hr h.1⟩) (⟨l8,by(try dsimp only);omega⟩)
 ·have lO:k=I.length:=by omega
  have S7:∃ed:Nat,ed∈I/\Eo=(ed:Int)/\yG=(ck bs ed v:Int)/\0<fH bs f' ed v/\out (ck bs ed v)=out v-1:=by
   rcases H5 with⟨h1,h2⟩|h
   ·exfalso
    obtain⟨ed,he,hq⟩:=Mc
    obtain⟨z,hz,rfl⟩:=List.getElem_of_mem he
    refine h2 z (by omega) ?_
    rw[List.getD_eq_getElem?_getD,List.getElem?_eq_getElem hz];exact hq
   ·exact h
  obtain⟨ed,xw,rfl,rfl,hr,JV⟩:=S7
  obtain⟨he,pK⟩:=hIm _ xw
  (try((repeat(revert hN;revert N;apply Pn.out));refine wk (tw @nG (tw @c0 (tw @c2 (tw @c7 (tw @c8 (tw @c9 (tw @ju (tw @hk (tw @C9 (tw @C8 (tw @Db (tw @lv (tw @se (tw @Dg (tw @qp @bP.eq_1))))))))))))))) ?_;(repeat(refine Pn.mk ?_;intro N hN))))
  refine .inr (aJ _ _ _ _ _ (fun r σ1 hq=>?_) (N6 cnt bs f' KU ed v he X A F ⟨st_c.get,_⟩ nb (hN1.frame (fun i _=>l8 i) (Nat.le_refl _)) (by(try dsimp only);omega)))
  obtain⟨Ri,mM,Ih⟩:=hq
  (try dsimp only at mM Ih)
  refine hN _ _ ?_
  clear hN N
  (try((repeat(revert hN;revert N;apply Pn.out));refine wk (tw @nG (tw @c0 (tw @c2 (tw @c7 (tw @c8 @c9))))) ?_;(repeat(refine Pn.mk ?_;intro N hN))))
  refine⟨_,?_,ck bs ed v,tK bs f' ed v,rfl,oO ok he,by omega,sd @Nat.zero_add,hW.step he pK hr JV,Ri,fun i hi hF=>by rw[Ih i hF,l8 i,ik i hi hF],by(try dsimp only);omega⟩
  omega
end Go.Proofs.YtgoelphibofcmaaGreat.V

namespace Go.Proofs.YtgoelphibofcmaaGreat.V
open Go.RowKit
attribute [local irreducible] eh wpOps fI Call
attribute [local go_sem] aM fj eJ fF fE da upd cu K.av cI AV.cells AV.cell rowOf rowsOf part ld rowAt bK bV dq dM gy bD cY dY fA eS dk dR cW cV dD dE bG bc cL bF cP cN dO dS dQ cK bL cX dN bE aO cR cz gx bm cH bH aY dp bl dr AV.undef bt bz dF dL dy dC cF dX eb cw dV dU cQ cU List.getD_cons_zero List.getD_cons_succ List.getD_nil List.all_cons List.all_nil Bool.and_true Bool.true_and Bool.and_self Bool.not_true Bool.not_false Option.map_some Option.map_none Option.bind_some Option.bind_none List.length_cons List.length_nil List.take_succ_cons List.take_zero List.take_nil List.drop_succ_cons List.drop_zero List.drop_nil List.head?_cons List.map_cons List.map_nil List.getElem?_cons_zero List.getElem?_cons_succ List.cons_append List.nil_append List.append_nil List.length_map List.set_cons_zero List.set_cons_succ Nat.reduceMul eq_self Int.toNat_natCast Int.natCast_nonneg and_self true_and and_true decide_true decide_false Bool.false_eq_true Nat.zero_add Nat.add_zero List.contains_cons List.contains_nil Bool.or_false Bool.false_or beq_self_eq_true Nat.reduceBEq ne_eq not_true_eq_false not_false_eq_true Id.mk.injEq false_and and_false Nat.reduceLT Int.reduceLE Int.reduceLT Int.reduceToNat Int.reduceNeg Int.reduceAdd Nat.le_refl List.length_append beq_true beq_false Bool.not_eq_eq_eq_not or_false false_or dK aj ar aH bd br bW aT aZ aU bf cJ bw
def te (P:Program) (f:Nat) (args:List AV) (R:AV->Prop):Prop:=∀σ:aw,Call P f args ⟨V.ro σ.get,σ.next⟩ fun r0 σ'=>∃r',V.fz σ'.get 6 r0=some r'/\R r'
theorem CZ {P:Program} {f:Nat} {args:List AV} {g:Rows} {n:Nat} {R:AV->Prop} (h:Sound P f args ⟨V.ro g,n⟩ fun r0 σ'=>∃r',V.fz σ'.get 6 r0=some r'/\R r'):Sound P f args ⟨g,n⟩ fun r σ'=>R r/\σ'=⟨g,n⟩:=by
 intro hs D ι w vs S U A
 refine(Av (g0:=g) (K:=R) h (fun _ _ h=>h) S U A).mono ?_
 rintro e w' ⟨r,D',u,rfl,hR,T,S',hr⟩
 exact⟨r,g,n,D',ι,u,rfl,⟨hR,rfl⟩,T,S',U,Nat.le_refl _,hr⟩
theorem te.x {P:Program} (hm:P.follows .mixedOrders=true) {f:Nat} {args:List AV} {R:AV->Prop} (h:te P f args R) {σ:aw}:Call P f args σ fun r σ'=>R r/\σ'=σ:=
 gD (CZ (ib hm (h σ)))
theorem te.body {P:Program} {f:Nat} {args:List AV} {R:AV->Prop} {nt na:Nat} {body:VC} {res:List oj} (hf:lZ P f=some ⟨nt,na,body,res⟩) (ha:na=args.length) (h:(∀a∈args,eH a)->∀σ:aw,eh (Call P) body (kS res fun r0 σ'=>∃r',V.fz σ'.get 6 r0=some r'/\R r') (cu args) ⟨V.ro σ.get,σ.next⟩):te P f args R:=fun σ=>lR hf ha fun hl=>h hl σ
theorem Ld {g:Rows} {rows:List (List AV)} {xs:List (List Nat)} {ids:List Id} (n:Nat) (h:eI OG g rows xs ids):ev g (n+2) rows=some (xs.map fun l=>[Ob l]):=by
 induction h with
 |nil=>rw[ev];rfl
 |cons h1 _ ih=>
  rename_i x _ _ _ _ _
  rcases h1 with⟨h0,h1,_⟩|⟨id,h1,h0,h2,_⟩
  ·subst h0 h1;rw[ev,ih,aj,ar,aT];rfl
  ·have gM:x≠[]:=by rintro rfl;simp at h0
   subst h1
   rw[ev,ih,aj,ar,gG (e:=eN) (sz:=1) h2 rfl fun a=>fzN _ n a]
   simp[Ob,gM]
theorem od.fz0 {cnt:Nat} {bs:List PB} {f:Nat->Int} {X A F:Id} {g:Rows} {nx:Nat} (h:od cnt bs f X A F g nx):V.fz g 5 (.ptr X 0 0)=some (.di (fR cnt bs f)):=by
 have hf:V.fz g 4 (.own F 0 bs.length)=some (.sl (ek f bs.length)):=by
  rw[im]
  simp only[h.f,if_true]
  rw[if_pos (by rw[dG];omega),List.drop_zero,List.take_of_length_le (by rw[dG];omega),z7];rfl
 have ha:V.fz g 4 (.own A 0 cnt)=some (.sl (p9 cnt bs bs.length)):=by
  obtain⟨rows,ids,h1,h2,_,_⟩:=h.a
  have hl:=h2.len
  rw[jn]at hl
  rw[im]
  simp only[h1,if_true]
  rw[if_pos (by omega),List.drop_zero,List.take_of_length_le (by omega),Ld 1 h2]
  simp[lg,p9]
 rw[bf]
 simp only[h.x,if_true,List.getElem?_cons_zero,List.drop_zero,bP,aj,ar,aH,bW,ha,hf,Option.map_some,fR]
theorem Ep {S:Nat->Bool}:∀bs:List PB,(∀b∈bs,b.s<=4)->jb S bs<=4*bs.length
 |[],_=>by simp[jb]
 |b::bs,h=>by
  rw[sD]
  have:=Ep (S:=S) bs fun x hx=>h x (List.mem_cons_of_mem _ hx)
  have:=h b (by simp)
  simp only[List.length_cons]
  split<;>omega
theorem jT.zero {bs:List PB} {x y:Nat} (h:∀e,e<bs.length->0<=(cE bs e).s/\(cE bs e).s<=4):jT bs (fun _=>0) x y 0:=
 ⟨fun i hi=>by have:=h i hi;omega,fun S _ _=>jP fun i _=>by simp⟩
theorem Kh {bs:List PB} {b:PB} (h:b∈bs):∃e,e<bs.length/\cE bs e=b:=by
 obtain⟨e,he,rfl⟩:=List.getElem_of_mem h
 exact⟨e,he,by simp[cE,List.getD_eq_getElem?_getD,he]⟩
theorem F8 (cnt:Nat) (hn:cnt<=1048576) (bs:List PB) (ok:nr cnt bs) (qq:bs.length<=1048576) (eC:∀e,e<bs.length->0<=(cE bs e).s/\(cE bs e).s<=4) (x y:Nat) (hx:x<cnt) (hy:y<cnt) (Qv:x≠y):
  te Tryz.prog 218 [.int .i64 cnt,.sl (bs.map aB),.int .i64 x,.int .i64 y] fun r=>∃f val,r=.iO [.di (fR cnt bs f),.int .i64 val]/\jT bs f x y val/\∃S:Nat->Bool,S x=true/\S y=false/\val=jb S bs:=by
 refine te.body eG rfl fun hl σ=>?_
 clear hl
 (try((repeat(revert hN;revert N;apply Pn.out));refine wk @Nat.zero_add ?_;(repeat(refine Pn.mk ?_;intro N hN))))
 refine .inr (aJ _ _ _ _ _ (fun r σ1 hq=>?_) (IE cnt hn bs ok qq _))
 obtain⟨X,A,F,rfl,hX,hS⟩:=hq
 refine hN _ _ ?_
 clear hN N
 have hS0:∀f val,jT bs f x y val->val<=jb (fun v=>decide (v=x)) bs:=fun f val hf=>hf.bound (decide_eq_true rfl) (decide_eq_false fun h=>Qv h.symm)
 have htot:=Ep (S:=fun v=>decide (v=x)) bs fun b hb=>by
  obtain⟨e,he,rfl⟩:=Kh hb
  exact(eC e he).2
 generalize jb (fun v=>decide (v=x)) bs=T at *
 (try((repeat(revert hN;revert N;apply Pn.out));refine wk @Nat.zero_add ?_;(repeat(refine Pn.mk ?_;intro N hN))))
 refine bh (fun m env st=>∃(f:Nat->Int) (val:Int),m=(T-val).toNat/\0<=val/\env 10=.ptr X 0 0/\env 11=.int .i64 val/\jT bs f x y val/\od cnt bs f X A F st.get σ1.next/\σ1.next<=st.next) T.toNat ⟨_,0,by simp,by omega,by(simp only[go_sem, ↓reduceIte,Nat.reduceEqDiff,Nat.reduceAdd,Nat.reduceSub,Nat.reduceLeDiff,reduceCtorEq]),by(simp only[go_sem, ↓reduceIte,Nat.reduceEqDiff,Nat.reduceAdd,Nat.reduceSub,Nat.reduceLeDiff,reduceCtorEq]),jT.zero eC,hS.frame (fun i hi=>rfl) (Nat.le_refl _),by(try dsimp only);omega⟩ ?_
 rintro m env_b st_b ⟨f,val,rfl,sf,b10,b11,hf,hN1,hle⟩ gQ
 have b2:=gQ 2 (by kernel_rfl)
 have b3:=gQ 3 (by kernel_rfl)
 simp only[go_sem, ↓reduceIte,Nat.reduceEqDiff,Nat.reduceAdd,Nat.reduceSub,Nat.reduceLeDiff,reduceCtorEq]at b2 b3
 clear gQ
 (try((repeat(revert hN;revert N;apply Pn.out));refine wk (tw @b2 (tw @b3 @b10)) ?_;(repeat(refine Pn.mk ?_;intro N hN))))
 refine .inr (aJ _ _ _ _ _ (fun r σ2 hq=>?_) (M5 cnt hn bs ok qq eC f x y hx hy Qv val hf X A F ⟨st_b.get,_⟩ σ1.next hN1 (by(try dsimp only);omega)))
 obtain⟨b,f',rfl,Ri,mM,_,lF,TM⟩:=hq
 (try dsimp only at mM)
 refine hN _ _ ?_
 clear hN N
 cases b with
 |true=>
  have kg:=TM rfl
  have G1:=hS0 _ _ hf
  have G2:=hS0 _ _ kg
  have hw:IntKind.i64.wrap (val+1)=val+1:=bQ (by omega)
  (try((repeat(revert hN;revert N;apply Pn.out));refine wk (tw @b10 (tw @b11 @hw)) ?_;(repeat(refine Pn.mk ?_;intro N hN))))
  exact⟨_,by omega,f',val+1,rfl,by omega,sd @b10,sd (tw @b11 @hw),kg,Ri,by(try dsimp only);omega⟩
 |false=>
  obtain⟨rfl,S,h1,h2,h3⟩:=lF rfl
  (try((repeat(revert hN;revert N;apply Pn.out));refine wk (tw @b10 @b11) ?_;(repeat(refine Pn.mk ?_;intro N hN))))
  have hz:=Ri.fz0
  exact⟨[.ptr X 0 0,.int .i64 val],sd @Nat.zero_add,.iO [.di (fR cnt bs f'),.int .i64 val],by simp only[fh,bw,aj,ar,hz,aH,Option.map_some],f',val,rfl,hf,S,h1,h2,h3⟩
theorem F9 (cnt:Nat) (hn:cnt<=1048576) (bs:List PB) (ok:nr cnt bs) (qq:bs.length<=1048576) (f:Nat->Int) (hs:Small bs f) (y:Nat) (hy:y<cnt):
  lQ Tryz.prog 219 [.di (fR cnt bs f),.int .i64 y] fun r=>∃l:List Nat,r=.sl (l.map eN)/\l.length<=cnt:=by
 refine lQ.body eG rfl fun hl n0=>?_
 clear hl
 have hz:∀g:Rows,dd (dK g) 6 [.di (fR cnt bs f),.int .i64 (y:Int)]=some [.di (fR cnt bs f),.int .i64 y]:=fun g=>by simp only[aj,ar,aU,aH,Option.map_some]
 (try((repeat(revert hN;revert N;apply Pn.out));refine wk @Nat.zero_add ?_;(repeat(refine Pn.mk ?_;intro N hN))))
 refine .inr (aJ _ _ _ _ _ (fun r σ1 hq=>?_) ((E8 cnt hn bs ok qq f hs y hy).x mixed (hz _)))
 obtain⟨⟨out,rfl,Iv⟩,rfl⟩:=hq
 refine hN _ _ ?_
 clear hN N
 (try((repeat(revert hN;revert N;apply Pn.out));refine wk @fR.eq_1 ?_;(repeat(refine Pn.mk ?_;intro N hN))))
 refine bh (fun n env st=>∃k:Nat,n=(cnt)-k/\k<=(cnt)/\env 7=.int .i64 (k:Int)/\(∃(o:Id) (l:List Nat),env 6=.own o 0 l.length/\st.get o=some ⟨true,1,l.map eN⟩/\o.cq<st.next/\l.length<=k)) (cnt) ⟨0,by omega,by omega,sl @fR.eq_1,⟨⟨219002000,n0+1+1+1⟩,[],by(simp only[go_sem, ↓reduceIte,Nat.reduceEqDiff,Nat.reduceAdd,Nat.reduceSub,Nat.reduceLeDiff,reduceCtorEq])<;>rfl,by(simp only[go_sem, ↓reduceIte,Nat.reduceEqDiff,Nat.reduceAdd,Nat.reduceSub,Nat.reduceLeDiff,reduceCtorEq])<;>rfl,by(try dsimp only);omega,by simp⟩⟩ ?_
 rintro n_a env_a st_a ⟨k,rfl,ale,a7,lS⟩ dW
 have a0:=dW 0 (by kernel_rfl);have a5:=dW 5 (by kernel_rfl)
 simp only[go_sem, ↓reduceIte,Nat.reduceEqDiff,Nat.reduceAdd,Nat.reduceSub,Nat.reduceLeDiff,reduceCtorEq,fR]at a0 a5
 clear dW
 obtain⟨o,l,a6,ag,sb,G7⟩:=lS
 have sf:=dP sb
 have nA:(l.map eN).length=l.length:=by simp
 by_cases hk:(k:Int)<(cnt:Int)
 ·have cG:∀{e:Env} {gg:Rows} {nx:Nat},(e 7=.int .i64 (IntKind.i64.wrap ((k:Int)+1)))->(∃(o:Id) (l:List Nat),e 6=.own o 0 l.length/\gg o=some ⟨true,1,l.map eN⟩/\o.cq<nx/\l.length<=(k+1))->∃m0,m0<(cnt)-k/\∃k:Nat,m0=(cnt)-k/\k<=(cnt)/\e 7=.int .i64 (k:Int)/\(∃(o:Id) (l:List Nat),e 6=.own o 0 l.length/\gg o=some ⟨true,1,l.map eN⟩/\o.cq<nx/\l.length<=k):=fun x1 x2=>⟨_,by omega,k+1,rfl,by omega,(by rw[x1,aC (by omega)]),x2⟩
  have vN:=ec (f:=out) (show k<cnt by omega)
  rw[bu]at vN
  have e1:l.length+1<=16777216:=by omega
  by_cases h0:0<=out k
  ·(try((repeat(revert hN;revert N;apply Pn.out));refine wk (tw @a7 (tw @a0 (tw @a5 (tw @a6 (tw @ag (tw @sf (tw @hk (tw @vN (tw @h0 (tw @e1 (tw @nA @fR.eq_1))))))))))) ?_;(repeat(refine Pn.mk ?_;intro N hN))))
   exact cG (sd (tw @a7 (tw @a0 (tw @a5 @fR.eq_1)))) (⟨⟨219007003,st_a.next+1+1⟩,l++[k],by rw[List.length_append];simp only[go_sem, ↓reduceIte,Nat.reduceEqDiff,Nat.reduceAdd,Nat.reduceSub,Nat.reduceLeDiff,reduceCtorEq,List.length_cons,List.length_nil],by rw[List.map_append,List.map_cons,List.map_nil];simp only[go_sem, ↓reduceIte,Nat.reduceEqDiff,Nat.reduceAdd,Nat.reduceSub,Nat.reduceLeDiff,reduceCtorEq,eN],by(try dsimp only);omega,by simp;omega⟩)
  ·(try((repeat(revert hN;revert N;apply Pn.out));refine wk (tw @a7 (tw @a0 (tw @a5 (tw @a6 (tw @ag (tw @sf (tw @hk (tw @vN (tw @h0 (tw @nA @fR.eq_1)))))))))) ?_;(repeat(refine Pn.mk ?_;intro N hN))))
   exact cG (sd (tw @a7 (tw @a0 (tw @a5 @fR.eq_1)))) (⟨o,l,sd @a6,sd @ag,by(try dsimp only);omega,by omega⟩)
 ·(try((repeat(revert hN;revert N;apply Pn.out));refine wk (tw @a7 (tw @a0 (tw @a5 (tw @a6 (tw @hk @fR.eq_1))))) ?_;(repeat(refine Pn.mk ?_;intro N hN))))
  have rl:gn st_a.get 6 (.own o 0 l.length)=some (.sl (l.map eN)):=fG ag rfl fun b=>M3 _ 4 b
  exact⟨_,rfl,_,by simp only[go_sem, ↓reduceIte,Nat.reduceEqDiff,Nat.reduceAdd,Nat.reduceSub,Nat.reduceLeDiff,reduceCtorEq,fh];exact rl,l,rfl,by omega⟩
end Go.Proofs.YtgoelphibofcmaaGreat.V

namespace Go.Proofs.YtgoelphibofcmaaGreat.V
open Go.RowKit
attribute [local irreducible] eh wpOps fI Call
attribute [local go_sem] aM fj eJ fF fE da upd cu K.av cI AV.cells AV.cell rowOf rowsOf part ld rowAt bK bV dq dM gy bD cY dY fA eS dk dR cW cV dD dE bG bc cL bF cP cN dO dS dQ cK bL cX dN bE aO cR cz gx bm cH bH aY dp bl dr AV.undef bt bz dF dL dy dC cF dX eb cw dV dU cQ cU List.getD_cons_zero List.getD_cons_succ List.getD_nil List.all_cons List.all_nil Bool.and_true Bool.true_and Bool.and_self Bool.not_true Bool.not_false Option.map_some Option.map_none Option.bind_some Option.bind_none List.length_cons List.length_nil List.take_succ_cons List.take_zero List.take_nil List.drop_succ_cons List.drop_zero List.drop_nil List.head?_cons List.map_cons List.map_nil List.getElem?_cons_zero List.getElem?_cons_succ List.cons_append List.nil_append List.append_nil List.length_map List.set_cons_zero List.set_cons_succ Nat.reduceMul eq_self Int.toNat_natCast Int.natCast_nonneg and_self true_and and_true decide_true decide_false Bool.false_eq_true Nat.zero_add Nat.add_zero List.contains_cons List.contains_nil Bool.or_false Bool.false_or beq_self_eq_true Nat.reduceBEq ne_eq not_true_eq_false not_false_eq_true Id.mk.injEq false_and and_false Nat.reduceLT Int.reduceLE Int.reduceLT Int.reduceToNat Int.reduceNeg Int.reduceAdd Nat.le_refl List.length_append beq_true beq_false Bool.not_eq_eq_eq_not or_false false_or dK aj ar aH bd br bW aT aZ aU bf cJ bw
theorem BC (v1 v2:Int) (l1 l2:List Nat) (h1:l1.length<=1048576) (h2:l2.length<=1048576):
  lQ Tryz.prog 220 [.int .i64 v1,.sl (l1.map eN),.int .i64 v2,.sl (l2.map eN)] fun r=>∃b,r=.bool b/\(v1<v2->b=true)/\(v2<v1->b=false):=by
 refine lQ.body eG rfl fun hl n0=>?_
 clear hl
 have ret:∀{t:Nat} {env:Env} {σ:aw} {b:Bool} {x:Ex},(x=.ret∨x=.normal)->env t=.bool b->((v1<v2->b=true)/\(v2<v1->b=false))->kS [.tmp t] (fun r0 σ'=>∃r',gn σ'.get 6 r0=some r'/\∃b,r'=.bool b/\(v1<v2->b=true)/\(v2<v1->b=false)) x env σ:=by
  intro t env σ b x hx he hb
  have:∃vs,ft env σ.get [.tmp t]=some vs/\∃r',gn σ.get 6 (fh vs)=some r'/\∃b,r'=.bool b/\(v1<v2->b=true)/\(v2<v1->b=false):=⟨[env t],rfl,.bool b,by rw[he];exact fN _ _ _,b,rfl,hb⟩
  rcases hx with rfl|rfl
  ·exact this
  ·exact this
 have m1:(l1.map eN).length=l1.length:=by simp
 have m2:(l2.map eN).length=l2.length:=by simp
 by_cases hv:v1=v2
 ·have hd:decide (v1=v2)=true:=decide_eq_true hv
  by_cases G7:(l1.length:Int)=(l2.length:Int)
  ·have l7:decide ((l1.length:Int)=(l2.length:Int))=true:=decide_eq_true G7
   have SX:decide (l1.length=l2.length)=true:=decide_eq_true (by omega)
   (try((repeat(revert hN;revert N;apply Pn.out));refine wk (tw @hd (tw @l7 (tw @SX (tw @m1 @m2)))) ?_;(repeat(refine Pn.mk ?_;intro N hN))))
   refine bh (fun n env st=>∃k:Nat,n=(l1.length)-k/\k<=(l1.length)/\env 9=.int .i64 (k:Int)) (l1.length) ⟨0,by omega,by omega,sl @Nat.zero_add⟩ ?_
   rintro n_a env_a st_a ⟨k,rfl,ale,a9⟩ dW
   have a1:=dW 1 (by kernel_rfl);have a3:=dW 3 (by kernel_rfl)
   simp only[go_sem, ↓reduceIte,Nat.reduceEqDiff,Nat.reduceAdd,Nat.reduceSub,Nat.reduceLeDiff,reduceCtorEq]at a1 a3
   clear dW
   by_cases hk:(k:Int)<(l1.length:Int)
   ·have cG:∀{e:Env},(e 9=.int .i64 (IntKind.i64.wrap ((k:Int)+1)))->∃m0,m0<(l1.length)-k/\∃k:Nat,m0=(l1.length)-k/\k<=(l1.length)/\e 9=.int .i64 (k:Int):=fun x1=>⟨_,by omega,k+1,rfl,by omega,(by rw[x1,aC (by omega)])⟩
    have g1:(l1.map eN)[k]? =some (eN (l1.getD k 0)):=getD_map eN (by omega)
    have g2:(l2.map eN)[k]? =some (eN (l2.getD k 0)):=getD_map eN (by omega)
    rw[eN]at g1 g2
    by_cases he:((l1.getD k 0:Nat):Int)=((l2.getD k 0:Nat):Int)
    ·have SY:decide (((l1.getD k 0:Nat):Int)=((l2.getD k 0:Nat):Int))=true:=decide_eq_true he
     have SZ:decide (l1.getD k 0=l2.getD k 0)=true:=decide_eq_true (by omega)
     (try((repeat(revert hN;revert N;apply Pn.out));refine wk (tw @a9 (tw @a1 (tw @a3 (tw @hk (tw @m1 (tw @g1 (tw @g2 (tw @SY @SZ)))))))) ?_;(repeat(refine Pn.mk ?_;intro N hN))))
     exact cG (sd (tw @a9 (tw @a1 @a3)))
    ·have SY:decide (((l1.getD k 0:Nat):Int)=((l2.getD k 0:Nat):Int))=false:=decide_eq_false he
     have SZ:decide (l1.getD k 0=l2.getD k 0)=false:=decide_eq_false (by omega)
     (try((repeat(revert hN;revert N;apply Pn.out));refine wk (tw @a9 (tw @a1 (tw @a3 (tw @hk (tw @m1 (tw @g1 (tw @g2 (tw @SY @SZ)))))))) ?_;(repeat(refine Pn.mk ?_;intro N hN))))
     exact ret (.inl rfl) (by simp only[go_sem, ↓reduceIte,Nat.reduceEqDiff,Nat.reduceAdd,Nat.reduceSub,Nat.reduceLeDiff,reduceCtorEq];rfl) ⟨fun h=>by omega,fun h=>by omega⟩
   ·(try((repeat(revert hN;revert N;apply Pn.out));refine wk (tw @a9 (tw @a1 (tw @a3 (tw @hk @m1)))) ?_;(repeat(refine Pn.mk ?_;intro N hN))))
    exact ret (b:=false) (.inl rfl) (sd @Nat.zero_add) ⟨fun h=>by omega,fun h=>by omega⟩
  ·have l7:decide ((l1.length:Int)=(l2.length:Int))=false:=decide_eq_false G7
   have SX:decide (l1.length=l2.length)=false:=decide_eq_false (by omega)
   (try((repeat(revert hN;revert N;apply Pn.out));refine wk (tw @hd (tw @l7 (tw @SX (tw @m1 @m2)))) ?_;(repeat(refine Pn.mk ?_;intro N hN))))
   exact ret (.inl rfl) (by simp only[go_sem, ↓reduceIte,Nat.reduceEqDiff,Nat.reduceAdd,Nat.reduceSub,Nat.reduceLeDiff,reduceCtorEq];rfl) ⟨fun h=>by omega,fun h=>by omega⟩
 ·have hd:decide (v1=v2)=false:=decide_eq_false hv
  (try((repeat(revert hN;revert N;apply Pn.out));refine wk @hd ?_;(repeat(refine Pn.mk ?_;intro N hN))))
  exact ret (b:=decide (v1<v2)) (.inl rfl) (sd @Nat.zero_add) ⟨fun h=>decide_eq_true h,fun h=>decide_eq_false (by omega)⟩
def uH (bs:List PB) (cnt:Nat) (jh:Int) (k:Nat):Prop:=(k=1/\jh= -1)∨(0<=jh/\(∀z,1<=z->z<k->∀S:Nat->Bool,S 0=true->S z=false->jh<=jb S bs)/\∃S:Nat->Bool,S 0=true/\(∃z,z<cnt/\S z=false)/\jh=jb S bs)
theorem jT.nn {bs:List PB} {val:Int} {S:Nat->Bool} (eC:∀e,e<bs.length->0<=(cE bs e).s/\(cE bs e).s<=4) (h:val=jb S bs):0<=val:=by
 rw[h,uY]
 have:=rV (f:=fun _=>0) (g:=fun i=>if S (cE bs i).a=S (cE bs i).b then 0 else(cE bs i).s) (n:=bs.length) fun i hi=>by
  have:=eC i hi
  split<;>omega
 rw[jP fun _ _=>rfl]at this
 exact this
theorem uH.done {bs:List PB} {cnt:Nat} {jh:Int} (hc:2<=cnt) (h:uH bs cnt jh cnt) (t:Int):t<=jh↔kq cnt bs t:=by
 rcases h with⟨h,_⟩|⟨_,h1,S,h2,⟨z,hz,lP⟩,h3⟩
 ·omega
 ·constructor
  ·intro ht S h0 ⟨y,hy,hy2⟩
   have:y≠0:=by rintro rfl;rw[h0]at hy2;cases hy2
   have:=h1 y (by omega) hy S h0 hy2
   omega
  ·intro hH
   rw[h3];exact hH S h2 ⟨z,hz,lP⟩
theorem zA (cnt:Nat) (h2:2<=cnt) (hn:cnt<=1048576) (bs:List PB) (ok:nr cnt bs) (qq:bs.length<=1048576) (eC:∀e,e<bs.length->0<=(cE bs e).s/\(cE bs e).s<=4):
  te Tryz.prog 194 [.int .i64 cnt,.sl (bs.map aB)] fun r=>∃jh p,r=.iO [.int .i64 jh,p]/\∀t:Int,t<=jh↔kq cnt bs t:=by
 refine te.body eG rfl fun hl σ=>?_
 clear hl
 (try((repeat(revert hN;revert N;apply Pn.out));refine wk @Nat.zero_add ?_;(repeat(refine Pn.mk ?_;intro N hN))))
 have z0:∀(g:Rows) (id:Id),g id=some ⟨true,1,[]⟩->V.fz (dK g) 6 (.own id 0 0)=some (.sl (([]:List Nat).map eN))/\V.fz g 5 (.own id 0 0)=some (.sl (([]:List Nat).map eN)):=fun g id h=>by
  have h':dK g id=some ⟨true,1,[]⟩:=by simp[dK,h]
  constructor
  ·rw[im];simp only[h',if_true];rw[if_pos (by simp)];simp[oH]
  ·rw[im];simp only[h,if_true];rw[if_pos (by simp)];simp[oH]
 refine bh (fun m env st=>∃(k:Nat) (jh:Int) (l:List Nat) (p:AV),m=cnt-k/\1<=k/\k<=cnt/\env 8=.int .i64 (k:Int)/\env 6=.int .i64 jh/\env 7=p/\V.fz (dK st.get) 6 p=some (.sl (l.map eN))/\V.fz st.get 5 p=some (.sl (l.map eN))/\l.length<=cnt/\uH bs cnt jh k) (cnt-1) ⟨1,-1,[],.own ⟨194002000,σ.next+1+1⟩ 0 0,rfl,by omega,by omega,by(simp only[go_sem, ↓reduceIte,Nat.reduceEqDiff,Nat.reduceAdd,Nat.reduceSub,Nat.reduceLeDiff,reduceCtorEq])<;>rfl,by(simp only[go_sem, ↓reduceIte,Nat.reduceEqDiff,Nat.reduceAdd,Nat.reduceSub,Nat.reduceLeDiff,reduceCtorEq])<;>rfl,by(simp only[go_sem, ↓reduceIte,Nat.reduceEqDiff,Nat.reduceAdd,Nat.reduceSub,Nat.reduceLeDiff,reduceCtorEq])<;>rfl,(z0 _ _ (sd @Nat.zero_add)).1,(z0 _ _ (sd @Nat.zero_add)).2,by simp,.inl ⟨rfl,rfl⟩⟩ ?_
 rintro m env_b st_b ⟨k,jh,l,p,rfl,vI,vJ,b8,b6,b7,Aq,lP,hl,hB⟩ gQ
 have b0:=gQ 0 (by kernel_rfl)
 have b1:=gQ 1 (by kernel_rfl)
 simp only[go_sem, ↓reduceIte,Nat.reduceEqDiff,Nat.reduceAdd,Nat.reduceSub,Nat.reduceLeDiff,reduceCtorEq]at b0 b1
 clear gQ z0
 by_cases hk:(k:Int)<(cnt:Int)
 ·have fw:k<cnt:=by omega
  have hFl:=F8 cnt hn bs ok qq eC 0 k (by omega) fw (by omega)
  rw[show(((0:Nat):Int))=0 from rfl]at hFl
  (try((repeat(revert hN;revert N;apply Pn.out));refine wk (tw @b0 (tw @b1 (tw @b6 (tw @b7 (tw @b8 @hk))))) ?_;(repeat(refine Pn.mk ?_;intro N hN))))
  refine .inr (aJ _ _ _ _ _ (fun r σ1 hq=>?_) (hFl.x mixed))
  obtain⟨⟨f,val,rfl,hf,S,Nj,Nk,Rj⟩,rfl⟩:=hq
  refine hN _ _ ?_
  clear hN N
  have KU:=wK eC hf.le
  have rD:=jT.nn (val:=val) eC Rj
  (try((repeat(revert hN;revert N;apply Pn.out));refine wk (tw @b0 (tw @b1 (tw @b6 (tw @b7 @b8)))) ?_;(repeat(refine Pn.mk ?_;intro N hN))))
  refine .inr (aJ _ _ _ _ _ (fun r σ1 hq=>?_) ((F9 cnt hn bs ok qq f KU k fw).x mixed (by simp only[aj,ar,aU,aH,Option.map_some])))
  obtain⟨⟨l',rfl,J2⟩,rfl⟩:=hq
  refine hN _ _ ?_
  clear hN N
  have hw:IntKind.i64.wrap ((k:Int)+1)=((k+1:Nat):Int):=aC (by omega)
  have QR:(∀z,1<=z->z<k->∀S:Nat->Bool,S 0=true->S z=false->val<=jb S bs)->uH bs cnt val (k+1):=fun h=>.inr ⟨rD,fun z Aq lP S' h0 h1=>by
   by_cases tC:z=k
   ·subst tC;exact hf.bound h0 h1
   ·exact h z Aq (by omega) S' h0 h1,S,Nj,⟨k,fw,Nk⟩,Rj⟩
  by_cases jW:jh<0
  ·have A9:k=1:=by
    rcases hB with⟨h,_⟩|⟨h,_⟩
    ·exact h
    ·omega
   (try((repeat(revert hN;revert N;apply Pn.out));refine wk (tw @b0 (tw @b1 (tw @b6 (tw @b7 (tw @b8 (tw @jW @hw)))))) ?_;(repeat(refine Pn.mk ?_;intro N hN))))
   refine⟨_,?_,k+1,val,l',.sl (l'.map eN),rfl,by omega,by omega,sd (tw @b8 @hw),sd @Nat.zero_add,sd @Nat.zero_add,bW _ _ _,bW _ _ _,J2,QR fun z h1 h2=>by omega⟩
   omega
  ·have A9:(∀z,1<=z->z<k->∀S:Nat->Bool,S 0=true->S z=false->jh<=jb S bs)/\∃S:Nat->Bool,S 0=true/\(∃z,z<cnt/\S z=false)/\jh=jb S bs:=by
    rcases hB with⟨_,h⟩|⟨_,h⟩
    ·omega
    ·exact h
   (try((repeat(revert hN;revert N;apply Pn.out));refine wk (tw @b0 (tw @b1 (tw @b6 (tw @b7 (tw @b8 (tw @jW @hw)))))) ?_;(repeat(refine Pn.mk ?_;intro N hN))))
   refine .inr (aJ _ _ _ _ _ (fun r σ1 hq=>?_) ((BC val jh l' l (by omega) (by omega)).x mixed (by simp only[aj,ar,bW,aH,Aq,Option.map_some])))
   obtain⟨⟨b,rfl,G1,G2⟩,rfl⟩:=hq
   refine hN _ _ ?_
   clear hN N
   cases b with
   |true=>
    have O5:val<=jh:=by
     rcases Int.lt_or_le jh val with h|h
     ·exact absurd (G2 h) (by simp)
     ·exact h
    (try((repeat(revert hN;revert N;apply Pn.out));refine wk (tw @b0 (tw @b1 (tw @b6 (tw @b7 (tw @b8 @hw))))) ?_;(repeat(refine Pn.mk ?_;intro N hN))))
    refine⟨_,?_,k+1,val,l',.sl (l'.map eN),rfl,by omega,by omega,sd (tw @b8 @hw),sd @Nat.zero_add,sd @Nat.zero_add,bW _ _ _,bW _ _ _,J2,QR fun z h1 h2 S' h3 h4=>by have:=A9.1 z h1 h2 S' h3 h4;omega⟩
    omega
   |false=>
    have O5:jh<=val:=by
     rcases Int.lt_or_le val jh with h|h
     ·exact absurd (G1 h) (by simp)
     ·exact h
    (try((repeat(revert hN;revert N;apply Pn.out));refine wk (tw @b0 (tw @b1 (tw @b6 (tw @b7 (tw @b8 @hw))))) ?_;(repeat(refine Pn.mk ?_;intro N hN))))
    refine⟨_,?_,k+1,jh,l,p,rfl,by omega,by omega,sd (tw @b8 @hw),sd @b6,sd @b7,Aq,lP,hl,.inr ⟨by omega,fun z h1 h2 S' h3 h4=>?_,A9.2⟩⟩
    ·omega
    ·by_cases tC:z=k
     ·subst tC;have:=hf.bound h3 h4;omega
     ·exact A9.1 z h1 (by omega) S' h3 h4
 ·have lO:k=cnt:=by omega
  (try((repeat(revert hN;revert N;apply Pn.out));refine wk (tw @b0 (tw @b1 (tw @b6 (tw @b7 (tw @b8 @hk))))) ?_;(repeat(refine Pn.mk ?_;intro N hN))))
  exact⟨[.int .i64 jh,p],sd @Nat.zero_add,.iO [.int .i64 jh,.sl (l.map eN)],by simp only[fh,bw,aj,ar,lP,aH,Option.map_some],jh,_,rfl,uH.done h2 (lO▸hB)⟩
end Go.Proofs.YtgoelphibofcmaaGreat.V

namespace Go.Proofs.YtgoelphibofcmaaGreat.V
open Go.RowKit
attribute [local irreducible] eh wpOps fI Call
attribute [local go_sem] aM fj eJ fF fE da upd cu K.av cI AV.cells AV.cell rowOf rowsOf part ld rowAt bK bV dq dM gy bD cY dY fA eS dk dR cW cV dD dE bG bc cL bF cP cN dO dS dQ cK bL cX dN bE aO cR cz gx bm cH bH aY dp bl dr AV.undef bt bz dF dL dy dC cF dX eb cw dV dU cQ cU List.getD_cons_zero List.getD_cons_succ List.getD_nil List.all_cons List.all_nil Bool.and_true Bool.true_and Bool.and_self Bool.not_true Bool.not_false Option.map_some Option.map_none Option.bind_some Option.bind_none List.length_cons List.length_nil List.take_succ_cons List.take_zero List.take_nil List.drop_succ_cons List.drop_zero List.drop_nil List.head?_cons List.map_cons List.map_nil List.getElem?_cons_zero List.getElem?_cons_succ List.cons_append List.nil_append List.append_nil List.length_map List.set_cons_zero List.set_cons_succ Nat.reduceMul eq_self Int.toNat_natCast Int.natCast_nonneg and_self true_and and_true decide_true decide_false Bool.false_eq_true Nat.zero_add Nat.add_zero List.contains_cons List.contains_nil Bool.or_false Bool.false_or beq_self_eq_true Nat.reduceBEq ne_eq not_true_eq_false not_false_eq_true Id.mk.injEq false_and and_false Nat.reduceLT Int.reduceLE Int.reduceLT Int.reduceToNat Int.reduceNeg Int.reduceAdd Nat.le_refl List.length_append beq_true beq_false Bool.not_eq_eq_eq_not or_false false_or dK aj ar aH bd br bW aT aZ aU bf cJ bw
theorem LG {s:ax} (hS:gY s) (a d:Int):s7 s (dv (dw s a) d)<=4:=by
 have hF:=hS.form
 have fB:dv (dw s a) d=0∨(0<=dv (dw s a) d/\dv (dw s a) d<=s.aA.length):=by
  unfold dv dw
  rw[List.getD_eq_getElem?_getD,List.getD_eq_getElem?_getD]
  rcases ht:s.aq[a.toNat]? with _|t
  ·exact .inl (by simp[zL])
  ·have TD:=List.mem_of_getElem? ht
   simp only[Option.getD_some]
   rcases hg:t.bI[d.toNat]? with _|g
   ·exact .inl rfl
   ·exact .inr (hF.vz t TD g (List.mem_of_getElem? hg))
 unfold s7
 by_cases h0:dv (dw s a) d=0
 ·rw[if_pos h0];omega
 ·rw[if_neg h0]
  have hk:(dv (dw s a) d-1).toNat<s.aA.length:=by omega
  have:=ej (hS.Ra _ hk).2.1
  unfold pI at this
  unfold qn
  omega
theorem AH {s:ax} (hS:gY s) (a d b:Int):gN s a d b<=4:=by
 unfold gN
 split
 ·exact LG hS a d
 ·omega
theorem Fu {s:ax} {l:List ah} (hS:gY s) {i:Nat} (hi:i<l.length) {d:Int}:∀b∈mE s l i d,b.a<l.length/\b.b<l.length/\0<=b.s/\b.s<=4:=by
 intro b hb
 unfold mE at hb
 split at hb
 ·rename_i h
  simp only[List.mem_singleton]at hb
  subst hb
  exact⟨hi,(mN h.1).1,by simp only;omega,AH hS ..⟩
 ·cases hb
theorem xS {s:ax} {l:List ah} (hS:gY s):∀b∈db s l,b.a<l.length/\b.b<l.length/\0<=b.s/\b.s<=4:=by
 intro b hb
 simp only[db,gE,fX,List.mem_flatMap,List.mem_range]at hb
 obtain⟨i,hi,j,_,hb⟩:=hb
 exact Fu hS hi b hb
theorem qa {s:ax} {l:List ah} (hF:jB l):(db s l).length<=1000:=by
 have:=th s l l.length
 have:=hF.zb
 rw[db];omega
theorem Hr {bs:List PB} {e:Nat} (h:e<bs.length):cE bs e∈bs:=by
 rw[cE,List.getD_eq_getElem?_getD,List.getElem?_eq_getElem h];exact List.getElem_mem h
theorem FT {n:Nat} {bs:List PB} {t:Int} (h:n<2):kq n bs t:=fun S h0 ⟨y,hy,hf⟩=>by
 have:y=0:=by omega
 subst this;rw[h0]at hf;cases hf
def il (s:ax) (l:List ah) (t:Int):Nat:=(leads l.length (eD (aQ t (db s l)))).length
noncomputable def nB (s:ax) (l:List ah) (t:Int):Bool:=@decide (pa l.length (db s l) t) (Classical.propDecidable _)
def sE (s:ax) (l:List ah) (t:Int):Int:=if 64<il s l t then 4 else 0
theorem me {s:ax} {l:List ah} {t:Int} {p:Prop} [Decidable p] (h:p↔pa l.length (db s l) t):decide p=nB s l t:=by
 letI:=Classical.propDecidable (pa l.length (db s l) t)
 unfold nB
 by_cases hp:p
 ·rw[decide_eq_true hp];exact(decide_eq_true (h.1 hp)).symm
 ·rw[decide_eq_false hp];exact(decide_eq_false fun k=>hp (h.2 k)).symm
theorem BE (s:ax) (l:List ah) (t:Int) (hS:gY s) (hA:lE s l):au Tryz.prog 158 [.di (ae s),.di [.sl (l.map aa)],.int .i64 t] (.iO [.bool (nB s l t),.int .i64 (sE s l t)]):=by
 refine au.body eG rfl fun hl n0=>?_
 clear hl
 have hb:=xS (l:=l) hS
 have qq:=qa (s:=s) hA.1
 have Ns:=hA.1.zb
 have w5:=Dq s l hS.form hA
 have J4:=BD l.length (by omega) (db s l) (fun b h=>⟨(hb b h).1,(hb b h).2.1⟩) (by omega) t
 have hL:=tF (aQ t (db s l))
 have fB:=DS hL (fun b h=>⟨(hb b h).1,(hb b h).2.1⟩)
 have hlen:=(nh (eD (aQ t (db s l))) (db s l)).2
 have mL:=jL l.length (eD (aQ t (db s l)))
 have fY:(l.map aa).length=l.length:=by simp
 by_cases ub:(64:Int)<(il s l t:Int)
 ·have uc:64<il s l t:=by omega
  have hd:nB s l t=false:=(me (p:=False) ⟨False.elim,fun h=>by have:=h.1;unfold il at uc;omega⟩).symm.trans (by simp)
  rw[il]at ub
  (repeat(first|((repeat(revert hN;revert N;apply Pn.out));refine wk (tw @ae.eq_1 (tw @ub @fY)) ?_;(repeat(refine Pn.mk ?_;intro N hN)))|((try apply Or.inl);refine⟨_,au.x (w5) (sd (tw @ae.eq_1 (tw @ub @fY))),?_⟩;refine hN _ _ ?_;clear hN N)|((try apply Or.inl);refine⟨_,au.x (J4) (sd (tw @ae.eq_1 (tw @ub @fY))),?_⟩;refine hN _ _ ?_;clear hN N)))
  exact js (.inl rfl) (r1:=.bool false) (r2:=.int .i64 4) (sd @Nat.zero_add) (sd @Nat.zero_add) (by rw[hd,sE,if_pos uc];simp only[eM,bJ,cD,fN,eA,Option.map_some])
 have uc:¬64<il s l t:=by omega
 have hf:sE s l t=0:=by rw[sE,if_neg uc]
 by_cases h2:(il s l t:Int)<2
 ·have hd:nB s l t=true:=(me (p:=True) ⟨fun _=>⟨by unfold il at uc;omega,FT (by unfold il at h2;omega)⟩,fun _=>trivial⟩).symm.trans (by simp)
  rw[il]at ub h2
  (repeat(first|((repeat(revert hN;revert N;apply Pn.out));refine wk (tw @ae.eq_1 (tw @ub (tw @h2 @fY))) ?_;(repeat(refine Pn.mk ?_;intro N hN)))|((try apply Or.inl);refine⟨_,au.x (w5) (sd (tw @ae.eq_1 (tw @ub (tw @h2 @fY)))),?_⟩;refine hN _ _ ?_;clear hN N)|((try apply Or.inl);refine⟨_,au.x (J4) (sd (tw @ae.eq_1 (tw @ub (tw @h2 @fY)))),?_⟩;refine hN _ _ ?_;clear hN N)))
  exact js (.inl rfl) (r1:=.bool true) (r2:=.int .i64 0) (sd @Nat.zero_add) (sd @Nat.zero_add) (by rw[hd,hf];simp only[eM,bJ,cD,fN,eA,Option.map_some])
 have NR:=zA (il s l t) (by omega) (by unfold il;omega) (eY (eD (aQ t (db s l))) (db s l)) (fun e he=>by have:=fB _ (Hr he);exact⟨this.1,this.2.1,this.2.2.1⟩) (by omega) (fun e he=>by
  obtain⟨_,_,_,c,hc,du⟩:=fB _ (Hr he)
  rw[du];have:=hb c hc;omega)
 rw[il]at ub h2 NR
 (repeat(first|((repeat(revert hN;revert N;apply Pn.out));refine wk (tw @ae.eq_1 (tw @ub (tw @h2 @fY))) ?_;(repeat(refine Pn.mk ?_;intro N hN)))|((try apply Or.inl);refine⟨_,au.x (w5) (sd (tw @ae.eq_1 (tw @ub (tw @h2 @fY)))),?_⟩;refine hN _ _ ?_;clear hN N)|((try apply Or.inl);refine⟨_,au.x (J4) (sd (tw @ae.eq_1 (tw @ub (tw @h2 @fY)))),?_⟩;refine hN _ _ ?_;clear hN N)))
 refine .inr (aJ _ _ _ _ _ (fun r σ1 hq=>?_) (NR.x mixed))
 obtain⟨⟨jh,p,rfl,PQ⟩,rfl⟩:=hq
 refine hN _ _ ?_
 clear hN N
 (try((repeat(revert hN;revert N;apply Pn.out));refine wk @Nat.zero_add ?_;(repeat(refine Pn.mk ?_;intro N hN))))
 exact js (.inl rfl) (r1:=.bool (decide (t<=jh))) (r2:=.int .i64 0) (sd @Nat.zero_add) (sd @Nat.zero_add) (by
  rw[hf,me (s:=s) (l:=l) (t:=t) (p:=t<=jh) ((PQ t).trans (Dc.trans ⟨fun h=>⟨by unfold il at uc;omega,h⟩,fun h=>h.2⟩))]
  simp only[eM,bJ,cD,fN,eA,Option.map_some])
theorem sP (t:Int):au Tryz.prog 157 [.int .i64 t] (.bool (iC t 1 16)):=by
 refine au.body eG rfl fun hl n0=>?_
 clear hl
 have h:=ki t 1 16
 (repeat(first|((repeat(revert hN;revert N;apply Pn.out));refine wk @Nat.zero_add ?_;(repeat(refine Pn.mk ?_;intro N hN)))|((try apply Or.inl);refine⟨_,au.x (h) (sd @Nat.zero_add),?_⟩;refine hN _ _ ?_;clear hN N)))
 exact aX (b:=iC t 1 16) (.inl rfl) (sd @Nat.zero_add) rfl
structure uO (s:aI):Prop where
 set:gY s.aD
 GB:lE s.aD s.bx.aq
 some:1<=s.bx.aq.length
 Jw:iC s.ay 1 16=true
 holds:pa s.bx.aq.length (db s.aD s.bx.aq) s.ay
noncomputable def nj (s:aI):Bool:=@decide (uO s) (Classical.propDecidable _)
theorem wN {s:aI}:nj s=true↔uO s:=by simp[nj]
theorem jS {s:aI} (h:¬uO s):false=nj s:=by simp[nj,h]
theorem B7 {s:aI} (h:uO s):true=nj s:=by simp[nj,h]
theorem pr {s:ax} {l:List ah} {t:Int}:nB s l t=true↔pa l.length (db s l) t:=by simp[nB]
theorem K6 (s:aI) (hn:fm s.aD) (hg:s.aD.aA.length<=1048576) (ht:s.aD.aq.length<=1048576):au Tryz.prog 96 [.di (az s)] (.bool (nj s)):=by
 refine au.body eG rfl fun hl n0=>?_
 clear hl
 have h1:=(K5 s.aD hn hg ht).cut mixed (.ptr _ [.sl (s.bx.aq.map aa),.int .i64 s.ay] .nil)
 by_cases hS:gY s.aD
 ·rw[mc.2 hS]at h1
  have h2:=(EY s.aD s.bx.aq).cut mixed (.ptr _ [.sl (s.bx.aq.map aa),.int .i64 s.ay] (.ptr _ [.int .i64 s.ay] .nil))
  by_cases hA:lE s.aD s.bx.aq
  ·rw[lT.2 hA]at h2
   by_cases h0:(s.bx.aq.length:Int)=0
   ·have hd:decide ((s.bx.aq.length:Int)=0)=true:=decide_eq_true h0
    have lF:false=nj s:=jS fun h=>by have:=h.some;omega
    generalize fY:(s.bx.aq.map aa).length=len at *
    (repeat(first|((repeat(revert hN;revert N;apply Pn.out));refine wk (tw @az.eq_1 (tw @ae.eq_1 @hd)) ?_;(repeat(refine Pn.mk ?_;intro N hN)))|((try apply Or.inl);refine⟨_,au.x (h1) (sd (tw @az.eq_1 (tw @ae.eq_1 @hd))),?_⟩;refine hN _ _ ?_;clear hN N)|((try apply Or.inl);refine⟨_,au.x (h2) (sd (tw @az.eq_1 (tw @ae.eq_1 @hd))),?_⟩;refine hN _ _ ?_;clear hN N)))
    exact aX (b:=false) (.inl rfl) (sd @Nat.zero_add) lF
   ·have hd:decide ((s.bx.aq.length:Int)=0)=false:=decide_eq_false h0
    have h3:=sP s.ay
    cases hT:iC s.ay 1 16
    ·rw[hT]at h3
     (repeat(first|((repeat(revert hN;revert N;apply Pn.out));refine wk (tw @az.eq_1 (tw @ae.eq_1 @hd)) ?_;(repeat(refine Pn.mk ?_;intro N hN)))|((try apply Or.inl);refine⟨_,au.x (h1) (sd (tw @az.eq_1 (tw @ae.eq_1 @hd))),?_⟩;refine hN _ _ ?_;clear hN N)|((try apply Or.inl);refine⟨_,au.x (h2) (sd (tw @az.eq_1 (tw @ae.eq_1 @hd))),?_⟩;refine hN _ _ ?_;clear hN N)|((try apply Or.inl);refine⟨_,au.x (h3) (sd (tw @az.eq_1 (tw @ae.eq_1 @hd))),?_⟩;refine hN _ _ ?_;clear hN N)))
     exact aX (b:=false) (.inl rfl) (sd @Nat.zero_add) (jS fun h=>by have:=h.Jw;rw[hT]at this;cases this)
    ·rw[hT]at h3
     have h4:=(BE s.aD s.bx.aq s.ay hS hA).cut mixed (.ptr _ [.sl (s.bx.aq.map aa),.int .i64 s.ay] (.ptr _ [.int .i64 s.ay] (.same _ .nil)))
     cases hB:nB s.aD s.bx.aq s.ay
     ·rw[hB]at h4
      (repeat(first|((repeat(revert hN;revert N;apply Pn.out));refine wk (tw @az.eq_1 (tw @ae.eq_1 @hd)) ?_;(repeat(refine Pn.mk ?_;intro N hN)))|((try apply Or.inl);refine⟨_,au.x (h1) (sd (tw @az.eq_1 (tw @ae.eq_1 @hd))),?_⟩;refine hN _ _ ?_;clear hN N)|((try apply Or.inl);refine⟨_,au.x (h2) (sd (tw @az.eq_1 (tw @ae.eq_1 @hd))),?_⟩;refine hN _ _ ?_;clear hN N)|((try apply Or.inl);refine⟨_,au.x (h3) (sd (tw @az.eq_1 (tw @ae.eq_1 @hd))),?_⟩;refine hN _ _ ?_;clear hN N)|((try apply Or.inl);refine⟨_,au.x (h4) (sd (tw @az.eq_1 (tw @ae.eq_1 @hd))),?_⟩;refine hN _ _ ?_;clear hN N)))
      exact aX (b:=false) (.inl rfl) (sd @Nat.zero_add) (jS fun h=>by have:=pr.2 h.holds;rw[hB]at this;cases this)
     ·have hP:=pr.1 hB
      have hf:sE s.aD s.bx.aq s.ay=0:=by
       have:=hP.1
       rw[sE,if_neg (by unfold il;omega)]
      rw[hB,hf]at h4
      (repeat(first|((repeat(revert hN;revert N;apply Pn.out));refine wk (tw @az.eq_1 (tw @ae.eq_1 @hd)) ?_;(repeat(refine Pn.mk ?_;intro N hN)))|((try apply Or.inl);refine⟨_,au.x (h1) (sd (tw @az.eq_1 (tw @ae.eq_1 @hd))),?_⟩;refine hN _ _ ?_;clear hN N)|((try apply Or.inl);refine⟨_,au.x (h2) (sd (tw @az.eq_1 (tw @ae.eq_1 @hd))),?_⟩;refine hN _ _ ?_;clear hN N)|((try apply Or.inl);refine⟨_,au.x (h3) (sd (tw @az.eq_1 (tw @ae.eq_1 @hd))),?_⟩;refine hN _ _ ?_;clear hN N)|((try apply Or.inl);refine⟨_,au.x (h4) (sd (tw @az.eq_1 (tw @ae.eq_1 @hd))),?_⟩;refine hN _ _ ?_;clear hN N)))
      exact aX (b:=true) (.inl rfl) (sd @Nat.zero_add) (B7 ⟨hS,hA,by omega,hT,hP⟩)
  ·have hb:pH s.aD s.bx.aq=false:=Bool.eq_false_iff.2 fun h=>hA (lT.1 h)
   rw[hb]at h2
   (repeat(first|((repeat(revert hN;revert N;apply Pn.out));refine wk (tw @az.eq_1 @ae.eq_1) ?_;(repeat(refine Pn.mk ?_;intro N hN)))|((try apply Or.inl);refine⟨_,au.x (h1) (sd (tw @az.eq_1 @ae.eq_1)),?_⟩;refine hN _ _ ?_;clear hN N)|((try apply Or.inl);refine⟨_,au.x (h2) (sd (tw @az.eq_1 @ae.eq_1)),?_⟩;refine hN _ _ ?_;clear hN N)))
   exact aX (b:=false) (.inl rfl) (sd @Nat.zero_add) (jS fun h=>hA h.GB)
 ·have hb:qI s.aD=false:=Bool.eq_false_iff.2 fun h=>hS (mc.1 h)
  rw[hb]at h1
  (repeat(first|((repeat(revert hN;revert N;apply Pn.out));refine wk (tw @az.eq_1 @ae.eq_1) ?_;(repeat(refine Pn.mk ?_;intro N hN)))|((try apply Or.inl);refine⟨_,au.x (h1) (sd (tw @az.eq_1 @ae.eq_1)),?_⟩;refine hN _ _ ?_;clear hN N)))
  exact aX (b:=false) (.inl rfl) (sd @Nat.zero_add) (jS fun h=>hS h.set)
end Go.Proofs.YtgoelphibofcmaaGreat.V

namespace Go.Proofs.YtgoelphibofcmaaGreat.V
open Go.RowKit
attribute [local irreducible] eh wpOps fI Call
attribute [local go_sem] aM fj eJ fF fE da upd cu K.av cI AV.cells AV.cell rowOf rowsOf part ld rowAt bK bV dq dM gy bD cY dY fA eS dk dR cW cV dD dE bG bc cL bF cP cN dO dS dQ cK bL cX dN bE aO cR cz gx bm cH bH aY dp bl dr AV.undef bt bz dF dL dy dC cF dX eb cw dV dU cQ cU List.getD_cons_zero List.getD_cons_succ List.getD_nil List.all_cons List.all_nil Bool.and_true Bool.true_and Bool.and_self Bool.not_true Bool.not_false Option.map_some Option.map_none Option.bind_some Option.bind_none List.length_cons List.length_nil List.take_succ_cons List.take_zero List.take_nil List.drop_succ_cons List.drop_zero List.drop_nil List.head?_cons List.map_cons List.map_nil List.getElem?_cons_zero List.getElem?_cons_succ List.cons_append List.nil_append List.append_nil List.length_map List.set_cons_zero List.set_cons_succ Nat.reduceMul eq_self Int.toNat_natCast Int.natCast_nonneg and_self true_and and_true decide_true decide_false Bool.false_eq_true Nat.zero_add Nat.add_zero List.contains_cons List.contains_nil Bool.or_false Bool.false_or beq_self_eq_true Nat.reduceBEq ne_eq not_true_eq_false not_false_eq_true Id.mk.injEq false_and and_false Nat.reduceLT Int.reduceLE Int.reduceLT Int.reduceToNat Int.reduceNeg Int.reduceAdd Nat.le_refl List.length_append beq_true beq_false Bool.not_eq_eq_eq_not or_false false_or dK aj ar aH bd br bW aT aZ aU bf cJ bw
theorem LF {s:ax} (hS:gY s) (a d:Int):0<=s7 s (dv (dw s a) d):=by
 have hF:=hS.form
 have fB:dv (dw s a) d=0∨(0<=dv (dw s a) d/\dv (dw s a) d<=s.aA.length):=by
  unfold dv dw
  rw[List.getD_eq_getElem?_getD,List.getD_eq_getElem?_getD]
  rcases ht:s.aq[a.toNat]? with _|t
  ·exact .inl (by simp[zL])
  ·have TD:=List.mem_of_getElem? ht
   simp only[Option.getD_some]
   rcases hg:t.bI[d.toNat]? with _|g
   ·exact .inl rfl
   ·exact .inr (hF.vz t TD g (List.mem_of_getElem? hg))
 unfold s7
 by_cases h0:dv (dw s a) d=0
 ·rw[if_pos h0];omega
 ·rw[if_neg h0]
  have hk:(dv (dw s a) d-1).toNat<s.aA.length:=by omega
  have:=ej (hS.Ra _ hk).2.1
  unfold pI at this
  unfold qn
  omega
theorem uS {s:ax} (hS:gY s) (a d b:Int):0<=gN s a d b/\gN s a d b<=4:=by
 refine⟨?_,AH hS a d b⟩
 unfold gN
 split
 ·exact LF hS a d
 ·omega
def ei (s:ax) (f:aE->Int) (p:aE) (t:Int):Nat->Int
 |0=>0
 |d+1=>ei s f p t d+if 0<=f (dx p d)then gN s t d (f (dx p d))else 0
def lY (s:ax) (f:aE->Int) (p:aE) (t:Int):Int:=ei s f p t 4
theorem lq {s:ax} (hS:gY s) (f:aE->Int) (p:aE) (t:Int):∀d,0<=ei s f p t d/\ei s f p t d<=4*(d:Int)
 |0=>⟨Int.le_refl _,Int.le_refl _⟩
 |d+1=>by
  have:=lq hS f p t d
  have hb:=uS hS t d (f (dx p d))
  simp only[ei]
  split<;>omega
theorem AD {s:ax} {l:List ah} (hA:lE s l) {p:aE} (h:0<=gm l p):ea s (gm l p)=true:=by
 unfold gm at h ⊢
 split at h
 ·rename_i h0
  rw[if_pos h0]
  exact hA.2 _ (jq (mN h0).1)
 ·omega
theorem zz (s:ax) (hS:gY s) (l:List ah) (hA:lE s l) (p:aE) (hx:iB p.eZ) (hy:iB p.eT) (t:Int) (ht:ea s t=true):au Tryz.prog 138 [.di (ae s),.di [.sl (l.map aa)],.agg (ai p),.int .i64 t] (.int .i64 (lY s (gm l) p t)):=by
 refine au.body eG rfl fun hl n0=>?_
 clear hl
 have hR:=hA.1.Jf
 have FK:l.length<=1048576:=by have:=hA.1.zb;omega
 (try((repeat(revert hN;revert N;apply Pn.out));refine wk @ai.eq_1 ?_;(repeat(refine Pn.mk ?_;intro N hN))))
 refine bh (fun n env st=>∃k:Nat,n=(4)-k/\k<=(4)/\env 10=.int .i64 (k:Int)/\env 9=.int .i64 (ei s (gm l) p t k)/\st.get ⟨138000000,n0⟩=some ⟨true,2,[ai p]⟩) (4) ⟨0,by omega,by omega,sl @ai.eq_1,sl @ai.eq_1,sl @ai.eq_1⟩ ?_
 rintro n_a env_a st_a ⟨k,rfl,ale,xM,a9,ag0⟩ dW
 have a0:=dW 0 (by kernel_rfl);have a1:=dW 1 (by kernel_rfl);have a3:=dW 3 (by kernel_rfl);have a6:=dW 6 (by kernel_rfl)
 simp only[go_sem, ↓reduceIte,Nat.reduceEqDiff,Nat.reduceAdd,Nat.reduceSub,Nat.reduceLeDiff,reduceCtorEq,ai]at a0 a1 a3 a6
 clear dW
 by_cases hk:(k:Int)<4
 ·have cG:∀{e:Env} {gg:Rows},(e 10=.int .i64 (IntKind.i64.wrap ((k:Int)+1)))->(e 9=.int .i64 (ei s (gm l) p t (k+1)))->(gg ⟨138000000,n0⟩=some ⟨true,2,[ai p]⟩)->∃m0,m0<(4)-k/\∃k:Nat,m0=(4)-k/\k<=(4)/\e 10=.int .i64 (k:Int)/\e 9=.int .i64 (ei s (gm l) p t k)/\gg ⟨138000000,n0⟩=some ⟨true,2,[ai p]⟩:=fun x1 x2 x3=>⟨_,by omega,k+1,rfl,by omega,(by rw[x1,aC (by omega)]),x2,x3⟩
  have eC:=yp p k (kG (by omega)) hx hy
  have FM:=EX l (dx p k) hR FK
  have fB:=lq hS (gm l) p t k
  by_cases h0:0<=gm l (dx p k)
  ·have w5:=yq s hS.form t k (gm l (dx p k)) ht (AD hA h0) (kG (by omega))
   have fS:=uS hS t k (gm l (dx p k))
   have hw:IntKind.i64.wrap (ei s (gm l) p t k+gN s t k (gm l (dx p k)))=ei s (gm l) p t (k+1):=by
    rw[bQ (by omega),ei,if_pos h0]
   (repeat(first|((repeat(revert hN;revert N;apply Pn.out));refine wk (tw @xM (tw @a9 (tw @ag0 (tw @a0 (tw @a1 (tw @a3 (tw @a6 (tw @hk (tw @h0 @ai.eq_1))))))))) ?_;(repeat(refine Pn.mk ?_;intro N hN)))|((try apply Or.inl);refine⟨_,au.x (eC) (sd (tw @xM (tw @a9 (tw @ag0 (tw @a0 (tw @a1 (tw @a3 (tw @a6 (tw @hk (tw @h0 @ai.eq_1)))))))))),?_⟩;refine hN _ _ ?_;clear hN N)|((try apply Or.inl);refine⟨_,au.x (FM) (sd (tw @xM (tw @a9 (tw @ag0 (tw @a0 (tw @a1 (tw @a3 (tw @a6 (tw @hk (tw @h0 @ai.eq_1)))))))))),?_⟩;refine hN _ _ ?_;clear hN N)|((try apply Or.inl);refine⟨_,au.x (w5) (sd (tw @xM (tw @a9 (tw @ag0 (tw @a0 (tw @a1 (tw @a3 (tw @a6 (tw @hk (tw @h0 @ai.eq_1)))))))))),?_⟩;refine hN _ _ ?_;clear hN N)))
   refine cG ?_ ?_ ?_
   all_goals simp only[go_sem, ↓reduceIte,Nat.reduceEqDiff,Nat.reduceAdd,Nat.reduceSub,Nat.reduceLeDiff,reduceCtorEq,xM,a9,ag0,a0,a1,a3,a6,hw,ai]
  ·have hw:ei s (gm l) p t (k+1)=ei s (gm l) p t k:=by rw[ei,if_neg h0,Int.add_zero]
   (repeat(first|((repeat(revert hN;revert N;apply Pn.out));refine wk (tw @xM (tw @a9 (tw @ag0 (tw @a0 (tw @a1 (tw @a3 (tw @a6 (tw @hk (tw @h0 @ai.eq_1))))))))) ?_;(repeat(refine Pn.mk ?_;intro N hN)))|((try apply Or.inl);refine⟨_,au.x (eC) (sd (tw @xM (tw @a9 (tw @ag0 (tw @a0 (tw @a1 (tw @a3 (tw @a6 (tw @hk (tw @h0 @ai.eq_1)))))))))),?_⟩;refine hN _ _ ?_;clear hN N)|((try apply Or.inl);refine⟨_,au.x (FM) (sd (tw @xM (tw @a9 (tw @ag0 (tw @a0 (tw @a1 (tw @a3 (tw @a6 (tw @hk (tw @h0 @ai.eq_1)))))))))),?_⟩;refine hN _ _ ?_;clear hN N)))
   refine cG ?_ ?_ ?_
   all_goals simp only[go_sem, ↓reduceIte,Nat.reduceEqDiff,Nat.reduceAdd,Nat.reduceSub,Nat.reduceLeDiff,reduceCtorEq,xM,a9,ag0,a0,a1,a3,a6,hw,ai]
 ·(try((repeat(revert hN;revert N;apply Pn.out));refine wk (tw @xM (tw @a9 (tw @ag0 (tw @a0 (tw @a1 (tw @a3 (tw @a6 @hk))))))) ?_;(repeat(refine Pn.mk ?_;intro N hN))))
  exact cm (b:=ei s (gm l) p t k) (.inl rfl) (sd (tw @xM (tw @a9 (tw @ag0 (tw @a0 (tw @a1 (tw @a3 @a6))))))) (by rw[show k=4 by omega];rfl)
def kn (la lb:List ah):Bool:=la.all fun t=>decide (gm lb t.aW=t.aP)
theorem BA (la lb:List ah) (hR:oh lb) (FK:lb.length<=1048576) (h81:la.length<=1048576):au Tryz.prog 59 [.di [.sl (la.map aa)],.di [.sl (lb.map aa)]] (.bool (kn la lb)):=by
 refine au.body eG rfl fun hl n0=>?_
 clear hl
 (try((repeat(revert hN;revert N;apply Pn.out));refine wk @Nat.zero_add ?_;(repeat(refine Pn.mk ?_;intro N hN))))
 refine bh (fun n env st=>∃k:Nat,n=(la.length)-k/\k<=(la.length)/\env 5=.int .i64 (k:Int)/\(∀j:Nat,j<k->gm lb (bj la j).aW=(bj la j).aP)) (la.length) ⟨0,by omega,by omega,sl @Nat.zero_add,fun _ h=>absurd h (Nat.not_lt_zero _)⟩ ?_
 rintro n_a env_a st_a ⟨k,rfl,ale,a5,lN⟩ dW
 have a0:=dW 0 (by kernel_rfl);have a1:=dW 1 (by kernel_rfl)
 simp only[go_sem, ↓reduceIte,Nat.reduceEqDiff,Nat.reduceAdd,Nat.reduceSub,Nat.reduceLeDiff,reduceCtorEq]at a0 a1
 clear dW
 by_cases hk:(k:Int)<(la.length:Int)
 ·have cG:∀{e:Env},(e 5=.int .i64 (IntKind.i64.wrap ((k:Int)+1)))->(gm lb (bj la k).aW=(bj la k).aP)->∃m0,m0<(la.length)-k/\∃k:Nat,m0=(la.length)-k/\k<=(la.length)/\e 5=.int .i64 (k:Int)/\(∀j:Nat,j<k->gm lb (bj la j).aW=(bj la j).aP):=fun x1 x2=>⟨_,by omega,k+1,rfl,by omega,(by rw[x1,aC (by omega)]),(all_succ lN x2)⟩
  have fw:k<la.length:=by omega
  have eQ:=fQ fw
  have FM:=EX lb (bj la k).aW hR FK
  by_cases h0:gm lb (bj la k).aW=(bj la k).aP
  ·have hd:decide (gm lb (bj la k).aW=(bj la k).aP)=true:=decide_eq_true h0
   (repeat(first|((repeat(revert hN;revert N;apply Pn.out));refine wk (tw @a5 (tw @a0 (tw @a1 (tw @hk (tw @eQ (tw @hd (tw @aa.eq_1 @ai.eq_1))))))) ?_;(repeat(refine Pn.mk ?_;intro N hN)))|((try apply Or.inl);refine⟨_,au.x (FM) (sd (tw @a5 (tw @a0 (tw @a1 (tw @hk (tw @eQ (tw @hd (tw @aa.eq_1 @ai.eq_1)))))))),?_⟩;refine hN _ _ ?_;clear hN N)))
   exact cG (sd (tw @a5 (tw @a0 @a1))) (h0)
  ·have hd:decide (gm lb (bj la k).aW=(bj la k).aP)=false:=decide_eq_false h0
   (repeat(first|((repeat(revert hN;revert N;apply Pn.out));refine wk (tw @a5 (tw @a0 (tw @a1 (tw @hk (tw @eQ (tw @hd (tw @aa.eq_1 @ai.eq_1))))))) ?_;(repeat(refine Pn.mk ?_;intro N hN)))|((try apply Or.inl);refine⟨_,au.x (FM) (sd (tw @a5 (tw @a0 (tw @a1 (tw @hk (tw @eQ (tw @hd (tw @aa.eq_1 @ai.eq_1)))))))),?_⟩;refine hN _ _ ?_;clear hN N)))
   exact aX (b:=false) (.inl rfl) (sd @Nat.zero_add) (List.all_eq_false.2 ⟨_,jq fw,by rw[hd];simp⟩).symm
 ·(try((repeat(revert hN;revert N;apply Pn.out));refine wk (tw @a5 (tw @a0 (tw @a1 @hk))) ?_;(repeat(refine Pn.mk ?_;intro N hN))))
  exact aX (b:=true) (.inl rfl) (sd @Nat.zero_add) (List.all_eq_true.2 fun t ht=>by
   obtain⟨j,hj,rfl⟩:=List.getElem_of_mem ht
   have:=lN j (by omega)
   rw[gL hj]at this
   exact decide_eq_true this).symm
noncomputable def qR (s:aI) (l:List ah):Bool:=nj s&&pH s.aD l
theorem Dr (s:aI) (l:List ah) (hn:fm s.aD) (hg:s.aD.aA.length<=1048576) (ht:s.aD.aq.length<=1048576):au Tryz.prog 58 [.di (az s),.di [.sl (l.map aa)]] (.int .i64 (if qR s l then 0 else 1)):=by
 refine au.body eG rfl fun hl n0=>?_
 clear hl
 have h1:=K6 s hn hg ht
 have h2:=(EY s.aD l).cut mixed (.ptr _ [.sl (s.bx.aq.map aa),.int .i64 s.ay] (.same _ .nil))
 cases b1:nj s
 ·rw[b1]at h1
  (repeat(first|((repeat(revert hN;revert N;apply Pn.out));refine wk @Nat.zero_add ?_;(repeat(refine Pn.mk ?_;intro N hN)))|((try apply Or.inl);refine⟨_,au.x (h1) (sd @Nat.zero_add),?_⟩;refine hN _ _ ?_;clear hN N)))
  exact cm (b:=1) (.inl rfl) (sd @Nat.zero_add) (by rw[qR,b1];rfl)
 rw[b1]at h1
 rw[az]at h1 ⊢
 cases b2:pH s.aD l
 ·rw[b2]at h2
  (repeat(first|((repeat(revert hN;revert N;apply Pn.out));refine wk @ae.eq_1 ?_;(repeat(refine Pn.mk ?_;intro N hN)))|((try apply Or.inl);refine⟨_,au.x (h1) (sd @ae.eq_1),?_⟩;refine hN _ _ ?_;clear hN N)|((try apply Or.inl);refine⟨_,au.x (h2) (sd @ae.eq_1),?_⟩;refine hN _ _ ?_;clear hN N)))
  exact cm (b:=1) (.inl rfl) (sd @Nat.zero_add) (by rw[qR,b1,b2];rfl)
 ·rw[b2]at h2
  (repeat(first|((repeat(revert hN;revert N;apply Pn.out));refine wk @ae.eq_1 ?_;(repeat(refine Pn.mk ?_;intro N hN)))|((try apply Or.inl);refine⟨_,au.x (h1) (sd @ae.eq_1),?_⟩;refine hN _ _ ?_;clear hN N)|((try apply Or.inl);refine⟨_,au.x (h2) (sd @ae.eq_1),?_⟩;refine hN _ _ ?_;clear hN N)))
  exact cm (b:=0) (.inl rfl) (sd @Nat.zero_add) (by rw[qR,b1,b2];rfl)
theorem qS {s:aI} {l:List ah}:qR s l=true↔uO s/\lE s.aD l:=by simp[qR,wN,lT]
noncomputable def gu (s:aI) (l:List ah):Int:=if qR s l then(if kn s.bx.aq l then 0 else 2)else 1
theorem Ga (s:aI) (l:List ah) (hn:fm s.aD) (hg:s.aD.aA.length<=1048576) (ht:s.aD.aq.length<=1048576):au Tryz.prog 67 [.di (az s),.di [.sl (l.map aa)]] (.int .i64 (gu s l)):=by
 refine au.body eG rfl fun hl n0=>?_
 clear hl
 have h1:=Dr s l hn hg ht
 cases b1:qR s l
 ·rw[b1]at h1
  (repeat(first|((repeat(revert hN;revert N;apply Pn.out));refine wk @Nat.zero_add ?_;(repeat(refine Pn.mk ?_;intro N hN)))|((try apply Or.inl);refine⟨_,au.x (h1) (sd @Nat.zero_add),?_⟩;refine hN _ _ ?_;clear hN N)))
  exact cm (b:=1) (.inl rfl) (sd @Nat.zero_add) (by rw[gu,b1];rfl)
 obtain⟨hP,hA⟩:=qS.1 b1
 have h2:=(BA s.bx.aq l hA.1.Jf (by have:=hA.1.zb;omega) (by have:=hP.GB.1.zb;omega)).cut mixed (.ptr _ [.int .i64 s.ay] (.same _ .nil))
 rw[b1]at h1
 rw[az]at h1 ⊢
 cases b2:kn s.bx.aq l
 ·rw[b2]at h2
  (repeat(first|((repeat(revert hN;revert N;apply Pn.out));refine wk @Nat.zero_add ?_;(repeat(refine Pn.mk ?_;intro N hN)))|((try apply Or.inl);refine⟨_,au.x (h1) (sd @Nat.zero_add),?_⟩;refine hN _ _ ?_;clear hN N)|((try apply Or.inl);refine⟨_,au.x (h2) (sd @Nat.zero_add),?_⟩;refine hN _ _ ?_;clear hN N)))
  exact cm (b:=2) (.inl rfl) (sd @Nat.zero_add) (by rw[gu,b1,b2];rfl)
 ·rw[b2]at h2
  (repeat(first|((repeat(revert hN;revert N;apply Pn.out));refine wk @Nat.zero_add ?_;(repeat(refine Pn.mk ?_;intro N hN)))|((try apply Or.inl);refine⟨_,au.x (h1) (sd @Nat.zero_add),?_⟩;refine hN _ _ ?_;clear hN N)|((try apply Or.inl);refine⟨_,au.x (h2) (sd @Nat.zero_add),?_⟩;refine hN _ _ ?_;clear hN N)))
  exact cm (b:=0) (.inl rfl) (sd @Nat.zero_add) (by rw[gu,b1,b2];rfl)
theorem Jy {s:ax} {k:Nat} (h:k<s.aq.length):ea s k=true:=by
 unfold ea;exact kG (by omega)
theorem CG {s:ax} {l:List ah} (hA:lE s l) (p:aE):gm l p<0↔eE l p<0:=by
 constructor
 ·intro h
  rcases Int.lt_or_le (eE l p) 0 with h0|h0
  ·exact h0
  ·exfalso
   obtain⟨h1,_⟩:=mN h0
   have h2:=(ej (hA.2 _ (jq h1))).1
   rw[gm,if_pos h0]at h
   omega
 ·intro h
  rw[gm,if_neg (by omega)];omega
end Go.Proofs.YtgoelphibofcmaaGreat.V

namespace Go.Proofs.YtgoelphibofcmaaGreat.V
open Go.RowKit
attribute [local irreducible] eh wpOps fI Call
attribute [local go_sem] aM fj eJ fF fE da upd cu K.av cI AV.cells AV.cell rowOf rowsOf part ld rowAt bK bV dq dM gy bD cY dY fA eS dk dR cW cV dD dE bG bc cL bF cP cN dO dS dQ cK bL cX dN bE aO cR cz gx bm cH bH aY dp bl dr AV.undef bt bz dF dL dy dC cF dX eb cw dV dU cQ cU List.getD_cons_zero List.getD_cons_succ List.getD_nil List.all_cons List.all_nil Bool.and_true Bool.true_and Bool.and_self Bool.not_true Bool.not_false Option.map_some Option.map_none Option.bind_some Option.bind_none List.length_cons List.length_nil List.take_succ_cons List.take_zero List.take_nil List.drop_succ_cons List.drop_zero List.drop_nil List.head?_cons List.map_cons List.map_nil List.getElem?_cons_zero List.getElem?_cons_succ List.cons_append List.nil_append List.append_nil List.length_map List.set_cons_zero List.set_cons_succ Nat.reduceMul eq_self Int.toNat_natCast Int.natCast_nonneg and_self true_and and_true decide_true decide_false Bool.false_eq_true Nat.zero_add Nat.add_zero List.contains_cons List.contains_nil Bool.or_false Bool.false_or beq_self_eq_true Nat.reduceBEq ne_eq not_true_eq_false not_false_eq_true Id.mk.injEq false_and and_false Nat.reduceLT Int.reduceLE Int.reduceLT Int.reduceToNat Int.reduceNeg Int.reduceAdd Nat.le_refl List.length_append beq_true beq_false Bool.not_eq_eq_eq_not or_false false_or dK aj ar aH bd br bW aT aZ aU bf cJ bw
abbrev mP:MK:=⟨true,[.tI,.tI]⟩
theorem BN (p:aE):∀(ts:List ah) (i:Nat),fZ mP (ai p) (ts.map aa) i=some (if pN ts p<ts.length then some (i+pN ts p)else none)
 |[],i=>by simp[fZ,pN]
 |t::ts,i=>by
  have e:eS mP.ts (ai p) ((aa t).take mP.ks)=some (decide (p=t.aW)):=by
   have h:(p=t.aW)↔(p.eZ=t.aW.eZ/\p.eT=t.aW.eT):=⟨fun h=>by rw[h];exact⟨rfl,rfl⟩,fun h=>DI h.1 h.2⟩
   simp[MK.ks,ai,aa,eS,fA,h]
  have ih:=BN p ts (i+1)
  rw[List.map_cons]
  unfold fZ
  rw[e]
  by_cases h:p=t.aW
  ·rw[decide_eq_true h]
   have h0:pN (t::ts) p=0:=by simp[pN,List.findIdx_cons,h]
   simp[h0]
  ·rw[decide_eq_false h]
   have h0:pN (t::ts) p=pN ts p+1:=by
    simp[pN,List.findIdx_cons,Ne.symm h]
   simp only[ih,h0,List.length_cons,Nat.add_lt_add_iff_right]
   congr 1
   split<;>simp;omega
theorem yC (ts:List ah) (p:aE):fP mP (.agg [.int .i64 p.eZ,.int .i64 p.eT]) (ts.map aa)=some (if 0<=eE ts p then some (eE ts p).toNat else none):=by
 have h:=BN p ts 0
 unfold fP
 rw[if_pos ⟨rfl,rfl,rfl⟩]
 show fZ mP (ai p) _ 0= _
 rw[h]
 unfold eE
 split<;>simp
theorem Gj {ts:List ah} {p:aE} (h:0<=eE ts p):fP mP (.agg [.int .i64 p.eZ,.int .i64 p.eT]) (ts.map aa)=some (some (eE ts p).toNat):=by rw[yC,if_pos h]
theorem v8 {ts:List ah} {p:aE} (h:eE ts p<0):fP mP (.agg [.int .i64 p.eZ,.int .i64 p.eT]) (ts.map aa)=some none:=by rw[yC,if_neg (by omega)]
structure Ai (g:Rows) (n:Nat) (c T O:Id) (s:aI) (ts:List ah):Prop where
 row:∃b,g c=some ⟨b,6,[[.sl (s.aD.aA.map bU),.sl (s.aD.aq.map bR),.sl (s.bx.aq.map aa),.int .i64 s.ay,.map T mP,.map O mP]]⟩
 tl:∃b,g T=some ⟨b,mP.sg,ts.map aa⟩
 cv:c.cq<n
 tv:T.cq<n
 ov:O.cq<n
theorem Ai.ro {g:Rows} {n:Nat} {c T O:Id} {s:aI} {ts:List ah} (h:Ai g n c T O s ts):Ai (V.ro g) n c T O s ts:=by
 obtain⟨b,h1⟩:=h.row
 obtain⟨b2,h2⟩:=h.tl
 exact⟨⟨false,by simp[V.ro,h1]⟩,⟨false,by simp[V.ro,h2]⟩,h.cv,h.tv,h.ov⟩
theorem Ai.frame {g g':Rows} {n n':Nat} {c T O:Id} {s:aI} {ts:List ah} (h:Ai g n c T O s ts) (hn:n<=n') (hc:g' c=g c) (hT:g' T=g T):Ai g' n' c T O s ts:=
 ⟨by rw[hc];exact h.row,by rw[hT];exact h.tl,Nat.lt_of_lt_of_le h.cv hn,Nat.lt_of_lt_of_le h.tv hn,Nat.lt_of_lt_of_le h.ov hn⟩
theorem Sc {σ:aw} {c T O:Id} {s:aI} {ts:List ah} (h:Ai σ.get σ.next c T O s ts) (p:aE):Call Tryz.prog 121 [.ptr c 0 0,.agg (ai p)] σ (fun r _=>r=.int .i64 (gm ts p)):=by
 refine fc eG rfl fun lf=>?_
 clear lf
 obtain⟨b,h1⟩:=h.row
 obtain⟨b2,h2⟩:=h.tl
 have v1:=dP h.cv
 have v2:=dP h.tv
 by_cases h0:0<=eE ts p
 ·have hm:=Gj h0
  have hg:=fQ (mN h0).1
  have ho:(some (eE ts p).toNat).isSome=true:=rfl
  (try((repeat(revert hN;revert N;apply Pn.out));refine wk (tw @h1 (tw @h2 (tw @v1 (tw @v2 (tw @hm (tw @hg (tw @ho (tw @ai.eq_1 @aa.eq_1)))))))) ?_;(repeat(refine Pn.mk ?_;intro N hN))))
  exact eV (.inl rfl) (vs:=[.int .i64 (bj ts (eE ts p).toNat).aP]) (sd @Nat.zero_add) (by rw[gm,if_pos h0];rfl)
 ·have hm:=v8 (ts:=ts) (p:=p) (by omega)
  have ho:(none:Option Nat).isSome=false:=rfl
  (try((repeat(revert hN;revert N;apply Pn.out));refine wk (tw @h1 (tw @h2 (tw @v1 (tw @v2 (tw @hm (tw @ho @ai.eq_1)))))) ?_;(repeat(refine Pn.mk ?_;intro N hN))))
  exact eV (.inl rfl) (vs:=[.int .i64 (-1)]) (sd @Nat.zero_add) (by rw[gm,if_neg h0];rfl)
theorem Ho {σ:aw} {c T O:Id} {s:aI} {ts:List ah} (h:Ai σ.get σ.next c T O s ts) (p:aE):fI (Call Tryz.prog) 121 [.ptr c 0 0,.agg (ai p)] σ (fun r=>r=.int .i64 (gm ts p)):=by
 unfold fI PC
 exact Or.inl (aJ _ _ _ _ _ (fun r σ' hr=>⟨_,by rw[hr];exact aH _ _ _ _,rfl⟩) (Sc (σ:=⟨V.ro σ.get,σ.next⟩) h.ro p))
theorem Ft {σ:aw} (s:ax) (hS:gY s) (F:aE->Int) (hF:∀q,0<=F q->ea s (F q)=true) (p:aE) (hx:iB p.eZ) (hy:iB p.eT) (t:Int) (ht:ea s t=true) (f:Nat) (first:List AV)
  (FM:∀σ':aw,σ.next<=σ'.next->(∀x:Id,x.cq<σ.next->σ'.get x=σ.get x)->∀q,fI (Call Tryz.prog) f (first++[.agg (ai q)]) σ' (fun r=>r=.int .i64 (F q))):
  Call Tryz.prog 120 [.agg (ae s),.agg (ai p),.int .i64 t,.tH f first] σ (fun r _=>r=.int .i64 (lY s F p t)):=by
 refine fc eG rfl fun lf=>?_
 clear lf
 (try((repeat(revert hN;revert N;apply Pn.out));refine wk (tw @ai.eq_1 @ae.eq_1) ?_;(repeat(refine Pn.mk ?_;intro N hN))))
 refine bh (fun n env st=>∃k:Nat,n=(4)-k/\k<=(4)/\env 12=.int .i64 (k:Int)/\env 9=.int .i64 (ei s F p t k)/\st.get ⟨120000000,σ.next⟩=some ⟨true,2,[ae s]⟩/\st.get ⟨120000001,σ.next⟩=some ⟨true,2,[ai p]⟩/\(σ.next<st.next/\∀x:Id,x.cq<σ.next->st.get x=σ.get x)) (4) ⟨0,by omega,by omega,sl (tw @ai.eq_1 @ae.eq_1),sl (tw @ai.eq_1 @ae.eq_1),sl (tw @ai.eq_1 @ae.eq_1),sl (tw @ai.eq_1 @ae.eq_1),⟨by(try dsimp only);omega,fun x hx=>by
  have:=dP hx
  simp only[go_sem, ↓reduceIte,Nat.reduceEqDiff,Nat.reduceAdd,Nat.reduceSub,Nat.reduceLeDiff,reduceCtorEq,this]⟩⟩ ?_
 rintro n_a env_a st_a ⟨k,rfl,ale,a12,a9,ag0,ag1,lS⟩ dW
 have a2:=dW 2 (by kernel_rfl);have a3:=dW 3 (by kernel_rfl);have a4:=dW 4 (by kernel_rfl);have a5:=dW 5 (by kernel_rfl)
 simp only[go_sem, ↓reduceIte,Nat.reduceEqDiff,Nat.reduceAdd,Nat.reduceSub,Nat.reduceLeDiff,reduceCtorEq,ai,ae]at a2 a3 a4 a5
 clear dW
 obtain⟨an,dW⟩:=lS
 by_cases hk:(k:Int)<4
 ·have cG:∀{e:Env} {gg:Rows} {nx:Nat},(e 12=.int .i64 (IntKind.i64.wrap ((k:Int)+1)))->(e 9=.int .i64 (ei s F p t (k+1)))->(gg ⟨120000000,σ.next⟩=some ⟨true,2,[ae s]⟩)->(gg ⟨120000001,σ.next⟩=some ⟨true,2,[ai p]⟩)->(σ.next<nx/\∀x:Id,x.cq<σ.next->gg x=σ.get x)->∃m0,m0<(4)-k/\∃k:Nat,m0=(4)-k/\k<=(4)/\e 12=.int .i64 (k:Int)/\e 9=.int .i64 (ei s F p t k)/\gg ⟨120000000,σ.next⟩=some ⟨true,2,[ae s]⟩/\gg ⟨120000001,σ.next⟩=some ⟨true,2,[ai p]⟩/\(σ.next<nx/\∀x:Id,x.cq<σ.next->gg x=σ.get x):=fun x1 x2 x3 x4 x5=>⟨_,by omega,k+1,rfl,by omega,(by rw[x1,aC (by omega)]),x2,x3,x4,x5⟩
  have eC:=DV p k (kG (by omega)) hx hy
  have fB:=lq hS F p t k
  (repeat(first|((repeat(revert hN;revert N;apply Pn.out));refine wk (tw @a12 (tw @a9 (tw @ag0 (tw @ag1 (tw @a2 (tw @a3 (tw @a4 (tw @a5 (tw @hk @ai.eq_1))))))))) ?_;(repeat(refine Pn.mk ?_;intro N hN)))|((try apply Or.inl);refine⟨_,au.x (eC) (sd (tw @a12 (tw @a9 (tw @ag0 (tw @ag1 (tw @a2 (tw @a3 (tw @a4 (tw @a5 (tw @hk @ai.eq_1)))))))))),?_⟩;refine hN _ _ ?_;clear hN N)))
  refine .inl ⟨_,FM _ (by(try dsimp only);omega) (fun x hx=>sd (dW x hx)) (dx p k),?_⟩
  refine hN _ _ ?_
  clear hN N
  by_cases h0:0<=F (dx p k)
  ·have w5:=Hy s hS.form t k (F (dx p k)) ht (hF _ h0) (kG (by omega))
   have fS:=uS hS t k (F (dx p k))
   have hw:IntKind.i64.wrap (ei s F p t k+gN s t k (F (dx p k)))=ei s F p t (k+1):=by
    rw[bQ (by omega),ei,if_pos h0]
   rw[ae]at w5
   (repeat(first|((repeat(revert hN;revert N;apply Pn.out));refine wk (tw @a12 (tw @a9 (tw @ag0 (tw @ag1 (tw @a2 (tw @a3 (tw @a4 (tw @a5 (tw @h0 @ae.eq_1))))))))) ?_;(repeat(refine Pn.mk ?_;intro N hN)))|((try apply Or.inl);refine⟨_,au.x (w5) (sd (tw @a12 (tw @a9 (tw @ag0 (tw @ag1 (tw @a2 (tw @a3 (tw @a4 (tw @a5 (tw @h0 @ae.eq_1)))))))))),?_⟩;refine hN _ _ ?_;clear hN N)))
   refine cG ?_ ?_ ?_ ?_ (⟨by(try dsimp only);omega,fun x hx=>by
    have h1:=dW x hx
    simp only[go_sem, ↓reduceIte,Nat.reduceEqDiff,Nat.reduceAdd,Nat.reduceSub,Nat.reduceLeDiff,reduceCtorEq,h1]⟩)
   all_goals simp only[go_sem, ↓reduceIte,Nat.reduceEqDiff,Nat.reduceAdd,Nat.reduceSub,Nat.reduceLeDiff,reduceCtorEq,a12,a9,ag0,ag1,a2,a3,a4,a5,hw,ai,ae]
  ·have hw:ei s F p t (k+1)=ei s F p t k:=by rw[ei,if_neg h0,Int.add_zero]
   (try((repeat(revert hN;revert N;apply Pn.out));refine wk (tw @a12 (tw @a9 (tw @ag0 (tw @ag1 (tw @a2 (tw @a3 (tw @a4 (tw @a5 @h0)))))))) ?_;(repeat(refine Pn.mk ?_;intro N hN))))
   refine cG ?_ ?_ ?_ ?_ (⟨by(try dsimp only);omega,fun x hx=>by
    have h1:=dW x hx
    simp only[go_sem, ↓reduceIte,Nat.reduceEqDiff,Nat.reduceAdd,Nat.reduceSub,Nat.reduceLeDiff,reduceCtorEq,h1]⟩)
   all_goals simp only[go_sem, ↓reduceIte,Nat.reduceEqDiff,Nat.reduceAdd,Nat.reduceSub,Nat.reduceLeDiff,reduceCtorEq,a12,a9,ag0,ag1,a2,a3,a4,a5,hw,ai,ae]
 ·(try((repeat(revert hN;revert N;apply Pn.out));refine wk (tw @a12 (tw @a9 (tw @ag0 (tw @ag1 (tw @a2 (tw @a3 (tw @a4 (tw @a5 @hk)))))))) ?_;(repeat(refine Pn.mk ?_;intro N hN))))
  exact eV (.inl rfl) (vs:=[.int .i64 (ei s F p t k)]) (sd (tw @a12 (tw @a9 (tw @ag0 (tw @ag1 (tw @a2 (tw @a3 (tw @a4 @a5)))))))) (by rw[show k=4 by omega];rfl)
end Go.Proofs.YtgoelphibofcmaaGreat.V

namespace Go.Proofs.YtgoelphibofcmaaGreat.V
open Go.RowKit
attribute [local irreducible] eh wpOps fI Call
attribute [local go_sem] aM fj eJ fF fE da upd cu K.av cI AV.cells AV.cell rowOf rowsOf part ld rowAt bK bV dq dM gy bD cY dY fA eS dk dR cW cV dD dE bG bc cL bF cP cN dO dS dQ cK bL cX dN bE aO cR cz gx bm cH bH aY dp bl dr AV.undef bt bz dF dL dy dC cF dX eb cw dV dU cQ cU List.getD_cons_zero List.getD_cons_succ List.getD_nil List.all_cons List.all_nil Bool.and_true Bool.true_and Bool.and_self Bool.not_true Bool.not_false Option.map_some Option.map_none Option.bind_some Option.bind_none List.length_cons List.length_nil List.take_succ_cons List.take_zero List.take_nil List.drop_succ_cons List.drop_zero List.drop_nil List.head?_cons List.map_cons List.map_nil List.getElem?_cons_zero List.getElem?_cons_succ List.cons_append List.nil_append List.append_nil List.length_map List.set_cons_zero List.set_cons_succ Nat.reduceMul eq_self Int.toNat_natCast Int.natCast_nonneg and_self true_and and_true decide_true decide_false Bool.false_eq_true Nat.zero_add Nat.add_zero List.contains_cons List.contains_nil Bool.or_false Bool.false_or beq_self_eq_true Nat.reduceBEq ne_eq not_true_eq_false not_false_eq_true Id.mk.injEq false_and and_false Nat.reduceLT Int.reduceLE Int.reduceLT Int.reduceToNat Int.reduceNeg Int.reduceAdd Nat.le_refl List.length_append beq_true beq_false Bool.not_eq_eq_eq_not or_false false_or dK aj ar aH bd br bW aT aZ aU bf cJ bw
noncomputable def ua (s:aI) (ts:List ah) (p:aE) (t:Int):Bool:=Ar p&&decide (gm ts p<0)&&decide (s.ay<=lY s.aD (gm ts) p t)
theorem xR {σ:aw} {c T O:Id} {s:aI} {ts:List ah} (h:Ai σ.get σ.next c T O s ts) (hS:gY s.aD) (hF:∀q,0<=gm ts q->ea s.aD (gm ts q)=true) (p:aE) (hx:iB p.eZ) (hy:iB p.eT) (t:Int) (ht:ea s.aD t=true):
  fI (Call Tryz.prog) 120 [.agg (ae s.aD),.agg (ai p),.int .i64 t,.tH 121 [.ptr c 0 0]] σ (fun r=>r=.int .i64 (lY s.aD (gm ts) p t)):=by
 unfold fI PC
 exact Or.inl (aJ _ _ _ _ _ (fun r σ' hr=>⟨_,by rw[hr];exact aH _ _ _ _,rfl⟩) (Ft (σ:=⟨V.ro σ.get,σ.next⟩) s.aD hS (gm ts) hF p hx hy t ht _ _
  (fun σ' hn hk q=>Ho (h.ro.frame hn (hk _ h.cv) (hk _ h.tv)) q)))
theorem MY {σ:aw} {c T O:Id} {s:aI} {ts:List ah} (h:Ai σ.get σ.next c T O s ts) (hS:gY s.aD) (hF:∀q,0<=gm ts q->ea s.aD (gm ts q)=true) (p:aE) (t:Int) (ht:ea s.aD t=true):
  Call Tryz.prog 133 [.ptr c 0 0,.agg (ai p),.int .i64 t] σ (fun r _=>r=.bool (ua s ts p t)):=by
 refine fc eG rfl fun lf=>?_
 clear lf
 obtain⟨b,h1⟩:=h.row
 have v1:=dP h.cv
 have hw:=mz p
 have v2:=dP h.tv
 by_cases h0:Ar p=true
 ·rw[h0]at hw
  obtain⟨hx,hy⟩:=sV h0
  by_cases h2:gm ts p<0
  ·(repeat(first|((repeat(revert hN;revert N;apply Pn.out));refine wk (tw @h1 (tw @v1 (tw @h2 @ai.eq_1))) ?_;(repeat(refine Pn.mk ?_;intro N hN)))|((try apply Or.inl);refine⟨_,au.x (hw) (sd (tw @h1 (tw @v1 (tw @h2 @ai.eq_1)))),?_⟩;refine hN _ _ ?_;clear hN N)))
   refine⟨_,Ho (h.frame (by(try dsimp only);omega) (sd @v1) (sd @v2)) p,?_⟩
   refine hN _ _ ?_
   clear hN N
   (repeat(first|((repeat(revert hN;revert N;apply Pn.out));refine wk (tw @h1 (tw @v1 (tw @h2 (tw @ai.eq_1 @ae.eq_1)))) ?_;(repeat(refine Pn.mk ?_;intro N hN)))|((try apply Or.inl);refine⟨_,au.x (hw) (sd (tw @h1 (tw @v1 (tw @h2 (tw @ai.eq_1 @ae.eq_1))))),?_⟩;refine hN _ _ ?_;clear hN N)))
   refine⟨_,xR (h.frame (by(try dsimp only);omega) (sd @v1) (sd @v2)) hS hF p hx hy t ht,?_⟩
   refine hN _ _ ?_
   clear hN N
   have hb:=lq hS (gm ts) p t 4
   (repeat(first|((repeat(revert hN;revert N;apply Pn.out));refine wk (tw @h1 (tw @v1 (tw @h2 (tw @ai.eq_1 @ae.eq_1)))) ?_;(repeat(refine Pn.mk ?_;intro N hN)))|((try apply Or.inl);refine⟨_,au.x (hw) (sd (tw @h1 (tw @v1 (tw @h2 (tw @ai.eq_1 @ae.eq_1))))),?_⟩;refine hN _ _ ?_;clear hN N)))
   exact eV (.inl rfl) (vs:=[.bool (decide (s.ay<=lY s.aD (gm ts) p t))]) (sd @Nat.zero_add) (by rw[show ua s ts p t=decide (s.ay<=lY s.aD (gm ts) p t) by simp[ua,h0,h2]];rfl)
  ·(repeat(first|((repeat(revert hN;revert N;apply Pn.out));refine wk (tw @h1 (tw @v1 (tw @h2 @ai.eq_1))) ?_;(repeat(refine Pn.mk ?_;intro N hN)))|((try apply Or.inl);refine⟨_,au.x (hw) (sd (tw @h1 (tw @v1 (tw @h2 @ai.eq_1)))),?_⟩;refine hN _ _ ?_;clear hN N)))
   refine⟨_,Ho (h.frame (by(try dsimp only);omega) (sd @v1) (sd @v2)) p,?_⟩
   refine hN _ _ ?_
   clear hN N
   (repeat(first|((repeat(revert hN;revert N;apply Pn.out));refine wk (tw @h1 (tw @v1 (tw @h2 @ai.eq_1))) ?_;(repeat(refine Pn.mk ?_;intro N hN)))|((try apply Or.inl);refine⟨_,au.x (hw) (sd (tw @h1 (tw @v1 (tw @h2 @ai.eq_1)))),?_⟩;refine hN _ _ ?_;clear hN N)))
   exact eV (.inl rfl) (vs:=[.bool false]) (sd @Nat.zero_add) (by rw[show ua s ts p t=false by simp[ua,h2]];rfl)
 ·rw[Bool.not_eq_true]at h0
  rw[h0]at hw
  (repeat(first|((repeat(revert hN;revert N;apply Pn.out));refine wk (tw @h1 (tw @v1 @ai.eq_1)) ?_;(repeat(refine Pn.mk ?_;intro N hN)))|((try apply Or.inl);refine⟨_,au.x (hw) (sd (tw @h1 (tw @v1 @ai.eq_1))),?_⟩;refine hN _ _ ?_;clear hN N)))
  exact eV (.inl rfl) (vs:=[.bool false]) (sd @Nat.zero_add) (by rw[show ua s ts p t=false by simp[ua,h0]];rfl)
end Go.Proofs.YtgoelphibofcmaaGreat.V
