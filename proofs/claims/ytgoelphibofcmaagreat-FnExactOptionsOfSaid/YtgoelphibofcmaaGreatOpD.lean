/- The bonds of an assembly, by the reference. -/
import Derived.Test.YtgoelphibofcmaaGreatOpB
import Derived.Test.YtgoelphibofcmaaGreatOpC
set_option linter.unusedVariables false
set_option linter.unusedSimpArgs false
set_option maxRecDepth 100000
set_option maxHeartbeats 16000000
namespace Go.Proofs.YtgoelphibofcmaaGreat.V
open Go.RowKit
attribute [local irreducible] eb wpOps gj Call
attribute [local go_sem] aJ fM eP fZ fY cL upd cu K.av cN AV.cells AV.cell rowOf rowsOf part ld rowAt bI bW dD ee gT bL dc ev fU eY dr ej da cZ dO dR bR aX cR bQ cV cU eh ek ei cQ bV db ef bP aP cX cE gS bw cJ bU aW dx bj dE AV.undef bD bF dV ec dI dS cF eu eB cD ep eo cW cY List.getD_cons_zero List.getD_cons_succ List.getD_nil List.all_cons List.all_nil Bool.and_true Bool.true_and Bool.and_self Bool.not_true Bool.not_false Option.map_some Option.map_none Option.bind_some Option.bind_none List.length_cons List.length_nil List.take_succ_cons List.take_zero List.take_nil List.drop_succ_cons List.drop_zero List.drop_nil List.head?_cons List.map_cons List.map_nil List.getElem?_cons_zero List.getElem?_cons_succ List.cons_append List.nil_append List.append_nil List.length_map List.set_cons_zero List.set_cons_succ Nat.reduceMul eq_self Int.toNat_natCast Int.natCast_nonneg and_self true_and and_true decide_true decide_false Bool.false_eq_true Nat.zero_add Nat.add_zero List.contains_cons List.contains_nil Bool.or_false Bool.false_or beq_self_eq_true Nat.reduceBEq ne_eq not_true_eq_false not_false_eq_true Id.mk.injEq false_and and_false Nat.reduceLT Int.reduceLE Int.reduceLT Int.reduceToNat Int.reduceNeg Int.reduceAdd Nat.le_refl List.length_append beq_true beq_false Bool.not_eq_eq_eq_not or_false false_or dM aj aq aH bd bz ck aU bf aT aZ cP bH
def aA (b:PB):List AV:=[.int .i64 b.a,.int .i64 b.b,.int .i64 b.s]
theorem M9:∀b:PB,(aA b).length=3/\(aA b).all AV.cell=true:=fun _=>⟨rfl,rfl⟩
theorem y4 (g:Rows) (n:Nat) (b:PB):cK g (n+1) (aA b)=some (aA b):=by simp[aA,aj,aq,aH]
theorem uh (g:Rows) (n:Nat) (b:PB):dZ g (n+1) (aA b)=some (aA b):=by simp[aA,bE,cw,eH]
theorem Ib:P3 aA (fun c=>.agg (aA c)) 3 true:=⟨fun _=>rfl,fun _=>rfl,fun x g=>by simp only[aA,aj,aq,bf,aH,Option.map_some]⟩
def mC (s:aw) (l:List ae) (i:Nat) (d:Int):List PB:=
 if 0<=eK l (aY (aV l i).bx d)/\0<gL s (aV l i).bB d (aV l (eK l (aY (aV l i).bx d)).toNat).bB then
  [⟨i,(eK l (aY (aV l i).bx d)).toNat,gL s (aV l i).bB d (aV l (eK l (aY (aV l i).bx d)).toNat).bB⟩]else[]
def fS (s:aw) (l:List ae) (i m:Nat):List PB:=(List.range m).flatMap fun j:Nat=>mC s l i (1-(j:Int))
def gE (s:aw) (l:List ae) (n:Nat):List PB:=(List.range n).flatMap fun i=>fS s l i 2
def cG (s:aw) (l:List ae):List PB:=gE s l l.length
theorem pP (s:aw) (l:List ae) (i m:Nat):fS s l i (m+1)=fS s l i m++mC s l i (1-(m:Int)):=by simp[fS,List.range_succ]
theorem qY (s:aw) (l:List ae) (n:Nat):gE s l (n+1)=gE s l n++fS s l n 2:=by simp[gE,List.range_succ]
theorem CV (s:aw) (l:List ae) (i:Nat) (d:Int):(mC s l i d).length<=1:=by unfold mC;split<;>simp
theorem qW (s:aw) (l:List ae) (i m:Nat):(fS s l i m).length<=m:=by
 induction m with
 |zero=>simp[fS]
 |succ m ih=>rw[pP,List.length_append];have:=CV s l i (1-(m:Int));omega
theorem tb (s:aw) (l:List ae) (n:Nat):(gE s l n).length<=2*n:=by
 induction n with
 |zero=>simp[gE]
 |succ n ih=>rw[qY,List.length_append];have:=qW s l n 2;omega
def sB:Id->Prop:=fun o=>o.site=193001000∨o.site=193012006
theorem DK (s:aw) (l:List ae) (hS:iU s) (hA:kz s l):ar Tryz.prog 193 [.dj (aa s),.dj [.sl (l.map ad)]] (.sl ((cG s l).map aA)):=by
 refine ar.body eJ rfl fun hl n0=>?_
 clear hl
 have hF:=hA.1
 have Gf:=hF.Cu
 (try((repeat(revert hN;revert N;apply Pn.out));refine wk @Nat.zero_add ?_;(repeat(refine Pn.mk ?_;intro N hN))))
 refine aO (fun n env st=>∃k:Nat,n=(l.length)-k/\k<=(l.length)/\env 6=.int .i64 (k:Int)/\(mm aA 3 (env 5) st.get sB (gE s l k))) (l.length) ⟨0,by omega,by omega,sl @Nat.zero_add,⟨⟨193001000,n0+1⟩,.inl rfl,by simp only[go_sem, ↓reduceIte,Nat.reduceEqDiff,Nat.reduceAdd,Nat.reduceSub,Nat.reduceLeDiff,reduceCtorEq];rfl,by simp only[go_sem, ↓reduceIte,Nat.reduceEqDiff,Nat.reduceAdd,Nat.reduceSub,Nat.reduceLeDiff,reduceCtorEq];rfl⟩⟩ ?_
 rintro n_a env_a st_a ⟨k,rfl,ale,a6,ke⟩ dv
 have a0:=dv 0 (by kernel_rfl);have a1:=dv 1 (by kernel_rfl)
 simp only[go_sem, ↓reduceIte,Nat.reduceEqDiff,Nat.reduceAdd,Nat.reduceSub,Nat.reduceLeDiff,reduceCtorEq]at a0 a1
 clear dv
 by_cases hk:(k:Int)<(l.length:Int)
 ·have cz:∀{e:Env} {gg:Rows},(e 6=.int .i64 (IntKind.i64.wrap ((k:Int)+1)))->(mm aA 3 (e 5) gg sB (gE s l (k+1)))->∃m0,m0<(l.length)-k/\∃k:Nat,m0=(l.length)-k/\k<=(l.length)/\e 6=.int .i64 (k:Int)/\(mm aA 3 (e 5) gg sB (gE s l k)):=fun x1 x2=>⟨_,by omega,k+1,rfl,by omega,(by rw[x1,az (by omega)]),x2⟩
  have fa:k<l.length:=by omega
  have eR:=ga fa
  have Ll:=tb s l k
  (try((repeat(revert hN;revert N;apply Pn.out));refine wk (tw @a6 (tw @a0 (tw @a1 @hk))) ?_;(repeat(refine Pn.mk ?_;intro N hN))))
  refine aO (fun n env st=>∃m:Nat,n=(2)-m/\m<=(2)/\env 7=(.int .i64 (1-(m:Int)))/\(mm aA 3 (env 5) st.get sB (gE s l k++fS s l k m))) (2) ⟨0,by omega,by omega,sl (tw @a6 (tw @a0 @a1)),by(simp only[go_sem, ↓reduceIte,Nat.reduceEqDiff,Nat.reduceAdd,Nat.reduceSub,Nat.reduceLeDiff,reduceCtorEq];exact ke.cast (by simp[fS]))⟩ ?_
  rintro n_b env_b st_b ⟨m,rfl,ble,b7,bI0⟩ eV
  have b0:=eV 0 (by kernel_rfl);have b1:=eV 1 (by kernel_rfl);have b6:=eV 6 (by kernel_rfl)
  simp only[go_sem, ↓reduceIte,Nat.reduceEqDiff,Nat.reduceAdd,Nat.reduceSub,Nat.reduceLeDiff,reduceCtorEq,a6,a0,a1]at b0 b1 b6
  clear eV
  have Sm:=qW s l k m
  have lv:=pP s l k m
  by_cases hm:(m:Int)<2
  ·have fh:∀{e:Env} {gg:Rows},(e 7=(.int .i64 (1-((m+1):Int))))->(mm aA 3 (e 5) gg sB (gE s l k++fS s l k (m+1)))->∃m0,m0<(2)-m/\∃m:Nat,m0=(2)-m/\m<=(2)/\e 7=(.int .i64 (1-(m:Int)))/\(mm aA 3 (e 5) gg sB (gE s l k++fS s l k m)):=fun x1 x2=>⟨_,by omega,m+1,rfl,by omega,x1,x2⟩
   have qo:(0:Int)<=1-(m:Int):=by omega
   have hd:iJ (1-(m:Int)) 0 3=true:=jE (by omega)
   have hw:IntKind.i64.wrap (1-(m:Int)-1)=1-((m:Int)+1):=by rw[bh (by omega)];omega
   have Sy:=xj l hF k (1-(m:Int)) fa hd
   unfold mC at lv
   have hT:=hA.2 _ (kP fa)
   generalize Cz:eK l (aY (aV l k).bx (1-(m:Int)))=ix at *
   by_cases hi:ix<0
   ·rw[if_neg (by omega),List.append_nil]at lv
    (repeat(first|((repeat(revert hN;revert N;apply Pn.out));refine wk (tw @b7 (tw @b0 (tw @b1 (tw @b6 (tw @qo (tw @hw @hi)))))) ?_;(repeat(refine Pn.mk ?_;intro N hN)))|((try apply Or.inl);refine⟨_,ar.x (Sy) (sd (tw @b7 (tw @b0 (tw @b1 (tw @b6 (tw @qo (tw @hw @hi))))))),?_⟩;refine hN _ _ ?_;clear hN N)))
    exact fh (sd (tw @b7 (tw @b0 (tw @b1 (tw @b6 @hw))))) (by(simp only[go_sem, ↓reduceIte,Nat.reduceEqDiff,Nat.reduceAdd,Nat.reduceSub,Nat.reduceLeDiff,reduceCtorEq];exact bI0.cast (by rw[lv])))
   ·have Hu:0<=ix:=by omega
    have N8:=kj (l:=l) (p:=aY (aV l k).bx (1-(m:Int))) (by omega)
    rw[Cz]at N8
    have kh:=ga N8.1
    have xQ:=Gu s hS (aV l k).bB (1-(m:Int)) (aV l ix.toNat).bB hT (hA.2 _ (kP N8.1)) hd
    generalize Si:gL s (aV l k).bB (1-(m:Int)) (aV l ix.toNat).bB=bv at *
    by_cases hb:0<bv
    ·rw[if_pos ⟨Hu,hb⟩]at lv
     (repeat(first|((repeat(revert hN;revert N;apply Pn.out));refine wa (tw @b7 (tw @b0 (tw @b1 (tw @b6 (tw @qo (tw @hw (tw @hi (tw @Hu (tw @eR (tw @kh (tw @hb @ad.eq_1))))))))))) ?_;(repeat(refine Pn.mk ?_;intro N hN)))|((try apply Or.inl);refine⟨_,ar.x (Sy) (sd (tw @b7 (tw @b0 (tw @b1 (tw @b6 (tw @qo (tw @hw (tw @hi (tw @Hu (tw @eR (tw @kh (tw @hb @ad.eq_1)))))))))))),?_⟩;refine hN _ _ ?_;clear hN N)|((try apply Or.inl);refine⟨_,ar.x (xQ) (sd (tw @b7 (tw @b0 (tw @b1 (tw @b6 (tw @qo (tw @hw (tw @hi (tw @Hu (tw @eR (tw @kh (tw @hb @ad.eq_1)))))))))))),?_⟩;refine hN _ _ ?_;clear hN N)))
     refine O3 (enc:=aA) (S:=sB) (L:=gE s l k++fS s l k m) (xv:=env_b 5) [⟨k,ix.toNat,bv⟩] rfl rfl (sd @Nat.zero_add) (bI0.frame fun o ho=>by rcases ho with ho|ho<;>simp only[go_sem, ↓reduceIte,Nat.reduceEqDiff,Nat.reduceAdd,Nat.reduceSub,Nat.reduceLeDiff,reduceCtorEq,zQ ho]) (sd (tw @aA.eq_1 (Int.toNat_of_nonneg Hu))) M9 (.inr rfl) (by simp only[dE,List.length_append,List.length_cons,List.length_nil];omega) fun v g' hO lW=>?_
     rw[List.append_assoc,<-lv]at hO
     clear lW
     (try((repeat(revert hN;revert N;apply Pn.out));refine wk (tw @b7 (tw @b0 (tw @b1 (tw @b6 @hw)))) ?_;(repeat(refine Pn.mk ?_;intro N hN))))
     exact fh (sd (tw @b7 (tw @b0 (tw @b1 (tw @b6 @hw))))) (by(simp only[go_sem, ↓reduceIte,Nat.reduceEqDiff,Nat.reduceAdd,Nat.reduceSub,Nat.reduceLeDiff,reduceCtorEq];exact hO))
    ·rw[if_neg fun h=>hb h.2,List.append_nil]at lv
     (repeat(first|((repeat(revert hN;revert N;apply Pn.out));refine wk (tw @b7 (tw @b0 (tw @b1 (tw @b6 (tw @qo (tw @hw (tw @hi (tw @Hu (tw @eR (tw @kh (tw @hb @ad.eq_1))))))))))) ?_;(repeat(refine Pn.mk ?_;intro N hN)))|((try apply Or.inl);refine⟨_,ar.x (Sy) (sd (tw @b7 (tw @b0 (tw @b1 (tw @b6 (tw @qo (tw @hw (tw @hi (tw @Hu (tw @eR (tw @kh (tw @hb @ad.eq_1)))))))))))),?_⟩;refine hN _ _ ?_;clear hN N)|((try apply Or.inl);refine⟨_,ar.x (xQ) (sd (tw @b7 (tw @b0 (tw @b1 (tw @b6 (tw @qo (tw @hw (tw @hi (tw @Hu (tw @eR (tw @kh (tw @hb @ad.eq_1)))))))))))),?_⟩;refine hN _ _ ?_;clear hN N)))
     exact fh (sd (tw @b7 (tw @b0 (tw @b1 (tw @b6 @hw))))) (by(simp only[go_sem, ↓reduceIte,Nat.reduceEqDiff,Nat.reduceAdd,Nat.reduceSub,Nat.reduceLeDiff,reduceCtorEq];exact bI0.cast (by rw[lv])))
  ·have ML:m=2:=by omega
   subst ML
   have dP:¬(0:Int)<=1-((2:Nat):Int):=by omega
   (try((repeat(revert hN;revert N;apply Pn.out));refine wk (tw @b7 (tw @b0 (tw @b1 (tw @b6 @dP)))) ?_;(repeat(refine Pn.mk ?_;intro N hN))))
   exact cz (sd (tw @a6 (tw @a0 (tw @a1 (tw @b7 (tw @b0 (tw @b1 @b6))))))) (by(simp only[go_sem, ↓reduceIte,Nat.reduceEqDiff,Nat.reduceAdd,Nat.reduceSub,Nat.reduceLeDiff,reduceCtorEq];exact bI0.cast (by rw[qY])))
 ·have k8:k=l.length:=by omega
  (try((repeat(revert hN;revert N;apply Pn.out));refine wk (tw @a6 (tw @a0 (tw @a1 @hk))) ?_;(repeat(refine Pn.mk ?_;intro N hN))))
  exact wm (.inl rfl) (by simp only[go_sem, ↓reduceIte,Nat.reduceEqDiff,Nat.reduceAdd,Nat.reduceSub,Nat.reduceLeDiff,reduceCtorEq];rfl) (by rw[k8]at ke;exact ke.gi fun b=>uh _ _ b)
end Go.Proofs.YtgoelphibofcmaaGreat.V

namespace Go.Proofs.YtgoelphibofcmaaGreat.V
open Go.RowKit
attribute [local irreducible] eb wpOps gj Call
attribute [local go_sem] aJ fM eP fZ fY cL upd cu K.av cN AV.cells AV.cell rowOf rowsOf part ld rowAt bI bW dD ee gT bL dc ev fU eY dr ej da cZ dO dR bR aX cR bQ cV cU eh ek ei cQ bV db ef bP aP cX cE gS bw cJ bU aW dx bj dE AV.undef bD bF dV ec dI dS cF eu eB cD ep eo cW cY List.getD_cons_zero List.getD_cons_succ List.getD_nil List.all_cons List.all_nil Bool.and_true Bool.true_and Bool.and_self Bool.not_true Bool.not_false Option.map_some Option.map_none Option.bind_some Option.bind_none List.length_cons List.length_nil List.take_succ_cons List.take_zero List.take_nil List.drop_succ_cons List.drop_zero List.drop_nil List.head?_cons List.map_cons List.map_nil List.getElem?_cons_zero List.getElem?_cons_succ List.cons_append List.nil_append List.append_nil List.length_map List.set_cons_zero List.set_cons_succ Nat.reduceMul eq_self Int.toNat_natCast Int.natCast_nonneg and_self true_and and_true decide_true decide_false Bool.false_eq_true Nat.zero_add Nat.add_zero List.contains_cons List.contains_nil Bool.or_false Bool.false_or beq_self_eq_true Nat.reduceBEq ne_eq not_true_eq_false not_false_eq_true Id.mk.injEq false_and and_false Nat.reduceLT Int.reduceLE Int.reduceLT Int.reduceToNat Int.reduceNeg Int.reduceAdd Nat.le_refl List.length_append beq_true beq_false Bool.not_eq_eq_eq_not or_false false_or dM aj aq aH bd bz ck aU bf aT aZ cP bH
theorem BD (a b:Nat):ar Tryz.prog 215 [.int .i64 a,.int .i64 b] (.int .i64 (min a b:Nat)):=by
 refine ar.body eJ rfl fun hl n0=>?_
 clear hl
 by_cases h:(a:Int)<(b:Int)
 ·(try((repeat(revert hN;revert N;apply Pn.out));refine wk @h ?_;(repeat(refine Pn.mk ?_;intro N hN))))
  exact cC (b:=(a:Int)) (.inl rfl) (sd @Nat.zero_add) (by omega)
 ·(try((repeat(revert hN;revert N;apply Pn.out));refine wk @h ?_;(repeat(refine Pn.mk ?_;intro N hN))))
  exact cC (b:=(b:Int)) (.inl rfl) (sd @Nat.zero_add) (by omega)
theorem BC (a b:Nat):ar Tryz.prog 216 [.int .i64 a,.int .i64 b] (.int .i64 (max a b:Nat)):=by
 refine ar.body eJ rfl fun hl n0=>?_
 clear hl
 by_cases h:(b:Int)<(a:Int)
 ·(try((repeat(revert hN;revert N;apply Pn.out));refine wk @h ?_;(repeat(refine Pn.mk ?_;intro N hN))))
  exact cC (b:=(a:Int)) (.inl rfl) (sd @Nat.zero_add) (by omega)
 ·(try((repeat(revert hN;revert N;apply Pn.out));refine wk @h ?_;(repeat(refine Pn.mk ?_;intro N hN))))
  exact cC (b:=(b:Int)) (.inl rfl) (sd @Nat.zero_add) (by omega)
def dB (f:Nat->Nat) (n:Nat):List (List AV):=(List.range n).map fun i=>eN (f i)
theorem fW (f:Nat->Nat) (n:Nat):(dB f n).length=n:=by simp[dB]
theorem fm {f:Nat->Nat} {n i:Nat} (h:i<n):(dB f n)[i]? =some (eN (f i)):=by simp[dB,h]
theorem gN {f g:Nat->Nat} {n:Nat} (h:∀i,i<n->f i=g i):dB f n=dB g n:=List.map_congr_left fun i hi=>by rw[h i (List.mem_range.1 hi)]
theorem pg {f g:Nat->Nat} {n k v:Nat} (hk:k<n) (hv:g k=v) (h:∀i,i<n->i≠k->g i=f i):(dB f n).set k (eN v)=dB g n:=by
 refine List.ext_getElem? fun i=>?_
 rw[List.getElem?_set]
 by_cases hi:k=i
 ·subst hi
  rw[if_pos rfl,fW,if_pos hk,fm hk,hv]
 ·rw[if_neg hi]
  by_cases fI:i<n
  ·rw[fm fI,fm fI,h i fI (fun h=>hi h.symm)]
  ·rw[List.getElem?_eq_none (by rw[fW];omega),List.getElem?_eq_none (by rw[fW];omega)]
theorem BE (cnt:Nat) (hn:cnt<=1048576) (bs:List PB) (hb:∀b∈bs,b.a<cnt/\b.b<cnt) (nH:bs.length<=1048576):ar Tryz.prog 214 [.int .i64 cnt,.sl (bs.map aA)] (.sl ((fq cnt (eA bs)).map Ad)):=by
 refine ar.body eJ rfl fun hl n0=>?_
 clear hl
 (try((repeat(revert hN;revert N;apply Pn.out));refine wk @Nat.zero_add ?_;(repeat(refine Pn.mk ?_;intro N hN))))
 refine aO (fun n env st=>∃k:Nat,n=(cnt)-k/\k<=(cnt)/\env 6=.int .i64 (k:Int)/\(∃o:Id,env 5=.own o 0 k/\st.get o=some ⟨true,1,dB id k⟩/\o.bm<st.next)) (cnt) ⟨0,by omega,by omega,sl @Nat.zero_add,⟨⟨214001000,n0+1⟩,sd @Nat.zero_add,by simp only[go_sem, ↓reduceIte,Nat.reduceEqDiff,Nat.reduceAdd,Nat.reduceSub,Nat.reduceLeDiff,reduceCtorEq];rfl,by(try dsimp only);omega⟩⟩ ?_
 rintro n_a env_a st_a ⟨k,rfl,ale,a6,ke⟩ dv
 have a0:=dv 0 (by kernel_rfl);have a1:=dv 1 (by kernel_rfl)
 simp only[go_sem, ↓reduceIte,Nat.reduceEqDiff,Nat.reduceAdd,Nat.reduceSub,Nat.reduceLeDiff,reduceCtorEq]at a0 a1
 clear dv
 obtain⟨o,a5,ag,rD⟩:=ke
 have tl:=fW id k
 have qu:=dz rD
 by_cases hk:(k:Int)<(cnt:Int)
 ·have cz:∀{e:Env} {gg:Rows} {nx:Nat},(e 6=.int .i64 (IntKind.i64.wrap ((k:Int)+1)))->(∃o:Id,e 5=.own o 0 (k+1)/\gg o=some ⟨true,1,dB id (k+1)⟩/\o.bm<nx)->∃m0,m0<(cnt)-k/\∃k:Nat,m0=(cnt)-k/\k<=(cnt)/\e 6=.int .i64 (k:Int)/\(∃o:Id,e 5=.own o 0 k/\gg o=some ⟨true,1,dB id k⟩/\o.bm<nx):=fun x1 x2=>⟨_,by omega,k+1,rfl,by omega,(by rw[x1,az (by omega)]),x2⟩
  have fa:k<cnt:=by omega
  have e1:k+1<=16777216:=by omega
  have pI:dB id k++[[.int .i64 (k:Int)]]=dB id (k+1):=by simp[dB,List.range_succ,eN]
  (try((repeat(revert hN;revert N;apply Pn.out));refine wk (tw @a6 (tw @a0 (tw @a1 (tw @a5 (tw @ag (tw @qu (tw @hk (tw @tl (tw @e1 @pI))))))))) ?_;(repeat(refine Pn.mk ?_;intro N hN))))
  exact cz (sd (tw @a6 (tw @a0 @a1))) (⟨⟨214005003,st_a.next+1⟩,sd @Nat.zero_add,sd @pI,by(try dsimp only);omega⟩)
 have k8:k=cnt:=by omega
 subst k8
 have Up:st_a.get o=some ⟨true,1,dB (eA (bs.take 0)) k⟩:=ag
 clear ag
 (try((repeat(revert hN;revert N;apply Pn.out));refine wk (tw @a6 (tw @a0 (tw @a1 @hk))) ?_;(repeat(refine Pn.mk ?_;intro N hN))))
 refine aO (fun n env st=>∃j:Nat,n=(bs.length)-j/\j<=(bs.length)/\env 7=.int .i64 (j:Int)/\st.get o=some ⟨true,1,dB (eA (bs.take j)) k⟩/\(o.bm<st.next)) (bs.length) ⟨0,by omega,by omega,sl (tw @a6 (tw @a0 (tw @a1 (tw @a5 @Up)))),sl (tw @a6 (tw @a0 (tw @a1 (tw @a5 @Up)))),(by(try dsimp only);omega)⟩ ?_
 rintro n_b env_b st_b ⟨j,rfl,ble,b7,bg0,bI0⟩ eV
 have b0:=eV 0 (by kernel_rfl);have b1:=eV 1 (by kernel_rfl);have b5:=eV 5 (by kernel_rfl)
 simp only[go_sem, ↓reduceIte,Nat.reduceEqDiff,Nat.reduceAdd,Nat.reduceSub,Nat.reduceLeDiff,reduceCtorEq,a6,a0,a1,a5,Up]at b0 b1 b5
 clear eV
 by_cases hj:(j:Int)<(bs.length:Int)
 ·have fh:∀{e:Env} {gg:Rows} {nx:Nat},(e 7=.int .i64 (IntKind.i64.wrap ((j:Int)+1)))->(gg o=some ⟨true,1,dB (eA (bs.take (j+1))) k⟩)->(o.bm<nx)->∃m0,m0<(bs.length)-j/\∃j:Nat,m0=(bs.length)-j/\j<=(bs.length)/\e 7=.int .i64 (j:Int)/\gg o=some ⟨true,1,dB (eA (bs.take j)) k⟩/\(o.bm<nx):=fun x1 x2 x3=>⟨_,by omega,j+1,rfl,by omega,(by rw[x1,az (by omega)]),x2,x3⟩
  have ia:j<bs.length:=by omega
  have zf:(bs.map aA)[j]? =some (aA bs[j]):=by simp[ia]
  have KZ:=hb _ (List.getElem_mem ia)
  have oE:bs.take (j+1)=bs.take j++[bs[j]]:=List.take_succ_eq_append_getElem ia
  have lv:eA (bs.take (j+1))=eL (eA (bs.take j)) bs[j]:=by rw[oE,vE]
  generalize eA (bs.take j)=L at *
  generalize bs[j]=b at *
  have hA:=fm (f:=L) KZ.1
  have hB:=fm (f:=L) KZ.2
  have Sb:=BD (L b.a) (L b.b)
  have Sc:=BC (L b.a) (L b.b)
  have tl:=fW L k
  have gC:(b.a:Int)<(k:Int):=by omega
  have fo:(b.b:Int)<(k:Int):=by omega
  (try((repeat(revert hN;revert N;apply Pn.out));refine wk (tw @b7 (tw @bg0 (tw @b0 (tw @b1 (tw @b5 (tw @hj (tw @zf (tw @aA.eq_1 (tw @hA (tw @hB (tw @gC (tw @fo (tw @tl @eN.eq_1))))))))))))) ?_;(repeat(refine Pn.mk ?_;intro N hN))))
  refine aO (fun n env st=>∃i:Nat,n=(k)-i/\i<=(k)/\env 10=.int .i64 (i:Int)/\st.get o=some ⟨true,1,dB (fun x=>if x<i then eL L b x else L x) k⟩/\(o.bm<st.next)) (k) ⟨0,by omega,by omega,sl (tw @b7 (tw @bg0 (tw @b0 (tw @b1 (tw @b5 @Nat.not_lt_zero))))),sl (tw @b7 (tw @bg0 (tw @b0 (tw @b1 (tw @b5 @Nat.not_lt_zero))))),(by(try dsimp only);omega)⟩ ?_
  rintro n_c env_c st_c ⟨i,rfl,cle,jq,cg0,cI0⟩ iG
  have c0:=iG 0 (by kernel_rfl);have c1:=iG 1 (by kernel_rfl);have c5:=iG 5 (by kernel_rfl);have c7:=iG 7 (by kernel_rfl);have c8:=iG 8 (by kernel_rfl);have c9:=iG 9 (by kernel_rfl)
  simp only[go_sem, ↓reduceIte,Nat.reduceEqDiff,Nat.reduceAdd,Nat.reduceSub,Nat.reduceLeDiff,reduceCtorEq,b7,bg0,b0,b1,b5,Nat.not_lt_zero]at c0 c1 c5 c7 c8 c9
  clear iG
  have hC:=fm (f:=fun x=>if x<i then eL L b x else L x) (n:=k) (i:=i)
  have tc:=fW (fun x=>if x<i then eL L b x else L x) k
  by_cases hi:(i:Int)<(k:Int)
  ·have gx:∀{e:Env} {gg:Rows} {nx:Nat},(e 10=.int .i64 (IntKind.i64.wrap ((i:Int)+1)))->(gg o=some ⟨true,1,dB (fun x=>if x<(i+1)then eL L b x else L x) k⟩)->(o.bm<nx)->∃m0,m0<(k)-i/\∃i:Nat,m0=(k)-i/\i<=(k)/\e 10=.int .i64 (i:Int)/\gg o=some ⟨true,1,dB (fun x=>if x<i then eL L b x else L x) k⟩/\(o.bm<nx):=fun x1 x2 x3=>⟨_,by omega,i+1,rfl,by omega,(by rw[x1,az (by omega)]),x2,x3⟩
   have fI:i<k:=by omega
   replace hC:=hC fI
   rw[if_neg (Nat.lt_irrefl i)]at hC
   by_cases he:L i=max (L b.a) (L b.b)
   ·have wR:decide ((L i:Int)=((max (L b.a) (L b.b):Nat):Int))=true:=decide_eq_true (by rw[he])
    have dQ:(dB (fun x=>if x<i then eL L b x else L x) k).set i (eN (min (L b.a) (L b.b)))=dB (fun x=>if x<i+1 then eL L b x else L x) k:=pg fI (by rw[if_pos (by omega),eL,if_pos he]) fun x hx CC=>by
     by_cases h:x<i
     ·rw[if_pos h,if_pos (by omega)]
     ·rw[if_neg h,if_neg (by omega)]
    rw[eN]at dQ hC
    (repeat(first|((repeat(revert hN;revert N;apply Pn.out));refine wk (tw @jq (tw @cg0 (tw @c0 (tw @c1 (tw @c5 (tw @c7 (tw @c8 (tw @c9 (tw @hi (tw @hC (tw @tc (tw @wR @dQ)))))))))))) ?_;(repeat(refine Pn.mk ?_;intro N hN)))|((try apply Or.inl);refine⟨_,ar.x (Sb) (sd (tw @jq (tw @cg0 (tw @c0 (tw @c1 (tw @c5 (tw @c7 (tw @c8 (tw @c9 (tw @hi (tw @hC (tw @tc (tw @wR @dQ))))))))))))),?_⟩;refine hN _ _ ?_;clear hN N)|((try apply Or.inl);refine⟨_,ar.x (Sc) (sd (tw @jq (tw @cg0 (tw @c0 (tw @c1 (tw @c5 (tw @c7 (tw @c8 (tw @c9 (tw @hi (tw @hC (tw @tc (tw @wR @dQ))))))))))))),?_⟩;refine hN _ _ ?_;clear hN N)))
    refine gx ?_ ?_ (by(try dsimp only);omega)
    all_goals simp only[go_sem, ↓reduceIte,Nat.reduceEqDiff,Nat.reduceAdd,Nat.reduceSub,Nat.reduceLeDiff,reduceCtorEq,jq,cg0,c0,c1,c5,c7,c8,c9]
   ·have wR:decide ((L i:Int)=((max (L b.a) (L b.b):Nat):Int))=false:=decide_eq_false fun h=>he (by omega)
    have lZ:dB (fun x=>if x<i then eL L b x else L x) k=dB (fun x=>if x<i+1 then eL L b x else L x) k:=gN fun x hx=>by
     by_cases h:x<i
     ·rw[if_pos h,if_pos (by omega)]
     ·by_cases CC:x=i
      ·subst CC;rw[if_neg h,if_pos (by omega),eL,if_neg he]
      ·rw[if_neg h,if_neg (by omega)]
    rw[eN]at hC
    (repeat(first|((repeat(revert hN;revert N;apply Pn.out));refine wk (tw @jq (tw @cg0 (tw @c0 (tw @c1 (tw @c5 (tw @c7 (tw @c8 (tw @c9 (tw @hi (tw @hC (tw @tc @wR))))))))))) ?_;(repeat(refine Pn.mk ?_;intro N hN)))|((try apply Or.inl);refine⟨_,ar.x (Sb) (sd (tw @jq (tw @cg0 (tw @c0 (tw @c1 (tw @c5 (tw @c7 (tw @c8 (tw @c9 (tw @hi (tw @hC (tw @tc @wR)))))))))))),?_⟩;refine hN _ _ ?_;clear hN N)|((try apply Or.inl);refine⟨_,ar.x (Sc) (sd (tw @jq (tw @cg0 (tw @c0 (tw @c1 (tw @c5 (tw @c7 (tw @c8 (tw @c9 (tw @hi (tw @hC (tw @tc @wR)))))))))))),?_⟩;refine hN _ _ ?_;clear hN N)))
    rw[lZ]at cg0
    refine gx ?_ ?_ (by(try dsimp only);omega)
    all_goals simp only[go_sem, ↓reduceIte,Nat.reduceEqDiff,Nat.reduceAdd,Nat.reduceSub,Nat.reduceLeDiff,reduceCtorEq,jq,cg0,c0,c1,c5,c7,c8,c9]
  ·have xT:i=k:=by omega
   subst xT
   have dL:dB (fun x=>if x<i then eL L b x else L x) i=dB (eL L b) i:=gN fun x hx=>if_pos hx
   rw[dL]at cg0
   rw[<-lv]at cg0
   (try((repeat(revert hN;revert N;apply Pn.out));refine wk (tw @jq (tw @cg0 (tw @c0 (tw @c1 (tw @c5 (tw @c7 (tw @c8 (tw @c9 (tw @hi @tc))))))))) ?_;(repeat(refine Pn.mk ?_;intro N hN))))
   refine fh ?_ ?_ (by(try dsimp only);omega)
   all_goals simp only[go_sem, ↓reduceIte,Nat.reduceEqDiff,Nat.reduceAdd,Nat.reduceSub,Nat.reduceLeDiff,reduceCtorEq,b7,bg0,b0,b1,b5,jq,cg0,c0,c1,c5,c7,c8,c9]
 have gG:j=bs.length:=by omega
 subst gG
 rw[List.take_length]at bg0
 have hL:=tx bs
 generalize eA bs=L at *
 have tl:=fW L k
 (try((repeat(revert hN;revert N;apply Pn.out));refine wk (tw @b7 (tw @bg0 (tw @b0 (tw @b1 (tw @b5 @hj))))) ?_;(repeat(refine Pn.mk ?_;intro N hN))))
 have Oi:o.bm<st_b.next:=bI0
 refine aO (fun n env st=>∃i:Nat,n=(k)-i/\i<=(k)/\env 12=.int .i64 (i:Int)/\st.get o=some ⟨true,1,dB L k⟩/\(∃oo rows ids,env 11=.own oo 0 rows.length/\st.get oo=some ⟨true,1,rows⟩/\eE Pq st.get rows ((leads i L).map (members k L)) ids/\(∀x∈oo::ids,st_b.next<=x.bm/\x.bm<st.next)/\st_b.next<=st.next/\oo∉ids)) (k) ⟨0,by omega,by omega,sl (tw @b7 (tw @bg0 (tw @b0 (tw @b1 (tw @b5 (dz Oi)))))),sl (tw @b7 (tw @bg0 (tw @b0 (tw @b1 (tw @b5 (dz Oi)))))),⟨⟨214016000,st_b.next+1⟩,[],[],by(simp only[go_sem, ↓reduceIte,Nat.reduceEqDiff,Nat.reduceAdd,Nat.reduceSub,Nat.reduceLeDiff,reduceCtorEq])<;>rfl,sd @Nat.zero_add,.nil,fun x hx=>by rw[List.mem_singleton.1 hx];(try dsimp only);omega,by(try dsimp only);omega,by simp⟩⟩ ?_
 rintro n_d env_d st_d ⟨i,rfl,dle,d12,dg0,dI0⟩ dfr
 have d0:=dfr 0 (by kernel_rfl);have d5:=dfr 5 (by kernel_rfl)
 simp only[go_sem, ↓reduceIte,Nat.reduceEqDiff,Nat.reduceAdd,Nat.reduceSub,Nat.reduceLeDiff,reduceCtorEq,b7,bg0,b0,b1,b5,dz Oi]at d0 d5
 clear dfr
 obtain⟨oo,rows,ids,d11,dg,hR,nK,hle,xf⟩:=dI0
 have pI:=gH i L
 have si:=hR.len
 by_cases hi:(i:Int)<(k:Int)
 ·have tC:∀{e:Env} {gg:Rows} {nx:Nat},(e 12=.int .i64 (IntKind.i64.wrap ((i:Int)+1)))->(gg o=some ⟨true,1,dB L k⟩)->(∃oo rows ids,e 11=.own oo 0 rows.length/\gg oo=some ⟨true,1,rows⟩/\eE Pq gg rows ((leads (i+1) L).map (members k L)) ids/\(∀x∈oo::ids,st_b.next<=x.bm/\x.bm<nx)/\st_b.next<=nx/\oo∉ids)->∃m0,m0<(k)-i/\∃i:Nat,m0=(k)-i/\i<=(k)/\e 12=.int .i64 (i:Int)/\gg o=some ⟨true,1,dB L k⟩/\(∃oo rows ids,e 11=.own oo 0 rows.length/\gg oo=some ⟨true,1,rows⟩/\eE Pq gg rows ((leads i L).map (members k L)) ids/\(∀x∈oo::ids,st_b.next<=x.bm/\x.bm<nx)/\st_b.next<=nx/\oo∉ids):=fun x1 x2 x3=>⟨_,by omega,i+1,rfl,by omega,(by rw[x1,az (by omega)]),x2,x3⟩
  have fI:i<k:=by omega
  have hC:=fm (f:=L) fI
  have kr:=dz (i:=o) (n:=st_d.next) (by omega)
  have Q9:=dz (i:=oo) (n:=st_d.next) (nK oo (by simp)).2
  by_cases he:L i=i
  ·rw[if_pos he]at pI
   have wR:decide ((L i:Int)=(i:Int))=true:=decide_eq_true (by rw[he])
   rw[eN]at hC
   (try((repeat(revert hN;revert N;apply Pn.out));refine wk (tw @d12 (tw @dg0 (tw @d0 (tw @d5 (tw @d11 (tw @dg (tw @hi (tw @hC (tw @tl (tw @wR (tw @kr @Q9))))))))))) ?_;(repeat(refine Pn.mk ?_;intro N hN))))
   refine aO (fun n env st=>∃m:Nat,n=((k-i))-m/\m<=((k-i))/\env 14=(.int .i64 ((i+m:Nat):Int))/\(∃pp:Id,env 13=.own pp 0 (members (i+m) L i).length/\st.get pp=some ⟨true,1,(members (i+m) L i).map eN⟩/\st_d.next<=pp.bm/\pp.bm<st.next/\(∀x:Id,x.bm<st_d.next->st.get x=st_d.get x)/\st_d.next<=st.next)) ((k-i)) ⟨0,by omega,by omega,sl (tw @d12 (tw @dg0 (tw @d0 (tw @d5 @d11)))),⟨⟨214021000,st_d.next+1+1⟩,by rw[show members (i+0) L i=[]from mQ hL (Nat.le_refl i)];(simp only[go_sem, ↓reduceIte,Nat.reduceEqDiff,Nat.reduceAdd,Nat.reduceSub,Nat.reduceLeDiff,reduceCtorEq])<;>rfl,by rw[show members (i+0) L i=[]from mQ hL (Nat.le_refl i)];(simp only[go_sem, ↓reduceIte,Nat.reduceEqDiff,Nat.reduceAdd,Nat.reduceSub,Nat.reduceLeDiff,reduceCtorEq])<;>rfl,by(try dsimp only);omega,by(try dsimp only);omega,fun x hx=>sd (dz hx),by(try dsimp only);omega⟩⟩ ?_
   rintro n_f env_f st_f ⟨m,rfl,fle,f14,fI0⟩ ffr
   have f0:=ffr 0 (by kernel_rfl);have f5:=ffr 5 (by kernel_rfl);have f11:=ffr 11 (by kernel_rfl);have f12:=ffr 12 (by kernel_rfl)
   simp only[go_sem, ↓reduceIte,Nat.reduceEqDiff,Nat.reduceAdd,Nat.reduceSub,Nat.reduceLeDiff,reduceCtorEq,d12,dg0,d0,d5,d11]at f0 f5 f11 f12
   clear ffr
   obtain⟨pp,f13,fg,Om,IL,lW,o3⟩:=fI0
   have tV:st_f.get o=some ⟨true,1,dB L k⟩:=(lW o (by omega)).trans dg0
   have T7:st_f.get oo=some ⟨true,1,rows⟩:=(lW oo (nK oo (by simp)).2).trans dg
   have Aj:=dz IL
   have Bt:=dz (i:=o) (n:=st_f.next) (by omega)
   have Ra:=dz (i:=oo) (n:=st_f.next) (by have:=(nK oo (by simp)).2;omega)
   have Of:members (i+(m+1)) L i=members (i+m) L i++if L (i+m)=i then[i+m]else[]:=jk (i+m) L i
   have Ui:(members (i+m) L i).length<=i+m:=by
    have:=List.length_filter_le (fun k=>L k==i) (List.range (i+m))
    simpa[members]using this
   have x1:=dq (a:=o) (b:=pp) (by omega)
   have x2:=dq (a:=oo) (b:=pp) (by have:=(nK oo (by simp)).2;omega)
   have x3:=dq (a:=o) (b:=oo) (by have:=(nK oo (by simp)).1;omega)
   by_cases hm:m<k-i
   ·have rP:∀{e:Env} {gg:Rows} {nx:Nat},(e 14=(.int .i64 ((i+(m+1):Nat):Int)))->(∃pp:Id,e 13=.own pp 0 (members (i+(m+1)) L i).length/\gg pp=some ⟨true,1,(members (i+(m+1)) L i).map eN⟩/\st_d.next<=pp.bm/\pp.bm<nx/\(∀x:Id,x.bm<st_d.next->gg x=st_d.get x)/\st_d.next<=nx)->∃m0,m0<((k-i))-m/\∃m:Nat,m0=((k-i))-m/\m<=((k-i))/\e 14=(.int .i64 ((i+m:Nat):Int))/\(∃pp:Id,e 13=.own pp 0 (members (i+m) L i).length/\gg pp=some ⟨true,1,(members (i+m) L i).map eN⟩/\st_d.next<=pp.bm/\pp.bm<nx/\(∀x:Id,x.bm<st_d.next->gg x=st_d.get x)/\st_d.next<=nx):=fun x1 x2=>⟨_,by omega,m+1,rfl,by omega,x1,x2⟩
    have QU:((i+m:Nat):Int)<(k:Int):=by omega
    have Tn:=fm (f:=L) (show i+m<k by omega)
    have hw:IntKind.i64.wrap (((i+m:Nat):Int)+1)=((i+(m+1):Nat):Int):=by rw[bh (by omega)];omega
    rw[eN]at Tn
    by_cases hq:L (i+m)=i
    ·have tU:decide ((L (i+m):Int)=(i:Int))=true:=decide_eq_true (by rw[hq])
     rw[if_pos hq]at Of
     have e1:(members (i+m) L i).length+1<=16777216:=by omega
     have lY:((members (i+m) L i).map eN).length=(members (i+m) L i).length:=by simp
     (try((repeat(revert hN;revert N;apply Pn.out));refine wk (tw @f14 (tw @f0 (tw @f5 (tw @f11 (tw @f12 (tw @f13 (tw @fg (tw @tV (tw @QU (tw @Tn (tw @tl (tw @tU (tw @Aj (tw @Bt (tw @x1 (tw @e1 @lY)))))))))))))))) ?_;(repeat(refine Pn.mk ?_;intro N hN))))
     exact rP (sd (tw @f14 (tw @f0 (tw @f5 (tw @f11 (tw @f12 (tw @tV (tw @hw (tw @Bt @x1))))))))) (⟨⟨214026003,st_f.next+1+1⟩,by rw[Of,List.length_append];simp only[go_sem, ↓reduceIte,Nat.reduceEqDiff,Nat.reduceAdd,Nat.reduceSub,Nat.reduceLeDiff,reduceCtorEq,List.length_cons,List.length_nil],by rw[Of,List.map_append,List.map_cons,List.map_nil];simp only[go_sem, ↓reduceIte,Nat.reduceEqDiff,Nat.reduceAdd,Nat.reduceSub,Nat.reduceLeDiff,reduceCtorEq,eN],by(try dsimp only);omega,by(try dsimp only);omega,fun x hx=>by
      have y1:=lW x hx
      have y2:=dq (a:=x) (b:=pp) (by omega)
      simp only[go_sem, ↓reduceIte,Nat.reduceEqDiff,Nat.reduceAdd,Nat.reduceSub,Nat.reduceLeDiff,reduceCtorEq,dz (show x.bm<st_f.next by omega),y1,y2],by(try dsimp only);omega⟩)
    ·have tU:decide ((L (i+m):Int)=(i:Int))=false:=decide_eq_false fun h=>hq (by omega)
     rw[if_neg hq,List.append_nil]at Of
     (try((repeat(revert hN;revert N;apply Pn.out));refine wk (tw @f14 (tw @f0 (tw @f5 (tw @f11 (tw @f12 (tw @f13 (tw @fg (tw @tV (tw @QU (tw @Tn (tw @tl (tw @tU (tw @Aj (tw @Bt @x1)))))))))))))) ?_;(repeat(refine Pn.mk ?_;intro N hN))))
     exact rP (sd (tw @f14 (tw @f0 (tw @f5 (tw @f11 (tw @f12 (tw @tV @hw))))))) (⟨pp,by rw[Of];simp only[go_sem, ↓reduceIte,Nat.reduceEqDiff,Nat.reduceAdd,Nat.reduceSub,Nat.reduceLeDiff,reduceCtorEq,f13],by rw[Of];simp only[go_sem, ↓reduceIte,Nat.reduceEqDiff,Nat.reduceAdd,Nat.reduceSub,Nat.reduceLeDiff,reduceCtorEq,fg],Om,by(try dsimp only);omega,lW,by(try dsimp only);omega⟩)
   ·have hmk:i+m=k:=by omega
    have QU:¬((i+m:Nat):Int)<(k:Int):=by omega
    rw[hmk]at f13 fg Ui
    have e1:rows.length+1<=16777216:=by
     have:=jF i L
     rw[si,List.length_map];omega
    (try((repeat(revert hN;revert N;apply Pn.out));refine wk (tw @f14 (tw @f0 (tw @f5 (tw @f11 (tw @f12 (tw @f13 (tw @fg (tw @tV (tw @T7 (tw @QU (tw @Aj (tw @Bt (tw @Ra (tw @x1 (tw @x2 @e1))))))))))))))) ?_;(repeat(refine Pn.mk ?_;intro N hN))))
    refine tC ?_ ?_ (⟨⟨214027003,st_f.next+1⟩,rows++[[.own pp 0 (members k L i).length]],ids++[pp],by rw[List.length_append];simp only[go_sem, ↓reduceIte,Nat.reduceEqDiff,Nat.reduceAdd,Nat.reduceSub,Nat.reduceLeDiff,reduceCtorEq,List.length_cons,List.length_nil],sd @Nat.zero_add,by
      rw[pI,List.map_append]
      refine(hR.frame LH fun x hx=>?_).app (.one ⟨pp,rfl,?_,rfl⟩)
      ·have h1:=nK x (by simp[hx])
       have y1:=lW x h1.2
       have y2:=dq (a:=x) (b:=pp) (by omega)
       have y3:(x=oo)=False:=by
        simp only[eq_iff_iff,iff_false]
        rintro rfl
        exact xf hx
       simp only[go_sem, ↓reduceIte,Nat.reduceEqDiff,Nat.reduceAdd,Nat.reduceSub,Nat.reduceLeDiff,reduceCtorEq,dz (show x.bm<st_f.next by omega),y1,y2,y3]
      ·simp only[go_sem, ↓reduceIte,Nat.reduceEqDiff,Nat.reduceAdd,Nat.reduceSub,Nat.reduceLeDiff,reduceCtorEq,Aj,x2,fg],fun x hx=>by
      rcases List.mem_cons.1 hx with rfl|hx
      ·(try dsimp only);omega
      ·rcases List.mem_append.1 hx with hx|hx
       ·have:=nK x (by simp[hx]);(try dsimp only);omega
       ·rw[List.mem_singleton.1 hx];(try dsimp only);omega,by(try dsimp only);omega,fun hc=>by
      rcases List.mem_append.1 hc with hc|hc
      ·have:=(nK _ (List.mem_cons_of_mem _ hc)).2;(try dsimp only at this);omega
      ·have:=List.mem_singleton.1 hc;rw[<-this]at IL;(try dsimp only at IL);omega⟩)
    all_goals simp only[go_sem, ↓reduceIte,Nat.reduceEqDiff,Nat.reduceAdd,Nat.reduceSub,Nat.reduceLeDiff,reduceCtorEq,f14,f0,f5,f11,f12,tV,Bt,x3]
  ·rw[if_neg he,List.append_nil]at pI
   have wR:decide ((L i:Int)=(i:Int))=false:=decide_eq_false fun h=>he (by omega)
   rw[eN]at hC
   (try((repeat(revert hN;revert N;apply Pn.out));refine wk (tw @d12 (tw @dg0 (tw @d0 (tw @d5 (tw @d11 (tw @dg (tw @hi (tw @hC (tw @tl (tw @wR (tw @kr @Q9))))))))))) ?_;(repeat(refine Pn.mk ?_;intro N hN))))
   refine tC ?_ ?_ (⟨oo,rows,ids,sd @d11,sd @dg,by rw[pI];exact hR,fun x hx=>by have:=nK x hx;(try dsimp only);omega,by(try dsimp only);omega,xf⟩)
   all_goals simp only[go_sem, ↓reduceIte,Nat.reduceEqDiff,Nat.reduceAdd,Nat.reduceSub,Nat.reduceLeDiff,reduceCtorEq,d12,dg0,d0,d5]
 ·have xT:i=k:=by omega
  (try((repeat(revert hN;revert N;apply Pn.out));refine wk (tw @d12 (tw @dg0 (tw @d0 (tw @d5 (tw @d11 (tw @dg @hi)))))) ?_;(repeat(refine Pn.mk ?_;intro N hN))))
  refine wm (.inl rfl) (by simp only[go_sem, ↓reduceIte,Nat.reduceEqDiff,Nat.reduceAdd,Nat.reduceSub,Nat.reduceLeDiff,reduceCtorEq];rfl) ?_
  rw[ui dg (by simp) (rows':=(fq k L).map Ad) (by rw[List.drop_zero,List.take_of_length_le (Nat.le_refl _)];rw[xT]at hR;exact Ja 3 hR)]
end Go.Proofs.YtgoelphibofcmaaGreat.V

namespace Go.Proofs.YtgoelphibofcmaaGreat.V
open Go.RowKit
attribute [local irreducible] eb wpOps gj Call
attribute [local go_sem] aJ fM eP fZ fY cL upd cu K.av cN AV.cells AV.cell rowOf rowsOf part ld rowAt bI bW dD ee gT bL dc ev fU eY dr ej da cZ dO dR bR aX cR bQ cV cU eh ek ei cQ bV db ef bP aP cX cE gS bw cJ bU aW dx bj dE AV.undef bD bF dV ec dI dS cF eu eB cD ep eo cW cY List.getD_cons_zero List.getD_cons_succ List.getD_nil List.all_cons List.all_nil Bool.and_true Bool.true_and Bool.and_self Bool.not_true Bool.not_false Option.map_some Option.map_none Option.bind_some Option.bind_none List.length_cons List.length_nil List.take_succ_cons List.take_zero List.take_nil List.drop_succ_cons List.drop_zero List.drop_nil List.head?_cons List.map_cons List.map_nil List.getElem?_cons_zero List.getElem?_cons_succ List.cons_append List.nil_append List.append_nil List.length_map List.set_cons_zero List.set_cons_succ Nat.reduceMul eq_self Int.toNat_natCast Int.natCast_nonneg and_self true_and and_true decide_true decide_false Bool.false_eq_true Nat.zero_add Nat.add_zero List.contains_cons List.contains_nil Bool.or_false Bool.false_or beq_self_eq_true Nat.reduceBEq ne_eq not_true_eq_false not_false_eq_true Id.mk.injEq false_and and_false Nat.reduceLT Int.reduceLE Int.reduceLT Int.reduceToNat Int.reduceNeg Int.reduceAdd Nat.le_refl List.length_append beq_true beq_false Bool.not_eq_eq_eq_not or_false false_or dM aj aq aH bd bz ck aU bf aT aZ cP bH
theorem wK (n:Nat):List.replicate n [AV.int .i64 0]=dB (fun _=>0) n:=by
 refine List.ext_getElem? fun i=>?_
 by_cases h:i<n
 ·rw[fm h,List.getElem?_replicate,if_pos h];rfl
 ·rw[List.getElem?_eq_none (by simp;omega),List.getElem?_eq_none (by rw[fW];omega)]
def cI (cnt:Nat) (L:Nat->Nat) (i m:Nat):Nat->Nat:=fun x=>if bJ L x<i then bJ L x else if x∈(members cnt L ((leads cnt L).getD i 0)).take m then i else 0
theorem oG (cnt:Nat) (L:Nat->Nat):cI cnt L 0 0=fun _=>0:=by funext x;simp[cI]
theorem tH (t:Int) (bs:List PB) (k:Nat) (h:k<bs.length):aI t (bs.take (k+1))=aI t (bs.take k)++if t<=(bs[k]).s then[bs[k]]else[]:=by
 unfold aI
 rw[List.take_succ_eq_append_getElem h,List.filter_append]
 congr 1
 by_cases h:t<=bs[k].s<;>simp[h]
theorem wE {t:Int} {bs:List PB} {b:PB} (h:b∈aI t bs):b∈bs:=(List.mem_filter.1 h).1
theorem nh (t:Int) (bs:List PB):(aI t bs).length<=bs.length:=List.length_filter_le _ _
theorem BG (cnt:Nat) (hn:cnt<=1048576) (bs:List PB) (hb:∀b∈bs,b.a<cnt/\b.b<cnt) (nH:bs.length<=1048576) (t:Int):ar Tryz.prog 192 [.int .i64 cnt,.sl (bs.map aA),.int .i64 t] (.iF [.int .i64 (leads cnt (eA (aI t bs))).length,.sl ((eX (eA (aI t bs)) bs).map aA)]):=by
 refine ar.body eJ rfl fun hl n0=>?_
 clear hl
 (try((repeat(revert hN;revert N;apply Pn.out));refine wk @Nat.zero_add ?_;(repeat(refine Pn.mk ?_;intro N hN))))
 refine aO (fun n env st=>∃k:Nat,n=(bs.length)-k/\k<=(bs.length)/\env 9=.int .i64 (k:Int)/\(∃o:Id,env 8=.own o 0 (aI t (bs.take k)).length/\st.get o=some ⟨true,3,(aI t (bs.take k)).map aA⟩/\o.bm<st.next)) (bs.length) ⟨0,by omega,by omega,sl @Nat.zero_add,⟨⟨192001000,n0+1⟩,by(simp only[go_sem, ↓reduceIte,Nat.reduceEqDiff,Nat.reduceAdd,Nat.reduceSub,Nat.reduceLeDiff,reduceCtorEq])<;>rfl,by(simp only[go_sem, ↓reduceIte,Nat.reduceEqDiff,Nat.reduceAdd,Nat.reduceSub,Nat.reduceLeDiff,reduceCtorEq])<;>rfl,by(try dsimp only);omega⟩⟩ ?_
 rintro n_a env_a st_a ⟨k,rfl,ale,a9,ke⟩ dv
 have a0:=dv 0 (by kernel_rfl);have a1:=dv 1 (by kernel_rfl);have a2:=dv 2 (by kernel_rfl)
 simp only[go_sem, ↓reduceIte,Nat.reduceEqDiff,Nat.reduceAdd,Nat.reduceSub,Nat.reduceLeDiff,reduceCtorEq]at a0 a1 a2
 clear dv
 obtain⟨o,a8,ag,rD⟩:=ke
 have qu:=dz rD
 by_cases hk:(k:Int)<(bs.length:Int)
 ·have cz:∀{e:Env} {gg:Rows} {nx:Nat},(e 9=.int .i64 (IntKind.i64.wrap ((k:Int)+1)))->(∃o:Id,e 8=.own o 0 (aI t (bs.take (k+1))).length/\gg o=some ⟨true,3,(aI t (bs.take (k+1))).map aA⟩/\o.bm<nx)->∃m0,m0<(bs.length)-k/\∃k:Nat,m0=(bs.length)-k/\k<=(bs.length)/\e 9=.int .i64 (k:Int)/\(∃o:Id,e 8=.own o 0 (aI t (bs.take k)).length/\gg o=some ⟨true,3,(aI t (bs.take k)).map aA⟩/\o.bm<nx):=fun x1 x2=>⟨_,by omega,k+1,rfl,by omega,(by rw[x1,az (by omega)]),x2⟩
  have fa:k<bs.length:=by omega
  have eR:(bs.map aA)[k]? =some (aA bs[k]):=by simp[fa]
  have hs:=tH t bs k fa
  have Bp:=nh t (bs.take k)
  rw[List.length_take]at Bp
  by_cases hc:t<=(bs[k]).s
  ·rw[if_pos hc]at hs
   have e1:(aI t (bs.take k)).length+1<=16777216:=by omega
   have lY:((aI t (bs.take k)).map aA).length=(aI t (bs.take k)).length:=by simp
   generalize bs[k]=b at *
   (try((repeat(revert hN;revert N;apply Pn.out));refine wk (tw @a9 (tw @a0 (tw @a1 (tw @a2 (tw @a8 (tw @ag (tw @qu (tw @hk (tw @eR (tw @hc (tw @e1 (tw @lY @aA.eq_1)))))))))))) ?_;(repeat(refine Pn.mk ?_;intro N hN))))
   exact cz (sd (tw @a9 (tw @a0 (tw @a1 @a2)))) (⟨⟨192006006,st_a.next+1+1⟩,by rw[hs,List.length_append];simp only[go_sem, ↓reduceIte,Nat.reduceEqDiff,Nat.reduceAdd,Nat.reduceSub,Nat.reduceLeDiff,reduceCtorEq,List.length_cons,List.length_nil],by rw[hs,List.map_append,List.map_cons,List.map_nil];simp only[go_sem, ↓reduceIte,Nat.reduceEqDiff,Nat.reduceAdd,Nat.reduceSub,Nat.reduceLeDiff,reduceCtorEq,aA],by(try dsimp only);omega⟩)
  ·rw[if_neg hc,List.append_nil]at hs
   generalize bs[k]=b at *
   (try((repeat(revert hN;revert N;apply Pn.out));refine wk (tw @a9 (tw @a0 (tw @a1 (tw @a2 (tw @a8 (tw @ag (tw @qu (tw @hk (tw @eR (tw @hc @aA.eq_1)))))))))) ?_;(repeat(refine Pn.mk ?_;intro N hN))))
   exact cz (sd (tw @a9 (tw @a0 (tw @a1 @a2)))) (⟨o,by rw[hs];simp only[go_sem, ↓reduceIte,Nat.reduceEqDiff,Nat.reduceAdd,Nat.reduceSub,Nat.reduceLeDiff,reduceCtorEq,a8],by rw[hs];simp only[go_sem, ↓reduceIte,Nat.reduceEqDiff,Nat.reduceAdd,Nat.reduceSub,Nat.reduceLeDiff,reduceCtorEq,ag],by(try dsimp only);omega⟩)
 have k8:k=bs.length:=by omega
 subst k8
 rw[List.take_length]at a8 ag
 have Ht:=BE cnt hn (aI t bs) (fun b h=>hb b (wE h)) (by have:=nh t bs;omega)
 have hL:=tx (aI t bs)
 have Cx:fz (dM st_a.get) 6 (.own o 0 (aI t bs).length)=some (.sl ((aI t bs).map aA)):=gY (sz:=3) (by simp[dM,ag]) rfl fun b=>y4 _ 4 b
 have T6:∀x,cK (dM st_a.get) 6 [.int .i64 x,.own o 0 (aI t bs).length]=some [.int .i64 x,.sl ((aI t bs).map aA)]:=fun x=>by simp only[aj,aq,aH,Cx,Option.map_some]
 (try((repeat(revert hN;revert N;apply Pn.out));refine wk (tw @a9 (tw @a0 (tw @a1 (tw @a2 (tw @a8 @hk))))) ?_;(repeat(refine Pn.mk ?_;intro N hN))))
 refine .inl ⟨_,ar.x Ht (T6 _),?_⟩
 refine hN _ _ ?_
 clear hN N
 generalize eA (aI t bs)=L at *
 have sf:((fq cnt L).map Ad).length=(leads cnt L).length:=by simp[fq]
 have Sv:=jF cnt L
 have jA:(0:Int)<=(cnt:Int):=by omega
 have pE:(cnt:Int)<=((16777216:Nat):Int):=by omega
 have gO:List.replicate cnt [AV.int .i64 0]=dB (cI cnt L 0 0) cnt:=by rw[wK,oG]
 (try((repeat(revert hN;revert N;apply Pn.out));refine wk (tw @a9 (tw @a0 (tw @a1 (tw @a2 (tw @jA (tw @pE @Int.le_refl)))))) ?_;(repeat(refine Pn.mk ?_;intro N hN))))
 refine aO (fun n env st=>∃i:Nat,n=((leads cnt L).length)-i/\i<=((leads cnt L).length)/\env 12=.int .i64 (i:Int)/\st.get ⟨192008001,st_a.next+1+1⟩=some ⟨true,1,dB (cI cnt L i 0) cnt⟩/\(st_a.next+1+1<st.next)) ((leads cnt L).length) ⟨0,by omega,by omega,sl (tw @a9 (tw @a0 (tw @a1 (tw @a2 @gO)))),sl (tw @a9 (tw @a0 (tw @a1 (tw @a2 @gO)))),(by(try dsimp only);omega)⟩ ?_
 rintro n_c env_c st_c ⟨i,rfl,cle,p9,cg0,cI0⟩ iG
 have c1:=iG 1 (by kernel_rfl);have jq:=iG 10 (by kernel_rfl);have nE:=iG 11 (by kernel_rfl)
 simp only[go_sem, ↓reduceIte,Nat.reduceEqDiff,Nat.reduceAdd,Nat.reduceSub,Nat.reduceLeDiff,reduceCtorEq,a9,a0,a1,a2,gO]at c1 jq nE
 clear iG
 by_cases hi:(i:Int)<((leads cnt L).length:Int)
 ·have gx:∀{e:Env} {gg:Rows} {nx:Nat},(e 12=.int .i64 (IntKind.i64.wrap ((i:Int)+1)))->(gg ⟨192008001,st_a.next+1+1⟩=some ⟨true,1,dB (cI cnt L (i+1) 0) cnt⟩)->(st_a.next+1+1<nx)->∃m0,m0<((leads cnt L).length)-i/\∃i:Nat,m0=((leads cnt L).length)-i/\i<=((leads cnt L).length)/\e 12=.int .i64 (i:Int)/\gg ⟨192008001,st_a.next+1+1⟩=some ⟨true,1,dB (cI cnt L i 0) cnt⟩/\(st_a.next+1+1<nx):=fun x1 x2 x3=>⟨_,by omega,i+1,rfl,by omega,(by rw[x1,az (by omega)]),x2,x3⟩
  have fI:i<(leads cnt L).length:=by omega
  have kh:((fq cnt L).map Ad)[i]? =some (Ad (members cnt L (leads cnt L)[i])):=by simp[fq,fI]
  have se:(leads cnt L).getD i 0=(leads cnt L)[i]:=by simp[List.getD_eq_getElem?_getD,fI]
  have Bs:∀m,cI cnt L i m=fun x=>if bJ L x<i then bJ L x else if x∈(members cnt L (leads cnt L)[i]).take m then i else 0:=fun m=>by unfold cI;rw[se]
  have rC:=fun x (hx:x<cnt)=>sQ hL (n:=cnt) (k:=x) (i:=i) hx fI
  have lN:(members cnt L (leads cnt L)[i]).Nodup:=List.nodup_range.filter _
  have Oe:∀x∈members cnt L (leads cnt L)[i],x<cnt:=fun x hx=>(ly.1 hx).1
  have hMc:(members cnt L (leads cnt L)[i]).length<=cnt:=by
   have:=List.length_filter_le (fun k=>L k==(leads cnt L)[i]) (List.range cnt)
   simpa[members]using this
  generalize members cnt L (leads cnt L)[i]=M at *
  have Cw:(M.map eN).length=M.length:=by simp
  (try((repeat(revert hN;revert N;apply Pn.out));refine wk (tw @p9 (tw @cg0 (tw @c1 (tw @jq (tw @nE (tw @hi @sf)))))) ?_;(repeat(refine Pn.mk ?_;intro N hN))))
  refine aO (fun n env st=>∃m:Nat,n=(M.length)-m/\m<=(M.length)/\env 13=.int .i64 (m:Int)/\st.get ⟨192008001,st_a.next+1+1⟩=some ⟨true,1,dB (cI cnt L i m) cnt⟩/\(st_a.next+1+1<st.next)) (M.length) ⟨0,by omega,by omega,sl (tw @p9 (tw @cg0 (tw @c1 (tw @jq @nE)))),sl (tw @p9 (tw @cg0 (tw @c1 (tw @jq @nE)))),(by(try dsimp only);omega)⟩ ?_
  rintro n_d env_d st_d ⟨m,rfl,dle,d13,dg0,dI0⟩ dfr
  have d1:=dfr 1 (by kernel_rfl);have d10:=dfr 10 (by kernel_rfl);have d11:=dfr 11 (by kernel_rfl);have d12:=dfr 12 (by kernel_rfl)
  simp only[go_sem, ↓reduceIte,Nat.reduceEqDiff,Nat.reduceAdd,Nat.reduceSub,Nat.reduceLeDiff,reduceCtorEq,p9,cg0,c1,jq,nE]at d1 d10 d11 d12
  clear dfr
  have tl:=fW (cI cnt L i m) cnt
  by_cases hm:(m:Int)<(M.length:Int)
  ·have tC:∀{e:Env} {gg:Rows} {nx:Nat},(e 13=.int .i64 (IntKind.i64.wrap ((m:Int)+1)))->(gg ⟨192008001,st_a.next+1+1⟩=some ⟨true,1,dB (cI cnt L i (m+1)) cnt⟩)->(st_a.next+1+1<nx)->∃m0,m0<(M.length)-m/\∃m:Nat,m0=(M.length)-m/\m<=(M.length)/\e 13=.int .i64 (m:Int)/\gg ⟨192008001,st_a.next+1+1⟩=some ⟨true,1,dB (cI cnt L i m) cnt⟩/\(st_a.next+1+1<nx):=fun x1 x2 x3=>⟨_,by omega,m+1,rfl,by omega,(by rw[x1,az (by omega)]),x2,x3⟩
   have zh:m<M.length:=by omega
   have sg:(M.map eN)[m]? =some (eN M[m]):=by simp[zh]
   have vz:=Oe _ (List.getElem_mem zh)
   have CC:(M[m]:Int)<(cnt:Int):=by omega
   have CB:=fm (f:=cI cnt L i m) vz
   have dQ:(dB (cI cnt L i m) cnt).set M[m] (eN i)=dB (cI cnt L i (m+1)) cnt:=pg vz (by
    have h1:=(rC _ vz).1 (List.getElem_mem zh)
    rw[Bs]
    simp only[]
    rw[if_neg (by omega),if_pos (by rw[List.take_succ_eq_append_getElem zh];exact List.mem_append_right _ (List.mem_singleton.2 rfl))]) fun x hx gU=>by
    rw[Bs,Bs]
    simp only[]
    rw[List.take_succ_eq_append_getElem zh]
    simp only[List.mem_append,List.mem_singleton,gU,or_false]
   rw[eN]at dQ CB
   generalize M[m]=xm at *
   (try((repeat(revert hN;revert N;apply Pn.out));refine wk (tw @d13 (tw @dg0 (tw @d1 (tw @d10 (tw @d11 (tw @d12 (tw @hm (tw @hi (tw @kh (tw @sf (tw @sg (tw @Cw (tw @CC (tw @CB (tw @tl (tw @dQ (tw @Ad.eq_1 @eN.eq_1))))))))))))))))) ?_;(repeat(refine Pn.mk ?_;intro N hN))))
   refine tC ?_ ?_ (by(try dsimp only);omega)
   all_goals simp only[go_sem, ↓reduceIte,Nat.reduceEqDiff,Nat.reduceAdd,Nat.reduceSub,Nat.reduceLeDiff,reduceCtorEq,d13,dg0,d1,d10,d11,d12,dQ]
  ·have lY:m=M.length:=by omega
   subst lY
   have o3:dB (cI cnt L i M.length) cnt=dB (cI cnt L (i+1) 0) cnt:=gN fun x hx=>by
    rw[Bs,List.take_length]
    simp only[cI,List.take_zero,List.not_mem_nil,if_false]
    have h1:=rC x hx
    by_cases h2:bJ L x<i
    ·rw[if_pos h2,if_pos (by omega)]
    ·rw[if_neg h2]
     by_cases h3:x∈M
     ·rw[if_pos h3,if_pos (by have:=h1.1 h3;omega),h1.1 h3]
     ·rw[if_neg h3,if_neg fun h4=>h3 (h1.2 (by omega))]
   (try((repeat(revert hN;revert N;apply Pn.out));refine wk (tw @d13 (tw @dg0 (tw @d1 (tw @d10 (tw @d11 (tw @d12 (tw @hm (tw @hi (tw @kh (tw @sf (tw @Cw @Ad.eq_1))))))))))) ?_;(repeat(refine Pn.mk ?_;intro N hN))))
   refine gx ?_ ?_ (by(try dsimp only);omega)
   all_goals simp only[go_sem, ↓reduceIte,Nat.reduceEqDiff,Nat.reduceAdd,Nat.reduceSub,Nat.reduceLeDiff,reduceCtorEq,p9,cg0,c1,jq,nE,d13,dg0,d1,d10,d11,d12,o3]
 have nz:i=(leads cnt L).length:=by omega
 subst nz
 have xf:dB (cI cnt L (leads cnt L).length 0) cnt=dB (bJ L) cnt:=gN fun x hx=>by rw[cI,if_pos (jW hL hx)]
 rw[xf]at cg0
 have tl:=fW (bJ L) cnt
 (try((repeat(revert hN;revert N;apply Pn.out));refine wk (tw @p9 (tw @cg0 (tw @c1 (tw @jq (tw @nE (tw @hi @sf)))))) ?_;(repeat(refine Pn.mk ?_;intro N hN))))
 have Sj:st_a.next+1+1<st_c.next:=cI0
 refine aO (fun n env st=>∃j:Nat,n=(bs.length)-j/\j<=(bs.length)/\env 15=.int .i64 (j:Int)/\st.get ⟨192008001,st_a.next+1+1⟩=some ⟨true,1,dB (bJ L) cnt⟩/\(∃p:Id,env 14=.own p 0 (eX L (bs.take j)).length/\st.get p=some ⟨true,3,(eX L (bs.take j)).map aA⟩/\st_c.next<=p.bm/\p.bm<st.next)) (bs.length) ⟨0,by omega,by omega,sl (tw @p9 (tw @cg0 (tw @c1 (tw @jq @nE)))),sl (tw @p9 (tw @cg0 (tw @c1 (tw @jq @nE)))),⟨⟨192016000,st_c.next+1⟩,by(simp only[go_sem, ↓reduceIte,Nat.reduceEqDiff,Nat.reduceAdd,Nat.reduceSub,Nat.reduceLeDiff,reduceCtorEq])<;>rfl,by(simp only[go_sem, ↓reduceIte,Nat.reduceEqDiff,Nat.reduceAdd,Nat.reduceSub,Nat.reduceLeDiff,reduceCtorEq])<;>rfl,by(try dsimp only);omega,by(try dsimp only);omega⟩⟩ ?_
 rintro n_f env_f st_f ⟨j,rfl,fle,f15,fg0,fI0⟩ ffr
 have f1:=ffr 1 (by kernel_rfl);have f10:=ffr 10 (by kernel_rfl);have f11:=ffr 11 (by kernel_rfl)
 simp only[go_sem, ↓reduceIte,Nat.reduceEqDiff,Nat.reduceAdd,Nat.reduceSub,Nat.reduceLeDiff,reduceCtorEq,p9,cg0,c1,jq,nE]at f1 f10 f11
 clear ffr
 obtain⟨p,f14,fg,Om,IL⟩:=fI0
 have x1:=dq (a:=⟨192008001,st_a.next+1+1⟩) (b:=p) (by(try dsimp only);omega)
 have Aj:=dz IL
 have hvn:st_a.next+1+1<st_f.next:=by omega
 have Gl:=dz (i:=⟨192008001,st_a.next+1+1⟩) (n:=st_f.next) hvn
 have Bp:=(nf L (bs.take j)).2
 rw[List.length_take]at Bp
 by_cases hj:(j:Int)<(bs.length:Int)
 ·have rP:∀{e:Env} {gg:Rows} {nx:Nat},(e 15=.int .i64 (IntKind.i64.wrap ((j:Int)+1)))->(gg ⟨192008001,st_a.next+1+1⟩=some ⟨true,1,dB (bJ L) cnt⟩)->(∃p:Id,e 14=.own p 0 (eX L (bs.take (j+1))).length/\gg p=some ⟨true,3,(eX L (bs.take (j+1))).map aA⟩/\st_c.next<=p.bm/\p.bm<nx)->∃m0,m0<(bs.length)-j/\∃j:Nat,m0=(bs.length)-j/\j<=(bs.length)/\e 15=.int .i64 (j:Int)/\gg ⟨192008001,st_a.next+1+1⟩=some ⟨true,1,dB (bJ L) cnt⟩/\(∃p:Id,e 14=.own p 0 (eX L (bs.take j)).length/\gg p=some ⟨true,3,(eX L (bs.take j)).map aA⟩/\st_c.next<=p.bm/\p.bm<nx):=fun x1 x2 x3=>⟨_,by omega,j+1,rfl,by omega,(by rw[x1,az (by omega)]),x2,x3⟩
  have ia:j<bs.length:=by omega
  have zf:(bs.map aA)[j]? =some (aA bs[j]):=by simp[ia]
  have KZ:=hb _ (List.getElem_mem ia)
  have hs:=zP L (bs.take j) bs[j]
  rw[<-List.take_succ_eq_append_getElem ia]at hs
  generalize bs[j]=b at *
  have hA:=fm (f:=bJ L) KZ.1
  have hB:=fm (f:=bJ L) KZ.2
  have gC:(b.a:Int)<(cnt:Int):=by omega
  have fo:(b.b:Int)<(cnt:Int):=by omega
  have Sb:=BD (bJ L b.a) (bJ L b.b)
  have Sc:=BC (bJ L b.a) (bJ L b.b)
  rw[eN]at hA hB
  by_cases he:bJ L b.a=bJ L b.b
  ·rw[if_pos he,List.append_nil]at hs
   have wR:decide ((bJ L b.a:Int)=(bJ L b.b:Int))=true:=decide_eq_true (by rw[he])
   (try((repeat(revert hN;revert N;apply Pn.out));refine wk (tw @f15 (tw @fg0 (tw @f1 (tw @f10 (tw @f11 (tw @f14 (tw @fg (tw @hj (tw @zf (tw @hA (tw @hB (tw @gC (tw @fo (tw @tl (tw @wR (tw @x1 (tw @Aj @aA.eq_1))))))))))))))))) ?_;(repeat(refine Pn.mk ?_;intro N hN))))
   refine rP ?_ ?_ (⟨p,by rw[hs];simp only[go_sem, ↓reduceIte,Nat.reduceEqDiff,Nat.reduceAdd,Nat.reduceSub,Nat.reduceLeDiff,reduceCtorEq,f14],by rw[hs];simp only[go_sem, ↓reduceIte,Nat.reduceEqDiff,Nat.reduceAdd,Nat.reduceSub,Nat.reduceLeDiff,reduceCtorEq,fg],Om,by(try dsimp only);omega⟩)
   all_goals simp only[go_sem, ↓reduceIte,Nat.reduceEqDiff,Nat.reduceAdd,Nat.reduceSub,Nat.reduceLeDiff,reduceCtorEq,f15,fg0,f1,f10,f11]
  ·rw[if_neg he]at hs
   have wR:decide ((bJ L b.a:Int)=(bJ L b.b:Int))=false:=decide_eq_false fun h=>he (by omega)
   have e1:(eX L (bs.take j)).length+1<=16777216:=by omega
   have lY:((eX L (bs.take j)).map aA).length=(eX L (bs.take j)).length:=by simp
   (repeat(first|((repeat(revert hN;revert N;apply Pn.out));refine wk (tw @f15 (tw @fg0 (tw @f1 (tw @f10 (tw @f11 (tw @f14 (tw @fg (tw @hj (tw @zf (tw @hA (tw @hB (tw @gC (tw @fo (tw @tl (tw @wR (tw @x1 (tw @Aj (tw @Gl (tw @e1 (tw @lY @aA.eq_1)))))))))))))))))))) ?_;(repeat(refine Pn.mk ?_;intro N hN)))|((try apply Or.inl);refine⟨_,ar.x (Sb) (sd (tw @f15 (tw @fg0 (tw @f1 (tw @f10 (tw @f11 (tw @f14 (tw @fg (tw @hj (tw @zf (tw @hA (tw @hB (tw @gC (tw @fo (tw @tl (tw @wR (tw @x1 (tw @Aj (tw @Gl (tw @e1 (tw @lY @aA.eq_1))))))))))))))))))))),?_⟩;refine hN _ _ ?_;clear hN N)|((try apply Or.inl);refine⟨_,ar.x (Sc) (sd (tw @f15 (tw @fg0 (tw @f1 (tw @f10 (tw @f11 (tw @f14 (tw @fg (tw @hj (tw @zf (tw @hA (tw @hB (tw @gC (tw @fo (tw @tl (tw @wR (tw @x1 (tw @Aj (tw @Gl (tw @e1 (tw @lY @aA.eq_1))))))))))))))))))))),?_⟩;refine hN _ _ ?_;clear hN N)))
   refine rP ?_ ?_ (⟨⟨192023014,st_f.next+1+1+1+1⟩,by rw[hs,List.length_append];simp only[go_sem, ↓reduceIte,Nat.reduceEqDiff,Nat.reduceAdd,Nat.reduceSub,Nat.reduceLeDiff,reduceCtorEq,List.length_cons,List.length_nil],by rw[hs,List.map_append,List.map_cons,List.map_nil];simp only[go_sem, ↓reduceIte,Nat.reduceEqDiff,Nat.reduceAdd,Nat.reduceSub,Nat.reduceLeDiff,reduceCtorEq,aA],by(try dsimp only);omega,by(try dsimp only);omega⟩)
   all_goals simp only[go_sem, ↓reduceIte,Nat.reduceEqDiff,Nat.reduceAdd,Nat.reduceSub,Nat.reduceLeDiff,reduceCtorEq,f15,fg0,f1,f10,f11,x1,Gl]
 ·have gG:j=bs.length:=by omega
  subst gG
  rw[List.take_length]at f14 fg
  (try((repeat(revert hN;revert N;apply Pn.out));refine wk (tw @f15 (tw @fg0 (tw @f1 (tw @f10 (tw @f11 (tw @f14 (tw @hj @sf))))))) ?_;(repeat(refine Pn.mk ?_;intro N hN))))
  refine jn (.inl rfl) (r1:=.int .i64 ((leads cnt L).length:Int)) (sd @Nat.zero_add) (by simp only[go_sem, ↓reduceIte,Nat.reduceEqDiff,Nat.reduceAdd,Nat.reduceSub,Nat.reduceLeDiff,reduceCtorEq];rfl) ?_
  have h1:gi st_f.get 5 (.own p 0 (eX L bs).length)=some (.sl ((eX L bs).map aA)):=fB (sz:=3) fg rfl fun b=>uh _ 3 b
  simp only[e8,bE,cw,eH,h1,Option.map_some]
end Go.Proofs.YtgoelphibofcmaaGreat.V

namespace Go.Proofs.YtgoelphibofcmaaGreat.V
def EC (bs:List PB) (e v:Nat):Prop:=(cm bs e).a=v∨(cm bs e).b=v
def iR (bs:List PB) (m v:Nat):List Nat:=(List.range m).filter fun i=>(cm bs i).a==v||(cm bs i).b==v
theorem rJ {bs:List PB} {m v e:Nat}:e∈iR bs m v↔e<m/\EC bs e v:=by simp[iR,EC]
theorem Gq (bs:List PB) (m v:Nat):iR bs (m+1) v=iR bs m v++if (cm bs m).a=v∨(cm bs m).b=v then[m]else[]:=by
 unfold iR
 rw[List.range_succ,List.filter_append]
 congr 1
 by_cases h:(cm bs m).a=v<;>by_cases h2:(cm bs m).b=v<;>simp[h,h2]
theorem rI (bs:List PB) (m v:Nat):(iR bs m v).length<=m:=by
 have:=List.length_filter_le (fun i=>(cm bs i).a==v||(cm bs i).b==v) (List.range m)
 simpa[iR]using this
def nq (cnt:Nat) (bs:List PB):Prop:=∀e,e<bs.length->(cm bs e).a<cnt/\(cm bs e).b<cnt/\(cm bs e).a≠(cm bs e).b
theorem oJ {cnt:Nat} {bs:List PB} (h:nq cnt bs) {e v:Nat} (he:e<bs.length):bK bs e v<cnt:=by
 have:=h e he;unfold bK;split;exact this.2.1;exact this.1
theorem Jq {cnt:Nat} {bs:List PB} (h:nq cnt bs) {e v:Nat} (he:e<bs.length) (hi:EC bs e v):bK bs e v≠v:=by
 have h1:=(h e he).2.2
 unfold bK
 split
 ·rename_i ha;rw[<-ha];exact fun h=>h1 h.symm
 ·rename_i ha;rcases hi with hi|hi
  ·exact absurd hi ha
  ·rw[<-hi];exact h1
theorem yp {bs:List PB} {e v:Nat}:EC bs e (bK bs e v):=by
 unfold bK EC;split
 ·exact .inr rfl
 ·exact .inl rfl
theorem oK {cnt:Nat} {bs:List PB} (h:nq cnt bs) {e v:Nat} (he:e<bs.length) (hi:EC bs e v):bK bs e (bK bs e v)=v:=by
 have h1:=(h e he).2.2
 unfold bK
 by_cases ha:(cm bs e).a=v
 ·rw[if_pos ha,if_neg h1];exact ha
 ·rw[if_neg ha,if_pos rfl]
  rcases hi with hi|hi
  ·exact absurd hi ha
  ·exact hi
structure yK (cnt:Nat) (bs:List PB) (f:Nat->Int) (y:Nat) (out:Nat->Int):Prop where
 lo:∀v,v<cnt->-1<=out v/\out v<=cnt
 first:out y=0
 zero:∀v,v<cnt->out v=0->v=y
 down:∀v,v<cnt->0<out v->∃e,e<bs.length/\EC bs e v/\0<fC bs f e v/\out (bK bs e v)=out v-1
 shut:∀e v,e<bs.length->EC bs e v->0<=out (bK bs e v)->0<fC bs f e v->0<=out v
structure Ab (cnt:Nat) (bs:List PB) (f:Nat->Int) (y:Nat) (out:Nat->Int) (Q:List Nat) (i:Nat):Prop where
 nd:Q.Nodup
 lt:∀x∈Q,x<cnt
 iff:∀v,v<cnt->(0<=out v↔v∈Q)
 lo:∀v,v<cnt->-1<=out v
 first:out y=0
 up:∀j (h:j<Q.length),out Q[j]<=j
 zero:∀v,v<cnt->out v=0->v=y
 down:∀v,v<cnt->0<out v->∃e,e<bs.length/\EC bs e v/\0<fC bs f e v/\out (bK bs e v)=out v-1
 shut:∀j (h:j<Q.length),j<i->∀e,e<bs.length->EC bs e Q[j]->0<fC bs f e (bK bs e Q[j])->0<=out (bK bs e Q[j])
section
variable {cnt:Nat} {bs:List PB} {f:Nat->Int} {y:Nat} {out:Nat->Int} {Q:List Nat} {i:Nat}
theorem Ab.start (hy:y<cnt):Ab cnt bs f y (fun v=>if v=y then 0 else -1) [y] 0 where
 nd:=by simp
 lt:=fun x hx=>by rw[List.mem_singleton.1 hx];exact hy
 iff:=fun v _=>by
  by_cases h:v=y<;>simp[h]
 lo:=fun v _=>by split<;>omega
 first:=if_pos rfl
 up:=fun j h=>by
  have:j=0:=by simp at h;omega
  subst this;simp
 zero:=fun v _ h=>by
  by_cases hv:v=y
  ·exact hv
  ·rw[if_neg hv]at h;omega
 down:=fun v _ h=>by
  by_cases hv:v=y
  ·rw[if_pos hv]at h;omega
  ·rw[if_neg hv]at h;omega
 shut:=fun j h hj=>by omega
theorem Ab.len (h:Ab cnt bs f y out Q i):Q.length<=cnt:=oH cnt Q h.nd h.lt
theorem Ab.visit (h:Ab cnt bs f y out Q i) (ok:nq cnt bs) (hi:i<Q.length) {e:Nat} (he:e<bs.length) (pG:EC bs e Q[i]) (jU:out (bK bs e Q[i])<0) (fP:0<fC bs f e (bK bs e Q[i])):
  Ab cnt bs f y (fun v=>if v=bK bs e Q[i]then out Q[i]+1 else out v) (Q++[bK bs e Q[i]]) i:=by
 have MR:0<=out Q[i]:=(h.iff _ (h.lt _ (List.getElem_mem hi))).2 (List.getElem_mem hi)
 have hq:=oJ ok (v:=Q[i]) he
 have gU:=Jq ok he pG
 have Q0:=oK ok he pG
 have Un:bK bs e Q[i]∉Q:=fun hm=>by have:=(h.iff _ hq).2 hm;omega
 have Bs:=h.up i hi
 generalize hw:bK bs e Q[i]=w at *
 have tZ:∀v,0<=out v->(if v=w then out Q[i]+1 else out v)=out v:=fun v hv=>by
  rw[if_neg];rintro rfl;omega
 have mono:∀v,0<=out v->0<=(if v=w then out Q[i]+1 else out v):=fun v hv=>by rw[tZ v hv];exact hv
 refine⟨?_,?_,?_,?_,?_,?_,?_,?_,?_⟩
 ·rw[List.nodup_append]
  exact⟨h.nd,by simp,fun a ha b hb=>by rw[List.mem_singleton.1 hb];rintro rfl;exact Un ha⟩
 ·intro x hx
  rcases List.mem_append.1 hx with hx|hx
  ·exact h.lt x hx
  ·rw[List.mem_singleton.1 hx];exact hq
 ·intro v hv
  by_cases Hw:v=w
  ·subst Hw;simp;omega
  ·rw[if_neg Hw,h.iff v hv];simp[Hw]
 ·intro v hv
  by_cases Hw:v=w
  ·rw[if_pos Hw];omega
  ·rw[if_neg Hw];exact h.lo v hv
 ·rw[tZ y (by rw[h.first];exact Int.le_refl _)];exact h.first
 ·intro j hj
  by_cases gG:j<Q.length
  ·rw[List.getElem_append_left gG,tZ _ ((h.iff _ (h.lt _ (List.getElem_mem gG))).2 (List.getElem_mem gG))]
   exact h.up j gG
  ·have K3:j=Q.length:=by simp at hj;omega
   subst K3
   simp
   omega
 ·intro v hv h0
  by_cases Hw:v=w
  ·rw[if_pos Hw]at h0;omega
  ·rw[if_neg Hw]at h0;exact h.zero v hv h0
 ·intro v hv h0
  by_cases Hw:v=w
  ·subst Hw
   rw[if_pos rfl]
   refine⟨e,he,by rw[<-hw];exact yp,fP,?_⟩
   rw[Q0,tZ _ MR];omega
  ·rw[if_neg Hw]at h0 ⊢
   obtain⟨e',h1,h2,h3,h4⟩:=h.down v hv h0
   exact⟨e',h1,h2,h3,by rw[tZ _ (by omega)];exact h4⟩
 ·intro j hj mj e' ze MJ hr
  have gG:j<Q.length:=by omega
  rw[List.getElem_append_left gG]at MJ hr ⊢
  exact mono _ (h.shut j gG mj e' ze MJ hr)
theorem Ab.next (h:Ab cnt bs f y out Q i) (hi:i<Q.length) (hs:∀e∈iR bs bs.length Q[i],0<fC bs f e (bK bs e Q[i])->0<=out (bK bs e Q[i])):Ab cnt bs f y out Q (i+1):=
 ⟨h.nd,h.lt,h.iff,h.lo,h.first,h.up,h.zero,h.down,fun j hj mj e he pG hr=>by
  by_cases K3:j=i
  ·subst K3;exact hs e (rJ.2 ⟨he,pG⟩) hr
  ·exact h.shut j hj (by omega) e he pG hr⟩
theorem Ab.done (h:Ab cnt bs f y out Q i) (ok:nq cnt bs) (hi:Q.length<=i):yK cnt bs f y out where
 lo:=fun v hv=>⟨h.lo v hv,by
  by_cases h0:0<=out v
  ·obtain⟨j,hj,rfl⟩:=List.getElem_of_mem ((h.iff v hv).1 h0)
   have:=h.up j hj
   have:=h.len
   omega
  ·omega⟩
 first:=h.first
 zero:=h.zero
 down:=h.down
 shut:=fun e v he pG h0 hr=>by
  obtain⟨j,hj,PG⟩:=List.getElem_of_mem ((h.iff _ (oJ ok he)).1 h0)
  have h2:=h.shut j hj (by omega) e he (by rw[PG];exact yp)
  rw[PG,oK ok he pG]at h2
  exact h2 hr
end
end Go.Proofs.YtgoelphibofcmaaGreat.V

namespace Go.Proofs.YtgoelphibofcmaaGreat.V
open Go.RowKit
attribute [local irreducible] eb wpOps gj Call
attribute [local go_sem] aJ fM eP fZ fY cL upd cu K.av cN AV.cells AV.cell rowOf rowsOf part ld rowAt bI bW dD ee gT bL dc ev fU eY dr ej da cZ dO dR bR aX cR bQ cV cU eh ek ei cQ bV db ef bP aP cX cE gS bw cJ bU aW dx bj dE AV.undef bD bF dV ec dI dS cF eu eB cD ep eo cW cY List.getD_cons_zero List.getD_cons_succ List.getD_nil List.all_cons List.all_nil Bool.and_true Bool.true_and Bool.and_self Bool.not_true Bool.not_false Option.map_some Option.map_none Option.bind_some Option.bind_none List.length_cons List.length_nil List.take_succ_cons List.take_zero List.take_nil List.drop_succ_cons List.drop_zero List.drop_nil List.head?_cons List.map_cons List.map_nil List.getElem?_cons_zero List.getElem?_cons_succ List.cons_append List.nil_append List.append_nil List.length_map List.set_cons_zero List.set_cons_succ Nat.reduceMul eq_self Int.toNat_natCast Int.natCast_nonneg and_self true_and and_true decide_true decide_false Bool.false_eq_true Nat.zero_add Nat.add_zero List.contains_cons List.contains_nil Bool.or_false Bool.false_or beq_self_eq_true Nat.reduceBEq ne_eq not_true_eq_false not_false_eq_true Id.mk.injEq false_and and_false Nat.reduceLT Int.reduceLE Int.reduceLT Int.reduceToNat Int.reduceNeg Int.reduceAdd Nat.le_refl List.length_append beq_true beq_false Bool.not_eq_eq_eq_not or_false false_or dM aj aq aH bd bz ck aU bf aT aZ cP bH
def lO (P:Program) (f:Nat) (args:List AV) (R:AV->Prop):Prop:=∀n:Nat,Call P f args ⟨fun _=>none,n⟩ fun r0 σ'=>∃r',gi σ'.get 6 r0=some r'/\R r'
theorem ar.r {P:Program} {f:Nat} {args:List AV} {r:AV} (h:ar P f args r):lO P f args (fun r'=>r'=r):=h
theorem F6 {P:Program} {f:Nat} {args eC:List AV} {g:Rows} {n:Nat} {R:AV->Prop} (hv:cK (dM g) 6 args=some eC) (h:Sound P f eC ⟨fun _=>none,n⟩ fun r0 σ'=>∃r',gi σ'.get 6 r0=some r'/\R r'):Sound P f args ⟨g,n⟩ fun r σ'=>R r/\σ'=⟨g,n⟩:=by
 intro hs D ι w vs S U A
 refine(xt (g0:=g) (K:=R) ⟨eC,hv,h⟩ (fun _ _ h=>h) S U A).mono ?_
 rintro e w' ⟨r,D',u,rfl,hR,T,S',hr⟩
 exact⟨r,g,n,D',ι,u,rfl,⟨hR,rfl⟩,T,S',U,Nat.le_refl _,hr⟩
theorem lO.x {P:Program} (hm:P.follows .mixedOrders=true) {f:Nat} {args eC:List AV} {R:AV->Prop} (h:lO P f eC R) {σ:au} (hv:cK (dM σ.get) 6 args=some eC):Call P f args σ fun r σ'=>R r/\σ'=σ:=
 fE (F6 hv (gW hm (h σ.next)))
theorem lO.body {P:Program} {f:Nat} {args:List AV} {R:AV->Prop} {nt na:Nat} {body:VC} {res:List nU} (hf:mi P f=some ⟨nt,na,body,res⟩) (ha:na=args.length) (h:(∀a∈args,eD a)->∀n:Nat,eb (Call P) body (kU res fun r0 σ'=>∃r',gi σ'.get 6 r0=some r'/\R r') (cu args) ⟨fun _=>none,n⟩):lO P f args R:=fun n=>lP hf ha fun hl=>h hl n
def dU (f:Nat->Int) (n:Nat):List (List AV):=(List.range n).map fun i=>aG (f i)
theorem dy (f:Nat->Int) (n:Nat):(dU f n).length=n:=by simp[dU]
theorem dJ {f:Nat->Int} {n i:Nat} (h:i<n):(dU f n)[i]? =some (aG (f i)):=by simp[dU,h]
theorem kZ {f g:Nat->Int} {n k:Nat} {v:Int} (hk:k<n) (hv:g k=v) (h:∀i,i<n->i≠k->g i=f i):(dU f n).set k (aG v)=dU g n:=by
 refine List.ext_getElem? fun i=>?_
 rw[List.getElem?_set]
 by_cases hi:k=i
 ·subst hi
  rw[if_pos rfl,dy,if_pos hk,dJ hk,hv]
 ·rw[if_neg hi]
  by_cases fI:i<n
  ·rw[dJ fI,dJ fI,h i fI (fun h=>hi h.symm)]
  ·rw[List.getElem?_eq_none (by rw[dy];omega),List.getElem?_eq_none (by rw[dy];omega)]
theorem Hb (f:Nat->Int) (n:Nat):dU f (n+1)=dU f n++[aG (f n)]:=by simp[dU,List.range_succ]
theorem fzI (g:Rows) (n:Nat) (a:Int):cK g (n+1) (aG a)=some (aG a):=by simp[aG,aj,aq,aH]
theorem Ti (g:Rows) (n:Nat) (a:Int):dZ g (n+1) (aG a)=some (aG a):=by simp[aG,bE,cw,eH]
theorem JR {g:Rows} {f:Nat->Int} {n m:Nat}:gQ g (m+1) (dU f n)=some (dU f n):=by
 have:dU f n=((List.range n).map f).map aG:=by simp[dU]
 rw[this];exact tk fun x=>Ti g m x
theorem zX {g:Rows} {f:Nat->Int} {n m:Nat}:dY g (m+1) (dU f n)=some (dU f n):=by
 have:dU f n=((List.range n).map f).map aG:=by simp[dU]
 rw[this];exact qk fun x=>fzI g m x
def OU (l:List Nat):AV:=if l=[]then .cr else .sl (l.map eN)
def p4 (cnt:Nat) (bs:List PB) (m:Nat):List (List AV):=(List.range cnt).map fun v=>[OU (iR bs m v)]
theorem CP {cnt:Nat} {bs:List PB} {m v:Nat} (h:v<cnt):(p4 cnt bs m)[v]? =some [OU (iR bs m v)]:=by simp[p4,h]
def fN (cnt:Nat) (bs:List PB) (f:Nat->Int):List AV:=[.int .i64 cnt,.sl (bs.map aA),.sl (p4 cnt bs bs.length),.sl (dU f bs.length)]
theorem ud {bs:List PB} {e:Nat} (h:e<bs.length):(bs.map aA)[e]? =some (aA (cm bs e)):=getD_map aA h
def Small (bs:List PB) (f:Nat->Int):Prop:=∀e,e<bs.length->(0<=(cm bs e).s/\(cm bs e).s<=4)/\-4<=f e/\f e<=4
theorem JC (cnt:Nat) (bs:List PB) (f:Nat->Int) (hs:Small bs f) (e v:Nat) (he:e<bs.length):ar Tryz.prog 260 [.dj (fN cnt bs f),.int .i64 v,.int .i64 e] (.iF [.int .i64 (fC bs f e v),.int .i64 (bK bs e v)]):=by
 refine ar.body eJ rfl fun hl n0=>?_
 clear hl
 have hb:=ud he
 have hf:=dJ (f:=f) he
 obtain⟨⟨s0,s1⟩,s2,s3⟩:=hs e he
 have w1:IntKind.i64.wrap ((cm bs e).s-f e)=(cm bs e).s-f e:=bh (by omega)
 have w2:IntKind.i64.wrap ((cm bs e).s+f e)=(cm bs e).s+f e:=bh (by omega)
 unfold fC bK
 generalize cm bs e=b at *
 by_cases h:b.a=v
 ·have hd:decide ((b.a:Int)=(v:Int))=true:=decide_eq_true (by rw[h])
  (try((repeat(revert hN;revert N;apply Pn.out));refine wk (tw @fN.eq_1 (tw @hb (tw @hf (tw @aA.eq_1 (tw @aG.eq_1 (tw @hd (tw @w1 @w2))))))) ?_;(repeat(refine Pn.mk ?_;intro N hN))))
  refine jn (.inl rfl) (by simp only[go_sem, ↓reduceIte,Nat.reduceEqDiff,Nat.reduceAdd,Nat.reduceSub,Nat.reduceLeDiff,reduceCtorEq];rfl) (by simp only[go_sem, ↓reduceIte,Nat.reduceEqDiff,Nat.reduceAdd,Nat.reduceSub,Nat.reduceLeDiff,reduceCtorEq];rfl) ?_
  simp only[e8,bE,cw,eH,Option.map_some,if_pos h]
 ·have hd:decide ((b.a:Int)=(v:Int))=false:=decide_eq_false fun hc=>h (by omega)
  (try((repeat(revert hN;revert N;apply Pn.out));refine wk (tw @fN.eq_1 (tw @hb (tw @hf (tw @aA.eq_1 (tw @aG.eq_1 (tw @hd (tw @w1 @w2))))))) ?_;(repeat(refine Pn.mk ?_;intro N hN))))
  refine jn (.inl rfl) (by simp only[go_sem, ↓reduceIte,Nat.reduceEqDiff,Nat.reduceAdd,Nat.reduceSub,Nat.reduceLeDiff,reduceCtorEq];rfl) (by simp only[go_sem, ↓reduceIte,Nat.reduceEqDiff,Nat.reduceAdd,Nat.reduceSub,Nat.reduceLeDiff,reduceCtorEq];rfl) ?_
  simp only[e8,bE,cw,eH,Option.map_some,if_neg h]
theorem Fu (cnt:Nat) (hn:cnt<=1048576) (bs:List PB) (ok:nq cnt bs) (nH:bs.length<=1048576) (f:Nat->Int) (hs:Small bs f) (y:Nat) (hy:y<cnt):
  lO Tryz.prog 239 [.dj (fN cnt bs f),.int .i64 y] fun r=>∃out,r=.sl (dU out cnt)/\yK cnt bs f y out:=by
 refine lO.body eJ rfl fun hl n0=>?_
 clear hl
 (try((repeat(revert hN;revert N;apply Pn.out));refine wk @fN.eq_1 ?_;(repeat(refine Pn.mk ?_;intro N hN))))
 refine aO (fun n env st=>∃k:Nat,n=(cnt)-k/\k<=(cnt)/\env 6=.int .i64 (k:Int)/\(∃o:Id,env 5=.own o 0 k/\st.get o=some ⟨true,1,dU (fun _=>-1) k⟩/\o.bm<st.next)) (cnt) ⟨0,by omega,by omega,sl @fN.eq_1,⟨⟨239001000,n0+1⟩,by(simp only[go_sem, ↓reduceIte,Nat.reduceEqDiff,Nat.reduceAdd,Nat.reduceSub,Nat.reduceLeDiff,reduceCtorEq])<;>rfl,by(simp only[go_sem, ↓reduceIte,Nat.reduceEqDiff,Nat.reduceAdd,Nat.reduceSub,Nat.reduceLeDiff,reduceCtorEq])<;>rfl,by(try dsimp only);omega⟩⟩ ?_
 rintro n_a env_a st_a ⟨k,rfl,ale,a6,ke⟩ dv
 have a0:=dv 0 (by kernel_rfl);have a1:=dv 1 (by kernel_rfl)
 simp only[go_sem, ↓reduceIte,Nat.reduceEqDiff,Nat.reduceAdd,Nat.reduceSub,Nat.reduceLeDiff,reduceCtorEq,fN]at a0 a1
 clear dv
 obtain⟨o,a5,ag,rD⟩:=ke
 have tl:=dy (fun _=>-1) k
 have qu:=dz rD
 by_cases hk:(k:Int)<(cnt:Int)
 ·have cz:∀{e:Env} {gg:Rows} {nx:Nat},(e 6=.int .i64 (IntKind.i64.wrap ((k:Int)+1)))->(∃o:Id,e 5=.own o 0 (k+1)/\gg o=some ⟨true,1,dU (fun _=>-1) (k+1)⟩/\o.bm<nx)->∃m0,m0<(cnt)-k/\∃k:Nat,m0=(cnt)-k/\k<=(cnt)/\e 6=.int .i64 (k:Int)/\(∃o:Id,e 5=.own o 0 k/\gg o=some ⟨true,1,dU (fun _=>-1) k⟩/\o.bm<nx):=fun x1 x2=>⟨_,by omega,k+1,rfl,by omega,(by rw[x1,az (by omega)]),x2⟩
  have e1:k+1<=16777216:=by omega
  have pI:dU (fun _=>-1) k++[[.int .i64 (-1)]]=dU (fun _=>-1) (k+1):=(Hb _ _).symm
  (try((repeat(revert hN;revert N;apply Pn.out));refine wk (tw @a6 (tw @a0 (tw @a1 (tw @a5 (tw @ag (tw @qu (tw @hk (tw @tl (tw @e1 (tw @pI @fN.eq_1)))))))))) ?_;(repeat(refine Pn.mk ?_;intro N hN))))
  exact cz (sd (tw @a6 (tw @a0 (tw @a1 @fN.eq_1)))) (⟨⟨239005002,st_a.next+1⟩,sd @Nat.zero_add,sd @pI,by(try dsimp only);omega⟩)
 have k8:k=cnt:=by omega
 subst k8
 have SL:(y:Int)<(k:Int):=by omega
 have hym:=dJ (f:=fun _=>-1) hy
 have Bn:(dU (fun _=>-1) k).set y (aG 0)=dU (fun v=>if v=y then 0 else -1) k:=kZ hy (if_pos rfl) fun i _ hi=>if_neg hi
 rw[aG]at Bn hym
 (try((repeat(revert hN;revert N;apply Pn.out));refine wk (tw @a6 (tw @a0 (tw @a1 (tw @a5 (tw @ag (tw @qu (tw @hk (tw @tl (tw @SL (tw @hym (tw @Bn @fN.eq_1))))))))))) ?_;(repeat(refine Pn.mk ?_;intro N hN))))
 refine aO (fun m env st=>∃(i:Nat) (out:Nat->Int) (Q:List Nat) (p:Id),m=k-i/\env 8=.int .i64 (i:Int)/\env 7=.own p 0 Q.length/\st.get p=some ⟨true,1,Q.map eN⟩/\st.get o=some ⟨true,1,dU out k⟩/\o.bm<p.bm/\p.bm<st.next/\Ab k bs f y out Q i/\i<=Q.length) k ⟨0,_,[y],⟨239007001,st_a.next+1+1⟩,by omega,by(simp only[go_sem, ↓reduceIte,Nat.reduceEqDiff,Nat.reduceAdd,Nat.reduceSub,Nat.reduceLeDiff,reduceCtorEq])<;>rfl,by(simp only[go_sem, ↓reduceIte,Nat.reduceEqDiff,Nat.reduceAdd,Nat.reduceSub,Nat.reduceLeDiff,reduceCtorEq])<;>rfl,by(simp only[go_sem, ↓reduceIte,Nat.reduceEqDiff,Nat.reduceAdd,Nat.reduceSub,Nat.reduceLeDiff,reduceCtorEq])<;>rfl,sd @qu,by(try dsimp only);omega,by(try dsimp only);omega,Ab.start hy,by simp⟩ ?_
 rintro n env_b st_b ⟨i,out,Q,p,rfl,b8,b7,bgp,bgo,dG,hpn,hB,hiq⟩ eV
 have b0:=eV 0 (by kernel_rfl)
 have b5:=eV 5 (by kernel_rfl)
 simp only[go_sem, ↓reduceIte,Nat.reduceEqDiff,Nat.reduceAdd,Nat.reduceSub,Nat.reduceLeDiff,reduceCtorEq,a6,a0,a1,a5,fN]at b0 b5
 clear eV
 have SC:=hB.len
 have SO:=dy out k
 have hqm:(Q.map eN).length=Q.length:=by simp
 have Aj:=dz hpn
 have kr:=dz (i:=o) (n:=st_b.next) (by omega)
 by_cases hi:(i:Int)<(Q.length:Int)
 ·have fI:i<Q.length:=by omega
  have kh:(Q.map eN)[i]? =some (eN Q[i]):=by simp[fI]
  have MR:=hB.lt _ (List.getElem_mem fI)
  obtain⟨vt,Oz⟩:∃vt,vt=Q[i]:=⟨_,rfl⟩
  rw[<-Oz]at kh MR
  have hA:=CP (cnt:=k) (bs:=bs) (m:=bs.length) MR
  have Lk:(vt:Int)<(k:Int):=by omega
  have nz:=rI bs bs.length vt
  have hme:∀x,x<(iR bs bs.length vt).length->(iR bs bs.length vt).getD x 0<bs.length/\EC bs ((iR bs bs.length vt).getD x 0) vt:=fun x hx=>by
   rw[List.getD_eq_getElem?_getD,List.getElem?_eq_getElem hx]
   exact rJ.1 (List.getElem_mem hx)
  have QV:∀e∈iR bs bs.length vt,∃x,x<(iR bs bs.length vt).length/\(iR bs bs.length vt).getD x 0=e:=fun e he=>by
   obtain⟨x,hx,rfl⟩:=List.getElem_of_mem he
   exact⟨x,hx,by rw[List.getD_eq_getElem?_getD,List.getElem?_eq_getElem hx];rfl⟩
  generalize hIn:iR bs bs.length vt=I at *
  unfold OU at hA
  by_cases Tw:I=[]
  ·rw[if_pos Tw]at hA
   have hI1:I.length=0:=by rw[Tw];rfl
   (try((repeat(revert hN;revert N;apply Pn.out));refine wk (tw @b0 (tw @b5 (tw @b7 (tw @b8 (tw @bgp (tw @hi (tw @kh (tw @hqm (tw @eN.eq_1 @fN.eq_1))))))))) ?_;(repeat(refine Pn.mk ?_;intro N hN))))
   refine aO (fun n env st=>∃x:Nat,n=(I.length)-x/\x<=(I.length)/\env 10=.int .i64 (x:Int)/\(∃(iL:Nat->Int) (Q':List Nat) (p':Id),env 7=.own p' 0 Q'.length/\st.get p'=some ⟨true,1,Q'.map eN⟩/\st.get o=some ⟨true,1,dU iL k⟩/\o.bm<p'.bm/\p'.bm<st.next/\Ab k bs f y iL Q' i/\(∃h:i<Q'.length,Q'[i]=vt)/\(∀z,z<x->0<fC bs f (I.getD z 0) (bK bs (I.getD z 0) vt)->0<=iL (bK bs (I.getD z 0) vt)))) (I.length) ⟨0,by omega,by omega,sl (tw @b0 (tw @b5 (tw @b8 @fN.eq_1))),⟨out,Q,p,sd @b7,sd @bgp,sd @bgo,dG,by(try dsimp only);omega,hB,⟨fI,Oz.symm⟩,fun z hz=>by omega⟩⟩ ?_
   rintro n_c env_c st_c ⟨x,rfl,cle,jq,cI0⟩ iG
   have c0:=iG 0 (by kernel_rfl);have c5:=iG 5 (by kernel_rfl);have c8:=iG 8 (by kernel_rfl);have c9:=iG 9 (by kernel_rfl)
   simp only[go_sem, ↓reduceIte,Nat.reduceEqDiff,Nat.reduceAdd,Nat.reduceSub,Nat.reduceLeDiff,reduceCtorEq,b0,b5,b8,fN]at c0 c5 c8 c9
   clear iG
   obtain⟨iL,Q',p',c7,H6,xF,Dw,On,dC,⟨xe,qt⟩,Ko⟩:=cI0
   have Uv:=dC.len
   have OY:=dy iL k
   have Oq:(Q'.map eN).length=Q'.length:=by simp
   have zk:=dz On
   have l5:=dz (i:=o) (n:=st_c.next) (by omega)
   have x1:=dq Dw
   have hx:¬(x:Int)<((0:Nat):Int):=by omega
   have hxe:x=I.length:=by omega
   have hw:IntKind.i64.wrap ((i:Int)+1)=((i+1:Nat):Int):=az (by omega)
   (try((repeat(revert hN;revert N;apply Pn.out));refine wk (tw @jq (tw @c0 (tw @c5 (tw @c8 (tw @c9 (tw @c7 (tw @hx (tw @hA (tw @Lk @fN.eq_1))))))))) ?_;(repeat(refine Pn.mk ?_;intro N hN))))
   refine⟨_,?_,i+1,iL,Q',p',rfl,sd (tw @jq (tw @c0 (tw @c5 (tw @c8 (tw @c9 @hw))))),sd @c7,sd @H6,sd @xF,Dw,by(try dsimp only);omega,dC.next xe fun e he hr=>?_,by omega⟩
   ·omega
   ·rw[qt,hIn]at he
    rw[qt]at hr ⊢
    obtain⟨z,hz,rfl⟩:=QV e he
    exact Ko z (by omega) hr
  ·rw[if_neg Tw]at hA
   have qn:(I.map eN).length=I.length:=by simp
   (try((repeat(revert hN;revert N;apply Pn.out));refine wk (tw @b0 (tw @b5 (tw @b7 (tw @b8 (tw @bgp (tw @hi (tw @kh (tw @hqm (tw @eN.eq_1 @fN.eq_1))))))))) ?_;(repeat(refine Pn.mk ?_;intro N hN))))
   refine aO (fun n env st=>∃x:Nat,n=(I.length)-x/\x<=(I.length)/\env 10=.int .i64 (x:Int)/\(∃(iL:Nat->Int) (Q':List Nat) (p':Id),env 7=.own p' 0 Q'.length/\st.get p'=some ⟨true,1,Q'.map eN⟩/\st.get o=some ⟨true,1,dU iL k⟩/\o.bm<p'.bm/\p'.bm<st.next/\Ab k bs f y iL Q' i/\(∃h:i<Q'.length,Q'[i]=vt)/\(∀z,z<x->0<fC bs f (I.getD z 0) (bK bs (I.getD z 0) vt)->0<=iL (bK bs (I.getD z 0) vt)))) (I.length) ⟨0,by omega,by omega,sl (tw @b0 (tw @b5 (tw @b8 @fN.eq_1))),⟨out,Q,p,sd @b7,sd @bgp,sd @bgo,dG,by(try dsimp only);omega,hB,⟨fI,Oz.symm⟩,fun z hz=>by omega⟩⟩ ?_
   rintro n_c env_c st_c ⟨x,rfl,cle,jq,cI0⟩ iG
   have c0:=iG 0 (by kernel_rfl);have c5:=iG 5 (by kernel_rfl);have c8:=iG 8 (by kernel_rfl);have c9:=iG 9 (by kernel_rfl)
   simp only[go_sem, ↓reduceIte,Nat.reduceEqDiff,Nat.reduceAdd,Nat.reduceSub,Nat.reduceLeDiff,reduceCtorEq,b0,b5,b8,fN]at c0 c5 c8 c9
   clear iG
   obtain⟨iL,Q',p',c7,H6,xF,Dw,On,dC,⟨xe,qt⟩,Ko⟩:=cI0
   have Uv:=dC.len
   have OY:=dy iL k
   have Oq:(Q'.map eN).length=Q'.length:=by simp
   have zk:=dz On
   have l5:=dz (i:=o) (n:=st_c.next) (by omega)
   have x1:=dq Dw
   by_cases hx:(x:Int)<(I.length:Int)
   ·have gx:∀{e:Env} {gg:Rows} {nx:Nat},(e 10=.int .i64 (IntKind.i64.wrap ((x:Int)+1)))->(∃(iL:Nat->Int) (Q':List Nat) (p':Id),e 7=.own p' 0 Q'.length/\gg p'=some ⟨true,1,Q'.map eN⟩/\gg o=some ⟨true,1,dU iL k⟩/\o.bm<p'.bm/\p'.bm<nx/\Ab k bs f y iL Q' i/\(∃h:i<Q'.length,Q'[i]=vt)/\(∀z,z<(x+1)->0<fC bs f (I.getD z 0) (bK bs (I.getD z 0) vt)->0<=iL (bK bs (I.getD z 0) vt)))->∃m0,m0<(I.length)-x/\∃x:Nat,m0=(I.length)-x/\x<=(I.length)/\e 10=.int .i64 (x:Int)/\(∃(iL:Nat->Int) (Q':List Nat) (p':Id),e 7=.own p' 0 Q'.length/\gg p'=some ⟨true,1,Q'.map eN⟩/\gg o=some ⟨true,1,dU iL k⟩/\o.bm<p'.bm/\p'.bm<nx/\Ab k bs f y iL Q' i/\(∃h:i<Q'.length,Q'[i]=vt)/\(∀z,z<x->0<fC bs f (I.getD z 0) (bK bs (I.getD z 0) vt)->0<=iL (bK bs (I.getD z 0) vt))):=fun x1 x2=>⟨_,by omega,x+1,rfl,by omega,(by rw[x1,az (by omega)]),x2⟩
    have PW:x<I.length:=by omega
    have NN:(I.map eN)[x]? =some (eN (I.getD x 0)):=getD_map eN PW
    obtain⟨he,pG⟩:=hme x PW
    obtain⟨e,Sn⟩:∃e,e=I.getD x 0:=⟨_,rfl⟩
    rw[<-Sn]at NN he pG
    have iv:=ud he
    have hq:=oJ ok (v:=vt) he
    have Q0:=oK ok he pG
    have Lh:=JC k bs f hs e (bK bs e vt) he
    have QJ:=ok e he
    have mN:IntKind.i64.wrap (((cm bs e).a:Int)+((cm bs e).b:Int))=((cm bs e).a:Int)+((cm bs e).b:Int):=bh (by omega)
    have sL:IntKind.i64.wrap (((cm bs e).a:Int)+((cm bs e).b:Int)-(vt:Int))=(bK bs e vt:Int):=by
     rw[bh (by omega)]
     unfold bK
     rcases pG with h1|h1
     ·rw[if_pos h1];omega
     ·rw[if_neg fun h2=>QJ.2.2 (h2.trans h1.symm)];omega
    have PO:(bK bs e vt:Int)<(k:Int):=by omega
    have N4:=dJ (f:=iL) hq
    have K1:=dJ (f:=iL) MR
    rw[fN]at Lh
    have Bs:=dC.up i xe
    rw[qt]at Bs
    have jT:=dC.lo vt MR
    have IV:IntKind.i64.wrap (iL vt+1)=iL vt+1:=bh (by omega)
    rw[aG]at N4 K1
    generalize xQ:cm bs e=b at *
    by_cases jU:iL (bK bs e vt)<0
    ·by_cases fP:0<fC bs f e (bK bs e vt)
     ·have hV:=dC.visit ok xe (e:=e) he (by rw[qt];exact pG) (by rw[qt];exact jU) (by rw[qt];exact fP)
      rw[qt]at hV
      have dQ:(dU iL k).set (bK bs e vt) (aG (iL vt+1))=dU (fun v=>if v=bK bs e vt then iL vt+1 else iL v) k:=kZ hq (if_pos rfl) fun v _ hv=>if_neg hv
      rw[aG]at dQ
      have e1:Q'.length+1<=16777216:=by omega
      (repeat(first|((repeat(revert hN;revert N;apply Pn.out));refine wk (tw @jq (tw @c0 (tw @c5 (tw @c8 (tw @c9 (tw @c7 (tw @H6 (tw @xF (tw @hx (tw @hA (tw @qn (tw @NN (tw @Lk (tw @iv (tw @mN (tw @sL (tw @PO (tw @N4 (tw @K1 (tw @jU (tw @fP (tw @IV (tw @dQ (tw @Oq (tw @OY (tw @zk (tw @l5 (tw @x1 (tw @e1 (tw @eN.eq_1 (tw @aA.eq_1 @fN.eq_1))))))))))))))))))))))))))))))) ?_;(repeat(refine Pn.mk ?_;intro N hN)))|((try apply Or.inl);refine⟨_,ar.x (Lh) (sd (tw @jq (tw @c0 (tw @c5 (tw @c8 (tw @c9 (tw @c7 (tw @H6 (tw @xF (tw @hx (tw @hA (tw @qn (tw @NN (tw @Lk (tw @iv (tw @mN (tw @sL (tw @PO (tw @N4 (tw @K1 (tw @jU (tw @fP (tw @IV (tw @dQ (tw @Oq (tw @OY (tw @zk (tw @l5 (tw @x1 (tw @e1 (tw @eN.eq_1 (tw @aA.eq_1 @fN.eq_1)))))))))))))))))))))))))))))))),?_⟩;refine hN _ _ ?_;clear hN N)))
      exact gx (sd (tw @jq (tw @c0 (tw @c5 (tw @c8 @c9))))) (⟨_,Q'++[bK bs e vt],⟨239020003,st_c.next+1+1+1+1+1+1⟩,by rw[List.length_append];simp only[go_sem, ↓reduceIte,Nat.reduceEqDiff,Nat.reduceAdd,Nat.reduceSub,Nat.reduceLeDiff,reduceCtorEq,List.length_cons,List.length_nil],by rw[List.map_append,List.map_cons,List.map_nil];simp only[go_sem, ↓reduceIte,Nat.reduceEqDiff,Nat.reduceAdd,Nat.reduceSub,Nat.reduceLeDiff,reduceCtorEq,eN],sd (tw @l5 @x1),by(try dsimp only);omega,by(try dsimp only);omega,hV,⟨by simp;omega,by rw[List.getElem_append_left xe];exact qt⟩,fun z hz hr=>by
       by_cases Ri:z=x
       ·subst Ri
        rw[<-Sn,if_pos rfl]
        have:=(dC.iff vt MR).2 (by rw[<-qt];exact List.getElem_mem xe)
        omega
       ·have:=Ko z (by omega) hr
        split
        ·have:=(dC.iff vt MR).2 (by rw[<-qt];exact List.getElem_mem xe)
         omega
        ·exact this⟩)
     ·(repeat(first|((repeat(revert hN;revert N;apply Pn.out));refine wk (tw @jq (tw @c0 (tw @c5 (tw @c8 (tw @c9 (tw @c7 (tw @H6 (tw @xF (tw @hx (tw @hA (tw @qn (tw @NN (tw @Lk (tw @iv (tw @mN (tw @sL (tw @PO (tw @N4 (tw @jU (tw @fP (tw @OY (tw @zk (tw @l5 (tw @x1 (tw @eN.eq_1 (tw @aA.eq_1 @fN.eq_1)))))))))))))))))))))))))) ?_;(repeat(refine Pn.mk ?_;intro N hN)))|((try apply Or.inl);refine⟨_,ar.x (Lh) (sd (tw @jq (tw @c0 (tw @c5 (tw @c8 (tw @c9 (tw @c7 (tw @H6 (tw @xF (tw @hx (tw @hA (tw @qn (tw @NN (tw @Lk (tw @iv (tw @mN (tw @sL (tw @PO (tw @N4 (tw @jU (tw @fP (tw @OY (tw @zk (tw @l5 (tw @x1 (tw @eN.eq_1 (tw @aA.eq_1 @fN.eq_1))))))))))))))))))))))))))),?_⟩;refine hN _ _ ?_;clear hN N)))
      exact gx (sd (tw @jq (tw @c0 (tw @c5 (tw @c8 @c9))))) (⟨iL,Q',p',sd @c7,sd (tw @H6 @zk),sd (tw @xF @l5),Dw,by(try dsimp only);omega,dC,⟨xe,qt⟩,fun z hz hr=>by
       by_cases Ri:z=x
       ·subst Ri;rw[<-Sn]at hr;exact absurd hr fP
       ·exact Ko z (by omega) hr⟩)
    ·(repeat(first|((repeat(revert hN;revert N;apply Pn.out));refine wk (tw @jq (tw @c0 (tw @c5 (tw @c8 (tw @c9 (tw @c7 (tw @H6 (tw @xF (tw @hx (tw @hA (tw @qn (tw @NN (tw @Lk (tw @iv (tw @mN (tw @sL (tw @PO (tw @N4 (tw @jU (tw @OY (tw @zk (tw @l5 (tw @x1 (tw @eN.eq_1 (tw @aA.eq_1 @fN.eq_1))))))))))))))))))))))))) ?_;(repeat(refine Pn.mk ?_;intro N hN)))|((try apply Or.inl);refine⟨_,ar.x (Lh) (sd (tw @jq (tw @c0 (tw @c5 (tw @c8 (tw @c9 (tw @c7 (tw @H6 (tw @xF (tw @hx (tw @hA (tw @qn (tw @NN (tw @Lk (tw @iv (tw @mN (tw @sL (tw @PO (tw @N4 (tw @jU (tw @OY (tw @zk (tw @l5 (tw @x1 (tw @eN.eq_1 (tw @aA.eq_1 @fN.eq_1)))))))))))))))))))))))))),?_⟩;refine hN _ _ ?_;clear hN N)))
     exact gx (sd (tw @jq (tw @c0 (tw @c5 (tw @c8 @c9))))) (⟨iL,Q',p',sd @c7,sd (tw @H6 @zk),sd (tw @xF @l5),Dw,by(try dsimp only);omega,dC,⟨xe,qt⟩,fun z hz hr=>by
      by_cases Ri:z=x
      ·subst Ri;rw[<-Sn];omega
      ·exact Ko z (by omega) hr⟩)
   ·have hxe:x=I.length:=by omega
    have hw:IntKind.i64.wrap ((i:Int)+1)=((i+1:Nat):Int):=az (by omega)
    (try((repeat(revert hN;revert N;apply Pn.out));refine wk (tw @jq (tw @c0 (tw @c5 (tw @c8 (tw @c9 (tw @c7 (tw @hx (tw @hA (tw @qn (tw @Lk @fN.eq_1)))))))))) ?_;(repeat(refine Pn.mk ?_;intro N hN))))
    refine⟨_,?_,i+1,iL,Q',p',rfl,sd (tw @jq (tw @c0 (tw @c5 (tw @c8 (tw @c9 @hw))))),sd @c7,sd @H6,sd @xF,Dw,by(try dsimp only);omega,dC.next xe fun e he hr=>?_,by omega⟩
    ·omega
    ·rw[qt,hIn]at he
     rw[qt]at hr ⊢
     obtain⟨z,hz,rfl⟩:=QV e he
     exact Ko z (by omega) hr
 ·(try((repeat(revert hN;revert N;apply Pn.out));refine wk (tw @b0 (tw @b5 (tw @b7 (tw @b8 (tw @hi @fN.eq_1))))) ?_;(repeat(refine Pn.mk ?_;intro N hN))))
  have sH:gi st_b.get 6 (.own o 0 k)=some (.sl (dU out k)):=ui bgo (by rw[SO];omega) (by rw[List.drop_zero,List.take_of_length_le (by rw[SO];omega)];exact JR)
  exact⟨_,rfl,_,by simp only[go_sem, ↓reduceIte,Nat.reduceEqDiff,Nat.reduceAdd,Nat.reduceSub,Nat.reduceLeDiff,reduceCtorEq,fc];exact sH,out,rfl,hB.done ok (by omega)⟩
end Go.Proofs.YtgoelphibofcmaaGreat.V

namespace Go.Proofs.YtgoelphibofcmaaGreat.V
open Go.RowKit
attribute [local irreducible] eb wpOps gj Call
attribute [local go_sem] aJ fM eP fZ fY cL upd cu K.av cN AV.cells AV.cell rowOf rowsOf part ld rowAt bI bW dD ee gT bL dc ev fU eY dr ej da cZ dO dR bR aX cR bQ cV cU eh ek ei cQ bV db ef bP aP cX cE gS bw cJ bU aW dx bj dE AV.undef bD bF dV ec dI dS cF eu eB cD ep eo cW cY List.getD_cons_zero List.getD_cons_succ List.getD_nil List.all_cons List.all_nil Bool.and_true Bool.true_and Bool.and_self Bool.not_true Bool.not_false Option.map_some Option.map_none Option.bind_some Option.bind_none List.length_cons List.length_nil List.take_succ_cons List.take_zero List.take_nil List.drop_succ_cons List.drop_zero List.drop_nil List.head?_cons List.map_cons List.map_nil List.getElem?_cons_zero List.getElem?_cons_succ List.cons_append List.nil_append List.append_nil List.length_map List.set_cons_zero List.set_cons_succ eq_self Int.toNat_natCast Int.natCast_nonneg and_self true_and and_true decide_true decide_false Bool.false_eq_true Nat.zero_add Nat.add_zero List.contains_cons List.contains_nil Bool.or_false Bool.false_or beq_self_eq_true ne_eq not_true_eq_false not_false_eq_true Id.mk.injEq false_and and_false Nat.le_refl List.length_append beq_true beq_false Bool.not_eq_eq_eq_not or_false false_or dM aj aq aH bd bz ck aU bf aT aZ cP bH
def Pp:Ct (List Nat):=fun g cs x ids=>(x=[]/\cs=[.cr]/\ids=[])∨∃id,cs=[.own id 0 x.length]/\0<x.length/\g id=some ⟨true,1,x.map eN⟩/\ids=[id]
theorem MY:wW Pp 1 where
 frame:=fun h hf=>by
  rcases h with h|⟨id,h1,h0,h2,h3⟩
  ·exact .inl h
  ·subst h3;exact .inr ⟨id,h1,h0,(hf id (by simp)).trans h2,rfl⟩
 len:=fun h=>by rcases h with⟨_,h,_⟩|⟨id,h,_⟩<;>subst h<;>rfl
 cell:=fun h=>by rcases h with⟨_,h,_⟩|⟨id,h,_⟩<;>subst h<;>rfl
 live:=fun h i hi=>by
  rcases h with⟨_,_,h⟩|⟨id,h1,h0,h2,h3⟩
  ·subst h;cases hi
  ·subst h3
   have:i=id:=by simpa using hi
   subst this
   exact⟨_,h2,rfl,by simp[rN]⟩
 small:=by simp[rN]
theorem OH {g:Rows} {rows:List (List AV)} {xs:List (List Nat)} {ids:List Id} (n:Nat) (h:eE Pp g rows xs ids):dY (dM g) (n+2) rows=some (xs.map fun l=>[OU l]):=
 h.fz (fun {cs x ids} h=>by
  rcases h with⟨h0,h1,_⟩|⟨id,h1,h0,h2,_⟩
  ·subst h0 h1;rw[aj,aq,aU];rfl
  ·have gU:x≠[]:=by rintro rfl;simp at h0
   subst h1
   rw[aj,aq,gY (e:=eN) (sz:=1) (by simp[dM,h2]) rfl fun a=>fzN _ n a]
   simp[OU,gU])
theorem eE.Rw {α:Type} {R:Ct α} {sz:Nat} {g:Rows} {rows:List (List AV)} {xs:List α} {ids:List Id} (ok:wW R sz) (h:eE R g rows xs ids) (lN:ids.Nodup) (k:Nat) (hk:k<xs.length):
  ∃cs ic,rows[k]? =some cs/\R g cs xs[k] ic/\(∀i∈ic,i∈ids)/\∀(g':Rows) pQ x' PY,R g' pQ x' PY->(∀i∈ids,i∉ic->g' i=g i)->PY.Nodup->(∀i∈PY,i∉ids)->∃DE,eE R g' (rows.set k pQ) (xs.set k x') DE/\DE.Nodup/\∀i∈DE,i∈PY∨i∈ids:=by
 obtain⟨r1,cs,r2,i1,ic,i2,rfl,rfl,rfl,h3,h4,h5⟩:=h.split k hk
 obtain⟨n1,n2,n3⟩:=List.nodup_append.1 lN
 obtain⟨nc,n5,n4⟩:=List.nodup_append.1 n2
 refine⟨cs,ic,by simp,h4,fun i hi=>by simp[hi],fun g' pQ x' PY hR hf hn' kH=>⟨i1++(PY++i2),?_,?_,fun i hi=>?_⟩⟩
 ·have e:xs.set r1.length x'=xs.take r1.length++x'::xs.drop (r1.length+1):=by rw[List.set_eq_take_append_cons_drop,if_pos hk]
  have e2:(r1++cs::r2).set r1.length pQ=r1++pQ::r2:=by simp
  rw[e,e2]
  refine(h3.frame ok fun i hi=>hf i (by simp[hi]) fun hc=>n3 i hi i (by simp[hc]) rfl).app (.cons hR (h5.frame ok fun i hi=>hf i (by simp[hi]) fun hc=>n4 i hc i hi rfl))
 ·rw[List.nodup_append,List.nodup_append]
  refine⟨n1,⟨hn',n5,fun x hx y hy he=>?_⟩,fun x hx y hy he=>?_⟩
  ·subst he;exact kH x hx (by simp[hy])
  ·subst he
   rcases List.mem_append.1 hy with hy|hy
   ·exact kH x hy (by simp[hx])
   ·exact n3 x hx x (by simp[hy]) rfl
 ·rcases List.mem_append.1 hi with hi|hi
  ·exact .inr (by simp[hi])
  ·rcases List.mem_append.1 hi with hi|hi
   ·exact .inl hi
   ·exact .inr (by simp[hi])
def qO (A:Id) (lo:Nat) (L:List (List Nat)) (g:Rows) (nx:Nat):Prop:=∃rows ids,g A=some ⟨true,1,rows⟩/\eE Pp g rows L ids/\ids.Nodup/\∀i∈ids,lo<i.bm/\i.bm<nx
def bt (cnt:Nat) (bs:List PB) (A F:Id):List AV:=[.int .i64 cnt,.sl (bs.map aA),.own A 0 cnt,.own F 0 bs.length]
def lg (cnt:Nat) (bs:List PB) (m:Nat):List (List Nat):=(List.range cnt).map fun v=>iR bs m v
theorem jj (cnt:Nat) (bs:List PB) (m:Nat):(lg cnt bs m).length=cnt:=by simp[lg]
structure nR (cnt:Nat) (bs:List PB) (f:Nat->Int) (X A F:Id) (g:Rows) (nx:Nat):Prop where
 x:g X=some ⟨true,4,[bt cnt bs A F]⟩
 a:qO A F.bm (lg cnt bs bs.length) g nx
 f:g F=some ⟨true,1,dU f bs.length⟩
 xa:X.bm<A.bm
 af:A.bm<F.bm
 fn:F.bm<nx
theorem qO.fz {A:Id} {lo cnt:Nat} {bs:List PB} {m nx n:Nat} {g:Rows} (h:qO A lo (lg cnt bs m) g nx):V.fz (dM g) (n+3) (.own A 0 cnt)=some (.sl (p4 cnt bs m)):=by
 obtain⟨rows,ids,h1,h2,_,_⟩:=h
 have hl:=h2.len
 rw[jj]at hl
 rw[ig]
 simp only[dM,h1,Option.map_some,if_true]
 rw[if_pos (by omega),List.drop_zero,List.take_of_length_le (by omega)]
 have:=OH n h2
 rw[this]
 simp[lg,p4]
theorem nR.fz {cnt:Nat} {bs:List PB} {f:Nat->Int} {X A F:Id} {g:Rows} {nx:Nat} (h:nR cnt bs f X A F g nx):V.fz (dM g) 6 (.ptr X 0 0)=some (.dj (fN cnt bs f)):=by
 have hF:dM g F=some ⟨true,1,dU f bs.length⟩:=by simp[dM,h.f]
 have hX:dM g X=some ⟨true,4,[bt cnt bs A F]⟩:=by simp[dM,h.x]
 have hf:V.fz (dM g) 5 (.own F 0 bs.length)=some (.sl (dU f bs.length)):=by
  rw[ig]
  simp only[hF,if_true]
  rw[if_pos (by rw[dy];omega),List.drop_zero,List.take_of_length_le (by rw[dy];omega),zX];rfl
 have ha:=h.a.fz (n:=2)
 rw[aZ]
 simp only[hX,if_true,List.getElem?_cons_zero,List.drop_zero,bt,aj,aq,aH,ck,ha,hf,Option.map_some,fN]
theorem Gp (cnt:Nat) (bs:List PB):lg cnt bs 0=List.replicate cnt []:=by
 refine List.ext_getElem? fun i=>?_
 simp only[lg,List.getElem?_map,List.getElem?_replicate]
 by_cases h:i<cnt
 ·rw[List.getElem?_range h,if_pos h];rfl
 ·rw[List.getElem?_eq_none (by simpa using h),if_neg h];rfl
theorem yv (g:Rows):∀n:Nat,eE Pp g (List.replicate n [.cr]) (List.replicate n []) []
 |0=>.nil
 |n+1=>.cons (i1:=[]) (.inl ⟨rfl,rfl,rfl⟩) (yv g n)
def xi (cnt:Nat) (bs:List PB) (m:Nat):List (List Nat):=(lg cnt bs m).set (cm bs m).a (iR bs m (cm bs m).a++[m])
theorem By {cnt:Nat} {bs:List PB} {m v:Nat} (hv:v<cnt) (gU:(cm bs m).a≠v):(xi cnt bs m)[v]? =some (iR bs m v):=by
 unfold xi
 rw[List.getElem?_set_ne gU]
 simp[lg,hv]
theorem Gn {cnt:Nat} {bs:List PB} {m:Nat} (ha:(cm bs m).a<cnt) (hb:(cm bs m).b<cnt) (gU:(cm bs m).a≠(cm bs m).b):(xi cnt bs m).set (cm bs m).b (iR bs m (cm bs m).b++[m])=lg cnt bs (m+1):=by
 refine List.ext_getElem? fun i=>?_
 by_cases hi:i<cnt
 ·have hr:(lg cnt bs (m+1))[i]? =some (iR bs (m+1) i):=by simp[lg,hi]
  rw[hr,Gq]
  by_cases h1:(cm bs m).b=i
  ·rw[List.getElem?_set,if_pos h1,if_pos (by simp[xi,jj];omega),if_pos (.inr h1),h1]
  ·rw[List.getElem?_set_ne h1]
   by_cases h2:(cm bs m).a=i
   ·unfold xi
    rw[List.getElem?_set,if_pos h2,if_pos (by rw[jj];omega),if_pos (.inl h2),h2]
   ·rw[By hi h2,if_neg (fun h=>h.elim h2 h1),List.append_nil]
 ·rw[List.getElem?_eq_none (by simp[xi,jj];omega),List.getElem?_eq_none (by rw[jj];omega)]
theorem kF {α:Type} {l:List α} {k:Nat} {x:α} (h:l[k]? =some x) (hk:k<l.length):l[k]=x:=by
 rw[List.getElem?_eq_getElem hk]at h;exact Option.some.inj h
theorem Fj {A K:Id} {lo Rt nx k j:Nat} {L:List (List Nat)} {La:List Nat} {g:Rows} {rows:List (List AV)} {ids:List Id} (hR:eE Pp g rows L ids) (lN:ids.Nodup) (nK:∀i∈ids,lo<i.bm/\i.bm<Rt) (hA:A.bm<=lo) (hL:L[k]? =some La) (hK1:Rt<=K.bm) (Qr:K.bm<nx) (jT:lo<Rt):
  ∃cs,rows[k]? =some cs/\((La=[]/\cs=[.cr])∨∃id:Id,cs=[.own id 0 La.length]/\0<La.length/\g id=some ⟨true,1,La.map eN⟩/\id.bm<Rt/\lo<id.bm)/\
   ∀g':Rows,g' A=some ⟨true,1,rows.set k [.own K 0 (La.length+1)]⟩->g' K=some ⟨true,1,La.map eN++[[.int .i64 j]]⟩->(∀i:Id,i.bm<Rt->(i=A)=False->(∀id,cs=[.own id 0 La.length]->(i=id)=False)->g' i=g i)->qO A lo (L.set k (La++[j])) g' nx:=by
 have hk:k<L.length:=(List.getElem?_eq_some_iff.1 hL).1
 have Tz:=kF hL hk
 obtain⟨cs,ic,dt,Px,QQ,rE⟩:=hR.Rw MY lN k hk
 rw[Tz]at Px
 refine⟨cs,dt,?_,fun g' h1 h2 h3=>?_⟩
 ·rcases Px with⟨h1,h2,_⟩|⟨id,h1,h2,h3,h4⟩
  ·exact .inl ⟨h1,h2⟩
  ·subst h4
   have:=nK id (QQ id (by simp))
   exact .inr ⟨id,h1,h2,h3,this.2,this.1⟩
 ·obtain⟨DE,q1,q2,q3⟩:=rE g' [.own K 0 (La.length+1)] (La++[j]) [K] (.inr ⟨K,by simp,by simp,by rw[h2];simp[eN],rfl⟩) (fun i hi Sz=>by
   refine h3 i (nK i hi).2 ?_ fun id hid=>?_
   ·simp only[eq_iff_iff,iff_false];rintro rfl;have:=nK _ hi;omega
   ·simp only[eq_iff_iff,iff_false]
    rintro rfl
    rcases Px with⟨_,h4,_⟩|⟨kI,h4,_,_,h5⟩
    ·rw[hid]at h4;cases h4
    ·rw[hid]at h4
     simp only[List.cons.injEq,AV.own.injEq,and_true]at h4
     rw[h5,h4]at Sz
     exact Sz (by simp)) (by simp) fun i hi hc=>by
   rw[List.mem_singleton.1 hi]at hc;have:=nK _ hc;omega
  refine⟨_,DE,h1,q1,q2,fun i hi=>?_⟩
  rcases q3 i hi with h|h
  ·rw[List.mem_singleton.1 h];omega
  ·have:=nK i h;omega
theorem Mj {P:Program} {Q:Ex->Env->au->Prop} {c:VC} {env:Env} {σ:au} (I:Env->au->Prop) (h2:∀e s,I e s->Q .normal e s) (h1:∀N':Env->au->Prop,(∀e s,I e s->N' e s)->eb (Call P) c (dx N' Q) env σ):eb (Call P) c Q env σ:=by
 refine k6 (fun _ _ _ _ h=>h) aL c _ _ env σ (fun x e s h=>?_) (h1 I fun _ _ h=>h)
 cases x with
 |normal=>exact h2 e s h
 |exit id=>exact h
 |ret=>exact h
end Go.Proofs.YtgoelphibofcmaaGreat.V

namespace Go.Proofs.YtgoelphibofcmaaGreat.V
open Go.RowKit
attribute [local irreducible] eb wpOps gj Call
attribute [local go_sem] aJ fM eP fZ fY cL upd cu K.av cN AV.cells AV.cell rowOf rowsOf part ld rowAt bI bW dD ee gT bL dc ev fU eY dr ej da cZ dO dR bR aX cR bQ cV cU eh ek ei cQ bV db ef bP aP cX cE gS bw cJ bU aW dx bj dE AV.undef bD bF dV ec dI dS cF eu eB cD ep eo cW cY List.getD_cons_zero List.getD_cons_succ List.getD_nil List.all_cons List.all_nil Bool.and_true Bool.true_and Bool.and_self Bool.not_true Bool.not_false Option.map_some Option.map_none Option.bind_some Option.bind_none List.length_cons List.length_nil List.take_succ_cons List.take_zero List.take_nil List.drop_succ_cons List.drop_zero List.drop_nil List.head?_cons List.map_cons List.map_nil List.getElem?_cons_zero List.getElem?_cons_succ List.cons_append List.nil_append List.append_nil List.length_map List.set_cons_zero List.set_cons_succ Nat.reduceMul eq_self Int.toNat_natCast Int.natCast_nonneg and_self true_and and_true decide_true decide_false Bool.false_eq_true Nat.zero_add Nat.add_zero List.contains_cons List.contains_nil Bool.or_false Bool.false_or beq_self_eq_true Nat.reduceBEq ne_eq not_true_eq_false not_false_eq_true Id.mk.injEq false_and and_false Nat.reduceLT Int.reduceLE Int.reduceLT Int.reduceToNat Int.reduceNeg Int.reduceAdd Nat.le_refl List.length_append beq_true beq_false Bool.not_eq_eq_eq_not or_false false_or dM aj aq aH bd bz ck aU bf aT aZ cP bH
theorem I3 (cnt:Nat) (hn:cnt<=1048576) (bs:List PB) (ok:nq cnt bs) (nH:bs.length<=1048576) (σ:au):
  Call Tryz.prog 237 [.int .i64 cnt,.sl (bs.map aA)] σ fun r σ'=>∃X A F,r=.ptr X 0 0/\σ.next<=X.bm/\nR cnt bs (fun _=>0) X A F σ'.get σ'.next:=by
 refine Hz Nw rfl fun hl=>?_
 try simp only[q]
 clear hl
 have jA:(0:Int)<=(cnt:Int):=by omega
 have pE:(cnt:Int)<=((16777216:Nat):Int):=by omega
 have Di:(0:Int)<=(bs.length:Int):=by omega
 have Hr:(bs.length:Int)<=((16777216:Nat):Int):=by omega
 have hz:List.replicate bs.length [AV.int .i64 0]=dU (fun _=>0) bs.length:=by
  refine List.ext_getElem? fun i=>?_
  by_cases h:i<bs.length
  ·rw[dJ h,List.getElem?_replicate,if_pos h];rfl
  ·rw[List.getElem?_eq_none (by simp;omega),List.getElem?_eq_none (by rw[dy];omega)]
 (try((repeat(revert hN;revert N;apply Pn.out));refine wk (tw @jA (tw @pE (tw @Di (tw @Hr (tw @Int.le_refl @hz))))) ?_;(repeat(refine Pn.mk ?_;intro N hN))))
 obtain⟨X,hX⟩:∃X:Id,X=⟨237001003,σ.next+1⟩:=⟨_,rfl⟩
 obtain⟨A,hA⟩:∃X:Id,X=⟨237002002,σ.next+1+1⟩:=⟨_,rfl⟩
 obtain⟨F,hF⟩:∃X:Id,X=⟨237003003,σ.next+1+1+1⟩:=⟨_,rfl⟩
 have hXA:X.bm<A.bm:=by rw[hX,hA];(try dsimp only);omega
 have hAF:A.bm<F.bm:=by rw[hA,hF];(try dsimp only);omega
 have hXs:σ.next<=X.bm:=by rw[hX];(try dsimp only);omega
 refine aO (fun n env st=>∃j:Nat,n=(bs.length)-j/\j<=(bs.length)/\env 6=.int .i64 (j:Int)/\env 5=(.ptr X 0 0)/\st.get X=some ⟨true,4,[bt cnt bs A F]⟩/\st.get F=some ⟨true,1,dU (fun _=>0) bs.length⟩/\(qO A F.bm (lg cnt bs j) st.get st.next/\F.bm<st.next)) (bs.length) ⟨0,by omega,by omega,by(try simp only[go_sem, ↓reduceIte,Nat.reduceEqDiff,Nat.reduceAdd,Nat.reduceSub,Nat.reduceLeDiff,reduceCtorEq,hX,hF,hA,bt,hz]);try rfl,by(try simp only[go_sem, ↓reduceIte,Nat.reduceEqDiff,Nat.reduceAdd,Nat.reduceSub,Nat.reduceLeDiff,reduceCtorEq,hX,hF,hA,bt,hz]);try rfl,by(try simp only[go_sem, ↓reduceIte,Nat.reduceEqDiff,Nat.reduceAdd,Nat.reduceSub,Nat.reduceLeDiff,reduceCtorEq,hX,hF,hA,bt,hz]);try rfl,by(try simp only[go_sem, ↓reduceIte,Nat.reduceEqDiff,Nat.reduceAdd,Nat.reduceSub,Nat.reduceLeDiff,reduceCtorEq,hX,hF,hA,bt,hz]);try rfl,⟨⟨List.replicate cnt [.cr],[],by rw[hA];(simp only[go_sem, ↓reduceIte,Nat.reduceEqDiff,Nat.reduceAdd,Nat.reduceSub,Nat.reduceLeDiff,reduceCtorEq])<;>rfl,by rw[Gp];exact yv _ _,List.nodup_nil,fun i hi=>by cases hi⟩,by rw[hF];(try dsimp only);omega⟩⟩ ?_
 rintro n_a env_a st_a ⟨j,rfl,ale,a6,a5,ag0,ag1,ke⟩ dv
 have a0:=dv 0 (by kernel_rfl);have a1:=dv 1 (by kernel_rfl)
 simp only[go_sem, ↓reduceIte,Nat.reduceEqDiff,Nat.reduceAdd,Nat.reduceSub,Nat.reduceLeDiff,reduceCtorEq,hX,hF,hA,bt,hz]at a0 a1
 clear dv
 obtain⟨⟨rows,ids,ag,hR,lN,nK⟩,hFn⟩:=ke
 have x1:=dq hXA
 have x2:=dq hAF
 have x3:=dq (a:=X) (b:=F) (by omega)
 have vX:=dz (i:=X) (n:=st_a.next) (by omega)
 have vA:=dz (i:=A) (n:=st_a.next) (by omega)
 have vF:=dz (i:=F) (n:=st_a.next) (by omega)
 by_cases hj:(j:Int)<(bs.length:Int)
 ·have cz:∀{e:Env} {gg:Rows} {nx:Nat},(e 6=.int .i64 (IntKind.i64.wrap ((j:Int)+1)))->(e 5=(.ptr X 0 0))->(gg X=some ⟨true,4,[bt cnt bs A F]⟩)->(gg F=some ⟨true,1,dU (fun _=>0) bs.length⟩)->(qO A F.bm (lg cnt bs (j+1)) gg nx/\F.bm<nx)->∃m0,m0<(bs.length)-j/\∃j:Nat,m0=(bs.length)-j/\j<=(bs.length)/\e 6=.int .i64 (j:Int)/\e 5=(.ptr X 0 0)/\gg X=some ⟨true,4,[bt cnt bs A F]⟩/\gg F=some ⟨true,1,dU (fun _=>0) bs.length⟩/\(qO A F.bm (lg cnt bs j) gg nx/\F.bm<nx):=fun x1 x2 x3 x4 x5=>⟨_,by omega,j+1,rfl,by omega,(by rw[x1,az (by omega)]),x2,x3,x4,x5⟩
  have ia:j<bs.length:=by omega
  have iv:=ud ia
  obtain⟨ha1,Qz,gU⟩:=ok j ia
  have gC:((cm bs j).a:Int)<(cnt:Int):=by omega
  have fo:((cm bs j).b:Int)<(cnt:Int):=by omega
  have o3:=Gn (m:=j) ha1 Qz gU
  have e1:=rI bs j (cm bs j).a
  have e2:=rI bs j (cm bs j).b
  have N3:(xi cnt bs j)[(cm bs j).b]? =some (iR bs j (cm bs j).b):=By Qz gU
  have QM:(lg cnt bs j)[(cm bs j).a]? =some (iR bs j (cm bs j).a):=by simp[lg,ha1]
  have Tk:xi cnt bs j=(lg cnt bs j).set (cm bs j).a (iR bs j (cm bs j).a++[j]):=rfl
  have Ix:(xi cnt bs j).length=cnt:=by rw[Tk,List.length_set,jj]
  have ja:=hR.len
  rw[jj]at ja
  obtain⟨cs7,jh,IA,IM⟩:=Fj (A:=A) (K:=⟨237007022,st_a.next+1⟩) (nx:=st_a.next+1+1) (j:=j) hR lN nK (by omega) QM (by(try dsimp only);omega) (by(try dsimp only);omega) hFn
  rw[<-Tk]at IM
  obtain⟨c7,rfl⟩:∃c,cs7=[c]:=by
   rcases IA with⟨_,h⟩|⟨id,h,_⟩<;>exact⟨_,h⟩
  generalize iR bs j (cm bs j).a=La at *
  generalize iR bs j (cm bs j).b=Lb at *
  generalize cm bs j=b at *
  generalize xi cnt bs j=LA at *
  clear Tk
  (try((repeat(revert hN;revert N;apply Pn.out));refine wk (tw @a6 (tw @a5 (tw @ag0 (tw @ag1 (tw @a0 (tw @a1 (tw @hj (tw @iv (tw @aA.eq_1 (tw @ag (tw @jh (tw @gC (tw @fo (tw @ja (tw @x1 (tw @x2 (tw @x3 (tw @vX (tw @vA (tw @vF @bt.eq_1)))))))))))))))))))) ?_;(repeat(refine Pn.mk ?_;intro N hN))))
  refine Ez (fun e s=>e 0=.int .i64 cnt/\e 1=.sl (bs.map aA)/\e 5=.ptr X 0 0/\e 6=.int .i64 j/\s.get X=some ⟨true,4,[bt cnt bs A F]⟩/\s.get F=some ⟨true,1,dU (fun _=>0) bs.length⟩/\qO A F.bm LA s.get s.next/\F.bm<s.next) ?_ ?_
  ·rintro e1 s1 ⟨m0,m1,m5,m6,mX,mF,⟨rows1,ids1,mg,mR,mnd,mver⟩,mn⟩
   refine hN _ _ ?_
   clear hN N
   have jb:=mR.len
   rw[Ix]at jb
   have wX:=dz (i:=X) (n:=s1.next) (by omega)
   have wA:=dz (i:=A) (n:=s1.next) (by omega)
   have wF:=dz (i:=F) (n:=s1.next) (by omega)
   obtain⟨cs8,ji,IB,IP⟩:=Fj (A:=A) (K:=⟨237008022,s1.next⟩) (nx:=s1.next+1) (j:=j) mR mnd mver (by omega) N3 (by(try dsimp only);omega) (by(try dsimp only);omega) mn
   rw[o3]at IP
   obtain⟨c8,rfl⟩:∃c,cs8=[c]:=by
    rcases IB with⟨_,h⟩|⟨id,h,_⟩<;>exact⟨_,h⟩
   (try((repeat(revert hN;revert N;apply Pn.out));refine wk (tw @m0 (tw @m1 (tw @m5 (tw @m6 (tw @mX (tw @mF (tw @hj (tw @iv (tw @aA.eq_1 (tw @mg (tw @ji (tw @gC (tw @fo (tw @jb (tw @x1 (tw @x2 (tw @x3 (tw @wX (tw @wA (tw @wF @bt.eq_1)))))))))))))))))))) ?_;(repeat(refine Pn.mk ?_;intro N hN))))
   refine Mj (fun e s=>e 0=.int .i64 cnt/\e 1=.sl (bs.map aA)/\e 5=.ptr X 0 0/\e 6=.int .i64 j/\s.get X=some ⟨true,4,[bt cnt bs A F]⟩/\s.get F=some ⟨true,1,dU (fun _=>0) bs.length⟩/\qO A F.bm (lg cnt bs (j+1)) s.get s.next/\F.bm<s.next) ?_ ?_
   ·rintro e2 s2 ⟨p0,p1,p5,p6,pX,pF,pL,pn⟩
    simp only[dx,bj]
    refine hN _ _ ?_
    clear hN N
    (try((repeat(revert hN;revert N;apply Pn.out));refine wk (tw @p0 (tw @p1 (tw @p5 @p6))) ?_;(repeat(refine Pn.mk ?_;intro N hN))))
    refine cz ?_ ?_ ?_ ?_ (⟨by obtain⟨r,i,q1,q2,q3,q4⟩:=pL;exact⟨r,i,sd @q1,q2,q3,fun x hx=>by have:=q4 x hx;(try dsimp only);omega⟩,by(try dsimp only);omega⟩)
    all_goals simp only[go_sem, ↓reduceIte,Nat.reduceEqDiff,Nat.reduceAdd,Nat.reduceSub,Nat.reduceLeDiff,reduceCtorEq,p0,p1,p5,p6,pX,pF]
   ·intro N hN
    rcases IB with⟨Qt,zd⟩|⟨id,zd,hLp,hid,K2,xS⟩
    ·simp only[List.cons.injEq,and_true]at zd
     subst zd
     subst Qt
     refine e7 ?_ ?_<;>(try((repeat(revert hN;revert N;apply Pn.out));refine wk (tw @m0 (tw @m1 (tw @m5 (tw @m6 (tw @mX (tw @mF (tw @hj (tw @iv (tw @aA.eq_1 (tw @mg (tw @ji (tw @gC (tw @fo (tw @jb (tw @x1 (tw @x2 (tw @x3 (tw @wX (tw @wA (tw @wF @bt.eq_1)))))))))))))))))))) ?_;(repeat(refine Pn.mk ?_;intro N hN))))<;>(try refine e7 ?_ ?_)<;>(try((repeat(revert hN;revert N;apply Pn.out));refine wk (tw @m0 (tw @m1 (tw @m5 (tw @m6 (tw @mX (tw @mF (tw @hj (tw @iv (tw @aA.eq_1 (tw @mg (tw @ji (tw @gC (tw @fo (tw @jb (tw @x1 (tw @x2 (tw @x3 (tw @wX (tw @wA (tw @wF @bt.eq_1)))))))))))))))))))) ?_;(repeat(refine Pn.mk ?_;intro N hN))))<;>(try refine e7 ?_ ?_)<;>(try((repeat(revert hN;revert N;apply Pn.out));refine wk (tw @m0 (tw @m1 (tw @m5 (tw @m6 (tw @mX (tw @mF (tw @hj (tw @iv (tw @aA.eq_1 (tw @mg (tw @ji (tw @gC (tw @fo (tw @jb (tw @x1 (tw @x2 (tw @x3 (tw @wX (tw @wA (tw @wF @bt.eq_1)))))))))))))))))))) ?_;(repeat(refine Pn.mk ?_;intro N hN))))<;>(try refine e7 ?_ ?_)<;>(try((repeat(revert hN;revert N;apply Pn.out));refine wk (tw @m0 (tw @m1 (tw @m5 (tw @m6 (tw @mX (tw @mF (tw @hj (tw @iv (tw @aA.eq_1 (tw @mg (tw @ji (tw @gC (tw @fo (tw @jb (tw @x1 (tw @x2 (tw @x3 (tw @wX (tw @wA (tw @wF @bt.eq_1)))))))))))))))))))) ?_;(repeat(refine Pn.mk ?_;intro N hN))))<;>(try refine e7 ?_ ?_)<;>(try((repeat(revert hN;revert N;apply Pn.out));refine wk (tw @m0 (tw @m1 (tw @m5 (tw @m6 (tw @mX (tw @mF (tw @hj (tw @iv (tw @aA.eq_1 (tw @mg (tw @ji (tw @gC (tw @fo (tw @jb (tw @x1 (tw @x2 (tw @x3 (tw @wX (tw @wA (tw @wF @bt.eq_1)))))))))))))))))))) ?_;(repeat(refine Pn.mk ?_;intro N hN))))<;>(try refine e7 ?_ ?_)<;>(try((repeat(revert hN;revert N;apply Pn.out));refine wk (tw @m0 (tw @m1 (tw @m5 (tw @m6 (tw @mX (tw @mF (tw @hj (tw @iv (tw @aA.eq_1 (tw @mg (tw @ji (tw @gC (tw @fo (tw @jb (tw @x1 (tw @x2 (tw @x3 (tw @wX (tw @wA (tw @wF @bt.eq_1)))))))))))))))))))) ?_;(repeat(refine Pn.mk ?_;intro N hN))))
     all_goals
      refine⟨by simp only[go_sem, ↓reduceIte,Nat.reduceEqDiff,Nat.reduceAdd,Nat.reduceSub,Nat.reduceLeDiff,reduceCtorEq,m0,m1,m5,m6,mX,mF,hj,iv,aA,mg,ji,gC,fo,jb,x1,x2,x3,wX,wA,wF,bt],by simp only[go_sem, ↓reduceIte,Nat.reduceEqDiff,Nat.reduceAdd,Nat.reduceSub,Nat.reduceLeDiff,reduceCtorEq,m0,m1,m5,m6,mX,mF,hj,iv,aA,mg,ji,gC,fo,jb,x1,x2,x3,wX,wA,wF,bt],by simp only[go_sem, ↓reduceIte,Nat.reduceEqDiff,Nat.reduceAdd,Nat.reduceSub,Nat.reduceLeDiff,reduceCtorEq,m0,m1,m5,m6,mX,mF,hj,iv,aA,mg,ji,gC,fo,jb,x1,x2,x3,wX,wA,wF,bt],by simp only[go_sem, ↓reduceIte,Nat.reduceEqDiff,Nat.reduceAdd,Nat.reduceSub,Nat.reduceLeDiff,reduceCtorEq,m0,m1,m5,m6,mX,mF,hj,iv,aA,mg,ji,gC,fo,jb,x1,x2,x3,wX,wA,wF,bt],by simp only[go_sem, ↓reduceIte,Nat.reduceEqDiff,Nat.reduceAdd,Nat.reduceSub,Nat.reduceLeDiff,reduceCtorEq,m0,m1,m5,m6,mX,mF,hj,iv,aA,mg,ji,gC,fo,jb,x1,x2,x3,wX,wA,wF,bt],by simp only[go_sem, ↓reduceIte,Nat.reduceEqDiff,Nat.reduceAdd,Nat.reduceSub,Nat.reduceLeDiff,reduceCtorEq,m0,m1,m5,m6,mX,mF,hj,iv,aA,mg,ji,gC,fo,jb,x1,x2,x3,wX,wA,wF,bt],IP _ (by simp only[go_sem, ↓reduceIte,Nat.reduceEqDiff,Nat.reduceAdd,Nat.reduceSub,Nat.reduceLeDiff,reduceCtorEq,m0,m1,m5,m6,mX,mF,hj,iv,aA,mg,ji,gC,fo,jb,x1,x2,x3,wX,wA,wF,bt,List.length_nil]) (by simp only[go_sem, ↓reduceIte,Nat.reduceEqDiff,Nat.reduceAdd,Nat.reduceSub,Nat.reduceLeDiff,reduceCtorEq,m0,m1,m5,m6,mX,mF,hj,iv,aA,mg,ji,gC,fo,jb,x1,x2,x3,wX,wA,wF,bt,List.map_nil,List.nil_append]) (fun i hi N6 fI=>?_),by(try dsimp only);omega⟩
      clear fI
      simp only[go_sem, ↓reduceIte,Nat.reduceEqDiff,Nat.reduceAdd,Nat.reduceSub,Nat.reduceLeDiff,reduceCtorEq,wX,wA,wF,dz hi,N6]
    ·simp only[List.cons.injEq,and_true]at zd
     subst zd
     have r9:=dz K2
     have y1:=dq (a:=A) (b:=id) (by omega)
     have y2:=dq (a:=F) (b:=id) xS
     have y3:=dq (a:=X) (b:=id) (by omega)
     have e3:Lb.length+1<=16777216:=by omega
     have z1:(Lb.map eN).length=Lb.length:=by simp
     refine e7 ?_ ?_<;>(try((repeat(revert hN;revert N;apply Pn.out));refine wk (tw @m0 (tw @m1 (tw @m5 (tw @m6 (tw @mX (tw @mF (tw @hj (tw @iv (tw @aA.eq_1 (tw @mg (tw @ji (tw @gC (tw @fo (tw @jb (tw @x1 (tw @x2 (tw @x3 (tw @wX (tw @wA (tw @wF (tw @bt.eq_1 (tw @hid (tw @r9 (tw @y1 (tw @y2 (tw @y3 (tw @e3 @z1))))))))))))))))))))))))))) ?_;(repeat(refine Pn.mk ?_;intro N hN))))<;>(try refine e7 ?_ ?_)<;>(try((repeat(revert hN;revert N;apply Pn.out));refine wk (tw @m0 (tw @m1 (tw @m5 (tw @m6 (tw @mX (tw @mF (tw @hj (tw @iv (tw @aA.eq_1 (tw @mg (tw @ji (tw @gC (tw @fo (tw @jb (tw @x1 (tw @x2 (tw @x3 (tw @wX (tw @wA (tw @wF (tw @bt.eq_1 (tw @hid (tw @r9 (tw @y1 (tw @y2 (tw @y3 (tw @e3 @z1))))))))))))))))))))))))))) ?_;(repeat(refine Pn.mk ?_;intro N hN))))<;>(try refine e7 ?_ ?_)<;>(try((repeat(revert hN;revert N;apply Pn.out));refine wk (tw @m0 (tw @m1 (tw @m5 (tw @m6 (tw @mX (tw @mF (tw @hj (tw @iv (tw @aA.eq_1 (tw @mg (tw @ji (tw @gC (tw @fo (tw @jb (tw @x1 (tw @x2 (tw @x3 (tw @wX (tw @wA (tw @wF (tw @bt.eq_1 (tw @hid (tw @r9 (tw @y1 (tw @y2 (tw @y3 (tw @e3 @z1))))))))))))))))))))))))))) ?_;(repeat(refine Pn.mk ?_;intro N hN))))<;>(try refine e7 ?_ ?_)<;>(try((repeat(revert hN;revert N;apply Pn.out));refine wk (tw @m0 (tw @m1 (tw @m5 (tw @m6 (tw @mX (tw @mF (tw @hj (tw @iv (tw @aA.eq_1 (tw @mg (tw @ji (tw @gC (tw @fo (tw @jb (tw @x1 (tw @x2 (tw @x3 (tw @wX (tw @wA (tw @wF (tw @bt.eq_1 (tw @hid (tw @r9 (tw @y1 (tw @y2 (tw @y3 (tw @e3 @z1))))))))))))))))))))))))))) ?_;(repeat(refine Pn.mk ?_;intro N hN))))<;>(try refine e7 ?_ ?_)<;>(try((repeat(revert hN;revert N;apply Pn.out));refine wk (tw @m0 (tw @m1 (tw @m5 (tw @m6 (tw @mX (tw @mF (tw @hj (tw @iv (tw @aA.eq_1 (tw @mg (tw @ji (tw @gC (tw @fo (tw @jb (tw @x1 (tw @x2 (tw @x3 (tw @wX (tw @wA (tw @wF (tw @bt.eq_1 (tw @hid (tw @r9 (tw @y1 (tw @y2 (tw @y3 (tw @e3 @z1))))))))))))))))))))))))))) ?_;(repeat(refine Pn.mk ?_;intro N hN))))<;>(try refine e7 ?_ ?_)<;>(try((repeat(revert hN;revert N;apply Pn.out));refine wk (tw @m0 (tw @m1 (tw @m5 (tw @m6 (tw @mX (tw @mF (tw @hj (tw @iv (tw @aA.eq_1 (tw @mg (tw @ji (tw @gC (tw @fo (tw @jb (tw @x1 (tw @x2 (tw @x3 (tw @wX (tw @wA (tw @wF (tw @bt.eq_1 (tw @hid (tw @r9 (tw @y1 (tw @y2 (tw @y3 (tw @e3 @z1))))))))))))))))))))))))))) ?_;(repeat(refine Pn.mk ?_;intro N hN))))
     all_goals
      refine⟨by simp only[go_sem, ↓reduceIte,Nat.reduceEqDiff,Nat.reduceAdd,Nat.reduceSub,Nat.reduceLeDiff,reduceCtorEq,m0,m1,m5,m6,mX,mF,hj,iv,aA,mg,ji,gC,fo,jb,x1,x2,x3,wX,wA,wF,bt,hid,r9,y1,y2,y3,e3,z1],by simp only[go_sem, ↓reduceIte,Nat.reduceEqDiff,Nat.reduceAdd,Nat.reduceSub,Nat.reduceLeDiff,reduceCtorEq,m0,m1,m5,m6,mX,mF,hj,iv,aA,mg,ji,gC,fo,jb,x1,x2,x3,wX,wA,wF,bt,hid,r9,y1,y2,y3,e3,z1],by simp only[go_sem, ↓reduceIte,Nat.reduceEqDiff,Nat.reduceAdd,Nat.reduceSub,Nat.reduceLeDiff,reduceCtorEq,m0,m1,m5,m6,mX,mF,hj,iv,aA,mg,ji,gC,fo,jb,x1,x2,x3,wX,wA,wF,bt,hid,r9,y1,y2,y3,e3,z1],by simp only[go_sem, ↓reduceIte,Nat.reduceEqDiff,Nat.reduceAdd,Nat.reduceSub,Nat.reduceLeDiff,reduceCtorEq,m0,m1,m5,m6,mX,mF,hj,iv,aA,mg,ji,gC,fo,jb,x1,x2,x3,wX,wA,wF,bt,hid,r9,y1,y2,y3,e3,z1],by simp only[go_sem, ↓reduceIte,Nat.reduceEqDiff,Nat.reduceAdd,Nat.reduceSub,Nat.reduceLeDiff,reduceCtorEq,m0,m1,m5,m6,mX,mF,hj,iv,aA,mg,ji,gC,fo,jb,x1,x2,x3,wX,wA,wF,bt,hid,r9,y1,y2,y3,e3,z1],by simp only[go_sem, ↓reduceIte,Nat.reduceEqDiff,Nat.reduceAdd,Nat.reduceSub,Nat.reduceLeDiff,reduceCtorEq,m0,m1,m5,m6,mX,mF,hj,iv,aA,mg,ji,gC,fo,jb,x1,x2,x3,wX,wA,wF,bt,hid,r9,y1,y2,y3,e3,z1],IP _ (by simp only[go_sem, ↓reduceIte,Nat.reduceEqDiff,Nat.reduceAdd,Nat.reduceSub,Nat.reduceLeDiff,reduceCtorEq,m0,m1,m5,m6,mX,mF,hj,iv,aA,mg,ji,gC,fo,jb,x1,x2,x3,wX,wA,wF,bt,hid,r9,y1,y2,y3,e3,z1,List.length_nil]) (by simp only[go_sem, ↓reduceIte,Nat.reduceEqDiff,Nat.reduceAdd,Nat.reduceSub,Nat.reduceLeDiff,reduceCtorEq,m0,m1,m5,m6,mX,mF,hj,iv,aA,mg,ji,gC,fo,jb,x1,x2,x3,wX,wA,wF,bt,hid,r9,y1,y2,y3,e3,z1,List.map_nil,List.nil_append]) (fun i hi N6 fI=>?_),by(try dsimp only);omega⟩
      have gU:=fI id rfl
      simp only[go_sem, ↓reduceIte,Nat.reduceEqDiff,Nat.reduceAdd,Nat.reduceSub,Nat.reduceLeDiff,reduceCtorEq,wX,wA,wF,dz hi,N6,gU]
  ·intro N hN
   rcases IA with⟨Qt,zd⟩|⟨id,zd,hLp,hid,K2,xS⟩
   ·simp only[List.cons.injEq,and_true]at zd
    subst zd
    subst Qt
    refine e7 ?_ ?_<;>(try((repeat(revert hN;revert N;apply Pn.out));refine wk (tw @a6 (tw @a5 (tw @ag0 (tw @ag1 (tw @a0 (tw @a1 (tw @hj (tw @iv (tw @aA.eq_1 (tw @ag (tw @jh (tw @gC (tw @fo (tw @ja (tw @x1 (tw @x2 (tw @x3 (tw @vX (tw @vA (tw @vF @bt.eq_1)))))))))))))))))))) ?_;(repeat(refine Pn.mk ?_;intro N hN))))<;>(try refine e7 ?_ ?_)<;>(try((repeat(revert hN;revert N;apply Pn.out));refine wk (tw @a6 (tw @a5 (tw @ag0 (tw @ag1 (tw @a0 (tw @a1 (tw @hj (tw @iv (tw @aA.eq_1 (tw @ag (tw @jh (tw @gC (tw @fo (tw @ja (tw @x1 (tw @x2 (tw @x3 (tw @vX (tw @vA (tw @vF @bt.eq_1)))))))))))))))))))) ?_;(repeat(refine Pn.mk ?_;intro N hN))))<;>(try refine e7 ?_ ?_)<;>(try((repeat(revert hN;revert N;apply Pn.out));refine wk (tw @a6 (tw @a5 (tw @ag0 (tw @ag1 (tw @a0 (tw @a1 (tw @hj (tw @iv (tw @aA.eq_1 (tw @ag (tw @jh (tw @gC (tw @fo (tw @ja (tw @x1 (tw @x2 (tw @x3 (tw @vX (tw @vA (tw @vF @bt.eq_1)))))))))))))))))))) ?_;(repeat(refine Pn.mk ?_;intro N hN))))<;>(try refine e7 ?_ ?_)<;>(try((repeat(revert hN;revert N;apply Pn.out));refine wk (tw @a6 (tw @a5 (tw @ag0 (tw @ag1 (tw @a0 (tw @a1 (tw @hj (tw @iv (tw @aA.eq_1 (tw @ag (tw @jh (tw @gC (tw @fo (tw @ja (tw @x1 (tw @x2 (tw @x3 (tw @vX (tw @vA (tw @vF @bt.eq_1)))))))))))))))))))) ?_;(repeat(refine Pn.mk ?_;intro N hN))))<;>(try refine e7 ?_ ?_)<;>(try((repeat(revert hN;revert N;apply Pn.out));refine wk (tw @a6 (tw @a5 (tw @ag0 (tw @ag1 (tw @a0 (tw @a1 (tw @hj (tw @iv (tw @aA.eq_1 (tw @ag (tw @jh (tw @gC (tw @fo (tw @ja (tw @x1 (tw @x2 (tw @x3 (tw @vX (tw @vA (tw @vF @bt.eq_1)))))))))))))))))))) ?_;(repeat(refine Pn.mk ?_;intro N hN))))<;>(try refine e7 ?_ ?_)<;>(try((repeat(revert hN;revert N;apply Pn.out));refine wk (tw @a6 (tw @a5 (tw @ag0 (tw @ag1 (tw @a0 (tw @a1 (tw @hj (tw @iv (tw @aA.eq_1 (tw @ag (tw @jh (tw @gC (tw @fo (tw @ja (tw @x1 (tw @x2 (tw @x3 (tw @vX (tw @vA (tw @vF @bt.eq_1)))))))))))))))))))) ?_;(repeat(refine Pn.mk ?_;intro N hN))))
    all_goals
     refine⟨by simp only[go_sem, ↓reduceIte,Nat.reduceEqDiff,Nat.reduceAdd,Nat.reduceSub,Nat.reduceLeDiff,reduceCtorEq,a6,a5,ag0,ag1,a0,a1,hj,iv,aA,ag,jh,gC,fo,ja,x1,x2,x3,vX,vA,vF,bt],by simp only[go_sem, ↓reduceIte,Nat.reduceEqDiff,Nat.reduceAdd,Nat.reduceSub,Nat.reduceLeDiff,reduceCtorEq,a6,a5,ag0,ag1,a0,a1,hj,iv,aA,ag,jh,gC,fo,ja,x1,x2,x3,vX,vA,vF,bt],by simp only[go_sem, ↓reduceIte,Nat.reduceEqDiff,Nat.reduceAdd,Nat.reduceSub,Nat.reduceLeDiff,reduceCtorEq,a6,a5,ag0,ag1,a0,a1,hj,iv,aA,ag,jh,gC,fo,ja,x1,x2,x3,vX,vA,vF,bt],by simp only[go_sem, ↓reduceIte,Nat.reduceEqDiff,Nat.reduceAdd,Nat.reduceSub,Nat.reduceLeDiff,reduceCtorEq,a6,a5,ag0,ag1,a0,a1,hj,iv,aA,ag,jh,gC,fo,ja,x1,x2,x3,vX,vA,vF,bt],by simp only[go_sem, ↓reduceIte,Nat.reduceEqDiff,Nat.reduceAdd,Nat.reduceSub,Nat.reduceLeDiff,reduceCtorEq,a6,a5,ag0,ag1,a0,a1,hj,iv,aA,ag,jh,gC,fo,ja,x1,x2,x3,vX,vA,vF,bt],by simp only[go_sem, ↓reduceIte,Nat.reduceEqDiff,Nat.reduceAdd,Nat.reduceSub,Nat.reduceLeDiff,reduceCtorEq,a6,a5,ag0,ag1,a0,a1,hj,iv,aA,ag,jh,gC,fo,ja,x1,x2,x3,vX,vA,vF,bt],IM _ (by simp only[go_sem, ↓reduceIte,Nat.reduceEqDiff,Nat.reduceAdd,Nat.reduceSub,Nat.reduceLeDiff,reduceCtorEq,a6,a5,ag0,ag1,a0,a1,hj,iv,aA,ag,jh,gC,fo,ja,x1,x2,x3,vX,vA,vF,bt,List.length_nil]) (by simp only[go_sem, ↓reduceIte,Nat.reduceEqDiff,Nat.reduceAdd,Nat.reduceSub,Nat.reduceLeDiff,reduceCtorEq,a6,a5,ag0,ag1,a0,a1,hj,iv,aA,ag,jh,gC,fo,ja,x1,x2,x3,vX,vA,vF,bt,List.map_nil,List.nil_append]) (fun i hi N6 fI=>?_),by(try dsimp only);omega⟩
     clear fI
     simp only[go_sem, ↓reduceIte,Nat.reduceEqDiff,Nat.reduceAdd,Nat.reduceSub,Nat.reduceLeDiff,reduceCtorEq,vX,vA,vF,dz hi,N6]
   ·simp only[List.cons.injEq,and_true]at zd
    subst zd
    have r9:=dz K2
    have y1:=dq (a:=A) (b:=id) (by omega)
    have y2:=dq (a:=F) (b:=id) xS
    have y3:=dq (a:=X) (b:=id) (by omega)
    have e3:La.length+1<=16777216:=by omega
    have z1:(La.map eN).length=La.length:=by simp
    refine e7 ?_ ?_<;>(try((repeat(revert hN;revert N;apply Pn.out));refine wk (tw @a6 (tw @a5 (tw @ag0 (tw @ag1 (tw @a0 (tw @a1 (tw @hj (tw @iv (tw @aA.eq_1 (tw @ag (tw @jh (tw @gC (tw @fo (tw @ja (tw @x1 (tw @x2 (tw @x3 (tw @vX (tw @vA (tw @vF (tw @bt.eq_1 (tw @hid (tw @r9 (tw @y1 (tw @y2 (tw @y3 (tw @e3 @z1))))))))))))))))))))))))))) ?_;(repeat(refine Pn.mk ?_;intro N hN))))<;>(try refine e7 ?_ ?_)<;>(try((repeat(revert hN;revert N;apply Pn.out));refine wk (tw @a6 (tw @a5 (tw @ag0 (tw @ag1 (tw @a0 (tw @a1 (tw @hj (tw @iv (tw @aA.eq_1 (tw @ag (tw @jh (tw @gC (tw @fo (tw @ja (tw @x1 (tw @x2 (tw @x3 (tw @vX (tw @vA (tw @vF (tw @bt.eq_1 (tw @hid (tw @r9 (tw @y1 (tw @y2 (tw @y3 (tw @e3 @z1))))))))))))))))))))))))))) ?_;(repeat(refine Pn.mk ?_;intro N hN))))<;>(try refine e7 ?_ ?_)<;>(try((repeat(revert hN;revert N;apply Pn.out));refine wk (tw @a6 (tw @a5 (tw @ag0 (tw @ag1 (tw @a0 (tw @a1 (tw @hj (tw @iv (tw @aA.eq_1 (tw @ag (tw @jh (tw @gC (tw @fo (tw @ja (tw @x1 (tw @x2 (tw @x3 (tw @vX (tw @vA (tw @vF (tw @bt.eq_1 (tw @hid (tw @r9 (tw @y1 (tw @y2 (tw @y3 (tw @e3 @z1))))))))))))))))))))))))))) ?_;(repeat(refine Pn.mk ?_;intro N hN))))<;>(try refine e7 ?_ ?_)<;>(try((repeat(revert hN;revert N;apply Pn.out));refine wk (tw @a6 (tw @a5 (tw @ag0 (tw @ag1 (tw @a0 (tw @a1 (tw @hj (tw @iv (tw @aA.eq_1 (tw @ag (tw @jh (tw @gC (tw @fo (tw @ja (tw @x1 (tw @x2 (tw @x3 (tw @vX (tw @vA (tw @vF (tw @bt.eq_1 (tw @hid (tw @r9 (tw @y1 (tw @y2 (tw @y3 (tw @e3 @z1))))))))))))))))))))))))))) ?_;(repeat(refine Pn.mk ?_;intro N hN))))<;>(try refine e7 ?_ ?_)<;>(try((repeat(revert hN;revert N;apply Pn.out));refine wk (tw @a6 (tw @a5 (tw @ag0 (tw @ag1 (tw @a0 (tw @a1 (tw @hj (tw @iv (tw @aA.eq_1 (tw @ag (tw @jh (tw @gC (tw @fo (tw @ja (tw @x1 (tw @x2 (tw @x3 (tw @vX (tw @vA (tw @vF (tw @bt.eq_1 (tw @hid (tw @r9 (tw @y1 (tw @y2 (tw @y3 (tw @e3 @z1))))))))))))))))))))))))))) ?_;(repeat(refine Pn.mk ?_;intro N hN))))<;>(try refine e7 ?_ ?_)<;>(try((repeat(revert hN;revert N;apply Pn.out));refine wk (tw @a6 (tw @a5 (tw @ag0 (tw @ag1 (tw @a0 (tw @a1 (tw @hj (tw @iv (tw @aA.eq_1 (tw @ag (tw @jh (tw @gC (tw @fo (tw @ja (tw @x1 (tw @x2 (tw @x3 (tw @vX (tw @vA (tw @vF (tw @bt.eq_1 (tw @hid (tw @r9 (tw @y1 (tw @y2 (tw @y3 (tw @e3 @z1))))))))))))))))))))))))))) ?_;(repeat(refine Pn.mk ?_;intro N hN))))
    all_goals
     refine⟨by simp only[go_sem, ↓reduceIte,Nat.reduceEqDiff,Nat.reduceAdd,Nat.reduceSub,Nat.reduceLeDiff,reduceCtorEq,a6,a5,ag0,ag1,a0,a1,hj,iv,aA,ag,jh,gC,fo,ja,x1,x2,x3,vX,vA,vF,bt,hid,r9,y1,y2,y3,e3,z1],by simp only[go_sem, ↓reduceIte,Nat.reduceEqDiff,Nat.reduceAdd,Nat.reduceSub,Nat.reduceLeDiff,reduceCtorEq,a6,a5,ag0,ag1,a0,a1,hj,iv,aA,ag,jh,gC,fo,ja,x1,x2,x3,vX,vA,vF,bt,hid,r9,y1,y2,y3,e3,z1],by simp only[go_sem, ↓reduceIte,Nat.reduceEqDiff,Nat.reduceAdd,Nat.reduceSub,Nat.reduceLeDiff,reduceCtorEq,a6,a5,ag0,ag1,a0,a1,hj,iv,aA,ag,jh,gC,fo,ja,x1,x2,x3,vX,vA,vF,bt,hid,r9,y1,y2,y3,e3,z1],by simp only[go_sem, ↓reduceIte,Nat.reduceEqDiff,Nat.reduceAdd,Nat.reduceSub,Nat.reduceLeDiff,reduceCtorEq,a6,a5,ag0,ag1,a0,a1,hj,iv,aA,ag,jh,gC,fo,ja,x1,x2,x3,vX,vA,vF,bt,hid,r9,y1,y2,y3,e3,z1],by simp only[go_sem, ↓reduceIte,Nat.reduceEqDiff,Nat.reduceAdd,Nat.reduceSub,Nat.reduceLeDiff,reduceCtorEq,a6,a5,ag0,ag1,a0,a1,hj,iv,aA,ag,jh,gC,fo,ja,x1,x2,x3,vX,vA,vF,bt,hid,r9,y1,y2,y3,e3,z1],by simp only[go_sem, ↓reduceIte,Nat.reduceEqDiff,Nat.reduceAdd,Nat.reduceSub,Nat.reduceLeDiff,reduceCtorEq,a6,a5,ag0,ag1,a0,a1,hj,iv,aA,ag,jh,gC,fo,ja,x1,x2,x3,vX,vA,vF,bt,hid,r9,y1,y2,y3,e3,z1],IM _ (by simp only[go_sem, ↓reduceIte,Nat.reduceEqDiff,Nat.reduceAdd,Nat.reduceSub,Nat.reduceLeDiff,reduceCtorEq,a6,a5,ag0,ag1,a0,a1,hj,iv,aA,ag,jh,gC,fo,ja,x1,x2,x3,vX,vA,vF,bt,hid,r9,y1,y2,y3,e3,z1,List.length_nil]) (by simp only[go_sem, ↓reduceIte,Nat.reduceEqDiff,Nat.reduceAdd,Nat.reduceSub,Nat.reduceLeDiff,reduceCtorEq,a6,a5,ag0,ag1,a0,a1,hj,iv,aA,ag,jh,gC,fo,ja,x1,x2,x3,vX,vA,vF,bt,hid,r9,y1,y2,y3,e3,z1,List.map_nil,List.nil_append]) (fun i hi N6 fI=>?_),by(try dsimp only);omega⟩
     have gU:=fI id rfl
     simp only[go_sem, ↓reduceIte,Nat.reduceEqDiff,Nat.reduceAdd,Nat.reduceSub,Nat.reduceLeDiff,reduceCtorEq,vX,vA,vF,dz hi,N6,gU]
 ·have gG:j=bs.length:=by omega
  subst gG
  (try((repeat(revert hN;revert N;apply Pn.out));refine wk (tw @a6 (tw @a5 (tw @ag0 (tw @ag1 (tw @a0 (tw @a1 @hj)))))) ?_;(repeat(refine Pn.mk ?_;intro N hN))))
  exact ft (.inl rfl) (by simp only[fu,iz,go_sem, ↓reduceIte,Nat.reduceEqDiff,Nat.reduceAdd,Nat.reduceSub,Nat.reduceLeDiff,reduceCtorEq];rfl) ⟨X,A,F,rfl,hXs,⟨ag0,⟨rows,ids,ag,hR,lN,fun x hx=>by have:=nK x hx;(try dsimp only);omega⟩,ag1,hXA,hAF,by(try dsimp only);omega⟩⟩
end Go.Proofs.YtgoelphibofcmaaGreat.V

namespace Go.Proofs.YtgoelphibofcmaaGreat.V
open Go.RowKit
attribute [local irreducible] eb wpOps gj Call
attribute [local go_sem] aJ fM eP fZ fY cL upd cu K.av cN AV.cells AV.cell rowOf rowsOf part ld rowAt bI bW dD ee gT bL dc ev fU eY dr ej da cZ dO dR bR aX cR bQ cV cU eh ek ei cQ bV db ef bP aP cX cE gS bw cJ bU aW dx bj dE AV.undef bD bF dV ec dI dS cF eu eB cD ep eo cW cY List.getD_cons_zero List.getD_cons_succ List.getD_nil List.all_cons List.all_nil Bool.and_true Bool.true_and Bool.and_self Bool.not_true Bool.not_false Option.map_some Option.map_none Option.bind_some Option.bind_none List.length_cons List.length_nil List.take_succ_cons List.take_zero List.take_nil List.drop_succ_cons List.drop_zero List.drop_nil List.head?_cons List.map_cons List.map_nil List.getElem?_cons_zero List.getElem?_cons_succ List.cons_append List.nil_append List.append_nil List.length_map List.set_cons_zero List.set_cons_succ Nat.reduceMul eq_self Int.toNat_natCast Int.natCast_nonneg and_self true_and and_true decide_true decide_false Bool.false_eq_true Nat.zero_add Nat.add_zero List.contains_cons List.contains_nil Bool.or_false Bool.false_or beq_self_eq_true Nat.reduceBEq ne_eq not_true_eq_false not_false_eq_true Id.mk.injEq false_and and_false Nat.reduceLT Int.reduceLE Int.reduceLT Int.reduceToNat Int.reduceNeg Int.reduceAdd Nat.le_refl List.length_append beq_true beq_false Bool.not_eq_eq_eq_not or_false false_or dM aj aq aH bd bz ck aU bf aT aZ cP bH
theorem qO.frame {A:Id} {lo nx uu:Nat} {L:List (List Nat)} {g g':Rows} (h:qO A lo L g nx) (hA:A.bm<nx) (hf:∀i:Id,i.bm<nx->lo<i.bm∨i=A->g' i=g i) (hn:nx<=uu):qO A lo L g' uu:=by
 obtain⟨rows,ids,h1,h2,h3,h4⟩:=h
 refine⟨rows,ids,(hf A hA (.inr rfl)).trans h1,h2.frame MY fun i hi=>hf i (h4 i hi).2 (.inl (h4 i hi).1),h3,fun i hi=>?_⟩
 have:=h4 i hi;omega
theorem nR.frame {cnt:Nat} {bs:List PB} {f:Nat->Int} {X A F:Id} {g g':Rows} {nx uu:Nat} (h:nR cnt bs f X A F g nx) (hf:∀i:Id,i.bm<nx->g' i=g i) (hn:nx<=uu):nR cnt bs f X A F g' uu:=by
 have h1:=h.xa;have h2:=h.af;have h3:=h.fn
 exact⟨(hf X (by omega)).trans h.x,h.a.frame (by omega) (fun i hi _=>hf i hi) hn,(hf F h3).trans h.f,h1,h2,by omega⟩
theorem nR.Qk {cnt:Nat} {bs:List PB} {f f':Nat->Int} {X A F:Id} {g g':Rows} {nx uu:Nat} (h:nR cnt bs f X A F g nx) (hF:g' F=some ⟨true,1,dU f' bs.length⟩) (hf:∀i:Id,i.bm<nx->(i=F)=False->g' i=g i) (hn:nx<=uu):nR cnt bs f' X A F g' uu:=by
 have h1:=h.xa;have h2:=h.af;have h3:=h.fn
 refine⟨(hf X (by omega) (dq (by omega)).1).trans h.x,h.a.frame (by omega) (fun i hi jT=>hf i hi ?_) hn,hF,h1,h2,by omega⟩
 rcases jT with jT|rfl
 ·exact(dq jT).2
 ·exact(dq h2).1
theorem ON (cnt:Nat) (bs:List PB) (f:Nat->Int) (hs:Small bs f) (e v:Nat) (he:e<bs.length) (X A F:Id) (σ:au) (nx:Nat) (hS:nR cnt bs f X A F σ.get nx) (hn:nx<=σ.next):
  Call Tryz.prog 261 [.ptr X 0 0,.int .i64 v,.int .i64 e] σ fun r σ'=>nR cnt bs (tD bs f e v) X A F σ'.get nx/\σ.next<=σ'.next/\∀i:Id,(i=F)=False->σ'.get i=σ.get i:=by
 refine eU eJ rfl fun hl=>?_
 clear hl
 have hX:=hS.x
 have hF:=hS.f
 have hb:=ud he
 have T4:=dJ (f:=f) he
 have tl:=dy f bs.length
 obtain⟨⟨s0,s1⟩,s2,s3⟩:=hs e he
 have hei:(e:Int)<(bs.length:Int):=by omega
 have w1:IntKind.i64.wrap (f e+1)=f e+1:=bh (by omega)
 have w2:IntKind.i64.wrap (f e-1)=f e+-1:=by rw[bh (by omega)];omega
 rw[aG]at T4
 unfold tD
 by_cases h:(cm bs e).a=v
 ·have dQ:(dU f bs.length).set e (aG (f e+1))=dU (fun j=>f j+if j=e then(if (cm bs e).a=v then 1 else -1)else 0) bs.length:=kZ he (by rw[if_pos rfl,if_pos h]) fun i _ hi=>by rw[if_neg hi,Int.add_zero]
  rw[aG]at dQ
  generalize Si:cm bs e=b at *
  have hd:decide ((b.a:Int)=(v:Int))=true:=decide_eq_true (by rw[h])
  (try((repeat(revert hN;revert N;apply Pn.out));refine wk (tw @hX (tw @hF (tw @hb (tw @T4 (tw @tl (tw @hei (tw @w1 (tw @dQ (tw @hd (tw @aA.eq_1 @bt.eq_1)))))))))) ?_;(repeat(refine Pn.mk ?_;intro N hN))))
  exact ft (.inr rfl) (vs:=[]) rfl ⟨hS.Qk (sd @Nat.zero_add) (fun i hi gU=>sd @gU) (Nat.le_refl _),by(try dsimp only);omega,fun i gU=>sd @gU⟩
 ·have dQ:(dU f bs.length).set e (aG (f e+-1))=dU (fun j=>f j+if j=e then(if (cm bs e).a=v then 1 else -1)else 0) bs.length:=kZ he (by rw[if_pos rfl,if_neg h]) fun i _ hi=>by rw[if_neg hi,Int.add_zero]
  rw[aG]at dQ
  generalize Si:cm bs e=b at *
  have hd:decide ((b.a:Int)=(v:Int))=false:=decide_eq_false fun hc=>h (by omega)
  (try((repeat(revert hN;revert N;apply Pn.out));refine wk (tw @hX (tw @hF (tw @hb (tw @T4 (tw @tl (tw @hei (tw @w2 (tw @dQ (tw @hd (tw @aA.eq_1 @bt.eq_1)))))))))) ?_;(repeat(refine Pn.mk ?_;intro N hN))))
  exact ft (.inr rfl) (vs:=[]) rfl ⟨hS.Qk (sd @Nat.zero_add) (fun i hi gU=>sd @gU) (Nat.le_refl _),by(try dsimp only);omega,fun i gU=>sd @gU⟩
structure nS (bs:List PB) (out:Nat->Int) (f f':Nat->Int) (x v:Nat):Prop where
 le:∀i,i<bs.length->f' i<=(cm bs i).s/\-(cm bs i).s<=f' i
 cut:∀S:Nat->Bool,FT S bs f'=FT S bs f+bi (S x)-bi (S v)
 B4:∀e,e<bs.length->out (cm bs e).a<=out v->out (cm bs e).b<=out v->f' e=f e
section
variable {cnt:Nat} {bs:List PB} {out:Nat->Int} {f f':Nat->Int} {x v y:Nat}
theorem nS.start (h:∀i,i<bs.length->f i<=(cm bs i).s/\-(cm bs i).s<=f i):nS bs out f f x x:=⟨h,fun S=>by omega,fun _ _ _ _=>rfl⟩
theorem nS.step (h:nS bs out f f' x v) {e:Nat} (he:e<bs.length) (hi:EC bs e v) (hr:0<fC bs f' e v) (hd:out (bK bs e v)=out v-1):nS bs out f (tD bs f' e v) x (bK bs e v):=by
 refine⟨fun i nz=>?_,fun S=>?_,fun i nz ha hb=>?_⟩
 ·have h1:=h.le i nz
  unfold tD
  by_cases Gi:i=e
  ·subst Gi
   rw[if_pos rfl]
   unfold fC at hr
   split at hr<;>rename_i hc
   ·rw[if_pos hc];omega
   ·rw[if_neg hc];omega
  ·rw[if_neg Gi];omega
 ·rw[FU he hi,h.cut S];omega
 ·have Gi:i≠e:=by
   rintro rfl
   rcases hi with hi|hi
   ·rw[hi]at ha;omega
   ·rw[hi]at hb;omega
  unfold tD
  rw[if_neg Gi,Int.add_zero]
  exact h.B4 i nz (by omega) (by omega)
theorem nS.goes (h:nS bs out f f' x v) (hs:yK cnt bs f y out) (hv:v<cnt) (h0:0<out v):∃e∈iR bs bs.length v,0<fC bs f' e v/\out (bK bs e v)=out v-1:=by
 obtain⟨e,h1,h2,h3,h4⟩:=hs.down v hv h0
 refine⟨e,rJ.2 ⟨h1,h2⟩,?_,h4⟩
 have hf:f' e=f e:=by
  refine h.B4 e h1 ?_ ?_
  ·unfold bK at h4
   split at h4
   ·rename_i ha;rw[ha];exact Int.le_refl _
   ·omega
  ·unfold bK at h4
   rcases h2 with h2|h2
   ·rw[if_pos h2]at h4;omega
   ·rw[h2];exact Int.le_refl _
 unfold fC at h3 ⊢
 rw[hf];exact h3
theorem nS.done {val:Int} (h:nS bs out f f' x y) (hf:jP bs f x y val):jP bs f' x y (val+1):=
 ⟨h.le,fun S hx hy=>by rw[h.cut S,hf.cut S hx hy,hx,hy];simp[bi]⟩
theorem Ei {val:Int} (hs:yK cnt bs f y out) (ok:nq cnt bs) (hf:jP bs f x y val) (hx:out x<0):∃S:Nat->Bool,S x=true/\S y=false/\val=iW S bs:=by
 refine⟨fun v=>decide (out v<0),decide_eq_true hx,decide_eq_false (by rw[hs.first];omega),hf.full (decide_eq_true hx) (decide_eq_false (by rw[hs.first];omega)) fun i hi nG=>⟨fun h1 h2 hr=>?_,fun h1 h2 hr=>?_⟩⟩
 ·have NL:=of_decide_eq_true h1
  have Cv:=of_decide_eq_false h2
  have:=hs.shut i (cm bs i).a hi (.inl rfl) (by unfold bK;rw[if_pos rfl];omega) hr
  omega
 ·have NL:=of_decide_eq_true h1
  have Cv:=of_decide_eq_false h2
  have:=hs.shut i (cm bs i).b hi (.inr rfl) (by unfold bK;rw[if_neg nG];omega) hr
  omega
end
end Go.Proofs.YtgoelphibofcmaaGreat.V

namespace Go.Proofs.YtgoelphibofcmaaGreat.V
open Go.RowKit
attribute [local irreducible] eb wpOps gj Call
attribute [local go_sem] aJ fM eP fZ fY cL upd cu K.av cN AV.cells AV.cell rowOf rowsOf part ld rowAt bI bW dD ee gT bL dc ev fU eY dr ej da cZ dO dR bR aX cR bQ cV cU eh ek ei cQ bV db ef bP aP cX cE gS bw cJ bU aW dx bj dE AV.undef bD bF dV ec dI dS cF eu eB cD ep eo cW cY List.getD_cons_zero List.getD_cons_succ List.getD_nil List.all_cons List.all_nil Bool.and_true Bool.true_and Bool.and_self Bool.not_true Bool.not_false Option.map_some Option.map_none Option.bind_some Option.bind_none List.length_cons List.length_nil List.take_succ_cons List.take_zero List.take_nil List.drop_succ_cons List.drop_zero List.drop_nil List.head?_cons List.map_cons List.map_nil List.getElem?_cons_zero List.getElem?_cons_succ List.cons_append List.nil_append List.append_nil List.length_map List.set_cons_zero List.set_cons_succ Nat.reduceMul eq_self Int.toNat_natCast Int.natCast_nonneg and_self true_and and_true decide_true decide_false Bool.false_eq_true Nat.zero_add Nat.add_zero List.contains_cons List.contains_nil Bool.or_false Bool.false_or beq_self_eq_true Nat.reduceBEq ne_eq not_true_eq_false not_false_eq_true Id.mk.injEq false_and and_false Nat.reduceLT Int.reduceLE Int.reduceLT Int.reduceToNat Int.reduceNeg Int.reduceAdd Nat.le_refl List.length_append beq_true beq_false Bool.not_eq_eq_eq_not or_false false_or dM aj aq aH bd bz ck aU bf aT aZ cP bH
theorem wD {bs:List PB} {f:Nat->Int} (dH:∀e,e<bs.length->0<=(cm bs e).s/\(cm bs e).s<=4) (h:∀i,i<bs.length->f i<=(cm bs i).s/\-(cm bs i).s<=f i):Small bs f:=fun e he=>by
 have:=dH e he;have:=h e he;omega
theorem qO.at_ {A:Id} {lo nx v:Nat} {L:List (List Nat)} {l:List Nat} {g:Rows} (h:qO A lo L g nx) (hv:L[v]? =some l) (hl:0<l.length):∃(rows:List (List AV)) (id:Id),g A=some ⟨true,1,rows⟩/\rows.length=L.length/\rows[v]? =some [.own id 0 l.length]/\g id=some ⟨true,1,l.map eN⟩/\lo<id.bm/\id.bm<nx:=by
 obtain⟨rows,ids,h1,h2,h3,h4⟩:=h
 have hk:v<L.length:=(List.getElem?_eq_some_iff.1 hv).1
 obtain⟨cs,ic,dt,hR,QQ⟩:=h2.at_ v hk
 rw[kF hv hk]at hR
 rcases hR with⟨h5,_⟩|⟨id,rfl,_,h6,rfl⟩
 ·subst h5;simp at hl
 ·have:=h4 id (QQ id (by simp))
  exact⟨rows,id,h1,h2.len,dt,h6,this.1,this.2⟩
theorem NK (cnt:Nat) (hn:cnt<=1048576) (bs:List PB) (ok:nq cnt bs) (nH:bs.length<=1048576) (dH:∀e,e<bs.length->0<=(cm bs e).s/\(cm bs e).s<=4) (f:Nat->Int) (x y:Nat) (hx:x<cnt) (hy:y<cnt) (Re:x≠y) (val:Int) (hf:jP bs f x y val)
  (X A F:Id) (σ:au) (nb:Nat) (hS:nR cnt bs f X A F σ.get nb) (o3:nb<=σ.next):
  Call Tryz.prog 238 [.ptr X 0 0,.int .i64 x,.int .i64 y] σ fun r σ'=>∃b f',r=.bool b/\nR cnt bs f' X A F σ'.get nb/\σ.next<=σ'.next/\(∀i:Id,i.bm<nb->(i=F)=False->σ'.get i=σ.get i)/\
   (b=false->f'=f/\∃S:Nat->Bool,S x=true/\S y=false/\val=iW S bs)/\(b=true->jP bs f' x y (val+1)):=by
 refine eU eJ rfl fun hl=>?_
 clear hl
 have CC:(x:Int)<(cnt:Int):=by omega
 have hz:∀(g:Rows),(∀i:Id,i.bm<nb->g i=σ.get i)->cK (dM g) 6 [.ptr X 0 0,.int .i64 (y:Int)]=some [.dj (fN cnt bs f),.int .i64 y]:=fun g hg=>by
  have:=(hS.frame hg (Nat.le_refl _)).fz
  simp only[aj,aq,this,aH,Option.map_some]
 (try((repeat(revert hN;revert N;apply Pn.out));refine wk @Nat.zero_add ?_;(repeat(refine Pn.mk ?_;intro N hN))))
 refine .inr (aL _ _ _ _ _ (fun r σ1 hq=>?_) ((Fu cnt hn bs ok nH f (wD dH hf.le) y hy).x mixed (hz _ (fun i hi=>rfl))))
 obtain⟨⟨out,rfl,Ov⟩,rfl⟩:=hq
 refine hN _ _ ?_
 clear hN N
 have SA:=dJ (f:=out) hx
 have tl:=dy out cnt
 by_cases jU:out x<0
 ·(try((repeat(revert hN;revert N;apply Pn.out));refine wk (tw @SA (tw @jU (tw @CC (tw @tl @aG.eq_1)))) ?_;(repeat(refine Pn.mk ?_;intro N hN))))
  exact ft (.inl rfl) (vs:=[.bool false]) (sd @Nat.zero_add) ⟨false,f,rfl,hS.frame (fun i hi=>rfl) (Nat.le_refl _),by(try dsimp only);omega,fun i _ _=>rfl,fun _=>⟨rfl,Ei Ov ok hf jU⟩,fun h=>by cases h⟩
 (try((repeat(revert hN;revert N;apply Pn.out));refine wk (tw @SA (tw @jU (tw @CC (tw @tl @aG.eq_1)))) ?_;(repeat(refine Pn.mk ?_;intro N hN))))
 refine aO (fun m env st=>∃(v:Nat) (f':Nat->Int),m=(out v).toNat/\v<cnt/\0<=out v/\env 8=.int .i64 (v:Int)/\nS bs out f f' x v/\nR cnt bs f' X A F st.get nb/\(∀i:Id,i.bm<nb->(i=F)=False->st.get i=σ.get i)/\σ.next<=st.next) (out x).toNat ⟨x,f,rfl,hx,by omega,by(simp only[go_sem, ↓reduceIte,Nat.reduceEqDiff,Nat.reduceAdd,Nat.reduceSub,Nat.reduceLeDiff,reduceCtorEq]),nS.start hf.le,hS.frame (fun i hi=>rfl) (Nat.le_refl _),fun i _ _=>rfl,by(try dsimp only);omega⟩ ?_
 rintro m env_b st_b ⟨v,f',rfl,hv,qu,b8,hW,hN1,lW,hle⟩ eV
 have b0:=eV 0 (by kernel_rfl)
 have b2:=eV 2 (by kernel_rfl)
 have b7:=eV 7 (by kernel_rfl)
 simp only[go_sem, ↓reduceIte,Nat.reduceEqDiff,Nat.reduceAdd,Nat.reduceSub,Nat.reduceLeDiff,reduceCtorEq]at b0 b2 b7
 clear eV
 by_cases SH:v=y
 ·have hd:decide ((v:Int)=(y:Int))=true:=decide_eq_true (by rw[SH])
  subst SH
  (try((repeat(revert hN;revert N;apply Pn.out));refine wk (tw @b0 (tw @b2 (tw @b7 (tw @b8 @hd)))) ?_;(repeat(refine Pn.mk ?_;intro N hN))))
  exact ft (.inl rfl) (vs:=[.bool true]) (sd @Nat.zero_add) ⟨true,f',rfl,hN1,by(try dsimp only);omega,lW,fun h=>(by cases h),fun _=>hW.done hf⟩
 have hd:decide ((v:Int)=(y:Int))=false:=decide_eq_false fun h=>SH (by omega)
 have Aj:0<out v:=by
  have:=Ov.zero v hv
  rcases Int.lt_or_eq_of_le qu with h|h
  ·exact h
  ·exact absurd (this h.symm) SH
 have MH:=hW.goes Ov hv Aj
 have hIm:∀ed∈iR bs bs.length v,ed<bs.length/\EC bs ed v:=fun ed h=>rJ.1 h
 have hIL:(lg cnt bs bs.length)[v]? =some (iR bs bs.length v):=by simp[lg,hv]
 have hIl:=rI bs bs.length v
 generalize iR bs bs.length v=I at *
 have hIp:0<I.length:=by
  obtain⟨ed,h,_⟩:=MH
  exact List.length_pos_of_mem h
 obtain⟨rows,id,hgA,si,lu,hid,hid1,hid2⟩:=hN1.a.at_ hIL hIp
 rw[jj]at si
 have hgX:=hN1.x
 have Dy:(v:Int)<(cnt:Int):=by omega
 have rD:=dJ (f:=out) hv
 have mN:IntKind.i64.wrap (out v-1)=out v-1:=bh (by have:=Ov.lo v hv;omega)
 have qn:(I.map eN).length=I.length:=by simp
 have Li:=wD dH hW.le
 have ki:∀(g:Rows),(∀i:Id,i.bm<nb->g i=st_b.get i)->∀ed:Nat,cK (dM g) 6 [.ptr X 0 0,.int .i64 (v:Int),.int .i64 (ed:Int)]=some [.dj (fN cnt bs f'),.int .i64 v,.int .i64 ed]:=fun g hg ed=>by
  have:=(hN1.frame hg (Nat.le_refl _)).fz
  simp only[aj,aq,this,aH,Option.map_some]
 rw[aG]at rD
 (try((repeat(revert hN;revert N;apply Pn.out));refine wk (tw @b0 (tw @b2 (tw @b7 (tw @b8 @hd)))) ?_;(repeat(refine Pn.mk ?_;intro N hN))))
 refine aO (fun n env st=>∃k:Nat,n=(I.length)-k/\k<=(I.length)/\env 11=.int .i64 (k:Int)/\(∃(ym EJ:Int),env 9=.int .i64 ym/\env 10=.int .i64 EJ/\((ym<0/\∀z,z<k->¬(0<fC bs f' (I.getD z 0) v/\out (bK bs (I.getD z 0) v)=out v-1))∨∃ed:Nat,ed∈I/\EJ=(ed:Int)/\ym=(bK bs ed v:Int)/\0<fC bs f' ed v/\out (bK bs ed v)=out v-1))/\((∀i:Id,st.get i=st_b.get i)/\st_b.next<=st.next)) (I.length) ⟨0,by omega,by omega,sl (tw @b0 (tw @b2 (tw @b7 @b8))),⟨-1,0,by(simp only[go_sem, ↓reduceIte,Nat.reduceEqDiff,Nat.reduceAdd,Nat.reduceSub,Nat.reduceLeDiff,reduceCtorEq]),by(simp only[go_sem, ↓reduceIte,Nat.reduceEqDiff,Nat.reduceAdd,Nat.reduceSub,Nat.reduceLeDiff,reduceCtorEq]),.inl ⟨by omega,fun z hz=>by omega⟩⟩,⟨fun i=>rfl,by(try dsimp only);omega⟩⟩ ?_
 rintro n_c env_c st_c ⟨k,rfl,cle,nE,cI0,cI1⟩ iG
 have c0:=iG 0 (by kernel_rfl);have c2:=iG 2 (by kernel_rfl);have c7:=iG 7 (by kernel_rfl);have c8:=iG 8 (by kernel_rfl)
 simp only[go_sem, ↓reduceIte,Nat.reduceEqDiff,Nat.reduceAdd,Nat.reduceSub,Nat.reduceLeDiff,reduceCtorEq,b0,b2,b7,b8]at c0 c2 c7 c8
 clear iG
 obtain⟨ym,EJ,c9,jq,Iz⟩:=cI0
 obtain⟨lZ,Sj⟩:=cI1
 have Dq:=(lZ X).trans hgX
 have Dp:=(lZ A).trans hgA
 have Ds:=(lZ id).trans hid
 by_cases hk:(k:Int)<(I.length:Int)
 ·have gx:∀{e:Env} {gg:Rows} {nx:Nat},(e 11=.int .i64 (IntKind.i64.wrap ((k:Int)+1)))->(∃(ym EJ:Int),e 9=.int .i64 ym/\e 10=.int .i64 EJ/\((ym<0/\∀z,z<(k+1)->¬(0<fC bs f' (I.getD z 0) v/\out (bK bs (I.getD z 0) v)=out v-1))∨∃ed:Nat,ed∈I/\EJ=(ed:Int)/\ym=(bK bs ed v:Int)/\0<fC bs f' ed v/\out (bK bs ed v)=out v-1))->((∀i:Id,gg i=st_b.get i)/\st_b.next<=nx)->∃m0,m0<(I.length)-k/\∃k:Nat,m0=(I.length)-k/\k<=(I.length)/\e 11=.int .i64 (k:Int)/\(∃(ym EJ:Int),e 9=.int .i64 ym/\e 10=.int .i64 EJ/\((ym<0/\∀z,z<k->¬(0<fC bs f' (I.getD z 0) v/\out (bK bs (I.getD z 0) v)=out v-1))∨∃ed:Nat,ed∈I/\EJ=(ed:Int)/\ym=(bK bs ed v:Int)/\0<fC bs f' ed v/\out (bK bs ed v)=out v-1))/\((∀i:Id,gg i=st_b.get i)/\st_b.next<=nx):=fun x1 x2 x3=>⟨_,by omega,k+1,rfl,by omega,(by rw[x1,az (by omega)]),x2,x3⟩
  have fa:k<I.length:=by omega
  have eR:(I.map eN)[k]? =some (eN (I.getD k 0)):=getD_map eN fa
  have pH:I.getD k 0∈I:=by rw[List.getD_eq_getElem?_getD,List.getElem?_eq_getElem fa];exact List.getElem_mem fa
  obtain⟨he,pG⟩:=hIm _ pH
  have Lh:=JC cnt bs f' Li (I.getD k 0) v he
  have tt:=ki st_c.get (fun i _=>lZ i) (I.getD k 0)
  have hq:=oJ ok (v:=v) he
  have PM:=dJ (f:=out) hq
  obtain⟨ed,hed⟩:∃ed,ed=I.getD k 0:=⟨_,rfl⟩
  rw[<-hed]at eR he pG Lh tt hq PM pH
  rw[aG]at PM
  rw[eN]at eR
  (try((repeat(revert hN;revert N;apply Pn.out));refine wk (tw @nE (tw @c0 (tw @c2 (tw @c7 (tw @c8 (tw @c9 (tw @jq (tw @hk (tw @Dq (tw @Dp (tw @Ds (tw @lu (tw @si (tw @Dy (tw @eR (tw @qn @bt.eq_1)))))))))))))))) ?_;(repeat(refine Pn.mk ?_;intro N hN))))
  refine .inl ⟨_,ar.x Lh tt,?_⟩
  refine hN _ _ ?_
  clear hN N
  have stay:∀k',k'=k+1->(¬(0<fC bs f' ed v/\out (bK bs ed v)=out v-1))->((ym<0/\∀z,z<k'->¬(0<fC bs f' (I.getD z 0) v/\out (bK bs (I.getD z 0) v)=out v-1))∨∃ed:Nat,ed∈I/\EJ=(ed:Int)/\ym=(bK bs ed v:Int)/\0<fC bs f' ed v/\out (bK bs ed v)=out v-1):=fun k' IH la=>by
   rcases Iz with⟨h1,h2⟩|h
   ·refine .inl ⟨h1,fun z hz=>?_⟩
    by_cases DD:z=k
    ·subst DD;rw[<-hed];exact la
    ·exact h2 z (by omega)
   ·exact .inr h
  by_cases hr:0<fC bs f' ed v
  ·by_cases Pz:out (bK bs ed v)=out v-1
   ·have tU:decide (out (bK bs ed v)=out v-1)=true:=decide_eq_true Pz
    have found:∃Qh:Nat,Qh∈I/\(ed:Int)=(Qh:Int)/\(bK bs ed v:Int)=(bK bs Qh v:Int)/\0<fC bs f' Qh v/\out (bK bs Qh v)=out v-1:=⟨ed,pH,rfl,rfl,hr,Pz⟩
    by_cases PJ:ym<0
    ·(try((repeat(revert hN;revert N;apply Pn.out));refine wk (tw @nE (tw @c0 (tw @c2 (tw @c7 (tw @c8 (tw @c9 (tw @jq (tw @hk (tw @Dq (tw @Dp (tw @Ds (tw @lu (tw @si (tw @Dy (tw @eR (tw @qn (tw @hr (tw @PM (tw @rD (tw @mN (tw @tU (tw @PJ @bt.eq_1)))))))))))))))))))))) ?_;(repeat(refine Pn.mk ?_;intro N hN))))
     exact gx (sd (tw @nE (tw @c0 (tw @c2 (tw @c7 @c8))))) (⟨_,_,sd @Nat.zero_add,sd @Nat.zero_add,.inr found⟩) (⟨lZ,by(try dsimp only);omega⟩)
    ·by_cases dP:(bK bs ed v:Int)<ym
     ·(try((repeat(revert hN;revert N;apply Pn.out));refine wk (tw @nE (tw @c0 (tw @c2 (tw @c7 (tw @c8 (tw @c9 (tw @jq (tw @hk (tw @Dq (tw @Dp (tw @Ds (tw @lu (tw @si (tw @Dy (tw @eR (tw @qn (tw @hr (tw @PM (tw @rD (tw @mN (tw @tU (tw @PJ (tw @dP @bt.eq_1))))))))))))))))))))))) ?_;(repeat(refine Pn.mk ?_;intro N hN))))
      exact gx (sd (tw @nE (tw @c0 (tw @c2 (tw @c7 @c8))))) (⟨_,_,sd @Nat.zero_add,sd @Nat.zero_add,.inr found⟩) (⟨lZ,by(try dsimp only);omega⟩)
     ·(try((repeat(revert hN;revert N;apply Pn.out));refine wk (tw @nE (tw @c0 (tw @c2 (tw @c7 (tw @c8 (tw @c9 (tw @jq (tw @hk (tw @Dq (tw @Dp (tw @Ds (tw @lu (tw @si (tw @Dy (tw @eR (tw @qn (tw @hr (tw @PM (tw @rD (tw @mN (tw @tU (tw @PJ (tw @dP @bt.eq_1))))))))))))))))))))))) ?_;(repeat(refine Pn.mk ?_;intro N hN))))
      exact gx (sd (tw @nE (tw @c0 (tw @c2 (tw @c7 @c8))))) (⟨ym,EJ,sd @c9,sd @jq,by
       rcases Iz with⟨h1,_⟩|h
       ·exact absurd h1 PJ
       ·exact .inr h⟩) (⟨lZ,by(try dsimp only);omega⟩)
   ·have tU:decide (out (bK bs ed v)=out v-1)=false:=decide_eq_false Pz
    (try((repeat(revert hN;revert N;apply Pn.out));refine wk (tw @nE (tw @c0 (tw @c2 (tw @c7 (tw @c8 (tw @c9 (tw @jq (tw @hk (tw @Dq (tw @Dp (tw @Ds (tw @lu (tw @si (tw @Dy (tw @eR (tw @qn (tw @hr (tw @PM (tw @rD (tw @mN (tw @tU @bt.eq_1))))))))))))))))))))) ?_;(repeat(refine Pn.mk ?_;intro N hN))))
    exact gx (sd (tw @nE (tw @c0 (tw @c2 (tw @c7 @c8))))) (⟨ym,EJ,sd @c9,sd @jq,stay _ rfl fun h=>Pz h.2⟩) (⟨lZ,by(try dsimp only);omega⟩)
  ·(try((repeat(revert hN;revert N;apply Pn.out));refine wk (tw @nE (tw @c0 (tw @c2 (tw @c7 (tw @c8 (tw @c9 (tw @jq (tw @hk (tw @Dq (tw @Dp (tw @Ds (tw @lu (tw @si (tw @Dy (tw @eR (tw @qn (tw @hr @bt.eq_1))))))))))))))))) ?_;(repeat(refine Pn.mk ?_;intro N hN))))
   exact gx (sd (tw @nE (tw @c0 (tw @c2 (tw @c7 @c8))))) (⟨ym,EJ,sd @c9,sd @jq,stay _ rfl fun h=>hr h.1⟩) (⟨lZ,by(try dsimp only);omega⟩)
 ·have k8:k=I.length:=by omega
  have T5:∃ed:Nat,ed∈I/\EJ=(ed:Int)/\ym=(bK bs ed v:Int)/\0<fC bs f' ed v/\out (bK bs ed v)=out v-1:=by
   rcases Iz with⟨h1,h2⟩|h
   ·exfalso
    obtain⟨ed,he,hq⟩:=MH
    obtain⟨z,hz,rfl⟩:=List.getElem_of_mem he
    refine h2 z (by omega) ?_
    rw[List.getD_eq_getElem?_getD,List.getElem?_eq_getElem hz];exact hq
   ·exact h
  obtain⟨ed,pH,rfl,rfl,hr,Pz⟩:=T5
  obtain⟨he,pG⟩:=hIm _ pH
  (try((repeat(revert hN;revert N;apply Pn.out));refine wk (tw @nE (tw @c0 (tw @c2 (tw @c7 (tw @c8 (tw @c9 (tw @jq (tw @hk (tw @Dq (tw @Dp (tw @Ds (tw @lu (tw @si (tw @Dy (tw @qn @bt.eq_1))))))))))))))) ?_;(repeat(refine Pn.mk ?_;intro N hN))))
  refine .inr (aL _ _ _ _ _ (fun r σ1 hq=>?_) (ON cnt bs f' Li ed v he X A F ⟨st_c.get,_⟩ nb (hN1.frame (fun i _=>lZ i) (Nat.le_refl _)) (by(try dsimp only);omega)))
  obtain⟨Sd,mL,IE⟩:=hq
  (try dsimp only at mL IE)
  refine hN _ _ ?_
  clear hN N
  (try((repeat(revert hN;revert N;apply Pn.out));refine wk (tw @nE (tw @c0 (tw @c2 (tw @c7 (tw @c8 @c9))))) ?_;(repeat(refine Pn.mk ?_;intro N hN))))
  refine⟨_,?_,bK bs ed v,tD bs f' ed v,rfl,oJ ok he,by omega,sd @Nat.zero_add,hW.step he pG hr Pz,Sd,fun i hi hF=>by rw[IE i hF,lZ i,lW i hi hF],by(try dsimp only);omega⟩
  omega
end Go.Proofs.YtgoelphibofcmaaGreat.V

namespace Go.Proofs.YtgoelphibofcmaaGreat.V
open Go.RowKit
attribute [local irreducible] eb wpOps gj Call
attribute [local go_sem] aJ fM eP fZ fY cL upd cu K.av cN AV.cells AV.cell rowOf rowsOf part ld rowAt bI bW dD ee gT bL dc ev fU eY dr ej da cZ dO dR bR aX cR bQ cV cU eh ek ei cQ bV db ef bP aP cX cE gS bw cJ bU aW dx bj dE AV.undef bD bF dV ec dI dS cF eu eB cD ep eo cW cY List.getD_cons_zero List.getD_cons_succ List.getD_nil List.all_cons List.all_nil Bool.and_true Bool.true_and Bool.and_self Bool.not_true Bool.not_false Option.map_some Option.map_none Option.bind_some Option.bind_none List.length_cons List.length_nil List.take_succ_cons List.take_zero List.take_nil List.drop_succ_cons List.drop_zero List.drop_nil List.head?_cons List.map_cons List.map_nil List.getElem?_cons_zero List.getElem?_cons_succ List.cons_append List.nil_append List.append_nil List.length_map List.set_cons_zero List.set_cons_succ Nat.reduceMul eq_self Int.toNat_natCast Int.natCast_nonneg and_self true_and and_true decide_true decide_false Bool.false_eq_true Nat.zero_add Nat.add_zero List.contains_cons List.contains_nil Bool.or_false Bool.false_or beq_self_eq_true Nat.reduceBEq ne_eq not_true_eq_false not_false_eq_true Id.mk.injEq false_and and_false Nat.reduceLT Int.reduceLE Int.reduceLT Int.reduceToNat Int.reduceNeg Int.reduceAdd Nat.le_refl List.length_append beq_true beq_false Bool.not_eq_eq_eq_not or_false false_or dM aj aq aH bd bz ck aU bf aT aZ cP bH
def s8 (P:Program) (f:Nat) (args:List AV) (R:AV->Prop):Prop:=∀σ:au,Call P f args ⟨V.ro σ.get,σ.next⟩ fun r0 σ'=>∃r',V.fz σ'.get 6 r0=some r'/\R r'
theorem Da {P:Program} {f:Nat} {args:List AV} {g:Rows} {n:Nat} {R:AV->Prop} (h:Sound P f args ⟨V.ro g,n⟩ fun r0 σ'=>∃r',V.fz σ'.get 6 r0=some r'/\R r'):Sound P f args ⟨g,n⟩ fun r σ'=>R r/\σ'=⟨g,n⟩:=by
 intro hs D ι w vs S U A
 refine(Ar (g0:=g) (K:=R) h (fun _ _ h=>h) S U A).mono ?_
 rintro e w' ⟨r,D',u,rfl,hR,T,S',hr⟩
 exact⟨r,g,n,D',ι,u,rfl,⟨hR,rfl⟩,T,S',U,Nat.le_refl _,hr⟩
theorem s8.x {P:Program} (hm:P.follows .mixedOrders=true) {f:Nat} {args:List AV} {R:AV->Prop} (h:s8 P f args R) {σ:au}:Call P f args σ fun r σ'=>R r/\σ'=σ:=
 fE (Da (gW hm (h σ)))
theorem s8.body {P:Program} {f:Nat} {args:List AV} {R:AV->Prop} {nt na:Nat} {body:VC} {res:List nU} (hf:mi P f=some ⟨nt,na,body,res⟩) (ha:na=args.length) (h:(∀a∈args,eD a)->∀σ:au,eb (Call P) body (kU res fun r0 σ'=>∃r',V.fz σ'.get 6 r0=some r'/\R r') (cu args) ⟨V.ro σ.get,σ.next⟩):s8 P f args R:=fun σ=>lP hf ha fun hl=>h hl σ
theorem LI {g:Rows} {rows:List (List AV)} {xs:List (List Nat)} {ids:List Id} (n:Nat) (h:eE Pp g rows xs ids):dY g (n+2) rows=some (xs.map fun l=>[OU l]):=by
 induction h with
 |nil=>rw[dY];rfl
 |cons h1 _ ih=>
  rename_i x _ _ _ _ _
  rcases h1 with⟨h0,h1,_⟩|⟨id,h1,h0,h2,_⟩
  ·subst h0 h1;rw[dY,ih,aj,aq,aU];rfl
  ·have gU:x≠[]:=by rintro rfl;simp at h0
   subst h1
   rw[dY,ih,aj,aq,gY (e:=eN) (sz:=1) h2 rfl fun a=>fzN _ n a]
   simp[OU,gU]
theorem nR.fz0 {cnt:Nat} {bs:List PB} {f:Nat->Int} {X A F:Id} {g:Rows} {nx:Nat} (h:nR cnt bs f X A F g nx):V.fz g 5 (.ptr X 0 0)=some (.dj (fN cnt bs f)):=by
 have hf:V.fz g 4 (.own F 0 bs.length)=some (.sl (dU f bs.length)):=by
  rw[ig]
  simp only[h.f,if_true]
  rw[if_pos (by rw[dy];omega),List.drop_zero,List.take_of_length_le (by rw[dy];omega),zX];rfl
 have ha:V.fz g 4 (.own A 0 cnt)=some (.sl (p4 cnt bs bs.length)):=by
  obtain⟨rows,ids,h1,h2,_,_⟩:=h.a
  have hl:=h2.len
  rw[jj]at hl
  rw[ig]
  simp only[h1,if_true]
  rw[if_pos (by omega),List.drop_zero,List.take_of_length_le (by omega),LI 1 h2]
  simp[lg,p4]
 rw[aZ]
 simp only[h.x,if_true,List.getElem?_cons_zero,List.drop_zero,bt,aj,aq,aH,ck,ha,hf,Option.map_some,fN]
theorem EK {S:Nat->Bool}:∀bs:List PB,(∀b∈bs,b.s<=4)->iW S bs<=4*bs.length
 |[],_=>by simp[iW]
 |b::bs,h=>by
  rw[sC]
  have:=EK (S:=S) bs fun x hx=>h x (List.mem_cons_of_mem _ hx)
  have:=h b (by simp)
  simp only[List.length_cons]
  split<;>omega
theorem jP.zero {bs:List PB} {x y:Nat} (h:∀e,e<bs.length->0<=(cm bs e).s/\(cm bs e).s<=4):jP bs (fun _=>0) x y 0:=
 ⟨fun i hi=>by have:=h i hi;omega,fun S _ _=>jL fun i _=>by simp⟩
theorem KC {bs:List PB} {b:PB} (h:b∈bs):∃e,e<bs.length/\cm bs e=b:=by
 obtain⟨e,he,rfl⟩:=List.getElem_of_mem h
 exact⟨e,he,by simp[cm,List.getD_eq_getElem?_getD,he]⟩
theorem Gy (cnt:Nat) (hn:cnt<=1048576) (bs:List PB) (ok:nq cnt bs) (nH:bs.length<=1048576) (dH:∀e,e<bs.length->0<=(cm bs e).s/\(cm bs e).s<=4) (x y:Nat) (hx:x<cnt) (hy:y<cnt) (Re:x≠y):
  s8 Tryz.prog 218 [.int .i64 cnt,.sl (bs.map aA),.int .i64 x,.int .i64 y] fun r=>∃f val,r=.iF [.dj (fN cnt bs f),.int .i64 val]/\jP bs f x y val/\∃S:Nat->Bool,S x=true/\S y=false/\val=iW S bs:=by
 refine s8.body eJ rfl fun hl σ=>?_
 clear hl
 (try((repeat(revert hN;revert N;apply Pn.out));refine wk @Nat.zero_add ?_;(repeat(refine Pn.mk ?_;intro N hN))))
 refine .inr (aL _ _ _ _ _ (fun r σ1 hq=>?_) (I3 cnt hn bs ok nH _))
 obtain⟨X,A,F,rfl,hX,hS⟩:=hq
 refine hN _ _ ?_
 clear hN N
 have hS0:∀f val,jP bs f x y val->val<=iW (fun v=>decide (v=x)) bs:=fun f val hf=>hf.bound (decide_eq_true rfl) (decide_eq_false fun h=>Re h.symm)
 have htot:=EK (S:=fun v=>decide (v=x)) bs fun b hb=>by
  obtain⟨e,he,rfl⟩:=KC hb
  exact(dH e he).2
 generalize iW (fun v=>decide (v=x)) bs=T at *
 (try((repeat(revert hN;revert N;apply Pn.out));refine wk @Nat.zero_add ?_;(repeat(refine Pn.mk ?_;intro N hN))))
 refine aO (fun m env st=>∃(f:Nat->Int) (val:Int),m=(T-val).toNat/\0<=val/\env 10=.ptr X 0 0/\env 11=.int .i64 val/\jP bs f x y val/\nR cnt bs f X A F st.get σ1.next/\σ1.next<=st.next) T.toNat ⟨_,0,by simp,by omega,by(simp only[go_sem, ↓reduceIte,Nat.reduceEqDiff,Nat.reduceAdd,Nat.reduceSub,Nat.reduceLeDiff,reduceCtorEq]),by(simp only[go_sem, ↓reduceIte,Nat.reduceEqDiff,Nat.reduceAdd,Nat.reduceSub,Nat.reduceLeDiff,reduceCtorEq]),jP.zero dH,hS.frame (fun i hi=>rfl) (Nat.le_refl _),by(try dsimp only);omega⟩ ?_
 rintro m env_b st_b ⟨f,val,rfl,qu,b10,b11,hf,hN1,hle⟩ eV
 have b2:=eV 2 (by kernel_rfl)
 have b3:=eV 3 (by kernel_rfl)
 simp only[go_sem, ↓reduceIte,Nat.reduceEqDiff,Nat.reduceAdd,Nat.reduceSub,Nat.reduceLeDiff,reduceCtorEq]at b2 b3
 clear eV
 (try((repeat(revert hN;revert N;apply Pn.out));refine wk (tw @b2 (tw @b3 @b10)) ?_;(repeat(refine Pn.mk ?_;intro N hN))))
 refine .inr (aL _ _ _ _ _ (fun r σ2 hq=>?_) (NK cnt hn bs ok nH dH f x y hx hy Re val hf X A F ⟨st_b.get,_⟩ σ1.next hN1 (by(try dsimp only);omega)))
 obtain⟨b,f',rfl,Sd,mL,_,la,UI⟩:=hq
 (try dsimp only at mL)
 refine hN _ _ ?_
 clear hN N
 cases b with
 |true=>
  have kg:=UI rfl
  have Hr:=hS0 _ _ hf
  have Bb:=hS0 _ _ kg
  have hw:IntKind.i64.wrap (val+1)=val+1:=bh (by omega)
  (try((repeat(revert hN;revert N;apply Pn.out));refine wk (tw @b10 (tw @b11 @hw)) ?_;(repeat(refine Pn.mk ?_;intro N hN))))
  exact⟨_,by omega,f',val+1,rfl,by omega,sd @b10,sd (tw @b11 @hw),kg,Sd,by(try dsimp only);omega⟩
 |false=>
  obtain⟨rfl,S,h1,h2,h3⟩:=la rfl
  (try((repeat(revert hN;revert N;apply Pn.out));refine wk (tw @b10 @b11) ?_;(repeat(refine Pn.mk ?_;intro N hN))))
  have hz:=Sd.fz0
  exact⟨[.ptr X 0 0,.int .i64 val],sd @Nat.zero_add,.iF [.dj (fN cnt bs f'),.int .i64 val],by simp only[fc,bH,aj,aq,hz,aH,Option.map_some],f',val,rfl,hf,S,h1,h2,h3⟩
theorem Gz (cnt:Nat) (hn:cnt<=1048576) (bs:List PB) (ok:nq cnt bs) (nH:bs.length<=1048576) (f:Nat->Int) (hs:Small bs f) (y:Nat) (hy:y<cnt):
  lO Tryz.prog 219 [.dj (fN cnt bs f),.int .i64 y] fun r=>∃l:List Nat,r=.sl (l.map eN)/\l.length<=cnt:=by
 refine lO.body eJ rfl fun hl n0=>?_
 clear hl
 have hz:∀g:Rows,cK (dM g) 6 [.dj (fN cnt bs f),.int .i64 (y:Int)]=some [.dj (fN cnt bs f),.int .i64 y]:=fun g=>by simp only[aj,aq,aT,aH,Option.map_some]
 (try((repeat(revert hN;revert N;apply Pn.out));refine wk @Nat.zero_add ?_;(repeat(refine Pn.mk ?_;intro N hN))))
 refine .inr (aL _ _ _ _ _ (fun r σ1 hq=>?_) ((Fu cnt hn bs ok nH f hs y hy).x mixed (hz _)))
 obtain⟨⟨out,rfl,Ov⟩,rfl⟩:=hq
 refine hN _ _ ?_
 clear hN N
 (try((repeat(revert hN;revert N;apply Pn.out));refine wk @fN.eq_1 ?_;(repeat(refine Pn.mk ?_;intro N hN))))
 refine aO (fun n env st=>∃k:Nat,n=(cnt)-k/\k<=(cnt)/\env 7=.int .i64 (k:Int)/\(∃(o:Id) (l:List Nat),env 6=.own o 0 l.length/\st.get o=some ⟨true,1,l.map eN⟩/\o.bm<st.next/\l.length<=k)) (cnt) ⟨0,by omega,by omega,sl @fN.eq_1,⟨⟨219002000,n0+1+1+1⟩,[],by(simp only[go_sem, ↓reduceIte,Nat.reduceEqDiff,Nat.reduceAdd,Nat.reduceSub,Nat.reduceLeDiff,reduceCtorEq])<;>rfl,by(simp only[go_sem, ↓reduceIte,Nat.reduceEqDiff,Nat.reduceAdd,Nat.reduceSub,Nat.reduceLeDiff,reduceCtorEq])<;>rfl,by(try dsimp only);omega,by simp⟩⟩ ?_
 rintro n_a env_a st_a ⟨k,rfl,ale,a7,ke⟩ dv
 have a0:=dv 0 (by kernel_rfl);have a5:=dv 5 (by kernel_rfl)
 simp only[go_sem, ↓reduceIte,Nat.reduceEqDiff,Nat.reduceAdd,Nat.reduceSub,Nat.reduceLeDiff,reduceCtorEq,fN]at a0 a5
 clear dv
 obtain⟨o,l,a6,ag,rD,K6⟩:=ke
 have qu:=dz rD
 have lY:(l.map eN).length=l.length:=by simp
 by_cases hk:(k:Int)<(cnt:Int)
 ·have cz:∀{e:Env} {gg:Rows} {nx:Nat},(e 7=.int .i64 (IntKind.i64.wrap ((k:Int)+1)))->(∃(o:Id) (l:List Nat),e 6=.own o 0 l.length/\gg o=some ⟨true,1,l.map eN⟩/\o.bm<nx/\l.length<=(k+1))->∃m0,m0<(cnt)-k/\∃k:Nat,m0=(cnt)-k/\k<=(cnt)/\e 7=.int .i64 (k:Int)/\(∃(o:Id) (l:List Nat),e 6=.own o 0 l.length/\gg o=some ⟨true,1,l.map eN⟩/\o.bm<nx/\l.length<=k):=fun x1 x2=>⟨_,by omega,k+1,rfl,by omega,(by rw[x1,az (by omega)]),x2⟩
  have vp:=dJ (f:=out) (show k<cnt by omega)
  rw[aG]at vp
  have e1:l.length+1<=16777216:=by omega
  by_cases h0:0<=out k
  ·(try((repeat(revert hN;revert N;apply Pn.out));refine wk (tw @a7 (tw @a0 (tw @a5 (tw @a6 (tw @ag (tw @qu (tw @hk (tw @vp (tw @h0 (tw @e1 (tw @lY @fN.eq_1))))))))))) ?_;(repeat(refine Pn.mk ?_;intro N hN))))
   exact cz (sd (tw @a7 (tw @a0 (tw @a5 @fN.eq_1)))) (⟨⟨219007003,st_a.next+1+1⟩,l++[k],by rw[List.length_append];simp only[go_sem, ↓reduceIte,Nat.reduceEqDiff,Nat.reduceAdd,Nat.reduceSub,Nat.reduceLeDiff,reduceCtorEq,List.length_cons,List.length_nil],by rw[List.map_append,List.map_cons,List.map_nil];simp only[go_sem, ↓reduceIte,Nat.reduceEqDiff,Nat.reduceAdd,Nat.reduceSub,Nat.reduceLeDiff,reduceCtorEq,eN],by(try dsimp only);omega,by simp;omega⟩)
  ·(try((repeat(revert hN;revert N;apply Pn.out));refine wk (tw @a7 (tw @a0 (tw @a5 (tw @a6 (tw @ag (tw @qu (tw @hk (tw @vp (tw @h0 (tw @lY @fN.eq_1)))))))))) ?_;(repeat(refine Pn.mk ?_;intro N hN))))
   exact cz (sd (tw @a7 (tw @a0 (tw @a5 @fN.eq_1)))) (⟨o,l,sd @a6,sd @ag,by(try dsimp only);omega,by omega⟩)
 ·(try((repeat(revert hN;revert N;apply Pn.out));refine wk (tw @a7 (tw @a0 (tw @a5 (tw @a6 (tw @hk @fN.eq_1))))) ?_;(repeat(refine Pn.mk ?_;intro N hN))))
  have sH:gi st_a.get 6 (.own o 0 l.length)=some (.sl (l.map eN)):=fB ag rfl fun b=>NI _ 4 b
  exact⟨_,rfl,_,by simp only[go_sem, ↓reduceIte,Nat.reduceEqDiff,Nat.reduceAdd,Nat.reduceSub,Nat.reduceLeDiff,reduceCtorEq,fc];exact sH,l,rfl,by omega⟩
end Go.Proofs.YtgoelphibofcmaaGreat.V

namespace Go.Proofs.YtgoelphibofcmaaGreat.V
open Go.RowKit
attribute [local irreducible] eb wpOps gj Call
attribute [local go_sem] aJ fM eP fZ fY cL upd cu K.av cN AV.cells AV.cell rowOf rowsOf part ld rowAt bI bW dD ee gT bL dc ev fU eY dr ej da cZ dO dR bR aX cR bQ cV cU eh ek ei cQ bV db ef bP aP cX cE gS bw cJ bU aW dx bj dE AV.undef bD bF dV ec dI dS cF eu eB cD ep eo cW cY List.getD_cons_zero List.getD_cons_succ List.getD_nil List.all_cons List.all_nil Bool.and_true Bool.true_and Bool.and_self Bool.not_true Bool.not_false Option.map_some Option.map_none Option.bind_some Option.bind_none List.length_cons List.length_nil List.take_succ_cons List.take_zero List.take_nil List.drop_succ_cons List.drop_zero List.drop_nil List.head?_cons List.map_cons List.map_nil List.getElem?_cons_zero List.getElem?_cons_succ List.cons_append List.nil_append List.append_nil List.length_map List.set_cons_zero List.set_cons_succ Nat.reduceMul eq_self Int.toNat_natCast Int.natCast_nonneg and_self true_and and_true decide_true decide_false Bool.false_eq_true Nat.zero_add Nat.add_zero List.contains_cons List.contains_nil Bool.or_false Bool.false_or beq_self_eq_true Nat.reduceBEq ne_eq not_true_eq_false not_false_eq_true Id.mk.injEq false_and and_false Nat.reduceLT Int.reduceLE Int.reduceLT Int.reduceToNat Int.reduceNeg Int.reduceAdd Nat.le_refl List.length_append beq_true beq_false Bool.not_eq_eq_eq_not or_false false_or dM aj aq aH bd bz ck aU bf aT aZ cP bH
theorem BF (v1 v2:Int) (l1 l2:List Nat) (h1:l1.length<=1048576) (h2:l2.length<=1048576):
  lO Tryz.prog 220 [.int .i64 v1,.sl (l1.map eN),.int .i64 v2,.sl (l2.map eN)] fun r=>∃b,r=.bool b/\(v1<v2->b=true)/\(v2<v1->b=false):=by
 refine lO.body eJ rfl fun hl n0=>?_
 clear hl
 have ret:∀{t:Nat} {env:Env} {σ:au} {b:Bool} {x:Ex},(x=.ret∨x=.normal)->env t=.bool b->((v1<v2->b=true)/\(v2<v1->b=false))->kU [.tmp t] (fun r0 σ'=>∃r',gi σ'.get 6 r0=some r'/\∃b,r'=.bool b/\(v1<v2->b=true)/\(v2<v1->b=false)) x env σ:=by
  intro t env σ b x hx he hb
  have:∃vs,fu env σ.get [.tmp t]=some vs/\∃r',gi σ.get 6 (fc vs)=some r'/\∃b,r'=.bool b/\(v1<v2->b=true)/\(v2<v1->b=false):=⟨[env t],rfl,.bool b,by rw[he];exact fH _ _ _,b,rfl,hb⟩
  rcases hx with rfl|rfl
  ·exact this
  ·exact this
 have m1:(l1.map eN).length=l1.length:=by simp
 have m2:(l2.map eN).length=l2.length:=by simp
 by_cases hv:v1=v2
 ·have hd:decide (v1=v2)=true:=decide_eq_true hv
  by_cases K6:(l1.length:Int)=(l2.length:Int)
  ·have tU:decide ((l1.length:Int)=(l2.length:Int))=true:=decide_eq_true K6
   have TU:decide (l1.length=l2.length)=true:=decide_eq_true (by omega)
   (try((repeat(revert hN;revert N;apply Pn.out));refine wk (tw @hd (tw @tU (tw @TU (tw @m1 @m2)))) ?_;(repeat(refine Pn.mk ?_;intro N hN))))
   refine aO (fun n env st=>∃k:Nat,n=(l1.length)-k/\k<=(l1.length)/\env 9=.int .i64 (k:Int)) (l1.length) ⟨0,by omega,by omega,sl @Nat.zero_add⟩ ?_
   rintro n_a env_a st_a ⟨k,rfl,ale,a9⟩ dv
   have a1:=dv 1 (by kernel_rfl);have a3:=dv 3 (by kernel_rfl)
   simp only[go_sem, ↓reduceIte,Nat.reduceEqDiff,Nat.reduceAdd,Nat.reduceSub,Nat.reduceLeDiff,reduceCtorEq]at a1 a3
   clear dv
   by_cases hk:(k:Int)<(l1.length:Int)
   ·have cz:∀{e:Env},(e 9=.int .i64 (IntKind.i64.wrap ((k:Int)+1)))->∃m0,m0<(l1.length)-k/\∃k:Nat,m0=(l1.length)-k/\k<=(l1.length)/\e 9=.int .i64 (k:Int):=fun x1=>⟨_,by omega,k+1,rfl,by omega,(by rw[x1,az (by omega)])⟩
    have g1:(l1.map eN)[k]? =some (eN (l1.getD k 0)):=getD_map eN (by omega)
    have g2:(l2.map eN)[k]? =some (eN (l2.getD k 0)):=getD_map eN (by omega)
    rw[eN]at g1 g2
    by_cases he:((l1.getD k 0:Nat):Int)=((l2.getD k 0:Nat):Int)
    ·have QH:decide (((l1.getD k 0:Nat):Int)=((l2.getD k 0:Nat):Int))=true:=decide_eq_true he
     have TV:decide (l1.getD k 0=l2.getD k 0)=true:=decide_eq_true (by omega)
     (try((repeat(revert hN;revert N;apply Pn.out));refine wk (tw @a9 (tw @a1 (tw @a3 (tw @hk (tw @m1 (tw @g1 (tw @g2 (tw @QH @TV)))))))) ?_;(repeat(refine Pn.mk ?_;intro N hN))))
     exact cz (sd (tw @a9 (tw @a1 @a3)))
    ·have QH:decide (((l1.getD k 0:Nat):Int)=((l2.getD k 0:Nat):Int))=false:=decide_eq_false he
     have TV:decide (l1.getD k 0=l2.getD k 0)=false:=decide_eq_false (by omega)
     (try((repeat(revert hN;revert N;apply Pn.out));refine wk (tw @a9 (tw @a1 (tw @a3 (tw @hk (tw @m1 (tw @g1 (tw @g2 (tw @QH @TV)))))))) ?_;(repeat(refine Pn.mk ?_;intro N hN))))
     exact ret (.inl rfl) (by simp only[go_sem, ↓reduceIte,Nat.reduceEqDiff,Nat.reduceAdd,Nat.reduceSub,Nat.reduceLeDiff,reduceCtorEq];rfl) ⟨fun h=>by omega,fun h=>by omega⟩
   ·(try((repeat(revert hN;revert N;apply Pn.out));refine wk (tw @a9 (tw @a1 (tw @a3 (tw @hk @m1)))) ?_;(repeat(refine Pn.mk ?_;intro N hN))))
    exact ret (b:=false) (.inl rfl) (sd @Nat.zero_add) ⟨fun h=>by omega,fun h=>by omega⟩
  ·have tU:decide ((l1.length:Int)=(l2.length:Int))=false:=decide_eq_false K6
   have TU:decide (l1.length=l2.length)=false:=decide_eq_false (by omega)
   (try((repeat(revert hN;revert N;apply Pn.out));refine wk (tw @hd (tw @tU (tw @TU (tw @m1 @m2)))) ?_;(repeat(refine Pn.mk ?_;intro N hN))))
   exact ret (.inl rfl) (by simp only[go_sem, ↓reduceIte,Nat.reduceEqDiff,Nat.reduceAdd,Nat.reduceSub,Nat.reduceLeDiff,reduceCtorEq];rfl) ⟨fun h=>by omega,fun h=>by omega⟩
 ·have hd:decide (v1=v2)=false:=decide_eq_false hv
  (try((repeat(revert hN;revert N;apply Pn.out));refine wk @hd ?_;(repeat(refine Pn.mk ?_;intro N hN))))
  exact ret (b:=decide (v1<v2)) (.inl rfl) (sd @Nat.zero_add) ⟨fun h=>decide_eq_true h,fun h=>decide_eq_false (by omega)⟩
def uA (bs:List PB) (cnt:Nat) (jf:Int) (k:Nat):Prop:=(k=1/\jf= -1)∨(0<=jf/\(∀z,1<=z->z<k->∀S:Nat->Bool,S 0=true->S z=false->jf<=iW S bs)/\∃S:Nat->Bool,S 0=true/\(∃z,z<cnt/\S z=false)/\jf=iW S bs)
theorem jP.nn {bs:List PB} {val:Int} {S:Nat->Bool} (dH:∀e,e<bs.length->0<=(cm bs e).s/\(cm bs e).s<=4) (h:val=iW S bs):0<=val:=by
 rw[h,uQ]
 have:=rY (f:=fun _=>0) (g:=fun i=>if S (cm bs i).a=S (cm bs i).b then 0 else(cm bs i).s) (n:=bs.length) fun i hi=>by
  have:=dH i hi
  split<;>omega
 rw[jL fun _ _=>rfl]at this
 exact this
theorem uA.done {bs:List PB} {cnt:Nat} {jf:Int} (hc:2<=cnt) (h:uA bs cnt jf cnt) (t:Int):t<=jf↔kC cnt bs t:=by
 rcases h with⟨h,_⟩|⟨_,h1,S,h2,⟨z,hz,ki⟩,h3⟩
 ·omega
 ·constructor
  ·intro ht S h0 ⟨y,hy,hy2⟩
   have:y≠0:=by rintro rfl;rw[h0]at hy2;cases hy2
   have:=h1 y (by omega) hy S h0 hy2
   omega
  ·intro hH
   rw[h3];exact hH S h2 ⟨z,hz,ki⟩
theorem zm (cnt:Nat) (h2:2<=cnt) (hn:cnt<=1048576) (bs:List PB) (ok:nq cnt bs) (nH:bs.length<=1048576) (dH:∀e,e<bs.length->0<=(cm bs e).s/\(cm bs e).s<=4):
  s8 Tryz.prog 194 [.int .i64 cnt,.sl (bs.map aA)] fun r=>∃jf p,r=.iF [.int .i64 jf,p]/\∀t:Int,t<=jf↔kC cnt bs t:=by
 refine s8.body eJ rfl fun hl σ=>?_
 clear hl
 (try((repeat(revert hN;revert N;apply Pn.out));refine wk @Nat.zero_add ?_;(repeat(refine Pn.mk ?_;intro N hN))))
 have z0:∀(g:Rows) (id:Id),g id=some ⟨true,1,[]⟩->V.fz (dM g) 6 (.own id 0 0)=some (.sl (([]:List Nat).map eN))/\V.fz g 5 (.own id 0 0)=some (.sl (([]:List Nat).map eN)):=fun g id h=>by
  have h':dM g id=some ⟨true,1,[]⟩:=by simp[dM,h]
  constructor
  ·rw[ig];simp only[h',if_true];rw[if_pos (by simp)];simp[ot]
  ·rw[ig];simp only[h,if_true];rw[if_pos (by simp)];simp[ot]
 refine aO (fun m env st=>∃(k:Nat) (jf:Int) (l:List Nat) (p:AV),m=cnt-k/\1<=k/\k<=cnt/\env 8=.int .i64 (k:Int)/\env 6=.int .i64 jf/\env 7=p/\V.fz (dM st.get) 6 p=some (.sl (l.map eN))/\V.fz st.get 5 p=some (.sl (l.map eN))/\l.length<=cnt/\uA bs cnt jf k) (cnt-1) ⟨1,-1,[],.own ⟨194002000,σ.next+1+1⟩ 0 0,rfl,by omega,by omega,by(simp only[go_sem, ↓reduceIte,Nat.reduceEqDiff,Nat.reduceAdd,Nat.reduceSub,Nat.reduceLeDiff,reduceCtorEq])<;>rfl,by(simp only[go_sem, ↓reduceIte,Nat.reduceEqDiff,Nat.reduceAdd,Nat.reduceSub,Nat.reduceLeDiff,reduceCtorEq])<;>rfl,by(simp only[go_sem, ↓reduceIte,Nat.reduceEqDiff,Nat.reduceAdd,Nat.reduceSub,Nat.reduceLeDiff,reduceCtorEq])<;>rfl,(z0 _ _ (sd @Nat.zero_add)).1,(z0 _ _ (sd @Nat.zero_add)).2,by simp,.inl ⟨rfl,rfl⟩⟩ ?_
 rintro m env_b st_b ⟨k,jf,l,p,rfl,qN,sJ,b8,b6,b7,x7,ki,hl,hB⟩ eV
 have b0:=eV 0 (by kernel_rfl)
 have b1:=eV 1 (by kernel_rfl)
 simp only[go_sem, ↓reduceIte,Nat.reduceEqDiff,Nat.reduceAdd,Nat.reduceSub,Nat.reduceLeDiff,reduceCtorEq]at b0 b1
 clear eV z0
 by_cases hk:(k:Int)<(cnt:Int)
 ·have fa:k<cnt:=by omega
  have hFl:=Gy cnt hn bs ok nH dH 0 k (by omega) fa (by omega)
  rw[show(((0:Nat):Int))=0 from rfl]at hFl
  (try((repeat(revert hN;revert N;apply Pn.out));refine wk (tw @b0 (tw @b1 (tw @b6 (tw @b7 (tw @b8 @hk))))) ?_;(repeat(refine Pn.mk ?_;intro N hN))))
  refine .inr (aL _ _ _ _ _ (fun r σ1 hq=>?_) (hFl.x mixed))
  obtain⟨⟨f,val,rfl,hf,S,NY,KY,Sf⟩,rfl⟩:=hq
  refine hN _ _ ?_
  clear hN N
  have Li:=wD dH hf.le
  have sK:=jP.nn (val:=val) dH Sf
  (try((repeat(revert hN;revert N;apply Pn.out));refine wk (tw @b0 (tw @b1 (tw @b6 (tw @b7 @b8)))) ?_;(repeat(refine Pn.mk ?_;intro N hN))))
  refine .inr (aL _ _ _ _ _ (fun r σ1 hq=>?_) ((Gz cnt hn bs ok nH f Li k fa).x mixed (by simp only[aj,aq,aT,aH,Option.map_some])))
  obtain⟨⟨l',rfl,Kl⟩,rfl⟩:=hq
  refine hN _ _ ?_
  clear hN N
  have hw:IntKind.i64.wrap ((k:Int)+1)=((k+1:Nat):Int):=az (by omega)
  have RB:(∀z,1<=z->z<k->∀S:Nat->Bool,S 0=true->S z=false->val<=iW S bs)->uA bs cnt val (k+1):=fun h=>.inr ⟨sK,fun z x7 ki S' h0 h1=>by
   by_cases tt:z=k
   ·subst tt;exact hf.bound h0 h1
   ·exact h z x7 (by omega) S' h0 h1,S,NY,⟨k,fa,KY⟩,Sf⟩
  by_cases jU:jf<0
  ·have wQ:k=1:=by
    rcases hB with⟨h,_⟩|⟨h,_⟩
    ·exact h
    ·omega
   (try((repeat(revert hN;revert N;apply Pn.out));refine wk (tw @b0 (tw @b1 (tw @b6 (tw @b7 (tw @b8 (tw @jU @hw)))))) ?_;(repeat(refine Pn.mk ?_;intro N hN))))
   refine⟨_,?_,k+1,val,l',.sl (l'.map eN),rfl,by omega,by omega,sd (tw @b8 @hw),sd @Nat.zero_add,sd @Nat.zero_add,ck _ _ _,ck _ _ _,Kl,RB fun z h1 h2=>by omega⟩
   omega
  ·have wQ:(∀z,1<=z->z<k->∀S:Nat->Bool,S 0=true->S z=false->jf<=iW S bs)/\∃S:Nat->Bool,S 0=true/\(∃z,z<cnt/\S z=false)/\jf=iW S bs:=by
    rcases hB with⟨_,h⟩|⟨_,h⟩
    ·omega
    ·exact h
   (try((repeat(revert hN;revert N;apply Pn.out));refine wk (tw @b0 (tw @b1 (tw @b6 (tw @b7 (tw @b8 (tw @jU @hw)))))) ?_;(repeat(refine Pn.mk ?_;intro N hN))))
   refine .inr (aL _ _ _ _ _ (fun r σ1 hq=>?_) ((BF val jf l' l (by omega) (by omega)).x mixed (by simp only[aj,aq,ck,aH,x7,Option.map_some])))
   obtain⟨⟨b,rfl,Hr,Bb⟩,rfl⟩:=hq
   refine hN _ _ ?_
   clear hN N
   cases b with
   |true=>
    have PS:val<=jf:=by
     rcases Int.lt_or_le jf val with h|h
     ·exact absurd (Bb h) (by simp)
     ·exact h
    (try((repeat(revert hN;revert N;apply Pn.out));refine wk (tw @b0 (tw @b1 (tw @b6 (tw @b7 (tw @b8 @hw))))) ?_;(repeat(refine Pn.mk ?_;intro N hN))))
    refine⟨_,?_,k+1,val,l',.sl (l'.map eN),rfl,by omega,by omega,sd (tw @b8 @hw),sd @Nat.zero_add,sd @Nat.zero_add,ck _ _ _,ck _ _ _,Kl,RB fun z h1 h2 S' h3 h4=>by have:=wQ.1 z h1 h2 S' h3 h4;omega⟩
    omega
   |false=>
    have PS:jf<=val:=by
     rcases Int.lt_or_le val jf with h|h
     ·exact absurd (Hr h) (by simp)
     ·exact h
    (try((repeat(revert hN;revert N;apply Pn.out));refine wk (tw @b0 (tw @b1 (tw @b6 (tw @b7 (tw @b8 @hw))))) ?_;(repeat(refine Pn.mk ?_;intro N hN))))
    refine⟨_,?_,k+1,jf,l,p,rfl,by omega,by omega,sd (tw @b8 @hw),sd @b6,sd @b7,x7,ki,hl,.inr ⟨by omega,fun z h1 h2 S' h3 h4=>?_,wQ.2⟩⟩
    ·omega
    ·by_cases tt:z=k
     ·subst tt;have:=hf.bound h3 h4;omega
     ·exact wQ.1 z h1 (by omega) S' h3 h4
 ·have k8:k=cnt:=by omega
  (try((repeat(revert hN;revert N;apply Pn.out));refine wk (tw @b0 (tw @b1 (tw @b6 (tw @b7 (tw @b8 @hk))))) ?_;(repeat(refine Pn.mk ?_;intro N hN))))
  exact⟨[.int .i64 jf,p],sd @Nat.zero_add,.iF [.int .i64 jf,.sl (l.map eN)],by simp only[fc,bH,aj,aq,ki,aH,Option.map_some],jf,_,rfl,uA.done h2 (k8▸hB)⟩
end Go.Proofs.YtgoelphibofcmaaGreat.V

namespace Go.Proofs.YtgoelphibofcmaaGreat.V
open Go.RowKit
attribute [local irreducible] eb wpOps gj Call
attribute [local go_sem] aJ fM eP fZ fY cL upd cu K.av cN AV.cells AV.cell rowOf rowsOf part ld rowAt bI bW dD ee gT bL dc ev fU eY dr ej da cZ dO dR bR aX cR bQ cV cU eh ek ei cQ bV db ef bP aP cX cE gS bw cJ bU aW dx bj dE AV.undef bD bF dV ec dI dS cF eu eB cD ep eo cW cY List.getD_cons_zero List.getD_cons_succ List.getD_nil List.all_cons List.all_nil Bool.and_true Bool.true_and Bool.and_self Bool.not_true Bool.not_false Option.map_some Option.map_none Option.bind_some Option.bind_none List.length_cons List.length_nil List.take_succ_cons List.take_zero List.take_nil List.drop_succ_cons List.drop_zero List.drop_nil List.head?_cons List.map_cons List.map_nil List.getElem?_cons_zero List.getElem?_cons_succ List.cons_append List.nil_append List.append_nil List.length_map List.set_cons_zero List.set_cons_succ Nat.reduceMul eq_self Int.toNat_natCast Int.natCast_nonneg and_self true_and and_true decide_true decide_false Bool.false_eq_true Nat.zero_add Nat.add_zero List.contains_cons List.contains_nil Bool.or_false Bool.false_or beq_self_eq_true Nat.reduceBEq ne_eq not_true_eq_false not_false_eq_true Id.mk.injEq false_and and_false Nat.reduceLT Int.reduceLE Int.reduceLT Int.reduceToNat Int.reduceNeg Int.reduceAdd Nat.le_refl List.length_append beq_true beq_false Bool.not_eq_eq_eq_not or_false false_or dM aj aq aH bd bz ck aU bf aT aZ cP bH
theorem Ma {s:aw} (hS:iA s) (a d:Int):pK s (de (dh s a) d)<=4:=by
 have hF:=hS.form
 have fI:de (dh s a) d=0∨(0<=de (dh s a) d/\de (dh s a) d<=s.ax.length):=by
  unfold de dh
  rw[List.getD_eq_getElem?_getD,List.getD_eq_getElem?_getD]
  rcases ht:s.ah[a.toNat]? with _|t
  ·exact .inl (by simp[zF])
  ·have Uz:=List.mem_of_getElem? ht
   simp only[Option.getD_some]
   rcases hg:t.br[d.toNat]? with _|g
   ·exact .inl rfl
   ·exact .inr (hF.tn t Uz g (List.mem_of_getElem? hg))
 unfold pK
 by_cases h0:de (dh s a) d=0
 ·rw[if_pos h0];omega
 ·rw[if_neg h0]
  have hk:(de (dh s a) d-1).toNat<s.ax.length:=by omega
  have:=ea (hS.R0 _ hk).2.1
  unfold pC at this
  unfold ql
  omega
theorem AE {s:aw} (hS:iA s) (a d b:Int):gL s a d b<=4:=by
 unfold gL
 split
 ·exact Ma hS a d
 ·omega
theorem FN {s:aw} {l:List ae} (hS:iA s) {i:Nat} (hi:i<l.length) {d:Int}:∀b∈mC s l i d,b.a<l.length/\b.b<l.length/\0<=b.s/\b.s<=4:=by
 intro b hb
 unfold mC at hb
 split at hb
 ·rename_i h
  simp only[List.mem_singleton]at hb
  subst hb
  exact⟨hi,(kj h.1).1,by simp only;omega,AE hS ..⟩
 ·cases hb
theorem xC {s:aw} {l:List ae} (hS:iA s):∀b∈cG s l,b.a<l.length/\b.b<l.length/\0<=b.s/\b.s<=4:=by
 intro b hb
 simp only[cG,gE,fS,List.mem_flatMap,List.mem_range]at hb
 obtain⟨i,hi,j,_,hb⟩:=hb
 exact FN hS hi b hb
theorem p7 {s:aw} {l:List ae} (hF:j8 l):(cG s l).length<=1000:=by
 have:=tb s l l.length
 have:=hF.Cu
 rw[cG];omega
theorem HR {bs:List PB} {e:Nat} (h:e<bs.length):cm bs e∈bs:=by
 rw[cm,List.getD_eq_getElem?_getD,List.getElem?_eq_getElem h];exact List.getElem_mem h
theorem Gj {n:Nat} {bs:List PB} {t:Int} (h:n<2):kC n bs t:=fun S h0 ⟨y,hy,hf⟩=>by
 have:y=0:=by omega
 subst this;rw[h0]at hf;cases hf
def ib (s:aw) (l:List ae) (t:Int):Nat:=(leads l.length (eA (aI t (cG s l)))).length
noncomputable def nA (s:aw) (l:List ae) (t:Int):Bool:=@decide (oX l.length (cG s l) t) (Classical.propDecidable _)
def sE (s:aw) (l:List ae) (t:Int):Int:=if 64<ib s l t then 4 else 0
theorem mb {s:aw} {l:List ae} {t:Int} {p:Prop} [Decidable p] (h:p↔oX l.length (cG s l) t):decide p=nA s l t:=by
 letI:=Classical.propDecidable (oX l.length (cG s l) t)
 unfold nA
 by_cases hp:p
 ·rw[decide_eq_true hp];exact(decide_eq_true (h.1 hp)).symm
 ·rw[decide_eq_false hp];exact(decide_eq_false fun k=>hp (h.2 k)).symm
theorem BH (s:aw) (l:List ae) (t:Int) (hS:iA s) (hA:kz s l):ar Tryz.prog 158 [.dj (aa s),.dj [.sl (l.map ad)],.int .i64 t] (.iF [.bool (nA s l t),.int .i64 (sE s l t)]):=by
 refine ar.body eJ rfl fun hl n0=>?_
 clear hl
 have hb:=xC (l:=l) hS
 have nH:=p7 (s:=s) hA.1
 have Gf:=hA.1.Cu
 have xQ:=DK s l hS.form hA
 have Ko:=BG l.length (by omega) (cG s l) (fun b h=>⟨(hb b h).1,(hb b h).2.1⟩) (by omega) t
 have hL:=tx (aI t (cG s l))
 have fI:=Ed hL (fun b h=>⟨(hb b h).1,(hb b h).2.1⟩)
 have hlen:=(nf (eA (aI t (cG s l))) (cG s l)).2
 have mK:=jF l.length (eA (aI t (cG s l)))
 have e9:(l.map ad).length=l.length:=by simp
 by_cases tR:(64:Int)<(ib s l t:Int)
 ·have tT:64<ib s l t:=by omega
  have hd:nA s l t=false:=(mb (p:=False) ⟨False.elim,fun h=>by have:=h.1;unfold ib at tT;omega⟩).symm.trans (by simp)
  rw[ib]at tR
  (repeat(first|((repeat(revert hN;revert N;apply Pn.out));refine wk (tw @aa.eq_1 (tw @tR @e9)) ?_;(repeat(refine Pn.mk ?_;intro N hN)))|((try apply Or.inl);refine⟨_,ar.x (xQ) (sd (tw @aa.eq_1 (tw @tR @e9))),?_⟩;refine hN _ _ ?_;clear hN N)|((try apply Or.inl);refine⟨_,ar.x (Ko) (sd (tw @aa.eq_1 (tw @tR @e9))),?_⟩;refine hN _ _ ?_;clear hN N)))
  exact jn (.inl rfl) (r1:=.bool false) (r2:=.int .i64 4) (sd @Nat.zero_add) (sd @Nat.zero_add) (by rw[hd,sE,if_pos tT];simp only[e8,bE,cw,fH,eH,Option.map_some])
 have tT:¬64<ib s l t:=by omega
 have hf:sE s l t=0:=by rw[sE,if_neg tT]
 by_cases h2:(ib s l t:Int)<2
 ·have hd:nA s l t=true:=(mb (p:=True) ⟨fun _=>⟨by unfold ib at tT;omega,Gj (by unfold ib at h2;omega)⟩,fun _=>trivial⟩).symm.trans (by simp)
  rw[ib]at tR h2
  (repeat(first|((repeat(revert hN;revert N;apply Pn.out));refine wk (tw @aa.eq_1 (tw @tR (tw @h2 @e9))) ?_;(repeat(refine Pn.mk ?_;intro N hN)))|((try apply Or.inl);refine⟨_,ar.x (xQ) (sd (tw @aa.eq_1 (tw @tR (tw @h2 @e9)))),?_⟩;refine hN _ _ ?_;clear hN N)|((try apply Or.inl);refine⟨_,ar.x (Ko) (sd (tw @aa.eq_1 (tw @tR (tw @h2 @e9)))),?_⟩;refine hN _ _ ?_;clear hN N)))
  exact jn (.inl rfl) (r1:=.bool true) (r2:=.int .i64 0) (sd @Nat.zero_add) (sd @Nat.zero_add) (by rw[hd,hf];simp only[e8,bE,cw,fH,eH,Option.map_some])
 have OA:=zm (ib s l t) (by omega) (by unfold ib;omega) (eX (eA (aI t (cG s l))) (cG s l)) (fun e he=>by have:=fI _ (HR he);exact⟨this.1,this.2.1,this.2.2.1⟩) (by omega) (fun e he=>by
  obtain⟨_,_,_,c,hc,dt⟩:=fI _ (HR he)
  rw[dt];have:=hb c hc;omega)
 rw[ib]at tR h2 OA
 (repeat(first|((repeat(revert hN;revert N;apply Pn.out));refine wk (tw @aa.eq_1 (tw @tR (tw @h2 @e9))) ?_;(repeat(refine Pn.mk ?_;intro N hN)))|((try apply Or.inl);refine⟨_,ar.x (xQ) (sd (tw @aa.eq_1 (tw @tR (tw @h2 @e9)))),?_⟩;refine hN _ _ ?_;clear hN N)|((try apply Or.inl);refine⟨_,ar.x (Ko) (sd (tw @aa.eq_1 (tw @tR (tw @h2 @e9)))),?_⟩;refine hN _ _ ?_;clear hN N)))
 refine .inr (aL _ _ _ _ _ (fun r σ1 hq=>?_) (OA.x mixed))
 obtain⟨⟨jf,p,rfl,QA⟩,rfl⟩:=hq
 refine hN _ _ ?_
 clear hN N
 (try((repeat(revert hN;revert N;apply Pn.out));refine wk @Nat.zero_add ?_;(repeat(refine Pn.mk ?_;intro N hN))))
 exact jn (.inl rfl) (r1:=.bool (decide (t<=jf))) (r2:=.int .i64 0) (sd @Nat.zero_add) (sd @Nat.zero_add) (by
  rw[hf,mb (s:=s) (l:=l) (t:=t) (p:=t<=jf) ((QA t).trans (Dv.trans ⟨fun h=>⟨by unfold ib at tT;omega,h⟩,fun h=>h.2⟩))]
  simp only[e8,bE,cw,fH,eH,Option.map_some])
theorem sP (t:Int):ar Tryz.prog 157 [.int .i64 t] (.bool (iJ t 1 16)):=by
 refine ar.body eJ rfl fun hl n0=>?_
 clear hl
 have h:=lx t 1 16
 (repeat(first|((repeat(revert hN;revert N;apply Pn.out));refine wk @Nat.zero_add ?_;(repeat(refine Pn.mk ?_;intro N hN)))|((try apply Or.inl);refine⟨_,ar.x (h) (sd @Nat.zero_add),?_⟩;refine hN _ _ ?_;clear hN N)))
 exact aQ (b:=iJ t 1 16) (.inl rfl) (sd @Nat.zero_add) rfl
structure CK (s:aD):Prop where
 set:iA s.aB
 OR:kz s.aB s.cq.ah
 some:1<=s.cq.ah.length
 Md:iJ s.ay 1 16=true
 holds:oX s.cq.ah.length (cG s.aB s.cq.ah) s.ay
noncomputable def ni (s:aD):Bool:=@decide (CK s) (Classical.propDecidable _)
theorem wH {s:aD}:ni s=true↔CK s:=by simp[ni]
theorem jO {s:aD} (h:¬CK s):false=ni s:=by simp[ni,h]
theorem Ch {s:aD} (h:CK s):true=ni s:=by simp[ni,h]
theorem pe {s:aw} {l:List ae} {t:Int}:nA s l t=true↔oX l.length (cG s l) t:=by simp[nA]
theorem LD (s:aD) (hn:gD s.aB) (hg:s.aB.ax.length<=1048576) (ht:s.aB.ah.length<=1048576):ar Tryz.prog 96 [.dj (aC s)] (.bool (ni s)):=by
 refine ar.body eJ rfl fun hl n0=>?_
 clear hl
 have h1:=(Lz s.aB hn hg ht).cut mixed (.ptr _ [.sl (s.cq.ah.map ad),.int .i64 s.ay] .nil)
 by_cases hS:iA s.aB
 ·rw[ma.2 hS]at h1
  have h2:=(Ff s.aB s.cq.ah).cut mixed (.ptr _ [.sl (s.cq.ah.map ad),.int .i64 s.ay] (.ptr _ [.int .i64 s.ay] .nil))
  by_cases hA:kz s.aB s.cq.ah
  ·rw[lR.2 hA]at h2
   by_cases h0:(s.cq.ah.length:Int)=0
   ·have hd:decide ((s.cq.ah.length:Int)=0)=true:=decide_eq_true h0
    have la:false=ni s:=jO fun h=>by have:=h.some;omega
    generalize e9:(s.cq.ah.map ad).length=len at *
    (repeat(first|((repeat(revert hN;revert N;apply Pn.out));refine wk (tw @aC.eq_1 (tw @aa.eq_1 @hd)) ?_;(repeat(refine Pn.mk ?_;intro N hN)))|((try apply Or.inl);refine⟨_,ar.x (h1) (sd (tw @aC.eq_1 (tw @aa.eq_1 @hd))),?_⟩;refine hN _ _ ?_;clear hN N)|((try apply Or.inl);refine⟨_,ar.x (h2) (sd (tw @aC.eq_1 (tw @aa.eq_1 @hd))),?_⟩;refine hN _ _ ?_;clear hN N)))
    exact aQ (b:=false) (.inl rfl) (sd @Nat.zero_add) la
   ·have hd:decide ((s.cq.ah.length:Int)=0)=false:=decide_eq_false h0
    have h3:=sP s.ay
    cases hT:iJ s.ay 1 16
    ·rw[hT]at h3
     (repeat(first|((repeat(revert hN;revert N;apply Pn.out));refine wk (tw @aC.eq_1 (tw @aa.eq_1 @hd)) ?_;(repeat(refine Pn.mk ?_;intro N hN)))|((try apply Or.inl);refine⟨_,ar.x (h1) (sd (tw @aC.eq_1 (tw @aa.eq_1 @hd))),?_⟩;refine hN _ _ ?_;clear hN N)|((try apply Or.inl);refine⟨_,ar.x (h2) (sd (tw @aC.eq_1 (tw @aa.eq_1 @hd))),?_⟩;refine hN _ _ ?_;clear hN N)|((try apply Or.inl);refine⟨_,ar.x (h3) (sd (tw @aC.eq_1 (tw @aa.eq_1 @hd))),?_⟩;refine hN _ _ ?_;clear hN N)))
     exact aQ (b:=false) (.inl rfl) (sd @Nat.zero_add) (jO fun h=>by have:=h.Md;rw[hT]at this;cases this)
    ·rw[hT]at h3
     have h4:=(BH s.aB s.cq.ah s.ay hS hA).cut mixed (.ptr _ [.sl (s.cq.ah.map ad),.int .i64 s.ay] (.ptr _ [.int .i64 s.ay] (.same _ .nil)))
     cases hB:nA s.aB s.cq.ah s.ay
     ·rw[hB]at h4
      (repeat(first|((repeat(revert hN;revert N;apply Pn.out));refine wk (tw @aC.eq_1 (tw @aa.eq_1 @hd)) ?_;(repeat(refine Pn.mk ?_;intro N hN)))|((try apply Or.inl);refine⟨_,ar.x (h1) (sd (tw @aC.eq_1 (tw @aa.eq_1 @hd))),?_⟩;refine hN _ _ ?_;clear hN N)|((try apply Or.inl);refine⟨_,ar.x (h2) (sd (tw @aC.eq_1 (tw @aa.eq_1 @hd))),?_⟩;refine hN _ _ ?_;clear hN N)|((try apply Or.inl);refine⟨_,ar.x (h3) (sd (tw @aC.eq_1 (tw @aa.eq_1 @hd))),?_⟩;refine hN _ _ ?_;clear hN N)|((try apply Or.inl);refine⟨_,ar.x (h4) (sd (tw @aC.eq_1 (tw @aa.eq_1 @hd))),?_⟩;refine hN _ _ ?_;clear hN N)))
      exact aQ (b:=false) (.inl rfl) (sd @Nat.zero_add) (jO fun h=>by have:=pe.2 h.holds;rw[hB]at this;cases this)
     ·have hP:=pe.1 hB
      have hf:sE s.aB s.cq.ah s.ay=0:=by
       have:=hP.1
       rw[sE,if_neg (by unfold ib;omega)]
      rw[hB,hf]at h4
      (repeat(first|((repeat(revert hN;revert N;apply Pn.out));refine wk (tw @aC.eq_1 (tw @aa.eq_1 @hd)) ?_;(repeat(refine Pn.mk ?_;intro N hN)))|((try apply Or.inl);refine⟨_,ar.x (h1) (sd (tw @aC.eq_1 (tw @aa.eq_1 @hd))),?_⟩;refine hN _ _ ?_;clear hN N)|((try apply Or.inl);refine⟨_,ar.x (h2) (sd (tw @aC.eq_1 (tw @aa.eq_1 @hd))),?_⟩;refine hN _ _ ?_;clear hN N)|((try apply Or.inl);refine⟨_,ar.x (h3) (sd (tw @aC.eq_1 (tw @aa.eq_1 @hd))),?_⟩;refine hN _ _ ?_;clear hN N)|((try apply Or.inl);refine⟨_,ar.x (h4) (sd (tw @aC.eq_1 (tw @aa.eq_1 @hd))),?_⟩;refine hN _ _ ?_;clear hN N)))
      exact aQ (b:=true) (.inl rfl) (sd @Nat.zero_add) (Ch ⟨hS,hA,by omega,hT,hP⟩)
  ·have hb:pr s.aB s.cq.ah=false:=Bool.eq_false_iff.2 fun h=>hA (lR.1 h)
   rw[hb]at h2
   (repeat(first|((repeat(revert hN;revert N;apply Pn.out));refine wk (tw @aC.eq_1 @aa.eq_1) ?_;(repeat(refine Pn.mk ?_;intro N hN)))|((try apply Or.inl);refine⟨_,ar.x (h1) (sd (tw @aC.eq_1 @aa.eq_1)),?_⟩;refine hN _ _ ?_;clear hN N)|((try apply Or.inl);refine⟨_,ar.x (h2) (sd (tw @aC.eq_1 @aa.eq_1)),?_⟩;refine hN _ _ ?_;clear hN N)))
   exact aQ (b:=false) (.inl rfl) (sd @Nat.zero_add) (jO fun h=>hA h.OR)
 ·have hb:qJ s.aB=false:=Bool.eq_false_iff.2 fun h=>hS (ma.1 h)
  rw[hb]at h1
  (repeat(first|((repeat(revert hN;revert N;apply Pn.out));refine wk (tw @aC.eq_1 @aa.eq_1) ?_;(repeat(refine Pn.mk ?_;intro N hN)))|((try apply Or.inl);refine⟨_,ar.x (h1) (sd (tw @aC.eq_1 @aa.eq_1)),?_⟩;refine hN _ _ ?_;clear hN N)))
  exact aQ (b:=false) (.inl rfl) (sd @Nat.zero_add) (jO fun h=>hS h.set)
end Go.Proofs.YtgoelphibofcmaaGreat.V

namespace Go.Proofs.YtgoelphibofcmaaGreat.V
open Go.RowKit
attribute [local irreducible] eb wpOps gj Call
attribute [local go_sem] aJ fM eP fZ fY cL upd cu K.av cN AV.cells AV.cell rowOf rowsOf part ld rowAt bI bW dD ee gT bL dc ev fU eY dr ej da cZ dO dR bR aX cR bQ cV cU eh ek ei cQ bV db ef bP aP cX cE gS bw cJ bU aW dx bj dE AV.undef bD bF dV ec dI dS cF eu eB cD ep eo cW cY List.getD_cons_zero List.getD_cons_succ List.getD_nil List.all_cons List.all_nil Bool.and_true Bool.true_and Bool.and_self Bool.not_true Bool.not_false Option.map_some Option.map_none Option.bind_some Option.bind_none List.length_cons List.length_nil List.take_succ_cons List.take_zero List.take_nil List.drop_succ_cons List.drop_zero List.drop_nil List.head?_cons List.map_cons List.map_nil List.getElem?_cons_zero List.getElem?_cons_succ List.cons_append List.nil_append List.append_nil List.length_map List.set_cons_zero List.set_cons_succ Nat.reduceMul eq_self Int.toNat_natCast Int.natCast_nonneg and_self true_and and_true decide_true decide_false Bool.false_eq_true Nat.zero_add Nat.add_zero List.contains_cons List.contains_nil Bool.or_false Bool.false_or beq_self_eq_true Nat.reduceBEq ne_eq not_true_eq_false not_false_eq_true Id.mk.injEq false_and and_false Nat.reduceLT Int.reduceLE Int.reduceLT Int.reduceToNat Int.reduceNeg Int.reduceAdd Nat.le_refl List.length_append beq_true beq_false Bool.not_eq_eq_eq_not or_false false_or dM aj aq aH bd bz ck aU bf aT aZ cP bH
theorem L9 {s:aw} (hS:iA s) (a d:Int):0<=pK s (de (dh s a) d):=by
 have hF:=hS.form
 have fI:de (dh s a) d=0∨(0<=de (dh s a) d/\de (dh s a) d<=s.ax.length):=by
  unfold de dh
  rw[List.getD_eq_getElem?_getD,List.getD_eq_getElem?_getD]
  rcases ht:s.ah[a.toNat]? with _|t
  ·exact .inl (by simp[zF])
  ·have Uz:=List.mem_of_getElem? ht
   simp only[Option.getD_some]
   rcases hg:t.br[d.toNat]? with _|g
   ·exact .inl rfl
   ·exact .inr (hF.tn t Uz g (List.mem_of_getElem? hg))
 unfold pK
 by_cases h0:de (dh s a) d=0
 ·rw[if_pos h0];omega
 ·rw[if_neg h0]
  have hk:(de (dh s a) d-1).toNat<s.ax.length:=by omega
  have:=ea (hS.R0 _ hk).2.1
  unfold pC at this
  unfold ql
  omega
theorem AD {s:aw} (hS:iA s) (a d b:Int):0<=gL s a d b/\gL s a d b<=4:=by
 refine⟨?_,AE hS a d b⟩
 unfold gL
 split
 ·exact L9 hS a d
 ·omega
def dp (s:aw) (f:ai->Int) (p:ai) (t:Int):Nat->Int
 |0=>0
 |d+1=>dp s f p t d+if 0<=f (aY p d)then gL s t d (f (aY p d))else 0
def pO (s:aw) (f:ai->Int) (p:ai) (t:Int):Int:=dp s f p t 4
theorem jQ {s:aw} (hS:iA s) (f:ai->Int) (p:ai) (t:Int):∀d,0<=dp s f p t d/\dp s f p t d<=4*(d:Int)
 |0=>⟨Int.le_refl _,Int.le_refl _⟩
 |d+1=>by
  have:=jQ hS f p t d
  have hb:=AD hS t d (f (aY p d))
  simp only[dp]
  split<;>omega
theorem HQ {s:aw} {l:List ae} (hA:kz s l) {p:ai} (h:0<=gK l p):eS s (gK l p)=true:=by
 unfold gK at h ⊢
 split at h
 ·rename_i h0
  rw[if_pos h0]
  exact hA.2 _ (kP (kj h0).1)
 ·omega
noncomputable def tM (s:aD) (l:List ae):Bool:=ni s&&pr s.aB l
theorem DL (s:aD) (l:List ae) (hn:gD s.aB) (hg:s.aB.ax.length<=1048576) (ht:s.aB.ah.length<=1048576):ar Tryz.prog 58 [.dj (aC s),.dj [.sl (l.map ad)]] (.int .i64 (if tM s l then 0 else 1)):=by
 refine ar.body eJ rfl fun hl n0=>?_
 clear hl
 have h1:=LD s hn hg ht
 have h2:=(Ff s.aB l).cut mixed (.ptr _ [.sl (s.cq.ah.map ad),.int .i64 s.ay] (.same _ .nil))
 cases b1:ni s
 ·rw[b1]at h1
  (repeat(first|((repeat(revert hN;revert N;apply Pn.out));refine wk @Nat.zero_add ?_;(repeat(refine Pn.mk ?_;intro N hN)))|((try apply Or.inl);refine⟨_,ar.x (h1) (sd @Nat.zero_add),?_⟩;refine hN _ _ ?_;clear hN N)))
  exact cC (b:=1) (.inl rfl) (sd @Nat.zero_add) (by rw[tM,b1];rfl)
 rw[b1]at h1
 rw[aC]at h1 ⊢
 cases b2:pr s.aB l
 ·rw[b2]at h2
  (repeat(first|((repeat(revert hN;revert N;apply Pn.out));refine wk @aa.eq_1 ?_;(repeat(refine Pn.mk ?_;intro N hN)))|((try apply Or.inl);refine⟨_,ar.x (h1) (sd @aa.eq_1),?_⟩;refine hN _ _ ?_;clear hN N)|((try apply Or.inl);refine⟨_,ar.x (h2) (sd @aa.eq_1),?_⟩;refine hN _ _ ?_;clear hN N)))
  exact cC (b:=1) (.inl rfl) (sd @Nat.zero_add) (by rw[tM,b1,b2];rfl)
 ·rw[b2]at h2
  (repeat(first|((repeat(revert hN;revert N;apply Pn.out));refine wk @aa.eq_1 ?_;(repeat(refine Pn.mk ?_;intro N hN)))|((try apply Or.inl);refine⟨_,ar.x (h1) (sd @aa.eq_1),?_⟩;refine hN _ _ ?_;clear hN N)|((try apply Or.inl);refine⟨_,ar.x (h2) (sd @aa.eq_1),?_⟩;refine hN _ _ ?_;clear hN N)))
  exact cC (b:=0) (.inl rfl) (sd @Nat.zero_add) (by rw[tM,b1,b2];rfl)
theorem HO {s:aD} {l:List ae}:tM s l=true↔CK s/\kz s.aB l:=by simp[tM,wH,lR]
theorem Ck {s:aw} {k:Nat} (h:k<s.ah.length):eS s k=true:=by
 unfold eS;exact jE (by omega)
theorem HP {s:aw} {l:List ae} (hA:kz s l) (p:ai):gK l p<0↔eK l p<0:=by
 constructor
 ·intro h
  rcases Int.lt_or_le (eK l p) 0 with h0|h0
  ·exact h0
  ·exfalso
   obtain⟨h1,_⟩:=kj h0
   have h2:=(ea (hA.2 _ (kP h1))).1
   rw[gK,if_pos h0]at h
   omega
 ·intro h
  rw[gK,if_neg (by omega)];omega
end Go.Proofs.YtgoelphibofcmaaGreat.V

namespace Go.Proofs.YtgoelphibofcmaaGreat.V
open Go.RowKit
attribute [local irreducible] eb wpOps gj Call
attribute [local go_sem] aJ fM eP fZ fY cL upd cu K.av cN AV.cells AV.cell rowOf rowsOf part ld rowAt bI bW dD ee gT bL dc ev fU eY dr ej da cZ dO dR bR aX cR bQ cV cU eh ek ei cQ bV db ef bP aP cX cE gS bw cJ bU aW dx bj dE AV.undef bD bF dV ec dI dS cF eu eB cD ep eo cW cY List.getD_cons_zero List.getD_cons_succ List.getD_nil List.all_cons List.all_nil Bool.and_true Bool.true_and Bool.and_self Bool.not_true Bool.not_false Option.map_some Option.map_none Option.bind_some Option.bind_none List.length_cons List.length_nil List.take_succ_cons List.take_zero List.take_nil List.drop_succ_cons List.drop_zero List.drop_nil List.head?_cons List.map_cons List.map_nil List.getElem?_cons_zero List.getElem?_cons_succ List.cons_append List.nil_append List.append_nil List.length_map List.set_cons_zero List.set_cons_succ Nat.reduceMul eq_self Int.toNat_natCast Int.natCast_nonneg and_self true_and and_true decide_true decide_false Bool.false_eq_true Nat.zero_add Nat.add_zero List.contains_cons List.contains_nil Bool.or_false Bool.false_or beq_self_eq_true Nat.reduceBEq ne_eq not_true_eq_false not_false_eq_true Id.mk.injEq false_and and_false Nat.reduceLT Int.reduceLE Int.reduceLT Int.reduceToNat Int.reduceNeg Int.reduceAdd Nat.le_refl List.length_append beq_true beq_false Bool.not_eq_eq_eq_not or_false false_or dM aj aq aH bd bz ck aU bf aT aZ cP bH
abbrev mP:MK:=⟨true,[.tI,.tI]⟩
theorem BR (p:ai):∀(ts:List ae) (i:Nat),fQ mP (ab p) (ts.map ad) i=some (if qv ts p<ts.length then some (i+qv ts p)else none)
 |[],i=>by simp[fQ,qv]
 |t::ts,i=>by
  have e:eY mP.ts (ab p) ((ad t).take mP.ks)=some (decide (p=t.bx)):=by
   have h:(p=t.bx)↔(p.eM=t.bx.eM/\p.eI=t.bx.eI):=⟨fun h=>by rw[h];exact⟨rfl,rfl⟩,fun h=>vW h.1 h.2⟩
   simp[MK.ks,ab,ad,eY,fU,h]
  have ih:=BR p ts (i+1)
  rw[List.map_cons]
  unfold fQ
  rw[e]
  by_cases h:p=t.bx
  ·rw[decide_eq_true h]
   have h0:qv (t::ts) p=0:=by simp[qv,List.findIdx_cons,h]
   simp[h0]
  ·rw[decide_eq_false h]
   have h0:qv (t::ts) p=qv ts p+1:=by
    simp[qv,List.findIdx_cons,Ne.symm h]
   simp only[ih,h0,List.length_cons,Nat.add_lt_add_iff_right]
   congr 1
   split<;>simp;omega
theorem yj (ts:List ae) (p:ai):fJ mP (.agg [.int .i64 p.eM,.int .i64 p.eI]) (ts.map ad)=some (if 0<=eK ts p then some (eK ts p).toNat else none):=by
 have h:=BR p ts 0
 unfold fJ
 rw[if_pos ⟨rfl,rfl,rfl⟩]
 show fQ mP (ab p) _ 0= _
 rw[h]
 unfold eK
 split<;>simp
theorem GJ {ts:List ae} {p:ai} (h:0<=eK ts p):fJ mP (.agg [.int .i64 p.eM,.int .i64 p.eI]) (ts.map ad)=some (some (eK ts p).toNat):=by rw[yj,if_pos h]
theorem vQ {ts:List ae} {p:ai} (h:eK ts p<0):fJ mP (.agg [.int .i64 p.eM,.int .i64 p.eI]) (ts.map ad)=some none:=by rw[yj,if_neg (by omega)]
structure yI (g:Rows) (n:Nat) (c T O:Id) (s:aD) (ts:List ae):Prop where
 row:∃b,g c=some ⟨b,6,[[.sl (s.aB.ax.map bG),.sl (s.aB.ah.map bp),.sl (s.cq.ah.map ad),.int .i64 s.ay,.map T mP,.map O mP]]⟩
 tl:∃b,g T=some ⟨b,mP.lJ,ts.map ad⟩
 cv:c.bm<n
 tv:T.bm<n
 ov:O.bm<n
theorem yI.ro {g:Rows} {n:Nat} {c T O:Id} {s:aD} {ts:List ae} (h:yI g n c T O s ts):yI (V.ro g) n c T O s ts:=by
 obtain⟨b,h1⟩:=h.row
 obtain⟨b2,h2⟩:=h.tl
 exact⟨⟨false,by simp[V.ro,h1]⟩,⟨false,by simp[V.ro,h2]⟩,h.cv,h.tv,h.ov⟩
theorem yI.frame {g g':Rows} {n n':Nat} {c T O:Id} {s:aD} {ts:List ae} (h:yI g n c T O s ts) (hn:n<=n') (hc:g' c=g c) (hT:g' T=g T):yI g' n' c T O s ts:=
 ⟨by rw[hc];exact h.row,by rw[hT];exact h.tl,Nat.lt_of_lt_of_le h.cv hn,Nat.lt_of_lt_of_le h.tv hn,Nat.lt_of_lt_of_le h.ov hn⟩
theorem S6 {σ:au} {c T O:Id} {s:aD} {ts:List ae} (h:yI σ.get σ.next c T O s ts) (p:ai):Call Tryz.prog 121 [.ptr c 0 0,.agg (ab p)] σ (fun r _=>r=.int .i64 (gK ts p)):=by
 refine eU eJ rfl fun mM=>?_
 clear mM
 obtain⟨b,h1⟩:=h.row
 obtain⟨b2,h2⟩:=h.tl
 have v1:=dz h.cv
 have v2:=dz h.tv
 by_cases h0:0<=eK ts p
 ·have hm:=GJ h0
  have hg:=ga (kj h0).1
  have ho:(some (eK ts p).toNat).isSome=true:=rfl
  (try((repeat(revert hN;revert N;apply Pn.out));refine wk (tw @h1 (tw @h2 (tw @v1 (tw @v2 (tw @hm (tw @hg (tw @ho (tw @ab.eq_1 @ad.eq_1)))))))) ?_;(repeat(refine Pn.mk ?_;intro N hN))))
  exact ft (.inl rfl) (vs:=[.int .i64 (aV ts (eK ts p).toNat).bB]) (sd @Nat.zero_add) (by rw[gK,if_pos h0];rfl)
 ·have hm:=vQ (ts:=ts) (p:=p) (by omega)
  have ho:(none:Option Nat).isSome=false:=rfl
  (try((repeat(revert hN;revert N;apply Pn.out));refine wk (tw @h1 (tw @h2 (tw @v1 (tw @v2 (tw @hm (tw @ho @ab.eq_1)))))) ?_;(repeat(refine Pn.mk ?_;intro N hN))))
  exact ft (.inl rfl) (vs:=[.int .i64 (-1)]) (sd @Nat.zero_add) (by rw[gK,if_neg h0];rfl)
theorem Nl {σ:au} {c T O:Id} {s:aD} {ts:List ae} (h:yI σ.get σ.next c T O s ts) (p:ai):gj (Call Tryz.prog) 121 [.ptr c 0 0,.agg (ab p)] σ (fun r=>r=.int .i64 (gK ts p)):=by
 unfold gj PC
 exact Or.inl (aL _ _ _ _ _ (fun r σ' hr=>⟨_,by rw[hr];exact aH _ _ _ _,rfl⟩) (S6 (σ:=⟨V.ro σ.get,σ.next⟩) h.ro p))
theorem FL {σ:au} (s:aw) (hS:iA s) (F:ai->Int) (hF:∀q,0<=F q->eS s (F q)=true) (p:ai) (hx:iB p.eM) (hy:iB p.eI) (t:Int) (ht:eS s t=true) (f:Nat) (first:List AV)
  (Af:∀σ':au,σ.next<=σ'.next->(∀x:Id,x.bm<σ.next->σ'.get x=σ.get x)->∀q,gj (Call Tryz.prog) f (first++[.agg (ab q)]) σ' (fun r=>r=.int .i64 (F q))):
  Call Tryz.prog 120 [.agg (aa s),.agg (ab p),.int .i64 t,.tA f first] σ (fun r _=>r=.int .i64 (pO s F p t)):=by
 refine eU eJ rfl fun mM=>?_
 clear mM
 (try((repeat(revert hN;revert N;apply Pn.out));refine wk (tw @ab.eq_1 @aa.eq_1) ?_;(repeat(refine Pn.mk ?_;intro N hN))))
 refine aO (fun n env st=>∃k:Nat,n=(4)-k/\k<=(4)/\env 12=.int .i64 (k:Int)/\env 9=.int .i64 (dp s F p t k)/\st.get ⟨120000000,σ.next⟩=some ⟨true,2,[aa s]⟩/\st.get ⟨120000001,σ.next⟩=some ⟨true,2,[ab p]⟩/\(σ.next<st.next/\∀x:Id,x.bm<σ.next->st.get x=σ.get x)) (4) ⟨0,by omega,by omega,sl (tw @ab.eq_1 @aa.eq_1),sl (tw @ab.eq_1 @aa.eq_1),sl (tw @ab.eq_1 @aa.eq_1),sl (tw @ab.eq_1 @aa.eq_1),⟨by(try dsimp only);omega,fun x hx=>by
  have:=dz hx
  simp only[go_sem, ↓reduceIte,Nat.reduceEqDiff,Nat.reduceAdd,Nat.reduceSub,Nat.reduceLeDiff,reduceCtorEq,this]⟩⟩ ?_
 rintro n_a env_a st_a ⟨k,rfl,ale,a12,a9,ag0,ag1,ke⟩ dv
 have a2:=dv 2 (by kernel_rfl);have a3:=dv 3 (by kernel_rfl);have a4:=dv 4 (by kernel_rfl);have a5:=dv 5 (by kernel_rfl)
 simp only[go_sem, ↓reduceIte,Nat.reduceEqDiff,Nat.reduceAdd,Nat.reduceSub,Nat.reduceLeDiff,reduceCtorEq,ab,aa]at a2 a3 a4 a5
 clear dv
 obtain⟨an,dv⟩:=ke
 by_cases hk:(k:Int)<4
 ·have cz:∀{e:Env} {gg:Rows} {nx:Nat},(e 12=.int .i64 (IntKind.i64.wrap ((k:Int)+1)))->(e 9=.int .i64 (dp s F p t (k+1)))->(gg ⟨120000000,σ.next⟩=some ⟨true,2,[aa s]⟩)->(gg ⟨120000001,σ.next⟩=some ⟨true,2,[ab p]⟩)->(σ.next<nx/\∀x:Id,x.bm<σ.next->gg x=σ.get x)->∃m0,m0<(4)-k/\∃k:Nat,m0=(4)-k/\k<=(4)/\e 12=.int .i64 (k:Int)/\e 9=.int .i64 (dp s F p t k)/\gg ⟨120000000,σ.next⟩=some ⟨true,2,[aa s]⟩/\gg ⟨120000001,σ.next⟩=some ⟨true,2,[ab p]⟩/\(σ.next<nx/\∀x:Id,x.bm<σ.next->gg x=σ.get x):=fun x1 x2 x3 x4 x5=>⟨_,by omega,k+1,rfl,by omega,(by rw[x1,az (by omega)]),x2,x3,x4,x5⟩
  have dH:=Eh p k (jE (by omega)) hx hy
  have fI:=jQ hS F p t k
  (repeat(first|((repeat(revert hN;revert N;apply Pn.out));refine wk (tw @a12 (tw @a9 (tw @ag0 (tw @ag1 (tw @a2 (tw @a3 (tw @a4 (tw @a5 (tw @hk @ab.eq_1))))))))) ?_;(repeat(refine Pn.mk ?_;intro N hN)))|((try apply Or.inl);refine⟨_,ar.x (dH) (sd (tw @a12 (tw @a9 (tw @ag0 (tw @ag1 (tw @a2 (tw @a3 (tw @a4 (tw @a5 (tw @hk @ab.eq_1)))))))))),?_⟩;refine hN _ _ ?_;clear hN N)))
  refine .inl ⟨_,Af _ (by(try dsimp only);omega) (fun x hx=>sd (dv x hx)) (aY p k),?_⟩
  refine hN _ _ ?_
  clear hN N
  by_cases h0:0<=F (aY p k)
  ·have xQ:=HZ s hS.form t k (F (aY p k)) ht (hF _ h0) (jE (by omega))
   have fo:=AD hS t k (F (aY p k))
   have hw:IntKind.i64.wrap (dp s F p t k+gL s t k (F (aY p k)))=dp s F p t (k+1):=by
    rw[bh (by omega),dp,if_pos h0]
   rw[aa]at xQ
   (repeat(first|((repeat(revert hN;revert N;apply Pn.out));refine wk (tw @a12 (tw @a9 (tw @ag0 (tw @ag1 (tw @a2 (tw @a3 (tw @a4 (tw @a5 (tw @h0 @aa.eq_1))))))))) ?_;(repeat(refine Pn.mk ?_;intro N hN)))|((try apply Or.inl);refine⟨_,ar.x (xQ) (sd (tw @a12 (tw @a9 (tw @ag0 (tw @ag1 (tw @a2 (tw @a3 (tw @a4 (tw @a5 (tw @h0 @aa.eq_1)))))))))),?_⟩;refine hN _ _ ?_;clear hN N)))
   refine cz ?_ ?_ ?_ ?_ (⟨by(try dsimp only);omega,fun x hx=>by
    have h1:=dv x hx
    simp only[go_sem, ↓reduceIte,Nat.reduceEqDiff,Nat.reduceAdd,Nat.reduceSub,Nat.reduceLeDiff,reduceCtorEq,h1]⟩)
   all_goals simp only[go_sem, ↓reduceIte,Nat.reduceEqDiff,Nat.reduceAdd,Nat.reduceSub,Nat.reduceLeDiff,reduceCtorEq,a12,a9,ag0,ag1,a2,a3,a4,a5,hw,ab,aa]
  ·have hw:dp s F p t (k+1)=dp s F p t k:=by rw[dp,if_neg h0,Int.add_zero]
   (try((repeat(revert hN;revert N;apply Pn.out));refine wk (tw @a12 (tw @a9 (tw @ag0 (tw @ag1 (tw @a2 (tw @a3 (tw @a4 (tw @a5 @h0)))))))) ?_;(repeat(refine Pn.mk ?_;intro N hN))))
   refine cz ?_ ?_ ?_ ?_ (⟨by(try dsimp only);omega,fun x hx=>by
    have h1:=dv x hx
    simp only[go_sem, ↓reduceIte,Nat.reduceEqDiff,Nat.reduceAdd,Nat.reduceSub,Nat.reduceLeDiff,reduceCtorEq,h1]⟩)
   all_goals simp only[go_sem, ↓reduceIte,Nat.reduceEqDiff,Nat.reduceAdd,Nat.reduceSub,Nat.reduceLeDiff,reduceCtorEq,a12,a9,ag0,ag1,a2,a3,a4,a5,hw,ab,aa]
 ·(try((repeat(revert hN;revert N;apply Pn.out));refine wk (tw @a12 (tw @a9 (tw @ag0 (tw @ag1 (tw @a2 (tw @a3 (tw @a4 (tw @a5 @hk)))))))) ?_;(repeat(refine Pn.mk ?_;intro N hN))))
  exact ft (.inl rfl) (vs:=[.int .i64 (dp s F p t k)]) (sd (tw @a12 (tw @a9 (tw @ag0 (tw @ag1 (tw @a2 (tw @a3 (tw @a4 @a5)))))))) (by rw[show k=4 by omega];rfl)
end Go.Proofs.YtgoelphibofcmaaGreat.V

namespace Go.Proofs.YtgoelphibofcmaaGreat.V
open Go.RowKit
attribute [local irreducible] eb wpOps gj Call
attribute [local go_sem] aJ fM eP fZ fY cL upd cu K.av cN AV.cells AV.cell rowOf rowsOf part ld rowAt bI bW dD ee gT bL dc ev fU eY dr ej da cZ dO dR bR aX cR bQ cV cU eh ek ei cQ bV db ef bP aP cX cE gS bw cJ bU aW dx bj dE AV.undef bD bF dV ec dI dS cF eu eB cD ep eo cW cY List.getD_cons_zero List.getD_cons_succ List.getD_nil List.all_cons List.all_nil Bool.and_true Bool.true_and Bool.and_self Bool.not_true Bool.not_false Option.map_some Option.map_none Option.bind_some Option.bind_none List.length_cons List.length_nil List.take_succ_cons List.take_zero List.take_nil List.drop_succ_cons List.drop_zero List.drop_nil List.head?_cons List.map_cons List.map_nil List.getElem?_cons_zero List.getElem?_cons_succ List.cons_append List.nil_append List.append_nil List.length_map List.set_cons_zero List.set_cons_succ Nat.reduceMul eq_self Int.toNat_natCast Int.natCast_nonneg and_self true_and and_true decide_true decide_false Bool.false_eq_true Nat.zero_add Nat.add_zero List.contains_cons List.contains_nil Bool.or_false Bool.false_or beq_self_eq_true Nat.reduceBEq ne_eq not_true_eq_false not_false_eq_true Id.mk.injEq false_and and_false Nat.reduceLT Int.reduceLE Int.reduceLT Int.reduceToNat Int.reduceNeg Int.reduceAdd Nat.le_refl List.length_append beq_true beq_false Bool.not_eq_eq_eq_not or_false false_or dM aj aq aH bd bz ck aU bf aT aZ cP bH
noncomputable def ew (s:aD) (ts:List ae) (p:ai) (t:Int):Bool:=zI p&&decide (gK ts p<0)&&decide (s.ay<=pO s.aB (gK ts) p t)
theorem FM {σ:au} {c T O:Id} {s:aD} {ts:List ae} (h:yI σ.get σ.next c T O s ts) (hS:iA s.aB) (hF:∀q,0<=gK ts q->eS s.aB (gK ts q)=true) (p:ai) (hx:iB p.eM) (hy:iB p.eI) (t:Int) (ht:eS s.aB t=true):
  gj (Call Tryz.prog) 120 [.agg (aa s.aB),.agg (ab p),.int .i64 t,.tA 121 [.ptr c 0 0]] σ (fun r=>r=.int .i64 (pO s.aB (gK ts) p t)):=by
 unfold gj PC
 exact Or.inl (aL _ _ _ _ _ (fun r σ' hr=>⟨_,by rw[hr];exact aH _ _ _ _,rfl⟩) (FL (σ:=⟨V.ro σ.get,σ.next⟩) s.aB hS (gK ts) hF p hx hy t ht _ _
  (fun σ' hn hk q=>Nl (h.ro.frame hn (hk _ h.cv) (hk _ h.tv)) q)))
theorem NF {σ:au} {c T O:Id} {s:aD} {ts:List ae} (h:yI σ.get σ.next c T O s ts) (hS:iA s.aB) (hF:∀q,0<=gK ts q->eS s.aB (gK ts q)=true) (p:ai) (t:Int) (ht:eS s.aB t=true):
  Call Tryz.prog 133 [.ptr c 0 0,.agg (ab p),.int .i64 t] σ (fun r _=>r=.bool (ew s ts p t)):=by
 refine eU eJ rfl fun mM=>?_
 clear mM
 obtain⟨b,h1⟩:=h.row
 have v1:=dz h.cv
 have hw:=qT p
 have v2:=dz h.tv
 by_cases h0:zI p=true
 ·rw[h0]at hw
  obtain⟨hx,hy⟩:=sS h0
  by_cases h2:gK ts p<0
  ·(repeat(first|((repeat(revert hN;revert N;apply Pn.out));refine wk (tw @h1 (tw @v1 (tw @h2 @ab.eq_1))) ?_;(repeat(refine Pn.mk ?_;intro N hN)))|((try apply Or.inl);refine⟨_,ar.x (hw) (sd (tw @h1 (tw @v1 (tw @h2 @ab.eq_1)))),?_⟩;refine hN _ _ ?_;clear hN N)))
   refine⟨_,Nl (h.frame (by(try dsimp only);omega) (sd @v1) (sd @v2)) p,?_⟩
   refine hN _ _ ?_
   clear hN N
   (repeat(first|((repeat(revert hN;revert N;apply Pn.out));refine wk (tw @h1 (tw @v1 (tw @h2 (tw @ab.eq_1 @aa.eq_1)))) ?_;(repeat(refine Pn.mk ?_;intro N hN)))|((try apply Or.inl);refine⟨_,ar.x (hw) (sd (tw @h1 (tw @v1 (tw @h2 (tw @ab.eq_1 @aa.eq_1))))),?_⟩;refine hN _ _ ?_;clear hN N)))
   refine⟨_,FM (h.frame (by(try dsimp only);omega) (sd @v1) (sd @v2)) hS hF p hx hy t ht,?_⟩
   refine hN _ _ ?_
   clear hN N
   have hb:=jQ hS (gK ts) p t 4
   (repeat(first|((repeat(revert hN;revert N;apply Pn.out));refine wk (tw @h1 (tw @v1 (tw @h2 (tw @ab.eq_1 @aa.eq_1)))) ?_;(repeat(refine Pn.mk ?_;intro N hN)))|((try apply Or.inl);refine⟨_,ar.x (hw) (sd (tw @h1 (tw @v1 (tw @h2 (tw @ab.eq_1 @aa.eq_1))))),?_⟩;refine hN _ _ ?_;clear hN N)))
   exact ft (.inl rfl) (vs:=[.bool (decide (s.ay<=pO s.aB (gK ts) p t))]) (sd @Nat.zero_add) (by rw[show ew s ts p t=decide (s.ay<=pO s.aB (gK ts) p t) by simp[ew,h0,h2]];rfl)
  ·(repeat(first|((repeat(revert hN;revert N;apply Pn.out));refine wk (tw @h1 (tw @v1 (tw @h2 @ab.eq_1))) ?_;(repeat(refine Pn.mk ?_;intro N hN)))|((try apply Or.inl);refine⟨_,ar.x (hw) (sd (tw @h1 (tw @v1 (tw @h2 @ab.eq_1)))),?_⟩;refine hN _ _ ?_;clear hN N)))
   refine⟨_,Nl (h.frame (by(try dsimp only);omega) (sd @v1) (sd @v2)) p,?_⟩
   refine hN _ _ ?_
   clear hN N
   (repeat(first|((repeat(revert hN;revert N;apply Pn.out));refine wk (tw @h1 (tw @v1 (tw @h2 @ab.eq_1))) ?_;(repeat(refine Pn.mk ?_;intro N hN)))|((try apply Or.inl);refine⟨_,ar.x (hw) (sd (tw @h1 (tw @v1 (tw @h2 @ab.eq_1)))),?_⟩;refine hN _ _ ?_;clear hN N)))
   exact ft (.inl rfl) (vs:=[.bool false]) (sd @Nat.zero_add) (by rw[show ew s ts p t=false by simp[ew,h2]];rfl)
 ·rw[Bool.not_eq_true]at h0
  rw[h0]at hw
  (repeat(first|((repeat(revert hN;revert N;apply Pn.out));refine wk (tw @h1 (tw @v1 @ab.eq_1)) ?_;(repeat(refine Pn.mk ?_;intro N hN)))|((try apply Or.inl);refine⟨_,ar.x (hw) (sd (tw @h1 (tw @v1 @ab.eq_1))),?_⟩;refine hN _ _ ?_;clear hN N)))
  exact ft (.inl rfl) (vs:=[.bool false]) (sd @Nat.zero_add) (by rw[show ew s ts p t=false by simp[ew,h0]];rfl)
end Go.Proofs.YtgoelphibofcmaaGreat.V

namespace Go.Proofs.YtgoelphibofcmaaGreat.V
open Go.RowKit
attribute [local irreducible] eb wpOps gj Call
attribute [local go_sem] aJ fM eP fZ fY cL upd cu K.av cN AV.cells AV.cell rowOf rowsOf part ld rowAt bI bW dD ee gT bL dc ev fU eY dr ej da cZ dO dR bR aX cR bQ cV cU eh ek ei cQ bV db ef bP aP cX cE gS bw cJ bU aW dx bj dE AV.undef bD bF dV ec dI dS cF eu eB cD ep eo cW cY List.getD_cons_zero List.getD_cons_succ List.getD_nil List.all_cons List.all_nil Bool.and_true Bool.true_and Bool.and_self Bool.not_true Bool.not_false Option.map_some Option.map_none Option.bind_some Option.bind_none List.length_cons List.length_nil List.take_succ_cons List.take_zero List.take_nil List.drop_succ_cons List.drop_zero List.drop_nil List.head?_cons List.map_cons List.map_nil List.getElem?_cons_zero List.getElem?_cons_succ List.cons_append List.nil_append List.append_nil List.length_map List.set_cons_zero List.set_cons_succ Nat.reduceMul eq_self Int.toNat_natCast Int.natCast_nonneg and_self true_and and_true decide_true decide_false Bool.false_eq_true Nat.zero_add Nat.add_zero List.contains_cons List.contains_nil Bool.or_false Bool.false_or beq_self_eq_true Nat.reduceBEq ne_eq not_true_eq_false not_false_eq_true Id.mk.injEq false_and and_false Nat.reduceLT Int.reduceLE Int.reduceLT Int.reduceToNat Int.reduceNeg Int.reduceAdd Nat.le_refl List.length_append beq_true beq_false Bool.not_eq_eq_eq_not or_false false_or dM aj aq aH bd bz ck aU bf aT aZ cP bH
def OW (rows:List (List AV)):Prop:=∀r∈rows,∃(x y:Int) (v:AV),r=[.int .i64 x,.int .i64 y,v]
def lp (σ:au) (O:Id) (g:Rows) (n:Nat):Prop:=σ.next<=n/\(∀x:Id,x.bm<σ.next->x≠O->g x=σ.get x)/\∃rows,g O=some ⟨true,mP.lJ,rows⟩/\OW rows
theorem lp.Kd {σ:au} {g:Rows} {n:Nat} {c T O:Id} {s:aD} {ts:List ae} (h:yI σ.get σ.next c T O s ts) (hc:c≠O) (hT:T≠O) (k:lp σ O g n):yI g n c T O s ts:=
 h.frame k.1 (k.2.1 _ h.cv hc) (k.2.1 _ h.tv hT)
theorem lp.trans {a b:au} {O:Id} {g:Rows} {n:Nat} (h:lp a O b.get b.next) (k:lp b O g n):lp a O g n:=
 ⟨Nat.le_trans h.1 k.1,fun x hx hO=>(k.2.1 x (Nat.lt_of_lt_of_le hx h.1) hO).trans (h.2.1 x hx hO),k.2.2⟩
theorem lp.frame {a:au} {O:Id} {g g':Rows} {n n' m:Nat} (h:lp a O g n) (ha:a.next<=m) (ho:O.bm<m) (hn:n<=n') (hf:∀x:Id,x.bm<m->g' x=g x):lp a O g' n':=by
 refine⟨Nat.le_trans h.1 hn,fun x hx hO=>(hf x (Nat.lt_of_lt_of_le hx ha)).trans (h.2.1 x hx hO),?_⟩
 obtain⟨rows,h1,h2⟩:=h.2.2
 exact⟨rows,(hf O ho).trans h1,h2⟩
theorem lp.write {a:au} {O:Id} {g g':Rows} {n n':Nat} (h:lp a O g n) (hn:n<=n') (hf:∀x:Id,x.bm<a.next->x≠O->g' x=g x) {rows:List (List AV)} (ho:g' O=some ⟨true,mP.lJ,rows⟩) (hw:OW rows):lp a O g' n':=
 ⟨Nat.le_trans h.1 hn,fun x hx hO=>(hf x hx hO).trans (h.2.1 x hx hO),rows,ho,hw⟩
theorem NG {σ:au} {c T O:Id} {s:aD} {ts:List ae} (h:yI σ.get σ.next c T O s ts) (hS:iA s.aB) (hF:∀q,0<=gK ts q->eS s.aB (gK ts q)=true) (p:ai) (t:Int) (ht:eS s.aB t=true):
  gj (Call Tryz.prog) 133 [.ptr c 0 0,.agg (ab p),.int .i64 t] σ (fun r=>r=.bool (ew s ts p t)):=by
 unfold gj PC
 exact Or.inl (aL _ _ _ _ _ (fun r σ' hr=>⟨_,by rw[hr];exact bd _ _ _,rfl⟩) (NF (σ:=⟨V.ro σ.get,σ.next⟩) h.ro hS hF p t ht))
end Go.Proofs.YtgoelphibofcmaaGreat.V

namespace Go.Proofs.YtgoelphibofcmaaGreat.V
open Go.RowKit
attribute [local irreducible] eb wpOps gj Call
attribute [local go_sem] aJ fM eP fZ fY cL upd cu K.av cN AV.cells AV.cell rowOf rowsOf part ld rowAt bI bW dD ee gT bL dc ev fU eY dr ej da cZ dO dR bR aX cR bQ cV cU eh ek ei cQ bV db ef bP aP cX cE gS bw cJ bU aW dx bj dE AV.undef bD bF dV ec dI dS cF eu eB cD ep eo cW cY List.getD_cons_zero List.getD_cons_succ List.getD_nil List.all_cons List.all_nil Bool.and_true Bool.true_and Bool.and_self Bool.not_true Bool.not_false Option.map_some Option.map_none Option.bind_some Option.bind_none List.length_cons List.length_nil List.take_succ_cons List.take_zero List.take_nil List.drop_succ_cons List.drop_zero List.drop_nil List.head?_cons List.map_cons List.map_nil List.getElem?_cons_zero List.getElem?_cons_succ List.cons_append List.nil_append List.append_nil List.length_map List.set_cons_zero List.set_cons_succ Nat.reduceMul eq_self Int.toNat_natCast Int.natCast_nonneg and_self true_and and_true decide_true decide_false Bool.false_eq_true Nat.zero_add Nat.add_zero List.contains_cons List.contains_nil Bool.or_false Bool.false_or beq_self_eq_true Nat.reduceBEq ne_eq not_true_eq_false not_false_eq_true Id.mk.injEq false_and and_false Nat.reduceLT Int.reduceLE Int.reduceLT Int.reduceToNat Int.reduceNeg Int.reduceAdd Nat.le_refl List.length_append beq_true beq_false Bool.not_eq_eq_eq_not or_false false_or dM aj aq aH bd bz ck aU bf aT aZ cP bH
structure po (g:Rows) (n:Nat) (c T O:Id) (s:aD) (ts:List ae):Prop where
 row:g c=some ⟨true,6,[[.sl (s.aB.ax.map bG),.sl (s.aB.ah.map bp),.sl (s.cq.ah.map ad),.int .i64 s.ay,.map T mP,.map O mP]]⟩
 tl:g T=some ⟨true,mP.lJ,ts.map ad⟩
 op:∃rows,g O=some ⟨true,mP.lJ,rows⟩/\OW rows
 cv:c.bm<n
 tv:T.bm<n
 ov:O.bm<n
 cT:c≠T
 cO:c≠O
 TO:T≠O
theorem po.Kd {g:Rows} {n:Nat} {c T O:Id} {s:aD} {ts:List ae} (h:po g n c T O s ts):yI g n c T O s ts:=⟨⟨_,h.row⟩,⟨_,h.tl⟩,h.cv,h.tv,h.ov⟩
theorem po.look {σ:au} {g:Rows} {n:Nat} {c T O:Id} {s:aD} {ts:List ae} (h:po σ.get σ.next c T O s ts) (k:lp σ O g n):po g n c T O s ts:=
 ⟨(k.2.1 _ h.cv h.cO).trans h.row,(k.2.1 _ h.tv h.TO).trans h.tl,k.2.2,Nat.lt_of_lt_of_le h.cv k.1,Nat.lt_of_lt_of_le h.tv k.1,Nat.lt_of_lt_of_le h.ov k.1,h.cT,h.cO,h.TO⟩
theorem po.frame {g g':Rows} {n n':Nat} {c T O:Id} {s:aD} {ts:List ae} (h:po g n c T O s ts) (hn:n<=n') (hf:∀x:Id,x.bm<n->g' x=g x):po g' n' c T O s ts:=
 ⟨(hf _ h.cv).trans h.row,(hf _ h.tv).trans h.tl,by rw[hf _ h.ov];exact h.op,Nat.lt_of_lt_of_le h.cv hn,Nat.lt_of_lt_of_le h.tv hn,Nat.lt_of_lt_of_le h.ov hn,h.cT,h.cO,h.TO⟩
theorem Bv {l:List ae} {p:ai}:eK l p<0↔∀t∈l,t.bx≠p:=by
 unfold eK qv
 by_cases h:(l.findIdx fun c=>decide (c.bx=p))<l.length
 ·rw[if_pos h]
  obtain⟨t,ht,h2⟩:=List.findIdx_lt_length.1 h
  exact⟨fun h=>by omega,fun h=>absurd (by simpa using h2) (h t ht)⟩
 ·rw[if_neg h]
  exact⟨fun _ t ht e=>h (List.findIdx_lt_length.2 ⟨t,ht,by simp[e]⟩),fun _=>by omega⟩
theorem JS {l:List ae} (h:sn l) {k:Nat} (hk:k<l.length):eK (l.take k) (aV l k).bx<0:=by
 rw[Bv]
 intro t ht e
 obtain⟨j,hj,rfl⟩:=List.getElem_of_mem ht
 have Kj:j<k:=by rw[List.length_take]at hj;omega
 have:=h j k Kj hk
 rw[List.getElem_take]at e
 have e2:aV l j=l[j]'(by omega):=by unfold aV;rw[List.getD_eq_getElem?_getD,List.getElem?_eq_getElem (by omega)];rfl
 rw[e2,e]at this
 simp[km]at this
theorem Mc {l:List ae} {k:Nat} (hk:k<l.length):(l.take k).map ad++[[.int .i64 (aV l k).bx.eM,.int .i64 (aV l k).bx.eI,.int .i64 (aV l k).bB]]=(l.take (k+1)).map ad:=by
 have e2:aV l k=l[k]:=by unfold aV;rw[List.getD_eq_getElem?_getD,List.getElem?_eq_getElem hk];rfl
 rw[List.take_succ_eq_append_getElem hk,List.map_append,e2]
 rfl
theorem iA.Mv {s:aw} {l:List ae} (hA:kz s l):∀q,0<=gK l q->eS s (gK l q)=true:=fun _ h=>HQ hA h
end Go.Proofs.YtgoelphibofcmaaGreat.V

namespace Go.Proofs.YtgoelphibofcmaaGreat.V
open Go.RowKit
attribute [local irreducible] eb wpOps gj Call
attribute [local go_sem] aJ fM eP fZ fY cL upd cu K.av cN AV.cells AV.cell rowOf rowsOf part ld rowAt bI bW dD ee gT bL dc ev fU eY dr ej da cZ dO dR bR aX cR bQ cV cU eh ek ei cQ bV db ef bP aP cX cE gS bw cJ bU aW dx bj dE AV.undef bD bF dV ec dI dS cF eu eB cD ep eo cW cY List.getD_cons_zero List.getD_cons_succ List.getD_nil List.all_cons List.all_nil Bool.and_true Bool.true_and Bool.and_self Bool.not_true Bool.not_false Option.map_some Option.map_none Option.bind_some Option.bind_none List.length_cons List.length_nil List.take_succ_cons List.take_zero List.take_nil List.drop_succ_cons List.drop_zero List.drop_nil List.head?_cons List.map_cons List.map_nil List.getElem?_cons_zero List.getElem?_cons_succ List.cons_append List.nil_append List.append_nil List.length_map List.set_cons_zero List.set_cons_succ Nat.reduceMul eq_self Int.toNat_natCast Int.natCast_nonneg and_self true_and and_true decide_true decide_false Bool.false_eq_true Nat.zero_add Nat.add_zero List.contains_cons List.contains_nil Bool.or_false Bool.false_or beq_self_eq_true Nat.reduceBEq ne_eq not_true_eq_false not_false_eq_true Id.mk.injEq false_and and_false Nat.reduceLT Int.reduceLE Int.reduceLT Int.reduceToNat Int.reduceNeg Int.reduceAdd Nat.le_refl List.length_append beq_true beq_false Bool.not_eq_eq_eq_not or_false false_or dM aj aq aH bd bz ck aU bf aT aZ cP bH
def jv (ps:List ai) (i:Nat):ai:=ps.getD i ⟨0,0⟩
theorem jI {ps:List ai} {i:Nat} (h:i<ps.length):jv ps i=ps[i]:=by simp[jv,List.getD_eq_getElem?_getD,h]
theorem zK {ps:List ai} {i:Nat} (h:i<ps.length):jv ps i∈ps:=by rw[jI h];exact List.getElem_mem h
theorem tE {ps:List ai} {i:Nat} (h:i<ps.length):(ps.map ab)[i]? =some (ab (jv ps i)):=by simp[jv,List.getD_eq_getElem?_getD,h]
def mo (ps:List ai):Prop:=ps.Pairwise fun a b=>km a b=true
theorem mo.at_ {ps:List ai} (h:mo ps) {i j:Nat} (Dt:i<j) (hj:j<ps.length):km (jv ps i) (jv ps j)=true:=by
 rw[jI hj,jI (by omega)]
 exact List.pairwise_iff_getElem.1 h i j (by omega) hj Dt
def jG (ps:List ai) (p:ai):Nat:=ps.findIdx fun q=> !km q p
theorem zw (ps:List ai) (p:ai):jG ps p<=ps.length:=List.findIdx_le_length
theorem Fh {ps:List ai} {p:ai} {x:Nat} (h:x<jG ps p):km (jv ps x) p=true:=by
 have hx:x<ps.length:=Nat.lt_of_lt_of_le h (zw ps p)
 have:=List.not_of_lt_findIdx h
 rw[jI hx]
 simpa using this
theorem zu {ps:List ai} {p:ai} (hR:mo ps) {x:Nat} (h:jG ps p<=x) (hx:x<ps.length):km (jv ps x) p=false:=by
 have h0:jG ps p<ps.length:=by omega
 have h1:km (jv ps (jG ps p)) p=false:=by
  have:=List.findIdx_getElem (p:=fun q=> !km q p) (xs:=ps) (w:=h0)
  rw[jI h0]
  have e:(!km ps[jG ps p] p)=true:=this
  simpa using e
 by_cases he:jG ps p=x
 ·rw[<-he];exact h1
 ·have h2:=hR.at_ (show jG ps p<x by omega) hx
  cases hc:km (jv ps x) p
  ·rfl
  ·rw[ij h2 hc]at h1;cases h1
def pJ (ps:List ai) (p:ai):List ai:=if jG ps p<ps.length/\jv ps (jG ps p)=p then ps else ps.take (jG ps p)++p::ps.drop (jG ps p)
theorem Jv (ps:List ai) (p:ai):(pJ ps p).length<=ps.length+1:=by
 unfold pJ
 have:=zw ps p
 split
 ·omega
 ·simp;omega
theorem Jd (ps:List ai) (p x:ai):x∈pJ ps p↔x=p∨x∈ps:=by
 unfold pJ
 split
 ·rename_i h
  refine⟨.inr,fun hx=>hx.elim (fun e=>?_) id⟩
  rw[e,<-h.2];exact zK h.1
 ·have:x∈ps↔x∈ps.take (jG ps p)++ps.drop (jG ps p):=by rw[List.take_append_drop]
  rw[this]
  simp only[List.mem_append,List.mem_cons]
  constructor
  ·rintro(h|h|h)
   ·exact .inr (.inl h)
   ·exact .inl h
   ·exact .inr (.inr h)
  ·rintro(h|h|h)
   ·exact .inr (.inl h)
   ·exact .inl h
   ·exact .inr (.inr h)
theorem Jw {ps:List ai} (hR:mo ps) (p:ai):mo (pJ ps p):=by
 unfold pJ
 split
 ·exact hR
 ·rename_i la
  have hd:∀x∈ps.drop (jG ps p),km p x=true:=fun x hx=>by
   obtain⟨j,hj,rfl⟩:=List.getElem_of_mem hx
   rw[List.length_drop]at hj
   rw[List.getElem_drop]
   have gG:jG ps p+j<ps.length:=by omega
   have h1:=zu (p:=p) hR (Nat.le_add_right _ j) gG
   rw[<-jI gG]
   refine zx h1 fun he=>?_
   by_cases h0:j=0
   ·subst h0
    exact la ⟨by omega,by simpa using he⟩
   ·have:=hR.at_ (show jG ps p<jG ps p+j by omega) gG
    rw[he]at this
    have h2:=zu (p:=p) hR (Nat.le_refl _) (show jG ps p<ps.length by omega)
    rw[this]at h2;cases h2
  have ht:∀x∈ps.take (jG ps p),km x p=true:=fun x hx=>by
   obtain⟨j,hj,rfl⟩:=List.getElem_of_mem hx
   rw[List.length_take]at hj
   rw[List.getElem_take]
   have:=Fh (ps:=ps) (p:=p) (x:=j) (by omega)
   rwa [jI (by omega)]at this
  refine List.pairwise_append.2 ⟨hR.sublist (List.take_sublist _ _),List.pairwise_cons.2 ⟨hd,hR.sublist (List.drop_sublist _ _)⟩,fun x hx y hy=>?_⟩
  rcases List.mem_cons.1 hy with rfl|hy
  ·exact ht x hx
  ·exact ij (ht x hx) (hd y hy)
theorem Fs:∀{ps qs:List ai},mo ps->mo qs->(∀x,x∈ps↔x∈qs)->ps=qs
 |[],[],_,_,_=>rfl
 |[],q::qs,_,_,h=>absurd ((h q).2 (by simp)) (by simp)
 |p::ps,[],_,_,h=>absurd ((h p).1 (by simp)) (by simp)
 |p::ps,q::qs,hp,hq,h=>by
  obtain⟨p1,p2⟩:=List.pairwise_cons.1 hp
  obtain⟨q1,q2⟩:=List.pairwise_cons.1 hq
  have e:p=q:=by
   rcases List.mem_cons.1 ((h p).1 (by simp))with e|e
   ·exact e
   ·rcases List.mem_cons.1 ((h q).2 (by simp))with e'|e'
    ·exact e'.symm
    ·have:=Jb (q1 p e)
     rw[p1 q e']at this;cases this
  subst e
  congr 1
  refine Fs p2 q2 fun x=>⟨fun hx=>?_,fun hx=>?_⟩
  ·rcases List.mem_cons.1 ((h x).1 (List.mem_cons_of_mem _ hx))with e|e
   ·subst e;have:=p1 x hx;rw[mO]at this;cases this
   ·exact e
  ·rcases List.mem_cons.1 ((h x).2 (List.mem_cons_of_mem _ hx))with e|e
   ·subst e;have:=q1 x hx;rw[mO]at this;cases this
   ·exact e
def P5 (σ:au) (kp:Id->Prop) (ps:List ai) (r:AV) (σ':au):Prop:=
 ∃o:Id,r=.own o 0 ps.length/\σ'.get o=some ⟨true,2,ps.map ab⟩/\σ.next<=σ'.next/\o.bm<σ'.next/\(σ.next<=o.bm∨¬kp o)/\∀x:Id,x.bm<σ.next->kp x->σ'.get x=σ.get x
theorem M0 {ps:List ai} {i:Nat} {q:ai}:(ps.map ab).set i (ab q)=(ps.set i q).map ab:=List.map_set.symm
def yF (ps:List ai) (p:ai) (i:Nat):List ai:=(ps++[p]).take (i+1)++ps.drop i
theorem pk (ps:List ai) (p:ai) {i:Nat} (h:i<=ps.length):(yF ps p i).length=ps.length+1:=by simp[yF];omega
theorem OZ {ps:List ai} {p:ai} {i j:Nat} (hi:i<=ps.length) (hj:j<i):jv (yF ps p i) j=jv ps j:=by
 unfold jv yF
 rw[List.getD_eq_getElem?_getD,List.getD_eq_getElem?_getD,List.getElem?_append_left (by simp;omega),List.getElem?_take,if_pos (by omega),List.getElem?_append_left (by omega)]
theorem Hj (ps:List ai) (p:ai):yF ps p ps.length=ps++[p]:=by
 unfold yF
 rw[List.drop_length,List.append_nil,List.take_of_length_le (by simp)]
theorem J0 {ps:List ai} {p:ai} {i:Nat} (hi:i<ps.length):(yF ps p (i+1)).set (i+1) (jv ps i)=yF ps p i:=by
 refine List.ext_getElem? fun j=>?_
 rw[List.getElem?_set,pk ps p (by omega)]
 unfold yF
 by_cases hj:i+1=j
 ·subst hj
  rw[if_pos rfl,if_pos (by omega),List.getElem?_append_right (by simp;omega)]
  simp only[List.length_take,List.length_append,List.length_cons,List.length_nil]
  rw[show i+1-min (i+1) (ps.length+(0+1))=0 by omega,List.getElem?_drop,Nat.add_zero,List.getElem?_eq_getElem hi,jI hi]
 ·rw[if_neg hj]
  by_cases dP:j<i+1
  ·rw[List.getElem?_append_left (by simp;omega),List.getElem?_append_left (by simp;omega),List.getElem?_take,List.getElem?_take,if_pos (by omega),if_pos dP]
  ·rw[List.getElem?_append_right (by simp;omega),List.getElem?_append_right (by simp;omega)]
   simp only[List.length_take,List.length_append,List.length_cons,List.length_nil,List.getElem?_drop]
   congr 1
   omega
theorem Mg {ps:List ai} {p:ai} {i:Nat} (hi:i<=ps.length):(yF ps p i).set i p=ps.take i++p::ps.drop i:=by
 refine List.ext_getElem? fun j=>?_
 rw[List.getElem?_set,pk ps p hi]
 unfold yF
 by_cases hj:i=j
 ·subst hj
  rw[if_pos rfl,if_pos (by omega),List.getElem?_append_right (by simp;omega)]
  simp[Nat.min_eq_left hi]
 ·rw[if_neg hj]
  by_cases dP:j<i
  ·rw[List.getElem?_append_left (by simp;omega),List.getElem?_append_left (by simp;omega),List.getElem?_take,List.getElem?_take,if_pos (by omega),if_pos dP,List.getElem?_append_left (by omega)]
  ·rw[List.getElem?_append_right (by simp;omega),List.getElem?_append_right (by simp;omega)]
   simp only[List.length_take,List.length_append,List.length_cons,List.length_nil]
   rw[show j-min i ps.length=(j-i-1)+1 by omega,List.getElem?_cons_succ]
   congr 1
   omega
theorem Mi {X:fA} {Q:Ex->Env->au->Prop} {N:Env->au->Prop} {c:VC} {env:Env} {σ:au} {id:Nat} (I:Env->au->Prop) (h2:∀e s,I e s->N e s) (h1:∀N':Env->au->Prop,(∀e s,I e s->N' e s)->eb X c (bj id (dx N' Q)) env σ):eb X c (bj id (dx N Q)) env σ:=h1 N h2
theorem xk (ps:List ai) (hR:mo ps) (hlen:ps.length<=1048576) (p:ai) (o:Id) (σ:au) (ho:σ.get o=some ⟨true,2,ps.map ab⟩) (rD:o.bm<σ.next):
  Call Tryz.prog 112 [.own o 0 ps.length,.agg (ab p)] σ (P5 σ (fun x=>(x=o)=False) (pJ ps p)):=by
 refine eU eJ rfl fun mM=>?_
 clear mM
 have qu:=dz rD
 have Sx:=zw ps p
 have xV:(ps.map ab).length=ps.length:=by simp
 (try((repeat(revert hN;revert N;apply Pn.out));refine wk (tw @ab.eq_1 @qu) ?_;(repeat(refine Pn.mk ?_;intro N hN))))
 refine Mi (fun e s=>e 5=.int .i64 (jG ps p:Int)/\e 0=.own o 0 ps.length/\e 3=.ptr ⟨112000000,σ.next⟩ 0 0/\s.get ⟨112000000,σ.next⟩=some ⟨true,2,[ab p]⟩/\s.get o=some ⟨true,2,ps.map ab⟩/\σ.next<s.next/\∀x:Id,x.bm<σ.next->s.get x=σ.get x) ?_ ?_
 ·rintro e s ⟨f5,f0,f3,fg0,fg1,fn,ffr⟩
  refine hN _ _ ?_
  clear hN N
  have Lo:=dz (i:=o) (n:=s.next) (by omega)
  obtain⟨a,ha⟩:∃a,jG ps p=a:=⟨_,rfl⟩
  rw[ha]at f5 Sx
  by_cases hex:a<ps.length/\jv ps a=p
  ·have dP:(a:Int)<(ps.length:Int):=by omega
   have hg:=tE hex.1
   have hx:decide ((jv ps a).eM=p.eM)=true:=decide_eq_true (by rw[hex.2])
   have hy:decide ((jv ps a).eI=p.eI)=true:=decide_eq_true (by rw[hex.2])
   (try((repeat(revert hN;revert N;apply Pn.out));refine wk (tw @f5 (tw @f0 (tw @f3 (tw @fg0 (tw @fg1 (tw @dP (tw @hg (tw @hx (tw @hy (tw @xV @ab.eq_1)))))))))) ?_;(repeat(refine Pn.mk ?_;intro N hN))))
   have hp:pJ ps p=ps:=by unfold pJ;rw[ha,if_pos hex]
   rw[hp]
   exact ft (.inl rfl) (vs:=[.own o 0 ps.length]) (sd @Nat.zero_add) ⟨o,rfl,sd @fg1,by(try dsimp only);omega,by(try dsimp only);omega,.inr (by simp),fun x hx _=>sd (ffr x hx)⟩
  refine Cs (fun N hN=>?_)
  refine Ez (fun e s=>e 5=.int .i64 (a:Int)/\e 0=.own o 0 ps.length/\e 3=.ptr ⟨112000000,σ.next⟩ 0 0/\s.get ⟨112000000,σ.next⟩=some ⟨true,2,[ab p]⟩/\s.get o=some ⟨true,2,ps.map ab⟩/\σ.next<s.next/\∀x:Id,x.bm<σ.next->s.get x=σ.get x) ?_ ?_
  ·clear f5 f0 f3 fg0 fg1 fn ffr Lo
   rintro e s ⟨f5,f0,f3,fg0,fg1,fn,ffr⟩
   refine hN _ _ ?_
   clear hN N
   have Lo:=dz (i:=o) (n:=s.next) (by omega)
   have PS:=dz (i:=⟨112000000,σ.next⟩) (n:=s.next) fn
   have e1:ps.length+1<=16777216:=by omega
   have pI:ps.map ab++[[.int .i64 p.eM,.int .i64 p.eI]]=(yF ps p ps.length).map ab:=by rw[Hj];simp[ab]
   have mN:IntKind.i64.wrap ((ps.length:Int)+1-1)=(ps.length:Int):=by rw[bh (by omega)];omega
   have hp:pJ ps p=ps.take a++p::ps.drop a:=by unfold pJ;rw[ha,if_neg hex]
   have Oi:((⟨112000000,σ.next⟩:Id)=o)=False:=by
    refine eq_false fun h=>?_
    rw[<-h]at rD;exact Nat.lt_irrefl _ rD
   (try((repeat(revert hN;revert N;apply Pn.out));refine wk (tw @f5 (tw @f0 (tw @f3 (tw @fg0 (tw @fg1 (tw @Lo (tw @PS (tw @Oi (tw @xV (tw @e1 (tw @pI (tw @mN (tw @Int.natCast_add (tw @Int.cast_ofNat_Int @ab.eq_1)))))))))))))) ?_;(repeat(refine Pn.mk ?_;intro N hN))))
   refine aO (fun m env st=>∃i:Nat,m=i/\a<=i/\i<=ps.length/\env 6=.int .i64 (i:Int)/\st.get ⟨112006003,s.next⟩=some ⟨true,2,(yF ps p i).map ab⟩/\st.get ⟨112000000,σ.next⟩=some ⟨true,2,[ab p]⟩/\s.next<st.next/\∀x:Id,x.bm<σ.next->(x=o)=False->st.get x=σ.get x) ps.length ⟨ps.length,rfl,Sx,Nat.le_refl _,sd (tw @mN (tw @Int.natCast_add @Int.cast_ofNat_Int)),sd @pI,sd (tw @fg0 (tw @PS (tw @Oi @ab.eq_1))),by(try dsimp only);omega,fun x hx Al=>by
    have h1:=dz (i:=x) (n:=s.next) (by omega)
    have h2:=ffr x hx
    simp only[go_sem, ↓reduceIte,Nat.reduceEqDiff,Nat.reduceAdd,Nat.reduceSub,Nat.reduceLeDiff,reduceCtorEq,h1,h2,Al]⟩ ?_
   rintro m env_b st_b ⟨i,hmi,bl,ble,b6,bg0,bg1,bn,eV⟩ bkp
   have b0:=bkp 0 (by kernel_rfl)
   have b3:=bkp 3 (by kernel_rfl)
   have b5:=bkp 5 (by kernel_rfl)
   simp only[go_sem, ↓reduceIte,Nat.reduceEqDiff,Nat.reduceAdd,Nat.reduceSub,Nat.reduceLeDiff,reduceCtorEq,f0,f3,f5,ab]at b0 b3 b5
   clear bkp
   have Ll:((yF ps p i).map ab).length=ps.length+1:=by rw[List.length_map,pk ps p ble]
   by_cases Kh:(a:Int)<(i:Int)
   ·obtain⟨k,rfl⟩:∃k,i=k+1:=⟨i-1,by omega⟩
    have fa:k<ps.length:=by omega
    have sL:IntKind.i64.wrap (((k+1:Nat):Int)-1)=(k:Int):=by rw[bh (by omega)];omega
    have hq:((yF ps p (k+1)).map ab)[k]? =some (ab (jv ps k)):=by rw[tE (by rw[pk ps p ble];omega),OZ ble (Nat.lt_succ_self _)]
    have xY:∃z,((yF ps p (k+1)).map ab)[k+1]? =some (ab z):=⟨_,tE (by rw[pk ps p ble];omega)⟩
    obtain⟨z,xY⟩:=xY
    have dQ:((yF ps p (k+1)).map ab).set (k+1) (ab (jv ps k))=(yF ps p k).map ab:=by rw[M0,J0 fa]
    have c1:(k:Int)<(ps.length:Int)+1:=by omega
    have c2:(k:Int)+1<(ps.length:Int)+1:=by omega
    have c3:(0:Int)<=(k:Int)+1:=by omega
    have c4:((k:Int)+1).toNat=k+1:=by omega
    have c5:(a:Int)<(k:Int)+1:=by omega
    have c6:IntKind.i64.wrap ((k:Int)+1-1)=(k:Int):=by rw[bh (by omega)];omega
    rw[ab]at dQ hq xY
    (try((repeat(revert hN;revert N;apply Pn.out));refine wk (tw @b0 (tw @b3 (tw @b5 (tw @b6 (tw @bg0 (tw @bg1 (tw @Kh (tw @sL (tw @hq (tw @xY (tw @dQ (tw @Ll (tw @c1 (tw @c2 (tw @c3 (tw @c4 (tw @c5 (tw @c6 (tw @Int.natCast_add @Int.cast_ofNat_Int))))))))))))))))))) ?_;(repeat(refine Pn.mk ?_;intro N hN))))
    exact⟨k,by omega,k,rfl,by omega,by omega,sd @c6,sd @dQ,sd (tw @bg1 @Oi),by(try dsimp only);omega,fun x hx Al=>by
     have h1:=dz (i:=x) (n:=s.next) (by omega)
     have h2:=eV x hx Al
     simp only[go_sem, ↓reduceIte,Nat.reduceEqDiff,Nat.reduceAdd,Nat.reduceSub,Nat.reduceLeDiff,reduceCtorEq,h1,h2]⟩
   ·obtain rfl:i=a:=by omega
    have dQ:((yF ps p i).map ab).set i (ab p)=(pJ ps p).map ab:=by rw[M0,Mg Sx,hp]
    have xY:∃z,((yF ps p i).map ab)[i]? =some (ab z):=⟨_,tE (by rw[pk ps p ble];omega)⟩
    obtain⟨z,xY⟩:=xY
    have ml:(pJ ps p).length=ps.length+1:=by rw[hp];simp;omega
    have c1:(i:Int)<(ps.length:Int)+1:=by omega
    rw[ab]at dQ xY
    (try((repeat(revert hN;revert N;apply Pn.out));refine wk (tw @b0 (tw @b3 (tw @b5 (tw @b6 (tw @bg0 (tw @bg1 (tw @Kh (tw @xY (tw @dQ (tw @Ll (tw @c1 (tw @Int.natCast_add (tw @Int.cast_ofNat_Int @ab.eq_1))))))))))))) ?_;(repeat(refine Pn.mk ?_;intro N hN))))
    rw[<-ml]
    exact ft (.inl rfl) (vs:=[.own ⟨112006003,s.next⟩ 0 (pJ ps p).length]) (sd (tw @b0 @ml)) ⟨⟨112006003,s.next⟩,rfl,sd @dQ,by(try dsimp only);omega,by(try dsimp only);omega,.inl (by(try dsimp only);omega),fun x hx Al=>by
     have h1:=dz (i:=x) (n:=s.next) (by omega)
     have h2:=eV x hx Al
     simp only[go_sem, ↓reduceIte,Nat.reduceEqDiff,Nat.reduceAdd,Nat.reduceSub,Nat.reduceLeDiff,reduceCtorEq,h1,h2]⟩
  ·intro N hN
   by_cases Ix:(a:Int)<(ps.length:Int)
   ·have hg:=tE (ps:=ps) (i:=a) (by omega)
    by_cases hx:(jv ps a).eM=p.eM
    ·have tr:decide ((jv ps a).eM=p.eM)=true:=decide_eq_true hx
     have SK:decide ((jv ps a).eI=p.eI)=false:=decide_eq_false fun h=>hex ⟨by omega,vW hx h⟩
     (try((repeat(revert hN;revert N;apply Pn.out));refine wk (tw @f5 (tw @f0 (tw @f3 (tw @fg0 (tw @fg1 (tw @Ix (tw @hg (tw @tr (tw @SK (tw @xV @ab.eq_1)))))))))) ?_;(repeat(refine Pn.mk ?_;intro N hN))))
     exact⟨sd @f5,sd @f0,sd @f3,sd (tw @fg0 @ab.eq_1),sd @fg1,by(try dsimp only);omega,fun x hx=>sd (ffr x hx)⟩
    ·have tr:decide ((jv ps a).eM=p.eM)=false:=decide_eq_false hx
     (try((repeat(revert hN;revert N;apply Pn.out));refine wk (tw @f5 (tw @f0 (tw @f3 (tw @fg0 (tw @fg1 (tw @Ix (tw @hg (tw @tr (tw @Bool.false_and (tw @xV @ab.eq_1)))))))))) ?_;(repeat(refine Pn.mk ?_;intro N hN))))
     exact⟨sd @f5,sd @f0,sd @f3,sd (tw @fg0 @ab.eq_1),sd @fg1,by(try dsimp only);omega,fun x hx=>sd (ffr x hx)⟩
   ·(try((repeat(revert hN;revert N;apply Pn.out));refine wk (tw @f5 (tw @f0 (tw @f3 (tw @fg0 (tw @fg1 (tw @Ix (tw @xV @ab.eq_1))))))) ?_;(repeat(refine Pn.mk ?_;intro N hN))))
    exact⟨sd @f5,sd @f0,sd @f3,sd (tw @fg0 @ab.eq_1),sd @fg1,by(try dsimp only);omega,fun x hx=>sd (ffr x hx)⟩
 intro N hN
 refine aO (fun m env st=>∃a:Nat,m=a/\jG ps p<=a/\a<=ps.length/\env 5=.int .i64 (a:Int)/\st.get ⟨112000000,σ.next⟩=some ⟨true,2,[ab p]⟩/\st.get o=some ⟨true,2,ps.map ab⟩/\σ.next<st.next/\∀x:Id,x.bm<σ.next->st.get x=σ.get x) ps.length ⟨ps.length,rfl,Sx,Nat.le_refl _,sd @Nat.zero_add,sd @ab.eq_1,sd (tw @qu @ho),by(try dsimp only);omega,fun x hx=>by have:=dz hx;simp only[go_sem, ↓reduceIte,Nat.reduceEqDiff,Nat.reduceAdd,Nat.reduceSub,Nat.reduceLeDiff,reduceCtorEq,this]⟩ ?_
 rintro m env_a st_a ⟨a,hma,al,ale,a5,ag0,ag1,an,dv⟩ akp
 have a0:=akp 0 (by kernel_rfl)
 have a3:=akp 3 (by kernel_rfl)
 simp only[go_sem, ↓reduceIte,Nat.reduceEqDiff,Nat.reduceAdd,Nat.reduceSub,Nat.reduceLeDiff,reduceCtorEq,ab]at a0 a3
 clear akp
 by_cases h0:(0:Int)<(a:Int)
 ·obtain⟨b,rfl⟩:∃b,a=b+1:=⟨a-1,by omega⟩
  have nH:b<ps.length:=by omega
  have fo:(b:Int)<(ps.length:Int):=by omega
  have hg:=tE nH
  have hw:IntKind.i64.wrap (((b+1:Nat):Int)-1)=(b:Int):=by rw[bh (by omega)];omega
  have hq:=nQ (jv ps b) p
  cases hc:km (jv ps b) p
  ·rw[hc]at hq
   (repeat(first|((repeat(revert hN;revert N;apply Pn.out));refine wk (tw @a0 (tw @a3 (tw @a5 (tw @ag0 (tw @ag1 (tw @h0 (tw @fo (tw @hg (tw @hw (tw @xV @ab.eq_1)))))))))) ?_;(repeat(refine Pn.mk ?_;intro N hN)))|((try apply Or.inl);refine⟨_,ar.x (hq) (sd (tw @a0 (tw @a3 (tw @a5 (tw @ag0 (tw @ag1 (tw @h0 (tw @fo (tw @hg (tw @hw (tw @xV @ab.eq_1))))))))))),?_⟩;refine hN _ _ ?_;clear hN N)))
   refine⟨b,by omega,b,rfl,?_,by omega,sd @hw,sd (tw @ag0 @ab.eq_1),sd @ag1,by(try dsimp only);omega,fun x hx=>sd (dv x hx)⟩
   rcases Nat.lt_or_ge b (jG ps p)with h|h
   ·rw[Fh h]at hc;cases hc
   ·exact h
  ·rw[hc]at hq
   have jT:jG ps p=b+1:=by
    rcases Nat.lt_or_ge b (jG ps p)with h|h
    ·omega
    ·have:=zu (p:=p) hR h nH
     rw[hc]at this;cases this
   (repeat(first|((repeat(revert hN;revert N;apply Pn.out));refine wk (tw @a0 (tw @a3 (tw @a5 (tw @ag0 (tw @ag1 (tw @h0 (tw @fo (tw @hg (tw @hw (tw @xV @ab.eq_1)))))))))) ?_;(repeat(refine Pn.mk ?_;intro N hN)))|((try apply Or.inl);refine⟨_,ar.x (hq) (sd (tw @a0 (tw @a3 (tw @a5 (tw @ag0 (tw @ag1 (tw @h0 (tw @fo (tw @hg (tw @hw (tw @xV @ab.eq_1))))))))))),?_⟩;refine hN _ _ ?_;clear hN N)))
   exact⟨sd (tw @a5 @jT),sd @a0,sd @a3,sd (tw @ag0 @ab.eq_1),sd @ag1,by(try dsimp only);omega,fun x hx=>sd (dv x hx)⟩
 ·have jT:jG ps p=a:=by omega
  (try((repeat(revert hN;revert N;apply Pn.out));refine wk (tw @a0 (tw @a3 (tw @a5 (tw @ag0 (tw @ag1 (tw @h0 (tw @xV @ab.eq_1))))))) ?_;(repeat(refine Pn.mk ?_;intro N hN))))
  exact⟨sd (tw @a5 @jT),sd @a0,sd @a3,sd (tw @ag0 @ab.eq_1),sd @ag1,by(try dsimp only);omega,fun x hx=>sd (dv x hx)⟩
end Go.Proofs.YtgoelphibofcmaaGreat.V

namespace Go.Proofs.YtgoelphibofcmaaGreat.V
open Go.RowKit
attribute [local irreducible] eb wpOps gj Call
attribute [local go_sem] aJ fM eP fZ fY cL upd cu K.av cN AV.cells AV.cell rowOf rowsOf part ld rowAt bI bW dD ee gT bL dc ev fU eY dr ej da cZ dO dR bR aX cR bQ cV cU eh ek ei cQ bV db ef bP aP cX cE gS bw cJ bU aW dx bj dE AV.undef bD bF dV ec dI dS cF eu eB cD ep eo cW cY List.getD_cons_zero List.getD_cons_succ List.getD_nil List.all_cons List.all_nil Bool.and_true Bool.true_and Bool.and_self Bool.not_true Bool.not_false Option.map_some Option.map_none Option.bind_some Option.bind_none List.length_cons List.length_nil List.take_succ_cons List.take_zero List.take_nil List.drop_succ_cons List.drop_zero List.drop_nil List.head?_cons List.map_cons List.map_nil List.getElem?_cons_zero List.getElem?_cons_succ List.cons_append List.nil_append List.append_nil List.length_map List.set_cons_zero List.set_cons_succ Nat.reduceMul eq_self Int.toNat_natCast Int.natCast_nonneg and_self true_and and_true decide_true decide_false Bool.false_eq_true Nat.zero_add Nat.add_zero List.contains_cons List.contains_nil Bool.or_false Bool.false_or beq_self_eq_true Nat.reduceBEq ne_eq not_true_eq_false not_false_eq_true Id.mk.injEq false_and and_false Nat.reduceLT Int.reduceLE Int.reduceLT Int.reduceToNat Int.reduceNeg Int.reduceAdd Nat.le_refl List.length_append beq_true beq_false Bool.not_eq_eq_eq_not or_false false_or dM aj aq aH bd bz ck aU bf aT aZ cP bH
def jl (l:List ae) (ps:List ai) (q:ai):List ai:=if zI q=true/\eK l q<0 then pJ ps q else ps
def eW (l:List ae) (ps:List ai) (p:ai):Nat->List ai
 |0=>ps
 |d+1=>jl l (eW l ps p d) (aY p d)
def eG (l:List ae):Nat->List ai
 |0=>[]
 |i+1=>eW l (eG l i) (aV l i).bx 4
def iw (l:List ae):List ai:=eG l l.length
theorem zC {l:List ae} {ps:List ai} (h:mo ps) (q:ai):mo (jl l ps q):=by
 unfold jl;split
 ·exact Jw h q
 ·exact h
theorem qD {l:List ae} {ps:List ai} (h:mo ps) (p:ai):∀d,mo (eW l ps p d)
 |0=>h
 |d+1=>zC (qD h p d) _
theorem qE (l:List ae):∀i,mo (eG l i)
 |0=>List.Pairwise.nil
 |i+1=>qD (qE l i) _ 4
theorem zB (l:List ae) (ps:List ai) (q:ai):(jl l ps q).length<=ps.length+1:=by
 unfold jl;split
 ·exact Jv ps q
 ·omega
theorem qC (l:List ae) (ps:List ai) (p:ai):∀d,(eW l ps p d).length<=ps.length+d
 |0=>Nat.le_refl _
 |d+1=>by
  have:=qC l ps p d
  have:=zB l (eW l ps p d) (aY p d)
  simp only[eW];omega
theorem kO (l:List ae):∀i,(eG l i).length<=i*4
 |0=>Nat.le_refl _
 |i+1=>by
  have:=kO l i
  have:=qC l (eG l i) (aV l i).bx 4
  simp only[eG];omega
theorem vK (l:List ae) (ps:List ai) (p:ai) (x:ai):∀d,x∈eW l ps p d↔x∈ps∨∃k,k<d/\x=aY p (k:Nat)/\zI x=true/\eK l x<0
 |0=>⟨.inl,fun h=>h.elim id fun⟨_,h,_⟩=>absurd h (Nat.not_lt_zero _)⟩
 |d+1=>by
  simp only[eW,jl]
  have ih:=vK l ps p x d
  split
  ·rename_i h
   rw[Jd,ih]
   constructor
   ·rintro(rfl|h1|⟨k,h1,h2⟩)
    ·exact .inr ⟨d,Nat.lt_succ_self _,rfl,h⟩
    ·exact .inl h1
    ·exact .inr ⟨k,by omega,h2⟩
   ·rintro(h1|⟨k,h1,h2⟩)
    ·exact .inr (.inl h1)
    ·by_cases hk:k=d
     ·subst hk;exact .inl h2.1
     ·exact .inr (.inr ⟨k,by omega,h2⟩)
  ·rename_i h
   rw[ih]
   constructor
   ·rintro(h1|⟨k,h1,h2⟩)
    ·exact .inl h1
    ·exact .inr ⟨k,by omega,h2⟩
   ·rintro(h1|⟨k,h1,h2⟩)
    ·exact .inl h1
    ·by_cases hk:k=d
     ·subst hk;rw[h2.1]at h2;exact absurd h2.2 h
     ·exact .inr ⟨k,by omega,h2⟩
def Ao (l:List ae) (x:ai):Prop:=zI x=true/\eK l x<0/\∃i d:Nat,i<l.length/\d<4/\x=aY (aV l i).bx d
theorem vL (l:List ae) (x:ai):∀i,x∈eG l i↔∃j d:Nat,j<i/\d<4/\x=aY (aV l j).bx d/\zI x=true/\eK l x<0
 |0=>⟨fun h=>(by cases h),fun⟨_,_,h,_⟩=>absurd h (Nat.not_lt_zero _)⟩
 |i+1=>by
  simp only[eG]
  rw[vK,vL l x i]
  constructor
  ·rintro(⟨j,d,h1,h2⟩|⟨d,h1,h2⟩)
   ·exact⟨j,d,by omega,h2⟩
   ·exact⟨i,d,Nat.lt_succ_self _,h1,h2⟩
  ·rintro⟨j,d,h1,h2,h3⟩
   by_cases hj:j=i
   ·subst hj;exact .inr ⟨d,h2,h3⟩
   ·exact .inl ⟨j,d,by omega,h2,h3⟩
theorem yh (l:List ae) (x:ai):x∈iw l↔Ao l x:=by
 unfold iw Ao
 rw[vL]
 exact⟨fun⟨j,d,h1,h2,h3,h4,h5⟩=>⟨h4,h5,j,d,h1,h2,h3⟩,fun⟨h4,h5,j,d,h1,h2,h3⟩=>⟨j,d,h1,h2,h3,h4,h5⟩⟩
theorem GA (l:List ae) (hF:j8 l) (σ:au):Call Tryz.prog 71 [.dj [.sl (l.map ad)]] σ (P5 σ (fun _=>True) (iw l)):=by
 refine eU eJ rfl fun mM=>?_
 clear mM
 have hR:=hF.M1
 have Gf:=hF.Cu
 (try((repeat(revert hN;revert N;apply Pn.out));refine wk @Nat.zero_add ?_;(repeat(refine Pn.mk ?_;intro N hN))))
 refine aO (fun n env st=>∃i:Nat,n=(l.length)-i/\i<=(l.length)/\env 4=.int .i64 (i:Int)/\(∃o:Id,env 3=.own o 0 (eG l i).length/\st.get o=some ⟨true,2,(eG l i).map ab⟩/\o.bm<st.next/\σ.next<=o.bm/\∀x:Id,x.bm<σ.next->st.get x=σ.get x)) (l.length) ⟨0,by omega,by omega,sl @Nat.zero_add,⟨⟨71001000,σ.next+1⟩,by simp only[go_sem, ↓reduceIte,Nat.reduceEqDiff,Nat.reduceAdd,Nat.reduceSub,Nat.reduceLeDiff,reduceCtorEq];rfl,by simp only[go_sem, ↓reduceIte,Nat.reduceEqDiff,Nat.reduceAdd,Nat.reduceSub,Nat.reduceLeDiff,reduceCtorEq];rfl,by(try dsimp only);omega,by(try dsimp only);omega,fun x hx=>by
  have:=dz (i:=x) (n:=σ.next+1) (by omega)
  simp only[go_sem, ↓reduceIte,Nat.reduceEqDiff,Nat.reduceAdd,Nat.reduceSub,Nat.reduceLeDiff,reduceCtorEq,this]⟩⟩ ?_
 rintro n_a env_a st_a ⟨i,rfl,ale,a4,ke⟩ dv
 have a0:=dv 0 (by kernel_rfl)
 simp only[go_sem, ↓reduceIte,Nat.reduceEqDiff,Nat.reduceAdd,Nat.reduceSub,Nat.reduceLeDiff,reduceCtorEq]at a0
 clear dv
 obtain⟨o,a3,ag,S5,RV,dv⟩:=ke
 by_cases hi:(i:Int)<(l.length:Int)
 ·have cz:∀{e:Env} {gg:Rows} {nx:Nat},(e 4=.int .i64 (IntKind.i64.wrap ((i:Int)+1)))->(∃o:Id,e 3=.own o 0 (eG l (i+1)).length/\gg o=some ⟨true,2,(eG l (i+1)).map ab⟩/\o.bm<nx/\σ.next<=o.bm/\∀x:Id,x.bm<σ.next->gg x=σ.get x)->∃m0,m0<(l.length)-i/\∃i:Nat,m0=(l.length)-i/\i<=(l.length)/\e 4=.int .i64 (i:Int)/\(∃o:Id,e 3=.own o 0 (eG l i).length/\gg o=some ⟨true,2,(eG l i).map ab⟩/\o.bm<nx/\σ.next<=o.bm/\∀x:Id,x.bm<σ.next->gg x=σ.get x):=fun x1 x2=>⟨_,by omega,i+1,rfl,by omega,(by rw[x1,az (by omega)]),x2⟩
  have fI:i<l.length:=by omega
  (try((repeat(revert hN;revert N;apply Pn.out));refine wk (tw @a4 (tw @a0 (tw @a3 @hi))) ?_;(repeat(refine Pn.mk ?_;intro N hN))))
  refine aO (fun n env st=>∃d:Nat,n=(4)-d/\d<=(4)/\env 5=.int .i64 (d:Int)/\(∃o:Id,env 3=.own o 0 (eW l (eG l i) (aV l i).bx d).length/\st.get o=some ⟨true,2,(eW l (eG l i) (aV l i).bx d).map ab⟩/\o.bm<st.next/\σ.next<=o.bm/\∀x:Id,x.bm<σ.next->st.get x=σ.get x)) (4) ⟨0,by omega,by omega,sl (tw @a4 @a0),⟨o,by simp only[go_sem, ↓reduceIte,Nat.reduceEqDiff,Nat.reduceAdd,Nat.reduceSub,Nat.reduceLeDiff,reduceCtorEq,a3,eW],by simp only[go_sem, ↓reduceIte,Nat.reduceEqDiff,Nat.reduceAdd,Nat.reduceSub,Nat.reduceLeDiff,reduceCtorEq,ag,eW],by(try dsimp only);omega,RV,fun x hx=>sd (dv x hx)⟩⟩ ?_
  rintro n_b env_b st_b ⟨d,rfl,ble,b5,bI0⟩ eV
  have b0:=eV 0 (by kernel_rfl);have b4:=eV 4 (by kernel_rfl)
  simp only[go_sem, ↓reduceIte,Nat.reduceEqDiff,Nat.reduceAdd,Nat.reduceSub,Nat.reduceLeDiff,reduceCtorEq,a4,a0]at b0 b4
  clear eV
  obtain⟨ob,b3,bg,bov,Mw,eV⟩:=bI0
  by_cases hd:(d:Int)<4
  ·have fh:∀{e:Env} {gg:Rows} {nx:Nat},(e 5=.int .i64 (IntKind.i64.wrap ((d:Int)+1)))->(∃o:Id,e 3=.own o 0 (eW l (eG l i) (aV l i).bx (d+1)).length/\gg o=some ⟨true,2,(eW l (eG l i) (aV l i).bx (d+1)).map ab⟩/\o.bm<nx/\σ.next<=o.bm/\∀x:Id,x.bm<σ.next->gg x=σ.get x)->∃m0,m0<(4)-d/\∃d:Nat,m0=(4)-d/\d<=(4)/\e 5=.int .i64 (d:Int)/\(∃o:Id,e 3=.own o 0 (eW l (eG l i) (aV l i).bx d).length/\gg o=some ⟨true,2,(eW l (eG l i) (aV l i).bx d).map ab⟩/\o.bm<nx/\σ.next<=o.bm/\∀x:Id,x.bm<σ.next->gg x=σ.get x):=fun x1 x2=>⟨_,by omega,d+1,rfl,by omega,(by rw[x1,az (by omega)]),x2⟩
   have kh:=ga fI
   have MM:=sS (hF.pt fI)
   have dH:=sO (aV l i).bx d (jE (by omega)) MM.1 MM.2
   have Q2:=vD (aY (aV l i).bx d)
   have kr:=dz bov
   have xV:((eW l (eG l i) (aV l i).bx d).map ab).length=(eW l (eG l i) (aV l i).bx d).length:=by simp
   cases hp:zI (aY (aV l i).bx d)
   ·rw[hp]at Q2
    have o3:eW l (eG l i) (aV l i).bx (d+1)=eW l (eG l i) (aV l i).bx d:=by
     simp only[eW,jl];rw[if_neg fun h=>by rw[hp]at h;cases h.1]
    (repeat(first|((repeat(revert hN;revert N;apply Pn.out));refine wk (tw @b5 (tw @b0 (tw @b4 (tw @b3 (tw @bg (tw @hd (tw @kh (tw @kr (tw @ad.eq_1 @ab.eq_1))))))))) ?_;(repeat(refine Pn.mk ?_;intro N hN)))|((try apply Or.inl);refine⟨_,ar.x (dH) (sd (tw @b5 (tw @b0 (tw @b4 (tw @b3 (tw @bg (tw @hd (tw @kh (tw @kr (tw @ad.eq_1 @ab.eq_1)))))))))),?_⟩;refine hN _ _ ?_;clear hN N)|((try apply Or.inl);refine⟨_,ar.x (Q2) (sd (tw @b5 (tw @b0 (tw @b4 (tw @b3 (tw @bg (tw @hd (tw @kh (tw @kr (tw @ad.eq_1 @ab.eq_1)))))))))),?_⟩;refine hN _ _ ?_;clear hN N)))
    exact fh (sd (tw @b5 (tw @b0 (tw @b4 @ab.eq_1)))) (by exact⟨ob,sd (tw @b3 @o3),sd (tw @bg (tw @kr @o3)),by(try dsimp only);omega,Mw,fun x hx=>by
     have h1:=dz (i:=x) (n:=st_b.next) (by omega)
     have h2:=dz (i:=x) (n:=st_b.next+1) (by omega)
     have h3:=eV x hx
     simp only[go_sem, ↓reduceIte,Nat.reduceEqDiff,Nat.reduceAdd,Nat.reduceSub,Nat.reduceLeDiff,reduceCtorEq,h1,h2,h3]⟩)
   ·rw[hp]at Q2
    have Cz:=qx l (aY (aV l i).bx d) hR (by omega)
    by_cases hx:eK l (aY (aV l i).bx d)<0
    ·have o3:eW l (eG l i) (aV l i).bx (d+1)=pJ (eW l (eG l i) (aV l i).bx d) (aY (aV l i).bx d):=by
      simp only[eW,jl];rw[if_pos ⟨hp,hx⟩]
     have hl1:=qC l (eG l i) (aV l i).bx d
     have hl2:=kO l i
     (repeat(first|((repeat(revert hN;revert N;apply Pn.out));refine wk (tw @b5 (tw @b0 (tw @b4 (tw @b3 (tw @bg (tw @hd (tw @kh (tw @kr (tw @hx (tw @ad.eq_1 @ab.eq_1)))))))))) ?_;(repeat(refine Pn.mk ?_;intro N hN)))|((try apply Or.inl);refine⟨_,ar.x (dH) (sd (tw @b5 (tw @b0 (tw @b4 (tw @b3 (tw @bg (tw @hd (tw @kh (tw @kr (tw @hx (tw @ad.eq_1 @ab.eq_1))))))))))),?_⟩;refine hN _ _ ?_;clear hN N)|((try apply Or.inl);refine⟨_,ar.x (Q2) (sd (tw @b5 (tw @b0 (tw @b4 (tw @b3 (tw @bg (tw @hd (tw @kh (tw @kr (tw @hx (tw @ad.eq_1 @ab.eq_1))))))))))),?_⟩;refine hN _ _ ?_;clear hN N)|((try apply Or.inl);refine⟨_,ar.x (Cz) (sd (tw @b5 (tw @b0 (tw @b4 (tw @b3 (tw @bg (tw @hd (tw @kh (tw @kr (tw @hx (tw @ad.eq_1 @ab.eq_1))))))))))),?_⟩;refine hN _ _ ?_;clear hN N)))
     refine .inr (aL _ _ _ _ _ (fun r σ1 hq=>?_) (xk _ (qD (qE l i) _ d) (by omega) (aY (aV l i).bx d) ob _ (sd (tw @bg @kr)) (by(try dsimp only);omega)))
     obtain⟨g1,x1⟩:=σ1
     obtain⟨o1,rfl,q1,q2,q3,q4,q5⟩:=hq
     (try dsimp only at q1 q2 q3 q4 q5)
     refine hN _ _ ?_
     clear hN N
     (try((repeat(revert hN;revert N;apply Pn.out));refine wk (tw @b5 (tw @b0 @b4)) ?_;(repeat(refine Pn.mk ?_;intro N hN))))
     exact fh (sd (tw @b5 (tw @b0 (tw @b4 @ab.eq_1)))) (by exact⟨o1,sd @o3,sd (tw @q1 @o3),by(try dsimp only);omega,by
      rcases q4 with h|h
      ·omega
      ·have:o1=ob:=by simpa using h
       rw[this];exact Mw,fun x hx=>by
      have h1:=dz (i:=x) (n:=st_b.next) (by omega)
      have h2:=dz (i:=x) (n:=st_b.next+1) (by omega)
      have h3:=eV x hx
      have h4:(x=ob)=False:=eq_false fun h=>by rw[h]at hx;omega
      have h5:=q5 x (by omega) h4
      simp only[go_sem, ↓reduceIte,Nat.reduceEqDiff,Nat.reduceAdd,Nat.reduceSub,Nat.reduceLeDiff,reduceCtorEq,h1,h2,h3,h5]⟩)
    ·have o3:eW l (eG l i) (aV l i).bx (d+1)=eW l (eG l i) (aV l i).bx d:=by
      simp only[eW,jl];rw[if_neg fun h=>hx h.2]
     (repeat(first|((repeat(revert hN;revert N;apply Pn.out));refine wk (tw @b5 (tw @b0 (tw @b4 (tw @b3 (tw @bg (tw @hd (tw @kh (tw @kr (tw @hx (tw @ad.eq_1 @ab.eq_1)))))))))) ?_;(repeat(refine Pn.mk ?_;intro N hN)))|((try apply Or.inl);refine⟨_,ar.x (dH) (sd (tw @b5 (tw @b0 (tw @b4 (tw @b3 (tw @bg (tw @hd (tw @kh (tw @kr (tw @hx (tw @ad.eq_1 @ab.eq_1))))))))))),?_⟩;refine hN _ _ ?_;clear hN N)|((try apply Or.inl);refine⟨_,ar.x (Q2) (sd (tw @b5 (tw @b0 (tw @b4 (tw @b3 (tw @bg (tw @hd (tw @kh (tw @kr (tw @hx (tw @ad.eq_1 @ab.eq_1))))))))))),?_⟩;refine hN _ _ ?_;clear hN N)|((try apply Or.inl);refine⟨_,ar.x (Cz) (sd (tw @b5 (tw @b0 (tw @b4 (tw @b3 (tw @bg (tw @hd (tw @kh (tw @kr (tw @hx (tw @ad.eq_1 @ab.eq_1))))))))))),?_⟩;refine hN _ _ ?_;clear hN N)))
     exact fh (sd (tw @b5 (tw @b0 (tw @b4 @ab.eq_1)))) (by exact⟨ob,sd (tw @b3 @o3),sd (tw @bg (tw @kr @o3)),by(try dsimp only);omega,Mw,fun x hx=>by
      have h1:=dz (i:=x) (n:=st_b.next) (by omega)
      have h2:=dz (i:=x) (n:=st_b.next+1) (by omega)
      have h3:=eV x hx
      simp only[go_sem, ↓reduceIte,Nat.reduceEqDiff,Nat.reduceAdd,Nat.reduceSub,Nat.reduceLeDiff,reduceCtorEq,h1,h2,h3]⟩)
  ·have QH:d=4:=by omega
   rw[QH]at b3 bg
   have hnu:eW l (eG l i) (aV l i).bx 4=eG l (i+1):=rfl
   rw[hnu]at b3 bg
   (try((repeat(revert hN;revert N;apply Pn.out));refine wk (tw @b5 (tw @b0 (tw @b4 (tw @b3 (tw @bg @hd))))) ?_;(repeat(refine Pn.mk ?_;intro N hN))))
   exact cz (sd (tw @b5 (tw @b0 (tw @b4 @ab.eq_1)))) (by exact⟨ob,sd @b3,sd @bg,by(try dsimp only);omega,Mw,fun x hx=>sd (eV x hx)⟩)
 ·have nz:i=l.length:=by omega
  (try((repeat(revert hN;revert N;apply Pn.out));refine wk (tw @a4 (tw @a0 (tw @a3 (tw @ag @hi)))) ?_;(repeat(refine Pn.mk ?_;intro N hN))))
  exact ft (.inl rfl) (vs:=[.own o 0 (eG l i).length]) (sd @a3) ⟨o,by rw[iw,<-nz];rfl,by rw[iw,<-nz];simp only[go_sem, ↓reduceIte,Nat.reduceEqDiff,Nat.reduceAdd,Nat.reduceSub,Nat.reduceLeDiff,reduceCtorEq,ag],by(try dsimp only);omega,by(try dsimp only);omega,.inl RV,fun x hx _=>sd (dv x hx)⟩
end Go.Proofs.YtgoelphibofcmaaGreat.V

namespace Go.Proofs.YtgoelphibofcmaaGreat.V
open Go.RowKit
attribute [local irreducible] eb wpOps gj Call
attribute [local go_sem] aJ fM eP fZ fY cL upd cu K.av cN AV.cells AV.cell rowOf rowsOf part ld rowAt bI bW dD ee gT bL dc ev fU eY dr ej da cZ dO dR bR aX cR bQ cV cU eh ek ei cQ bV db ef bP aP cX cE gS bw cJ bU aW dx bj dE AV.undef bD bF dV ec dI dS cF eu eB cD ep eo cW cY List.getD_cons_zero List.getD_cons_succ List.getD_nil List.all_cons List.all_nil Bool.and_true Bool.true_and Bool.and_self Bool.not_true Bool.not_false Option.map_some Option.map_none Option.bind_some Option.bind_none List.length_cons List.length_nil List.take_succ_cons List.take_zero List.take_nil List.drop_succ_cons List.drop_zero List.drop_nil List.head?_cons List.map_cons List.map_nil List.getElem?_cons_zero List.getElem?_cons_succ List.cons_append List.nil_append List.append_nil List.length_map List.set_cons_zero List.set_cons_succ Nat.reduceMul eq_self Int.toNat_natCast Int.natCast_nonneg and_self true_and and_true decide_true decide_false Bool.false_eq_true Nat.zero_add Nat.add_zero List.contains_cons List.contains_nil Bool.or_false Bool.false_or beq_self_eq_true Nat.reduceBEq ne_eq not_true_eq_false not_false_eq_true Id.mk.injEq false_and and_false Nat.reduceLT Int.reduceLE Int.reduceLT Int.reduceToNat Int.reduceNeg Int.reduceAdd Nat.le_refl List.length_append beq_true beq_false Bool.not_eq_eq_eq_not or_false false_or dM aj aq aH bd bz ck aU bf aT aZ cP bH
end Go.Proofs.YtgoelphibofcmaaGreat.V

namespace Go.Proofs.YtgoelphibofcmaaGreat.V
open Go.RowKit
attribute [local irreducible] eb wpOps gj Call
attribute [local go_sem] aJ fM eP fZ fY cL upd cu K.av cN AV.cells AV.cell rowOf rowsOf part ld rowAt bI bW dD ee gT bL dc ev fU eY dr ej da cZ dO dR bR aX cR bQ cV cU eh ek ei cQ bV db ef bP aP cX cE gS bw cJ bU aW dx bj dE AV.undef bD bF dV ec dI dS cF eu eB cD ep eo cW cY List.getD_cons_zero List.getD_cons_succ List.getD_nil List.all_cons List.all_nil Bool.and_true Bool.true_and Bool.and_self Bool.not_true Bool.not_false Option.map_some Option.map_none Option.bind_some Option.bind_none List.length_cons List.length_nil List.take_succ_cons List.take_zero List.take_nil List.drop_succ_cons List.drop_zero List.drop_nil List.head?_cons List.map_cons List.map_nil List.getElem?_cons_zero List.getElem?_cons_succ List.cons_append List.nil_append List.append_nil List.length_map List.set_cons_zero List.set_cons_succ Nat.reduceMul eq_self Int.toNat_natCast Int.natCast_nonneg and_self true_and and_true decide_true decide_false Bool.false_eq_true Nat.zero_add Nat.add_zero List.contains_cons List.contains_nil Bool.or_false Bool.false_or beq_self_eq_true Nat.reduceBEq ne_eq not_true_eq_false not_false_eq_true Id.mk.injEq false_and and_false Nat.reduceLT Int.reduceLE Int.reduceLT Int.reduceToNat Int.reduceNeg Int.reduceAdd Nat.le_refl List.length_append beq_true beq_false Bool.not_eq_eq_eq_not or_false false_or dM aj aq aH bd bz ck aU bf aT aZ cP bH
end Go.Proofs.YtgoelphibofcmaaGreat.V

namespace Go.Proofs.YtgoelphibofcmaaGreat.V
open Go.RowKit
attribute [local irreducible] eb wpOps gj Call
attribute [local go_sem] aJ fM eP fZ fY cL upd cu K.av cN AV.cells AV.cell rowOf rowsOf part ld rowAt bI bW dD ee gT bL dc ev fU eY dr ej da cZ dO dR bR aX cR bQ cV cU eh ek ei cQ bV db ef bP aP cX cE gS bw cJ bU aW dx bj dE AV.undef bD bF dV ec dI dS cF eu eB cD ep eo cW cY List.getD_cons_zero List.getD_cons_succ List.getD_nil List.all_cons List.all_nil Bool.and_true Bool.true_and Bool.and_self Bool.not_true Bool.not_false Option.map_some Option.map_none Option.bind_some Option.bind_none List.length_cons List.length_nil List.take_succ_cons List.take_zero List.take_nil List.drop_succ_cons List.drop_zero List.drop_nil List.head?_cons List.map_cons List.map_nil List.getElem?_cons_zero List.getElem?_cons_succ List.cons_append List.nil_append List.append_nil List.length_map List.set_cons_zero List.set_cons_succ Nat.reduceMul eq_self Int.toNat_natCast Int.natCast_nonneg and_self true_and and_true decide_true decide_false Bool.false_eq_true Nat.zero_add Nat.add_zero List.contains_cons List.contains_nil Bool.or_false Bool.false_or beq_self_eq_true Nat.reduceBEq ne_eq not_true_eq_false not_false_eq_true Id.mk.injEq false_and and_false Nat.reduceLT Int.reduceLE Int.reduceLT Int.reduceToNat Int.reduceNeg Int.reduceAdd Nat.le_refl List.length_append beq_true beq_false Bool.not_eq_eq_eq_not or_false false_or dM aj aq aH bd bz ck aU bf aT aZ cP bH
structure Pr (g:Rows) (n:Nat) (A S C c T O:Id) (s:aD) (l:List ae):Prop where
 a:∃b,g A=some ⟨b,1,[[.sl (l.map ad)]]⟩
 sy:∃b,g S=some ⟨b,4,[aC s]⟩
 p:∃b,g C=some ⟨b,1,[[.ptr c 0 0]]⟩
 Kd:yI g n c T O s l
 av:A.bm<n
 sv:S.bm<n
 pv:C.bm<n
theorem Pr.ro {g:Rows} {n:Nat} {A S C c T O:Id} {s:aD} {l:List ae} (h:Pr g n A S C c T O s l):Pr (V.ro g) n A S C c T O s l:=by
 obtain⟨b,h1⟩:=h.a
 obtain⟨b2,h2⟩:=h.sy
 obtain⟨b3,h3⟩:=h.p
 exact⟨⟨false,by simp[V.ro,h1]⟩,⟨false,by simp[V.ro,h2]⟩,⟨false,by simp[V.ro,h3]⟩,h.Kd.ro,h.av,h.sv,h.pv⟩
theorem Pr.frame {g g':Rows} {n n':Nat} {A S C c T O:Id} {s:aD} {l:List ae} (h:Pr g n A S C c T O s l) (hn:n<=n') (hf:∀x:Id,x.bm<n->g' x=g x):Pr g' n' A S C c T O s l:=
 ⟨by rw[hf _ h.av];exact h.a,by rw[hf _ h.sv];exact h.sy,by rw[hf _ h.pv];exact h.p,h.Kd.frame hn (hf _ h.Kd.cv) (hf _ h.Kd.tv),Nat.lt_of_lt_of_le h.av hn,Nat.lt_of_lt_of_le h.sv hn,Nat.lt_of_lt_of_le h.pv hn⟩
end Go.Proofs.YtgoelphibofcmaaGreat.V

namespace Go.Proofs.YtgoelphibofcmaaGreat.V
open Go.RowKit
attribute [local irreducible] eb wpOps gj Call
attribute [local go_sem] aJ fM eP fZ fY cL upd cu K.av cN AV.cells AV.cell rowOf rowsOf part ld rowAt bI bW dD ee gT bL dc ev fU eY dr ej da cZ dO dR bR aX cR bQ cV cU eh ek ei cQ bV db ef bP aP cX cE gS bw cJ bU aW dx bj dE AV.undef bD bF dV ec dI dS cF eu eB cD ep eo cW cY List.getD_cons_zero List.getD_cons_succ List.getD_nil List.all_cons List.all_nil Bool.and_true Bool.true_and Bool.and_self Bool.not_true Bool.not_false Option.map_some Option.map_none Option.bind_some Option.bind_none List.length_cons List.length_nil List.take_succ_cons List.take_zero List.take_nil List.drop_succ_cons List.drop_zero List.drop_nil List.head?_cons List.map_cons List.map_nil List.getElem?_cons_zero List.getElem?_cons_succ List.cons_append List.nil_append List.append_nil List.length_map List.set_cons_zero List.set_cons_succ Nat.reduceMul eq_self Int.toNat_natCast Int.natCast_nonneg and_self true_and and_true decide_true decide_false Bool.false_eq_true Nat.zero_add Nat.add_zero List.contains_cons List.contains_nil Bool.or_false Bool.false_or beq_self_eq_true Nat.reduceBEq ne_eq not_true_eq_false not_false_eq_true Id.mk.injEq false_and and_false Nat.reduceLT Int.reduceLE Int.reduceLT Int.reduceToNat Int.reduceNeg Int.reduceAdd Nat.le_refl List.length_append beq_true beq_false Bool.not_eq_eq_eq_not or_false false_or dM aj aq aH bd bz ck aU bf aT aZ cP bH
def HS (B:ai->Int->Bool) (p:ai):Nat->List ae
 |0=>[]
 |t+1=>if B p (t:Nat)=true then HS B p t++[⟨p,(t:Nat)⟩]else HS B p t
def qV (B:ai->Int->Bool) (m:Nat) (ps:List ai):List ae:=ps.flatMap fun p=>HS B p m
theorem EH (B:ai->Int->Bool) (p:ai):∀t,(HS B p t).length<=t
 |0=>by simp[HS]
 |t+1=>by
  have:=EH B p t
  rw[HS]
  split
  ·rw[List.length_append,List.length_singleton];omega
  ·omega
theorem ue (B:ai->Int->Bool) (m:Nat):∀ps:List ai,(qV B m ps).length<=ps.length*m
 |[]=>by simp[qV]
 |p::ps=>by
  have h:=ue B m ps
  have h2:=EH B p m
  unfold qV at *
  rw[List.flatMap_cons,List.length_append,List.length_cons,Nat.add_mul,Nat.one_mul]
  omega
theorem AA {B:ai->Int->Bool} {m:Nat} {ps:List ai} {k:Nat} (hk:k<ps.length):qV B m (ps.take (k+1))=qV B m (ps.take k)++HS B (jv ps k) m:=by
 unfold qV
 rw[List.take_succ_eq_append_getElem hk,List.flatMap_append,jI hk]
 simp
end Go.Proofs.YtgoelphibofcmaaGreat.V

namespace Go.Proofs.YtgoelphibofcmaaGreat.V
open Go.RowKit
attribute [local irreducible] eb wpOps gj Call
attribute [local go_sem] aJ fM eP fZ fY cL upd cu K.av cN AV.cells AV.cell rowOf rowsOf part ld rowAt bI bW dD ee gT bL dc ev fU eY dr ej da cZ dO dR bR aX cR bQ cV cU eh ek ei cQ bV db ef bP aP cX cE gS bw cJ bU aW dx bj dE AV.undef bD bF dV ec dI dS cF eu eB cD ep eo cW cY List.getD_cons_zero List.getD_cons_succ List.getD_nil List.all_cons List.all_nil Bool.and_true Bool.true_and Bool.and_self Bool.not_true Bool.not_false Option.map_some Option.map_none Option.bind_some Option.bind_none List.length_cons List.length_nil List.take_succ_cons List.take_zero List.take_nil List.drop_succ_cons List.drop_zero List.drop_nil List.head?_cons List.map_cons List.map_nil List.getElem?_cons_zero List.getElem?_cons_succ List.cons_append List.nil_append List.append_nil List.length_map List.set_cons_zero List.set_cons_succ Nat.reduceMul eq_self Int.toNat_natCast Int.natCast_nonneg and_self true_and and_true decide_true decide_false Bool.false_eq_true Nat.zero_add Nat.add_zero List.contains_cons List.contains_nil Bool.or_false Bool.false_or beq_self_eq_true Nat.reduceBEq ne_eq not_true_eq_false not_false_eq_true Id.mk.injEq false_and and_false Nat.reduceLT Int.reduceLE Int.reduceLT Int.reduceToNat Int.reduceNeg Int.reduceAdd Nat.le_refl List.length_append beq_true beq_false Bool.not_eq_eq_eq_not or_false false_or dM aj aq aH bd bz ck aU bf aT aZ cP bH
end Go.Proofs.YtgoelphibofcmaaGreat.V

namespace Go.Proofs.YtgoelphibofcmaaGreat.V
open Go.RowKit
def zJ:List ae->ae->List ae
 |[],q=>[q]
 |x::r,q=>if km q.bx x.bx=true then q::x::r else x::zJ r q
theorem vM {q x:ae}:∀{l:List ae},x∈zJ l q↔x=q∨x∈l
 |[]=>by simp[zJ]
 |y::r=>by
  have ih:=@vM q x r
  rw[zJ]
  split
  ·simp
  ·simp only[List.mem_cons,ih]
   constructor
   ·rintro(h|h|h)<;>simp[h]
   ·rintro(h|h|h)<;>simp[h]
theorem B9 (q:ae):∀l:List ae,(zJ l q).length=l.length+1
 |[]=>rfl
 |y::r=>by
  have ih:=B9 q r
  rw[zJ]
  split
  ·simp
  ·simp[ih]
theorem wo {l:List ae}:sn l↔l.Pairwise fun a b=>km a.bx b.bx=true:=by
 rw[List.pairwise_iff_getElem]
 constructor
 ·intro h i j hi hj Dt
  have:=h i j Dt hj
  rwa [gR hi,gR hj]at this
 ·intro h i j Dt hj
  have:=h i j (by omega) hj Dt
  rwa [gR (by omega),gR hj]
theorem Lt {l:List ae} {p:ai}:eK l p<0↔∀t∈l,t.bx≠p:=Bv
theorem Ju {q:ae}:∀{l:List ae},sn l->eK l q.bx<0->sn (zJ l q):=by
 intro l
 rw[wo,wo,Lt]
 induction l with
 |nil=>intro _ _;exact List.pairwise_singleton _ _
 |cons y r ih=>
  intro h hn
  obtain⟨h1,h2⟩:=List.pairwise_cons.1 h
  rw[zJ]
  split
  ·rename_i hl
   refine List.pairwise_cons.2 ⟨fun x hx=>?_,h⟩
   rcases List.mem_cons.1 hx with rfl|hx
   ·exact hl
   ·exact ij hl (h1 x hx)
  ·rename_i hl
   rw[Bool.not_eq_true]at hl
   refine List.pairwise_cons.2 ⟨fun x hx=>?_,ih h2 fun t ht=>hn t (by simp[ht])⟩
   rcases vM.1 hx with rfl|hx
   ·exact zx hl fun e=>hn y (by simp) e.symm
   ·exact h1 x hx
theorem l7 {α:Type} [DecidableEq α]:∀{xs ys:List α},xs.Nodup->(∀x∈xs,x∈ys)->xs.length<=ys.length
 |[],_,_,_=>Nat.zero_le _
 |x::xs,ys,hn,h=>by
  obtain⟨h1,h2⟩:=List.nodup_cons.1 hn
  have hx:=h x (by simp)
  have:=@l7 α _ xs (ys.erase x) h2 fun y hy=>(List.mem_erase_of_ne fun e=>h1 (by rw[<-e];exact hy)).2 (h y (by simp[hy]))
  rw[List.length_erase_of_mem hx]at this
  have:=List.length_pos_of_mem hx
  rw[List.length_cons];omega
theorem GZ {l:List ae} (h:sn l):l.Nodup:=by
 rw[wo]at h
 refine List.Pairwise.imp (fun {a b} nG e=>?_) h
 rw[e,mO]at nG;cases nG
abbrev HE:=List ae×List ae
noncomputable def Fb (s:aD) (st:HE) (x:ae):HE:=if ew s st.2 x.bx x.bB=true then(st.1++[x],zJ st.2 x)else st
structure HF (s:aD) (l:List ae) (st:HE):Prop where
 M1:sn st.2
 sub:∀x∈st.2,x∈l
 done:∀x∈st.1,x∈l
 len:st.2.length=s.cq.ah.length+st.1.length
theorem HF.Cu {s:aD} {l:List ae} {st:HE} (h:HF s l st):st.2.length<=l.length:=by
 classical
 exact l7 (GZ h.M1) h.sub
theorem Im {s:aD} {l:List ae} (hA:kz s.aB l) {now:List ae} (hs:∀x∈now,x∈l) {p:ai} {t:Int} (h:ew s now p t=true):eK now p<0:=by
 rcases Int.lt_or_le (eK now p) 0 with h0|h0
 ·exact h0
 ·exfalso
  obtain⟨h1,_⟩:=kj h0
  have h2:=(ea (hA.2 _ (hs _ (kP h1)))).1
  simp[ew,gK,h0]at h
  omega
theorem HF.step {s:aD} {l:List ae} {st:HE} (h:HF s l st) (hA:kz s.aB l) {x:ae} (hx:x∈l):HF s l (Fb s st x):=by
 unfold Fb
 split
 ·rename_i hf
  have h0:=Im hA h.sub hf
  exact⟨Ju h.M1 h0,fun y hy=>by rcases vM.1 hy with rfl|hy;exact hx;exact h.sub y hy,fun y hy=>by
   rcases List.mem_append.1 hy with hy|hy
   ·exact h.done y hy
   ·rw[List.mem_singleton.1 hy];exact hx,by rw[B9,List.length_append,List.length_singleton,h.len];omega⟩
 ·exact h
end Go.Proofs.YtgoelphibofcmaaGreat.V

namespace Go.Proofs.YtgoelphibofcmaaGreat.V
open Go.RowKit
def kq (B:ai->Int->Bool) (p:ai):Nat->List Int
 |0=>[]
 |t+1=>if B p (t:Nat)=true then kq B p t++[(t:Int)]else kq B p t
theorem rn (B:ai->Int->Bool) (p:ai):∀t,(kq B p t).length<=t
 |0=>by simp[kq]
 |t+1=>by
  have:=rn B p t
  rw[kq]
  split
  ·rw[List.length_append,List.length_singleton];omega
  ·omega
theorem yQ (B:ai->Int->Bool) (p:ai):∀t,HS B p t=(kq B p t).map fun k=>(⟨p,k⟩:ae)
 |0=>rfl
 |t+1=>by
  rw[HS,kq,yQ B p t]
  split<;>simp
theorem EX {B:ai->Int->Bool} {p:ai} (h:∀t:Nat,B p t=false):∀t,kq B p t=[]
 |0=>rfl
 |t+1=>by rw[kq,if_neg (by rw[h t];simp),EX h t]
theorem A4 {B:ai->Int->Bool} {p:ai}:∀{t:Nat},kq B p t≠[]->∃k:Nat,k<t/\B p k=true
 |0,h=>absurd rfl h
 |t+1,h=>by
  rw[kq]at h
  split at h
  ·rename_i hb;exact⟨t,Nat.lt_succ_self t,hb⟩
  ·obtain⟨k,hk,hb⟩:=A4 h
   exact⟨k,Nat.lt_succ_of_lt hk,hb⟩
theorem xP {B C:ai->Int->Bool} {p:ai} (h:∀t:Nat,B p t=C p t):∀t,kq B p t=kq C p t
 |0=>rfl
 |t+1=>by rw[kq,kq,h t,xP h t]
abbrev En:=ai×AV
def pz (e:En):List AV:=[.int .i64 e.1.eM,.int .i64 e.1.eI,e.2]
def mV:List En->ai->AV->List En
 |[],q,v=>[(q,v)]
 |e::es,q,v=>if e.1=q then(q,v)::es else e::mV es q v
def rj:List En->ai->List En
 |[],_=>[]
 |e::es,q=>if e.1=q then es else e::rj es q
theorem vN {q:ai} {v:AV} {x:En}:∀{es:List En},x.1≠q->(x∈mV es q v↔x∈es)
 |[],h=>by
  rw[mV,List.mem_singleton]
  exact⟨fun e=>absurd (by rw[e]) h,fun e=>by cases e⟩
 |e::es,h=>by
  have ih:=@vN q v x es h
  rw[mV]
  split
  ·rename_i he
   rw[List.mem_cons,List.mem_cons]
   exact⟨fun h1=>h1.elim (fun e=>absurd (by rw[e]) h) .inr,fun h1=>h1.elim (fun e'=>absurd (by rw[e'];exact he) h) .inr⟩
  ·rw[List.mem_cons,List.mem_cons,ih]
theorem yq (q:ai) (v:AV):∀es:List En,(q,v)∈mV es q v
 |[]=>by simp[mV]
 |e::es=>by
  have ih:=yq q v es
  rw[mV]
  split
  ·simp
  ·exact List.mem_cons_of_mem _ ih
theorem BB {q:ai} {v:AV} {p:ai}:∀{es:List En},p∈(mV es q v).map (·.1)->p=q∨p∈es.map (·.1)
 |[],h=>by simp[mV]at h;exact .inl h
 |e::es,h=>by
  rw[mV]at h
  split at h
  ·simp only[List.map_cons,List.mem_cons]at h ⊢
   exact h.imp_right .inr
  ·simp only[List.map_cons,List.mem_cons]at h ⊢
   rcases h with h|h
   ·exact .inr (.inl h)
   ·exact(BB h).imp_right .inr
theorem vZ (q:ai) (v:AV):∀{es:List En},(es.map (·.1)).Nodup->((mV es q v).map (·.1)).Nodup
 |[],_=>by simp[mV]
 |e::es,h=>by
  obtain⟨h1,h2⟩:=List.nodup_cons.1 (show(e.1::es.map (·.1)).Nodup from h)
  rw[mV]
  split
  ·rename_i he
   refine List.nodup_cons.2 ⟨?_,h2⟩
   show q∉_
   rw[<-he];exact h1
  ·rename_i he
   refine List.nodup_cons.2 ⟨fun hc=>?_,vZ q v h2⟩
   rcases BB hc with h3|h3
   ·exact he h3
   ·exact h1 h3
theorem BM {q:ai} {x:En}:∀{es:List En},x.1≠q->(x∈rj es q↔x∈es)
 |[],_=>Iff.rfl
 |e::es,h=>by
  have ih:=@BM q x es h
  rw[rj]
  split
  ·rename_i he
   rw[List.mem_cons]
   exact⟨.inr,fun h1=>h1.elim (fun e'=>absurd (by rw[e'];exact he) h) id⟩
  ·rw[List.mem_cons,List.mem_cons,ih]
theorem uU {q:ai}:∀{es:List En},(rj es q).Sublist es
 |[]=>List.Sublist.slnil
 |e::es=>by
  rw[rj]
  split
  ·exact List.sublist_cons_self _ _
  ·exact(uU (es:=es)).cons_cons _
theorem CZ (q:ai) {es:List En} (h:(es.map (·.1)).Nodup):((rj es q).map (·.1)).Nodup:=((uU (q:=q) (es:=es)).map _).nodup h
theorem EM {q:ai}:∀{es:List En},(es.map (·.1)).Nodup->∀e∈rj es q,e.1≠q
 |[],_,e,h=>by cases h
 |x::es,hn,e,h=>by
  obtain⟨h1,h2⟩:=List.nodup_cons.1 (show(x.1::es.map (·.1)).Nodup from hn)
  rw[rj]at h
  split at h
  ·rename_i hx
   intro he
   exact h1 (by rw[hx,<-he];exact List.mem_map_of_mem h)
  ·rename_i hx
   rcases List.mem_cons.1 h with rfl|h
   ·exact hx
   ·exact EM h2 e h
theorem Ly {es:List En} (hn:(es.map (·.1)).Nodup) {q:ai} {u v:AV} (h1:(q,u)∈es) (h2:(q,v)∈es):u=v:=by
 induction es with
 |nil=>cases h1
 |cons e es ih=>
  obtain⟨n1,n2⟩:=List.nodup_cons.1 (show(e.1::es.map (·.1)).Nodup from hn)
  rcases List.mem_cons.1 h1 with a|a<;>rcases List.mem_cons.1 h2 with b|b
  ·rw[<-a]at b;injection b with _ b;exact b.symm
  ·exact absurd (by rw[<-a];exact List.mem_map_of_mem (f:=(·.1)) b) n1
  ·exact absurd (by rw[<-b];exact List.mem_map_of_mem (f:=(·.1)) a) n1
  ·exact ih n2 a b
structure uF (g:Rows) (n:Nat) (es:List En) (fs:ai->List Int) (A:ai->Prop):Prop where
 nodup:(es.map (·.1)).Nodup
 at_:∀q,A q->(fs q=[]/\∀e∈es,e.1≠q)∨(fs q≠[]/\∃o:Id,(q,AV.own o 0 (fs q).length)∈es/\o.bm<n/\g o=some ⟨true,1,(fs q).map aG⟩)
theorem uF.mono {g:Rows} {n:Nat} {es:List En} {fs:ai->List Int} {A A':ai->Prop} (h:uF g n es fs A) (hA:∀q,A' q->A q):uF g n es fs A':=⟨h.nodup,fun q hq=>h.at_ q (hA q hq)⟩
theorem uF.frame {g g':Rows} {n n':Nat} {es:List En} {fs:ai->List Int} {A:ai->Prop} (h:uF g n es fs A) (hn:n<=n') (hf:∀x:Id,x.bm<n->(∃k r,g x=some ⟨k,1,r⟩)->g' x=g x):uF g' n' es fs A:=⟨h.nodup,fun q hq=>by
 rcases h.at_ q hq with h1|⟨h1,o,h2,h3,h4⟩
 ·exact .inl h1
 ·exact .inr ⟨h1,o,h2,by omega,(hf o h3 ⟨_,_,h4⟩).trans h4⟩⟩
theorem uF.other {g:Rows} {n:Nat} {es:List En} {fs Ql:ai->List Int} {A A':ai->Prop} (h:uF g n es fs A) (hA:∀q,A' q->A q/\Ql q=fs q):uF g n es Ql A':=⟨h.nodup,fun q hq=>by
 obtain⟨h1,h2⟩:=hA q hq
 rw[h2];exact h.at_ q h1⟩
theorem uF.put {g:Rows} {n:Nat} {es:List En} {fs:ai->List Int} {A:ai->Prop} (h:uF g n es fs A) {q:ai} {o:Id} (h0:fs q≠[]) (ho:o.bm<n) (hg:g o=some ⟨true,1,(fs q).map aG⟩):uF g n (mV es q (.own o 0 (fs q).length)) fs (fun p=>A p∨p=q):=⟨vZ _ _ h.nodup,fun p hp=>by
 by_cases e:p=q
 ·subst e
  exact .inr ⟨h0,o,yq _ _ _,ho,hg⟩
 ·rcases hp with hp|hp
  ·rcases h.at_ p hp with⟨h1,h2⟩|⟨h1,o',h2,h3⟩
   ·refine .inl ⟨h1,fun x hx hxp=>?_⟩
    have hxq:x.1≠q:=fun e'=>e (hxp.symm.trans e')
    exact h2 x ((vN hxq).1 hx) hxp
   ·exact .inr ⟨h1,o',(vN e).2 h2,h3⟩
  ·exact absurd hp e⟩
theorem uF.cut {g:Rows} {n:Nat} {es:List En} {fs:ai->List Int} {A:ai->Prop} (h:uF g n es fs A) {q:ai} (h0:fs q=[]):uF g n (rj es q) fs (fun p=>A p∨p=q):=⟨CZ _ h.nodup,fun p hp=>by
 by_cases e:p=q
 ·subst e
  exact .inl ⟨h0,EM h.nodup⟩
 ·rcases hp with hp|hp
  ·rcases h.at_ p hp with⟨h1,h2⟩|⟨h1,o',h2,h3⟩
   ·exact .inl ⟨h1,fun x hx=>h2 x (uU.subset hx)⟩
   ·exact .inr ⟨h1,o',(BM e).2 h2,h3⟩
  ·exact absurd hp e⟩
theorem BP (p:ai):∀(es:List En) (i:Nat),∃fi,fQ ⟨true,[.tI,.tI]⟩ (ab p) (es.map pz) i=some fi/\
  (∀v,(match fi with|some j=>(es.map pz).set (j-i) [.int .i64 p.eM,.int .i64 p.eI,v]|none=>es.map pz++[[.int .i64 p.eM,.int .i64 p.eI,v]])=(mV es p v).map pz)/\
  ((match fi with|some j=>(es.map pz).eraseIdx (j-i)|none=>es.map pz)=(rj es p).map pz)/\
  (∀j,fi=some j->i<=j/\j-i<es.length/\∃v,es[j-i]? =some (p,v))/\(fi=none->∀e∈es,e.1≠p)
 |[],i=>⟨none,by simp[fQ],fun v=>rfl,rfl,fun _ h=>(by cases h),fun _ _ he=>(by cases he)⟩
 |e::es,i=>by
  have hq:eY [TS.tI,TS.tI] (ab p) ((pz e).take 2)=some (decide (p=e.1)):=by
   have h:(p=e.1)↔(p.eM=e.1.eM/\p.eI=e.1.eI):=⟨fun h=>by rw[h];exact⟨rfl,rfl⟩,fun h=>vW h.1 h.2⟩
   simp[ab,pz,eY,fU,h]
  by_cases h:p=e.1
  ·refine⟨some i,?_,fun v=>?_,?_,fun j hj=>?_,fun hc=>by cases hc⟩
   ·rw[List.map_cons]
    unfold fQ
    rw[show(⟨true,[.tI,.tI]⟩:MK).ts=[.tI,.tI]from rfl,show(⟨true,[.tI,.tI]⟩:MK).ks=2 from rfl,hq,decide_eq_true h]
   ·simp[mV,h,pz]
   ·simp[rj,h]
   ·cases hj
    exact⟨Nat.le_refl _,by simp,e.2,by simp[h]⟩
  ·obtain⟨fi,h1,h2,h3,h4,h5⟩:=BP p es (i+1)
   have he:¬e.1=p:=fun hc=>h hc.symm
   refine⟨fi,?_,fun v=>?_,?_,fun j hj=>?_,fun hc x hx=>?_⟩
   ·rw[List.map_cons]
    unfold fQ
    rw[show(⟨true,[.tI,.tI]⟩:MK).ts=[.tI,.tI]from rfl,show(⟨true,[.tI,.tI]⟩:MK).ks=2 from rfl,hq,decide_eq_false h]
    exact h1
   ·have R3:=h2 v
    rw[mV,if_neg he]
    cases fi with
    |none=>
     simp only[List.map_cons,List.cons_append]at R3 ⊢
     rw[R3]
    |some j=>
     obtain⟨h6,_⟩:=h4 j rfl
     obtain⟨k,hk⟩:∃k,j=i+1+k:=⟨j-(i+1),by omega⟩
     subst hk
     simp only[show i+1+k-i=k+1 by omega,show i+1+k-(i+1)=k by omega,List.map_cons,List.set_cons_succ]at R3 ⊢
     rw[R3]
   ·rw[rj,if_neg he]
    cases fi with
    |none=>
     simp only[List.map_cons]at h3 ⊢
     rw[h3]
    |some j=>
     obtain⟨h6,_⟩:=h4 j rfl
     obtain⟨k,hk⟩:∃k,j=i+1+k:=⟨j-(i+1),by omega⟩
     subst hk
     simp only[show i+1+k-i=k+1 by omega,show i+1+k-(i+1)=k by omega,List.map_cons,List.eraseIdx_cons_succ]at h3 ⊢
     rw[h3]
   ·obtain⟨h6,h7,v,h8⟩:=h4 j hj
    refine⟨by omega,by simp only[List.length_cons];omega,v,?_⟩
    rw[show j-i=(j-(i+1))+1 by omega,List.getElem?_cons_succ];exact h8
   ·rcases List.mem_cons.1 hx with rfl|hx
    ·exact he
    ·exact h5 hc x hx
theorem yi (p:ai) (es:List En):∃fi,fJ ⟨true,[.tI,.tI]⟩ (.agg [.int .i64 p.eM,.int .i64 p.eI]) (es.map pz)=some fi/\(∀v,dI (es.map pz) [.int .i64 p.eM,.int .i64 p.eI,v] fi=(mV es p v).map pz)/\dS (es.map pz) fi=(rj es p).map pz/\
  (∀j,fi=some j->∃v,es[j]? =some (p,v))/\(fi=none->∀e∈es,e.1≠p):=by
 obtain⟨fi,h1,h2,h3,h4,h5⟩:=BP p es 0
 refine⟨fi,?_,fun v=>?_,?_,fun j hj=>?_,h5⟩
 ·unfold fJ
  rw[if_pos ⟨rfl,rfl,rfl⟩]
  exact h1
 ·rw[<-h2 v];cases fi<;>rfl
 ·rw[<-h3];cases fi<;>rfl
 ·obtain⟨_,_,v,h6⟩:=h4 j hj
  exact⟨v,by simpa using h6⟩
theorem yy (p:ai) (k:Nat) (hk:k<4):aY (aY p k) (kn k)=p:=by
 have:k=0∨k=1∨k=2∨k=3:=by omega
 rcases this with rfl|rfl|rfl|rfl<;>(cases p;simp[aY,kn,iJ];try omega)
theorem bind_some {s:aw} {F:ai->Int} {p:ai} {t:Int}:∀d:Nat,0<dp s F p t d->∃k:Nat,k<d/\0<=F (aY p k)
 |0,h=>by simp[dp]at h
 |d+1,h=>by
  by_cases h0:0<=F (aY p d)
  ·exact⟨d,Nat.lt_succ_self d,h0⟩
  ·rw[dp,if_neg h0,Int.add_zero]at h
   obtain⟨k,hk,h1⟩:=bind_some d h
   exact⟨k,Nat.lt_succ_of_lt hk,h1⟩
theorem Io {s:aD} (hT:1<=s.ay) {l:List ae} (hA:kz s.aB l) {p:ai} {t:Int} (h:ew s l p t=true):Ao l p:=by
 simp[ew]at h
 obtain⟨⟨h1,h2⟩,h3⟩:=h
 obtain⟨k,hk,h4⟩:=bind_some (s:=s.aB) (F:=gK l) (p:=p) (t:=t) 4 (by have:pO s.aB (gK l) p t=dp s.aB (gK l) p t 4:=rfl;omega)
 have h5:0<=eK l (aY p k):=by
  unfold gK at h4
  split at h4
  ·assumption
  ·omega
 obtain⟨h6,h7⟩:=kj h5
 refine⟨h1,(HP hA p).1 h2,(eK l (aY p k)).toNat,(kn k).toNat,h6,?_,?_⟩
 ·have:k=0∨k=1∨k=2∨k=3:=by omega
  rcases this with rfl|rfl|rfl|rfl<;>decide
 ·rw[h7]
  have:((kn k).toNat:Int)=kn k:=by
   have:k=0∨k=1∨k=2∨k=3:=by omega
   rcases this with rfl|rfl|rfl|rfl<;>decide
  rw[this,yy p k hk]
noncomputable def lE (s:aD) (l:List ae):List ai:=(iw l).filter fun p=>decide (kq (ew s l) p s.aB.ah.length≠[])
theorem vJ {s:aD} (hT:1<=s.ay) {l:List ae} (hA:kz s.aB l) (p:ai):p∈lE s l↔kq (ew s l) p s.aB.ah.length≠[]:=by
 unfold lE
 rw[List.mem_filter,yh,decide_eq_true_eq]
 refine⟨fun h=>h.2,fun h=>⟨?_,h⟩⟩
 obtain⟨k,_,hk⟩:=A4 h
 exact Io hT hA hk
theorem C8 (s:aD) (l:List ae):mo (lE s l):=List.Pairwise.sublist List.filter_sublist (qE l _)
theorem CU (s:aD) (l:List ae):qV (ew s l) s.aB.ah.length (iw l)=qV (ew s l) s.aB.ah.length (lE s l):=by
 unfold lE
 generalize iw l=ps
 induction ps with
 |nil=>rfl
 |cons p ps ih=>
  unfold qV at *
  rw[List.flatMap_cons,List.filter_cons,ih]
  split
  ·rw[List.flatMap_cons]
  ·rename_i h
   simp only[decide_eq_true_eq,ne_eq,Classical.not_not]at h
   rw[yQ,h];rfl
end Go.Proofs.YtgoelphibofcmaaGreat.V

namespace Go.Proofs.YtgoelphibofcmaaGreat.V
open Go.RowKit
attribute [local irreducible] eb wpOps gj Call
attribute [local go_sem] aJ fM eP fZ fY cL upd cu K.av cN AV.cells AV.cell rowOf rowsOf part ld rowAt bI bW dD ee gT bL dc ev fU eY dr ej da cZ dO dR bR aX cR bQ cV cU eh ek ei cQ bV db ef bP aP cX cE gS bw cJ bU aW dx bj dE AV.undef bD bF dV ec dI dS cF eu eB cD ep eo cW cY List.getD_cons_zero List.getD_cons_succ List.getD_nil List.all_cons List.all_nil Bool.and_true Bool.true_and Bool.and_self Bool.not_true Bool.not_false Option.map_some Option.map_none Option.bind_some Option.bind_none List.length_cons List.length_nil List.take_succ_cons List.take_zero List.take_nil List.drop_succ_cons List.drop_zero List.drop_nil List.head?_cons List.map_cons List.map_nil List.getElem?_cons_zero List.getElem?_cons_succ List.cons_append List.nil_append List.append_nil List.length_map List.set_cons_zero List.set_cons_succ Nat.reduceMul eq_self Int.toNat_natCast Int.natCast_nonneg and_self true_and and_true decide_true decide_false Bool.false_eq_true Nat.zero_add Nat.add_zero List.contains_cons List.contains_nil Bool.or_false Bool.false_or beq_self_eq_true Nat.reduceBEq ne_eq not_true_eq_false not_false_eq_true Id.mk.injEq false_and and_false Nat.reduceLT Int.reduceLE Int.reduceLT Int.reduceToNat Int.reduceNeg Int.reduceAdd Nat.le_refl List.length_append beq_true beq_false Bool.not_eq_eq_eq_not or_false false_or dM aj aq aH bd bz ck aU bf aT aZ cP bH
theorem Qm (g:Rows) (n:Nat) (x:ae):dZ g (n+1) (ad x)=some (ad x):=by simp[ad,bE,cw,eH]
def SV (n:Nat) (L:List ae) (r:AV) (σ':au):Prop:=∃o:Id,r=.agg [.own o 0 L.length]/\σ'.get o=some ⟨true,3,L.map ad⟩/\n<=o.bm/\o.bm<σ'.next
theorem SV.val {f:Nat} {args eC:List AV} {L:List ae} {σ:au} (h:∀n,Call Tryz.prog f eC ⟨fun _=>none,n⟩ (SV n L)) (hv:cK (dM σ.get) 6 args=some eC):Call Tryz.prog f args σ (fun r σ'=>SV σ.next L r σ'/\Kept σ σ'):=by
 refine An mixed hv (aL _ _ _ _ _ (fun r σ' hq=>?_) (xq mixed (h σ.next)))
 obtain⟨⟨o,rfl,h2,h3,h4⟩,hn⟩:=hq
 refine⟨[o],rfl,fun i hi=>?_,⟨o,rfl,(r5 (by simp)).trans h2,h3,h4⟩,hn,fun j hj=>ph fun hc=>?_⟩
 ·rw[List.mem_singleton.1 hi]
  exact⟨_,h2,rfl,fun cs dt a ha=>by
   obtain⟨x,_,rfl⟩:=List.mem_map.1 dt
   simp[ad]at ha
   rcases ha with rfl|rfl|rfl<;>rfl⟩
 ·rw[List.mem_singleton.1 hc]at hj;omega
end Go.Proofs.YtgoelphibofcmaaGreat.V
