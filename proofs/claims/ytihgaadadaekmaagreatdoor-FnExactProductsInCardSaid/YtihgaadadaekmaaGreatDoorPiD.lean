/- Groups that bonds connect: plain facts. -/
import Derived.Test.YtihgaadadaekmaaGreatDoorPiC
import Derived.Test.YtihgaadadaekmaaGreatDoorPiB
set_option linter.unusedVariables false
set_option linter.unusedSimpArgs false
set_option maxRecDepth 100000
set_option maxHeartbeats 16000000
namespace Go.Proofs.YtihgaadadaekmaaGreatDoor.V
def eE (L:Nat->Nat) (b:PB):Nat->Nat:=fun k=>if L k=max (L b.a) (L b.b)then min (L b.a) (L b.b)else L k
def dS (bs:List PB):Nat->Nat:=bs.foldl eE id
theorem uk (bs:List PB) (b:PB):dS (bs++[b])=eE (dS bs) b:=by simp[dS]
structure jm (L:Nat->Nat):Prop where
 le:∀k,L k<=k
 idem:∀k,L (L k)=L k
theorem jm.step {L:Nat->Nat} (h:jm L) (b:PB):jm (eE L b):=by
 have ha:=h.idem b.a
 have hb:=h.idem b.b
 refine⟨fun k=>?_,fun k=>?_⟩
 ·have:=h.le k
  unfold eE
  split<;>omega
 ·have hk:=h.idem k
  have hm:L (min (L b.a) (L b.b))=min (L b.a) (L b.b):=by
   rcases Nat.le_total (L b.a) (L b.b)with h1|h1
   ·rw[Nat.min_eq_left h1,ha]
   ·rw[Nat.min_eq_right h1,hb]
  unfold eE
  by_cases h1:L k=max (L b.a) (L b.b)
  ·rw[if_pos h1,hm];split<;>rfl
  ·rw[if_neg h1,hk,if_neg h1]
theorem um:∀(bs:List PB) (L:Nat->Nat),jm L->jm (bs.foldl eE L)
 |[],_,h=>h
 |b::bs,L,h=>um bs _ (h.step b)
theorem so (bs:List PB):jm (dS bs):=um bs id ⟨fun _=>Nat.le_refl _,fun _=>rfl⟩
def leads (n:Nat) (L:Nat->Nat):List Nat:=(List.range n).filter fun i=>L i==i
def members (n:Nat) (L:Nat->Nat) (i:Nat):List Nat:=(List.range n).filter fun k=>L k==i
def fb (n:Nat) (L:Nat->Nat):List (List Nat):=(leads n L).map (members n L)
def bx (L:Nat->Nat) (k:Nat):Nat:=(leads (L k) L).length
theorem gu (n:Nat) (L:Nat->Nat):leads (n+1) L=leads n L++if L n=n then[n]else[]:=by
 unfold leads
 rw[List.range_succ,List.filter_append]
 congr 1
 by_cases h:L n=n<;>simp[h]
theorem ja (n:Nat) (L:Nat->Nat) (i:Nat):members (n+1) L i=members n L i++if L n=i then[n]else[]:=by
 unfold members
 rw[List.range_succ,List.filter_append]
 congr 1
 by_cases h:L n=i<;>simp[h]
theorem mh {L:Nat->Nat} (h:jm L) {n i:Nat} (hn:n<=i):members n L i=[]:=by
 unfold members
 rw[List.filter_eq_nil_iff]
 intro k hk
 have:=h.le k
 have:=List.mem_range.1 hk
 simp;omega
theorem sq (n:Nat) (L:Nat->Nat):(leads n L).Nodup:=List.nodup_range.filter _
theorem wO {n:Nat} {L:Nat->Nat} {i:Nat}:i∈leads n L↔i<n/\L i=i:=by simp[leads]
theorem k8 {n:Nat} {L:Nat->Nat} {i k:Nat}:k∈members n L i↔k<n/\L k=i:=by simp[members]
theorem Fm {L:Nat->Nat} {m n:Nat} (h:m<=n):∃r,leads n L=leads m L++r:=by
 obtain⟨d,rfl⟩:=Nat.le.dest h
 clear h
 induction d with
 |zero=>exact⟨[],by simp⟩
 |succ d ih=>
  obtain⟨r,hr⟩:=ih
  exact⟨r++if L (m+d)=m+d then[m+d]else[],by rw[<-Nat.add_assoc,gu,hr,List.append_assoc]⟩
theorem ov {L:Nat->Nat} (h:jm L) {n k:Nat} (hk:k<n):(leads n L)[bx L k]? =some (L k):=by
 have h1:=h.le k
 obtain⟨r,hr⟩:=Fm (L:=L) (show L k+1<=n by omega)
 rw[hr,gu,if_pos (h.idem k),List.append_assoc]
 unfold bx
 rw[List.getElem?_append_right (Nat.le_refl _),Nat.sub_self];rfl
theorem jL {L:Nat->Nat} (h:jm L) {n k:Nat} (hk:k<n):bx L k<(leads n L).length:=(List.getElem?_eq_some_iff.1 (ov h hk)).1
theorem rN {L:Nat->Nat} (h:jm L) {n k i:Nat} (hk:k<n) (hi:i<(leads n L).length):k∈members n L (leads n L)[i]↔bx L k=i:=by
 rw[k8]
 have h1:=ov h hk
 rw[List.getElem?_eq_getElem (jL h hk)]at h1
 injection h1 with h1
 constructor
 ·rintro⟨_,h2⟩
  rw[<-h1]at h2
  exact(List.getElem_inj (sq n L)).1 h2
 ·rintro rfl
  exact⟨hk,h1.symm⟩
def di (L:Nat->Nat) (bs:List PB):List PB:=bs.filterMap fun b=>if bx L b.a=bx L b.b then none else some ⟨bx L b.a,bx L b.b,b.s⟩
def eQ (L:Nat->Nat) (bs:List PB):List PB:=bs.filterMap fun b=>if bx L b.a=bx L b.b then none else some ⟨min (bx L b.a) (bx L b.b),max (bx L b.a) (bx L b.b),b.s⟩
theorem yp (L:Nat->Nat) (bs:List PB) (b:PB):di L (bs++[b])=di L bs++if bx L b.a=bx L b.b then[]else[⟨bx L b.a,bx L b.b,b.s⟩]:=by
 unfold di
 rw[List.filterMap_append]
 congr 1
 by_cases h:bx L b.a=bx L b.b<;>simp[h]
theorem yq (L:Nat->Nat) (bs:List PB) (b:PB):eQ L (bs++[b])=eQ L bs++if bx L b.a=bx L b.b then[]else[⟨min (bx L b.a) (bx L b.b),max (bx L b.a) (bx L b.b),b.s⟩]:=by
 unfold eQ
 rw[List.filterMap_append]
 congr 1
 by_cases h:bx L b.a=bx L b.b<;>simp[h]
theorem rn (S:Nat->Bool) (b:PB) (bs:List PB):iK S (b::bs)=(if S b.a=S b.b then 0 else b.s)+iK S bs:=by simp[iK]
theorem wb (S:Nat->Bool) (L:Nat->Nat):∀bs:List PB,iK S (eQ L bs)=iK S (di L bs)
 |[]=>rfl
 |b::bs=>by
  have ih:=wb S L bs
  unfold eQ di at ih ⊢
  rw[List.filterMap_cons,List.filterMap_cons]
  by_cases h:bx L b.a=bx L b.b
  ·simp only[h,if_true];exact ih
  ·simp only[h,if_false]
   rw[rn,rn,ih]
   congr 1
   simp only
   rcases Nat.le_total (bx L b.a) (bx L b.b)with h1|h1
   ·rw[Nat.min_eq_left h1,Nat.max_eq_right h1]
   ·rw[Nat.min_eq_right h1,Nat.max_eq_left h1]
    cases S (bx L b.a)<;>cases S (bx L b.b)<;>rfl
theorem CG {L:Nat->Nat} (h:jm L) {n:Nat} {bs:List PB} (hb:∀b∈bs,b.a<n/\b.b<n):∀b∈di L bs,b.a<(leads n L).length/\b.b<(leads n L).length/\b.a≠b.b/\∃c∈bs,b.s=c.s:=by
 intro b hm
 unfold di at hm
 obtain⟨c,hc,he⟩:=List.mem_filterMap.1 hm
 split at he
 ·cases he
 ·rename_i gY
  simp only[Option.some.injEq]at he
  subst he
  exact⟨jL h (hb c hc).1,jL h (hb c hc).2,gY,c,hc,rfl⟩
theorem CH {L:Nat->Nat} (h:jm L) {n:Nat} {bs:List PB} (hb:∀b∈bs,b.a<n/\b.b<n):∀b∈eQ L bs,b.a<(leads n L).length/\b.b<(leads n L).length/\b.a≠b.b/\∃c∈bs,b.s=c.s:=by
 intro b hm
 unfold eQ at hm
 obtain⟨c,hc,he⟩:=List.mem_filterMap.1 hm
 split at he
 ·cases he
 ·rename_i gY
  simp only[Option.some.injEq]at he
  subst he
  have h1:=jL h (hb c hc).1
  have h2:=jL h (hb c hc).2
  refine⟨by simp only;omega,by simp only;omega,by simp only;omega,c,hc,rfl⟩
theorem mm (L:Nat->Nat) (bs:List PB):(di L bs).length<=bs.length/\(eQ L bs).length<=bs.length:=⟨List.length_filterMap_le ..,List.length_filterMap_le ..⟩
theorem jt (n:Nat) (L:Nat->Nat):(leads n L).length<=n:=by
 have:=List.length_filter_le (fun i=>L i==i) (List.range n)
 simpa[leads]using this
def aJ (t:Int) (bs:List PB):List PB:=bs.filter fun b=>decide (t<=b.s)
def od (n:Nat) (bs:List PB) (t:Int):Prop:=
 (leads n (dS (aJ t bs))).length<=64/\kd (leads n (dS (aJ t bs))).length (di (dS (aJ t bs)) bs) t
theorem BZ {n:Nat} {L:Nat->Nat} {bs:List PB} {t:Int}:kd n (eQ L bs) t↔kd n (di L bs) t:=by
 unfold kd
 constructor<;>intro h S h0 hy<;>have:=h S h0 hy<;>rw[wb]at *<;>exact this
end Go.Proofs.YtihgaadadaekmaaGreatDoor.V

namespace Go.Proofs.YtihgaadadaekmaaGreatDoor.V
open Go.RowKit
attribute [local irreducible] ea wpOps gS Call
attribute [local go_sem] aM fQ eM gi gh cE upd cu K.av cL AV.cells AV.cell rowOf rowsOf part ld rowAt bY ck dI eh ij bL da eA gp e8 du eo cY cX dV dW bR bm cQ bQ cT cR ej er ek cP bW cZ ei bP aQ cV cC ig bw cH bS aX dG bu dL AV.undef bF bH dY ef dU ec cF ez eF cw ev eu cU cW List.getD_cons_zero List.getD_cons_succ List.getD_nil List.all_cons List.all_nil Bool.and_true Bool.true_and Bool.and_self Bool.not_true Bool.not_false Option.map_some Option.map_none Option.bind_some Option.bind_none List.length_cons List.length_nil List.take_succ_cons List.take_zero List.take_nil List.drop_succ_cons List.drop_zero List.drop_nil List.head?_cons List.map_cons List.map_nil List.getElem?_cons_zero List.getElem?_cons_succ List.cons_append List.nil_append List.append_nil List.length_map List.set_cons_zero List.set_cons_succ Nat.reduceMul eq_self Int.toNat_natCast Int.natCast_nonneg and_self true_and and_true decide_true decide_false Bool.false_eq_true Nat.zero_add Nat.add_zero List.contains_cons List.contains_nil Bool.or_false Bool.false_or beq_self_eq_true Nat.reduceBEq ne_eq not_true_eq_false not_false_eq_true Id.mk.injEq false_and and_false Nat.reduceLT Int.reduceLE Int.reduceLT Int.reduceToNat Int.reduceNeg Int.reduceAdd Nat.le_refl List.length_append beq_true beq_false Bool.not_eq_eq_eq_not or_false false_or dE ad aj aI bE cj aV bf aU bo cN bG
def aA (b:PB):List AV:=[.int .i64 b.a,.int .i64 b.b,.int .i64 b.s]
theorem LQ:∀b:PB,(aA b).length=3/\(aA b).all AV.cell=true:=fun _=>⟨rfl,rfl⟩
theorem xJ (g:Rows) (n:Nat) (b:PB):cm g (n+1) (aA b)=some (aA b):=by simp[aA,ad,aj,aI]
theorem sU (g:Rows) (n:Nat) (b:PB):dH g (n+1) (aA b)=some (aA b):=by simp[aA,br,bV,eC]
theorem GZ:Of aA (fun c=>.agg (aA c)) 3 true:=⟨fun _=>rfl,fun _=>rfl,fun x g=>by simp only[aA,ad,aj,bf,aI,Option.map_some]⟩
def l7 (s:ar) (l:List aq) (i:Nat) (d:Int):List PB:=
 if 0<=fX l (eL (bC l i).cI d)/\0<iT s (bC l i).bJ d (bC l (fX l (eL (bC l i).cI d)).toNat).bJ then
  [⟨i,(fX l (eL (bC l i).cI d)).toNat,iT s (bC l i).bJ d (bC l (fX l (eL (bC l i).cI d)).toNat).bJ⟩]else[]
def fF (s:ar) (l:List aq) (i m:Nat):List PB:=(List.range m).flatMap fun j:Nat=>l7 s l i (1-(j:Int))
def gq (s:ar) (l:List aq) (n:Nat):List PB:=(List.range n).flatMap fun i=>fF s l i 2
def cv (s:ar) (l:List aq):List PB:=gq s l l.length
theorem oV (s:ar) (l:List aq) (i m:Nat):fF s l i (m+1)=fF s l i m++l7 s l i (1-(m:Int)):=by simp[fF,List.range_succ]
theorem p4 (s:ar) (l:List aq) (n:Nat):gq s l (n+1)=gq s l n++fF s l n 2:=by simp[gq,List.range_succ]
theorem Bi (s:ar) (l:List aq) (i:Nat) (d:Int):(l7 s l i d).length<=1:=by unfold l7;split<;>simp
theorem pZ (s:ar) (l:List aq) (i m:Nat):(fF s l i m).length<=m:=by
 induction m with
 |zero=>simp[fF]
 |succ m ih=>rw[oV,List.length_append];have:=Bi s l i (1-(m:Int));omega
theorem r6 (s:ar) (l:List aq) (n:Nat):(gq s l n).length<=2*n:=by
 induction n with
 |zero=>simp[gq]
 |succ n ih=>rw[p4,List.length_append];have:=pZ s l n 2;omega
def sB:Id->Prop:=fun o=>o.site=127001000∨o.site=127012006
theorem Cf (s:ar) (l:List aq) (hS:iG s) (hA:re s l):ae Tryz.prog 127 [.cJ (aa s),.cJ [.sl (l.map ai)]] (.sl ((cv s l).map aA)):=by
 refine ae.body dK rfl fun hl n0=>?_
 clear hl
 have hF:=hA.1
 have PQ:=hF.Gc
 (try((repeat(revert hN;revert N;apply Pn.out));refine wk @Nat.zero_add ?_;(repeat(refine Pn.mk ?_;intro N hN))))
 refine aP (fun n env st=>∃k:Nat,n=(l.length)-k/\k<=(l.length)/\env 6=.int .i64 (k:Int)/\(lZ aA 3 (env 5) st.get sB (gq s l k))) (l.length) ⟨0,ab,ab,sl @Nat.zero_add,⟨⟨127001000,n0+1⟩,.inl rfl,by simp only[go_sem, ↓reduceIte,Nat.reduceEqDiff,Nat.reduceAdd,Nat.reduceSub,Nat.reduceLeDiff,reduceCtorEq];rfl,by simp only[go_sem, ↓reduceIte,Nat.reduceEqDiff,Nat.reduceAdd,Nat.reduceSub,Nat.reduceLeDiff,reduceCtorEq];rfl⟩⟩ ?_
 rintro n_a env_a st_a ⟨k,rfl,ale,a6,j0⟩ dm
 have a0:=dm 0 (by kernel_rfl);have a1:=dm 1 (by kernel_rfl)
 simp only[go_sem, ↓reduceIte,Nat.reduceEqDiff,Nat.reduceAdd,Nat.reduceSub,Nat.reduceLeDiff,reduceCtorEq]at a0 a1
 clear dm
 by_cases hk:(k:Int)<(l.length:Int)
 ·have bD:∀{e:Env} {gg:Rows},(e 6=.int .i64 (IntKind.i64.wrap ((k:Int)+1)))->(lZ aA 3 (e 5) gg sB (gq s l (k+1)))->∃m0,m0<(l.length)-k/\∃k:Nat,m0=(l.length)-k/\k<=(l.length)/\e 6=.int .i64 (k:Int)/\(lZ aA 3 (e 5) gg sB (gq s l k)):=fun x1 x2=>⟨_,ab,k+1,rfl,ab,(by rw[x1,ay ab]),x2⟩
  have dX:k<l.length:=ab
  have eD:=gJ dX
  have hul:=r6 s l k
  (try((repeat(revert hN;revert N;apply Pn.out));refine wk (tw @a6 (tw @a0 (tw @a1 @hk))) ?_;(repeat(refine Pn.mk ?_;intro N hN))))
  refine aP (fun n env st=>∃m:Nat,n=(2)-m/\m<=(2)/\env 7=(.int .i64 (1-(m:Int)))/\(lZ aA 3 (env 5) st.get sB (gq s l k++fF s l k m))) (2) ⟨0,ab,ab,sl (tw @a6 (tw @a0 @a1)),by(simp only[go_sem, ↓reduceIte,Nat.reduceEqDiff,Nat.reduceAdd,Nat.reduceSub,Nat.reduceLeDiff,reduceCtorEq];exact j0.cast (by simp[fF]))⟩ ?_
  rintro n_b env_b st_b ⟨m,rfl,ble,b7,bI0⟩ bfr
  have b0:=bfr 0 (by kernel_rfl);have b1:=bfr 1 (by kernel_rfl);have b6:=bfr 6 (by kernel_rfl)
  simp only[go_sem, ↓reduceIte,Nat.reduceEqDiff,Nat.reduceAdd,Nat.reduceSub,Nat.reduceLeDiff,reduceCtorEq,a6,a0,a1]at b0 b1 b6
  clear bfr
  have Ra:=pZ s l k m
  have k6:=oV s l k m
  by_cases hm:(m:Int)<2
  ·have jr:∀{e:Env} {gg:Rows},(e 7=(.int .i64 (1-((m+1):Int))))->(lZ aA 3 (e 5) gg sB (gq s l k++fF s l k (m+1)))->∃m0,m0<(2)-m/\∃m:Nat,m0=(2)-m/\m<=(2)/\e 7=(.int .i64 (1-(m:Int)))/\(lZ aA 3 (e 5) gg sB (gq s l k++fF s l k m)):=fun x1 x2=>⟨_,ab,m+1,rfl,ab,x1,x2⟩
   have jA:(0:Int)<=1-(m:Int):=ab
   have hd:fJ (1-(m:Int)) 0 3=true:=nK ab
   have hw:IntKind.i64.wrap (1-(m:Int)-1)=1-((m:Int)+1):=by rw[aT ab];omega
   have JZ:=vK l hF k (1-(m:Int)) dX hd
   unfold l7 at k6
   have hT:=hA.2 _ (qz dX)
   generalize EU:fX l (eL (bC l k).cI (1-(m:Int)))=ix at *
   by_cases hi:ix<0
   ·rw[if_neg ab,List.append_nil]at k6
    (repeat(first|((repeat(revert hN;revert N;apply Pn.out));refine wk (tw @b7 (tw @b0 (tw @b1 (tw @b6 (tw @jA (tw @hw @hi)))))) ?_;(repeat(refine Pn.mk ?_;intro N hN)))|((try apply Or.inl);refine⟨_,ae.x (JZ) (sd (tw @b7 (tw @b0 (tw @b1 (tw @b6 (tw @jA (tw @hw @hi))))))),?_⟩;refine hN _ _ ?_;clear hN N)))
    exact jr (sd (tw @b7 (tw @b0 (tw @b1 (tw @b6 @hw))))) (by(simp only[go_sem, ↓reduceIte,Nat.reduceEqDiff,Nat.reduceAdd,Nat.reduceSub,Nat.reduceLeDiff,reduceCtorEq];exact bI0.cast (by rw[k6])))
   ·have Gh:0<=ix:=ab
    have MT:=s5 (l:=l) (p:=eL (bC l k).cI (1-(m:Int))) ab
    rw[EU]at MT
    have oq:=gJ MT.1
    have zT:=Fb s hS (bC l k).bJ (1-(m:Int)) (bC l ix.toNat).bJ hT (hA.2 _ (qz MT.1)) hd
    generalize Q7:iT s (bC l k).bJ (1-(m:Int)) (bC l ix.toNat).bJ=bv at *
    by_cases hb:0<bv
    ·rw[if_pos ⟨Gh,hb⟩]at k6
     (repeat(first|((repeat(revert hN;revert N;apply Pn.out));refine wa (tw @b7 (tw @b0 (tw @b1 (tw @b6 (tw @jA (tw @hw (tw @hi (tw @Gh (tw @eD (tw @oq (tw @hb @ai.eq_1))))))))))) ?_;(repeat(refine Pn.mk ?_;intro N hN)))|((try apply Or.inl);refine⟨_,ae.x (JZ) (sd (tw @b7 (tw @b0 (tw @b1 (tw @b6 (tw @jA (tw @hw (tw @hi (tw @Gh (tw @eD (tw @oq (tw @hb @ai.eq_1)))))))))))),?_⟩;refine hN _ _ ?_;clear hN N)|((try apply Or.inl);refine⟨_,ae.x (zT) (sd (tw @b7 (tw @b0 (tw @b1 (tw @b6 (tw @jA (tw @hw (tw @hi (tw @Gh (tw @eD (tw @oq (tw @hb @ai.eq_1)))))))))))),?_⟩;refine hN _ _ ?_;clear hN N)))
     refine NU (enc:=aA) (S:=sB) (L:=gq s l k++fF s l k m) (xv:=env_b 5) [⟨k,ix.toNat,bv⟩] rfl rfl (sd @Nat.zero_add) (bI0.frame fun o ho=>by rcases ho with ho|ho<;>simp only[go_sem, ↓reduceIte,Nat.reduceEqDiff,Nat.reduceAdd,Nat.reduceSub,Nat.reduceLeDiff,reduceCtorEq,yu ho]) (sd (tw @aA.eq_1 (Int.toNat_of_nonneg Gh))) LQ (.inr rfl) (by simp only[dL,List.length_append,List.length_cons,List.length_nil];omega) fun v g' hO lv=>?_
     rw[List.append_assoc,<-k6]at hO
     clear lv
     (try((repeat(revert hN;revert N;apply Pn.out));refine wk (tw @b7 (tw @b0 (tw @b1 (tw @b6 @hw)))) ?_;(repeat(refine Pn.mk ?_;intro N hN))))
     exact jr (sd (tw @b7 (tw @b0 (tw @b1 (tw @b6 @hw))))) (by(simp only[go_sem, ↓reduceIte,Nat.reduceEqDiff,Nat.reduceAdd,Nat.reduceSub,Nat.reduceLeDiff,reduceCtorEq];exact hO))
    ·rw[if_neg fun h=>hb h.2,List.append_nil]at k6
     (repeat(first|((repeat(revert hN;revert N;apply Pn.out));refine wk (tw @b7 (tw @b0 (tw @b1 (tw @b6 (tw @jA (tw @hw (tw @hi (tw @Gh (tw @eD (tw @oq (tw @hb @ai.eq_1))))))))))) ?_;(repeat(refine Pn.mk ?_;intro N hN)))|((try apply Or.inl);refine⟨_,ae.x (JZ) (sd (tw @b7 (tw @b0 (tw @b1 (tw @b6 (tw @jA (tw @hw (tw @hi (tw @Gh (tw @eD (tw @oq (tw @hb @ai.eq_1)))))))))))),?_⟩;refine hN _ _ ?_;clear hN N)|((try apply Or.inl);refine⟨_,ae.x (zT) (sd (tw @b7 (tw @b0 (tw @b1 (tw @b6 (tw @jA (tw @hw (tw @hi (tw @Gh (tw @eD (tw @oq (tw @hb @ai.eq_1)))))))))))),?_⟩;refine hN _ _ ?_;clear hN N)))
     exact jr (sd (tw @b7 (tw @b0 (tw @b1 (tw @b6 @hw))))) (by(simp only[go_sem, ↓reduceIte,Nat.reduceEqDiff,Nat.reduceAdd,Nat.reduceSub,Nat.reduceLeDiff,reduceCtorEq];exact bI0.cast (by rw[k6])))
  ·have Jj:m=2:=ab
   subst Jj
   have dD:¬(0:Int)<=1-((2:Nat):Int):=ab
   (try((repeat(revert hN;revert N;apply Pn.out));refine wk (tw @b7 (tw @b0 (tw @b1 (tw @b6 @dD)))) ?_;(repeat(refine Pn.mk ?_;intro N hN))))
   exact bD (sd (tw @a6 (tw @a0 (tw @a1 (tw @b7 (tw @b0 (tw @b1 @b6))))))) (by(simp only[go_sem, ↓reduceIte,Nat.reduceEqDiff,Nat.reduceAdd,Nat.reduceSub,Nat.reduceLeDiff,reduceCtorEq];exact bI0.cast (by rw[p4])))
 ·have lx:k=l.length:=ab
  (try((repeat(revert hN;revert N;apply Pn.out));refine wk (tw @a6 (tw @a0 (tw @a1 @hk))) ?_;(repeat(refine Pn.mk ?_;intro N hN))))
  exact uH (.inl rfl) (by simp only[go_sem, ↓reduceIte,Nat.reduceEqDiff,Nat.reduceAdd,Nat.reduceSub,Nat.reduceLeDiff,reduceCtorEq];rfl) (by rw[lx]at j0;exact j0.fD fun b=>sU _ _ b)
theorem Ad (a b:Nat):ae Tryz.prog 146 [.int .i64 a,.int .i64 b] (.int .i64 (min a b:Nat)):=by
 refine ae.body dK rfl fun hl n0=>?_
 clear hl
 by_cases h:(a:Int)<(b:Int)
 ·(try((repeat(revert hN;revert N;apply Pn.out));refine wk @h ?_;(repeat(refine Pn.mk ?_;intro N hN))))
  exact aZ (b:=(a:Int)) (.inl rfl) (sd @Nat.zero_add) ab
 ·(try((repeat(revert hN;revert N;apply Pn.out));refine wk @h ?_;(repeat(refine Pn.mk ?_;intro N hN))))
  exact aZ (b:=(b:Int)) (.inl rfl) (sd @Nat.zero_add) ab
theorem Ac (a b:Nat):ae Tryz.prog 147 [.int .i64 a,.int .i64 b] (.int .i64 (max a b:Nat)):=by
 refine ae.body dK rfl fun hl n0=>?_
 clear hl
 by_cases h:(b:Int)<(a:Int)
 ·(try((repeat(revert hN;revert N;apply Pn.out));refine wk @h ?_;(repeat(refine Pn.mk ?_;intro N hN))))
  exact aZ (b:=(a:Int)) (.inl rfl) (sd @Nat.zero_add) ab
 ·(try((repeat(revert hN;revert N;apply Pn.out));refine wk @h ?_;(repeat(refine Pn.mk ?_;intro N hN))))
  exact aZ (b:=(b:Int)) (.inl rfl) (sd @Nat.zero_add) ab
def dv (f:Nat->Nat) (n:Nat):List (List AV):=(List.range n).map fun i=>eN (f i)
theorem fK (f:Nat->Nat) (n:Nat):(dv f n).length=n:=by simp[dv]
theorem e6 {f:Nat->Nat} {n i:Nat} (h:i<n):(dv f n)[i]? =some (eN (f i)):=by simp[dv,h]
theorem gF {f g:Nat->Nat} {n:Nat} (h:∀i,i<n->f i=g i):dv f n=dv g n:=List.map_congr_left fun i hi=>by rw[h i (List.mem_range.1 hi)]
theorem oD {f g:Nat->Nat} {n k v:Nat} (hk:k<n) (hv:g k=v) (h:∀i,i<n->i≠k->g i=f i):(dv f n).set k (eN v)=dv g n:=by
 refine List.ext_getElem? fun i=>?_
 rw[List.getElem?_set]
 by_cases hi:k=i
 ·subst hi
  rw[if_pos rfl,fK,if_pos hk,e6 hk,hv]
 ·rw[if_neg hi]
  by_cases fP:i<n
  ·rw[e6 fP,e6 fP,h i fP (fun h=>hi h.symm)]
  ·rw[List.getElem?_eq_none (by rw[fK];omega),List.getElem?_eq_none (by rw[fK];omega)]
theorem Ae (cnt:Nat) (hn:cnt<=1048576) (bs:List PB) (hb:∀b∈bs,b.a<cnt/\b.b<cnt) (pO:bs.length<=1048576):ae Tryz.prog 145 [.int .i64 cnt,.sl (bs.map aA)] (.sl ((fb cnt (dS bs)).map yO)):=by
 refine ae.body dK rfl fun hl n0=>?_
 clear hl
 (try((repeat(revert hN;revert N;apply Pn.out));refine wk @Nat.zero_add ?_;(repeat(refine Pn.mk ?_;intro N hN))))
 refine aP (fun n env st=>∃k:Nat,n=(cnt)-k/\k<=(cnt)/\env 6=.int .i64 (k:Int)/\(∃o:Id,env 5=.own o 0 k/\st.get o=some ⟨true,1,dv id k⟩/\o.cq<st.next)) (cnt) ⟨0,ab,ab,sl @Nat.zero_add,⟨⟨145001000,n0+1⟩,sd @Nat.zero_add,by simp only[go_sem, ↓reduceIte,Nat.reduceEqDiff,Nat.reduceAdd,Nat.reduceSub,Nat.reduceLeDiff,reduceCtorEq];rfl,bt⟩⟩ ?_
 rintro n_a env_a st_a ⟨k,rfl,ale,a6,j0⟩ dm
 have a0:=dm 0 (by kernel_rfl);have a1:=dm 1 (by kernel_rfl)
 simp only[go_sem, ↓reduceIte,Nat.reduceEqDiff,Nat.reduceAdd,Nat.reduceSub,Nat.reduceLeDiff,reduceCtorEq]at a0 a1
 clear dm
 obtain⟨o,a5,ag,sJ⟩:=j0
 have tl:=fK id k
 have jO:=eP sJ
 by_cases hk:(k:Int)<(cnt:Int)
 ·have bD:∀{e:Env} {gg:Rows} {nx:Nat},(e 6=.int .i64 (IntKind.i64.wrap ((k:Int)+1)))->(∃o:Id,e 5=.own o 0 (k+1)/\gg o=some ⟨true,1,dv id (k+1)⟩/\o.cq<nx)->∃m0,m0<(cnt)-k/\∃k:Nat,m0=(cnt)-k/\k<=(cnt)/\e 6=.int .i64 (k:Int)/\(∃o:Id,e 5=.own o 0 k/\gg o=some ⟨true,1,dv id k⟩/\o.cq<nx):=fun x1 x2=>⟨_,ab,k+1,rfl,ab,(by rw[x1,ay ab]),x2⟩
  have dX:k<cnt:=ab
  have e1:k+1<=16777216:=ab
  have rH:dv id k++[[.int .i64 (k:Int)]]=dv id (k+1):=by simp[dv,List.range_succ,eN]
  (try((repeat(revert hN;revert N;apply Pn.out));refine wk (tw @a6 (tw @a0 (tw @a1 (tw @a5 (tw @ag (tw @jO (tw @hk (tw @tl (tw @e1 @rH))))))))) ?_;(repeat(refine Pn.mk ?_;intro N hN))))
  exact bD (sd (tw @a6 (tw @a0 @a1))) (⟨⟨145005003,st_a.next+1⟩,sd @Nat.zero_add,sd @rH,bt⟩)
 have lx:k=cnt:=ab
 subst lx
 have SR:st_a.get o=some ⟨true,1,dv (dS (bs.take 0)) k⟩:=ag
 clear ag
 (try((repeat(revert hN;revert N;apply Pn.out));refine wk (tw @a6 (tw @a0 (tw @a1 @hk))) ?_;(repeat(refine Pn.mk ?_;intro N hN))))
 refine aP (fun n env st=>∃j:Nat,n=(bs.length)-j/\j<=(bs.length)/\env 7=.int .i64 (j:Int)/\st.get o=some ⟨true,1,dv (dS (bs.take j)) k⟩/\(o.cq<st.next)) (bs.length) ⟨0,ab,ab,sl (tw @a6 (tw @a0 (tw @a1 (tw @a5 @SR)))),sl (tw @a6 (tw @a0 (tw @a1 (tw @a5 @SR)))),bt⟩ ?_
 rintro n_b env_b st_b ⟨j,rfl,ble,b7,bg0,bI0⟩ bfr
 have b0:=bfr 0 (by kernel_rfl);have b1:=bfr 1 (by kernel_rfl);have b5:=bfr 5 (by kernel_rfl)
 simp only[go_sem, ↓reduceIte,Nat.reduceEqDiff,Nat.reduceAdd,Nat.reduceSub,Nat.reduceLeDiff,reduceCtorEq,a6,a0,a1,a5,SR]at b0 b1 b5
 clear bfr
 by_cases hj:(j:Int)<(bs.length:Int)
 ·have jr:∀{e:Env} {gg:Rows} {nx:Nat},(e 7=.int .i64 (IntKind.i64.wrap ((j:Int)+1)))->(gg o=some ⟨true,1,dv (dS (bs.take (j+1))) k⟩)->(o.cq<nx)->∃m0,m0<(bs.length)-j/\∃j:Nat,m0=(bs.length)-j/\j<=(bs.length)/\e 7=.int .i64 (j:Int)/\gg o=some ⟨true,1,dv (dS (bs.take j)) k⟩/\(o.cq<nx):=fun x1 x2 x3=>⟨_,ab,j+1,rfl,ab,(by rw[x1,ay ab]),x2,x3⟩
  have gm:j<bs.length:=ab
  have Gf:(bs.map aA)[j]? =some (aA bs[j]):=by simp[gm]
  have Ln:=hb _ (List.getElem_mem gm)
  have ou:bs.take (j+1)=bs.take j++[bs[j]]:=List.take_succ_eq_append_getElem gm
  have k6:dS (bs.take (j+1))=eE (dS (bs.take j)) bs[j]:=by rw[ou,uk]
  generalize dS (bs.take j)=L at *
  generalize bs[j]=b at *
  have hA:=e6 (f:=L) Ln.1
  have hB:=e6 (f:=L) Ln.2
  have Q2:=Ad (L b.a) (L b.b)
  have Q3:=Ac (L b.a) (L b.b)
  have tl:=fK L k
  have gj:(b.a:Int)<(k:Int):=ab
  have fC:(b.b:Int)<(k:Int):=ab
  (try((repeat(revert hN;revert N;apply Pn.out));refine wk (tw @b7 (tw @bg0 (tw @b0 (tw @b1 (tw @b5 (tw @hj (tw @Gf (tw @aA.eq_1 (tw @hA (tw @hB (tw @gj (tw @fC (tw @tl @eN.eq_1))))))))))))) ?_;(repeat(refine Pn.mk ?_;intro N hN))))
  refine aP (fun n env st=>∃i:Nat,n=(k)-i/\i<=(k)/\env 10=.int .i64 (i:Int)/\st.get o=some ⟨true,1,dv (fun x=>if x<i then eE L b x else L x) k⟩/\(o.cq<st.next)) (k) ⟨0,ab,ab,sl (tw @b7 (tw @bg0 (tw @b0 (tw @b1 (tw @b5 @Nat.not_lt_zero))))),sl (tw @b7 (tw @bg0 (tw @b0 (tw @b1 (tw @b5 @Nat.not_lt_zero))))),bt⟩ ?_
  rintro n_c env_c st_c ⟨i,rfl,cle,ji,cg0,cI0⟩ cfr
  have c0:=cfr 0 (by kernel_rfl);have c1:=cfr 1 (by kernel_rfl);have c5:=cfr 5 (by kernel_rfl);have c7:=cfr 7 (by kernel_rfl);have c8:=cfr 8 (by kernel_rfl);have c9:=cfr 9 (by kernel_rfl)
  simp only[go_sem, ↓reduceIte,Nat.reduceEqDiff,Nat.reduceAdd,Nat.reduceSub,Nat.reduceLeDiff,reduceCtorEq,b7,bg0,b0,b1,b5,Nat.not_lt_zero]at c0 c1 c5 c7 c8 c9
  clear cfr
  have hC:=e6 (f:=fun x=>if x<i then eE L b x else L x) (n:=k) (i:=i)
  have tc:=fK (fun x=>if x<i then eE L b x else L x) k
  by_cases hi:(i:Int)<(k:Int)
  ·have gL:∀{e:Env} {gg:Rows} {nx:Nat},(e 10=.int .i64 (IntKind.i64.wrap ((i:Int)+1)))->(gg o=some ⟨true,1,dv (fun x=>if x<(i+1)then eE L b x else L x) k⟩)->(o.cq<nx)->∃m0,m0<(k)-i/\∃i:Nat,m0=(k)-i/\i<=(k)/\e 10=.int .i64 (i:Int)/\gg o=some ⟨true,1,dv (fun x=>if x<i then eE L b x else L x) k⟩/\(o.cq<nx):=fun x1 x2 x3=>⟨_,ab,i+1,rfl,ab,(by rw[x1,ay ab]),x2,x3⟩
   have fP:i<k:=ab
   replace hC:=hC fP
   rw[if_neg (Nat.lt_irrefl i)]at hC
   by_cases he:L i=max (L b.a) (L b.b)
   ·have sI:decide ((L i:Int)=((max (L b.a) (L b.b):Nat):Int))=true:=decide_eq_true (by rw[he])
    have dP:(dv (fun x=>if x<i then eE L b x else L x) k).set i (eN (min (L b.a) (L b.b)))=dv (fun x=>if x<i+1 then eE L b x else L x) k:=oD fP (by rw[if_pos ab,eE,if_pos he]) fun x hx yV=>by
     by_cases h:x<i
     ·rw[if_pos h,if_pos ab]
     ·rw[if_neg h,if_neg ab]
    rw[eN]at dP hC
    (repeat(first|((repeat(revert hN;revert N;apply Pn.out));refine wk (tw @ji (tw @cg0 (tw @c0 (tw @c1 (tw @c5 (tw @c7 (tw @c8 (tw @c9 (tw @hi (tw @hC (tw @tc (tw @sI @dP)))))))))))) ?_;(repeat(refine Pn.mk ?_;intro N hN)))|((try apply Or.inl);refine⟨_,ae.x (Q2) (sd (tw @ji (tw @cg0 (tw @c0 (tw @c1 (tw @c5 (tw @c7 (tw @c8 (tw @c9 (tw @hi (tw @hC (tw @tc (tw @sI @dP))))))))))))),?_⟩;refine hN _ _ ?_;clear hN N)|((try apply Or.inl);refine⟨_,ae.x (Q3) (sd (tw @ji (tw @cg0 (tw @c0 (tw @c1 (tw @c5 (tw @c7 (tw @c8 (tw @c9 (tw @hi (tw @hC (tw @tc (tw @sI @dP))))))))))))),?_⟩;refine hN _ _ ?_;clear hN N)))
    refine gL ?_ ?_ bt
    all_goals simp only[go_sem, ↓reduceIte,Nat.reduceEqDiff,Nat.reduceAdd,Nat.reduceSub,Nat.reduceLeDiff,reduceCtorEq,ji,cg0,c0,c1,c5,c7,c8,c9]
   ·have sI:decide ((L i:Int)=((max (L b.a) (L b.b):Nat):Int))=false:=decide_eq_false fun h=>he ab
    have lJ:dv (fun x=>if x<i then eE L b x else L x) k=dv (fun x=>if x<i+1 then eE L b x else L x) k:=gF fun x hx=>by
     by_cases h:x<i
     ·rw[if_pos h,if_pos ab]
     ·by_cases yV:x=i
      ·subst yV;rw[if_neg h,if_pos ab,eE,if_neg he]
      ·rw[if_neg h,if_neg ab]
    rw[eN]at hC
    (repeat(first|((repeat(revert hN;revert N;apply Pn.out));refine wk (tw @ji (tw @cg0 (tw @c0 (tw @c1 (tw @c5 (tw @c7 (tw @c8 (tw @c9 (tw @hi (tw @hC (tw @tc @sI))))))))))) ?_;(repeat(refine Pn.mk ?_;intro N hN)))|((try apply Or.inl);refine⟨_,ae.x (Q2) (sd (tw @ji (tw @cg0 (tw @c0 (tw @c1 (tw @c5 (tw @c7 (tw @c8 (tw @c9 (tw @hi (tw @hC (tw @tc @sI)))))))))))),?_⟩;refine hN _ _ ?_;clear hN N)|((try apply Or.inl);refine⟨_,ae.x (Q3) (sd (tw @ji (tw @cg0 (tw @c0 (tw @c1 (tw @c5 (tw @c7 (tw @c8 (tw @c9 (tw @hi (tw @hC (tw @tc @sI)))))))))))),?_⟩;refine hN _ _ ?_;clear hN N)))
    rw[lJ]at cg0
    refine gL ?_ ?_ bt
    all_goals simp only[go_sem, ↓reduceIte,Nat.reduceEqDiff,Nat.reduceAdd,Nat.reduceSub,Nat.reduceLeDiff,reduceCtorEq,ji,cg0,c0,c1,c5,c7,c8,c9]
  ·have wC:i=k:=ab
   subst wC
   have dk:dv (fun x=>if x<i then eE L b x else L x) i=dv (eE L b) i:=gF fun x hx=>if_pos hx
   rw[dk]at cg0
   rw[<-k6]at cg0
   (try((repeat(revert hN;revert N;apply Pn.out));refine wk (tw @ji (tw @cg0 (tw @c0 (tw @c1 (tw @c5 (tw @c7 (tw @c8 (tw @c9 (tw @hi @tc))))))))) ?_;(repeat(refine Pn.mk ?_;intro N hN))))
   refine jr ?_ ?_ bt
   all_goals simp only[go_sem, ↓reduceIte,Nat.reduceEqDiff,Nat.reduceAdd,Nat.reduceSub,Nat.reduceLeDiff,reduceCtorEq,b7,bg0,b0,b1,b5,ji,cg0,c0,c1,c5,c7,c8,c9]
 have gN:j=bs.length:=ab
 subst gN
 rw[List.take_length]at bg0
 have hL:=so bs
 generalize dS bs=L at *
 have tl:=fK L k
 (try((repeat(revert hN;revert N;apply Pn.out));refine wk (tw @b7 (tw @bg0 (tw @b0 (tw @b1 (tw @b5 @hj))))) ?_;(repeat(refine Pn.mk ?_;intro N hN))))
 have SS:o.cq<st_b.next:=bI0
 refine aP (fun n env st=>∃i:Nat,n=(k)-i/\i<=(k)/\env 12=.int .i64 (i:Int)/\st.get o=some ⟨true,1,dv L k⟩/\(∃oo rows ids,env 11=.own oo 0 rows.length/\st.get oo=some ⟨true,1,rows⟩/\dw Oh st.get rows ((leads i L).map (members k L)) ids/\(∀x∈oo::ids,st_b.next<=x.cq/\x.cq<st.next)/\st_b.next<=st.next/\oo∉ids)) (k) ⟨0,ab,ab,sl (tw @b7 (tw @bg0 (tw @b0 (tw @b1 (tw @b5 (eP SS)))))),sl (tw @b7 (tw @bg0 (tw @b0 (tw @b1 (tw @b5 (eP SS)))))),⟨⟨145016000,st_b.next+1⟩,[],[],by(simp only[go_sem, ↓reduceIte,Nat.reduceEqDiff,Nat.reduceAdd,Nat.reduceSub,Nat.reduceLeDiff,reduceCtorEq])<;>rfl,sd @Nat.zero_add,.nil,fun x hx=>by rw[List.mem_singleton.1 hx];(try dsimp only);omega,bt,by simp⟩⟩ ?_
 rintro n_d env_d st_d ⟨i,rfl,dle,d12,dg0,dI0⟩ dfr
 have d0:=dfr 0 (by kernel_rfl);have d5:=dfr 5 (by kernel_rfl)
 simp only[go_sem, ↓reduceIte,Nat.reduceEqDiff,Nat.reduceAdd,Nat.reduceSub,Nat.reduceLeDiff,reduceCtorEq,b7,bg0,b0,b1,b5,eP SS]at d0 d5
 clear dfr
 obtain⟨oo,rows,ids,d11,dg,hR,m3,hle,EV⟩:=dI0
 have rH:=gu i L
 have oO:=hR.len
 by_cases hi:(i:Int)<(k:Int)
 ·have sr:∀{e:Env} {gg:Rows} {nx:Nat},(e 12=.int .i64 (IntKind.i64.wrap ((i:Int)+1)))->(gg o=some ⟨true,1,dv L k⟩)->(∃oo rows ids,e 11=.own oo 0 rows.length/\gg oo=some ⟨true,1,rows⟩/\dw Oh gg rows ((leads (i+1) L).map (members k L)) ids/\(∀x∈oo::ids,st_b.next<=x.cq/\x.cq<nx)/\st_b.next<=nx/\oo∉ids)->∃m0,m0<(k)-i/\∃i:Nat,m0=(k)-i/\i<=(k)/\e 12=.int .i64 (i:Int)/\gg o=some ⟨true,1,dv L k⟩/\(∃oo rows ids,e 11=.own oo 0 rows.length/\gg oo=some ⟨true,1,rows⟩/\dw Oh gg rows ((leads i L).map (members k L)) ids/\(∀x∈oo::ids,st_b.next<=x.cq/\x.cq<nx)/\st_b.next<=nx/\oo∉ids):=fun x1 x2 x3=>⟨_,ab,i+1,rfl,ab,(by rw[x1,ay ab]),x2,x3⟩
  have fP:i<k:=ab
  have hC:=e6 (f:=L) fP
  have oP:=eP (i:=o) (n:=st_d.next) ab
  have Qe:=eP (i:=oo) (n:=st_d.next) (m3 oo (by simp)).2
  by_cases he:L i=i
  ·rw[if_pos he]at rH
   have sI:decide ((L i:Int)=(i:Int))=true:=decide_eq_true (by rw[he])
   rw[eN]at hC
   (try((repeat(revert hN;revert N;apply Pn.out));refine wk (tw @d12 (tw @dg0 (tw @d0 (tw @d5 (tw @d11 (tw @dg (tw @hi (tw @hC (tw @tl (tw @sI (tw @oP @Qe))))))))))) ?_;(repeat(refine Pn.mk ?_;intro N hN))))
   refine aP (fun n env st=>∃m:Nat,n=((k-i))-m/\m<=((k-i))/\env 14=(.int .i64 ((i+m:Nat):Int))/\(∃pp:Id,env 13=.own pp 0 (members (i+m) L i).length/\st.get pp=some ⟨true,1,(members (i+m) L i).map eN⟩/\st_d.next<=pp.cq/\pp.cq<st.next/\(∀x:Id,x.cq<st_d.next->st.get x=st_d.get x)/\st_d.next<=st.next)) ((k-i)) ⟨0,ab,ab,sl (tw @d12 (tw @dg0 (tw @d0 (tw @d5 @d11)))),⟨⟨145021000,st_d.next+1+1⟩,by rw[show members (i+0) L i=[]from mh hL (Nat.le_refl i)];(simp only[go_sem, ↓reduceIte,Nat.reduceEqDiff,Nat.reduceAdd,Nat.reduceSub,Nat.reduceLeDiff,reduceCtorEq])<;>rfl,by rw[show members (i+0) L i=[]from mh hL (Nat.le_refl i)];(simp only[go_sem, ↓reduceIte,Nat.reduceEqDiff,Nat.reduceAdd,Nat.reduceSub,Nat.reduceLeDiff,reduceCtorEq])<;>rfl,bt,bt,fun x hx=>sd (eP hx),bt⟩⟩ ?_
   rintro n_f env_f st_f ⟨m,rfl,fle,f14,fI0⟩ ffr
   have f0:=ffr 0 (by kernel_rfl);have f5:=ffr 5 (by kernel_rfl);have f11:=ffr 11 (by kernel_rfl);have f12:=ffr 12 (by kernel_rfl)
   simp only[go_sem, ↓reduceIte,Nat.reduceEqDiff,Nat.reduceAdd,Nat.reduceSub,Nat.reduceLeDiff,reduceCtorEq,d12,dg0,d0,d5,d11]at f0 f5 f11 f12
   clear ffr
   obtain⟨pp,f13,fg,MZ,Lz,lv,ua⟩:=fI0
   have vz:st_f.get o=some ⟨true,1,dv L k⟩:=(lv o ab).trans dg0
   have Sz:st_f.get oo=some ⟨true,1,rows⟩:=(lv oo (m3 oo (by simp)).2).trans dg
   have yT:=eP Lz
   have z7:=eP (i:=o) (n:=st_f.next) ab
   have Qf:=eP (i:=oo) (n:=st_f.next) (by have:=(m3 oo (by simp)).2;omega)
   have iv:members (i+(m+1)) L i=members (i+m) L i++if L (i+m)=i then[i+m]else[]:=ja (i+m) L i
   have SK:(members (i+m) L i).length<=i+m:=by
    have:=List.length_filter_le (fun k=>L k==i) (List.range (i+m))
    simpa[members]using this
   have x1:=dr (a:=o) (b:=pp) ab
   have x2:=dr (a:=oo) (b:=pp) (by have:=(m3 oo (by simp)).2;omega)
   have x3:=dr (a:=o) (b:=oo) (by have:=(m3 oo (by simp)).1;omega)
   by_cases hm:m<k-i
   ·have qy:∀{e:Env} {gg:Rows} {nx:Nat},(e 14=(.int .i64 ((i+(m+1):Nat):Int)))->(∃pp:Id,e 13=.own pp 0 (members (i+(m+1)) L i).length/\gg pp=some ⟨true,1,(members (i+(m+1)) L i).map eN⟩/\st_d.next<=pp.cq/\pp.cq<nx/\(∀x:Id,x.cq<st_d.next->gg x=st_d.get x)/\st_d.next<=nx)->∃m0,m0<((k-i))-m/\∃m:Nat,m0=((k-i))-m/\m<=((k-i))/\e 14=(.int .i64 ((i+m:Nat):Int))/\(∃pp:Id,e 13=.own pp 0 (members (i+m) L i).length/\gg pp=some ⟨true,1,(members (i+m) L i).map eN⟩/\st_d.next<=pp.cq/\pp.cq<nx/\(∀x:Id,x.cq<st_d.next->gg x=st_d.get x)/\st_d.next<=nx):=fun x1 x2=>⟨_,ab,m+1,rfl,ab,x1,x2⟩
    have P0:((i+m:Nat):Int)<(k:Int):=ab
    have RZ:=e6 (f:=L) (show i+m<k by omega)
    have hw:IntKind.i64.wrap (((i+m:Nat):Int)+1)=((i+(m+1):Nat):Int):=by rw[aT ab];omega
    rw[eN]at RZ
    by_cases hq:L (i+m)=i
    ·have qj:decide ((L (i+m):Int)=(i:Int))=true:=decide_eq_true (by rw[hq])
     rw[if_pos hq]at iv
     have e1:(members (i+m) L i).length+1<=16777216:=ab
     have gy:((members (i+m) L i).map eN).length=(members (i+m) L i).length:=by simp
     (try((repeat(revert hN;revert N;apply Pn.out));refine wk (tw @f14 (tw @f0 (tw @f5 (tw @f11 (tw @f12 (tw @f13 (tw @fg (tw @vz (tw @P0 (tw @RZ (tw @tl (tw @qj (tw @yT (tw @z7 (tw @x1 (tw @e1 @gy)))))))))))))))) ?_;(repeat(refine Pn.mk ?_;intro N hN))))
     exact qy (sd (tw @f14 (tw @f0 (tw @f5 (tw @f11 (tw @f12 (tw @vz (tw @hw (tw @z7 @x1))))))))) (⟨⟨145026003,st_f.next+1+1⟩,by rw[iv,List.length_append];simp only[go_sem, ↓reduceIte,Nat.reduceEqDiff,Nat.reduceAdd,Nat.reduceSub,Nat.reduceLeDiff,reduceCtorEq,List.length_cons,List.length_nil],by rw[iv,List.map_append,List.map_cons,List.map_nil];simp only[go_sem, ↓reduceIte,Nat.reduceEqDiff,Nat.reduceAdd,Nat.reduceSub,Nat.reduceLeDiff,reduceCtorEq,eN],bt,bt,fun x hx=>by
      have y1:=lv x hx
      have y2:=dr (a:=x) (b:=pp) ab
      simp only[go_sem, ↓reduceIte,Nat.reduceEqDiff,Nat.reduceAdd,Nat.reduceSub,Nat.reduceLeDiff,reduceCtorEq,eP (show x.cq<st_f.next by omega),y1,y2],bt⟩)
    ·have qj:decide ((L (i+m):Int)=(i:Int))=false:=decide_eq_false fun h=>hq ab
     rw[if_neg hq,List.append_nil]at iv
     (try((repeat(revert hN;revert N;apply Pn.out));refine wk (tw @f14 (tw @f0 (tw @f5 (tw @f11 (tw @f12 (tw @f13 (tw @fg (tw @vz (tw @P0 (tw @RZ (tw @tl (tw @qj (tw @yT (tw @z7 @x1)))))))))))))) ?_;(repeat(refine Pn.mk ?_;intro N hN))))
     exact qy (sd (tw @f14 (tw @f0 (tw @f5 (tw @f11 (tw @f12 (tw @vz @hw))))))) (⟨pp,by rw[iv];simp only[go_sem, ↓reduceIte,Nat.reduceEqDiff,Nat.reduceAdd,Nat.reduceSub,Nat.reduceLeDiff,reduceCtorEq,f13],by rw[iv];simp only[go_sem, ↓reduceIte,Nat.reduceEqDiff,Nat.reduceAdd,Nat.reduceSub,Nat.reduceLeDiff,reduceCtorEq,fg],MZ,bt,lv,bt⟩)
   ·have hmk:i+m=k:=ab
    have P0:¬((i+m:Nat):Int)<(k:Int):=ab
    rw[hmk]at f13 fg SK
    have e1:rows.length+1<=16777216:=by
     have:=jt i L
     rw[oO,List.length_map];omega
    (try((repeat(revert hN;revert N;apply Pn.out));refine wk (tw @f14 (tw @f0 (tw @f5 (tw @f11 (tw @f12 (tw @f13 (tw @fg (tw @vz (tw @Sz (tw @P0 (tw @yT (tw @z7 (tw @Qf (tw @x1 (tw @x2 @e1))))))))))))))) ?_;(repeat(refine Pn.mk ?_;intro N hN))))
    refine sr ?_ ?_ (⟨⟨145027003,st_f.next+1⟩,rows++[[.own pp 0 (members k L i).length]],ids++[pp],by rw[List.length_append];simp only[go_sem, ↓reduceIte,Nat.reduceEqDiff,Nat.reduceAdd,Nat.reduceSub,Nat.reduceLeDiff,reduceCtorEq,List.length_cons,List.length_nil],sd @Nat.zero_add,by
      rw[rH,List.map_append]
      refine(hR.frame Np fun x hx=>?_).app (.one ⟨pp,rfl,?_,rfl⟩)
      ·have h1:=m3 x (by simp[hx])
       have y1:=lv x h1.2
       have y2:=dr (a:=x) (b:=pp) ab
       have y3:(x=oo)=False:=by
        simp only[eq_iff_iff,iff_false]
        rintro rfl
        exact EV hx
       simp only[go_sem, ↓reduceIte,Nat.reduceEqDiff,Nat.reduceAdd,Nat.reduceSub,Nat.reduceLeDiff,reduceCtorEq,eP (show x.cq<st_f.next by omega),y1,y2,y3]
      ·simp only[go_sem, ↓reduceIte,Nat.reduceEqDiff,Nat.reduceAdd,Nat.reduceSub,Nat.reduceLeDiff,reduceCtorEq,yT,x2,fg],fun x hx=>by
      rcases List.mem_cons.1 hx with rfl|hx
      ·(try dsimp only);omega
      ·rcases List.mem_append.1 hx with hx|hx
       ·have:=m3 x (by simp[hx]);(try dsimp only);omega
       ·rw[List.mem_singleton.1 hx];(try dsimp only);omega,bt,fun hc=>by
      rcases List.mem_append.1 hc with hc|hc
      ·have:=(m3 _ (List.mem_cons_of_mem _ hc)).2;(try dsimp only at this);omega
      ·have:=List.mem_singleton.1 hc;rw[<-this]at Lz;(try dsimp only at Lz);omega⟩)
    all_goals simp only[go_sem, ↓reduceIte,Nat.reduceEqDiff,Nat.reduceAdd,Nat.reduceSub,Nat.reduceLeDiff,reduceCtorEq,f14,f0,f5,f11,f12,vz,z7,x3]
  ·rw[if_neg he,List.append_nil]at rH
   have sI:decide ((L i:Int)=(i:Int))=false:=decide_eq_false fun h=>he ab
   rw[eN]at hC
   (try((repeat(revert hN;revert N;apply Pn.out));refine wk (tw @d12 (tw @dg0 (tw @d0 (tw @d5 (tw @d11 (tw @dg (tw @hi (tw @hC (tw @tl (tw @sI (tw @oP @Qe))))))))))) ?_;(repeat(refine Pn.mk ?_;intro N hN))))
   refine sr ?_ ?_ (⟨oo,rows,ids,sd @d11,sd @dg,by rw[rH];exact hR,fun x hx=>by have:=m3 x hx;(try dsimp only);omega,bt,EV⟩)
   all_goals simp only[go_sem, ↓reduceIte,Nat.reduceEqDiff,Nat.reduceAdd,Nat.reduceSub,Nat.reduceLeDiff,reduceCtorEq,d12,dg0,d0,d5]
 ·have wC:i=k:=ab
  (try((repeat(revert hN;revert N;apply Pn.out));refine wk (tw @d12 (tw @dg0 (tw @d0 (tw @d5 (tw @d11 (tw @dg @hi)))))) ?_;(repeat(refine Pn.mk ?_;intro N hN))))
  refine uH (.inl rfl) (by simp only[go_sem, ↓reduceIte,Nat.reduceEqDiff,Nat.reduceAdd,Nat.reduceSub,Nat.reduceLeDiff,reduceCtorEq];rfl) ?_
  rw[qg dg (by simp) (rows':=(fb k L).map yO) (by rw[List.drop_zero,List.take_of_length_le (Nat.le_refl _)];rw[wC]at hR;exact HT 3 hR)]
theorem uS (n:Nat):List.replicate n [AV.int .i64 0]=dv (fun _=>0) n:=by
 refine List.ext_getElem? fun i=>?_
 by_cases h:i<n
 ·rw[e6 h,List.getElem?_replicate,if_pos h];rfl
 ·rw[List.getElem?_eq_none (by simp;omega),List.getElem?_eq_none (by rw[fK];omega)]
def cz (cnt:Nat) (L:Nat->Nat) (i m:Nat):Nat->Nat:=fun x=>if bx L x<i then bx L x else if x∈(members cnt L ((leads cnt L).getD i 0)).take m then i else 0
theorem nO (cnt:Nat) (L:Nat->Nat):cz cnt L 0 0=fun _=>0:=by funext x;simp[cz]
theorem sw (t:Int) (bs:List PB) (k:Nat) (h:k<bs.length):aJ t (bs.take (k+1))=aJ t (bs.take k)++if t<=(bs[k]).s then[bs[k]]else[]:=by
 unfold aJ
 rw[List.take_succ_eq_append_getElem h,List.filter_append]
 congr 1
 by_cases h:t<=bs[k].s<;>simp[h]
theorem uO {t:Int} {bs:List PB} {b:PB} (h:b∈aJ t bs):b∈bs:=(List.mem_filter.1 h).1
theorem mo (t:Int) (bs:List PB):(aJ t bs).length<=bs.length:=List.length_filter_le _ _
theorem Ah (cnt:Nat) (hn:cnt<=1048576) (bs:List PB) (hb:∀b∈bs,b.a<cnt/\b.b<cnt) (pO:bs.length<=1048576) (t:Int):ae Tryz.prog 126 [.int .i64 cnt,.sl (bs.map aA),.int .i64 t] (.iN [.int .i64 (leads cnt (dS (aJ t bs))).length,.sl ((eQ (dS (aJ t bs)) bs).map aA)]):=by
 refine ae.body dK rfl fun hl n0=>?_
 clear hl
 (try((repeat(revert hN;revert N;apply Pn.out));refine wk @Nat.zero_add ?_;(repeat(refine Pn.mk ?_;intro N hN))))
 refine aP (fun n env st=>∃k:Nat,n=(bs.length)-k/\k<=(bs.length)/\env 9=.int .i64 (k:Int)/\(∃o:Id,env 8=.own o 0 (aJ t (bs.take k)).length/\st.get o=some ⟨true,3,(aJ t (bs.take k)).map aA⟩/\o.cq<st.next)) (bs.length) ⟨0,ab,ab,sl @Nat.zero_add,⟨⟨126001000,n0+1⟩,by(simp only[go_sem, ↓reduceIte,Nat.reduceEqDiff,Nat.reduceAdd,Nat.reduceSub,Nat.reduceLeDiff,reduceCtorEq])<;>rfl,by(simp only[go_sem, ↓reduceIte,Nat.reduceEqDiff,Nat.reduceAdd,Nat.reduceSub,Nat.reduceLeDiff,reduceCtorEq])<;>rfl,bt⟩⟩ ?_
 rintro n_a env_a st_a ⟨k,rfl,ale,a9,j0⟩ dm
 have a0:=dm 0 (by kernel_rfl);have a1:=dm 1 (by kernel_rfl);have a2:=dm 2 (by kernel_rfl)
 simp only[go_sem, ↓reduceIte,Nat.reduceEqDiff,Nat.reduceAdd,Nat.reduceSub,Nat.reduceLeDiff,reduceCtorEq]at a0 a1 a2
 clear dm
 obtain⟨o,a8,ag,sJ⟩:=j0
 have jO:=eP sJ
 by_cases hk:(k:Int)<(bs.length:Int)
 ·have bD:∀{e:Env} {gg:Rows} {nx:Nat},(e 9=.int .i64 (IntKind.i64.wrap ((k:Int)+1)))->(∃o:Id,e 8=.own o 0 (aJ t (bs.take (k+1))).length/\gg o=some ⟨true,3,(aJ t (bs.take (k+1))).map aA⟩/\o.cq<nx)->∃m0,m0<(bs.length)-k/\∃k:Nat,m0=(bs.length)-k/\k<=(bs.length)/\e 9=.int .i64 (k:Int)/\(∃o:Id,e 8=.own o 0 (aJ t (bs.take k)).length/\gg o=some ⟨true,3,(aJ t (bs.take k)).map aA⟩/\o.cq<nx):=fun x1 x2=>⟨_,ab,k+1,rfl,ab,(by rw[x1,ay ab]),x2⟩
  have dX:k<bs.length:=ab
  have eD:(bs.map aA)[k]? =some (aA bs[k]):=by simp[dX]
  have hs:=sw t bs k dX
  have s4:=mo t (bs.take k)
  rw[List.length_take]at s4
  by_cases hc:t<=(bs[k]).s
  ·rw[if_pos hc]at hs
   have e1:(aJ t (bs.take k)).length+1<=16777216:=ab
   have gy:((aJ t (bs.take k)).map aA).length=(aJ t (bs.take k)).length:=by simp
   generalize bs[k]=b at *
   (try((repeat(revert hN;revert N;apply Pn.out));refine wk (tw @a9 (tw @a0 (tw @a1 (tw @a2 (tw @a8 (tw @ag (tw @jO (tw @hk (tw @eD (tw @hc (tw @e1 (tw @gy @aA.eq_1)))))))))))) ?_;(repeat(refine Pn.mk ?_;intro N hN))))
   exact bD (sd (tw @a9 (tw @a0 (tw @a1 @a2)))) (⟨⟨126006006,st_a.next+1+1⟩,by rw[hs,List.length_append];simp only[go_sem, ↓reduceIte,Nat.reduceEqDiff,Nat.reduceAdd,Nat.reduceSub,Nat.reduceLeDiff,reduceCtorEq,List.length_cons,List.length_nil],by rw[hs,List.map_append,List.map_cons,List.map_nil];simp only[go_sem, ↓reduceIte,Nat.reduceEqDiff,Nat.reduceAdd,Nat.reduceSub,Nat.reduceLeDiff,reduceCtorEq,aA],bt⟩)
  ·rw[if_neg hc,List.append_nil]at hs
   generalize bs[k]=b at *
   (try((repeat(revert hN;revert N;apply Pn.out));refine wk (tw @a9 (tw @a0 (tw @a1 (tw @a2 (tw @a8 (tw @ag (tw @jO (tw @hk (tw @eD (tw @hc @aA.eq_1)))))))))) ?_;(repeat(refine Pn.mk ?_;intro N hN))))
   exact bD (sd (tw @a9 (tw @a0 (tw @a1 @a2)))) (⟨o,by rw[hs];simp only[go_sem, ↓reduceIte,Nat.reduceEqDiff,Nat.reduceAdd,Nat.reduceSub,Nat.reduceLeDiff,reduceCtorEq,a8],by rw[hs];simp only[go_sem, ↓reduceIte,Nat.reduceEqDiff,Nat.reduceAdd,Nat.reduceSub,Nat.reduceLeDiff,reduceCtorEq,ag],bt⟩)
 have lx:k=bs.length:=ab
 subst lx
 rw[List.take_length]at a8 ag
 have Gg:=Ae cnt hn (aJ t bs) (fun b h=>hb b (uO h)) (by have:=mo t bs;omega)
 have hL:=so (aJ t bs)
 have Dw:fz (dE st_a.get) 6 (.own o 0 (aJ t bs).length)=some (.sl ((aJ t bs).map aA)):=e7 (sz:=3) (by simp[dE,ag]) rfl fun b=>xJ _ 4 b
 have Sy:∀x,cm (dE st_a.get) 6 [.int .i64 x,.own o 0 (aJ t bs).length]=some [.int .i64 x,.sl ((aJ t bs).map aA)]:=fun x=>by simp only[ad,aj,aI,Dw,Option.map_some]
 (try((repeat(revert hN;revert N;apply Pn.out));refine wk (tw @a9 (tw @a0 (tw @a1 (tw @a2 (tw @a8 @hk))))) ?_;(repeat(refine Pn.mk ?_;intro N hN))))
 refine .inl ⟨_,ae.x Gg (Sy _),?_⟩
 refine hN _ _ ?_
 clear hN N
 generalize dS (aJ t bs)=L at *
 have pP:((fb cnt L).map yO).length=(leads cnt L).length:=by simp[fb]
 have Ri:=jt cnt L
 have jo:(0:Int)<=(cnt:Int):=ab
 have oY:(cnt:Int)<=((16777216:Nat):Int):=ab
 have gH:List.replicate cnt [AV.int .i64 0]=dv (cz cnt L 0 0) cnt:=by rw[uS,nO]
 (try((repeat(revert hN;revert N;apply Pn.out));refine wk (tw @a9 (tw @a0 (tw @a1 (tw @a2 (tw @jo (tw @oY @Int.le_refl)))))) ?_;(repeat(refine Pn.mk ?_;intro N hN))))
 refine aP (fun n env st=>∃i:Nat,n=((leads cnt L).length)-i/\i<=((leads cnt L).length)/\env 12=.int .i64 (i:Int)/\st.get ⟨126008001,st_a.next+1+1⟩=some ⟨true,1,dv (cz cnt L i 0) cnt⟩/\(st_a.next+1+1<st.next)) ((leads cnt L).length) ⟨0,ab,ab,sl (tw @a9 (tw @a0 (tw @a1 (tw @a2 @gH)))),sl (tw @a9 (tw @a0 (tw @a1 (tw @a2 @gH)))),bt⟩ ?_
 rintro n_c env_c st_c ⟨i,rfl,cle,xo,cg0,cI0⟩ cfr
 have c1:=cfr 1 (by kernel_rfl);have ji:=cfr 10 (by kernel_rfl);have mU:=cfr 11 (by kernel_rfl)
 simp only[go_sem, ↓reduceIte,Nat.reduceEqDiff,Nat.reduceAdd,Nat.reduceSub,Nat.reduceLeDiff,reduceCtorEq,a9,a0,a1,a2,gH]at c1 ji mU
 clear cfr
 by_cases hi:(i:Int)<((leads cnt L).length:Int)
 ·have gL:∀{e:Env} {gg:Rows} {nx:Nat},(e 12=.int .i64 (IntKind.i64.wrap ((i:Int)+1)))->(gg ⟨126008001,st_a.next+1+1⟩=some ⟨true,1,dv (cz cnt L (i+1) 0) cnt⟩)->(st_a.next+1+1<nx)->∃m0,m0<((leads cnt L).length)-i/\∃i:Nat,m0=((leads cnt L).length)-i/\i<=((leads cnt L).length)/\e 12=.int .i64 (i:Int)/\gg ⟨126008001,st_a.next+1+1⟩=some ⟨true,1,dv (cz cnt L i 0) cnt⟩/\(st_a.next+1+1<nx):=fun x1 x2 x3=>⟨_,ab,i+1,rfl,ab,(by rw[x1,ay ab]),x2,x3⟩
  have fP:i<(leads cnt L).length:=ab
  have oq:((fb cnt L).map yO)[i]? =some (yO (members cnt L (leads cnt L)[i])):=by simp[fb,fP]
  have sZ:(leads cnt L).getD i 0=(leads cnt L)[i]:=by simp[List.getD_eq_getElem?_getD,fP]
  have yS:∀m,cz cnt L i m=fun x=>if bx L x<i then bx L x else if x∈(members cnt L (leads cnt L)[i]).take m then i else 0:=fun m=>by unfold cz;rw[sZ]
  have oM:=fun x (hx:x<cnt)=>rN hL (n:=cnt) (k:=x) (i:=i) hx fP
  have kQ:(members cnt L (leads cnt L)[i]).Nodup:=List.nodup_range.filter _
  have Gi:∀x∈members cnt L (leads cnt L)[i],x<cnt:=fun x hx=>(k8.1 hx).1
  have hMc:(members cnt L (leads cnt L)[i]).length<=cnt:=by
   have:=List.length_filter_le (fun k=>L k==(leads cnt L)[i]) (List.range cnt)
   simpa[members]using this
  generalize members cnt L (leads cnt L)[i]=M at *
  have AW:(M.map eN).length=M.length:=by simp
  (try((repeat(revert hN;revert N;apply Pn.out));refine wk (tw @xo (tw @cg0 (tw @c1 (tw @ji (tw @mU (tw @hi @pP)))))) ?_;(repeat(refine Pn.mk ?_;intro N hN))))
  refine aP (fun n env st=>∃m:Nat,n=(M.length)-m/\m<=(M.length)/\env 13=.int .i64 (m:Int)/\st.get ⟨126008001,st_a.next+1+1⟩=some ⟨true,1,dv (cz cnt L i m) cnt⟩/\(st_a.next+1+1<st.next)) (M.length) ⟨0,ab,ab,sl (tw @xo (tw @cg0 (tw @c1 (tw @ji @mU)))),sl (tw @xo (tw @cg0 (tw @c1 (tw @ji @mU)))),bt⟩ ?_
  rintro n_d env_d st_d ⟨m,rfl,dle,d13,dg0,dI0⟩ dfr
  have d1:=dfr 1 (by kernel_rfl);have d10:=dfr 10 (by kernel_rfl);have d11:=dfr 11 (by kernel_rfl);have d12:=dfr 12 (by kernel_rfl)
  simp only[go_sem, ↓reduceIte,Nat.reduceEqDiff,Nat.reduceAdd,Nat.reduceSub,Nat.reduceLeDiff,reduceCtorEq,xo,cg0,c1,ji,mU]at d1 d10 d11 d12
  clear dfr
  have tl:=fK (cz cnt L i m) cnt
  by_cases hm:(m:Int)<(M.length:Int)
  ·have sr:∀{e:Env} {gg:Rows} {nx:Nat},(e 13=.int .i64 (IntKind.i64.wrap ((m:Int)+1)))->(gg ⟨126008001,st_a.next+1+1⟩=some ⟨true,1,dv (cz cnt L i (m+1)) cnt⟩)->(st_a.next+1+1<nx)->∃m0,m0<(M.length)-m/\∃m:Nat,m0=(M.length)-m/\m<=(M.length)/\e 13=.int .i64 (m:Int)/\gg ⟨126008001,st_a.next+1+1⟩=some ⟨true,1,dv (cz cnt L i m) cnt⟩/\(st_a.next+1+1<nx):=fun x1 x2 x3=>⟨_,ab,m+1,rfl,ab,(by rw[x1,ay ab]),x2,x3⟩
   have xU:m<M.length:=ab
   have tW:(M.map eN)[m]? =some (eN M[m]):=by simp[xU]
   have ue:=Gi _ (List.getElem_mem xU)
   have yV:(M[m]:Int)<(cnt:Int):=ab
   have AZ:=e6 (f:=cz cnt L i m) ue
   have dP:(dv (cz cnt L i m) cnt).set M[m] (eN i)=dv (cz cnt L i (m+1)) cnt:=oD ue (by
    have h1:=(oM _ ue).1 (List.getElem_mem xU)
    rw[yS]
    simp only[]
    rw[if_neg ab,if_pos (by rw[List.take_succ_eq_append_getElem xU];exact List.mem_append_right _ (List.mem_singleton.2 rfl))]) fun x hx gY=>by
    rw[yS,yS]
    simp only[]
    rw[List.take_succ_eq_append_getElem xU]
    simp only[List.mem_append,List.mem_singleton,gY,or_false]
   rw[eN]at dP AZ
   generalize M[m]=xm at *
   (try((repeat(revert hN;revert N;apply Pn.out));refine wk (tw @d13 (tw @dg0 (tw @d1 (tw @d10 (tw @d11 (tw @d12 (tw @hm (tw @hi (tw @oq (tw @pP (tw @tW (tw @AW (tw @yV (tw @AZ (tw @tl (tw @dP (tw @yO.eq_1 @eN.eq_1))))))))))))))))) ?_;(repeat(refine Pn.mk ?_;intro N hN))))
   refine sr ?_ ?_ bt
   all_goals simp only[go_sem, ↓reduceIte,Nat.reduceEqDiff,Nat.reduceAdd,Nat.reduceSub,Nat.reduceLeDiff,reduceCtorEq,d13,dg0,d1,d10,d11,d12,dP]
  ·have gy:m=M.length:=ab
   subst gy
   have ua:dv (cz cnt L i M.length) cnt=dv (cz cnt L (i+1) 0) cnt:=gF fun x hx=>by
    rw[yS,List.take_length]
    simp only[cz,List.take_zero,List.not_mem_nil,if_false]
    have h1:=oM x hx
    by_cases h2:bx L x<i
    ·rw[if_pos h2,if_pos ab]
    ·rw[if_neg h2]
     by_cases h3:x∈M
     ·rw[if_pos h3,if_pos (by have:=h1.1 h3;omega),h1.1 h3]
     ·rw[if_neg h3,if_neg fun h4=>h3 (h1.2 ab)]
   (try((repeat(revert hN;revert N;apply Pn.out));refine wk (tw @d13 (tw @dg0 (tw @d1 (tw @d10 (tw @d11 (tw @d12 (tw @hm (tw @hi (tw @oq (tw @pP (tw @AW @yO.eq_1))))))))))) ?_;(repeat(refine Pn.mk ?_;intro N hN))))
   refine gL ?_ ?_ bt
   all_goals simp only[go_sem, ↓reduceIte,Nat.reduceEqDiff,Nat.reduceAdd,Nat.reduceSub,Nat.reduceLeDiff,reduceCtorEq,xo,cg0,c1,ji,mU,d13,dg0,d1,d10,d11,d12,ua]
 have oZ:i=(leads cnt L).length:=ab
 subst oZ
 have EV:dv (cz cnt L (leads cnt L).length 0) cnt=dv (bx L) cnt:=gF fun x hx=>by rw[cz,if_pos (jL hL hx)]
 rw[EV]at cg0
 have tl:=fK (bx L) cnt
 (try((repeat(revert hN;revert N;apply Pn.out));refine wk (tw @xo (tw @cg0 (tw @c1 (tw @ji (tw @mU (tw @hi @pP)))))) ?_;(repeat(refine Pn.mk ?_;intro N hN))))
 have Q8:st_a.next+1+1<st_c.next:=cI0
 refine aP (fun n env st=>∃j:Nat,n=(bs.length)-j/\j<=(bs.length)/\env 15=.int .i64 (j:Int)/\st.get ⟨126008001,st_a.next+1+1⟩=some ⟨true,1,dv (bx L) cnt⟩/\(∃p:Id,env 14=.own p 0 (eQ L (bs.take j)).length/\st.get p=some ⟨true,3,(eQ L (bs.take j)).map aA⟩/\st_c.next<=p.cq/\p.cq<st.next)) (bs.length) ⟨0,ab,ab,sl (tw @xo (tw @cg0 (tw @c1 (tw @ji @mU)))),sl (tw @xo (tw @cg0 (tw @c1 (tw @ji @mU)))),⟨⟨126016000,st_c.next+1⟩,by(simp only[go_sem, ↓reduceIte,Nat.reduceEqDiff,Nat.reduceAdd,Nat.reduceSub,Nat.reduceLeDiff,reduceCtorEq])<;>rfl,by(simp only[go_sem, ↓reduceIte,Nat.reduceEqDiff,Nat.reduceAdd,Nat.reduceSub,Nat.reduceLeDiff,reduceCtorEq])<;>rfl,bt,bt⟩⟩ ?_
 rintro n_f env_f st_f ⟨j,rfl,fle,f15,fg0,fI0⟩ ffr
 have f1:=ffr 1 (by kernel_rfl);have f10:=ffr 10 (by kernel_rfl);have f11:=ffr 11 (by kernel_rfl)
 simp only[go_sem, ↓reduceIte,Nat.reduceEqDiff,Nat.reduceAdd,Nat.reduceSub,Nat.reduceLeDiff,reduceCtorEq,xo,cg0,c1,ji,mU]at f1 f10 f11
 clear ffr
 obtain⟨p,f14,fg,MZ,Lz⟩:=fI0
 have x1:=dr (a:=⟨126008001,st_a.next+1+1⟩) (b:=p) bt
 have yT:=eP Lz
 have hvn:st_a.next+1+1<st_f.next:=ab
 have HF:=eP (i:=⟨126008001,st_a.next+1+1⟩) (n:=st_f.next) hvn
 have s4:=(mm L (bs.take j)).2
 rw[List.length_take]at s4
 by_cases hj:(j:Int)<(bs.length:Int)
 ·have qy:∀{e:Env} {gg:Rows} {nx:Nat},(e 15=.int .i64 (IntKind.i64.wrap ((j:Int)+1)))->(gg ⟨126008001,st_a.next+1+1⟩=some ⟨true,1,dv (bx L) cnt⟩)->(∃p:Id,e 14=.own p 0 (eQ L (bs.take (j+1))).length/\gg p=some ⟨true,3,(eQ L (bs.take (j+1))).map aA⟩/\st_c.next<=p.cq/\p.cq<nx)->∃m0,m0<(bs.length)-j/\∃j:Nat,m0=(bs.length)-j/\j<=(bs.length)/\e 15=.int .i64 (j:Int)/\gg ⟨126008001,st_a.next+1+1⟩=some ⟨true,1,dv (bx L) cnt⟩/\(∃p:Id,e 14=.own p 0 (eQ L (bs.take j)).length/\gg p=some ⟨true,3,(eQ L (bs.take j)).map aA⟩/\st_c.next<=p.cq/\p.cq<nx):=fun x1 x2 x3=>⟨_,ab,j+1,rfl,ab,(by rw[x1,ay ab]),x2,x3⟩
  have gm:j<bs.length:=ab
  have Gf:(bs.map aA)[j]? =some (aA bs[j]):=by simp[gm]
  have Ln:=hb _ (List.getElem_mem gm)
  have hs:=yq L (bs.take j) bs[j]
  rw[<-List.take_succ_eq_append_getElem gm]at hs
  generalize bs[j]=b at *
  have hA:=e6 (f:=bx L) Ln.1
  have hB:=e6 (f:=bx L) Ln.2
  have gj:(b.a:Int)<(cnt:Int):=ab
  have fC:(b.b:Int)<(cnt:Int):=ab
  have Q2:=Ad (bx L b.a) (bx L b.b)
  have Q3:=Ac (bx L b.a) (bx L b.b)
  rw[eN]at hA hB
  by_cases he:bx L b.a=bx L b.b
  ·rw[if_pos he,List.append_nil]at hs
   have sI:decide ((bx L b.a:Int)=(bx L b.b:Int))=true:=decide_eq_true (by rw[he])
   (try((repeat(revert hN;revert N;apply Pn.out));refine wk (tw @f15 (tw @fg0 (tw @f1 (tw @f10 (tw @f11 (tw @f14 (tw @fg (tw @hj (tw @Gf (tw @hA (tw @hB (tw @gj (tw @fC (tw @tl (tw @sI (tw @x1 (tw @yT @aA.eq_1))))))))))))))))) ?_;(repeat(refine Pn.mk ?_;intro N hN))))
   refine qy ?_ ?_ (⟨p,by rw[hs];simp only[go_sem, ↓reduceIte,Nat.reduceEqDiff,Nat.reduceAdd,Nat.reduceSub,Nat.reduceLeDiff,reduceCtorEq,f14],by rw[hs];simp only[go_sem, ↓reduceIte,Nat.reduceEqDiff,Nat.reduceAdd,Nat.reduceSub,Nat.reduceLeDiff,reduceCtorEq,fg],MZ,bt⟩)
   all_goals simp only[go_sem, ↓reduceIte,Nat.reduceEqDiff,Nat.reduceAdd,Nat.reduceSub,Nat.reduceLeDiff,reduceCtorEq,f15,fg0,f1,f10,f11]
  ·rw[if_neg he]at hs
   have sI:decide ((bx L b.a:Int)=(bx L b.b:Int))=false:=decide_eq_false fun h=>he ab
   have e1:(eQ L (bs.take j)).length+1<=16777216:=ab
   have gy:((eQ L (bs.take j)).map aA).length=(eQ L (bs.take j)).length:=by simp
   (repeat(first|((repeat(revert hN;revert N;apply Pn.out));refine wk (tw @f15 (tw @fg0 (tw @f1 (tw @f10 (tw @f11 (tw @f14 (tw @fg (tw @hj (tw @Gf (tw @hA (tw @hB (tw @gj (tw @fC (tw @tl (tw @sI (tw @x1 (tw @yT (tw @HF (tw @e1 (tw @gy @aA.eq_1)))))))))))))))))))) ?_;(repeat(refine Pn.mk ?_;intro N hN)))|((try apply Or.inl);refine⟨_,ae.x (Q2) (sd (tw @f15 (tw @fg0 (tw @f1 (tw @f10 (tw @f11 (tw @f14 (tw @fg (tw @hj (tw @Gf (tw @hA (tw @hB (tw @gj (tw @fC (tw @tl (tw @sI (tw @x1 (tw @yT (tw @HF (tw @e1 (tw @gy @aA.eq_1))))))))))))))))))))),?_⟩;refine hN _ _ ?_;clear hN N)|((try apply Or.inl);refine⟨_,ae.x (Q3) (sd (tw @f15 (tw @fg0 (tw @f1 (tw @f10 (tw @f11 (tw @f14 (tw @fg (tw @hj (tw @Gf (tw @hA (tw @hB (tw @gj (tw @fC (tw @tl (tw @sI (tw @x1 (tw @yT (tw @HF (tw @e1 (tw @gy @aA.eq_1))))))))))))))))))))),?_⟩;refine hN _ _ ?_;clear hN N)))
   refine qy ?_ ?_ (⟨⟨126023014,st_f.next+1+1+1+1⟩,by rw[hs,List.length_append];simp only[go_sem, ↓reduceIte,Nat.reduceEqDiff,Nat.reduceAdd,Nat.reduceSub,Nat.reduceLeDiff,reduceCtorEq,List.length_cons,List.length_nil],by rw[hs,List.map_append,List.map_cons,List.map_nil];simp only[go_sem, ↓reduceIte,Nat.reduceEqDiff,Nat.reduceAdd,Nat.reduceSub,Nat.reduceLeDiff,reduceCtorEq,aA],bt,bt⟩)
   all_goals simp only[go_sem, ↓reduceIte,Nat.reduceEqDiff,Nat.reduceAdd,Nat.reduceSub,Nat.reduceLeDiff,reduceCtorEq,f15,fg0,f1,f10,f11,x1,HF]
 ·have gN:j=bs.length:=ab
  subst gN
  rw[List.take_length]at f14 fg
  (try((repeat(revert hN;revert N;apply Pn.out));refine wk (tw @f15 (tw @fg0 (tw @f1 (tw @f10 (tw @f11 (tw @f14 (tw @hj @pP))))))) ?_;(repeat(refine Pn.mk ?_;intro N hN))))
  refine jf (.inl rfl) (r1:=.int .i64 ((leads cnt L).length:Int)) (sd @Nat.zero_add) (by simp only[go_sem, ↓reduceIte,Nat.reduceEqDiff,Nat.reduceAdd,Nat.reduceSub,Nat.reduceLeDiff,reduceCtorEq];rfl) ?_
  have h1:fD st_f.get 5 (.own p 0 (eQ L bs).length)=some (.sl ((eQ L bs).map aA)):=fH (sz:=3) fg rfl fun b=>sU _ 3 b
  simp only[eY,br,bV,eC,h1,Option.map_some]
end Go.Proofs.YtihgaadadaekmaaGreatDoor.V

namespace Go.Proofs.YtihgaadadaekmaaGreatDoor.V
def C0 (bs:List PB) (e v:Nat):Prop:=(bU bs e).a=v∨(bU bs e).b=v
def iE (bs:List PB) (m v:Nat):List Nat:=(List.range m).filter fun i=>(bU bs i).a==v||(bU bs i).b==v
theorem qq {bs:List PB} {m v e:Nat}:e∈iE bs m v↔e<m/\C0 bs e v:=by simp[iE,C0]
theorem E6 (bs:List PB) (m v:Nat):iE bs (m+1) v=iE bs m v++if (bU bs m).a=v∨(bU bs m).b=v then[m]else[]:=by
 unfold iE
 rw[List.range_succ,List.filter_append]
 congr 1
 by_cases h:(bU bs m).a=v<;>by_cases h2:(bU bs m).b=v<;>simp[h,h2]
theorem qp (bs:List PB) (m v:Nat):(iE bs m v).length<=m:=by
 have:=List.length_filter_le (fun i=>(bU bs i).a==v||(bU bs i).b==v) (List.range m)
 simpa[iE]using this
def mJ (cnt:Nat) (bs:List PB):Prop:=∀e,e<bs.length->(bU bs e).a<cnt/\(bU bs e).b<cnt/\(bU bs e).a≠(bU bs e).b
theorem nR {cnt:Nat} {bs:List PB} (h:mJ cnt bs) {e v:Nat} (he:e<bs.length):bB bs e v<cnt:=by
 have:=h e he;unfold bB;split;exact this.2.1;exact this.1
theorem Im {cnt:Nat} {bs:List PB} (h:mJ cnt bs) {e v:Nat} (he:e<bs.length) (hi:C0 bs e v):bB bs e v≠v:=by
 have h1:=(h e he).2.2
 unfold bB
 split
 ·rename_i ha;rw[<-ha];exact fun h=>h1 h.symm
 ·rename_i ha;rcases hi with hi|hi
  ·exact absurd hi ha
  ·rw[<-hi];exact h1
theorem wV {bs:List PB} {e v:Nat}:C0 bs e (bB bs e v):=by
 unfold bB C0;split
 ·exact .inr rfl
 ·exact .inl rfl
theorem nS {cnt:Nat} {bs:List PB} (h:mJ cnt bs) {e v:Nat} (he:e<bs.length) (hi:C0 bs e v):bB bs e (bB bs e v)=v:=by
 have h1:=(h e he).2.2
 unfold bB
 by_cases ha:(bU bs e).a=v
 ·rw[if_pos ha,if_neg h1];exact ha
 ·rw[if_neg ha,if_pos rfl]
  rcases hi with hi|hi
  ·exact absurd hi ha
  ·exact hi
structure xh (cnt:Nat) (bs:List PB) (f:Nat->Int) (y:Nat) (out:Nat->Int):Prop where
 lo:∀v,v<cnt->-1<=out v/\out v<=cnt
 first:out y=0
 zero:∀v,v<cnt->out v=0->v=y
 down:∀v,v<cnt->0<out v->∃e,e<bs.length/\C0 bs e v/\0<fw bs f e v/\out (bB bs e v)=out v-1
 shut:∀e v,e<bs.length->C0 bs e v->0<=out (bB bs e v)->0<fw bs f e v->0<=out v
structure yM (cnt:Nat) (bs:List PB) (f:Nat->Int) (y:Nat) (out:Nat->Int) (Q:List Nat) (i:Nat):Prop where
 nd:Q.Nodup
 lt:∀x∈Q,x<cnt
 iff:∀v,v<cnt->(0<=out v↔v∈Q)
 lo:∀v,v<cnt->-1<=out v
 first:out y=0
 up:∀j (h:j<Q.length),out Q[j]<=j
 zero:∀v,v<cnt->out v=0->v=y
 down:∀v,v<cnt->0<out v->∃e,e<bs.length/\C0 bs e v/\0<fw bs f e v/\out (bB bs e v)=out v-1
 shut:∀j (h:j<Q.length),j<i->∀e,e<bs.length->C0 bs e Q[j]->0<fw bs f e (bB bs e Q[j])->0<=out (bB bs e Q[j])
section
variable {cnt:Nat} {bs:List PB} {f:Nat->Int} {y:Nat} {out:Nat->Int} {Q:List Nat} {i:Nat}
theorem yM.start (hy:y<cnt):yM cnt bs f y (fun v=>if v=y then 0 else -1) [y] 0 where
 nd:=by simp
 lt:=fun x hx=>by rw[List.mem_singleton.1 hx];exact hy
 iff:=fun v _=>by
  by_cases h:v=y<;>simp[h]
 lo:=fun v _=>by split<;>omega
 first:=if_pos rfl
 up:=fun j h=>by
  have:j=0:=by simp at h;omega
  subst this;simp
 zero:=fun v _ h=>by
  by_cases hv:v=y
  ·exact hv
  ·rw[if_neg hv]at h;omega
 down:=fun v _ h=>by
  by_cases hv:v=y
  ·rw[if_pos hv]at h;omega
  ·rw[if_neg hv]at h;omega
 shut:=fun j h hj=>by omega
theorem yM.len (h:yM cnt bs f y out Q i):Q.length<=cnt:=nP cnt Q h.nd h.lt
theorem yM.visit (h:yM cnt bs f y out Q i) (ok:mJ cnt bs) (hi:i<Q.length) {e:Nat} (he:e<bs.length) (oN:C0 bs e Q[i]) (jK:out (bB bs e Q[i])<0) (fv:0<fw bs f e (bB bs e Q[i])):
  yM cnt bs f y (fun v=>if v=bB bs e Q[i]then out Q[i]+1 else out v) (Q++[bB bs e Q[i]]) i:=by
 have LC:0<=out Q[i]:=(h.iff _ (h.lt _ (List.getElem_mem hi))).2 (List.getElem_mem hi)
 have hq:=nR ok (v:=Q[i]) he
 have gY:=Im ok he oN
 have Rl:=nS ok he oN
 have SQ:bB bs e Q[i]∉Q:=fun hm=>by have:=(h.iff _ hq).2 hm;omega
 have yS:=h.up i hi
 generalize hw:bB bs e Q[i]=w at *
 have ui:∀v,0<=out v->(if v=w then out Q[i]+1 else out v)=out v:=fun v hv=>by
  rw[if_neg];rintro rfl;omega
 have mono:∀v,0<=out v->0<=(if v=w then out Q[i]+1 else out v):=fun v hv=>by rw[ui v hv];exact hv
 refine⟨?_,?_,?_,?_,?_,?_,?_,?_,?_⟩
 ·rw[List.nodup_append]
  exact⟨h.nd,by simp,fun a ha b hb=>by rw[List.mem_singleton.1 hb];rintro rfl;exact SQ ha⟩
 ·intro x hx
  rcases List.mem_append.1 hx with hx|hx
  ·exact h.lt x hx
  ·rw[List.mem_singleton.1 hx];exact hq
 ·intro v hv
  by_cases Gk:v=w
  ·subst Gk;simp;omega
  ·rw[if_neg Gk,h.iff v hv];simp[Gk]
 ·intro v hv
  by_cases Gk:v=w
  ·rw[if_pos Gk];omega
  ·rw[if_neg Gk];exact h.lo v hv
 ·rw[ui y (by rw[h.first];exact Int.le_refl _)];exact h.first
 ·intro j hj
  by_cases gN:j<Q.length
  ·rw[List.getElem_append_left gN,ui _ ((h.iff _ (h.lt _ (List.getElem_mem gN))).2 (List.getElem_mem gN))]
   exact h.up j gN
  ·have JX:j=Q.length:=by simp at hj;omega
   subst JX
   simp
   omega
 ·intro v hv h0
  by_cases Gk:v=w
  ·rw[if_pos Gk]at h0;omega
  ·rw[if_neg Gk]at h0;exact h.zero v hv h0
 ·intro v hv h0
  by_cases Gk:v=w
  ·subst Gk
   rw[if_pos rfl]
   refine⟨e,he,by rw[<-hw];exact wV,fv,?_⟩
   rw[Rl,ui _ LC];omega
  ·rw[if_neg Gk]at h0 ⊢
   obtain⟨e',h1,h2,h3,h4⟩:=h.down v hv h0
   exact⟨e',h1,h2,h3,by rw[ui _ ab];exact h4⟩
 ·intro j hj lW e' JQ Lt hr
  have gN:j<Q.length:=ab
  rw[List.getElem_append_left gN]at Lt hr ⊢
  exact mono _ (h.shut j gN lW e' JQ Lt hr)
theorem yM.next (h:yM cnt bs f y out Q i) (hi:i<Q.length) (hs:∀e∈iE bs bs.length Q[i],0<fw bs f e (bB bs e Q[i])->0<=out (bB bs e Q[i])):yM cnt bs f y out Q (i+1):=
 ⟨h.nd,h.lt,h.iff,h.lo,h.first,h.up,h.zero,h.down,fun j hj lW e he oN hr=>by
  by_cases JX:j=i
  ·subst JX;exact hs e (qq.2 ⟨he,oN⟩) hr
  ·exact h.shut j hj ab e he oN hr⟩
theorem yM.done (h:yM cnt bs f y out Q i) (ok:mJ cnt bs) (hi:Q.length<=i):xh cnt bs f y out where
 lo:=fun v hv=>⟨h.lo v hv,by
  by_cases h0:0<=out v
  ·obtain⟨j,hj,rfl⟩:=List.getElem_of_mem ((h.iff v hv).1 h0)
   have:=h.up j hj
   have:=h.len
   omega
  ·omega⟩
 first:=h.first
 zero:=h.zero
 down:=h.down
 shut:=fun e v he oN h0 hr=>by
  obtain⟨j,hj,Ow⟩:=List.getElem_of_mem ((h.iff _ (nR ok he)).1 h0)
  have h2:=h.shut j hj ab e he (by rw[Ow];exact wV)
  rw[Ow,nS ok he oN]at h2
  exact h2 hr
end
end Go.Proofs.YtihgaadadaekmaaGreatDoor.V

namespace Go.Proofs.YtihgaadadaekmaaGreatDoor.V
open Go.RowKit
attribute [local irreducible] ea wpOps gS Call
attribute [local go_sem] aM fQ eM gi gh cE upd cu K.av cL AV.cells AV.cell rowOf rowsOf part ld rowAt bY ck dI eh ij bL da eA gp e8 du eo cY cX dV dW bR bm cQ bQ cT cR ej er ek cP bW cZ ei bP aQ cV cC ig bw cH bS aX dG bu dL AV.undef bF bH dY ef dU ec cF ez eF cw ev eu cU cW List.getD_cons_zero List.getD_cons_succ List.getD_nil List.all_cons List.all_nil Bool.and_true Bool.true_and Bool.and_self Bool.not_true Bool.not_false Option.map_some Option.map_none Option.bind_some Option.bind_none List.length_cons List.length_nil List.take_succ_cons List.take_zero List.take_nil List.drop_succ_cons List.drop_zero List.drop_nil List.head?_cons List.map_cons List.map_nil List.getElem?_cons_zero List.getElem?_cons_succ List.cons_append List.nil_append List.append_nil List.length_map List.set_cons_zero List.set_cons_succ Nat.reduceMul eq_self Int.toNat_natCast Int.natCast_nonneg and_self true_and and_true decide_true decide_false Bool.false_eq_true Nat.zero_add Nat.add_zero List.contains_cons List.contains_nil Bool.or_false Bool.false_or beq_self_eq_true Nat.reduceBEq ne_eq not_true_eq_false not_false_eq_true Id.mk.injEq false_and and_false Nat.reduceLT Int.reduceLE Int.reduceLT Int.reduceToNat Int.reduceNeg Int.reduceAdd Nat.le_refl List.length_append beq_true beq_false Bool.not_eq_eq_eq_not or_false false_or dE ad aj aI bE cj aV bf aU bo cN bG
def mD (P:Program) (f:Nat) (args:List AV) (R:AV->Prop):Prop:=∀n:Nat,Call P f args ⟨fun _=>none,n⟩ fun r0 σ'=>∃r',fD σ'.get 6 r0=some r'/\R r'
theorem EN {P:Program} {f:Nat} {args eT:List AV} {g:Rows} {n:Nat} {R:AV->Prop} (hv:cm (dE g) 6 args=some eT) (h:Sound P f eT ⟨fun _=>none,n⟩ fun r0 σ'=>∃r',fD σ'.get 6 r0=some r'/\R r'):Sound P f args ⟨g,n⟩ fun r σ'=>R r/\σ'=⟨g,n⟩:=by
 intro hs D ι w vs S U A
 refine(vT (g0:=g) (K:=R) ⟨eT,hv,h⟩ (fun _ _ h=>h) S U A).mono ?_
 rintro e w' ⟨r,D',u,rfl,hR,T,S',hr⟩
 exact⟨r,g,n,D',ι,u,rfl,⟨hR,rfl⟩,T,S',U,Nat.le_refl _,hr⟩
theorem mD.x {P:Program} (hm:P.follows .mixedOrders=true) {f:Nat} {args eT:List AV} {R:AV->Prop} (h:mD P f eT R) {σ:ax} (hv:cm (dE σ.get) 6 args=some eT):Call P f args σ fun r σ'=>R r/\σ'=σ:=
 iy (EN hv (gP hm (h σ.next)))
theorem mD.body {P:Program} {f:Nat} {args:List AV} {R:AV->Prop} {nt na:Nat} {body:VC} {res:List oF} (hf:kO P f=some ⟨nt,na,body,res⟩) (ha:na=args.length) (h:(∀a∈args,eG a)->∀n:Nat,ea (Call P) body (ll res fun r0 σ'=>∃r',fD σ'.get 6 r0=some r'/\R r') (cu args) ⟨fun _=>none,n⟩):mD P f args R:=fun n=>lD hf ha fun hl=>h hl n
def dJ (f:Nat->Int) (n:Nat):List (List AV):=(List.range n).map fun i=>au (f i)
theorem dt (f:Nat->Int) (n:Nat):(dJ f n).length=n:=by simp[dJ]
theorem dC {f:Nat->Int} {n i:Nat} (h:i<n):(dJ f n)[i]? =some (au (f i)):=by simp[dJ,h]
theorem kG {f g:Nat->Int} {n k:Nat} {v:Int} (hk:k<n) (hv:g k=v) (h:∀i,i<n->i≠k->g i=f i):(dJ f n).set k (au v)=dJ g n:=by
 refine List.ext_getElem? fun i=>?_
 rw[List.getElem?_set]
 by_cases hi:k=i
 ·subst hi
  rw[if_pos rfl,dt,if_pos hk,dC hk,hv]
 ·rw[if_neg hi]
  by_cases fP:i<n
  ·rw[dC fP,dC fP,h i fP (fun h=>hi h.symm)]
  ·rw[List.getElem?_eq_none (by rw[dt];omega),List.getElem?_eq_none (by rw[dt];omega)]
theorem FW (f:Nat->Int) (n:Nat):dJ f (n+1)=dJ f n++[au (f n)]:=by simp[dJ,List.range_succ]
theorem fzI (g:Rows) (n:Nat) (a:Int):cm g (n+1) (au a)=some (au a):=by simp[au,ad,aj,aI]
theorem RU (g:Rows) (n:Nat) (a:Int):dH g (n+1) (au a)=some (au a):=by simp[au,br,bV,eC]
theorem IK {g:Rows} {f:Nat->Int} {n m:Nat}:gK g (m+1) (dJ f n)=some (dJ f n):=by
 have:dJ f n=((List.range n).map f).map au:=by simp[dJ]
 rw[this];exact nI fun x=>RU g m x
theorem yE {g:Rows} {f:Nat->Int} {n m:Nat}:dz g (m+1) (dJ f n)=some (dJ f n):=by
 have:dJ f n=((List.range n).map f).map au:=by simp[dJ]
 rw[this];exact mb fun x=>fzI g m x
def NK (l:List Nat):AV:=if l=[]then .bK else .sl (l.map eN)
def pc (cnt:Nat) (bs:List PB) (m:Nat):List (List AV):=(List.range cnt).map fun v=>[NK (iE bs m v)]
theorem Be {cnt:Nat} {bs:List PB} {m v:Nat} (h:v<cnt):(pc cnt bs m)[v]? =some [NK (iE bs m v)]:=by simp[pc,h]
def fB (cnt:Nat) (bs:List PB) (f:Nat->Int):List AV:=[.int .i64 cnt,.sl (bs.map aA),.sl (pc cnt bs bs.length),.sl (dJ f bs.length)]
theorem sP {bs:List PB} {e:Nat} (h:e<bs.length):(bs.map aA)[e]? =some (aA (bU bs e)):=getD_map aA h
def Small (bs:List PB) (f:Nat->Int):Prop:=∀e,e<bs.length->(0<=(bU bs e).s/\(bU bs e).s<=4)/\-4<=f e/\f e<=4
theorem Ix (cnt:Nat) (bs:List PB) (f:Nat->Int) (hs:Small bs f) (e v:Nat) (he:e<bs.length):ae Tryz.prog 182 [.cJ (fB cnt bs f),.int .i64 v,.int .i64 e] (.iN [.int .i64 (fw bs f e v),.int .i64 (bB bs e v)]):=by
 refine ae.body dK rfl fun hl n0=>?_
 clear hl
 have hb:=sP he
 have hf:=dC (f:=f) he
 obtain⟨⟨s0,s1⟩,s2,s3⟩:=hs e he
 have w1:IntKind.i64.wrap ((bU bs e).s-f e)=(bU bs e).s-f e:=aT ab
 have w2:IntKind.i64.wrap ((bU bs e).s+f e)=(bU bs e).s+f e:=aT ab
 unfold fw bB
 generalize bU bs e=b at *
 by_cases h:b.a=v
 ·have hd:decide ((b.a:Int)=(v:Int))=true:=decide_eq_true (by rw[h])
  (try((repeat(revert hN;revert N;apply Pn.out));refine wk (tw @fB.eq_1 (tw @hb (tw @hf (tw @aA.eq_1 (tw @au.eq_1 (tw @hd (tw @w1 @w2))))))) ?_;(repeat(refine Pn.mk ?_;intro N hN))))
  refine jf (.inl rfl) (by simp only[go_sem, ↓reduceIte,Nat.reduceEqDiff,Nat.reduceAdd,Nat.reduceSub,Nat.reduceLeDiff,reduceCtorEq];rfl) (by simp only[go_sem, ↓reduceIte,Nat.reduceEqDiff,Nat.reduceAdd,Nat.reduceSub,Nat.reduceLeDiff,reduceCtorEq];rfl) ?_
  simp only[eY,br,bV,eC,Option.map_some,if_pos h]
 ·have hd:decide ((b.a:Int)=(v:Int))=false:=decide_eq_false fun hc=>h ab
  (try((repeat(revert hN;revert N;apply Pn.out));refine wk (tw @fB.eq_1 (tw @hb (tw @hf (tw @aA.eq_1 (tw @au.eq_1 (tw @hd (tw @w1 @w2))))))) ?_;(repeat(refine Pn.mk ?_;intro N hN))))
  refine jf (.inl rfl) (by simp only[go_sem, ↓reduceIte,Nat.reduceEqDiff,Nat.reduceAdd,Nat.reduceSub,Nat.reduceLeDiff,reduceCtorEq];rfl) (by simp only[go_sem, ↓reduceIte,Nat.reduceEqDiff,Nat.reduceAdd,Nat.reduceSub,Nat.reduceLeDiff,reduceCtorEq];rfl) ?_
  simp only[eY,br,bV,eC,Option.map_some,if_neg h]
theorem DZ (cnt:Nat) (hn:cnt<=1048576) (bs:List PB) (ok:mJ cnt bs) (pO:bs.length<=1048576) (f:Nat->Int) (hs:Small bs f) (y:Nat) (hy:y<cnt):
  mD Tryz.prog 167 [.cJ (fB cnt bs f),.int .i64 y] fun r=>∃out,r=.sl (dJ out cnt)/\xh cnt bs f y out:=by
 refine mD.body dK rfl fun hl n0=>?_
 clear hl
 (try((repeat(revert hN;revert N;apply Pn.out));refine wk @fB.eq_1 ?_;(repeat(refine Pn.mk ?_;intro N hN))))
 refine aP (fun n env st=>∃k:Nat,n=(cnt)-k/\k<=(cnt)/\env 6=.int .i64 (k:Int)/\(∃o:Id,env 5=.own o 0 k/\st.get o=some ⟨true,1,dJ (fun _=>-1) k⟩/\o.cq<st.next)) (cnt) ⟨0,ab,ab,sl @fB.eq_1,⟨⟨167001000,n0+1⟩,by(simp only[go_sem, ↓reduceIte,Nat.reduceEqDiff,Nat.reduceAdd,Nat.reduceSub,Nat.reduceLeDiff,reduceCtorEq])<;>rfl,by(simp only[go_sem, ↓reduceIte,Nat.reduceEqDiff,Nat.reduceAdd,Nat.reduceSub,Nat.reduceLeDiff,reduceCtorEq])<;>rfl,bt⟩⟩ ?_
 rintro n_a env_a st_a ⟨k,rfl,ale,a6,j0⟩ dm
 have a0:=dm 0 (by kernel_rfl);have a1:=dm 1 (by kernel_rfl)
 simp only[go_sem, ↓reduceIte,Nat.reduceEqDiff,Nat.reduceAdd,Nat.reduceSub,Nat.reduceLeDiff,reduceCtorEq,fB]at a0 a1
 clear dm
 obtain⟨o,a5,ag,sJ⟩:=j0
 have tl:=dt (fun _=>-1) k
 have jO:=eP sJ
 by_cases hk:(k:Int)<(cnt:Int)
 ·have bD:∀{e:Env} {gg:Rows} {nx:Nat},(e 6=.int .i64 (IntKind.i64.wrap ((k:Int)+1)))->(∃o:Id,e 5=.own o 0 (k+1)/\gg o=some ⟨true,1,dJ (fun _=>-1) (k+1)⟩/\o.cq<nx)->∃m0,m0<(cnt)-k/\∃k:Nat,m0=(cnt)-k/\k<=(cnt)/\e 6=.int .i64 (k:Int)/\(∃o:Id,e 5=.own o 0 k/\gg o=some ⟨true,1,dJ (fun _=>-1) k⟩/\o.cq<nx):=fun x1 x2=>⟨_,ab,k+1,rfl,ab,(by rw[x1,ay ab]),x2⟩
  have e1:k+1<=16777216:=ab
  have rH:dJ (fun _=>-1) k++[[.int .i64 (-1)]]=dJ (fun _=>-1) (k+1):=(FW _ _).symm
  (try((repeat(revert hN;revert N;apply Pn.out));refine wk (tw @a6 (tw @a0 (tw @a1 (tw @a5 (tw @ag (tw @jO (tw @hk (tw @tl (tw @e1 (tw @rH @fB.eq_1)))))))))) ?_;(repeat(refine Pn.mk ?_;intro N hN))))
  exact bD (sd (tw @a6 (tw @a0 (tw @a1 @fB.eq_1)))) (⟨⟨167005002,st_a.next+1⟩,sd @Nat.zero_add,sd @rH,bt⟩)
 have lx:k=cnt:=ab
 subst lx
 have Rs:(y:Int)<(k:Int):=ab
 have hym:=dC (f:=fun _=>-1) hy
 have z5:(dJ (fun _=>-1) k).set y (au 0)=dJ (fun v=>if v=y then 0 else -1) k:=kG hy (if_pos rfl) fun i _ hi=>if_neg hi
 rw[au]at z5 hym
 (try((repeat(revert hN;revert N;apply Pn.out));refine wk (tw @a6 (tw @a0 (tw @a1 (tw @a5 (tw @ag (tw @jO (tw @hk (tw @tl (tw @Rs (tw @hym (tw @z5 @fB.eq_1))))))))))) ?_;(repeat(refine Pn.mk ?_;intro N hN))))
 refine aP (fun m env st=>∃(i:Nat) (out:Nat->Int) (Q:List Nat) (p:Id),m=k-i/\env 8=.int .i64 (i:Int)/\env 7=.own p 0 Q.length/\st.get p=some ⟨true,1,Q.map eN⟩/\st.get o=some ⟨true,1,dJ out k⟩/\o.cq<p.cq/\p.cq<st.next/\yM k bs f y out Q i/\i<=Q.length) k ⟨0,_,[y],⟨167007001,st_a.next+1+1⟩,ab,by(simp only[go_sem, ↓reduceIte,Nat.reduceEqDiff,Nat.reduceAdd,Nat.reduceSub,Nat.reduceLeDiff,reduceCtorEq])<;>rfl,by(simp only[go_sem, ↓reduceIte,Nat.reduceEqDiff,Nat.reduceAdd,Nat.reduceSub,Nat.reduceLeDiff,reduceCtorEq])<;>rfl,by(simp only[go_sem, ↓reduceIte,Nat.reduceEqDiff,Nat.reduceAdd,Nat.reduceSub,Nat.reduceLeDiff,reduceCtorEq])<;>rfl,sd @jO,bt,bt,yM.start hy,by simp⟩ ?_
 rintro n env_b st_b ⟨i,out,Q,p,rfl,b8,b7,bgp,bgo,dO,SY,hB,hiq⟩ bfr
 have b0:=bfr 0 (by kernel_rfl)
 have b5:=bfr 5 (by kernel_rfl)
 simp only[go_sem, ↓reduceIte,Nat.reduceEqDiff,Nat.reduceAdd,Nat.reduceSub,Nat.reduceLeDiff,reduceCtorEq,a6,a0,a1,a5,fB]at b0 b5
 clear bfr
 have hql:=hB.len
 have Rw:=dt out k
 have hqm:(Q.map eN).length=Q.length:=by simp
 have yT:=eP SY
 have oP:=eP (i:=o) (n:=st_b.next) ab
 by_cases hi:(i:Int)<(Q.length:Int)
 ·have fP:i<Q.length:=ab
  have oq:(Q.map eN)[i]? =some (eN Q[i]):=by simp[fP]
  have LC:=hB.lt _ (List.getElem_mem fP)
  obtain⟨vt,Nc⟩:∃vt,vt=Q[i]:=⟨_,rfl⟩
  rw[<-Nc]at oq LC
  have hA:=Be (cnt:=k) (bs:=bs) (m:=bs.length) LC
  have J7:(vt:Int)<(k:Int):=ab
  have oZ:=qp bs bs.length vt
  have hme:∀x,x<(iE bs bs.length vt).length->(iE bs bs.length vt).getD x 0<bs.length/\C0 bs ((iE bs bs.length vt).getD x 0) vt:=fun x hx=>by
   rw[List.getD_eq_getElem?_getD,List.getElem?_eq_getElem hx]
   exact qq.1 (List.getElem_mem hx)
  have P3:∀e∈iE bs bs.length vt,∃x,x<(iE bs bs.length vt).length/\(iE bs bs.length vt).getD x 0=e:=fun e he=>by
   obtain⟨x,hx,rfl⟩:=List.getElem_of_mem he
   exact⟨x,hx,by rw[List.getD_eq_getElem?_getD,List.getElem?_eq_getElem hx];rfl⟩
  generalize hIn:iE bs bs.length vt=I at *
  unfold NK at hA
  by_cases Sb:I=[]
  ·rw[if_pos Sb]at hA
   have hI1:I.length=0:=by rw[Sb];rfl
   (try((repeat(revert hN;revert N;apply Pn.out));refine wk (tw @b0 (tw @b5 (tw @b7 (tw @b8 (tw @bgp (tw @hi (tw @oq (tw @hqm (tw @eN.eq_1 @fB.eq_1))))))))) ?_;(repeat(refine Pn.mk ?_;intro N hN))))
   refine aP (fun n env st=>∃x:Nat,n=(I.length)-x/\x<=(I.length)/\env 10=.int .i64 (x:Int)/\(∃(im:Nat->Int) (Q':List Nat) (p':Id),env 7=.own p' 0 Q'.length/\st.get p'=some ⟨true,1,Q'.map eN⟩/\st.get o=some ⟨true,1,dJ im k⟩/\o.cq<p'.cq/\p'.cq<st.next/\yM k bs f y im Q' i/\(∃h:i<Q'.length,Q'[i]=vt)/\(∀z,z<x->0<fw bs f (I.getD z 0) (bB bs (I.getD z 0) vt)->0<=im (bB bs (I.getD z 0) vt)))) (I.length) ⟨0,ab,ab,sl (tw @b0 (tw @b5 (tw @b8 @fB.eq_1))),⟨out,Q,p,sd @b7,sd @bgp,sd @bgo,dO,bt,hB,⟨fP,Nc.symm⟩,fun z hz=>ab⟩⟩ ?_
   rintro n_c env_c st_c ⟨x,rfl,cle,ji,cI0⟩ cfr
   have c0:=cfr 0 (by kernel_rfl);have c5:=cfr 5 (by kernel_rfl);have c8:=cfr 8 (by kernel_rfl);have c9:=cfr 9 (by kernel_rfl)
   simp only[go_sem, ↓reduceIte,Nat.reduceEqDiff,Nat.reduceAdd,Nat.reduceSub,Nat.reduceLeDiff,reduceCtorEq,b0,b5,b8,fB]at c0 c5 c8 c9
   clear cfr
   obtain⟨im,Q',p',c7,GW,wc,B3,M0,dx,⟨vB,pA⟩,Jm⟩:=cI0
   have SZ:=dx.len
   have NP:=dt im k
   have M3:(Q'.map eN).length=Q'.length:=by simp
   have xX:=eP M0
   have lK:=eP (i:=o) (n:=st_c.next) ab
   have x1:=dr B3
   have hx:¬(x:Int)<((0:Nat):Int):=ab
   have hxe:x=I.length:=ab
   have hw:IntKind.i64.wrap ((i:Int)+1)=((i+1:Nat):Int):=ay ab
   (try((repeat(revert hN;revert N;apply Pn.out));refine wk (tw @ji (tw @c0 (tw @c5 (tw @c8 (tw @c9 (tw @c7 (tw @hx (tw @hA (tw @J7 @fB.eq_1))))))))) ?_;(repeat(refine Pn.mk ?_;intro N hN))))
   refine⟨_,?_,i+1,im,Q',p',rfl,sd (tw @ji (tw @c0 (tw @c5 (tw @c8 (tw @c9 @hw))))),sd @c7,sd @GW,sd @wc,B3,bt,dx.next vB fun e he hr=>?_,ab⟩
   ·omega
   ·rw[pA,hIn]at he
    rw[pA]at hr ⊢
    obtain⟨z,hz,rfl⟩:=P3 e he
    exact Jm z ab hr
  ·rw[if_neg Sb]at hA
   have pw:(I.map eN).length=I.length:=by simp
   (try((repeat(revert hN;revert N;apply Pn.out));refine wk (tw @b0 (tw @b5 (tw @b7 (tw @b8 (tw @bgp (tw @hi (tw @oq (tw @hqm (tw @eN.eq_1 @fB.eq_1))))))))) ?_;(repeat(refine Pn.mk ?_;intro N hN))))
   refine aP (fun n env st=>∃x:Nat,n=(I.length)-x/\x<=(I.length)/\env 10=.int .i64 (x:Int)/\(∃(im:Nat->Int) (Q':List Nat) (p':Id),env 7=.own p' 0 Q'.length/\st.get p'=some ⟨true,1,Q'.map eN⟩/\st.get o=some ⟨true,1,dJ im k⟩/\o.cq<p'.cq/\p'.cq<st.next/\yM k bs f y im Q' i/\(∃h:i<Q'.length,Q'[i]=vt)/\(∀z,z<x->0<fw bs f (I.getD z 0) (bB bs (I.getD z 0) vt)->0<=im (bB bs (I.getD z 0) vt)))) (I.length) ⟨0,ab,ab,sl (tw @b0 (tw @b5 (tw @b8 @fB.eq_1))),⟨out,Q,p,sd @b7,sd @bgp,sd @bgo,dO,bt,hB,⟨fP,Nc.symm⟩,fun z hz=>ab⟩⟩ ?_
   rintro n_c env_c st_c ⟨x,rfl,cle,ji,cI0⟩ cfr
   have c0:=cfr 0 (by kernel_rfl);have c5:=cfr 5 (by kernel_rfl);have c8:=cfr 8 (by kernel_rfl);have c9:=cfr 9 (by kernel_rfl)
   simp only[go_sem, ↓reduceIte,Nat.reduceEqDiff,Nat.reduceAdd,Nat.reduceSub,Nat.reduceLeDiff,reduceCtorEq,b0,b5,b8,fB]at c0 c5 c8 c9
   clear cfr
   obtain⟨im,Q',p',c7,GW,wc,B3,M0,dx,⟨vB,pA⟩,Jm⟩:=cI0
   have SZ:=dx.len
   have NP:=dt im k
   have M3:(Q'.map eN).length=Q'.length:=by simp
   have xX:=eP M0
   have lK:=eP (i:=o) (n:=st_c.next) ab
   have x1:=dr B3
   by_cases hx:(x:Int)<(I.length:Int)
   ·have gL:∀{e:Env} {gg:Rows} {nx:Nat},(e 10=.int .i64 (IntKind.i64.wrap ((x:Int)+1)))->(∃(im:Nat->Int) (Q':List Nat) (p':Id),e 7=.own p' 0 Q'.length/\gg p'=some ⟨true,1,Q'.map eN⟩/\gg o=some ⟨true,1,dJ im k⟩/\o.cq<p'.cq/\p'.cq<nx/\yM k bs f y im Q' i/\(∃h:i<Q'.length,Q'[i]=vt)/\(∀z,z<(x+1)->0<fw bs f (I.getD z 0) (bB bs (I.getD z 0) vt)->0<=im (bB bs (I.getD z 0) vt)))->∃m0,m0<(I.length)-x/\∃x:Nat,m0=(I.length)-x/\x<=(I.length)/\e 10=.int .i64 (x:Int)/\(∃(im:Nat->Int) (Q':List Nat) (p':Id),e 7=.own p' 0 Q'.length/\gg p'=some ⟨true,1,Q'.map eN⟩/\gg o=some ⟨true,1,dJ im k⟩/\o.cq<p'.cq/\p'.cq<nx/\yM k bs f y im Q' i/\(∃h:i<Q'.length,Q'[i]=vt)/\(∀z,z<x->0<fw bs f (I.getD z 0) (bB bs (I.getD z 0) vt)->0<=im (bB bs (I.getD z 0) vt))):=fun x1 x2=>⟨_,ab,x+1,rfl,ab,(by rw[x1,ay ab]),x2⟩
    have ON:x<I.length:=ab
    have Mw:(I.map eN)[x]? =some (eN (I.getD x 0)):=getD_map eN ON
    obtain⟨he,oN⟩:=hme x ON
    obtain⟨e,Rb⟩:∃e,e=I.getD x 0:=⟨_,rfl⟩
    rw[<-Rb]at Mw he oN
    have il:=sP he
    have hq:=nR ok (v:=vt) he
    have Rl:=nS ok he oN
    have M6:=Ix k bs f hs e (bB bs e vt) he
    have PN:=ok e he
    have pB:IntKind.i64.wrap (((bU bs e).a:Int)+((bU bs e).b:Int))=((bU bs e).a:Int)+((bU bs e).b:Int):=aT ab
    have wI:IntKind.i64.wrap (((bU bs e).a:Int)+((bU bs e).b:Int)-(vt:Int))=(bB bs e vt:Int):=by
     rw[aT ab]
     unfold bB
     rcases oN with h1|h1
     ·rw[if_pos h1];omega
     ·rw[if_neg fun h2=>PN.2.2 (h2.trans h1.symm)];omega
    have OF:(bB bs e vt:Int)<(k:Int):=ab
    have MM:=dC (f:=im) hq
    have JV:=dC (f:=im) LC
    rw[fB]at M6
    have yS:=dx.up i vB
    rw[pA]at yS
    have jV:=dx.lo vt LC
    have Qh:IntKind.i64.wrap (im vt+1)=im vt+1:=aT ab
    rw[au]at MM JV
    generalize zT:bU bs e=b at *
    by_cases jK:im (bB bs e vt)<0
    ·by_cases fv:0<fw bs f e (bB bs e vt)
     ·have hV:=dx.visit ok vB (e:=e) he (by rw[pA];exact oN) (by rw[pA];exact jK) (by rw[pA];exact fv)
      rw[pA]at hV
      have dP:(dJ im k).set (bB bs e vt) (au (im vt+1))=dJ (fun v=>if v=bB bs e vt then im vt+1 else im v) k:=kG hq (if_pos rfl) fun v _ hv=>if_neg hv
      rw[au]at dP
      have e1:Q'.length+1<=16777216:=ab
      (repeat(first|((repeat(revert hN;revert N;apply Pn.out));refine wk (tw @ji (tw @c0 (tw @c5 (tw @c8 (tw @c9 (tw @c7 (tw @GW (tw @wc (tw @hx (tw @hA (tw @pw (tw @Mw (tw @J7 (tw @il (tw @pB (tw @wI (tw @OF (tw @MM (tw @JV (tw @jK (tw @fv (tw @Qh (tw @dP (tw @M3 (tw @NP (tw @xX (tw @lK (tw @x1 (tw @e1 (tw @eN.eq_1 (tw @aA.eq_1 @fB.eq_1))))))))))))))))))))))))))))))) ?_;(repeat(refine Pn.mk ?_;intro N hN)))|((try apply Or.inl);refine⟨_,ae.x (M6) (sd (tw @ji (tw @c0 (tw @c5 (tw @c8 (tw @c9 (tw @c7 (tw @GW (tw @wc (tw @hx (tw @hA (tw @pw (tw @Mw (tw @J7 (tw @il (tw @pB (tw @wI (tw @OF (tw @MM (tw @JV (tw @jK (tw @fv (tw @Qh (tw @dP (tw @M3 (tw @NP (tw @xX (tw @lK (tw @x1 (tw @e1 (tw @eN.eq_1 (tw @aA.eq_1 @fB.eq_1)))))))))))))))))))))))))))))))),?_⟩;refine hN _ _ ?_;clear hN N)))
      exact gL (sd (tw @ji (tw @c0 (tw @c5 (tw @c8 @c9))))) (⟨_,Q'++[bB bs e vt],⟨167020003,st_c.next+1+1+1+1+1+1⟩,by rw[List.length_append];simp only[go_sem, ↓reduceIte,Nat.reduceEqDiff,Nat.reduceAdd,Nat.reduceSub,Nat.reduceLeDiff,reduceCtorEq,List.length_cons,List.length_nil],by rw[List.map_append,List.map_cons,List.map_nil];simp only[go_sem, ↓reduceIte,Nat.reduceEqDiff,Nat.reduceAdd,Nat.reduceSub,Nat.reduceLeDiff,reduceCtorEq,eN],sd (tw @lK @x1),bt,bt,hV,⟨by simp;omega,by rw[List.getElem_append_left vB];exact pA⟩,fun z hz hr=>by
       by_cases Qn:z=x
       ·subst Qn
        rw[<-Rb,if_pos rfl]
        have:=(dx.iff vt LC).2 (by rw[<-pA];exact List.getElem_mem vB)
        omega
       ·have:=Jm z ab hr
        split
        ·have:=(dx.iff vt LC).2 (by rw[<-pA];exact List.getElem_mem vB)
         omega
        ·exact this⟩)
     ·(repeat(first|((repeat(revert hN;revert N;apply Pn.out));refine wk (tw @ji (tw @c0 (tw @c5 (tw @c8 (tw @c9 (tw @c7 (tw @GW (tw @wc (tw @hx (tw @hA (tw @pw (tw @Mw (tw @J7 (tw @il (tw @pB (tw @wI (tw @OF (tw @MM (tw @jK (tw @fv (tw @NP (tw @xX (tw @lK (tw @x1 (tw @eN.eq_1 (tw @aA.eq_1 @fB.eq_1)))))))))))))))))))))))))) ?_;(repeat(refine Pn.mk ?_;intro N hN)))|((try apply Or.inl);refine⟨_,ae.x (M6) (sd (tw @ji (tw @c0 (tw @c5 (tw @c8 (tw @c9 (tw @c7 (tw @GW (tw @wc (tw @hx (tw @hA (tw @pw (tw @Mw (tw @J7 (tw @il (tw @pB (tw @wI (tw @OF (tw @MM (tw @jK (tw @fv (tw @NP (tw @xX (tw @lK (tw @x1 (tw @eN.eq_1 (tw @aA.eq_1 @fB.eq_1))))))))))))))))))))))))))),?_⟩;refine hN _ _ ?_;clear hN N)))
      exact gL (sd (tw @ji (tw @c0 (tw @c5 (tw @c8 @c9))))) (⟨im,Q',p',sd @c7,sd (tw @GW @xX),sd (tw @wc @lK),B3,bt,dx,⟨vB,pA⟩,fun z hz hr=>by
       by_cases Qn:z=x
       ·subst Qn;rw[<-Rb]at hr;exact absurd hr fv
       ·exact Jm z ab hr⟩)
    ·(repeat(first|((repeat(revert hN;revert N;apply Pn.out));refine wk (tw @ji (tw @c0 (tw @c5 (tw @c8 (tw @c9 (tw @c7 (tw @GW (tw @wc (tw @hx (tw @hA (tw @pw (tw @Mw (tw @J7 (tw @il (tw @pB (tw @wI (tw @OF (tw @MM (tw @jK (tw @NP (tw @xX (tw @lK (tw @x1 (tw @eN.eq_1 (tw @aA.eq_1 @fB.eq_1))))))))))))))))))))))))) ?_;(repeat(refine Pn.mk ?_;intro N hN)))|((try apply Or.inl);refine⟨_,ae.x (M6) (sd (tw @ji (tw @c0 (tw @c5 (tw @c8 (tw @c9 (tw @c7 (tw @GW (tw @wc (tw @hx (tw @hA (tw @pw (tw @Mw (tw @J7 (tw @il (tw @pB (tw @wI (tw @OF (tw @MM (tw @jK (tw @NP (tw @xX (tw @lK (tw @x1 (tw @eN.eq_1 (tw @aA.eq_1 @fB.eq_1)))))))))))))))))))))))))),?_⟩;refine hN _ _ ?_;clear hN N)))
     exact gL (sd (tw @ji (tw @c0 (tw @c5 (tw @c8 @c9))))) (⟨im,Q',p',sd @c7,sd (tw @GW @xX),sd (tw @wc @lK),B3,bt,dx,⟨vB,pA⟩,fun z hz hr=>by
      by_cases Qn:z=x
      ·subst Qn;rw[<-Rb];omega
      ·exact Jm z ab hr⟩)
   ·have hxe:x=I.length:=ab
    have hw:IntKind.i64.wrap ((i:Int)+1)=((i+1:Nat):Int):=ay ab
    (try((repeat(revert hN;revert N;apply Pn.out));refine wk (tw @ji (tw @c0 (tw @c5 (tw @c8 (tw @c9 (tw @c7 (tw @hx (tw @hA (tw @pw (tw @J7 @fB.eq_1)))))))))) ?_;(repeat(refine Pn.mk ?_;intro N hN))))
    refine⟨_,?_,i+1,im,Q',p',rfl,sd (tw @ji (tw @c0 (tw @c5 (tw @c8 (tw @c9 @hw))))),sd @c7,sd @GW,sd @wc,B3,bt,dx.next vB fun e he hr=>?_,ab⟩
    ·omega
    ·rw[pA,hIn]at he
     rw[pA]at hr ⊢
     obtain⟨z,hz,rfl⟩:=P3 e he
     exact Jm z ab hr
 ·(try((repeat(revert hN;revert N;apply Pn.out));refine wk (tw @b0 (tw @b5 (tw @b7 (tw @b8 (tw @hi @fB.eq_1))))) ?_;(repeat(refine Pn.mk ?_;intro N hN))))
  have rF:fD st_b.get 6 (.own o 0 k)=some (.sl (dJ out k)):=qg bgo (by rw[Rw];omega) (by rw[List.drop_zero,List.take_of_length_le (by rw[Rw];omega)];exact IK)
  exact⟨_,rfl,_,by simp only[go_sem, ↓reduceIte,Nat.reduceEqDiff,Nat.reduceAdd,Nat.reduceSub,Nat.reduceLeDiff,reduceCtorEq,eB];exact rF,out,rfl,hB.done ok ab⟩
end Go.Proofs.YtihgaadadaekmaaGreatDoor.V

namespace Go.Proofs.YtihgaadadaekmaaGreatDoor.V
open Go.RowKit
attribute [local irreducible] ea wpOps gS Call
attribute [local go_sem] aM fQ eM gi gh cE upd cu K.av cL AV.cells AV.cell rowOf rowsOf part ld rowAt bY ck dI eh ij bL da eA gp e8 du eo cY cX dV dW bR bm cQ bQ cT cR ej er ek cP bW cZ ei bP aQ cV cC ig bw cH bS aX dG bu dL AV.undef bF bH dY ef dU ec cF ez eF cw ev eu cU cW List.getD_cons_zero List.getD_cons_succ List.getD_nil List.all_cons List.all_nil Bool.and_true Bool.true_and Bool.and_self Bool.not_true Bool.not_false Option.map_some Option.map_none Option.bind_some Option.bind_none List.length_cons List.length_nil List.take_succ_cons List.take_zero List.take_nil List.drop_succ_cons List.drop_zero List.drop_nil List.head?_cons List.map_cons List.map_nil List.getElem?_cons_zero List.getElem?_cons_succ List.cons_append List.nil_append List.append_nil List.length_map List.set_cons_zero List.set_cons_succ eq_self Int.toNat_natCast Int.natCast_nonneg and_self true_and and_true decide_true decide_false Bool.false_eq_true Nat.zero_add Nat.add_zero List.contains_cons List.contains_nil Bool.or_false Bool.false_or beq_self_eq_true ne_eq not_true_eq_false not_false_eq_true Id.mk.injEq false_and and_false Nat.le_refl List.length_append beq_true beq_false Bool.not_eq_eq_eq_not or_false false_or dE ad aj aI bE cj aV bf aU bo cN bG
def Og:uZ (List Nat):=fun g cs x ids=>(x=[]/\cs=[.bK]/\ids=[])∨∃id,cs=[.own id 0 x.length]/\0<x.length/\g id=some ⟨true,1,x.map eN⟩/\ids=[id]
theorem LI:pR Og 1 where
 frame:=fun h hf=>by
  rcases h with h|⟨id,h1,h0,h2,h3⟩
  ·exact .inl h
  ·subst h3;exact .inr ⟨id,h1,h0,(hf id (by simp)).trans h2,rfl⟩
 len:=fun h=>by rcases h with⟨_,h,_⟩|⟨id,h,_⟩<;>subst h<;>rfl
 cell:=fun h=>by rcases h with⟨_,h,_⟩|⟨id,h,_⟩<;>subst h<;>rfl
 live:=fun h i hi=>by
  rcases h with⟨_,_,h⟩|⟨id,h1,h0,h2,h3⟩
  ·subst h;cases hi
  ·subst h3
   have:i=id:=by simpa using hi
   subst this
   exact⟨_,h2,rfl,by simp[nN]⟩
 small:=by simp[nN]
theorem Nq {g:Rows} {rows:List (List AV)} {xs:List (List Nat)} {ids:List Id} (n:Nat) (h:dw Og g rows xs ids):dz (dE g) (n+2) rows=some (xs.map fun l=>[NK l]):=
 h.fz (fun {cs x ids} h=>by
  rcases h with⟨h0,h1,_⟩|⟨id,h1,h0,h2,_⟩
  ·subst h0 h1;rw[ad,aj,aV];rfl
  ·have gY:x≠[]:=by rintro rfl;simp at h0
   subst h1
   rw[ad,aj,e7 (e:=eN) (sz:=1) (by simp[dE,h2]) rfl fun a=>fzN _ n a]
   simp[NK,gY])
theorem dw.QB {α:Type} {R:uZ α} {sz:Nat} {g:Rows} {rows:List (List AV)} {xs:List α} {ids:List Id} (ok:pR R sz) (h:dw R g rows xs ids) (kQ:ids.Nodup) (k:Nat) (hk:k<xs.length):
  ∃cs ic,rows[k]? =some cs/\R g cs xs[k] ic/\(∀i∈ic,i∈ids)/\∀(g':Rows) oh x' OP,R g' oh x' OP->(∀i∈ids,i∉ic->g' i=g i)->OP.Nodup->(∀i∈OP,i∉ids)->∃B8,dw R g' (rows.set k oh) (xs.set k x') B8/\B8.Nodup/\∀i∈B8,i∈OP∨i∈ids:=by
 obtain⟨r1,cs,r2,i1,ic,i2,rfl,rfl,rfl,h3,h4,h5⟩:=h.split k hk
 obtain⟨n1,n2,n3⟩:=List.nodup_append.1 kQ
 obtain⟨nc,n5,n4⟩:=List.nodup_append.1 n2
 refine⟨cs,ic,by simp,h4,fun i hi=>by simp[hi],fun g' oh x' OP hR hf hn' km=>⟨i1++(OP++i2),?_,?_,fun i hi=>?_⟩⟩
 ·have e:xs.set r1.length x'=xs.take r1.length++x'::xs.drop (r1.length+1):=by rw[List.set_eq_take_append_cons_drop,if_pos hk]
  have e2:(r1++cs::r2).set r1.length oh=r1++oh::r2:=by simp
  rw[e,e2]
  refine(h3.frame ok fun i hi=>hf i (by simp[hi]) fun hc=>n3 i hi i (by simp[hc]) rfl).app (.cons hR (h5.frame ok fun i hi=>hf i (by simp[hi]) fun hc=>n4 i hc i hi rfl))
 ·rw[List.nodup_append,List.nodup_append]
  refine⟨n1,⟨hn',n5,fun x hx y hy he=>?_⟩,fun x hx y hy he=>?_⟩
  ·subst he;exact km x hx (by simp[hy])
  ·subst he
   rcases List.mem_append.1 hy with hy|hy
   ·exact km x hy (by simp[hx])
   ·exact n3 x hx x (by simp[hy]) rfl
 ·rcases List.mem_append.1 hi with hi|hi
  ·exact .inr (by simp[hi])
  ·rcases List.mem_append.1 hi with hi|hi
   ·exact .inl hi
   ·exact .inr (by simp[hi])
def pS (A:Id) (lo:Nat) (L:List (List Nat)) (g:Rows) (nx:Nat):Prop:=∃rows ids,g A=some ⟨true,1,rows⟩/\dw Og g rows L ids/\ids.Nodup/\∀i∈ids,lo<i.cq/\i.cq<nx
def bq (cnt:Nat) (bs:List PB) (A F:Id):List AV:=[.int .i64 cnt,.sl (bs.map aA),.own A 0 cnt,.own F 0 bs.length]
def kR (cnt:Nat) (bs:List PB) (m:Nat):List (List Nat):=(List.range cnt).map fun v=>iE bs m v
theorem iY (cnt:Nat) (bs:List PB) (m:Nat):(kR cnt bs m).length=cnt:=by simp[kR]
structure nj (cnt:Nat) (bs:List PB) (f:Nat->Int) (X A F:Id) (g:Rows) (nx:Nat):Prop where
 x:g X=some ⟨true,4,[bq cnt bs A F]⟩
 a:pS A F.cq (kR cnt bs bs.length) g nx
 f:g F=some ⟨true,1,dJ f bs.length⟩
 xa:X.cq<A.cq
 af:A.cq<F.cq
 fn:F.cq<nx
theorem pS.fz {A:Id} {lo cnt:Nat} {bs:List PB} {m nx n:Nat} {g:Rows} (h:pS A lo (kR cnt bs m) g nx):V.fz (dE g) (n+3) (.own A 0 cnt)=some (.sl (pc cnt bs m)):=by
 obtain⟨rows,ids,h1,h2,_,_⟩:=h
 have hl:=h2.len
 rw[iY]at hl
 rw[fU]
 simp only[dE,h1,Option.map_some,if_true]
 rw[if_pos ab,List.drop_zero,List.take_of_length_le ab]
 have:=Nq n h2
 rw[this]
 simp[kR,pc]
theorem nj.fz {cnt:Nat} {bs:List PB} {f:Nat->Int} {X A F:Id} {g:Rows} {nx:Nat} (h:nj cnt bs f X A F g nx):V.fz (dE g) 6 (.ptr X 0 0)=some (.cJ (fB cnt bs f)):=by
 have hF:dE g F=some ⟨true,1,dJ f bs.length⟩:=by simp[dE,h.f]
 have hX:dE g X=some ⟨true,4,[bq cnt bs A F]⟩:=by simp[dE,h.x]
 have hf:V.fz (dE g) 5 (.own F 0 bs.length)=some (.sl (dJ f bs.length)):=by
  rw[fU]
  simp only[hF,if_true]
  rw[if_pos (by rw[dt];omega),List.drop_zero,List.take_of_length_le (by rw[dt];omega),yE];rfl
 have ha:=h.a.fz (n:=2)
 rw[bo]
 simp only[hX,if_true,List.getElem?_cons_zero,List.drop_zero,bq,ad,aj,aI,cj,ha,hf,Option.map_some,fB]
theorem E5 (cnt:Nat) (bs:List PB):kR cnt bs 0=List.replicate cnt []:=by
 refine List.ext_getElem? fun i=>?_
 simp only[kR,List.getElem?_map,List.getElem?_replicate]
 by_cases h:i<cnt
 ·rw[List.getElem?_range h,if_pos h];rfl
 ·rw[List.getElem?_eq_none (by simpa using h),if_neg h];rfl
theorem wZ (g:Rows):∀n:Nat,dw Og g (List.replicate n [.bK]) (List.replicate n []) []
 |0=>.nil
 |n+1=>.cons (i1:=[]) (.inl ⟨rfl,rfl,rfl⟩) (wZ g n)
def vI (cnt:Nat) (bs:List PB) (m:Nat):List (List Nat):=(kR cnt bs m).set (bU bs m).a (iE bs m (bU bs m).a++[m])
theorem Aa {cnt:Nat} {bs:List PB} {m v:Nat} (hv:v<cnt) (gY:(bU bs m).a≠v):(vI cnt bs m)[v]? =some (iE bs m v):=by
 unfold vI
 rw[List.getElem?_set_ne gY]
 simp[kR,hv]
theorem E4 {cnt:Nat} {bs:List PB} {m:Nat} (ha:(bU bs m).a<cnt) (hb:(bU bs m).b<cnt) (gY:(bU bs m).a≠(bU bs m).b):(vI cnt bs m).set (bU bs m).b (iE bs m (bU bs m).b++[m])=kR cnt bs (m+1):=by
 refine List.ext_getElem? fun i=>?_
 by_cases hi:i<cnt
 ·have hr:(kR cnt bs (m+1))[i]? =some (iE bs (m+1) i):=by simp[kR,hi]
  rw[hr,E6]
  by_cases h1:(bU bs m).b=i
  ·rw[List.getElem?_set,if_pos h1,if_pos (by simp[vI,iY];omega),if_pos (.inr h1),h1]
  ·rw[List.getElem?_set_ne h1]
   by_cases h2:(bU bs m).a=i
   ·unfold vI
    rw[List.getElem?_set,if_pos h2,if_pos (by rw[iY];omega),if_pos (.inl h2),h2]
   ·rw[Aa hi h2,if_neg (fun h=>h.elim h2 h1),List.append_nil]
 ·rw[List.getElem?_eq_none (by simp[vI,iY];omega),List.getElem?_eq_none (by rw[iY];omega)]
theorem kh {α:Type} {l:List α} {k:Nat} {x:α} (h:l[k]? =some x) (hk:k<l.length):l[k]=x:=by
 rw[List.getElem?_eq_getElem hk]at h;exact Option.some.inj h
theorem DP {A K:Id} {lo Qy nx k j:Nat} {L:List (List Nat)} {La:List Nat} {g:Rows} {rows:List (List AV)} {ids:List Id} (hR:dw Og g rows L ids) (kQ:ids.Nodup) (m3:∀i∈ids,lo<i.cq/\i.cq<Qy) (hA:A.cq<=lo) (hL:L[k]? =some La) (hK1:Qy<=K.cq) (Py:K.cq<nx) (jV:lo<Qy):
  ∃cs,rows[k]? =some cs/\((La=[]/\cs=[.bK])∨∃id:Id,cs=[.own id 0 La.length]/\0<La.length/\g id=some ⟨true,1,La.map eN⟩/\id.cq<Qy/\lo<id.cq)/\
   ∀g':Rows,g' A=some ⟨true,1,rows.set k [.own K 0 (La.length+1)]⟩->g' K=some ⟨true,1,La.map eN++[[.int .i64 j]]⟩->(∀i:Id,i.cq<Qy->(i=A)=False->(∀id,cs=[.own id 0 La.length]->(i=id)=False)->g' i=g i)->pS A lo (L.set k (La++[j])) g' nx:=by
 have hk:k<L.length:=(List.getElem?_eq_some_iff.1 hL).1
 have Sd:=kh hL hk
 obtain⟨cs,ic,dq,Oq,MR,uc⟩:=hR.QB LI kQ k hk
 rw[Sd]at Oq
 refine⟨cs,dq,?_,fun g' h1 h2 h3=>?_⟩
 ·rcases Oq with⟨h1,h2,_⟩|⟨id,h1,h2,h3,h4⟩
  ·exact .inl ⟨h1,h2⟩
  ·subst h4
   have:=m3 id (MR id (by simp))
   exact .inr ⟨id,h1,h2,h3,this.2,this.1⟩
 ·obtain⟨B8,q1,q2,q3⟩:=uc g' [.own K 0 (La.length+1)] (La++[j]) [K] (.inr ⟨K,by simp,by simp,by rw[h2];simp[eN],rfl⟩) (fun i hi Rk=>by
   refine h3 i (m3 i hi).2 ?_ fun id hid=>?_
   ·simp only[eq_iff_iff,iff_false];rintro rfl;have:=m3 _ hi;omega
   ·simp only[eq_iff_iff,iff_false]
    rintro rfl
    rcases Oq with⟨_,h4,_⟩|⟨kn,h4,_,_,h5⟩
    ·rw[hid]at h4;cases h4
    ·rw[hid]at h4
     simp only[List.cons.injEq,AV.own.injEq,and_true]at h4
     rw[h5,h4]at Rk
     exact Rk (by simp)) (by simp) fun i hi hc=>by
   rw[List.mem_singleton.1 hi]at hc;have:=m3 _ hc;omega
  refine⟨_,B8,h1,q1,q2,fun i hi=>?_⟩
  rcases q3 i hi with h|h
  ·rw[List.mem_singleton.1 h];omega
  ·have:=m3 i h;omega
theorem K4 {P:Program} {Q:Ex->Env->ax->Prop} {c:VC} {env:Env} {σ:ax} (I:Env->ax->Prop) (h2:∀e s,I e s->Q .normal e s) (h1:∀N':Env->ax->Prop,(∀e s,I e s->N' e s)->ea (Call P) c (dG N' Q) env σ):ea (Call P) c Q env σ:=by
 refine kJ (fun _ _ _ _ h=>h) aO c _ _ env σ (fun x e s h=>?_) (h1 I fun _ _ h=>h)
 cases x with
 |normal=>exact h2 e s h
 |exit id=>exact h
 |ret=>exact h
end Go.Proofs.YtihgaadadaekmaaGreatDoor.V

namespace Go.Proofs.YtihgaadadaekmaaGreatDoor.V
open Go.RowKit
attribute [local irreducible] ea wpOps gS Call
attribute [local go_sem] aM fQ eM gi gh cE upd cu K.av cL AV.cells AV.cell rowOf rowsOf part ld rowAt bY ck dI eh ij bL da eA gp e8 du eo cY cX dV dW bR bm cQ bQ cT cR ej er ek cP bW cZ ei bP aQ cV cC ig bw cH bS aX dG bu dL AV.undef bF bH dY ef dU ec cF ez eF cw ev eu cU cW List.getD_cons_zero List.getD_cons_succ List.getD_nil List.all_cons List.all_nil Bool.and_true Bool.true_and Bool.and_self Bool.not_true Bool.not_false Option.map_some Option.map_none Option.bind_some Option.bind_none List.length_cons List.length_nil List.take_succ_cons List.take_zero List.take_nil List.drop_succ_cons List.drop_zero List.drop_nil List.head?_cons List.map_cons List.map_nil List.getElem?_cons_zero List.getElem?_cons_succ List.cons_append List.nil_append List.append_nil List.length_map List.set_cons_zero List.set_cons_succ Nat.reduceMul eq_self Int.toNat_natCast Int.natCast_nonneg and_self true_and and_true decide_true decide_false Bool.false_eq_true Nat.zero_add Nat.add_zero List.contains_cons List.contains_nil Bool.or_false Bool.false_or beq_self_eq_true Nat.reduceBEq ne_eq not_true_eq_false not_false_eq_true Id.mk.injEq false_and and_false Nat.reduceLT Int.reduceLE Int.reduceLT Int.reduceToNat Int.reduceNeg Int.reduceAdd Nat.le_refl List.length_append beq_true beq_false Bool.not_eq_eq_eq_not or_false false_or dE ad aj aI bE cj aV bf aU bo cN bG
theorem HM (cnt:Nat) (hn:cnt<=1048576) (bs:List PB) (ok:mJ cnt bs) (pO:bs.length<=1048576) (σ:ax):
  Call Tryz.prog 165 [.int .i64 cnt,.sl (bs.map aA)] σ fun r σ'=>∃X A F,r=.ptr X 0 0/\σ.next<=X.cq/\nj cnt bs (fun _=>0) X A F σ'.get σ'.next:=by
 refine Gs L9 rfl fun hl=>?_
 try simp only[q]
 clear hl
 have jo:(0:Int)<=(cnt:Int):=ab
 have oY:(cnt:Int)<=((16777216:Nat):Int):=ab
 have PH:(0:Int)<=(bs.length:Int):=ab
 have Gd:(bs.length:Int)<=((16777216:Nat):Int):=ab
 have hz:List.replicate bs.length [AV.int .i64 0]=dJ (fun _=>0) bs.length:=by
  refine List.ext_getElem? fun i=>?_
  by_cases h:i<bs.length
  ·rw[dC h,List.getElem?_replicate,if_pos h];rfl
  ·rw[List.getElem?_eq_none (by simp;omega),List.getElem?_eq_none (by rw[dt];omega)]
 (try((repeat(revert hN;revert N;apply Pn.out));refine wk (tw @jo (tw @oY (tw @PH (tw @Gd (tw @Int.le_refl @hz))))) ?_;(repeat(refine Pn.mk ?_;intro N hN))))
 obtain⟨X,hX⟩:∃X:Id,X=⟨165001003,σ.next+1⟩:=⟨_,rfl⟩
 obtain⟨A,hA⟩:∃X:Id,X=⟨165002002,σ.next+1+1⟩:=⟨_,rfl⟩
 obtain⟨F,hF⟩:∃X:Id,X=⟨165003003,σ.next+1+1+1⟩:=⟨_,rfl⟩
 have hXA:X.cq<A.cq:=by rw[hX,hA];(try dsimp only);omega
 have hAF:A.cq<F.cq:=by rw[hA,hF];(try dsimp only);omega
 have hXs:σ.next<=X.cq:=by rw[hX];(try dsimp only);omega
 refine aP (fun n env st=>∃j:Nat,n=(bs.length)-j/\j<=(bs.length)/\env 6=.int .i64 (j:Int)/\env 5=(.ptr X 0 0)/\st.get X=some ⟨true,4,[bq cnt bs A F]⟩/\st.get F=some ⟨true,1,dJ (fun _=>0) bs.length⟩/\(pS A F.cq (kR cnt bs j) st.get st.next/\F.cq<st.next)) (bs.length) ⟨0,ab,ab,by(try simp only[go_sem, ↓reduceIte,Nat.reduceEqDiff,Nat.reduceAdd,Nat.reduceSub,Nat.reduceLeDiff,reduceCtorEq,hX,hF,hA,bq,hz]);try rfl,by(try simp only[go_sem, ↓reduceIte,Nat.reduceEqDiff,Nat.reduceAdd,Nat.reduceSub,Nat.reduceLeDiff,reduceCtorEq,hX,hF,hA,bq,hz]);try rfl,by(try simp only[go_sem, ↓reduceIte,Nat.reduceEqDiff,Nat.reduceAdd,Nat.reduceSub,Nat.reduceLeDiff,reduceCtorEq,hX,hF,hA,bq,hz]);try rfl,by(try simp only[go_sem, ↓reduceIte,Nat.reduceEqDiff,Nat.reduceAdd,Nat.reduceSub,Nat.reduceLeDiff,reduceCtorEq,hX,hF,hA,bq,hz]);try rfl,⟨⟨List.replicate cnt [.bK],[],by rw[hA];(simp only[go_sem, ↓reduceIte,Nat.reduceEqDiff,Nat.reduceAdd,Nat.reduceSub,Nat.reduceLeDiff,reduceCtorEq])<;>rfl,by rw[E5];exact wZ _ _,List.nodup_nil,fun i hi=>by cases hi⟩,by rw[hF];(try dsimp only);omega⟩⟩ ?_
 rintro n_a env_a st_a ⟨j,rfl,ale,a6,a5,ag0,ag1,j0⟩ dm
 have a0:=dm 0 (by kernel_rfl);have a1:=dm 1 (by kernel_rfl)
 simp only[go_sem, ↓reduceIte,Nat.reduceEqDiff,Nat.reduceAdd,Nat.reduceSub,Nat.reduceLeDiff,reduceCtorEq,hX,hF,hA,bq,hz]at a0 a1
 clear dm
 obtain⟨⟨rows,ids,ag,hR,kQ,m3⟩,hFn⟩:=j0
 have x1:=dr hXA
 have x2:=dr hAF
 have x3:=dr (a:=X) (b:=F) ab
 have vX:=eP (i:=X) (n:=st_a.next) ab
 have vA:=eP (i:=A) (n:=st_a.next) ab
 have vF:=eP (i:=F) (n:=st_a.next) ab
 by_cases hj:(j:Int)<(bs.length:Int)
 ·have bD:∀{e:Env} {gg:Rows} {nx:Nat},(e 6=.int .i64 (IntKind.i64.wrap ((j:Int)+1)))->(e 5=(.ptr X 0 0))->(gg X=some ⟨true,4,[bq cnt bs A F]⟩)->(gg F=some ⟨true,1,dJ (fun _=>0) bs.length⟩)->(pS A F.cq (kR cnt bs (j+1)) gg nx/\F.cq<nx)->∃m0,m0<(bs.length)-j/\∃j:Nat,m0=(bs.length)-j/\j<=(bs.length)/\e 6=.int .i64 (j:Int)/\e 5=(.ptr X 0 0)/\gg X=some ⟨true,4,[bq cnt bs A F]⟩/\gg F=some ⟨true,1,dJ (fun _=>0) bs.length⟩/\(pS A F.cq (kR cnt bs j) gg nx/\F.cq<nx):=fun x1 x2 x3 x4 x5=>⟨_,ab,j+1,rfl,ab,(by rw[x1,ay ab]),x2,x3,x4,x5⟩
  have gm:j<bs.length:=ab
  have il:=sP gm
  obtain⟨ha1,PI,gY⟩:=ok j gm
  have gj:((bU bs j).a:Int)<(cnt:Int):=ab
  have fC:((bU bs j).b:Int)<(cnt:Int):=ab
  have ua:=E4 (m:=j) ha1 PI gY
  have e1:=qp bs j (bU bs j).a
  have e2:=qp bs j (bU bs j).b
  have PU:(vI cnt bs j)[(bU bs j).b]? =some (iE bs j (bU bs j).b):=Aa PI gY
  have PT:(kR cnt bs j)[(bU bs j).a]? =some (iE bs j (bU bs j).a):=by simp[kR,ha1]
  have RX:vI cnt bs j=(kR cnt bs j).set (bU bs j).a (iE bs j (bU bs j).a++[j]):=rfl
  have PG:(vI cnt bs j).length=cnt:=by rw[RX,List.length_set,iY]
  have iL:=hR.len
  rw[iY]at iL
  obtain⟨cs7,iW,Hi,Hw⟩:=DP (A:=A) (K:=⟨165007022,st_a.next+1⟩) (nx:=st_a.next+1+1) (j:=j) hR kQ m3 ab PT bt bt hFn
  rw[<-RX]at Hw
  obtain⟨c7,rfl⟩:∃c,cs7=[c]:=by
   rcases Hi with⟨_,h⟩|⟨id,h,_⟩<;>exact⟨_,h⟩
  generalize iE bs j (bU bs j).a=La at *
  generalize iE bs j (bU bs j).b=Lb at *
  generalize bU bs j=b at *
  generalize vI cnt bs j=LA at *
  clear RX
  (try((repeat(revert hN;revert N;apply Pn.out));refine wk (tw @a6 (tw @a5 (tw @ag0 (tw @ag1 (tw @a0 (tw @a1 (tw @hj (tw @il (tw @aA.eq_1 (tw @ag (tw @iW (tw @gj (tw @fC (tw @iL (tw @x1 (tw @x2 (tw @x3 (tw @vX (tw @vA (tw @vF @bq.eq_1)))))))))))))))))))) ?_;(repeat(refine Pn.mk ?_;intro N hN))))
  refine I2 (fun e s=>e 0=.int .i64 cnt/\e 1=.sl (bs.map aA)/\e 5=.ptr X 0 0/\e 6=.int .i64 j/\s.get X=some ⟨true,4,[bq cnt bs A F]⟩/\s.get F=some ⟨true,1,dJ (fun _=>0) bs.length⟩/\pS A F.cq LA s.get s.next/\F.cq<s.next) ?_ ?_
  ·rintro e1 s1 ⟨m0,m1,m5,m6,mX,mF,⟨rows1,ids1,mg,mR,mnd,mver⟩,mn⟩
   refine hN _ _ ?_
   clear hN N
   have iM:=mR.len
   rw[PG]at iM
   have wX:=eP (i:=X) (n:=s1.next) ab
   have wA:=eP (i:=A) (n:=s1.next) ab
   have wF:=eP (i:=F) (n:=s1.next) ab
   obtain⟨cs8,iX,Hj,Hx⟩:=DP (A:=A) (K:=⟨165008022,s1.next⟩) (nx:=s1.next+1) (j:=j) mR mnd mver ab PU bt bt mn
   rw[ua]at Hx
   obtain⟨c8,rfl⟩:∃c,cs8=[c]:=by
    rcases Hj with⟨_,h⟩|⟨id,h,_⟩<;>exact⟨_,h⟩
   (try((repeat(revert hN;revert N;apply Pn.out));refine wk (tw @m0 (tw @m1 (tw @m5 (tw @m6 (tw @mX (tw @mF (tw @hj (tw @il (tw @aA.eq_1 (tw @mg (tw @iX (tw @gj (tw @fC (tw @iM (tw @x1 (tw @x2 (tw @x3 (tw @wX (tw @wA (tw @wF @bq.eq_1)))))))))))))))))))) ?_;(repeat(refine Pn.mk ?_;intro N hN))))
   refine K4 (fun e s=>e 0=.int .i64 cnt/\e 1=.sl (bs.map aA)/\e 5=.ptr X 0 0/\e 6=.int .i64 j/\s.get X=some ⟨true,4,[bq cnt bs A F]⟩/\s.get F=some ⟨true,1,dJ (fun _=>0) bs.length⟩/\pS A F.cq (kR cnt bs (j+1)) s.get s.next/\F.cq<s.next) ?_ ?_
   ·rintro e2 s2 ⟨p0,p1,p5,p6,pX,pF,pL,pn⟩
    simp only[dG,bu]
    refine hN _ _ ?_
    clear hN N
    (try((repeat(revert hN;revert N;apply Pn.out));refine wk (tw @p0 (tw @p1 (tw @p5 @p6))) ?_;(repeat(refine Pn.mk ?_;intro N hN))))
    refine bD ?_ ?_ ?_ ?_ (⟨by obtain⟨r,i,q1,q2,q3,q4⟩:=pL;exact⟨r,i,sd @q1,q2,q3,fun x hx=>by have:=q4 x hx;(try dsimp only);omega⟩,bt⟩)
    all_goals simp only[go_sem, ↓reduceIte,Nat.reduceEqDiff,Nat.reduceAdd,Nat.reduceSub,Nat.reduceLeDiff,reduceCtorEq,p0,p1,p5,p6,pX,pF]
   ·intro N hN
    rcases Hj with⟨Pz,xS⟩|⟨id,xS,hLp,hid,JW,wz⟩
    ·simp only[List.cons.injEq,and_true]at xS
     subst xS
     subst Pz
     refine eS ?_ ?_<;>(try((repeat(revert hN;revert N;apply Pn.out));refine wk (tw @m0 (tw @m1 (tw @m5 (tw @m6 (tw @mX (tw @mF (tw @hj (tw @il (tw @aA.eq_1 (tw @mg (tw @iX (tw @gj (tw @fC (tw @iM (tw @x1 (tw @x2 (tw @x3 (tw @wX (tw @wA (tw @wF @bq.eq_1)))))))))))))))))))) ?_;(repeat(refine Pn.mk ?_;intro N hN))))<;>(try refine eS ?_ ?_)<;>(try((repeat(revert hN;revert N;apply Pn.out));refine wk (tw @m0 (tw @m1 (tw @m5 (tw @m6 (tw @mX (tw @mF (tw @hj (tw @il (tw @aA.eq_1 (tw @mg (tw @iX (tw @gj (tw @fC (tw @iM (tw @x1 (tw @x2 (tw @x3 (tw @wX (tw @wA (tw @wF @bq.eq_1)))))))))))))))))))) ?_;(repeat(refine Pn.mk ?_;intro N hN))))<;>(try refine eS ?_ ?_)<;>(try((repeat(revert hN;revert N;apply Pn.out));refine wk (tw @m0 (tw @m1 (tw @m5 (tw @m6 (tw @mX (tw @mF (tw @hj (tw @il (tw @aA.eq_1 (tw @mg (tw @iX (tw @gj (tw @fC (tw @iM (tw @x1 (tw @x2 (tw @x3 (tw @wX (tw @wA (tw @wF @bq.eq_1)))))))))))))))))))) ?_;(repeat(refine Pn.mk ?_;intro N hN))))<;>(try refine eS ?_ ?_)<;>(try((repeat(revert hN;revert N;apply Pn.out));refine wk (tw @m0 (tw @m1 (tw @m5 (tw @m6 (tw @mX (tw @mF (tw @hj (tw @il (tw @aA.eq_1 (tw @mg (tw @iX (tw @gj (tw @fC (tw @iM (tw @x1 (tw @x2 (tw @x3 (tw @wX (tw @wA (tw @wF @bq.eq_1)))))))))))))))))))) ?_;(repeat(refine Pn.mk ?_;intro N hN))))<;>(try refine eS ?_ ?_)<;>(try((repeat(revert hN;revert N;apply Pn.out));refine wk (tw @m0 (tw @m1 (tw @m5 (tw @m6 (tw @mX (tw @mF (tw @hj (tw @il (tw @aA.eq_1 (tw @mg (tw @iX (tw @gj (tw @fC (tw @iM (tw @x1 (tw @x2 (tw @x3 (tw @wX (tw @wA (tw @wF @bq.eq_1)))))))))))))))))))) ?_;(repeat(refine Pn.mk ?_;intro N hN))))<;>(try refine eS ?_ ?_)<;>(try((repeat(revert hN;revert N;apply Pn.out));refine wk (tw @m0 (tw @m1 (tw @m5 (tw @m6 (tw @mX (tw @mF (tw @hj (tw @il (tw @aA.eq_1 (tw @mg (tw @iX (tw @gj (tw @fC (tw @iM (tw @x1 (tw @x2 (tw @x3 (tw @wX (tw @wA (tw @wF @bq.eq_1)))))))))))))))))))) ?_;(repeat(refine Pn.mk ?_;intro N hN))))
     all_goals
      refine⟨by simp only[go_sem, ↓reduceIte,Nat.reduceEqDiff,Nat.reduceAdd,Nat.reduceSub,Nat.reduceLeDiff,reduceCtorEq,m0,m1,m5,m6,mX,mF,hj,il,aA,mg,iX,gj,fC,iM,x1,x2,x3,wX,wA,wF,bq],by simp only[go_sem, ↓reduceIte,Nat.reduceEqDiff,Nat.reduceAdd,Nat.reduceSub,Nat.reduceLeDiff,reduceCtorEq,m0,m1,m5,m6,mX,mF,hj,il,aA,mg,iX,gj,fC,iM,x1,x2,x3,wX,wA,wF,bq],by simp only[go_sem, ↓reduceIte,Nat.reduceEqDiff,Nat.reduceAdd,Nat.reduceSub,Nat.reduceLeDiff,reduceCtorEq,m0,m1,m5,m6,mX,mF,hj,il,aA,mg,iX,gj,fC,iM,x1,x2,x3,wX,wA,wF,bq],by simp only[go_sem, ↓reduceIte,Nat.reduceEqDiff,Nat.reduceAdd,Nat.reduceSub,Nat.reduceLeDiff,reduceCtorEq,m0,m1,m5,m6,mX,mF,hj,il,aA,mg,iX,gj,fC,iM,x1,x2,x3,wX,wA,wF,bq],by simp only[go_sem, ↓reduceIte,Nat.reduceEqDiff,Nat.reduceAdd,Nat.reduceSub,Nat.reduceLeDiff,reduceCtorEq,m0,m1,m5,m6,mX,mF,hj,il,aA,mg,iX,gj,fC,iM,x1,x2,x3,wX,wA,wF,bq],by simp only[go_sem, ↓reduceIte,Nat.reduceEqDiff,Nat.reduceAdd,Nat.reduceSub,Nat.reduceLeDiff,reduceCtorEq,m0,m1,m5,m6,mX,mF,hj,il,aA,mg,iX,gj,fC,iM,x1,x2,x3,wX,wA,wF,bq],Hx _ (by simp only[go_sem, ↓reduceIte,Nat.reduceEqDiff,Nat.reduceAdd,Nat.reduceSub,Nat.reduceLeDiff,reduceCtorEq,m0,m1,m5,m6,mX,mF,hj,il,aA,mg,iX,gj,fC,iM,x1,x2,x3,wX,wA,wF,bq,List.length_nil]) (by simp only[go_sem, ↓reduceIte,Nat.reduceEqDiff,Nat.reduceAdd,Nat.reduceSub,Nat.reduceLeDiff,reduceCtorEq,m0,m1,m5,m6,mX,mF,hj,il,aA,mg,iX,gj,fC,iM,x1,x2,x3,wX,wA,wF,bq,List.map_nil,List.nil_append]) (fun i hi MO fP=>?_),bt⟩
      clear fP
      simp only[go_sem, ↓reduceIte,Nat.reduceEqDiff,Nat.reduceAdd,Nat.reduceSub,Nat.reduceLeDiff,reduceCtorEq,wX,wA,wF,eP hi,MO]
    ·simp only[List.cons.injEq,and_true]at xS
     subst xS
     have qS:=eP JW
     have y1:=dr (a:=A) (b:=id) ab
     have y2:=dr (a:=F) (b:=id) wz
     have y3:=dr (a:=X) (b:=id) ab
     have e3:Lb.length+1<=16777216:=ab
     have z1:(Lb.map eN).length=Lb.length:=by simp
     refine eS ?_ ?_<;>(try((repeat(revert hN;revert N;apply Pn.out));refine wk (tw @m0 (tw @m1 (tw @m5 (tw @m6 (tw @mX (tw @mF (tw @hj (tw @il (tw @aA.eq_1 (tw @mg (tw @iX (tw @gj (tw @fC (tw @iM (tw @x1 (tw @x2 (tw @x3 (tw @wX (tw @wA (tw @wF (tw @bq.eq_1 (tw @hid (tw @qS (tw @y1 (tw @y2 (tw @y3 (tw @e3 @z1))))))))))))))))))))))))))) ?_;(repeat(refine Pn.mk ?_;intro N hN))))<;>(try refine eS ?_ ?_)<;>(try((repeat(revert hN;revert N;apply Pn.out));refine wk (tw @m0 (tw @m1 (tw @m5 (tw @m6 (tw @mX (tw @mF (tw @hj (tw @il (tw @aA.eq_1 (tw @mg (tw @iX (tw @gj (tw @fC (tw @iM (tw @x1 (tw @x2 (tw @x3 (tw @wX (tw @wA (tw @wF (tw @bq.eq_1 (tw @hid (tw @qS (tw @y1 (tw @y2 (tw @y3 (tw @e3 @z1))))))))))))))))))))))))))) ?_;(repeat(refine Pn.mk ?_;intro N hN))))<;>(try refine eS ?_ ?_)<;>(try((repeat(revert hN;revert N;apply Pn.out));refine wk (tw @m0 (tw @m1 (tw @m5 (tw @m6 (tw @mX (tw @mF (tw @hj (tw @il (tw @aA.eq_1 (tw @mg (tw @iX (tw @gj (tw @fC (tw @iM (tw @x1 (tw @x2 (tw @x3 (tw @wX (tw @wA (tw @wF (tw @bq.eq_1 (tw @hid (tw @qS (tw @y1 (tw @y2 (tw @y3 (tw @e3 @z1))))))))))))))))))))))))))) ?_;(repeat(refine Pn.mk ?_;intro N hN))))<;>(try refine eS ?_ ?_)<;>(try((repeat(revert hN;revert N;apply Pn.out));refine wk (tw @m0 (tw @m1 (tw @m5 (tw @m6 (tw @mX (tw @mF (tw @hj (tw @il (tw @aA.eq_1 (tw @mg (tw @iX (tw @gj (tw @fC (tw @iM (tw @x1 (tw @x2 (tw @x3 (tw @wX (tw @wA (tw @wF (tw @bq.eq_1 (tw @hid (tw @qS (tw @y1 (tw @y2 (tw @y3 (tw @e3 @z1))))))))))))))))))))))))))) ?_;(repeat(refine Pn.mk ?_;intro N hN))))<;>(try refine eS ?_ ?_)<;>(try((repeat(revert hN;revert N;apply Pn.out));refine wk (tw @m0 (tw @m1 (tw @m5 (tw @m6 (tw @mX (tw @mF (tw @hj (tw @il (tw @aA.eq_1 (tw @mg (tw @iX (tw @gj (tw @fC (tw @iM (tw @x1 (tw @x2 (tw @x3 (tw @wX (tw @wA (tw @wF (tw @bq.eq_1 (tw @hid (tw @qS (tw @y1 (tw @y2 (tw @y3 (tw @e3 @z1))))))))))))))))))))))))))) ?_;(repeat(refine Pn.mk ?_;intro N hN))))<;>(try refine eS ?_ ?_)<;>(try((repeat(revert hN;revert N;apply Pn.out));refine wk (tw @m0 (tw @m1 (tw @m5 (tw @m6 (tw @mX (tw @mF (tw @hj (tw @il (tw @aA.eq_1 (tw @mg (tw @iX (tw @gj (tw @fC (tw @iM (tw @x1 (tw @x2 (tw @x3 (tw @wX (tw @wA (tw @wF (tw @bq.eq_1 (tw @hid (tw @qS (tw @y1 (tw @y2 (tw @y3 (tw @e3 @z1))))))))))))))))))))))))))) ?_;(repeat(refine Pn.mk ?_;intro N hN))))
     all_goals
      refine⟨by simp only[go_sem, ↓reduceIte,Nat.reduceEqDiff,Nat.reduceAdd,Nat.reduceSub,Nat.reduceLeDiff,reduceCtorEq,m0,m1,m5,m6,mX,mF,hj,il,aA,mg,iX,gj,fC,iM,x1,x2,x3,wX,wA,wF,bq,hid,qS,y1,y2,y3,e3,z1],by simp only[go_sem, ↓reduceIte,Nat.reduceEqDiff,Nat.reduceAdd,Nat.reduceSub,Nat.reduceLeDiff,reduceCtorEq,m0,m1,m5,m6,mX,mF,hj,il,aA,mg,iX,gj,fC,iM,x1,x2,x3,wX,wA,wF,bq,hid,qS,y1,y2,y3,e3,z1],by simp only[go_sem, ↓reduceIte,Nat.reduceEqDiff,Nat.reduceAdd,Nat.reduceSub,Nat.reduceLeDiff,reduceCtorEq,m0,m1,m5,m6,mX,mF,hj,il,aA,mg,iX,gj,fC,iM,x1,x2,x3,wX,wA,wF,bq,hid,qS,y1,y2,y3,e3,z1],by simp only[go_sem, ↓reduceIte,Nat.reduceEqDiff,Nat.reduceAdd,Nat.reduceSub,Nat.reduceLeDiff,reduceCtorEq,m0,m1,m5,m6,mX,mF,hj,il,aA,mg,iX,gj,fC,iM,x1,x2,x3,wX,wA,wF,bq,hid,qS,y1,y2,y3,e3,z1],by simp only[go_sem, ↓reduceIte,Nat.reduceEqDiff,Nat.reduceAdd,Nat.reduceSub,Nat.reduceLeDiff,reduceCtorEq,m0,m1,m5,m6,mX,mF,hj,il,aA,mg,iX,gj,fC,iM,x1,x2,x3,wX,wA,wF,bq,hid,qS,y1,y2,y3,e3,z1],by simp only[go_sem, ↓reduceIte,Nat.reduceEqDiff,Nat.reduceAdd,Nat.reduceSub,Nat.reduceLeDiff,reduceCtorEq,m0,m1,m5,m6,mX,mF,hj,il,aA,mg,iX,gj,fC,iM,x1,x2,x3,wX,wA,wF,bq,hid,qS,y1,y2,y3,e3,z1],Hx _ (by simp only[go_sem, ↓reduceIte,Nat.reduceEqDiff,Nat.reduceAdd,Nat.reduceSub,Nat.reduceLeDiff,reduceCtorEq,m0,m1,m5,m6,mX,mF,hj,il,aA,mg,iX,gj,fC,iM,x1,x2,x3,wX,wA,wF,bq,hid,qS,y1,y2,y3,e3,z1,List.length_nil]) (by simp only[go_sem, ↓reduceIte,Nat.reduceEqDiff,Nat.reduceAdd,Nat.reduceSub,Nat.reduceLeDiff,reduceCtorEq,m0,m1,m5,m6,mX,mF,hj,il,aA,mg,iX,gj,fC,iM,x1,x2,x3,wX,wA,wF,bq,hid,qS,y1,y2,y3,e3,z1,List.map_nil,List.nil_append]) (fun i hi MO fP=>?_),bt⟩
      have gY:=fP id rfl
      simp only[go_sem, ↓reduceIte,Nat.reduceEqDiff,Nat.reduceAdd,Nat.reduceSub,Nat.reduceLeDiff,reduceCtorEq,wX,wA,wF,eP hi,MO,gY]
  ·intro N hN
   rcases Hi with⟨Pz,xS⟩|⟨id,xS,hLp,hid,JW,wz⟩
   ·simp only[List.cons.injEq,and_true]at xS
    subst xS
    subst Pz
    refine eS ?_ ?_<;>(try((repeat(revert hN;revert N;apply Pn.out));refine wk (tw @a6 (tw @a5 (tw @ag0 (tw @ag1 (tw @a0 (tw @a1 (tw @hj (tw @il (tw @aA.eq_1 (tw @ag (tw @iW (tw @gj (tw @fC (tw @iL (tw @x1 (tw @x2 (tw @x3 (tw @vX (tw @vA (tw @vF @bq.eq_1)))))))))))))))))))) ?_;(repeat(refine Pn.mk ?_;intro N hN))))<;>(try refine eS ?_ ?_)<;>(try((repeat(revert hN;revert N;apply Pn.out));refine wk (tw @a6 (tw @a5 (tw @ag0 (tw @ag1 (tw @a0 (tw @a1 (tw @hj (tw @il (tw @aA.eq_1 (tw @ag (tw @iW (tw @gj (tw @fC (tw @iL (tw @x1 (tw @x2 (tw @x3 (tw @vX (tw @vA (tw @vF @bq.eq_1)))))))))))))))))))) ?_;(repeat(refine Pn.mk ?_;intro N hN))))<;>(try refine eS ?_ ?_)<;>(try((repeat(revert hN;revert N;apply Pn.out));refine wk (tw @a6 (tw @a5 (tw @ag0 (tw @ag1 (tw @a0 (tw @a1 (tw @hj (tw @il (tw @aA.eq_1 (tw @ag (tw @iW (tw @gj (tw @fC (tw @iL (tw @x1 (tw @x2 (tw @x3 (tw @vX (tw @vA (tw @vF @bq.eq_1)))))))))))))))))))) ?_;(repeat(refine Pn.mk ?_;intro N hN))))<;>(try refine eS ?_ ?_)<;>(try((repeat(revert hN;revert N;apply Pn.out));refine wk (tw @a6 (tw @a5 (tw @ag0 (tw @ag1 (tw @a0 (tw @a1 (tw @hj (tw @il (tw @aA.eq_1 (tw @ag (tw @iW (tw @gj (tw @fC (tw @iL (tw @x1 (tw @x2 (tw @x3 (tw @vX (tw @vA (tw @vF @bq.eq_1)))))))))))))))))))) ?_;(repeat(refine Pn.mk ?_;intro N hN))))<;>(try refine eS ?_ ?_)<;>(try((repeat(revert hN;revert N;apply Pn.out));refine wk (tw @a6 (tw @a5 (tw @ag0 (tw @ag1 (tw @a0 (tw @a1 (tw @hj (tw @il (tw @aA.eq_1 (tw @ag (tw @iW (tw @gj (tw @fC (tw @iL (tw @x1 (tw @x2 (tw @x3 (tw @vX (tw @vA (tw @vF @bq.eq_1)))))))))))))))))))) ?_;(repeat(refine Pn.mk ?_;intro N hN))))<;>(try refine eS ?_ ?_)<;>(try((repeat(revert hN;revert N;apply Pn.out));refine wk (tw @a6 (tw @a5 (tw @ag0 (tw @ag1 (tw @a0 (tw @a1 (tw @hj (tw @il (tw @aA.eq_1 (tw @ag (tw @iW (tw @gj (tw @fC (tw @iL (tw @x1 (tw @x2 (tw @x3 (tw @vX (tw @vA (tw @vF @bq.eq_1)))))))))))))))))))) ?_;(repeat(refine Pn.mk ?_;intro N hN))))
    all_goals
     refine⟨by simp only[go_sem, ↓reduceIte,Nat.reduceEqDiff,Nat.reduceAdd,Nat.reduceSub,Nat.reduceLeDiff,reduceCtorEq,a6,a5,ag0,ag1,a0,a1,hj,il,aA,ag,iW,gj,fC,iL,x1,x2,x3,vX,vA,vF,bq],by simp only[go_sem, ↓reduceIte,Nat.reduceEqDiff,Nat.reduceAdd,Nat.reduceSub,Nat.reduceLeDiff,reduceCtorEq,a6,a5,ag0,ag1,a0,a1,hj,il,aA,ag,iW,gj,fC,iL,x1,x2,x3,vX,vA,vF,bq],by simp only[go_sem, ↓reduceIte,Nat.reduceEqDiff,Nat.reduceAdd,Nat.reduceSub,Nat.reduceLeDiff,reduceCtorEq,a6,a5,ag0,ag1,a0,a1,hj,il,aA,ag,iW,gj,fC,iL,x1,x2,x3,vX,vA,vF,bq],by simp only[go_sem, ↓reduceIte,Nat.reduceEqDiff,Nat.reduceAdd,Nat.reduceSub,Nat.reduceLeDiff,reduceCtorEq,a6,a5,ag0,ag1,a0,a1,hj,il,aA,ag,iW,gj,fC,iL,x1,x2,x3,vX,vA,vF,bq],by simp only[go_sem, ↓reduceIte,Nat.reduceEqDiff,Nat.reduceAdd,Nat.reduceSub,Nat.reduceLeDiff,reduceCtorEq,a6,a5,ag0,ag1,a0,a1,hj,il,aA,ag,iW,gj,fC,iL,x1,x2,x3,vX,vA,vF,bq],by simp only[go_sem, ↓reduceIte,Nat.reduceEqDiff,Nat.reduceAdd,Nat.reduceSub,Nat.reduceLeDiff,reduceCtorEq,a6,a5,ag0,ag1,a0,a1,hj,il,aA,ag,iW,gj,fC,iL,x1,x2,x3,vX,vA,vF,bq],Hw _ (by simp only[go_sem, ↓reduceIte,Nat.reduceEqDiff,Nat.reduceAdd,Nat.reduceSub,Nat.reduceLeDiff,reduceCtorEq,a6,a5,ag0,ag1,a0,a1,hj,il,aA,ag,iW,gj,fC,iL,x1,x2,x3,vX,vA,vF,bq,List.length_nil]) (by simp only[go_sem, ↓reduceIte,Nat.reduceEqDiff,Nat.reduceAdd,Nat.reduceSub,Nat.reduceLeDiff,reduceCtorEq,a6,a5,ag0,ag1,a0,a1,hj,il,aA,ag,iW,gj,fC,iL,x1,x2,x3,vX,vA,vF,bq,List.map_nil,List.nil_append]) (fun i hi MO fP=>?_),bt⟩
     clear fP
     simp only[go_sem, ↓reduceIte,Nat.reduceEqDiff,Nat.reduceAdd,Nat.reduceSub,Nat.reduceLeDiff,reduceCtorEq,vX,vA,vF,eP hi,MO]
   ·simp only[List.cons.injEq,and_true]at xS
    subst xS
    have qS:=eP JW
    have y1:=dr (a:=A) (b:=id) ab
    have y2:=dr (a:=F) (b:=id) wz
    have y3:=dr (a:=X) (b:=id) ab
    have e3:La.length+1<=16777216:=ab
    have z1:(La.map eN).length=La.length:=by simp
    refine eS ?_ ?_<;>(try((repeat(revert hN;revert N;apply Pn.out));refine wk (tw @a6 (tw @a5 (tw @ag0 (tw @ag1 (tw @a0 (tw @a1 (tw @hj (tw @il (tw @aA.eq_1 (tw @ag (tw @iW (tw @gj (tw @fC (tw @iL (tw @x1 (tw @x2 (tw @x3 (tw @vX (tw @vA (tw @vF (tw @bq.eq_1 (tw @hid (tw @qS (tw @y1 (tw @y2 (tw @y3 (tw @e3 @z1))))))))))))))))))))))))))) ?_;(repeat(refine Pn.mk ?_;intro N hN))))<;>(try refine eS ?_ ?_)<;>(try((repeat(revert hN;revert N;apply Pn.out));refine wk (tw @a6 (tw @a5 (tw @ag0 (tw @ag1 (tw @a0 (tw @a1 (tw @hj (tw @il (tw @aA.eq_1 (tw @ag (tw @iW (tw @gj (tw @fC (tw @iL (tw @x1 (tw @x2 (tw @x3 (tw @vX (tw @vA (tw @vF (tw @bq.eq_1 (tw @hid (tw @qS (tw @y1 (tw @y2 (tw @y3 (tw @e3 @z1))))))))))))))))))))))))))) ?_;(repeat(refine Pn.mk ?_;intro N hN))))<;>(try refine eS ?_ ?_)<;>(try((repeat(revert hN;revert N;apply Pn.out));refine wk (tw @a6 (tw @a5 (tw @ag0 (tw @ag1 (tw @a0 (tw @a1 (tw @hj (tw @il (tw @aA.eq_1 (tw @ag (tw @iW (tw @gj (tw @fC (tw @iL (tw @x1 (tw @x2 (tw @x3 (tw @vX (tw @vA (tw @vF (tw @bq.eq_1 (tw @hid (tw @qS (tw @y1 (tw @y2 (tw @y3 (tw @e3 @z1))))))))))))))))))))))))))) ?_;(repeat(refine Pn.mk ?_;intro N hN))))<;>(try refine eS ?_ ?_)<;>(try((repeat(revert hN;revert N;apply Pn.out));refine wk (tw @a6 (tw @a5 (tw @ag0 (tw @ag1 (tw @a0 (tw @a1 (tw @hj (tw @il (tw @aA.eq_1 (tw @ag (tw @iW (tw @gj (tw @fC (tw @iL (tw @x1 (tw @x2 (tw @x3 (tw @vX (tw @vA (tw @vF (tw @bq.eq_1 (tw @hid (tw @qS (tw @y1 (tw @y2 (tw @y3 (tw @e3 @z1))))))))))))))))))))))))))) ?_;(repeat(refine Pn.mk ?_;intro N hN))))<;>(try refine eS ?_ ?_)<;>(try((repeat(revert hN;revert N;apply Pn.out));refine wk (tw @a6 (tw @a5 (tw @ag0 (tw @ag1 (tw @a0 (tw @a1 (tw @hj (tw @il (tw @aA.eq_1 (tw @ag (tw @iW (tw @gj (tw @fC (tw @iL (tw @x1 (tw @x2 (tw @x3 (tw @vX (tw @vA (tw @vF (tw @bq.eq_1 (tw @hid (tw @qS (tw @y1 (tw @y2 (tw @y3 (tw @e3 @z1))))))))))))))))))))))))))) ?_;(repeat(refine Pn.mk ?_;intro N hN))))<;>(try refine eS ?_ ?_)<;>(try((repeat(revert hN;revert N;apply Pn.out));refine wk (tw @a6 (tw @a5 (tw @ag0 (tw @ag1 (tw @a0 (tw @a1 (tw @hj (tw @il (tw @aA.eq_1 (tw @ag (tw @iW (tw @gj (tw @fC (tw @iL (tw @x1 (tw @x2 (tw @x3 (tw @vX (tw @vA (tw @vF (tw @bq.eq_1 (tw @hid (tw @qS (tw @y1 (tw @y2 (tw @y3 (tw @e3 @z1))))))))))))))))))))))))))) ?_;(repeat(refine Pn.mk ?_;intro N hN))))
    all_goals
     refine⟨by simp only[go_sem, ↓reduceIte,Nat.reduceEqDiff,Nat.reduceAdd,Nat.reduceSub,Nat.reduceLeDiff,reduceCtorEq,a6,a5,ag0,ag1,a0,a1,hj,il,aA,ag,iW,gj,fC,iL,x1,x2,x3,vX,vA,vF,bq,hid,qS,y1,y2,y3,e3,z1],by simp only[go_sem, ↓reduceIte,Nat.reduceEqDiff,Nat.reduceAdd,Nat.reduceSub,Nat.reduceLeDiff,reduceCtorEq,a6,a5,ag0,ag1,a0,a1,hj,il,aA,ag,iW,gj,fC,iL,x1,x2,x3,vX,vA,vF,bq,hid,qS,y1,y2,y3,e3,z1],by simp only[go_sem, ↓reduceIte,Nat.reduceEqDiff,Nat.reduceAdd,Nat.reduceSub,Nat.reduceLeDiff,reduceCtorEq,a6,a5,ag0,ag1,a0,a1,hj,il,aA,ag,iW,gj,fC,iL,x1,x2,x3,vX,vA,vF,bq,hid,qS,y1,y2,y3,e3,z1],by simp only[go_sem, ↓reduceIte,Nat.reduceEqDiff,Nat.reduceAdd,Nat.reduceSub,Nat.reduceLeDiff,reduceCtorEq,a6,a5,ag0,ag1,a0,a1,hj,il,aA,ag,iW,gj,fC,iL,x1,x2,x3,vX,vA,vF,bq,hid,qS,y1,y2,y3,e3,z1],by simp only[go_sem, ↓reduceIte,Nat.reduceEqDiff,Nat.reduceAdd,Nat.reduceSub,Nat.reduceLeDiff,reduceCtorEq,a6,a5,ag0,ag1,a0,a1,hj,il,aA,ag,iW,gj,fC,iL,x1,x2,x3,vX,vA,vF,bq,hid,qS,y1,y2,y3,e3,z1],by simp only[go_sem, ↓reduceIte,Nat.reduceEqDiff,Nat.reduceAdd,Nat.reduceSub,Nat.reduceLeDiff,reduceCtorEq,a6,a5,ag0,ag1,a0,a1,hj,il,aA,ag,iW,gj,fC,iL,x1,x2,x3,vX,vA,vF,bq,hid,qS,y1,y2,y3,e3,z1],Hw _ (by simp only[go_sem, ↓reduceIte,Nat.reduceEqDiff,Nat.reduceAdd,Nat.reduceSub,Nat.reduceLeDiff,reduceCtorEq,a6,a5,ag0,ag1,a0,a1,hj,il,aA,ag,iW,gj,fC,iL,x1,x2,x3,vX,vA,vF,bq,hid,qS,y1,y2,y3,e3,z1,List.length_nil]) (by simp only[go_sem, ↓reduceIte,Nat.reduceEqDiff,Nat.reduceAdd,Nat.reduceSub,Nat.reduceLeDiff,reduceCtorEq,a6,a5,ag0,ag1,a0,a1,hj,il,aA,ag,iW,gj,fC,iL,x1,x2,x3,vX,vA,vF,bq,hid,qS,y1,y2,y3,e3,z1,List.map_nil,List.nil_append]) (fun i hi MO fP=>?_),bt⟩
     have gY:=fP id rfl
     simp only[go_sem, ↓reduceIte,Nat.reduceEqDiff,Nat.reduceAdd,Nat.reduceSub,Nat.reduceLeDiff,reduceCtorEq,vX,vA,vF,eP hi,MO,gY]
 ·have gN:j=bs.length:=ab
  subst gN
  (try((repeat(revert hN;revert N;apply Pn.out));refine wk (tw @a6 (tw @a5 (tw @ag0 (tw @ag1 (tw @a0 (tw @a1 @hj)))))) ?_;(repeat(refine Pn.mk ?_;intro N hN))))
  exact gn (.inl rfl) (by simp only[eV,gM,go_sem, ↓reduceIte,Nat.reduceEqDiff,Nat.reduceAdd,Nat.reduceSub,Nat.reduceLeDiff,reduceCtorEq];rfl) ⟨X,A,F,rfl,hXs,⟨ag0,⟨rows,ids,ag,hR,kQ,fun x hx=>by have:=m3 x hx;(try dsimp only);omega⟩,ag1,hXA,hAF,bt⟩⟩
theorem pS.frame {A:Id} {lo nx vL:Nat} {L:List (List Nat)} {g g':Rows} (h:pS A lo L g nx) (hA:A.cq<nx) (hf:∀i:Id,i.cq<nx->lo<i.cq∨i=A->g' i=g i) (hn:nx<=vL):pS A lo L g' vL:=by
 obtain⟨rows,ids,h1,h2,h3,h4⟩:=h
 refine⟨rows,ids,(hf A hA (.inr rfl)).trans h1,h2.frame LI fun i hi=>hf i (h4 i hi).2 (.inl (h4 i hi).1),h3,fun i hi=>?_⟩
 have:=h4 i hi;omega
theorem nj.frame {cnt:Nat} {bs:List PB} {f:Nat->Int} {X A F:Id} {g g':Rows} {nx vL:Nat} (h:nj cnt bs f X A F g nx) (hf:∀i:Id,i.cq<nx->g' i=g i) (hn:nx<=vL):nj cnt bs f X A F g' vL:=by
 have h1:=h.xa;have h2:=h.af;have h3:=h.fn
 exact⟨(hf X ab).trans h.x,h.a.frame ab (fun i hi _=>hf i hi) hn,(hf F h3).trans h.f,h1,h2,ab⟩
theorem nj.Pt {cnt:Nat} {bs:List PB} {f f':Nat->Int} {X A F:Id} {g g':Rows} {nx vL:Nat} (h:nj cnt bs f X A F g nx) (hF:g' F=some ⟨true,1,dJ f' bs.length⟩) (hf:∀i:Id,i.cq<nx->(i=F)=False->g' i=g i) (hn:nx<=vL):nj cnt bs f' X A F g' vL:=by
 have h1:=h.xa;have h2:=h.af;have h3:=h.fn
 refine⟨(hf X ab (dr ab).1).trans h.x,h.a.frame ab (fun i hi jV=>hf i hi ?_) hn,hF,h1,h2,ab⟩
 rcases jV with jV|rfl
 ·exact(dr jV).2
 ·exact(dr h2).1
theorem NB (cnt:Nat) (bs:List PB) (f:Nat->Int) (hs:Small bs f) (e v:Nat) (he:e<bs.length) (X A F:Id) (σ:ax) (nx:Nat) (hS:nj cnt bs f X A F σ.get nx) (hn:nx<=σ.next):
  Call Tryz.prog 183 [.ptr X 0 0,.int .i64 v,.int .i64 e] σ fun r σ'=>nj cnt bs (ss bs f e v) X A F σ'.get nx/\σ.next<=σ'.next/\∀i:Id,(i=F)=False->σ'.get i=σ.get i:=by
 refine eX dK rfl fun hl=>?_
 clear hl
 have hX:=hS.x
 have hF:=hS.f
 have hb:=sP he
 have Sw:=dC (f:=f) he
 have tl:=dt f bs.length
 obtain⟨⟨s0,s1⟩,s2,s3⟩:=hs e he
 have hei:(e:Int)<(bs.length:Int):=ab
 have w1:IntKind.i64.wrap (f e+1)=f e+1:=aT ab
 have w2:IntKind.i64.wrap (f e-1)=f e+-1:=by rw[aT ab];omega
 rw[au]at Sw
 unfold ss
 by_cases h:(bU bs e).a=v
 ·have dP:(dJ f bs.length).set e (au (f e+1))=dJ (fun j=>f j+if j=e then(if (bU bs e).a=v then 1 else -1)else 0) bs.length:=kG he (by rw[if_pos rfl,if_pos h]) fun i _ hi=>by rw[if_neg hi,Int.add_zero]
  rw[au]at dP
  generalize Q7:bU bs e=b at *
  have hd:decide ((b.a:Int)=(v:Int))=true:=decide_eq_true (by rw[h])
  (try((repeat(revert hN;revert N;apply Pn.out));refine wk (tw @hX (tw @hF (tw @hb (tw @Sw (tw @tl (tw @hei (tw @w1 (tw @dP (tw @hd (tw @aA.eq_1 @bq.eq_1)))))))))) ?_;(repeat(refine Pn.mk ?_;intro N hN))))
  exact gn (.inr rfl) (vs:=[]) rfl ⟨hS.Pt (sd @Nat.zero_add) (fun i hi gY=>sd @gY) (Nat.le_refl _),bt,fun i gY=>sd @gY⟩
 ·have dP:(dJ f bs.length).set e (au (f e+-1))=dJ (fun j=>f j+if j=e then(if (bU bs e).a=v then 1 else -1)else 0) bs.length:=kG he (by rw[if_pos rfl,if_neg h]) fun i _ hi=>by rw[if_neg hi,Int.add_zero]
  rw[au]at dP
  generalize Q7:bU bs e=b at *
  have hd:decide ((b.a:Int)=(v:Int))=false:=decide_eq_false fun hc=>h ab
  (try((repeat(revert hN;revert N;apply Pn.out));refine wk (tw @hX (tw @hF (tw @hb (tw @Sw (tw @tl (tw @hei (tw @w2 (tw @dP (tw @hd (tw @aA.eq_1 @bq.eq_1)))))))))) ?_;(repeat(refine Pn.mk ?_;intro N hN))))
  exact gn (.inr rfl) (vs:=[]) rfl ⟨hS.Pt (sd @Nat.zero_add) (fun i hi gY=>sd @gY) (Nat.le_refl _),bt,fun i gY=>sd @gY⟩
structure nk (bs:List PB) (out:Nat->Int) (f f':Nat->Int) (x v:Nat):Prop where
 le:∀i,i<bs.length->f' i<=(bU bs i).s/\-(bU bs i).s<=f' i
 cut:∀S:Nat->Bool,Ey S bs f'=Ey S bs f+bi (S x)-bi (S v)
 Ax:∀e,e<bs.length->out (bU bs e).a<=out v->out (bU bs e).b<=out v->f' e=f e
section
variable {cnt:Nat} {bs:List PB} {out:Nat->Int} {f f':Nat->Int} {x v y:Nat}
theorem nk.start (h:∀i,i<bs.length->f i<=(bU bs i).s/\-(bU bs i).s<=f i):nk bs out f f x x:=⟨h,fun S=>ab,fun _ _ _ _=>rfl⟩
theorem nk.step (h:nk bs out f f' x v) {e:Nat} (he:e<bs.length) (hi:C0 bs e v) (hr:0<fw bs f' e v) (hd:out (bB bs e v)=out v-1):nk bs out f (ss bs f' e v) x (bB bs e v):=by
 refine⟨fun i oZ=>?_,fun S=>?_,fun i oZ ha hb=>?_⟩
 ·have h1:=h.le i oZ
  unfold ss
  by_cases Je:i=e
  ·subst Je
   rw[if_pos rfl]
   unfold fw at hr
   split at hr<;>rename_i hc
   ·rw[if_pos hc];omega
   ·rw[if_neg hc];omega
  ·rw[if_neg Je];omega
 ·rw[Ez he hi,h.cut S];omega
 ·have Je:i≠e:=by
   rintro rfl
   rcases hi with hi|hi
   ·rw[hi]at ha;omega
   ·rw[hi]at hb;omega
  unfold ss
  rw[if_neg Je,Int.add_zero]
  exact h.Ax i oZ ab ab
theorem nk.goes (h:nk bs out f f' x v) (hs:xh cnt bs f y out) (hv:v<cnt) (h0:0<out v):∃e∈iE bs bs.length v,0<fw bs f' e v/\out (bB bs e v)=out v-1:=by
 obtain⟨e,h1,h2,h3,h4⟩:=hs.down v hv h0
 refine⟨e,qq.2 ⟨h1,h2⟩,?_,h4⟩
 have hf:f' e=f e:=by
  refine h.Ax e h1 ?_ ?_
  ·unfold bB at h4
   split at h4
   ·rename_i ha;rw[ha];exact Int.le_refl _
   ·omega
  ·unfold bB at h4
   rcases h2 with h2|h2
   ·rw[if_pos h2]at h4;omega
   ·rw[h2];exact Int.le_refl _
 unfold fw at h3 ⊢
 rw[hf];exact h3
theorem nk.done {val:Int} (h:nk bs out f f' x y) (hf:jF bs f x y val):jF bs f' x y (val+1):=
 ⟨h.le,fun S hx hy=>by rw[h.cut S,hf.cut S hx hy,hx,hy];simp[bi]⟩
theorem CK {val:Int} (hs:xh cnt bs f y out) (ok:mJ cnt bs) (hf:jF bs f x y val) (hx:out x<0):∃S:Nat->Bool,S x=true/\S y=false/\val=iK S bs:=by
 refine⟨fun v=>decide (out v<0),decide_eq_true hx,decide_eq_false (by rw[hs.first];omega),hf.full (decide_eq_true hx) (decide_eq_false (by rw[hs.first];omega)) fun i hi si=>⟨fun h1 h2 hr=>?_,fun h1 h2 hr=>?_⟩⟩
 ·have Pw:=of_decide_eq_true h1
  have yP:=of_decide_eq_false h2
  have:=hs.shut i (bU bs i).a hi (.inl rfl) (by unfold bB;rw[if_pos rfl];omega) hr
  omega
 ·have Pw:=of_decide_eq_true h1
  have yP:=of_decide_eq_false h2
  have:=hs.shut i (bU bs i).b hi (.inr rfl) (by unfold bB;rw[if_neg si];omega) hr
  omega
end
theorem uM {bs:List PB} {f:Nat->Int} (ew:∀e,e<bs.length->0<=(bU bs e).s/\(bU bs e).s<=4) (h:∀i,i<bs.length->f i<=(bU bs i).s/\-(bU bs i).s<=f i):Small bs f:=fun e he=>by
 have:=ew e he;have:=h e he;omega
theorem pS.at_ {A:Id} {lo nx v:Nat} {L:List (List Nat)} {l:List Nat} {g:Rows} (h:pS A lo L g nx) (hv:L[v]? =some l) (hl:0<l.length):∃(rows:List (List AV)) (id:Id),g A=some ⟨true,1,rows⟩/\rows.length=L.length/\rows[v]? =some [.own id 0 l.length]/\g id=some ⟨true,1,l.map eN⟩/\lo<id.cq/\id.cq<nx:=by
 obtain⟨rows,ids,h1,h2,h3,h4⟩:=h
 have hk:v<L.length:=(List.getElem?_eq_some_iff.1 hv).1
 obtain⟨cs,ic,dq,hR,MR⟩:=h2.at_ v hk
 rw[kh hv hk]at hR
 rcases hR with⟨h5,_⟩|⟨id,rfl,_,h6,rfl⟩
 ·subst h5;simp at hl
 ·have:=h4 id (MR id (by simp))
  exact⟨rows,id,h1,h2.len,dq,h6,this.1,this.2⟩
theorem Mv (cnt:Nat) (hn:cnt<=1048576) (bs:List PB) (ok:mJ cnt bs) (pO:bs.length<=1048576) (ew:∀e,e<bs.length->0<=(bU bs e).s/\(bU bs e).s<=4) (f:Nat->Int) (x y:Nat) (hx:x<cnt) (hy:y<cnt) (Ni:x≠y) (val:Int) (hf:jF bs f x y val)
  (X A F:Id) (σ:ax) (nb:Nat) (hS:nj cnt bs f X A F σ.get nb) (ua:nb<=σ.next):
  Call Tryz.prog 166 [.ptr X 0 0,.int .i64 x,.int .i64 y] σ fun r σ'=>∃b f',r=.bool b/\nj cnt bs f' X A F σ'.get nb/\σ.next<=σ'.next/\(∀i:Id,i.cq<nb->(i=F)=False->σ'.get i=σ.get i)/\
   (b=false->f'=f/\∃S:Nat->Bool,S x=true/\S y=false/\val=iK S bs)/\(b=true->jF bs f' x y (val+1)):=by
 refine eX dK rfl fun hl=>?_
 clear hl
 have yV:(x:Int)<(cnt:Int):=ab
 have hz:∀(g:Rows),(∀i:Id,i.cq<nb->g i=σ.get i)->cm (dE g) 6 [.ptr X 0 0,.int .i64 (y:Int)]=some [.cJ (fB cnt bs f),.int .i64 y]:=fun g hg=>by
  have:=(hS.frame hg (Nat.le_refl _)).fz
  simp only[ad,aj,this,aI,Option.map_some]
 (try((repeat(revert hN;revert N;apply Pn.out));refine wk @Nat.zero_add ?_;(repeat(refine Pn.mk ?_;intro N hN))))
 refine .inr (aO _ _ _ _ _ (fun r σ1 hq=>?_) ((DZ cnt hn bs ok pO f (uM ew hf.le) y hy).x mixed (hz _ (fun i hi=>rfl))))
 obtain⟨⟨out,rfl,M8⟩,rfl⟩:=hq
 refine hN _ _ ?_
 clear hN N
 have hox:=dC (f:=out) hx
 have tl:=dt out cnt
 by_cases jK:out x<0
 ·(try((repeat(revert hN;revert N;apply Pn.out));refine wk (tw @hox (tw @jK (tw @yV (tw @tl @au.eq_1)))) ?_;(repeat(refine Pn.mk ?_;intro N hN))))
  exact gn (.inl rfl) (vs:=[.bool false]) (sd @Nat.zero_add) ⟨false,f,rfl,hS.frame (fun i hi=>rfl) (Nat.le_refl _),bt,fun i _ _=>rfl,fun _=>⟨rfl,CK M8 ok hf jK⟩,fun h=>by cases h⟩
 (try((repeat(revert hN;revert N;apply Pn.out));refine wk (tw @hox (tw @jK (tw @yV (tw @tl @au.eq_1)))) ?_;(repeat(refine Pn.mk ?_;intro N hN))))
 refine aP (fun m env st=>∃(v:Nat) (f':Nat->Int),m=(out v).toNat/\v<cnt/\0<=out v/\env 8=.int .i64 (v:Int)/\nk bs out f f' x v/\nj cnt bs f' X A F st.get nb/\(∀i:Id,i.cq<nb->(i=F)=False->st.get i=σ.get i)/\σ.next<=st.next) (out x).toNat ⟨x,f,rfl,hx,ab,by(simp only[go_sem, ↓reduceIte,Nat.reduceEqDiff,Nat.reduceAdd,Nat.reduceSub,Nat.reduceLeDiff,reduceCtorEq]),nk.start hf.le,hS.frame (fun i hi=>rfl) (Nat.le_refl _),fun i _ _=>rfl,bt⟩ ?_
 rintro m env_b st_b ⟨v,f',rfl,hv,jO,b8,hW,hN1,lv,hle⟩ bfr
 have b0:=bfr 0 (by kernel_rfl)
 have b2:=bfr 2 (by kernel_rfl)
 have b7:=bfr 7 (by kernel_rfl)
 simp only[go_sem, ↓reduceIte,Nat.reduceEqDiff,Nat.reduceAdd,Nat.reduceSub,Nat.reduceLeDiff,reduceCtorEq]at b0 b2 b7
 clear bfr
 by_cases Rq:v=y
 ·have hd:decide ((v:Int)=(y:Int))=true:=decide_eq_true (by rw[Rq])
  subst Rq
  (try((repeat(revert hN;revert N;apply Pn.out));refine wk (tw @b0 (tw @b2 (tw @b7 (tw @b8 @hd)))) ?_;(repeat(refine Pn.mk ?_;intro N hN))))
  exact gn (.inl rfl) (vs:=[.bool true]) (sd @Nat.zero_add) ⟨true,f',rfl,hN1,bt,lv,fun h=>(by cases h),fun _=>hW.done hf⟩
 have hd:decide ((v:Int)=(y:Int))=false:=decide_eq_false fun h=>Rq ab
 have yT:0<out v:=by
  have:=M8.zero v hv
  rcases Int.lt_or_eq_of_le jO with h|h
  ·exact h
  ·exact absurd (this h.symm) Rq
 have Ls:=hW.goes M8 hv yT
 have hIm:∀ed∈iE bs bs.length v,ed<bs.length/\C0 bs ed v:=fun ed h=>qq.1 h
 have hIL:(kR cnt bs bs.length)[v]? =some (iE bs bs.length v):=by simp[kR,hv]
 have hIl:=qp bs bs.length v
 generalize iE bs bs.length v=I at *
 have hIp:0<I.length:=by
  obtain⟨ed,h,_⟩:=Ls
  exact List.length_pos_of_mem h
 obtain⟨rows,id,hgA,oO,ly,hid,hid1,hid2⟩:=hN1.a.at_ hIL hIp
 rw[iY]at oO
 have hgX:=hN1.x
 have B5:(v:Int)<(cnt:Int):=ab
 have sJ:=dC (f:=out) hv
 have pB:IntKind.i64.wrap (out v-1)=out v-1:=aT (by have:=M8.lo v hv;omega)
 have pw:(I.map eN).length=I.length:=by simp
 have J6:=uM ew hW.le
 have k7:∀(g:Rows),(∀i:Id,i.cq<nb->g i=st_b.get i)->∀ed:Nat,cm (dE g) 6 [.ptr X 0 0,.int .i64 (v:Int),.int .i64 (ed:Int)]=some [.cJ (fB cnt bs f'),.int .i64 v,.int .i64 ed]:=fun g hg ed=>by
  have:=(hN1.frame hg (Nat.le_refl _)).fz
  simp only[ad,aj,this,aI,Option.map_some]
 rw[au]at sJ
 (try((repeat(revert hN;revert N;apply Pn.out));refine wk (tw @b0 (tw @b2 (tw @b7 (tw @b8 @hd)))) ?_;(repeat(refine Pn.mk ?_;intro N hN))))
 refine aP (fun n env st=>∃k:Nat,n=(I.length)-k/\k<=(I.length)/\env 11=.int .i64 (k:Int)/\(∃(wU C9:Int),env 9=.int .i64 wU/\env 10=.int .i64 C9/\((wU<0/\∀z,z<k->¬(0<fw bs f' (I.getD z 0) v/\out (bB bs (I.getD z 0) v)=out v-1))∨∃ed:Nat,ed∈I/\C9=(ed:Int)/\wU=(bB bs ed v:Int)/\0<fw bs f' ed v/\out (bB bs ed v)=out v-1))/\((∀i:Id,st.get i=st_b.get i)/\st_b.next<=st.next)) (I.length) ⟨0,ab,ab,sl (tw @b0 (tw @b2 (tw @b7 @b8))),⟨-1,0,by(simp only[go_sem, ↓reduceIte,Nat.reduceEqDiff,Nat.reduceAdd,Nat.reduceSub,Nat.reduceLeDiff,reduceCtorEq]),by(simp only[go_sem, ↓reduceIte,Nat.reduceEqDiff,Nat.reduceAdd,Nat.reduceSub,Nat.reduceLeDiff,reduceCtorEq]),.inl ⟨ab,fun z hz=>ab⟩⟩,⟨fun i=>rfl,bt⟩⟩ ?_
 rintro n_c env_c st_c ⟨k,rfl,cle,mU,cI0,cI1⟩ cfr
 have c0:=cfr 0 (by kernel_rfl);have c2:=cfr 2 (by kernel_rfl);have c7:=cfr 7 (by kernel_rfl);have c8:=cfr 8 (by kernel_rfl)
 simp only[go_sem, ↓reduceIte,Nat.reduceEqDiff,Nat.reduceAdd,Nat.reduceSub,Nat.reduceLeDiff,reduceCtorEq,b0,b2,b7,b8]at c0 c2 c7 c8
 clear cfr
 obtain⟨wU,C9,c9,ji,Hh⟩:=cI0
 obtain⟨lJ,Q8⟩:=cI1
 have BV:=(lJ X).trans hgX
 have BU:=(lJ A).trans hgA
 have BX:=(lJ id).trans hid
 by_cases hk:(k:Int)<(I.length:Int)
 ·have gL:∀{e:Env} {gg:Rows} {nx:Nat},(e 11=.int .i64 (IntKind.i64.wrap ((k:Int)+1)))->(∃(wU C9:Int),e 9=.int .i64 wU/\e 10=.int .i64 C9/\((wU<0/\∀z,z<(k+1)->¬(0<fw bs f' (I.getD z 0) v/\out (bB bs (I.getD z 0) v)=out v-1))∨∃ed:Nat,ed∈I/\C9=(ed:Int)/\wU=(bB bs ed v:Int)/\0<fw bs f' ed v/\out (bB bs ed v)=out v-1))->((∀i:Id,gg i=st_b.get i)/\st_b.next<=nx)->∃m0,m0<(I.length)-k/\∃k:Nat,m0=(I.length)-k/\k<=(I.length)/\e 11=.int .i64 (k:Int)/\(∃(wU C9:Int),e 9=.int .i64 wU/\e 10=.int .i64 C9/\((wU<0/\∀z,z<k->¬(0<fw bs f' (I.getD z 0) v/\out (bB bs (I.getD z 0) v)=out v-1))∨∃ed:Nat,ed∈I/\C9=(ed:Int)/\wU=(bB bs ed v:Int)/\0<fw bs f' ed v/\out (bB bs ed v)=out v-1))/\((∀i:Id,gg i=st_b.get i)/\st_b.next<=nx):=fun x1 x2 x3=>⟨_,ab,k+1,rfl,ab,(by rw[x1,ay ab]),x2,x3⟩
  have dX:k<I.length:=ab
  have eD:(I.map eN)[k]? =some (eN (I.getD k 0)):=getD_map eN dX
  have rG:I.getD k 0∈I:=by rw[List.getD_eq_getElem?_getD,List.getElem?_eq_getElem dX];exact List.getElem_mem dX
  obtain⟨he,oN⟩:=hIm _ rG
  have M6:=Ix cnt bs f' J6 (I.getD k 0) v he
  have sk:=k7 st_c.get (fun i _=>lJ i) (I.getD k 0)
  have hq:=nR ok (v:=v) he
  have OD:=dC (f:=out) hq
  obtain⟨ed,hed⟩:∃ed,ed=I.getD k 0:=⟨_,rfl⟩
  rw[<-hed]at eD he oN M6 sk hq OD rG
  rw[au]at OD
  rw[eN]at eD
  (try((repeat(revert hN;revert N;apply Pn.out));refine wk (tw @mU (tw @c0 (tw @c2 (tw @c7 (tw @c8 (tw @c9 (tw @ji (tw @hk (tw @BV (tw @BU (tw @BX (tw @ly (tw @oO (tw @B5 (tw @eD (tw @pw @bq.eq_1)))))))))))))))) ?_;(repeat(refine Pn.mk ?_;intro N hN))))
  refine .inl ⟨_,ae.x M6 sk,?_⟩
  refine hN _ _ ?_
  clear hN N
  have stay:∀k',k'=k+1->(¬(0<fw bs f' ed v/\out (bB bs ed v)=out v-1))->((wU<0/\∀z,z<k'->¬(0<fw bs f' (I.getD z 0) v/\out (bB bs (I.getD z 0) v)=out v-1))∨∃ed:Nat,ed∈I/\C9=(ed:Int)/\wU=(bB bs ed v:Int)/\0<fw bs f' ed v/\out (bB bs ed v)=out v-1):=fun k' Jf lg=>by
   rcases Hh with⟨h1,h2⟩|h
   ·refine .inl ⟨h1,fun z hz=>?_⟩
    by_cases B7:z=k
    ·subst B7;rw[<-hed];exact lg
    ·exact h2 z ab
   ·exact .inr h
  by_cases hr:0<fw bs f' ed v
  ·by_cases Ou:out (bB bs ed v)=out v-1
   ·have qj:decide (out (bB bs ed v)=out v-1)=true:=decide_eq_true Ou
    have found:∃O8:Nat,O8∈I/\(ed:Int)=(O8:Int)/\(bB bs ed v:Int)=(bB bs O8 v:Int)/\0<fw bs f' O8 v/\out (bB bs O8 v)=out v-1:=⟨ed,rG,rfl,rfl,hr,Ou⟩
    by_cases Jk:wU<0
    ·(try((repeat(revert hN;revert N;apply Pn.out));refine wk (tw @mU (tw @c0 (tw @c2 (tw @c7 (tw @c8 (tw @c9 (tw @ji (tw @hk (tw @BV (tw @BU (tw @BX (tw @ly (tw @oO (tw @B5 (tw @eD (tw @pw (tw @hr (tw @OD (tw @sJ (tw @pB (tw @qj (tw @Jk @bq.eq_1)))))))))))))))))))))) ?_;(repeat(refine Pn.mk ?_;intro N hN))))
     exact gL (sd (tw @mU (tw @c0 (tw @c2 (tw @c7 @c8))))) (⟨_,_,sd @Nat.zero_add,sd @Nat.zero_add,.inr found⟩) (⟨lJ,bt⟩)
    ·by_cases dD:(bB bs ed v:Int)<wU
     ·(try((repeat(revert hN;revert N;apply Pn.out));refine wk (tw @mU (tw @c0 (tw @c2 (tw @c7 (tw @c8 (tw @c9 (tw @ji (tw @hk (tw @BV (tw @BU (tw @BX (tw @ly (tw @oO (tw @B5 (tw @eD (tw @pw (tw @hr (tw @OD (tw @sJ (tw @pB (tw @qj (tw @Jk (tw @dD @bq.eq_1))))))))))))))))))))))) ?_;(repeat(refine Pn.mk ?_;intro N hN))))
      exact gL (sd (tw @mU (tw @c0 (tw @c2 (tw @c7 @c8))))) (⟨_,_,sd @Nat.zero_add,sd @Nat.zero_add,.inr found⟩) (⟨lJ,bt⟩)
     ·(try((repeat(revert hN;revert N;apply Pn.out));refine wk (tw @mU (tw @c0 (tw @c2 (tw @c7 (tw @c8 (tw @c9 (tw @ji (tw @hk (tw @BV (tw @BU (tw @BX (tw @ly (tw @oO (tw @B5 (tw @eD (tw @pw (tw @hr (tw @OD (tw @sJ (tw @pB (tw @qj (tw @Jk (tw @dD @bq.eq_1))))))))))))))))))))))) ?_;(repeat(refine Pn.mk ?_;intro N hN))))
      exact gL (sd (tw @mU (tw @c0 (tw @c2 (tw @c7 @c8))))) (⟨wU,C9,sd @c9,sd @ji,by
       rcases Hh with⟨h1,_⟩|h
       ·exact absurd h1 Jk
       ·exact .inr h⟩) (⟨lJ,bt⟩)
   ·have qj:decide (out (bB bs ed v)=out v-1)=false:=decide_eq_false Ou
    (try((repeat(revert hN;revert N;apply Pn.out));refine wk (tw @mU (tw @c0 (tw @c2 (tw @c7 (tw @c8 (tw @c9 (tw @ji (tw @hk (tw @BV (tw @BU (tw @BX (tw @ly (tw @oO (tw @B5 (tw @eD (tw @pw (tw @hr (tw @OD (tw @sJ (tw @pB (tw @qj @bq.eq_1))))))))))))))))))))) ?_;(repeat(refine Pn.mk ?_;intro N hN))))
    exact gL (sd (tw @mU (tw @c0 (tw @c2 (tw @c7 @c8))))) (⟨wU,C9,sd @c9,sd @ji,stay _ rfl fun h=>Ou h.2⟩) (⟨lJ,bt⟩)
  ·(try((repeat(revert hN;revert N;apply Pn.out));refine wk (tw @mU (tw @c0 (tw @c2 (tw @c7 (tw @c8 (tw @c9 (tw @ji (tw @hk (tw @BV (tw @BU (tw @BX (tw @ly (tw @oO (tw @B5 (tw @eD (tw @pw (tw @hr @bq.eq_1))))))))))))))))) ?_;(repeat(refine Pn.mk ?_;intro N hN))))
   exact gL (sd (tw @mU (tw @c0 (tw @c2 (tw @c7 @c8))))) (⟨wU,C9,sd @c9,sd @ji,stay _ rfl fun h=>hr h.1⟩) (⟨lJ,bt⟩)
 ·have lx:k=I.length:=ab
  have Sx:∃ed:Nat,ed∈I/\C9=(ed:Int)/\wU=(bB bs ed v:Int)/\0<fw bs f' ed v/\out (bB bs ed v)=out v-1:=by
   rcases Hh with⟨h1,h2⟩|h
   ·exfalso
    obtain⟨ed,he,hq⟩:=Ls
    obtain⟨z,hz,rfl⟩:=List.getElem_of_mem he
    refine h2 z ab ?_
    rw[List.getD_eq_getElem?_getD,List.getElem?_eq_getElem hz];exact hq
   ·exact h
  obtain⟨ed,rG,rfl,rfl,hr,Ou⟩:=Sx
  obtain⟨he,oN⟩:=hIm _ rG
  (try((repeat(revert hN;revert N;apply Pn.out));refine wk (tw @mU (tw @c0 (tw @c2 (tw @c7 (tw @c8 (tw @c9 (tw @ji (tw @hk (tw @BV (tw @BU (tw @BX (tw @ly (tw @oO (tw @B5 (tw @pw @bq.eq_1))))))))))))))) ?_;(repeat(refine Pn.mk ?_;intro N hN))))
  refine .inr (aO _ _ _ _ _ (fun r σ1 hq=>?_) (NB cnt bs f' J6 ed v he X A F ⟨st_c.get,_⟩ nb (hN1.frame (fun i _=>lJ i) (Nat.le_refl _)) bt))
  obtain⟨Q4,me,Hn⟩:=hq
  (try dsimp only at me Hn)
  refine hN _ _ ?_
  clear hN N
  (try((repeat(revert hN;revert N;apply Pn.out));refine wk (tw @mU (tw @c0 (tw @c2 (tw @c7 (tw @c8 @c9))))) ?_;(repeat(refine Pn.mk ?_;intro N hN))))
  refine⟨_,?_,bB bs ed v,ss bs f' ed v,rfl,nR ok he,ab,sd @Nat.zero_add,hW.step he oN hr Ou,Q4,fun i hi hF=>by rw[Hn i hF,lJ i,lv i hi hF],bt⟩
  omega
def rZ (P:Program) (f:Nat) (args:List AV) (R:AV->Prop):Prop:=∀σ:ax,Call P f args ⟨V.ro σ.get,σ.next⟩ fun r0 σ'=>∃r',V.fz σ'.get 6 r0=some r'/\R r'
theorem BH {P:Program} {f:Nat} {args:List AV} {g:Rows} {n:Nat} {R:AV->Prop} (h:Sound P f args ⟨V.ro g,n⟩ fun r0 σ'=>∃r',V.fz σ'.get 6 r0=some r'/\R r'):Sound P f args ⟨g,n⟩ fun r σ'=>R r/\σ'=⟨g,n⟩:=by
 intro hs D ι w vs S U A
 refine(yX (g0:=g) (K:=R) h (fun _ _ h=>h) S U A).mono ?_
 rintro e w' ⟨r,D',u,rfl,hR,T,S',hr⟩
 exact⟨r,g,n,D',ι,u,rfl,⟨hR,rfl⟩,T,S',U,Nat.le_refl _,hr⟩
theorem rZ.x {P:Program} (hm:P.follows .mixedOrders=true) {f:Nat} {args:List AV} {R:AV->Prop} (h:rZ P f args R) {σ:ax}:Call P f args σ fun r σ'=>R r/\σ'=σ:=
 iy (BH (gP hm (h σ)))
theorem rZ.body {P:Program} {f:Nat} {args:List AV} {R:AV->Prop} {nt na:Nat} {body:VC} {res:List oF} (hf:kO P f=some ⟨nt,na,body,res⟩) (ha:na=args.length) (h:(∀a∈args,eG a)->∀σ:ax,ea (Call P) body (ll res fun r0 σ'=>∃r',V.fz σ'.get 6 r0=some r'/\R r') (cu args) ⟨V.ro σ.get,σ.next⟩):rZ P f args R:=fun σ=>lD hf ha fun hl=>h hl σ
theorem Kt {g:Rows} {rows:List (List AV)} {xs:List (List Nat)} {ids:List Id} (n:Nat) (h:dw Og g rows xs ids):dz g (n+2) rows=some (xs.map fun l=>[NK l]):=by
 induction h with
 |nil=>rw[dz];rfl
 |cons h1 _ ih=>
  rename_i x _ _ _ _ _
  rcases h1 with⟨h0,h1,_⟩|⟨id,h1,h0,h2,_⟩
  ·subst h0 h1;rw[dz,ih,ad,aj,aV];rfl
  ·have gY:x≠[]:=by rintro rfl;simp at h0
   subst h1
   rw[dz,ih,ad,aj,e7 (e:=eN) (sz:=1) h2 rfl fun a=>fzN _ n a]
   simp[NK,gY]
theorem nj.fz0 {cnt:Nat} {bs:List PB} {f:Nat->Int} {X A F:Id} {g:Rows} {nx:Nat} (h:nj cnt bs f X A F g nx):V.fz g 5 (.ptr X 0 0)=some (.cJ (fB cnt bs f)):=by
 have hf:V.fz g 4 (.own F 0 bs.length)=some (.sl (dJ f bs.length)):=by
  rw[fU]
  simp only[h.f,if_true]
  rw[if_pos (by rw[dt];omega),List.drop_zero,List.take_of_length_le (by rw[dt];omega),yE];rfl
 have ha:V.fz g 4 (.own A 0 cnt)=some (.sl (pc cnt bs bs.length)):=by
  obtain⟨rows,ids,h1,h2,_,_⟩:=h.a
  have hl:=h2.len
  rw[iY]at hl
  rw[fU]
  simp only[h1,if_true]
  rw[if_pos ab,List.drop_zero,List.take_of_length_le ab,Kt 1 h2]
  simp[kR,pc]
 rw[bo]
 simp only[h.x,if_true,List.getElem?_cons_zero,List.drop_zero,bq,ad,aj,aI,cj,ha,hf,Option.map_some,fB]
theorem Db {S:Nat->Bool}:∀bs:List PB,(∀b∈bs,b.s<=4)->iK S bs<=4*bs.length
 |[],_=>by simp[iK]
 |b::bs,h=>by
  rw[rn]
  have:=Db (S:=S) bs fun x hx=>h x (List.mem_cons_of_mem _ hx)
  have:=h b (by simp)
  simp only[List.length_cons]
  split<;>omega
theorem jF.zero {bs:List PB} {x y:Nat} (h:∀e,e<bs.length->0<=(bU bs e).s/\(bU bs e).s<=4):jF bs (fun _=>0) x y 0:=
 ⟨fun i hi=>by have:=h i hi;omega,fun S _ _=>jx fun i _=>by simp⟩
theorem Jv {bs:List PB} {b:PB} (h:b∈bs):∃e,e<bs.length/\bU bs e=b:=by
 obtain⟨e,he,rfl⟩:=List.getElem_of_mem h
 exact⟨e,he,by simp[bU,List.getD_eq_getElem?_getD,he]⟩
theorem Fg (cnt:Nat) (hn:cnt<=1048576) (bs:List PB) (ok:mJ cnt bs) (pO:bs.length<=1048576) (ew:∀e,e<bs.length->0<=(bU bs e).s/\(bU bs e).s<=4) (x y:Nat) (hx:x<cnt) (hy:y<cnt) (Ni:x≠y):
  rZ Tryz.prog 150 [.int .i64 cnt,.sl (bs.map aA),.int .i64 x,.int .i64 y] fun r=>∃f val,r=.iN [.cJ (fB cnt bs f),.int .i64 val]/\jF bs f x y val/\∃S:Nat->Bool,S x=true/\S y=false/\val=iK S bs:=by
 refine rZ.body dK rfl fun hl σ=>?_
 clear hl
 (try((repeat(revert hN;revert N;apply Pn.out));refine wk @Nat.zero_add ?_;(repeat(refine Pn.mk ?_;intro N hN))))
 refine .inr (aO _ _ _ _ _ (fun r σ1 hq=>?_) (HM cnt hn bs ok pO _))
 obtain⟨X,A,F,rfl,hX,hS⟩:=hq
 refine hN _ _ ?_
 clear hN N
 have hS0:∀f val,jF bs f x y val->val<=iK (fun v=>decide (v=x)) bs:=fun f val hf=>hf.bound (decide_eq_true rfl) (decide_eq_false fun h=>Ni h.symm)
 have htot:=Db (S:=fun v=>decide (v=x)) bs fun b hb=>by
  obtain⟨e,he,rfl⟩:=Jv hb
  exact(ew e he).2
 generalize iK (fun v=>decide (v=x)) bs=T at *
 (try((repeat(revert hN;revert N;apply Pn.out));refine wk @Nat.zero_add ?_;(repeat(refine Pn.mk ?_;intro N hN))))
 refine aP (fun m env st=>∃(f:Nat->Int) (val:Int),m=(T-val).toNat/\0<=val/\env 10=.ptr X 0 0/\env 11=.int .i64 val/\jF bs f x y val/\nj cnt bs f X A F st.get σ1.next/\σ1.next<=st.next) T.toNat ⟨_,0,by simp,ab,by(simp only[go_sem, ↓reduceIte,Nat.reduceEqDiff,Nat.reduceAdd,Nat.reduceSub,Nat.reduceLeDiff,reduceCtorEq]),by(simp only[go_sem, ↓reduceIte,Nat.reduceEqDiff,Nat.reduceAdd,Nat.reduceSub,Nat.reduceLeDiff,reduceCtorEq]),jF.zero ew,hS.frame (fun i hi=>rfl) (Nat.le_refl _),bt⟩ ?_
 rintro m env_b st_b ⟨f,val,rfl,jO,b10,b11,hf,hN1,hle⟩ bfr
 have b2:=bfr 2 (by kernel_rfl)
 have b3:=bfr 3 (by kernel_rfl)
 simp only[go_sem, ↓reduceIte,Nat.reduceEqDiff,Nat.reduceAdd,Nat.reduceSub,Nat.reduceLeDiff,reduceCtorEq]at b2 b3
 clear bfr
 (try((repeat(revert hN;revert N;apply Pn.out));refine wk (tw @b2 (tw @b3 @b10)) ?_;(repeat(refine Pn.mk ?_;intro N hN))))
 refine .inr (aO _ _ _ _ _ (fun r σ2 hq=>?_) (Mv cnt hn bs ok pO ew f x y hx hy Ni val hf X A F ⟨st_b.get,_⟩ σ1.next hN1 bt))
 obtain⟨b,f',rfl,Q4,me,_,lg,Th⟩:=hq
 (try dsimp only at me)
 refine hN _ _ ?_
 clear hN N
 cases b with
 |true=>
  have kM:=Th rfl
  have Gd:=hS0 _ _ hf
  have Ge:=hS0 _ _ kM
  have hw:IntKind.i64.wrap (val+1)=val+1:=aT ab
  (try((repeat(revert hN;revert N;apply Pn.out));refine wk (tw @b10 (tw @b11 @hw)) ?_;(repeat(refine Pn.mk ?_;intro N hN))))
  exact⟨_,ab,f',val+1,rfl,ab,sd @b10,sd (tw @b11 @hw),kM,Q4,bt⟩
 |false=>
  obtain⟨rfl,S,h1,h2,h3⟩:=lg rfl
  (try((repeat(revert hN;revert N;apply Pn.out));refine wk (tw @b10 @b11) ?_;(repeat(refine Pn.mk ?_;intro N hN))))
  have hz:=Q4.fz0
  exact⟨[.ptr X 0 0,.int .i64 val],sd @Nat.zero_add,.iN [.cJ (fB cnt bs f'),.int .i64 val],by simp only[eB,bG,ad,aj,hz,aI,Option.map_some],f',val,rfl,hf,S,h1,h2,h3⟩
theorem Fh (cnt:Nat) (hn:cnt<=1048576) (bs:List PB) (ok:mJ cnt bs) (pO:bs.length<=1048576) (f:Nat->Int) (hs:Small bs f) (y:Nat) (hy:y<cnt):
  mD Tryz.prog 151 [.cJ (fB cnt bs f),.int .i64 y] fun r=>∃l:List Nat,r=.sl (l.map eN)/\l.length<=cnt:=by
 refine mD.body dK rfl fun hl n0=>?_
 clear hl
 have hz:∀g:Rows,cm (dE g) 6 [.cJ (fB cnt bs f),.int .i64 (y:Int)]=some [.cJ (fB cnt bs f),.int .i64 y]:=fun g=>by simp only[ad,aj,aU,aI,Option.map_some]
 (try((repeat(revert hN;revert N;apply Pn.out));refine wk @Nat.zero_add ?_;(repeat(refine Pn.mk ?_;intro N hN))))
 refine .inr (aO _ _ _ _ _ (fun r σ1 hq=>?_) ((DZ cnt hn bs ok pO f hs y hy).x mixed (hz _)))
 obtain⟨⟨out,rfl,M8⟩,rfl⟩:=hq
 refine hN _ _ ?_
 clear hN N
 (try((repeat(revert hN;revert N;apply Pn.out));refine wk @fB.eq_1 ?_;(repeat(refine Pn.mk ?_;intro N hN))))
 refine aP (fun n env st=>∃k:Nat,n=(cnt)-k/\k<=(cnt)/\env 7=.int .i64 (k:Int)/\(∃(o:Id) (l:List Nat),env 6=.own o 0 l.length/\st.get o=some ⟨true,1,l.map eN⟩/\o.cq<st.next/\l.length<=k)) (cnt) ⟨0,ab,ab,sl @fB.eq_1,⟨⟨151002000,n0+1+1+1⟩,[],by(simp only[go_sem, ↓reduceIte,Nat.reduceEqDiff,Nat.reduceAdd,Nat.reduceSub,Nat.reduceLeDiff,reduceCtorEq])<;>rfl,by(simp only[go_sem, ↓reduceIte,Nat.reduceEqDiff,Nat.reduceAdd,Nat.reduceSub,Nat.reduceLeDiff,reduceCtorEq])<;>rfl,bt,by simp⟩⟩ ?_
 rintro n_a env_a st_a ⟨k,rfl,ale,a7,j0⟩ dm
 have a0:=dm 0 (by kernel_rfl);have a5:=dm 5 (by kernel_rfl)
 simp only[go_sem, ↓reduceIte,Nat.reduceEqDiff,Nat.reduceAdd,Nat.reduceSub,Nat.reduceLeDiff,reduceCtorEq,fB]at a0 a5
 clear dm
 obtain⟨o,l,a6,ag,sJ,vD⟩:=j0
 have jO:=eP sJ
 have gy:(l.map eN).length=l.length:=by simp
 by_cases hk:(k:Int)<(cnt:Int)
 ·have bD:∀{e:Env} {gg:Rows} {nx:Nat},(e 7=.int .i64 (IntKind.i64.wrap ((k:Int)+1)))->(∃(o:Id) (l:List Nat),e 6=.own o 0 l.length/\gg o=some ⟨true,1,l.map eN⟩/\o.cq<nx/\l.length<=(k+1))->∃m0,m0<(cnt)-k/\∃k:Nat,m0=(cnt)-k/\k<=(cnt)/\e 7=.int .i64 (k:Int)/\(∃(o:Id) (l:List Nat),e 6=.own o 0 l.length/\gg o=some ⟨true,1,l.map eN⟩/\o.cq<nx/\l.length<=k):=fun x1 x2=>⟨_,ab,k+1,rfl,ab,(by rw[x1,ay ab]),x2⟩
  have ub:=dC (f:=out) (show k<cnt by omega)
  rw[au]at ub
  have e1:l.length+1<=16777216:=ab
  by_cases h0:0<=out k
  ·(try((repeat(revert hN;revert N;apply Pn.out));refine wk (tw @a7 (tw @a0 (tw @a5 (tw @a6 (tw @ag (tw @jO (tw @hk (tw @ub (tw @h0 (tw @e1 (tw @gy @fB.eq_1))))))))))) ?_;(repeat(refine Pn.mk ?_;intro N hN))))
   exact bD (sd (tw @a7 (tw @a0 (tw @a5 @fB.eq_1)))) (⟨⟨151007003,st_a.next+1+1⟩,l++[k],by rw[List.length_append];simp only[go_sem, ↓reduceIte,Nat.reduceEqDiff,Nat.reduceAdd,Nat.reduceSub,Nat.reduceLeDiff,reduceCtorEq,List.length_cons,List.length_nil],by rw[List.map_append,List.map_cons,List.map_nil];simp only[go_sem, ↓reduceIte,Nat.reduceEqDiff,Nat.reduceAdd,Nat.reduceSub,Nat.reduceLeDiff,reduceCtorEq,eN],bt,by simp;omega⟩)
  ·(try((repeat(revert hN;revert N;apply Pn.out));refine wk (tw @a7 (tw @a0 (tw @a5 (tw @a6 (tw @ag (tw @jO (tw @hk (tw @ub (tw @h0 (tw @gy @fB.eq_1)))))))))) ?_;(repeat(refine Pn.mk ?_;intro N hN))))
   exact bD (sd (tw @a7 (tw @a0 (tw @a5 @fB.eq_1)))) (⟨o,l,sd @a6,sd @ag,bt,ab⟩)
 ·(try((repeat(revert hN;revert N;apply Pn.out));refine wk (tw @a7 (tw @a0 (tw @a5 (tw @a6 (tw @hk @fB.eq_1))))) ?_;(repeat(refine Pn.mk ?_;intro N hN))))
  have rF:fD st_a.get 6 (.own o 0 l.length)=some (.sl (l.map eN)):=fH ag rfl fun b=>Mt _ 4 b
  exact⟨_,rfl,_,by simp only[go_sem, ↓reduceIte,Nat.reduceEqDiff,Nat.reduceAdd,Nat.reduceSub,Nat.reduceLeDiff,reduceCtorEq,eB];exact rF,l,rfl,ab⟩
theorem Af (v1 v2:Int) (l1 l2:List Nat) (h1:l1.length<=1048576) (h2:l2.length<=1048576):
  mD Tryz.prog 152 [.int .i64 v1,.sl (l1.map eN),.int .i64 v2,.sl (l2.map eN)] fun r=>∃b,r=.bool b/\(v1<v2->b=true)/\(v2<v1->b=false):=by
 refine mD.body dK rfl fun hl n0=>?_
 clear hl
 have ret:∀{t:Nat} {env:Env} {σ:ax} {b:Bool} {x:Ex},(x=.ret∨x=.normal)->env t=.bool b->((v1<v2->b=true)/\(v2<v1->b=false))->ll [.tmp t] (fun r0 σ'=>∃r',fD σ'.get 6 r0=some r'/\∃b,r'=.bool b/\(v1<v2->b=true)/\(v2<v1->b=false)) x env σ:=by
  intro t env σ b x hx he hb
  have:∃vs,eV env σ.get [.tmp t]=some vs/\∃r',fD σ.get 6 (eB vs)=some r'/\∃b,r'=.bool b/\(v1<v2->b=true)/\(v2<v1->b=false):=⟨[env t],rfl,.bool b,by rw[he];exact fa _ _ _,b,rfl,hb⟩
  rcases hx with rfl|rfl
  ·exact this
  ·exact this
 have m1:(l1.map eN).length=l1.length:=by simp
 have m2:(l2.map eN).length=l2.length:=by simp
 by_cases hv:v1=v2
 ·have hd:decide (v1=v2)=true:=decide_eq_true hv
  by_cases vD:(l1.length:Int)=(l2.length:Int)
  ·have qj:decide ((l1.length:Int)=(l2.length:Int))=true:=decide_eq_true vD
   have So:decide (l1.length=l2.length)=true:=decide_eq_true ab
   (try((repeat(revert hN;revert N;apply Pn.out));refine wk (tw @hd (tw @qj (tw @So (tw @m1 @m2)))) ?_;(repeat(refine Pn.mk ?_;intro N hN))))
   refine aP (fun n env st=>∃k:Nat,n=(l1.length)-k/\k<=(l1.length)/\env 9=.int .i64 (k:Int)) (l1.length) ⟨0,ab,ab,sl @Nat.zero_add⟩ ?_
   rintro n_a env_a st_a ⟨k,rfl,ale,a9⟩ dm
   have a1:=dm 1 (by kernel_rfl);have a3:=dm 3 (by kernel_rfl)
   simp only[go_sem, ↓reduceIte,Nat.reduceEqDiff,Nat.reduceAdd,Nat.reduceSub,Nat.reduceLeDiff,reduceCtorEq]at a1 a3
   clear dm
   by_cases hk:(k:Int)<(l1.length:Int)
   ·have bD:∀{e:Env},(e 9=.int .i64 (IntKind.i64.wrap ((k:Int)+1)))->∃m0,m0<(l1.length)-k/\∃k:Nat,m0=(l1.length)-k/\k<=(l1.length)/\e 9=.int .i64 (k:Int):=fun x1=>⟨_,ab,k+1,rfl,ab,(by rw[x1,ay ab])⟩
    have g1:(l1.map eN)[k]? =some (eN (l1.getD k 0)):=getD_map eN ab
    have g2:(l2.map eN)[k]? =some (eN (l2.getD k 0)):=getD_map eN ab
    rw[eN]at g1 g2
    by_cases he:((l1.getD k 0:Nat):Int)=((l2.getD k 0:Nat):Int)
    ·have Sp:decide (((l1.getD k 0:Nat):Int)=((l2.getD k 0:Nat):Int))=true:=decide_eq_true he
     have Sq:decide (l1.getD k 0=l2.getD k 0)=true:=decide_eq_true ab
     (try((repeat(revert hN;revert N;apply Pn.out));refine wk (tw @a9 (tw @a1 (tw @a3 (tw @hk (tw @m1 (tw @g1 (tw @g2 (tw @Sp @Sq)))))))) ?_;(repeat(refine Pn.mk ?_;intro N hN))))
     exact bD (sd (tw @a9 (tw @a1 @a3)))
    ·have Sp:decide (((l1.getD k 0:Nat):Int)=((l2.getD k 0:Nat):Int))=false:=decide_eq_false he
     have Sq:decide (l1.getD k 0=l2.getD k 0)=false:=decide_eq_false ab
     (try((repeat(revert hN;revert N;apply Pn.out));refine wk (tw @a9 (tw @a1 (tw @a3 (tw @hk (tw @m1 (tw @g1 (tw @g2 (tw @Sp @Sq)))))))) ?_;(repeat(refine Pn.mk ?_;intro N hN))))
     exact ret (.inl rfl) (by simp only[go_sem, ↓reduceIte,Nat.reduceEqDiff,Nat.reduceAdd,Nat.reduceSub,Nat.reduceLeDiff,reduceCtorEq];rfl) ⟨fun h=>ab,fun h=>ab⟩
   ·(try((repeat(revert hN;revert N;apply Pn.out));refine wk (tw @a9 (tw @a1 (tw @a3 (tw @hk @m1)))) ?_;(repeat(refine Pn.mk ?_;intro N hN))))
    exact ret (b:=false) (.inl rfl) (sd @Nat.zero_add) ⟨fun h=>ab,fun h=>ab⟩
  ·have qj:decide ((l1.length:Int)=(l2.length:Int))=false:=decide_eq_false vD
   have So:decide (l1.length=l2.length)=false:=decide_eq_false ab
   (try((repeat(revert hN;revert N;apply Pn.out));refine wk (tw @hd (tw @qj (tw @So (tw @m1 @m2)))) ?_;(repeat(refine Pn.mk ?_;intro N hN))))
   exact ret (.inl rfl) (by simp only[go_sem, ↓reduceIte,Nat.reduceEqDiff,Nat.reduceAdd,Nat.reduceSub,Nat.reduceLeDiff,reduceCtorEq];rfl) ⟨fun h=>ab,fun h=>ab⟩
 ·have hd:decide (v1=v2)=false:=decide_eq_false hv
  (try((repeat(revert hN;revert N;apply Pn.out));refine wk @hd ?_;(repeat(refine Pn.mk ?_;intro N hN))))
  exact ret (b:=decide (v1<v2)) (.inl rfl) (sd @Nat.zero_add) ⟨fun h=>decide_eq_true h,fun h=>decide_eq_false ab⟩
def tg (bs:List PB) (cnt:Nat) (iS:Int) (k:Nat):Prop:=(k=1/\iS= -1)∨(0<=iS/\(∀z,1<=z->z<k->∀S:Nat->Bool,S 0=true->S z=false->iS<=iK S bs)/\∃S:Nat->Bool,S 0=true/\(∃z,z<cnt/\S z=false)/\iS=iK S bs)
theorem jF.nn {bs:List PB} {val:Int} {S:Nat->Bool} (ew:∀e,e<bs.length->0<=(bU bs e).s/\(bU bs e).s<=4) (h:val=iK S bs):0<=val:=by
 rw[h,tC]
 have:=qM (f:=fun _=>0) (g:=fun i=>if S (bU bs i).a=S (bU bs i).b then 0 else(bU bs i).s) (n:=bs.length) fun i hi=>by
  have:=ew i hi
  split<;>omega
 rw[jx fun _ _=>rfl]at this
 exact this
theorem tg.done {bs:List PB} {cnt:Nat} {iS:Int} (hc:2<=cnt) (h:tg bs cnt iS cnt) (t:Int):t<=iS↔kd cnt bs t:=by
 rcases h with⟨h,_⟩|⟨_,h1,S,h2,⟨z,hz,k7⟩,h3⟩
 ·omega
 ·constructor
  ·intro ht S h0 ⟨y,hy,hy2⟩
   have:y≠0:=by rintro rfl;rw[h0]at hy2;cases hy2
   have:=h1 y ab hy S h0 hy2
   omega
  ·intro hH
   rw[h3];exact hH S h2 ⟨z,hz,k7⟩
theorem xZ (cnt:Nat) (h2:2<=cnt) (hn:cnt<=1048576) (bs:List PB) (ok:mJ cnt bs) (pO:bs.length<=1048576) (ew:∀e,e<bs.length->0<=(bU bs e).s/\(bU bs e).s<=4):
  rZ Tryz.prog 128 [.int .i64 cnt,.sl (bs.map aA)] fun r=>∃iS p,r=.iN [.int .i64 iS,p]/\∀t:Int,t<=iS↔kd cnt bs t:=by
 refine rZ.body dK rfl fun hl σ=>?_
 clear hl
 (try((repeat(revert hN;revert N;apply Pn.out));refine wk @Nat.zero_add ?_;(repeat(refine Pn.mk ?_;intro N hN))))
 have z0:∀(g:Rows) (id:Id),g id=some ⟨true,1,[]⟩->V.fz (dE g) 6 (.own id 0 0)=some (.sl (([]:List Nat).map eN))/\V.fz g 5 (.own id 0 0)=some (.sl (([]:List Nat).map eN)):=fun g id h=>by
  have h':dE g id=some ⟨true,1,[]⟩:=by simp[dE,h]
  constructor
  ·rw[fU];simp only[h',if_true];rw[if_pos (by simp)];simp[kZ]
  ·rw[fU];simp only[h,if_true];rw[if_pos (by simp)];simp[kZ]
 refine aP (fun m env st=>∃(k:Nat) (iS:Int) (l:List Nat) (p:AV),m=cnt-k/\1<=k/\k<=cnt/\env 8=.int .i64 (k:Int)/\env 6=.int .i64 iS/\env 7=p/\V.fz (dE st.get) 6 p=some (.sl (l.map eN))/\V.fz st.get 5 p=some (.sl (l.map eN))/\l.length<=cnt/\tg bs cnt iS k) (cnt-1) ⟨1,-1,[],.own ⟨128002000,σ.next+1+1⟩ 0 0,rfl,ab,ab,by(simp only[go_sem, ↓reduceIte,Nat.reduceEqDiff,Nat.reduceAdd,Nat.reduceSub,Nat.reduceLeDiff,reduceCtorEq])<;>rfl,by(simp only[go_sem, ↓reduceIte,Nat.reduceEqDiff,Nat.reduceAdd,Nat.reduceSub,Nat.reduceLeDiff,reduceCtorEq])<;>rfl,by(simp only[go_sem, ↓reduceIte,Nat.reduceEqDiff,Nat.reduceAdd,Nat.reduceSub,Nat.reduceLeDiff,reduceCtorEq])<;>rfl,(z0 _ _ (sd @Nat.zero_add)).1,(z0 _ _ (sd @Nat.zero_add)).2,by simp,.inl ⟨rfl,rfl⟩⟩ ?_
 rintro m env_b st_b ⟨k,iS,l,p,rfl,qW,tX,b8,b6,b7,yW,k7,hl,hB⟩ bfr
 have b0:=bfr 0 (by kernel_rfl)
 have b1:=bfr 1 (by kernel_rfl)
 simp only[go_sem, ↓reduceIte,Nat.reduceEqDiff,Nat.reduceAdd,Nat.reduceSub,Nat.reduceLeDiff,reduceCtorEq]at b0 b1
 clear bfr z0
 by_cases hk:(k:Int)<(cnt:Int)
 ·have dX:k<cnt:=ab
  have hFl:=Fg cnt hn bs ok pO ew 0 k ab dX ab
  rw[show(((0:Nat):Int))=0 from rfl]at hFl
  (try((repeat(revert hN;revert N;apply Pn.out));refine wk (tw @b0 (tw @b1 (tw @b6 (tw @b7 (tw @b8 @hk))))) ?_;(repeat(refine Pn.mk ?_;intro N hN))))
  refine .inr (aO _ _ _ _ _ (fun r σ1 hq=>?_) (hFl.x mixed))
  obtain⟨⟨f,val,rfl,hf,S,JN,JO,Ot⟩,rfl⟩:=hq
  refine hN _ _ ?_
  clear hN N
  have J6:=uM ew hf.le
  have qn:=jF.nn (val:=val) ew Ot
  (try((repeat(revert hN;revert N;apply Pn.out));refine wk (tw @b0 (tw @b1 (tw @b6 (tw @b7 @b8)))) ?_;(repeat(refine Pn.mk ?_;intro N hN))))
  refine .inr (aO _ _ _ _ _ (fun r σ1 hq=>?_) ((Fh cnt hn bs ok pO f J6 k dX).x mixed (by simp only[ad,aj,aU,aI,Option.map_some])))
  obtain⟨⟨l',rfl,Ji⟩,rfl⟩:=hq
  refine hN _ _ ?_
  clear hN N
  have hw:IntKind.i64.wrap ((k:Int)+1)=((k+1:Nat):Int):=ay ab
  have QG:(∀z,1<=z->z<k->∀S:Nat->Bool,S 0=true->S z=false->val<=iK S bs)->tg bs cnt val (k+1):=fun h=>.inr ⟨qn,fun z yW k7 S' h0 h1=>by
   by_cases sk:z=k
   ·subst sk;exact hf.bound h0 h1
   ·exact h z yW ab S' h0 h1,S,JN,⟨k,dX,JO⟩,Ot⟩
  by_cases jK:iS<0
  ·have zR:k=1:=by
    rcases hB with⟨h,_⟩|⟨h,_⟩
    ·exact h
    ·omega
   (try((repeat(revert hN;revert N;apply Pn.out));refine wk (tw @b0 (tw @b1 (tw @b6 (tw @b7 (tw @b8 (tw @jK @hw)))))) ?_;(repeat(refine Pn.mk ?_;intro N hN))))
   refine⟨_,?_,k+1,val,l',.sl (l'.map eN),rfl,ab,ab,sd (tw @b8 @hw),sd @Nat.zero_add,sd @Nat.zero_add,cj _ _ _,cj _ _ _,Ji,QG fun z h1 h2=>ab⟩
   omega
  ·have zR:(∀z,1<=z->z<k->∀S:Nat->Bool,S 0=true->S z=false->iS<=iK S bs)/\∃S:Nat->Bool,S 0=true/\(∃z,z<cnt/\S z=false)/\iS=iK S bs:=by
    rcases hB with⟨_,h⟩|⟨_,h⟩
    ·omega
    ·exact h
   (try((repeat(revert hN;revert N;apply Pn.out));refine wk (tw @b0 (tw @b1 (tw @b6 (tw @b7 (tw @b8 (tw @jK @hw)))))) ?_;(repeat(refine Pn.mk ?_;intro N hN))))
   refine .inr (aO _ _ _ _ _ (fun r σ1 hq=>?_) ((Af val iS l' l ab ab).x mixed (by simp only[ad,aj,cj,aI,yW,Option.map_some])))
   obtain⟨⟨b,rfl,Gd,Ge⟩,rfl⟩:=hq
   refine hN _ _ ?_
   clear hN N
   cases b with
   |true=>
    have Ta:val<=iS:=by
     rcases Int.lt_or_le iS val with h|h
     ·exact absurd (Ge h) (by simp)
     ·exact h
    (try((repeat(revert hN;revert N;apply Pn.out));refine wk (tw @b0 (tw @b1 (tw @b6 (tw @b7 (tw @b8 @hw))))) ?_;(repeat(refine Pn.mk ?_;intro N hN))))
    refine⟨_,?_,k+1,val,l',.sl (l'.map eN),rfl,ab,ab,sd (tw @b8 @hw),sd @Nat.zero_add,sd @Nat.zero_add,cj _ _ _,cj _ _ _,Ji,QG fun z h1 h2 S' h3 h4=>by have:=zR.1 z h1 h2 S' h3 h4;omega⟩
    omega
   |false=>
    have Ta:iS<=val:=by
     rcases Int.lt_or_le val iS with h|h
     ·exact absurd (Gd h) (by simp)
     ·exact h
    (try((repeat(revert hN;revert N;apply Pn.out));refine wk (tw @b0 (tw @b1 (tw @b6 (tw @b7 (tw @b8 @hw))))) ?_;(repeat(refine Pn.mk ?_;intro N hN))))
    refine⟨_,?_,k+1,iS,l,p,rfl,ab,ab,sd (tw @b8 @hw),sd @b6,sd @b7,yW,k7,hl,.inr ⟨ab,fun z h1 h2 S' h3 h4=>?_,zR.2⟩⟩
    ·omega
    ·by_cases sk:z=k
     ·subst sk;have:=hf.bound h3 h4;omega
     ·exact zR.1 z h1 ab S' h3 h4
 ·have lx:k=cnt:=ab
  (try((repeat(revert hN;revert N;apply Pn.out));refine wk (tw @b0 (tw @b1 (tw @b6 (tw @b7 (tw @b8 @hk))))) ?_;(repeat(refine Pn.mk ?_;intro N hN))))
  exact⟨[.int .i64 iS,p],sd @Nat.zero_add,.iN [.int .i64 iS,.sl (l.map eN)],by simp only[eB,bG,ad,aj,k7,aI,Option.map_some],iS,_,rfl,tg.done h2 (lx▸hB)⟩
theorem KX {s:ar} (hS:l5 s) (a d:Int):uN s (dc (dd s a) d)<=4:=by
 have hF:=hS.form
 have fP:dc (dd s a) d=0∨(0<=dc (dd s a) d/\dc (dd s a) d<=s.aw.length):=by
  unfold dc dd
  rw[List.getD_eq_getElem?_getD,List.getD_eq_getElem?_getD]
  rcases ht:s.ah[a.toNat]? with _|t
  ·exact .inl (by simp[Cp])
  ·have htm:=List.mem_of_getElem? ht
   simp only[Option.getD_some]
   rcases hg:t.bp[d.toNat]? with _|g
   ·exact .inl rfl
   ·exact .inr (hF.sf t htm g (List.mem_of_getElem? hg))
 unfold uN
 by_cases h0:dc (dd s a) d=0
 ·rw[if_pos h0];omega
 ·rw[if_neg h0]
  have hk:(dc (dd s a) d-1).toNat<s.aw.length:=ab
  have:=dB (hS.RV _ hk).2.1
  unfold oX at this
  unfold iD
  omega
theorem GQ {s:ar} (hS:l5 s) (a d b:Int):iT s a d b<=4:=by
 unfold iT
 split
 ·exact KX hS a d
 ·omega
theorem Er {s:ar} {l:List aq} (hS:l5 s) {i:Nat} (hi:i<l.length) {d:Int}:∀b∈l7 s l i d,b.a<l.length/\b.b<l.length/\0<=b.s/\b.s<=4:=by
 intro b hb
 unfold l7 at hb
 split at hb
 ·rename_i h
  simp only[List.mem_singleton]at hb
  subst hb
  exact⟨hi,(s5 h.1).1,by simp only;omega,GQ hS ..⟩
 ·cases hb
theorem v5 {s:ar} {l:List aq} (hS:l5 s):∀b∈cv s l,b.a<l.length/\b.b<l.length/\0<=b.s/\b.s<=4:=by
 intro b hb
 simp only[cv,gq,fF,List.mem_flatMap,List.mem_range]at hb
 obtain⟨i,hi,j,_,hb⟩:=hb
 exact Er hS hi b hb
theorem pd {s:ar} {l:List aq} (hF:kc l):(cv s l).length<=1000:=by
 have:=r6 s l l.length
 have:=hF.Gc
 rw[cv];omega
theorem GJ {bs:List PB} {e:Nat} (h:e<bs.length):bU bs e∈bs:=by
 rw[bU,List.getD_eq_getElem?_getD,List.getElem?_eq_getElem h];exact List.getElem_mem h
theorem EW {n:Nat} {bs:List PB} {t:Int} (h:n<2):kd n bs t:=fun S h0 ⟨y,hy,hf⟩=>by
 have:y=0:=ab
 subst this;rw[h0]at hf;cases hf
def gT (s:ar) (l:List aq) (t:Int):Nat:=(leads l.length (dS (aJ t (cv s l)))).length
noncomputable def mP (s:ar) (l:List aq) (t:Int):Bool:=@decide (od l.length (cv s l) t) (Classical.propDecidable _)
def rC (s:ar) (l:List aq) (t:Int):Int:=if 64<gT s l t then 4 else 0
theorem lT {s:ar} {l:List aq} {t:Int} {p:Prop} [Decidable p] (h:p↔od l.length (cv s l) t):decide p=mP s l t:=by
 letI:=Classical.propDecidable (od l.length (cv s l) t)
 unfold mP
 by_cases hp:p
 ·rw[decide_eq_true hp];exact(decide_eq_true (h.1 hp)).symm
 ·rw[decide_eq_false hp];exact(decide_eq_false fun k=>hp (h.2 k)).symm
theorem Ai (s:ar) (l:List aq) (t:Int) (hS:l5 s) (hA:re s l):ae Tryz.prog 94 [.cJ (aa s),.cJ [.sl (l.map ai)],.int .i64 t] (.iN [.bool (mP s l t),.int .i64 (rC s l t)]):=by
 refine ae.body dK rfl fun hl n0=>?_
 clear hl
 have hb:=v5 (l:=l) hS
 have pO:=pd (s:=s) hA.1
 have PQ:=hA.1.Gc
 have zT:=Cf s l hS.form hA
 have Jm:=Ah l.length ab (cv s l) (fun b h=>⟨(hb b h).1,(hb b h).2.1⟩) ab t
 have hL:=so (aJ t (cv s l))
 have fP:=CH hL (fun b h=>⟨(hb b h).1,(hb b h).2.1⟩)
 have hlen:=(mm (dS (aJ t (cv s l))) (cv s l)).2
 have lu:=jt l.length (dS (aJ t (cv s l)))
 have fI:(l.map ai).length=l.length:=by simp
 by_cases sG:(64:Int)<(gT s l t:Int)
 ·have sH:64<gT s l t:=ab
  have hd:mP s l t=false:=(lT (p:=False) ⟨False.elim,fun h=>by have:=h.1;unfold gT at sH;omega⟩).symm.trans (by simp)
  rw[gT]at sG
  (repeat(first|((repeat(revert hN;revert N;apply Pn.out));refine wk (tw @aa.eq_1 (tw @sG @fI)) ?_;(repeat(refine Pn.mk ?_;intro N hN)))|((try apply Or.inl);refine⟨_,ae.x (zT) (sd (tw @aa.eq_1 (tw @sG @fI))),?_⟩;refine hN _ _ ?_;clear hN N)|((try apply Or.inl);refine⟨_,ae.x (Jm) (sd (tw @aa.eq_1 (tw @sG @fI))),?_⟩;refine hN _ _ ?_;clear hN N)))
  exact jf (.inl rfl) (r1:=.bool false) (r2:=.int .i64 4) (sd @Nat.zero_add) (sd @Nat.zero_add) (by rw[hd,rC,if_pos sH];simp only[eY,br,bV,fa,eC,Option.map_some])
 have sH:¬64<gT s l t:=ab
 have hf:rC s l t=0:=by rw[rC,if_neg sH]
 by_cases h2:(gT s l t:Int)<2
 ·have hd:mP s l t=true:=(lT (p:=True) ⟨fun _=>⟨by unfold gT at sH;omega,EW (by unfold gT at h2;omega)⟩,fun _=>trivial⟩).symm.trans (by simp)
  rw[gT]at sG h2
  (repeat(first|((repeat(revert hN;revert N;apply Pn.out));refine wk (tw @aa.eq_1 (tw @sG (tw @h2 @fI))) ?_;(repeat(refine Pn.mk ?_;intro N hN)))|((try apply Or.inl);refine⟨_,ae.x (zT) (sd (tw @aa.eq_1 (tw @sG (tw @h2 @fI)))),?_⟩;refine hN _ _ ?_;clear hN N)|((try apply Or.inl);refine⟨_,ae.x (Jm) (sd (tw @aa.eq_1 (tw @sG (tw @h2 @fI)))),?_⟩;refine hN _ _ ?_;clear hN N)))
  exact jf (.inl rfl) (r1:=.bool true) (r2:=.int .i64 0) (sd @Nat.zero_add) (sd @Nat.zero_add) (by rw[hd,hf];simp only[eY,br,bV,fa,eC,Option.map_some])
 have Ng:=xZ (gT s l t) ab (by unfold gT;omega) (eQ (dS (aJ t (cv s l))) (cv s l)) (fun e he=>by have:=fP _ (GJ he);exact⟨this.1,this.2.1,this.2.2.1⟩) ab (fun e he=>by
  obtain⟨_,_,_,c,hc,dq⟩:=fP _ (GJ he)
  rw[dq];have:=hb c hc;omega)
 rw[gT]at sG h2 Ng
 (repeat(first|((repeat(revert hN;revert N;apply Pn.out));refine wk (tw @aa.eq_1 (tw @sG (tw @h2 @fI))) ?_;(repeat(refine Pn.mk ?_;intro N hN)))|((try apply Or.inl);refine⟨_,ae.x (zT) (sd (tw @aa.eq_1 (tw @sG (tw @h2 @fI)))),?_⟩;refine hN _ _ ?_;clear hN N)|((try apply Or.inl);refine⟨_,ae.x (Jm) (sd (tw @aa.eq_1 (tw @sG (tw @h2 @fI)))),?_⟩;refine hN _ _ ?_;clear hN N)))
 refine .inr (aO _ _ _ _ _ (fun r σ1 hq=>?_) (Ng.x mixed))
 obtain⟨⟨iS,p,rfl,PJ⟩,rfl⟩:=hq
 refine hN _ _ ?_
 clear hN N
 (try((repeat(revert hN;revert N;apply Pn.out));refine wk @Nat.zero_add ?_;(repeat(refine Pn.mk ?_;intro N hN))))
 exact jf (.inl rfl) (r1:=.bool (decide (t<=iS))) (r2:=.int .i64 0) (sd @Nat.zero_add) (sd @Nat.zero_add) (by
  rw[hf,lT (s:=s) (l:=l) (t:=t) (p:=t<=iS) ((PJ t).trans (BZ.trans ⟨fun h=>⟨by unfold gT at sH;omega,h⟩,fun h=>h.2⟩))]
  simp only[eY,br,bV,fa,eC,Option.map_some])
theorem rM (t:Int):ae Tryz.prog 93 [.int .i64 t] (.bool (fJ t 1 16)):=by
 refine ae.body dK rfl fun hl n0=>?_
 clear hl
 have h:=gV t 1 16
 (repeat(first|((repeat(revert hN;revert N;apply Pn.out));refine wk @Nat.zero_add ?_;(repeat(refine Pn.mk ?_;intro N hN)))|((try apply Or.inl);refine⟨_,ae.x (h) (sd @Nat.zero_add),?_⟩;refine hN _ _ ?_;clear hN N)))
 exact aC (b:=fJ t 1 16) (.inl rfl) (sd @Nat.zero_add) rfl
structure GF (s:cl):Prop where
 set:l5 s.aE
 NG:re s.aE s.bZ.ah
 some:1<=s.bZ.ah.length
 NO:fJ s.aH 1 16=true
 holds:od s.bZ.ah.length (cv s.aE s.bZ.ah) s.aH
noncomputable def mv (s:cl):Bool:=@decide (GF s) (Classical.propDecidable _)
theorem uP {s:cl}:mv s=true↔GF s:=by simp[mv]
theorem jD {s:cl} (h:¬GF s):false=mv s:=by simp[mv,h]
theorem AI {s:cl} (h:GF s):true=mv s:=by simp[mv,h]
theorem oB {s:ar} {l:List aq} {t:Int}:mP s l t=true↔od l.length (cv s l) t:=by simp[mP]
theorem Kn (s:cl) (hn:fA s.aE) (hg:s.aE.aw.length<=1048576) (ht:s.aE.ah.length<=1048576):ae Tryz.prog 65 [.cJ (az s)] (.bool (mv s)):=by
 refine ae.body dK rfl fun hl n0=>?_
 clear hl
 have h1:=(Kl s.aE hn hg ht).cut mixed (.ptr _ [.sl (s.bZ.ah.map ai),.int .i64 s.aH] .nil)
 by_cases hS:l5 s.aE
 ·rw[lR.2 hS]at h1
  have h2:=(DM s.aE s.bZ.ah).cut mixed (.ptr _ [.sl (s.bZ.ah.map ai),.int .i64 s.aH] (.ptr _ [.int .i64 s.aH] .nil))
  by_cases hA:re s.aE s.bZ.ah
  ·rw[lE.2 hA]at h2
   by_cases h0:(s.bZ.ah.length:Int)=0
   ·have hd:decide ((s.bZ.ah.length:Int)=0)=true:=decide_eq_true h0
    have lg:false=mv s:=jD fun h=>by have:=h.some;omega
    generalize fI:(s.bZ.ah.map ai).length=len at *
    (repeat(first|((repeat(revert hN;revert N;apply Pn.out));refine wk (tw @az.eq_1 (tw @aa.eq_1 @hd)) ?_;(repeat(refine Pn.mk ?_;intro N hN)))|((try apply Or.inl);refine⟨_,ae.x (h1) (sd (tw @az.eq_1 (tw @aa.eq_1 @hd))),?_⟩;refine hN _ _ ?_;clear hN N)|((try apply Or.inl);refine⟨_,ae.x (h2) (sd (tw @az.eq_1 (tw @aa.eq_1 @hd))),?_⟩;refine hN _ _ ?_;clear hN N)))
    exact aC (b:=false) (.inl rfl) (sd @Nat.zero_add) lg
   ·have hd:decide ((s.bZ.ah.length:Int)=0)=false:=decide_eq_false h0
    have h3:=rM s.aH
    cases hT:fJ s.aH 1 16
    ·rw[hT]at h3
     (repeat(first|((repeat(revert hN;revert N;apply Pn.out));refine wk (tw @az.eq_1 (tw @aa.eq_1 @hd)) ?_;(repeat(refine Pn.mk ?_;intro N hN)))|((try apply Or.inl);refine⟨_,ae.x (h1) (sd (tw @az.eq_1 (tw @aa.eq_1 @hd))),?_⟩;refine hN _ _ ?_;clear hN N)|((try apply Or.inl);refine⟨_,ae.x (h2) (sd (tw @az.eq_1 (tw @aa.eq_1 @hd))),?_⟩;refine hN _ _ ?_;clear hN N)|((try apply Or.inl);refine⟨_,ae.x (h3) (sd (tw @az.eq_1 (tw @aa.eq_1 @hd))),?_⟩;refine hN _ _ ?_;clear hN N)))
     exact aC (b:=false) (.inl rfl) (sd @Nat.zero_add) (jD fun h=>by have:=h.NO;rw[hT]at this;cases this)
    ·rw[hT]at h3
     have h4:=(Ai s.aE s.bZ.ah s.aH hS hA).cut mixed (.ptr _ [.sl (s.bZ.ah.map ai),.int .i64 s.aH] (.ptr _ [.int .i64 s.aH] (.same _ .nil)))
     cases hB:mP s.aE s.bZ.ah s.aH
     ·rw[hB]at h4
      (repeat(first|((repeat(revert hN;revert N;apply Pn.out));refine wk (tw @az.eq_1 (tw @aa.eq_1 @hd)) ?_;(repeat(refine Pn.mk ?_;intro N hN)))|((try apply Or.inl);refine⟨_,ae.x (h1) (sd (tw @az.eq_1 (tw @aa.eq_1 @hd))),?_⟩;refine hN _ _ ?_;clear hN N)|((try apply Or.inl);refine⟨_,ae.x (h2) (sd (tw @az.eq_1 (tw @aa.eq_1 @hd))),?_⟩;refine hN _ _ ?_;clear hN N)|((try apply Or.inl);refine⟨_,ae.x (h3) (sd (tw @az.eq_1 (tw @aa.eq_1 @hd))),?_⟩;refine hN _ _ ?_;clear hN N)|((try apply Or.inl);refine⟨_,ae.x (h4) (sd (tw @az.eq_1 (tw @aa.eq_1 @hd))),?_⟩;refine hN _ _ ?_;clear hN N)))
      exact aC (b:=false) (.inl rfl) (sd @Nat.zero_add) (jD fun h=>by have:=oB.2 h.holds;rw[hB]at this;cases this)
     ·have hP:=oB.1 hB
      have hf:rC s.aE s.bZ.ah s.aH=0:=by
       have:=hP.1
       rw[rC,if_neg (by unfold gT;omega)]
      rw[hB,hf]at h4
      (repeat(first|((repeat(revert hN;revert N;apply Pn.out));refine wk (tw @az.eq_1 (tw @aa.eq_1 @hd)) ?_;(repeat(refine Pn.mk ?_;intro N hN)))|((try apply Or.inl);refine⟨_,ae.x (h1) (sd (tw @az.eq_1 (tw @aa.eq_1 @hd))),?_⟩;refine hN _ _ ?_;clear hN N)|((try apply Or.inl);refine⟨_,ae.x (h2) (sd (tw @az.eq_1 (tw @aa.eq_1 @hd))),?_⟩;refine hN _ _ ?_;clear hN N)|((try apply Or.inl);refine⟨_,ae.x (h3) (sd (tw @az.eq_1 (tw @aa.eq_1 @hd))),?_⟩;refine hN _ _ ?_;clear hN N)|((try apply Or.inl);refine⟨_,ae.x (h4) (sd (tw @az.eq_1 (tw @aa.eq_1 @hd))),?_⟩;refine hN _ _ ?_;clear hN N)))
      exact aC (b:=true) (.inl rfl) (sd @Nat.zero_add) (AI ⟨hS,hA,ab,hT,hP⟩)
  ·have hb:oI s.aE s.bZ.ah=false:=Bool.eq_false_iff.2 fun h=>hA (lE.1 h)
   rw[hb]at h2
   (repeat(first|((repeat(revert hN;revert N;apply Pn.out));refine wk (tw @az.eq_1 @aa.eq_1) ?_;(repeat(refine Pn.mk ?_;intro N hN)))|((try apply Or.inl);refine⟨_,ae.x (h1) (sd (tw @az.eq_1 @aa.eq_1)),?_⟩;refine hN _ _ ?_;clear hN N)|((try apply Or.inl);refine⟨_,ae.x (h2) (sd (tw @az.eq_1 @aa.eq_1)),?_⟩;refine hN _ _ ?_;clear hN N)))
   exact aC (b:=false) (.inl rfl) (sd @Nat.zero_add) (jD fun h=>hA h.NG)
 ·have hb:pK s.aE=false:=Bool.eq_false_iff.2 fun h=>hS (lR.1 h)
  rw[hb]at h1
  (repeat(first|((repeat(revert hN;revert N;apply Pn.out));refine wk (tw @az.eq_1 @aa.eq_1) ?_;(repeat(refine Pn.mk ?_;intro N hN)))|((try apply Or.inl);refine⟨_,ae.x (h1) (sd (tw @az.eq_1 @aa.eq_1)),?_⟩;refine hN _ _ ?_;clear hN N)))
  exact aC (b:=false) (.inl rfl) (sd @Nat.zero_add) (jD fun h=>hS h.set)
theorem zb {s:ar} {l:List aq} (hA:re s l) {p:cr} (h:0<=vW l p):gC s (vW l p)=true:=by
 unfold vW at h ⊢
 split at h
 ·rename_i h0
  rw[if_pos h0]
  exact hA.2 _ (qz (s5 h0).1)
 ·omega
noncomputable def nw (s:cl) (l:List aq):Bool:=mv s&&oI s.aE l
theorem Cg (s:cl) (l:List aq) (hn:fA s.aE) (hg:s.aE.aw.length<=1048576) (ht:s.aE.ah.length<=1048576):ae Tryz.prog 35 [.cJ (az s),.cJ [.sl (l.map ai)]] (.int .i64 (if nw s l then 0 else 1)):=by
 refine ae.body dK rfl fun hl n0=>?_
 clear hl
 have h1:=Kn s hn hg ht
 have h2:=(DM s.aE l).cut mixed (.ptr _ [.sl (s.bZ.ah.map ai),.int .i64 s.aH] (.same _ .nil))
 cases b1:mv s
 ·rw[b1]at h1
  (repeat(first|((repeat(revert hN;revert N;apply Pn.out));refine wk @Nat.zero_add ?_;(repeat(refine Pn.mk ?_;intro N hN)))|((try apply Or.inl);refine⟨_,ae.x (h1) (sd @Nat.zero_add),?_⟩;refine hN _ _ ?_;clear hN N)))
  exact aZ (b:=1) (.inl rfl) (sd @Nat.zero_add) (by rw[nw,b1];rfl)
 rw[b1]at h1
 rw[az]at h1 ⊢
 cases b2:oI s.aE l
 ·rw[b2]at h2
  (repeat(first|((repeat(revert hN;revert N;apply Pn.out));refine wk @aa.eq_1 ?_;(repeat(refine Pn.mk ?_;intro N hN)))|((try apply Or.inl);refine⟨_,ae.x (h1) (sd @aa.eq_1),?_⟩;refine hN _ _ ?_;clear hN N)|((try apply Or.inl);refine⟨_,ae.x (h2) (sd @aa.eq_1),?_⟩;refine hN _ _ ?_;clear hN N)))
  exact aZ (b:=1) (.inl rfl) (sd @Nat.zero_add) (by rw[nw,b1,b2];rfl)
 ·rw[b2]at h2
  (repeat(first|((repeat(revert hN;revert N;apply Pn.out));refine wk @aa.eq_1 ?_;(repeat(refine Pn.mk ?_;intro N hN)))|((try apply Or.inl);refine⟨_,ae.x (h1) (sd @aa.eq_1),?_⟩;refine hN _ _ ?_;clear hN N)|((try apply Or.inl);refine⟨_,ae.x (h2) (sd @aa.eq_1),?_⟩;refine hN _ _ ?_;clear hN N)))
  exact aZ (b:=0) (.inl rfl) (sd @Nat.zero_add) (by rw[nw,b1,b2];rfl)
theorem za {s:cl} {l:List aq}:nw s l=true↔GF s/\re s.aE l:=by simp[nw,uP,lE]
end Go.Proofs.YtihgaadadaekmaaGreatDoor.V

namespace Go.Proofs.YtihgaadadaekmaaGreatDoor.V
open Go.RowKit
def eb (n:Nat):ByteArray:=⟨(if n<10 then[UInt8.ofNat (48+n)]else[UInt8.ofNat (48+n / 10),UInt8.ofNat (48+n % 10)]).toArray⟩
theorem EC {n:Nat} (h:n<10):eb n=⟨#[UInt8.ofNat (48+n)]⟩:=by rw[eb,if_pos h]
theorem iV (n:Nat):(eb n).size<=2:=by
 unfold eb
 split<;>simp[ByteArray.size]
def we (s:ByteArray) (i:Nat):Nat:=((s[i]?).map UInt8.toNat).getD 0
theorem wg {s:ByteArray} {i:Nat} (h:i<s.size):s[i]? =some s[i]:=by
 rw[getElem?_pos s i h]
theorem tF {s:ByteArray} {i:Nat} (h:i<s.size):we s i=s[i].toNat:=by
 rw[we,wg h];rfl
def jH (nm pre:ByteArray) (pC:Nat):Int:=if nm.size=pre.size+1/\nm.extract 0 pre.size=pre/\48<=we nm pre.size/\we nm pre.size<48+pC then(we nm pre.size:Int)-48 else -1
theorem GL {a b:ByteArray} (h:a.data.toList=b.data.toList):a=b:=ByteArray.ext (Array.ext' h)
theorem H8 {nm pre:ByteArray} {n:Nat} (h:n<10):nm=pre++eb n↔nm.size=pre.size+1/\nm.extract 0 pre.size=pre/\we nm pre.size=48+n:=by
 rw[EC h]
 constructor
 ·rintro rfl
  have hs:(pre++(⟨#[UInt8.ofNat (48+n)]⟩:ByteArray)).size=pre.size+1:=by rw[ByteArray.size_append];rfl
  refine⟨hs,?_,?_⟩
  ·rw[ByteArray.extract_append]
   refine GL ?_
   simp
  ·rw[tF ab,ByteArray.getElem_append_right (Nat.le_refl _)]
   simp only[Nat.sub_self]
   show(UInt8.ofNat (48+n)).toNat= _
   rw[UInt8.toNat_ofNat']
   omega
 ·rintro⟨h1,h2,h3⟩
  rw[tF ab]at h3
  refine GL ?_
  have e:nm.data.toList=nm.data.toList.take pre.size++nm.data.toList.drop pre.size:=(List.take_append_drop _ _).symm
  have yP:nm.data.toList.take pre.size=pre.data.toList:=by
   have:=congrArg (fun b:ByteArray=>b.data.toList) h2
   simpa using this
  have hl:nm.data.toList.length=pre.size+1:=by rw[<-h1];simp
  have h4:nm.data.toList.drop pre.size=[UInt8.ofNat (48+n)]:=by
   rw[List.drop_eq_getElem_cons ab,List.drop_eq_nil_of_le ab]
   congr 1
   rw[ByteArray.getElem_eq_getElem_data]at h3
   rw[Array.getElem_toList,<-h3]
   simp
  rw[e,yP,h4]
  simp
theorem zw {nm pre:ByteArray} {n pC:Nat} (h:n<pC) (hl:pC<=10):nm=pre++eb n↔jH nm pre pC=(n:Int):=by
 rw[H8 ab,jH]
 constructor
 ·rintro⟨h1,h2,h3⟩
  rw[if_pos ⟨h1,h2,ab,ab⟩,h3];omega
 ·split
  ·rename_i h5
   intro h6
   exact⟨h5.1,h5.2.1,ab⟩
  ·intro h6;omega
theorem JI (nm pre:ByteArray) (pC:Nat):jH nm pre pC= -1∨(0<=jH nm pre pC/\jH nm pre pC<pC):=by
 unfold jH
 split
 ·exact .inr ab
 ·exact .inl rfl
theorem EH {nm pre:ByteArray} {pC:Nat} (hl:pC<=10) (h:∀n,n<pC->nm≠pre++eb n):jH nm pre pC= -1:=by
 rcases JI nm pre pC with h1|h1
 ·exact h1
 ·exact absurd ((zw (nm:=nm) (pre:=pre) (n:=(jH nm pre pC).toNat) ab hl).2 ab) (h _ ab)
def BL (s:ar) (l:List aq) (p:cr) (d:Int):ByteArray:=if vW l p<0 then⟨#[]⟩else if dc (dd s (vW l p)) d=0 then⟨#[]⟩else(iD s (dc (dd s (vW l p)) d-1)).aB
theorem zx {pre:ByteArray} {pC:Nat}:jH ⟨#[]⟩ pre pC= -1:=by
 rw[jH,if_neg]
 intro h
 have:=h.1
 have h0:(⟨#[]⟩:ByteArray).size=0:=rfl
 omega
end Go.Proofs.YtihgaadadaekmaaGreatDoor.V

namespace Go.Proofs.YtihgaadadaekmaaGreatDoor.V
open Go.RowKit
attribute [local irreducible] ea wpOps gS Call
attribute [local go_sem] aM fQ eM gi gh cE upd cu K.av cL AV.cells AV.cell rowOf rowsOf part ld rowAt bY ck dI eh ij bL da eA gp e8 du eo cY cX dV dW bR bm cQ bQ cT cR ej er ek cP bW cZ ei bP aQ cV cC ig bw cH bS aX dG bu dL AV.undef bF bH dY ef dU ec cF ez eF cw ev eu cU cW List.getD_cons_zero List.getD_cons_succ List.getD_nil List.all_cons List.all_nil Bool.and_true Bool.true_and Bool.and_self Bool.not_true Bool.not_false Option.map_some Option.map_none Option.bind_some Option.bind_none List.length_cons List.length_nil List.take_succ_cons List.take_zero List.take_nil List.drop_succ_cons List.drop_zero List.drop_nil List.head?_cons List.map_cons List.map_nil List.getElem?_cons_zero List.getElem?_cons_succ List.cons_append List.nil_append List.append_nil List.length_map List.set_cons_zero List.set_cons_succ Nat.reduceMul eq_self Int.toNat_natCast Int.natCast_nonneg and_self true_and and_true decide_true decide_false Bool.false_eq_true Nat.zero_add Nat.add_zero List.contains_cons List.contains_nil Bool.or_false Bool.false_or beq_self_eq_true Nat.reduceBEq ne_eq not_true_eq_false not_false_eq_true Id.mk.injEq false_and and_false Nat.reduceLT Int.reduceLE Int.reduceLT Int.reduceToNat Int.reduceNeg Int.reduceAdd Nat.le_refl List.length_append beq_true beq_false Bool.not_eq_eq_eq_not or_false false_or dE ad aj aI bE cj aV bf aU bo cN bG
end Go.Proofs.YtihgaadadaekmaaGreatDoor.V

namespace Go.Proofs.YtihgaadadaekmaaGreatDoor.V
open Go.RowKit
section
variable {α:Type} {R:uZ α} {z:Nat}
end
end Go.Proofs.YtihgaadadaekmaaGreatDoor.V

namespace Go.Proofs.YtihgaadadaekmaaGreatDoor.V
open Go.RowKit
attribute [local irreducible] ea wpOps gS Call
attribute [local go_sem] aM fQ eM gi gh cE upd cu K.av cL AV.cells AV.cell rowOf rowsOf part ld rowAt bY ck dI eh ij bL da eA gp e8 du eo cY cX dV dW bR bm cQ bQ cT cR ej er ek cP bW cZ ei bP aQ cV cC ig bw cH bS aX dG bu dL AV.undef bF bH dY ef dU ec cF ez eF cw ev eu cU cW List.getD_cons_zero List.getD_cons_succ List.getD_nil List.all_cons List.all_nil Bool.and_true Bool.true_and Bool.and_self Bool.not_true Bool.not_false Option.map_some Option.map_none Option.bind_some Option.bind_none List.length_cons List.length_nil List.take_succ_cons List.take_zero List.take_nil List.drop_succ_cons List.drop_zero List.drop_nil List.head?_cons List.map_cons List.map_nil List.getElem?_cons_zero List.getElem?_cons_succ List.cons_append List.nil_append List.append_nil List.length_map List.set_cons_zero List.set_cons_succ Nat.reduceMul eq_self Int.toNat_natCast Int.natCast_nonneg and_self true_and and_true decide_true decide_false Bool.false_eq_true Nat.zero_add Nat.add_zero List.contains_cons List.contains_nil Bool.or_false Bool.false_or beq_self_eq_true Nat.reduceBEq ne_eq not_true_eq_false not_false_eq_true Id.mk.injEq false_and and_false Nat.reduceLT Int.reduceLE Int.reduceLT Int.reduceToNat Int.reduceNeg Int.reduceAdd Nat.le_refl List.length_append beq_true beq_false Bool.not_eq_eq_eq_not or_false false_or dE ad aj aI bE cj aV bf aU bo cN bG
theorem HH {g:Rows} {cs:List AV} {x:List Int} {ids:List Id} (n:Nat) (h:jT g cs x ids):cm g (n+2) cs=some (kf x):=by
 obtain⟨i,rfl,h2,_⟩:=h
 have h3:V.fz g (n+2) (.own i 0 x.length)=some (.sl (x.map au)):=e7 (e:=au) (sz:=1) h2 rfl fun y=>by simp[au,ad,aj,aI]
 simp only[ad,aj,h3,Option.map_some,kf]
theorem HQ {α:Type} {R:uZ α} {z n:Nat} {e:α->List AV} {g:Rows} {o:Id} {rows:List (List AV)} {xs:List α} {is:List Id} (h2:g o=some ⟨true,z,rows⟩) (h3:dw R g rows xs is) (hz:∀{cs x ids},R g cs x ids->cm g n cs=some (e x)):V.fz g (n+1) (.own o 0 xs.length)=some (.sl (xs.map e)):=by
 have hl:=h3.len
 have key:∀{rows:List (List AV)} {xs:List α} {is:List Id},dw R g rows xs is->dz g n rows=some (xs.map e):=fun h=>by
  induction h with
  |nil=>rw[dz];rfl
  |cons h1 _ ih=>rw[dz,hz h1,ih];rfl
 rw[fU]
 simp only[h2,if_true]
 rw[if_pos ab,List.drop_zero,List.take_of_length_le ab,key h3];rfl
theorem NM (xs:List (List Int)) (left:Int) (h0:0<=left) (h1:left<=1048576):ae Tryz.prog 53 [.sl (xs.map kf),.int .i64 left] (.int .i64 (ta (xs.length+(xs.map lz).sum) left)):=by
 refine ae.body dK rfl fun hl n0=>?_
 have hn:xs.length<=9223372036854775807:=by simpa using(hl (.sl (xs.map kf)) (by simp)).len
 clear hl
 have hw:IntKind.i64.wrap (left-(xs.length:Int))=left-xs.length:=aT ab
 have gy:(xs.map kf).length=xs.length:=by simp
 by_cases hf:(xs.length:Int)<=left
 ·have kM:¬left-(xs.length:Int)<0:=ab
  (try((repeat(revert hN;revert N;apply Pn.out));refine wk (tw @gy (tw @hw @kM)) ?_;(repeat(refine Pn.mk ?_;intro N hN))))
  refine aP (fun n env st=>∃k:Nat,n=(xs.length)-k/\k<=(xs.length)/\env 5=.int .i64 (k:Int)/\env 1=(.int .i64 (left-xs.length-(eW lz xs k:Nat)))/\(0<=left-xs.length-(eW lz xs k:Nat))) (xs.length) ⟨0,ab,ab,sl (tw @gE (tw @Int.natCast_zero (tw @Int.sub_zero @gy))),sl (tw @gE (tw @Int.natCast_zero (tw @Int.sub_zero @gy))),(by rw[gE];omega)⟩ ?_
  rintro n_a env_a st_a ⟨k,rfl,ale,a5,a1,j0⟩ dm
  have a0:=dm 0 (by kernel_rfl)
  simp only[go_sem, ↓reduceIte,Nat.reduceEqDiff,Nat.reduceAdd,Nat.reduceSub,Nat.reduceLeDiff,reduceCtorEq,gE,Int.natCast_zero,Int.sub_zero,gy]at a0
  clear dm
  by_cases hk:(k:Int)<(xs.length:Int)
  ·have bD:∀{e:Env},(e 5=.int .i64 (IntKind.i64.wrap ((k:Int)+1)))->(e 1=(.int .i64 (left-xs.length-(eW lz xs (k+1):Nat))))->(0<=left-xs.length-(eW lz xs (k+1):Nat))->∃m0,m0<(xs.length)-k/\∃k:Nat,m0=(xs.length)-k/\k<=(xs.length)/\e 5=.int .i64 (k:Int)/\e 1=(.int .i64 (left-xs.length-(eW lz xs k:Nat)))/\(0<=left-xs.length-(eW lz xs k:Nat)):=fun x1 x2 x3=>⟨_,ab,k+1,rfl,ab,(by rw[x1,ay ab]),x2,x3⟩
   have dX:k<xs.length:=ab
   have eD:(xs.map kf)[k]? =some [.sl (xs[k].map au)]:=by simp[dX,kf]
   have hs:=mu lz dX
   have s4:=jC lz xs (k+1)
   have fu:=AJ xs[k] (left-xs.length-(eW lz xs k:Nat)) j0 ab
   have hwx:lz xs[k]=xs[k].length:=rfl
   generalize hex:xs[k]=c at fu eD hs hwx
   by_cases vw:(c.length:Int)<=left-xs.length-(eW lz xs k:Nat)
   ·rw[ft vw]at fu
    have OB:¬left-xs.length-(eW lz xs k:Nat)-(c.length:Int)<0:=ab
    have ua:left-xs.length-(eW lz xs k:Nat)-(c.length:Int)=left-xs.length-(eW lz xs (k+1):Nat):=by rw[hs];omega
    (repeat(first|((repeat(revert hN;revert N;apply Pn.out));refine wk (tw @a5 (tw @a1 (tw @a0 (tw @hk (tw @eD (tw @gy @OB)))))) ?_;(repeat(refine Pn.mk ?_;intro N hN)))|((try apply Or.inl);refine⟨_,ae.x (fu) (sd (tw @a5 (tw @a1 (tw @a0 (tw @hk (tw @eD (tw @gy @OB))))))),?_⟩;refine hN _ _ ?_;clear hN N)))
    refine bD ?_ ?_ ((by rw[hs];omega))
    all_goals simp only[go_sem, ↓reduceIte,Nat.reduceEqDiff,Nat.reduceAdd,Nat.reduceSub,Nat.reduceLeDiff,reduceCtorEq,a5,a1,a0,ua]
   ·rw[fq vw]at fu
    (repeat(first|((repeat(revert hN;revert N;apply Pn.out));refine wk (tw @a5 (tw @a1 (tw @a0 (tw @hk (tw @eD @gy))))) ?_;(repeat(refine Pn.mk ?_;intro N hN)))|((try apply Or.inl);refine⟨_,ae.x (fu) (sd (tw @a5 (tw @a1 (tw @a0 (tw @hk (tw @eD @gy)))))),?_⟩;refine hN _ _ ?_;clear hN N)))
    exact aZ (b:=-1) (.inl rfl) (sd @Nat.zero_add) (by rw[fq ab])
  ·(try((repeat(revert hN;revert N;apply Pn.out));refine wk (tw @a5 (tw @a1 (tw @a0 (tw @hk @gy)))) ?_;(repeat(refine Pn.mk ?_;intro N hN))))
   have dX:k=xs.length:=ab
   subst dX
   have PG:=qL lz xs
   exact aZ (b:=left-xs.length-(eW lz xs xs.length:Nat)) (.inl rfl) (sd (tw @a5 (tw @a1 @a0))) (by rw[ft ab];omega)
 ·have kM:left-(xs.length:Int)<0:=ab
  (try((repeat(revert hN;revert N;apply Pn.out));refine wk (tw @gy (tw @hw @kM)) ?_;(repeat(refine Pn.mk ?_;intro N hN))))
  exact aZ (b:=-1) (.inl rfl) (sd @Nat.zero_add) (by rw[fq ab])
theorem IU (xs:List (List Int)) (hlen:xs.length<=1048576) (Tf:∀x∈xs,x.length<=1048576) (σ:ax):Call Tryz.prog 57 [.sl (xs.map kf)] σ (Ej jT 1 xs σ):=by
 refine eX dK rfl fun hl=>?_
 clear hl
 have hm:(xs.length:Int)<=((16777216:Nat):Int):=ab
 have h0:(0:Int)<=(xs.length:Int):=ab
 have gy:(xs.map kf).length=xs.length:=by simp
 (try((repeat(revert hN;revert N;apply Pn.out));refine wk (tw @gy (tw @hm (tw @h0 @Int.le_refl))) ?_;(repeat(refine Pn.mk ?_;intro N hN))))
 refine aP (fun n env st=>∃k:Nat,n=(xs.length)-k/\k<=(xs.length)/\env 4=.int .i64 (k:Int)/\(σ.next+2<=st.next/\(∀y:Id,y.cq<σ.next->st.get y=σ.get y)/\∃rows is,st.get ⟨57001002,σ.next+1⟩=some ⟨true,1,rows++List.replicate (xs.length-k) [.bK]⟩/\dw jT st.get rows (xs.take k) is/\eO (σ.next+2) st.next is)) (xs.length) ⟨0,ab,ab,sl @gy,by(try dsimp only);exact⟨ab,fun y hy=>by
  have h1:=eP hy
  simp only[go_sem, ↓reduceIte,Nat.reduceEqDiff,Nat.reduceAdd,Nat.reduceSub,Nat.reduceLeDiff,reduceCtorEq,h1],[],[],sl @Nat.zero_add,.nil,List.nodup_nil,fun i hi=>by cases hi⟩⟩ ?_
 rintro n_a env_a st_a ⟨k,rfl,ale,a4,j0⟩ dm
 have a0:=dm 0 (by kernel_rfl);have a3:=dm 3 (by kernel_rfl)
 simp only[go_sem, ↓reduceIte,Nat.reduceEqDiff,Nat.reduceAdd,Nat.reduceSub,Nat.reduceLeDiff,reduceCtorEq,gy]at a0 a3
 clear dm
 obtain⟨an,aK,rows,is,ag,aR,aN⟩:=j0
 have oO:rows.length=k:=by rw[aR.len,List.length_take];omega
 by_cases hk:(k:Int)<(xs.length:Int)
 ·have bD:∀{e:Env} {gg:Rows} {nx:Nat},(e 4=.int .i64 (IntKind.i64.wrap ((k:Int)+1)))->(σ.next+2<=nx/\(∀y:Id,y.cq<σ.next->gg y=σ.get y)/\∃rows is,gg ⟨57001002,σ.next+1⟩=some ⟨true,1,rows++List.replicate (xs.length-(k+1)) [.bK]⟩/\dw jT gg rows (xs.take (k+1)) is/\eO (σ.next+2) nx is)->∃m0,m0<(xs.length)-k/\∃k:Nat,m0=(xs.length)-k/\k<=(xs.length)/\e 4=.int .i64 (k:Int)/\(σ.next+2<=nx/\(∀y:Id,y.cq<σ.next->gg y=σ.get y)/\∃rows is,gg ⟨57001002,σ.next+1⟩=some ⟨true,1,rows++List.replicate (xs.length-k) [.bK]⟩/\dw jT gg rows (xs.take k) is/\eO (σ.next+2) nx is):=fun x1 x2=>⟨_,ab,k+1,rfl,ab,(by rw[x1,ay ab]),x2⟩
  have dX:k<xs.length:=ab
  have eD:(xs.map kf)[k]? =some [.sl (xs[k].map au)]:=by simp[dX,kf]
  have fu:=AM xs[k] (Tf _ (List.getElem_mem dX))
  obtain⟨m,Jj⟩:∃m,xs.length-k=m+1:=⟨xs.length-k-1,ab⟩
  rw[Jj,List.replicate_succ]at ag
  have ou:xs.take (k+1)=xs.take k++[xs[k]]:=List.take_succ_eq_append_getElem dX
  generalize hex:xs[k]=c at fu eD ou
  (try((repeat(revert hN;revert N;apply Pn.out));refine wk (tw @a4 (tw @a0 (tw @a3 (tw @hk (tw @gy @eD))))) ?_;(repeat(refine Pn.mk ?_;intro N hN))))
  refine .inr (aO _ _ _ _ _ (fun r σ1 hq=>?_) (fu _))
  obtain⟨i,rfl,hR,hI,hK⟩:=hq
  obtain⟨g1,x1⟩:=σ1
  (try dsimp only at hR hI hK)
  have tV:=(hK.2 ⟨57001002,σ.next+1⟩ bt)
  simp only[go_sem, ↓reduceIte,Nat.reduceEqDiff,Nat.reduceAdd,Nat.reduceSub,Nat.reduceLeDiff,reduceCtorEq,ag]at tV
  have dR:(rows++[AV.bK]::List.replicate m [AV.bK])[k]? =some [AV.bK]:=by rw[List.getElem?_append_right ab,oO,Nat.sub_self];rfl
  have dP:(rows++[AV.bK]::List.replicate m [AV.bK]).set k [.own i 0 c.length]=rows++[[.own i 0 c.length]]++List.replicate m [AV.bK]:=DY oO
  have vD:(rows++[AV.bK]::List.replicate m [AV.bK]).length=xs.length:=by simp[oO];omega
  refine hN _ _ ?_
  clear hN N
  (try((repeat(revert hN;revert N;apply Pn.out));refine wk (tw @a4 (tw @a0 (tw @a3 (tw @hk (tw @gy (tw @tV (tw @dR (tw @dP @vD)))))))) ?_;(repeat(refine Pn.mk ?_;intro N hN))))
  have tZ:=hK.1
  have Gd:∀j∈is,(j=⟨57001002,σ.next+1⟩)=False:=fun j hj=>eq_false fun e=>by
   have:=(aN.2 j hj).1
   subst e;(try dsimp only at this);omega
  have ET:=hI.2 i (by simp)
  (try dsimp only at ET tZ)
  have Ge:(i=⟨57001002,σ.next+1⟩)=False:=eq_false fun e=>by
   subst e;(try dsimp only at ET);omega
  exact bD (sd (tw @a4 (tw @a0 @a3))) (by(try dsimp only at *);exact⟨ab,fun y hy=>by
   have h1:=eP hy
   have h2:=hK.2 y bt
   have h3:=aK y hy
   simp only[go_sem, ↓reduceIte,Nat.reduceEqDiff,Nat.reduceAdd,Nat.reduceSub,Nat.reduceLeDiff,reduceCtorEq]at h2
   simp only[go_sem, ↓reduceIte,Nat.reduceEqDiff,Nat.reduceAdd,Nat.reduceSub,Nat.reduceLeDiff,reduceCtorEq,h1,h2,h3],rows++[[.own i 0 c.length]],is++[i],by
    rw[show xs.length-(k+1)=m by omega]
    simp only[go_sem, ↓reduceIte,Nat.reduceEqDiff,Nat.reduceAdd,Nat.reduceSub,Nat.reduceLeDiff,reduceCtorEq]<;>rfl,by
    rw[ou]
    refine((aR.frame ug fun j hj=>?_).app (.one ⟨i,rfl,?_,rfl⟩))
    ·have h1:=Gd j hj
     have h2:=hK.2 j (by(try dsimp only);have:=(aN.2 j hj).2;omega)
     simp only[go_sem, ↓reduceIte,Nat.reduceEqDiff,Nat.reduceAdd,Nat.reduceSub,Nat.reduceLeDiff,reduceCtorEq]at h2
     simp only[go_sem, ↓reduceIte,Nat.reduceEqDiff,Nat.reduceAdd,Nat.reduceSub,Nat.reduceLeDiff,reduceCtorEq,h1,h2]
    ·simp only[go_sem, ↓reduceIte,Nat.reduceEqDiff,Nat.reduceAdd,Nat.reduceSub,Nat.reduceLeDiff,reduceCtorEq,Ge,hR],(aN.app hI bt ab bt).wide (Nat.le_refl _) bt⟩)
 ·(try((repeat(revert hN;revert N;apply Pn.out));refine wk (tw @a4 (tw @a0 (tw @a3 (tw @hk @gy)))) ?_;(repeat(refine Pn.mk ?_;intro N hN))))
  have dX:k=xs.length:=ab
  subst dX
  rw[Nat.sub_self,List.replicate_zero,List.append_nil]at ag
  rw[List.take_length]at aR
  refine gn (.inl rfl) (vs:=[.own ⟨57001002,σ.next+1⟩ 0 xs.length]) (sd (tw @a4 (tw @a0 @a3))) ?_
  exact⟨_,⟨_,rows,is,rfl,ag,aR,rfl⟩,⟨List.nodup_cons.2 ⟨fun hi=>by have:=(aN.2 _ hi).1;(try dsimp only at this);omega,aN.1⟩,fun i hi=>by
   rcases List.mem_cons.1 hi with rfl|hi
   ·(try dsimp only);omega
   ·have:=aN.2 i hi;(try dsimp only);omega⟩,⟨bt,fun j hj=>aK j hj⟩⟩
theorem NQ (xs:List (List Int)) (hlen:xs.length<=1048576) (Tf:∀x∈xs,x.length<=1048576):iP Tryz.prog 57 [.sl (xs.map kf)] (.sl (xs.map kf)):=fun σ=>
 aO _ _ _ _ _ (fun r σ' hq=>by
  obtain⟨ids,⟨o,rows,is,rfl,h2,h3,rfl⟩,_,_⟩:=hq
  exact⟨_,HQ (n:=5) h2 h3 fun h=>HH 3 h,rfl⟩) (IU xs hlen Tf _)
theorem KM (x:eI) (g:Rows):cm g 5 (bh x)=some (bh x):=by simp[bh,ad,aj,aI]
theorem Ps:pR (jE bh) 2:=BD (fun _=>rfl) (fun _=>rfl) (by simp[nN])
theorem FR (xs:List eI) (l:Int) (h0:0<=l) (h1:l<=1048576):ae Tryz.prog 52 [.sl (xs.map bh),.int .i64 l] (.int .i64 (ta xs.length l)):=by
 have h:=CP (show kO Tryz.prog 52=some (D5 52) by kernel_rfl) (xs.map bh) l h0 h1
 rwa [List.length_map]at h
theorem IM (p:eI):iP Tryz.prog 85 [.agg (bh p)] (.agg (bh p)):=by
 refine iP.body dK rfl fun hl σ=>?_
 clear hl
 (try((repeat(revert hN;revert N;apply Pn.out));refine wk @bh.eq_1 ?_;(repeat(refine Pn.mk ?_;intro N hN))))
 exact sM (.inl rfl) (vs:=[.agg (bh p)]) (by simp only[go_sem, ↓reduceIte,Nat.reduceEqDiff,Nat.reduceAdd,Nat.reduceSub,Nat.reduceLeDiff,reduceCtorEq,eV,gM,bh]) (by simp[eB,bh,bf,ad,aj,aI])
theorem FZ (xs:List eI) (h:xs.length<=1048576):iP Tryz.prog 56 [.sl (xs.map bh)] (.sl (xs.map bh)):=
 yF (show kO Tryz.prog 56=some (o8 56 85 2 [.int .i64 0,.int .i64 0]) by kernel_rfl) rfl (fun _=>rfl) (fun _=>rfl) KM xs h fun x _=>IM x
theorem IL (p:eI) (σ:ax):Call Tryz.prog 85 [.agg (bh p)] σ (Gy (jE bh) p σ):=by
 refine eX dK rfl fun hl=>?_
 clear hl
 (try((repeat(revert hN;revert N;apply Pn.out));refine wk @bh.eq_1 ?_;(repeat(refine Pn.mk ?_;intro N hN))))
 refine gn (.inl rfl) (vs:=[.agg (bh p)]) (sd @bh.eq_1) ?_
 exact⟨_,[],rfl,⟨rfl,rfl⟩,⟨List.nodup_nil,fun i hi=>by cases hi⟩,⟨bt,fun j hj=>by
  have h1:=eP hj
  simp only[go_sem, ↓reduceIte,Nat.reduceEqDiff,Nat.reduceAdd,Nat.reduceSub,Nat.reduceLeDiff,reduceCtorEq,h1]⟩⟩
theorem FY (xs:List eI) (h:xs.length<=1048576) (σ:ax):Call Tryz.prog 56 [.sl (xs.map bh)] σ (Ej (jE bh) 2 xs σ):=
 tb Ps (show kO Tryz.prog 56=some (o8 56 85 2 [.int .i64 0,.int .i64 0]) by kernel_rfl) rfl (fun _=>rfl) xs h (fun x _ σ=>IL x σ) σ
theorem G2 (a b:eI):ae Tryz.prog 88 [.agg (bh a),.agg (bh b)] (.bool (decide (a=b))):=by
 refine ae.body dK rfl fun hl n0=>?_
 clear hl
 by_cases h1:a.dn=b.dn
 ·have e1:=decide_eq_true h1
  by_cases h2:a.de=b.de
  ·have e2:=decide_eq_true h2
   (try((repeat(revert hN;revert N;apply Pn.out));refine wk (tw @bh.eq_1 (tw @e1 @e2)) ?_;(repeat(refine Pn.mk ?_;intro N hN))))
   exact aC (b:=true) (.inl rfl) (sd @Nat.zero_add) (decide_eq_true (by cases a;cases b;simp_all)).symm
  ·have e2:=decide_eq_false h2
   (try((repeat(revert hN;revert N;apply Pn.out));refine wk (tw @bh.eq_1 (tw @e1 @e2)) ?_;(repeat(refine Pn.mk ?_;intro N hN))))
   exact aC (b:=false) (.inl rfl) (sd @Nat.zero_add) (decide_eq_false (by rintro rfl;exact h2 rfl)).symm
 ·have e1:=decide_eq_false h1
  (try((repeat(revert hN;revert N;apply Pn.out));refine wk (tw @bh.eq_1 @e1) ?_;(repeat(refine Pn.mk ?_;intro N hN))))
  exact aC (b:=false) (.inl rfl) (sd @Nat.zero_add) (decide_eq_false (by rintro rfl;exact h1 rfl)).symm
theorem EI (xs ys:List eI):ae Tryz.prog 59 [.sl (xs.map bh),.sl (ys.map bh)] (.bool (decide (xs=ys))):=
 xD (show kO Tryz.prog 59=some (zz 59 88 2) by kernel_rfl) (fun _=>rfl) (fun x g=>by simp[bh,ad,aj,bf,aI]) xs ys fun x y=>G2 x y
theorem Al (i:Id) (l:List eI) (k:Int) (h0:0<=k) (h1:k+2*l.length<=4611686018427387904) (σ:ax) (hv:i.cq<σ.next) (hg:σ.get i=some ⟨true,2,l.map bh⟩):
  Call Tryz.prog 60 [.own i 0 l.length,.int .i64 k] σ (fun r σ'=>r=.int .i64 (k+2*l.length)/\m8 σ [i] σ'.get σ'.next):=by
 refine eX dK rfl fun hl=>?_
 clear hl
 obtain⟨nn,hn⟩:∃nn,l.length=nn:=⟨_,rfl⟩
 rw[hn]at h1 ⊢
 (try((repeat(revert hN;revert N;apply Pn.out));refine wk @Nat.zero_add ?_;(repeat(refine Pn.mk ?_;intro N hN))))
 refine aP (fun n env st=>∃j:Nat,n=(nn)-j/\j<=(nn)/\env 5=.int .i64 (j:Int)/\env 1=.int .i64 (k+2*j)/\(m8 σ [i] st.get st.next/\∃l':List eI,l'.length=nn/\st.get i=some ⟨true,2,l'.map bh⟩)) (nn) ⟨0,ab,ab,sl (tw @Int.add_zero (tw @Int.natCast_zero @Int.mul_zero)),sl (tw @Int.add_zero (tw @Int.natCast_zero @Int.mul_zero)),by(try dsimp only);exact⟨⟨bt,fun x _ _=>rfl⟩,l,hn,hg⟩⟩ ?_
 rintro n_a env_a st_a ⟨j,rfl,ale,a5,a1,j0⟩ dm
 have a0:=dm 0 (by kernel_rfl)
 simp only[go_sem, ↓reduceIte,Nat.reduceEqDiff,Nat.reduceAdd,Nat.reduceSub,Nat.reduceLeDiff,reduceCtorEq,Int.add_zero,Int.natCast_zero,Int.mul_zero]at a0
 clear dm
 obtain⟨⟨an,aF⟩,l',al,ag⟩:=j0
 by_cases hj:(j:Int)<(nn:Int)
 ·have bD:∀{e:Env} {gg:Rows} {nx:Nat},(e 5=.int .i64 (IntKind.i64.wrap ((j:Int)+1)))->(e 1=.int .i64 (k+2*(j+1)))->(m8 σ [i] gg nx/\∃l':List eI,l'.length=nn/\gg i=some ⟨true,2,l'.map bh⟩)->∃m0,m0<(nn)-j/\∃j:Nat,m0=(nn)-j/\j<=(nn)/\e 5=.int .i64 (j:Int)/\e 1=.int .i64 (k+2*j)/\(m8 σ [i] gg nx/\∃l':List eI,l'.length=nn/\gg i=some ⟨true,2,l'.map bh⟩):=fun x1 x2 x3=>⟨_,ab,j+1,rfl,ab,(by rw[x1,ay ab]),x2,x3⟩
  have gm:j<l'.length:=ab
  have dR:(l'.map bh)[j]? =some [.int .i64 l'[j].dn,.int .i64 l'[j].de]:=by simp[gm,bh]
  have hlen:(l'.map bh).length=nn:=by rw[List.length_map,al]
  have Hp:∀c:List AV,((l'.map bh).set j c)[j]? =some c:=fun c=>by rw[List.getElem?_set_self (by rw[List.length_map];exact gm)]
  have pB:IntKind.i64.wrap (k+2*(j:Int)+1)=k+2*(j:Int)+1:=aT ab
  have wI:IntKind.i64.wrap (k+2*(j:Int)+1+1)=k+2*((j:Int)+1):=by rw[aT ab];omega
  have dP:(l'.map bh).set j [.int .i64 (k+2*(j:Int)),.int .i64 (k+2*(j:Int)+1)]=(l'.set j ⟨k+2*(j:Int),k+2*(j:Int)+1⟩).map bh:=by rw[List.map_set];rfl
  (try((repeat(revert hN;revert N;apply Pn.out));refine wk (tw @a5 (tw @a1 (tw @a0 (tw @hj (tw @ag (tw @dR (tw @Hp (tw @dP (tw @pB (tw @wI (tw @hlen @qH))))))))))) ?_;(repeat(refine Pn.mk ?_;intro N hN))))
  refine bD ?_ ?_ (by(try dsimp only);exact⟨⟨bt,fun x hx hi=>by
   have h2:=aF x hx hi
   have h3:(x=i)=False:=eq_false fun e=>hi (by simp[e])
   simp only[go_sem, ↓reduceIte,Nat.reduceEqDiff,Nat.reduceAdd,Nat.reduceSub,Nat.reduceLeDiff,reduceCtorEq,h2,h3]⟩,l'.set j ⟨k+2*(j:Int),k+2*(j:Int)+1⟩,by simp[al],sl @Nat.zero_add⟩)
  all_goals simp only[go_sem, ↓reduceIte,Nat.reduceEqDiff,Nat.reduceAdd,Nat.reduceSub,Nat.reduceLeDiff,reduceCtorEq,a5,a1,a0,wI,dP]
 ·have gm:j=nn:=ab
  subst gm
  (try((repeat(revert hN;revert N;apply Pn.out));refine wk (tw @a5 (tw @a1 (tw @a0 @hj))) ?_;(repeat(refine Pn.mk ?_;intro N hN))))
  exact gn (.inl rfl) (vs:=[.int .i64 (k+2*j)]) (sd (tw @a5 (tw @a1 @a0))) ⟨rfl,⟨bt,fun x hx hi=>aF x hx hi⟩⟩
structure nh (f:dF):Prop where
 c:f.ak.length<=1048576
 s:f.aY.length<=1048576
 x:∀l∈f.aY,l.length<=1048576
def sy (f:dF):Nat:=f.ak.length+(f.aY.length+(f.aY.map lz).sum)
def uq (f:dF):Nat:=2*f.ak.length+(f.aY.map lz).sum
theorem HV (f:dF):uq f<=3*sy f:=by unfold uq sy;omega
theorem BF {f:dF} (h:sy f<=1048576):nh f:=by
 unfold sy at h
 refine⟨ab,ab,fun l hl=>?_⟩
 have h1:=ID lz hl
 have h2:lz l=l.length:=rfl
 omega
theorem IE (f:dF) (l:Int) (h0:0<=l) (h1:l<=1048576):ae Tryz.prog 25 [.agg (bc f),.int .i64 l] (.int .i64 (ta (sy f) l)):=by
 refine ae.body dK rfl fun hl n0=>?_
 clear hl
 have e1:=FR f.ak l h0 h1
 have he:sy f=f.ak.length+(f.aY.length+(f.aY.map lz).sum):=rfl
 by_cases c1:(f.ak.length:Int)<=l
 ·rw[ft c1]at e1
  have d1:¬l-(f.ak.length:Int)<0:=ab
  have e2:=NM f.aY (l-f.ak.length) ab ab
  obtain⟨m,hm⟩:∃m,f.aY.length+(f.aY.map lz).sum=m:=⟨_,rfl⟩
  rw[hm]at e2 he
  by_cases c2:(m:Int)<=l-f.ak.length
  ·rw[ft c2]at e2
   have d2:¬l-(f.ak.length:Int)-(m:Int)<0:=ab
   (repeat(first|((repeat(revert hN;revert N;apply Pn.out));refine wk (tw @bc.eq_1 (tw @d1 @d2)) ?_;(repeat(refine Pn.mk ?_;intro N hN)))|((try apply Or.inl);refine⟨_,ae.x (e1) (sd (tw @bc.eq_1 (tw @d1 @d2))),?_⟩;refine hN _ _ ?_;clear hN N)|((try apply Or.inl);refine⟨_,ae.x (e2) (sd (tw @bc.eq_1 (tw @d1 @d2))),?_⟩;refine hN _ _ ?_;clear hN N)))
   exact aZ (b:=l-(f.ak.length:Int)-(m:Int)) (.inl rfl) (sd @Nat.zero_add) (by rw[ft ab];omega)
  ·rw[fq c2]at e2
   (repeat(first|((repeat(revert hN;revert N;apply Pn.out));refine wk (tw @bc.eq_1 @d1) ?_;(repeat(refine Pn.mk ?_;intro N hN)))|((try apply Or.inl);refine⟨_,ae.x (e1) (sd (tw @bc.eq_1 @d1)),?_⟩;refine hN _ _ ?_;clear hN N)|((try apply Or.inl);refine⟨_,ae.x (e2) (sd (tw @bc.eq_1 @d1)),?_⟩;refine hN _ _ ?_;clear hN N)))
   exact aZ (b:=-1) (.inl rfl) (sd @Nat.zero_add) (by rw[fq ab])
 ·rw[fq c1]at e1
  (repeat(first|((repeat(revert hN;revert N;apply Pn.out));refine wk @bc.eq_1 ?_;(repeat(refine Pn.mk ?_;intro N hN)))|((try apply Or.inl);refine⟨_,ae.x (e1) (sd @bc.eq_1),?_⟩;refine hN _ _ ?_;clear hN N)))
  exact aZ (b:=-1) (.inl rfl) (sd @Nat.zero_add) (by rw[fq ab])
theorem IP (f:dF) (hs:nh f):iP Tryz.prog 27 [.agg (bc f)] (.agg (bc f)):=by
 refine iP.body dK rfl fun hl σ=>?_
 clear hl
 have h1:=FZ f.ak hs.c
 have h2:=NQ f.aY hs.s hs.x
 (repeat(first|((repeat(revert hN;revert N;apply Pn.out));refine wk @bc.eq_1 ?_;(repeat(refine Pn.mk ?_;intro N hN)))|((try apply Or.inl);refine⟨_,iP.x (h1) _,?_⟩;refine hN _ _ ?_;clear hN N)|((try apply Or.inl);refine⟨_,iP.x (h2) _,?_⟩;refine hN _ _ ?_;clear hN N)))
 exact sM (.inl rfl) (vs:=[.agg (bc f)]) (by simp only[go_sem, ↓reduceIte,Nat.reduceEqDiff,Nat.reduceAdd,Nat.reduceSub,Nat.reduceLeDiff,reduceCtorEq,eV,gM,bc]) (by simp[eB,bc,bf,ad,aj,cj,aI])
theorem G3 (f:dF):ae Tryz.prog 29 [.agg (bc f),.agg (bc f)] (.bool true):=by
 refine ae.body dK rfl fun hl n0=>?_
 clear hl
 have h1:=EI f.ak f.ak
 have h2:=Mg f.aY
 rw[decide_eq_true rfl]at h1
 have e:decide (f.aL=f.aL)=true:=decide_eq_true rfl
 (repeat(first|((repeat(revert hN;revert N;apply Pn.out));refine wk (tw @bc.eq_1 @e) ?_;(repeat(refine Pn.mk ?_;intro N hN)))|((try apply Or.inl);refine⟨_,ae.x (h1) (sd (tw @bc.eq_1 @e)),?_⟩;refine hN _ _ ?_;clear hN N)|((try apply Or.inl);refine⟨_,ae.x (h2) (sd (tw @bc.eq_1 @e)),?_⟩;refine hN _ _ ?_;clear hN N)))
 exact aC (b:=true) (.inl rfl) (sd @Nat.zero_add) rfl
structure oQ (g:Rows) (v:AV) (f:dF) (ids:List Id):Prop where
 ex:∃o1 o2 is,v=.agg [.int .i64 f.aL,.own o1 0 f.ak.length,.own o2 0 f.aY.length]/\g o1=some ⟨true,2,f.ak.map bh⟩/\fV jT 1 g (.own o2 0 f.aY.length) f.aY is/\ids=o1::is
theorem oQ.frame {g g':Rows} {v:AV} {f:dF} {ids:List Id} (h:oQ g v f ids) (hf:∀i∈ids,g' i=g i):oQ g' v f ids:=by
 obtain⟨o1,o2,is,h1,h2,h3,rfl⟩:=h.ex
 exact⟨o1,o2,is,h1,(hf o1 (by simp)).trans h2,h3.frame ug fun i hi=>hf i (by simp[hi]),rfl⟩
theorem oQ.owns {g:Rows} {v:AV} {f:dF} {ids:List Id} (h:oQ g v f ids):∃o1 o2,v=.agg [.int .i64 f.aL,.own o1 0 f.ak.length,.own o2 0 f.aY.length]:=by
 obtain⟨o1,o2,is,h1,_⟩:=h.ex
 exact⟨o1,o2,h1⟩
theorem oQ.fz {g:Rows} {v:AV} {f:dF} {ids:List Id} (n:Nat) (h:oQ g v f ids):V.fz (dE g) (n+5) v=some (.agg (bc f)):=by
 obtain⟨o1,o2,is,rfl,h2,h3,rfl⟩:=h.ex
 have q1:V.fz (dE g) (n+4) (.own o1 0 f.ak.length)=some (.sl (f.ak.map bh)):=e7 (e:=bh) (sz:=2) (n:=n+3) (by simp[dE,h2]) rfl fun x=>by simp[bh,ad,aj,aI]
 have q2:=h3.fz (n:=n+3) (e:=kf) fun hc=>Kh (n+1) hc
 simp only[bf,ad,aj,q1,q2,aI,Option.map_some,bc]
theorem Hc {g:Rows} {v w:AV} {s:dF} {i:List Id} (hX:oQ g v s i) (hw:fz (dE g) 6 w=some w):cm (dE g) 6 [v,w]=some [.agg (bc s),w]:=by
 simp only[ad,aj,hX.fz 1,hw,Option.map_some]
theorem Df (g:Rows) (s:dF):fz g 6 (.agg (bc s))=some (.agg (bc s)):=by simp[bc,bf,ad,aj,cj,aI]
theorem IN (f:dF) (hs:nh f) (σ:ax):Call Tryz.prog 27 [.agg (bc f)] σ (fun r σ'=>∃ids,oQ σ'.get r f ids/\eO σ.next σ'.next ids/\Kept σ σ'):=by
 refine eX dK rfl fun hl=>?_
 clear hl
 (try((repeat(revert hN;revert N;apply Pn.out));refine wk @bc.eq_1 ?_;(repeat(refine Pn.mk ?_;intro N hN))))
 refine .inr (aO _ _ _ _ _ (fun r σ1 hq=>?_) (FY f.ak hs.c _))
 obtain⟨i1,hR,hI,hK⟩:=hq
 obtain⟨g1,x1⟩:=σ1
 (try dsimp only at hR hI hK)
 have hn:=hK.1
 obtain⟨o,rfl,tV,rfl⟩:=hR.flat
 have hb:=hI.2 o (by simp)
 (try dsimp only at hb hn)
 refine hN _ _ ?_
 clear hN N
 have k1:=hK.2 ⟨27000000,σ.next⟩ bt
 have k2:=hK.2 ⟨27000001,σ.next⟩ bt
 have k3:=hK.2 ⟨27001000,σ.next+1⟩ bt
 simp only[go_sem, ↓reduceIte,Nat.reduceEqDiff,Nat.reduceAdd,Nat.reduceSub,Nat.reduceLeDiff,reduceCtorEq]at k1 k2 k3
 (try((repeat(revert hN;revert N;apply Pn.out));refine wk (tw @bc.eq_1 (tw @k1 (tw @k2 @k3))) ?_;(repeat(refine Pn.mk ?_;intro N hN))))
 refine .inr (aO _ _ _ _ _ (fun r σ2 hq=>?_) (IU f.aY hs.s hs.x _))
 obtain⟨i2,hS,hJ,hL⟩:=hq
 obtain⟨g2,x2⟩:=σ2
 (try dsimp only at hS hJ hL)
 have MV:=hL.1
 obtain⟨o2,rfl⟩:=hS.jS
 have hc:=hJ.2
 (try dsimp only at hc MV)
 refine hN _ _ ?_
 clear hN N
 have l2:=hL.2 ⟨27000001,σ.next⟩ bt
 have l3:=hL.2 ⟨27001000,σ.next+1⟩ bt
 simp only[go_sem, ↓reduceIte,Nat.reduceEqDiff,Nat.reduceAdd,Nat.reduceSub,Nat.reduceLeDiff,reduceCtorEq,k2,k3]at l2 l3
 (try((repeat(revert hN;revert N;apply Pn.out));refine wk (tw @bc.eq_1 (tw @l2 @l3)) ?_;(repeat(refine Pn.mk ?_;intro N hN))))
 refine gn (.inl rfl) (vs:=[.agg [.int .i64 f.aL,.own o 0 f.ak.length,.own o2 0 f.aY.length]]) (sd @Nat.zero_add) ?_
 have fr:∀x:Id,σ.next+2<=x.cq->(x=⟨27000001,σ.next⟩)=False/\(x=⟨27001000,σ.next+1⟩)=False:=fun x hx=>⟨(dr (a:=⟨27000001,σ.next⟩) (b:=x) bt).2,(dr (a:=⟨27001000,σ.next+1⟩) (b:=x) bt).2⟩
 refine⟨o::i2,⟨o,o2,i2,rfl,?_,fV.frame (g:=g2) ug hS fun i hi=>?_,rfl⟩,?_,⟨bt,fun j hj=>?_⟩⟩
 ·have h2:=hL.2 o bt
  have h3:=fr o ab
  simp only[go_sem, ↓reduceIte,Nat.reduceEqDiff,Nat.reduceAdd,Nat.reduceSub,Nat.reduceLeDiff,reduceCtorEq,h3,tV]at h2
  simp only[go_sem, ↓reduceIte,Nat.reduceEqDiff,Nat.reduceAdd,Nat.reduceSub,Nat.reduceLeDiff,reduceCtorEq,h2,h3]
 ·have h1:=hc i hi
  have h3:=fr i ab
  simp only[go_sem, ↓reduceIte,Nat.reduceEqDiff,Nat.reduceAdd,Nat.reduceSub,Nat.reduceLeDiff,reduceCtorEq,h3]
 ·(try dsimp only at *)
  exact(hI.app hJ ab ab ab).wide ab ab
 ·have h1:=eP hj
  have h2:=hL.2 j bt
  have h3:=hK.2 j bt
  simp only[go_sem, ↓reduceIte,Nat.reduceEqDiff,Nat.reduceAdd,Nat.reduceSub,Nat.reduceLeDiff,reduceCtorEq,h1]at h2 h3
  simp only[go_sem, ↓reduceIte,Nat.reduceEqDiff,Nat.reduceAdd,Nat.reduceSub,Nat.reduceLeDiff,reduceCtorEq,h1,h2,h3]
theorem Ck (v:AV) (f:dF) (ids:List Id) (k:Int) (h0:0<=k) (hs:nh f) (h1:k+uq f<=4611686016280956928) (σ:ax) (hv:∀i∈ids,i.cq<σ.next) (kQ:ids.Nodup) (hg:oQ σ.get v f ids):
  Call Tryz.prog 30 [v,.int .i64 k] σ (fun r σ'=>r=.int .i64 (k+uq f)/\m8 σ ids σ'.get σ'.next):=by
 obtain⟨o1,o2,is,rfl,hA,hB,rfl⟩:=hg.ex
 obtain⟨n1,n2⟩:=List.nodup_cons.1 kQ
 have hm:(uq f:Int)=2*f.ak.length+(f.aY.map lz).sum:=by simp[uq]
 have s4:=hs.s
 refine eX dK rfl fun hl=>?_
 clear hl
 have jV:∀i∈o1::is,i≠⟨30000000,σ.next⟩:=fun i hi e=>by
  have:=hv i hi
  rw[e]at this;(try dsimp only at this);omega
 have ho1:=eP (hv o1 (by simp))
 (try((repeat(revert hN;revert N;apply Pn.out));refine wk @Nat.zero_add ?_;(repeat(refine Pn.mk ?_;intro N hN))))
 refine .inr (aO _ _ _ _ _ (fun r σ1 hq=>?_) (Al o1 f.ak k h0 ab _ (by have:=hv o1 (by simp);(try dsimp only);omega) (sd (tw @ho1 @hA))))
 obtain⟨g1,x1⟩:=σ1
 obtain⟨rfl,DD,ot⟩:=hq
 (try dsimp only at DD ot)
 refine hN _ _ ?_
 clear hN N
 have k1:=ot ⟨30000000,σ.next⟩ bt (fun h=>jV o1 (by simp) (List.mem_singleton.1 h).symm)
 have fr1:∀x:Id,x.cq<σ.next->x≠o1->g1 x=σ.get x:=fun x hx hi=>by
  have h2:=ot x bt (fun h=>hi (List.mem_singleton.1 h))
  have h3:=eP hx
  simp only[go_sem, ↓reduceIte,Nat.reduceEqDiff,Nat.reduceAdd,Nat.reduceSub,Nat.reduceLeDiff,reduceCtorEq,h3]at h2
  exact h2
 simp only[go_sem, ↓reduceIte,Nat.reduceEqDiff,Nat.reduceAdd,Nat.reduceSub,Nat.reduceLeDiff,reduceCtorEq]at k1
 (try((repeat(revert hN;revert N;apply Pn.out));refine wk @k1 ?_;(repeat(refine Pn.mk ?_;intro N hN))))
 refine .inr (aO _ _ _ _ _ (fun r σ2 hq=>?_) (H0 _ f.aY is (k+2*f.ak.length) ab ab _ (fun i hi=>by have:=hv i (by simp[hi]);(try dsimp only);omega) n2 (hB.frame ug fun i hi=>fr1 i (hv i (by simp[hi])) fun e=>n1 (e▸hi))))
 obtain⟨g2,x2⟩:=σ2
 obtain⟨rfl,⟨M4,AY⟩,_⟩:=hq
 (try dsimp only at M4 AY)
 refine hN _ _ ?_
 clear hN N
 (try((repeat(revert hN;revert N;apply Pn.out));refine wk @Nat.zero_add ?_;(repeat(refine Pn.mk ?_;intro N hN))))
 exact gn (.inl rfl) (vs:=[.int .i64 (k+2*f.ak.length+(f.aY.map lz).sum)]) (sd @Nat.zero_add) ⟨by rw[hm];exact congrArg (AV.int .i64) ab,⟨bt,fun x hx hi=>(AY x bt fun h=>hi (by simp[h])).trans (fr1 x hx fun e=>hi (by simp[e]))⟩⟩
theorem Kp (L2:cl->dj->dF->List Int×Int)
  (Qb:∀s a z,fA s.aE->pY s->a.ah.length<=1048576->nh z->∃w0,mH au (L2 s a z).1 w0/\iP Tryz.prog 31 [.agg (az s),.agg (aD a),.agg (bc z)] (.iN [w0,.int .i64 (L2 s a z).2]))
  (PW:∀s a z,fA s.aE->pY s->a.ah.length<=1048576->nh z->∀n:Nat,Call Tryz.prog 32 [.agg (az s),.agg (aD a),.agg (bc z)] ⟨fun _=>none,n⟩ (fun r σ'=>∃ids,(∃v0 i0,r=.iN [v0,.int .i64 (L2 s a z).2]/\lY σ'.get v0 (L2 s a z).1 i0/\ids=i0)/\eO n σ'.next ids))
  (Lw:∀s a z,fA s.aE->pY s->a.ah.length<=1048576->nh z->(L2 s a z).1.length<=1099511627776)
  (s:cl) (a:dj) (z:dF) (hn:fA s.aE):ae Tryz.prog 6 [.agg (az s),.agg (aD a),.agg (bc z)] (.bool true):=by
 refine ae.body dK rfl fun hl n0=>?_
 clear hl
 have h1:=CQ s 1048576 ab ab hn
 by_cases PO:((qU s:Nat):Int)<=1048576
 ·rw[ft PO]at h1
  have tU:¬(1048576:Int)-((qU s:Nat):Int)<0:=ab
  have h2:=qN a (1048576-((qU s:Nat):Int)) ab ab
  by_cases Lo:((a.ah.length:Nat):Int)<=1048576-((qU s:Nat):Int)
  ·rw[ft Lo]at h2
   have zW:¬(1048576:Int)-((qU s:Nat):Int)-((a.ah.length:Nat):Int)<0:=ab
   have h3:=IE z (1048576-((qU s:Nat):Int)-((a.ah.length:Nat):Int)) ab ab
   by_cases hf3:((sy z:Nat):Int)<=1048576-((qU s:Nat):Int)-((a.ah.length:Nat):Int)
   ·rw[ft hf3]at h3
    have JS:¬(1048576:Int)-((qU s:Nat):Int)-((a.ah.length:Nat):Int)-((sy z:Nat):Int)<0:=ab
    have sm:=FQ (s:=s) ab
    have fm:=BF (f:=z) ab
    have ma:a.ah.length<=1048576:=ab
    have t1:=CU s sm
    have t2:=qQ a ma
    have t3:=IP z fm
    obtain⟨w0,Gl,r1⟩:=Qb s a z hn sm ma fm
    have r2:=PW s a z hn sm ma fm
    have q1:=Bw s
    have q2:=xC a
    have q3:=G3 z
    have Pz:=Lw s a z hn sm ma fm
    obtain⟨L0,hR0⟩:∃R,(L2 s a z).1=R:=⟨_,rfl⟩
    obtain⟨c1,PA⟩:∃R,(L2 s a z).2=R:=⟨_,rfl⟩
    simp only[hR0,PA]at r1 r2 Gl Pz
    have o1:=fun σ=>CT s sm σ
    rw[az]at o1
    have o2:=fun σ=>qP a ma σ
    rw[aD]at o2
    have o3:=fun σ=>IN z fm σ
    rw[bc]at o3
    have Gb:decide (c1=c1)=true:=by simp
    rw[az]at h1
    rw[aD]at h2
    rw[bc]at h3
    (repeat(first|((repeat(revert hN;revert N;apply Pn.out));refine wk (tw @az.eq_1 (tw @aD.eq_1 (tw @bc.eq_1 (tw @tU (tw @zW @JS))))) ?_;(repeat(refine Pn.mk ?_;intro N hN)))|((try apply Or.inl);refine⟨_,ae.x (h1) (sd (tw @az.eq_1 (tw @aD.eq_1 (tw @bc.eq_1 (tw @tU (tw @zW @JS)))))),?_⟩;refine hN _ _ ?_;clear hN N)|((try apply Or.inl);refine⟨_,ae.x (h2) (sd (tw @az.eq_1 (tw @aD.eq_1 (tw @bc.eq_1 (tw @tU (tw @zW @JS)))))),?_⟩;refine hN _ _ ?_;clear hN N)|((try apply Or.inl);refine⟨_,ae.x (h3) (sd (tw @az.eq_1 (tw @aD.eq_1 (tw @bc.eq_1 (tw @tU (tw @zW @JS)))))),?_⟩;refine hN _ _ ?_;clear hN N)))
    refine⟨_,iP.x (by rw[az]at t1;exact t1) _,?_⟩
    refine hN _ _ ?_
    clear hN N
    (try((repeat(revert hN;revert N;apply Pn.out));refine wk (tw @az.eq_1 (tw @aD.eq_1 @bc.eq_1)) ?_;(repeat(refine Pn.mk ?_;intro N hN))))
    refine⟨_,iP.x (by rw[aD]at t2;exact t2) _,?_⟩
    refine hN _ _ ?_
    clear hN N
    (try((repeat(revert hN;revert N;apply Pn.out));refine wk (tw @az.eq_1 (tw @aD.eq_1 @bc.eq_1)) ?_;(repeat(refine Pn.mk ?_;intro N hN))))
    refine⟨_,iP.x (by rw[bc]at t3;exact t3) _,?_⟩
    refine hN _ _ ?_
    clear hN N
    (try((repeat(revert hN;revert N;apply Pn.out));refine wk @Nat.zero_add ?_;(repeat(refine Pn.mk ?_;intro N hN))))
    refine⟨_,iP.x (by rw[az,aD,bc]at r1;exact r1) _,?_⟩
    refine hN _ _ ?_
    clear hN N
    (try((repeat(revert hN;revert N;apply Pn.out));refine wk @Nat.zero_add ?_;(repeat(refine Pn.mk ?_;intro N hN))))
    refine .inr (aO _ _ _ _ _ (fun r' σ1 hq=>?_) (o1 _))
    obtain⟨is,Hs,Ns,Ks⟩:=hq
    obtain⟨g1,x1⟩:=σ1
    (try dsimp only at Hs Ns Ks)
    obtain⟨As,Bs,Cs,j1s,j2s,j3s,rfl,hAs,Ds,hCs,-⟩:=Hs.ex
    obtain⟨oAs,rfl⟩:=hAs.jS
    obtain⟨oBs,rfl⟩:=Ds.jS
    obtain⟨oCs,rfl⟩:=hCs.jS
    clear hAs Ds hCs
    have ns:=Ks.1
    have bs:=Ns.2
    (try dsimp only at ns bs)
    have Mi:=Ks.2 ⟨6000000,n0⟩ bt
    have Mj:=Ks.2 ⟨6000001,n0⟩ bt
    have Ml:=Ks.2 ⟨6000002,n0⟩ bt
    simp only[go_sem, ↓reduceIte,Nat.reduceEqDiff,Nat.reduceAdd,Nat.reduceSub,Nat.reduceLeDiff,reduceCtorEq]at Mi Mj Ml
    clear Ks
    refine hN _ _ ?_
    clear hN N
    (try((repeat(revert hN;revert N;apply Pn.out));refine wk (tw @Mi (tw @Mj @Ml)) ?_;(repeat(refine Pn.mk ?_;intro N hN))))
    refine .inr (aO _ _ _ _ _ (fun r' σ2 hq=>?_) (o2 _))
    obtain⟨ia,Ha,Na,Ka⟩:=hq
    obtain⟨g2,x2⟩:=σ2
    (try dsimp only at Ha Na Ka)
    obtain⟨Da,hDa⟩:=Ha
    obtain⟨rfl,R4⟩:=hDa
    obtain⟨oDa,rfl⟩:=R4.jS
    have Ha:xb g2 (.agg [.own oDa 0 a.ah.length]) a ia:=⟨_,rfl,R4⟩
    clear R4
    have na:=Ka.1
    have ba:=Na.2
    (try dsimp only at na ba)
    have Mr:∀i:Id,i.cq<x1->g2 i=g1 i:=fun i hi=>by
     have h4:=Ka.2 i bt
     have h5:=eP (i:=i) (n:=x1) hi
     simp only[go_sem, ↓reduceIte,Nat.reduceEqDiff,Nat.reduceAdd,Nat.reduceSub,Nat.reduceLeDiff,reduceCtorEq,h5]at h4
     exact h4
    have Pb:=(Mr ⟨6000000,n0⟩ bt).trans Mi
    have Pc:=(Mr ⟨6000001,n0⟩ bt).trans Mj
    have Pd:=(Mr ⟨6000002,n0⟩ bt).trans Ml
    have Mm:=Ka.2 ⟨6012002,x1⟩ bt
    simp only[go_sem, ↓reduceIte,Nat.reduceEqDiff,Nat.reduceAdd,Nat.reduceSub,Nat.reduceLeDiff,reduceCtorEq]at Mm
    have Hs:=Hs.frame (g':=g2) fun i hi=>Mr i (by have:=bs i hi;omega)
    clear Ka
    refine hN _ _ ?_
    clear hN N
    (try((repeat(revert hN;revert N;apply Pn.out));refine wk (tw @Pb (tw @Pc (tw @Pd @Mm))) ?_;(repeat(refine Pn.mk ?_;intro N hN))))
    refine .inr (aO _ _ _ _ _ (fun r' σ3 hq=>?_) (o3 _))
    obtain⟨iz,Hz,Nz,Kz⟩:=hq
    obtain⟨g3,x3⟩:=σ3
    (try dsimp only at Hz Nz Kz)
    obtain⟨q1z,q2z,rfl⟩:=Hz.owns
    have nz:=Kz.1
    have bz:=Nz.2
    (try dsimp only at nz bz)
    have Om:∀i:Id,i.cq<x2->g3 i=g2 i:=fun i hi=>by
     have h4:=Kz.2 i bt
     have h5:=eP (i:=i) (n:=x2) hi
     simp only[go_sem, ↓reduceIte,Nat.reduceEqDiff,Nat.reduceAdd,Nat.reduceSub,Nat.reduceLeDiff,reduceCtorEq,h5]at h4
     exact h4
    have Pe:=(Om ⟨6000000,n0⟩ bt).trans Pb
    have Pf:=(Om ⟨6000001,n0⟩ bt).trans Pc
    have Pg:=(Om ⟨6000002,n0⟩ bt).trans Pd
    have Ph:=(Om ⟨6012002,x1⟩ bt).trans Mm
    have Mn:=Kz.2 ⟨6013002,x2⟩ bt
    simp only[go_sem, ↓reduceIte,Nat.reduceEqDiff,Nat.reduceAdd,Nat.reduceSub,Nat.reduceLeDiff,reduceCtorEq]at Mn
    have Hs:=Hs.frame (g':=g3) fun i hi=>Om i (by have:=bs i hi;omega)
    have Ha:=Ha.frame (g':=g3) fun i hi=>Om i (by have:=ba i hi;omega)
    clear Kz
    refine hN _ _ ?_
    clear hN N
    (try((repeat(revert hN;revert N;apply Pn.out));refine wk (tw @Pe (tw @Pf (tw @Pg (tw @Ph @Mn)))) ?_;(repeat(refine Pn.mk ?_;intro N hN))))
    refine .inr (aO _ _ _ _ _ (fun r' σ4 hq=>?_) (Ed mixed (K:=fun r g ids=>(∃v0 i0,r=.iN [v0,.int .i64 c1]/\lY g v0 L0 i0/\ids=i0)) (by
     rintro r g ids ⟨v0,i0,rfl,k0,rfl⟩
     exact⟨by simp[Bm,Et k0.clean,Bl,zm],(k0.hand)⟩) (by
     rintro r g g' ids ⟨v0,i0,rfl,k0,rfl⟩ hf
     exact⟨v0,ids,rfl,k0.frame (fun i hi=>hf i (by simp[hi])),rfl⟩) r2 (Pv ((Hs.frame fun i hi=>by
     have h5:=eP (i:=i) (n:=x3) (by have:=bs i hi;omega)
     simp only[go_sem, ↓reduceIte,Nat.reduceEqDiff,Nat.reduceAdd,Nat.reduceSub,Nat.reduceLeDiff,reduceCtorEq,h5]).fz 1) ((Ha.frame fun i hi=>by
     have h5:=eP (i:=i) (n:=x3) (by have:=ba i hi;omega)
     simp only[go_sem, ↓reduceIte,Nat.reduceEqDiff,Nat.reduceAdd,Nat.reduceSub,Nat.reduceLeDiff,reduceCtorEq,h5]).fz 2) ((Hz.frame fun i hi=>by
     have h5:=eP (i:=i) (n:=x3) (by have:=bz i hi;omega)
     simp only[go_sem, ↓reduceIte,Nat.reduceEqDiff,Nat.reduceAdd,Nat.reduceSub,Nat.reduceLeDiff,reduceCtorEq,h5]).fz 1))))
    obtain⟨iZ,⟨v0,iZ0,rfl,Z0,rfl⟩,NZ,KZ⟩:=hq
    obtain⟨g4,x4⟩:=σ4
    (try dsimp only at Z0 NZ KZ)
    have nZ:=KZ.1
    (try dsimp only at nZ)
    have N0:=NZ
    have b0:=N0.2
    (try dsimp only at b0)
    have Lj:∀i:Id,i.cq<x3->g4 i=g3 i:=fun i hi=>by
     have h4:=KZ.2 i bt
     have h5:=eP (i:=i) (n:=x3) hi
     simp only[go_sem, ↓reduceIte,Nat.reduceEqDiff,Nat.reduceAdd,Nat.reduceSub,Nat.reduceLeDiff,reduceCtorEq,h5]at h4
     exact h4
    have xE:=(Lj ⟨6000000,n0⟩ bt).trans Pe
    have xF:=(Lj ⟨6000001,n0⟩ bt).trans Pf
    have xG:=(Lj ⟨6000002,n0⟩ bt).trans Pg
    have zA:=(Lj ⟨6012002,x1⟩ bt).trans Ph
    have xH:=(Lj ⟨6013002,x2⟩ bt).trans Mn
    have vn:=KZ.2 ⟨6014002,x3⟩ bt
    simp only[go_sem, ↓reduceIte,Nat.reduceEqDiff,Nat.reduceAdd,Nat.reduceSub,Nat.reduceLeDiff,reduceCtorEq]at vn
    have Hs:=Hs.frame (g':=g4) fun i hi=>Lj i (by have:=bs i hi;omega)
    have Ha:=Ha.frame (g':=g4) fun i hi=>Lj i (by have:=ba i hi;omega)
    have Hz:=Hz.frame (g':=g4) fun i hi=>Lj i (by have:=bz i hi;omega)
    clear KZ
    refine hN _ _ ?_
    clear hN N
    (try((repeat(revert hN;revert N;apply Pn.out));refine wk (tw @xE (tw @xF (tw @xG (tw @zA (tw @xH @vn))))) ?_;(repeat(refine Pn.mk ?_;intro N hN))))
    refine .inl ⟨_,ae.x (Bu Z0.Fo Gl) (uV ((Z0.frame fun i hi=>by
     have h5:=eP (i:=i) (n:=x4) (by have:=b0 i hi;omega)
     simp only[go_sem, ↓reduceIte,Nat.reduceEqDiff,Nat.reduceAdd,Nat.reduceSub,Nat.reduceLeDiff,reduceCtorEq,h5]).Oo) (Gl.fz _)),?_⟩
    refine hN _ _ ?_
    clear hN N
    (try((repeat(revert hN;revert N;apply Pn.out));refine wk (tw @xE (tw @xF (tw @xG (tw @zA (tw @xH (tw @vn @Gb)))))) ?_;(repeat(refine Pn.mk ?_;intro N hN))))
    refine⟨_,iP.x (by rw[az]at t1;exact t1) _,?_⟩
    refine hN _ _ ?_
    clear hN N
    (try((repeat(revert hN;revert N;apply Pn.out));refine wk (tw @xE (tw @xF (tw @xG (tw @zA (tw @xH (tw @vn @Gb)))))) ?_;(repeat(refine Pn.mk ?_;intro N hN))))
    refine⟨_,ae.x (by rw[az]at q1;exact q1) (by rw[<-az];exact K0 (Hs.frame fun i hi=>by
     have h5:=eP (i:=i) (n:=x4) (by have:=bs i hi;omega)
     simp only[go_sem, ↓reduceIte,Nat.reduceEqDiff,Nat.reduceAdd,Nat.reduceSub,Nat.reduceLeDiff,reduceCtorEq,h5]) (Dg _ _)),?_⟩
    refine hN _ _ ?_
    clear hN N
    (try((repeat(revert hN;revert N;apply Pn.out));refine wk (tw @xE (tw @xF (tw @xG (tw @zA (tw @xH (tw @vn @Gb)))))) ?_;(repeat(refine Pn.mk ?_;intro N hN))))
    refine⟨_,iP.x (by rw[aD]at t2;exact t2) _,?_⟩
    refine hN _ _ ?_
    clear hN N
    (try((repeat(revert hN;revert N;apply Pn.out));refine wk (tw @xE (tw @xF (tw @xG (tw @zA (tw @xH (tw @vn @Gb)))))) ?_;(repeat(refine Pn.mk ?_;intro N hN))))
    refine⟨_,ae.x (by rw[aD]at q2;exact q2) (by rw[<-aD];exact Ju (Ha.frame fun i hi=>by
     have h5:=eP (i:=i) (n:=x4) (by have:=ba i hi;omega)
     simp only[go_sem, ↓reduceIte,Nat.reduceEqDiff,Nat.reduceAdd,Nat.reduceSub,Nat.reduceLeDiff,reduceCtorEq,h5]) (De _ _)),?_⟩
    refine hN _ _ ?_
    clear hN N
    (try((repeat(revert hN;revert N;apply Pn.out));refine wk (tw @xE (tw @xF (tw @xG (tw @zA (tw @xH (tw @vn @Gb)))))) ?_;(repeat(refine Pn.mk ?_;intro N hN))))
    refine⟨_,iP.x (by rw[bc]at t3;exact t3) _,?_⟩
    refine hN _ _ ?_
    clear hN N
    (try((repeat(revert hN;revert N;apply Pn.out));refine wk (tw @xE (tw @xF (tw @xG (tw @zA (tw @xH (tw @vn @Gb)))))) ?_;(repeat(refine Pn.mk ?_;intro N hN))))
    refine⟨_,ae.x (by rw[bc]at q3;exact q3) (by rw[<-bc];exact Hc (Hz.frame fun i hi=>by
     have h5:=eP (i:=i) (n:=x4) (by have:=bz i hi;omega)
     simp only[go_sem, ↓reduceIte,Nat.reduceEqDiff,Nat.reduceAdd,Nat.reduceSub,Nat.reduceLeDiff,reduceCtorEq,h5]) (Df _ _)),?_⟩
    refine hN _ _ ?_
    clear hN N
    (try((repeat(revert hN;revert N;apply Pn.out));refine wk (tw @xE (tw @xF (tw @xG (tw @zA (tw @xH (tw @vn @Gb)))))) ?_;(repeat(refine Pn.mk ?_;intro N hN))))
    have iv:=Ku s
    have hmf:=HV z
    refine .inr (aO _ _ _ _ _ (fun r' σ5 hq=>?_) (Ft _ s _ 1 ab sm.s.t ab _ (fun i hi=>by have:=bs i hi;(try dsimp only);omega) Ns.1 (Hs.frame fun i hi=>by
     have h5:=eP (i:=i) (n:=x4) (by have:=bs i hi;omega)
     simp only[go_sem, ↓reduceIte,Nat.reduceEqDiff,Nat.reduceAdd,Nat.reduceSub,Nat.reduceLeDiff,reduceCtorEq,h5])))
    obtain⟨rfl,hM⟩:=hq
    obtain⟨g5,x5⟩:=σ5
    (try dsimp only at hM)
    have nM5:=hM.1
    (try dsimp only at nM5)
    have Lk:∀i:Id,i.cq<x4->i∉is->g5 i=g4 i:=fun i hi hx=>hM.2 i bt hx
    have Pj:=(Lk ⟨6000000,n0⟩ bt (Ns.not bt)).trans xE
    have Pk:=(Lk ⟨6000001,n0⟩ bt (Ns.not bt)).trans xF
    have Pm:=(Lk ⟨6000002,n0⟩ bt (Ns.not bt)).trans xG
    have RM:=(Lk ⟨6013002,x2⟩ bt (Ns.not bt)).trans xH
    have Po:=(Lk ⟨6014002,x3⟩ bt (Ns.not bt)).trans vn
    have Ha:=Ha.frame (g':=g5) fun i hi=>Lk i (by have:=ba i hi;omega) (Ns.not (by have:=ba i hi;omega))
    have Hz:=Hz.frame (g':=g5) fun i hi=>Lk i (by have:=bz i hi;omega) (Ns.not (by have:=bz i hi;omega))
    have Z0:=Z0.frame (g':=g5) fun i hi=>Lk i (by have:=b0 i hi;omega) (Ns.not (by have:=b0 i hi;omega))
    clear hM
    refine hN _ _ ?_
    clear hN N
    (try((repeat(revert hN;revert N;apply Pn.out));refine wk (tw @Pj (tw @Pk (tw @Pm (tw @RM @Po)))) ?_;(repeat(refine Pn.mk ?_;intro N hN))))
    refine .inr (aO _ _ _ _ _ (fun r' σ6 hq=>?_) (wQ _ a _ (1+yf s) ab ab _ (fun i hi=>by have:=ba i hi;(try dsimp only);omega) Ha))
    obtain⟨rfl,hM⟩:=hq
    obtain⟨g6,x6⟩:=σ6
    (try dsimp only at hM)
    have nM6:=hM.1
    (try dsimp only at nM6)
    have On:∀i:Id,i.cq<x5->i∉ia->g6 i=g5 i:=fun i hi hx=>hM.2 i bt hx
    have Pp:=(On ⟨6000000,n0⟩ bt (Na.not bt)).trans Pj
    have Pq:=(On ⟨6000001,n0⟩ bt (Na.not bt)).trans Pk
    have Pr:=(On ⟨6000002,n0⟩ bt (Na.not bt)).trans Pm
    have RN:=(On ⟨6014002,x3⟩ bt (Na.not bt)).trans Po
    have Hz:=Hz.frame (g':=g6) fun i hi=>On i (by have:=bz i hi;omega) (Na.not (by have:=bz i hi;omega))
    have Z0:=Z0.frame (g':=g6) fun i hi=>On i (by have:=b0 i hi;omega) (Na.not (by have:=b0 i hi;omega))
    clear hM
    refine hN _ _ ?_
    clear hN N
    (try((repeat(revert hN;revert N;apply Pn.out));refine wk (tw @Pp (tw @Pq (tw @Pr @RN))) ?_;(repeat(refine Pn.mk ?_;intro N hN))))
    refine .inr (aO _ _ _ _ _ (fun r' σ7 hq=>?_) (Ck _ z _ (1+yf s+3*a.ah.length) ab fm ab _ (fun i hi=>by have:=bz i hi;(try dsimp only);omega) Nz.1 Hz))
    obtain⟨rfl,hM⟩:=hq
    obtain⟨g7,x7⟩:=σ7
    (try dsimp only at hM)
    have nM7:=hM.1
    (try dsimp only at nM7)
    have QX:∀i:Id,i.cq<x6->i∉iz->g7 i=g6 i:=fun i hi hx=>hM.2 i bt hx
    have Mo:=(QX ⟨6000000,n0⟩ bt (Nz.not bt)).trans Pp
    have Mp:=(QX ⟨6000001,n0⟩ bt (Nz.not bt)).trans Pq
    have Mq:=(QX ⟨6000002,n0⟩ bt (Nz.not bt)).trans Pr
    have Z0:=Z0.frame (g':=g7) fun i hi=>QX i (by have:=b0 i hi;omega) (Nz.not (by have:=b0 i hi;omega))
    clear hM
    have e3:decide (1+((yf s:Nat):Int)+3*(a.ah.length:Int)+((uq z:Nat):Int)<0)=false:=decide_eq_false ab
    refine hN _ _ ?_
    clear hN N
    (try((repeat(revert hN;revert N;apply Pn.out));refine wk (tw @Mo (tw @Mp (tw @Mq @e3))) ?_;(repeat(refine Pn.mk ?_;intro N hN))))
    refine .inl ⟨_,ae.x (Bu Z0.Fo Gl) (uV (Z0.Oo) (Gl.fz _)),?_⟩
    refine hN _ _ ?_
    clear hN N
    (try((repeat(revert hN;revert N;apply Pn.out));refine wk (tw @Mo (tw @Mp (tw @Mq (tw @Gb @e3)))) ?_;(repeat(refine Pn.mk ?_;intro N hN))))
    refine .inr (aO _ _ _ _ _ (fun r' σ8 hq=>?_) (HY 1 ab ab _ (fun i hi=>by have:=b0 i hi;(try dsimp only);omega) Z0))
    obtain⟨rfl,hM,Y0⟩:=hq
    obtain⟨g8,x8⟩:=σ8
    (try dsimp only at hM Y0)
    have nM8:=hM.1
    (try dsimp only at nM8)
    have RS:∀i:Id,i.cq<x7->i∉iZ->g8 i=g7 i:=fun i hi hx=>hM.2 i bt hx
    have zB:=(RS ⟨6000000,n0⟩ bt (N0.not bt)).trans Mo
    have zC:=(RS ⟨6000001,n0⟩ bt (N0.not bt)).trans Mp
    have zD:=(RS ⟨6000002,n0⟩ bt (N0.not bt)).trans Mq
    clear hM
    refine hN _ _ ?_
    clear hN N
    (try((repeat(revert hN;revert N;apply Pn.out));refine wk (tw @zB (tw @zC @zD)) ?_;(repeat(refine Pn.mk ?_;intro N hN))))
    have O7:decide (1+(L0.length:Int)<0)=false:=decide_eq_false ab
    refine .inl ⟨_,ae.x (zV 1 L0.length ab ab Y0.Fo) (uV (Y0.Oo) (aI _ _ _ _)),?_⟩
    refine hN _ _ ?_
    clear hN N
    have e5:decide (1+(L0.length:Int)=1+(L0.length:Int))=true:=decide_eq_true rfl
    (try((repeat(revert hN;revert N;apply Pn.out));refine wk (tw @zB (tw @zC (tw @zD (tw @O7 @e5)))) ?_;(repeat(refine Pn.mk ?_;intro N hN))))
    refine⟨_,iP.x (by rw[az]at t1;exact t1) _,?_⟩
    refine hN _ _ ?_
    clear hN N
    (try((repeat(revert hN;revert N;apply Pn.out));refine wk (tw @zB (tw @zC (tw @zD (tw @O7 @e5)))) ?_;(repeat(refine Pn.mk ?_;intro N hN))))
    refine⟨_,iP.x (by rw[aD]at t2;exact t2) _,?_⟩
    refine hN _ _ ?_
    clear hN N
    (try((repeat(revert hN;revert N;apply Pn.out));refine wk (tw @zB (tw @zC (tw @zD (tw @O7 @e5)))) ?_;(repeat(refine Pn.mk ?_;intro N hN))))
    refine⟨_,iP.x (by rw[bc]at t3;exact t3) _,?_⟩
    refine hN _ _ ?_
    clear hN N
    (try((repeat(revert hN;revert N;apply Pn.out));refine wk (tw @zB (tw @zC (tw @zD (tw @O7 @e5)))) ?_;(repeat(refine Pn.mk ?_;intro N hN))))
    have rs:ae Tryz.prog 32 [.agg (az s),.agg (aD a),.agg (bc z)] (.iN [Nv au L0,.int .i64 c1]):=fun n=>aO _ _ _ _ _ (fun r σ' hq=>by
     obtain⟨ids,⟨v0,i0,rfl,k0,rfl⟩,-⟩:=hq
     exact⟨_,by simp only[eY,br,bV,Dq,k0.s,eC,fa,Option.map_some]<;>rfl,rfl⟩) (r2 n)
    refine⟨_,ae.x (by rw[az,aD,bc]at rs;exact rs) (Pv (by rw[<-az];exact Dg _ _) (by rw[<-aD];exact De _ _) (by rw[<-bc];exact Df _ _)),?_⟩
    refine hN _ _ ?_
    clear hN N
    have Jk:=(Ia (e:=au) (L:=L0))
    generalize Nv au L0=u0 at Jk ⊢
    (try((repeat(revert hN;revert N;apply Pn.out));refine wk (tw @zB (tw @zC (tw @zD @Gb))) ?_;(repeat(refine Pn.mk ?_;intro N hN))))
    refine .inl ⟨_,ae.x (Bu Jk Gl) (uV (Jk.fz _) (Gl.fz _)),?_⟩
    refine hN _ _ ?_
    clear hN N
    (try((repeat(revert hN;revert N;apply Pn.out));refine wk (tw @zB (tw @zC (tw @zD @Gb))) ?_;(repeat(refine Pn.mk ?_;intro N hN))))
    refine .inl ⟨_,ae.x (zV 1 L0.length ab ab Y0.Fo) (uV ((Y0.frame fun i hi=>by
     have h5:=eP (i:=i) (n:=x8) (by have:=b0 i hi;omega)
     simp only[go_sem, ↓reduceIte,Nat.reduceEqDiff,Nat.reduceAdd,Nat.reduceSub,Nat.reduceLeDiff,reduceCtorEq,h5]).Oo) (aI _ _ _ _)),?_⟩
    refine hN _ _ ?_
    clear hN N
    (try((repeat(revert hN;revert N;apply Pn.out));refine wk (tw @zB (tw @zC (tw @zD (tw @O7 @e5)))) ?_;(repeat(refine Pn.mk ?_;intro N hN))))
    exact aC (b:=true) (.inl rfl) (sd @Nat.zero_add) rfl
   ·rw[fq hf3]at h3
    rw[az]at h1
    rw[aD]at h2
    rw[bc]at h3
    (repeat(first|((repeat(revert hN;revert N;apply Pn.out));refine wk (tw @az.eq_1 (tw @aD.eq_1 (tw @bc.eq_1 (tw @tU @zW)))) ?_;(repeat(refine Pn.mk ?_;intro N hN)))|((try apply Or.inl);refine⟨_,ae.x (h1) (sd (tw @az.eq_1 (tw @aD.eq_1 (tw @bc.eq_1 (tw @tU @zW))))),?_⟩;refine hN _ _ ?_;clear hN N)|((try apply Or.inl);refine⟨_,ae.x (h2) (sd (tw @az.eq_1 (tw @aD.eq_1 (tw @bc.eq_1 (tw @tU @zW))))),?_⟩;refine hN _ _ ?_;clear hN N)|((try apply Or.inl);refine⟨_,ae.x (h3) (sd (tw @az.eq_1 (tw @aD.eq_1 (tw @bc.eq_1 (tw @tU @zW))))),?_⟩;refine hN _ _ ?_;clear hN N)))
    exact aC (b:=true) (.inl rfl) (sd @Nat.zero_add) rfl
  ·rw[fq Lo]at h2
   rw[az]at h1
   rw[aD]at h2
   (repeat(first|((repeat(revert hN;revert N;apply Pn.out));refine wk (tw @az.eq_1 (tw @aD.eq_1 (tw @bc.eq_1 @tU))) ?_;(repeat(refine Pn.mk ?_;intro N hN)))|((try apply Or.inl);refine⟨_,ae.x (h1) (sd (tw @az.eq_1 (tw @aD.eq_1 (tw @bc.eq_1 @tU)))),?_⟩;refine hN _ _ ?_;clear hN N)|((try apply Or.inl);refine⟨_,ae.x (h2) (sd (tw @az.eq_1 (tw @aD.eq_1 (tw @bc.eq_1 @tU)))),?_⟩;refine hN _ _ ?_;clear hN N)))
   exact aC (b:=true) (.inl rfl) (sd @Nat.zero_add) rfl
 ·rw[fq PO]at h1
  rw[az]at h1
  (repeat(first|((repeat(revert hN;revert N;apply Pn.out));refine wk (tw @az.eq_1 (tw @aD.eq_1 @bc.eq_1)) ?_;(repeat(refine Pn.mk ?_;intro N hN)))|((try apply Or.inl);refine⟨_,ae.x (h1) (sd (tw @az.eq_1 (tw @aD.eq_1 @bc.eq_1))),?_⟩;refine hN _ _ ?_;clear hN N)))
  exact aC (b:=true) (.inl rfl) (sd @Nat.zero_add) rfl
theorem Fi (n:Int) (h0:1<=n) (h1:n<=4) (c:eI):ae Tryz.prog 113 [.int .i64 n,.agg (bh c)] (.bool (oW n c)):=by
 refine ae.body dK rfl fun hl n0=>?_
 clear hl
 have hn:¬n<0:=ab
 have hs:=IA h0 h1
 have h2:=yG h0 h1
 have hw:IntKind.i64.wrap (mz n-1)=mz n-1:=aT ab
 have i1:=gV c.dn 0 (mz n-1)
 have i2:=gV c.de 0 (mz n-1)
 have ha:=Lf c.de c.dn
 simp only[go_sem, ↓reduceIte,Nat.reduceEqDiff,Nat.reduceAdd,Nat.reduceSub,Nat.reduceLeDiff,reduceCtorEq,Option.some.injEq,AV.int.injEq,true_and]at ha
 cases hc:fJ c.dn 0 (mz n-1)
 ·rw[hc]at i1
  (repeat(first|((repeat(revert hN;revert N;apply Pn.out));refine wk (tw @bh.eq_1 (tw @hn (tw @hs @hw))) ?_;(repeat(refine Pn.mk ?_;intro N hN)))|((try apply Or.inl);refine⟨_,ae.x (i1) (sd (tw @bh.eq_1 (tw @hn (tw @hs @hw)))),?_⟩;refine hN _ _ ?_;clear hN N)))
  exact aC (b:=false) (.inl rfl) (sd @Nat.zero_add) (by rw[oW,hc];rfl)
 rw[hc]at i1
 cases hv:fJ c.de 0 (mz n-1)
 ·rw[hv]at i2
  have hd:decide (Bd c.de c.dn=c.de)=false:=decide_eq_false fun e=>by
   have:=Bo h0 h1 hc e
   rw[hv]at this;cases this
  (repeat(first|((repeat(revert hN;revert N;apply Pn.out));refine wk (tw @bh.eq_1 (tw @hn (tw @hs @hw))) ?_;(repeat(refine Pn.mk ?_;intro N hN)))|((try apply Or.inl);refine⟨_,ae.x (i1) (sd (tw @bh.eq_1 (tw @hn (tw @hs @hw)))),?_⟩;refine hN _ _ ?_;clear hN N)|((try apply Or.inl);refine⟨_,ae.x (i2) (sd (tw @bh.eq_1 (tw @hn (tw @hs @hw)))),?_⟩;refine hN _ _ ?_;clear hN N)))
  exact aC (b:=false) (.inl rfl) (sd @Nat.zero_add) (by rw[oW,hc,hd];rfl)
 ·rw[hv]at i2
  (repeat(first|((repeat(revert hN;revert N;apply Pn.out));refine wk (tw @bh.eq_1 (tw @hn (tw @hs (tw @hw @ha)))) ?_;(repeat(refine Pn.mk ?_;intro N hN)))|((try apply Or.inl);refine⟨_,ae.x (i1) (sd (tw @bh.eq_1 (tw @hn (tw @hs (tw @hw @ha))))),?_⟩;refine hN _ _ ?_;clear hN N)|((try apply Or.inl);refine⟨_,ae.x (i2) (sd (tw @bh.eq_1 (tw @hn (tw @hs (tw @hw @ha))))),?_⟩;refine hN _ _ ?_;clear hN N)))
  exact aC (b:=decide (Bd c.de c.dn=c.de)) (.inl rfl) (sd @ha) (by rw[oW,hc];rfl)
theorem Aj (a b:eI):ae Tryz.prog 114 [.agg (bh a),.agg (bh b)] (.bool (qc a b)):=by
 refine ae.body dK rfl fun hl n0=>?_
 clear hl
 by_cases h1:a.dn<b.dn
 ·(try((repeat(revert hN;revert N;apply Pn.out));refine wk (tw @bh.eq_1 @h1) ?_;(repeat(refine Pn.mk ?_;intro N hN))))
  exact aC (b:=true) (.inl rfl) (sd @Nat.zero_add) (by rw[qc,decide_eq_true h1];rfl)
 by_cases h2:a.dn=b.dn
 ·have e:=decide_eq_true h2
  (try((repeat(revert hN;revert N;apply Pn.out));refine wk (tw @bh.eq_1 (tw @h1 @e)) ?_;(repeat(refine Pn.mk ?_;intro N hN))))
  exact aC (b:=decide (a.de<b.de)) (.inl rfl) (sd @Nat.zero_add) (by rw[qc,decide_eq_false h1,e];rfl)
 ·have e:=decide_eq_false h2
  (try((repeat(revert hN;revert N;apply Pn.out));refine wk (tw @bh.eq_1 (tw @h1 @e)) ?_;(repeat(refine Pn.mk ?_;intro N hN))))
  exact aC (b:=false) (.inl rfl) (sd @Nat.zero_add) (by rw[qc,decide_eq_false h1,e];rfl)
theorem zO {l:List Int} {k:Nat} (h:k<l.length):(l.map au)[k]? =some [.int .i64 (l.getD k 0)]:=getD_map au h
theorem Cc (l:List Int) (Oy:l.length<=9223372036854775806) (m:Int):ae Tryz.prog 115 [.sl (l.map au),.int .i64 0,.int .i64 (m-1)] (.bool (m4 m l)):=by
 refine ae.body dK rfl fun hl n0=>?_
 clear hl
 have gy:(l.map au).length=l.length:=by simp
 (try((repeat(revert hN;revert N;apply Pn.out));refine wk @Nat.zero_add ?_;(repeat(refine Pn.mk ?_;intro N hN))))
 refine aP (fun n env st=>∃k:Nat,n=(l.length)-k/\k<=(l.length)/\env 7=.int .i64 (k:Int)/\(∀j:Nat,j<k->np m l j)) (l.length) ⟨0,ab,ab,sl @gy,fun _ h=>absurd h (Nat.not_lt_zero _)⟩ ?_
 rintro n_a env_a st_a ⟨k,rfl,ale,a7,iO⟩ dm
 have a0:=dm 0 (by kernel_rfl);have a1:=dm 1 (by kernel_rfl);have a2:=dm 2 (by kernel_rfl)
 simp only[go_sem, ↓reduceIte,Nat.reduceEqDiff,Nat.reduceAdd,Nat.reduceSub,Nat.reduceLeDiff,reduceCtorEq,gy]at a0 a1 a2
 clear dm
 by_cases hk:(k:Int)<(l.length:Int)
 ·have bD:∀{e:Env},(e 7=.int .i64 (IntKind.i64.wrap ((k:Int)+1)))->(np m l k)->∃m0,m0<(l.length)-k/\∃k:Nat,m0=(l.length)-k/\k<=(l.length)/\e 7=.int .i64 (k:Int)/\(∀j:Nat,j<k->np m l j):=fun x1 x2=>⟨_,ab,k+1,rfl,ab,(by rw[x1,ay ab]),(all_succ iO x2)⟩
  have dX:k<l.length:=ab
  have hg:=zO dX
  have hI:=gV (l.getD k 0) 0 (m-1)
  cases hc:fJ (l.getD k 0) 0 (m-1)
  ·rw[hc]at hI
   (repeat(first|((repeat(revert hN;revert N;apply Pn.out));refine wk (tw @a7 (tw @a0 (tw @a1 (tw @a2 (tw @hk (tw @gy @hg)))))) ?_;(repeat(refine Pn.mk ?_;intro N hN)))|((try apply Or.inl);refine⟨_,ae.x (hI) (sd (tw @a7 (tw @a0 (tw @a1 (tw @a2 (tw @hk (tw @gy @hg))))))),?_⟩;refine hN _ _ ?_;clear hN N)))
   exact aC (b:=false) (.inl rfl) (sd @Nat.zero_add) (s9 dX fun h=>by rw[np,hc]at h;cases h.1)
  rw[hc]at hI
  rcases k with _|k
  ·have hd:¬(0:Int)<((0:Nat):Int):=ab
   (repeat(first|((repeat(revert hN;revert N;apply Pn.out));refine wk (tw @a7 (tw @a0 (tw @a1 (tw @a2 (tw @hk (tw @gy (tw @hg @hd))))))) ?_;(repeat(refine Pn.mk ?_;intro N hN)))|((try apply Or.inl);refine⟨_,ae.x (hI) (sd (tw @a7 (tw @a0 (tw @a1 (tw @a2 (tw @hk (tw @gy (tw @hg @hd)))))))),?_⟩;refine hN _ _ ?_;clear hN N)))
   exact bD (sd (tw @a7 (tw @a0 (tw @a1 @a2)))) (⟨hc,fun h=>absurd h (Nat.lt_irrefl 0)⟩)
  ·have hd:(0:Int)<((k+1:Nat):Int):=ab
   have hw:IntKind.i64.wrap (((k+1:Nat):Int)-1)=(k:Int):=by rw[aT ab];omega
   have oL:=zO (l:=l) (k:=k) ab
   have kN:(0:Int)<=(k:Int):=ab
   by_cases dD:l.getD k 0<l.getD (k+1) 0
   ·have jA:¬l.getD (k+1) 0<=l.getD k 0:=ab
    have hr:np m l (k+1):=⟨hc,fun _=>dD⟩
    (repeat(first|((repeat(revert hN;revert N;apply Pn.out));refine wk (tw @a7 (tw @a0 (tw @a1 (tw @a2 (tw @hk (tw @gy (tw @hg (tw @hd (tw @hw (tw @oL (tw @kN @jA))))))))))) ?_;(repeat(refine Pn.mk ?_;intro N hN)))|((try apply Or.inl);refine⟨_,ae.x (hI) (sd (tw @a7 (tw @a0 (tw @a1 (tw @a2 (tw @hk (tw @gy (tw @hg (tw @hd (tw @hw (tw @oL (tw @kN @jA)))))))))))),?_⟩;refine hN _ _ ?_;clear hN N)))
    exact bD (sd (tw @a7 (tw @a0 (tw @a1 @a2)))) (hr)
   ·have jA:l.getD (k+1) 0<=l.getD k 0:=ab
    have hr:¬np m l (k+1):=fun h=>dD (h.2 ab)
    (repeat(first|((repeat(revert hN;revert N;apply Pn.out));refine wk (tw @a7 (tw @a0 (tw @a1 (tw @a2 (tw @hk (tw @gy (tw @hg (tw @hd (tw @hw (tw @oL (tw @kN @jA))))))))))) ?_;(repeat(refine Pn.mk ?_;intro N hN)))|((try apply Or.inl);refine⟨_,ae.x (hI) (sd (tw @a7 (tw @a0 (tw @a1 (tw @a2 (tw @hk (tw @gy (tw @hg (tw @hd (tw @hw (tw @oL (tw @kN @jA)))))))))))),?_⟩;refine hN _ _ ?_;clear hN N)))
    exact aC (b:=false) (.inl rfl) (sd @Nat.zero_add) (s9 dX hr)
 ·have dX:k=l.length:=ab
  subst dX
  (try((repeat(revert hN;revert N;apply Pn.out));refine wk (tw @a7 (tw @a0 (tw @a1 (tw @a2 (tw @hk @gy))))) ?_;(repeat(refine Pn.mk ?_;intro N hN))))
  exact aC (b:=true) (.inl rfl) (sd @Nat.zero_add) (AD fun i hi=>iO i hi)
theorem Fj (f:dF) (xV:f.aY.length<=1048576) (yR:∀l∈f.aY,l.length<=1048576):ae Tryz.prog 83 [.cJ (bc f)] (.bool (nH f)):=by
 refine ae.body dK rfl fun hl n0=>?_
 have lu:f.ak.length<=9223372036854775807:=by
  have h1:=(hl (.cJ (bc f)) (by simp)).uh (a:=.sl (f.ak.map bh)) (by simp[bc])
  simpa using h1.len
 clear hl
 have gx:(f.ak.map bh).length=f.ak.length:=by simp
 have iv:(f.aY.map kf).length=f.aY.length:=by simp
 have i1:=gV f.aL 1 4
 have i2:=gV (f.aY.length:Int) 1 3
 cases b1:fJ f.aL 1 4
 ·rw[b1]at i1
  (repeat(first|((repeat(revert hN;revert N;apply Pn.out));refine wk @bc.eq_1 ?_;(repeat(refine Pn.mk ?_;intro N hN)))|((try apply Or.inl);refine⟨_,ae.x (i1) (sd @bc.eq_1),?_⟩;refine hN _ _ ?_;clear hN N)))
  exact aC (b:=false) (.inl rfl) (sd @Nat.zero_add) (j9 (by rw[b1];rfl))
 rw[b1]at i1
 cases b2:fJ (f.aY.length:Int) 1 3
 ·rw[b2]at i2
  (repeat(first|((repeat(revert hN;revert N;apply Pn.out));refine wk (tw @bc.eq_1 @iv) ?_;(repeat(refine Pn.mk ?_;intro N hN)))|((try apply Or.inl);refine⟨_,ae.x (i1) (sd (tw @bc.eq_1 @iv)),?_⟩;refine hN _ _ ?_;clear hN N)|((try apply Or.inl);refine⟨_,ae.x (i2) (sd (tw @bc.eq_1 @iv)),?_⟩;refine hN _ _ ?_;clear hN N)))
  exact aC (b:=false) (.inl rfl) (sd @Nat.zero_add) (j9 (by rw[b1,b2];rfl))
 rw[b2]at i2
 by_cases b3:(81:Int)<(f.ak.length:Int)
 ·(repeat(first|((repeat(revert hN;revert N;apply Pn.out));refine wk (tw @bc.eq_1 (tw @iv (tw @gx @b3))) ?_;(repeat(refine Pn.mk ?_;intro N hN)))|((try apply Or.inl);refine⟨_,ae.x (i1) (sd (tw @bc.eq_1 (tw @iv (tw @gx @b3)))),?_⟩;refine hN _ _ ?_;clear hN N)|((try apply Or.inl);refine⟨_,ae.x (i2) (sd (tw @bc.eq_1 (tw @iv (tw @gx @b3)))),?_⟩;refine hN _ _ ?_;clear hN N)))
  exact aC (b:=false) (.inl rfl) (sd @Nat.zero_add) (j9 (by rw[b1,b2,decide_eq_false ab];rfl))
 have SC:(fJ f.aL 1 4&&fJ (f.aY.length:Int) 1 3&&decide (f.ak.length<=81))=true:=by rw[b1,b2,decide_eq_true ab];rfl
 have Nk:=dB b1
 (repeat(first|((repeat(revert hN;revert N;apply Pn.out));refine wk (tw @bc.eq_1 (tw @iv (tw @gx @b3))) ?_;(repeat(refine Pn.mk ?_;intro N hN)))|((try apply Or.inl);refine⟨_,ae.x (i1) (sd (tw @bc.eq_1 (tw @iv (tw @gx @b3)))),?_⟩;refine hN _ _ ?_;clear hN N)|((try apply Or.inl);refine⟨_,ae.x (i2) (sd (tw @bc.eq_1 (tw @iv (tw @gx @b3)))),?_⟩;refine hN _ _ ?_;clear hN N)))
 refine aP (fun n env st=>∃k:Nat,n=(f.ak.length)-k/\k<=(f.ak.length)/\env 3=.int .i64 (k:Int)/\(∀j:Nat,j<k->lX f.aL f.ak j)) (f.ak.length) ⟨0,ab,ab,sl (tw @gx @iv),fun _ h=>absurd h (Nat.not_lt_zero _)⟩ ?_
 rintro n_a env_a st_a ⟨k,rfl,ale,a3,iO⟩ dm
 have a0:=dm 0 (by kernel_rfl)
 simp only[go_sem, ↓reduceIte,Nat.reduceEqDiff,Nat.reduceAdd,Nat.reduceSub,Nat.reduceLeDiff,reduceCtorEq,gx,iv]at a0
 clear dm
 by_cases hk:(k:Int)<(f.ak.length:Int)
 ·have bD:∀{e:Env},(e 3=.int .i64 (IntKind.i64.wrap ((k:Int)+1)))->(lX f.aL f.ak k)->∃m0,m0<(f.ak.length)-k/\∃k:Nat,m0=(f.ak.length)-k/\k<=(f.ak.length)/\e 3=.int .i64 (k:Int)/\(∀j:Nat,j<k->lX f.aL f.ak j):=fun x1 x2=>⟨_,ab,k+1,rfl,ab,(by rw[x1,ay ab]),(all_succ iO x2)⟩
  have dX:k<f.ak.length:=ab
  have hg:=sR dX
  have hC:=Fi f.aL Nk.1 Nk.2 (iI f.ak k)
  cases hc:oW f.aL (iI f.ak k)
  ·rw[hc]at hC
   rw[bh]at hC hg
   (repeat(first|((repeat(revert hN;revert N;apply Pn.out));refine wk (tw @a3 (tw @a0 (tw @hk (tw @gx @hg)))) ?_;(repeat(refine Pn.mk ?_;intro N hN)))|((try apply Or.inl);refine⟨_,ae.x (hC) (sd (tw @a3 (tw @a0 (tw @hk (tw @gx @hg))))),?_⟩;refine hN _ _ ?_;clear hN N)))
   exact aC (b:=false) (.inl rfl) (sd @Nat.zero_add) (om dX fun h=>by rw[lX,hc]at h;cases h.1)
  rw[hc]at hC
  rcases k with _|k
  ·have hd:¬(0:Int)<((0:Nat):Int):=ab
   rw[bh]at hC hg
   (repeat(first|((repeat(revert hN;revert N;apply Pn.out));refine wk (tw @a3 (tw @a0 (tw @hk (tw @gx (tw @hg @hd))))) ?_;(repeat(refine Pn.mk ?_;intro N hN)))|((try apply Or.inl);refine⟨_,ae.x (hC) (sd (tw @a3 (tw @a0 (tw @hk (tw @gx (tw @hg @hd)))))),?_⟩;refine hN _ _ ?_;clear hN N)))
   exact bD (sd (tw @a3 @a0)) (⟨hc,fun h=>absurd h (Nat.lt_irrefl 0)⟩)
  ·have hd:(0:Int)<((k+1:Nat):Int):=ab
   have hw:IntKind.i64.wrap (((k+1:Nat):Int)-1)=(k:Int):=by rw[aT ab];omega
   have oL:=sR (l:=f.ak) (k:=k) ab
   have kN:(0:Int)<=(k:Int):=ab
   have hB:=Aj (iI f.ak k) (iI f.ak (k+1))
   cases dD:qc (iI f.ak k) (iI f.ak (k+1))
   ·have hr:¬lX f.aL f.ak (k+1):=fun h=>by have h9:=h.2 ab;rw[Nat.add_sub_cancel,dD]at h9;cases h9
    rw[dD]at hB
    rw[bh]at hC hg
    rw[bh]at oL
    rw[bh,bh]at hB
    (repeat(first|((repeat(revert hN;revert N;apply Pn.out));refine wk (tw @a3 (tw @a0 (tw @hk (tw @gx (tw @hg (tw @hd (tw @hw (tw @oL @kN)))))))) ?_;(repeat(refine Pn.mk ?_;intro N hN)))|((try apply Or.inl);refine⟨_,ae.x (hC) (sd (tw @a3 (tw @a0 (tw @hk (tw @gx (tw @hg (tw @hd (tw @hw (tw @oL @kN))))))))),?_⟩;refine hN _ _ ?_;clear hN N)|((try apply Or.inl);refine⟨_,ae.x (hB) (sd (tw @a3 (tw @a0 (tw @hk (tw @gx (tw @hg (tw @hd (tw @hw (tw @oL @kN))))))))),?_⟩;refine hN _ _ ?_;clear hN N)))
    exact aC (b:=false) (.inl rfl) (sd @Nat.zero_add) (om dX hr)
   ·have hr:lX f.aL f.ak (k+1):=⟨hc,fun _=>by rw[Nat.add_sub_cancel];exact dD⟩
    rw[dD]at hB
    rw[bh]at hC hg
    rw[bh]at oL
    rw[bh,bh]at hB
    (repeat(first|((repeat(revert hN;revert N;apply Pn.out));refine wk (tw @a3 (tw @a0 (tw @hk (tw @gx (tw @hg (tw @hd (tw @hw (tw @oL @kN)))))))) ?_;(repeat(refine Pn.mk ?_;intro N hN)))|((try apply Or.inl);refine⟨_,ae.x (hC) (sd (tw @a3 (tw @a0 (tw @hk (tw @gx (tw @hg (tw @hd (tw @hw (tw @oL @kN))))))))),?_⟩;refine hN _ _ ?_;clear hN N)|((try apply Or.inl);refine⟨_,ae.x (hB) (sd (tw @a3 (tw @a0 (tw @hk (tw @gx (tw @hg (tw @hd (tw @hw (tw @oL @kN))))))))),?_⟩;refine hN _ _ ?_;clear hN N)))
    exact bD (sd (tw @a3 @a0)) (hr)
 ·have dX:k=f.ak.length:=ab
  subst dX
  have ud:=wu SC fun i hi=>iO i hi
  (try((repeat(revert hN;revert N;apply Pn.out));refine wk (tw @a3 (tw @a0 (tw @hk @gx))) ?_;(repeat(refine Pn.mk ?_;intro N hN))))
  refine aP (fun n env st=>∃j:Nat,n=(f.aY.length)-j/\j<=(f.aY.length)/\env 4=.int .i64 (j:Int)/\(∀i:Nat,i<j->m4 f.ak.length (qK f.aY i)=true)) (f.aY.length) ⟨0,ab,ab,sl (tw @a3 (tw @a0 (tw @gx @iv))),fun _ h=>absurd h (Nat.not_lt_zero _)⟩ ?_
  rintro n_b env_b st_b ⟨j,rfl,ble,b4,bA0⟩ bfr
  have b0:=bfr 0 (by kernel_rfl)
  simp only[go_sem, ↓reduceIte,Nat.reduceEqDiff,Nat.reduceAdd,Nat.reduceSub,Nat.reduceLeDiff,reduceCtorEq,a3,a0,gx,iv]at b0
  clear bfr
  by_cases hj:(j:Int)<(f.aY.length:Int)
  ·have jr:∀{e:Env},(e 4=.int .i64 (IntKind.i64.wrap ((j:Int)+1)))->(m4 f.ak.length (qK f.aY j)=true)->∃m0,m0<(f.aY.length)-j/\∃j:Nat,m0=(f.aY.length)-j/\j<=(f.aY.length)/\e 4=.int .i64 (j:Int)/\(∀i:Nat,i<j->m4 f.ak.length (qK f.aY i)=true):=fun x1 x2=>⟨_,ab,j+1,rfl,ab,(by rw[x1,ay ab]),(all_succ bA0 x2)⟩
   have gm:j<f.aY.length:=ab
   have hg:=KY gm
   have rG:qK f.aY j∈f.aY:=by
    unfold qK
    rw[List.getD_eq_getElem?_getD,List.getElem?_eq_getElem gm]
    exact List.getElem_mem gm
   have hR:=Cc (qK f.aY j) (by have:=yR _ rG;omega) (f.ak.length:Int)
   have hw:IntKind.i64.wrap ((f.ak.length:Int)-1)=(f.ak.length:Int)-1:=aT ab
   cases hr:m4 (f.ak.length:Int) (qK f.aY j)
   ·rw[hr]at hR
    (repeat(first|((repeat(revert hN;revert N;apply Pn.out));refine wk (tw @b4 (tw @b0 (tw @hj (tw @iv (tw @gx (tw @hg @hw)))))) ?_;(repeat(refine Pn.mk ?_;intro N hN)))|((try apply Or.inl);refine⟨_,ae.x (hR) (sd (tw @b4 (tw @b0 (tw @hj (tw @iv (tw @gx (tw @hg @hw))))))),?_⟩;refine hN _ _ ?_;clear hN N)))
    exact aC (b:=false) (.inl rfl) (sd @Nat.zero_add) (ud.trans (List.all_eq_false.2 ⟨_,rG,by rw[hr];simp⟩)).symm
   ·rw[hr]at hR
    (repeat(first|((repeat(revert hN;revert N;apply Pn.out));refine wk (tw @b4 (tw @b0 (tw @hj (tw @iv (tw @gx (tw @hg @hw)))))) ?_;(repeat(refine Pn.mk ?_;intro N hN)))|((try apply Or.inl);refine⟨_,ae.x (hR) (sd (tw @b4 (tw @b0 (tw @hj (tw @iv (tw @gx (tw @hg @hw))))))),?_⟩;refine hN _ _ ?_;clear hN N)))
    exact jr (sd (tw @b4 @b0)) (hr)
  ·have gm:j=f.aY.length:=ab
   subst gm
   (try((repeat(revert hN;revert N;apply Pn.out));refine wk (tw @b4 (tw @b0 (tw @hj @iv))) ?_;(repeat(refine Pn.mk ?_;intro N hN))))
   exact aC (b:=true) (.inl rfl) (sd @Nat.zero_add) (ud.trans (List.all_eq_true.2 fun x hx=>by
    obtain⟨i,hi,rfl⟩:=List.getElem_of_mem hx
    have h9:=bA0 i hi
    rw[qK,List.getD_eq_getElem?_getD,List.getElem?_eq_getElem hi]at h9
    exact h9)).symm
theorem HN (s:cl) (l:List aq) (f:dF) (hn:fA s.aE) (hg:s.aE.aw.length<=1048576) (ht:s.aE.ah.length<=1048576) (xV:f.aY.length<=1048576) (yR:∀l∈f.aY,l.length<=1048576):ae Tryz.prog 54 [.cJ (az s),.cJ [.sl (l.map ai)],.cJ (bc f)] (.int .i64 (if nw s l&&nH f then 0 else 1)):=by
 refine ae.body dK rfl fun hl n0=>?_
 clear hl
 have h1:=Cg s l hn hg ht
 have h2:=Fj f xV yR
 rw[az]at h1 ⊢
 rw[bc]at h2 ⊢
 cases b1:nw s l
 ·rw[b1]at h1
  (repeat(first|((repeat(revert hN;revert N;apply Pn.out));refine wk @Nat.zero_add ?_;(repeat(refine Pn.mk ?_;intro N hN)))|((try apply Or.inl);refine⟨_,ae.x (h1) (sd @Nat.zero_add),?_⟩;refine hN _ _ ?_;clear hN N)))
  exact aZ (b:=1) (.inl rfl) (sd @Nat.zero_add) rfl
 rw[b1]at h1
 cases b2:nH f
 ·rw[b2]at h2
  (repeat(first|((repeat(revert hN;revert N;apply Pn.out));refine wk @Nat.zero_add ?_;(repeat(refine Pn.mk ?_;intro N hN)))|((try apply Or.inl);refine⟨_,ae.x (h1) (sd @Nat.zero_add),?_⟩;refine hN _ _ ?_;clear hN N)|((try apply Or.inl);refine⟨_,ae.x (h2) (sd @Nat.zero_add),?_⟩;refine hN _ _ ?_;clear hN N)))
  exact aZ (b:=1) (.inl rfl) (sd @Nat.zero_add) rfl
 ·rw[b2]at h2
  (repeat(first|((repeat(revert hN;revert N;apply Pn.out));refine wk @Nat.zero_add ?_;(repeat(refine Pn.mk ?_;intro N hN)))|((try apply Or.inl);refine⟨_,ae.x (h1) (sd @Nat.zero_add),?_⟩;refine hN _ _ ?_;clear hN N)|((try apply Or.inl);refine⟨_,ae.x (h2) (sd @Nat.zero_add),?_⟩;refine hN _ _ ?_;clear hN N)))
  exact aZ (b:=0) (.inl rfl) (sd @Nat.zero_add) rfl
end Go.Proofs.YtihgaadadaekmaaGreatDoor.V

namespace Go.Proofs.YtihgaadadaekmaaGreatDoor
open Go.RowKit
def kX (k:Int):ByteArray:=if k=0 then⟨#[48]⟩else⟨(oJ k.toNat).toArray⟩
theorem zq (w:World) (k:Int) (h0:0<=k) (h1:k<=4611686018427387904):
  Calls Tryz.prog 61 #[.int .i64 k] w fun e w'=>e=.returned (.string (kX k))/\Below w.heap.size w w':=by
 go_enter Tryz.func61,Tryz.ntmps61
 go_wp2_with fail
 go_loopw [4,3] (fun a s wr=>∃(j:Int) (l:ByteArray),a=.int .i64 j/\s=.string l/\0<=j/\j<=4611686018427387904/\Hid (oJ j.toNat++l.data.toList=oJ k.toNat)/\Below w.heap.size w wr) (fun a _ _=>(intOf a).toNat)
 case atStart=>exact⟨k,⟨#[]⟩,rfl,rfl,h0,h1,Lib.hid (by simp),Below.refl _ _⟩
 case round=>
  obtain⟨j,l,rfl,rfl,SE,SF,hd,hb⟩:=hrel
  have fv:l.size<=19:=by
   have h1:=congrArg List.length hd.out
   have h2:=tH 19 k.toNat (by omega)
   rw[List.length_append]at h1
   have:l.data.toList.length=l.size:=by rw[Array.length_toList];rfl
   omega
  by_cases hj:j=0
  ·subst hj
   by_cases hk:k=0
   ·go_wp2_with fail
    go_ret
    exact⟨by simp[kX,hk],hb⟩
   ·have Jf:¬k<0:=by omega
    go_wp2_with fail
    go_ret
    refine⟨?_,hb⟩
    have h1:=hd.out
    rw[show(0:Int).toNat=0 by rfl,oj,List.nil_append]at h1
    have h2:l=kX k:=by
     rw[kX,if_neg hk]
     refine ByteArray.ext (Array.ext' ?_)
     rw[h1]
    rw[h2];rfl
  ·have Sn:∀v:Int,(convert 142 9 (.slice (some ⟨wr.heap.size,0,none⟩) 1 1)).run Tryz.prog (wr.alloc (.cells #[.int .u8 v] 5))=.ok (.string ⟨#[UInt8.ofNat v.toNat]⟩) (wr.alloc (.cells #[.int .u8 v] 5)):=by
    intro v
    rw[run_convert_bytes_string _ _ _ 5 _ _ _ Tryz.underlying142 Tryz.underlying5 Tryz.underlying9,run_bytesToString _ _ _ _ [v] (by simp[loadCells,loadCellsFrom,go_sem])]
    rfl
   have hr:=fv
   go_wp2_with fail
   refine⟨⟨_,_,rfl,rfl,by omega,by omega,Lib.hid ?_,hb.alloc hb.size _⟩,by simp[intOf];omega⟩
   rw[<-hd.out,rz,qd (show j.toNat≠0 by omega),show(j / 10).toNat=j.toNat / 10 by omega,show(48+j % 10).toNat=48+j.toNat % 10 by omega]
   simp
end Go.Proofs.YtihgaadadaekmaaGreatDoor
namespace Go.Proofs.YtihgaadadaekmaaGreatDoor.V
open Go.RowKit
theorem ED (k:Int) (h0:0<=k) (h1:k<=4611686018427387904):ae Tryz.prog 61 [.int .i64 k] (.str (kX k)):=
 iq (vs0:= #[.int .i64 k]) (u0:=.string (kX k)) (fun _ _ _ _=>DV) (fun w D ι=>.eK _ _ (.str _)) (fun g=>jz g 5 _) fun w=>zq w k h0 h1
end Go.Proofs.YtihgaadadaekmaaGreatDoor.V
