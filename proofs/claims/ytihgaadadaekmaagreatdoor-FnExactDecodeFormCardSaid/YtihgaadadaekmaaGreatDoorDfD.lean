/- Groups that bonds connect: plain facts. -/
import Derived.Test.YtihgaadadaekmaaGreatDoorDfC
import Derived.Test.YtihgaadadaekmaaGreatDoorDfB
set_option linter.unusedVariables false
set_option linter.unusedSimpArgs false
set_option maxRecDepth 100000
set_option maxHeartbeats 16000000
namespace Go.Proofs.YtihgaadadaekmaaGreatDoor.V
def eC (L:Nat->Nat) (b:PB):Nat->Nat:=fun k=>if L k=max (L b.a) (L b.b)then min (L b.a) (L b.b)else L k
def dS (bs:List PB):Nat->Nat:=bs.foldl eC id
theorem ud (bs:List PB) (b:PB):dS (bs++[b])=eC (dS bs) b:=by simp[dS]
structure jk (L:Nat->Nat):Prop where
 le:∀k,L k<=k
 idem:∀k,L (L k)=L k
theorem jk.step {L:Nat->Nat} (h:jk L) (b:PB):jk (eC L b):=by
 have ha:=h.idem b.a
 have hb:=h.idem b.b
 refine⟨fun k=>?_,fun k=>?_⟩
 ·have:=h.le k
  unfold eC
  split<;>omega
 ·have hk:=h.idem k
  have hm:L (min (L b.a) (L b.b))=min (L b.a) (L b.b):=by
   rcases Nat.le_total (L b.a) (L b.b)with h1|h1
   ·rw[Nat.min_eq_left h1,ha]
   ·rw[Nat.min_eq_right h1,hb]
  unfold eC
  by_cases h1:L k=max (L b.a) (L b.b)
  ·rw[if_pos h1,hm];split<;>rfl
  ·rw[if_neg h1,hk,if_neg h1]
theorem ue:∀(bs:List PB) (L:Nat->Nat),jk L->jk (bs.foldl eC L)
 |[],_,h=>h
 |b::bs,L,h=>ue bs _ (h.step b)
theorem sf (bs:List PB):jk (dS bs):=ue bs id ⟨fun _=>Nat.le_refl _,fun _=>rfl⟩
def leads (n:Nat) (L:Nat->Nat):List Nat:=(List.range n).filter fun i=>L i==i
def members (n:Nat) (L:Nat->Nat) (i:Nat):List Nat:=(List.range n).filter fun k=>L k==i
def fa (n:Nat) (L:Nat->Nat):List (List Nat):=(leads n L).map (members n L)
def bx (L:Nat->Nat) (k:Nat):Nat:=(leads (L k) L).length
theorem gr (n:Nat) (L:Nat->Nat):leads (n+1) L=leads n L++if L n=n then[n]else[]:=by
 unfold leads
 rw[List.range_succ,List.filter_append]
 congr 1
 by_cases h:L n=n<;>simp[h]
theorem iW (n:Nat) (L:Nat->Nat) (i:Nat):members (n+1) L i=members n L i++if L n=i then[n]else[]:=by
 unfold members
 rw[List.range_succ,List.filter_append]
 congr 1
 by_cases h:L n=i<;>simp[h]
theorem mc {L:Nat->Nat} (h:jk L) {n i:Nat} (hn:n<=i):members n L i=[]:=by
 unfold members
 rw[List.filter_eq_nil_iff]
 intro k hk
 have:=h.le k
 have:=List.mem_range.1 hk
 simp;omega
theorem sg (n:Nat) (L:Nat->Nat):(leads n L).Nodup:=List.nodup_range.filter _
theorem wD {n:Nat} {L:Nat->Nat} {i:Nat}:i∈leads n L↔i<n/\L i=i:=by simp[leads]
theorem k6 {n:Nat} {L:Nat->Nat} {i k:Nat}:k∈members n L i↔k<n/\L k=i:=by simp[members]
theorem E6 {L:Nat->Nat} {m n:Nat} (h:m<=n):∃r,leads n L=leads m L++r:=by
 obtain⟨d,rfl⟩:=Nat.le.dest h
 clear h
 induction d with
 |zero=>exact⟨[],by simp⟩
 |succ d ih=>
  obtain⟨r,hr⟩:=ih
  exact⟨r++if L (m+d)=m+d then[m+d]else[],by rw[<-Nat.add_assoc,gr,hr,List.append_assoc]⟩
theorem oq {L:Nat->Nat} (h:jk L) {n k:Nat} (hk:k<n):(leads n L)[bx L k]? =some (L k):=by
 have h1:=h.le k
 obtain⟨r,hr⟩:=E6 (L:=L) (show L k+1<=n by omega)
 rw[hr,gr,if_pos (h.idem k),List.append_assoc]
 unfold bx
 rw[List.getElem?_append_right (Nat.le_refl _),Nat.sub_self];rfl
theorem jI {L:Nat->Nat} (h:jk L) {n k:Nat} (hk:k<n):bx L k<(leads n L).length:=(List.getElem?_eq_some_iff.1 (oq h hk)).1
theorem rG {L:Nat->Nat} (h:jk L) {n k i:Nat} (hk:k<n) (hi:i<(leads n L).length):k∈members n L (leads n L)[i]↔bx L k=i:=by
 rw[k6]
 have h1:=oq h hk
 rw[List.getElem?_eq_getElem (jI h hk)]at h1
 injection h1 with h1
 constructor
 ·rintro⟨_,h2⟩
  rw[<-h1]at h2
  exact(List.getElem_inj (sg n L)).1 h2
 ·rintro rfl
  exact⟨hk,h1.symm⟩
def di (L:Nat->Nat) (bs:List PB):List PB:=bs.filterMap fun b=>if bx L b.a=bx L b.b then none else some ⟨bx L b.a,bx L b.b,b.s⟩
def eP (L:Nat->Nat) (bs:List PB):List PB:=bs.filterMap fun b=>if bx L b.a=bx L b.b then none else some ⟨min (bx L b.a) (bx L b.b),max (bx L b.a) (bx L b.b),b.s⟩
theorem yd (L:Nat->Nat) (bs:List PB) (b:PB):di L (bs++[b])=di L bs++if bx L b.a=bx L b.b then[]else[⟨bx L b.a,bx L b.b,b.s⟩]:=by
 unfold di
 rw[List.filterMap_append]
 congr 1
 by_cases h:bx L b.a=bx L b.b<;>simp[h]
theorem ye (L:Nat->Nat) (bs:List PB) (b:PB):eP L (bs++[b])=eP L bs++if bx L b.a=bx L b.b then[]else[⟨min (bx L b.a) (bx L b.b),max (bx L b.a) (bx L b.b),b.s⟩]:=by
 unfold eP
 rw[List.filterMap_append]
 congr 1
 by_cases h:bx L b.a=bx L b.b<;>simp[h]
theorem re (S:Nat->Bool) (b:PB) (bs:List PB):iI S (b::bs)=(if S b.a=S b.b then 0 else b.s)+iI S bs:=by simp[iI]
theorem vR (S:Nat->Bool) (L:Nat->Nat):∀bs:List PB,iI S (eP L bs)=iI S (di L bs)
 |[]=>rfl
 |b::bs=>by
  have ih:=vR S L bs
  unfold eP di at ih ⊢
  rw[List.filterMap_cons,List.filterMap_cons]
  by_cases h:bx L b.a=bx L b.b
  ·simp only[h,if_true];exact ih
  ·simp only[h,if_false]
   rw[re,re,ih]
   congr 1
   simp only
   rcases Nat.le_total (bx L b.a) (bx L b.b)with h1|h1
   ·rw[Nat.min_eq_left h1,Nat.max_eq_right h1]
   ·rw[Nat.min_eq_right h1,Nat.max_eq_left h1]
    cases S (bx L b.a)<;>cases S (bx L b.b)<;>rfl
theorem Ct {L:Nat->Nat} (h:jk L) {n:Nat} {bs:List PB} (hb:∀b∈bs,b.a<n/\b.b<n):∀b∈di L bs,b.a<(leads n L).length/\b.b<(leads n L).length/\b.a≠b.b/\∃c∈bs,b.s=c.s:=by
 intro b hm
 unfold di at hm
 obtain⟨c,hc,he⟩:=List.mem_filterMap.1 hm
 split at he
 ·cases he
 ·rename_i gW
  simp only[Option.some.injEq]at he
  subst he
  exact⟨jI h (hb c hc).1,jI h (hb c hc).2,gW,c,hc,rfl⟩
theorem Cu {L:Nat->Nat} (h:jk L) {n:Nat} {bs:List PB} (hb:∀b∈bs,b.a<n/\b.b<n):∀b∈eP L bs,b.a<(leads n L).length/\b.b<(leads n L).length/\b.a≠b.b/\∃c∈bs,b.s=c.s:=by
 intro b hm
 unfold eP at hm
 obtain⟨c,hc,he⟩:=List.mem_filterMap.1 hm
 split at he
 ·cases he
 ·rename_i gW
  simp only[Option.some.injEq]at he
  subst he
  have h1:=jI h (hb c hc).1
  have h2:=jI h (hb c hc).2
  refine⟨by simp only;omega,by simp only;omega,by simp only;omega,c,hc,rfl⟩
theorem mj (L:Nat->Nat) (bs:List PB):(di L bs).length<=bs.length/\(eP L bs).length<=bs.length:=⟨List.length_filterMap_le ..,List.length_filterMap_le ..⟩
theorem jr (n:Nat) (L:Nat->Nat):(leads n L).length<=n:=by
 have:=List.length_filter_le (fun i=>L i==i) (List.range n)
 simpa[leads]using this
def aJ (t:Int) (bs:List PB):List PB:=bs.filter fun b=>decide (t<=b.s)
def n8 (n:Nat) (bs:List PB) (t:Int):Prop:=
 (leads n (dS (aJ t bs))).length<=64/\j7 (leads n (dS (aJ t bs))).length (di (dS (aJ t bs)) bs) t
theorem BL {n:Nat} {L:Nat->Nat} {bs:List PB} {t:Int}:j7 n (eP L bs) t↔j7 n (di L bs) t:=by
 unfold j7
 constructor<;>intro h S h0 hy<;>have:=h S h0 hy<;>rw[vR]at *<;>exact this
end Go.Proofs.YtihgaadadaekmaaGreatDoor.V

namespace Go.Proofs.YtihgaadadaekmaaGreatDoor.V
open Go.RowKit
attribute [local irreducible] ea wpOps gR Call
attribute [local go_sem] aM fP eL gh ga cE upd cu K.av cL AV.cells AV.cell rowOf rowsOf part ld rowAt bY ck dI ef ig bL da ez gn e7 du ek cY cX dV dW bR bm cQ bQ cT cR ei eo ej cP bW cZ eh bP aQ cV cC ib bw cH bS aY dF bu dK AV.undef bF bH dY ee dU eb cF ew eD cw eu er cU cW List.getD_cons_zero List.getD_cons_succ List.getD_nil List.all_cons List.all_nil Bool.and_true Bool.true_and Bool.and_self Bool.not_true Bool.not_false Option.map_some Option.map_none Option.bind_some Option.bind_none List.length_cons List.length_nil List.take_succ_cons List.take_zero List.take_nil List.drop_succ_cons List.drop_zero List.drop_nil List.head?_cons List.map_cons List.map_nil List.getElem?_cons_zero List.getElem?_cons_succ List.cons_append List.nil_append List.append_nil List.length_map List.set_cons_zero List.set_cons_succ Nat.reduceMul eq_self Int.toNat_natCast Int.natCast_nonneg and_self true_and and_true decide_true decide_false Bool.false_eq_true Nat.zero_add Nat.add_zero List.contains_cons List.contains_nil Bool.or_false Bool.false_or beq_self_eq_true Nat.reduceBEq ne_eq not_true_eq_false not_false_eq_true Id.mk.injEq false_and and_false Nat.reduceLT Int.reduceLE Int.reduceLT Int.reduceToNat Int.reduceNeg Int.reduceAdd Nat.le_refl List.length_append beq_true beq_false Bool.not_eq_eq_eq_not or_false false_or dE ad aj aI bE cj aW bf aV bo cN bG
def aA (b:PB):List AV:=[.int .i64 b.a,.int .i64 b.b,.int .i64 b.s]
theorem LG:∀b:PB,(aA b).length=3/\(aA b).all AV.cell=true:=fun _=>⟨rfl,rfl⟩
theorem xt (g:Rows) (n:Nat) (b:PB):cm g (n+1) (aA b)=some (aA b):=by simp[aA,ad,aj,aI]
theorem sO (g:Rows) (n:Nat) (b:PB):dH g (n+1) (aA b)=some (aA b):=by simp[aA,br,bV,eA]
theorem GL:N4 aA (fun c=>.agg (aA c)) 3 true:=⟨fun _=>rfl,fun _=>rfl,fun x g=>by simp only[aA,ad,aj,bf,aI,Option.map_some]⟩
def l5 (s:aw) (l:List ao) (i:Nat) (d:Int):List PB:=
 if 0<=fW l (eK (bC l i).cI d)/\0<iR s (bC l i).bJ d (bC l (fW l (eK (bC l i).cI d)).toNat).bJ then
  [⟨i,(fW l (eK (bC l i).cI d)).toNat,iR s (bC l i).bJ d (bC l (fW l (eK (bC l i).cI d)).toNat).bJ⟩]else[]
def fE (s:aw) (l:List ao) (i m:Nat):List PB:=(List.range m).flatMap fun j:Nat=>l5 s l i (1-(j:Int))
def gp (s:aw) (l:List ao) (n:Nat):List PB:=(List.range n).flatMap fun i=>fE s l i 2
def cv (s:aw) (l:List ao):List PB:=gp s l l.length
theorem oN (s:aw) (l:List ao) (i m:Nat):fE s l i (m+1)=fE s l i m++l5 s l i (1-(m:Int)):=by simp[fE,List.range_succ]
theorem pU (s:aw) (l:List ao) (n:Nat):gp s l (n+1)=gp s l n++fE s l n 2:=by simp[gp,List.range_succ]
theorem A5 (s:aw) (l:List ao) (i:Nat) (d:Int):(l5 s l i d).length<=1:=by unfold l5;split<;>simp
theorem pT (s:aw) (l:List ao) (i m:Nat):(fE s l i m).length<=m:=by
 induction m with
 |zero=>simp[fE]
 |succ m ih=>rw[oN,List.length_append];have:=A5 s l i (1-(m:Int));omega
theorem rV (s:aw) (l:List ao) (n:Nat):(gp s l n).length<=2*n:=by
 induction n with
 |zero=>simp[gp]
 |succ n ih=>rw[pU,List.length_append];have:=pT s l n 2;omega
def sB:Id->Prop:=fun o=>o.site=127001000∨o.site=127012006
theorem BY (s:aw) (l:List ao) (hS:iE s) (hA:qU s l):ae Tryz.prog 127 [.cJ (aa s),.cJ [.sl (l.map ai)]] (.sl ((cv s l).map aA)):=by
 refine ae.body dM rfl fun hl n0=>?_
 clear hl
 have hF:=hA.1
 have PF:=hF.FW
 (try((repeat(revert hN;revert N;apply Pn.out));refine wk @Nat.zero_add ?_;(repeat(refine Pn.mk ?_;intro N hN))))
 refine aP (fun n env st=>∃k:Nat,n=(l.length)-k/\k<=(l.length)/\env 6=.int .i64 (k:Int)/\(lX aA 3 (env 5) st.get sB (gp s l k))) (l.length) ⟨0,ab,ab,sl @Nat.zero_add,⟨⟨127001000,n0+1⟩,.inl rfl,by simp only[go_sem, ↓reduceIte,Nat.reduceEqDiff,Nat.reduceAdd,Nat.reduceSub,Nat.reduceLeDiff,reduceCtorEq];rfl,by simp only[go_sem, ↓reduceIte,Nat.reduceEqDiff,Nat.reduceAdd,Nat.reduceSub,Nat.reduceLeDiff,reduceCtorEq];rfl⟩⟩ ?_
 rintro n_a env_a st_a ⟨k,rfl,ale,a6,jW⟩ dm
 have a0:=dm 0 (by kernel_rfl);have a1:=dm 1 (by kernel_rfl)
 simp only[go_sem, ↓reduceIte,Nat.reduceEqDiff,Nat.reduceAdd,Nat.reduceSub,Nat.reduceLeDiff,reduceCtorEq]at a0 a1
 clear dm
 by_cases hk:(k:Int)<(l.length:Int)
 ·have bD:∀{e:Env} {gg:Rows},(e 6=.int .i64 (IntKind.i64.wrap ((k:Int)+1)))->(lX aA 3 (e 5) gg sB (gp s l (k+1)))->∃m0,m0<(l.length)-k/\∃k:Nat,m0=(l.length)-k/\k<=(l.length)/\e 6=.int .i64 (k:Int)/\(lX aA 3 (e 5) gg sB (gp s l k)):=fun x1 x2=>⟨_,ab,k+1,rfl,ab,(by rw[x1,ay ab]),x2⟩
  have dX:k<l.length:=ab
  have eB:=gH dX
  have hul:=rV s l k
  (try((repeat(revert hN;revert N;apply Pn.out));refine wk (tw @a6 (tw @a0 (tw @a1 @hk))) ?_;(repeat(refine Pn.mk ?_;intro N hN))))
  refine aP (fun n env st=>∃m:Nat,n=(2)-m/\m<=(2)/\env 7=(.int .i64 (1-(m:Int)))/\(lX aA 3 (env 5) st.get sB (gp s l k++fE s l k m))) (2) ⟨0,ab,ab,sl (tw @a6 (tw @a0 @a1)),by(simp only[go_sem, ↓reduceIte,Nat.reduceEqDiff,Nat.reduceAdd,Nat.reduceSub,Nat.reduceLeDiff,reduceCtorEq];exact jW.cast (by simp[fE]))⟩ ?_
  rintro n_b env_b st_b ⟨m,rfl,ble,b7,bI0⟩ bfr
  have b0:=bfr 0 (by kernel_rfl);have b1:=bfr 1 (by kernel_rfl);have b6:=bfr 6 (by kernel_rfl)
  simp only[go_sem, ↓reduceIte,Nat.reduceEqDiff,Nat.reduceAdd,Nat.reduceSub,Nat.reduceLeDiff,reduceCtorEq,a6,a0,a1]at b0 b1 b6
  clear bfr
  have QZ:=pT s l k m
  have kZ:=oN s l k m
  by_cases hm:(m:Int)<2
  ·have jo:∀{e:Env} {gg:Rows},(e 7=(.int .i64 (1-((m+1):Int))))->(lX aA 3 (e 5) gg sB (gp s l k++fE s l k (m+1)))->∃m0,m0<(2)-m/\∃m:Nat,m0=(2)-m/\m<=(2)/\e 7=(.int .i64 (1-(m:Int)))/\(lX aA 3 (e 5) gg sB (gp s l k++fE s l k m)):=fun x1 x2=>⟨_,ab,m+1,rfl,ab,x1,x2⟩
   have jx:(0:Int)<=1-(m:Int):=ab
   have hd:fI (1-(m:Int)) 0 3=true:=nI ab
   have hw:IntKind.i64.wrap (1-(m:Int)-1)=1-((m:Int)+1):=by rw[aT ab];omega
   have JQ:=vz l hF k (1-(m:Int)) dX hd
   unfold l5 at kZ
   have hT:=hA.2 _ (qu dX)
   generalize EE:fW l (eK (bC l k).cI (1-(m:Int)))=ix at *
   by_cases hi:ix<0
   ·rw[if_neg ab,List.append_nil]at kZ
    (repeat(first|((repeat(revert hN;revert N;apply Pn.out));refine wk (tw @b7 (tw @b0 (tw @b1 (tw @b6 (tw @jx (tw @hw @hi)))))) ?_;(repeat(refine Pn.mk ?_;intro N hN)))|((try apply Or.inl);refine⟨_,ae.x (JQ) (sd (tw @b7 (tw @b0 (tw @b1 (tw @b6 (tw @jx (tw @hw @hi))))))),?_⟩;refine hN _ _ ?_;clear hN N)))
    exact jo (sd (tw @b7 (tw @b0 (tw @b1 (tw @b6 @hw))))) (by(simp only[go_sem, ↓reduceIte,Nat.reduceEqDiff,Nat.reduceAdd,Nat.reduceSub,Nat.reduceLeDiff,reduceCtorEq];exact bI0.cast (by rw[kZ])))
   ·have F1:0<=ix:=ab
    have MG:=sV (l:=l) (p:=eK (bC l k).cI (1-(m:Int))) ab
    rw[EE]at MG
    have oi:=gH MG.1
    have zH:=EU s hS (bC l k).bJ (1-(m:Int)) (bC l ix.toNat).bJ hT (hA.2 _ (qu MG.1)) hd
    generalize QW:iR s (bC l k).bJ (1-(m:Int)) (bC l ix.toNat).bJ=bv at *
    by_cases hb:0<bv
    ·rw[if_pos ⟨F1,hb⟩]at kZ
     (repeat(first|((repeat(revert hN;revert N;apply Pn.out));refine wa (tw @b7 (tw @b0 (tw @b1 (tw @b6 (tw @jx (tw @hw (tw @hi (tw @F1 (tw @eB (tw @oi (tw @hb @ai.eq_1))))))))))) ?_;(repeat(refine Pn.mk ?_;intro N hN)))|((try apply Or.inl);refine⟨_,ae.x (JQ) (sd (tw @b7 (tw @b0 (tw @b1 (tw @b6 (tw @jx (tw @hw (tw @hi (tw @F1 (tw @eB (tw @oi (tw @hb @ai.eq_1)))))))))))),?_⟩;refine hN _ _ ?_;clear hN N)|((try apply Or.inl);refine⟨_,ae.x (zH) (sd (tw @b7 (tw @b0 (tw @b1 (tw @b6 (tw @jx (tw @hw (tw @hi (tw @F1 (tw @eB (tw @oi (tw @hb @ai.eq_1)))))))))))),?_⟩;refine hN _ _ ?_;clear hN N)))
     refine NJ (enc:=aA) (S:=sB) (L:=gp s l k++fE s l k m) (xv:=env_b 5) [⟨k,ix.toNat,bv⟩] rfl rfl (sd @Nat.zero_add) (bI0.frame fun o ho=>by rcases ho with ho|ho<;>simp only[go_sem, ↓reduceIte,Nat.reduceEqDiff,Nat.reduceAdd,Nat.reduceSub,Nat.reduceLeDiff,reduceCtorEq,yf ho]) (sd (tw @aA.eq_1 (Int.toNat_of_nonneg F1))) LG (.inr rfl) (by simp only[dK,List.length_append,List.length_cons,List.length_nil];omega) fun v g' hO lr=>?_
     rw[List.append_assoc,<-kZ]at hO
     clear lr
     (try((repeat(revert hN;revert N;apply Pn.out));refine wk (tw @b7 (tw @b0 (tw @b1 (tw @b6 @hw)))) ?_;(repeat(refine Pn.mk ?_;intro N hN))))
     exact jo (sd (tw @b7 (tw @b0 (tw @b1 (tw @b6 @hw))))) (by(simp only[go_sem, ↓reduceIte,Nat.reduceEqDiff,Nat.reduceAdd,Nat.reduceSub,Nat.reduceLeDiff,reduceCtorEq];exact hO))
    ·rw[if_neg fun h=>hb h.2,List.append_nil]at kZ
     (repeat(first|((repeat(revert hN;revert N;apply Pn.out));refine wk (tw @b7 (tw @b0 (tw @b1 (tw @b6 (tw @jx (tw @hw (tw @hi (tw @F1 (tw @eB (tw @oi (tw @hb @ai.eq_1))))))))))) ?_;(repeat(refine Pn.mk ?_;intro N hN)))|((try apply Or.inl);refine⟨_,ae.x (JQ) (sd (tw @b7 (tw @b0 (tw @b1 (tw @b6 (tw @jx (tw @hw (tw @hi (tw @F1 (tw @eB (tw @oi (tw @hb @ai.eq_1)))))))))))),?_⟩;refine hN _ _ ?_;clear hN N)|((try apply Or.inl);refine⟨_,ae.x (zH) (sd (tw @b7 (tw @b0 (tw @b1 (tw @b6 (tw @jx (tw @hw (tw @hi (tw @F1 (tw @eB (tw @oi (tw @hb @ai.eq_1)))))))))))),?_⟩;refine hN _ _ ?_;clear hN N)))
     exact jo (sd (tw @b7 (tw @b0 (tw @b1 (tw @b6 @hw))))) (by(simp only[go_sem, ↓reduceIte,Nat.reduceEqDiff,Nat.reduceAdd,Nat.reduceSub,Nat.reduceLeDiff,reduceCtorEq];exact bI0.cast (by rw[kZ])))
  ·have I6:m=2:=ab
   subst I6
   have dD:¬(0:Int)<=1-((2:Nat):Int):=ab
   (try((repeat(revert hN;revert N;apply Pn.out));refine wk (tw @b7 (tw @b0 (tw @b1 (tw @b6 @dD)))) ?_;(repeat(refine Pn.mk ?_;intro N hN))))
   exact bD (sd (tw @a6 (tw @a0 (tw @a1 (tw @b7 (tw @b0 (tw @b1 @b6))))))) (by(simp only[go_sem, ↓reduceIte,Nat.reduceEqDiff,Nat.reduceAdd,Nat.reduceSub,Nat.reduceLeDiff,reduceCtorEq];exact bI0.cast (by rw[pU])))
 ·have lu:k=l.length:=ab
  (try((repeat(revert hN;revert N;apply Pn.out));refine wk (tw @a6 (tw @a0 (tw @a1 @hk))) ?_;(repeat(refine Pn.mk ?_;intro N hN))))
  exact uz (.inl rfl) (by simp only[go_sem, ↓reduceIte,Nat.reduceEqDiff,Nat.reduceAdd,Nat.reduceSub,Nat.reduceLeDiff,reduceCtorEq];rfl) (by rw[lu]at jW;exact jW.fC fun b=>sO _ _ b)
theorem zY (a b:Nat):ae Tryz.prog 146 [.int .i64 a,.int .i64 b] (.int .i64 (min a b:Nat)):=by
 refine ae.body dM rfl fun hl n0=>?_
 clear hl
 by_cases h:(a:Int)<(b:Int)
 ·(try((repeat(revert hN;revert N;apply Pn.out));refine wk @h ?_;(repeat(refine Pn.mk ?_;intro N hN))))
  exact aZ (b:=(a:Int)) (.inl rfl) (sd @Nat.zero_add) ab
 ·(try((repeat(revert hN;revert N;apply Pn.out));refine wk @h ?_;(repeat(refine Pn.mk ?_;intro N hN))))
  exact aZ (b:=(b:Int)) (.inl rfl) (sd @Nat.zero_add) ab
theorem zX (a b:Nat):ae Tryz.prog 147 [.int .i64 a,.int .i64 b] (.int .i64 (max a b:Nat)):=by
 refine ae.body dM rfl fun hl n0=>?_
 clear hl
 by_cases h:(b:Int)<(a:Int)
 ·(try((repeat(revert hN;revert N;apply Pn.out));refine wk @h ?_;(repeat(refine Pn.mk ?_;intro N hN))))
  exact aZ (b:=(a:Int)) (.inl rfl) (sd @Nat.zero_add) ab
 ·(try((repeat(revert hN;revert N;apply Pn.out));refine wk @h ?_;(repeat(refine Pn.mk ?_;intro N hN))))
  exact aZ (b:=(b:Int)) (.inl rfl) (sd @Nat.zero_add) ab
def dv (f:Nat->Nat) (n:Nat):List (List AV):=(List.range n).map fun i=>eN (f i)
theorem fJ (f:Nat->Nat) (n:Nat):(dv f n).length=n:=by simp[dv]
theorem eZ {f:Nat->Nat} {n i:Nat} (h:i<n):(dv f n)[i]? =some (eN (f i)):=by simp[dv,h]
theorem gD {f g:Nat->Nat} {n:Nat} (h:∀i,i<n->f i=g i):dv f n=dv g n:=List.map_congr_left fun i hi=>by rw[h i (List.mem_range.1 hi)]
theorem oA {f g:Nat->Nat} {n k v:Nat} (hk:k<n) (hv:g k=v) (h:∀i,i<n->i≠k->g i=f i):(dv f n).set k (eN v)=dv g n:=by
 refine List.ext_getElem? fun i=>?_
 rw[List.getElem?_set]
 by_cases hi:k=i
 ·subst hi
  rw[if_pos rfl,fJ,if_pos hk,eZ hk,hv]
 ·rw[if_neg hi]
  by_cases fN:i<n
  ·rw[eZ fN,eZ fN,h i fN (fun h=>hi h.symm)]
  ·rw[List.getElem?_eq_none (by rw[fJ];omega),List.getElem?_eq_none (by rw[fJ];omega)]
theorem zZ (cnt:Nat) (hn:cnt<=1048576) (bs:List PB) (hb:∀b∈bs,b.a<cnt/\b.b<cnt) (pI:bs.length<=1048576):ae Tryz.prog 145 [.int .i64 cnt,.sl (bs.map aA)] (.sl ((fa cnt (dS bs)).map yD)):=by
 refine ae.body dM rfl fun hl n0=>?_
 clear hl
 (try((repeat(revert hN;revert N;apply Pn.out));refine wk @Nat.zero_add ?_;(repeat(refine Pn.mk ?_;intro N hN))))
 refine aP (fun n env st=>∃k:Nat,n=(cnt)-k/\k<=(cnt)/\env 6=.int .i64 (k:Int)/\(∃o:Id,env 5=.own o 0 k/\st.get o=some ⟨true,1,dv id k⟩/\o.cq<st.next)) (cnt) ⟨0,ab,ab,sl @Nat.zero_add,⟨⟨145001000,n0+1⟩,sd @Nat.zero_add,by simp only[go_sem, ↓reduceIte,Nat.reduceEqDiff,Nat.reduceAdd,Nat.reduceSub,Nat.reduceLeDiff,reduceCtorEq];rfl,bt⟩⟩ ?_
 rintro n_a env_a st_a ⟨k,rfl,ale,a6,jW⟩ dm
 have a0:=dm 0 (by kernel_rfl);have a1:=dm 1 (by kernel_rfl)
 simp only[go_sem, ↓reduceIte,Nat.reduceEqDiff,Nat.reduceAdd,Nat.reduceSub,Nat.reduceLeDiff,reduceCtorEq]at a0 a1
 clear dm
 obtain⟨o,a5,ag,sE⟩:=jW
 have tl:=fJ id k
 have kO:=eO sE
 by_cases hk:(k:Int)<(cnt:Int)
 ·have bD:∀{e:Env} {gg:Rows} {nx:Nat},(e 6=.int .i64 (IntKind.i64.wrap ((k:Int)+1)))->(∃o:Id,e 5=.own o 0 (k+1)/\gg o=some ⟨true,1,dv id (k+1)⟩/\o.cq<nx)->∃m0,m0<(cnt)-k/\∃k:Nat,m0=(cnt)-k/\k<=(cnt)/\e 6=.int .i64 (k:Int)/\(∃o:Id,e 5=.own o 0 k/\gg o=some ⟨true,1,dv id k⟩/\o.cq<nx):=fun x1 x2=>⟨_,ab,k+1,rfl,ab,(by rw[x1,ay ab]),x2⟩
  have dX:k<cnt:=ab
  have e1:k+1<=16777216:=ab
  have rr:dv id k++[[.int .i64 (k:Int)]]=dv id (k+1):=by simp[dv,List.range_succ,eN]
  (try((repeat(revert hN;revert N;apply Pn.out));refine wk (tw @a6 (tw @a0 (tw @a1 (tw @a5 (tw @ag (tw @kO (tw @hk (tw @tl (tw @e1 @rr))))))))) ?_;(repeat(refine Pn.mk ?_;intro N hN))))
  exact bD (sd (tw @a6 (tw @a0 @a1))) (⟨⟨145005003,st_a.next+1⟩,sd @Nat.zero_add,sd @rr,bt⟩)
 have lu:k=cnt:=ab
 subst lu
 have SC:st_a.get o=some ⟨true,1,dv (dS (bs.take 0)) k⟩:=ag
 clear ag
 (try((repeat(revert hN;revert N;apply Pn.out));refine wk (tw @a6 (tw @a0 (tw @a1 @hk))) ?_;(repeat(refine Pn.mk ?_;intro N hN))))
 refine aP (fun n env st=>∃j:Nat,n=(bs.length)-j/\j<=(bs.length)/\env 7=.int .i64 (j:Int)/\st.get o=some ⟨true,1,dv (dS (bs.take j)) k⟩/\(o.cq<st.next)) (bs.length) ⟨0,ab,ab,sl (tw @a6 (tw @a0 (tw @a1 (tw @a5 @SC)))),sl (tw @a6 (tw @a0 (tw @a1 (tw @a5 @SC)))),bt⟩ ?_
 rintro n_b env_b st_b ⟨j,rfl,ble,b7,bg0,bI0⟩ bfr
 have b0:=bfr 0 (by kernel_rfl);have b1:=bfr 1 (by kernel_rfl);have b5:=bfr 5 (by kernel_rfl)
 simp only[go_sem, ↓reduceIte,Nat.reduceEqDiff,Nat.reduceAdd,Nat.reduceSub,Nat.reduceLeDiff,reduceCtorEq,a6,a0,a1,a5,SC]at b0 b1 b5
 clear bfr
 by_cases hj:(j:Int)<(bs.length:Int)
 ·have jo:∀{e:Env} {gg:Rows} {nx:Nat},(e 7=.int .i64 (IntKind.i64.wrap ((j:Int)+1)))->(gg o=some ⟨true,1,dv (dS (bs.take (j+1))) k⟩)->(o.cq<nx)->∃m0,m0<(bs.length)-j/\∃j:Nat,m0=(bs.length)-j/\j<=(bs.length)/\e 7=.int .i64 (j:Int)/\gg o=some ⟨true,1,dv (dS (bs.take j)) k⟩/\(o.cq<nx):=fun x1 x2 x3=>⟨_,ab,j+1,rfl,ab,(by rw[x1,ay ab]),x2,x3⟩
  have gj:j<bs.length:=ab
  have FZ:(bs.map aA)[j]? =some (aA bs[j]):=by simp[gj]
  have Ld:=hb _ (List.getElem_mem gj)
  have om:bs.take (j+1)=bs.take j++[bs[j]]:=List.take_succ_eq_append_getElem gj
  have kZ:dS (bs.take (j+1))=eC (dS (bs.take j)) bs[j]:=by rw[om,ud]
  generalize dS (bs.take j)=L at *
  generalize bs[j]=b at *
  have hA:=eZ (f:=L) Ld.1
  have hB:=eZ (f:=L) Ld.2
  have QR:=zY (L b.a) (L b.b)
  have QS:=zX (L b.a) (L b.b)
  have tl:=fJ L k
  have gi:(b.a:Int)<(k:Int):=ab
  have fB:(b.b:Int)<(k:Int):=ab
  (try((repeat(revert hN;revert N;apply Pn.out));refine wk (tw @b7 (tw @bg0 (tw @b0 (tw @b1 (tw @b5 (tw @hj (tw @FZ (tw @aA.eq_1 (tw @hA (tw @hB (tw @gi (tw @fB (tw @tl @eN.eq_1))))))))))))) ?_;(repeat(refine Pn.mk ?_;intro N hN))))
  refine aP (fun n env st=>∃i:Nat,n=(k)-i/\i<=(k)/\env 10=.int .i64 (i:Int)/\st.get o=some ⟨true,1,dv (fun x=>if x<i then eC L b x else L x) k⟩/\(o.cq<st.next)) (k) ⟨0,ab,ab,sl (tw @b7 (tw @bg0 (tw @b0 (tw @b1 (tw @b5 @Nat.not_lt_zero))))),sl (tw @b7 (tw @bg0 (tw @b0 (tw @b1 (tw @b5 @Nat.not_lt_zero))))),bt⟩ ?_
  rintro n_c env_c st_c ⟨i,rfl,cle,jf,cg0,cI0⟩ cfr
  have c0:=cfr 0 (by kernel_rfl);have c1:=cfr 1 (by kernel_rfl);have c5:=cfr 5 (by kernel_rfl);have c7:=cfr 7 (by kernel_rfl);have c8:=cfr 8 (by kernel_rfl);have c9:=cfr 9 (by kernel_rfl)
  simp only[go_sem, ↓reduceIte,Nat.reduceEqDiff,Nat.reduceAdd,Nat.reduceSub,Nat.reduceLeDiff,reduceCtorEq,b7,bg0,b0,b1,b5,Nat.not_lt_zero]at c0 c1 c5 c7 c8 c9
  clear cfr
  have hC:=eZ (f:=fun x=>if x<i then eC L b x else L x) (n:=k) (i:=i)
  have tc:=fJ (fun x=>if x<i then eC L b x else L x) k
  by_cases hi:(i:Int)<(k:Int)
  ·have gJ:∀{e:Env} {gg:Rows} {nx:Nat},(e 10=.int .i64 (IntKind.i64.wrap ((i:Int)+1)))->(gg o=some ⟨true,1,dv (fun x=>if x<(i+1)then eC L b x else L x) k⟩)->(o.cq<nx)->∃m0,m0<(k)-i/\∃i:Nat,m0=(k)-i/\i<=(k)/\e 10=.int .i64 (i:Int)/\gg o=some ⟨true,1,dv (fun x=>if x<i then eC L b x else L x) k⟩/\(o.cq<nx):=fun x1 x2 x3=>⟨_,ab,i+1,rfl,ab,(by rw[x1,ay ab]),x2,x3⟩
   have fN:i<k:=ab
   replace hC:=hC fN
   rw[if_neg (Nat.lt_irrefl i)]at hC
   by_cases he:L i=max (L b.a) (L b.b)
   ·have uR:decide ((L i:Int)=((max (L b.a) (L b.b):Nat):Int))=true:=decide_eq_true (by rw[he])
    have dP:(dv (fun x=>if x<i then eC L b x else L x) k).set i (eN (min (L b.a) (L b.b)))=dv (fun x=>if x<i+1 then eC L b x else L x) k:=oA fN (by rw[if_pos ab,eC,if_pos he]) fun x hx yK=>by
     by_cases h:x<i
     ·rw[if_pos h,if_pos ab]
     ·rw[if_neg h,if_neg ab]
    rw[eN]at dP hC
    (repeat(first|((repeat(revert hN;revert N;apply Pn.out));refine wk (tw @jf (tw @cg0 (tw @c0 (tw @c1 (tw @c5 (tw @c7 (tw @c8 (tw @c9 (tw @hi (tw @hC (tw @tc (tw @uR @dP)))))))))))) ?_;(repeat(refine Pn.mk ?_;intro N hN)))|((try apply Or.inl);refine⟨_,ae.x (QR) (sd (tw @jf (tw @cg0 (tw @c0 (tw @c1 (tw @c5 (tw @c7 (tw @c8 (tw @c9 (tw @hi (tw @hC (tw @tc (tw @uR @dP))))))))))))),?_⟩;refine hN _ _ ?_;clear hN N)|((try apply Or.inl);refine⟨_,ae.x (QS) (sd (tw @jf (tw @cg0 (tw @c0 (tw @c1 (tw @c5 (tw @c7 (tw @c8 (tw @c9 (tw @hi (tw @hC (tw @tc (tw @uR @dP))))))))))))),?_⟩;refine hN _ _ ?_;clear hN N)))
    refine gJ ?_ ?_ bt
    all_goals simp only[go_sem, ↓reduceIte,Nat.reduceEqDiff,Nat.reduceAdd,Nat.reduceSub,Nat.reduceLeDiff,reduceCtorEq,jf,cg0,c0,c1,c5,c7,c8,c9]
   ·have uR:decide ((L i:Int)=((max (L b.a) (L b.b):Nat):Int))=false:=decide_eq_false fun h=>he ab
    have lH:dv (fun x=>if x<i then eC L b x else L x) k=dv (fun x=>if x<i+1 then eC L b x else L x) k:=gD fun x hx=>by
     by_cases h:x<i
     ·rw[if_pos h,if_pos ab]
     ·by_cases yK:x=i
      ·subst yK;rw[if_neg h,if_pos ab,eC,if_neg he]
      ·rw[if_neg h,if_neg ab]
    rw[eN]at hC
    (repeat(first|((repeat(revert hN;revert N;apply Pn.out));refine wk (tw @jf (tw @cg0 (tw @c0 (tw @c1 (tw @c5 (tw @c7 (tw @c8 (tw @c9 (tw @hi (tw @hC (tw @tc @uR))))))))))) ?_;(repeat(refine Pn.mk ?_;intro N hN)))|((try apply Or.inl);refine⟨_,ae.x (QR) (sd (tw @jf (tw @cg0 (tw @c0 (tw @c1 (tw @c5 (tw @c7 (tw @c8 (tw @c9 (tw @hi (tw @hC (tw @tc @uR)))))))))))),?_⟩;refine hN _ _ ?_;clear hN N)|((try apply Or.inl);refine⟨_,ae.x (QS) (sd (tw @jf (tw @cg0 (tw @c0 (tw @c1 (tw @c5 (tw @c7 (tw @c8 (tw @c9 (tw @hi (tw @hC (tw @tc @uR)))))))))))),?_⟩;refine hN _ _ ?_;clear hN N)))
    rw[lH]at cg0
    refine gJ ?_ ?_ bt
    all_goals simp only[go_sem, ↓reduceIte,Nat.reduceEqDiff,Nat.reduceAdd,Nat.reduceSub,Nat.reduceLeDiff,reduceCtorEq,jf,cg0,c0,c1,c5,c7,c8,c9]
  ·have wg:i=k:=ab
   subst wg
   have dk:dv (fun x=>if x<i then eC L b x else L x) i=dv (eC L b) i:=gD fun x hx=>if_pos hx
   rw[dk]at cg0
   rw[<-kZ]at cg0
   (try((repeat(revert hN;revert N;apply Pn.out));refine wk (tw @jf (tw @cg0 (tw @c0 (tw @c1 (tw @c5 (tw @c7 (tw @c8 (tw @c9 (tw @hi @tc))))))))) ?_;(repeat(refine Pn.mk ?_;intro N hN))))
   refine jo ?_ ?_ bt
   all_goals simp only[go_sem, ↓reduceIte,Nat.reduceEqDiff,Nat.reduceAdd,Nat.reduceSub,Nat.reduceLeDiff,reduceCtorEq,b7,bg0,b0,b1,b5,jf,cg0,c0,c1,c5,c7,c8,c9]
 have gL:j=bs.length:=ab
 subst gL
 rw[List.take_length]at bg0
 have hL:=sf bs
 generalize dS bs=L at *
 have tl:=fJ L k
 (try((repeat(revert hN;revert N;apply Pn.out));refine wk (tw @b7 (tw @bg0 (tw @b0 (tw @b1 (tw @b5 @hj))))) ?_;(repeat(refine Pn.mk ?_;intro N hN))))
 have SD:o.cq<st_b.next:=bI0
 refine aP (fun n env st=>∃i:Nat,n=(k)-i/\i<=(k)/\env 12=.int .i64 (i:Int)/\st.get o=some ⟨true,1,dv L k⟩/\(∃oo rows ids,env 11=.own oo 0 rows.length/\st.get oo=some ⟨true,1,rows⟩/\dw N6 st.get rows ((leads i L).map (members k L)) ids/\(∀x∈oo::ids,st_b.next<=x.cq/\x.cq<st.next)/\st_b.next<=st.next/\oo∉ids)) (k) ⟨0,ab,ab,sl (tw @b7 (tw @bg0 (tw @b0 (tw @b1 (tw @b5 (eO SD)))))),sl (tw @b7 (tw @bg0 (tw @b0 (tw @b1 (tw @b5 (eO SD)))))),⟨⟨145016000,st_b.next+1⟩,[],[],by(simp only[go_sem, ↓reduceIte,Nat.reduceEqDiff,Nat.reduceAdd,Nat.reduceSub,Nat.reduceLeDiff,reduceCtorEq])<;>rfl,sd @Nat.zero_add,.nil,fun x hx=>by rw[List.mem_singleton.1 hx];(try dsimp only);omega,bt,by simp⟩⟩ ?_
 rintro n_d env_d st_d ⟨i,rfl,dle,d12,dg0,dI0⟩ dfr
 have d0:=dfr 0 (by kernel_rfl);have d5:=dfr 5 (by kernel_rfl)
 simp only[go_sem, ↓reduceIte,Nat.reduceEqDiff,Nat.reduceAdd,Nat.reduceSub,Nat.reduceLeDiff,reduceCtorEq,b7,bg0,b0,b1,b5,eO SD]at d0 d5
 clear dfr
 obtain⟨oo,rows,ids,d11,dg,hR,mY,hle,EF⟩:=dI0
 have rr:=gr i L
 have oI:=hR.len
 by_cases hi:(i:Int)<(k:Int)
 ·have si:∀{e:Env} {gg:Rows} {nx:Nat},(e 12=.int .i64 (IntKind.i64.wrap ((i:Int)+1)))->(gg o=some ⟨true,1,dv L k⟩)->(∃oo rows ids,e 11=.own oo 0 rows.length/\gg oo=some ⟨true,1,rows⟩/\dw N6 gg rows ((leads (i+1) L).map (members k L)) ids/\(∀x∈oo::ids,st_b.next<=x.cq/\x.cq<nx)/\st_b.next<=nx/\oo∉ids)->∃m0,m0<(k)-i/\∃i:Nat,m0=(k)-i/\i<=(k)/\e 12=.int .i64 (i:Int)/\gg o=some ⟨true,1,dv L k⟩/\(∃oo rows ids,e 11=.own oo 0 rows.length/\gg oo=some ⟨true,1,rows⟩/\dw N6 gg rows ((leads i L).map (members k L)) ids/\(∀x∈oo::ids,st_b.next<=x.cq/\x.cq<nx)/\st_b.next<=nx/\oo∉ids):=fun x1 x2 x3=>⟨_,ab,i+1,rfl,ab,(by rw[x1,ay ab]),x2,x3⟩
  have fN:i<k:=ab
  have hC:=eZ (f:=L) fN
  have oJ:=eO (i:=o) (n:=st_d.next) ab
  have P4:=eO (i:=oo) (n:=st_d.next) (mY oo (by simp)).2
  by_cases he:L i=i
  ·rw[if_pos he]at rr
   have uR:decide ((L i:Int)=(i:Int))=true:=decide_eq_true (by rw[he])
   rw[eN]at hC
   (try((repeat(revert hN;revert N;apply Pn.out));refine wk (tw @d12 (tw @dg0 (tw @d0 (tw @d5 (tw @d11 (tw @dg (tw @hi (tw @hC (tw @tl (tw @uR (tw @oJ @P4))))))))))) ?_;(repeat(refine Pn.mk ?_;intro N hN))))
   refine aP (fun n env st=>∃m:Nat,n=((k-i))-m/\m<=((k-i))/\env 14=(.int .i64 ((i+m:Nat):Int))/\(∃pp:Id,env 13=.own pp 0 (members (i+m) L i).length/\st.get pp=some ⟨true,1,(members (i+m) L i).map eN⟩/\st_d.next<=pp.cq/\pp.cq<st.next/\(∀x:Id,x.cq<st_d.next->st.get x=st_d.get x)/\st_d.next<=st.next)) ((k-i)) ⟨0,ab,ab,sl (tw @d12 (tw @dg0 (tw @d0 (tw @d5 @d11)))),⟨⟨145021000,st_d.next+1+1⟩,by rw[show members (i+0) L i=[]from mc hL (Nat.le_refl i)];(simp only[go_sem, ↓reduceIte,Nat.reduceEqDiff,Nat.reduceAdd,Nat.reduceSub,Nat.reduceLeDiff,reduceCtorEq])<;>rfl,by rw[show members (i+0) L i=[]from mc hL (Nat.le_refl i)];(simp only[go_sem, ↓reduceIte,Nat.reduceEqDiff,Nat.reduceAdd,Nat.reduceSub,Nat.reduceLeDiff,reduceCtorEq])<;>rfl,bt,bt,fun x hx=>sd (eO hx),bt⟩⟩ ?_
   rintro n_f env_f st_f ⟨m,rfl,fle,f14,fI0⟩ ffr
   have f0:=ffr 0 (by kernel_rfl);have f5:=ffr 5 (by kernel_rfl);have f11:=ffr 11 (by kernel_rfl);have f12:=ffr 12 (by kernel_rfl)
   simp only[go_sem, ↓reduceIte,Nat.reduceEqDiff,Nat.reduceAdd,Nat.reduceSub,Nat.reduceLeDiff,reduceCtorEq,d12,dg0,d0,d5,d11]at f0 f5 f11 f12
   clear ffr
   obtain⟨pp,f13,fg,MM,Lp,lr,tT⟩:=fI0
   have vg:st_f.get o=some ⟨true,1,dv L k⟩:=(lr o ab).trans dg0
   have Sm:st_f.get oo=some ⟨true,1,rows⟩:=(lr oo (mY oo (by simp)).2).trans dg
   have yI:=eO Lp
   have zS:=eO (i:=o) (n:=st_f.next) ab
   have P5:=eO (i:=oo) (n:=st_f.next) (by have:=(mY oo (by simp)).2;omega)
   have ji:members (i+(m+1)) L i=members (i+m) L i++if L (i+m)=i then[i+m]else[]:=iW (i+m) L i
   have Sw:(members (i+m) L i).length<=i+m:=by
    have:=List.length_filter_le (fun k=>L k==i) (List.range (i+m))
    simpa[members]using this
   have x1:=dr (a:=o) (b:=pp) ab
   have x2:=dr (a:=oo) (b:=pp) (by have:=(mY oo (by simp)).2;omega)
   have x3:=dr (a:=o) (b:=oo) (by have:=(mY oo (by simp)).1;omega)
   by_cases hm:m<k-i
   ·have qt:∀{e:Env} {gg:Rows} {nx:Nat},(e 14=(.int .i64 ((i+(m+1):Nat):Int)))->(∃pp:Id,e 13=.own pp 0 (members (i+(m+1)) L i).length/\gg pp=some ⟨true,1,(members (i+(m+1)) L i).map eN⟩/\st_d.next<=pp.cq/\pp.cq<nx/\(∀x:Id,x.cq<st_d.next->gg x=st_d.get x)/\st_d.next<=nx)->∃m0,m0<((k-i))-m/\∃m:Nat,m0=((k-i))-m/\m<=((k-i))/\e 14=(.int .i64 ((i+m:Nat):Int))/\(∃pp:Id,e 13=.own pp 0 (members (i+m) L i).length/\gg pp=some ⟨true,1,(members (i+m) L i).map eN⟩/\st_d.next<=pp.cq/\pp.cq<nx/\(∀x:Id,x.cq<st_d.next->gg x=st_d.get x)/\st_d.next<=nx):=fun x1 x2=>⟨_,ab,m+1,rfl,ab,x1,x2⟩
    have PQ:((i+m:Nat):Int)<(k:Int):=ab
    have RL:=eZ (f:=L) (show i+m<k by omega)
    have hw:IntKind.i64.wrap (((i+m:Nat):Int)+1)=((i+(m+1):Nat):Int):=by rw[aT ab];omega
    rw[eN]at RL
    by_cases hq:L (i+m)=i
    ·have sD:decide ((L (i+m):Int)=(i:Int))=true:=decide_eq_true (by rw[hq])
     rw[if_pos hq]at ji
     have e1:(members (i+m) L i).length+1<=16777216:=ab
     have gw:((members (i+m) L i).map eN).length=(members (i+m) L i).length:=by simp
     (try((repeat(revert hN;revert N;apply Pn.out));refine wk (tw @f14 (tw @f0 (tw @f5 (tw @f11 (tw @f12 (tw @f13 (tw @fg (tw @vg (tw @PQ (tw @RL (tw @tl (tw @sD (tw @yI (tw @zS (tw @x1 (tw @e1 @gw)))))))))))))))) ?_;(repeat(refine Pn.mk ?_;intro N hN))))
     exact qt (sd (tw @f14 (tw @f0 (tw @f5 (tw @f11 (tw @f12 (tw @vg (tw @hw (tw @zS @x1))))))))) (⟨⟨145026003,st_f.next+1+1⟩,by rw[ji,List.length_append];simp only[go_sem, ↓reduceIte,Nat.reduceEqDiff,Nat.reduceAdd,Nat.reduceSub,Nat.reduceLeDiff,reduceCtorEq,List.length_cons,List.length_nil],by rw[ji,List.map_append,List.map_cons,List.map_nil];simp only[go_sem, ↓reduceIte,Nat.reduceEqDiff,Nat.reduceAdd,Nat.reduceSub,Nat.reduceLeDiff,reduceCtorEq,eN],bt,bt,fun x hx=>by
      have y1:=lr x hx
      have y2:=dr (a:=x) (b:=pp) ab
      simp only[go_sem, ↓reduceIte,Nat.reduceEqDiff,Nat.reduceAdd,Nat.reduceSub,Nat.reduceLeDiff,reduceCtorEq,eO (show x.cq<st_f.next by omega),y1,y2],bt⟩)
    ·have sD:decide ((L (i+m):Int)=(i:Int))=false:=decide_eq_false fun h=>hq ab
     rw[if_neg hq,List.append_nil]at ji
     (try((repeat(revert hN;revert N;apply Pn.out));refine wk (tw @f14 (tw @f0 (tw @f5 (tw @f11 (tw @f12 (tw @f13 (tw @fg (tw @vg (tw @PQ (tw @RL (tw @tl (tw @sD (tw @yI (tw @zS @x1)))))))))))))) ?_;(repeat(refine Pn.mk ?_;intro N hN))))
     exact qt (sd (tw @f14 (tw @f0 (tw @f5 (tw @f11 (tw @f12 (tw @vg @hw))))))) (⟨pp,by rw[ji];simp only[go_sem, ↓reduceIte,Nat.reduceEqDiff,Nat.reduceAdd,Nat.reduceSub,Nat.reduceLeDiff,reduceCtorEq,f13],by rw[ji];simp only[go_sem, ↓reduceIte,Nat.reduceEqDiff,Nat.reduceAdd,Nat.reduceSub,Nat.reduceLeDiff,reduceCtorEq,fg],MM,bt,lr,bt⟩)
   ·have hmk:i+m=k:=ab
    have PQ:¬((i+m:Nat):Int)<(k:Int):=ab
    rw[hmk]at f13 fg Sw
    have e1:rows.length+1<=16777216:=by
     have:=jr i L
     rw[oI,List.length_map];omega
    (try((repeat(revert hN;revert N;apply Pn.out));refine wk (tw @f14 (tw @f0 (tw @f5 (tw @f11 (tw @f12 (tw @f13 (tw @fg (tw @vg (tw @Sm (tw @PQ (tw @yI (tw @zS (tw @P5 (tw @x1 (tw @x2 @e1))))))))))))))) ?_;(repeat(refine Pn.mk ?_;intro N hN))))
    refine si ?_ ?_ (⟨⟨145027003,st_f.next+1⟩,rows++[[.own pp 0 (members k L i).length]],ids++[pp],by rw[List.length_append];simp only[go_sem, ↓reduceIte,Nat.reduceEqDiff,Nat.reduceAdd,Nat.reduceSub,Nat.reduceLeDiff,reduceCtorEq,List.length_cons,List.length_nil],sd @Nat.zero_add,by
      rw[rr,List.map_append]
      refine(hR.frame Nc fun x hx=>?_).app (.one ⟨pp,rfl,?_,rfl⟩)
      ·have h1:=mY x (by simp[hx])
       have y1:=lr x h1.2
       have y2:=dr (a:=x) (b:=pp) ab
       have y3:(x=oo)=False:=by
        simp only[eq_iff_iff,iff_false]
        rintro rfl
        exact EF hx
       simp only[go_sem, ↓reduceIte,Nat.reduceEqDiff,Nat.reduceAdd,Nat.reduceSub,Nat.reduceLeDiff,reduceCtorEq,eO (show x.cq<st_f.next by omega),y1,y2,y3]
      ·simp only[go_sem, ↓reduceIte,Nat.reduceEqDiff,Nat.reduceAdd,Nat.reduceSub,Nat.reduceLeDiff,reduceCtorEq,yI,x2,fg],fun x hx=>by
      rcases List.mem_cons.1 hx with rfl|hx
      ·(try dsimp only);omega
      ·rcases List.mem_append.1 hx with hx|hx
       ·have:=mY x (by simp[hx]);(try dsimp only);omega
       ·rw[List.mem_singleton.1 hx];(try dsimp only);omega,bt,fun hc=>by
      rcases List.mem_append.1 hc with hc|hc
      ·have:=(mY _ (List.mem_cons_of_mem _ hc)).2;(try dsimp only at this);omega
      ·have:=List.mem_singleton.1 hc;rw[<-this]at Lp;(try dsimp only at Lp);omega⟩)
    all_goals simp only[go_sem, ↓reduceIte,Nat.reduceEqDiff,Nat.reduceAdd,Nat.reduceSub,Nat.reduceLeDiff,reduceCtorEq,f14,f0,f5,f11,f12,vg,zS,x3]
  ·rw[if_neg he,List.append_nil]at rr
   have uR:decide ((L i:Int)=(i:Int))=false:=decide_eq_false fun h=>he ab
   rw[eN]at hC
   (try((repeat(revert hN;revert N;apply Pn.out));refine wk (tw @d12 (tw @dg0 (tw @d0 (tw @d5 (tw @d11 (tw @dg (tw @hi (tw @hC (tw @tl (tw @uR (tw @oJ @P4))))))))))) ?_;(repeat(refine Pn.mk ?_;intro N hN))))
   refine si ?_ ?_ (⟨oo,rows,ids,sd @d11,sd @dg,by rw[rr];exact hR,fun x hx=>by have:=mY x hx;(try dsimp only);omega,bt,EF⟩)
   all_goals simp only[go_sem, ↓reduceIte,Nat.reduceEqDiff,Nat.reduceAdd,Nat.reduceSub,Nat.reduceLeDiff,reduceCtorEq,d12,dg0,d0,d5]
 ·have wg:i=k:=ab
  (try((repeat(revert hN;revert N;apply Pn.out));refine wk (tw @d12 (tw @dg0 (tw @d0 (tw @d5 (tw @d11 (tw @dg @hi)))))) ?_;(repeat(refine Pn.mk ?_;intro N hN))))
  refine uz (.inl rfl) (by simp only[go_sem, ↓reduceIte,Nat.reduceEqDiff,Nat.reduceAdd,Nat.reduceSub,Nat.reduceLeDiff,reduceCtorEq];rfl) ?_
  rw[qa dg (by simp) (rows':=(fa k L).map yD) (by rw[List.drop_zero,List.take_of_length_le (Nat.le_refl _)];rw[wg]at hR;exact HJ 3 hR)]
theorem uJ (n:Nat):List.replicate n [AV.int .i64 0]=dv (fun _=>0) n:=by
 refine List.ext_getElem? fun i=>?_
 by_cases h:i<n
 ·rw[eZ h,List.getElem?_replicate,if_pos h];rfl
 ·rw[List.getElem?_eq_none (by simp;omega),List.getElem?_eq_none (by rw[fJ];omega)]
def cz (cnt:Nat) (L:Nat->Nat) (i m:Nat):Nat->Nat:=fun x=>if bx L x<i then bx L x else if x∈(members cnt L ((leads cnt L).getD i 0)).take m then i else 0
theorem nM (cnt:Nat) (L:Nat->Nat):cz cnt L 0 0=fun _=>0:=by funext x;simp[cz]
theorem so (t:Int) (bs:List PB) (k:Nat) (h:k<bs.length):aJ t (bs.take (k+1))=aJ t (bs.take k)++if t<=(bs[k]).s then[bs[k]]else[]:=by
 unfold aJ
 rw[List.take_succ_eq_append_getElem h,List.filter_append]
 congr 1
 by_cases h:t<=bs[k].s<;>simp[h]
theorem uF {t:Int} {bs:List PB} {b:PB} (h:b∈aJ t bs):b∈bs:=(List.mem_filter.1 h).1
theorem ml (t:Int) (bs:List PB):(aJ t bs).length<=bs.length:=List.length_filter_le _ _
theorem z3 (cnt:Nat) (hn:cnt<=1048576) (bs:List PB) (hb:∀b∈bs,b.a<cnt/\b.b<cnt) (pI:bs.length<=1048576) (t:Int):ae Tryz.prog 126 [.int .i64 cnt,.sl (bs.map aA),.int .i64 t] (.iL [.int .i64 (leads cnt (dS (aJ t bs))).length,.sl ((eP (dS (aJ t bs)) bs).map aA)]):=by
 refine ae.body dM rfl fun hl n0=>?_
 clear hl
 (try((repeat(revert hN;revert N;apply Pn.out));refine wk @Nat.zero_add ?_;(repeat(refine Pn.mk ?_;intro N hN))))
 refine aP (fun n env st=>∃k:Nat,n=(bs.length)-k/\k<=(bs.length)/\env 9=.int .i64 (k:Int)/\(∃o:Id,env 8=.own o 0 (aJ t (bs.take k)).length/\st.get o=some ⟨true,3,(aJ t (bs.take k)).map aA⟩/\o.cq<st.next)) (bs.length) ⟨0,ab,ab,sl @Nat.zero_add,⟨⟨126001000,n0+1⟩,by(simp only[go_sem, ↓reduceIte,Nat.reduceEqDiff,Nat.reduceAdd,Nat.reduceSub,Nat.reduceLeDiff,reduceCtorEq])<;>rfl,by(simp only[go_sem, ↓reduceIte,Nat.reduceEqDiff,Nat.reduceAdd,Nat.reduceSub,Nat.reduceLeDiff,reduceCtorEq])<;>rfl,bt⟩⟩ ?_
 rintro n_a env_a st_a ⟨k,rfl,ale,a9,jW⟩ dm
 have a0:=dm 0 (by kernel_rfl);have a1:=dm 1 (by kernel_rfl);have a2:=dm 2 (by kernel_rfl)
 simp only[go_sem, ↓reduceIte,Nat.reduceEqDiff,Nat.reduceAdd,Nat.reduceSub,Nat.reduceLeDiff,reduceCtorEq]at a0 a1 a2
 clear dm
 obtain⟨o,a8,ag,sE⟩:=jW
 have kO:=eO sE
 by_cases hk:(k:Int)<(bs.length:Int)
 ·have bD:∀{e:Env} {gg:Rows} {nx:Nat},(e 9=.int .i64 (IntKind.i64.wrap ((k:Int)+1)))->(∃o:Id,e 8=.own o 0 (aJ t (bs.take (k+1))).length/\gg o=some ⟨true,3,(aJ t (bs.take (k+1))).map aA⟩/\o.cq<nx)->∃m0,m0<(bs.length)-k/\∃k:Nat,m0=(bs.length)-k/\k<=(bs.length)/\e 9=.int .i64 (k:Int)/\(∃o:Id,e 8=.own o 0 (aJ t (bs.take k)).length/\gg o=some ⟨true,3,(aJ t (bs.take k)).map aA⟩/\o.cq<nx):=fun x1 x2=>⟨_,ab,k+1,rfl,ab,(by rw[x1,ay ab]),x2⟩
  have dX:k<bs.length:=ab
  have eB:(bs.map aA)[k]? =some (aA bs[k]):=by simp[dX]
  have hs:=so t bs k dX
  have sU:=ml t (bs.take k)
  rw[List.length_take]at sU
  by_cases hc:t<=(bs[k]).s
  ·rw[if_pos hc]at hs
   have e1:(aJ t (bs.take k)).length+1<=16777216:=ab
   have gw:((aJ t (bs.take k)).map aA).length=(aJ t (bs.take k)).length:=by simp
   generalize bs[k]=b at *
   (try((repeat(revert hN;revert N;apply Pn.out));refine wk (tw @a9 (tw @a0 (tw @a1 (tw @a2 (tw @a8 (tw @ag (tw @kO (tw @hk (tw @eB (tw @hc (tw @e1 (tw @gw @aA.eq_1)))))))))))) ?_;(repeat(refine Pn.mk ?_;intro N hN))))
   exact bD (sd (tw @a9 (tw @a0 (tw @a1 @a2)))) (⟨⟨126006006,st_a.next+1+1⟩,by rw[hs,List.length_append];simp only[go_sem, ↓reduceIte,Nat.reduceEqDiff,Nat.reduceAdd,Nat.reduceSub,Nat.reduceLeDiff,reduceCtorEq,List.length_cons,List.length_nil],by rw[hs,List.map_append,List.map_cons,List.map_nil];simp only[go_sem, ↓reduceIte,Nat.reduceEqDiff,Nat.reduceAdd,Nat.reduceSub,Nat.reduceLeDiff,reduceCtorEq,aA],bt⟩)
  ·rw[if_neg hc,List.append_nil]at hs
   generalize bs[k]=b at *
   (try((repeat(revert hN;revert N;apply Pn.out));refine wk (tw @a9 (tw @a0 (tw @a1 (tw @a2 (tw @a8 (tw @ag (tw @kO (tw @hk (tw @eB (tw @hc @aA.eq_1)))))))))) ?_;(repeat(refine Pn.mk ?_;intro N hN))))
   exact bD (sd (tw @a9 (tw @a0 (tw @a1 @a2)))) (⟨o,by rw[hs];simp only[go_sem, ↓reduceIte,Nat.reduceEqDiff,Nat.reduceAdd,Nat.reduceSub,Nat.reduceLeDiff,reduceCtorEq,a8],by rw[hs];simp only[go_sem, ↓reduceIte,Nat.reduceEqDiff,Nat.reduceAdd,Nat.reduceSub,Nat.reduceLeDiff,reduceCtorEq,ag],bt⟩)
 have lu:k=bs.length:=ab
 subst lu
 rw[List.take_length]at a8 ag
 have F0:=zZ cnt hn (aJ t bs) (fun b h=>hb b (uF h)) (by have:=ml t bs;omega)
 have hL:=sf (aJ t bs)
 have Df:fz (dE st_a.get) 6 (.own o 0 (aJ t bs).length)=some (.sl ((aJ t bs).map aA)):=e6 (sz:=3) (by simp[dE,ag]) rfl fun b=>xt _ 4 b
 have Sk:∀x,cm (dE st_a.get) 6 [.int .i64 x,.own o 0 (aJ t bs).length]=some [.int .i64 x,.sl ((aJ t bs).map aA)]:=fun x=>by simp only[ad,aj,aI,Df,Option.map_some]
 (try((repeat(revert hN;revert N;apply Pn.out));refine wk (tw @a9 (tw @a0 (tw @a1 (tw @a2 (tw @a8 @hk))))) ?_;(repeat(refine Pn.mk ?_;intro N hN))))
 refine .inl ⟨_,ae.x F0 (Sk _),?_⟩
 refine hN _ _ ?_
 clear hN N
 generalize dS (aJ t bs)=L at *
 have pJ:((fa cnt L).map yD).length=(leads cnt L).length:=by simp[fa]
 have Q7:=jr cnt L
 have jm:(0:Int)<=(cnt:Int):=ab
 have oQ:(cnt:Int)<=((16777216:Nat):Int):=ab
 have gF:List.replicate cnt [AV.int .i64 0]=dv (cz cnt L 0 0) cnt:=by rw[uJ,nM]
 (try((repeat(revert hN;revert N;apply Pn.out));refine wk (tw @a9 (tw @a0 (tw @a1 (tw @a2 (tw @jm (tw @oQ @Int.le_refl)))))) ?_;(repeat(refine Pn.mk ?_;intro N hN))))
 refine aP (fun n env st=>∃i:Nat,n=((leads cnt L).length)-i/\i<=((leads cnt L).length)/\env 12=.int .i64 (i:Int)/\st.get ⟨126008001,st_a.next+1+1⟩=some ⟨true,1,dv (cz cnt L i 0) cnt⟩/\(st_a.next+1+1<st.next)) ((leads cnt L).length) ⟨0,ab,ab,sl (tw @a9 (tw @a0 (tw @a1 (tw @a2 @gF)))),sl (tw @a9 (tw @a0 (tw @a1 (tw @a2 @gF)))),bt⟩ ?_
 rintro n_c env_c st_c ⟨i,rfl,cle,xb,cg0,cI0⟩ cfr
 have c1:=cfr 1 (by kernel_rfl);have jf:=cfr 10 (by kernel_rfl);have mQ:=cfr 11 (by kernel_rfl)
 simp only[go_sem, ↓reduceIte,Nat.reduceEqDiff,Nat.reduceAdd,Nat.reduceSub,Nat.reduceLeDiff,reduceCtorEq,a9,a0,a1,a2,gF]at c1 jf mQ
 clear cfr
 by_cases hi:(i:Int)<((leads cnt L).length:Int)
 ·have gJ:∀{e:Env} {gg:Rows} {nx:Nat},(e 12=.int .i64 (IntKind.i64.wrap ((i:Int)+1)))->(gg ⟨126008001,st_a.next+1+1⟩=some ⟨true,1,dv (cz cnt L (i+1) 0) cnt⟩)->(st_a.next+1+1<nx)->∃m0,m0<((leads cnt L).length)-i/\∃i:Nat,m0=((leads cnt L).length)-i/\i<=((leads cnt L).length)/\e 12=.int .i64 (i:Int)/\gg ⟨126008001,st_a.next+1+1⟩=some ⟨true,1,dv (cz cnt L i 0) cnt⟩/\(st_a.next+1+1<nx):=fun x1 x2 x3=>⟨_,ab,i+1,rfl,ab,(by rw[x1,ay ab]),x2,x3⟩
  have fN:i<(leads cnt L).length:=ab
  have oi:((fa cnt L).map yD)[i]? =some (yD (members cnt L (leads cnt L)[i])):=by simp[fa,fN]
  have sS:(leads cnt L).getD i 0=(leads cnt L)[i]:=by simp[List.getD_eq_getElem?_getD,fN]
  have yH:∀m,cz cnt L i m=fun x=>if bx L x<i then bx L x else if x∈(members cnt L (leads cnt L)[i]).take m then i else 0:=fun m=>by unfold cz;rw[sS]
  have oG:=fun x (hx:x<cnt)=>rG hL (n:=cnt) (k:=x) (i:=i) hx fN
  have kN:(members cnt L (leads cnt L)[i]).Nodup:=List.nodup_range.filter _
  have Hi:∀x∈members cnt L (leads cnt L)[i],x<cnt:=fun x hx=>(k6.1 hx).1
  have hMc:(members cnt L (leads cnt L)[i]).length<=cnt:=by
   have:=List.length_filter_le (fun k=>L k==(leads cnt L)[i]) (List.range cnt)
   simpa[members]using this
  generalize members cnt L (leads cnt L)[i]=M at *
  have AI:(M.map eN).length=M.length:=by simp
  (try((repeat(revert hN;revert N;apply Pn.out));refine wk (tw @xb (tw @cg0 (tw @c1 (tw @jf (tw @mQ (tw @hi @pJ)))))) ?_;(repeat(refine Pn.mk ?_;intro N hN))))
  refine aP (fun n env st=>∃m:Nat,n=(M.length)-m/\m<=(M.length)/\env 13=.int .i64 (m:Int)/\st.get ⟨126008001,st_a.next+1+1⟩=some ⟨true,1,dv (cz cnt L i m) cnt⟩/\(st_a.next+1+1<st.next)) (M.length) ⟨0,ab,ab,sl (tw @xb (tw @cg0 (tw @c1 (tw @jf @mQ)))),sl (tw @xb (tw @cg0 (tw @c1 (tw @jf @mQ)))),bt⟩ ?_
  rintro n_d env_d st_d ⟨m,rfl,dle,d13,dg0,dI0⟩ dfr
  have d1:=dfr 1 (by kernel_rfl);have d10:=dfr 10 (by kernel_rfl);have d11:=dfr 11 (by kernel_rfl);have d12:=dfr 12 (by kernel_rfl)
  simp only[go_sem, ↓reduceIte,Nat.reduceEqDiff,Nat.reduceAdd,Nat.reduceSub,Nat.reduceLeDiff,reduceCtorEq,xb,cg0,c1,jf,mQ]at d1 d10 d11 d12
  clear dfr
  have tl:=fJ (cz cnt L i m) cnt
  by_cases hm:(m:Int)<(M.length:Int)
  ·have si:∀{e:Env} {gg:Rows} {nx:Nat},(e 13=.int .i64 (IntKind.i64.wrap ((m:Int)+1)))->(gg ⟨126008001,st_a.next+1+1⟩=some ⟨true,1,dv (cz cnt L i (m+1)) cnt⟩)->(st_a.next+1+1<nx)->∃m0,m0<(M.length)-m/\∃m:Nat,m0=(M.length)-m/\m<=(M.length)/\e 13=.int .i64 (m:Int)/\gg ⟨126008001,st_a.next+1+1⟩=some ⟨true,1,dv (cz cnt L i m) cnt⟩/\(st_a.next+1+1<nx):=fun x1 x2 x3=>⟨_,ab,m+1,rfl,ab,(by rw[x1,ay ab]),x2,x3⟩
   have xJ:m<M.length:=ab
   have tO:(M.map eN)[m]? =some (eN M[m]):=by simp[xJ]
   have tX:=Hi _ (List.getElem_mem xJ)
   have yK:(M[m]:Int)<(cnt:Int):=ab
   have AL:=eZ (f:=cz cnt L i m) tX
   have dP:(dv (cz cnt L i m) cnt).set M[m] (eN i)=dv (cz cnt L i (m+1)) cnt:=oA tX (by
    have h1:=(oG _ tX).1 (List.getElem_mem xJ)
    rw[yH]
    simp only[]
    rw[if_neg ab,if_pos (by rw[List.take_succ_eq_append_getElem xJ];exact List.mem_append_right _ (List.mem_singleton.2 rfl))]) fun x hx gW=>by
    rw[yH,yH]
    simp only[]
    rw[List.take_succ_eq_append_getElem xJ]
    simp only[List.mem_append,List.mem_singleton,gW,or_false]
   rw[eN]at dP AL
   generalize M[m]=xm at *
   (try((repeat(revert hN;revert N;apply Pn.out));refine wk (tw @d13 (tw @dg0 (tw @d1 (tw @d10 (tw @d11 (tw @d12 (tw @hm (tw @hi (tw @oi (tw @pJ (tw @tO (tw @AI (tw @yK (tw @AL (tw @tl (tw @dP (tw @yD.eq_1 @eN.eq_1))))))))))))))))) ?_;(repeat(refine Pn.mk ?_;intro N hN))))
   refine si ?_ ?_ bt
   all_goals simp only[go_sem, ↓reduceIte,Nat.reduceEqDiff,Nat.reduceAdd,Nat.reduceSub,Nat.reduceLeDiff,reduceCtorEq,d13,dg0,d1,d10,d11,d12,dP]
  ·have gw:m=M.length:=ab
   subst gw
   have tT:dv (cz cnt L i M.length) cnt=dv (cz cnt L (i+1) 0) cnt:=gD fun x hx=>by
    rw[yH,List.take_length]
    simp only[cz,List.take_zero,List.not_mem_nil,if_false]
    have h1:=oG x hx
    by_cases h2:bx L x<i
    ·rw[if_pos h2,if_pos ab]
    ·rw[if_neg h2]
     by_cases h3:x∈M
     ·rw[if_pos h3,if_pos (by have:=h1.1 h3;omega),h1.1 h3]
     ·rw[if_neg h3,if_neg fun h4=>h3 (h1.2 ab)]
   (try((repeat(revert hN;revert N;apply Pn.out));refine wk (tw @d13 (tw @dg0 (tw @d1 (tw @d10 (tw @d11 (tw @d12 (tw @hm (tw @hi (tw @oi (tw @pJ (tw @AI @yD.eq_1))))))))))) ?_;(repeat(refine Pn.mk ?_;intro N hN))))
   refine gJ ?_ ?_ bt
   all_goals simp only[go_sem, ↓reduceIte,Nat.reduceEqDiff,Nat.reduceAdd,Nat.reduceSub,Nat.reduceLeDiff,reduceCtorEq,xb,cg0,c1,jf,mQ,d13,dg0,d1,d10,d11,d12,tT]
 have oR:i=(leads cnt L).length:=ab
 subst oR
 have EF:dv (cz cnt L (leads cnt L).length 0) cnt=dv (bx L) cnt:=gD fun x hx=>by rw[cz,if_pos (jI hL hx)]
 rw[EF]at cg0
 have tl:=fJ (bx L) cnt
 (try((repeat(revert hN;revert N;apply Pn.out));refine wk (tw @xb (tw @cg0 (tw @c1 (tw @jf (tw @mQ (tw @hi @pJ)))))) ?_;(repeat(refine Pn.mk ?_;intro N hN))))
 have QX:st_a.next+1+1<st_c.next:=cI0
 refine aP (fun n env st=>∃j:Nat,n=(bs.length)-j/\j<=(bs.length)/\env 15=.int .i64 (j:Int)/\st.get ⟨126008001,st_a.next+1+1⟩=some ⟨true,1,dv (bx L) cnt⟩/\(∃p:Id,env 14=.own p 0 (eP L (bs.take j)).length/\st.get p=some ⟨true,3,(eP L (bs.take j)).map aA⟩/\st_c.next<=p.cq/\p.cq<st.next)) (bs.length) ⟨0,ab,ab,sl (tw @xb (tw @cg0 (tw @c1 (tw @jf @mQ)))),sl (tw @xb (tw @cg0 (tw @c1 (tw @jf @mQ)))),⟨⟨126016000,st_c.next+1⟩,by(simp only[go_sem, ↓reduceIte,Nat.reduceEqDiff,Nat.reduceAdd,Nat.reduceSub,Nat.reduceLeDiff,reduceCtorEq])<;>rfl,by(simp only[go_sem, ↓reduceIte,Nat.reduceEqDiff,Nat.reduceAdd,Nat.reduceSub,Nat.reduceLeDiff,reduceCtorEq])<;>rfl,bt,bt⟩⟩ ?_
 rintro n_f env_f st_f ⟨j,rfl,fle,f15,fg0,fI0⟩ ffr
 have f1:=ffr 1 (by kernel_rfl);have f10:=ffr 10 (by kernel_rfl);have f11:=ffr 11 (by kernel_rfl)
 simp only[go_sem, ↓reduceIte,Nat.reduceEqDiff,Nat.reduceAdd,Nat.reduceSub,Nat.reduceLeDiff,reduceCtorEq,xb,cg0,c1,jf,mQ]at f1 f10 f11
 clear ffr
 obtain⟨p,f14,fg,MM,Lp⟩:=fI0
 have x1:=dr (a:=⟨126008001,st_a.next+1+1⟩) (b:=p) bt
 have yI:=eO Lp
 have hvn:st_a.next+1+1<st_f.next:=ab
 have Hu:=eO (i:=⟨126008001,st_a.next+1+1⟩) (n:=st_f.next) hvn
 have sU:=(mj L (bs.take j)).2
 rw[List.length_take]at sU
 by_cases hj:(j:Int)<(bs.length:Int)
 ·have qt:∀{e:Env} {gg:Rows} {nx:Nat},(e 15=.int .i64 (IntKind.i64.wrap ((j:Int)+1)))->(gg ⟨126008001,st_a.next+1+1⟩=some ⟨true,1,dv (bx L) cnt⟩)->(∃p:Id,e 14=.own p 0 (eP L (bs.take (j+1))).length/\gg p=some ⟨true,3,(eP L (bs.take (j+1))).map aA⟩/\st_c.next<=p.cq/\p.cq<nx)->∃m0,m0<(bs.length)-j/\∃j:Nat,m0=(bs.length)-j/\j<=(bs.length)/\e 15=.int .i64 (j:Int)/\gg ⟨126008001,st_a.next+1+1⟩=some ⟨true,1,dv (bx L) cnt⟩/\(∃p:Id,e 14=.own p 0 (eP L (bs.take j)).length/\gg p=some ⟨true,3,(eP L (bs.take j)).map aA⟩/\st_c.next<=p.cq/\p.cq<nx):=fun x1 x2 x3=>⟨_,ab,j+1,rfl,ab,(by rw[x1,ay ab]),x2,x3⟩
  have gj:j<bs.length:=ab
  have FZ:(bs.map aA)[j]? =some (aA bs[j]):=by simp[gj]
  have Ld:=hb _ (List.getElem_mem gj)
  have hs:=ye L (bs.take j) bs[j]
  rw[<-List.take_succ_eq_append_getElem gj]at hs
  generalize bs[j]=b at *
  have hA:=eZ (f:=bx L) Ld.1
  have hB:=eZ (f:=bx L) Ld.2
  have gi:(b.a:Int)<(cnt:Int):=ab
  have fB:(b.b:Int)<(cnt:Int):=ab
  have QR:=zY (bx L b.a) (bx L b.b)
  have QS:=zX (bx L b.a) (bx L b.b)
  rw[eN]at hA hB
  by_cases he:bx L b.a=bx L b.b
  ·rw[if_pos he,List.append_nil]at hs
   have uR:decide ((bx L b.a:Int)=(bx L b.b:Int))=true:=decide_eq_true (by rw[he])
   (try((repeat(revert hN;revert N;apply Pn.out));refine wk (tw @f15 (tw @fg0 (tw @f1 (tw @f10 (tw @f11 (tw @f14 (tw @fg (tw @hj (tw @FZ (tw @hA (tw @hB (tw @gi (tw @fB (tw @tl (tw @uR (tw @x1 (tw @yI @aA.eq_1))))))))))))))))) ?_;(repeat(refine Pn.mk ?_;intro N hN))))
   refine qt ?_ ?_ (⟨p,by rw[hs];simp only[go_sem, ↓reduceIte,Nat.reduceEqDiff,Nat.reduceAdd,Nat.reduceSub,Nat.reduceLeDiff,reduceCtorEq,f14],by rw[hs];simp only[go_sem, ↓reduceIte,Nat.reduceEqDiff,Nat.reduceAdd,Nat.reduceSub,Nat.reduceLeDiff,reduceCtorEq,fg],MM,bt⟩)
   all_goals simp only[go_sem, ↓reduceIte,Nat.reduceEqDiff,Nat.reduceAdd,Nat.reduceSub,Nat.reduceLeDiff,reduceCtorEq,f15,fg0,f1,f10,f11]
  ·rw[if_neg he]at hs
   have uR:decide ((bx L b.a:Int)=(bx L b.b:Int))=false:=decide_eq_false fun h=>he ab
   have e1:(eP L (bs.take j)).length+1<=16777216:=ab
   have gw:((eP L (bs.take j)).map aA).length=(eP L (bs.take j)).length:=by simp
   (repeat(first|((repeat(revert hN;revert N;apply Pn.out));refine wk (tw @f15 (tw @fg0 (tw @f1 (tw @f10 (tw @f11 (tw @f14 (tw @fg (tw @hj (tw @FZ (tw @hA (tw @hB (tw @gi (tw @fB (tw @tl (tw @uR (tw @x1 (tw @yI (tw @Hu (tw @e1 (tw @gw @aA.eq_1)))))))))))))))))))) ?_;(repeat(refine Pn.mk ?_;intro N hN)))|((try apply Or.inl);refine⟨_,ae.x (QR) (sd (tw @f15 (tw @fg0 (tw @f1 (tw @f10 (tw @f11 (tw @f14 (tw @fg (tw @hj (tw @FZ (tw @hA (tw @hB (tw @gi (tw @fB (tw @tl (tw @uR (tw @x1 (tw @yI (tw @Hu (tw @e1 (tw @gw @aA.eq_1))))))))))))))))))))),?_⟩;refine hN _ _ ?_;clear hN N)|((try apply Or.inl);refine⟨_,ae.x (QS) (sd (tw @f15 (tw @fg0 (tw @f1 (tw @f10 (tw @f11 (tw @f14 (tw @fg (tw @hj (tw @FZ (tw @hA (tw @hB (tw @gi (tw @fB (tw @tl (tw @uR (tw @x1 (tw @yI (tw @Hu (tw @e1 (tw @gw @aA.eq_1))))))))))))))))))))),?_⟩;refine hN _ _ ?_;clear hN N)))
   refine qt ?_ ?_ (⟨⟨126023014,st_f.next+1+1+1+1⟩,by rw[hs,List.length_append];simp only[go_sem, ↓reduceIte,Nat.reduceEqDiff,Nat.reduceAdd,Nat.reduceSub,Nat.reduceLeDiff,reduceCtorEq,List.length_cons,List.length_nil],by rw[hs,List.map_append,List.map_cons,List.map_nil];simp only[go_sem, ↓reduceIte,Nat.reduceEqDiff,Nat.reduceAdd,Nat.reduceSub,Nat.reduceLeDiff,reduceCtorEq,aA],bt,bt⟩)
   all_goals simp only[go_sem, ↓reduceIte,Nat.reduceEqDiff,Nat.reduceAdd,Nat.reduceSub,Nat.reduceLeDiff,reduceCtorEq,f15,fg0,f1,f10,f11,x1,Hu]
 ·have gL:j=bs.length:=ab
  subst gL
  rw[List.take_length]at f14 fg
  (try((repeat(revert hN;revert N;apply Pn.out));refine wk (tw @f15 (tw @fg0 (tw @f1 (tw @f10 (tw @f11 (tw @f14 (tw @hj @pJ))))))) ?_;(repeat(refine Pn.mk ?_;intro N hN))))
  refine jc (.inl rfl) (r1:=.int .i64 ((leads cnt L).length:Int)) (sd @Nat.zero_add) (by simp only[go_sem, ↓reduceIte,Nat.reduceEqDiff,Nat.reduceAdd,Nat.reduceSub,Nat.reduceLeDiff,reduceCtorEq];rfl) ?_
  have h1:fC st_f.get 5 (.own p 0 (eP L bs).length)=some (.sl ((eP L bs).map aA)):=fG (sz:=3) fg rfl fun b=>sO _ 3 b
  simp only[eX,br,bV,eA,h1,Option.map_some]
end Go.Proofs.YtihgaadadaekmaaGreatDoor.V

namespace Go.Proofs.YtihgaadadaekmaaGreatDoor.V
def CN (bs:List PB) (e v:Nat):Prop:=(bU bs e).a=v∨(bU bs e).b=v
def iC (bs:List PB) (m v:Nat):List Nat:=(List.range m).filter fun i=>(bU bs i).a==v||(bU bs i).b==v
theorem ql {bs:List PB} {m v e:Nat}:e∈iC bs m v↔e<m/\CN bs e v:=by simp[iC,CN]
theorem EO (bs:List PB) (m v:Nat):iC bs (m+1) v=iC bs m v++if (bU bs m).a=v∨(bU bs m).b=v then[m]else[]:=by
 unfold iC
 rw[List.range_succ,List.filter_append]
 congr 1
 by_cases h:(bU bs m).a=v<;>by_cases h2:(bU bs m).b=v<;>simp[h,h2]
theorem qk (bs:List PB) (m v:Nat):(iC bs m v).length<=m:=by
 have:=List.length_filter_le (fun i=>(bU bs i).a==v||(bU bs i).b==v) (List.range m)
 simpa[iC]using this
def mE (cnt:Nat) (bs:List PB):Prop:=∀e,e<bs.length->(bU bs e).a<cnt/\(bU bs e).b<cnt/\(bU bs e).a≠(bU bs e).b
theorem nP {cnt:Nat} {bs:List PB} (h:mE cnt bs) {e v:Nat} (he:e<bs.length):bB bs e v<cnt:=by
 have:=h e he;unfold bB;split;exact this.2.1;exact this.1
theorem Ia {cnt:Nat} {bs:List PB} (h:mE cnt bs) {e v:Nat} (he:e<bs.length) (hi:CN bs e v):bB bs e v≠v:=by
 have h1:=(h e he).2.2
 unfold bB
 split
 ·rename_i ha;rw[<-ha];exact fun h=>h1 h.symm
 ·rename_i ha;rcases hi with hi|hi
  ·exact absurd hi ha
  ·rw[<-hi];exact h1
theorem wL {bs:List PB} {e v:Nat}:CN bs e (bB bs e v):=by
 unfold bB CN;split
 ·exact .inr rfl
 ·exact .inl rfl
theorem nQ {cnt:Nat} {bs:List PB} (h:mE cnt bs) {e v:Nat} (he:e<bs.length) (hi:CN bs e v):bB bs e (bB bs e v)=v:=by
 have h1:=(h e he).2.2
 unfold bB
 by_cases ha:(bU bs e).a=v
 ·rw[if_pos ha,if_neg h1];exact ha
 ·rw[if_neg ha,if_pos rfl]
  rcases hi with hi|hi
  ·exact absurd hi ha
  ·exact hi
structure w5 (cnt:Nat) (bs:List PB) (f:Nat->Int) (y:Nat) (out:Nat->Int):Prop where
 lo:∀v,v<cnt->-1<=out v/\out v<=cnt
 first:out y=0
 zero:∀v,v<cnt->out v=0->v=y
 down:∀v,v<cnt->0<out v->∃e,e<bs.length/\CN bs e v/\0<fu bs f e v/\out (bB bs e v)=out v-1
 shut:∀e v,e<bs.length->CN bs e v->0<=out (bB bs e v)->0<fu bs f e v->0<=out v
structure yz (cnt:Nat) (bs:List PB) (f:Nat->Int) (y:Nat) (out:Nat->Int) (Q:List Nat) (i:Nat):Prop where
 nd:Q.Nodup
 lt:∀x∈Q,x<cnt
 iff:∀v,v<cnt->(0<=out v↔v∈Q)
 lo:∀v,v<cnt->-1<=out v
 first:out y=0
 up:∀j (h:j<Q.length),out Q[j]<=j
 zero:∀v,v<cnt->out v=0->v=y
 down:∀v,v<cnt->0<out v->∃e,e<bs.length/\CN bs e v/\0<fu bs f e v/\out (bB bs e v)=out v-1
 shut:∀j (h:j<Q.length),j<i->∀e,e<bs.length->CN bs e Q[j]->0<fu bs f e (bB bs e Q[j])->0<=out (bB bs e Q[j])
section
variable {cnt:Nat} {bs:List PB} {f:Nat->Int} {y:Nat} {out:Nat->Int} {Q:List Nat} {i:Nat}
theorem yz.start (hy:y<cnt):yz cnt bs f y (fun v=>if v=y then 0 else -1) [y] 0 where
 nd:=by simp
 lt:=fun x hx=>by rw[List.mem_singleton.1 hx];exact hy
 iff:=fun v _=>by
  by_cases h:v=y<;>simp[h]
 lo:=fun v _=>by split<;>omega
 first:=if_pos rfl
 up:=fun j h=>by
  have:j=0:=by simp at h;omega
  subst this;simp
 zero:=fun v _ h=>by
  by_cases hv:v=y
  ·exact hv
  ·rw[if_neg hv]at h;omega
 down:=fun v _ h=>by
  by_cases hv:v=y
  ·rw[if_pos hv]at h;omega
  ·rw[if_neg hv]at h;omega
 shut:=fun j h hj=>by omega
theorem yz.len (h:yz cnt bs f y out Q i):Q.length<=cnt:=nN cnt Q h.nd h.lt
theorem yz.visit (h:yz cnt bs f y out Q i) (ok:mE cnt bs) (hi:i<Q.length) {e:Nat} (he:e<bs.length) (oH:CN bs e Q[i]) (jH:out (bB bs e Q[i])<0) (fA:0<fu bs f e (bB bs e Q[i])):
  yz cnt bs f y (fun v=>if v=bB bs e Q[i]then out Q[i]+1 else out v) (Q++[bB bs e Q[i]]) i:=by
 have Lr:0<=out Q[i]:=(h.iff _ (h.lt _ (List.getElem_mem hi))).2 (List.getElem_mem hi)
 have hq:=nP ok (v:=Q[i]) he
 have gW:=Ia ok he oH
 have Ra:=nQ ok he oH
 have SB:bB bs e Q[i]∉Q:=fun hm=>by have:=(h.iff _ hq).2 hm;omega
 have yH:=h.up i hi
 generalize hw:bB bs e Q[i]=w at *
 have ub:∀v,0<=out v->(if v=w then out Q[i]+1 else out v)=out v:=fun v hv=>by
  rw[if_neg];rintro rfl;omega
 have mono:∀v,0<=out v->0<=(if v=w then out Q[i]+1 else out v):=fun v hv=>by rw[ub v hv];exact hv
 refine⟨?_,?_,?_,?_,?_,?_,?_,?_,?_⟩
 ·rw[List.nodup_append]
  exact⟨h.nd,by simp,fun a ha b hb=>by rw[List.mem_singleton.1 hb];rintro rfl;exact SB ha⟩
 ·intro x hx
  rcases List.mem_append.1 hx with hx|hx
  ·exact h.lt x hx
  ·rw[List.mem_singleton.1 hx];exact hq
 ·intro v hv
  by_cases F3:v=w
  ·subst F3;simp;omega
  ·rw[if_neg F3,h.iff v hv];simp[F3]
 ·intro v hv
  by_cases F3:v=w
  ·rw[if_pos F3];omega
  ·rw[if_neg F3];exact h.lo v hv
 ·rw[ub y (by rw[h.first];exact Int.le_refl _)];exact h.first
 ·intro j hj
  by_cases gL:j<Q.length
  ·rw[List.getElem_append_left gL,ub _ ((h.iff _ (h.lt _ (List.getElem_mem gL))).2 (List.getElem_mem gL))]
   exact h.up j gL
  ·have JN:j=Q.length:=by simp at hj;omega
   subst JN
   simp
   omega
 ·intro v hv h0
  by_cases F3:v=w
  ·rw[if_pos F3]at h0;omega
  ·rw[if_neg F3]at h0;exact h.zero v hv h0
 ·intro v hv h0
  by_cases F3:v=w
  ·subst F3
   rw[if_pos rfl]
   refine⟨e,he,by rw[<-hw];exact wL,fA,?_⟩
   rw[Ra,ub _ Lr];omega
  ·rw[if_neg F3]at h0 ⊢
   obtain⟨e',h1,h2,h3,h4⟩:=h.down v hv h0
   exact⟨e',h1,h2,h3,by rw[ub _ ab];exact h4⟩
 ·intro j hj lU e' JG Lj hr
  have gL:j<Q.length:=ab
  rw[List.getElem_append_left gL]at Lj hr ⊢
  exact mono _ (h.shut j gL lU e' JG Lj hr)
theorem yz.next (h:yz cnt bs f y out Q i) (hi:i<Q.length) (hs:∀e∈iC bs bs.length Q[i],0<fu bs f e (bB bs e Q[i])->0<=out (bB bs e Q[i])):yz cnt bs f y out Q (i+1):=
 ⟨h.nd,h.lt,h.iff,h.lo,h.first,h.up,h.zero,h.down,fun j hj lU e he oH hr=>by
  by_cases JN:j=i
  ·subst JN;exact hs e (ql.2 ⟨he,oH⟩) hr
  ·exact h.shut j hj ab e he oH hr⟩
theorem yz.done (h:yz cnt bs f y out Q i) (ok:mE cnt bs) (hi:Q.length<=i):w5 cnt bs f y out where
 lo:=fun v hv=>⟨h.lo v hv,by
  by_cases h0:0<=out v
  ·obtain⟨j,hj,rfl⟩:=List.getElem_of_mem ((h.iff v hv).1 h0)
   have:=h.up j hj
   have:=h.len
   omega
  ·omega⟩
 first:=h.first
 zero:=h.zero
 down:=h.down
 shut:=fun e v he oH h0 hr=>by
  obtain⟨j,hj,Oi⟩:=List.getElem_of_mem ((h.iff _ (nP ok he)).1 h0)
  have h2:=h.shut j hj ab e he (by rw[Oi];exact wL)
  rw[Oi,nQ ok he oH]at h2
  exact h2 hr
end
end Go.Proofs.YtihgaadadaekmaaGreatDoor.V

namespace Go.Proofs.YtihgaadadaekmaaGreatDoor.V
open Go.RowKit
attribute [local irreducible] ea wpOps gR Call
attribute [local go_sem] aM fP eL gh ga cE upd cu K.av cL AV.cells AV.cell rowOf rowsOf part ld rowAt bY ck dI ef ig bL da ez gn e7 du ek cY cX dV dW bR bm cQ bQ cT cR ei eo ej cP bW cZ eh bP aQ cV cC ib bw cH bS aY dF bu dK AV.undef bF bH dY ee dU eb cF ew eD cw eu er cU cW List.getD_cons_zero List.getD_cons_succ List.getD_nil List.all_cons List.all_nil Bool.and_true Bool.true_and Bool.and_self Bool.not_true Bool.not_false Option.map_some Option.map_none Option.bind_some Option.bind_none List.length_cons List.length_nil List.take_succ_cons List.take_zero List.take_nil List.drop_succ_cons List.drop_zero List.drop_nil List.head?_cons List.map_cons List.map_nil List.getElem?_cons_zero List.getElem?_cons_succ List.cons_append List.nil_append List.append_nil List.length_map List.set_cons_zero List.set_cons_succ Nat.reduceMul eq_self Int.toNat_natCast Int.natCast_nonneg and_self true_and and_true decide_true decide_false Bool.false_eq_true Nat.zero_add Nat.add_zero List.contains_cons List.contains_nil Bool.or_false Bool.false_or beq_self_eq_true Nat.reduceBEq ne_eq not_true_eq_false not_false_eq_true Id.mk.injEq false_and and_false Nat.reduceLT Int.reduceLE Int.reduceLT Int.reduceToNat Int.reduceNeg Int.reduceAdd Nat.le_refl List.length_append beq_true beq_false Bool.not_eq_eq_eq_not or_false false_or dE ad aj aI bE cj aW bf aV bo cN bG
def mB (P:Program) (f:Nat) (args:List AV) (R:AV->Prop):Prop:=∀n:Nat,Call P f args ⟨fun _=>none,n⟩ fun r0 σ'=>∃r',fC σ'.get 6 r0=some r'/\R r'
theorem Ey {P:Program} {f:Nat} {args eS:List AV} {g:Rows} {n:Nat} {R:AV->Prop} (hv:cm (dE g) 6 args=some eS) (h:Sound P f eS ⟨fun _=>none,n⟩ fun r0 σ'=>∃r',fC σ'.get 6 r0=some r'/\R r'):Sound P f args ⟨g,n⟩ fun r σ'=>R r/\σ'=⟨g,n⟩:=by
 intro hs D ι w vs S U A
 refine(vH (g0:=g) (K:=R) ⟨eS,hv,h⟩ (fun _ _ h=>h) S U A).mono ?_
 rintro e w' ⟨r,D',u,rfl,hR,T,S',hr⟩
 exact⟨r,g,n,D',ι,u,rfl,⟨hR,rfl⟩,T,S',U,Nat.le_refl _,hr⟩
theorem mB.x {P:Program} (hm:P.follows .mixedOrders=true) {f:Nat} {args eS:List AV} {R:AV->Prop} (h:mB P f eS R) {σ:ax} (hv:cm (dE σ.get) 6 args=some eS):Call P f args σ fun r σ'=>R r/\σ'=σ:=
 iv (Ey hv (gN hm (h σ.next)))
theorem mB.body {P:Program} {f:Nat} {args:List AV} {R:AV->Prop} {nt na:Nat} {body:VC} {res:List oC} (hf:kK P f=some ⟨nt,na,body,res⟩) (ha:na=args.length) (h:(∀a∈args,eE a)->∀n:Nat,ea (Call P) body (lj res fun r0 σ'=>∃r',fC σ'.get 6 r0=some r'/\R r') (cu args) ⟨fun _=>none,n⟩):mB P f args R:=fun n=>ly hf ha fun hl=>h hl n
def dJ (f:Nat->Int) (n:Nat):List (List AV):=(List.range n).map fun i=>ar (f i)
theorem dt (f:Nat->Int) (n:Nat):(dJ f n).length=n:=by simp[dJ]
theorem dC {f:Nat->Int} {n i:Nat} (h:i<n):(dJ f n)[i]? =some (ar (f i)):=by simp[dJ,h]
theorem kC {f g:Nat->Int} {n k:Nat} {v:Int} (hk:k<n) (hv:g k=v) (h:∀i,i<n->i≠k->g i=f i):(dJ f n).set k (ar v)=dJ g n:=by
 refine List.ext_getElem? fun i=>?_
 rw[List.getElem?_set]
 by_cases hi:k=i
 ·subst hi
  rw[if_pos rfl,dt,if_pos hk,dC hk,hv]
 ·rw[if_neg hi]
  by_cases fN:i<n
  ·rw[dC fN,dC fN,h i fN (fun h=>hi h.symm)]
  ·rw[List.getElem?_eq_none (by rw[dt];omega),List.getElem?_eq_none (by rw[dt];omega)]
theorem FF (f:Nat->Int) (n:Nat):dJ f (n+1)=dJ f n++[ar (f n)]:=by simp[dJ,List.range_succ]
theorem fzI (g:Rows) (n:Nat) (a:Int):cm g (n+1) (ar a)=some (ar a):=by simp[ar,ad,aj,aI]
theorem RG (g:Rows) (n:Nat) (a:Int):dH g (n+1) (ar a)=some (ar a):=by simp[ar,br,bV,eA]
theorem Iy {g:Rows} {f:Nat->Int} {n m:Nat}:gI g (m+1) (dJ f n)=some (dJ f n):=by
 have:dJ f n=((List.range n).map f).map ar:=by simp[dJ]
 rw[this];exact nG fun x=>RG g m x
theorem ym {g:Rows} {f:Nat->Int} {n m:Nat}:dz g (m+1) (dJ f n)=some (dJ f n):=by
 have:dJ f n=((List.range n).map f).map ar:=by simp[dJ]
 rw[this];exact l8 fun x=>fzI g m x
def Nx (l:List Nat):AV:=if l=[]then .bK else .sl (l.map eN)
def o7 (cnt:Nat) (bs:List PB) (m:Nat):List (List AV):=(List.range cnt).map fun v=>[Nx (iC bs m v)]
theorem AX {cnt:Nat} {bs:List PB} {m v:Nat} (h:v<cnt):(o7 cnt bs m)[v]? =some [Nx (iC bs m v)]:=by simp[o7,h]
def fy (cnt:Nat) (bs:List PB) (f:Nat->Int):List AV:=[.int .i64 cnt,.sl (bs.map aA),.sl (o7 cnt bs bs.length),.sl (dJ f bs.length)]
theorem sK {bs:List PB} {e:Nat} (h:e<bs.length):(bs.map aA)[e]? =some (aA (bU bs e)):=getD_map aA h
def Small (bs:List PB) (f:Nat->Int):Prop:=∀e,e<bs.length->(0<=(bU bs e).s/\(bU bs e).s<=4)/\-4<=f e/\f e<=4
theorem Ik (cnt:Nat) (bs:List PB) (f:Nat->Int) (hs:Small bs f) (e v:Nat) (he:e<bs.length):ae Tryz.prog 182 [.cJ (fy cnt bs f),.int .i64 v,.int .i64 e] (.iL [.int .i64 (fu bs f e v),.int .i64 (bB bs e v)]):=by
 refine ae.body dM rfl fun hl n0=>?_
 clear hl
 have hb:=sK he
 have hf:=dC (f:=f) he
 obtain⟨⟨s0,s1⟩,s2,s3⟩:=hs e he
 have w1:IntKind.i64.wrap ((bU bs e).s-f e)=(bU bs e).s-f e:=aT ab
 have w2:IntKind.i64.wrap ((bU bs e).s+f e)=(bU bs e).s+f e:=aT ab
 unfold fu bB
 generalize bU bs e=b at *
 by_cases h:b.a=v
 ·have hd:decide ((b.a:Int)=(v:Int))=true:=decide_eq_true (by rw[h])
  (try((repeat(revert hN;revert N;apply Pn.out));refine wk (tw @fy.eq_1 (tw @hb (tw @hf (tw @aA.eq_1 (tw @ar.eq_1 (tw @hd (tw @w1 @w2))))))) ?_;(repeat(refine Pn.mk ?_;intro N hN))))
  refine jc (.inl rfl) (by simp only[go_sem, ↓reduceIte,Nat.reduceEqDiff,Nat.reduceAdd,Nat.reduceSub,Nat.reduceLeDiff,reduceCtorEq];rfl) (by simp only[go_sem, ↓reduceIte,Nat.reduceEqDiff,Nat.reduceAdd,Nat.reduceSub,Nat.reduceLeDiff,reduceCtorEq];rfl) ?_
  simp only[eX,br,bV,eA,Option.map_some,if_pos h]
 ·have hd:decide ((b.a:Int)=(v:Int))=false:=decide_eq_false fun hc=>h ab
  (try((repeat(revert hN;revert N;apply Pn.out));refine wk (tw @fy.eq_1 (tw @hb (tw @hf (tw @aA.eq_1 (tw @ar.eq_1 (tw @hd (tw @w1 @w2))))))) ?_;(repeat(refine Pn.mk ?_;intro N hN))))
  refine jc (.inl rfl) (by simp only[go_sem, ↓reduceIte,Nat.reduceEqDiff,Nat.reduceAdd,Nat.reduceSub,Nat.reduceLeDiff,reduceCtorEq];rfl) (by simp only[go_sem, ↓reduceIte,Nat.reduceEqDiff,Nat.reduceAdd,Nat.reduceSub,Nat.reduceLeDiff,reduceCtorEq];rfl) ?_
  simp only[eX,br,bV,eA,Option.map_some,if_neg h]
theorem DI (cnt:Nat) (hn:cnt<=1048576) (bs:List PB) (ok:mE cnt bs) (pI:bs.length<=1048576) (f:Nat->Int) (hs:Small bs f) (y:Nat) (hy:y<cnt):
  mB Tryz.prog 167 [.cJ (fy cnt bs f),.int .i64 y] fun r=>∃out,r=.sl (dJ out cnt)/\w5 cnt bs f y out:=by
 refine mB.body dM rfl fun hl n0=>?_
 clear hl
 (try((repeat(revert hN;revert N;apply Pn.out));refine wk @fy.eq_1 ?_;(repeat(refine Pn.mk ?_;intro N hN))))
 refine aP (fun n env st=>∃k:Nat,n=(cnt)-k/\k<=(cnt)/\env 6=.int .i64 (k:Int)/\(∃o:Id,env 5=.own o 0 k/\st.get o=some ⟨true,1,dJ (fun _=>-1) k⟩/\o.cq<st.next)) (cnt) ⟨0,ab,ab,sl @fy.eq_1,⟨⟨167001000,n0+1⟩,by(simp only[go_sem, ↓reduceIte,Nat.reduceEqDiff,Nat.reduceAdd,Nat.reduceSub,Nat.reduceLeDiff,reduceCtorEq])<;>rfl,by(simp only[go_sem, ↓reduceIte,Nat.reduceEqDiff,Nat.reduceAdd,Nat.reduceSub,Nat.reduceLeDiff,reduceCtorEq])<;>rfl,bt⟩⟩ ?_
 rintro n_a env_a st_a ⟨k,rfl,ale,a6,jW⟩ dm
 have a0:=dm 0 (by kernel_rfl);have a1:=dm 1 (by kernel_rfl)
 simp only[go_sem, ↓reduceIte,Nat.reduceEqDiff,Nat.reduceAdd,Nat.reduceSub,Nat.reduceLeDiff,reduceCtorEq,fy]at a0 a1
 clear dm
 obtain⟨o,a5,ag,sE⟩:=jW
 have tl:=dt (fun _=>-1) k
 have kO:=eO sE
 by_cases hk:(k:Int)<(cnt:Int)
 ·have bD:∀{e:Env} {gg:Rows} {nx:Nat},(e 6=.int .i64 (IntKind.i64.wrap ((k:Int)+1)))->(∃o:Id,e 5=.own o 0 (k+1)/\gg o=some ⟨true,1,dJ (fun _=>-1) (k+1)⟩/\o.cq<nx)->∃m0,m0<(cnt)-k/\∃k:Nat,m0=(cnt)-k/\k<=(cnt)/\e 6=.int .i64 (k:Int)/\(∃o:Id,e 5=.own o 0 k/\gg o=some ⟨true,1,dJ (fun _=>-1) k⟩/\o.cq<nx):=fun x1 x2=>⟨_,ab,k+1,rfl,ab,(by rw[x1,ay ab]),x2⟩
  have e1:k+1<=16777216:=ab
  have rr:dJ (fun _=>-1) k++[[.int .i64 (-1)]]=dJ (fun _=>-1) (k+1):=(FF _ _).symm
  (try((repeat(revert hN;revert N;apply Pn.out));refine wk (tw @a6 (tw @a0 (tw @a1 (tw @a5 (tw @ag (tw @kO (tw @hk (tw @tl (tw @e1 (tw @rr @fy.eq_1)))))))))) ?_;(repeat(refine Pn.mk ?_;intro N hN))))
  exact bD (sd (tw @a6 (tw @a0 (tw @a1 @fy.eq_1)))) (⟨⟨167005002,st_a.next+1⟩,sd @Nat.zero_add,sd @rr,bt⟩)
 have lu:k=cnt:=ab
 subst lu
 have Rg:(y:Int)<(k:Int):=ab
 have hym:=dC (f:=fun _=>-1) hy
 have zQ:(dJ (fun _=>-1) k).set y (ar 0)=dJ (fun v=>if v=y then 0 else -1) k:=kC hy (if_pos rfl) fun i _ hi=>if_neg hi
 rw[ar]at zQ hym
 (try((repeat(revert hN;revert N;apply Pn.out));refine wk (tw @a6 (tw @a0 (tw @a1 (tw @a5 (tw @ag (tw @kO (tw @hk (tw @tl (tw @Rg (tw @hym (tw @zQ @fy.eq_1))))))))))) ?_;(repeat(refine Pn.mk ?_;intro N hN))))
 refine aP (fun m env st=>∃(i:Nat) (out:Nat->Int) (Q:List Nat) (p:Id),m=k-i/\env 8=.int .i64 (i:Int)/\env 7=.own p 0 Q.length/\st.get p=some ⟨true,1,Q.map eN⟩/\st.get o=some ⟨true,1,dJ out k⟩/\o.cq<p.cq/\p.cq<st.next/\yz k bs f y out Q i/\i<=Q.length) k ⟨0,_,[y],⟨167007001,st_a.next+1+1⟩,ab,by(simp only[go_sem, ↓reduceIte,Nat.reduceEqDiff,Nat.reduceAdd,Nat.reduceSub,Nat.reduceLeDiff,reduceCtorEq])<;>rfl,by(simp only[go_sem, ↓reduceIte,Nat.reduceEqDiff,Nat.reduceAdd,Nat.reduceSub,Nat.reduceLeDiff,reduceCtorEq])<;>rfl,by(simp only[go_sem, ↓reduceIte,Nat.reduceEqDiff,Nat.reduceAdd,Nat.reduceSub,Nat.reduceLeDiff,reduceCtorEq])<;>rfl,sd @kO,bt,bt,yz.start hy,by simp⟩ ?_
 rintro n env_b st_b ⟨i,out,Q,p,rfl,b8,b7,bgp,bgo,dO,hpn,hB,hiq⟩ bfr
 have b0:=bfr 0 (by kernel_rfl)
 have b5:=bfr 5 (by kernel_rfl)
 simp only[go_sem, ↓reduceIte,Nat.reduceEqDiff,Nat.reduceAdd,Nat.reduceSub,Nat.reduceLeDiff,reduceCtorEq,a6,a0,a1,a5,fy]at b0 b5
 clear bfr
 have hql:=hB.len
 have Rk:=dt out k
 have hqm:(Q.map eN).length=Q.length:=by simp
 have yI:=eO hpn
 have oJ:=eO (i:=o) (n:=st_b.next) ab
 by_cases hi:(i:Int)<(Q.length:Int)
 ·have fN:i<Q.length:=ab
  have oi:(Q.map eN)[i]? =some (eN Q[i]):=by simp[fN]
  have Lr:=hB.lt _ (List.getElem_mem fN)
  obtain⟨vt,MZ⟩:∃vt,vt=Q[i]:=⟨_,rfl⟩
  rw[<-MZ]at oi Lr
  have hA:=AX (cnt:=k) (bs:=bs) (m:=bs.length) Lr
  have JY:(vt:Int)<(k:Int):=ab
  have oR:=qk bs bs.length vt
  have hme:∀x,x<(iC bs bs.length vt).length->(iC bs bs.length vt).getD x 0<bs.length/\CN bs ((iC bs bs.length vt).getD x 0) vt:=fun x hx=>by
   rw[List.getD_eq_getElem?_getD,List.getElem?_eq_getElem hx]
   exact ql.1 (List.getElem_mem hx)
  have PR:∀e∈iC bs bs.length vt,∃x,x<(iC bs bs.length vt).length/\(iC bs bs.length vt).getD x 0=e:=fun e he=>by
   obtain⟨x,hx,rfl⟩:=List.getElem_of_mem he
   exact⟨x,hx,by rw[List.getD_eq_getElem?_getD,List.getElem?_eq_getElem hx];rfl⟩
  generalize hIn:iC bs bs.length vt=I at *
  unfold Nx at hA
  by_cases RX:I=[]
  ·rw[if_pos RX]at hA
   have hI1:I.length=0:=by rw[RX];rfl
   (try((repeat(revert hN;revert N;apply Pn.out));refine wk (tw @b0 (tw @b5 (tw @b7 (tw @b8 (tw @bgp (tw @hi (tw @oi (tw @hqm (tw @eN.eq_1 @fy.eq_1))))))))) ?_;(repeat(refine Pn.mk ?_;intro N hN))))
   refine aP (fun n env st=>∃x:Nat,n=(I.length)-x/\x<=(I.length)/\env 10=.int .i64 (x:Int)/\(∃(im:Nat->Int) (Q':List Nat) (p':Id),env 7=.own p' 0 Q'.length/\st.get p'=some ⟨true,1,Q'.map eN⟩/\st.get o=some ⟨true,1,dJ im k⟩/\o.cq<p'.cq/\p'.cq<st.next/\yz k bs f y im Q' i/\(∃h:i<Q'.length,Q'[i]=vt)/\(∀z,z<x->0<fu bs f (I.getD z 0) (bB bs (I.getD z 0) vt)->0<=im (bB bs (I.getD z 0) vt)))) (I.length) ⟨0,ab,ab,sl (tw @b0 (tw @b5 (tw @b8 @fy.eq_1))),⟨out,Q,p,sd @b7,sd @bgp,sd @bgo,dO,bt,hB,⟨fN,MZ.symm⟩,fun z hz=>ab⟩⟩ ?_
   rintro n_c env_c st_c ⟨x,rfl,cle,jf,cI0⟩ cfr
   have c0:=cfr 0 (by kernel_rfl);have c5:=cfr 5 (by kernel_rfl);have c8:=cfr 8 (by kernel_rfl);have c9:=cfr 9 (by kernel_rfl)
   simp only[go_sem, ↓reduceIte,Nat.reduceEqDiff,Nat.reduceAdd,Nat.reduceSub,Nat.reduceLeDiff,reduceCtorEq,b0,b5,b8,fy]at c0 c5 c8 c9
   clear cfr
   obtain⟨im,Q',p',c7,GG,vT,BM,MN,dx,⟨vh,pr⟩,I9⟩:=cI0
   have SI:=dx.len
   have ND:=dt im k
   have MP:(Q'.map eN).length=Q'.length:=by simp
   have xM:=eO MN
   have lI:=eO (i:=o) (n:=st_c.next) ab
   have x1:=dr BM
   have hx:¬(x:Int)<((0:Nat):Int):=ab
   have hxe:x=I.length:=ab
   have hw:IntKind.i64.wrap ((i:Int)+1)=((i+1:Nat):Int):=ay ab
   (try((repeat(revert hN;revert N;apply Pn.out));refine wk (tw @jf (tw @c0 (tw @c5 (tw @c8 (tw @c9 (tw @c7 (tw @hx (tw @hA (tw @JY @fy.eq_1))))))))) ?_;(repeat(refine Pn.mk ?_;intro N hN))))
   refine⟨_,?_,i+1,im,Q',p',rfl,sd (tw @jf (tw @c0 (tw @c5 (tw @c8 (tw @c9 @hw))))),sd @c7,sd @GG,sd @vT,BM,bt,dx.next vh fun e he hr=>?_,ab⟩
   ·omega
   ·rw[pr,hIn]at he
    rw[pr]at hr ⊢
    obtain⟨z,hz,rfl⟩:=PR e he
    exact I9 z ab hr
  ·rw[if_neg RX]at hA
   have po:(I.map eN).length=I.length:=by simp
   (try((repeat(revert hN;revert N;apply Pn.out));refine wk (tw @b0 (tw @b5 (tw @b7 (tw @b8 (tw @bgp (tw @hi (tw @oi (tw @hqm (tw @eN.eq_1 @fy.eq_1))))))))) ?_;(repeat(refine Pn.mk ?_;intro N hN))))
   refine aP (fun n env st=>∃x:Nat,n=(I.length)-x/\x<=(I.length)/\env 10=.int .i64 (x:Int)/\(∃(im:Nat->Int) (Q':List Nat) (p':Id),env 7=.own p' 0 Q'.length/\st.get p'=some ⟨true,1,Q'.map eN⟩/\st.get o=some ⟨true,1,dJ im k⟩/\o.cq<p'.cq/\p'.cq<st.next/\yz k bs f y im Q' i/\(∃h:i<Q'.length,Q'[i]=vt)/\(∀z,z<x->0<fu bs f (I.getD z 0) (bB bs (I.getD z 0) vt)->0<=im (bB bs (I.getD z 0) vt)))) (I.length) ⟨0,ab,ab,sl (tw @b0 (tw @b5 (tw @b8 @fy.eq_1))),⟨out,Q,p,sd @b7,sd @bgp,sd @bgo,dO,bt,hB,⟨fN,MZ.symm⟩,fun z hz=>ab⟩⟩ ?_
   rintro n_c env_c st_c ⟨x,rfl,cle,jf,cI0⟩ cfr
   have c0:=cfr 0 (by kernel_rfl);have c5:=cfr 5 (by kernel_rfl);have c8:=cfr 8 (by kernel_rfl);have c9:=cfr 9 (by kernel_rfl)
   simp only[go_sem, ↓reduceIte,Nat.reduceEqDiff,Nat.reduceAdd,Nat.reduceSub,Nat.reduceLeDiff,reduceCtorEq,b0,b5,b8,fy]at c0 c5 c8 c9
   clear cfr
   obtain⟨im,Q',p',c7,GG,vT,BM,MN,dx,⟨vh,pr⟩,I9⟩:=cI0
   have SI:=dx.len
   have ND:=dt im k
   have MP:(Q'.map eN).length=Q'.length:=by simp
   have xM:=eO MN
   have lI:=eO (i:=o) (n:=st_c.next) ab
   have x1:=dr BM
   by_cases hx:(x:Int)<(I.length:Int)
   ·have gJ:∀{e:Env} {gg:Rows} {nx:Nat},(e 10=.int .i64 (IntKind.i64.wrap ((x:Int)+1)))->(∃(im:Nat->Int) (Q':List Nat) (p':Id),e 7=.own p' 0 Q'.length/\gg p'=some ⟨true,1,Q'.map eN⟩/\gg o=some ⟨true,1,dJ im k⟩/\o.cq<p'.cq/\p'.cq<nx/\yz k bs f y im Q' i/\(∃h:i<Q'.length,Q'[i]=vt)/\(∀z,z<(x+1)->0<fu bs f (I.getD z 0) (bB bs (I.getD z 0) vt)->0<=im (bB bs (I.getD z 0) vt)))->∃m0,m0<(I.length)-x/\∃x:Nat,m0=(I.length)-x/\x<=(I.length)/\e 10=.int .i64 (x:Int)/\(∃(im:Nat->Int) (Q':List Nat) (p':Id),e 7=.own p' 0 Q'.length/\gg p'=some ⟨true,1,Q'.map eN⟩/\gg o=some ⟨true,1,dJ im k⟩/\o.cq<p'.cq/\p'.cq<nx/\yz k bs f y im Q' i/\(∃h:i<Q'.length,Q'[i]=vt)/\(∀z,z<x->0<fu bs f (I.getD z 0) (bB bs (I.getD z 0) vt)->0<=im (bB bs (I.getD z 0) vt))):=fun x1 x2=>⟨_,ab,x+1,rfl,ab,(by rw[x1,ay ab]),x2⟩
    have OC:x<I.length:=ab
    have Ml:(I.map eN)[x]? =some (eN (I.getD x 0)):=getD_map eN OC
    obtain⟨he,oH⟩:=hme x OC
    obtain⟨e,Q0⟩:∃e,e=I.getD x 0:=⟨_,rfl⟩
    rw[<-Q0]at Ml he oH
    have il:=sK he
    have hq:=nP ok (v:=vt) he
    have Ra:=nQ ok he oH
    have MT:=Ik k bs f hs e (bB bs e vt) he
    have PD:=ok e he
    have pv:IntKind.i64.wrap (((bU bs e).a:Int)+((bU bs e).b:Int))=((bU bs e).a:Int)+((bU bs e).b:Int):=aT ab
    have wo:IntKind.i64.wrap (((bU bs e).a:Int)+((bU bs e).b:Int)-(vt:Int))=(bB bs e vt:Int):=by
     rw[aT ab]
     unfold bB
     rcases oH with h1|h1
     ·rw[if_pos h1];omega
     ·rw[if_neg fun h2=>PD.2.2 (h2.trans h1.symm)];omega
    have Ou:(bB bs e vt:Int)<(k:Int):=ab
    have MA:=dC (f:=im) hq
    have JL:=dC (f:=im) Lr
    rw[fy]at MT
    have yH:=dx.up i vh
    rw[pr]at yH
    have jS:=dx.lo vt Lr
    have P7:IntKind.i64.wrap (im vt+1)=im vt+1:=aT ab
    rw[ar]at MA JL
    generalize zH:bU bs e=b at *
    by_cases jH:im (bB bs e vt)<0
    ·by_cases fA:0<fu bs f e (bB bs e vt)
     ·have hV:=dx.visit ok vh (e:=e) he (by rw[pr];exact oH) (by rw[pr];exact jH) (by rw[pr];exact fA)
      rw[pr]at hV
      have dP:(dJ im k).set (bB bs e vt) (ar (im vt+1))=dJ (fun v=>if v=bB bs e vt then im vt+1 else im v) k:=kC hq (if_pos rfl) fun v _ hv=>if_neg hv
      rw[ar]at dP
      have e1:Q'.length+1<=16777216:=ab
      (repeat(first|((repeat(revert hN;revert N;apply Pn.out));refine wk (tw @jf (tw @c0 (tw @c5 (tw @c8 (tw @c9 (tw @c7 (tw @GG (tw @vT (tw @hx (tw @hA (tw @po (tw @Ml (tw @JY (tw @il (tw @pv (tw @wo (tw @Ou (tw @MA (tw @JL (tw @jH (tw @fA (tw @P7 (tw @dP (tw @MP (tw @ND (tw @xM (tw @lI (tw @x1 (tw @e1 (tw @eN.eq_1 (tw @aA.eq_1 @fy.eq_1))))))))))))))))))))))))))))))) ?_;(repeat(refine Pn.mk ?_;intro N hN)))|((try apply Or.inl);refine⟨_,ae.x (MT) (sd (tw @jf (tw @c0 (tw @c5 (tw @c8 (tw @c9 (tw @c7 (tw @GG (tw @vT (tw @hx (tw @hA (tw @po (tw @Ml (tw @JY (tw @il (tw @pv (tw @wo (tw @Ou (tw @MA (tw @JL (tw @jH (tw @fA (tw @P7 (tw @dP (tw @MP (tw @ND (tw @xM (tw @lI (tw @x1 (tw @e1 (tw @eN.eq_1 (tw @aA.eq_1 @fy.eq_1)))))))))))))))))))))))))))))))),?_⟩;refine hN _ _ ?_;clear hN N)))
      exact gJ (sd (tw @jf (tw @c0 (tw @c5 (tw @c8 @c9))))) (⟨_,Q'++[bB bs e vt],⟨167020003,st_c.next+1+1+1+1+1+1⟩,by rw[List.length_append];simp only[go_sem, ↓reduceIte,Nat.reduceEqDiff,Nat.reduceAdd,Nat.reduceSub,Nat.reduceLeDiff,reduceCtorEq,List.length_cons,List.length_nil],by rw[List.map_append,List.map_cons,List.map_nil];simp only[go_sem, ↓reduceIte,Nat.reduceEqDiff,Nat.reduceAdd,Nat.reduceSub,Nat.reduceLeDiff,reduceCtorEq,eN],sd (tw @lI @x1),bt,bt,hV,⟨by simp;omega,by rw[List.getElem_append_left vh];exact pr⟩,fun z hz hr=>by
       by_cases Qd:z=x
       ·subst Qd
        rw[<-Q0,if_pos rfl]
        have:=(dx.iff vt Lr).2 (by rw[<-pr];exact List.getElem_mem vh)
        omega
       ·have:=I9 z ab hr
        split
        ·have:=(dx.iff vt Lr).2 (by rw[<-pr];exact List.getElem_mem vh)
         omega
        ·exact this⟩)
     ·(repeat(first|((repeat(revert hN;revert N;apply Pn.out));refine wk (tw @jf (tw @c0 (tw @c5 (tw @c8 (tw @c9 (tw @c7 (tw @GG (tw @vT (tw @hx (tw @hA (tw @po (tw @Ml (tw @JY (tw @il (tw @pv (tw @wo (tw @Ou (tw @MA (tw @jH (tw @fA (tw @ND (tw @xM (tw @lI (tw @x1 (tw @eN.eq_1 (tw @aA.eq_1 @fy.eq_1)))))))))))))))))))))))))) ?_;(repeat(refine Pn.mk ?_;intro N hN)))|((try apply Or.inl);refine⟨_,ae.x (MT) (sd (tw @jf (tw @c0 (tw @c5 (tw @c8 (tw @c9 (tw @c7 (tw @GG (tw @vT (tw @hx (tw @hA (tw @po (tw @Ml (tw @JY (tw @il (tw @pv (tw @wo (tw @Ou (tw @MA (tw @jH (tw @fA (tw @ND (tw @xM (tw @lI (tw @x1 (tw @eN.eq_1 (tw @aA.eq_1 @fy.eq_1))))))))))))))))))))))))))),?_⟩;refine hN _ _ ?_;clear hN N)))
      exact gJ (sd (tw @jf (tw @c0 (tw @c5 (tw @c8 @c9))))) (⟨im,Q',p',sd @c7,sd (tw @GG @xM),sd (tw @vT @lI),BM,bt,dx,⟨vh,pr⟩,fun z hz hr=>by
       by_cases Qd:z=x
       ·subst Qd;rw[<-Q0]at hr;exact absurd hr fA
       ·exact I9 z ab hr⟩)
    ·(repeat(first|((repeat(revert hN;revert N;apply Pn.out));refine wk (tw @jf (tw @c0 (tw @c5 (tw @c8 (tw @c9 (tw @c7 (tw @GG (tw @vT (tw @hx (tw @hA (tw @po (tw @Ml (tw @JY (tw @il (tw @pv (tw @wo (tw @Ou (tw @MA (tw @jH (tw @ND (tw @xM (tw @lI (tw @x1 (tw @eN.eq_1 (tw @aA.eq_1 @fy.eq_1))))))))))))))))))))))))) ?_;(repeat(refine Pn.mk ?_;intro N hN)))|((try apply Or.inl);refine⟨_,ae.x (MT) (sd (tw @jf (tw @c0 (tw @c5 (tw @c8 (tw @c9 (tw @c7 (tw @GG (tw @vT (tw @hx (tw @hA (tw @po (tw @Ml (tw @JY (tw @il (tw @pv (tw @wo (tw @Ou (tw @MA (tw @jH (tw @ND (tw @xM (tw @lI (tw @x1 (tw @eN.eq_1 (tw @aA.eq_1 @fy.eq_1)))))))))))))))))))))))))),?_⟩;refine hN _ _ ?_;clear hN N)))
     exact gJ (sd (tw @jf (tw @c0 (tw @c5 (tw @c8 @c9))))) (⟨im,Q',p',sd @c7,sd (tw @GG @xM),sd (tw @vT @lI),BM,bt,dx,⟨vh,pr⟩,fun z hz hr=>by
      by_cases Qd:z=x
      ·subst Qd;rw[<-Q0];omega
      ·exact I9 z ab hr⟩)
   ·have hxe:x=I.length:=ab
    have hw:IntKind.i64.wrap ((i:Int)+1)=((i+1:Nat):Int):=ay ab
    (try((repeat(revert hN;revert N;apply Pn.out));refine wk (tw @jf (tw @c0 (tw @c5 (tw @c8 (tw @c9 (tw @c7 (tw @hx (tw @hA (tw @po (tw @JY @fy.eq_1)))))))))) ?_;(repeat(refine Pn.mk ?_;intro N hN))))
    refine⟨_,?_,i+1,im,Q',p',rfl,sd (tw @jf (tw @c0 (tw @c5 (tw @c8 (tw @c9 @hw))))),sd @c7,sd @GG,sd @vT,BM,bt,dx.next vh fun e he hr=>?_,ab⟩
    ·omega
    ·rw[pr,hIn]at he
     rw[pr]at hr ⊢
     obtain⟨z,hz,rfl⟩:=PR e he
     exact I9 z ab hr
 ·(try((repeat(revert hN;revert N;apply Pn.out));refine wk (tw @b0 (tw @b5 (tw @b7 (tw @b8 (tw @hi @fy.eq_1))))) ?_;(repeat(refine Pn.mk ?_;intro N hN))))
  have rn:fC st_b.get 6 (.own o 0 k)=some (.sl (dJ out k)):=qa bgo (by rw[Rk];omega) (by rw[List.drop_zero,List.take_of_length_le (by rw[Rk];omega)];exact Iy)
  exact⟨_,rfl,_,by simp only[go_sem, ↓reduceIte,Nat.reduceEqDiff,Nat.reduceAdd,Nat.reduceSub,Nat.reduceLeDiff,reduceCtorEq,eF];exact rn,out,rfl,hB.done ok ab⟩
end Go.Proofs.YtihgaadadaekmaaGreatDoor.V

namespace Go.Proofs.YtihgaadadaekmaaGreatDoor.V
open Go.RowKit
attribute [local irreducible] ea wpOps gR Call
attribute [local go_sem] aM fP eL gh ga cE upd cu K.av cL AV.cells AV.cell rowOf rowsOf part ld rowAt bY ck dI ef ig bL da ez gn e7 du ek cY cX dV dW bR bm cQ bQ cT cR ei eo ej cP bW cZ eh bP aQ cV cC ib bw cH bS aY dF bu dK AV.undef bF bH dY ee dU eb cF ew eD cw eu er cU cW List.getD_cons_zero List.getD_cons_succ List.getD_nil List.all_cons List.all_nil Bool.and_true Bool.true_and Bool.and_self Bool.not_true Bool.not_false Option.map_some Option.map_none Option.bind_some Option.bind_none List.length_cons List.length_nil List.take_succ_cons List.take_zero List.take_nil List.drop_succ_cons List.drop_zero List.drop_nil List.head?_cons List.map_cons List.map_nil List.getElem?_cons_zero List.getElem?_cons_succ List.cons_append List.nil_append List.append_nil List.length_map List.set_cons_zero List.set_cons_succ eq_self Int.toNat_natCast Int.natCast_nonneg and_self true_and and_true decide_true decide_false Bool.false_eq_true Nat.zero_add Nat.add_zero List.contains_cons List.contains_nil Bool.or_false Bool.false_or beq_self_eq_true ne_eq not_true_eq_false not_false_eq_true Id.mk.injEq false_and and_false Nat.le_refl List.length_append beq_true beq_false Bool.not_eq_eq_eq_not or_false false_or dE ad aj aI bE cj aW bf aV bo cN bG
def N5:uQ (List Nat):=fun g cs x ids=>(x=[]/\cs=[.bK]/\ids=[])∨∃id,cs=[.own id 0 x.length]/\0<x.length/\g id=some ⟨true,1,x.map eN⟩/\ids=[id]
theorem Lw:pM N5 1 where
 frame:=fun h hf=>by
  rcases h with h|⟨id,h1,h0,h2,h3⟩
  ·exact .inl h
  ·subst h3;exact .inr ⟨id,h1,h0,(hf id (by simp)).trans h2,rfl⟩
 len:=fun h=>by rcases h with⟨_,h,_⟩|⟨id,h,_⟩<;>subst h<;>rfl
 cell:=fun h=>by rcases h with⟨_,h,_⟩|⟨id,h,_⟩<;>subst h<;>rfl
 live:=fun h i hi=>by
  rcases h with⟨_,_,h⟩|⟨id,h1,h0,h2,h3⟩
  ·subst h;cases hi
  ·subst h3
   have:i=id:=by simpa using hi
   subst this
   exact⟨_,h2,rfl,by simp[nL]⟩
 small:=by simp[nL]
theorem Nd {g:Rows} {rows:List (List AV)} {xs:List (List Nat)} {ids:List Id} (n:Nat) (h:dw N5 g rows xs ids):dz (dE g) (n+2) rows=some (xs.map fun l=>[Nx l]):=
 h.fz (fun {cs x ids} h=>by
  rcases h with⟨h0,h1,_⟩|⟨id,h1,h0,h2,_⟩
  ·subst h0 h1;rw[ad,aj,aW];rfl
  ·have gW:x≠[]:=by rintro rfl;simp at h0
   subst h1
   rw[ad,aj,e6 (e:=eN) (sz:=1) (by simp[dE,h2]) rfl fun a=>fzN _ n a]
   simp[Nx,gW])
theorem dw.Qr {α:Type} {R:uQ α} {sz:Nat} {g:Rows} {rows:List (List AV)} {xs:List α} {ids:List Id} (ok:pM R sz) (h:dw R g rows xs ids) (kN:ids.Nodup) (k:Nat) (hk:k<xs.length):
  ∃cs ic,rows[k]? =some cs/\R g cs xs[k] ic/\(∀i∈ic,i∈ids)/\∀(g':Rows) oe x' OE,R g' oe x' OE->(∀i∈ids,i∉ic->g' i=g i)->OE.Nodup->(∀i∈OE,i∉ids)->∃BR,dw R g' (rows.set k oe) (xs.set k x') BR/\BR.Nodup/\∀i∈BR,i∈OE∨i∈ids:=by
 obtain⟨r1,cs,r2,i1,ic,i2,rfl,rfl,rfl,h3,h4,h5⟩:=h.split k hk
 obtain⟨n1,n2,n3⟩:=List.nodup_append.1 kN
 obtain⟨nc,n5,n4⟩:=List.nodup_append.1 n2
 refine⟨cs,ic,by simp,h4,fun i hi=>by simp[hi],fun g' oe x' OE hR hf hn' kf=>⟨i1++(OE++i2),?_,?_,fun i hi=>?_⟩⟩
 ·have e:xs.set r1.length x'=xs.take r1.length++x'::xs.drop (r1.length+1):=by rw[List.set_eq_take_append_cons_drop,if_pos hk]
  have e2:(r1++cs::r2).set r1.length oe=r1++oe::r2:=by simp
  rw[e,e2]
  refine(h3.frame ok fun i hi=>hf i (by simp[hi]) fun hc=>n3 i hi i (by simp[hc]) rfl).app (.cons hR (h5.frame ok fun i hi=>hf i (by simp[hi]) fun hc=>n4 i hc i hi rfl))
 ·rw[List.nodup_append,List.nodup_append]
  refine⟨n1,⟨hn',n5,fun x hx y hy he=>?_⟩,fun x hx y hy he=>?_⟩
  ·subst he;exact kf x hx (by simp[hy])
  ·subst he
   rcases List.mem_append.1 hy with hy|hy
   ·exact kf x hy (by simp[hx])
   ·exact n3 x hx x (by simp[hy]) rfl
 ·rcases List.mem_append.1 hi with hi|hi
  ·exact .inr (by simp[hi])
  ·rcases List.mem_append.1 hi with hi|hi
   ·exact .inl hi
   ·exact .inr (by simp[hi])
def pN (A:Id) (lo:Nat) (L:List (List Nat)) (g:Rows) (nx:Nat):Prop:=∃rows ids,g A=some ⟨true,1,rows⟩/\dw N5 g rows L ids/\ids.Nodup/\∀i∈ids,lo<i.cq/\i.cq<nx
def bq (cnt:Nat) (bs:List PB) (A F:Id):List AV:=[.int .i64 cnt,.sl (bs.map aA),.own A 0 cnt,.own F 0 bs.length]
def kP (cnt:Nat) (bs:List PB) (m:Nat):List (List Nat):=(List.range cnt).map fun v=>iC bs m v
theorem iV (cnt:Nat) (bs:List PB) (m:Nat):(kP cnt bs m).length=cnt:=by simp[kP]
structure nh (cnt:Nat) (bs:List PB) (f:Nat->Int) (X A F:Id) (g:Rows) (nx:Nat):Prop where
 x:g X=some ⟨true,4,[bq cnt bs A F]⟩
 a:pN A F.cq (kP cnt bs bs.length) g nx
 f:g F=some ⟨true,1,dJ f bs.length⟩
 xa:X.cq<A.cq
 af:A.cq<F.cq
 fn:F.cq<nx
theorem pN.fz {A:Id} {lo cnt:Nat} {bs:List PB} {m nx n:Nat} {g:Rows} (h:pN A lo (kP cnt bs m) g nx):V.fz (dE g) (n+3) (.own A 0 cnt)=some (.sl (o7 cnt bs m)):=by
 obtain⟨rows,ids,h1,h2,_,_⟩:=h
 have hl:=h2.len
 rw[iV]at hl
 rw[fS]
 simp only[dE,h1,Option.map_some,if_true]
 rw[if_pos ab,List.drop_zero,List.take_of_length_le ab]
 have:=Nd n h2
 rw[this]
 simp[kP,o7]
theorem nh.fz {cnt:Nat} {bs:List PB} {f:Nat->Int} {X A F:Id} {g:Rows} {nx:Nat} (h:nh cnt bs f X A F g nx):V.fz (dE g) 6 (.ptr X 0 0)=some (.cJ (fy cnt bs f)):=by
 have hF:dE g F=some ⟨true,1,dJ f bs.length⟩:=by simp[dE,h.f]
 have hX:dE g X=some ⟨true,4,[bq cnt bs A F]⟩:=by simp[dE,h.x]
 have hf:V.fz (dE g) 5 (.own F 0 bs.length)=some (.sl (dJ f bs.length)):=by
  rw[fS]
  simp only[hF,if_true]
  rw[if_pos (by rw[dt];omega),List.drop_zero,List.take_of_length_le (by rw[dt];omega),ym];rfl
 have ha:=h.a.fz (n:=2)
 rw[bo]
 simp only[hX,if_true,List.getElem?_cons_zero,List.drop_zero,bq,ad,aj,aI,cj,ha,hf,Option.map_some,fy]
theorem EN (cnt:Nat) (bs:List PB):kP cnt bs 0=List.replicate cnt []:=by
 refine List.ext_getElem? fun i=>?_
 simp only[kP,List.getElem?_map,List.getElem?_replicate]
 by_cases h:i<cnt
 ·rw[List.getElem?_range h,if_pos h];rfl
 ·rw[List.getElem?_eq_none (by simpa using h),if_neg h];rfl
theorem wN (g:Rows):∀n:Nat,dw N5 g (List.replicate n [.bK]) (List.replicate n []) []
 |0=>.nil
 |n+1=>.cons (i1:=[]) (.inl ⟨rfl,rfl,rfl⟩) (wN g n)
def vq (cnt:Nat) (bs:List PB) (m:Nat):List (List Nat):=(kP cnt bs m).set (bU bs m).a (iC bs m (bU bs m).a++[m])
theorem zV {cnt:Nat} {bs:List PB} {m v:Nat} (hv:v<cnt) (gW:(bU bs m).a≠v):(vq cnt bs m)[v]? =some (iC bs m v):=by
 unfold vq
 rw[List.getElem?_set_ne gW]
 simp[kP,hv]
theorem EM {cnt:Nat} {bs:List PB} {m:Nat} (ha:(bU bs m).a<cnt) (hb:(bU bs m).b<cnt) (gW:(bU bs m).a≠(bU bs m).b):(vq cnt bs m).set (bU bs m).b (iC bs m (bU bs m).b++[m])=kP cnt bs (m+1):=by
 refine List.ext_getElem? fun i=>?_
 by_cases hi:i<cnt
 ·have hr:(kP cnt bs (m+1))[i]? =some (iC bs (m+1) i):=by simp[kP,hi]
  rw[hr,EO]
  by_cases h1:(bU bs m).b=i
  ·rw[List.getElem?_set,if_pos h1,if_pos (by simp[vq,iV];omega),if_pos (.inr h1),h1]
  ·rw[List.getElem?_set_ne h1]
   by_cases h2:(bU bs m).a=i
   ·unfold vq
    rw[List.getElem?_set,if_pos h2,if_pos (by rw[iV];omega),if_pos (.inl h2),h2]
   ·rw[zV hi h2,if_neg (fun h=>h.elim h2 h1),List.append_nil]
 ·rw[List.getElem?_eq_none (by simp[vq,iV];omega),List.getElem?_eq_none (by rw[iV];omega)]
theorem kc {α:Type} {l:List α} {k:Nat} {x:α} (h:l[k]? =some x) (hk:k<l.length):l[k]=x:=by
 rw[List.getElem?_eq_getElem hk]at h;exact Option.some.inj h
theorem Dv {A K:Id} {lo Qo nx k j:Nat} {L:List (List Nat)} {La:List Nat} {g:Rows} {rows:List (List AV)} {ids:List Id} (hR:dw N5 g rows L ids) (kN:ids.Nodup) (mY:∀i∈ids,lo<i.cq/\i.cq<Qo) (hA:A.cq<=lo) (hL:L[k]? =some La) (hK1:Qo<=K.cq) (Po:K.cq<nx) (jS:lo<Qo):
  ∃cs,rows[k]? =some cs/\((La=[]/\cs=[.bK])∨∃id:Id,cs=[.own id 0 La.length]/\0<La.length/\g id=some ⟨true,1,La.map eN⟩/\id.cq<Qo/\lo<id.cq)/\
   ∀g':Rows,g' A=some ⟨true,1,rows.set k [.own K 0 (La.length+1)]⟩->g' K=some ⟨true,1,La.map eN++[[.int .i64 j]]⟩->(∀i:Id,i.cq<Qo->(i=A)=False->(∀id,cs=[.own id 0 La.length]->(i=id)=False)->g' i=g i)->pN A lo (L.set k (La++[j])) g' nx:=by
 have hk:k<L.length:=(List.getElem?_eq_some_iff.1 hL).1
 have RZ:=kc hL hk
 obtain⟨cs,ic,dq,Oe,ME,tV⟩:=hR.Qr Lw kN k hk
 rw[RZ]at Oe
 refine⟨cs,dq,?_,fun g' h1 h2 h3=>?_⟩
 ·rcases Oe with⟨h1,h2,_⟩|⟨id,h1,h2,h3,h4⟩
  ·exact .inl ⟨h1,h2⟩
  ·subst h4
   have:=mY id (ME id (by simp))
   exact .inr ⟨id,h1,h2,h3,this.2,this.1⟩
 ·obtain⟨BR,q1,q2,q3⟩:=tV g' [.own K 0 (La.length+1)] (La++[j]) [K] (.inr ⟨K,by simp,by simp,by rw[h2];simp[eN],rfl⟩) (fun i hi Q9=>by
   refine h3 i (mY i hi).2 ?_ fun id hid=>?_
   ·simp only[eq_iff_iff,iff_false];rintro rfl;have:=mY _ hi;omega
   ·simp only[eq_iff_iff,iff_false]
    rintro rfl
    rcases Oe with⟨_,h4,_⟩|⟨kg,h4,_,_,h5⟩
    ·rw[hid]at h4;cases h4
    ·rw[hid]at h4
     simp only[List.cons.injEq,AV.own.injEq,and_true]at h4
     rw[h5,h4]at Q9
     exact Q9 (by simp)) (by simp) fun i hi hc=>by
   rw[List.mem_singleton.1 hi]at hc;have:=mY _ hc;omega
  refine⟨_,BR,h1,q1,q2,fun i hi=>?_⟩
  rcases q3 i hi with h|h
  ·rw[List.mem_singleton.1 h];omega
  ·have:=mY i h;omega
theorem KT {P:Program} {Q:Ex->Env->ax->Prop} {c:VC} {env:Env} {σ:ax} (I:Env->ax->Prop) (h2:∀e s,I e s->Q .normal e s) (h1:∀N':Env->ax->Prop,(∀e s,I e s->N' e s)->ea (Call P) c (dF N' Q) env σ):ea (Call P) c Q env σ:=by
 refine kF (fun _ _ _ _ h=>h) aO c _ _ env σ (fun x e s h=>?_) (h1 I fun _ _ h=>h)
 cases x with
 |normal=>exact h2 e s h
 |exit id=>exact h
 |ret=>exact h
end Go.Proofs.YtihgaadadaekmaaGreatDoor.V

namespace Go.Proofs.YtihgaadadaekmaaGreatDoor.V
open Go.RowKit
attribute [local irreducible] ea wpOps gR Call
attribute [local go_sem] aM fP eL gh ga cE upd cu K.av cL AV.cells AV.cell rowOf rowsOf part ld rowAt bY ck dI ef ig bL da ez gn e7 du ek cY cX dV dW bR bm cQ bQ cT cR ei eo ej cP bW cZ eh bP aQ cV cC ib bw cH bS aY dF bu dK AV.undef bF bH dY ee dU eb cF ew eD cw eu er cU cW List.getD_cons_zero List.getD_cons_succ List.getD_nil List.all_cons List.all_nil Bool.and_true Bool.true_and Bool.and_self Bool.not_true Bool.not_false Option.map_some Option.map_none Option.bind_some Option.bind_none List.length_cons List.length_nil List.take_succ_cons List.take_zero List.take_nil List.drop_succ_cons List.drop_zero List.drop_nil List.head?_cons List.map_cons List.map_nil List.getElem?_cons_zero List.getElem?_cons_succ List.cons_append List.nil_append List.append_nil List.length_map List.set_cons_zero List.set_cons_succ Nat.reduceMul eq_self Int.toNat_natCast Int.natCast_nonneg and_self true_and and_true decide_true decide_false Bool.false_eq_true Nat.zero_add Nat.add_zero List.contains_cons List.contains_nil Bool.or_false Bool.false_or beq_self_eq_true Nat.reduceBEq ne_eq not_true_eq_false not_false_eq_true Id.mk.injEq false_and and_false Nat.reduceLT Int.reduceLE Int.reduceLT Int.reduceToNat Int.reduceNeg Int.reduceAdd Nat.le_refl List.length_append beq_true beq_false Bool.not_eq_eq_eq_not or_false false_or dE ad aj aI bE cj aW bf aV bo cN bG
theorem HC (cnt:Nat) (hn:cnt<=1048576) (bs:List PB) (ok:mE cnt bs) (pI:bs.length<=1048576) (σ:ax):
  Call Tryz.prog 165 [.int .i64 cnt,.sl (bs.map aA)] σ fun r σ'=>∃X A F,r=.ptr X 0 0/\σ.next<=X.cq/\nh cnt bs (fun _=>0) X A F σ'.get σ'.next:=by
 refine Ga LX rfl fun hl=>?_
 try simp only[q]
 clear hl
 have jm:(0:Int)<=(cnt:Int):=ab
 have oQ:(cnt:Int)<=((16777216:Nat):Int):=ab
 have Pv:(0:Int)<=(bs.length:Int):=ab
 have FX:(bs.length:Int)<=((16777216:Nat):Int):=ab
 have hz:List.replicate bs.length [AV.int .i64 0]=dJ (fun _=>0) bs.length:=by
  refine List.ext_getElem? fun i=>?_
  by_cases h:i<bs.length
  ·rw[dC h,List.getElem?_replicate,if_pos h];rfl
  ·rw[List.getElem?_eq_none (by simp;omega),List.getElem?_eq_none (by rw[dt];omega)]
 (try((repeat(revert hN;revert N;apply Pn.out));refine wk (tw @jm (tw @oQ (tw @Pv (tw @FX (tw @Int.le_refl @hz))))) ?_;(repeat(refine Pn.mk ?_;intro N hN))))
 obtain⟨X,hX⟩:∃X:Id,X=⟨165001003,σ.next+1⟩:=⟨_,rfl⟩
 obtain⟨A,hA⟩:∃X:Id,X=⟨165002002,σ.next+1+1⟩:=⟨_,rfl⟩
 obtain⟨F,hF⟩:∃X:Id,X=⟨165003003,σ.next+1+1+1⟩:=⟨_,rfl⟩
 have hXA:X.cq<A.cq:=by rw[hX,hA];(try dsimp only);omega
 have hAF:A.cq<F.cq:=by rw[hA,hF];(try dsimp only);omega
 have hXs:σ.next<=X.cq:=by rw[hX];(try dsimp only);omega
 refine aP (fun n env st=>∃j:Nat,n=(bs.length)-j/\j<=(bs.length)/\env 6=.int .i64 (j:Int)/\env 5=(.ptr X 0 0)/\st.get X=some ⟨true,4,[bq cnt bs A F]⟩/\st.get F=some ⟨true,1,dJ (fun _=>0) bs.length⟩/\(pN A F.cq (kP cnt bs j) st.get st.next/\F.cq<st.next)) (bs.length) ⟨0,ab,ab,by(try simp only[go_sem, ↓reduceIte,Nat.reduceEqDiff,Nat.reduceAdd,Nat.reduceSub,Nat.reduceLeDiff,reduceCtorEq,hX,hF,hA,bq,hz]);try rfl,by(try simp only[go_sem, ↓reduceIte,Nat.reduceEqDiff,Nat.reduceAdd,Nat.reduceSub,Nat.reduceLeDiff,reduceCtorEq,hX,hF,hA,bq,hz]);try rfl,by(try simp only[go_sem, ↓reduceIte,Nat.reduceEqDiff,Nat.reduceAdd,Nat.reduceSub,Nat.reduceLeDiff,reduceCtorEq,hX,hF,hA,bq,hz]);try rfl,by(try simp only[go_sem, ↓reduceIte,Nat.reduceEqDiff,Nat.reduceAdd,Nat.reduceSub,Nat.reduceLeDiff,reduceCtorEq,hX,hF,hA,bq,hz]);try rfl,⟨⟨List.replicate cnt [.bK],[],by rw[hA];(simp only[go_sem, ↓reduceIte,Nat.reduceEqDiff,Nat.reduceAdd,Nat.reduceSub,Nat.reduceLeDiff,reduceCtorEq])<;>rfl,by rw[EN];exact wN _ _,List.nodup_nil,fun i hi=>by cases hi⟩,by rw[hF];(try dsimp only);omega⟩⟩ ?_
 rintro n_a env_a st_a ⟨j,rfl,ale,a6,a5,ag0,ag1,jW⟩ dm
 have a0:=dm 0 (by kernel_rfl);have a1:=dm 1 (by kernel_rfl)
 simp only[go_sem, ↓reduceIte,Nat.reduceEqDiff,Nat.reduceAdd,Nat.reduceSub,Nat.reduceLeDiff,reduceCtorEq,hX,hF,hA,bq,hz]at a0 a1
 clear dm
 obtain⟨⟨rows,ids,ag,hR,kN,mY⟩,hFn⟩:=jW
 have x1:=dr hXA
 have x2:=dr hAF
 have x3:=dr (a:=X) (b:=F) ab
 have vX:=eO (i:=X) (n:=st_a.next) ab
 have vA:=eO (i:=A) (n:=st_a.next) ab
 have vF:=eO (i:=F) (n:=st_a.next) ab
 by_cases hj:(j:Int)<(bs.length:Int)
 ·have bD:∀{e:Env} {gg:Rows} {nx:Nat},(e 6=.int .i64 (IntKind.i64.wrap ((j:Int)+1)))->(e 5=(.ptr X 0 0))->(gg X=some ⟨true,4,[bq cnt bs A F]⟩)->(gg F=some ⟨true,1,dJ (fun _=>0) bs.length⟩)->(pN A F.cq (kP cnt bs (j+1)) gg nx/\F.cq<nx)->∃m0,m0<(bs.length)-j/\∃j:Nat,m0=(bs.length)-j/\j<=(bs.length)/\e 6=.int .i64 (j:Int)/\e 5=(.ptr X 0 0)/\gg X=some ⟨true,4,[bq cnt bs A F]⟩/\gg F=some ⟨true,1,dJ (fun _=>0) bs.length⟩/\(pN A F.cq (kP cnt bs j) gg nx/\F.cq<nx):=fun x1 x2 x3 x4 x5=>⟨_,ab,j+1,rfl,ab,(by rw[x1,ay ab]),x2,x3,x4,x5⟩
  have gj:j<bs.length:=ab
  have il:=sK gj
  obtain⟨ha1,Pw,gW⟩:=ok j gj
  have gi:((bU bs j).a:Int)<(cnt:Int):=ab
  have fB:((bU bs j).b:Int)<(cnt:Int):=ab
  have tT:=EM (m:=j) ha1 Pw gW
  have e1:=qk bs j (bU bs j).a
  have e2:=qk bs j (bU bs j).b
  have PJ:(vq cnt bs j)[(bU bs j).b]? =some (iC bs j (bU bs j).b):=zV Pw gW
  have PI:(kP cnt bs j)[(bU bs j).a]? =some (iC bs j (bU bs j).a):=by simp[kP,ha1]
  have RJ:vq cnt bs j=(kP cnt bs j).set (bU bs j).a (iC bs j (bU bs j).a++[j]):=rfl
  have Pu:(vq cnt bs j).length=cnt:=by rw[RJ,List.length_set,iV]
  have iJ:=hR.len
  rw[iV]at iJ
  obtain⟨cs7,iT,G6,Hl⟩:=Dv (A:=A) (K:=⟨165007022,st_a.next+1⟩) (nx:=st_a.next+1+1) (j:=j) hR kN mY ab PI bt bt hFn
  rw[<-RJ]at Hl
  obtain⟨c7,rfl⟩:∃c,cs7=[c]:=by
   rcases G6 with⟨_,h⟩|⟨id,h,_⟩<;>exact⟨_,h⟩
  generalize iC bs j (bU bs j).a=La at *
  generalize iC bs j (bU bs j).b=Lb at *
  generalize bU bs j=b at *
  generalize vq cnt bs j=LA at *
  clear RJ
  (try((repeat(revert hN;revert N;apply Pn.out));refine wk (tw @a6 (tw @a5 (tw @ag0 (tw @ag1 (tw @a0 (tw @a1 (tw @hj (tw @il (tw @aA.eq_1 (tw @ag (tw @iT (tw @gi (tw @fB (tw @iJ (tw @x1 (tw @x2 (tw @x3 (tw @vX (tw @vA (tw @vF @bq.eq_1)))))))))))))))))))) ?_;(repeat(refine Pn.mk ?_;intro N hN))))
  refine IP (fun e s=>e 0=.int .i64 cnt/\e 1=.sl (bs.map aA)/\e 5=.ptr X 0 0/\e 6=.int .i64 j/\s.get X=some ⟨true,4,[bq cnt bs A F]⟩/\s.get F=some ⟨true,1,dJ (fun _=>0) bs.length⟩/\pN A F.cq LA s.get s.next/\F.cq<s.next) ?_ ?_
  ·rintro e1 s1 ⟨m0,m1,m5,m6,mX,mF,⟨rows1,ids1,mg,mR,mnd,mver⟩,mn⟩
   refine hN _ _ ?_
   clear hN N
   have iK:=mR.len
   rw[Pu]at iK
   have wX:=eO (i:=X) (n:=s1.next) ab
   have wA:=eO (i:=A) (n:=s1.next) ab
   have wF:=eO (i:=F) (n:=s1.next) ab
   obtain⟨cs8,iU,G7,Hm⟩:=Dv (A:=A) (K:=⟨165008022,s1.next⟩) (nx:=s1.next+1) (j:=j) mR mnd mver ab PJ bt bt mn
   rw[tT]at Hm
   obtain⟨c8,rfl⟩:∃c,cs8=[c]:=by
    rcases G7 with⟨_,h⟩|⟨id,h,_⟩<;>exact⟨_,h⟩
   (try((repeat(revert hN;revert N;apply Pn.out));refine wk (tw @m0 (tw @m1 (tw @m5 (tw @m6 (tw @mX (tw @mF (tw @hj (tw @il (tw @aA.eq_1 (tw @mg (tw @iU (tw @gi (tw @fB (tw @iK (tw @x1 (tw @x2 (tw @x3 (tw @wX (tw @wA (tw @wF @bq.eq_1)))))))))))))))))))) ?_;(repeat(refine Pn.mk ?_;intro N hN))))
   refine KT (fun e s=>e 0=.int .i64 cnt/\e 1=.sl (bs.map aA)/\e 5=.ptr X 0 0/\e 6=.int .i64 j/\s.get X=some ⟨true,4,[bq cnt bs A F]⟩/\s.get F=some ⟨true,1,dJ (fun _=>0) bs.length⟩/\pN A F.cq (kP cnt bs (j+1)) s.get s.next/\F.cq<s.next) ?_ ?_
   ·rintro e2 s2 ⟨p0,p1,p5,p6,pX,pF,pL,pn⟩
    simp only[dF,bu]
    refine hN _ _ ?_
    clear hN N
    (try((repeat(revert hN;revert N;apply Pn.out));refine wk (tw @p0 (tw @p1 (tw @p5 @p6))) ?_;(repeat(refine Pn.mk ?_;intro N hN))))
    refine bD ?_ ?_ ?_ ?_ (⟨by obtain⟨r,i,q1,q2,q3,q4⟩:=pL;exact⟨r,i,sd @q1,q2,q3,fun x hx=>by have:=q4 x hx;(try dsimp only);omega⟩,bt⟩)
    all_goals simp only[go_sem, ↓reduceIte,Nat.reduceEqDiff,Nat.reduceAdd,Nat.reduceSub,Nat.reduceLeDiff,reduceCtorEq,p0,p1,p5,p6,pX,pF]
   ·intro N hN
    rcases G7 with⟨Pp,xG⟩|⟨id,xG,hLp,hid,JM,we⟩
    ·simp only[List.cons.injEq,and_true]at xG
     subst xG
     subst Pp
     refine eR ?_ ?_<;>(try((repeat(revert hN;revert N;apply Pn.out));refine wk (tw @m0 (tw @m1 (tw @m5 (tw @m6 (tw @mX (tw @mF (tw @hj (tw @il (tw @aA.eq_1 (tw @mg (tw @iU (tw @gi (tw @fB (tw @iK (tw @x1 (tw @x2 (tw @x3 (tw @wX (tw @wA (tw @wF @bq.eq_1)))))))))))))))))))) ?_;(repeat(refine Pn.mk ?_;intro N hN))))<;>(try refine eR ?_ ?_)<;>(try((repeat(revert hN;revert N;apply Pn.out));refine wk (tw @m0 (tw @m1 (tw @m5 (tw @m6 (tw @mX (tw @mF (tw @hj (tw @il (tw @aA.eq_1 (tw @mg (tw @iU (tw @gi (tw @fB (tw @iK (tw @x1 (tw @x2 (tw @x3 (tw @wX (tw @wA (tw @wF @bq.eq_1)))))))))))))))))))) ?_;(repeat(refine Pn.mk ?_;intro N hN))))<;>(try refine eR ?_ ?_)<;>(try((repeat(revert hN;revert N;apply Pn.out));refine wk (tw @m0 (tw @m1 (tw @m5 (tw @m6 (tw @mX (tw @mF (tw @hj (tw @il (tw @aA.eq_1 (tw @mg (tw @iU (tw @gi (tw @fB (tw @iK (tw @x1 (tw @x2 (tw @x3 (tw @wX (tw @wA (tw @wF @bq.eq_1)))))))))))))))))))) ?_;(repeat(refine Pn.mk ?_;intro N hN))))<;>(try refine eR ?_ ?_)<;>(try((repeat(revert hN;revert N;apply Pn.out));refine wk (tw @m0 (tw @m1 (tw @m5 (tw @m6 (tw @mX (tw @mF (tw @hj (tw @il (tw @aA.eq_1 (tw @mg (tw @iU (tw @gi (tw @fB (tw @iK (tw @x1 (tw @x2 (tw @x3 (tw @wX (tw @wA (tw @wF @bq.eq_1)))))))))))))))))))) ?_;(repeat(refine Pn.mk ?_;intro N hN))))<;>(try refine eR ?_ ?_)<;>(try((repeat(revert hN;revert N;apply Pn.out));refine wk (tw @m0 (tw @m1 (tw @m5 (tw @m6 (tw @mX (tw @mF (tw @hj (tw @il (tw @aA.eq_1 (tw @mg (tw @iU (tw @gi (tw @fB (tw @iK (tw @x1 (tw @x2 (tw @x3 (tw @wX (tw @wA (tw @wF @bq.eq_1)))))))))))))))))))) ?_;(repeat(refine Pn.mk ?_;intro N hN))))<;>(try refine eR ?_ ?_)<;>(try((repeat(revert hN;revert N;apply Pn.out));refine wk (tw @m0 (tw @m1 (tw @m5 (tw @m6 (tw @mX (tw @mF (tw @hj (tw @il (tw @aA.eq_1 (tw @mg (tw @iU (tw @gi (tw @fB (tw @iK (tw @x1 (tw @x2 (tw @x3 (tw @wX (tw @wA (tw @wF @bq.eq_1)))))))))))))))))))) ?_;(repeat(refine Pn.mk ?_;intro N hN))))
     all_goals
      refine⟨by simp only[go_sem, ↓reduceIte,Nat.reduceEqDiff,Nat.reduceAdd,Nat.reduceSub,Nat.reduceLeDiff,reduceCtorEq,m0,m1,m5,m6,mX,mF,hj,il,aA,mg,iU,gi,fB,iK,x1,x2,x3,wX,wA,wF,bq],by simp only[go_sem, ↓reduceIte,Nat.reduceEqDiff,Nat.reduceAdd,Nat.reduceSub,Nat.reduceLeDiff,reduceCtorEq,m0,m1,m5,m6,mX,mF,hj,il,aA,mg,iU,gi,fB,iK,x1,x2,x3,wX,wA,wF,bq],by simp only[go_sem, ↓reduceIte,Nat.reduceEqDiff,Nat.reduceAdd,Nat.reduceSub,Nat.reduceLeDiff,reduceCtorEq,m0,m1,m5,m6,mX,mF,hj,il,aA,mg,iU,gi,fB,iK,x1,x2,x3,wX,wA,wF,bq],by simp only[go_sem, ↓reduceIte,Nat.reduceEqDiff,Nat.reduceAdd,Nat.reduceSub,Nat.reduceLeDiff,reduceCtorEq,m0,m1,m5,m6,mX,mF,hj,il,aA,mg,iU,gi,fB,iK,x1,x2,x3,wX,wA,wF,bq],by simp only[go_sem, ↓reduceIte,Nat.reduceEqDiff,Nat.reduceAdd,Nat.reduceSub,Nat.reduceLeDiff,reduceCtorEq,m0,m1,m5,m6,mX,mF,hj,il,aA,mg,iU,gi,fB,iK,x1,x2,x3,wX,wA,wF,bq],by simp only[go_sem, ↓reduceIte,Nat.reduceEqDiff,Nat.reduceAdd,Nat.reduceSub,Nat.reduceLeDiff,reduceCtorEq,m0,m1,m5,m6,mX,mF,hj,il,aA,mg,iU,gi,fB,iK,x1,x2,x3,wX,wA,wF,bq],Hm _ (by simp only[go_sem, ↓reduceIte,Nat.reduceEqDiff,Nat.reduceAdd,Nat.reduceSub,Nat.reduceLeDiff,reduceCtorEq,m0,m1,m5,m6,mX,mF,hj,il,aA,mg,iU,gi,fB,iK,x1,x2,x3,wX,wA,wF,bq,List.length_nil]) (by simp only[go_sem, ↓reduceIte,Nat.reduceEqDiff,Nat.reduceAdd,Nat.reduceSub,Nat.reduceLeDiff,reduceCtorEq,m0,m1,m5,m6,mX,mF,hj,il,aA,mg,iU,gi,fB,iK,x1,x2,x3,wX,wA,wF,bq,List.map_nil,List.nil_append]) (fun i hi MC fN=>?_),bt⟩
      clear fN
      simp only[go_sem, ↓reduceIte,Nat.reduceEqDiff,Nat.reduceAdd,Nat.reduceSub,Nat.reduceLeDiff,reduceCtorEq,wX,wA,wF,eO hi,MC]
    ·simp only[List.cons.injEq,and_true]at xG
     subst xG
     have qN:=eO JM
     have y1:=dr (a:=A) (b:=id) ab
     have y2:=dr (a:=F) (b:=id) we
     have y3:=dr (a:=X) (b:=id) ab
     have e3:Lb.length+1<=16777216:=ab
     have z1:(Lb.map eN).length=Lb.length:=by simp
     refine eR ?_ ?_<;>(try((repeat(revert hN;revert N;apply Pn.out));refine wk (tw @m0 (tw @m1 (tw @m5 (tw @m6 (tw @mX (tw @mF (tw @hj (tw @il (tw @aA.eq_1 (tw @mg (tw @iU (tw @gi (tw @fB (tw @iK (tw @x1 (tw @x2 (tw @x3 (tw @wX (tw @wA (tw @wF (tw @bq.eq_1 (tw @hid (tw @qN (tw @y1 (tw @y2 (tw @y3 (tw @e3 @z1))))))))))))))))))))))))))) ?_;(repeat(refine Pn.mk ?_;intro N hN))))<;>(try refine eR ?_ ?_)<;>(try((repeat(revert hN;revert N;apply Pn.out));refine wk (tw @m0 (tw @m1 (tw @m5 (tw @m6 (tw @mX (tw @mF (tw @hj (tw @il (tw @aA.eq_1 (tw @mg (tw @iU (tw @gi (tw @fB (tw @iK (tw @x1 (tw @x2 (tw @x3 (tw @wX (tw @wA (tw @wF (tw @bq.eq_1 (tw @hid (tw @qN (tw @y1 (tw @y2 (tw @y3 (tw @e3 @z1))))))))))))))))))))))))))) ?_;(repeat(refine Pn.mk ?_;intro N hN))))<;>(try refine eR ?_ ?_)<;>(try((repeat(revert hN;revert N;apply Pn.out));refine wk (tw @m0 (tw @m1 (tw @m5 (tw @m6 (tw @mX (tw @mF (tw @hj (tw @il (tw @aA.eq_1 (tw @mg (tw @iU (tw @gi (tw @fB (tw @iK (tw @x1 (tw @x2 (tw @x3 (tw @wX (tw @wA (tw @wF (tw @bq.eq_1 (tw @hid (tw @qN (tw @y1 (tw @y2 (tw @y3 (tw @e3 @z1))))))))))))))))))))))))))) ?_;(repeat(refine Pn.mk ?_;intro N hN))))<;>(try refine eR ?_ ?_)<;>(try((repeat(revert hN;revert N;apply Pn.out));refine wk (tw @m0 (tw @m1 (tw @m5 (tw @m6 (tw @mX (tw @mF (tw @hj (tw @il (tw @aA.eq_1 (tw @mg (tw @iU (tw @gi (tw @fB (tw @iK (tw @x1 (tw @x2 (tw @x3 (tw @wX (tw @wA (tw @wF (tw @bq.eq_1 (tw @hid (tw @qN (tw @y1 (tw @y2 (tw @y3 (tw @e3 @z1))))))))))))))))))))))))))) ?_;(repeat(refine Pn.mk ?_;intro N hN))))<;>(try refine eR ?_ ?_)<;>(try((repeat(revert hN;revert N;apply Pn.out));refine wk (tw @m0 (tw @m1 (tw @m5 (tw @m6 (tw @mX (tw @mF (tw @hj (tw @il (tw @aA.eq_1 (tw @mg (tw @iU (tw @gi (tw @fB (tw @iK (tw @x1 (tw @x2 (tw @x3 (tw @wX (tw @wA (tw @wF (tw @bq.eq_1 (tw @hid (tw @qN (tw @y1 (tw @y2 (tw @y3 (tw @e3 @z1))))))))))))))))))))))))))) ?_;(repeat(refine Pn.mk ?_;intro N hN))))<;>(try refine eR ?_ ?_)<;>(try((repeat(revert hN;revert N;apply Pn.out));refine wk (tw @m0 (tw @m1 (tw @m5 (tw @m6 (tw @mX (tw @mF (tw @hj (tw @il (tw @aA.eq_1 (tw @mg (tw @iU (tw @gi (tw @fB (tw @iK (tw @x1 (tw @x2 (tw @x3 (tw @wX (tw @wA (tw @wF (tw @bq.eq_1 (tw @hid (tw @qN (tw @y1 (tw @y2 (tw @y3 (tw @e3 @z1))))))))))))))))))))))))))) ?_;(repeat(refine Pn.mk ?_;intro N hN))))
     all_goals
      refine⟨by simp only[go_sem, ↓reduceIte,Nat.reduceEqDiff,Nat.reduceAdd,Nat.reduceSub,Nat.reduceLeDiff,reduceCtorEq,m0,m1,m5,m6,mX,mF,hj,il,aA,mg,iU,gi,fB,iK,x1,x2,x3,wX,wA,wF,bq,hid,qN,y1,y2,y3,e3,z1],by simp only[go_sem, ↓reduceIte,Nat.reduceEqDiff,Nat.reduceAdd,Nat.reduceSub,Nat.reduceLeDiff,reduceCtorEq,m0,m1,m5,m6,mX,mF,hj,il,aA,mg,iU,gi,fB,iK,x1,x2,x3,wX,wA,wF,bq,hid,qN,y1,y2,y3,e3,z1],by simp only[go_sem, ↓reduceIte,Nat.reduceEqDiff,Nat.reduceAdd,Nat.reduceSub,Nat.reduceLeDiff,reduceCtorEq,m0,m1,m5,m6,mX,mF,hj,il,aA,mg,iU,gi,fB,iK,x1,x2,x3,wX,wA,wF,bq,hid,qN,y1,y2,y3,e3,z1],by simp only[go_sem, ↓reduceIte,Nat.reduceEqDiff,Nat.reduceAdd,Nat.reduceSub,Nat.reduceLeDiff,reduceCtorEq,m0,m1,m5,m6,mX,mF,hj,il,aA,mg,iU,gi,fB,iK,x1,x2,x3,wX,wA,wF,bq,hid,qN,y1,y2,y3,e3,z1],by simp only[go_sem, ↓reduceIte,Nat.reduceEqDiff,Nat.reduceAdd,Nat.reduceSub,Nat.reduceLeDiff,reduceCtorEq,m0,m1,m5,m6,mX,mF,hj,il,aA,mg,iU,gi,fB,iK,x1,x2,x3,wX,wA,wF,bq,hid,qN,y1,y2,y3,e3,z1],by simp only[go_sem, ↓reduceIte,Nat.reduceEqDiff,Nat.reduceAdd,Nat.reduceSub,Nat.reduceLeDiff,reduceCtorEq,m0,m1,m5,m6,mX,mF,hj,il,aA,mg,iU,gi,fB,iK,x1,x2,x3,wX,wA,wF,bq,hid,qN,y1,y2,y3,e3,z1],Hm _ (by simp only[go_sem, ↓reduceIte,Nat.reduceEqDiff,Nat.reduceAdd,Nat.reduceSub,Nat.reduceLeDiff,reduceCtorEq,m0,m1,m5,m6,mX,mF,hj,il,aA,mg,iU,gi,fB,iK,x1,x2,x3,wX,wA,wF,bq,hid,qN,y1,y2,y3,e3,z1,List.length_nil]) (by simp only[go_sem, ↓reduceIte,Nat.reduceEqDiff,Nat.reduceAdd,Nat.reduceSub,Nat.reduceLeDiff,reduceCtorEq,m0,m1,m5,m6,mX,mF,hj,il,aA,mg,iU,gi,fB,iK,x1,x2,x3,wX,wA,wF,bq,hid,qN,y1,y2,y3,e3,z1,List.map_nil,List.nil_append]) (fun i hi MC fN=>?_),bt⟩
      have gW:=fN id rfl
      simp only[go_sem, ↓reduceIte,Nat.reduceEqDiff,Nat.reduceAdd,Nat.reduceSub,Nat.reduceLeDiff,reduceCtorEq,wX,wA,wF,eO hi,MC,gW]
  ·intro N hN
   rcases G6 with⟨Pp,xG⟩|⟨id,xG,hLp,hid,JM,we⟩
   ·simp only[List.cons.injEq,and_true]at xG
    subst xG
    subst Pp
    refine eR ?_ ?_<;>(try((repeat(revert hN;revert N;apply Pn.out));refine wk (tw @a6 (tw @a5 (tw @ag0 (tw @ag1 (tw @a0 (tw @a1 (tw @hj (tw @il (tw @aA.eq_1 (tw @ag (tw @iT (tw @gi (tw @fB (tw @iJ (tw @x1 (tw @x2 (tw @x3 (tw @vX (tw @vA (tw @vF @bq.eq_1)))))))))))))))))))) ?_;(repeat(refine Pn.mk ?_;intro N hN))))<;>(try refine eR ?_ ?_)<;>(try((repeat(revert hN;revert N;apply Pn.out));refine wk (tw @a6 (tw @a5 (tw @ag0 (tw @ag1 (tw @a0 (tw @a1 (tw @hj (tw @il (tw @aA.eq_1 (tw @ag (tw @iT (tw @gi (tw @fB (tw @iJ (tw @x1 (tw @x2 (tw @x3 (tw @vX (tw @vA (tw @vF @bq.eq_1)))))))))))))))))))) ?_;(repeat(refine Pn.mk ?_;intro N hN))))<;>(try refine eR ?_ ?_)<;>(try((repeat(revert hN;revert N;apply Pn.out));refine wk (tw @a6 (tw @a5 (tw @ag0 (tw @ag1 (tw @a0 (tw @a1 (tw @hj (tw @il (tw @aA.eq_1 (tw @ag (tw @iT (tw @gi (tw @fB (tw @iJ (tw @x1 (tw @x2 (tw @x3 (tw @vX (tw @vA (tw @vF @bq.eq_1)))))))))))))))))))) ?_;(repeat(refine Pn.mk ?_;intro N hN))))<;>(try refine eR ?_ ?_)<;>(try((repeat(revert hN;revert N;apply Pn.out));refine wk (tw @a6 (tw @a5 (tw @ag0 (tw @ag1 (tw @a0 (tw @a1 (tw @hj (tw @il (tw @aA.eq_1 (tw @ag (tw @iT (tw @gi (tw @fB (tw @iJ (tw @x1 (tw @x2 (tw @x3 (tw @vX (tw @vA (tw @vF @bq.eq_1)))))))))))))))))))) ?_;(repeat(refine Pn.mk ?_;intro N hN))))<;>(try refine eR ?_ ?_)<;>(try((repeat(revert hN;revert N;apply Pn.out));refine wk (tw @a6 (tw @a5 (tw @ag0 (tw @ag1 (tw @a0 (tw @a1 (tw @hj (tw @il (tw @aA.eq_1 (tw @ag (tw @iT (tw @gi (tw @fB (tw @iJ (tw @x1 (tw @x2 (tw @x3 (tw @vX (tw @vA (tw @vF @bq.eq_1)))))))))))))))))))) ?_;(repeat(refine Pn.mk ?_;intro N hN))))<;>(try refine eR ?_ ?_)<;>(try((repeat(revert hN;revert N;apply Pn.out));refine wk (tw @a6 (tw @a5 (tw @ag0 (tw @ag1 (tw @a0 (tw @a1 (tw @hj (tw @il (tw @aA.eq_1 (tw @ag (tw @iT (tw @gi (tw @fB (tw @iJ (tw @x1 (tw @x2 (tw @x3 (tw @vX (tw @vA (tw @vF @bq.eq_1)))))))))))))))))))) ?_;(repeat(refine Pn.mk ?_;intro N hN))))
    all_goals
     refine⟨by simp only[go_sem, ↓reduceIte,Nat.reduceEqDiff,Nat.reduceAdd,Nat.reduceSub,Nat.reduceLeDiff,reduceCtorEq,a6,a5,ag0,ag1,a0,a1,hj,il,aA,ag,iT,gi,fB,iJ,x1,x2,x3,vX,vA,vF,bq],by simp only[go_sem, ↓reduceIte,Nat.reduceEqDiff,Nat.reduceAdd,Nat.reduceSub,Nat.reduceLeDiff,reduceCtorEq,a6,a5,ag0,ag1,a0,a1,hj,il,aA,ag,iT,gi,fB,iJ,x1,x2,x3,vX,vA,vF,bq],by simp only[go_sem, ↓reduceIte,Nat.reduceEqDiff,Nat.reduceAdd,Nat.reduceSub,Nat.reduceLeDiff,reduceCtorEq,a6,a5,ag0,ag1,a0,a1,hj,il,aA,ag,iT,gi,fB,iJ,x1,x2,x3,vX,vA,vF,bq],by simp only[go_sem, ↓reduceIte,Nat.reduceEqDiff,Nat.reduceAdd,Nat.reduceSub,Nat.reduceLeDiff,reduceCtorEq,a6,a5,ag0,ag1,a0,a1,hj,il,aA,ag,iT,gi,fB,iJ,x1,x2,x3,vX,vA,vF,bq],by simp only[go_sem, ↓reduceIte,Nat.reduceEqDiff,Nat.reduceAdd,Nat.reduceSub,Nat.reduceLeDiff,reduceCtorEq,a6,a5,ag0,ag1,a0,a1,hj,il,aA,ag,iT,gi,fB,iJ,x1,x2,x3,vX,vA,vF,bq],by simp only[go_sem, ↓reduceIte,Nat.reduceEqDiff,Nat.reduceAdd,Nat.reduceSub,Nat.reduceLeDiff,reduceCtorEq,a6,a5,ag0,ag1,a0,a1,hj,il,aA,ag,iT,gi,fB,iJ,x1,x2,x3,vX,vA,vF,bq],Hl _ (by simp only[go_sem, ↓reduceIte,Nat.reduceEqDiff,Nat.reduceAdd,Nat.reduceSub,Nat.reduceLeDiff,reduceCtorEq,a6,a5,ag0,ag1,a0,a1,hj,il,aA,ag,iT,gi,fB,iJ,x1,x2,x3,vX,vA,vF,bq,List.length_nil]) (by simp only[go_sem, ↓reduceIte,Nat.reduceEqDiff,Nat.reduceAdd,Nat.reduceSub,Nat.reduceLeDiff,reduceCtorEq,a6,a5,ag0,ag1,a0,a1,hj,il,aA,ag,iT,gi,fB,iJ,x1,x2,x3,vX,vA,vF,bq,List.map_nil,List.nil_append]) (fun i hi MC fN=>?_),bt⟩
     clear fN
     simp only[go_sem, ↓reduceIte,Nat.reduceEqDiff,Nat.reduceAdd,Nat.reduceSub,Nat.reduceLeDiff,reduceCtorEq,vX,vA,vF,eO hi,MC]
   ·simp only[List.cons.injEq,and_true]at xG
    subst xG
    have qN:=eO JM
    have y1:=dr (a:=A) (b:=id) ab
    have y2:=dr (a:=F) (b:=id) we
    have y3:=dr (a:=X) (b:=id) ab
    have e3:La.length+1<=16777216:=ab
    have z1:(La.map eN).length=La.length:=by simp
    refine eR ?_ ?_<;>(try((repeat(revert hN;revert N;apply Pn.out));refine wk (tw @a6 (tw @a5 (tw @ag0 (tw @ag1 (tw @a0 (tw @a1 (tw @hj (tw @il (tw @aA.eq_1 (tw @ag (tw @iT (tw @gi (tw @fB (tw @iJ (tw @x1 (tw @x2 (tw @x3 (tw @vX (tw @vA (tw @vF (tw @bq.eq_1 (tw @hid (tw @qN (tw @y1 (tw @y2 (tw @y3 (tw @e3 @z1))))))))))))))))))))))))))) ?_;(repeat(refine Pn.mk ?_;intro N hN))))<;>(try refine eR ?_ ?_)<;>(try((repeat(revert hN;revert N;apply Pn.out));refine wk (tw @a6 (tw @a5 (tw @ag0 (tw @ag1 (tw @a0 (tw @a1 (tw @hj (tw @il (tw @aA.eq_1 (tw @ag (tw @iT (tw @gi (tw @fB (tw @iJ (tw @x1 (tw @x2 (tw @x3 (tw @vX (tw @vA (tw @vF (tw @bq.eq_1 (tw @hid (tw @qN (tw @y1 (tw @y2 (tw @y3 (tw @e3 @z1))))))))))))))))))))))))))) ?_;(repeat(refine Pn.mk ?_;intro N hN))))<;>(try refine eR ?_ ?_)<;>(try((repeat(revert hN;revert N;apply Pn.out));refine wk (tw @a6 (tw @a5 (tw @ag0 (tw @ag1 (tw @a0 (tw @a1 (tw @hj (tw @il (tw @aA.eq_1 (tw @ag (tw @iT (tw @gi (tw @fB (tw @iJ (tw @x1 (tw @x2 (tw @x3 (tw @vX (tw @vA (tw @vF (tw @bq.eq_1 (tw @hid (tw @qN (tw @y1 (tw @y2 (tw @y3 (tw @e3 @z1))))))))))))))))))))))))))) ?_;(repeat(refine Pn.mk ?_;intro N hN))))<;>(try refine eR ?_ ?_)<;>(try((repeat(revert hN;revert N;apply Pn.out));refine wk (tw @a6 (tw @a5 (tw @ag0 (tw @ag1 (tw @a0 (tw @a1 (tw @hj (tw @il (tw @aA.eq_1 (tw @ag (tw @iT (tw @gi (tw @fB (tw @iJ (tw @x1 (tw @x2 (tw @x3 (tw @vX (tw @vA (tw @vF (tw @bq.eq_1 (tw @hid (tw @qN (tw @y1 (tw @y2 (tw @y3 (tw @e3 @z1))))))))))))))))))))))))))) ?_;(repeat(refine Pn.mk ?_;intro N hN))))<;>(try refine eR ?_ ?_)<;>(try((repeat(revert hN;revert N;apply Pn.out));refine wk (tw @a6 (tw @a5 (tw @ag0 (tw @ag1 (tw @a0 (tw @a1 (tw @hj (tw @il (tw @aA.eq_1 (tw @ag (tw @iT (tw @gi (tw @fB (tw @iJ (tw @x1 (tw @x2 (tw @x3 (tw @vX (tw @vA (tw @vF (tw @bq.eq_1 (tw @hid (tw @qN (tw @y1 (tw @y2 (tw @y3 (tw @e3 @z1))))))))))))))))))))))))))) ?_;(repeat(refine Pn.mk ?_;intro N hN))))<;>(try refine eR ?_ ?_)<;>(try((repeat(revert hN;revert N;apply Pn.out));refine wk (tw @a6 (tw @a5 (tw @ag0 (tw @ag1 (tw @a0 (tw @a1 (tw @hj (tw @il (tw @aA.eq_1 (tw @ag (tw @iT (tw @gi (tw @fB (tw @iJ (tw @x1 (tw @x2 (tw @x3 (tw @vX (tw @vA (tw @vF (tw @bq.eq_1 (tw @hid (tw @qN (tw @y1 (tw @y2 (tw @y3 (tw @e3 @z1))))))))))))))))))))))))))) ?_;(repeat(refine Pn.mk ?_;intro N hN))))
    all_goals
     refine⟨by simp only[go_sem, ↓reduceIte,Nat.reduceEqDiff,Nat.reduceAdd,Nat.reduceSub,Nat.reduceLeDiff,reduceCtorEq,a6,a5,ag0,ag1,a0,a1,hj,il,aA,ag,iT,gi,fB,iJ,x1,x2,x3,vX,vA,vF,bq,hid,qN,y1,y2,y3,e3,z1],by simp only[go_sem, ↓reduceIte,Nat.reduceEqDiff,Nat.reduceAdd,Nat.reduceSub,Nat.reduceLeDiff,reduceCtorEq,a6,a5,ag0,ag1,a0,a1,hj,il,aA,ag,iT,gi,fB,iJ,x1,x2,x3,vX,vA,vF,bq,hid,qN,y1,y2,y3,e3,z1],by simp only[go_sem, ↓reduceIte,Nat.reduceEqDiff,Nat.reduceAdd,Nat.reduceSub,Nat.reduceLeDiff,reduceCtorEq,a6,a5,ag0,ag1,a0,a1,hj,il,aA,ag,iT,gi,fB,iJ,x1,x2,x3,vX,vA,vF,bq,hid,qN,y1,y2,y3,e3,z1],by simp only[go_sem, ↓reduceIte,Nat.reduceEqDiff,Nat.reduceAdd,Nat.reduceSub,Nat.reduceLeDiff,reduceCtorEq,a6,a5,ag0,ag1,a0,a1,hj,il,aA,ag,iT,gi,fB,iJ,x1,x2,x3,vX,vA,vF,bq,hid,qN,y1,y2,y3,e3,z1],by simp only[go_sem, ↓reduceIte,Nat.reduceEqDiff,Nat.reduceAdd,Nat.reduceSub,Nat.reduceLeDiff,reduceCtorEq,a6,a5,ag0,ag1,a0,a1,hj,il,aA,ag,iT,gi,fB,iJ,x1,x2,x3,vX,vA,vF,bq,hid,qN,y1,y2,y3,e3,z1],by simp only[go_sem, ↓reduceIte,Nat.reduceEqDiff,Nat.reduceAdd,Nat.reduceSub,Nat.reduceLeDiff,reduceCtorEq,a6,a5,ag0,ag1,a0,a1,hj,il,aA,ag,iT,gi,fB,iJ,x1,x2,x3,vX,vA,vF,bq,hid,qN,y1,y2,y3,e3,z1],Hl _ (by simp only[go_sem, ↓reduceIte,Nat.reduceEqDiff,Nat.reduceAdd,Nat.reduceSub,Nat.reduceLeDiff,reduceCtorEq,a6,a5,ag0,ag1,a0,a1,hj,il,aA,ag,iT,gi,fB,iJ,x1,x2,x3,vX,vA,vF,bq,hid,qN,y1,y2,y3,e3,z1,List.length_nil]) (by simp only[go_sem, ↓reduceIte,Nat.reduceEqDiff,Nat.reduceAdd,Nat.reduceSub,Nat.reduceLeDiff,reduceCtorEq,a6,a5,ag0,ag1,a0,a1,hj,il,aA,ag,iT,gi,fB,iJ,x1,x2,x3,vX,vA,vF,bq,hid,qN,y1,y2,y3,e3,z1,List.map_nil,List.nil_append]) (fun i hi MC fN=>?_),bt⟩
     have gW:=fN id rfl
     simp only[go_sem, ↓reduceIte,Nat.reduceEqDiff,Nat.reduceAdd,Nat.reduceSub,Nat.reduceLeDiff,reduceCtorEq,vX,vA,vF,eO hi,MC,gW]
 ·have gL:j=bs.length:=ab
  subst gL
  (try((repeat(revert hN;revert N;apply Pn.out));refine wk (tw @a6 (tw @a5 (tw @ag0 (tw @ag1 (tw @a0 (tw @a1 @hj)))))) ?_;(repeat(refine Pn.mk ?_;intro N hN))))
  exact gm (.inl rfl) (by simp only[eU,gK,go_sem, ↓reduceIte,Nat.reduceEqDiff,Nat.reduceAdd,Nat.reduceSub,Nat.reduceLeDiff,reduceCtorEq];rfl) ⟨X,A,F,rfl,hXs,⟨ag0,⟨rows,ids,ag,hR,kN,fun x hx=>by have:=mY x hx;(try dsimp only);omega⟩,ag1,hXA,hAF,bt⟩⟩
theorem pN.frame {A:Id} {lo nx vB:Nat} {L:List (List Nat)} {g g':Rows} (h:pN A lo L g nx) (hA:A.cq<nx) (hf:∀i:Id,i.cq<nx->lo<i.cq∨i=A->g' i=g i) (hn:nx<=vB):pN A lo L g' vB:=by
 obtain⟨rows,ids,h1,h2,h3,h4⟩:=h
 refine⟨rows,ids,(hf A hA (.inr rfl)).trans h1,h2.frame Lw fun i hi=>hf i (h4 i hi).2 (.inl (h4 i hi).1),h3,fun i hi=>?_⟩
 have:=h4 i hi;omega
theorem nh.frame {cnt:Nat} {bs:List PB} {f:Nat->Int} {X A F:Id} {g g':Rows} {nx vB:Nat} (h:nh cnt bs f X A F g nx) (hf:∀i:Id,i.cq<nx->g' i=g i) (hn:nx<=vB):nh cnt bs f X A F g' vB:=by
 have h1:=h.xa;have h2:=h.af;have h3:=h.fn
 exact⟨(hf X ab).trans h.x,h.a.frame ab (fun i hi _=>hf i hi) hn,(hf F h3).trans h.f,h1,h2,ab⟩
theorem nh.Pg {cnt:Nat} {bs:List PB} {f f':Nat->Int} {X A F:Id} {g g':Rows} {nx vB:Nat} (h:nh cnt bs f X A F g nx) (hF:g' F=some ⟨true,1,dJ f' bs.length⟩) (hf:∀i:Id,i.cq<nx->(i=F)=False->g' i=g i) (hn:nx<=vB):nh cnt bs f' X A F g' vB:=by
 have h1:=h.xa;have h2:=h.af;have h3:=h.fn
 refine⟨(hf X ab (dr ab).1).trans h.x,h.a.frame ab (fun i hi jS=>hf i hi ?_) hn,hF,h1,h2,ab⟩
 rcases jS with jS|rfl
 ·exact(dr jS).2
 ·exact(dr h2).1
theorem Nn (cnt:Nat) (bs:List PB) (f:Nat->Int) (hs:Small bs f) (e v:Nat) (he:e<bs.length) (X A F:Id) (σ:ax) (nx:Nat) (hS:nh cnt bs f X A F σ.get nx) (hn:nx<=σ.next):
  Call Tryz.prog 183 [.ptr X 0 0,.int .i64 v,.int .i64 e] σ fun r σ'=>nh cnt bs (sj bs f e v) X A F σ'.get nx/\σ.next<=σ'.next/\∀i:Id,(i=F)=False->σ'.get i=σ.get i:=by
 refine eW dM rfl fun hl=>?_
 clear hl
 have hX:=hS.x
 have hF:=hS.f
 have hb:=sK he
 have Si:=dC (f:=f) he
 have tl:=dt f bs.length
 obtain⟨⟨s0,s1⟩,s2,s3⟩:=hs e he
 have hei:(e:Int)<(bs.length:Int):=ab
 have w1:IntKind.i64.wrap (f e+1)=f e+1:=aT ab
 have w2:IntKind.i64.wrap (f e-1)=f e+-1:=by rw[aT ab];omega
 rw[ar]at Si
 unfold sj
 by_cases h:(bU bs e).a=v
 ·have dP:(dJ f bs.length).set e (ar (f e+1))=dJ (fun j=>f j+if j=e then(if (bU bs e).a=v then 1 else -1)else 0) bs.length:=kC he (by rw[if_pos rfl,if_pos h]) fun i _ hi=>by rw[if_neg hi,Int.add_zero]
  rw[ar]at dP
  generalize QW:bU bs e=b at *
  have hd:decide ((b.a:Int)=(v:Int))=true:=decide_eq_true (by rw[h])
  (try((repeat(revert hN;revert N;apply Pn.out));refine wk (tw @hX (tw @hF (tw @hb (tw @Si (tw @tl (tw @hei (tw @w1 (tw @dP (tw @hd (tw @aA.eq_1 @bq.eq_1)))))))))) ?_;(repeat(refine Pn.mk ?_;intro N hN))))
  exact gm (.inr rfl) (vs:=[]) rfl ⟨hS.Pg (sd @Nat.zero_add) (fun i hi gW=>sd @gW) (Nat.le_refl _),bt,fun i gW=>sd @gW⟩
 ·have dP:(dJ f bs.length).set e (ar (f e+-1))=dJ (fun j=>f j+if j=e then(if (bU bs e).a=v then 1 else -1)else 0) bs.length:=kC he (by rw[if_pos rfl,if_neg h]) fun i _ hi=>by rw[if_neg hi,Int.add_zero]
  rw[ar]at dP
  generalize QW:bU bs e=b at *
  have hd:decide ((b.a:Int)=(v:Int))=false:=decide_eq_false fun hc=>h ab
  (try((repeat(revert hN;revert N;apply Pn.out));refine wk (tw @hX (tw @hF (tw @hb (tw @Si (tw @tl (tw @hei (tw @w2 (tw @dP (tw @hd (tw @aA.eq_1 @bq.eq_1)))))))))) ?_;(repeat(refine Pn.mk ?_;intro N hN))))
  exact gm (.inr rfl) (vs:=[]) rfl ⟨hS.Pg (sd @Nat.zero_add) (fun i hi gW=>sd @gW) (Nat.le_refl _),bt,fun i gW=>sd @gW⟩
structure ni (bs:List PB) (out:Nat->Int) (f f':Nat->Int) (x v:Nat):Prop where
 le:∀i,i<bs.length->f' i<=(bU bs i).s/\-(bU bs i).s<=f' i
 cut:∀S:Nat->Bool,Eg S bs f'=Eg S bs f+bi (S x)-bi (S v)
 Ai:∀e,e<bs.length->out (bU bs e).a<=out v->out (bU bs e).b<=out v->f' e=f e
section
variable {cnt:Nat} {bs:List PB} {out:Nat->Int} {f f':Nat->Int} {x v y:Nat}
theorem ni.start (h:∀i,i<bs.length->f i<=(bU bs i).s/\-(bU bs i).s<=f i):ni bs out f f x x:=⟨h,fun S=>ab,fun _ _ _ _=>rfl⟩
theorem ni.step (h:ni bs out f f' x v) {e:Nat} (he:e<bs.length) (hi:CN bs e v) (hr:0<fu bs f' e v) (hd:out (bB bs e v)=out v-1):ni bs out f (sj bs f' e v) x (bB bs e v):=by
 refine⟨fun i oR=>?_,fun S=>?_,fun i oR ha hb=>?_⟩
 ·have h1:=h.le i oR
  unfold sj
  by_cases I2:i=e
  ·subst I2
   rw[if_pos rfl]
   unfold fu at hr
   split at hr<;>rename_i hc
   ·rw[if_pos hc];omega
   ·rw[if_neg hc];omega
  ·rw[if_neg I2];omega
 ·rw[Eh he hi,h.cut S];omega
 ·have I2:i≠e:=by
   rintro rfl
   rcases hi with hi|hi
   ·rw[hi]at ha;omega
   ·rw[hi]at hb;omega
  unfold sj
  rw[if_neg I2,Int.add_zero]
  exact h.Ai i oR ab ab
theorem ni.goes (h:ni bs out f f' x v) (hs:w5 cnt bs f y out) (hv:v<cnt) (h0:0<out v):∃e∈iC bs bs.length v,0<fu bs f' e v/\out (bB bs e v)=out v-1:=by
 obtain⟨e,h1,h2,h3,h4⟩:=hs.down v hv h0
 refine⟨e,ql.2 ⟨h1,h2⟩,?_,h4⟩
 have hf:f' e=f e:=by
  refine h.Ai e h1 ?_ ?_
  ·unfold bB at h4
   split at h4
   ·rename_i ha;rw[ha];exact Int.le_refl _
   ·omega
  ·unfold bB at h4
   rcases h2 with h2|h2
   ·rw[if_pos h2]at h4;omega
   ·rw[h2];exact Int.le_refl _
 unfold fu at h3 ⊢
 rw[hf];exact h3
theorem ni.done {val:Int} (h:ni bs out f f' x y) (hf:jD bs f x y val):jD bs f' x y (val+1):=
 ⟨h.le,fun S hx hy=>by rw[h.cut S,hf.cut S hx hy,hx,hy];simp[bi]⟩
theorem Cx {val:Int} (hs:w5 cnt bs f y out) (ok:mE cnt bs) (hf:jD bs f x y val) (hx:out x<0):∃S:Nat->Bool,S x=true/\S y=false/\val=iI S bs:=by
 refine⟨fun v=>decide (out v<0),decide_eq_true hx,decide_eq_false (by rw[hs.first];omega),hf.full (decide_eq_true hx) (decide_eq_false (by rw[hs.first];omega)) fun i hi r8=>⟨fun h1 h2 hr=>?_,fun h1 h2 hr=>?_⟩⟩
 ·have Pk:=of_decide_eq_true h1
  have yE:=of_decide_eq_false h2
  have:=hs.shut i (bU bs i).a hi (.inl rfl) (by unfold bB;rw[if_pos rfl];omega) hr
  omega
 ·have Pk:=of_decide_eq_true h1
  have yE:=of_decide_eq_false h2
  have:=hs.shut i (bU bs i).b hi (.inr rfl) (by unfold bB;rw[if_neg r8];omega) hr
  omega
end
theorem uD {bs:List PB} {f:Nat->Int} (ev:∀e,e<bs.length->0<=(bU bs e).s/\(bU bs e).s<=4) (h:∀i,i<bs.length->f i<=(bU bs i).s/\-(bU bs i).s<=f i):Small bs f:=fun e he=>by
 have:=ev e he;have:=h e he;omega
theorem pN.at_ {A:Id} {lo nx v:Nat} {L:List (List Nat)} {l:List Nat} {g:Rows} (h:pN A lo L g nx) (hv:L[v]? =some l) (hl:0<l.length):∃(rows:List (List AV)) (id:Id),g A=some ⟨true,1,rows⟩/\rows.length=L.length/\rows[v]? =some [.own id 0 l.length]/\g id=some ⟨true,1,l.map eN⟩/\lo<id.cq/\id.cq<nx:=by
 obtain⟨rows,ids,h1,h2,h3,h4⟩:=h
 have hk:v<L.length:=(List.getElem?_eq_some_iff.1 hv).1
 obtain⟨cs,ic,dq,hR,ME⟩:=h2.at_ v hk
 rw[kc hv hk]at hR
 rcases hR with⟨h5,_⟩|⟨id,rfl,_,h6,rfl⟩
 ·subst h5;simp at hl
 ·have:=h4 id (ME id (by simp))
  exact⟨rows,id,h1,h2.len,dq,h6,this.1,this.2⟩
theorem Mj (cnt:Nat) (hn:cnt<=1048576) (bs:List PB) (ok:mE cnt bs) (pI:bs.length<=1048576) (ev:∀e,e<bs.length->0<=(bU bs e).s/\(bU bs e).s<=4) (f:Nat->Int) (x y:Nat) (hx:x<cnt) (hy:y<cnt) (M5:x≠y) (val:Int) (hf:jD bs f x y val)
  (X A F:Id) (σ:ax) (nb:Nat) (hS:nh cnt bs f X A F σ.get nb) (tT:nb<=σ.next):
  Call Tryz.prog 166 [.ptr X 0 0,.int .i64 x,.int .i64 y] σ fun r σ'=>∃b f',r=.bool b/\nh cnt bs f' X A F σ'.get nb/\σ.next<=σ'.next/\(∀i:Id,i.cq<nb->(i=F)=False->σ'.get i=σ.get i)/\
   (b=false->f'=f/\∃S:Nat->Bool,S x=true/\S y=false/\val=iI S bs)/\(b=true->jD bs f' x y (val+1)):=by
 refine eW dM rfl fun hl=>?_
 clear hl
 have yK:(x:Int)<(cnt:Int):=ab
 have hz:∀(g:Rows),(∀i:Id,i.cq<nb->g i=σ.get i)->cm (dE g) 6 [.ptr X 0 0,.int .i64 (y:Int)]=some [.cJ (fy cnt bs f),.int .i64 y]:=fun g hg=>by
  have:=(hS.frame hg (Nat.le_refl _)).fz
  simp only[ad,aj,this,aI,Option.map_some]
 (try((repeat(revert hN;revert N;apply Pn.out));refine wk @Nat.zero_add ?_;(repeat(refine Pn.mk ?_;intro N hN))))
 refine .inr (aO _ _ _ _ _ (fun r σ1 hq=>?_) ((DI cnt hn bs ok pI f (uD ev hf.le) y hy).x mixed (hz _ (fun i hi=>rfl))))
 obtain⟨⟨out,rfl,MV⟩,rfl⟩:=hq
 refine hN _ _ ?_
 clear hN N
 have hox:=dC (f:=out) hx
 have tl:=dt out cnt
 by_cases jH:out x<0
 ·(try((repeat(revert hN;revert N;apply Pn.out));refine wk (tw @hox (tw @jH (tw @yK (tw @tl @ar.eq_1)))) ?_;(repeat(refine Pn.mk ?_;intro N hN))))
  exact gm (.inl rfl) (vs:=[.bool false]) (sd @Nat.zero_add) ⟨false,f,rfl,hS.frame (fun i hi=>rfl) (Nat.le_refl _),bt,fun i _ _=>rfl,fun _=>⟨rfl,Cx MV ok hf jH⟩,fun h=>by cases h⟩
 (try((repeat(revert hN;revert N;apply Pn.out));refine wk (tw @hox (tw @jH (tw @yK (tw @tl @ar.eq_1)))) ?_;(repeat(refine Pn.mk ?_;intro N hN))))
 refine aP (fun m env st=>∃(v:Nat) (f':Nat->Int),m=(out v).toNat/\v<cnt/\0<=out v/\env 8=.int .i64 (v:Int)/\ni bs out f f' x v/\nh cnt bs f' X A F st.get nb/\(∀i:Id,i.cq<nb->(i=F)=False->st.get i=σ.get i)/\σ.next<=st.next) (out x).toNat ⟨x,f,rfl,hx,ab,by(simp only[go_sem, ↓reduceIte,Nat.reduceEqDiff,Nat.reduceAdd,Nat.reduceSub,Nat.reduceLeDiff,reduceCtorEq]),ni.start hf.le,hS.frame (fun i hi=>rfl) (Nat.le_refl _),fun i _ _=>rfl,bt⟩ ?_
 rintro m env_b st_b ⟨v,f',rfl,hv,kO,b8,hW,hN1,lr,hle⟩ bfr
 have b0:=bfr 0 (by kernel_rfl)
 have b2:=bfr 2 (by kernel_rfl)
 have b7:=bfr 7 (by kernel_rfl)
 simp only[go_sem, ↓reduceIte,Nat.reduceEqDiff,Nat.reduceAdd,Nat.reduceSub,Nat.reduceLeDiff,reduceCtorEq]at b0 b2 b7
 clear bfr
 by_cases Re:v=y
 ·have hd:decide ((v:Int)=(y:Int))=true:=decide_eq_true (by rw[Re])
  subst Re
  (try((repeat(revert hN;revert N;apply Pn.out));refine wk (tw @b0 (tw @b2 (tw @b7 (tw @b8 @hd)))) ?_;(repeat(refine Pn.mk ?_;intro N hN))))
  exact gm (.inl rfl) (vs:=[.bool true]) (sd @Nat.zero_add) ⟨true,f',rfl,hN1,bt,lr,fun h=>(by cases h),fun _=>hW.done hf⟩
 have hd:decide ((v:Int)=(y:Int))=false:=decide_eq_false fun h=>Re ab
 have yI:0<out v:=by
  have:=MV.zero v hv
  rcases Int.lt_or_eq_of_le kO with h|h
  ·exact h
  ·exact absurd (this h.symm) Re
 have Li:=hW.goes MV hv yI
 have hIm:∀ed∈iC bs bs.length v,ed<bs.length/\CN bs ed v:=fun ed h=>ql.1 h
 have hIL:(kP cnt bs bs.length)[v]? =some (iC bs bs.length v):=by simp[kP,hv]
 have hIl:=qk bs bs.length v
 generalize iC bs bs.length v=I at *
 have hIp:0<I.length:=by
  obtain⟨ed,h,_⟩:=Li
  exact List.length_pos_of_mem h
 obtain⟨rows,id,hgA,oI,lv,hid,hid1,hid2⟩:=hN1.a.at_ hIL hIp
 rw[iV]at oI
 have hgX:=hN1.x
 have BO:(v:Int)<(cnt:Int):=ab
 have sE:=dC (f:=out) hv
 have pv:IntKind.i64.wrap (out v-1)=out v-1:=aT (by have:=MV.lo v hv;omega)
 have po:(I.map eN).length=I.length:=by simp
 have JX:=uD ev hW.le
 have k5:∀(g:Rows),(∀i:Id,i.cq<nb->g i=st_b.get i)->∀ed:Nat,cm (dE g) 6 [.ptr X 0 0,.int .i64 (v:Int),.int .i64 (ed:Int)]=some [.cJ (fy cnt bs f'),.int .i64 v,.int .i64 ed]:=fun g hg ed=>by
  have:=(hN1.frame hg (Nat.le_refl _)).fz
  simp only[ad,aj,this,aI,Option.map_some]
 rw[ar]at sE
 (try((repeat(revert hN;revert N;apply Pn.out));refine wk (tw @b0 (tw @b2 (tw @b7 (tw @b8 @hd)))) ?_;(repeat(refine Pn.mk ?_;intro N hN))))
 refine aP (fun n env st=>∃k:Nat,n=(I.length)-k/\k<=(I.length)/\env 11=.int .i64 (k:Int)/\(∃(wK CT:Int),env 9=.int .i64 wK/\env 10=.int .i64 CT/\((wK<0/\∀z,z<k->¬(0<fu bs f' (I.getD z 0) v/\out (bB bs (I.getD z 0) v)=out v-1))∨∃ed:Nat,ed∈I/\CT=(ed:Int)/\wK=(bB bs ed v:Int)/\0<fu bs f' ed v/\out (bB bs ed v)=out v-1))/\((∀i:Id,st.get i=st_b.get i)/\st_b.next<=st.next)) (I.length) ⟨0,ab,ab,sl (tw @b0 (tw @b2 (tw @b7 @b8))),⟨-1,0,by(simp only[go_sem, ↓reduceIte,Nat.reduceEqDiff,Nat.reduceAdd,Nat.reduceSub,Nat.reduceLeDiff,reduceCtorEq]),by(simp only[go_sem, ↓reduceIte,Nat.reduceEqDiff,Nat.reduceAdd,Nat.reduceSub,Nat.reduceLeDiff,reduceCtorEq]),.inl ⟨ab,fun z hz=>ab⟩⟩,⟨fun i=>rfl,bt⟩⟩ ?_
 rintro n_c env_c st_c ⟨k,rfl,cle,mQ,cI0,cI1⟩ cfr
 have c0:=cfr 0 (by kernel_rfl);have c2:=cfr 2 (by kernel_rfl);have c7:=cfr 7 (by kernel_rfl);have c8:=cfr 8 (by kernel_rfl)
 simp only[go_sem, ↓reduceIte,Nat.reduceEqDiff,Nat.reduceAdd,Nat.reduceSub,Nat.reduceLeDiff,reduceCtorEq,b0,b2,b7,b8]at c0 c2 c7 c8
 clear cfr
 obtain⟨wK,CT,c9,jf,G5⟩:=cI0
 obtain⟨lH,QX⟩:=cI1
 have BG:=(lH X).trans hgX
 have BF:=(lH A).trans hgA
 have BI:=(lH id).trans hid
 by_cases hk:(k:Int)<(I.length:Int)
 ·have gJ:∀{e:Env} {gg:Rows} {nx:Nat},(e 11=.int .i64 (IntKind.i64.wrap ((k:Int)+1)))->(∃(wK CT:Int),e 9=.int .i64 wK/\e 10=.int .i64 CT/\((wK<0/\∀z,z<(k+1)->¬(0<fu bs f' (I.getD z 0) v/\out (bB bs (I.getD z 0) v)=out v-1))∨∃ed:Nat,ed∈I/\CT=(ed:Int)/\wK=(bB bs ed v:Int)/\0<fu bs f' ed v/\out (bB bs ed v)=out v-1))->((∀i:Id,gg i=st_b.get i)/\st_b.next<=nx)->∃m0,m0<(I.length)-k/\∃k:Nat,m0=(I.length)-k/\k<=(I.length)/\e 11=.int .i64 (k:Int)/\(∃(wK CT:Int),e 9=.int .i64 wK/\e 10=.int .i64 CT/\((wK<0/\∀z,z<k->¬(0<fu bs f' (I.getD z 0) v/\out (bB bs (I.getD z 0) v)=out v-1))∨∃ed:Nat,ed∈I/\CT=(ed:Int)/\wK=(bB bs ed v:Int)/\0<fu bs f' ed v/\out (bB bs ed v)=out v-1))/\((∀i:Id,gg i=st_b.get i)/\st_b.next<=nx):=fun x1 x2 x3=>⟨_,ab,k+1,rfl,ab,(by rw[x1,ay ab]),x2,x3⟩
  have dX:k<I.length:=ab
  have eB:(I.map eN)[k]? =some (eN (I.getD k 0)):=getD_map eN dX
  have rq:I.getD k 0∈I:=by rw[List.getD_eq_getElem?_getD,List.getElem?_eq_getElem dX];exact List.getElem_mem dX
  obtain⟨he,oH⟩:=hIm _ rq
  have MT:=Ik cnt bs f' JX (I.getD k 0) v he
  have sb:=k5 st_c.get (fun i _=>lH i) (I.getD k 0)
  have hq:=nP ok (v:=v) he
  have Oq:=dC (f:=out) hq
  obtain⟨ed,hed⟩:∃ed,ed=I.getD k 0:=⟨_,rfl⟩
  rw[<-hed]at eB he oH MT sb hq Oq rq
  rw[ar]at Oq
  rw[eN]at eB
  (try((repeat(revert hN;revert N;apply Pn.out));refine wk (tw @mQ (tw @c0 (tw @c2 (tw @c7 (tw @c8 (tw @c9 (tw @jf (tw @hk (tw @BG (tw @BF (tw @BI (tw @lv (tw @oI (tw @BO (tw @eB (tw @po @bq.eq_1)))))))))))))))) ?_;(repeat(refine Pn.mk ?_;intro N hN))))
  refine .inl ⟨_,ae.x MT sb,?_⟩
  refine hN _ _ ?_
  clear hN N
  have stay:∀k',k'=k+1->(¬(0<fu bs f' ed v/\out (bB bs ed v)=out v-1))->((wK<0/\∀z,z<k'->¬(0<fu bs f' (I.getD z 0) v/\out (bB bs (I.getD z 0) v)=out v-1))∨∃ed:Nat,ed∈I/\CT=(ed:Int)/\wK=(bB bs ed v:Int)/\0<fu bs f' ed v/\out (bB bs ed v)=out v-1):=fun k' JO la=>by
   rcases G5 with⟨h1,h2⟩|h
   ·refine .inl ⟨h1,fun z hz=>?_⟩
    by_cases BQ:z=k
    ·subst BQ;rw[<-hed];exact la
    ·exact h2 z ab
   ·exact .inr h
  by_cases hr:0<fu bs f' ed v
  ·by_cases Og:out (bB bs ed v)=out v-1
   ·have sD:decide (out (bB bs ed v)=out v-1)=true:=decide_eq_true Og
    have found:∃OY:Nat,OY∈I/\(ed:Int)=(OY:Int)/\(bB bs ed v:Int)=(bB bs OY v:Int)/\0<fu bs f' OY v/\out (bB bs OY v)=out v-1:=⟨ed,rq,rfl,rfl,hr,Og⟩
    by_cases I7:wK<0
    ·(try((repeat(revert hN;revert N;apply Pn.out));refine wk (tw @mQ (tw @c0 (tw @c2 (tw @c7 (tw @c8 (tw @c9 (tw @jf (tw @hk (tw @BG (tw @BF (tw @BI (tw @lv (tw @oI (tw @BO (tw @eB (tw @po (tw @hr (tw @Oq (tw @sE (tw @pv (tw @sD (tw @I7 @bq.eq_1)))))))))))))))))))))) ?_;(repeat(refine Pn.mk ?_;intro N hN))))
     exact gJ (sd (tw @mQ (tw @c0 (tw @c2 (tw @c7 @c8))))) (⟨_,_,sd @Nat.zero_add,sd @Nat.zero_add,.inr found⟩) (⟨lH,bt⟩)
    ·by_cases dD:(bB bs ed v:Int)<wK
     ·(try((repeat(revert hN;revert N;apply Pn.out));refine wk (tw @mQ (tw @c0 (tw @c2 (tw @c7 (tw @c8 (tw @c9 (tw @jf (tw @hk (tw @BG (tw @BF (tw @BI (tw @lv (tw @oI (tw @BO (tw @eB (tw @po (tw @hr (tw @Oq (tw @sE (tw @pv (tw @sD (tw @I7 (tw @dD @bq.eq_1))))))))))))))))))))))) ?_;(repeat(refine Pn.mk ?_;intro N hN))))
      exact gJ (sd (tw @mQ (tw @c0 (tw @c2 (tw @c7 @c8))))) (⟨_,_,sd @Nat.zero_add,sd @Nat.zero_add,.inr found⟩) (⟨lH,bt⟩)
     ·(try((repeat(revert hN;revert N;apply Pn.out));refine wk (tw @mQ (tw @c0 (tw @c2 (tw @c7 (tw @c8 (tw @c9 (tw @jf (tw @hk (tw @BG (tw @BF (tw @BI (tw @lv (tw @oI (tw @BO (tw @eB (tw @po (tw @hr (tw @Oq (tw @sE (tw @pv (tw @sD (tw @I7 (tw @dD @bq.eq_1))))))))))))))))))))))) ?_;(repeat(refine Pn.mk ?_;intro N hN))))
      exact gJ (sd (tw @mQ (tw @c0 (tw @c2 (tw @c7 @c8))))) (⟨wK,CT,sd @c9,sd @jf,by
       rcases G5 with⟨h1,_⟩|h
       ·exact absurd h1 I7
       ·exact .inr h⟩) (⟨lH,bt⟩)
   ·have sD:decide (out (bB bs ed v)=out v-1)=false:=decide_eq_false Og
    (try((repeat(revert hN;revert N;apply Pn.out));refine wk (tw @mQ (tw @c0 (tw @c2 (tw @c7 (tw @c8 (tw @c9 (tw @jf (tw @hk (tw @BG (tw @BF (tw @BI (tw @lv (tw @oI (tw @BO (tw @eB (tw @po (tw @hr (tw @Oq (tw @sE (tw @pv (tw @sD @bq.eq_1))))))))))))))))))))) ?_;(repeat(refine Pn.mk ?_;intro N hN))))
    exact gJ (sd (tw @mQ (tw @c0 (tw @c2 (tw @c7 @c8))))) (⟨wK,CT,sd @c9,sd @jf,stay _ rfl fun h=>Og h.2⟩) (⟨lH,bt⟩)
  ·(try((repeat(revert hN;revert N;apply Pn.out));refine wk (tw @mQ (tw @c0 (tw @c2 (tw @c7 (tw @c8 (tw @c9 (tw @jf (tw @hk (tw @BG (tw @BF (tw @BI (tw @lv (tw @oI (tw @BO (tw @eB (tw @po (tw @hr @bq.eq_1))))))))))))))))) ?_;(repeat(refine Pn.mk ?_;intro N hN))))
   exact gJ (sd (tw @mQ (tw @c0 (tw @c2 (tw @c7 @c8))))) (⟨wK,CT,sd @c9,sd @jf,stay _ rfl fun h=>hr h.1⟩) (⟨lH,bt⟩)
 ·have lu:k=I.length:=ab
  have Sj:∃ed:Nat,ed∈I/\CT=(ed:Int)/\wK=(bB bs ed v:Int)/\0<fu bs f' ed v/\out (bB bs ed v)=out v-1:=by
   rcases G5 with⟨h1,h2⟩|h
   ·exfalso
    obtain⟨ed,he,hq⟩:=Li
    obtain⟨z,hz,rfl⟩:=List.getElem_of_mem he
    refine h2 z ab ?_
    rw[List.getD_eq_getElem?_getD,List.getElem?_eq_getElem hz];exact hq
   ·exact h
  obtain⟨ed,rq,rfl,rfl,hr,Og⟩:=Sj
  obtain⟨he,oH⟩:=hIm _ rq
  (try((repeat(revert hN;revert N;apply Pn.out));refine wk (tw @mQ (tw @c0 (tw @c2 (tw @c7 (tw @c8 (tw @c9 (tw @jf (tw @hk (tw @BG (tw @BF (tw @BI (tw @lv (tw @oI (tw @BO (tw @po @bq.eq_1))))))))))))))) ?_;(repeat(refine Pn.mk ?_;intro N hN))))
  refine .inr (aO _ _ _ _ _ (fun r σ1 hq=>?_) (Nn cnt bs f' JX ed v he X A F ⟨st_c.get,_⟩ nb (hN1.frame (fun i _=>lH i) (Nat.le_refl _)) bt))
  obtain⟨QT,mb,Hc⟩:=hq
  (try dsimp only at mb Hc)
  refine hN _ _ ?_
  clear hN N
  (try((repeat(revert hN;revert N;apply Pn.out));refine wk (tw @mQ (tw @c0 (tw @c2 (tw @c7 (tw @c8 @c9))))) ?_;(repeat(refine Pn.mk ?_;intro N hN))))
  refine⟨_,?_,bB bs ed v,sj bs f' ed v,rfl,nP ok he,ab,sd @Nat.zero_add,hW.step he oH hr Og,QT,fun i hi hF=>by rw[Hc i hF,lH i,lr i hi hF],bt⟩
  omega
def rS (P:Program) (f:Nat) (args:List AV) (R:AV->Prop):Prop:=∀σ:ax,Call P f args ⟨V.ro σ.get,σ.next⟩ fun r0 σ'=>∃r',V.fz σ'.get 6 r0=some r'/\R r'
theorem Bt {P:Program} {f:Nat} {args:List AV} {g:Rows} {n:Nat} {R:AV->Prop} (h:Sound P f args ⟨V.ro g,n⟩ fun r0 σ'=>∃r',V.fz σ'.get 6 r0=some r'/\R r'):Sound P f args ⟨g,n⟩ fun r σ'=>R r/\σ'=⟨g,n⟩:=by
 intro hs D ι w vs S U A
 refine(yM (g0:=g) (K:=R) h (fun _ _ h=>h) S U A).mono ?_
 rintro e w' ⟨r,D',u,rfl,hR,T,S',hr⟩
 exact⟨r,g,n,D',ι,u,rfl,⟨hR,rfl⟩,T,S',U,Nat.le_refl _,hr⟩
theorem rS.x {P:Program} (hm:P.follows .mixedOrders=true) {f:Nat} {args:List AV} {R:AV->Prop} (h:rS P f args R) {σ:ax}:Call P f args σ fun r σ'=>R r/\σ'=σ:=
 iv (Bt (gN hm (h σ)))
theorem rS.body {P:Program} {f:Nat} {args:List AV} {R:AV->Prop} {nt na:Nat} {body:VC} {res:List oC} (hf:kK P f=some ⟨nt,na,body,res⟩) (ha:na=args.length) (h:(∀a∈args,eE a)->∀σ:ax,ea (Call P) body (lj res fun r0 σ'=>∃r',V.fz σ'.get 6 r0=some r'/\R r') (cu args) ⟨V.ro σ.get,σ.next⟩):rS P f args R:=fun σ=>ly hf ha fun hl=>h hl σ
theorem Kj {g:Rows} {rows:List (List AV)} {xs:List (List Nat)} {ids:List Id} (n:Nat) (h:dw N5 g rows xs ids):dz g (n+2) rows=some (xs.map fun l=>[Nx l]):=by
 induction h with
 |nil=>rw[dz];rfl
 |cons h1 _ ih=>
  rename_i x _ _ _ _ _
  rcases h1 with⟨h0,h1,_⟩|⟨id,h1,h0,h2,_⟩
  ·subst h0 h1;rw[dz,ih,ad,aj,aW];rfl
  ·have gW:x≠[]:=by rintro rfl;simp at h0
   subst h1
   rw[dz,ih,ad,aj,e6 (e:=eN) (sz:=1) h2 rfl fun a=>fzN _ n a]
   simp[Nx,gW]
theorem nh.fz0 {cnt:Nat} {bs:List PB} {f:Nat->Int} {X A F:Id} {g:Rows} {nx:Nat} (h:nh cnt bs f X A F g nx):V.fz g 5 (.ptr X 0 0)=some (.cJ (fy cnt bs f)):=by
 have hf:V.fz g 4 (.own F 0 bs.length)=some (.sl (dJ f bs.length)):=by
  rw[fS]
  simp only[h.f,if_true]
  rw[if_pos (by rw[dt];omega),List.drop_zero,List.take_of_length_le (by rw[dt];omega),ym];rfl
 have ha:V.fz g 4 (.own A 0 cnt)=some (.sl (o7 cnt bs bs.length)):=by
  obtain⟨rows,ids,h1,h2,_,_⟩:=h.a
  have hl:=h2.len
  rw[iV]at hl
  rw[fS]
  simp only[h1,if_true]
  rw[if_pos ab,List.drop_zero,List.take_of_length_le ab,Kj 1 h2]
  simp[kP,o7]
 rw[bo]
 simp only[h.x,if_true,List.getElem?_cons_zero,List.drop_zero,bq,ad,aj,aI,cj,ha,hf,Option.map_some,fy]
theorem CU {S:Nat->Bool}:∀bs:List PB,(∀b∈bs,b.s<=4)->iI S bs<=4*bs.length
 |[],_=>by simp[iI]
 |b::bs,h=>by
  rw[re]
  have:=CU (S:=S) bs fun x hx=>h x (List.mem_cons_of_mem _ hx)
  have:=h b (by simp)
  simp only[List.length_cons]
  split<;>omega
theorem jD.zero {bs:List PB} {x y:Nat} (h:∀e,e<bs.length->0<=(bU bs e).s/\(bU bs e).s<=4):jD bs (fun _=>0) x y 0:=
 ⟨fun i hi=>by have:=h i hi;omega,fun S _ _=>jv fun i _=>by simp⟩
theorem Ji {bs:List PB} {b:PB} (h:b∈bs):∃e,e<bs.length/\bU bs e=b:=by
 obtain⟨e,he,rfl⟩:=List.getElem_of_mem h
 exact⟨e,he,by simp[bU,List.getD_eq_getElem?_getD,he]⟩
theorem EY (cnt:Nat) (hn:cnt<=1048576) (bs:List PB) (ok:mE cnt bs) (pI:bs.length<=1048576) (ev:∀e,e<bs.length->0<=(bU bs e).s/\(bU bs e).s<=4) (x y:Nat) (hx:x<cnt) (hy:y<cnt) (M5:x≠y):
  rS Tryz.prog 150 [.int .i64 cnt,.sl (bs.map aA),.int .i64 x,.int .i64 y] fun r=>∃f val,r=.iL [.cJ (fy cnt bs f),.int .i64 val]/\jD bs f x y val/\∃S:Nat->Bool,S x=true/\S y=false/\val=iI S bs:=by
 refine rS.body dM rfl fun hl σ=>?_
 clear hl
 (try((repeat(revert hN;revert N;apply Pn.out));refine wk @Nat.zero_add ?_;(repeat(refine Pn.mk ?_;intro N hN))))
 refine .inr (aO _ _ _ _ _ (fun r σ1 hq=>?_) (HC cnt hn bs ok pI _))
 obtain⟨X,A,F,rfl,hX,hS⟩:=hq
 refine hN _ _ ?_
 clear hN N
 have hS0:∀f val,jD bs f x y val->val<=iI (fun v=>decide (v=x)) bs:=fun f val hf=>hf.bound (decide_eq_true rfl) (decide_eq_false fun h=>M5 h.symm)
 have htot:=CU (S:=fun v=>decide (v=x)) bs fun b hb=>by
  obtain⟨e,he,rfl⟩:=Ji hb
  exact(ev e he).2
 generalize iI (fun v=>decide (v=x)) bs=T at *
 (try((repeat(revert hN;revert N;apply Pn.out));refine wk @Nat.zero_add ?_;(repeat(refine Pn.mk ?_;intro N hN))))
 refine aP (fun m env st=>∃(f:Nat->Int) (val:Int),m=(T-val).toNat/\0<=val/\env 10=.ptr X 0 0/\env 11=.int .i64 val/\jD bs f x y val/\nh cnt bs f X A F st.get σ1.next/\σ1.next<=st.next) T.toNat ⟨_,0,by simp,ab,by(simp only[go_sem, ↓reduceIte,Nat.reduceEqDiff,Nat.reduceAdd,Nat.reduceSub,Nat.reduceLeDiff,reduceCtorEq]),by(simp only[go_sem, ↓reduceIte,Nat.reduceEqDiff,Nat.reduceAdd,Nat.reduceSub,Nat.reduceLeDiff,reduceCtorEq]),jD.zero ev,hS.frame (fun i hi=>rfl) (Nat.le_refl _),bt⟩ ?_
 rintro m env_b st_b ⟨f,val,rfl,kO,b10,b11,hf,hN1,hle⟩ bfr
 have b2:=bfr 2 (by kernel_rfl)
 have b3:=bfr 3 (by kernel_rfl)
 simp only[go_sem, ↓reduceIte,Nat.reduceEqDiff,Nat.reduceAdd,Nat.reduceSub,Nat.reduceLeDiff,reduceCtorEq]at b2 b3
 clear bfr
 (try((repeat(revert hN;revert N;apply Pn.out));refine wk (tw @b2 (tw @b3 @b10)) ?_;(repeat(refine Pn.mk ?_;intro N hN))))
 refine .inr (aO _ _ _ _ _ (fun r σ2 hq=>?_) (Mj cnt hn bs ok pI ev f x y hx hy M5 val hf X A F ⟨st_b.get,_⟩ σ1.next hN1 bt))
 obtain⟨b,f',rfl,QT,mb,_,la,SZ⟩:=hq
 (try dsimp only at mb)
 refine hN _ _ ?_
 clear hN N
 cases b with
 |true=>
  have kI:=SZ rfl
  have FX:=hS0 _ _ hf
  have FY:=hS0 _ _ kI
  have hw:IntKind.i64.wrap (val+1)=val+1:=aT ab
  (try((repeat(revert hN;revert N;apply Pn.out));refine wk (tw @b10 (tw @b11 @hw)) ?_;(repeat(refine Pn.mk ?_;intro N hN))))
  exact⟨_,ab,f',val+1,rfl,ab,sd @b10,sd (tw @b11 @hw),kI,QT,bt⟩
 |false=>
  obtain⟨rfl,S,h1,h2,h3⟩:=la rfl
  (try((repeat(revert hN;revert N;apply Pn.out));refine wk (tw @b10 @b11) ?_;(repeat(refine Pn.mk ?_;intro N hN))))
  have hz:=QT.fz0
  exact⟨[.ptr X 0 0,.int .i64 val],sd @Nat.zero_add,.iL [.cJ (fy cnt bs f'),.int .i64 val],by simp only[eF,bG,ad,aj,hz,aI,Option.map_some],f',val,rfl,hf,S,h1,h2,h3⟩
theorem EZ (cnt:Nat) (hn:cnt<=1048576) (bs:List PB) (ok:mE cnt bs) (pI:bs.length<=1048576) (f:Nat->Int) (hs:Small bs f) (y:Nat) (hy:y<cnt):
  mB Tryz.prog 151 [.cJ (fy cnt bs f),.int .i64 y] fun r=>∃l:List Nat,r=.sl (l.map eN)/\l.length<=cnt:=by
 refine mB.body dM rfl fun hl n0=>?_
 clear hl
 have hz:∀g:Rows,cm (dE g) 6 [.cJ (fy cnt bs f),.int .i64 (y:Int)]=some [.cJ (fy cnt bs f),.int .i64 y]:=fun g=>by simp only[ad,aj,aV,aI,Option.map_some]
 (try((repeat(revert hN;revert N;apply Pn.out));refine wk @Nat.zero_add ?_;(repeat(refine Pn.mk ?_;intro N hN))))
 refine .inr (aO _ _ _ _ _ (fun r σ1 hq=>?_) ((DI cnt hn bs ok pI f hs y hy).x mixed (hz _)))
 obtain⟨⟨out,rfl,MV⟩,rfl⟩:=hq
 refine hN _ _ ?_
 clear hN N
 (try((repeat(revert hN;revert N;apply Pn.out));refine wk @fy.eq_1 ?_;(repeat(refine Pn.mk ?_;intro N hN))))
 refine aP (fun n env st=>∃k:Nat,n=(cnt)-k/\k<=(cnt)/\env 7=.int .i64 (k:Int)/\(∃(o:Id) (l:List Nat),env 6=.own o 0 l.length/\st.get o=some ⟨true,1,l.map eN⟩/\o.cq<st.next/\l.length<=k)) (cnt) ⟨0,ab,ab,sl @fy.eq_1,⟨⟨151002000,n0+1+1+1⟩,[],by(simp only[go_sem, ↓reduceIte,Nat.reduceEqDiff,Nat.reduceAdd,Nat.reduceSub,Nat.reduceLeDiff,reduceCtorEq])<;>rfl,by(simp only[go_sem, ↓reduceIte,Nat.reduceEqDiff,Nat.reduceAdd,Nat.reduceSub,Nat.reduceLeDiff,reduceCtorEq])<;>rfl,bt,by simp⟩⟩ ?_
 rintro n_a env_a st_a ⟨k,rfl,ale,a7,jW⟩ dm
 have a0:=dm 0 (by kernel_rfl);have a5:=dm 5 (by kernel_rfl)
 simp only[go_sem, ↓reduceIte,Nat.reduceEqDiff,Nat.reduceAdd,Nat.reduceSub,Nat.reduceLeDiff,reduceCtorEq,fy]at a0 a5
 clear dm
 obtain⟨o,l,a6,ag,sE,xI⟩:=jW
 have kO:=eO sE
 have gw:(l.map eN).length=l.length:=by simp
 by_cases hk:(k:Int)<(cnt:Int)
 ·have bD:∀{e:Env} {gg:Rows} {nx:Nat},(e 7=.int .i64 (IntKind.i64.wrap ((k:Int)+1)))->(∃(o:Id) (l:List Nat),e 6=.own o 0 l.length/\gg o=some ⟨true,1,l.map eN⟩/\o.cq<nx/\l.length<=(k+1))->∃m0,m0<(cnt)-k/\∃k:Nat,m0=(cnt)-k/\k<=(cnt)/\e 7=.int .i64 (k:Int)/\(∃(o:Id) (l:List Nat),e 6=.own o 0 l.length/\gg o=some ⟨true,1,l.map eN⟩/\o.cq<nx/\l.length<=k):=fun x1 x2=>⟨_,ab,k+1,rfl,ab,(by rw[x1,ay ab]),x2⟩
  have tU:=dC (f:=out) (show k<cnt by omega)
  rw[ar]at tU
  have e1:l.length+1<=16777216:=ab
  by_cases h0:0<=out k
  ·(try((repeat(revert hN;revert N;apply Pn.out));refine wk (tw @a7 (tw @a0 (tw @a5 (tw @a6 (tw @ag (tw @kO (tw @hk (tw @tU (tw @h0 (tw @e1 (tw @gw @fy.eq_1))))))))))) ?_;(repeat(refine Pn.mk ?_;intro N hN))))
   exact bD (sd (tw @a7 (tw @a0 (tw @a5 @fy.eq_1)))) (⟨⟨151007003,st_a.next+1+1⟩,l++[k],by rw[List.length_append];simp only[go_sem, ↓reduceIte,Nat.reduceEqDiff,Nat.reduceAdd,Nat.reduceSub,Nat.reduceLeDiff,reduceCtorEq,List.length_cons,List.length_nil],by rw[List.map_append,List.map_cons,List.map_nil];simp only[go_sem, ↓reduceIte,Nat.reduceEqDiff,Nat.reduceAdd,Nat.reduceSub,Nat.reduceLeDiff,reduceCtorEq,eN],bt,by simp;omega⟩)
  ·(try((repeat(revert hN;revert N;apply Pn.out));refine wk (tw @a7 (tw @a0 (tw @a5 (tw @a6 (tw @ag (tw @kO (tw @hk (tw @tU (tw @h0 (tw @gw @fy.eq_1)))))))))) ?_;(repeat(refine Pn.mk ?_;intro N hN))))
   exact bD (sd (tw @a7 (tw @a0 (tw @a5 @fy.eq_1)))) (⟨o,l,sd @a6,sd @ag,bt,ab⟩)
 ·(try((repeat(revert hN;revert N;apply Pn.out));refine wk (tw @a7 (tw @a0 (tw @a5 (tw @a6 (tw @hk @fy.eq_1))))) ?_;(repeat(refine Pn.mk ?_;intro N hN))))
  have rn:fC st_a.get 6 (.own o 0 l.length)=some (.sl (l.map eN)):=fG ag rfl fun b=>Mh _ 4 b
  exact⟨_,rfl,_,by simp only[go_sem, ↓reduceIte,Nat.reduceEqDiff,Nat.reduceAdd,Nat.reduceSub,Nat.reduceLeDiff,reduceCtorEq,eF];exact rn,l,rfl,ab⟩
theorem z2 (v1 v2:Int) (l1 l2:List Nat) (h1:l1.length<=1048576) (h2:l2.length<=1048576):
  mB Tryz.prog 152 [.int .i64 v1,.sl (l1.map eN),.int .i64 v2,.sl (l2.map eN)] fun r=>∃b,r=.bool b/\(v1<v2->b=true)/\(v2<v1->b=false):=by
 refine mB.body dM rfl fun hl n0=>?_
 clear hl
 have ret:∀{t:Nat} {env:Env} {σ:ax} {b:Bool} {x:Ex},(x=.ret∨x=.normal)->env t=.bool b->((v1<v2->b=true)/\(v2<v1->b=false))->lj [.tmp t] (fun r0 σ'=>∃r',fC σ'.get 6 r0=some r'/\∃b,r'=.bool b/\(v1<v2->b=true)/\(v2<v1->b=false)) x env σ:=by
  intro t env σ b x hx he hb
  have:∃vs,eU env σ.get [.tmp t]=some vs/\∃r',fC σ.get 6 (eF vs)=some r'/\∃b,r'=.bool b/\(v1<v2->b=true)/\(v2<v1->b=false):=⟨[env t],rfl,.bool b,by rw[he];exact e9 _ _ _,b,rfl,hb⟩
  rcases hx with rfl|rfl
  ·exact this
  ·exact this
 have m1:(l1.map eN).length=l1.length:=by simp
 have m2:(l2.map eN).length=l2.length:=by simp
 by_cases hv:v1=v2
 ·have hd:decide (v1=v2)=true:=decide_eq_true hv
  by_cases xI:(l1.length:Int)=(l2.length:Int)
  ·have sD:decide ((l1.length:Int)=(l2.length:Int))=true:=decide_eq_true xI
   have Sb:decide (l1.length=l2.length)=true:=decide_eq_true ab
   (try((repeat(revert hN;revert N;apply Pn.out));refine wk (tw @hd (tw @sD (tw @Sb (tw @m1 @m2)))) ?_;(repeat(refine Pn.mk ?_;intro N hN))))
   refine aP (fun n env st=>∃k:Nat,n=(l1.length)-k/\k<=(l1.length)/\env 9=.int .i64 (k:Int)) (l1.length) ⟨0,ab,ab,sl @Nat.zero_add⟩ ?_
   rintro n_a env_a st_a ⟨k,rfl,ale,a9⟩ dm
   have a1:=dm 1 (by kernel_rfl);have a3:=dm 3 (by kernel_rfl)
   simp only[go_sem, ↓reduceIte,Nat.reduceEqDiff,Nat.reduceAdd,Nat.reduceSub,Nat.reduceLeDiff,reduceCtorEq]at a1 a3
   clear dm
   by_cases hk:(k:Int)<(l1.length:Int)
   ·have bD:∀{e:Env},(e 9=.int .i64 (IntKind.i64.wrap ((k:Int)+1)))->∃m0,m0<(l1.length)-k/\∃k:Nat,m0=(l1.length)-k/\k<=(l1.length)/\e 9=.int .i64 (k:Int):=fun x1=>⟨_,ab,k+1,rfl,ab,(by rw[x1,ay ab])⟩
    have g1:(l1.map eN)[k]? =some (eN (l1.getD k 0)):=getD_map eN ab
    have g2:(l2.map eN)[k]? =some (eN (l2.getD k 0)):=getD_map eN ab
    rw[eN]at g1 g2
    by_cases he:((l1.getD k 0:Nat):Int)=((l2.getD k 0:Nat):Int)
    ·have Sc:decide (((l1.getD k 0:Nat):Int)=((l2.getD k 0:Nat):Int))=true:=decide_eq_true he
     have Sd:decide (l1.getD k 0=l2.getD k 0)=true:=decide_eq_true ab
     (try((repeat(revert hN;revert N;apply Pn.out));refine wk (tw @a9 (tw @a1 (tw @a3 (tw @hk (tw @m1 (tw @g1 (tw @g2 (tw @Sc @Sd)))))))) ?_;(repeat(refine Pn.mk ?_;intro N hN))))
     exact bD (sd (tw @a9 (tw @a1 @a3)))
    ·have Sc:decide (((l1.getD k 0:Nat):Int)=((l2.getD k 0:Nat):Int))=false:=decide_eq_false he
     have Sd:decide (l1.getD k 0=l2.getD k 0)=false:=decide_eq_false ab
     (try((repeat(revert hN;revert N;apply Pn.out));refine wk (tw @a9 (tw @a1 (tw @a3 (tw @hk (tw @m1 (tw @g1 (tw @g2 (tw @Sc @Sd)))))))) ?_;(repeat(refine Pn.mk ?_;intro N hN))))
     exact ret (.inl rfl) (by simp only[go_sem, ↓reduceIte,Nat.reduceEqDiff,Nat.reduceAdd,Nat.reduceSub,Nat.reduceLeDiff,reduceCtorEq];rfl) ⟨fun h=>ab,fun h=>ab⟩
   ·(try((repeat(revert hN;revert N;apply Pn.out));refine wk (tw @a9 (tw @a1 (tw @a3 (tw @hk @m1)))) ?_;(repeat(refine Pn.mk ?_;intro N hN))))
    exact ret (b:=false) (.inl rfl) (sd @Nat.zero_add) ⟨fun h=>ab,fun h=>ab⟩
  ·have sD:decide ((l1.length:Int)=(l2.length:Int))=false:=decide_eq_false xI
   have Sb:decide (l1.length=l2.length)=false:=decide_eq_false ab
   (try((repeat(revert hN;revert N;apply Pn.out));refine wk (tw @hd (tw @sD (tw @Sb (tw @m1 @m2)))) ?_;(repeat(refine Pn.mk ?_;intro N hN))))
   exact ret (.inl rfl) (by simp only[go_sem, ↓reduceIte,Nat.reduceEqDiff,Nat.reduceAdd,Nat.reduceSub,Nat.reduceLeDiff,reduceCtorEq];rfl) ⟨fun h=>ab,fun h=>ab⟩
 ·have hd:decide (v1=v2)=false:=decide_eq_false hv
  (try((repeat(revert hN;revert N;apply Pn.out));refine wk @hd ?_;(repeat(refine Pn.mk ?_;intro N hN))))
  exact ret (b:=decide (v1<v2)) (.inl rfl) (sd @Nat.zero_add) ⟨fun h=>decide_eq_true h,fun h=>decide_eq_false ab⟩
def ta (bs:List PB) (cnt:Nat) (iQ:Int) (k:Nat):Prop:=(k=1/\iQ= -1)∨(0<=iQ/\(∀z,1<=z->z<k->∀S:Nat->Bool,S 0=true->S z=false->iQ<=iI S bs)/\∃S:Nat->Bool,S 0=true/\(∃z,z<cnt/\S z=false)/\iQ=iI S bs)
theorem jD.nn {bs:List PB} {val:Int} {S:Nat->Bool} (ev:∀e,e<bs.length->0<=(bU bs e).s/\(bU bs e).s<=4) (h:val=iI S bs):0<=val:=by
 rw[h,tt]
 have:=qH (f:=fun _=>0) (g:=fun i=>if S (bU bs i).a=S (bU bs i).b then 0 else(bU bs i).s) (n:=bs.length) fun i hi=>by
  have:=ev i hi
  split<;>omega
 rw[jv fun _ _=>rfl]at this
 exact this
theorem ta.done {bs:List PB} {cnt:Nat} {iQ:Int} (hc:2<=cnt) (h:ta bs cnt iQ cnt) (t:Int):t<=iQ↔j7 cnt bs t:=by
 rcases h with⟨h,_⟩|⟨_,h1,S,h2,⟨z,hz,k5⟩,h3⟩
 ·omega
 ·constructor
  ·intro ht S h0 ⟨y,hy,hy2⟩
   have:y≠0:=by rintro rfl;rw[h0]at hy2;cases hy2
   have:=h1 y ab hy S h0 hy2
   omega
  ·intro hH
   rw[h3];exact hH S h2 ⟨z,hz,k5⟩
theorem xO (cnt:Nat) (h2:2<=cnt) (hn:cnt<=1048576) (bs:List PB) (ok:mE cnt bs) (pI:bs.length<=1048576) (ev:∀e,e<bs.length->0<=(bU bs e).s/\(bU bs e).s<=4):
  rS Tryz.prog 128 [.int .i64 cnt,.sl (bs.map aA)] fun r=>∃iQ p,r=.iL [.int .i64 iQ,p]/\∀t:Int,t<=iQ↔j7 cnt bs t:=by
 refine rS.body dM rfl fun hl σ=>?_
 clear hl
 (try((repeat(revert hN;revert N;apply Pn.out));refine wk @Nat.zero_add ?_;(repeat(refine Pn.mk ?_;intro N hN))))
 have z0:∀(g:Rows) (id:Id),g id=some ⟨true,1,[]⟩->V.fz (dE g) 6 (.own id 0 0)=some (.sl (([]:List Nat).map eN))/\V.fz g 5 (.own id 0 0)=some (.sl (([]:List Nat).map eN)):=fun g id h=>by
  have h':dE g id=some ⟨true,1,[]⟩:=by simp[dE,h]
  constructor
  ·rw[fS];simp only[h',if_true];rw[if_pos (by simp)];simp[kW]
  ·rw[fS];simp only[h,if_true];rw[if_pos (by simp)];simp[kW]
 refine aP (fun m env st=>∃(k:Nat) (iQ:Int) (l:List Nat) (p:AV),m=cnt-k/\1<=k/\k<=cnt/\env 8=.int .i64 (k:Int)/\env 6=.int .i64 iQ/\env 7=p/\V.fz (dE st.get) 6 p=some (.sl (l.map eN))/\V.fz st.get 5 p=some (.sl (l.map eN))/\l.length<=cnt/\ta bs cnt iQ k) (cnt-1) ⟨1,-1,[],.own ⟨128002000,σ.next+1+1⟩ 0 0,rfl,ab,ab,by(simp only[go_sem, ↓reduceIte,Nat.reduceEqDiff,Nat.reduceAdd,Nat.reduceSub,Nat.reduceLeDiff,reduceCtorEq])<;>rfl,by(simp only[go_sem, ↓reduceIte,Nat.reduceEqDiff,Nat.reduceAdd,Nat.reduceSub,Nat.reduceLeDiff,reduceCtorEq])<;>rfl,by(simp only[go_sem, ↓reduceIte,Nat.reduceEqDiff,Nat.reduceAdd,Nat.reduceSub,Nat.reduceLeDiff,reduceCtorEq])<;>rfl,(z0 _ _ (sd @Nat.zero_add)).1,(z0 _ _ (sd @Nat.zero_add)).2,by simp,.inl ⟨rfl,rfl⟩⟩ ?_
 rintro m env_b st_b ⟨k,iQ,l,p,rfl,r9,tP,b8,b6,b7,yL,k5,hl,hB⟩ bfr
 have b0:=bfr 0 (by kernel_rfl)
 have b1:=bfr 1 (by kernel_rfl)
 simp only[go_sem, ↓reduceIte,Nat.reduceEqDiff,Nat.reduceAdd,Nat.reduceSub,Nat.reduceLeDiff,reduceCtorEq]at b0 b1
 clear bfr z0
 by_cases hk:(k:Int)<(cnt:Int)
 ·have dX:k<cnt:=ab
  have hFl:=EY cnt hn bs ok pI ev 0 k ab dX ab
  rw[show(((0:Nat):Int))=0 from rfl]at hFl
  (try((repeat(revert hN;revert N;apply Pn.out));refine wk (tw @b0 (tw @b1 (tw @b6 (tw @b7 (tw @b8 @hk))))) ?_;(repeat(refine Pn.mk ?_;intro N hN))))
  refine .inr (aO _ _ _ _ _ (fun r σ1 hq=>?_) (hFl.x mixed))
  obtain⟨⟨f,val,rfl,hf,S,JC,JD,Of⟩,rfl⟩:=hq
  refine hN _ _ ?_
  clear hN N
  have JX:=uD ev hf.le
  have qg:=jD.nn (val:=val) ev Of
  (try((repeat(revert hN;revert N;apply Pn.out));refine wk (tw @b0 (tw @b1 (tw @b6 (tw @b7 @b8)))) ?_;(repeat(refine Pn.mk ?_;intro N hN))))
  refine .inr (aO _ _ _ _ _ (fun r σ1 hq=>?_) ((EZ cnt hn bs ok pI f JX k dX).x mixed (by simp only[ad,aj,aV,aI,Option.map_some])))
  obtain⟨⟨l',rfl,I5⟩,rfl⟩:=hq
  refine hN _ _ ?_
  clear hN N
  have hw:IntKind.i64.wrap ((k:Int)+1)=((k+1:Nat):Int):=ay ab
  have Qw:(∀z,1<=z->z<k->∀S:Nat->Bool,S 0=true->S z=false->val<=iI S bs)->ta bs cnt val (k+1):=fun h=>.inr ⟨qg,fun z yL k5 S' h0 h1=>by
   by_cases sb:z=k
   ·subst sb;exact hf.bound h0 h1
   ·exact h z yL ab S' h0 h1,S,JC,⟨k,dX,JD⟩,Of⟩
  by_cases jH:iQ<0
  ·have zF:k=1:=by
    rcases hB with⟨h,_⟩|⟨h,_⟩
    ·exact h
    ·omega
   (try((repeat(revert hN;revert N;apply Pn.out));refine wk (tw @b0 (tw @b1 (tw @b6 (tw @b7 (tw @b8 (tw @jH @hw)))))) ?_;(repeat(refine Pn.mk ?_;intro N hN))))
   refine⟨_,?_,k+1,val,l',.sl (l'.map eN),rfl,ab,ab,sd (tw @b8 @hw),sd @Nat.zero_add,sd @Nat.zero_add,cj _ _ _,cj _ _ _,I5,Qw fun z h1 h2=>ab⟩
   omega
  ·have zF:(∀z,1<=z->z<k->∀S:Nat->Bool,S 0=true->S z=false->iQ<=iI S bs)/\∃S:Nat->Bool,S 0=true/\(∃z,z<cnt/\S z=false)/\iQ=iI S bs:=by
    rcases hB with⟨_,h⟩|⟨_,h⟩
    ·omega
    ·exact h
   (try((repeat(revert hN;revert N;apply Pn.out));refine wk (tw @b0 (tw @b1 (tw @b6 (tw @b7 (tw @b8 (tw @jH @hw)))))) ?_;(repeat(refine Pn.mk ?_;intro N hN))))
   refine .inr (aO _ _ _ _ _ (fun r σ1 hq=>?_) ((z2 val iQ l' l ab ab).x mixed (by simp only[ad,aj,cj,aI,yL,Option.map_some])))
   obtain⟨⟨b,rfl,FX,FY⟩,rfl⟩:=hq
   refine hN _ _ ?_
   clear hN N
   cases b with
   |true=>
    have SR:val<=iQ:=by
     rcases Int.lt_or_le iQ val with h|h
     ·exact absurd (FY h) (by simp)
     ·exact h
    (try((repeat(revert hN;revert N;apply Pn.out));refine wk (tw @b0 (tw @b1 (tw @b6 (tw @b7 (tw @b8 @hw))))) ?_;(repeat(refine Pn.mk ?_;intro N hN))))
    refine⟨_,?_,k+1,val,l',.sl (l'.map eN),rfl,ab,ab,sd (tw @b8 @hw),sd @Nat.zero_add,sd @Nat.zero_add,cj _ _ _,cj _ _ _,I5,Qw fun z h1 h2 S' h3 h4=>by have:=zF.1 z h1 h2 S' h3 h4;omega⟩
    omega
   |false=>
    have SR:iQ<=val:=by
     rcases Int.lt_or_le val iQ with h|h
     ·exact absurd (FX h) (by simp)
     ·exact h
    (try((repeat(revert hN;revert N;apply Pn.out));refine wk (tw @b0 (tw @b1 (tw @b6 (tw @b7 (tw @b8 @hw))))) ?_;(repeat(refine Pn.mk ?_;intro N hN))))
    refine⟨_,?_,k+1,iQ,l,p,rfl,ab,ab,sd (tw @b8 @hw),sd @b6,sd @b7,yL,k5,hl,.inr ⟨ab,fun z h1 h2 S' h3 h4=>?_,zF.2⟩⟩
    ·omega
    ·by_cases sb:z=k
     ·subst sb;have:=hf.bound h3 h4;omega
     ·exact zF.1 z h1 ab S' h3 h4
 ·have lu:k=cnt:=ab
  (try((repeat(revert hN;revert N;apply Pn.out));refine wk (tw @b0 (tw @b1 (tw @b6 (tw @b7 (tw @b8 @hk))))) ?_;(repeat(refine Pn.mk ?_;intro N hN))))
  exact⟨[.int .i64 iQ,p],sd @Nat.zero_add,.iL [.int .i64 iQ,.sl (l.map eN)],by simp only[eF,bG,ad,aj,k5,aI,Option.map_some],iQ,_,rfl,ta.done h2 (lu▸hB)⟩
theorem KN {s:aw} (hS:lY s) (a d:Int):uE s (dc (dd s a) d)<=4:=by
 have hF:=hS.form
 have fN:dc (dd s a) d=0∨(0<=dc (dd s a) d/\dc (dd s a) d<=s.au.length):=by
  unfold dc dd
  rw[List.getD_eq_getElem?_getD,List.getD_eq_getElem?_getD]
  rcases ht:s.ah[a.toNat]? with _|t
  ·exact .inl (by simp[Cb])
  ·have htm:=List.mem_of_getElem? ht
   simp only[Option.getD_some]
   rcases hg:t.bp[d.toNat]? with _|g
   ·exact .inl rfl
   ·exact .inr (hF.r6 t htm g (List.mem_of_getElem? hg))
 unfold uE
 by_cases h0:dc (dd s a) d=0
 ·rw[if_pos h0];omega
 ·rw[if_neg h0]
  have hk:(dc (dd s a) d-1).toNat<s.au.length:=ab
  have:=dB (hS.RH _ hk).2.1
  unfold oP at this
  unfold iA
  omega
theorem GB {s:aw} (hS:lY s) (a d b:Int):iR s a d b<=4:=by
 unfold iR
 split
 ·exact KN hS a d
 ·omega
theorem Ea {s:aw} {l:List ao} (hS:lY s) {i:Nat} (hi:i<l.length) {d:Int}:∀b∈l5 s l i d,b.a<l.length/\b.b<l.length/\0<=b.s/\b.s<=4:=by
 intro b hb
 unfold l5 at hb
 split at hb
 ·rename_i h
  simp only[List.mem_singleton]at hb
  subst hb
  exact⟨hi,(sV h.1).1,by simp only;omega,GB hS ..⟩
 ·cases hb
theorem vO {s:aw} {l:List ao} (hS:lY s):∀b∈cv s l,b.a<l.length/\b.b<l.length/\0<=b.s/\b.s<=4:=by
 intro b hb
 simp only[cv,gp,fE,List.mem_flatMap,List.mem_range]at hb
 obtain⟨i,hi,j,_,hb⟩:=hb
 exact Ea hS hi b hb
theorem o8 {s:aw} {l:List ao} (hF:j6 l):(cv s l).length<=1000:=by
 have:=rV s l l.length
 have:=hF.FW
 rw[cv];omega
theorem Gu {bs:List PB} {e:Nat} (h:e<bs.length):bU bs e∈bs:=by
 rw[bU,List.getD_eq_getElem?_getD,List.getElem?_eq_getElem h];exact List.getElem_mem h
theorem EG {n:Nat} {bs:List PB} {t:Int} (h:n<2):j7 n bs t:=fun S h0 ⟨y,hy,hf⟩=>by
 have:y=0:=ab
 subst this;rw[h0]at hf;cases hf
def gS (s:aw) (l:List ao) (t:Int):Nat:=(leads l.length (dS (aJ t (cv s l)))).length
noncomputable def mN (s:aw) (l:List ao) (t:Int):Bool:=@decide (n8 l.length (cv s l) t) (Classical.propDecidable _)
def rj (s:aw) (l:List ao) (t:Int):Int:=if 64<gS s l t then 4 else 0
theorem lR {s:aw} {l:List ao} {t:Int} {p:Prop} [Decidable p] (h:p↔n8 l.length (cv s l) t):decide p=mN s l t:=by
 letI:=Classical.propDecidable (n8 l.length (cv s l) t)
 unfold mN
 by_cases hp:p
 ·rw[decide_eq_true hp];exact(decide_eq_true (h.1 hp)).symm
 ·rw[decide_eq_false hp];exact(decide_eq_false fun k=>hp (h.2 k)).symm
theorem z4 (s:aw) (l:List ao) (t:Int) (hS:lY s) (hA:qU s l):ae Tryz.prog 94 [.cJ (aa s),.cJ [.sl (l.map ai)],.int .i64 t] (.iL [.bool (mN s l t),.int .i64 (rj s l t)]):=by
 refine ae.body dM rfl fun hl n0=>?_
 clear hl
 have hb:=vO (l:=l) hS
 have pI:=o8 (s:=s) hA.1
 have PF:=hA.1.FW
 have zH:=BY s l hS.form hA
 have I9:=z3 l.length ab (cv s l) (fun b h=>⟨(hb b h).1,(hb b h).2.1⟩) ab t
 have hL:=sf (aJ t (cv s l))
 have fN:=Cu hL (fun b h=>⟨(hb b h).1,(hb b h).2.1⟩)
 have hlen:=(mj (dS (aJ t (cv s l))) (cv s l)).2
 have lq:=jr l.length (dS (aJ t (cv s l)))
 have fH:(l.map ai).length=l.length:=by simp
 by_cases sy:(64:Int)<(gS s l t:Int)
 ·have sC:64<gS s l t:=ab
  have hd:mN s l t=false:=(lR (p:=False) ⟨False.elim,fun h=>by have:=h.1;unfold gS at sC;omega⟩).symm.trans (by simp)
  rw[gS]at sy
  (repeat(first|((repeat(revert hN;revert N;apply Pn.out));refine wk (tw @aa.eq_1 (tw @sy @fH)) ?_;(repeat(refine Pn.mk ?_;intro N hN)))|((try apply Or.inl);refine⟨_,ae.x (zH) (sd (tw @aa.eq_1 (tw @sy @fH))),?_⟩;refine hN _ _ ?_;clear hN N)|((try apply Or.inl);refine⟨_,ae.x (I9) (sd (tw @aa.eq_1 (tw @sy @fH))),?_⟩;refine hN _ _ ?_;clear hN N)))
  exact jc (.inl rfl) (r1:=.bool false) (r2:=.int .i64 4) (sd @Nat.zero_add) (sd @Nat.zero_add) (by rw[hd,rj,if_pos sC];simp only[eX,br,bV,e9,eA,Option.map_some])
 have sC:¬64<gS s l t:=ab
 have hf:rj s l t=0:=by rw[rj,if_neg sC]
 by_cases h2:(gS s l t:Int)<2
 ·have hd:mN s l t=true:=(lR (p:=True) ⟨fun _=>⟨by unfold gS at sC;omega,EG (by unfold gS at h2;omega)⟩,fun _=>trivial⟩).symm.trans (by simp)
  rw[gS]at sy h2
  (repeat(first|((repeat(revert hN;revert N;apply Pn.out));refine wk (tw @aa.eq_1 (tw @sy (tw @h2 @fH))) ?_;(repeat(refine Pn.mk ?_;intro N hN)))|((try apply Or.inl);refine⟨_,ae.x (zH) (sd (tw @aa.eq_1 (tw @sy (tw @h2 @fH)))),?_⟩;refine hN _ _ ?_;clear hN N)|((try apply Or.inl);refine⟨_,ae.x (I9) (sd (tw @aa.eq_1 (tw @sy (tw @h2 @fH)))),?_⟩;refine hN _ _ ?_;clear hN N)))
  exact jc (.inl rfl) (r1:=.bool true) (r2:=.int .i64 0) (sd @Nat.zero_add) (sd @Nat.zero_add) (by rw[hd,hf];simp only[eX,br,bV,e9,eA,Option.map_some])
 have M3:=xO (gS s l t) ab (by unfold gS;omega) (eP (dS (aJ t (cv s l))) (cv s l)) (fun e he=>by have:=fN _ (Gu he);exact⟨this.1,this.2.1,this.2.2.1⟩) ab (fun e he=>by
  obtain⟨_,_,_,c,hc,dq⟩:=fN _ (Gu he)
  rw[dq];have:=hb c hc;omega)
 rw[gS]at sy h2 M3
 (repeat(first|((repeat(revert hN;revert N;apply Pn.out));refine wk (tw @aa.eq_1 (tw @sy (tw @h2 @fH))) ?_;(repeat(refine Pn.mk ?_;intro N hN)))|((try apply Or.inl);refine⟨_,ae.x (zH) (sd (tw @aa.eq_1 (tw @sy (tw @h2 @fH)))),?_⟩;refine hN _ _ ?_;clear hN N)|((try apply Or.inl);refine⟨_,ae.x (I9) (sd (tw @aa.eq_1 (tw @sy (tw @h2 @fH)))),?_⟩;refine hN _ _ ?_;clear hN N)))
 refine .inr (aO _ _ _ _ _ (fun r σ1 hq=>?_) (M3.x mixed))
 obtain⟨⟨iQ,p,rfl,Px⟩,rfl⟩:=hq
 refine hN _ _ ?_
 clear hN N
 (try((repeat(revert hN;revert N;apply Pn.out));refine wk @Nat.zero_add ?_;(repeat(refine Pn.mk ?_;intro N hN))))
 exact jc (.inl rfl) (r1:=.bool (decide (t<=iQ))) (r2:=.int .i64 0) (sd @Nat.zero_add) (sd @Nat.zero_add) (by
  rw[hf,lR (s:=s) (l:=l) (t:=t) (p:=t<=iQ) ((Px t).trans (BL.trans ⟨fun h=>⟨by unfold gS at sC;omega,h⟩,fun h=>h.2⟩))]
  simp only[eX,br,bV,e9,eA,Option.map_some])
theorem rF (t:Int):ae Tryz.prog 93 [.int .i64 t] (.bool (fI t 1 16)):=by
 refine ae.body dM rfl fun hl n0=>?_
 clear hl
 have h:=gU t 1 16
 (repeat(first|((repeat(revert hN;revert N;apply Pn.out));refine wk @Nat.zero_add ?_;(repeat(refine Pn.mk ?_;intro N hN)))|((try apply Or.inl);refine⟨_,ae.x (h) (sd @Nat.zero_add),?_⟩;refine hN _ _ ?_;clear hN N)))
 exact aC (b:=fI t 1 16) (.inl rfl) (sd @Nat.zero_add) rfl
structure Gm (s:cl):Prop where
 set:lY s.aE
 Nt:qU s.aE s.bZ.ah
 some:1<=s.bZ.ah.length
 NC:fI s.aH 1 16=true
 holds:n8 s.bZ.ah.length (cv s.aE s.bZ.ah) s.aH
noncomputable def mo (s:cl):Bool:=@decide (Gm s) (Classical.propDecidable _)
theorem uG {s:cl}:mo s=true↔Gm s:=by simp[mo]
theorem jB {s:cl} (h:¬Gm s):false=mo s:=by simp[mo,h]
theorem Au {s:cl} (h:Gm s):true=mo s:=by simp[mo,h]
theorem oy {s:aw} {l:List ao} {t:Int}:mN s l t=true↔n8 l.length (cv s l) t:=by simp[mN]
theorem Ke (s:cl) (hn:fx s.aE) (hg:s.aE.au.length<=1048576) (ht:s.aE.ah.length<=1048576):ae Tryz.prog 65 [.cJ (az s)] (.bool (mo s)):=by
 refine ae.body dM rfl fun hl n0=>?_
 clear hl
 have h1:=(Kc s.aE hn hg ht).cut mixed (.ptr _ [.sl (s.bZ.ah.map ai),.int .i64 s.aH] .nil)
 by_cases hS:lY s.aE
 ·rw[lP.2 hS]at h1
  have h2:=(Ds s.aE s.bZ.ah).cut mixed (.ptr _ [.sl (s.bZ.ah.map ai),.int .i64 s.aH] (.ptr _ [.int .i64 s.aH] .nil))
  by_cases hA:qU s.aE s.bZ.ah
  ·rw[lz.2 hA]at h2
   by_cases h0:(s.bZ.ah.length:Int)=0
   ·have hd:decide ((s.bZ.ah.length:Int)=0)=true:=decide_eq_true h0
    have la:false=mo s:=jB fun h=>by have:=h.some;omega
    generalize fH:(s.bZ.ah.map ai).length=len at *
    (repeat(first|((repeat(revert hN;revert N;apply Pn.out));refine wk (tw @az.eq_1 (tw @aa.eq_1 @hd)) ?_;(repeat(refine Pn.mk ?_;intro N hN)))|((try apply Or.inl);refine⟨_,ae.x (h1) (sd (tw @az.eq_1 (tw @aa.eq_1 @hd))),?_⟩;refine hN _ _ ?_;clear hN N)|((try apply Or.inl);refine⟨_,ae.x (h2) (sd (tw @az.eq_1 (tw @aa.eq_1 @hd))),?_⟩;refine hN _ _ ?_;clear hN N)))
    exact aC (b:=false) (.inl rfl) (sd @Nat.zero_add) la
   ·have hd:decide ((s.bZ.ah.length:Int)=0)=false:=decide_eq_false h0
    have h3:=rF s.aH
    cases hT:fI s.aH 1 16
    ·rw[hT]at h3
     (repeat(first|((repeat(revert hN;revert N;apply Pn.out));refine wk (tw @az.eq_1 (tw @aa.eq_1 @hd)) ?_;(repeat(refine Pn.mk ?_;intro N hN)))|((try apply Or.inl);refine⟨_,ae.x (h1) (sd (tw @az.eq_1 (tw @aa.eq_1 @hd))),?_⟩;refine hN _ _ ?_;clear hN N)|((try apply Or.inl);refine⟨_,ae.x (h2) (sd (tw @az.eq_1 (tw @aa.eq_1 @hd))),?_⟩;refine hN _ _ ?_;clear hN N)|((try apply Or.inl);refine⟨_,ae.x (h3) (sd (tw @az.eq_1 (tw @aa.eq_1 @hd))),?_⟩;refine hN _ _ ?_;clear hN N)))
     exact aC (b:=false) (.inl rfl) (sd @Nat.zero_add) (jB fun h=>by have:=h.NC;rw[hT]at this;cases this)
    ·rw[hT]at h3
     have h4:=(z4 s.aE s.bZ.ah s.aH hS hA).cut mixed (.ptr _ [.sl (s.bZ.ah.map ai),.int .i64 s.aH] (.ptr _ [.int .i64 s.aH] (.same _ .nil)))
     cases hB:mN s.aE s.bZ.ah s.aH
     ·rw[hB]at h4
      (repeat(first|((repeat(revert hN;revert N;apply Pn.out));refine wk (tw @az.eq_1 (tw @aa.eq_1 @hd)) ?_;(repeat(refine Pn.mk ?_;intro N hN)))|((try apply Or.inl);refine⟨_,ae.x (h1) (sd (tw @az.eq_1 (tw @aa.eq_1 @hd))),?_⟩;refine hN _ _ ?_;clear hN N)|((try apply Or.inl);refine⟨_,ae.x (h2) (sd (tw @az.eq_1 (tw @aa.eq_1 @hd))),?_⟩;refine hN _ _ ?_;clear hN N)|((try apply Or.inl);refine⟨_,ae.x (h3) (sd (tw @az.eq_1 (tw @aa.eq_1 @hd))),?_⟩;refine hN _ _ ?_;clear hN N)|((try apply Or.inl);refine⟨_,ae.x (h4) (sd (tw @az.eq_1 (tw @aa.eq_1 @hd))),?_⟩;refine hN _ _ ?_;clear hN N)))
      exact aC (b:=false) (.inl rfl) (sd @Nat.zero_add) (jB fun h=>by have:=oy.2 h.holds;rw[hB]at this;cases this)
     ·have hP:=oy.1 hB
      have hf:rj s.aE s.bZ.ah s.aH=0:=by
       have:=hP.1
       rw[rj,if_neg (by unfold gS;omega)]
      rw[hB,hf]at h4
      (repeat(first|((repeat(revert hN;revert N;apply Pn.out));refine wk (tw @az.eq_1 (tw @aa.eq_1 @hd)) ?_;(repeat(refine Pn.mk ?_;intro N hN)))|((try apply Or.inl);refine⟨_,ae.x (h1) (sd (tw @az.eq_1 (tw @aa.eq_1 @hd))),?_⟩;refine hN _ _ ?_;clear hN N)|((try apply Or.inl);refine⟨_,ae.x (h2) (sd (tw @az.eq_1 (tw @aa.eq_1 @hd))),?_⟩;refine hN _ _ ?_;clear hN N)|((try apply Or.inl);refine⟨_,ae.x (h3) (sd (tw @az.eq_1 (tw @aa.eq_1 @hd))),?_⟩;refine hN _ _ ?_;clear hN N)|((try apply Or.inl);refine⟨_,ae.x (h4) (sd (tw @az.eq_1 (tw @aa.eq_1 @hd))),?_⟩;refine hN _ _ ?_;clear hN N)))
      exact aC (b:=true) (.inl rfl) (sd @Nat.zero_add) (Au ⟨hS,hA,ab,hT,hP⟩)
  ·have hb:oD s.aE s.bZ.ah=false:=Bool.eq_false_iff.2 fun h=>hA (lz.1 h)
   rw[hb]at h2
   (repeat(first|((repeat(revert hN;revert N;apply Pn.out));refine wk (tw @az.eq_1 @aa.eq_1) ?_;(repeat(refine Pn.mk ?_;intro N hN)))|((try apply Or.inl);refine⟨_,ae.x (h1) (sd (tw @az.eq_1 @aa.eq_1)),?_⟩;refine hN _ _ ?_;clear hN N)|((try apply Or.inl);refine⟨_,ae.x (h2) (sd (tw @az.eq_1 @aa.eq_1)),?_⟩;refine hN _ _ ?_;clear hN N)))
   exact aC (b:=false) (.inl rfl) (sd @Nat.zero_add) (jB fun h=>hA h.Nt)
 ·have hb:pE s.aE=false:=Bool.eq_false_iff.2 fun h=>hS (lP.1 h)
  rw[hb]at h1
  (repeat(first|((repeat(revert hN;revert N;apply Pn.out));refine wk (tw @az.eq_1 @aa.eq_1) ?_;(repeat(refine Pn.mk ?_;intro N hN)))|((try apply Or.inl);refine⟨_,ae.x (h1) (sd (tw @az.eq_1 @aa.eq_1)),?_⟩;refine hN _ _ ?_;clear hN N)))
  exact aC (b:=false) (.inl rfl) (sd @Nat.zero_add) (jB fun h=>hS h.set)
theorem yV {s:aw} {l:List ao} (hA:qU s l) {p:cr} (h:0<=vK l p):gy s (vK l p)=true:=by
 unfold vK at h ⊢
 split at h
 ·rename_i h0
  rw[if_pos h0]
  exact hA.2 _ (qu (sV h0).1)
 ·omega
noncomputable def nu (s:cl) (l:List ao):Bool:=mo s&&oD s.aE l
theorem BZ (s:cl) (l:List ao) (hn:fx s.aE) (hg:s.aE.au.length<=1048576) (ht:s.aE.ah.length<=1048576):ae Tryz.prog 35 [.cJ (az s),.cJ [.sl (l.map ai)]] (.int .i64 (if nu s l then 0 else 1)):=by
 refine ae.body dM rfl fun hl n0=>?_
 clear hl
 have h1:=Ke s hn hg ht
 have h2:=(Ds s.aE l).cut mixed (.ptr _ [.sl (s.bZ.ah.map ai),.int .i64 s.aH] (.same _ .nil))
 cases b1:mo s
 ·rw[b1]at h1
  (repeat(first|((repeat(revert hN;revert N;apply Pn.out));refine wk @Nat.zero_add ?_;(repeat(refine Pn.mk ?_;intro N hN)))|((try apply Or.inl);refine⟨_,ae.x (h1) (sd @Nat.zero_add),?_⟩;refine hN _ _ ?_;clear hN N)))
  exact aZ (b:=1) (.inl rfl) (sd @Nat.zero_add) (by rw[nu,b1];rfl)
 rw[b1]at h1
 rw[az]at h1 ⊢
 cases b2:oD s.aE l
 ·rw[b2]at h2
  (repeat(first|((repeat(revert hN;revert N;apply Pn.out));refine wk @aa.eq_1 ?_;(repeat(refine Pn.mk ?_;intro N hN)))|((try apply Or.inl);refine⟨_,ae.x (h1) (sd @aa.eq_1),?_⟩;refine hN _ _ ?_;clear hN N)|((try apply Or.inl);refine⟨_,ae.x (h2) (sd @aa.eq_1),?_⟩;refine hN _ _ ?_;clear hN N)))
  exact aZ (b:=1) (.inl rfl) (sd @Nat.zero_add) (by rw[nu,b1,b2];rfl)
 ·rw[b2]at h2
  (repeat(first|((repeat(revert hN;revert N;apply Pn.out));refine wk @aa.eq_1 ?_;(repeat(refine Pn.mk ?_;intro N hN)))|((try apply Or.inl);refine⟨_,ae.x (h1) (sd @aa.eq_1),?_⟩;refine hN _ _ ?_;clear hN N)|((try apply Or.inl);refine⟨_,ae.x (h2) (sd @aa.eq_1),?_⟩;refine hN _ _ ?_;clear hN N)))
  exact aZ (b:=0) (.inl rfl) (sd @Nat.zero_add) (by rw[nu,b1,b2];rfl)
theorem yU {s:cl} {l:List ao}:nu s l=true↔Gm s/\qU s.aE l:=by simp[nu,uG,lz]
end Go.Proofs.YtihgaadadaekmaaGreatDoor.V

namespace Go.Proofs.YtihgaadadaekmaaGreatDoor.V
open Go.RowKit
def ik (n:Nat):ByteArray:=⟨(if n<10 then[UInt8.ofNat (48+n)]else[UInt8.ofNat (48+n / 10),UInt8.ofNat (48+n % 10)]).toArray⟩
theorem Ek {n:Nat} (h:n<10):ik n=⟨#[UInt8.ofNat (48+n)]⟩:=by rw[ik,if_pos h]
theorem GI (n:Nat):(ik n).size<=2:=by
 unfold ik
 split<;>simp[ByteArray.size]
def vU (s:ByteArray) (i:Nat):Nat:=((s[i]?).map UInt8.toNat).getD 0
theorem vV {s:ByteArray} {i:Nat} (h:i<s.size):s[i]? =some s[i]:=by
 rw[getElem?_pos s i h]
theorem tx {s:ByteArray} {i:Nat} (h:i<s.size):vU s i=s[i].toNat:=by
 rw[vU,vV h];rfl
def jN (nm pre:ByteArray) (pw:Nat):Int:=if nm.size=pre.size+1/\nm.extract 0 pre.size=pre/\48<=vU nm pre.size/\vU nm pre.size<48+pw then(vU nm pre.size:Int)-48 else -1
theorem Gw {a b:ByteArray} (h:a.data.toList=b.data.toList):a=b:=ByteArray.ext (Array.ext' h)
theorem HW {nm pre:ByteArray} {n:Nat} (h:n<10):nm=pre++ik n↔nm.size=pre.size+1/\nm.extract 0 pre.size=pre/\vU nm pre.size=48+n:=by
 rw[Ek h]
 constructor
 ·rintro rfl
  have hs:(pre++(⟨#[UInt8.ofNat (48+n)]⟩:ByteArray)).size=pre.size+1:=by rw[ByteArray.size_append];rfl
  refine⟨hs,?_,?_⟩
  ·rw[ByteArray.extract_append]
   refine Gw ?_
   simp
  ·rw[tx ab,ByteArray.getElem_append_right (Nat.le_refl _)]
   simp only[Nat.sub_self]
   show(UInt8.ofNat (48+n)).toNat= _
   rw[UInt8.toNat_ofNat']
   omega
 ·rintro⟨h1,h2,h3⟩
  rw[tx ab]at h3
  refine Gw ?_
  have e:nm.data.toList=nm.data.toList.take pre.size++nm.data.toList.drop pre.size:=(List.take_append_drop _ _).symm
  have yE:nm.data.toList.take pre.size=pre.data.toList:=by
   have:=congrArg (fun b:ByteArray=>b.data.toList) h2
   simpa using this
  have hl:nm.data.toList.length=pre.size+1:=by rw[<-h1];simp
  have h4:nm.data.toList.drop pre.size=[UInt8.ofNat (48+n)]:=by
   rw[List.drop_eq_getElem_cons ab,List.drop_eq_nil_of_le ab]
   congr 1
   rw[ByteArray.getElem_eq_getElem_data]at h3
   rw[Array.getElem_toList,<-h3]
   simp
  rw[e,yE,h4]
  simp
theorem zh {nm pre:ByteArray} {n pw:Nat} (h:n<pw) (hl:pw<=10):nm=pre++ik n↔jN nm pre pw=(n:Int):=by
 rw[HW ab,jN]
 constructor
 ·rintro⟨h1,h2,h3⟩
  rw[if_pos ⟨h1,h2,ab,ab⟩,h3];omega
 ·split
  ·rename_i h5
   intro h6
   exact⟨h5.1,h5.2.1,ab⟩
  ·intro h6;omega
theorem Jw (nm pre:ByteArray) (pw:Nat):jN nm pre pw= -1∨(0<=jN nm pre pw/\jN nm pre pw<pw):=by
 unfold jN
 split
 ·exact .inr ab
 ·exact .inl rfl
theorem Er {nm pre:ByteArray} {pw:Nat} (hl:pw<=10) (h:∀n,n<pw->nm≠pre++ik n):jN nm pre pw= -1:=by
 rcases Jw nm pre pw with h1|h1
 ·exact h1
 ·exact absurd ((zh (nm:=nm) (pre:=pre) (n:=(jN nm pre pw).toNat) ab hl).2 ab) (h _ ab)
def C9 (s:aw) (l:List ao) (p:cr) (d:Int):ByteArray:=if vK l p<0 then⟨#[]⟩else if dc (dd s (vK l p)) d=0 then⟨#[]⟩else(iA s (dc (dd s (vK l p)) d-1)).aB
theorem zi {pre:ByteArray} {pw:Nat}:jN ⟨#[]⟩ pre pw= -1:=by
 rw[jN,if_neg]
 intro h
 have:=h.1
 have h0:(⟨#[]⟩:ByteArray).size=0:=rfl
 omega
end Go.Proofs.YtihgaadadaekmaaGreatDoor.V

namespace Go.Proofs.YtihgaadadaekmaaGreatDoor.V
open Go.RowKit
attribute [local irreducible] ea wpOps gR Call
attribute [local go_sem] aM fP eL gh ga cE upd cu K.av cL AV.cells AV.cell rowOf rowsOf part ld rowAt bY ck dI ef ig bL da ez gn e7 du ek cY cX dV dW bR bm cQ bQ cT cR ei eo ej cP bW cZ eh bP aQ cV cC ib bw cH bS aY dF bu dK AV.undef bF bH dY ee dU eb cF ew eD cw eu er cU cW List.getD_cons_zero List.getD_cons_succ List.getD_nil List.all_cons List.all_nil Bool.and_true Bool.true_and Bool.and_self Bool.not_true Bool.not_false Option.map_some Option.map_none Option.bind_some Option.bind_none List.length_cons List.length_nil List.take_succ_cons List.take_zero List.take_nil List.drop_succ_cons List.drop_zero List.drop_nil List.head?_cons List.map_cons List.map_nil List.getElem?_cons_zero List.getElem?_cons_succ List.cons_append List.nil_append List.append_nil List.length_map List.set_cons_zero List.set_cons_succ Nat.reduceMul eq_self Int.toNat_natCast Int.natCast_nonneg and_self true_and and_true decide_true decide_false Bool.false_eq_true Nat.zero_add Nat.add_zero List.contains_cons List.contains_nil Bool.or_false Bool.false_or beq_self_eq_true Nat.reduceBEq ne_eq not_true_eq_false not_false_eq_true Id.mk.injEq false_and and_false Nat.reduceLT Int.reduceLE Int.reduceLT Int.reduceToNat Int.reduceNeg Int.reduceAdd Nat.le_refl List.length_append beq_true beq_false Bool.not_eq_eq_eq_not or_false false_or dE ad aj aI bE cj aW bf aV bo cN bG
end Go.Proofs.YtihgaadadaekmaaGreatDoor.V

namespace Go.Proofs.YtihgaadadaekmaaGreatDoor.V
open Go.RowKit
section
variable {α:Type} {R:uQ α} {z:Nat}
end
end Go.Proofs.YtihgaadadaekmaaGreatDoor.V

namespace Go.Proofs.YtihgaadadaekmaaGreatDoor.V
open Go.RowKit
attribute [local irreducible] ea wpOps gR Call
attribute [local go_sem] aM fP eL gh ga cE upd cu K.av cL AV.cells AV.cell rowOf rowsOf part ld rowAt bY ck dI ef ig bL da ez gn e7 du ek cY cX dV dW bR bm cQ bQ cT cR ei eo ej cP bW cZ eh bP aQ cV cC ib bw cH bS aY dF bu dK AV.undef bF bH dY ee dU eb cF ew eD cw eu er cU cW List.getD_cons_zero List.getD_cons_succ List.getD_nil List.all_cons List.all_nil Bool.and_true Bool.true_and Bool.and_self Bool.not_true Bool.not_false Option.map_some Option.map_none Option.bind_some Option.bind_none List.length_cons List.length_nil List.take_succ_cons List.take_zero List.take_nil List.drop_succ_cons List.drop_zero List.drop_nil List.head?_cons List.map_cons List.map_nil List.getElem?_cons_zero List.getElem?_cons_succ List.cons_append List.nil_append List.append_nil List.length_map List.set_cons_zero List.set_cons_succ Nat.reduceMul eq_self Int.toNat_natCast Int.natCast_nonneg and_self true_and and_true decide_true decide_false Bool.false_eq_true Nat.zero_add Nat.add_zero List.contains_cons List.contains_nil Bool.or_false Bool.false_or beq_self_eq_true Nat.reduceBEq ne_eq not_true_eq_false not_false_eq_true Id.mk.injEq false_and and_false Nat.reduceLT Int.reduceLE Int.reduceLT Int.reduceToNat Int.reduceNeg Int.reduceAdd Nat.le_refl List.length_append beq_true beq_false Bool.not_eq_eq_eq_not or_false false_or dE ad aj aI bE cj aW bf aV bo cN bG
theorem Hw {g:Rows} {cs:List AV} {x:List Int} {ids:List Id} (n:Nat) (h:jQ g cs x ids):cm g (n+2) cs=some (j9 x):=by
 obtain⟨i,rfl,h2,_⟩:=h
 have h3:V.fz g (n+2) (.own i 0 x.length)=some (.sl (x.map ar)):=e6 (e:=ar) (sz:=1) h2 rfl fun y=>by simp[ar,ad,aj,aI]
 simp only[ad,aj,h3,Option.map_some,j9]
theorem HG {α:Type} {R:uQ α} {z n:Nat} {e:α->List AV} {g:Rows} {o:Id} {rows:List (List AV)} {xs:List α} {is:List Id} (h2:g o=some ⟨true,z,rows⟩) (h3:dw R g rows xs is) (hz:∀{cs x ids},R g cs x ids->cm g n cs=some (e x)):V.fz g (n+1) (.own o 0 xs.length)=some (.sl (xs.map e)):=by
 have hl:=h3.len
 have key:∀{rows:List (List AV)} {xs:List α} {is:List Id},dw R g rows xs is->dz g n rows=some (xs.map e):=fun h=>by
  induction h with
  |nil=>rw[dz];rfl
  |cons h1 _ ih=>rw[dz,hz h1,ih];rfl
 rw[fS]
 simp only[h2,if_true]
 rw[if_pos ab,List.drop_zero,List.take_of_length_le ab,key h3];rfl
theorem NA (xs:List (List Int)) (left:Int) (h0:0<=left) (h1:left<=1048576):ae Tryz.prog 53 [.sl (xs.map j9),.int .i64 left] (.int .i64 (s5 (xs.length+(xs.map lx).sum) left)):=by
 refine ae.body dM rfl fun hl n0=>?_
 have hn:xs.length<=9223372036854775807:=by simpa using(hl (.sl (xs.map j9)) (by simp)).len
 clear hl
 have hw:IntKind.i64.wrap (left-(xs.length:Int))=left-xs.length:=aT ab
 have gw:(xs.map j9).length=xs.length:=by simp
 by_cases hf:(xs.length:Int)<=left
 ·have kI:¬left-(xs.length:Int)<0:=ab
  (try((repeat(revert hN;revert N;apply Pn.out));refine wk (tw @gw (tw @hw @kI)) ?_;(repeat(refine Pn.mk ?_;intro N hN))))
  refine aP (fun n env st=>∃k:Nat,n=(xs.length)-k/\k<=(xs.length)/\env 5=.int .i64 (k:Int)/\env 1=(.int .i64 (left-xs.length-(eV lx xs k:Nat)))/\(0<=left-xs.length-(eV lx xs k:Nat))) (xs.length) ⟨0,ab,ab,sl (tw @gC (tw @Int.natCast_zero (tw @Int.sub_zero @gw))),sl (tw @gC (tw @Int.natCast_zero (tw @Int.sub_zero @gw))),(by rw[gC];omega)⟩ ?_
  rintro n_a env_a st_a ⟨k,rfl,ale,a5,a1,jW⟩ dm
  have a0:=dm 0 (by kernel_rfl)
  simp only[go_sem, ↓reduceIte,Nat.reduceEqDiff,Nat.reduceAdd,Nat.reduceSub,Nat.reduceLeDiff,reduceCtorEq,gC,Int.natCast_zero,Int.sub_zero,gw]at a0
  clear dm
  by_cases hk:(k:Int)<(xs.length:Int)
  ·have bD:∀{e:Env},(e 5=.int .i64 (IntKind.i64.wrap ((k:Int)+1)))->(e 1=(.int .i64 (left-xs.length-(eV lx xs (k+1):Nat))))->(0<=left-xs.length-(eV lx xs (k+1):Nat))->∃m0,m0<(xs.length)-k/\∃k:Nat,m0=(xs.length)-k/\k<=(xs.length)/\e 5=.int .i64 (k:Int)/\e 1=(.int .i64 (left-xs.length-(eV lx xs k:Nat)))/\(0<=left-xs.length-(eV lx xs k:Nat)):=fun x1 x2 x3=>⟨_,ab,k+1,rfl,ab,(by rw[x1,ay ab]),x2,x3⟩
   have dX:k<xs.length:=ab
   have eB:(xs.map j9)[k]? =some [.sl (xs[k].map ar)]:=by simp[dX,j9]
   have hs:=mm lx dX
   have sU:=jA lx xs (k+1)
   have ft:=Av xs[k] (left-xs.length-(eV lx xs k:Nat)) jW ab
   have hwx:lx xs[k]=xs[k].length:=rfl
   generalize hex:xs[k]=c at ft eB hs hwx
   by_cases ve:(c.length:Int)<=left-xs.length-(eV lx xs k:Nat)
   ·rw[fq ve]at ft
    have On:¬left-xs.length-(eV lx xs k:Nat)-(c.length:Int)<0:=ab
    have tT:left-xs.length-(eV lx xs k:Nat)-(c.length:Int)=left-xs.length-(eV lx xs (k+1):Nat):=by rw[hs];omega
    (repeat(first|((repeat(revert hN;revert N;apply Pn.out));refine wk (tw @a5 (tw @a1 (tw @a0 (tw @hk (tw @eB (tw @gw @On)))))) ?_;(repeat(refine Pn.mk ?_;intro N hN)))|((try apply Or.inl);refine⟨_,ae.x (ft) (sd (tw @a5 (tw @a1 (tw @a0 (tw @hk (tw @eB (tw @gw @On))))))),?_⟩;refine hN _ _ ?_;clear hN N)))
    refine bD ?_ ?_ ((by rw[hs];omega))
    all_goals simp only[go_sem, ↓reduceIte,Nat.reduceEqDiff,Nat.reduceAdd,Nat.reduceSub,Nat.reduceLeDiff,reduceCtorEq,a5,a1,a0,tT]
   ·rw[fo ve]at ft
    (repeat(first|((repeat(revert hN;revert N;apply Pn.out));refine wk (tw @a5 (tw @a1 (tw @a0 (tw @hk (tw @eB @gw))))) ?_;(repeat(refine Pn.mk ?_;intro N hN)))|((try apply Or.inl);refine⟨_,ae.x (ft) (sd (tw @a5 (tw @a1 (tw @a0 (tw @hk (tw @eB @gw)))))),?_⟩;refine hN _ _ ?_;clear hN N)))
    exact aZ (b:=-1) (.inl rfl) (sd @Nat.zero_add) (by rw[fo ab])
  ·(try((repeat(revert hN;revert N;apply Pn.out));refine wk (tw @a5 (tw @a1 (tw @a0 (tw @hk @gw)))) ?_;(repeat(refine Pn.mk ?_;intro N hN))))
   have dX:k=xs.length:=ab
   subst dX
   have Pu:=qG lx xs
   exact aZ (b:=left-xs.length-(eV lx xs xs.length:Nat)) (.inl rfl) (sd (tw @a5 (tw @a1 @a0))) (by rw[fq ab];omega)
 ·have kI:left-(xs.length:Int)<0:=ab
  (try((repeat(revert hN;revert N;apply Pn.out));refine wk (tw @gw (tw @hw @kI)) ?_;(repeat(refine Pn.mk ?_;intro N hN))))
  exact aZ (b:=-1) (.inl rfl) (sd @Nat.zero_add) (by rw[fo ab])
theorem IG (xs:List (List Int)) (hlen:xs.length<=1048576) (SX:∀x∈xs,x.length<=1048576) (σ:ax):Call Tryz.prog 57 [.sl (xs.map j9)] σ (DZ jQ 1 xs σ):=by
 refine eW dM rfl fun hl=>?_
 clear hl
 have hm:(xs.length:Int)<=((16777216:Nat):Int):=ab
 have h0:(0:Int)<=(xs.length:Int):=ab
 have gw:(xs.map j9).length=xs.length:=by simp
 (try((repeat(revert hN;revert N;apply Pn.out));refine wk (tw @gw (tw @hm (tw @h0 @Int.le_refl))) ?_;(repeat(refine Pn.mk ?_;intro N hN))))
 refine aP (fun n env st=>∃k:Nat,n=(xs.length)-k/\k<=(xs.length)/\env 4=.int .i64 (k:Int)/\(σ.next+2<=st.next/\(∀y:Id,y.cq<σ.next->st.get y=σ.get y)/\∃rows is,st.get ⟨57001002,σ.next+1⟩=some ⟨true,1,rows++List.replicate (xs.length-k) [.bK]⟩/\dw jQ st.get rows (xs.take k) is/\eM (σ.next+2) st.next is)) (xs.length) ⟨0,ab,ab,sl @gw,by(try dsimp only);exact⟨ab,fun y hy=>by
  have h1:=eO hy
  simp only[go_sem, ↓reduceIte,Nat.reduceEqDiff,Nat.reduceAdd,Nat.reduceSub,Nat.reduceLeDiff,reduceCtorEq,h1],[],[],sl @Nat.zero_add,.nil,List.nodup_nil,fun i hi=>by cases hi⟩⟩ ?_
 rintro n_a env_a st_a ⟨k,rfl,ale,a4,jW⟩ dm
 have a0:=dm 0 (by kernel_rfl);have a3:=dm 3 (by kernel_rfl)
 simp only[go_sem, ↓reduceIte,Nat.reduceEqDiff,Nat.reduceAdd,Nat.reduceSub,Nat.reduceLeDiff,reduceCtorEq,gw]at a0 a3
 clear dm
 obtain⟨an,aK,rows,is,ag,aR,aN⟩:=jW
 have oI:rows.length=k:=by rw[aR.len,List.length_take];omega
 by_cases hk:(k:Int)<(xs.length:Int)
 ·have bD:∀{e:Env} {gg:Rows} {nx:Nat},(e 4=.int .i64 (IntKind.i64.wrap ((k:Int)+1)))->(σ.next+2<=nx/\(∀y:Id,y.cq<σ.next->gg y=σ.get y)/\∃rows is,gg ⟨57001002,σ.next+1⟩=some ⟨true,1,rows++List.replicate (xs.length-(k+1)) [.bK]⟩/\dw jQ gg rows (xs.take (k+1)) is/\eM (σ.next+2) nx is)->∃m0,m0<(xs.length)-k/\∃k:Nat,m0=(xs.length)-k/\k<=(xs.length)/\e 4=.int .i64 (k:Int)/\(σ.next+2<=nx/\(∀y:Id,y.cq<σ.next->gg y=σ.get y)/\∃rows is,gg ⟨57001002,σ.next+1⟩=some ⟨true,1,rows++List.replicate (xs.length-k) [.bK]⟩/\dw jQ gg rows (xs.take k) is/\eM (σ.next+2) nx is):=fun x1 x2=>⟨_,ab,k+1,rfl,ab,(by rw[x1,ay ab]),x2⟩
  have dX:k<xs.length:=ab
  have eB:(xs.map j9)[k]? =some [.sl (xs[k].map ar)]:=by simp[dX,j9]
  have ft:=Ay xs[k] (SX _ (List.getElem_mem dX))
  obtain⟨m,I6⟩:∃m,xs.length-k=m+1:=⟨xs.length-k-1,ab⟩
  rw[I6,List.replicate_succ]at ag
  have om:xs.take (k+1)=xs.take k++[xs[k]]:=List.take_succ_eq_append_getElem dX
  generalize hex:xs[k]=c at ft eB om
  (try((repeat(revert hN;revert N;apply Pn.out));refine wk (tw @a4 (tw @a0 (tw @a3 (tw @hk (tw @gw @eB))))) ?_;(repeat(refine Pn.mk ?_;intro N hN))))
  refine .inr (aO _ _ _ _ _ (fun r σ1 hq=>?_) (ft _))
  obtain⟨i,rfl,hR,hI,hK⟩:=hq
  obtain⟨g1,x1⟩:=σ1
  (try dsimp only at hR hI hK)
  have tN:=(hK.2 ⟨57001002,σ.next+1⟩ bt)
  simp only[go_sem, ↓reduceIte,Nat.reduceEqDiff,Nat.reduceAdd,Nat.reduceSub,Nat.reduceLeDiff,reduceCtorEq,ag]at tN
  have dR:(rows++[AV.bK]::List.replicate m [AV.bK])[k]? =some [AV.bK]:=by rw[List.getElem?_append_right ab,oI,Nat.sub_self];rfl
  have dP:(rows++[AV.bK]::List.replicate m [AV.bK]).set k [.own i 0 c.length]=rows++[[.own i 0 c.length]]++List.replicate m [AV.bK]:=DH oI
  have xI:(rows++[AV.bK]::List.replicate m [AV.bK]).length=xs.length:=by simp[oI];omega
  refine hN _ _ ?_
  clear hN N
  (try((repeat(revert hN;revert N;apply Pn.out));refine wk (tw @a4 (tw @a0 (tw @a3 (tw @hk (tw @gw (tw @tN (tw @dR (tw @dP @xI)))))))) ?_;(repeat(refine Pn.mk ?_;intro N hN))))
  have tR:=hK.1
  have FX:∀j∈is,(j=⟨57001002,σ.next+1⟩)=False:=fun j hj=>eq_false fun e=>by
   have:=(aN.2 j hj).1
   subst e;(try dsimp only at this);omega
  have ED:=hI.2 i (by simp)
  (try dsimp only at ED tR)
  have FY:(i=⟨57001002,σ.next+1⟩)=False:=eq_false fun e=>by
   subst e;(try dsimp only at ED);omega
  exact bD (sd (tw @a4 (tw @a0 @a3))) (by(try dsimp only at *);exact⟨ab,fun y hy=>by
   have h1:=eO hy
   have h2:=hK.2 y bt
   have h3:=aK y hy
   simp only[go_sem, ↓reduceIte,Nat.reduceEqDiff,Nat.reduceAdd,Nat.reduceSub,Nat.reduceLeDiff,reduceCtorEq]at h2
   simp only[go_sem, ↓reduceIte,Nat.reduceEqDiff,Nat.reduceAdd,Nat.reduceSub,Nat.reduceLeDiff,reduceCtorEq,h1,h2,h3],rows++[[.own i 0 c.length]],is++[i],by
    rw[show xs.length-(k+1)=m by omega]
    simp only[go_sem, ↓reduceIte,Nat.reduceEqDiff,Nat.reduceAdd,Nat.reduceSub,Nat.reduceLeDiff,reduceCtorEq]<;>rfl,by
    rw[om]
    refine((aR.frame tZ fun j hj=>?_).app (.one ⟨i,rfl,?_,rfl⟩))
    ·have h1:=FX j hj
     have h2:=hK.2 j (by(try dsimp only);have:=(aN.2 j hj).2;omega)
     simp only[go_sem, ↓reduceIte,Nat.reduceEqDiff,Nat.reduceAdd,Nat.reduceSub,Nat.reduceLeDiff,reduceCtorEq]at h2
     simp only[go_sem, ↓reduceIte,Nat.reduceEqDiff,Nat.reduceAdd,Nat.reduceSub,Nat.reduceLeDiff,reduceCtorEq,h1,h2]
    ·simp only[go_sem, ↓reduceIte,Nat.reduceEqDiff,Nat.reduceAdd,Nat.reduceSub,Nat.reduceLeDiff,reduceCtorEq,FY,hR],(aN.app hI bt ab bt).wide (Nat.le_refl _) bt⟩)
 ·(try((repeat(revert hN;revert N;apply Pn.out));refine wk (tw @a4 (tw @a0 (tw @a3 (tw @hk @gw)))) ?_;(repeat(refine Pn.mk ?_;intro N hN))))
  have dX:k=xs.length:=ab
  subst dX
  rw[Nat.sub_self,List.replicate_zero,List.append_nil]at ag
  rw[List.take_length]at aR
  refine gm (.inl rfl) (vs:=[.own ⟨57001002,σ.next+1⟩ 0 xs.length]) (sd (tw @a4 (tw @a0 @a3))) ?_
  exact⟨_,⟨_,rows,is,rfl,ag,aR,rfl⟩,⟨List.nodup_cons.2 ⟨fun hi=>by have:=(aN.2 _ hi).1;(try dsimp only at this);omega,aN.1⟩,fun i hi=>by
   rcases List.mem_cons.1 hi with rfl|hi
   ·(try dsimp only);omega
   ·have:=aN.2 i hi;(try dsimp only);omega⟩,⟨bt,fun j hj=>aK j hj⟩⟩
theorem NF (xs:List (List Int)) (hlen:xs.length<=1048576) (SX:∀x∈xs,x.length<=1048576):iN Tryz.prog 57 [.sl (xs.map j9)] (.sl (xs.map j9)):=fun σ=>
 aO _ _ _ _ _ (fun r σ' hq=>by
  obtain⟨ids,⟨o,rows,is,rfl,h2,h3,rfl⟩,_,_⟩:=hq
  exact⟨_,HG (n:=5) h2 h3 fun h=>Hw 3 h,rfl⟩) (IG xs hlen SX _)
theorem KB (x:eH) (g:Rows):cm g 5 (bh x)=some (bh x):=by simp[bh,ad,aj,aI]
theorem Pf:pM (jC bh) 2:=Bn (fun _=>rfl) (fun _=>rfl) (by simp[nL])
theorem FB (xs:List eH) (l:Int) (h0:0<=l) (h1:l<=1048576):ae Tryz.prog 52 [.sl (xs.map bh),.int .i64 l] (.int .i64 (s5 xs.length l)):=by
 have h:=CB (show kK Tryz.prog 52=some (DK 52) by kernel_rfl) (xs.map bh) l h0 h1
 rwa [List.length_map]at h
theorem IA (p:eH):iN Tryz.prog 85 [.agg (bh p)] (.agg (bh p)):=by
 refine iN.body dM rfl fun hl σ=>?_
 clear hl
 (try((repeat(revert hN;revert N;apply Pn.out));refine wk @bh.eq_1 ?_;(repeat(refine Pn.mk ?_;intro N hN))))
 exact sH (.inl rfl) (vs:=[.agg (bh p)]) (by simp only[go_sem, ↓reduceIte,Nat.reduceEqDiff,Nat.reduceAdd,Nat.reduceSub,Nat.reduceLeDiff,reduceCtorEq,eU,gK,bh]) (by simp[eF,bh,bf,ad,aj,aI])
theorem FI (xs:List eH) (h:xs.length<=1048576):iN Tryz.prog 56 [.sl (xs.map bh)] (.sl (xs.map bh)):=
 yn (show kK Tryz.prog 56=some (oW 56 85 2 [.int .i64 0,.int .i64 0]) by kernel_rfl) rfl (fun _=>rfl) (fun _=>rfl) KB xs h fun x _=>IA x
theorem Iz (p:eH) (σ:ax):Call Tryz.prog 85 [.agg (bh p)] σ (Gg (jC bh) p σ):=by
 refine eW dM rfl fun hl=>?_
 clear hl
 (try((repeat(revert hN;revert N;apply Pn.out));refine wk @bh.eq_1 ?_;(repeat(refine Pn.mk ?_;intro N hN))))
 refine gm (.inl rfl) (vs:=[.agg (bh p)]) (sd @bh.eq_1) ?_
 exact⟨_,[],rfl,⟨rfl,rfl⟩,⟨List.nodup_nil,fun i hi=>by cases hi⟩,⟨bt,fun j hj=>by
  have h1:=eO hj
  simp only[go_sem, ↓reduceIte,Nat.reduceEqDiff,Nat.reduceAdd,Nat.reduceSub,Nat.reduceLeDiff,reduceCtorEq,h1]⟩⟩
theorem FH (xs:List eH) (h:xs.length<=1048576) (σ:ax):Call Tryz.prog 56 [.sl (xs.map bh)] σ (DZ (jC bh) 2 xs σ):=
 s6 Pf (show kK Tryz.prog 56=some (oW 56 85 2 [.int .i64 0,.int .i64 0]) by kernel_rfl) rfl (fun _=>rfl) xs h (fun x _ σ=>Iz x σ) σ
theorem GO (a b:eH):ae Tryz.prog 88 [.agg (bh a),.agg (bh b)] (.bool (decide (a=b))):=by
 refine ae.body dM rfl fun hl n0=>?_
 clear hl
 by_cases h1:a.dn=b.dn
 ·have e1:=decide_eq_true h1
  by_cases h2:a.de=b.de
  ·have e2:=decide_eq_true h2
   (try((repeat(revert hN;revert N;apply Pn.out));refine wk (tw @bh.eq_1 (tw @e1 @e2)) ?_;(repeat(refine Pn.mk ?_;intro N hN))))
   exact aC (b:=true) (.inl rfl) (sd @Nat.zero_add) (decide_eq_true (by cases a;cases b;simp_all)).symm
  ·have e2:=decide_eq_false h2
   (try((repeat(revert hN;revert N;apply Pn.out));refine wk (tw @bh.eq_1 (tw @e1 @e2)) ?_;(repeat(refine Pn.mk ?_;intro N hN))))
   exact aC (b:=false) (.inl rfl) (sd @Nat.zero_add) (decide_eq_false (by rintro rfl;exact h2 rfl)).symm
 ·have e1:=decide_eq_false h1
  (try((repeat(revert hN;revert N;apply Pn.out));refine wk (tw @bh.eq_1 @e1) ?_;(repeat(refine Pn.mk ?_;intro N hN))))
  exact aC (b:=false) (.inl rfl) (sd @Nat.zero_add) (decide_eq_false (by rintro rfl;exact h1 rfl)).symm
theorem Es (xs ys:List eH):ae Tryz.prog 59 [.sl (xs.map bh),.sl (ys.map bh)] (.bool (decide (xs=ys))):=
 xl (show kK Tryz.prog 59=some (zk 59 88 2) by kernel_rfl) (fun _=>rfl) (fun x g=>by simp[bh,ad,aj,bf,aI]) xs ys fun x y=>GO x y
theorem z7 (i:Id) (l:List eH) (k:Int) (h0:0<=k) (h1:k+2*l.length<=4611686018427387904) (σ:ax) (hv:i.cq<σ.next) (hg:σ.get i=some ⟨true,2,l.map bh⟩):
  Call Tryz.prog 60 [.own i 0 l.length,.int .i64 k] σ (fun r σ'=>r=.int .i64 (k+2*l.length)/\m4 σ [i] σ'.get σ'.next):=by
 refine eW dM rfl fun hl=>?_
 clear hl
 obtain⟨nn,hn⟩:∃nn,l.length=nn:=⟨_,rfl⟩
 rw[hn]at h1 ⊢
 (try((repeat(revert hN;revert N;apply Pn.out));refine wk @Nat.zero_add ?_;(repeat(refine Pn.mk ?_;intro N hN))))
 refine aP (fun n env st=>∃j:Nat,n=(nn)-j/\j<=(nn)/\env 5=.int .i64 (j:Int)/\env 1=.int .i64 (k+2*j)/\(m4 σ [i] st.get st.next/\∃l':List eH,l'.length=nn/\st.get i=some ⟨true,2,l'.map bh⟩)) (nn) ⟨0,ab,ab,sl (tw @Int.add_zero (tw @Int.natCast_zero @Int.mul_zero)),sl (tw @Int.add_zero (tw @Int.natCast_zero @Int.mul_zero)),by(try dsimp only);exact⟨⟨bt,fun x _ _=>rfl⟩,l,hn,hg⟩⟩ ?_
 rintro n_a env_a st_a ⟨j,rfl,ale,a5,a1,jW⟩ dm
 have a0:=dm 0 (by kernel_rfl)
 simp only[go_sem, ↓reduceIte,Nat.reduceEqDiff,Nat.reduceAdd,Nat.reduceSub,Nat.reduceLeDiff,reduceCtorEq,Int.add_zero,Int.natCast_zero,Int.mul_zero]at a0
 clear dm
 obtain⟨⟨an,aF⟩,l',al,ag⟩:=jW
 by_cases hj:(j:Int)<(nn:Int)
 ·have bD:∀{e:Env} {gg:Rows} {nx:Nat},(e 5=.int .i64 (IntKind.i64.wrap ((j:Int)+1)))->(e 1=.int .i64 (k+2*(j+1)))->(m4 σ [i] gg nx/\∃l':List eH,l'.length=nn/\gg i=some ⟨true,2,l'.map bh⟩)->∃m0,m0<(nn)-j/\∃j:Nat,m0=(nn)-j/\j<=(nn)/\e 5=.int .i64 (j:Int)/\e 1=.int .i64 (k+2*j)/\(m4 σ [i] gg nx/\∃l':List eH,l'.length=nn/\gg i=some ⟨true,2,l'.map bh⟩):=fun x1 x2 x3=>⟨_,ab,j+1,rfl,ab,(by rw[x1,ay ab]),x2,x3⟩
  have gj:j<l'.length:=ab
  have dR:(l'.map bh)[j]? =some [.int .i64 l'[j].dn,.int .i64 l'[j].de]:=by simp[gj,bh]
  have hlen:(l'.map bh).length=nn:=by rw[List.length_map,al]
  have He:∀c:List AV,((l'.map bh).set j c)[j]? =some c:=fun c=>by rw[List.getElem?_set_self (by rw[List.length_map];exact gj)]
  have pv:IntKind.i64.wrap (k+2*(j:Int)+1)=k+2*(j:Int)+1:=aT ab
  have wo:IntKind.i64.wrap (k+2*(j:Int)+1+1)=k+2*((j:Int)+1):=by rw[aT ab];omega
  have dP:(l'.map bh).set j [.int .i64 (k+2*(j:Int)),.int .i64 (k+2*(j:Int)+1)]=(l'.set j ⟨k+2*(j:Int),k+2*(j:Int)+1⟩).map bh:=by rw[List.map_set];rfl
  (try((repeat(revert hN;revert N;apply Pn.out));refine wk (tw @a5 (tw @a1 (tw @a0 (tw @hj (tw @ag (tw @dR (tw @He (tw @dP (tw @pv (tw @wo (tw @hlen @qC))))))))))) ?_;(repeat(refine Pn.mk ?_;intro N hN))))
  refine bD ?_ ?_ (by(try dsimp only);exact⟨⟨bt,fun x hx hi=>by
   have h2:=aF x hx hi
   have h3:(x=i)=False:=eq_false fun e=>hi (by simp[e])
   simp only[go_sem, ↓reduceIte,Nat.reduceEqDiff,Nat.reduceAdd,Nat.reduceSub,Nat.reduceLeDiff,reduceCtorEq,h2,h3]⟩,l'.set j ⟨k+2*(j:Int),k+2*(j:Int)+1⟩,by simp[al],sl @Nat.zero_add⟩)
  all_goals simp only[go_sem, ↓reduceIte,Nat.reduceEqDiff,Nat.reduceAdd,Nat.reduceSub,Nat.reduceLeDiff,reduceCtorEq,a5,a1,a0,wo,dP]
 ·have gj:j=nn:=ab
  subst gj
  (try((repeat(revert hN;revert N;apply Pn.out));refine wk (tw @a5 (tw @a1 (tw @a0 @hj))) ?_;(repeat(refine Pn.mk ?_;intro N hN))))
  exact gm (.inl rfl) (vs:=[.int .i64 (k+2*j)]) (sd (tw @a5 (tw @a1 @a0))) ⟨rfl,⟨bt,fun x hx hi=>aF x hx hi⟩⟩
structure m8 (f:dG):Prop where
 c:f.aq.length<=1048576
 s:f.aL.length<=1048576
 x:∀l∈f.aL,l.length<=1048576
def sq (f:dG):Nat:=f.aq.length+(f.aL.length+(f.aL.map lx).sum)
def ug (f:dG):Nat:=2*f.aq.length+(f.aL.map lx).sum
theorem HL (f:dG):ug f<=3*sq f:=by unfold ug sq;omega
theorem Bp {f:dG} (h:sq f<=1048576):m8 f:=by
 unfold sq at h
 refine⟨ab,ab,fun l hl=>?_⟩
 have h1:=Ir lx hl
 have h2:lx l=l.length:=rfl
 omega
theorem Is (f:dG) (l:Int) (h0:0<=l) (h1:l<=1048576):ae Tryz.prog 25 [.agg (bc f),.int .i64 l] (.int .i64 (s5 (sq f) l)):=by
 refine ae.body dM rfl fun hl n0=>?_
 clear hl
 have e1:=FB f.aq l h0 h1
 have he:sq f=f.aq.length+(f.aL.length+(f.aL.map lx).sum):=rfl
 by_cases c1:(f.aq.length:Int)<=l
 ·rw[fq c1]at e1
  have d1:¬l-(f.aq.length:Int)<0:=ab
  have e2:=NA f.aL (l-f.aq.length) ab ab
  obtain⟨m,hm⟩:∃m,f.aL.length+(f.aL.map lx).sum=m:=⟨_,rfl⟩
  rw[hm]at e2 he
  by_cases c2:(m:Int)<=l-f.aq.length
  ·rw[fq c2]at e2
   have d2:¬l-(f.aq.length:Int)-(m:Int)<0:=ab
   (repeat(first|((repeat(revert hN;revert N;apply Pn.out));refine wk (tw @bc.eq_1 (tw @d1 @d2)) ?_;(repeat(refine Pn.mk ?_;intro N hN)))|((try apply Or.inl);refine⟨_,ae.x (e1) (sd (tw @bc.eq_1 (tw @d1 @d2))),?_⟩;refine hN _ _ ?_;clear hN N)|((try apply Or.inl);refine⟨_,ae.x (e2) (sd (tw @bc.eq_1 (tw @d1 @d2))),?_⟩;refine hN _ _ ?_;clear hN N)))
   exact aZ (b:=l-(f.aq.length:Int)-(m:Int)) (.inl rfl) (sd @Nat.zero_add) (by rw[fq ab];omega)
  ·rw[fo c2]at e2
   (repeat(first|((repeat(revert hN;revert N;apply Pn.out));refine wk (tw @bc.eq_1 @d1) ?_;(repeat(refine Pn.mk ?_;intro N hN)))|((try apply Or.inl);refine⟨_,ae.x (e1) (sd (tw @bc.eq_1 @d1)),?_⟩;refine hN _ _ ?_;clear hN N)|((try apply Or.inl);refine⟨_,ae.x (e2) (sd (tw @bc.eq_1 @d1)),?_⟩;refine hN _ _ ?_;clear hN N)))
   exact aZ (b:=-1) (.inl rfl) (sd @Nat.zero_add) (by rw[fo ab])
 ·rw[fo c1]at e1
  (repeat(first|((repeat(revert hN;revert N;apply Pn.out));refine wk @bc.eq_1 ?_;(repeat(refine Pn.mk ?_;intro N hN)))|((try apply Or.inl);refine⟨_,ae.x (e1) (sd @bc.eq_1),?_⟩;refine hN _ _ ?_;clear hN N)))
  exact aZ (b:=-1) (.inl rfl) (sd @Nat.zero_add) (by rw[fo ab])
theorem IC (f:dG) (hs:m8 f):iN Tryz.prog 27 [.agg (bc f)] (.agg (bc f)):=by
 refine iN.body dM rfl fun hl σ=>?_
 clear hl
 have h1:=FI f.aq hs.c
 have h2:=NF f.aL hs.s hs.x
 (repeat(first|((repeat(revert hN;revert N;apply Pn.out));refine wk @bc.eq_1 ?_;(repeat(refine Pn.mk ?_;intro N hN)))|((try apply Or.inl);refine⟨_,iN.x (h1) _,?_⟩;refine hN _ _ ?_;clear hN N)|((try apply Or.inl);refine⟨_,iN.x (h2) _,?_⟩;refine hN _ _ ?_;clear hN N)))
 exact sH (.inl rfl) (vs:=[.agg (bc f)]) (by simp only[go_sem, ↓reduceIte,Nat.reduceEqDiff,Nat.reduceAdd,Nat.reduceSub,Nat.reduceLeDiff,reduceCtorEq,eU,gK,bc]) (by simp[eF,bc,bf,ad,aj,cj,aI])
theorem GP (f:dG):ae Tryz.prog 29 [.agg (bc f),.agg (bc f)] (.bool true):=by
 refine ae.body dM rfl fun hl n0=>?_
 clear hl
 have h1:=Es f.aq f.aq
 have h2:=L5 f.aL
 rw[decide_eq_true rfl]at h1
 have e:decide (f.aU=f.aU)=true:=decide_eq_true rfl
 (repeat(first|((repeat(revert hN;revert N;apply Pn.out));refine wk (tw @bc.eq_1 @e) ?_;(repeat(refine Pn.mk ?_;intro N hN)))|((try apply Or.inl);refine⟨_,ae.x (h1) (sd (tw @bc.eq_1 @e)),?_⟩;refine hN _ _ ?_;clear hN N)|((try apply Or.inl);refine⟨_,ae.x (h2) (sd (tw @bc.eq_1 @e)),?_⟩;refine hN _ _ ?_;clear hN N)))
 exact aC (b:=true) (.inl rfl) (sd @Nat.zero_add) rfl
structure oK (g:Rows) (v:AV) (f:dG) (ids:List Id):Prop where
 ex:∃o1 o2 is,v=.agg [.int .i64 f.aU,.own o1 0 f.aq.length,.own o2 0 f.aL.length]/\g o1=some ⟨true,2,f.aq.map bh⟩/\fU jQ 1 g (.own o2 0 f.aL.length) f.aL is/\ids=o1::is
theorem oK.frame {g g':Rows} {v:AV} {f:dG} {ids:List Id} (h:oK g v f ids) (hf:∀i∈ids,g' i=g i):oK g' v f ids:=by
 obtain⟨o1,o2,is,h1,h2,h3,rfl⟩:=h.ex
 exact⟨o1,o2,is,h1,(hf o1 (by simp)).trans h2,h3.frame tZ fun i hi=>hf i (by simp[hi]),rfl⟩
theorem oK.owns {g:Rows} {v:AV} {f:dG} {ids:List Id} (h:oK g v f ids):∃o1 o2,v=.agg [.int .i64 f.aU,.own o1 0 f.aq.length,.own o2 0 f.aL.length]:=by
 obtain⟨o1,o2,is,h1,_⟩:=h.ex
 exact⟨o1,o2,h1⟩
theorem oK.fz {g:Rows} {v:AV} {f:dG} {ids:List Id} (n:Nat) (h:oK g v f ids):V.fz (dE g) (n+5) v=some (.agg (bc f)):=by
 obtain⟨o1,o2,is,rfl,h2,h3,rfl⟩:=h.ex
 have q1:V.fz (dE g) (n+4) (.own o1 0 f.aq.length)=some (.sl (f.aq.map bh)):=e6 (e:=bh) (sz:=2) (n:=n+3) (by simp[dE,h2]) rfl fun x=>by simp[bh,ad,aj,aI]
 have q2:=h3.fz (n:=n+3) (e:=j9) fun hc=>J7 (n+1) hc
 simp only[bf,ad,aj,q1,q2,aI,Option.map_some,bc]
theorem GZ {g:Rows} {v w:AV} {s:dG} {i:List Id} (hX:oK g v s i) (hw:fz (dE g) 6 w=some w):cm (dE g) 6 [v,w]=some [.agg (bc s),w]:=by
 simp only[ad,aj,hX.fz 1,hw,Option.map_some]
theorem CY (g:Rows) (s:dG):fz g 6 (.agg (bc s))=some (.agg (bc s)):=by simp[bc,bf,ad,aj,cj,aI]
theorem IB (f:dG) (hs:m8 f) (σ:ax):Call Tryz.prog 27 [.agg (bc f)] σ (fun r σ'=>∃ids,oK σ'.get r f ids/\eM σ.next σ'.next ids/\Kept σ σ'):=by
 refine eW dM rfl fun hl=>?_
 clear hl
 (try((repeat(revert hN;revert N;apply Pn.out));refine wk @bc.eq_1 ?_;(repeat(refine Pn.mk ?_;intro N hN))))
 refine .inr (aO _ _ _ _ _ (fun r σ1 hq=>?_) (FH f.aq hs.c _))
 obtain⟨i1,hR,hI,hK⟩:=hq
 obtain⟨g1,x1⟩:=σ1
 (try dsimp only at hR hI hK)
 have hn:=hK.1
 obtain⟨o,rfl,tN,rfl⟩:=hR.flat
 have hb:=hI.2 o (by simp)
 (try dsimp only at hb hn)
 refine hN _ _ ?_
 clear hN N
 have k1:=hK.2 ⟨27000000,σ.next⟩ bt
 have k2:=hK.2 ⟨27000001,σ.next⟩ bt
 have k3:=hK.2 ⟨27001000,σ.next+1⟩ bt
 simp only[go_sem, ↓reduceIte,Nat.reduceEqDiff,Nat.reduceAdd,Nat.reduceSub,Nat.reduceLeDiff,reduceCtorEq]at k1 k2 k3
 (try((repeat(revert hN;revert N;apply Pn.out));refine wk (tw @bc.eq_1 (tw @k1 (tw @k2 @k3))) ?_;(repeat(refine Pn.mk ?_;intro N hN))))
 refine .inr (aO _ _ _ _ _ (fun r σ2 hq=>?_) (IG f.aL hs.s hs.x _))
 obtain⟨i2,hS,hJ,hL⟩:=hq
 obtain⟨g2,x2⟩:=σ2
 (try dsimp only at hS hJ hL)
 have MI:=hL.1
 obtain⟨o2,rfl⟩:=hS.jP
 have hc:=hJ.2
 (try dsimp only at hc MI)
 refine hN _ _ ?_
 clear hN N
 have l2:=hL.2 ⟨27000001,σ.next⟩ bt
 have l3:=hL.2 ⟨27001000,σ.next+1⟩ bt
 simp only[go_sem, ↓reduceIte,Nat.reduceEqDiff,Nat.reduceAdd,Nat.reduceSub,Nat.reduceLeDiff,reduceCtorEq,k2,k3]at l2 l3
 (try((repeat(revert hN;revert N;apply Pn.out));refine wk (tw @bc.eq_1 (tw @l2 @l3)) ?_;(repeat(refine Pn.mk ?_;intro N hN))))
 refine gm (.inl rfl) (vs:=[.agg [.int .i64 f.aU,.own o 0 f.aq.length,.own o2 0 f.aL.length]]) (sd @Nat.zero_add) ?_
 have fr:∀x:Id,σ.next+2<=x.cq->(x=⟨27000001,σ.next⟩)=False/\(x=⟨27001000,σ.next+1⟩)=False:=fun x hx=>⟨(dr (a:=⟨27000001,σ.next⟩) (b:=x) bt).2,(dr (a:=⟨27001000,σ.next+1⟩) (b:=x) bt).2⟩
 refine⟨o::i2,⟨o,o2,i2,rfl,?_,fU.frame (g:=g2) tZ hS fun i hi=>?_,rfl⟩,?_,⟨bt,fun j hj=>?_⟩⟩
 ·have h2:=hL.2 o bt
  have h3:=fr o ab
  simp only[go_sem, ↓reduceIte,Nat.reduceEqDiff,Nat.reduceAdd,Nat.reduceSub,Nat.reduceLeDiff,reduceCtorEq,h3,tN]at h2
  simp only[go_sem, ↓reduceIte,Nat.reduceEqDiff,Nat.reduceAdd,Nat.reduceSub,Nat.reduceLeDiff,reduceCtorEq,h2,h3]
 ·have h1:=hc i hi
  have h3:=fr i ab
  simp only[go_sem, ↓reduceIte,Nat.reduceEqDiff,Nat.reduceAdd,Nat.reduceSub,Nat.reduceLeDiff,reduceCtorEq,h3]
 ·(try dsimp only at *)
  exact(hI.app hJ ab ab ab).wide ab ab
 ·have h1:=eO hj
  have h2:=hL.2 j bt
  have h3:=hK.2 j bt
  simp only[go_sem, ↓reduceIte,Nat.reduceEqDiff,Nat.reduceAdd,Nat.reduceSub,Nat.reduceLeDiff,reduceCtorEq,h1]at h2 h3
  simp only[go_sem, ↓reduceIte,Nat.reduceEqDiff,Nat.reduceAdd,Nat.reduceSub,Nat.reduceLeDiff,reduceCtorEq,h1,h2,h3]
theorem B6 (v:AV) (f:dG) (ids:List Id) (k:Int) (h0:0<=k) (hs:m8 f) (h1:k+ug f<=4611686016280956928) (σ:ax) (hv:∀i∈ids,i.cq<σ.next) (kN:ids.Nodup) (hg:oK σ.get v f ids):
  Call Tryz.prog 30 [v,.int .i64 k] σ (fun r σ'=>r=.int .i64 (k+ug f)/\m4 σ ids σ'.get σ'.next):=by
 obtain⟨o1,o2,is,rfl,hA,hB,rfl⟩:=hg.ex
 obtain⟨n1,n2⟩:=List.nodup_cons.1 kN
 have hm:(ug f:Int)=2*f.aq.length+(f.aL.map lx).sum:=by simp[ug]
 have sU:=hs.s
 refine eW dM rfl fun hl=>?_
 clear hl
 have jS:∀i∈o1::is,i≠⟨30000000,σ.next⟩:=fun i hi e=>by
  have:=hv i hi
  rw[e]at this;(try dsimp only at this);omega
 have ho1:=eO (hv o1 (by simp))
 (try((repeat(revert hN;revert N;apply Pn.out));refine wk @Nat.zero_add ?_;(repeat(refine Pn.mk ?_;intro N hN))))
 refine .inr (aO _ _ _ _ _ (fun r σ1 hq=>?_) (z7 o1 f.aq k h0 ab _ (by have:=hv o1 (by simp);(try dsimp only);omega) (sd (tw @ho1 @hA))))
 obtain⟨g1,x1⟩:=σ1
 obtain⟨rfl,Dj,oj⟩:=hq
 (try dsimp only at Dj oj)
 refine hN _ _ ?_
 clear hN N
 have k1:=oj ⟨30000000,σ.next⟩ bt (fun h=>jS o1 (by simp) (List.mem_singleton.1 h).symm)
 have fr1:∀x:Id,x.cq<σ.next->x≠o1->g1 x=σ.get x:=fun x hx hi=>by
  have h2:=oj x bt (fun h=>hi (List.mem_singleton.1 h))
  have h3:=eO hx
  simp only[go_sem, ↓reduceIte,Nat.reduceEqDiff,Nat.reduceAdd,Nat.reduceSub,Nat.reduceLeDiff,reduceCtorEq,h3]at h2
  exact h2
 simp only[go_sem, ↓reduceIte,Nat.reduceEqDiff,Nat.reduceAdd,Nat.reduceSub,Nat.reduceLeDiff,reduceCtorEq]at k1
 (try((repeat(revert hN;revert N;apply Pn.out));refine wk @k1 ?_;(repeat(refine Pn.mk ?_;intro N hN))))
 refine .inr (aO _ _ _ _ _ (fun r σ2 hq=>?_) (HQ _ f.aL is (k+2*f.aq.length) ab ab _ (fun i hi=>by have:=hv i (by simp[hi]);(try dsimp only);omega) n2 (hB.frame tZ fun i hi=>fr1 i (hv i (by simp[hi])) fun e=>n1 (e▸hi))))
 obtain⟨g2,x2⟩:=σ2
 obtain⟨rfl,⟨MR,AK⟩,_⟩:=hq
 (try dsimp only at MR AK)
 refine hN _ _ ?_
 clear hN N
 (try((repeat(revert hN;revert N;apply Pn.out));refine wk @Nat.zero_add ?_;(repeat(refine Pn.mk ?_;intro N hN))))
 exact gm (.inl rfl) (vs:=[.int .i64 (k+2*f.aq.length+(f.aL.map lx).sum)]) (sd @Nat.zero_add) ⟨by rw[hm];exact congrArg (AV.int .i64) ab,⟨bt,fun x hx hi=>(AK x bt fun h=>hi (by simp[h])).trans (fr1 x hx fun e=>hi (by simp[e]))⟩⟩
theorem Kg (LP:cl->dj->dG->List Int×Int)
  (PZ:∀s a z,fx s.aE->pS s->a.ah.length<=1048576->m8 z->∃w0,mD ar (LP s a z).1 w0/\iN Tryz.prog 26 [.agg (az s),.agg (aD a),.agg (bc z)] (.iL [w0,.int .i64 (LP s a z).2]))
  (PL:∀s a z,fx s.aE->pS s->a.ah.length<=1048576->m8 z->∀n:Nat,Call Tryz.prog 28 [.agg (az s),.agg (aD a),.agg (bc z)] ⟨fun _=>none,n⟩ (fun r σ'=>∃ids,(∃v0 i0,r=.iL [v0,.int .i64 (LP s a z).2]/\lW σ'.get v0 (LP s a z).1 i0/\ids=i0)/\eM n σ'.next ids))
  (Lm:∀s a z,fx s.aE->pS s->a.ah.length<=1048576->m8 z->(LP s a z).1.length<=1099511627776)
  (s:cl) (a:dj) (z:dG) (hn:fx s.aE):ae Tryz.prog 5 [.agg (az s),.agg (aD a),.agg (bc z)] (.bool true):=by
 refine ae.body dM rfl fun hl n0=>?_
 clear hl
 have h1:=CC s 1048576 ab ab hn
 by_cases PE:((qP s:Nat):Int)<=1048576
 ·rw[fq PE]at h1
  have tM:¬(1048576:Int)-((qP s:Nat):Int)<0:=ab
  have h2:=qI a (1048576-((qP s:Nat):Int)) ab ab
  by_cases Le:((a.ah.length:Nat):Int)<=1048576-((qP s:Nat):Int)
  ·rw[fq Le]at h2
   have zK:¬(1048576:Int)-((qP s:Nat):Int)-((a.ah.length:Nat):Int)<0:=ab
   have h3:=Is z (1048576-((qP s:Nat):Int)-((a.ah.length:Nat):Int)) ab ab
   by_cases hf3:((sq z:Nat):Int)<=1048576-((qP s:Nat):Int)-((a.ah.length:Nat):Int)
   ·rw[fq hf3]at h3
    have JI:¬(1048576:Int)-((qP s:Nat):Int)-((a.ah.length:Nat):Int)-((sq z:Nat):Int)<0:=ab
    have sm:=FA (s:=s) ab
    have fm:=Bp (f:=z) ab
    have ma:a.ah.length<=1048576:=ab
    have t1:=CG s sm
    have t2:=qL a ma
    have t3:=IC z fm
    obtain⟨w0,F4,r1⟩:=PZ s a z hn sm ma fm
    have r2:=PL s a z hn sm ma fm
    have q1:=Bh s
    have q2:=xk a
    have q3:=GP z
    have Pp:=Lm s a z hn sm ma fm
    obtain⟨L0,hR0⟩:∃R,(LP s a z).1=R:=⟨_,rfl⟩
    obtain⟨c1,Pq⟩:∃R,(LP s a z).2=R:=⟨_,rfl⟩
    simp only[hR0,Pq]at r1 r2 F4 Pp
    have o1:=fun σ=>CF s sm σ
    rw[az]at o1
    have o2:=fun σ=>qK a ma σ
    rw[aD]at o2
    have o3:=fun σ=>IB z fm σ
    rw[bc]at o3
    have FV:decide (c1=c1)=true:=by simp
    rw[az]at h1
    rw[aD]at h2
    rw[bc]at h3
    (repeat(first|((repeat(revert hN;revert N;apply Pn.out));refine wk (tw @az.eq_1 (tw @aD.eq_1 (tw @bc.eq_1 (tw @tM (tw @zK @JI))))) ?_;(repeat(refine Pn.mk ?_;intro N hN)))|((try apply Or.inl);refine⟨_,ae.x (h1) (sd (tw @az.eq_1 (tw @aD.eq_1 (tw @bc.eq_1 (tw @tM (tw @zK @JI)))))),?_⟩;refine hN _ _ ?_;clear hN N)|((try apply Or.inl);refine⟨_,ae.x (h2) (sd (tw @az.eq_1 (tw @aD.eq_1 (tw @bc.eq_1 (tw @tM (tw @zK @JI)))))),?_⟩;refine hN _ _ ?_;clear hN N)|((try apply Or.inl);refine⟨_,ae.x (h3) (sd (tw @az.eq_1 (tw @aD.eq_1 (tw @bc.eq_1 (tw @tM (tw @zK @JI)))))),?_⟩;refine hN _ _ ?_;clear hN N)))
    refine⟨_,iN.x (by rw[az]at t1;exact t1) _,?_⟩
    refine hN _ _ ?_
    clear hN N
    (try((repeat(revert hN;revert N;apply Pn.out));refine wk (tw @az.eq_1 (tw @aD.eq_1 @bc.eq_1)) ?_;(repeat(refine Pn.mk ?_;intro N hN))))
    refine⟨_,iN.x (by rw[aD]at t2;exact t2) _,?_⟩
    refine hN _ _ ?_
    clear hN N
    (try((repeat(revert hN;revert N;apply Pn.out));refine wk (tw @az.eq_1 (tw @aD.eq_1 @bc.eq_1)) ?_;(repeat(refine Pn.mk ?_;intro N hN))))
    refine⟨_,iN.x (by rw[bc]at t3;exact t3) _,?_⟩
    refine hN _ _ ?_
    clear hN N
    (try((repeat(revert hN;revert N;apply Pn.out));refine wk @Nat.zero_add ?_;(repeat(refine Pn.mk ?_;intro N hN))))
    refine⟨_,iN.x (by rw[az,aD,bc]at r1;exact r1) _,?_⟩
    refine hN _ _ ?_
    clear hN N
    (try((repeat(revert hN;revert N;apply Pn.out));refine wk @Nat.zero_add ?_;(repeat(refine Pn.mk ?_;intro N hN))))
    refine .inr (aO _ _ _ _ _ (fun r' σ1 hq=>?_) (o1 _))
    obtain⟨is,Hs,Ns,Ks⟩:=hq
    obtain⟨g1,x1⟩:=σ1
    (try dsimp only at Hs Ns Ks)
    obtain⟨As,Bs,Cs,j1s,j2s,j3s,rfl,hAs,Db,hCs,-⟩:=Hs.ex
    obtain⟨oAs,rfl⟩:=hAs.jP
    obtain⟨oBs,rfl⟩:=Db.jP
    obtain⟨oCs,rfl⟩:=hCs.jP
    clear hAs Db hCs
    have ns:=Ks.1
    have bs:=Ns.2
    (try dsimp only at ns bs)
    have L7:=Ks.2 ⟨5000000,n0⟩ bt
    have L8:=Ks.2 ⟨5000001,n0⟩ bt
    have L9:=Ks.2 ⟨5000002,n0⟩ bt
    simp only[go_sem, ↓reduceIte,Nat.reduceEqDiff,Nat.reduceAdd,Nat.reduceSub,Nat.reduceLeDiff,reduceCtorEq]at L7 L8 L9
    clear Ks
    refine hN _ _ ?_
    clear hN N
    (try((repeat(revert hN;revert N;apply Pn.out));refine wk (tw @L7 (tw @L8 @L9)) ?_;(repeat(refine Pn.mk ?_;intro N hN))))
    refine .inr (aO _ _ _ _ _ (fun r' σ2 hq=>?_) (o2 _))
    obtain⟨ia,Ha,Na,Ka⟩:=hq
    obtain⟨g2,x2⟩:=σ2
    (try dsimp only at Ha Na Ka)
    obtain⟨Da,hDa⟩:=Ha
    obtain⟨rfl,RP⟩:=hDa
    obtain⟨oDa,rfl⟩:=RP.jP
    have Ha:wT g2 (.agg [.own oDa 0 a.ah.length]) a ia:=⟨_,rfl,RP⟩
    clear RP
    have na:=Ka.1
    have ba:=Na.2
    (try dsimp only at na ba)
    have Mf:∀i:Id,i.cq<x1->g2 i=g1 i:=fun i hi=>by
     have h4:=Ka.2 i bt
     have h5:=eO (i:=i) (n:=x1) hi
     simp only[go_sem, ↓reduceIte,Nat.reduceEqDiff,Nat.reduceAdd,Nat.reduceSub,Nat.reduceLeDiff,reduceCtorEq,h5]at h4
     exact h4
    have O1:=(Mf ⟨5000000,n0⟩ bt).trans L7
    have O2:=(Mf ⟨5000001,n0⟩ bt).trans L8
    have O3:=(Mf ⟨5000002,n0⟩ bt).trans L9
    have Ma:=Ka.2 ⟨5012002,x1⟩ bt
    simp only[go_sem, ↓reduceIte,Nat.reduceEqDiff,Nat.reduceAdd,Nat.reduceSub,Nat.reduceLeDiff,reduceCtorEq]at Ma
    have Hs:=Hs.frame (g':=g2) fun i hi=>Mf i (by have:=bs i hi;omega)
    clear Ka
    refine hN _ _ ?_
    clear hN N
    (try((repeat(revert hN;revert N;apply Pn.out));refine wk (tw @O1 (tw @O2 (tw @O3 @Ma))) ?_;(repeat(refine Pn.mk ?_;intro N hN))))
    refine .inr (aO _ _ _ _ _ (fun r' σ3 hq=>?_) (o3 _))
    obtain⟨iz,Hz,Nz,Kz⟩:=hq
    obtain⟨g3,x3⟩:=σ3
    (try dsimp only at Hz Nz Kz)
    obtain⟨q1z,q2z,rfl⟩:=Hz.owns
    have nz:=Kz.1
    have bz:=Nz.2
    (try dsimp only at nz bz)
    have Ob:∀i:Id,i.cq<x2->g3 i=g2 i:=fun i hi=>by
     have h4:=Kz.2 i bt
     have h5:=eO (i:=i) (n:=x2) hi
     simp only[go_sem, ↓reduceIte,Nat.reduceEqDiff,Nat.reduceAdd,Nat.reduceSub,Nat.reduceLeDiff,reduceCtorEq,h5]at h4
     exact h4
    have O4:=(Ob ⟨5000000,n0⟩ bt).trans O1
    have O5:=(Ob ⟨5000001,n0⟩ bt).trans O2
    have O6:=(Ob ⟨5000002,n0⟩ bt).trans O3
    have O7:=(Ob ⟨5012002,x1⟩ bt).trans Ma
    have Mb:=Kz.2 ⟨5013002,x2⟩ bt
    simp only[go_sem, ↓reduceIte,Nat.reduceEqDiff,Nat.reduceAdd,Nat.reduceSub,Nat.reduceLeDiff,reduceCtorEq]at Mb
    have Hs:=Hs.frame (g':=g3) fun i hi=>Ob i (by have:=bs i hi;omega)
    have Ha:=Ha.frame (g':=g3) fun i hi=>Ob i (by have:=ba i hi;omega)
    clear Kz
    refine hN _ _ ?_
    clear hN N
    (try((repeat(revert hN;revert N;apply Pn.out));refine wk (tw @O4 (tw @O5 (tw @O6 (tw @O7 @Mb)))) ?_;(repeat(refine Pn.mk ?_;intro N hN))))
    refine .inr (aO _ _ _ _ _ (fun r' σ4 hq=>?_) (DS mixed (K:=fun r g ids=>(∃v0 i0,r=.iL [v0,.int .i64 c1]/\lW g v0 L0 i0/\ids=i0)) (by
     rintro r g ids ⟨v0,i0,rfl,k0,rfl⟩
     exact⟨by simp[A9,Ec k0.clean,A8,y9],(k0.hand)⟩) (by
     rintro r g g' ids ⟨v0,i0,rfl,k0,rfl⟩ hf
     exact⟨v0,ids,rfl,k0.frame (fun i hi=>hf i (by simp[hi])),rfl⟩) r2 (Pj ((Hs.frame fun i hi=>by
     have h5:=eO (i:=i) (n:=x3) (by have:=bs i hi;omega)
     simp only[go_sem, ↓reduceIte,Nat.reduceEqDiff,Nat.reduceAdd,Nat.reduceSub,Nat.reduceLeDiff,reduceCtorEq,h5]).fz 1) ((Ha.frame fun i hi=>by
     have h5:=eO (i:=i) (n:=x3) (by have:=ba i hi;omega)
     simp only[go_sem, ↓reduceIte,Nat.reduceEqDiff,Nat.reduceAdd,Nat.reduceSub,Nat.reduceLeDiff,reduceCtorEq,h5]).fz 2) ((Hz.frame fun i hi=>by
     have h5:=eO (i:=i) (n:=x3) (by have:=bz i hi;omega)
     simp only[go_sem, ↓reduceIte,Nat.reduceEqDiff,Nat.reduceAdd,Nat.reduceSub,Nat.reduceLeDiff,reduceCtorEq,h5]).fz 1))))
    obtain⟨iZ,⟨v0,iZ0,rfl,Z0,rfl⟩,NZ,KZ⟩:=hq
    obtain⟨g4,x4⟩:=σ4
    (try dsimp only at Z0 NZ KZ)
    have nZ:=KZ.1
    (try dsimp only at nZ)
    have N0:=NZ
    have b0:=N0.2
    (try dsimp only at b0)
    have K7:∀i:Id,i.cq<x3->g4 i=g3 i:=fun i hi=>by
     have h4:=KZ.2 i bt
     have h5:=eO (i:=i) (n:=x3) hi
     simp only[go_sem, ↓reduceIte,Nat.reduceEqDiff,Nat.reduceAdd,Nat.reduceSub,Nat.reduceLeDiff,reduceCtorEq,h5]at h4
     exact h4
    have xn:=(K7 ⟨5000000,n0⟩ bt).trans O4
    have xo:=(K7 ⟨5000001,n0⟩ bt).trans O5
    have xp:=(K7 ⟨5000002,n0⟩ bt).trans O6
    have zl:=(K7 ⟨5012002,x1⟩ bt).trans O7
    have xq:=(K7 ⟨5013002,x2⟩ bt).trans Mb
    have u7:=KZ.2 ⟨5014002,x3⟩ bt
    simp only[go_sem, ↓reduceIte,Nat.reduceEqDiff,Nat.reduceAdd,Nat.reduceSub,Nat.reduceLeDiff,reduceCtorEq]at u7
    have Hs:=Hs.frame (g':=g4) fun i hi=>K7 i (by have:=bs i hi;omega)
    have Ha:=Ha.frame (g':=g4) fun i hi=>K7 i (by have:=ba i hi;omega)
    have Hz:=Hz.frame (g':=g4) fun i hi=>K7 i (by have:=bz i hi;omega)
    clear KZ
    refine hN _ _ ?_
    clear hN N
    (try((repeat(revert hN;revert N;apply Pn.out));refine wk (tw @xn (tw @xo (tw @xp (tw @zl (tw @xq @u7))))) ?_;(repeat(refine Pn.mk ?_;intro N hN))))
    refine .inl ⟨_,ae.x (Bf Z0.E7 F4) (uM ((Z0.frame fun i hi=>by
     have h5:=eO (i:=i) (n:=x4) (by have:=b0 i hi;omega)
     simp only[go_sem, ↓reduceIte,Nat.reduceEqDiff,Nat.reduceAdd,Nat.reduceSub,Nat.reduceLeDiff,reduceCtorEq,h5]).Od) (F4.fz _)),?_⟩
    refine hN _ _ ?_
    clear hN N
    (try((repeat(revert hN;revert N;apply Pn.out));refine wk (tw @xn (tw @xo (tw @xp (tw @zl (tw @xq (tw @u7 @FV)))))) ?_;(repeat(refine Pn.mk ?_;intro N hN))))
    refine⟨_,iN.x (by rw[az]at t1;exact t1) _,?_⟩
    refine hN _ _ ?_
    clear hN N
    (try((repeat(revert hN;revert N;apply Pn.out));refine wk (tw @xn (tw @xo (tw @xp (tw @zl (tw @xq (tw @u7 @FV)))))) ?_;(repeat(refine Pn.mk ?_;intro N hN))))
    refine⟨_,ae.x (by rw[az]at q1;exact q1) (by rw[<-az];exact KP (Hs.frame fun i hi=>by
     have h5:=eO (i:=i) (n:=x4) (by have:=bs i hi;omega)
     simp only[go_sem, ↓reduceIte,Nat.reduceEqDiff,Nat.reduceAdd,Nat.reduceSub,Nat.reduceLeDiff,reduceCtorEq,h5]) (CZ _ _)),?_⟩
    refine hN _ _ ?_
    clear hN N
    (try((repeat(revert hN;revert N;apply Pn.out));refine wk (tw @xn (tw @xo (tw @xp (tw @zl (tw @xq (tw @u7 @FV)))))) ?_;(repeat(refine Pn.mk ?_;intro N hN))))
    refine⟨_,iN.x (by rw[aD]at t2;exact t2) _,?_⟩
    refine hN _ _ ?_
    clear hN N
    (try((repeat(revert hN;revert N;apply Pn.out));refine wk (tw @xn (tw @xo (tw @xp (tw @zl (tw @xq (tw @u7 @FV)))))) ?_;(repeat(refine Pn.mk ?_;intro N hN))))
    refine⟨_,ae.x (by rw[aD]at q2;exact q2) (by rw[<-aD];exact Jh (Ha.frame fun i hi=>by
     have h5:=eO (i:=i) (n:=x4) (by have:=ba i hi;omega)
     simp only[go_sem, ↓reduceIte,Nat.reduceEqDiff,Nat.reduceAdd,Nat.reduceSub,Nat.reduceLeDiff,reduceCtorEq,h5]) (CX _ _)),?_⟩
    refine hN _ _ ?_
    clear hN N
    (try((repeat(revert hN;revert N;apply Pn.out));refine wk (tw @xn (tw @xo (tw @xp (tw @zl (tw @xq (tw @u7 @FV)))))) ?_;(repeat(refine Pn.mk ?_;intro N hN))))
    refine⟨_,iN.x (by rw[bc]at t3;exact t3) _,?_⟩
    refine hN _ _ ?_
    clear hN N
    (try((repeat(revert hN;revert N;apply Pn.out));refine wk (tw @xn (tw @xo (tw @xp (tw @zl (tw @xq (tw @u7 @FV)))))) ?_;(repeat(refine Pn.mk ?_;intro N hN))))
    refine⟨_,ae.x (by rw[bc]at q3;exact q3) (by rw[<-bc];exact GZ (Hz.frame fun i hi=>by
     have h5:=eO (i:=i) (n:=x4) (by have:=bz i hi;omega)
     simp only[go_sem, ↓reduceIte,Nat.reduceEqDiff,Nat.reduceAdd,Nat.reduceSub,Nat.reduceLeDiff,reduceCtorEq,h5]) (CY _ _)),?_⟩
    refine hN _ _ ?_
    clear hN N
    (try((repeat(revert hN;revert N;apply Pn.out));refine wk (tw @xn (tw @xo (tw @xp (tw @zl (tw @xq (tw @u7 @FV)))))) ?_;(repeat(refine Pn.mk ?_;intro N hN))))
    have ji:=Kk s
    have hmf:=HL z
    refine .inr (aO _ _ _ _ _ (fun r' σ5 hq=>?_) (Fb _ s _ 1 ab sm.s.t ab _ (fun i hi=>by have:=bs i hi;(try dsimp only);omega) Ns.1 (Hs.frame fun i hi=>by
     have h5:=eO (i:=i) (n:=x4) (by have:=bs i hi;omega)
     simp only[go_sem, ↓reduceIte,Nat.reduceEqDiff,Nat.reduceAdd,Nat.reduceSub,Nat.reduceLeDiff,reduceCtorEq,h5])))
    obtain⟨rfl,hM⟩:=hq
    obtain⟨g5,x5⟩:=σ5
    (try dsimp only at hM)
    have nM5:=hM.1
    (try dsimp only at nM5)
    have K8:∀i:Id,i.cq<x4->i∉is->g5 i=g4 i:=fun i hi hx=>hM.2 i bt hx
    have O8:=(K8 ⟨5000000,n0⟩ bt (Ns.not bt)).trans xn
    have O9:=(K8 ⟨5000001,n0⟩ bt (Ns.not bt)).trans xo
    have Pa:=(K8 ⟨5000002,n0⟩ bt (Ns.not bt)).trans xp
    have Rz:=(K8 ⟨5013002,x2⟩ bt (Ns.not bt)).trans xq
    have Pb:=(K8 ⟨5014002,x3⟩ bt (Ns.not bt)).trans u7
    have Ha:=Ha.frame (g':=g5) fun i hi=>K8 i (by have:=ba i hi;omega) (Ns.not (by have:=ba i hi;omega))
    have Hz:=Hz.frame (g':=g5) fun i hi=>K8 i (by have:=bz i hi;omega) (Ns.not (by have:=bz i hi;omega))
    have Z0:=Z0.frame (g':=g5) fun i hi=>K8 i (by have:=b0 i hi;omega) (Ns.not (by have:=b0 i hi;omega))
    clear hM
    refine hN _ _ ?_
    clear hN N
    (try((repeat(revert hN;revert N;apply Pn.out));refine wk (tw @O8 (tw @O9 (tw @Pa (tw @Rz @Pb)))) ?_;(repeat(refine Pn.mk ?_;intro N hN))))
    refine .inr (aO _ _ _ _ _ (fun r' σ6 hq=>?_) (wG _ a _ (1+xU s) ab ab _ (fun i hi=>by have:=ba i hi;(try dsimp only);omega) Ha))
    obtain⟨rfl,hM⟩:=hq
    obtain⟨g6,x6⟩:=σ6
    (try dsimp only at hM)
    have nM6:=hM.1
    (try dsimp only at nM6)
    have Oc:∀i:Id,i.cq<x5->i∉ia->g6 i=g5 i:=fun i hi hx=>hM.2 i bt hx
    have Pc:=(Oc ⟨5000000,n0⟩ bt (Na.not bt)).trans O8
    have Pd:=(Oc ⟨5000001,n0⟩ bt (Na.not bt)).trans O9
    have Pe:=(Oc ⟨5000002,n0⟩ bt (Na.not bt)).trans Pa
    have RA:=(Oc ⟨5014002,x3⟩ bt (Na.not bt)).trans Pb
    have Hz:=Hz.frame (g':=g6) fun i hi=>Oc i (by have:=bz i hi;omega) (Na.not (by have:=bz i hi;omega))
    have Z0:=Z0.frame (g':=g6) fun i hi=>Oc i (by have:=b0 i hi;omega) (Na.not (by have:=b0 i hi;omega))
    clear hM
    refine hN _ _ ?_
    clear hN N
    (try((repeat(revert hN;revert N;apply Pn.out));refine wk (tw @Pc (tw @Pd (tw @Pe @RA))) ?_;(repeat(refine Pn.mk ?_;intro N hN))))
    refine .inr (aO _ _ _ _ _ (fun r' σ7 hq=>?_) (B6 _ z _ (1+xU s+3*a.ah.length) ab fm ab _ (fun i hi=>by have:=bz i hi;(try dsimp only);omega) Nz.1 Hz))
    obtain⟨rfl,hM⟩:=hq
    obtain⟨g7,x7⟩:=σ7
    (try dsimp only at hM)
    have nM7:=hM.1
    (try dsimp only at nM7)
    have QN:∀i:Id,i.cq<x6->i∉iz->g7 i=g6 i:=fun i hi hx=>hM.2 i bt hx
    have Mc:=(QN ⟨5000000,n0⟩ bt (Nz.not bt)).trans Pc
    have Md:=(QN ⟨5000001,n0⟩ bt (Nz.not bt)).trans Pd
    have Me:=(QN ⟨5000002,n0⟩ bt (Nz.not bt)).trans Pe
    have Z0:=Z0.frame (g':=g7) fun i hi=>QN i (by have:=b0 i hi;omega) (Nz.not (by have:=b0 i hi;omega))
    clear hM
    have e3:decide (1+((xU s:Nat):Int)+3*(a.ah.length:Int)+((ug z:Nat):Int)<0)=false:=decide_eq_false ab
    refine hN _ _ ?_
    clear hN N
    (try((repeat(revert hN;revert N;apply Pn.out));refine wk (tw @Mc (tw @Md (tw @Me @e3))) ?_;(repeat(refine Pn.mk ?_;intro N hN))))
    refine .inl ⟨_,ae.x (Bf Z0.E7 F4) (uM (Z0.Od) (F4.fz _)),?_⟩
    refine hN _ _ ?_
    clear hN N
    (try((repeat(revert hN;revert N;apply Pn.out));refine wk (tw @Mc (tw @Md (tw @Me (tw @FV @e3)))) ?_;(repeat(refine Pn.mk ?_;intro N hN))))
    refine .inr (aO _ _ _ _ _ (fun r' σ8 hq=>?_) (HO 1 ab ab _ (fun i hi=>by have:=b0 i hi;(try dsimp only);omega) Z0))
    obtain⟨rfl,hM,Y0⟩:=hq
    obtain⟨g8,x8⟩:=σ8
    (try dsimp only at hM Y0)
    have nM8:=hM.1
    (try dsimp only at nM8)
    have RE:∀i:Id,i.cq<x7->i∉iZ->g8 i=g7 i:=fun i hi hx=>hM.2 i bt hx
    have zm:=(RE ⟨5000000,n0⟩ bt (N0.not bt)).trans Mc
    have zo:=(RE ⟨5000001,n0⟩ bt (N0.not bt)).trans Md
    have zp:=(RE ⟨5000002,n0⟩ bt (N0.not bt)).trans Me
    clear hM
    refine hN _ _ ?_
    clear hN N
    (try((repeat(revert hN;revert N;apply Pn.out));refine wk (tw @zm (tw @zo @zp)) ?_;(repeat(refine Pn.mk ?_;intro N hN))))
    have OX:decide (1+(L0.length:Int)<0)=false:=decide_eq_false ab
    refine .inl ⟨_,ae.x (zJ 1 L0.length ab ab Y0.E7) (uM (Y0.Od) (aI _ _ _ _)),?_⟩
    refine hN _ _ ?_
    clear hN N
    have e5:decide (1+(L0.length:Int)=1+(L0.length:Int))=true:=decide_eq_true rfl
    (try((repeat(revert hN;revert N;apply Pn.out));refine wk (tw @zm (tw @zo (tw @zp (tw @OX @e5)))) ?_;(repeat(refine Pn.mk ?_;intro N hN))))
    refine⟨_,iN.x (by rw[az]at t1;exact t1) _,?_⟩
    refine hN _ _ ?_
    clear hN N
    (try((repeat(revert hN;revert N;apply Pn.out));refine wk (tw @zm (tw @zo (tw @zp (tw @OX @e5)))) ?_;(repeat(refine Pn.mk ?_;intro N hN))))
    refine⟨_,iN.x (by rw[aD]at t2;exact t2) _,?_⟩
    refine hN _ _ ?_
    clear hN N
    (try((repeat(revert hN;revert N;apply Pn.out));refine wk (tw @zm (tw @zo (tw @zp (tw @OX @e5)))) ?_;(repeat(refine Pn.mk ?_;intro N hN))))
    refine⟨_,iN.x (by rw[bc]at t3;exact t3) _,?_⟩
    refine hN _ _ ?_
    clear hN N
    (try((repeat(revert hN;revert N;apply Pn.out));refine wk (tw @zm (tw @zo (tw @zp (tw @OX @e5)))) ?_;(repeat(refine Pn.mk ?_;intro N hN))))
    have rs:ae Tryz.prog 28 [.agg (az s),.agg (aD a),.agg (bc z)] (.iL [Ni ar L0,.int .i64 c1]):=fun n=>aO _ _ _ _ _ (fun r σ' hq=>by
     obtain⟨ids,⟨v0,i0,rfl,k0,rfl⟩,-⟩:=hq
     exact⟨_,by simp only[eX,br,bV,C8,k0.s,eA,e9,Option.map_some]<;>rfl,rfl⟩) (r2 n)
    refine⟨_,ae.x (by rw[az,aD,bc]at rs;exact rs) (Pj (by rw[<-az];exact CZ _ _) (by rw[<-aD];exact CX _ _) (by rw[<-bc];exact CY _ _)),?_⟩
    refine hN _ _ ?_
    clear hN N
    have I7:=(HY (e:=ar) (L:=L0))
    generalize Ni ar L0=u0 at I7 ⊢
    (try((repeat(revert hN;revert N;apply Pn.out));refine wk (tw @zm (tw @zo (tw @zp @FV))) ?_;(repeat(refine Pn.mk ?_;intro N hN))))
    refine .inl ⟨_,ae.x (Bf I7 F4) (uM (I7.fz _) (F4.fz _)),?_⟩
    refine hN _ _ ?_
    clear hN N
    (try((repeat(revert hN;revert N;apply Pn.out));refine wk (tw @zm (tw @zo (tw @zp @FV))) ?_;(repeat(refine Pn.mk ?_;intro N hN))))
    refine .inl ⟨_,ae.x (zJ 1 L0.length ab ab Y0.E7) (uM ((Y0.frame fun i hi=>by
     have h5:=eO (i:=i) (n:=x8) (by have:=b0 i hi;omega)
     simp only[go_sem, ↓reduceIte,Nat.reduceEqDiff,Nat.reduceAdd,Nat.reduceSub,Nat.reduceLeDiff,reduceCtorEq,h5]).Od) (aI _ _ _ _)),?_⟩
    refine hN _ _ ?_
    clear hN N
    (try((repeat(revert hN;revert N;apply Pn.out));refine wk (tw @zm (tw @zo (tw @zp (tw @OX @e5)))) ?_;(repeat(refine Pn.mk ?_;intro N hN))))
    exact aC (b:=true) (.inl rfl) (sd @Nat.zero_add) rfl
   ·rw[fo hf3]at h3
    rw[az]at h1
    rw[aD]at h2
    rw[bc]at h3
    (repeat(first|((repeat(revert hN;revert N;apply Pn.out));refine wk (tw @az.eq_1 (tw @aD.eq_1 (tw @bc.eq_1 (tw @tM @zK)))) ?_;(repeat(refine Pn.mk ?_;intro N hN)))|((try apply Or.inl);refine⟨_,ae.x (h1) (sd (tw @az.eq_1 (tw @aD.eq_1 (tw @bc.eq_1 (tw @tM @zK))))),?_⟩;refine hN _ _ ?_;clear hN N)|((try apply Or.inl);refine⟨_,ae.x (h2) (sd (tw @az.eq_1 (tw @aD.eq_1 (tw @bc.eq_1 (tw @tM @zK))))),?_⟩;refine hN _ _ ?_;clear hN N)|((try apply Or.inl);refine⟨_,ae.x (h3) (sd (tw @az.eq_1 (tw @aD.eq_1 (tw @bc.eq_1 (tw @tM @zK))))),?_⟩;refine hN _ _ ?_;clear hN N)))
    exact aC (b:=true) (.inl rfl) (sd @Nat.zero_add) rfl
  ·rw[fo Le]at h2
   rw[az]at h1
   rw[aD]at h2
   (repeat(first|((repeat(revert hN;revert N;apply Pn.out));refine wk (tw @az.eq_1 (tw @aD.eq_1 (tw @bc.eq_1 @tM))) ?_;(repeat(refine Pn.mk ?_;intro N hN)))|((try apply Or.inl);refine⟨_,ae.x (h1) (sd (tw @az.eq_1 (tw @aD.eq_1 (tw @bc.eq_1 @tM)))),?_⟩;refine hN _ _ ?_;clear hN N)|((try apply Or.inl);refine⟨_,ae.x (h2) (sd (tw @az.eq_1 (tw @aD.eq_1 (tw @bc.eq_1 @tM)))),?_⟩;refine hN _ _ ?_;clear hN N)))
   exact aC (b:=true) (.inl rfl) (sd @Nat.zero_add) rfl
 ·rw[fo PE]at h1
  rw[az]at h1
  (repeat(first|((repeat(revert hN;revert N;apply Pn.out));refine wk (tw @az.eq_1 (tw @aD.eq_1 @bc.eq_1)) ?_;(repeat(refine Pn.mk ?_;intro N hN)))|((try apply Or.inl);refine⟨_,ae.x (h1) (sd (tw @az.eq_1 (tw @aD.eq_1 @bc.eq_1))),?_⟩;refine hN _ _ ?_;clear hN N)))
  exact aC (b:=true) (.inl rfl) (sd @Nat.zero_add) rfl
theorem E0 (n:Int) (h0:1<=n) (h1:n<=4) (c:eH):ae Tryz.prog 113 [.int .i64 n,.agg (bh c)] (.bool (oO n c)):=by
 refine ae.body dM rfl fun hl n0=>?_
 clear hl
 have hn:¬n<0:=ab
 have hs:=Io h0 h1
 have h2:=yp h0 h1
 have hw:IntKind.i64.wrap (mu n-1)=mu n-1:=aT ab
 have i1:=gU c.dn 0 (mu n-1)
 have i2:=gU c.de 0 (mu n-1)
 have ha:=K3 c.de c.dn
 simp only[go_sem, ↓reduceIte,Nat.reduceEqDiff,Nat.reduceAdd,Nat.reduceSub,Nat.reduceLeDiff,reduceCtorEq,Option.some.injEq,AV.int.injEq,true_and]at ha
 cases hc:fI c.dn 0 (mu n-1)
 ·rw[hc]at i1
  (repeat(first|((repeat(revert hN;revert N;apply Pn.out));refine wk (tw @bh.eq_1 (tw @hn (tw @hs @hw))) ?_;(repeat(refine Pn.mk ?_;intro N hN)))|((try apply Or.inl);refine⟨_,ae.x (i1) (sd (tw @bh.eq_1 (tw @hn (tw @hs @hw)))),?_⟩;refine hN _ _ ?_;clear hN N)))
  exact aC (b:=false) (.inl rfl) (sd @Nat.zero_add) (by rw[oO,hc];rfl)
 rw[hc]at i1
 cases hv:fI c.de 0 (mu n-1)
 ·rw[hv]at i2
  have hd:decide (AW c.de c.dn=c.de)=false:=decide_eq_false fun e=>by
   have:=Bc h0 h1 hc e
   rw[hv]at this;cases this
  (repeat(first|((repeat(revert hN;revert N;apply Pn.out));refine wk (tw @bh.eq_1 (tw @hn (tw @hs @hw))) ?_;(repeat(refine Pn.mk ?_;intro N hN)))|((try apply Or.inl);refine⟨_,ae.x (i1) (sd (tw @bh.eq_1 (tw @hn (tw @hs @hw)))),?_⟩;refine hN _ _ ?_;clear hN N)|((try apply Or.inl);refine⟨_,ae.x (i2) (sd (tw @bh.eq_1 (tw @hn (tw @hs @hw)))),?_⟩;refine hN _ _ ?_;clear hN N)))
  exact aC (b:=false) (.inl rfl) (sd @Nat.zero_add) (by rw[oO,hc,hd];rfl)
 ·rw[hv]at i2
  (repeat(first|((repeat(revert hN;revert N;apply Pn.out));refine wk (tw @bh.eq_1 (tw @hn (tw @hs (tw @hw @ha)))) ?_;(repeat(refine Pn.mk ?_;intro N hN)))|((try apply Or.inl);refine⟨_,ae.x (i1) (sd (tw @bh.eq_1 (tw @hn (tw @hs (tw @hw @ha))))),?_⟩;refine hN _ _ ?_;clear hN N)|((try apply Or.inl);refine⟨_,ae.x (i2) (sd (tw @bh.eq_1 (tw @hn (tw @hs (tw @hw @ha))))),?_⟩;refine hN _ _ ?_;clear hN N)))
  exact aC (b:=decide (AW c.de c.dn=c.de)) (.inl rfl) (sd @ha) (by rw[oO,hc];rfl)
theorem z5 (a b:eH):ae Tryz.prog 114 [.agg (bh a),.agg (bh b)] (.bool (p4 a b)):=by
 refine ae.body dM rfl fun hl n0=>?_
 clear hl
 by_cases h1:a.dn<b.dn
 ·(try((repeat(revert hN;revert N;apply Pn.out));refine wk (tw @bh.eq_1 @h1) ?_;(repeat(refine Pn.mk ?_;intro N hN))))
  exact aC (b:=true) (.inl rfl) (sd @Nat.zero_add) (by rw[p4,decide_eq_true h1];rfl)
 by_cases h2:a.dn=b.dn
 ·have e:=decide_eq_true h2
  (try((repeat(revert hN;revert N;apply Pn.out));refine wk (tw @bh.eq_1 (tw @h1 @e)) ?_;(repeat(refine Pn.mk ?_;intro N hN))))
  exact aC (b:=decide (a.de<b.de)) (.inl rfl) (sd @Nat.zero_add) (by rw[p4,decide_eq_false h1,e];rfl)
 ·have e:=decide_eq_false h2
  (try((repeat(revert hN;revert N;apply Pn.out));refine wk (tw @bh.eq_1 (tw @h1 @e)) ?_;(repeat(refine Pn.mk ?_;intro N hN))))
  exact aC (b:=false) (.inl rfl) (sd @Nat.zero_add) (by rw[p4,decide_eq_false h1,e];rfl)
theorem zC {l:List Int} {k:Nat} (h:k<l.length):(l.map ar)[k]? =some [.int .i64 (l.getD k 0)]:=getD_map ar h
theorem BV (l:List Int) (Ok:l.length<=9223372036854775806) (m:Int):ae Tryz.prog 115 [.sl (l.map ar),.int .i64 0,.int .i64 (m-1)] (.bool (mZ m l)):=by
 refine ae.body dM rfl fun hl n0=>?_
 clear hl
 have gw:(l.map ar).length=l.length:=by simp
 (try((repeat(revert hN;revert N;apply Pn.out));refine wk @Nat.zero_add ?_;(repeat(refine Pn.mk ?_;intro N hN))))
 refine aP (fun n env st=>∃k:Nat,n=(l.length)-k/\k<=(l.length)/\env 7=.int .i64 (k:Int)/\(∀j:Nat,j<k->nj m l j)) (l.length) ⟨0,ab,ab,sl @gw,fun _ h=>absurd h (Nat.not_lt_zero _)⟩ ?_
 rintro n_a env_a st_a ⟨k,rfl,ale,a7,iM⟩ dm
 have a0:=dm 0 (by kernel_rfl);have a1:=dm 1 (by kernel_rfl);have a2:=dm 2 (by kernel_rfl)
 simp only[go_sem, ↓reduceIte,Nat.reduceEqDiff,Nat.reduceAdd,Nat.reduceSub,Nat.reduceLeDiff,reduceCtorEq,gw]at a0 a1 a2
 clear dm
 by_cases hk:(k:Int)<(l.length:Int)
 ·have bD:∀{e:Env},(e 7=.int .i64 (IntKind.i64.wrap ((k:Int)+1)))->(nj m l k)->∃m0,m0<(l.length)-k/\∃k:Nat,m0=(l.length)-k/\k<=(l.length)/\e 7=.int .i64 (k:Int)/\(∀j:Nat,j<k->nj m l j):=fun x1 x2=>⟨_,ab,k+1,rfl,ab,(by rw[x1,ay ab]),(all_succ iM x2)⟩
  have dX:k<l.length:=ab
  have hg:=zC dX
  have hI:=gU (l.getD k 0) 0 (m-1)
  cases hc:fI (l.getD k 0) 0 (m-1)
  ·rw[hc]at hI
   (repeat(first|((repeat(revert hN;revert N;apply Pn.out));refine wk (tw @a7 (tw @a0 (tw @a1 (tw @a2 (tw @hk (tw @gw @hg)))))) ?_;(repeat(refine Pn.mk ?_;intro N hN)))|((try apply Or.inl);refine⟨_,ae.x (hI) (sd (tw @a7 (tw @a0 (tw @a1 (tw @a2 (tw @hk (tw @gw @hg))))))),?_⟩;refine hN _ _ ?_;clear hN N)))
   exact aC (b:=false) (.inl rfl) (sd @Nat.zero_add) (s4 dX fun h=>by rw[nj,hc]at h;cases h.1)
  rw[hc]at hI
  rcases k with _|k
  ·have hd:¬(0:Int)<((0:Nat):Int):=ab
   (repeat(first|((repeat(revert hN;revert N;apply Pn.out));refine wk (tw @a7 (tw @a0 (tw @a1 (tw @a2 (tw @hk (tw @gw (tw @hg @hd))))))) ?_;(repeat(refine Pn.mk ?_;intro N hN)))|((try apply Or.inl);refine⟨_,ae.x (hI) (sd (tw @a7 (tw @a0 (tw @a1 (tw @a2 (tw @hk (tw @gw (tw @hg @hd)))))))),?_⟩;refine hN _ _ ?_;clear hN N)))
   exact bD (sd (tw @a7 (tw @a0 (tw @a1 @a2)))) (⟨hc,fun h=>absurd h (Nat.lt_irrefl 0)⟩)
  ·have hd:(0:Int)<((k+1:Nat):Int):=ab
   have hw:IntKind.i64.wrap (((k+1:Nat):Int)-1)=(k:Int):=by rw[aT ab];omega
   have oF:=zC (l:=l) (k:=k) ab
   have kJ:(0:Int)<=(k:Int):=ab
   by_cases dD:l.getD k 0<l.getD (k+1) 0
   ·have jx:¬l.getD (k+1) 0<=l.getD k 0:=ab
    have hr:nj m l (k+1):=⟨hc,fun _=>dD⟩
    (repeat(first|((repeat(revert hN;revert N;apply Pn.out));refine wk (tw @a7 (tw @a0 (tw @a1 (tw @a2 (tw @hk (tw @gw (tw @hg (tw @hd (tw @hw (tw @oF (tw @kJ @jx))))))))))) ?_;(repeat(refine Pn.mk ?_;intro N hN)))|((try apply Or.inl);refine⟨_,ae.x (hI) (sd (tw @a7 (tw @a0 (tw @a1 (tw @a2 (tw @hk (tw @gw (tw @hg (tw @hd (tw @hw (tw @oF (tw @kJ @jx)))))))))))),?_⟩;refine hN _ _ ?_;clear hN N)))
    exact bD (sd (tw @a7 (tw @a0 (tw @a1 @a2)))) (hr)
   ·have jx:l.getD (k+1) 0<=l.getD k 0:=ab
    have hr:¬nj m l (k+1):=fun h=>dD (h.2 ab)
    (repeat(first|((repeat(revert hN;revert N;apply Pn.out));refine wk (tw @a7 (tw @a0 (tw @a1 (tw @a2 (tw @hk (tw @gw (tw @hg (tw @hd (tw @hw (tw @oF (tw @kJ @jx))))))))))) ?_;(repeat(refine Pn.mk ?_;intro N hN)))|((try apply Or.inl);refine⟨_,ae.x (hI) (sd (tw @a7 (tw @a0 (tw @a1 (tw @a2 (tw @hk (tw @gw (tw @hg (tw @hd (tw @hw (tw @oF (tw @kJ @jx)))))))))))),?_⟩;refine hN _ _ ?_;clear hN N)))
    exact aC (b:=false) (.inl rfl) (sd @Nat.zero_add) (s4 dX hr)
 ·have dX:k=l.length:=ab
  subst dX
  (try((repeat(revert hN;revert N;apply Pn.out));refine wk (tw @a7 (tw @a0 (tw @a1 (tw @a2 (tw @hk @gw))))) ?_;(repeat(refine Pn.mk ?_;intro N hN))))
  exact aC (b:=true) (.inl rfl) (sd @Nat.zero_add) (An fun i hi=>iM i hi)
theorem E3 (f:dG) (xK:f.aL.length<=1048576) (yG:∀l∈f.aL,l.length<=1048576):ae Tryz.prog 83 [.cJ (bc f)] (.bool (nF f)):=by
 refine ae.body dM rfl fun hl n0=>?_
 have lq:f.aq.length<=9223372036854775807:=by
  have h1:=(hl (.cJ (bc f)) (by simp)).ua (a:=.sl (f.aq.map bh)) (by simp[bc])
  simpa using h1.len
 clear hl
 have gO:(f.aq.map bh).length=f.aq.length:=by simp
 have ji:(f.aL.map j9).length=f.aL.length:=by simp
 have i1:=gU f.aU 1 4
 have i2:=gU (f.aL.length:Int) 1 3
 cases b1:fI f.aU 1 4
 ·rw[b1]at i1
  (repeat(first|((repeat(revert hN;revert N;apply Pn.out));refine wk @bc.eq_1 ?_;(repeat(refine Pn.mk ?_;intro N hN)))|((try apply Or.inl);refine⟨_,ae.x (i1) (sd @bc.eq_1),?_⟩;refine hN _ _ ?_;clear hN N)))
  exact aC (b:=false) (.inl rfl) (sd @Nat.zero_add) (j4 (by rw[b1];rfl))
 rw[b1]at i1
 cases b2:fI (f.aL.length:Int) 1 3
 ·rw[b2]at i2
  (repeat(first|((repeat(revert hN;revert N;apply Pn.out));refine wk (tw @bc.eq_1 @ji) ?_;(repeat(refine Pn.mk ?_;intro N hN)))|((try apply Or.inl);refine⟨_,ae.x (i1) (sd (tw @bc.eq_1 @ji)),?_⟩;refine hN _ _ ?_;clear hN N)|((try apply Or.inl);refine⟨_,ae.x (i2) (sd (tw @bc.eq_1 @ji)),?_⟩;refine hN _ _ ?_;clear hN N)))
  exact aC (b:=false) (.inl rfl) (sd @Nat.zero_add) (j4 (by rw[b1,b2];rfl))
 rw[b2]at i2
 by_cases b3:(81:Int)<(f.aq.length:Int)
 ·(repeat(first|((repeat(revert hN;revert N;apply Pn.out));refine wk (tw @bc.eq_1 (tw @ji (tw @gO @b3))) ?_;(repeat(refine Pn.mk ?_;intro N hN)))|((try apply Or.inl);refine⟨_,ae.x (i1) (sd (tw @bc.eq_1 (tw @ji (tw @gO @b3)))),?_⟩;refine hN _ _ ?_;clear hN N)|((try apply Or.inl);refine⟨_,ae.x (i2) (sd (tw @bc.eq_1 (tw @ji (tw @gO @b3)))),?_⟩;refine hN _ _ ?_;clear hN N)))
  exact aC (b:=false) (.inl rfl) (sd @Nat.zero_add) (j4 (by rw[b1,b2,decide_eq_false ab];rfl))
 have Sp:(fI f.aU 1 4&&fI (f.aL.length:Int) 1 3&&decide (f.aq.length<=81))=true:=by rw[b1,b2,decide_eq_true ab];rfl
 have M7:=dB b1
 (repeat(first|((repeat(revert hN;revert N;apply Pn.out));refine wk (tw @bc.eq_1 (tw @ji (tw @gO @b3))) ?_;(repeat(refine Pn.mk ?_;intro N hN)))|((try apply Or.inl);refine⟨_,ae.x (i1) (sd (tw @bc.eq_1 (tw @ji (tw @gO @b3)))),?_⟩;refine hN _ _ ?_;clear hN N)|((try apply Or.inl);refine⟨_,ae.x (i2) (sd (tw @bc.eq_1 (tw @ji (tw @gO @b3)))),?_⟩;refine hN _ _ ?_;clear hN N)))
 refine aP (fun n env st=>∃k:Nat,n=(f.aq.length)-k/\k<=(f.aq.length)/\env 3=.int .i64 (k:Int)/\(∀j:Nat,j<k->lV f.aU f.aq j)) (f.aq.length) ⟨0,ab,ab,sl (tw @gO @ji),fun _ h=>absurd h (Nat.not_lt_zero _)⟩ ?_
 rintro n_a env_a st_a ⟨k,rfl,ale,a3,iM⟩ dm
 have a0:=dm 0 (by kernel_rfl)
 simp only[go_sem, ↓reduceIte,Nat.reduceEqDiff,Nat.reduceAdd,Nat.reduceSub,Nat.reduceLeDiff,reduceCtorEq,gO,ji]at a0
 clear dm
 by_cases hk:(k:Int)<(f.aq.length:Int)
 ·have bD:∀{e:Env},(e 3=.int .i64 (IntKind.i64.wrap ((k:Int)+1)))->(lV f.aU f.aq k)->∃m0,m0<(f.aq.length)-k/\∃k:Nat,m0=(f.aq.length)-k/\k<=(f.aq.length)/\e 3=.int .i64 (k:Int)/\(∀j:Nat,j<k->lV f.aU f.aq j):=fun x1 x2=>⟨_,ab,k+1,rfl,ab,(by rw[x1,ay ab]),(all_succ iM x2)⟩
  have dX:k<f.aq.length:=ab
  have hg:=sM dX
  have hC:=E0 f.aU M7.1 M7.2 (iG f.aq k)
  cases hc:oO f.aU (iG f.aq k)
  ·rw[hc]at hC
   rw[bh]at hC hg
   (repeat(first|((repeat(revert hN;revert N;apply Pn.out));refine wk (tw @a3 (tw @a0 (tw @hk (tw @gO @hg)))) ?_;(repeat(refine Pn.mk ?_;intro N hN)))|((try apply Or.inl);refine⟨_,ae.x (hC) (sd (tw @a3 (tw @a0 (tw @hk (tw @gO @hg))))),?_⟩;refine hN _ _ ?_;clear hN N)))
   exact aC (b:=false) (.inl rfl) (sd @Nat.zero_add) (oh dX fun h=>by rw[lV,hc]at h;cases h.1)
  rw[hc]at hC
  rcases k with _|k
  ·have hd:¬(0:Int)<((0:Nat):Int):=ab
   rw[bh]at hC hg
   (repeat(first|((repeat(revert hN;revert N;apply Pn.out));refine wk (tw @a3 (tw @a0 (tw @hk (tw @gO (tw @hg @hd))))) ?_;(repeat(refine Pn.mk ?_;intro N hN)))|((try apply Or.inl);refine⟨_,ae.x (hC) (sd (tw @a3 (tw @a0 (tw @hk (tw @gO (tw @hg @hd)))))),?_⟩;refine hN _ _ ?_;clear hN N)))
   exact bD (sd (tw @a3 @a0)) (⟨hc,fun h=>absurd h (Nat.lt_irrefl 0)⟩)
  ·have hd:(0:Int)<((k+1:Nat):Int):=ab
   have hw:IntKind.i64.wrap (((k+1:Nat):Int)-1)=(k:Int):=by rw[aT ab];omega
   have oF:=sM (l:=f.aq) (k:=k) ab
   have kJ:(0:Int)<=(k:Int):=ab
   have hB:=z5 (iG f.aq k) (iG f.aq (k+1))
   cases dD:p4 (iG f.aq k) (iG f.aq (k+1))
   ·have hr:¬lV f.aU f.aq (k+1):=fun h=>by have h9:=h.2 ab;rw[Nat.add_sub_cancel,dD]at h9;cases h9
    rw[dD]at hB
    rw[bh]at hC hg
    rw[bh]at oF
    rw[bh,bh]at hB
    (repeat(first|((repeat(revert hN;revert N;apply Pn.out));refine wk (tw @a3 (tw @a0 (tw @hk (tw @gO (tw @hg (tw @hd (tw @hw (tw @oF @kJ)))))))) ?_;(repeat(refine Pn.mk ?_;intro N hN)))|((try apply Or.inl);refine⟨_,ae.x (hC) (sd (tw @a3 (tw @a0 (tw @hk (tw @gO (tw @hg (tw @hd (tw @hw (tw @oF @kJ))))))))),?_⟩;refine hN _ _ ?_;clear hN N)|((try apply Or.inl);refine⟨_,ae.x (hB) (sd (tw @a3 (tw @a0 (tw @hk (tw @gO (tw @hg (tw @hd (tw @hw (tw @oF @kJ))))))))),?_⟩;refine hN _ _ ?_;clear hN N)))
    exact aC (b:=false) (.inl rfl) (sd @Nat.zero_add) (oh dX hr)
   ·have hr:lV f.aU f.aq (k+1):=⟨hc,fun _=>by rw[Nat.add_sub_cancel];exact dD⟩
    rw[dD]at hB
    rw[bh]at hC hg
    rw[bh]at oF
    rw[bh,bh]at hB
    (repeat(first|((repeat(revert hN;revert N;apply Pn.out));refine wk (tw @a3 (tw @a0 (tw @hk (tw @gO (tw @hg (tw @hd (tw @hw (tw @oF @kJ)))))))) ?_;(repeat(refine Pn.mk ?_;intro N hN)))|((try apply Or.inl);refine⟨_,ae.x (hC) (sd (tw @a3 (tw @a0 (tw @hk (tw @gO (tw @hg (tw @hd (tw @hw (tw @oF @kJ))))))))),?_⟩;refine hN _ _ ?_;clear hN N)|((try apply Or.inl);refine⟨_,ae.x (hB) (sd (tw @a3 (tw @a0 (tw @hk (tw @gO (tw @hg (tw @hd (tw @hw (tw @oF @kJ))))))))),?_⟩;refine hN _ _ ?_;clear hN N)))
    exact bD (sd (tw @a3 @a0)) (hr)
 ·have dX:k=f.aq.length:=ab
  subst dX
  have tW:=wb Sp fun i hi=>iM i hi
  (try((repeat(revert hN;revert N;apply Pn.out));refine wk (tw @a3 (tw @a0 (tw @hk @gO))) ?_;(repeat(refine Pn.mk ?_;intro N hN))))
  refine aP (fun n env st=>∃j:Nat,n=(f.aL.length)-j/\j<=(f.aL.length)/\env 4=.int .i64 (j:Int)/\(∀i:Nat,i<j->mZ f.aq.length (qF f.aL i)=true)) (f.aL.length) ⟨0,ab,ab,sl (tw @a3 (tw @a0 (tw @gO @ji))),fun _ h=>absurd h (Nat.not_lt_zero _)⟩ ?_
  rintro n_b env_b st_b ⟨j,rfl,ble,b4,bA0⟩ bfr
  have b0:=bfr 0 (by kernel_rfl)
  simp only[go_sem, ↓reduceIte,Nat.reduceEqDiff,Nat.reduceAdd,Nat.reduceSub,Nat.reduceLeDiff,reduceCtorEq,a3,a0,gO,ji]at b0
  clear bfr
  by_cases hj:(j:Int)<(f.aL.length:Int)
  ·have jo:∀{e:Env},(e 4=.int .i64 (IntKind.i64.wrap ((j:Int)+1)))->(mZ f.aq.length (qF f.aL j)=true)->∃m0,m0<(f.aL.length)-j/\∃j:Nat,m0=(f.aL.length)-j/\j<=(f.aL.length)/\e 4=.int .i64 (j:Int)/\(∀i:Nat,i<j->mZ f.aq.length (qF f.aL i)=true):=fun x1 x2=>⟨_,ab,j+1,rfl,ab,(by rw[x1,ay ab]),(all_succ bA0 x2)⟩
   have gj:j<f.aL.length:=ab
   have hg:=KO gj
   have rq:qF f.aL j∈f.aL:=by
    unfold qF
    rw[List.getD_eq_getElem?_getD,List.getElem?_eq_getElem gj]
    exact List.getElem_mem gj
   have hR:=BV (qF f.aL j) (by have:=yG _ rq;omega) (f.aq.length:Int)
   have hw:IntKind.i64.wrap ((f.aq.length:Int)-1)=(f.aq.length:Int)-1:=aT ab
   cases hr:mZ (f.aq.length:Int) (qF f.aL j)
   ·rw[hr]at hR
    (repeat(first|((repeat(revert hN;revert N;apply Pn.out));refine wk (tw @b4 (tw @b0 (tw @hj (tw @ji (tw @gO (tw @hg @hw)))))) ?_;(repeat(refine Pn.mk ?_;intro N hN)))|((try apply Or.inl);refine⟨_,ae.x (hR) (sd (tw @b4 (tw @b0 (tw @hj (tw @ji (tw @gO (tw @hg @hw))))))),?_⟩;refine hN _ _ ?_;clear hN N)))
    exact aC (b:=false) (.inl rfl) (sd @Nat.zero_add) (tW.trans (List.all_eq_false.2 ⟨_,rq,by rw[hr];simp⟩)).symm
   ·rw[hr]at hR
    (repeat(first|((repeat(revert hN;revert N;apply Pn.out));refine wk (tw @b4 (tw @b0 (tw @hj (tw @ji (tw @gO (tw @hg @hw)))))) ?_;(repeat(refine Pn.mk ?_;intro N hN)))|((try apply Or.inl);refine⟨_,ae.x (hR) (sd (tw @b4 (tw @b0 (tw @hj (tw @ji (tw @gO (tw @hg @hw))))))),?_⟩;refine hN _ _ ?_;clear hN N)))
    exact jo (sd (tw @b4 @b0)) (hr)
  ·have gj:j=f.aL.length:=ab
   subst gj
   (try((repeat(revert hN;revert N;apply Pn.out));refine wk (tw @b4 (tw @b0 (tw @hj @ji))) ?_;(repeat(refine Pn.mk ?_;intro N hN))))
   exact aC (b:=true) (.inl rfl) (sd @Nat.zero_add) (tW.trans (List.all_eq_true.2 fun x hx=>by
    obtain⟨i,hi,rfl⟩:=List.getElem_of_mem hx
    have h9:=bA0 i hi
    rw[qF,List.getD_eq_getElem?_getD,List.getElem?_eq_getElem hi]at h9
    exact h9)).symm
theorem HD (s:cl) (l:List ao) (f:dG) (hn:fx s.aE) (hg:s.aE.au.length<=1048576) (ht:s.aE.ah.length<=1048576) (xK:f.aL.length<=1048576) (yG:∀l∈f.aL,l.length<=1048576):ae Tryz.prog 54 [.cJ (az s),.cJ [.sl (l.map ai)],.cJ (bc f)] (.int .i64 (if nu s l&&nF f then 0 else 1)):=by
 refine ae.body dM rfl fun hl n0=>?_
 clear hl
 have h1:=BZ s l hn hg ht
 have h2:=E3 f xK yG
 rw[az]at h1 ⊢
 rw[bc]at h2 ⊢
 cases b1:nu s l
 ·rw[b1]at h1
  (repeat(first|((repeat(revert hN;revert N;apply Pn.out));refine wk @Nat.zero_add ?_;(repeat(refine Pn.mk ?_;intro N hN)))|((try apply Or.inl);refine⟨_,ae.x (h1) (sd @Nat.zero_add),?_⟩;refine hN _ _ ?_;clear hN N)))
  exact aZ (b:=1) (.inl rfl) (sd @Nat.zero_add) rfl
 rw[b1]at h1
 cases b2:nF f
 ·rw[b2]at h2
  (repeat(first|((repeat(revert hN;revert N;apply Pn.out));refine wk @Nat.zero_add ?_;(repeat(refine Pn.mk ?_;intro N hN)))|((try apply Or.inl);refine⟨_,ae.x (h1) (sd @Nat.zero_add),?_⟩;refine hN _ _ ?_;clear hN N)|((try apply Or.inl);refine⟨_,ae.x (h2) (sd @Nat.zero_add),?_⟩;refine hN _ _ ?_;clear hN N)))
  exact aZ (b:=1) (.inl rfl) (sd @Nat.zero_add) rfl
 ·rw[b2]at h2
  (repeat(first|((repeat(revert hN;revert N;apply Pn.out));refine wk @Nat.zero_add ?_;(repeat(refine Pn.mk ?_;intro N hN)))|((try apply Or.inl);refine⟨_,ae.x (h1) (sd @Nat.zero_add),?_⟩;refine hN _ _ ?_;clear hN N)|((try apply Or.inl);refine⟨_,ae.x (h2) (sd @Nat.zero_add),?_⟩;refine hN _ _ ?_;clear hN N)))
  exact aZ (b:=0) (.inl rfl) (sd @Nat.zero_add) rfl
end Go.Proofs.YtihgaadadaekmaaGreatDoor.V

namespace Go.Proofs.YtihgaadadaekmaaGreatDoor
open Go.RowKit
end Go.Proofs.YtihgaadadaekmaaGreatDoor
namespace Go.Proofs.YtihgaadadaekmaaGreatDoor.V
open Go.RowKit
end Go.Proofs.YtihgaadadaekmaaGreatDoor.V
