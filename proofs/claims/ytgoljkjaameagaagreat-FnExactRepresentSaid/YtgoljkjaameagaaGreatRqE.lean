/- Functions that range over a map once: their pieces. -/
import Derived.Test.YtgoljkjaameagaaGreatRqD
import Derived.Test.YtgoljkjaameagaaGreatRqC
import Derived.Test.YtgoljkjaameagaaGreatChecked
import Derived.Test.YtgoljkjaameagaaGreatRqB
import Derived.RangeFuncNested
import Derived.RangeFuncBound
import Derived.RangeFuncCalls
import Derived.RangeFuncLeaves
import Derived.Shelf.Abstract
import Derived.Shelf.RegionOpen
import Derived.WalkKit
import Derived.OwnWalkIn
import Derived.TacticsInMore
import Derived.LoopNIn
import Derived.LoopIn
import Derived.BigQuiet
import Derived.RangeFuncBox
import Derived.RangeFuncWrites
import Derived.Maps.AppendAt
import Derived.OrdersIn
set_option linter.unusedVariables false
set_option linter.unusedSimpArgs false
set_option maxRecDepth 100000
set_option maxHeartbeats 16000000
namespace Go.Proofs.YtgoljkjaameagaaGreat.V
open Go.RowKit
def KG:Code->Code
 | .seq a _=>a
 |c=>c
def EH:Code->Code
 | .seq _ b=>b
 |c=>c
def Tq:Code->Code
 | .block _ c=>c
 |c=>c
def Vu:Code->Code
 | .loop c=>c
 |c=>c
def Su:Code->List Oper
 | .region _ o _=>o.toList
 |_=>[]
def rg2 (k:Code):Code:=KG (KG (EH (EH k)))
def Vp (k:Code):Code:=EH (KG (EH (EH k)))
def rgL (k:Code):Code:=Vu (Tq (Vp k))
def Po (k:Code):Code:=EH (EH (rgL k))
def PY:Oper:={dst:=none,op:=.nilCheck (.tmp 0),type:=0,pos:= "",after:= #[],guard:=none}
def rgP (k:Code):List Oper:=(Su (rg2 k)).dropLast
def rgO (k:Code):Oper:=(Su (rg2 k)).getLastD PY
def Tm (k:Code) (i:Nat):Oper:=(Su (KG (rgL k))).getD i PY
def R7 (k:Code):Oper:=(Su (KG (Tq (Po k)))).headD PY
def R8 (k:Code):List Oper:=(Su (KG (Tq (Po k)))).tail
def rgR (k:Code):Code:=EH (Tq (Po k))
def Pq (P:Program) (v0 v1:VC) (vA:List bH) (m:MK) (tm:O) (site it nx ok en:Nat) (vE:List bH) (vR:VC) (b b1:Nat) (vT:VC) (Q:Ex->Env->au->Prop):Env->au->Prop:=
 dQ (Sound P) v0 (cX (dQ (Sound P) v1 (cX (wpOps (Sound P) false vA (G5 m tm site it nx ok en (dQ (Sound P) (.seq (.eA false vE) vR)) b b1 (cX (dQ (Sound P) vT Q) Q))) Q)) Q)
def Pp (P:Program) (v0 v1:VC) (vA:List bH) (m:MK) (tm:O) (site it nx ok en:Nat) (vE:List bH) (vR:VC) (b b1:Nat) (vT:VC) (Q:Ex->Env->au->Prop):Env->au->Prop:=
 dQ (Call P) v0 (cX (dQ (Call P) v1 (cX (wpOps (Call P) false vA (G5 m tm site it nx ok en (dQ (Call P) (.seq (.eA false vE) vR)) b b1 (cX (dQ (Call P) vT Q) Q))) Q)) Q)
theorem ox {F F':Env->au->Prop} {Q:Ex->Env->au->Prop} (h:∀e s,F e s->F' e s):∀x e s,cX F Q x e s->cX F' Q x e s:=fun x e s hx=>by
 cases x with
 |normal=>exact h e s hx
 |ret=>exact hx
 |exit id=>exact hx
theorem JQ {P:Program} (hm:P.follows .mixedOrders=true) {v0 v1:VC} {vA:List bH} {m:MK} {tm:O} {site it nx ok en:Nat} {vE:List bH} {vR:VC} {b b1:Nat} {vT:VC} {Q:Ex->Env->au->Prop} {env:Env} {σ:au}
  (h:Pp P v0 v1 vA m tm site it nx ok en vE vR b b1 vT Q env σ):Pq P v0 v1 vA m tm site it nx ok en vE vR b b1 vT Q env σ:=
 mh hm (ox fun _ _ h=>mh hm (ox fun _ _ h=>kI (fun _ _ _ _ h=>fR hm h) kj (fun _ _ h=>G6 hm (ox fun _ _ h=>mh hm (fun _ _ _ h=>h) h) h) _ _ _ h) h) h
end Go.Proofs.YtgoljkjaameagaaGreat.V

namespace Go.Proofs.YtgoljkjaameagaaGreat.V
open Go.RowKit
attribute [local irreducible] dQ wpOps ft Call
attribute [local go_sem] aA eV ef e9 e8 cZ upd bQ K.av cr AV.cells AV.cell rowOf rowsOf part ld rowAt bD bL dm dD fE bu cK dO fa eF db dH cI cH dw dx bz aQ cz bx cD cC dF dI dG cw bC cJ dE bw az cF bZ fD bj cq bB aJ cX aX dn AV.undef bp br dy dC du dz cm dM dP bU dK dJ cE cG List.getD_cons_zero List.getD_cons_succ List.getD_nil List.all_cons List.all_nil Bool.and_true Bool.true_and Bool.and_self Bool.not_true Bool.not_false Option.map_some Option.map_none Option.bind_some Option.bind_none List.length_cons List.length_nil List.take_succ_cons List.take_zero List.take_nil List.drop_succ_cons List.drop_zero List.drop_nil List.head?_cons List.map_cons List.map_nil List.getElem?_cons_zero List.getElem?_cons_succ List.cons_append List.nil_append List.append_nil List.length_map List.set_cons_zero List.set_cons_succ Nat.reduceMul eq_self Int.toNat_natCast Int.natCast_nonneg and_self true_and and_true decide_true decide_false Bool.false_eq_true Nat.zero_add Nat.add_zero List.contains_cons List.contains_nil Bool.or_false Bool.false_or beq_self_eq_true Nat.reduceBEq ne_eq not_true_eq_false not_false_eq_true Id.mk.injEq false_and and_false Nat.reduceLT Int.reduceLE Int.reduceLT Int.reduceToNat Int.reduceNeg Int.reduceAdd Nat.le_refl List.length_append beq_true beq_false Bool.not_eq_eq_eq_not or_false false_or dR ab aj ay bo bJ aD aV aH aU cu bq
theorem yy:∀{ps qs:List ae},(ps.Pairwise fun a b=>jI a.bE b.bE=true)->(qs.Pairwise fun a b=>jI a.bE b.bE=true)->(∀x,x∈ps↔x∈qs)->ps=qs
 |[],[],_,_,_=>rfl
 |[],q::qs,_,_,h=>absurd ((h q).2 (by simp)) (by simp)
 |p::ps,[],_,_,h=>absurd ((h p).1 (by simp)) (by simp)
 |p::ps,q::qs,hp,hq,h=>by
  obtain⟨p1,p2⟩:=List.pairwise_cons.1 hp
  obtain⟨q1,q2⟩:=List.pairwise_cons.1 hq
  have e:p=q:=by
   rcases List.mem_cons.1 ((h p).1 (by simp))with e|e
   ·exact e
   ·rcases List.mem_cons.1 ((h q).2 (by simp))with e'|e'
    ·exact e'.symm
    ·have:=Jj (q1 p e)
     rw[p1 q e']at this;cases this
  subst e
  congr 1
  refine yy p2 q2 fun x=>⟨fun hx=>?_,fun hx=>?_⟩
  ·rcases List.mem_cons.1 ((h x).1 (List.mem_cons_of_mem _ hx))with e|e
   ·subst e;have:=p1 x hx;rw[j9]at this;cases this
   ·exact e
  ·rcases List.mem_cons.1 ((h x).2 (List.mem_cons_of_mem _ hx))with e|e
   ·subst e;have:=q1 x hx;rw[j9]at this;cases this
   ·exact e
theorem Ep {L qs:List ae} (hR:nI L) (hp:qs.Perm L) (hs:∀i j:Nat,i<j->j<qs.length->jI (bG qs j).bE (bG qs i).bE=false):qs=L:=by
 rw[ou]at hR
 have hd:L.Pairwise fun a b=>a.bE≠b.bE:=hR.imp fun {a b} h e=>by rw[e,j9]at h;cases h
 have hdq:qs.Pairwise fun a b=>a.bE≠b.bE:=hp.symm.pairwise hd fun {a b} h e=>h e.symm
 refine yy ?_ hR fun x=>hp.mem_iff
 rw[List.pairwise_iff_getElem]at hdq ⊢
 intro i j hi hj Gk
 have h1:=hs i j Gk hj
 rw[eZ hj,eZ hi]at h1
 exact Fw h1 fun e=>hdq i j hi hj Gk e.symm
theorem C1 (ps:List ae) (h0:ps≠[]) (hlen:ps.length<=1048576) (σ:au) (id:Id) (hv:id.cV<σ.next) (hg:σ.get id=some ⟨true,3,ps.map aa⟩):
  Call Tryz.prog 166 [.own id 0 ps.length] σ fun a σ'=>∃o:Id,a=.own o 0 ps.length/\σ'.get o=some ⟨true,3,ps.map aa⟩/\σ.next<=o.cV/\o.cV<σ'.next/\∀x:Id,x.cV<σ.next->σ'.get x=σ.get x:=by
 refine fo eG rfl fun hl=>?_
 clear hl
 have h2:ps.length<=16777216:=ai
 have hm:(ps.map aa).length=ps.length:=by simp
 have v1:=eL hv
 have ht:(ps.map aa).take ps.length=ps.map aa:=by rw[<-hm,List.take_length]
 have ha:(ps.map aa).all (fun c=>c.length==3&&c.all AV.cell)=true:=all_map fun x=>by simp[aa,AV.cell]
 (try((repeat(revert hN;revert N;apply Pn.out));refine wk (tw @hg (tw @h2 (tw @hm (tw @v1 (tw @ht @ha))))) ?_;(repeat(refine Pn.mk ?_;intro N hN))))
 exact fJ (vs:=[.own ⟨166003002,σ.next+2⟩ 0 ps.length]) (.inl rfl) (sd @Nat.zero_add) ⟨_,rfl,sd @Nat.zero_add,bK,bK,fun x hx=>by
  have:=eL hx
  simp only[go_sem, ↓reduceIte,Nat.reduceEqDiff,Nat.reduceAdd,Nat.reduceSub,Nat.reduceLeDiff,reduceCtorEq,this]⟩
theorem yP (ps L:List ae) (hlen:ps.length<=1000000) (h0:ps≠[]) (hR:nI L) (hp:ps.Perm L) (σ:au) (id:Id) (hv:id.cV<σ.next) (hg:σ.get id=some ⟨true,3,ps.map aa⟩):
  Call Tryz.prog 118 [.own id 0 ps.length] σ fun a σ'=>∃o:Id,a=.agg [.own o 0 L.length]/\σ'.get o=some ⟨true,3,L.map aa⟩/\σ.next<=o.cV/\o.cV<σ'.next/\∀x:Id,x.cV<σ.next->σ'.get x=σ.get x:=by
 refine fo eG rfl fun hl=>?_
 clear hl
 have v1:=eL hv
 (try((repeat(revert hN;revert N;apply Pn.out));refine wk (tw @hg @v1) ?_;(repeat(refine Pn.mk ?_;intro N hN))))
 refine .inr (aY _ _ _ _ _ (fun r σ1 hq=>?_) (C1 ps h0 ai ⟨_,_⟩ id bK (sd (tw @v1 @hg))))
 obtain⟨g1,x1⟩:=σ1
 obtain⟨o,rfl,q1,q2,q3,q4⟩:=hq
 (try dsimp only at q1 q2 q3 q4)
 have k2:=q4 ⟨118000000,σ.next⟩ bK
 simp only[go_sem, ↓reduceIte,Nat.reduceEqDiff,Nat.reduceAdd,Nat.reduceSub,Nat.reduceLeDiff,reduceCtorEq]at k2
 refine hN _ _ ?_
 clear hN N
 (try((repeat(revert hN;revert N;apply Pn.out));refine wk @Nat.zero_add ?_;(repeat(refine Pn.mk ?_;intro N hN))))
 refine .inr (aY _ _ _ _ _ (fun r σ2 hq=>?_) (Hb Pv JV ps ai ⟨g1,_⟩ o q1))
 obtain⟨g2,x2⟩:=σ2
 obtain⟨u1,u2,ss,u3,u4,u5,u6⟩:=hq
 (try dsimp only at u1 u2 u3)
 have OS:ss=L:=Ep hR (u5.trans hp) u6
 rw[OS]at u3 u4
 have o2:(⟨118000000,σ.next⟩:Id)≠o:=fun e=>by rw[<-e]at q2;(try dsimp only at q2);omega
 have k3:=(u2 _ o2).trans k2
 have of:=eq_false (fun e:o=(⟨118000000,σ.next⟩:Id)=>o2 e.symm)
 refine hN _ _ ?_
 clear hN N
 (try((repeat(revert hN;revert N;apply Pn.out));refine wk @k3 ?_;(repeat(refine Pn.mk ?_;intro N hN))))
 exact fJ (.inl rfl) (vs:=[.agg [.own o 0 ps.length]]) (sd @Nat.zero_add) ⟨o,by rw[u4];rfl,sd (tw @of @u3),ai,bK,fun x hx=>by
  have h1:x≠o:=fun e=>by rw[e]at hx;omega
  have h2:=u2 x h1
  have h3:=q4 x bK
  have h4:=eL hx
  simp only[go_sem, ↓reduceIte,Nat.reduceEqDiff,Nat.reduceAdd,Nat.reduceSub,Nat.reduceLeDiff,reduceCtorEq,h4]at h3
  simp only[go_sem, ↓reduceIte,Nat.reduceEqDiff,Nat.reduceAdd,Nat.reduceSub,Nat.reduceLeDiff,reduceCtorEq,h4,h2,h3]⟩
theorem GK (L:List ae) (x:ae):(L++[x]).length=L.length+1:=by rw[List.length_append];rfl
theorem sn (q:ae):∀l:List ae,(l++[q]).Perm (iE l q)
 |[]=>List.Perm.refl _
 |x::l=>by
  have ih:=sn q l
  rw[iE]
  split
  ·exact List.perm_append_comm (l₁:=x::l) (l₂:=[q])
  ·exact ih.cons x
structure SameT (s:dc) (S:CL):Prop where
 at_:∀q,nk (s.cj.ah++S.1) q=nk S.2 q
 perm:(s.cj.ah++S.1).Perm S.2
structure InR (σ:au) (m:Nat) (c T O:Id) (s:dc) (l:List ae) (S:CL) (e7:AV) (g:Rows) (n:Nat):Prop where
 cry:Ts g n c T O s (s.cj.ah++S.1)
 u:(S.1=[]/\e7=.bS)∨∃u:Id,e7=.own u 0 S.1.length/\g u=some ⟨true,3,S.1.map aa⟩/\m<=u.cV/\u.cV<n/\0<S.1.length
 lo:m<=n
 fr:∀x:Id,x.cV<m->x≠T->x≠O->x≠c->g x=σ.get x
end Go.Proofs.YtgoljkjaameagaaGreat.V

namespace Go.Proofs.YtgoljkjaameagaaGreat.V
open Go.RowKit
attribute [local irreducible] dQ wpOps ft Call
attribute [local go_sem] aA eV ef e9 e8 cZ upd bQ K.av cr AV.cells AV.cell rowOf rowsOf part ld rowAt bD bL dm dD fE bu cK dO fa eF db dH cI cH dw dx bz aQ cz bx cD cC dF dI dG cw bC cJ dE bw az cF bZ fD bj cq bB aJ cX aX dn AV.undef bp br dy dC du dz cm dM dP bU dK dJ cE cG List.getD_cons_zero List.getD_cons_succ List.getD_nil List.all_cons List.all_nil Bool.and_true Bool.true_and Bool.and_self Bool.not_true Bool.not_false Option.map_some Option.map_none Option.bind_some Option.bind_none List.length_cons List.length_nil List.take_succ_cons List.take_zero List.take_nil List.drop_succ_cons List.drop_zero List.drop_nil List.head?_cons List.map_cons List.map_nil List.getElem?_cons_zero List.getElem?_cons_succ List.cons_append List.nil_append List.append_nil List.length_map List.set_cons_zero List.set_cons_succ eq_self Int.toNat_natCast Int.natCast_nonneg and_self true_and and_true decide_true decide_false Bool.false_eq_true Nat.zero_add Nat.add_zero List.contains_cons List.contains_nil Bool.or_false Bool.false_or beq_self_eq_true ne_eq not_true_eq_false not_false_eq_true Id.mk.injEq false_and and_false Nat.le_refl List.length_append beq_true beq_false Bool.not_eq_eq_eq_not or_false false_or dR ab aj ay bo bJ aD aV aH aU cu bq
def DM (L:List Int) (t:ae):Int:=L.getD t.bR.toNat 0
def qj (L:List Int) (k:Int):List ae->List ae->Option (List ae)
 |out,[]=>some out
 |out,t::ts=>if DM L t<0 then qj L k out ts else if nk out (Az t.bE k)<0 then qj L k (iE out ⟨Az t.bE k,DM L t⟩) ts else if nk out (Az t.bE k)=DM L t then qj L k out ts else none
theorem ET {l:List ae} {j:Nat} (hj:j<l.length):l.drop j=bG l j::l.drop (j+1):=by rw[eZ hj];exact List.drop_eq_getElem_cons hj
structure yL (out:List ae):Prop where
 Nk:nI out
 pos:∀x∈out,0<=x.bR
theorem yL.lt {out:List ae} (h:yL out) {p:aO}:nk out p<0↔eO out p<0:=by
 constructor
 ·intro h0
  rcases Int.lt_or_le (eO out p) 0 with h1|h1
  ·exact h1
  ·exfalso
   have h2:=lg h1
   unfold nk at h0
   rw[if_pos h1]at h0
   have:=h.pos _ (jf h2.1)
   omega
 ·intro h0
  unfold nk
  rw[if_neg ai];omega
theorem yL.nil:yL []:=⟨ou.2 List.Pairwise.nil,fun x hx=>by cases hx⟩
theorem yL.put {out:List ae} (h:yL out) {p:aO} {n:Int} (h0:nk out p<0) (hn:0<=n):yL (iE out ⟨p,n⟩):=
 ⟨JG h.Nk (h.lt.1 h0),fun x hx=>by
  rcases List.mem_append.1 ((sn ⟨p,n⟩ out).mem_iff.2 hx)with h1|h1
  ·exact h.pos x h1
  ·rw[List.mem_singleton.1 h1];exact hn⟩
theorem zH {L:List Int} {k:Int}:∀{ts out R:List ae},yL out->qj L k out ts=some R->yL R/\R.length<=out.length+ts.length
 |[],out,R,h,he=>by rw[qj]at he;cases he;exact⟨h,by simp⟩
 |t::ts,out,R,h,he=>by
  rw[qj]at he
  split at he
  ·have:=zH h he;exact⟨this.1,by have:=this.2;simp;omega⟩
  ·rename_i hn
   split at he
   ·rename_i h1
    have:=zH (h.put h1 ai) he
    exact⟨this.1,by have:=this.2;rw[lW]at this;simp;omega⟩
   ·split at he
    ·have:=zH h he;exact⟨this.1,by have:=this.2;simp;omega⟩
    ·cases he
theorem zF {P:Program} {w:World} {D:Nat->Prop} {ι:Names} {v:Value} (h:dd P w D ι (.dt [.bS]) v):dd P w D ι (.dt [.sl []]) v:=by
 obtain⟨b,o,vs,rfl,h1,h2,h3,h4⟩:=jS h
 refine .eM _ _ (.dt [.sl []] b o vs h1 (fun a ha=>by rw[List.mem_singleton.1 ha];rfl) (fun j hj=>h3 j (by simpa using hj)) fun j a ha=>?_)
 cases j with
 |zero=>
  simp at ha;subst ha
  have h5:=h4 0 .bS rfl
  generalize vs 0=u at h5 ⊢
  cases h5 with
  |bS=>exact .zL none 0 (Nat.zero_le _)
 |succ j=>simp at ha
theorem Call.gE {P:Program} (hm:P.follows .mixedOrders=true) {f:Nat} {r:List AV} {σ:au} {K:AV->au->Prop} (h:Call P f (.dt [.sl []]::r) σ K):Call P f (.dt [.bS]::r) σ K:=
 fB fun hs D ι w vs S U A=>fR hm h hs D ι w vs S U ⟨by rw[A.1];rfl,fun j a' hj=>by
  cases j with
  |zero=>
   simp at hj;subst hj
   obtain⟨u,hu,hv⟩:=A.2 0 _ rfl
   exact⟨u,hu,zF hv⟩
  |succ j=>exact A.2 (j+1) a' (by simpa using hj)⟩
theorem yg {L:List ae} {w:AV} (hw:jr aa L w) {f:Nat} {r:List AV} {σ:au} {K:AV->au->Prop} (h:Call Tryz.prog f (.dt [.sl (L.map aa)]::r) σ K):Call Tryz.prog f (.dt [w]::r) σ K:=by
 rcases hw with⟨rfl,rfl⟩|rfl
 ·exact Call.gE mixed h
 ·exact h
theorem wK.fz {m n:Nat} {L:List ae} {v:AV} {g:Rows} (h:wK m L v g n):∃w,(∀k,V.fz (dR g) (k+3) v=some w)/\jr aa L w:=by
 rcases h with⟨rfl,rfl⟩|⟨o,rfl,h2,_⟩
 ·exact⟨.bS,fun k=>aD _ _,.inl ⟨rfl,rfl⟩⟩
 ·exact⟨_,fun k=>gr (e:=aa) (sz:=3) (by simp[dR,h2]) rfl fun x=>by simp[aa,ab,aj,ay],.inr rfl⟩
theorem wK.frame {m n n':Nat} {L:List ae} {v:AV} {g g':Rows} (h:wK m L v g n) (hn:n<=n') (hf:∀x:Id,m<=x.cV->x.cV<n->g' x=g x):wK m L v g' n':=by
 rcases h with h|⟨o,h1,h2,h3,h4⟩
 ·exact .inl h
 ·exact .inr ⟨o,h1,(hf o h3 h4).trans h2,h3,ai⟩
theorem wK.low {m m' n:Nat} {L:List ae} {v:AV} {g:Rows} (h:wK m L v g n) (hm:m'<=m):wK m' L v g n:=by
 rcases h with h|⟨o,h1,h2,h3,h4⟩
 ·exact .inl h
 ·exact .inr ⟨o,h1,h2,ai,h4⟩
theorem wK.cell {m n:Nat} {L:List ae} {v:AV} {g:Rows} (h:wK m L v g n):v.cells=[v]/\v.cell=true:=by
 rcases h with⟨rfl,rfl⟩|⟨o,rfl,h2,_⟩<;>exact⟨rfl,rfl⟩
theorem FA {g:Rows} {X:Id} {v w:AV} (hX:g X=some ⟨true,1,[[v]]⟩) (hw:V.fz (dR g) 5 v=some w):fz (dR g) 6 (.ptr X 0 0)=some (.dt [w]):=
 pT (n:=5) (sz:=1) (rows:=[[v]]) (cs:=[v]) (by simp[dR,hX]) rfl (by simp[ab,aj,hw])
end Go.Proofs.YtgoljkjaameagaaGreat.V

namespace Go.Proofs.YtgoljkjaameagaaGreat.V
open Go.RowKit
attribute [local irreducible] dQ wpOps ft Call
attribute [local go_sem] aA eV ef e9 e8 cZ upd bQ K.av cr AV.cells AV.cell rowOf rowsOf part ld rowAt bD bL dm dD fE bu cK dO fa eF db dH cI cH dw dx bz aQ cz bx cD cC dF dI dG cw bC cJ dE bw az cF bZ fD bj cq bB aJ cX aX dn AV.undef bp br dy dC du dz cm dM dP bU dK dJ cE cG List.getD_cons_zero List.getD_cons_succ List.getD_nil List.all_cons List.all_nil Bool.and_true Bool.true_and Bool.and_self Bool.not_true Bool.not_false Option.map_some Option.map_none Option.bind_some Option.bind_none List.length_cons List.length_nil List.take_succ_cons List.take_zero List.take_nil List.drop_succ_cons List.drop_zero List.drop_nil List.head?_cons List.map_cons List.map_nil List.getElem?_cons_zero List.getElem?_cons_succ List.cons_append List.nil_append List.append_nil List.length_map List.set_cons_zero List.set_cons_succ Nat.reduceMul eq_self Int.toNat_natCast Int.natCast_nonneg and_self true_and and_true decide_true decide_false Bool.false_eq_true Nat.zero_add Nat.add_zero List.contains_cons List.contains_nil Bool.or_false Bool.false_or beq_self_eq_true Nat.reduceBEq ne_eq not_true_eq_false not_false_eq_true Id.mk.injEq false_and and_false Nat.reduceLT Int.reduceLE Int.reduceLT Int.reduceToNat Int.reduceNeg Int.reduceAdd Nat.le_refl List.length_append beq_true beq_false Bool.not_eq_eq_eq_not or_false false_or dR ab aj ay bo bJ aD aV aH aU cu bq
structure NB (m:bl):Prop where
 TC:CO m.da
 small:CO m.bf
 sc:1<=m.dp/\m.dp<=4
 len:m.aE.length=m.da.aM.ah.length
 lab:∀j,j<m.aE.length->-1<=m.aE.getD j 0/\m.aE.getD j 0<=(m.bf.aM.ah.length:Int)-1
theorem vW {m:bl} (h:l5 m=true):NB m:=by
 unfold l5 at h
 simp only[Bool.and_eq_true,decide_eq_true_eq,List.all_eq_true]at h
 obtain⟨⟨⟨⟨h1,h2⟩,h3⟩,h4⟩,h5⟩:=h
 exact⟨wb.1 h1,wb.1 h2,dX h3,ai,fun j hj=>by
  have:=dX (h5 (m.aE.getD j 0) (by rw[List.getD_eq_getElem?_getD,List.getElem?_eq_getElem hj];exact List.getElem_mem hj))
  exact this⟩
theorem uZ (m:bl) (hP:NB m) (a:List ae) (hA:pC m.da.aM a) (n0:Nat):Call Tryz.prog 142 [.dt (ak m),.dt [.sl (a.map aa)]] ⟨fun _=>none,n0⟩ (fun r σ'=>∃v,r=.gn [.agg [v],.bool (qj m.aE m.dp [] a).isSome]/\wK n0 ((qj m.aE m.dp [] a).getD []) v σ'.get σ'.next/\((qj m.aE m.dp [] a).getD []=[]->v=.bS)):=by
 refine fo eG rfl fun Bk=>?_
 clear Bk
 have Lh:=hA.1.Hu
 obtain⟨R,hR⟩:∃R,qj m.aE m.dp [] a=R:=⟨_,rfl⟩
 rw[hR]
 (try((repeat(revert hN;revert N;apply Pn.out));refine wk @ak.eq_1 ?_;(repeat(refine Pn.mk ?_;intro N hN))))
 refine bF (fun n env st=>∃j:Nat,n=(a.length)-j/\j<=(a.length)/\env 7=.int .i64 (j:Int)/\st.get ⟨142000000,n0⟩=some ⟨true,1,[[.bS]]⟩/\(n0+2<=st.next/\∃(out:List ae) (v:AV),qj m.aE m.dp out (a.drop j)=R/\yL out/\out.length<=j/\st.get ⟨142001001,n0+1⟩=some ⟨true,1,[[v]]⟩/\wK (n0+2) out v st.get st.next/\(out=[]->v=.bS))) (a.length) ⟨0,ai,ai,sl @ak.eq_1,sl @ak.eq_1,by(try dsimp only);exact⟨ai,[],.bS,by rw[List.drop_zero];exact hR,yL.nil,by simp,sd @Nat.zero_add,.inl ⟨rfl,rfl⟩,fun _=>rfl⟩⟩ ?_
 rintro n_a env_a st_a ⟨j,rfl,ale,a7,ag0,lL⟩ ev
 have a0:=ev 0 (by kernel_rfl);have a1:=ev 1 (by kernel_rfl);have a4:=ev 4 (by kernel_rfl);have a6:=ev 6 (by kernel_rfl)
 simp only[go_sem, ↓reduceIte,Nat.reduceEqDiff,Nat.reduceAdd,Nat.reduceSub,Nat.reduceLeDiff,reduceCtorEq,ak]at a0 a1 a4 a6
 clear ev
 obtain⟨an,out,v,aR,aP,aL,av,aG,aZ⟩:=lL
 have vA:=eL (i:=⟨142000000,n0⟩) (n:=st_a.next) bK
 have vB:=eL (i:=⟨142001001,n0+1⟩) (n:=st_a.next) bK
 have kP:(a.map aa).length=a.length:=by simp
 by_cases hj:(j:Int)<(a.length:Int)
 ·have cY:∀{e:Env} {gg:Rows} {nx:Nat},(e 7=.int .i64 (IntKind.i64.wrap ((j:Int)+1)))->(gg ⟨142000000,n0⟩=some ⟨true,1,[[.bS]]⟩)->(n0+2<=nx/\∃(out:List ae) (v:AV),qj m.aE m.dp out (a.drop (j+1))=R/\yL out/\out.length<=(j+1)/\gg ⟨142001001,n0+1⟩=some ⟨true,1,[[v]]⟩/\wK (n0+2) out v gg nx/\(out=[]->v=.bS))->∃m0,m0<(a.length)-j/\∃j:Nat,m0=(a.length)-j/\j<=(a.length)/\e 7=.int .i64 (j:Int)/\gg ⟨142000000,n0⟩=some ⟨true,1,[[.bS]]⟩/\(n0+2<=nx/\∃(out:List ae) (v:AV),qj m.aE m.dp out (a.drop j)=R/\yL out/\out.length<=j/\gg ⟨142001001,n0+1⟩=some ⟨true,1,[[v]]⟩/\wK (n0+2) out v gg nx/\(out=[]->v=.bS)):=fun x1 x2 x3=>⟨_,ai,j+1,rfl,ai,(by rw[x1,aI ai]),x2,x3⟩
  have hZ:j<a.length:=ai
  have qi:=gw hZ
  rw[ET hZ,qj]at aR
  have ht:=hA.2 _ (jf hZ)
  have ht2:=dX ht
  obtain⟨tn,xY⟩:∃tn:Nat,(bG a j).bR=tn:=⟨(bG a j).bR.toNat,ai⟩
  have M9:tn<m.aE.length:=by have:=hP.len;omega
  have pc:=zq M9
  have hle:DM m.aE (bG a j)=m.aE.getD tn 0:=by rw[DM,xY,Int.toNat_natCast]
  rw[hle]at aR
  have Lv:=hA.1.pt hZ
  unfold D8 at Lv
  rw[Bool.and_eq_true]at Lv
  have hb:=DK (bG a j).bE m.dp hP.sc.1 hP.sc.2 (by have:=dX Lv.1;omega) (by have:=dX Lv.2;omega)
  generalize Az (bG a j).bE m.dp=B at aR hb
  generalize H8 (bG a j).bE m.dp=C at hb
  simp only[ar]at hb
  generalize m.aE.getD tn 0=n at aR pc
  by_cases h1:n<0
  ·rw[if_pos h1]at aR
   (try((repeat(revert hN;revert N;apply Pn.out));refine wk (tw @a7 (tw @ag0 (tw @a0 (tw @a1 (tw @a4 (tw @a6 (tw @hj (tw @qi (tw @kP (tw @aa.eq_1 (tw @xY (tw @pc @h1)))))))))))) ?_;(repeat(refine Pn.mk ?_;intro N hN))))
   refine cY ?_ ?_ (by(try dsimp only);exact⟨ai,out,v,aR,aP,ai,av,aG.frame ai (fun _ _ _=>rfl),aZ⟩)
   all_goals simp only[go_sem, ↓reduceIte,Nat.reduceEqDiff,Nat.reduceAdd,Nat.reduceSub,Nat.reduceLeDiff,reduceCtorEq,a7,ag0,a0,a1,a4,a6]
  ·rw[if_neg h1]at aR
   (repeat(first|((repeat(revert hN;revert N;apply Pn.out));refine wk (tw @a7 (tw @ag0 (tw @a0 (tw @a1 (tw @a4 (tw @a6 (tw @hj (tw @qi (tw @kP (tw @aa.eq_1 (tw @xY (tw @pc @h1)))))))))))) ?_;(repeat(refine Pn.mk ?_;intro N hN)))|((try apply Or.inl);refine⟨_,aq.x (hb) (sd (tw @a7 (tw @ag0 (tw @a0 (tw @a1 (tw @a4 (tw @a6 (tw @hj (tw @qi (tw @kP (tw @aa.eq_1 (tw @xY (tw @pc @h1))))))))))))),?_⟩;refine hN _ _ ?_;clear hN N)))
   have aG2:=aG.frame (g':=bD (bD (bD (bD st_a.get ⟨142007016,st_a.next+1+1+1⟩ ⟨true,2,[[.int .i64 0,.int .i64 0]]⟩) ⟨142007017,st_a.next+1+1+1⟩ ⟨true,2,[[.int .i64 0,.int .i64 0]]⟩) ⟨142007016,st_a.next+1+1+1⟩ ⟨true,2,[[.int .i64 B.fb,.int .i64 B.eT]]⟩) ⟨142007017,st_a.next+1+1+1⟩ ⟨true,2,[[.int .i64 C.fb,.int .i64 C.eT]]⟩) (Nat.le_refl _) fun x k1 k2=>by
    have h5:=eL (i:=x) (n:=st_a.next) k2
    simp only[go_sem, ↓reduceIte,Nat.reduceEqDiff,Nat.reduceAdd,Nat.reduceSub,Nat.reduceLeDiff,reduceCtorEq,h5]
   obtain⟨w,hw,hlw⟩:=aG2.fz
   have hAt:aq Tryz.prog 216 [.dt [w],.agg (ar B)] (.int .i64 (nk out B)):=fun q=>yg hlw (LL out B aP.Nk ai q)
   have vX:=dr (a:=⟨142001001,n0+1⟩) (b:=⟨142007016,st_a.next+1+1+1⟩) bK
   refine .inl ⟨_,aq.x hAt (by
    have hp:=FA (g:=bD (bD (bD (bD st_a.get ⟨142007016,st_a.next+1+1+1⟩ ⟨true,2,[[.int .i64 0,.int .i64 0]]⟩) ⟨142007017,st_a.next+1+1+1⟩ ⟨true,2,[[.int .i64 0,.int .i64 0]]⟩) ⟨142007016,st_a.next+1+1+1⟩ ⟨true,2,[[.int .i64 B.fb,.int .i64 B.eT]]⟩) ⟨142007017,st_a.next+1+1+1⟩ ⟨true,2,[[.int .i64 C.fb,.int .i64 C.eT]]⟩) (X:=⟨142001001,n0+1⟩) (v:=v) (w:=w) (sd (tw @vB @av)) (hw 2)
    simp only[ab,aj,hp,aV,ay,Option.map_some]
    rfl),?_⟩
   refine hN _ _ ?_
   clear hN N
   by_cases h2:nk out B<0
   ·rw[if_pos h2]at aR
    have w8:¬0<=nk out B:=ai
    (try((repeat(revert hN;revert N;apply Pn.out));refine wk (tw @a7 (tw @ag0 (tw @a0 (tw @a1 (tw @a4 (tw @a6 (tw @qi (tw @h2 @w8)))))))) ?_;(repeat(refine Pn.mk ?_;intro N hN))))
    refine .inr (aY _ _ _ _ _ (fun r σ2 hq=>?_) (Qy.val (fun q=>yg hlw (Ja out ai B n q)) (by
     have hp:=FA (g:=bD (bD (bD (bD st_a.get ⟨142007016,st_a.next+1+1+1⟩ ⟨true,2,[[.int .i64 0,.int .i64 0]]⟩) ⟨142007017,st_a.next+1+1+1⟩ ⟨true,2,[[.int .i64 0,.int .i64 0]]⟩) ⟨142007016,st_a.next+1+1+1⟩ ⟨true,2,[[.int .i64 B.fb,.int .i64 B.eT]]⟩) ⟨142007017,st_a.next+1+1+1⟩ ⟨true,2,[[.int .i64 C.fb,.int .i64 C.eT]]⟩) (X:=⟨142001001,n0+1⟩) (v:=v) (w:=w) (sd (tw @vB @av)) (hw 2)
     simp only[ab,aj,hp,aV,ay,Option.map_some]
     rfl)))
    obtain⟨⟨o,rfl,p1,p2,p3⟩,hK⟩:=hq
    obtain⟨g2,x2⟩:=σ2
    (try dsimp only at p1 p2 p3 hK)
    have Gp:=hK.1
    (try dsimp only at Gp)
    have kX:=hK.2 ⟨142001001,n0+1⟩ bK
    have k5:=hK.2 ⟨142000000,n0⟩ bK
    simp only[go_sem, ↓reduceIte,Nat.reduceEqDiff,Nat.reduceAdd,Nat.reduceSub,Nat.reduceLeDiff,reduceCtorEq,vA,vB,av,a7,ag0,a0,a1,a4,a6]at kX k5
    have k7:=lW ⟨B,n⟩ out
    refine hN _ _ ?_
    clear hN N
    have vo:=dr (a:=⟨142001001,n0+1⟩) (b:=o) bK
    have Sc:(o=(⟨142001001,n0+1⟩:Id))=False:=eq_false fun e=>by rw[e]at p2;(try dsimp only at p2);omega
    (try((repeat(revert hN;revert N;apply Pn.out));refine wk (tw @a7 (tw @ag0 (tw @a0 (tw @a1 (tw @a4 (tw @a6 (tw @kX @k5))))))) ?_;(repeat(refine Pn.mk ?_;intro N hN))))
    refine cY ?_ ?_ (by(try dsimp only);exact⟨ai,iE out ⟨B,n⟩,.own o 0 (iE out ⟨B,n⟩).length,aR,aP.put h2 ai,ai,sd @Nat.zero_add,.inr ⟨o,rfl,sd (tw @Sc @p1),ai,bK⟩,fun e=>absurd k7 (by rw[e,List.length_nil];omega)⟩)
    all_goals simp only[go_sem, ↓reduceIte,Nat.reduceEqDiff,Nat.reduceAdd,Nat.reduceSub,Nat.reduceLeDiff,reduceCtorEq,a7,ag0,a0,a1,a4,a6,k5]
   ·rw[if_neg h2]at aR
    have w8:0<=nk out B:=ai
    by_cases h3:nk out B=n
    ·rw[if_pos h3]at aR
     have Ld:=decide_eq_true h3
     (try((repeat(revert hN;revert N;apply Pn.out));refine wk (tw @a7 (tw @ag0 (tw @a0 (tw @a1 (tw @a4 (tw @a6 (tw @qi (tw @h2 (tw @w8 @Ld))))))))) ?_;(repeat(refine Pn.mk ?_;intro N hN))))
     refine cY ?_ ?_ (by(try dsimp only);exact⟨ai,out,v,aR,aP,ai,sd (tw @vB @av),aG2.frame ai (fun _ _ _=>rfl),aZ⟩)
     all_goals simp only[go_sem, ↓reduceIte,Nat.reduceEqDiff,Nat.reduceAdd,Nat.reduceSub,Nat.reduceLeDiff,reduceCtorEq,a7,ag0,a0,a1,a4,a6]
    ·rw[if_neg h3]at aR
     have Ld:=decide_eq_false h3
     (try((repeat(revert hN;revert N;apply Pn.out));refine wk (tw @a7 (tw @ag0 (tw @a0 (tw @a1 (tw @a4 (tw @a6 (tw @qi (tw @h2 (tw @w8 @Ld))))))))) ?_;(repeat(refine Pn.mk ?_;intro N hN))))
     subst aR
     exact fJ (.inl rfl) (vs:=[.agg [.bS],.bool false]) (sd (tw @a7 (tw @ag0 (tw @a0 (tw @a1 (tw @a4 @a6)))))) ⟨.bS,rfl,.inl ⟨rfl,rfl⟩,fun _=>rfl⟩
 ·have:a.drop j=[]:=List.drop_eq_nil_of_le ai
  rw[this,qj]at aR
  obtain⟨cv,dv⟩:=aG.cell
  unfold AV.cells at cv
  unfold AV.cell at dv
  (try((repeat(revert hN;revert N;apply Pn.out));refine wk (tw @a7 (tw @ag0 (tw @a0 (tw @a1 (tw @a4 (tw @a6 (tw @hj (tw @kP (tw @av (tw @vA (tw @vB (tw @cv @dv)))))))))))) ?_;(repeat(refine Pn.mk ?_;intro N hN))))
  subst aR
  exact fJ (.inl rfl) (vs:=[.agg [v],.bool true]) (sd (tw @a7 (tw @ag0 (tw @a0 (tw @a1 (tw @a4 (tw @a6 (tw @cv @dv)))))))) ⟨v,rfl,(aG.frame bK fun x k1 k2=>by
   have h5:=dr (a:=⟨142000000,n0⟩) (b:=x) bK
   have h6:(x=(⟨142000000,n0⟩:Id))=False:=eq_false fun e=>by rw[e]at k1;(try dsimp only at k1);omega
   simp only[go_sem, ↓reduceIte,Nat.reduceEqDiff,Nat.reduceAdd,Nat.reduceSub,Nat.reduceLeDiff,reduceCtorEq,h5,h6]).low ai,aZ⟩
structure Wr2 (g:Rows) (n:Nat) (A S C c T O:Id) (s:dc) (l:List ae):Prop where
 a:∃b,g A=some ⟨b,1,[[.sl (l.map aa)]]⟩
 sy:∃b,g S=some ⟨b,4,[bY s]⟩
 p:∃b,g C=some ⟨b,1,[[.ptr c 0 0]]⟩
 cry:Cry g n c T O s l
 av:A.cV<n
 sv:S.cV<n
 pv:C.cV<n
def sZ (p:aO->Bool) (l:List aO):List aO:=l.filter fun x=> !p x
theorem O6 {p:aO->Bool} {l:List aO} {j:Nat} (hj:j<l.length):sZ p (l.take (j+1))=sZ p (l.take j)++if p l[j]=true then[]else[l[j]]:=by
 unfold sZ
 rw[List.take_succ_eq_append_getElem hj,List.filter_append]
 congr 1
 cases h:p l[j]<;>simp[h]
theorem O5 {p:aO->Bool} {l:List aO} (h:∀b∈l,p b=false):sZ p l=l:=by
 unfold sZ
 rw[List.filter_eq_self]
 intro b hb
 rw[h b hb];rfl
structure DlP (p:aO->Bool) (bs:List aO) (j:Nat) (R:List aO):Prop where
 len:R.length=bs.length
 pre:R.take (sZ p (bs.take j)).length=sZ p (bs.take j)
 post:∀x,j<=x->R[x]? =bs[x]?
 lt:(sZ p (bs.take j)).length<j
structure mQ (n:Nat) (px:Nat->Option Nat) (L:Nat->Nat):Prop where
 top:∀k,k<n->px k=none->L k=k
 up:∀k j,k<n->px k=some j->j<k/\L j=L k
theorem mQ.root {n:Nat} {px:Nat->Option Nat} {L:Nat->Nat} (h:mQ n px L) (hL:jq L) {k:Nat} (hk:k<n) (hr:L k=k):px k=none:=by
 rcases hp:px k with _|j
 ·rfl
 ·obtain⟨h1,h2⟩:=h.up k j hk hp
  have:=hL.le j
  omega
theorem mQ.start (n:Nat):mQ n (fun _=>none) id:=⟨fun _ _ _=>rfl,fun _ _ _ h=>by cases h⟩
theorem mQ.join {n:Nat} {px:Nat->Option Nat} {L:Nat->Nat} (h:mQ n px L) (hL:jq L) (b:PB) (eh:min (L b.a) (L b.b)<max (L b.a) (L b.b)):mQ n (fun k=>if k=max (L b.a) (L b.b)then some (min (L b.a) (L b.b))else px k) (eQ L b):=by
 have ha:=hL.idem b.a
 have hb:=hL.idem b.b
 have zf:L (min (L b.a) (L b.b))=min (L b.a) (L b.b):=by
  rcases Nat.le_total (L b.a) (L b.b)with h|h
  ·rw[Nat.min_eq_left h,ha]
  ·rw[Nat.min_eq_right h,hb]
 have Qh:L (max (L b.a) (L b.b))=max (L b.a) (L b.b):=by
  rcases Nat.le_total (L b.a) (L b.b)with h|h
  ·rw[Nat.max_eq_right h,hb]
  ·rw[Nat.max_eq_left h,ha]
 unfold eQ
 generalize min (L b.a) (L b.b)=lo at *
 generalize max (L b.a) (L b.b)=hi at *
 refine⟨fun k hk hp=>?_,fun k j hk hp=>?_⟩
 ·by_cases Ky:k=hi
  ·rw[if_pos Ky]at hp;cases hp
  ·rw[if_neg Ky]at hp
   have:=h.top k hk hp
   rw[if_neg ai];exact this
 ·by_cases Ky:k=hi
  ·rw[if_pos Ky]at hp
   cases hp
   subst Ky
   exact⟨eh,by rw[if_neg ai,if_pos Qh,zf]⟩
  ·rw[if_neg Ky]at hp
   obtain⟨h1,h2⟩:=h.up k j hk hp
   exact⟨h1,by rw[h2]⟩
theorem zp {L:Nat->Nat} {b:PB} (h:L b.a=L b.b):eQ L b=L:=by
 funext k
 unfold eQ
 rw[h,Nat.max_self,Nat.min_self]
 split
 ·rename_i h;exact h.symm
 ·rfl
def rY (G:Nat->Id) (px:Nat->Option Nat) (k:Nat):List AV:=[match px k with|none=>.gE|some j=>.ptr (G j) 0 0,.int .i64 (k:Int)]
def tj (g:Rows) (G:Nat->Id) (n:Nat) (px:Nat->Option Nat):Prop:=∀k,k<n->g (G k)=some ⟨true,2,[rY G px k]⟩
theorem tj.frame {g g':Rows} {G:Nat->Id} {n:Nat} {px:Nat->Option Nat} (h:tj g G n px) (hf:∀k,k<n->g' (G k)=g (G k)):tj g' G n px:=fun k hk=>(hf k hk).trans (h k hk)
theorem kZ {G:Nat->Id} {px:Nat->Option Nat} {k:Nat} (h:px k=none):rY G px k=[.gE,.int .i64 (k:Int)]:=by rw[rY,h]
theorem sR {G:Nat->Id} {px:Nat->Option Nat} {k j:Nat} (h:px k=some j):rY G px k=[.ptr (G j) 0 0,.int .i64 (k:Int)]:=by rw[rY,h]
theorem yZ (G:Nat->Id) (n:Nat) (px:Nat->Option Nat) (L:Nat->Nat) (h:mQ n px L) (k:Nat) (hk:k<n) (σ:au) (hG:tj σ.get G n px):
  Call Tryz.prog 334 [.ptr (G k) 0 0] σ fun r σ'=>r=.ptr (G (L k)) 0 0/\σ'.get=σ.get/\σ.next<=σ'.next:=by
 refine fo eG rfl fun hl=>?_
 clear hl
 (try((repeat(revert hN;revert N;apply Pn.out));refine wk @Nat.zero_add ?_;(repeat(refine Pn.mk ?_;intro N hN))))
 refine bF (fun m env st=>∃j:Nat,m=j/\j<n/\env 0=.ptr (G j) 0 0/\L j=L k/\st.get=σ.get/\σ.next<=st.next) k ⟨k,rfl,hk,sd @Nat.zero_add,rfl,by(try dsimp only),bK⟩ ?_
 rintro m env_b st_b ⟨j,rfl,hj,b0,hLj,hg,hle⟩ bfr
 clear bfr
 have gh:=hG m hj
 rcases hp:px m with _|j
 ·rw[kZ hp]at gh
  (try((repeat(revert hN;revert N;apply Pn.out));refine wk (tw @b0 (tw @hg @gh)) ?_;(repeat(refine Pn.mk ?_;intro N hN))))
  exact fJ (.inl rfl) (vs:=[.ptr (G m) 0 0]) (sd @Nat.zero_add) ⟨by rw[<-hLj,h.top m hj hp];rfl,by first|trivial|rfl|exact hg,bK⟩
 ·rw[sR hp]at gh
  obtain⟨h1,h2⟩:=h.up m j hj hp
  (try((repeat(revert hN;revert N;apply Pn.out));refine wk (tw @b0 (tw @hg @gh)) ?_;(repeat(refine Pn.mk ?_;intro N hN))))
  exact⟨j,h1,j,rfl,ai,sd @Nat.zero_add,ai,by first|trivial|rfl|exact hg,bK⟩
end Go.Proofs.YtgoljkjaameagaaGreat.V

namespace Go.Proofs.YtgoljkjaameagaaGreat.V
open Go.RowKit
attribute [local irreducible] dQ wpOps ft Call
attribute [local go_sem] aA eV ef e9 e8 cZ upd bQ K.av cr AV.cells AV.cell rowOf rowsOf part ld rowAt bD bL dm dD fE bu cK dO fa eF db dH cI cH dw dx bz aQ cz bx cD cC dF dI dG cw bC cJ dE bw az cF bZ fD bj cq bB aJ cX aX dn AV.undef bp br dy dC du dz cm dM dP bU dK dJ cE cG List.getD_cons_zero List.getD_cons_succ List.getD_nil List.all_cons List.all_nil Bool.and_true Bool.true_and Bool.and_self Bool.not_true Bool.not_false Option.map_some Option.map_none Option.bind_some Option.bind_none List.length_cons List.length_nil List.take_succ_cons List.take_zero List.take_nil List.drop_succ_cons List.drop_zero List.drop_nil List.head?_cons List.map_cons List.map_nil List.getElem?_cons_zero List.getElem?_cons_succ List.cons_append List.nil_append List.append_nil List.length_map List.set_cons_zero List.set_cons_succ eq_self Int.toNat_natCast Int.natCast_nonneg and_self true_and and_true decide_true decide_false Bool.false_eq_true Nat.zero_add Nat.add_zero List.contains_cons List.contains_nil Bool.or_false Bool.false_or beq_self_eq_true ne_eq not_true_eq_false not_false_eq_true Id.mk.injEq false_and and_false Nat.le_refl List.length_append beq_true beq_false Bool.not_eq_eq_eq_not or_false false_or dR ab aj ay bo bJ aD aV aH aU cu bq
abbrev mI:MK:=⟨false,[.tI]⟩
def se (l:List (Nat×Nat)):List (List AV):=l.map fun p=>[.int .i64 (p.1:Int),.int .i64 (p.2:Int)]
theorem Bv (r:Nat):∀(l:List (Nat×Nat)) (i:Nat),((∀p∈l,p.1≠r)->gI mI [.int .i64 (r:Int)] (se l) i=some none)/\(∀j v,l[j]? =some (r,v)->(∀x y,x<j->l[x]? =some y->y.1≠r)->gI mI [.int .i64 (r:Int)] (se l) i=some (some (i+j)))
 |[],i=>⟨fun _=>rfl,fun j v h=>by simp at h⟩
 |p::l,i=>by
  obtain⟨h1,h2⟩:=Bv r l (i+1)
  by_cases h:p.1=r
  ·refine⟨fun hp=>absurd h (hp p (by simp)),fun j v hj hf=>?_⟩
   have hj0:j=0:=by
    rcases Nat.eq_zero_or_pos j with h0|h0
    ·exact h0
    ·exact absurd h (hf 0 p h0 (by simp))
   subst hj0
   simp[se,gI,eF,fa,MK.ks,h]
  ·have hd:¬((r:Int)=(p.1:Int)):=ai
   have nu:¬r=p.1:=fun he=>h he.symm
   have step:gI mI [.int .i64 (r:Int)] (se (p::l)) i=gI mI [.int .i64 (r:Int)] (se l) (i+1):=by
    unfold se
    simp[gI,MK.ks,eF,fa,hd,nu,h]
   rw[step]
   refine⟨fun hp=>h1 fun q hq=>hp q (by simp[hq]),fun j v hj hf=>?_⟩
   cases j with
   |zero=>simp at hj;rw[hj]at h;exact absurd rfl h
   |succ j=>
    rw[h2 j v (by simpa using hj) fun x y hx hy=>hf (x+1) y ai (by simpa using hy)]
    congr 2;omega
theorem x9 {r:Nat} {l:List (Nat×Nat)}:((∀p∈l,p.1≠r)->gu mI (.int .i64 (r:Int)) (se l)=some none)/\(∀j v,l[j]? =some (r,v)->(∀x y,x<j->l[x]? =some y->y.1≠r)->gu mI (.int .i64 (r:Int)) (se l)=some (some j)):=by
 have e:gu mI (.int .i64 (r:Int)) (se l)=gI mI [.int .i64 (r:Int)] (se l) 0:=by
  unfold gu
  rw[if_pos ⟨rfl,rfl,rfl⟩];rfl
 obtain⟨h1,h2⟩:=Bv r l 0
 rw[e]
 exact⟨h1,fun j v hj hf=>by rw[h2 j v hj hf,Nat.zero_add]⟩
def kz (k:Nat) (L:Nat->Nat):List (List AV):=se (leads k L).zipIdx
theorem DO {k:Nat} {L:Nat->Nat} (h:L k=k):kz (k+1) L=kz k L++[[.int .i64 (k:Int),.int .i64 ((leads k L).length:Int)]]:=by
 unfold kz
 rw[gN,if_pos h,List.zipIdx_append]
 simp[se]
theorem DN {k:Nat} {L:Nat->Nat} (h:L k≠k):kz (k+1) L=kz k L:=by
 unfold kz
 rw[gN,if_neg h,List.append_nil]
theorem GI {k:Nat} {L:Nat->Nat} (h:L k=k):gu mI (.int .i64 (k:Int)) (kz k L)=some none:=by
 refine x9.1 fun p hp=>?_
 have:=List.fst_mem_of_mem_zipIdx hp
 have:=(yf.1 this).1
 omega
theorem ye {n:Nat} {L:Nat->Nat} {x y:Nat} (hx:x<(leads n L).length) (hy:y<(leads n L).length) (h:(leads n L)[x]=(leads n L)[y]):x=y:=by
 have hp:=List.pairwise_iff_getElem.1 (s8 n L)
 rcases Nat.lt_trichotomy x y with eh|he|eh
 ·exact absurd h (hp x y hx hy eh)
 ·exact he
 ·exact absurd h.symm (hp y x hy hx eh)
theorem yd {k:Nat} {L:Nat->Nat} (hL:jq L) (h:L k≠k):gu mI (.int .i64 (L k:Int)) (kz k L)=some (some (cN L k))/\(kz k L)[cN L k]? =some [.int .i64 (L k:Int),.int .i64 (cN L k:Int)]/\cN L k<(leads k L).length:=by
 have eh:L k<k:=Nat.lt_of_le_of_ne (hL.le k) h
 have hn:cN L (L k)=cN L k:=by rw[cN,hL.idem,cN]
 have hg:=oN hL eh
 rw[hn,hL.idem]at hg
 have hl:cN L k<(leads k L).length:=(List.getElem?_eq_some_iff.1 hg).1
 have hz:(leads k L).zipIdx[cN L k]? =some (L k,cN L k):=by simp[List.getElem?_zipIdx,hg]
 refine⟨x9.2 _ _ hz fun x y hx hy=>?_,by unfold kz se;rw[List.getElem?_map,hz];rfl,hl⟩
 intro he
 rw[List.getElem?_zipIdx]at hy
 have Qr:x<(leads k L).length:=ai
 rw[List.getElem?_eq_getElem Qr]at hy
 simp at hy
 rw[<-hy]at he
 simp at he
 have e2:(leads k L)[cN L k]=L k:=(List.getElem?_eq_some_iff.1 hg).2
 have:=ye Qr hl (he.trans e2.symm)
 omega
def jw (k:Nat) (L:Nat->Nat):List (List Nat):=(leads k L).map (members k L)
theorem pU (k:Nat) (L:Nat->Nat):(jw k L).length=(leads k L).length:=by simp[jw]
theorem Dj {k:Nat} {L:Nat->Nat} (hL:jq L) (h:L k=k):jw (k+1) L=jw k L++[[k]]:=by
 unfold jw
 rw[gN,if_pos h,List.map_append,List.map_cons,List.map_nil,jd,if_pos h,mD hL (Nat.le_refl k),List.nil_append]
 congr 1
 refine List.map_congr_left fun r hr=>?_
 have:=(yf.1 hr).1
 rw[jd,if_neg ai,List.append_nil]
theorem Dk {k:Nat} {L:Nat->Nat} (hL:jq L) (h:L k≠k):(jw k L)[cN L k]? =some (members k L (L k))/\jw (k+1) L=(jw k L).set (cN L k) (members k L (L k)++[k]):=by
 obtain⟨_,_,hl⟩:=yd hL h
 have eh:L k<k:=Nat.lt_of_le_of_ne (hL.le k) h
 have hg:=oN hL eh
 have hn:cN L (L k)=cN L k:=by rw[cN,hL.idem,cN]
 rw[hn,hL.idem]at hg
 refine⟨by unfold jw;rw[List.getElem?_map,hg];rfl,?_⟩
 unfold jw
 rw[gN,if_neg h,List.append_nil]
 refine List.ext_getElem? fun i=>?_
 rw[List.getElem?_set,List.getElem?_map,List.length_map]
 by_cases hi:cN L k=i
 ·subst hi
  rw[if_pos rfl,if_pos hl,hg,Option.map_some,jd,if_pos rfl]
 ·rw[if_neg hi,List.getElem?_map]
  rcases hr:(leads k L)[i]? with _|r
  ·rfl
  ·rw[Option.map_some,Option.map_some,jd,if_neg,List.append_nil]
   rintro rfl
   obtain⟨mi,he⟩:=List.getElem?_eq_some_iff.1 hr
   have e2:(leads k L)[cN L k]=L k:=(List.getElem?_eq_some_iff.1 hg).2
   exact hi (ye hl mi (e2.trans he.symm))
theorem BN (k:Nat) (L:Nat->Nat) (r:Nat):(members k L r).length<=k:=by
 have:=List.length_filter_le (fun x=>L x==r) (List.range k)
 simpa[members]using this
def Kp (g:Rows) (o:Id) (L:List (List Nat)) (nx:Nat):Prop:=∃rows ids,g o=some ⟨true,1,rows⟩/\eH P3 g rows L ids/\ids.Nodup/\(∀i∈ids,i.site=320026008/\i.cV<nx)/\o.site=320025002/\o.cV<nx
theorem Lc {g':Rows} {v v' xn j:Nat} (h1:g' ⟨320025002,v⟩=some ⟨true,1,[[.own ⟨320026008,v'⟩ 0 1]]⟩) (h2:g' ⟨320026008,v'⟩=some ⟨true,1,[eN j]⟩) (hv:v<xn) (nw:v'<xn):Kp g' ⟨320025002,v⟩ [[j]] xn:=
 ⟨_,[⟨320026008,v'⟩],h1,.one ⟨_,rfl,h2,rfl⟩,by simp,fun i hi=>by rw[List.mem_singleton.1 hi];exact⟨rfl,nw⟩,rfl,hv⟩
theorem Kp.new {g:Rows} {o:Id} {L:List (List Nat)} {nx:Nat} (h:Kp g o L nx) (j:Nat):∃rows,g o=some ⟨true,1,rows⟩/\rows.length=L.length/\∀(g':Rows) (v v' xn:Nat),nx<=v'->v<xn->v'<xn->g' ⟨320025002,v⟩=some ⟨true,1,rows++[[.own ⟨320026008,v'⟩ 0 1]]⟩->g' ⟨320026008,v'⟩=some ⟨true,1,[eN j]⟩->(∀i:Id,i.site=320026008->i.cV<nx->g' i=g i)->Kp g' ⟨320025002,v⟩ (L++[[j]]) xn:=by
 obtain⟨rows,ids,h1,h2,h3,h4,h5,h6⟩:=h
 refine⟨rows,h1,h2.len,fun g' v v' xn hv xZ OY q1 q2 q3=>⟨_,ids++[⟨320026008,v'⟩],q1,(h2.frame O9 fun i hi=>q3 i (h4 i hi).1 (h4 i hi).2).app (.one ⟨_,rfl,q2,rfl⟩),?_,fun i hi=>?_,rfl,xZ⟩⟩
 ·refine List.nodup_append.2 ⟨h3,by simp,fun a ha b hb pW=>?_⟩
  rw[List.mem_singleton.1 hb]at pW
  have:=(h4 a ha).2
  rw[pW]at this
  simp only at this
  omega
 ·rcases List.mem_append.1 hi with hi|hi
  ·have:=h4 i hi;exact⟨this.1,ai⟩
  ·rw[List.mem_singleton.1 hi];exact⟨rfl,OY⟩
theorem Kp.add {g:Rows} {o:Id} {L:List (List Nat)} {nx k:Nat} {La:List Nat} (h:Kp g o L nx) (hk:L[k]? =some La) (j:Nat):∃rows id,g o=some ⟨true,1,rows⟩/\rows.length=L.length/\rows[k]? =some [.own id 0 La.length]/\g id=some ⟨true,1,La.map eN⟩/\id.site=320026008/\id.cV<nx/\∀(g':Rows) (v' xn:Nat),nx<=v'->v'<xn->g' o=some ⟨true,1,rows.set k [.own ⟨320026008,v'⟩ 0 (La.length+1)]⟩->g' ⟨320026008,v'⟩=some ⟨true,1,La.map eN++[[.int .i64 (j:Int)]]⟩->(∀i:Id,i.site=320026008->i.cV<nx->(i=id)=False->g' i=g i)->Kp g' o (L.set k (La++[j])) xn:=by
 obtain⟨rows,ids,h1,h2,h3,h4,h5,h6⟩:=h
 have ml:k<L.length:=(List.getElem?_eq_some_iff.1 hk).1
 have Uj:=kp hk ml
 obtain⟨cs,ic,dS,Qa,Rn,uT⟩:=h2.R5 O9 h3 k ml
 rw[Uj]at Qa
 obtain⟨id,rfl,q1,rfl⟩:=Qa
 have hid:=h4 id (Rn id (by simp))
 refine⟨rows,id,h1,h2.len,dS,q1,hid.1,hid.2,fun g' v' xn hv xZ r1 r2 r3=>?_⟩
 obtain⟨DE,s1,s2,s3⟩:=uT g' [.own ⟨320026008,v'⟩ 0 (La.length+1)] (La++[j]) [⟨320026008,v'⟩] ⟨_,by simp,by rw[r2];simp[eN],rfl⟩ (fun i hi S9=>r3 i (h4 i hi).1 (h4 i hi).2 (by
  simp only[eq_iff_iff,iff_false];rintro rfl;exact S9 (by simp))) (by simp) fun i hi hc=>by
   rw[List.mem_singleton.1 hi]at hc
   have:=(h4 _ hc).2
   simp only at this
   omega
 refine⟨_,DE,r1,s1,s2,fun i hi=>?_,h5,ai⟩
 rcases s3 i hi with h|h
 ·rw[List.mem_singleton.1 h];exact⟨rfl,xZ⟩
 ·have:=h4 i h;exact⟨this.1,ai⟩
def lF (G:Nat->Id) (n k:Nat):List (List AV):=(List.range n).map fun i=>[if i<k then .ptr (G i) 0 0 else .gE]
theorem l9 (G:Nat->Id) (n k:Nat):(lF G n k).length=n:=by simp[lF]
theorem Hg (G:Nat->Id) (n:Nat):List.replicate n [AV.gE]=lF G n 0:=by
 refine List.ext_getElem? fun i=>?_
 by_cases h:i<n
 ·rw[List.getElem?_replicate,if_pos h];simp[lF,h]
 ·rw[List.getElem?_eq_none (by simp;omega),List.getElem?_eq_none (by rw[l9];omega)]
theorem wh {G:Nat->Id} {n i:Nat} (h:i<n):(lF G n n)[i]? =some [.ptr (G i) 0 0]:=by simp[lF,h]
theorem J5 {G:Nat->Id} {n k:Nat} (h:k<n):(lF G n k).set k [.ptr (G k) 0 0]=lF G n (k+1):=by
 refine List.ext_getElem? fun i=>?_
 rw[List.getElem?_set,l9]
 by_cases hi:k=i
 ·subst hi;rw[if_pos rfl,if_pos h];simp[lF,h]
 ·rw[if_neg hi]
  by_cases fP:i<n
  ·simp only[lF,List.getElem?_map,List.getElem?_range fP,Option.map_some]
   by_cases xU:i<k
   ·rw[if_pos xU,if_pos ai]
   ·rw[if_neg xU,if_neg ai]
  ·rw[List.getElem?_eq_none (by rw[l9];omega),List.getElem?_eq_none (by rw[l9];omega)]
end Go.Proofs.YtgoljkjaameagaaGreat.V

namespace Go.Proofs.YtgoljkjaameagaaGreat.V
open Go.RowKit
attribute [local irreducible] dQ wpOps ft Call
attribute [local go_sem] aA eV ef e9 e8 cZ upd bQ K.av cr AV.cells AV.cell rowOf rowsOf part ld rowAt bD bL dm dD fE bu cK dO fa eF db dH cI cH dw dx bz aQ cz bx cD cC dF dI dG cw bC cJ dE bw az cF bZ fD bj cq bB aJ cX aX dn AV.undef bp br dy dC du dz cm dM dP bU dK dJ cE cG List.getD_cons_zero List.getD_cons_succ List.getD_nil List.all_cons List.all_nil Bool.and_true Bool.true_and Bool.and_self Bool.not_true Bool.not_false Option.map_some Option.map_none Option.bind_some Option.bind_none List.length_cons List.length_nil List.take_succ_cons List.take_zero List.take_nil List.drop_succ_cons List.drop_zero List.drop_nil List.head?_cons List.map_cons List.map_nil List.getElem?_cons_zero List.getElem?_cons_succ List.cons_append List.nil_append List.append_nil List.length_map List.set_cons_zero List.set_cons_succ Nat.reduceMul eq_self Int.toNat_natCast Int.natCast_nonneg and_self true_and and_true decide_true decide_false Bool.false_eq_true Nat.zero_add Nat.add_zero List.contains_cons List.contains_nil Bool.or_false Bool.false_or beq_self_eq_true Nat.reduceBEq ne_eq not_true_eq_false not_false_eq_true Id.mk.injEq false_and and_false Nat.reduceLT Int.reduceLE Int.reduceLT Int.reduceToNat Int.reduceNeg Int.reduceAdd Nat.le_refl List.length_append beq_true beq_false Bool.not_eq_eq_eq_not or_false false_or dR ab aj ay bo bJ aD aV aH aU cu bq
theorem gQ {o:Id} {a:Nat} (h:o.site=a) {b v:Nat} (pW:(a==b)=false):(o=⟨b,v⟩)=False/\((⟨b,v⟩:Id)=o)=False:=by
 have h1:=zK h (v:=v) pW
 refine⟨h1,?_⟩
 simp only[eq_iff_iff,iff_false]at h1 ⊢
 exact fun h=>h1 h.symm
theorem uM (cnt:Nat) (zg:1<=cnt) (hn:cnt<=1048576) (bs:List PB) (hb:∀b∈bs,b.a<cnt/\b.b<cnt) (pq:bs.length<=1048576):aq Tryz.prog 320 [.int .i64 cnt,.sl (bs.map aB)] (.sl ((fG cnt (eE bs)).map Ad)):=by
 intro n0
 refine HF NP rfl fun hl=>?_
 try simp only[q]
 clear hl
 have jt:(0:Int)<=(cnt:Int):=ai
 have pr:(cnt:Int)<=((16777216:Nat):Int):=ai
 obtain⟨G,hG⟩:∃G:Nat->Id,G=fun k=>⟨320005004,n0+3+4*k+2⟩:=⟨_,rfl⟩
 have SI:∀k,(G k).site=320005004:=fun k=>by rw[hG]
 have Ue:∀k,(G k).cV=n0+3+4*k+2:=fun k=>by rw[hG]
 have Uc:∀i j,i≠j->(G i=G j)=False:=fun i j h=>by
  simp only[eq_iff_iff,iff_false]
  intro he
  have h1:=Ue i
  rw[he,Ue j]at h1
  omega
 have Le:∀i s v,(320005004==s)=false->(G i=⟨s,v⟩)=False:=fun i s v h=>zK (SI i) h
 have hz:=Hg G cnt
 (try((repeat(revert hN;revert N;apply Pn.out));refine wk (tw @jt (tw @pr (tw @Int.le_refl @hz))) ?_;(repeat(refine Pn.mk ?_;intro N hN))))
 refine bF (fun n env st=>∃k:Nat,n=(cnt)-k/\k<=(cnt)/\env 21=.int .i64 (k:Int)/\st.get ⟨320001001,n0+1⟩=some ⟨true,1,lF G cnt k⟩/\(st.next=n0+3+4*k/\∀j:Nat,j<k->st.get (G j)=some ⟨true,2,[[.gE,.int .i64 (j:Int)]]⟩)) (cnt) ⟨0,ai,ai,sl @hz,sl @hz,⟨rfl,fun j hj=>ai⟩⟩ ?_
 rintro n_a env_a st_a ⟨k,rfl,ale,a21,ag0,lL⟩ ev
 have a0:=ev 0 (by kernel_rfl);have a1:=ev 1 (by kernel_rfl);have a5:=ev 5 (by kernel_rfl);have qg:=ev 19 (by kernel_rfl);have a20:=ev 20 (by kernel_rfl)
 simp only[go_sem, ↓reduceIte,Nat.reduceEqDiff,Nat.reduceAdd,Nat.reduceSub,Nat.reduceLeDiff,reduceCtorEq,hz]at a0 a1 a5 qg a20
 clear ev
 obtain⟨lL,lG⟩:=lL
 by_cases hk:(k:Int)<(cnt:Int)
 ·have cY:∀{e:Env} {gg:Rows} {nx:Nat},(e 21=.int .i64 (IntKind.i64.wrap ((k:Int)+1)))->(gg ⟨320001001,n0+1⟩=some ⟨true,1,lF G cnt (k+1)⟩)->(nx=n0+3+4*(k+1)/\∀j:Nat,j<(k+1)->gg (G j)=some ⟨true,2,[[.gE,.int .i64 (j:Int)]]⟩)->∃m0,m0<(cnt)-k/\∃k:Nat,m0=(cnt)-k/\k<=(cnt)/\e 21=.int .i64 (k:Int)/\gg ⟨320001001,n0+1⟩=some ⟨true,1,lF G cnt k⟩/\(nx=n0+3+4*k/\∀j:Nat,j<k->gg (G j)=some ⟨true,2,[[.gE,.int .i64 (j:Int)]]⟩):=fun x1 x2 x3=>⟨_,ai,k+1,rfl,ai,(by rw[x1,aI ai]),x2,x3⟩
  have fM:k<cnt:=ai
  have tl:=l9 G cnt k
  have eI:=J5 (G:=G) fM
  have eU:(lF G cnt k)[k]? =some [.gE]:=by simp[lF,fM]
  have SG:(⟨320005004,st_a.next+1+1⟩:Id)=G k:=by rw[hG,lL]
  have hGf:∀j,j<k->(G j=G k)=False:=fun j hj=>Uc j k ai
  have y9:∀j,(G j=(⟨320001001,n0+1⟩:Id))=False:=fun j=>Le j _ _ (by decide)
  have Dm:∀j,((⟨320001001,n0+1⟩:Id)=G j)=False:=fun j=>by
   have:=y9 j
   simp only[eq_iff_iff,iff_false]at this ⊢
   exact fun h=>this h.symm
  (try((repeat(revert hN;revert N;apply Pn.out));refine wk (tw @a21 (tw @ag0 (tw @a0 (tw @a1 (tw @a5 (tw @qg (tw @a20 (tw @hk (tw @tl (tw @SG (tw @y9 (tw @Dm (tw @eI @eU))))))))))))) ?_;(repeat(refine Pn.mk ?_;intro N hN))))
  refine cY ?_ ?_ (by
   refine⟨by(try dsimp only)<;>omega,fun j hj=>?_⟩
   by_cases xV:j=k
   ·subst xV;simp only[go_sem, ↓reduceIte,Nat.reduceEqDiff,Nat.reduceAdd,Nat.reduceSub,Nat.reduceLeDiff,reduceCtorEq,SG,y9,Dm]
   ·have hold:=lG j ai
    have gP:=hGf j ai
    simp only[go_sem, ↓reduceIte,Nat.reduceEqDiff,Nat.reduceAdd,Nat.reduceSub,Nat.reduceLeDiff,reduceCtorEq,SG,y9,Dm,gP,hold])
  all_goals simp only[go_sem, ↓reduceIte,Nat.reduceEqDiff,Nat.reduceAdd,Nat.reduceSub,Nat.reduceLeDiff,reduceCtorEq,a21,ag0,a0,a1,a5,qg,a20,SG,y9,Dm,eI]
 have ml:cnt=k:=ai
 subst ml
 (try((repeat(revert hN;revert N;apply Pn.out));refine wk (tw @a21 (tw @ag0 (tw @a0 (tw @a1 (tw @a5 (tw @qg (tw @a20 @hk))))))) ?_;(repeat(refine Pn.mk ?_;intro N hN))))
 refine bF (fun n env st=>∃i:Nat,n=(bs.length)-i/\i<=(bs.length)/\env 33=.int .i64 (i:Int)/\st.get ⟨320001001,n0+1⟩=some ⟨true,1,lF G cnt cnt⟩/\(n0+3+4*cnt<=st.next)/\(∃px,mQ cnt px (eE (bs.take i))/\tj st.get G cnt px)) (bs.length) ⟨0,ai,ai,sl (tw @a21 (tw @ag0 (tw @a0 (tw @a1 (tw @a5 (tw @qg @a20)))))),sl (tw @a21 (tw @ag0 (tw @a0 (tw @a1 (tw @a5 (tw @qg @a20)))))),bK,⟨fun _=>none,mQ.start cnt,lG⟩⟩ ?_
 rintro n_b env_b st_b ⟨i,rfl,ble,b33,bg0,bI0,bI1⟩ bfr
 have b0:=bfr 0 (by kernel_rfl);have b1:=bfr 1 (by kernel_rfl);have b5:=bfr 5 (by kernel_rfl);have xD:=bfr 31 (by kernel_rfl);have xE:=bfr 32 (by kernel_rfl)
 simp only[go_sem, ↓reduceIte,Nat.reduceEqDiff,Nat.reduceAdd,Nat.reduceSub,Nat.reduceLeDiff,reduceCtorEq,a21,ag0,a0,a1,a5,qg,a20]at b0 b1 b5 xD xE
 clear bfr
 obtain⟨px,KA,SH⟩:=bI1
 have tl:=l9 G cnt cnt
 have QX:∀j v,(G j=(⟨320009002,v⟩:Id))=False:=fun j v=>Le j _ v (by decide)
 have y9:∀j v,(G j=(⟨320001001,v⟩:Id))=False:=fun j v=>Le j _ v (by decide)
 have Dm:∀j v,((⟨320001001,v⟩:Id)=G j)=False:=fun j v=>by
  have:=y9 j v
  simp only[eq_iff_iff,iff_false]at this ⊢
  exact fun h=>this h.symm
 have hGn:∀j,j<cnt->(G j).cV<st_b.next:=fun j hj=>by rw[Ue];omega
 by_cases hi:(i:Int)<(bs.length:Int)
 ·have j5:∀{e:Env} {gg:Rows} {nx:Nat},(e 33=.int .i64 (IntKind.i64.wrap ((i:Int)+1)))->(gg ⟨320001001,n0+1⟩=some ⟨true,1,lF G cnt cnt⟩)->(n0+3+4*cnt<=nx)->(∃px,mQ cnt px (eE (bs.take (i+1)))/\tj gg G cnt px)->∃m0,m0<(bs.length)-i/\∃i:Nat,m0=(bs.length)-i/\i<=(bs.length)/\e 33=.int .i64 (i:Int)/\gg ⟨320001001,n0+1⟩=some ⟨true,1,lF G cnt cnt⟩/\(n0+3+4*cnt<=nx)/\(∃px,mQ cnt px (eE (bs.take i))/\tj gg G cnt px):=fun x1 x2 x3 x4=>⟨_,ai,i+1,rfl,ai,(by rw[x1,aI ai]),x2,x3,x4⟩
  have fP:i<bs.length:=ai
  have kO:(bs.map aB)[i]? =some (aB bs[i]):=by simp[fP]
  have Gg:=hb _ (List.getElem_mem fP)
  have od:bs.take (i+1)=bs.take i++[bs[i]]:=List.take_succ_eq_append_getElem fP
  have k9:eE (bs.take (i+1))=eQ (eE (bs.take i)) bs[i]:=by rw[od,u7]
  have hL:=s7 (bs.take i)
  generalize eE (bs.take i)=L at *
  generalize bs[i]=b at *
  have gA:=wh (G:=G) Gg.1
  have gB:=wh (G:=G) Gg.2
  have gG:(b.a:Int)<(cnt:Int):=ai
  have fW:(b.b:Int)<(cnt:Int):=ai
  (try((repeat(revert hN;revert N;apply Pn.out));refine wk (tw @b33 (tw @bg0 (tw @b0 (tw @b1 (tw @b5 (tw @xD (tw @xE (tw @hi (tw @kO (tw @aB.eq_1 (tw @gA (tw @gB (tw @gG (tw @fW @tl)))))))))))))) ?_;(repeat(refine Pn.mk ?_;intro N hN))))
  refine Kj (fun e s=>e 0=.int .i64 cnt/\e 1=.sl (bs.map aB)/\e 5=.own ⟨320001001,n0+1⟩ 0 cnt/\e 31=.sl (bs.map aB)/\e 32=.int .i64 bs.length/\e 33=.int .i64 i/\e 9=.ptr (G (L b.a)) 0 0/\e 10=.ptr (G (L b.b)) 0 0/\(∀j:Id,j.cV<st_b.next->s.get j=st_b.get j)/\st_b.next<=s.next) ?_ ?_
  ·rintro e1 s1 ⟨m0,m1,m5,m31,m32,m33,m9,m10,mf,mn⟩
   refine hN _ _ ?_
   clear hN N
   have mG:tj s1.get G cnt px:=SH.frame fun k hk=>mf _ (hGn k hk)
   have mt:=(mf ⟨320001001,n0+1⟩ bK).trans bg0
   have UI:L b.a<cnt:=Nat.lt_of_le_of_lt (hL.le _) Gg.1
   have Rq:L b.b<cnt:=Nat.lt_of_le_of_lt (hL.le _) Gg.2
   have ra:=mG _ UI
   have rb:=mG _ Rq
   rw[kZ (KA.root hL UI (hL.idem _))]at ra
   rw[kZ (KA.root hL Rq (hL.idem _))]at rb
   have put:∀(g':Rows) (lo hi:Nat),hi<cnt->g' (G hi)=some ⟨true,2,[[.ptr (G lo) 0 0,.int .i64 (hi:Int)]]⟩->(∀k,k≠hi->k<cnt->g' (G k)=s1.get (G k))->tj g' G cnt (fun k=>if k=hi then some lo else px k):=fun g' lo hi _ h1 h2 k hk=>by
    by_cases Ky:k=hi
    ·subst Ky;rw[h1,sR (j:=lo) (if_pos rfl)]
    ·rw[h2 k Ky hk,mG k hk]
     unfold rY
     simp only[if_neg Ky]
   rcases Nat.lt_trichotomy (L b.a) (L b.b)with eh|heq|eh
   ·have OF:(L b.a:Int)<(L b.b:Int):=ai
    have hj:=KA.join hL b ai
    rw[Nat.max_eq_right ai,Nat.min_eq_left ai,<-k9]at hj
    (try((repeat(revert hN;revert N;apply Pn.out));refine wk (tw @m0 (tw @m1 (tw @m5 (tw @m31 (tw @m32 (tw @m33 (tw @m9 (tw @m10 (tw @ra (tw @rb @OF)))))))))) ?_;(repeat(refine Pn.mk ?_;intro N hN))))
    refine j5 ?_ ?_ bK (⟨_,hj,put _ _ _ Rq (sd @Nat.zero_add) (fun k hk _=>by
     have gP:=Uc k _ hk
     simp only[go_sem, ↓reduceIte,Nat.reduceEqDiff,Nat.reduceAdd,Nat.reduceSub,Nat.reduceLeDiff,reduceCtorEq,gP])⟩)
    all_goals simp only[go_sem, ↓reduceIte,Nat.reduceEqDiff,Nat.reduceAdd,Nat.reduceSub,Nat.reduceLeDiff,reduceCtorEq,m0,m1,m5,m31,m32,m33,mt,y9,Dm]
   ·have zg:¬(L b.a:Int)<(L b.b:Int):=ai
    have Gp:¬(L b.b:Int)<(L b.a:Int):=ai
    have Ly:=zp heq
    rw[Ly]at k9
    (try((repeat(revert hN;revert N;apply Pn.out));refine wk (tw @m0 (tw @m1 (tw @m5 (tw @m31 (tw @m32 (tw @m33 (tw @m9 (tw @m10 (tw @ra (tw @rb (tw @zg @Gp))))))))))) ?_;(repeat(refine Pn.mk ?_;intro N hN))))
    refine j5 ?_ ?_ bK (⟨_,k9▸KA,mG.frame fun k hk=>rfl⟩)
    all_goals simp only[go_sem, ↓reduceIte,Nat.reduceEqDiff,Nat.reduceAdd,Nat.reduceSub,Nat.reduceLeDiff,reduceCtorEq,m0,m1,m5,m31,m32,m33,mt]
   ·have OF:(L b.b:Int)<(L b.a:Int):=ai
    have zg:¬(L b.a:Int)<(L b.b:Int):=ai
    have hj:=KA.join hL b ai
    rw[Nat.max_eq_left ai,Nat.min_eq_right ai,<-k9]at hj
    (try((repeat(revert hN;revert N;apply Pn.out));refine wk (tw @m0 (tw @m1 (tw @m5 (tw @m31 (tw @m32 (tw @m33 (tw @m9 (tw @m10 (tw @ra (tw @rb (tw @OF @zg))))))))))) ?_;(repeat(refine Pn.mk ?_;intro N hN))))
    refine j5 ?_ ?_ bK (⟨_,hj,put _ _ _ UI (sd @Nat.zero_add) (fun k hk _=>by
     have gP:=Uc k _ hk
     simp only[go_sem, ↓reduceIte,Nat.reduceEqDiff,Nat.reduceAdd,Nat.reduceSub,Nat.reduceLeDiff,reduceCtorEq,gP])⟩)
    all_goals simp only[go_sem, ↓reduceIte,Nat.reduceEqDiff,Nat.reduceAdd,Nat.reduceSub,Nat.reduceLeDiff,reduceCtorEq,m0,m1,m5,m31,m32,m33,mt,y9,Dm]
  ·intro N hN
   refine fm ?_ ?_<;>(try((repeat(revert hN;revert N;apply Pn.out));refine wk (tw @b33 (tw @bg0 (tw @b0 (tw @b1 (tw @b5 (tw @xD (tw @xE (tw @hi (tw @kO (tw @aB.eq_1 (tw @gA (tw @gB (tw @gG (tw @fW @tl)))))))))))))) ?_;(repeat(refine Pn.mk ?_;intro N hN))))<;>(try refine fm ?_ ?_)<;>(try((repeat(revert hN;revert N;apply Pn.out));refine wk (tw @b33 (tw @bg0 (tw @b0 (tw @b1 (tw @b5 (tw @xD (tw @xE (tw @hi (tw @kO (tw @aB.eq_1 (tw @gA (tw @gB (tw @gG (tw @fW @tl)))))))))))))) ?_;(repeat(refine Pn.mk ?_;intro N hN))))<;>(try refine fm ?_ ?_)<;>(try((repeat(revert hN;revert N;apply Pn.out));refine wk (tw @b33 (tw @bg0 (tw @b0 (tw @b1 (tw @b5 (tw @xD (tw @xE (tw @hi (tw @kO (tw @aB.eq_1 (tw @gA (tw @gB (tw @gG (tw @fW @tl)))))))))))))) ?_;(repeat(refine Pn.mk ?_;intro N hN))))
   all_goals
    refine .inr (aY _ _ _ _ _ (fun r σ1 hq=>?_) (yZ G cnt px L KA b.a Gg.1 _ (SH.frame fun k hk=>sd @QX)))
    obtain⟨g1,x1⟩:=σ1
    obtain⟨rfl,Ah,Gn⟩:=hq
    (try dsimp only at Ah Gn)
    subst Ah
    refine hN _ _ ?_
    clear hN N
    (try((repeat(revert hN;revert N;apply Pn.out));refine wk (tw @b33 (tw @bg0 (tw @b0 (tw @b1 (tw @b5 (tw @xD (tw @xE (tw @hi (tw @kO (tw @aB.eq_1 (tw @gA (tw @gB (tw @gG (tw @fW @tl)))))))))))))) ?_;(repeat(refine Pn.mk ?_;intro N hN))))
    refine .inr (aY _ _ _ _ _ (fun r σ1 hq=>?_) (yZ G cnt px L KA b.b Gg.2 _ (SH.frame fun k hk=>sd @QX)))
    obtain⟨g1,x2⟩:=σ1
    obtain⟨rfl,Ah,mC⟩:=hq
    (try dsimp only at Ah mC)
    subst Ah
    refine hN _ _ ?_
    clear hN N
    (try((repeat(revert hN;revert N;apply Pn.out));refine wk (tw @b33 (tw @bg0 (tw @b0 (tw @b1 (tw @b5 (tw @xD (tw @xE (tw @hi (tw @kO (tw @aB.eq_1 (tw @gA (tw @gB (tw @gG (tw @fW @tl)))))))))))))) ?_;(repeat(refine Pn.mk ?_;intro N hN))))
    exact⟨sd (tw @b33 (tw @bg0 (tw @b0 (tw @b1 (tw @b5 (tw @xD @xE)))))),sd (tw @b33 (tw @bg0 (tw @b0 (tw @b1 (tw @b5 (tw @xD @xE)))))),sd (tw @b33 (tw @bg0 (tw @b0 (tw @b1 (tw @b5 (tw @xD @xE)))))),sd (tw @b33 (tw @bg0 (tw @b0 (tw @b1 (tw @b5 (tw @xD @xE)))))),sd (tw @b33 (tw @bg0 (tw @b0 (tw @b1 (tw @b5 (tw @xD @xE)))))),sd (tw @b33 (tw @bg0 (tw @b0 (tw @b1 (tw @b5 (tw @xD @xE)))))),sd (tw @b33 (tw @bg0 (tw @b0 (tw @b1 (tw @b5 (tw @xD @xE)))))),sd (tw @b33 (tw @bg0 (tw @b0 (tw @b1 (tw @b5 (tw @xD @xE)))))),fun j hj=>by
     have hv:=eL hj
     simp only[go_sem, ↓reduceIte,Nat.reduceEqDiff,Nat.reduceAdd,Nat.reduceSub,Nat.reduceLeDiff,reduceCtorEq,hv],bK⟩
 have mi:i=bs.length:=ai
 subst mi
 rw[List.take_length]at KA
 have hL:=s7 bs
 generalize eE bs=L at *
 (try((repeat(revert hN;revert N;apply Pn.out));refine wk (tw @b33 (tw @bg0 (tw @b0 (tw @b1 (tw @b5 (tw @xD (tw @xE (tw @hi @tl)))))))) ?_;(repeat(refine Pn.mk ?_;intro N hN))))
 have l0:kz 0 L=[]:=rfl
 have oS:(none:Option Nat).isSome=false:=rfl
 have oT:∀a:Nat,(some a).isSome=true:=fun _=>rfl
 refine bF (fun n env st=>∃x:Nat,n=(cnt)-x/\x<=(cnt)/\env 81=.int .i64 (x:Int)/\st.get ⟨320001001,n0+1⟩=some ⟨true,1,lF G cnt cnt⟩/\st.get ⟨320017000,st_b.next+1+1⟩=some ⟨true,mI.ua,kz x L⟩/\(st_b.next+3<=st.next/\tj st.get G cnt px)/\((x=0/\env 11=.bS)∨∃o:Id,env 11=.own o 0 (leads x L).length/\Kp st.get o (jw x L) st.next)) (cnt) ⟨0,ai,ai,sl (tw @b33 (tw @bg0 (tw @b0 (tw @b1 (tw @b5 (tw @xD (tw @xE @l0))))))),sl (tw @b33 (tw @bg0 (tw @b0 (tw @b1 (tw @b5 (tw @xD (tw @xE @l0))))))),sl (tw @b33 (tw @bg0 (tw @b0 (tw @b1 (tw @b5 (tw @xD (tw @xE @l0))))))),⟨bK,SH.frame fun k hk=>by(have gP:=Le k 320017000 (st_b.next+1+1) (by decide));simp only[go_sem, ↓reduceIte,Nat.reduceEqDiff,Nat.reduceAdd,Nat.reduceSub,Nat.reduceLeDiff,reduceCtorEq,gP]⟩,.inl ⟨rfl,sd @Nat.zero_add⟩⟩ ?_
 rintro n_c env_c st_c ⟨x,rfl,cle,c81,cg0,cg1,cI0,cI1⟩ cfr
 have yS:=cfr 12 (by kernel_rfl);have KS:=cfr 79 (by kernel_rfl);have KT:=cfr 80 (by kernel_rfl)
 simp only[go_sem, ↓reduceIte,Nat.reduceEqDiff,Nat.reduceAdd,Nat.reduceSub,Nat.reduceLeDiff,reduceCtorEq,b33,bg0,b0,b1,b5,xD,xE,l0]at yS KS KT
 clear cfr
 obtain⟨xd,QF⟩:=cI0
 have Oq:∀j v,(G j=(⟨320017000,v⟩:Id))=False:=fun j v=>Le j _ v (by decide)
 have Ol:∀j v,(G j=(⟨320025002,v⟩:Id))=False:=fun j v=>Le j _ v (by decide)
 have On:∀j v,(G j=(⟨320025001,v⟩:Id))=False:=fun j v=>Le j _ v (by decide)
 have Oo:∀j v,(G j=(⟨320026007,v⟩:Id))=False:=fun j v=>Le j _ v (by decide)
 have Om:∀j v,(G j=(⟨320026008,v⟩:Id))=False:=fun j v=>Le j _ v (by decide)
 by_cases hx:(x:Int)<(cnt:Int)
 ·have gW:∀{e:Env} {gg:Rows} {nx:Nat},(e 81=.int .i64 (IntKind.i64.wrap ((x:Int)+1)))->(gg ⟨320001001,n0+1⟩=some ⟨true,1,lF G cnt cnt⟩)->(gg ⟨320017000,st_b.next+1+1⟩=some ⟨true,mI.ua,kz (x+1) L⟩)->(st_b.next+3<=nx/\tj gg G cnt px)->(((x+1)=0/\e 11=.bS)∨∃o:Id,e 11=.own o 0 (leads (x+1) L).length/\Kp gg o (jw (x+1) L) nx)->∃m0,m0<(cnt)-x/\∃x:Nat,m0=(cnt)-x/\x<=(cnt)/\e 81=.int .i64 (x:Int)/\gg ⟨320001001,n0+1⟩=some ⟨true,1,lF G cnt cnt⟩/\gg ⟨320017000,st_b.next+1+1⟩=some ⟨true,mI.ua,kz x L⟩/\(st_b.next+3<=nx/\tj gg G cnt px)/\((x=0/\e 11=.bS)∨∃o:Id,e 11=.own o 0 (leads x L).length/\Kp gg o (jw x L) nx):=fun x1 x2 x3 x4 x5=>⟨_,ai,x+1,rfl,ai,(by rw[x1,aI ai]),x2,x3,x4,x5⟩
  have Qs:x<cnt:=ai
  have gX:=wh (G:=G) Qs
  have hlx:L x<cnt:=Nat.lt_of_le_of_lt (hL.le _) Qs
  have ra:=QF _ hlx
  rw[kZ (KA.root hL hlx (hL.idem _))]at ra
  have kP:=jz x L
  (try((repeat(revert hN;revert N;apply Pn.out));refine wk (tw @c81 (tw @cg0 (tw @cg1 (tw @yS (tw @KS (tw @KT (tw @hx (tw @gX @tl)))))))) ?_;(repeat(refine Pn.mk ?_;intro N hN))))
  refine .inr (aY _ _ _ _ _ (fun r σ1 hq=>?_) (yZ G cnt px L KA x Qs _ (QF.frame fun k hk=>sd @Nat.zero_add)))
  obtain⟨g1,x1⟩:=σ1
  obtain⟨rfl,Ah,Gn⟩:=hq
  (try dsimp only at Ah Gn)
  subst Ah
  refine hN _ _ ?_
  clear hN N
  by_cases hr:L x=x
  ·rw[hr]at ra ⊢
   have k7:=GI hr
   have S7:(leads (x+1) L).length=(leads x L).length+1:=by rw[gN,if_pos hr];simp
   have Qn:=DO hr
   have SZ:=Dj hL hr
   rcases cI1 with⟨rfl,nq⟩|⟨o,nq,cS⟩
   ·have U9:kz 1 L=[[.int .i64 ((0:Nat):Int),.int .i64 ((0:Nat):Int)]]:=Qn
    (try((repeat(revert hN;revert N;apply Pn.out));refine wk (tw @c81 (tw @cg0 (tw @cg1 (tw @yS (tw @KS (tw @KT (tw @nq (tw @ra (tw @k7 (tw @l0 (tw @oS (tw @oT (tw @Bool.not_false @Bool.not_true))))))))))))) ?_;(repeat(refine Pn.mk ?_;intro N hN))))
    refine gW ?_ ?_ ?_ (by(try dsimp only);exact⟨ai,QF.frame fun k hk=>sd (tw @Oq (tw @Ol (tw @Om (tw @On @Oo))))⟩) (.inr ⟨⟨320025002,x1+1+1+1+1⟩,by simp only[go_sem, ↓reduceIte,Nat.reduceEqDiff,Nat.reduceAdd,Nat.reduceSub,Nat.reduceLeDiff,reduceCtorEq,S7];rfl,by rw[SZ];exact Lc (v':=x1+1+1+1+1+1) (sd @Nat.zero_add) (sd @eN.eq_1) bK bK⟩)
    all_goals simp only[go_sem, ↓reduceIte,Nat.reduceEqDiff,Nat.reduceAdd,Nat.reduceSub,Nat.reduceLeDiff,reduceCtorEq,c81,cg0,cg1,yS,KS,KT,U9]
   ·obtain⟨rows,xb,rI,jY⟩:=cS.new x
    rw[pU]at rI
    have xe:o.site=320025002:=by obtain⟨_,_,_,_,_,_,h,_⟩:=cS;exact h
    have tV:o.cV<x1:=by obtain⟨_,_,_,_,_,_,_,h⟩:=cS;omega
    have rJ:=eL tV
    have Rv:=gQ (o:=o) xe (b:=320017000) (v:=st_b.next+1+1) (by decide)
    have Qi:=gQ (o:=o) xe (b:=320001001) (v:=n0+1) (by decide)
    have Ot:∀k,(G k=o)=False:=fun k=>by simp only[eq_iff_iff,iff_false];intro h;have h1:=SI k;rw[h,xe]at h1;cases h1
    have r5:(rows++[[AV.bS]])[(leads x L).length]? =some [.bS]:=by rw[<-rI];simp
    have Dx:∀a:List AV,(rows++[[AV.bS]]).set (leads x L).length a=rows++[a]:=fun a=>by rw[<-rI];simp
    have e1:(leads x L).length+1<=16777216:=ai
    have e2:((leads x L).length:Int)<(((leads x L).length+1:Nat):Int):=ai
    (try((repeat(revert hN;revert N;apply Pn.out));refine wk (tw @c81 (tw @cg0 (tw @cg1 (tw @yS (tw @KS (tw @KT (tw @nq (tw @ra (tw @k7 (tw @xb (tw @rI (tw @rJ (tw @Rv (tw @r5 (tw @Dx (tw @e1 (tw @e2 (tw @oS (tw @oT (tw @Bool.not_false @Bool.not_true)))))))))))))))))))) ?_;(repeat(refine Pn.mk ?_;intro N hN))))
    refine gW ?_ ?_ ?_ (by(try dsimp only);exact⟨ai,QF.frame fun k hk=>sd (tw @Oq (tw @Ol (tw @Om (tw @On (tw @Oo @Ot)))))⟩) (.inr ⟨⟨320025002,x1+1+1+1+1⟩,sd @S7,by rw[SZ];exact jY _ _ (x1+1+1+1+1+1) _ ai bK bK (sd @Dx) (sd @eN.eq_1) (fun j hj hv=>by
     have q1:=eL (i:=j) (n:=x1) ai
     have q2:=gQ hj (b:=320017000) (v:=st_b.next+1+1) (by decide)
     have q3:(j=o)=False:=by simp only[eq_iff_iff,iff_false];intro h;rw[h,xe]at hj;cases hj
     simp only[go_sem, ↓reduceIte,Nat.reduceEqDiff,Nat.reduceAdd,Nat.reduceSub,Nat.reduceLeDiff,reduceCtorEq,q1,q2,q3])⟩)
    all_goals simp only[go_sem, ↓reduceIte,Nat.reduceEqDiff,Nat.reduceAdd,Nat.reduceSub,Nat.reduceLeDiff,reduceCtorEq,c81,cg0,cg1,yS,KS,KT,Qn,rJ,Rv,Qi]
  ·obtain⟨k7,IY,eh⟩:=yd hL hr
   obtain⟨Rk,SZ⟩:=Dk hL hr
   have S7:(leads (x+1) L).length=(leads x L).length:=by rw[gN,if_neg hr];simp
   have Ly:=DN hr
   rcases cI1 with⟨rfl,nq⟩|⟨o,nq,cS⟩
   ·exact absurd (Nat.le_zero.1 (hL.le 0)) hr
   ·obtain⟨rows,id,xb,rI,hrk,hid,II,hidv,Un⟩:=cS.add Rk x
    rw[pU]at rI
    have xe:o.site=320025002:=by obtain⟨_,_,_,_,_,_,h,_⟩:=cS;exact h
    have tV:o.cV<x1:=by obtain⟨_,_,_,_,_,_,_,h⟩:=cS;omega
    have rJ:=eL tV
    have xZ:=eL (i:=id) (n:=x1) ai
    have kO:(cN L x:Int)<((leads x L).length:Int):=ai
    have Qh:=BN x L (L x)
    have hma:((members x L (L x)).map eN).length=(members x L (L x)).length:=by simp
    have e1:(members x L (L x)).length+1<=16777216:=ai
    have Qj:(o=id)=False:=by simp only[eq_iff_iff,iff_false];rintro rfl;rw[II]at xe;cases xe
    have Qd:(id=o)=False:=by simp only[eq_iff_iff,iff_false];rintro rfl;rw[II]at xe;cases xe
    have Rv:=gQ (o:=o) xe (b:=320017000) (v:=st_b.next+1+1) (by decide)
    have Qi:=gQ (o:=o) xe (b:=320001001) (v:=n0+1) (by decide)
    have hiM:=gQ (o:=id) II (b:=320017000) (v:=st_b.next+1+1) (by decide)
    have hiT:=gQ (o:=id) II (b:=320001001) (v:=n0+1) (by decide)
    have Ot:∀k,(G k=o)=False:=fun k=>by simp only[eq_iff_iff,iff_false];intro h;have h1:=SI k;rw[h,xe]at h1;cases h1
    have Ud:∀k,(G k=id)=False:=fun k=>by simp only[eq_iff_iff,iff_false];intro h;have h1:=SI k;rw[h,II]at h1;cases h1
    (try((repeat(revert hN;revert N;apply Pn.out));refine wk (tw @c81 (tw @cg0 (tw @cg1 (tw @yS (tw @KS (tw @KT (tw @nq (tw @ra (tw @k7 (tw @IY (tw @xb (tw @rI (tw @hrk (tw @hid (tw @rJ (tw @xZ (tw @kO (tw @hma (tw @e1 (tw @Qj (tw @Qd (tw @Rv (tw @Qi (tw @hiM (tw @hiT (tw @oS (tw @oT (tw @Bool.not_false @Bool.not_true)))))))))))))))))))))))))))) ?_;(repeat(refine Pn.mk ?_;intro N hN))))
    refine gW ?_ ?_ ?_ (by(try dsimp only);exact⟨ai,QF.frame fun k hk=>sd (tw @Oq (tw @Ol (tw @Om (tw @On (tw @Oo (tw @Ot @Ud))))))⟩) (.inr ⟨o,sd (tw @S7 @nq),by rw[SZ];exact Un _ (x1+1+1) _ ai bK (sd @Nat.zero_add) (sd (tw @rJ (tw @xZ (tw @Qj @Qd)))) (fun j hj hv mj=>by
     have q1:=eL (i:=j) (n:=x1) ai
     have q2:=gQ hj (b:=320017000) (v:=st_b.next+1+1) (by decide)
     have q3:(j=o)=False:=by simp only[eq_iff_iff,iff_false];intro h;rw[h,xe]at hj;cases hj
     simp only[go_sem, ↓reduceIte,Nat.reduceEqDiff,Nat.reduceAdd,Nat.reduceSub,Nat.reduceLeDiff,reduceCtorEq,q1,q2,q3,mj])⟩)
    all_goals simp only[go_sem, ↓reduceIte,Nat.reduceEqDiff,Nat.reduceAdd,Nat.reduceSub,Nat.reduceLeDiff,reduceCtorEq,c81,cg0,cg1,yS,KS,KT,Ly,rJ,xZ,Rv,Qi,hiM,hiT]
 have Vg:x=cnt:=ai
 rcases cI1 with⟨h0,_⟩|⟨o,nq,rows,ids,xb,hR,_,_,_,_⟩
 ·omega
 have rI:=hR.len
 rw[pU]at rI
 (try((repeat(revert hN;revert N;apply Pn.out));refine wk (tw @c81 (tw @cg0 (tw @cg1 (tw @yS (tw @KS (tw @KT (tw @hx (tw @nq @xb)))))))) ?_;(repeat(refine Pn.mk ?_;intro N hN))))
 refine vN (.inl rfl) (by simp only[go_sem, ↓reduceIte,Nat.reduceEqDiff,Nat.reduceAdd,Nat.reduceSub,Nat.reduceLeDiff,reduceCtorEq];rfl) ?_
 rw[qE xb ai (rows':=(fG cnt L).map Ad) (by
  rw[List.drop_zero,List.take_of_length_le ai]
  rw[Vg]at hR;exact Ji 3 hR)]
theorem Kk (b:PB) (t:Int):aq Tryz.prog 323 [.agg (aB b),.dt [.int .i64 t]] (.bool (decide (b.s<t))):=by
 refine aq.body eG rfl fun hl n0=>?_
 clear hl
 (try((repeat(revert hN;revert N;apply Pn.out));refine wk @aB.eq_1 ?_;(repeat(refine Pn.mk ?_;intro N hN))))
 exact bd (b:=decide (b.s<t)) (.inl rfl) (sd @Nat.zero_add) rfl
theorem x8 (bs:List PB) (t:Int) (hl:bs.length<=1048576):aq Tryz.prog 335 [.sl (bs.map aB),.fn 323 [.dt [.int .i64 t]]] (.int .i64 (jX (fun b:PB=>decide (b.s<t)) bs)):=
 sW Ih (show lP Tryz.prog 335=some (sb 335 3 true) by kernel_rfl) bs hl 323 _ _ (fun x _=>Kk x t) fun g=>by simp only[ab,aj,aH,Option.map_some]
theorem Ia (bs:List PB) (hp:0<bs.length) (hl:bs.length<=1048576) (σ:au):
  Call Tryz.prog 322 [.sl (bs.map aB)] σ fun r σ'=>∃o:Id,r=.own o 0 bs.length/\σ'.get o=some ⟨true,3,bs.map aB⟩/\σ.next<=o.cV/\o.cV<σ'.next/\∀i:Id,i.cV<σ.next->σ'.get i=σ.get i:=by
 refine fo eG rfl fun hl=>?_
 clear hl
 have hz:=all_map (l:=bs) Nw
 obtain⟨b,r,rfl⟩:∃b r,bs=b::r:=by
  cases bs with
  |nil=>simp at hp
  |cons b r=>exact⟨b,r,rfl⟩
 have kP:(List.map aB (b::r)).length=(b::r).length:=by simp
 have e1:r.length<=16777215:=by simp at hl;omega
 rw[List.map_cons]at hz kP ⊢
 (try((repeat(revert hN;revert N;apply Pn.out));refine wk (tw @hz (tw @kP @e1)) ?_;(repeat(refine Pn.mk ?_;intro N hN))))
 refine fJ (.inl rfl) (vs:=[.own ⟨322003002,σ.next+1+1⟩ 0 (b::r).length]) (by simp only[fj,gJ,go_sem, ↓reduceIte,Nat.reduceEqDiff,Nat.reduceAdd,Nat.reduceSub,Nat.reduceLeDiff,reduceCtorEq,List.length_cons]) ⟨⟨322003002,σ.next+1+1⟩,rfl,sd @Nat.zero_add,bK,bK,fun i hi=>?_⟩
 have hv:=eL hi
 simp only[go_sem, ↓reduceIte,Nat.reduceEqDiff,Nat.reduceAdd,Nat.reduceSub,Nat.reduceLeDiff,reduceCtorEq,hv]
theorem oz {t:Int} {bs:List PB} {j:Nat} (hj:j<bs.length):bc t (bs.take (j+1))=bc t (bs.take j)++if decide (bs[j].s<t)=true then[]else[bs[j]]:=by
 rw[tf t bs j hj]
 congr 1
 by_cases h:bs[j].s<t
 ·rw[if_neg ai,if_pos (decide_eq_true h)]
 ·rw[if_pos ai,if_neg (by simp only[decide_eq_true_eq];exact h)]
theorem te {t:Int} {bs:List PB} (h:∀b∈bs,¬b.s<t):bc t bs=bs:=by
 unfold bc
 rw[List.filter_eq_self]
 intro b hb
 have:=h b hb
 exact decide_eq_true ai
structure th (t:Int) (bs:List PB) (j:Nat) (R:List PB):Prop where
 len:R.length=bs.length
 pre:R.take (bc t (bs.take j)).length=bc t (bs.take j)
 post:∀x,j<=x->R[x]? =bs[x]?
 lt:(bc t (bs.take j)).length<j
theorem th.start {t:Int} {bs:List PB} {i:Nat} (hi:i<bs.length) (hw:bs[i].s<t) (hp:∀x (h:x<i),¬bs[x].s<t):th t bs (i+1) bs/\(bc t (bs.take (i+1))).length=i:=by
 have h1:bc t (bs.take i)=bs.take i:=te fun b hb=>by
  obtain⟨x,hx,rfl⟩:=List.getElem_of_mem hb
  rw[List.length_take]at hx
  rw[List.getElem_take]
  exact hp x ai
 have h2:bc t (bs.take (i+1))=bs.take i:=by rw[oz hi,if_pos (decide_eq_true hw),List.append_nil,h1]
 have h3:(bs.take i).length=i:=by rw[List.length_take];omega
 exact⟨⟨rfl,by rw[h2,h3],fun _ _=>rfl,by rw[h2,h3];omega⟩,by rw[h2,h3]⟩
theorem th.Vt {t:Int} {bs R:List PB} {j:Nat} (h:th t bs j R) (hj:j<bs.length) (hw:bs[j].s<t):th t bs (j+1) R/\(bc t (bs.take (j+1))).length=(bc t (bs.take j)).length:=by
 have h2:bc t (bs.take (j+1))=bc t (bs.take j):=by rw[oz hj,if_pos (decide_eq_true hw),List.append_nil]
 exact⟨⟨h.len,by rw[h2];exact h.pre,fun x hx=>h.post x ai,by rw[h2];have:=h.lt;omega⟩,by rw[h2]⟩
theorem th.qN {t:Int} {bs R:List PB} {j:Nat} (h:th t bs j R) (hj:j<bs.length) (hw:¬bs[j].s<t):th t bs (j+1) (R.set (bc t (bs.take j)).length bs[j])/\(bc t (bs.take (j+1))).length=(bc t (bs.take j)).length+1:=by
 have h2:bc t (bs.take (j+1))=bc t (bs.take j)++[bs[j]]:=by rw[oz hj,if_neg (by simp only[decide_eq_true_eq];exact hw)]
 have eh:=h.lt
 have hlen:=h.len
 have xf:=h.pre
 generalize hc:(bc t (bs.take j)).length=c at *
 refine⟨⟨by rw[List.length_set];exact hlen,?_,fun x hx=>?_,by rw[h2,List.length_append,hc];simp;omega⟩,by rw[h2,List.length_append,hc];rfl⟩
 ·rw[h2,List.length_append,hc,List.length_singleton,List.take_succ_eq_append_getElem (by rw[List.length_set];omega),List.getElem_set_self,List.take_set_of_le (Nat.le_refl _),xf]
 ·rw[List.getElem?_set_ne ai];exact h.post x ai
theorem th.at_ {t:Int} {bs R:List PB} {j:Nat} (h:th t bs j R) (hj:j<bs.length):(R.map aB)[j]? =some (aB bs[j]):=by
 rw[List.getElem?_map,h.post j (Nat.le_refl j),List.getElem?_eq_getElem hj];rfl
theorem C9 {p:PB->Bool} {bs:List PB} (h:¬0<=jX p bs):∀b∈bs,p b=false:=by
 intro b hb
 unfold jX at h
 split at h
 ·omega
 ·rename_i h1
  rw[List.findIdx_lt_length]at h1
  cases hp:p b
  ·rfl
  ·exact absurd ⟨b,hb,hp⟩ h1
theorem Db {p:PB->Bool} {bs:List PB} (h:0<=jX p bs):∃i,∃hi:i<bs.length,jX p bs=(i:Int)/\p bs[i]=true/\∀x (hx:x<i),p (bs[x]'ai)=false:=by
 unfold jX at h ⊢
 split
 ·rename_i h1
  exact⟨bs.findIdx p,h1,rfl,List.findIdx_getElem,fun x hx=>by simpa using List.not_of_lt_findIdx hx⟩
 ·rename_i h1;rw[if_neg h1]at h;omega
theorem F2 (bs:List PB) (t:Int) (hl:bs.length<=1048576) (o T:Id) (σ:au) (ho:σ.get o=some ⟨true,3,bs.map aB⟩) (hT:σ.get T=some ⟨true,1,[[.int .i64 t]]⟩) (tV:o.cV<σ.next) (hTv:T.cV<σ.next) (Qi:o≠T):
  Call Tryz.prog 321 [.own o 0 bs.length,.fn 323 [.ptr T 0 0]] σ fun r σ'=>∃rows,r=.own o 0 (bc t bs).length/\σ'.get o=some ⟨true,3,rows⟩/\rows.take (bc t bs).length=(bc t bs).map aB/\(bc t bs).length<=rows.length/\σ.next<=σ'.next/\∀i:Id,i.cV<σ.next->i≠o->σ'.get i=σ.get i:=by
 refine fo eG rfl fun Bk=>?_
 clear Bk
 have Gl:=x8 bs t hl
 have hzT:∀(g:Rows),g T=some ⟨true,1,[[.int .i64 t]]⟩->V.fz (dR g) 5 (.ptr T 0 0)=some (.dt [.int .i64 t]):=fun g hg=>pT (sz:=1) (rows:=[[.int .i64 t]]) (by simp[dR,hg]) rfl (by simp only[List.drop_zero,ab,aj,ay,Option.map_some])
 have Al:∀(g:Rows),g T=some ⟨true,1,[[.int .i64 t]]⟩->g o=some ⟨true,3,bs.map aB⟩->de (dR g) 6 [.own o 0 bs.length,.fn 323 [.ptr T 0 0]]=some [.sl (bs.map aB),.fn 323 [.dt [.int .i64 t]]]:=fun g h1 h2=>by
  have q1:=gr (g:=dR g) (n:=5) (e:=aB) (sz:=3) (len:=bs.length) (l:=bs) (id:=o) (by simp[dR,h2]) rfl fun b=>y4 _ 4 b
  have q2:=hzT g h1
  simp only[ab,aj,q1,cu,List.all_cons,List.all_nil,AV.cell,Bool.and_true,if_true,q2,Option.map_some]
 have lf:∀(g:Rows),g T=some ⟨true,1,[[.int .i64 t]]⟩->∀b:PB,de (dR g) 6 [.agg (aB b),.ptr T 0 0]=some [.agg (aB b),.dt [.int .i64 t]]:=fun g h1 b=>by
  have q3:V.fz (dR g) 6 (.ptr T 0 0)=some (.dt [.int .i64 t]):=pT (sz:=1) (rows:=[[.int .i64 t]]) (by simp[dR,h1]) rfl (by simp only[List.drop_zero,ab,aj,ay,Option.map_some])
  simp only[ab,aj,aV,y4,q3,Option.map_some]
 (try((repeat(revert hN;revert N;apply Pn.out));refine wk @Nat.zero_add ?_;(repeat(refine Pn.mk ?_;intro N hN))))
 refine .inl ⟨_,aq.x Gl (Al _ hT ho),?_⟩
 refine hN _ _ ?_
 clear hN N
 by_cases h0:0<=jX (fun b:PB=>decide (b.s<t)) bs
 ·obtain⟨i,hi,Hy,hpi,OM⟩:=Db h0
  rw[Hy]at *
  have Lo:decide ((i:Int)= -1)=false:=decide_eq_false ai
  have RH:IntKind.i64.wrap ((i:Int)+1)=((i+1:Nat):Int):=aI ai
  obtain⟨eb,Dx⟩:=th.start (t:=t) hi (by simpa using hpi) (fun x hx=>by simpa using OM x hx)
  (try((repeat(revert hN;revert N;apply Pn.out));refine wk (tw @Lo @RH) ?_;(repeat(refine Pn.mk ?_;intro N hN))))
  refine bF (fun m env st=>∃(j:Nat) (R:List PB),m=bs.length-j/\env 6=.int .i64 (j:Int)/\env 5=.int .i64 ((bc t (bs.take j)).length:Int)/\st.get o=some ⟨true,3,R.map aB⟩/\th t bs j R/\j<=bs.length/\σ.next<=st.next/\∀x:Id,x.cV<σ.next->(x=o)=False->st.get x=σ.get x) (bs.length-(i+1)) ⟨i+1,bs,rfl,sd @RH,sd @Dx,sd @ho,eb,ai,bK,fun x _ _=>sd @Nat.zero_add⟩ ?_
  rintro m env_b st_b ⟨j,R,rfl,b6,b5,bg,hD,gZ,hle,kK⟩ bfr
  have b0:=bfr 0 (by kernel_rfl)
  have b1:=bfr 1 (by kernel_rfl)
  simp only[go_sem, ↓reduceIte,Nat.reduceEqDiff,Nat.reduceAdd,Nat.reduceSub,Nat.reduceLeDiff,reduceCtorEq]at b0 b1
  clear bfr
  have bT:=(kK T hTv (by simp only[eq_iff_iff,iff_false];exact fun h=>Qi h.symm)).trans hT
  have pd:=eL (i:=o) (n:=st_b.next) ai
  have Vd:=eL (i:=T) (n:=st_b.next) ai
  have hRl:=hD.len
  have Ul:(R.map aB).length=bs.length:=by rw[List.length_map,hRl]
  have eh:=hD.lt
  by_cases hj:(j:Int)<(bs.length:Int)
  ·have hZ:j<bs.length:=ai
   have qi:=hD.at_ hZ
   have OZ:=Kk bs[j] t
   have Ti:IntKind.i64.wrap ((j:Int)+1)=((j+1:Nat):Int):=aI ai
   have hD1:=hD.Vt hZ
   have hD2:=hD.qN hZ
   generalize bs[j]=b at *
   (try((repeat(revert hN;revert N;apply Pn.out));refine wk (tw @b0 (tw @b1 (tw @b5 (tw @b6 (tw @bg (tw @hj (tw @qi (tw @aB.eq_1 (tw @pd (tw @Vd @Ul)))))))))) ?_;(repeat(refine Pn.mk ?_;intro N hN))))
   refine .inl ⟨_,aq.x OZ (lf _ (sd (tw @Vd @bT)) b),?_⟩
   refine hN _ _ ?_
   clear hN N
   by_cases hw:b.s<t
   ·obtain⟨T8,T7⟩:=hD1 hw
    have hd:decide (b.s<t)=true:=decide_eq_true hw
    (try((repeat(revert hN;revert N;apply Pn.out));refine wk (tw @b0 (tw @b1 (tw @b5 (tw @b6 (tw @hd @Ti))))) ?_;(repeat(refine Pn.mk ?_;intro N hN))))
    refine⟨_,?_,j+1,R,rfl,sd @Ti,sd (tw @b5 @T7),sd (tw @bg @pd),T8,ai,bK,fun x hx HB=>?_⟩
    ·omega
    ·have Qo:=eL (i:=x) (n:=st_b.next) ai
     have:=kK x hx HB
     simp only[go_sem, ↓reduceIte,Nat.reduceEqDiff,Nat.reduceAdd,Nat.reduceSub,Nat.reduceLeDiff,reduceCtorEq,Qo,this]
   ·obtain⟨T8,T7⟩:=hD2 hw
    have hd:decide (b.s<t)=false:=decide_eq_false hw
    have Up:((bc t (bs.take j)).length:Int)<(bs.length:Int):=ai
    have hwc:IntKind.i64.wrap (((bc t (bs.take j)).length:Int)+1)=(((bc t (bs.take j)).length+1:Nat):Int):=aI ai
    have eI:(R.map aB).set (bc t (bs.take j)).length [.int .i64 (b.a:Int),.int .i64 (b.b:Int),.int .i64 b.s]=(R.set (bc t (bs.take j)).length b).map aB:=by rw[List.map_set];rfl
    have SY:∃y,(R.map aB)[(bc t (bs.take j)).length]? =some (aB y):=⟨R[(bc t (bs.take j)).length]'ai,by rw[List.getElem?_map,List.getElem?_eq_getElem ai];rfl⟩
    obtain⟨y,SY⟩:=SY
    rw[aB]at SY
    (try((repeat(revert hN;revert N;apply Pn.out));refine wk (tw @b0 (tw @b1 (tw @b5 (tw @b6 (tw @bg (tw @hd (tw @Ti (tw @hwc (tw @Up (tw @eI (tw @SY (tw @pd (tw @Vd @Ul))))))))))))) ?_;(repeat(refine Pn.mk ?_;intro N hN))))
    refine⟨_,?_,j+1,_,rfl,sd @Ti,sd (tw @hwc @T7),sd @eI,T8,ai,bK,fun x hx HB=>?_⟩
    ·omega
    ·have Qo:=eL (i:=x) (n:=st_b.next) ai
     have:=kK x hx HB
     simp only[go_sem, ↓reduceIte,Nat.reduceEqDiff,Nat.reduceAdd,Nat.reduceSub,Nat.reduceLeDiff,reduceCtorEq,Qo,this,HB]
  ·have gZ:j=bs.length:=ai
   subst gZ
   have xf:=hD.pre
   rw[List.take_length]at b5 eh xf
   have Up:((bc t bs).length:Int)<=(bs.length:Int):=ai
   have SS:(bc t bs).length<=bs.length:=ai
   have pZ:(bc t bs).length+(bs.length-(bc t bs).length)=bs.length:=ai
   have Dx:=mK t bs
   (try((repeat(revert hN;revert N;apply Pn.out));refine wk (tw @b0 (tw @b1 (tw @b5 (tw @b6 (tw @bg (tw @hj (tw @Ul (tw @Up (tw @SS (tw @pZ (tw @Nat.le_refl (tw @Nat.sub_zero (tw @Int.le_refl @pd))))))))))))) ?_;(repeat(refine Pn.mk ?_;intro N hN))))
   refine fJ (.inl rfl) (vs:=[.own o 0 (bc t bs).length]) (sd @Nat.zero_add) ⟨_,rfl,by simp only[go_sem, ↓reduceIte,Nat.reduceEqDiff,Nat.reduceAdd,Nat.reduceSub,Nat.reduceLeDiff,reduceCtorEq];rfl,?_,?_,bK,fun x hx HB=>?_⟩
   ·have hm:List.take (bc t bs).length (List.map aB R)=(bc t bs).map aB:=by rw[<-List.map_take,xf]
    rw[hm,List.append_assoc,List.take_append_of_le_length (by simp),List.take_of_length_le (by simp)]
   ·have hm:List.take (bc t bs).length (List.map aB R)=(bc t bs).map aB:=by rw[<-List.map_take,xf]
    rw[hm]
    simp only[List.length_append,List.length_map]
    omega
   ·have RI:(x=o)=False:=by simp only[eq_iff_iff,iff_false];exact HB
    have:=kK x hx RI
    simp only[go_sem, ↓reduceIte,Nat.reduceEqDiff,Nat.reduceAdd,Nat.reduceSub,Nat.reduceLeDiff,reduceCtorEq,RI,this]
 ·have hn:=C9 h0
  have eb:=te (t:=t) (bs:=bs) fun b hb=>by simpa using hn b hb
  have hd:decide (jX (fun b:PB=>decide (b.s<t)) bs= -1)=true:=decide_eq_true (by
   unfold jX at h0 ⊢
   split
   ·rename_i h;rw[if_pos h]at h0;omega
   ·rfl)
  (try((repeat(revert hN;revert N;apply Pn.out));refine wk @hd ?_;(repeat(refine Pn.mk ?_;intro N hN))))
  refine fJ (.inl rfl) (vs:=[.own o 0 bs.length]) (sd @Nat.zero_add) ⟨bs.map aB,by rw[eb];rfl,sd @ho,by rw[eb,List.take_of_length_le (by simp)],by rw[eb];simp,bK,fun x _ _=>rfl⟩
end Go.Proofs.YtgoljkjaameagaaGreat.V

namespace Go.Proofs.YtgoljkjaameagaaGreat.V
open Go.RowKit Go.Shelf
attribute [local go_sem] Oper.semAt_some
structure o9 (W:World) (v:Value) (l:List ae):Prop where
 sl:∃A c,v=.slice A l.length c/\(l.length<=c/\c<=maxLen)/\(l=[]∨∃b o,A=some ⟨b,o,none⟩/\∀i,i<l.length->W.cell? ⟨b,o+(i*3+0),none⟩=some (.int .i64 (bG l i).bE.fb)/\W.cell? ⟨b,o+(i*3+1),none⟩=some (.int .i64 (bG l i).bE.eT)/\W.cell? ⟨b,o+(i*3+2),none⟩=some (.int .i64 (bG l i).bR))
structure HI (K:World->World->Prop) (v:Value) (l:List ae):Prop where
 refl:∀W,K W W
 trans:∀{A B C:World},K A B->K B C->K A C
 of:∀{W W':World},Below W.heap.size W W'->K W W'
 size:∀{W W':World},K W W'->W.heap.size<=W'.heap.size
 typed:∀{W W':World},K W W'->∀(b:Nat) (cells:Array Value) (T:TypeId) (fr:Nat×Nat),W.heap[b]? =some (Obj.cells cells T fr)->T≠179->T≠254->W'.heap[b]? =W.heap[b]?
 pl:∀{W W':World},K W W'->o9 W v l->o9 W' v l
theorem tH {W:World} {b x:Nat} {v:Value} (h:W.cell? ⟨b,x,none⟩=some v):b<W.heap.size:=by
 rcases Nat.lt_or_ge b W.heap.size with h1|h1
 ·exact h1
 ·simp[World.cell?,Array.getElem?_eq_none h1]at h
theorem o9.below {W W':World} {v:Value} {l:List ae} (h:o9 W v l) (k:Below W.heap.size W W'):o9 W' v l:=by
 obtain⟨A,c,rfl,hm,hc⟩:=h.sl
 refine⟨A,c,rfl,hm,?_⟩
 rcases hc with h0|⟨b,o,rfl,j4⟩
 ·exact .inl h0
 ·refine .inr ⟨b,o,rfl,fun i hi=>?_⟩
  obtain⟨h1,h2,h3⟩:=j4 i hi
  have hb:=tH h1
  exact⟨(k.cell (p:=⟨b,_,none⟩) hb).trans h1,(k.cell (p:=⟨b,_,none⟩) hb).trans h2,(k.cell (p:=⟨b,_,none⟩) hb).trans h3⟩
theorem o9.eM {P:Program} {W:World} {v:Value} {l:List ae} (h:o9 W v l):jl P W (fun b=>b<W.heap.size) (.sl (l.map aa)) v:=by
 obtain⟨A,c,rfl,hm,hc⟩:=h.sl
 rcases hc with rfl|⟨b,o,rfl,j4⟩
 ·exact .zL A c (by simpa using hm.2)
 by_cases M3:l=[]
 ·subst M3;exact .zL _ c (by simpa using hm.2)
 ·have jZ:0<l.length:=List.length_pos_iff.2 M3
  have hb:=tH (j4 0 jZ).1
  refine .sl (l.map aa) b o l.length c 3 (fun i j=>if j=0 then .int .i64 (bG l i).bE.fb else if j=1 then .int .i64 (bG l i).bE.eT else .int .i64 (bG l i).bR) (by simp) hm.1 hm.2 hb (fun cs dS=>?_) (fun cs dS a ha=>?_) (fun i j hi hj=>?_) (fun i j cs a hi hj=>?_)
  ·obtain⟨x,_,rfl⟩:=List.mem_map.1 dS;rfl
  ·obtain⟨x,_,rfl⟩:=List.mem_map.1 dS
   simp[aa]at ha
   rcases ha with rfl|rfl|rfl<;>rfl
  ·obtain⟨h1,h2,h3⟩:=j4 i hi
   match j,hj with
   |0,_=>exact h1
   |1,_=>exact h2
   |2,_=>exact h3
   |j+3,hj=>omega
  ·have mi:i<l.length:=by have:=(List.getElem?_eq_some_iff.1 hi).1;simpa using this
   rw[gw mi]at hi
   injection hi with hi
   subst hi
   match j,hj with
   |0,hj=>simp[aa]at hj;subst hj;exact .int _ _
   |1,hj=>simp[aa]at hj;subst hj;exact .int _ _
   |2,hj=>simp[aa]at hj;subst hj;exact .int _ _
   |j+3,hj=>simp[aa]at hj
theorem AF {P:Program} (hm:P.follows .mixedOrders=true) {f:Nat} {args:List AV} {vs:Array Value} {w:World} {r:AV} (h:aq P f args r) (hr:∀g r0,gq g 6 r0=some r->r0=r) (hA:fw P w (fun b=>b<w.heap.size) (fun _=>none) args vs):
  Calls P f vs w fun e w'=>∃D ι u,e=.returned u/\dd P w' D ι r u/\Below w.heap.size w w':=by
 have hs:=fR hm (h 0) w.heap.size (fun b=>b<w.heap.size) (fun _=>none) w vs ⟨Nat.le_refl _,fun _ h=>h,fun id r h=>(by cases h),fun id jG r r' B B' h=>(by cases h)⟩ (fun id h=>absurd rfl h) hA
 refine hs.mono ?_
 rintro e w' ⟨r0,g',n',D',ι',u,rfl,⟨r',hz,rfl⟩,eb,hsim,_,_,gH⟩
 have:=hr _ _ hz
 subst this
 exact⟨D',ι',u,rfl,gH,eb.below⟩
theorem nY {g:Rows} {n:Nat} {a:AV} {k:IntKind} {m:Int} (h:gq g (n+1) a=some (.int k m)):a=.int k m:=by
 cases a<;>rw[gq]at h<;>simp_all
 all_goals (repeat' (split at h))<;>simp_all
theorem Dh {g:Rows} {a:AV} {x y:Int} (h:gq g 6 a=some (.agg [.int .i64 x,.int .i64 y])):a=.agg [.int .i64 x,.int .i64 y]:=by
 cases a with
 |agg cs=>
  rw[tN]at h
  simp only[Option.map_eq_some_iff,AV.agg.injEq,exists_eq_right]at h
  match cs,h with
  |[],h=>rw[cU]at h;simp at h
  |[a],h=>
   rw[bW,cU]at h
   cases ha:gq g 5 a<;>simp[ha]at h
  |[a,b],h=>
   rw[bW,bW,cU]at h
   cases ha:gq g 5 a<;>cases hb:gq g 5 b<;>simp[ha,hb]at h
   obtain⟨rfl,rfl⟩:=h
   rw[nY ha,nY hb]
  |a::b::c::r,h=>
   rw[bW,bW,bW]at h
   cases ha:gq g 5 a<;>cases hb:gq g 5 b<;>cases hc:gq g 5 c<;>cases hd:eB g 5 r<;>simp[ha,hb,hc,hd]at h
 |_=>rw[gq]at h<;>simp_all<;>(repeat' (split at h))<;>simp_all
theorem Er (W:World) (p:aO) (d:Int) (hd:gM d 0 3=true) (hx:iB p.fb) (hy:iB p.eT):Calls Tryz.prog 228 #[.agg #[.int .i64 p.fb,.int .i64 p.eT],.int .i64 d] W fun e W'=>e=.returned (.agg #[.int .i64 (eK p d).fb,.int .i64 (eK p d).eT])/\Below W.heap.size W W':=by
 refine(AF mixed (Pw p d hd hx hy) (fun g r0 h=>Dh h) ?_:Calls _ _ _ _ _).mono ?_
 ·exact lX (vs:= #[.int .i64 d]) (.agg _ _ (fun j=>if j=0 then .int .i64 p.fb else .int .i64 p.eT) rfl (fun a ha=>by simp[ar]at ha;rcases ha with rfl|rfl<;>rfl) (fun j hj=>by match j,hj with|0,_=>rfl|1,_=>rfl|j+2,hj=>simp[ar]at hj;omega) (fun j a ha=>by match j,ha with|0,ha=>simp[ar]at ha;subst ha;exact .int _ _|1,ha=>simp[ar]at ha;subst ha;exact .int _ _|j+2,ha=>simp[ar]at ha)) (lX (vs:= #[]) (.int _ _) vI)
 ·rintro e W' ⟨D,ι,u,rfl,hr,hB⟩
  refine⟨?_,hB⟩
  obtain⟨vs,f,rfl,fu,_,h1,h2⟩:=iu hr
  have v0:=h1 0 (by simp[ar])
  have v1:=h1 1 (by simp[ar])
  rw[dL (h2 0 _ rfl)]at v0
  rw[dL (h2 1 _ rfl)]at v1
  obtain⟨vl⟩:=vs
  match vl,fu with
  |[a,b],_=>
   simp at v0 v1
   rw[v0,v1]
theorem xo (W:World) (l:List ae) (v:Value) (hP:o9 W v l) (p:aO) (hR:nI l) (Of:l.length<=1048576):Calls Tryz.prog 303 #[.agg #[v],.agg #[.int .i64 p.fb,.int .i64 p.eT]] W fun e W'=>e=.returned (.int .i64 (eO l p))/\Below W.heap.size W W':=by
 refine(AF mixed (GY l p hR Of) (fun g r0 h=>nY h) ?_:Calls _ _ _ _ _).mono ?_
 ·exact lX (vs:= #[.agg #[.int .i64 p.fb,.int .i64 p.eT]]) (.agg _ _ (fun _=>v) rfl (fun a ha=>by simp at ha;rw[ha];rfl) (fun j hj=>by match j,hj with|0,_=>rfl|j+1,hj=>simp at hj) (fun j a ha=>by match j,ha with|0,ha=>simp at ha;subst ha;exact hP.eM|j+1,ha=>simp at ha)) (lX (vs:= #[]) (.agg _ _ (fun j=>if j=0 then .int .i64 p.fb else .int .i64 p.eT) rfl (fun a ha=>by simp[ar]at ha;rcases ha with rfl|rfl<;>rfl) (fun j hj=>by match j,hj with|0,_=>rfl|1,_=>rfl|j+2,hj=>simp[ar]at hj;omega) (fun j a ha=>by match j,ha with|0,ha=>simp[ar]at ha;subst ha;exact .int _ _|1,ha=>simp[ar]at ha;subst ha;exact .int _ _|j+2,ha=>simp[ar]at ha)) vI)
 ·rintro e W' ⟨D,ι,u,rfl,hr,hB⟩
  exact⟨by rw[dL hr],hB⟩
theorem grown_of {W W':World} (h:Below W.heap.size W W'):W.grownBy W' none:=⟨h.os,h.tape,h.output,h.size,fun k hk _=>h.block k hk⟩
def BT (l:List ae) (i:Nat) (d:Int):List (Nat×Nat×Int):=if 0<=eO l (eK (bG l i).bE d)then[(i,(eO l (eK (bG l i).bE d)).toNat,d)]else[]
def kB (l:List ae) (i m:Nat):List (Nat×Nat×Int):=(List.range m).flatMap fun j:Nat=>BT l i (1-(j:Int))
def kR (l:List ae) (n:Nat):List (Nat×Nat×Int):=(List.range n).flatMap fun i=>kB l i 2
theorem lV (l:List ae) (n:Nat):kR l (n+1)=kR l n++kB l n 2:=by simp[kR,List.range_succ]
theorem mE (l:List ae) (i m:Nat):kB l i (m+1)=kB l i m++BT l i (1-(m:Int)):=by simp[kB,List.range_succ]
theorem Pc (l:List ae) {k m:Nat} (hk:k<l.length) (hm:m<=2):kR l k++kB l k m <+:kR l l.length:=by
 have h1:∀d,kR l k <+:kR l (k+d):=fun d=>by
  induction d with
  |zero=>exact List.prefix_refl _
  |succ d ih=>rw[<-Nat.add_assoc,lV l (k+d)];exact ih.trans (List.prefix_append _ _)
 have h2:∀d,kR l (k+1) <+:kR l (k+1+d):=fun d=>by
  induction d with
  |zero=>exact List.prefix_refl _
  |succ d ih=>rw[<-Nat.add_assoc,lV l (k+1+d)];exact ih.trans (List.prefix_append _ _)
 have h3:=h2 (l.length-(k+1))
 rw[show k+1+(l.length-(k+1))=l.length by omega,lV]at h3
 refine List.IsPrefix.trans ?_ h3
 have h4:kB l k m <+:kB l k 2:=by
  have:m=0∨m=1∨m=2:=ai
  rcases this with rfl|rfl|rfl
  ·exact List.nil_prefix
  ·rw[mE l k 1];exact List.prefix_append _ _
  ·exact List.prefix_refl _
 exact(List.prefix_append_right_inj _).2 h4
def Qz (l:List ae) (x:Nat×Nat×Int):Prop:=x.1<l.length/\x.2.1<l.length/\(0<=x.2.2/\x.2.2<=1)
def EW (x:Nat×Nat×Int):Array Value:= #[.agg #[.int .i64 (x.1:Int),.int .i64 (x.2.1:Int)],.int .i64 x.2.2]
theorem LF (l:List ae) (p:aO) (h:0<l.length:=by omega):eO l p<(l.length:Int):=by
 unfold eO
 split<;>omega
theorem RY (l:List ae) (hA:kg l) (q Ba:Nat) (vS:Value) (K:World->World->Prop) (kl:HI K vS l) (J Jx:List (Nat×Nat×Int)->World->Prop) (n:Nat) (hn:1<=n)
  (hY:∀pre x W,J pre W->pre.length<(kR l l.length).length->Qz l x->YieldAt Fence.wide (n-1) Tryz.prog q (EW x) W fun e W'=>
   (e=.returned (.bool true)/\J (pre++[x]) W'/\K W W')∨(e=.returned (.bool false)/\Jx (pre++[x]) W'))
  (W:World) (hJ:AbidesFrom W.heap.size J) (Oi:W.heap[Ba]? =some (.cells #[vS] 42 (0,0))) (hP:o9 W vS l) (h0:J [] W):
  CallsIn Fence.wide n Tryz.prog 302 #[.func (.yield q) #[] #[],.pointer (some ⟨Ba,0,none⟩)] W fun e W'=>(∃v,e=.returned v)/\
   ((∃ys,ys=kR l l.length/\J ys W')∨(∃pre,pre <+:kR l l.length/\Jx pre W')):=by
 obtain⟨A,cp,rfl,_,_⟩:=hP.sl
 refine callsIn_of_wp Tryz.func302 rfl trivial ?_ rfl
 simp only[Tryz.ntmps302,List.size_toArray,List.length_cons,List.length_nil,Nat.reduceAdd,Nat.reduceSub,Array.replicate_succ,Array.replicate_zero,List.push_toArray,List.append_toArray,List.nil_append,List.cons_append]
 have jt:W.cell? ⟨Ba,0,none⟩=some (.slice A l.length cp):=by simp[World.cell?,Oi]
 gi_wp2
 gi_loopw [11] (fun i wr=>∃k:Nat,k<=l.length/\i=.int .i64 k/\J (kR l k) wr/\K W wr)
  (fun i _=>l.length-(intOf i).toNat)
 case atStart=>exact⟨0,Nat.zero_le _,rfl,h0,kl.refl _⟩
 case round=>
  obtain⟨k,hk,rfl,hJs,hKt⟩:=hrel
  by_cases eh:k<l.length
  ·have dS:∃b o,A=some ⟨b,o,none⟩/\wr.cell? ⟨b,o+k*3,none⟩=some (.int .i64 (bG l k).bE.fb)/\wr.cell? ⟨b,o+k*3+1,none⟩=some (.int .i64 (bG l k).bE.eT)/\wr.cell? ⟨b,o+k*3+2,none⟩=some (.int .i64 (bG l k).bR):=by
    obtain⟨A',c',hv,_,hc⟩:=(kl.pl hKt hP).sl
    cases hv
    rcases hc with rfl|⟨b,o,rfl,j4⟩
    ·simp at eh
    ·obtain⟨h1,h2,h3⟩:=j4 k eh
     exact⟨b,o,rfl,by simpa using h1,by rw[Nat.add_assoc];exact h2,by rw[Nat.add_assoc];exact h3⟩
   obtain⟨b,o,rfl,hx,hy',ht⟩:=dS
   gi_wp2
   obtain⟨W2,Q3⟩:∃W2,(wr.alloc (.cells #[.int .i64 (bG l k).bE.fb,.int .i64 (bG l k).bE.eT,.int .i64 (bG l k).bR] 171)).alloc (.cells #[.int .i64 1,.int .i64 0] 2)=W2:=⟨_,rfl⟩
   have pa:Below wr.heap.size wr W2:=by rw[<-Q3];exact((Below.refl _ wr).alloc (Nat.le_refl _) _).alloc (by simp) _
   have Ug:W2.heap[wr.heap.size]? =some (.cells #[.int .i64 (bG l k).bE.fb,.int .i64 (bG l k).bE.eT,.int .i64 (bG l k).bR] 171 (0,0)):=by
    rw[<-Q3,Below.heap_alloc _ _ _ (by simp)];exact World.alloc_heap_new _ _
   have Uf:W2.heap[wr.heap.size+1]? =some (.cells #[.int .i64 1,.int .i64 0] 2 (0,0)):=by
    have:=World.alloc_heap_new (wr.alloc (.cells #[.int .i64 (bG l k).bE.fb,.int .i64 (bG l k).bE.eT,.int .i64 (bG l k).bR] 171)) (.cells #[.int .i64 1,.int .i64 0] 2)
    rw[World.size_alloc]at this
    rw[<-Q3];exact this
   have Ou:K W W2:=kl.trans hKt (kl.of pa)
   have hJ2:J (kR l k++kB l k 0) W2:=by
    have:=hJ _ _ _ none hJs (grown_of pa) (fun r h=>by cases h)
    simpa[kB]using this
   rw[Q3]
   clear Q3
   generalize wr=w1 at *
   gi_loopw [18] (fun j wr=>∃m:Nat,m<=2/\j=.int .i64 m/\J (kR l k++kB l k m) wr/\K W2 wr)
    (fun j _=>2-(intOf j).toNat)
   case atStart=>exact⟨0,ai,rfl,hJ2,kl.refl _⟩
   case round=>
    obtain⟨m,hm,rfl,hJm,MN⟩:=hrel
    have hm0:m=0∨m=1∨m=2:=ai
    by_cases r7:m<2
    ·have hkd:=kl.typed MN _ _ _ _ Uf (by decide) (by decide)
     have Ln:=kl.typed MN _ _ _ _ Ug (by decide) (by decide)
     have hka:=kl.typed (kl.trans Ou MN) _ _ _ _ Oi (by decide) (by decide)
     have cd:wr.cell? ⟨w1.heap.size+1,m,none⟩=some (.int .i64 (1-(m:Int))):=by
      rw[World.cell?_of_block hkd]
      rcases hm0 with rfl|rfl|rfl
      ·simp[World.cell?,Uf]
      ·simp[World.cell?,Uf]
      ·omega
     have ct0:wr.cell? ⟨w1.heap.size,0,none⟩=some (.int .i64 (bG l k).bE.fb):=by rw[World.cell?_of_block Ln];simp[World.cell?,Ug]
     have ct1:wr.cell? ⟨w1.heap.size,1,none⟩=some (.int .i64 (bG l k).bE.eT):=by rw[World.cell?_of_block Ln];simp[World.cell?,Ug]
     have ca:wr.cell? ⟨Ba,0,none⟩=some (.slice (some ⟨b,o,none⟩) l.length cp):=by rw[World.cell?_of_block hka];simp[World.cell?,Oi]
     have hPw:o9 wr (.slice (some ⟨b,o,none⟩) l.length cp) l:=kl.pl (kl.trans Ou MN) hP
     have hba:Ba<wr.heap.size:=by
      have h1:=(Array.getElem?_eq_some_iff.1 Oi).1
      have h2:=kl.size (kl.trans Ou MN)
      omega
     have hdm:gM (1-(m:Int)) 0 3=true:=uW ai
     have hpb:=JF (hA.pt eh)
     have Qn:=fun w0=>Er w0 (bG l k).bE (1-(m:Int)) hdm hpb.1 hpb.2
     have hPd:o9 wr.drew (.slice (some ⟨b,o,none⟩) l.length cp) l:=hPw.below ⟨rfl,rfl,rfl,Nat.le_refl _,fun _ _=>rfl⟩
     have cad:wr.drew.cell? ⟨Ba,0,none⟩=some (.slice (some ⟨b,o,none⟩) l.length cp):=ca
     have ctd0:wr.drew.cell? ⟨w1.heap.size,0,none⟩=some (.int .i64 (bG l k).bE.fb):=ct0
     have ctd1:wr.drew.cell? ⟨w1.heap.size,1,none⟩=some (.int .i64 (bG l k).bE.eT):=ct1
     have hfw:=hA.Hu
     have Rq:=hA.Nk
     have UL:=mixed
     gi_wp2
     gi_region_with_o (first|(refine⟨trivial,?_⟩;gi_at_call 228;refine(callsIn_wide.2 (Qn _)).mono ?_;rintro e w3 ⟨rfl,Bg⟩;have ca3:=(Bg.cell (p:=⟨Ba,0,none⟩) hba).trans cad)|(refine⟨trivial,?_⟩;gi_at_call 303;refine(callsIn_wide.2 (xo _ l _ (hPd.below Bg) (eK (bG l k).bE (1-(m:Int))) Rq ai)).mono ?_;rintro e w4 ⟨rfl,hB4⟩))
     all_goals
      have Oh:Below wr.heap.size wr w4:=(show Below wr.heap.size wr wr.drew from⟨rfl,rfl,rfl,Nat.le_refl _,fun _ _=>rfl⟩).trans (Bg.trans (hB4.mono Bg.size))
      have hJ4:J (kR l k++kB l k m) w4:=hJ _ _ _ none hJm (grown_of Oh) (fun r h=>by cases h)
      have xf:=Pc l eh (m:=m+1) ai
      rw[mE,<-List.append_assoc]at xf
      have xd:=mE l k m
      have hw:wrap64 ((m:Int)+1)=((m+1:Nat):Int):=by unfold wrap64;omega
      by_cases ze:0<=eO l (eK (bG l k).bE (1-(m:Int)))
      ·have fP:((eO l (eK (bG l k).bE (1-(m:Int)))).toNat:Int)=eO l (eK (bG l k).bE (1-(m:Int))):=ai
       rw[BT,if_pos ze]at xf xd
       obtain⟨fn,tmps,assign,body,hy,hR⟩:=hY _ (k,(eO l (eK (bG l k).bE (1-(m:Int)))).toNat,1-(m:Int)) w4 hJ4 (by
        have:=xf.length_le
        simp only[List.length_append,List.length_cons,List.length_nil]at this ⊢
        omega) ⟨eh,by
        have:eO l (eK (bG l k).bE (1-(m:Int)))<(l.length:Int):=LF _ _
        show(eO l (eK (bG l k).bE (1-(m:Int)))).toNat<l.length
        omega,by show 0<=1-(m:Int);omega,by show 1-(m:Int)<=1;omega⟩
       simp only[EW,fP]at hy
       gi_wp2
       refine hR.mono ?_
       rintro e W3 (⟨rfl,hJ3,hk3⟩|⟨rfl,hJx3⟩)
       ·gi_wp2
        go_roundw
        case rel=>exact⟨m+1,ai,by simp,by rw[xd,<-List.append_assoc];exact hJ3,kl.trans (kl.trans MN (kl.of Oh)) hk3⟩
        case measure=>simp[intOf];omega
       ·gi_wp2
        refine bodyPost_ret (results_none rfl _ _ _) rfl ?_
        exact⟨⟨_,rfl⟩,.inr ⟨_,xf,hJx3⟩⟩
      ·rw[BT,if_neg ze,List.append_nil]at xd
       gi_wp2
       refine⟨fun _ h=>(by cases h),?_⟩
       gi_wp2
       go_roundw
       case rel=>exact⟨m+1,ai,by simp,by rw[xd];exact hJ4,kl.trans MN (kl.of Oh)⟩
       case measure=>simp[intOf];omega
    ·obtain rfl:m=2:=ai
     have hfw:=hA.Hu
     gi_wp2
     go_roundw
     case rel=>exact⟨k+1,ai,by simp,by rw[lV];exact hJm,kl.trans Ou MN⟩
     case measure=>simp[intOf];omega
  ·obtain rfl:k=l.length:=ai
   gi_wp2
   go_end0
   exact⟨⟨_,rfl⟩,.inl ⟨_,rfl,hJs⟩⟩
theorem zy (n:Nat) (vS:Value) (w:World):CallsIn Fence.wide n Tryz.prog 260 #[.agg #[vS]] w fun e w'=>e=.returned (.func (.func 302) #[] #[.pointer (some ⟨w.heap.size,0,none⟩)])/\w'=w.alloc (.cells #[vS] 42):=by
 refine callsIn_of_wp Tryz.func260 rfl trivial ?_ rfl
 simp only[Tryz.ntmps260,List.size_toArray,List.length_cons,List.length_nil,Nat.reduceAdd,Nat.reduceSub,Array.replicate_succ,Array.replicate_zero,List.push_toArray,List.append_toArray,List.nil_append,List.cons_append]
 gi_wp2
 go_ret
 exact⟨rfl,rfl⟩
abbrev Ny (l:List ae):Type:={x:Nat×Nat×Int // Qz l x}
theorem Jq (l:List ae) (hA:kg l) (Ba n:Nat) (hn:1<=n) (vS:Value) (K:World->World->Prop) (kl:HI K vS l) (w:World) (Oi:w.heap[Ba]? =some (.cells #[vS] 42 (0,0))) (hP:o9 w vS l):
  SeqStopsK Fence.wide n Tryz.prog 302 #[.pointer (some ⟨Ba,0,none⟩)] (fun x:Ny l=>EW x.1) K (fun ys=>ys.map (·.1)=kR l l.length) (fun _=>True) (kR l l.length).length w:=fun q J Jx W hW hJ _ hY h0=>by
 refine(RY l hA q Ba vS K kl (fun ys W=>∃zs:List (Ny l),zs.map (·.1)=ys/\J zs W) (fun ys W=>∃zs:List (Ny l),zs.map (·.1)=ys/\Jx zs W) n hn (fun pre x W1 hJ1 eh uS=>?_) W (fun s A B row ⟨zs,e,h⟩ hg hr=>⟨zs,e,hJ zs A B row h hg hr⟩) ((hW.block Ba (Array.getElem?_eq_some_iff.1 Oi).1).trans Oi) (hP.below hW) ⟨[],rfl,h0⟩).mono ?_
 ·obtain⟨zs,rfl,h1⟩:=hJ1
  refine YieldAt.mono (hY zs ⟨x,uS⟩ W1 h1 (by simpa using eh)) ?_
  rintro e W' (⟨h2,h3,h4⟩|⟨h2,h3⟩)
  ·exact .inl ⟨h2,⟨zs++[⟨x,uS⟩],by simp,h3⟩,h4⟩
  ·exact .inr ⟨h2,⟨zs++[⟨x,uS⟩],by simp,h3⟩⟩
 ·rintro e W' ⟨h1,⟨ys,rfl,zs,h2,h3⟩|⟨pre,_,zs,h2,h3⟩⟩
  ·exact⟨h1,.inl ⟨zs,h2,h3⟩⟩
  ·exact⟨h1,.inr ⟨zs,trivial,h3⟩⟩
def yR (s:ax) (l:List ae) (x:Nat×Nat×Int):List PB:=if 0<iM s (bG l x.1).bR x.2.2 (bG l x.2.1).bR then[⟨x.1,x.2.1,iM s (bG l x.1).bR x.2.2 (bG l x.2.1).bR⟩]else[]
theorem H6 (s:ax) (l:List ae):dh s l=(kR l l.length).flatMap (yR s l):=by
 have h1:∀i d,mz s l i d=(BT l i d).flatMap (yR s l):=fun i d=>by
  unfold mz BT
  by_cases h:0<=eO l (eK (bG l i).bE d)
  ·rw[if_pos h]
   simp only[List.flatMap_cons,List.flatMap_nil,List.append_nil,yR]
   by_cases h2:0<iM s (bG l i).bR d (bG l (eO l (eK (bG l i).bE d)).toNat).bR
   ·rw[if_pos ⟨h,h2⟩,if_pos h2]
   ·rw[if_neg fun hc=>h2 hc.2,if_neg h2]
  ·rw[if_neg h,if_neg fun hc=>h hc.1];rfl
 unfold dh gK kR
 rw[List.flatMap_assoc]
 congr 1
 funext i
 unfold ga kB
 rw[List.flatMap_assoc]
 congr 1
 funext j
 exact h1 i _
end Go.Proofs.YtgoljkjaameagaaGreat.V

namespace Go.Proofs.YtgoljkjaameagaaGreat.V
open Go.RowKit
attribute [local irreducible] dQ wpOps ft Call
attribute [local go_sem] aA eV ef e9 e8 cZ upd bQ K.av cr AV.cells AV.cell rowOf rowsOf part ld rowAt bD bL dm dD fE bu cK dO fa eF db dH cI cH dw dx bz aQ cz bx cD cC dF dI dG cw bC cJ dE bw az cF bZ fD bj cq bB aJ cX aX dn AV.undef bp br dy dC du dz cm dM dP bU dK dJ cE cG List.getD_cons_zero List.getD_cons_succ List.getD_nil List.all_cons List.all_nil Bool.and_true Bool.true_and Bool.and_self Bool.not_true Bool.not_false Option.map_some Option.map_none Option.bind_some Option.bind_none List.length_cons List.length_nil List.take_succ_cons List.take_zero List.take_nil List.drop_succ_cons List.drop_zero List.drop_nil List.head?_cons List.map_cons List.map_nil List.getElem?_cons_zero List.getElem?_cons_succ List.cons_append List.nil_append List.append_nil List.length_map List.set_cons_zero List.set_cons_succ Nat.reduceMul eq_self Int.toNat_natCast Int.natCast_nonneg and_self true_and and_true decide_true decide_false Bool.false_eq_true Nat.zero_add Nat.add_zero List.contains_cons List.contains_nil Bool.or_false Bool.false_or beq_self_eq_true Nat.reduceBEq ne_eq not_true_eq_false not_false_eq_true Id.mk.injEq false_and and_false Nat.reduceLT Int.reduceLE Int.reduceLT Int.reduceToNat Int.reduceNeg Int.reduceAdd Nat.le_refl List.length_append beq_true beq_false Bool.not_eq_eq_eq_not or_false false_or dR ab aj ay bo bJ aD aV aH aU cu bq
def zM (bs:List PB):AV:=if bs=[]then .bS else .sl (bs.map aB)
theorem Mq:zM []=.bS:=rfl
theorem zN {bs:List PB} (h:0<bs.length):zM bs=.sl (bs.map aB):=by
 unfold zM
 rw[if_neg (by rintro rfl;simp at h)]
theorem wZ (cnt:Nat) (zg:1<=cnt) (hn:cnt<=1048576) (bs:List PB) (hb:∀b∈bs,b.a<cnt/\b.b<cnt) (hp:0<bs.length) (pq:bs.length<=1048576) (t:Int):aq Tryz.prog 287 [.int .i64 cnt,.sl (bs.map aB),.int .i64 t] (.gn [.int .i64 (leads cnt (eE (bc t bs))).length,zM (dU (eE (bc t bs)) bs)]):=by
 refine aq.body eG rfl fun hl n0=>?_
 clear hl
 (try((repeat(revert hN;revert N;apply Pn.out));refine wk @Nat.zero_add ?_;(repeat(refine Pn.mk ?_;intro N hN))))
 refine .inr (aY _ _ _ _ _ (fun r σ1 hq=>?_) (Ia bs hp pq _))
 obtain⟨o,rfl,ho,Ls,Lt,Rj⟩:=hq
 (try dsimp only at ho Ls Lt Rj)
 refine hN _ _ ?_
 clear hN N
 (try((repeat(revert hN;revert N;apply Pn.out));refine wk @Nat.zero_add ?_;(repeat(refine Pn.mk ?_;intro N hN))))
 refine .inr (aY _ _ _ _ _ (fun r σ2 hq=>?_) (F2 bs t pq o ⟨287000000,n0⟩ _ ho (by rw[Rj _ bK];simp only[go_sem, ↓reduceIte,Nat.reduceEqDiff,Nat.reduceAdd,Nat.reduceSub,Nat.reduceLeDiff,reduceCtorEq]) bK bK (by rintro rfl;simp only at Ls;omega)))
 obtain⟨rows,rfl,gh,hrt,rI,mC,IG⟩:=hq
 (try dsimp only at mC IG)
 refine hN _ _ ?_
 clear hN N
 have Hw:=uM cnt zg hn (bc t bs) (fun b h=>hb b (v7 h)) (by have:=mK t bs;omega)
 have hL:=s7 (bc t bs)
 have hz:∀x,de (dR σ2.get) 6 [.int .i64 x,.own o 0 (bc t bs).length]=some [.int .i64 x,.sl ((bc t bs).map aB)]:=fun x=>by
  have:V.fz (dR σ2.get) 6 (.own o 0 (bc t bs).length)=some (.sl ((bc t bs).map aB)):=by
   rw[gV];simp only[dR,gh,Option.map_some,if_true]
   rw[if_pos ai,List.drop_zero,hrt,mA fun b=>y4 _ 4 b];rfl
  simp only[ab,aj,ay,this,Option.map_some]
 (try((repeat(revert hN;revert N;apply Pn.out));refine wk @Nat.zero_add ?_;(repeat(refine Pn.mk ?_;intro N hN))))
 refine .inl ⟨_,aq.x Hw (hz _),?_⟩
 refine hN _ _ ?_
 clear hN N
 generalize eE (bc t bs)=L at *
 have r5:((fG cnt L).map Ad).length=(leads cnt L).length:=by simp[fG]
 have S6:=jz cnt L
 have jt:(0:Int)<=(cnt:Int):=ai
 have pr:(cnt:Int)<=((16777216:Nat):Int):=ai
 have gH:List.replicate cnt [AV.int .i64 0]=dZ (dj cnt L 0 0) cnt:=by rw[wj,oh]
 (try((repeat(revert hN;revert N;apply Pn.out));refine wk (tw @jt (tw @pr (tw @Int.le_refl (tw @r5 @gH)))) ?_;(repeat(refine Pn.mk ?_;intro N hN))))
 refine bF (fun n env st=>∃i:Nat,n=((leads cnt L).length)-i/\i<=((leads cnt L).length)/\env 27=.int .i64 (i:Int)/\st.get ⟨287002001,σ2.next+1⟩=some ⟨true,1,dZ (dj cnt L i 0) cnt⟩/\(σ2.next+1<st.next)) ((leads cnt L).length) ⟨0,ai,ai,sl (tw @gH @r5),sl (tw @gH @r5),bK⟩ ?_
 rintro n_c env_c st_c ⟨i,rfl,cle,c27,cg0,cI0⟩ cfr
 have c1:=cfr 1 (by kernel_rfl);have c8:=cfr 8 (by kernel_rfl);have c9:=cfr 9 (by kernel_rfl);have wU:=cfr 25 (by kernel_rfl);have wV:=cfr 26 (by kernel_rfl)
 simp only[go_sem, ↓reduceIte,Nat.reduceEqDiff,Nat.reduceAdd,Nat.reduceSub,Nat.reduceLeDiff,reduceCtorEq,gH,r5]at c1 c8 c9 wU wV
 clear cfr
 by_cases hi:(i:Int)<((leads cnt L).length:Int)
 ·have gW:∀{e:Env} {gg:Rows} {nx:Nat},(e 27=.int .i64 (IntKind.i64.wrap ((i:Int)+1)))->(gg ⟨287002001,σ2.next+1⟩=some ⟨true,1,dZ (dj cnt L (i+1) 0) cnt⟩)->(σ2.next+1<nx)->∃m0,m0<((leads cnt L).length)-i/\∃i:Nat,m0=((leads cnt L).length)-i/\i<=((leads cnt L).length)/\e 27=.int .i64 (i:Int)/\gg ⟨287002001,σ2.next+1⟩=some ⟨true,1,dZ (dj cnt L i 0) cnt⟩/\(σ2.next+1<nx):=fun x1 x2 x3=>⟨_,ai,i+1,rfl,ai,(by rw[x1,aI ai]),x2,x3⟩
  have fP:i<(leads cnt L).length:=ai
  have kO:((fG cnt L).map Ad)[i]? =some (Ad (members cnt L (leads cnt L)[i])):=by simp[fG,fP]
  have tT:(leads cnt L).getD i 0=(leads cnt L)[i]:=by simp[List.getD_eq_getElem?_getD,fP]
  have kM:∀m,dj cnt L i m=fun x=>if cN L x<i then cN L x else if x∈(members cnt L (leads cnt L)[i]).take m then i else 0:=fun m=>by unfold dj;rw[tT]
  have qH:=fun x (hx:x<cnt)=>si hL (n:=cnt) (k:=x) (i:=i) hx fP
  have lu:(members cnt L (leads cnt L)[i]).Nodup:=List.nodup_range.filter _
  have OH:∀x∈members cnt L (leads cnt L)[i],x<cnt:=fun x hx=>(lh.1 hx).1
  have hMc:(members cnt L (leads cnt L)[i]).length<=cnt:=by
   have:=List.length_filter_le (fun k=>L k==(leads cnt L)[i]) (List.range cnt)
   simpa[members]using this
  generalize members cnt L (leads cnt L)[i]=M at *
  have Cx:(M.map eN).length=M.length:=by simp
  (try((repeat(revert hN;revert N;apply Pn.out));refine wk (tw @c27 (tw @cg0 (tw @c1 (tw @c8 (tw @c9 (tw @wU (tw @wV (tw @hi (tw @r5 (tw @kO (tw @Ad.eq_1 @Cx))))))))))) ?_;(repeat(refine Pn.mk ?_;intro N hN))))
  refine bF (fun n env st=>∃m:Nat,n=(M.length)-m/\m<=(M.length)/\env 34=.int .i64 (m:Int)/\st.get ⟨287002001,σ2.next+1⟩=some ⟨true,1,dZ (dj cnt L i m) cnt⟩/\(σ2.next+1<st.next)) (M.length) ⟨0,ai,ai,sl (tw @c27 (tw @cg0 (tw @c1 (tw @c8 (tw @c9 (tw @wU (tw @wV @Cx))))))),sl (tw @c27 (tw @cg0 (tw @c1 (tw @c8 (tw @c9 (tw @wU (tw @wV @Cx))))))),bK⟩ ?_
  rintro n_d env_d st_d ⟨m,rfl,dle,d34,dg0,dI0⟩ dfr
  have d1:=dfr 1 (by kernel_rfl);have d8:=dfr 8 (by kernel_rfl);have d9:=dfr 9 (by kernel_rfl);have d10:=dfr 10 (by kernel_rfl);have d25:=dfr 25 (by kernel_rfl);have d26:=dfr 26 (by kernel_rfl);have d27:=dfr 27 (by kernel_rfl);have d32:=dfr 32 (by kernel_rfl);have d33:=dfr 33 (by kernel_rfl)
  simp only[go_sem, ↓reduceIte,Nat.reduceEqDiff,Nat.reduceAdd,Nat.reduceSub,Nat.reduceLeDiff,reduceCtorEq,c27,cg0,c1,c8,c9,wU,wV,Cx]at d1 d8 d9 d10 d25 d26 d27 d32 d33
  clear dfr
  have tl:=gm (dj cnt L i m) cnt
  by_cases hm:(m:Int)<(M.length:Int)
  ·have s9:∀{e:Env} {gg:Rows} {nx:Nat},(e 34=.int .i64 (IntKind.i64.wrap ((m:Int)+1)))->(gg ⟨287002001,σ2.next+1⟩=some ⟨true,1,dZ (dj cnt L i (m+1)) cnt⟩)->(σ2.next+1<nx)->∃m0,m0<(M.length)-m/\∃m:Nat,m0=(M.length)-m/\m<=(M.length)/\e 34=.int .i64 (m:Int)/\gg ⟨287002001,σ2.next+1⟩=some ⟨true,1,dZ (dj cnt L i m) cnt⟩/\(σ2.next+1<nx):=fun x1 x2 x3=>⟨_,ai,m+1,rfl,ai,(by rw[x1,aI ai]),x2,x3⟩
   have zf:m<M.length:=ai
   have uP:(M.map eN)[m]? =some (eN M[m]):=by simp[zf]
   have uU:=OH _ (List.getElem_mem zf)
   have CG:(M[m]:Int)<(cnt:Int):=ai
   have CF:=fA (f:=dj cnt L i m) uU
   have eI:(dZ (dj cnt L i m) cnt).set M[m] (eN i)=dZ (dj cnt L i (m+1)) cnt:=oZ uU (by
    have h1:=(qH _ uU).1 (List.getElem_mem zf)
    rw[kM]
    simp only[]
    rw[if_neg ai,if_pos (by rw[List.take_succ_eq_append_getElem zf];exact List.mem_append_right _ (List.mem_singleton.2 rfl))]) fun x hx gP=>by
    rw[kM,kM]
    simp only[]
    rw[List.take_succ_eq_append_getElem zf]
    simp only[List.mem_append,List.mem_singleton,gP,or_false]
   rw[eN]at eI CF
   generalize M[m]=xm at *
   (try((repeat(revert hN;revert N;apply Pn.out));refine wk (tw @d34 (tw @dg0 (tw @d1 (tw @d8 (tw @d9 (tw @d10 (tw @d25 (tw @d26 (tw @d27 (tw @d32 (tw @d33 (tw @hm (tw @hi (tw @uP (tw @Cx (tw @CG (tw @CF (tw @tl (tw @eI @eN.eq_1))))))))))))))))))) ?_;(repeat(refine Pn.mk ?_;intro N hN))))
   refine s9 ?_ ?_ bK
   all_goals simp only[go_sem, ↓reduceIte,Nat.reduceEqDiff,Nat.reduceAdd,Nat.reduceSub,Nat.reduceLeDiff,reduceCtorEq,d34,dg0,d1,d8,d9,d10,d25,d26,d27,d32,d33,eI]
  ·have kP:m=M.length:=ai
   subst kP
   have xd:dZ (dj cnt L i M.length) cnt=dZ (dj cnt L (i+1) 0) cnt:=gS fun x hx=>by
    rw[kM,List.take_length]
    simp only[dj,List.take_zero,List.not_mem_nil,if_false]
    have h1:=qH x hx
    by_cases h2:cN L x<i
    ·rw[if_pos h2,if_pos ai]
    ·rw[if_neg h2]
     by_cases h3:x∈M
     ·rw[if_pos h3,if_pos (by have:=h1.1 h3;omega),h1.1 h3]
     ·rw[if_neg h3,if_neg fun h4=>h3 (h1.2 ai)]
   (try((repeat(revert hN;revert N;apply Pn.out));refine wk (tw @d34 (tw @dg0 (tw @d1 (tw @d8 (tw @d9 (tw @d10 (tw @d25 (tw @d26 (tw @d27 (tw @d32 (tw @d33 (tw @hm (tw @hi (tw @r5 @Cx)))))))))))))) ?_;(repeat(refine Pn.mk ?_;intro N hN))))
   refine gW ?_ ?_ bK
   all_goals simp only[go_sem, ↓reduceIte,Nat.reduceEqDiff,Nat.reduceAdd,Nat.reduceSub,Nat.reduceLeDiff,reduceCtorEq,c27,cg0,c1,c8,c9,wU,wV,d34,dg0,d1,d8,d9,d10,d25,d26,d27,d32,d33,xd]
 have mi:i=(leads cnt L).length:=ai
 subst mi
 have tU:dZ (dj cnt L (leads cnt L).length 0) cnt=dZ (cN L) cnt:=gS fun x hx=>by rw[dj,if_pos (jR hL hx)]
 rw[tU]at cg0
 have tl:=gm (cN L) cnt
 have SP:(bs.map aB).length=bs.length:=by simp
 (try((repeat(revert hN;revert N;apply Pn.out));refine wk (tw @c27 (tw @cg0 (tw @c1 (tw @c8 (tw @c9 (tw @wU (tw @wV (tw @hi (tw @r5 @SP))))))))) ?_;(repeat(refine Pn.mk ?_;intro N hN))))
 have SS:σ2.next+1<st_c.next:=cI0
 refine bF (fun n env st=>∃j:Nat,n=(bs.length)-j/\j<=(bs.length)/\env 46=.int .i64 (j:Int)/\st.get ⟨287002001,σ2.next+1⟩=some ⟨true,1,dZ (cN L) cnt⟩/\(st_c.next<=st.next/\((dU L (bs.take j)=[]/\env 14=.bS)∨∃p:Id,env 14=.own p 0 (dU L (bs.take j)).length/\st.get p=some ⟨true,3,(dU L (bs.take j)).map aB⟩/\st_c.next<=p.cV/\p.cV<st.next/\0<(dU L (bs.take j)).length))) (bs.length) ⟨0,ai,ai,sl (tw @c27 (tw @cg0 (tw @c1 (tw @c8 (tw @c9 (tw @wU (tw @wV @SP))))))),sl (tw @c27 (tw @cg0 (tw @c1 (tw @c8 (tw @c9 (tw @wU (tw @wV @SP))))))),⟨bK,.inl ⟨rfl,by(simp only[go_sem, ↓reduceIte,Nat.reduceEqDiff,Nat.reduceAdd,Nat.reduceSub,Nat.reduceLeDiff,reduceCtorEq])⟩⟩⟩ ?_
 rintro n_f env_f st_f ⟨j,rfl,fle,f46,fg0,fI0⟩ ffr
 have f1:=ffr 1 (by kernel_rfl);have f8:=ffr 8 (by kernel_rfl);have f9:=ffr 9 (by kernel_rfl);have f44:=ffr 44 (by kernel_rfl);have f45:=ffr 45 (by kernel_rfl)
 simp only[go_sem, ↓reduceIte,Nat.reduceEqDiff,Nat.reduceAdd,Nat.reduceSub,Nat.reduceLeDiff,reduceCtorEq,c27,cg0,c1,c8,c9,wU,wV,SP]at f1 f8 f9 f44 f45
 clear ffr
 obtain⟨Qc,fO⟩:=fI0
 have I4:=eL (i:=⟨287002001,σ2.next+1⟩) (n:=st_f.next) bK
 have Dx:=(mJ L (bs.take j)).1
 rw[List.length_take]at Dx
 by_cases hj:(j:Int)<(bs.length:Int)
 ·have qT:∀{e:Env} {gg:Rows} {nx:Nat},(e 46=.int .i64 (IntKind.i64.wrap ((j:Int)+1)))->(gg ⟨287002001,σ2.next+1⟩=some ⟨true,1,dZ (cN L) cnt⟩)->(st_c.next<=nx/\((dU L (bs.take (j+1))=[]/\e 14=.bS)∨∃p:Id,e 14=.own p 0 (dU L (bs.take (j+1))).length/\gg p=some ⟨true,3,(dU L (bs.take (j+1))).map aB⟩/\st_c.next<=p.cV/\p.cV<nx/\0<(dU L (bs.take (j+1))).length))->∃m0,m0<(bs.length)-j/\∃j:Nat,m0=(bs.length)-j/\j<=(bs.length)/\e 46=.int .i64 (j:Int)/\gg ⟨287002001,σ2.next+1⟩=some ⟨true,1,dZ (cN L) cnt⟩/\(st_c.next<=nx/\((dU L (bs.take j)=[]/\e 14=.bS)∨∃p:Id,e 14=.own p 0 (dU L (bs.take j)).length/\gg p=some ⟨true,3,(dU L (bs.take j)).map aB⟩/\st_c.next<=p.cV/\p.cV<nx/\0<(dU L (bs.take j)).length)):=fun x1 x2 x3=>⟨_,ai,j+1,rfl,ai,(by rw[x1,aI ai]),x2,x3⟩
  have hZ:j<bs.length:=ai
  have qi:(bs.map aB)[j]? =some (aB bs[j]):=by simp[hZ]
  have MS:=hb _ (List.getElem_mem hZ)
  have hs:=zI L (bs.take j) bs[j]
  rw[<-List.take_succ_eq_append_getElem hZ]at hs
  generalize bs[j]=b at *
  have hA:=fA (f:=cN L) MS.1
  have hB:=fA (f:=cN L) MS.2
  have gG:(b.a:Int)<(cnt:Int):=ai
  have fW:(b.b:Int)<(cnt:Int):=ai
  rw[eN]at hA hB
  have e1:(dU L (bs.take j)).length+1<=16777216:=ai
  have kP:((dU L (bs.take j)).map aB).length=(dU L (bs.take j)).length:=by simp
  by_cases he:cN L b.a=cN L b.b
  ·rw[if_pos he,List.append_nil]at hs
   have tR:decide ((cN L b.a:Int)=(cN L b.b:Int))=true:=decide_eq_true (by rw[he])
   (try((repeat(revert hN;revert N;apply Pn.out));refine wk (tw @f46 (tw @fg0 (tw @f1 (tw @f8 (tw @f9 (tw @f44 (tw @f45 (tw @hj (tw @qi (tw @hA (tw @hB (tw @gG (tw @fW (tw @tl (tw @tR (tw @I4 (tw @aB.eq_1 (tw @Bool.not_true @Bool.not_false)))))))))))))))))) ?_;(repeat(refine Pn.mk ?_;intro N hN))))
   refine qT ?_ ?_ (by(try dsimp only);exact⟨ai,by
    rw[hs]
    rcases fO with⟨h1,h2⟩|⟨p,h1,h2,h3,h4,h5⟩
    ·exact .inl ⟨h1,sd @h2⟩
    ·have Aj:=eL h4
     exact .inr ⟨p,sd @h1,sd (tw @h2 @Aj),h3,ai,h5⟩⟩)
   all_goals simp only[go_sem, ↓reduceIte,Nat.reduceEqDiff,Nat.reduceAdd,Nat.reduceSub,Nat.reduceLeDiff,reduceCtorEq,f46,fg0,f1,f8,f9,f44,f45,I4]
  ·rw[if_neg he]at hs
   have tR:decide ((cN L b.a:Int)=(cN L b.b:Int))=false:=decide_eq_false fun h=>he ai
   rcases fO with⟨h1,f14⟩|⟨p,f14,fg,OK,IQ,hp3⟩
   ·rw[h1]at hs
    (try((repeat(revert hN;revert N;apply Pn.out));refine wk (tw @f46 (tw @fg0 (tw @f1 (tw @f8 (tw @f9 (tw @f44 (tw @f45 (tw @f14 (tw @hj (tw @qi (tw @hA (tw @hB (tw @gG (tw @fW (tw @tl (tw @tR (tw @I4 (tw @aB.eq_1 (tw @Bool.not_true @Bool.not_false))))))))))))))))))) ?_;(repeat(refine Pn.mk ?_;intro N hN))))
    refine qT ?_ ?_ (by(try dsimp only);exact⟨ai,.inr ⟨⟨287017015,st_f.next+1+1+1⟩,by rw[hs];simp only[go_sem, ↓reduceIte,Nat.reduceEqDiff,Nat.reduceAdd,Nat.reduceSub,Nat.reduceLeDiff,reduceCtorEq,List.nil_append,List.length_cons,List.length_nil],by rw[hs];simp only[go_sem, ↓reduceIte,Nat.reduceEqDiff,Nat.reduceAdd,Nat.reduceSub,Nat.reduceLeDiff,reduceCtorEq,aB,List.nil_append,List.map_cons,List.map_nil],bK,bK,by rw[hs];simp⟩⟩)
    all_goals simp only[go_sem, ↓reduceIte,Nat.reduceEqDiff,Nat.reduceAdd,Nat.reduceSub,Nat.reduceLeDiff,reduceCtorEq,f46,fg0,f1,f8,f9,f44,f45,I4]
   ·have x1:=dr (a:=⟨287002001,σ2.next+1⟩) (b:=p) bK
    have Aj:=eL IQ
    (try((repeat(revert hN;revert N;apply Pn.out));refine wk (tw @f46 (tw @fg0 (tw @f1 (tw @f8 (tw @f9 (tw @f44 (tw @f45 (tw @f14 (tw @fg (tw @hj (tw @qi (tw @hA (tw @hB (tw @gG (tw @fW (tw @tl (tw @tR (tw @x1 (tw @Aj (tw @I4 (tw @e1 (tw @kP (tw @aB.eq_1 (tw @Bool.not_true @Bool.not_false)))))))))))))))))))))))) ?_;(repeat(refine Pn.mk ?_;intro N hN))))
    refine qT ?_ ?_ (by(try dsimp only);exact⟨ai,.inr ⟨⟨287017015,st_f.next+1+1+1⟩,by rw[hs,List.length_append];simp only[go_sem, ↓reduceIte,Nat.reduceEqDiff,Nat.reduceAdd,Nat.reduceSub,Nat.reduceLeDiff,reduceCtorEq,List.length_cons,List.length_nil],by rw[hs,List.map_append,List.map_cons,List.map_nil];simp only[go_sem, ↓reduceIte,Nat.reduceEqDiff,Nat.reduceAdd,Nat.reduceSub,Nat.reduceLeDiff,reduceCtorEq,aB],bK,bK,by rw[hs];simp⟩⟩)
    all_goals simp only[go_sem, ↓reduceIte,Nat.reduceEqDiff,Nat.reduceAdd,Nat.reduceSub,Nat.reduceLeDiff,reduceCtorEq,f46,fg0,f1,f8,f9,f44,f45,x1,I4]
 ·have gZ:j=bs.length:=ai
  subst gZ
  rw[List.take_length]at fO
  rcases fO with⟨h1,f14⟩|⟨p,f14,fg,OK,IQ,hp3⟩
  ·(try((repeat(revert hN;revert N;apply Pn.out));refine wk (tw @f46 (tw @fg0 (tw @f1 (tw @f8 (tw @f9 (tw @f44 (tw @f45 (tw @f14 (tw @hj @r5))))))))) ?_;(repeat(refine Pn.mk ?_;intro N hN))))
   refine jh (.inl rfl) (r1:=.int .i64 ((leads cnt L).length:Int)) (sd @Nat.zero_add) (by simp only[go_sem, ↓reduceIte,Nat.reduceEqDiff,Nat.reduceAdd,Nat.reduceSub,Nat.reduceLeDiff,reduceCtorEq];rfl) ?_
   simp only[eP,bW,cU,eC,jO,h1,Mq,Option.map_some]
  ·(try((repeat(revert hN;revert N;apply Pn.out));refine wk (tw @f46 (tw @fg0 (tw @f1 (tw @f8 (tw @f9 (tw @f44 (tw @f45 (tw @f14 (tw @hj @r5))))))))) ?_;(repeat(refine Pn.mk ?_;intro N hN))))
   refine jh (.inl rfl) (r1:=.int .i64 ((leads cnt L).length:Int)) (sd @Nat.zero_add) (by simp only[go_sem, ↓reduceIte,Nat.reduceEqDiff,Nat.reduceAdd,Nat.reduceSub,Nat.reduceLeDiff,reduceCtorEq];rfl) ?_
   have h1:gq st_f.get 5 (.own p 0 (dU L bs).length)=some (.sl ((dU L bs).map aB)):=ig (sz:=3) fg rfl fun b=>tM _ 3 b
   simp only[eP,bW,cU,eC,h1,zN hp3,Option.map_some]
theorem wY (cnt:Nat) (zg:1<=cnt) (hn:cnt<=1048576) (t:Int):aq Tryz.prog 287 [.int .i64 cnt,.bS,.int .i64 t] (.gn [.int .i64 cnt,.bS]):=by
 refine aq.body eG rfl fun hl n0=>?_
 clear hl
 have h1:aq Tryz.prog 322 [.bS] .bS:=by
  refine aq.body eG rfl fun hl n0=>?_
  clear hl
  (try((repeat(revert hN;revert N;apply Pn.out));refine wk @Nat.zero_add ?_;(repeat(refine Pn.mk ?_;intro N hN))))
  exact vN (.inl rfl) (r0:=.bS) (sd @Nat.zero_add) (jO _ _)
 have h2:aq Tryz.prog 321 [.bS,.fn 323 [.dt [.int .i64 t]]] .bS:=by
  have Gl:=(x8 [] t (by simp)).cut mixed (.bS (.same _ .nil))
  refine aq.body eG rfl fun hl n0=>?_
  clear hl
  (try((repeat(revert hN;revert N;apply Pn.out));refine wk @Nat.zero_add ?_;(repeat(refine Pn.mk ?_;intro N hN))))
  refine .inl ⟨_,aq.x Gl (by simp only[ab,aj,aD,cu,aH,List.all_cons,List.all_nil,AV.cell,Bool.and_true,if_true,Option.map_some]),?_⟩
  refine hN _ _ ?_
  clear hN N
  have hd:decide (jX (fun b:PB=>decide (b.s<t)) []= -1)=true:=rfl
  (try((repeat(revert hN;revert N;apply Pn.out));refine wk @hd ?_;(repeat(refine Pn.mk ?_;intro N hN))))
  exact vN (.inl rfl) (r0:=.bS) (sd @Nat.zero_add) (jO _ _)
 have Hw:=(uM cnt zg hn [] (fun b h=>by cases h) (by simp)).cut mixed (.same _ (.bS .nil))
 (repeat(first|((repeat(revert hN;revert N;apply Pn.out));refine wk @Nat.zero_add ?_;(repeat(refine Pn.mk ?_;intro N hN)))|((try apply Or.inl);refine⟨_,aq.x (h1) (sd @Nat.zero_add),?_⟩;refine hN _ _ ?_;clear hN N)))
 refine .inl ⟨_,aq.x h2 ?_,?_⟩
 ·have:V.fz (dR (bD (fun _=>none) ⟨287000000,n0⟩ ⟨true,1,[[.int .i64 t]]⟩)) 5 (.ptr ⟨287000000,n0⟩ 0 0)=some (.dt [.int .i64 t]):=pT (sz:=1) (rows:=[[.int .i64 t]]) (by simp[dR,bD]) rfl (by simp only[List.drop_zero,ab,aj,ay,Option.map_some])
  simp only[ab,aj,aD,cu,this,List.all_cons,List.all_nil,AV.cell,Bool.and_true,if_true,Option.map_some]
 refine hN _ _ ?_
 clear hN N
 have fW:eE ([]:List PB)=id:=rfl
 rw[fW]at Hw
 have hL:jq id:=fW▸s7 ([]:List PB)
 have Qf:(leads cnt id).length=cnt:=by rw[leads,List.filter_eq_self.2 (fun a _=>by simp)];simp
 generalize (id:Nat->Nat)=L at *
 have r5:((fG cnt L).map Ad).length=(leads cnt L).length:=by simp[fG]
 have S6:=jz cnt L
 have jt:(0:Int)<=(cnt:Int):=ai
 have pr:(cnt:Int)<=((16777216:Nat):Int):=ai
 have gH:List.replicate cnt [AV.int .i64 0]=dZ (dj cnt L 0 0) cnt:=by rw[wj,oh]
 (repeat(first|((repeat(revert hN;revert N;apply Pn.out));refine wk (tw @jt (tw @pr (tw @Int.le_refl (tw @r5 @gH)))) ?_;(repeat(refine Pn.mk ?_;intro N hN)))|((try apply Or.inl);refine⟨_,aq.x (Hw) (sd (tw @jt (tw @pr (tw @Int.le_refl (tw @r5 @gH))))),?_⟩;refine hN _ _ ?_;clear hN N)))
 refine bF (fun n env st=>∃i:Nat,n=((leads cnt L).length)-i/\i<=((leads cnt L).length)/\env 27=.int .i64 (i:Int)/\st.get ⟨287002001,n0+1+1⟩=some ⟨true,1,dZ (dj cnt L i 0) cnt⟩/\(n0+1+1<st.next)) ((leads cnt L).length) ⟨0,ai,ai,sl (tw @gH @r5),sl (tw @gH @r5),bK⟩ ?_
 rintro n_c env_c st_c ⟨i,rfl,cle,c27,cg0,cI0⟩ cfr
 have c1:=cfr 1 (by kernel_rfl);have c8:=cfr 8 (by kernel_rfl);have c9:=cfr 9 (by kernel_rfl);have wU:=cfr 25 (by kernel_rfl);have wV:=cfr 26 (by kernel_rfl)
 simp only[go_sem, ↓reduceIte,Nat.reduceEqDiff,Nat.reduceAdd,Nat.reduceSub,Nat.reduceLeDiff,reduceCtorEq,gH,r5]at c1 c8 c9 wU wV
 clear cfr
 by_cases hi:(i:Int)<((leads cnt L).length:Int)
 ·have gW:∀{e:Env} {gg:Rows} {nx:Nat},(e 27=.int .i64 (IntKind.i64.wrap ((i:Int)+1)))->(gg ⟨287002001,n0+1+1⟩=some ⟨true,1,dZ (dj cnt L (i+1) 0) cnt⟩)->(n0+1+1<nx)->∃m0,m0<((leads cnt L).length)-i/\∃i:Nat,m0=((leads cnt L).length)-i/\i<=((leads cnt L).length)/\e 27=.int .i64 (i:Int)/\gg ⟨287002001,n0+1+1⟩=some ⟨true,1,dZ (dj cnt L i 0) cnt⟩/\(n0+1+1<nx):=fun x1 x2 x3=>⟨_,ai,i+1,rfl,ai,(by rw[x1,aI ai]),x2,x3⟩
  have fP:i<(leads cnt L).length:=ai
  have kO:((fG cnt L).map Ad)[i]? =some (Ad (members cnt L (leads cnt L)[i])):=by simp[fG,fP]
  have tT:(leads cnt L).getD i 0=(leads cnt L)[i]:=by simp[List.getD_eq_getElem?_getD,fP]
  have kM:∀m,dj cnt L i m=fun x=>if cN L x<i then cN L x else if x∈(members cnt L (leads cnt L)[i]).take m then i else 0:=fun m=>by unfold dj;rw[tT]
  have qH:=fun x (hx:x<cnt)=>si hL (n:=cnt) (k:=x) (i:=i) hx fP
  have lu:(members cnt L (leads cnt L)[i]).Nodup:=List.nodup_range.filter _
  have OH:∀x∈members cnt L (leads cnt L)[i],x<cnt:=fun x hx=>(lh.1 hx).1
  have hMc:(members cnt L (leads cnt L)[i]).length<=cnt:=by
   have:=List.length_filter_le (fun k=>L k==(leads cnt L)[i]) (List.range cnt)
   simpa[members]using this
  generalize members cnt L (leads cnt L)[i]=M at *
  have Cx:(M.map eN).length=M.length:=by simp
  (try((repeat(revert hN;revert N;apply Pn.out));refine wk (tw @c27 (tw @cg0 (tw @c1 (tw @c8 (tw @c9 (tw @wU (tw @wV (tw @hi (tw @r5 (tw @kO (tw @Ad.eq_1 @Cx))))))))))) ?_;(repeat(refine Pn.mk ?_;intro N hN))))
  refine bF (fun n env st=>∃m:Nat,n=(M.length)-m/\m<=(M.length)/\env 34=.int .i64 (m:Int)/\st.get ⟨287002001,n0+1+1⟩=some ⟨true,1,dZ (dj cnt L i m) cnt⟩/\(n0+1+1<st.next)) (M.length) ⟨0,ai,ai,sl (tw @c27 (tw @cg0 (tw @c1 (tw @c8 (tw @c9 (tw @wU (tw @wV @Cx))))))),sl (tw @c27 (tw @cg0 (tw @c1 (tw @c8 (tw @c9 (tw @wU (tw @wV @Cx))))))),bK⟩ ?_
  rintro n_d env_d st_d ⟨m,rfl,dle,d34,dg0,dI0⟩ dfr
  have d1:=dfr 1 (by kernel_rfl);have d8:=dfr 8 (by kernel_rfl);have d9:=dfr 9 (by kernel_rfl);have d10:=dfr 10 (by kernel_rfl);have d25:=dfr 25 (by kernel_rfl);have d26:=dfr 26 (by kernel_rfl);have d27:=dfr 27 (by kernel_rfl);have d32:=dfr 32 (by kernel_rfl);have d33:=dfr 33 (by kernel_rfl)
  simp only[go_sem, ↓reduceIte,Nat.reduceEqDiff,Nat.reduceAdd,Nat.reduceSub,Nat.reduceLeDiff,reduceCtorEq,c27,cg0,c1,c8,c9,wU,wV,Cx]at d1 d8 d9 d10 d25 d26 d27 d32 d33
  clear dfr
  have tl:=gm (dj cnt L i m) cnt
  by_cases hm:(m:Int)<(M.length:Int)
  ·have s9:∀{e:Env} {gg:Rows} {nx:Nat},(e 34=.int .i64 (IntKind.i64.wrap ((m:Int)+1)))->(gg ⟨287002001,n0+1+1⟩=some ⟨true,1,dZ (dj cnt L i (m+1)) cnt⟩)->(n0+1+1<nx)->∃m0,m0<(M.length)-m/\∃m:Nat,m0=(M.length)-m/\m<=(M.length)/\e 34=.int .i64 (m:Int)/\gg ⟨287002001,n0+1+1⟩=some ⟨true,1,dZ (dj cnt L i m) cnt⟩/\(n0+1+1<nx):=fun x1 x2 x3=>⟨_,ai,m+1,rfl,ai,(by rw[x1,aI ai]),x2,x3⟩
   have zf:m<M.length:=ai
   have uP:(M.map eN)[m]? =some (eN M[m]):=by simp[zf]
   have uU:=OH _ (List.getElem_mem zf)
   have CG:(M[m]:Int)<(cnt:Int):=ai
   have CF:=fA (f:=dj cnt L i m) uU
   have eI:(dZ (dj cnt L i m) cnt).set M[m] (eN i)=dZ (dj cnt L i (m+1)) cnt:=oZ uU (by
    have h1:=(qH _ uU).1 (List.getElem_mem zf)
    rw[kM]
    simp only[]
    rw[if_neg ai,if_pos (by rw[List.take_succ_eq_append_getElem zf];exact List.mem_append_right _ (List.mem_singleton.2 rfl))]) fun x hx gP=>by
    rw[kM,kM]
    simp only[]
    rw[List.take_succ_eq_append_getElem zf]
    simp only[List.mem_append,List.mem_singleton,gP,or_false]
   rw[eN]at eI CF
   generalize M[m]=xm at *
   (try((repeat(revert hN;revert N;apply Pn.out));refine wk (tw @d34 (tw @dg0 (tw @d1 (tw @d8 (tw @d9 (tw @d10 (tw @d25 (tw @d26 (tw @d27 (tw @d32 (tw @d33 (tw @hm (tw @hi (tw @uP (tw @Cx (tw @CG (tw @CF (tw @tl (tw @eI @eN.eq_1))))))))))))))))))) ?_;(repeat(refine Pn.mk ?_;intro N hN))))
   refine s9 ?_ ?_ bK
   all_goals simp only[go_sem, ↓reduceIte,Nat.reduceEqDiff,Nat.reduceAdd,Nat.reduceSub,Nat.reduceLeDiff,reduceCtorEq,d34,dg0,d1,d8,d9,d10,d25,d26,d27,d32,d33,eI]
  ·have kP:m=M.length:=ai
   subst kP
   have xd:dZ (dj cnt L i M.length) cnt=dZ (dj cnt L (i+1) 0) cnt:=gS fun x hx=>by
    rw[kM,List.take_length]
    simp only[dj,List.take_zero,List.not_mem_nil,if_false]
    have h1:=qH x hx
    by_cases h2:cN L x<i
    ·rw[if_pos h2,if_pos ai]
    ·rw[if_neg h2]
     by_cases h3:x∈M
     ·rw[if_pos h3,if_pos (by have:=h1.1 h3;omega),h1.1 h3]
     ·rw[if_neg h3,if_neg fun h4=>h3 (h1.2 ai)]
   (try((repeat(revert hN;revert N;apply Pn.out));refine wk (tw @d34 (tw @dg0 (tw @d1 (tw @d8 (tw @d9 (tw @d10 (tw @d25 (tw @d26 (tw @d27 (tw @d32 (tw @d33 (tw @hm (tw @hi (tw @r5 @Cx)))))))))))))) ?_;(repeat(refine Pn.mk ?_;intro N hN))))
   refine gW ?_ ?_ bK
   all_goals simp only[go_sem, ↓reduceIte,Nat.reduceEqDiff,Nat.reduceAdd,Nat.reduceSub,Nat.reduceLeDiff,reduceCtorEq,c27,cg0,c1,c8,c9,wU,wV,d34,dg0,d1,d8,d9,d10,d25,d26,d27,d32,d33,xd]
 have mi:i=(leads cnt L).length:=ai
 subst mi
 have tU:dZ (dj cnt L (leads cnt L).length 0) cnt=dZ (cN L) cnt:=gS fun x hx=>by rw[dj,if_pos (jR hL hx)]
 rw[tU]at cg0
 have tl:=gm (cN L) cnt
 (try((repeat(revert hN;revert N;apply Pn.out));refine wk (tw @c27 (tw @cg0 (tw @c1 (tw @c8 (tw @c9 (tw @wU (tw @wV (tw @hi @r5)))))))) ?_;(repeat(refine Pn.mk ?_;intro N hN))))
 refine bF (fun n env st=>∃j:Nat,n=(0)-j/\j<=(0)/\env 46=.int .i64 (j:Int)/\env 14=.bS) (0) ⟨0,ai,ai,sl (tw @c27 (tw @cg0 (tw @c1 (tw @c8 (tw @c9 (tw @wU @wV)))))),sl (tw @c27 (tw @cg0 (tw @c1 (tw @c8 (tw @c9 (tw @wU @wV))))))⟩ ?_
 rintro n_f env_f st_f ⟨j,rfl,fle,f46,f14⟩ ffr
 have f8:=ffr 8 (by kernel_rfl);have f44:=ffr 44 (by kernel_rfl);have f45:=ffr 45 (by kernel_rfl)
 simp only[go_sem, ↓reduceIte,Nat.reduceEqDiff,Nat.reduceAdd,Nat.reduceSub,Nat.reduceLeDiff,reduceCtorEq,c27,cg0,c1,c8,c9,wU,wV]at f8 f44 f45
 clear ffr
 have hj:¬(j:Int)<((0:Nat):Int):=ai
 (try((repeat(revert hN;revert N;apply Pn.out));refine wk (tw @f46 (tw @f14 (tw @f8 (tw @f44 (tw @f45 (tw @hj @r5)))))) ?_;(repeat(refine Pn.mk ?_;intro N hN))))
 refine jh (.inl rfl) (r1:=.int .i64 ((leads cnt L).length:Int)) (r2:=.bS) (sd @Nat.zero_add) (sd @Nat.zero_add) ?_
 simp only[eP,bW,cU,eC,jO,Qf,Option.map_some]
theorem yX (cnt:Nat) (zg:1<=cnt) (hn:cnt<=1048576) (bs:List PB) (hb:∀b∈bs,b.a<cnt/\b.b<cnt) (pq:bs.length<=1048576) (t:Int):aq Tryz.prog 287 [.int .i64 cnt,zM bs,.int .i64 t] (.gn [.int .i64 (leads cnt (eE (bc t bs))).length,zM (dU (eE (bc t bs)) bs)]):=by
 cases bs with
 |nil=>
  have h:=wY cnt zg hn t
  have Qf:(leads cnt (eE (bc t []))).length=cnt:=by
   show(leads cnt id).length=cnt
   rw[leads,List.filter_eq_self.2 (fun a _=>by simp)];simp
  rw[Qf]
  exact h
 |cons b r=>
  rw[zN (by simp)]
  exact wZ cnt zg hn (b::r) hb (by simp) pq t
end Go.Proofs.YtgoljkjaameagaaGreat.V

namespace Go.Proofs.YtgoljkjaameagaaGreat.V
open Go.RowKit
attribute [local irreducible] dQ wpOps ft Call
attribute [local go_sem] aA eV ef e9 e8 cZ upd bQ K.av cr AV.cells AV.cell rowOf rowsOf part ld rowAt bD bL dm dD fE bu cK dO fa eF db dH cI cH dw dx bz aQ cz bx cD cC dF dI dG cw bC cJ dE bw az cF bZ fD bj cq bB aJ cX aX dn AV.undef bp br dy dC du dz cm dM dP bU dK dJ cE cG List.getD_cons_zero List.getD_cons_succ List.getD_nil List.all_cons List.all_nil Bool.and_true Bool.true_and Bool.and_self Bool.not_true Bool.not_false Option.map_some Option.map_none Option.bind_some Option.bind_none List.length_cons List.length_nil List.take_succ_cons List.take_zero List.take_nil List.drop_succ_cons List.drop_zero List.drop_nil List.head?_cons List.map_cons List.map_nil List.getElem?_cons_zero List.getElem?_cons_succ List.cons_append List.nil_append List.append_nil List.length_map List.set_cons_zero List.set_cons_succ Nat.reduceMul eq_self Int.toNat_natCast Int.natCast_nonneg and_self true_and and_true decide_true decide_false Bool.false_eq_true Nat.zero_add Nat.add_zero List.contains_cons List.contains_nil Bool.or_false Bool.false_or beq_self_eq_true Nat.reduceBEq ne_eq not_true_eq_false not_false_eq_true Id.mk.injEq false_and and_false Nat.reduceLT Int.reduceLE Int.reduceLT Int.reduceToNat Int.reduceNeg Int.reduceAdd Nat.le_refl List.length_append beq_true beq_false Bool.not_eq_eq_eq_not or_false false_or dR ab aj ay bo bJ aD aV aH aU cu bq
attribute [local go_sem] FG
section
attribute [-go_sem] dm
theorem LX (n:Nat) (hn:n<=1048576):aq Tryz.prog 340 [.int .u64 1,.int .u64 n] (.gn [.int .u64 0,.int .u64 n]):=by
 refine aq.body eG rfl fun hl n0=>?_
 clear hl
 have b1:(BitVec.ofInt 64 (n:Int)&&& BitVec.ofInt 64 4294967295).toNat=n:=by
  rw[BitVec.toNat_and]
  have e1:(BitVec.ofInt 64 (n:Int)).toNat=n:=by rw[BitVec.toNat_ofInt];omega
  have e2:(BitVec.ofInt 64 4294967295).toNat=2 ^ 32-1:=by decide
  rw[e1,e2]
  exact Nat.and_two_pow_sub_one_of_lt_two_pow ai
 have zn:IntKind.u64.wrap (n:Int)=n:=by rw[IntKind.wrap_u64];omega
 have i1:dm .and .u64 (n:Int) 4294967295=some (.int .u64 n):=by
  show some (AV.int .u64 (IntKind.u64.wrap (((BitVec.ofInt 64 (n:Int)&&& BitVec.ofInt 64 4294967295).toNat:Nat):Int)))= _
  rw[b1,zn]
 have i2:dm .and .u64 1 4294967295=some (.int .u64 1):=rfl
 have i3:dm .and .u64 0 4294967295=some (.int .u64 0):=rfl
 have i4:dm .mul .u64 1 (n:Int)=some (.int .u64 n):=by simp only[dm,Int.one_mul,zn]
 have i5:dm .mul .u64 0 (n:Int)=some (.int .u64 0):=by simp only[dm,Int.zero_mul];rfl
 have i6:dm .mul .u64 1 0=some (.int .u64 0):=rfl
 have i7:dm .mul .u64 0 0=some (.int .u64 0):=rfl
 have i8:dm .add .u64 0 0=some (.int .u64 0):=rfl
 have a3:Int.fdiv 1 (2 ^ min 32 64)=0:=by decide
 have a4:Int.fdiv (n:Int) (2 ^ min 32 64)=0:=by
  rw[Int.fdiv_eq_ediv_of_nonneg _ (by decide)]
  have h32:(2:Int) ^ min 32 64=4294967296:=by decide
  exact Int.ediv_eq_zero_of_lt ai ai
 have z1:Int.fdiv 0 (2 ^ min 32 64)=0:=by decide
 (try((repeat(revert hN;revert N;apply Pn.out));refine wk (tw @i1 (tw @i2 (tw @i3 (tw @i4 (tw @i5 (tw @i6 (tw @i7 (tw @i8 (tw @a3 (tw @a4 @z1)))))))))) ?_;(repeat(refine Pn.mk ?_;intro N hN))))
 refine jh (.inl rfl) (r1:=.int .u64 0) (r2:=.int .u64 n) (sd @Nat.zero_add) (sd @Nat.zero_add) ?_
 simp only[eP,bW,cU,eC,Option.map_some]
end
theorem RX (n:Nat) (hn:n<=1048576):aq Tryz.prog 337 [.int .u64 1,.int .u64 n] (.gn [.int .u64 0,.int .u64 n]):=by
 refine aq.body eG rfl fun hl n0=>?_
 clear hl
 have h:=LX n hn
 (repeat(first|((repeat(revert hN;revert N;apply Pn.out));refine wk @Nat.zero_add ?_;(repeat(refine Pn.mk ?_;intro N hN)))|((try apply Or.inl);refine⟨_,aq.x (h) (sd @Nat.zero_add),?_⟩;refine hN _ _ ?_;clear hN N)))
 refine jh (.inl rfl) (r1:=.int .u64 0) (r2:=.int .u64 n) (sd @Nat.zero_add) (sd @Nat.zero_add) ?_
 simp only[eP,bW,cU,eC,Option.map_some]
theorem JM (cnt:Nat) (zg:1<=cnt) (hn:cnt<=1048576) (v:Int) (x:Id) (σ:au) (hx:σ.get x=some ⟨true,1,[[.int .i64 v]]⟩) (Vh:x.cV<σ.next):
  Call Tryz.prog 327 [.own x 0 1,.int .i64 cnt] σ fun r σ'=>∃o:Id,r=.own o 0 cnt/\σ'.get o=some ⟨true,1,List.replicate cnt [.int .i64 v]⟩/\σ.next<=o.cV/\o.cV<σ'.next/\∀i:Id,i.cV<σ.next->σ'.get i=σ.get i:=by
 refine fo eG rfl fun hl=>?_
 clear hl
 have h:=RX cnt hn
 have w1:IntKind.u64.wrap (cnt:Int)=cnt:=by rw[IntKind.wrap_u64];omega
 have w2:IntKind.i64.wrap (cnt:Int)=cnt:=Kl ai
 have w0:IntKind.u64.wrap ((1:Nat):Int)=1:=by decide
 have g1:¬(cnt:Int)<0:=ai
 have g2:¬(9223372036854775807:Int)<cnt:=ai
 have jt:(0:Int)<=(cnt:Int):=ai
 have pr:(cnt:Int)<=((16777216:Nat):Int):=ai
 have Qo:=eL Vh
 have rI:(List.replicate cnt [AV.int .i64 0]).length=cnt:=List.length_replicate
 have m1:min 1 cnt=1:=ai
 (repeat(first|((repeat(revert hN;revert N;apply Pn.out));refine wk (tw @w0 (tw @w1 (tw @w2 (tw @g1 (tw @g2 (tw @jt (tw @pr (tw @Int.le_refl (tw @Nat.le_refl (tw @hx (tw @Qo (tw @rI @m1)))))))))))) ?_;(repeat(refine Pn.mk ?_;intro N hN)))|((try apply Or.inl);refine⟨_,aq.x (h) (sd (tw @w0 (tw @w1 (tw @w2 (tw @g1 (tw @g2 (tw @jt (tw @pr (tw @Int.le_refl (tw @Nat.le_refl (tw @hx (tw @Qo (tw @rI @m1))))))))))))),?_⟩;refine hN _ _ ?_;clear hN N)))
 refine bF (fun m env st=>∃k:Nat,m=cnt-k/\1<=k/\k<=cnt/\env 8=.int .i64 (k:Int)/\st.get ⟨327006002,σ.next+1+1+1+1⟩=some ⟨true,1,List.replicate k [.int .i64 v]++List.replicate (cnt-k) [.int .i64 0]⟩/\σ.next+4<st.next/\∀i:Id,i.cV<σ.next->st.get i=σ.get i) (cnt-1) ⟨1,rfl,Nat.le_refl _,zg,by(simp only[go_sem, ↓reduceIte,Nat.reduceEqDiff,Nat.reduceAdd,Nat.reduceSub,Nat.reduceLeDiff,reduceCtorEq,m1])<;>rfl,?_,bK,fun i hi=>?_⟩ ?_
 ·simp only[go_sem, ↓reduceIte,Nat.reduceEqDiff,Nat.reduceAdd,Nat.reduceSub,Nat.reduceLeDiff,reduceCtorEq]
  rw[List.drop_replicate];rfl
 ·have Dy:=eL hi
  simp only[go_sem, ↓reduceIte,Nat.reduceEqDiff,Nat.reduceAdd,Nat.reduceSub,Nat.reduceLeDiff,reduceCtorEq,Dy]
 rintro m env_b st_b ⟨k,rfl,wL,uQ,b8,bg,bn,bfr⟩ bkp
 have b7:=bkp 7 (by kernel_rfl)
 simp only[go_sem, ↓reduceIte,Nat.reduceEqDiff,Nat.reduceAdd,Nat.reduceSub,Nat.reduceLeDiff,reduceCtorEq]at b7
 clear bkp
 have Rx:(List.replicate k [AV.int .i64 v]++List.replicate (cnt-k) [AV.int .i64 0]).length=cnt:=by simp;omega
 by_cases hk:(k:Int)<(cnt:Int)
 ·have fM:k<cnt:=ai
  have r6:(k:Int)<=(cnt:Int):=ai
  have hw:IntKind.i64.wrap ((k:Int)+((min k (cnt-k):Nat):Int))=((k+min k (cnt-k):Nat):Int):=by rw[bP ai];omega
  have od:List.take k (List.replicate k [AV.int .i64 v]++List.replicate (cnt-k) [AV.int .i64 0])=List.replicate k [AV.int .i64 v]:=List.take_left' (by simp)
  have ee:(List.replicate k [AV.int .i64 v]).all (fun c=>c.length==1&&c.all AV.cell)=true:=List.all_eq_true.2 fun c hc=>by rw[List.eq_of_mem_replicate hc];rfl
  have hlr:(List.replicate k [AV.int .i64 v]).length=k:=List.length_replicate
  have OU:k+(cnt-k)=cnt:=ai
  have uT:List.replicate k [AV.int .i64 v]++List.take (min k (cnt-k)) (List.replicate k [AV.int .i64 v])++List.drop (k+min k (cnt-k)) (List.replicate k [AV.int .i64 v]++List.replicate (cnt-k) [AV.int .i64 0])=List.replicate (k+min k (cnt-k)) [AV.int .i64 v]++List.replicate (cnt-(k+min k (cnt-k))) [AV.int .i64 0]:=by
   rw[List.take_replicate,List.drop_append,List.drop_of_length_le (by simp),List.nil_append,hlr,List.drop_replicate,List.replicate_append_replicate]
   congr 2
   ·omega
   ·omega
  (try((repeat(revert hN;revert N;apply Pn.out));refine wk (tw @b7 (tw @b8 (tw @bg (tw @Rx (tw @hk (tw @r6 (tw @uQ (tw @hw (tw @fM (tw @Nat.sub_zero (tw @od (tw @ee (tw @hlr (tw @OU (tw @Nat.le_refl @uT))))))))))))))) ?_;(repeat(refine Pn.mk ?_;intro N hN))))
  refine⟨_,?_,k+min k (cnt-k),rfl,ai,ai,sd @hw,sd @uT,bK,fun i hi=>?_⟩
  ·omega
  ·have Dy:=eL hi
   have:=bfr i hi
   simp only[go_sem, ↓reduceIte,Nat.reduceEqDiff,Nat.reduceAdd,Nat.reduceSub,Nat.reduceLeDiff,reduceCtorEq,Dy,this]
 ·have ml:k=cnt:=ai
  subst ml
  (try((repeat(revert hN;revert N;apply Pn.out));refine wk (tw @b7 (tw @b8 (tw @bg (tw @Rx @hk)))) ?_;(repeat(refine Pn.mk ?_;intro N hN))))
  refine fJ (.inl rfl) (vs:=[.own ⟨327006002,σ.next+1+1+1+1⟩ 0 k]) (sd @Nat.zero_add) ⟨⟨327006002,σ.next+1+1+1+1⟩,rfl,by simp only[go_sem, ↓reduceIte,Nat.reduceEqDiff,Nat.reduceAdd,Nat.reduceSub,Nat.reduceLeDiff,reduceCtorEq,bg];simp,bK,bK,fun i hi=>bfr i hi⟩
end Go.Proofs.YtgoljkjaameagaaGreat.V

namespace Go.Proofs.YtgoljkjaameagaaGreat.V
open Go.RowKit
attribute [local irreducible] dQ wpOps ft Call
attribute [local go_sem] aA eV ef e9 e8 cZ upd bQ K.av cr AV.cells AV.cell rowOf rowsOf part ld rowAt bD bL dm dD fE bu cK dO fa eF db dH cI cH dw dx bz aQ cz bx cD cC dF dI dG cw bC cJ dE bw az cF bZ fD bj cq bB aJ cX aX dn AV.undef bp br dy dC du dz cm dM dP bU dK dJ cE cG List.getD_cons_zero List.getD_cons_succ List.getD_nil List.all_cons List.all_nil Bool.and_true Bool.true_and Bool.and_self Bool.not_true Bool.not_false Option.map_some Option.map_none Option.bind_some Option.bind_none List.length_cons List.length_nil List.take_succ_cons List.take_zero List.take_nil List.drop_succ_cons List.drop_zero List.drop_nil List.head?_cons List.map_cons List.map_nil List.getElem?_cons_zero List.getElem?_cons_succ List.cons_append List.nil_append List.append_nil List.length_map List.set_cons_zero List.set_cons_succ Nat.reduceMul eq_self Int.toNat_natCast Int.natCast_nonneg and_self true_and and_true decide_true decide_false Bool.false_eq_true Nat.zero_add Nat.add_zero List.contains_cons List.contains_nil Bool.or_false Bool.false_or beq_self_eq_true Nat.reduceBEq ne_eq not_true_eq_false not_false_eq_true Id.mk.injEq false_and and_false Nat.reduceLT Int.reduceLE Int.reduceLT Int.reduceToNat Int.reduceNeg Int.reduceAdd Nat.le_refl List.length_append beq_true beq_false Bool.not_eq_eq_eq_not or_false false_or dR ab aj ay bo bJ aD aV aH aU cu bq
def kG (R:Nat->Id) (n k:Nat):List (List AV):=(List.range k).map fun i=>[.own (R i) 0 n]
theorem jT (R:Nat->Id) (n k:Nat):(kG R n k).length=k:=by simp[kG]
theorem rn {R:Nat->Id} {n k i:Nat} (h:i<k):(kG R n k)[i]? =some [.own (R i) 0 n]:=by simp[kG,h]
theorem sE (R:Nat->Id) (n k:Nat):kG R n (k+1)=kG R n k++[[.own (R k) 0 n]]:=by simp[kG,List.range_succ]
def xr (c:Nat->Nat->Int) (n:Nat):List (List AV):=(List.range n).map fun i=>[.sl (ej (c i) n)]
theorem Ck {c:Nat->Nat->Int} {n i:Nat} (h:i<n):(xr c n)[i]? =some [.sl (ej (c i) n)]:=by simp[xr,h]
theorem wi (c:Nat->Nat->Int) (n:Nat):(xr c n).length=n:=by simp[xr]
structure HJ (X o1 o2:Id) (R1 R2:Nat->Id) (n nb:Nat):Prop where
 sx:X.site=299001001
 s1:o1.site=299004008
 s2:o2.site=299005008
 Tn:∀i,i<n->(R1 i).site=299004006
 Nn:∀i,i<n->(R2 i).site=299005006
 i1:∀i j,i<n->j<n->R1 i=R1 j->i=j
 i2:∀i j,i<n->j<n->R2 i=R2 j->i=j
 vx:X.cV<nb
 v1:o1.cV<nb
 v2:o2.cV<nb
 Vr:∀i,i<n->(R1 i).cV<nb
 Sd:∀i,i<n->(R2 i).cV<nb
structure pE (g:Rows) (X o1 o2:Id) (R1 R2:Nat->Id) (n:Nat) (c f:Nat->Nat->Int):Prop where
 x:g X=some ⟨true,2,[[.own o1 0 n,.own o2 0 n]]⟩
 t1:g o1=some ⟨true,1,kG R1 n n⟩
 t2:g o2=some ⟨true,1,kG R2 n n⟩
 r1:∀i,i<n->g (R1 i)=some ⟨true,1,ej (c i) n⟩
 r2:∀i,i<n->g (R2 i)=some ⟨true,1,ej (f i) n⟩
theorem nO {f:Nat->Nat->Int} {a b:Nat} {d:Int} {n:Nat} (hb:b<n):(ej (f a) n).set b (bt (f a b+d))=ej (bump f a b d a) n:=kH hb (by simp[bump]) fun i _ hi=>by simp[bump,hi]
theorem jM {f:Nat->Nat->Int} {a b i:Nat} {d:Int} (h:i≠a):bump f a b d i=f i:=by funext v;simp[bump,h]
theorem pE.add {g g':Rows} {X o1 o2:Id} {R1 R2:Nat->Id} {n nb:Nat} {c f:Nat->Nat->Int} (I:HJ X o1 o2 R1 R2 n nb) (h:pE g X o1 o2 R1 R2 n c f) (b:PB) (ha:b.a<n) (hb:b.b<n) (hA:b.a≠b.b->g' (R1 b.a)=some ⟨true,1,ej (bump c b.a b.b b.s b.a) n⟩) (hB:g' (R1 b.b)=some ⟨true,1,ej (ni c b b.b) n⟩) (hf:∀i:Id,i.cV<nb->(i=R1 b.a)=False->(i=R1 b.b)=False->g' i=g i):pE g' X o1 o2 R1 R2 n (ni c b) f:=by
 have ne:∀{i:Id} {s:Nat},i.site=s->(s==299004006)=false->∀a,a<n->(i=R1 a)=False:=fun {i s} hi hs a ha=>by
  simp only[eq_iff_iff,iff_false]
  rintro rfl
  rw[I.Tn a ha]at hi
  subst hi
  simp at hs
 refine⟨(hf _ I.vx (ne I.sx (by decide) _ ha) (ne I.sx (by decide) _ hb)).trans h.x,(hf _ I.v1 (ne I.s1 (by decide) _ ha) (ne I.s1 (by decide) _ hb)).trans h.t1,(hf _ I.v2 (ne I.s2 (by decide) _ ha) (ne I.s2 (by decide) _ hb)).trans h.t2,fun i hi=>?_,fun i hi=>(hf _ (I.Sd i hi) (ne (I.Nn i hi) (by decide) _ ha) (ne (I.Nn i hi) (by decide) _ hb)).trans (h.r2 i hi)⟩
 by_cases Kx:i=b.b
 ·subst Kx;exact hB
 ·by_cases Hx:i=b.a
  ·subst Hx
   rw[hA Kx,ni,jM Kx]
  ·rw[ni,jM Kx,jM Hx,hf _ (I.Vr i hi) (by simp only[eq_iff_iff,iff_false];exact fun he=>Hx (I.i1 i _ hi ha he)) (by simp only[eq_iff_iff,iff_false];exact fun he=>Kx (I.i1 i _ hi hb he))]
   exact h.r1 i hi
def kY (n:Nat) (c f:Nat->Nat->Int):List AV:=[.sl (xr c n),.sl (xr f n)]
theorem FF {g:Rows} {R:Nat->Id} {n k:Nat} {c:Nat->Nat->Int} (h:∀i,i<k->g (R i)=some ⟨true,1,ej (c i) n⟩) (m:Nat):ew (dR g) (m+3) (kG R n k)=some ((List.range k).map fun i=>[.sl (ej (c i) n)]):=by
 induction k with
 |zero=>rw[show kG R n 0=[]from rfl,ew];rfl
 |succ k ih=>
  have e1:V.fz (dR g) (m+3) (.own (R k) 0 n)=some (.sl (ej (c k) n)):=by
   rw[gV];simp only[dR,h k ai,Option.map_some,if_true]
   rw[if_pos (by rw[dY];omega),List.drop_zero,List.take_of_length_le (by rw[dY];omega),zS];rfl
  have app:∀(xs ys:List (List AV)) (Tp Ss:List (List AV)),ew (dR g) (m+3) xs=some Tp->ew (dR g) (m+3) ys=some Ss->ew (dR g) (m+3) (xs++ys)=some (Tp++Ss):=by
   intro xs
   induction xs with
   |nil=>intro ys Tp Ss h1 h2;rw[ew]at h1;cases h1;exact h2
   |cons a xs ih2=>
    intro ys Tp Ss h1 h2
    rw[ew]at h1
    rw[List.cons_append,ew]
    cases ha:de (dR g) (m+3) a with
    |none=>simp[ha]at h1
    |some a'=>
     cases hb:ew (dR g) (m+3) xs with
     |none=>simp[ha,hb]at h1
     |some b'=>
      simp[ha,hb]at h1
      subst h1
      rw[ih2 ys b' Ss hb h2];rfl
  rw[sE,List.range_succ,List.map_append]
  refine app _ _ _ _ (ih fun i hi=>h i ai) ?_
  rw[ew,ab,aj,e1,ew];rfl
theorem pE.fz {g:Rows} {X o1 o2:Id} {R1 R2:Nat->Id} {n:Nat} {c f:Nat->Nat->Int} (h:pE g X o1 o2 R1 R2 n c f):V.fz (dR g) 6 (.ptr X 0 0)=some (.dt (kY n c f)):=by
 refine pT (sz:=2) (rows:=[[.own o1 0 n,.own o2 0 n]]) (by simp[dR,h.x]) rfl ?_
 have e1:V.fz (dR g) 5 (.own o1 0 n)=some (.sl (xr c n)):=by
  rw[gV];simp only[dR,h.t1,Option.map_some,if_true]
  rw[if_pos (by rw[jT];omega),List.drop_zero,List.take_of_length_le (by rw[jT];omega)]
  rw[show ew _ 4 _=some (xr c n)from FF h.r1 1];rfl
 have e2:V.fz (dR g) 5 (.own o2 0 n)=some (.sl (xr f n)):=by
  rw[gV];simp only[dR,h.t2,Option.map_some,if_true]
  rw[if_pos (by rw[jT];omega),List.drop_zero,List.take_of_length_le (by rw[jT];omega)]
  rw[show ew _ 4 _=some (xr f n)from FF h.r2 1];rfl
 simp only[List.drop_zero,ab,aj,e1,e2,kY,Option.map_some]
theorem N8 (n:Nat) (c f:Nat->Nat->Int) (u v:Nat) (hu:u<n) (hv:v<n):aq Tryz.prog 328 [.dt (kY n c f),.int .i64 u,.int .i64 v] (.bool (decide (f u v<c u v))):=by
 refine aq.body eG rfl fun hl n0=>?_
 clear hl
 have h1:=Ck (c:=c) hu
 have h2:=Ck (c:=f) hu
 have h3:=ec (f:=c u) hv
 have h4:=ec (f:=f u) hv
 have hui:(u:Int)<(n:Int):=ai
 have Dy:(v:Int)<(n:Int):=ai
 have l1:=wi c n
 have l2:=wi f n
 have l3:=dY (c u) n
 have l4:=dY (f u) n
 rw[bt]at h3 h4
 (try((repeat(revert hN;revert N;apply Pn.out));refine wk (tw @kY.eq_1 (tw @h1 (tw @h2 (tw @h3 (tw @h4 (tw @hui (tw @Dy (tw @l1 (tw @l2 (tw @l3 @l4)))))))))) ?_;(repeat(refine Pn.mk ?_;intro N hN))))
 exact bd (b:=decide (f u v<c u v)) (.inl rfl) (sd @Nat.zero_add) rfl
theorem Hi (n:Nat):List.replicate n [AV.int .i64 0]=ej (fun _=>0) n:=by
 refine List.ext_getElem? fun i=>?_
 by_cases h:i<n
 ·rw[ec h,List.getElem?_replicate,if_pos h];rfl
 ·rw[List.getElem?_eq_none (by simp;omega),List.getElem?_eq_none (by rw[dY];omega)]
theorem zP {i j:Id} {s t:Nat} (hi:i.site=s) (hj:j.site=t) (h:(s==t)=false):(i=j)=False/\(j=i)=False:=by
 constructor<;>(simp only[eq_iff_iff,iff_false];rintro rfl;rw[hi]at hj;subst hj;simp at h)
theorem BV (cnt:Nat) (zg:1<=cnt) (hn:cnt<=1048576) (bs:List PB) (hb:∀b∈bs,b.a<cnt/\b.b<cnt) (eb:∀b∈bs,0<=b.s/\b.s<=4) (pq:bs.length<=1048576) (σ:au):
  Call Tryz.prog 299 [.int .i64 cnt,.sl (bs.map aB)] σ fun r σ'=>∃X o1 o2 R1 R2,r=.ptr X 0 0/\HJ X o1 o2 R1 R2 cnt σ'.next/\σ.next<=σ'.next/\pE σ'.get X o1 o2 R1 R2 cnt (kE bs) (fun _ _=>0)/\∀i:Id,i.cV<σ.next->σ'.get i=σ.get i:=by
 refine fo eG rfl fun hl=>?_
 clear hl
 (try((repeat(revert hN;revert N;apply Pn.out));refine wk @Nat.zero_add ?_;(repeat(refine Pn.mk ?_;intro N hN))))
 obtain⟨X,hX⟩:∃X:Id,X=⟨299001001,σ.next+1⟩:=⟨_,rfl⟩
 obtain⟨R1,Q0⟩:∃R:Nat->Id,R=fun k=>⟨299004006,σ.next+3+4*k+1⟩:=⟨_,rfl⟩
 obtain⟨R2,Q1⟩:∃R:Nat->Id,R=fun k=>⟨299005006,σ.next+3+4*k+2⟩:=⟨_,rfl⟩
 have sX:X.site=299001001:=by rw[hX]
 have vX:X.cV=σ.next+1:=by rw[hX]
 have s1:∀k,(R1 k).site=299004006:=fun k=>by rw[Q0]
 have s2:∀k,(R2 k).site=299005006:=fun k=>by rw[Q1]
 have v1:∀k,(R1 k).cV=σ.next+3+4*k+1:=fun k=>by rw[Q0]
 have v2:∀k,(R2 k).cV=σ.next+3+4*k+2:=fun k=>by rw[Q1]
 have jt:(0:Int)<=(cnt:Int):=ai
 have pr:(cnt:Int)<=((16777216:Nat):Int):=ai
 have hz:=Hi cnt
 have t1:kG R1 cnt 0=[]:=rfl
 have t2:kG R2 cnt 0=[]:=rfl
 refine bF (fun n env st=>∃k:Nat,n=(cnt)-k/\k<=(cnt)/\env 11=.int .i64 (k:Int)/\env 5=(.ptr X 0 0)/\(st.next=σ.next+3+4*k/\(∀i:Id,i.cV<σ.next->st.get i=σ.get i)/\∀j,j<k->st.get (R1 j)=some ⟨true,1,ej (fun _=>0) cnt⟩/\st.get (R2 j)=some ⟨true,1,ej (fun _=>0) cnt⟩)/\((k=0/\st.get X=some ⟨true,2,[[.bS,.bS]]⟩)∨∃o1 o2:Id,o1.site=299004008/\o2.site=299005008/\o1.cV<st.next/\o2.cV<st.next/\σ.next<=o1.cV/\σ.next<=o2.cV/\st.get X=some ⟨true,2,[[.own o1 0 k,.own o2 0 k]]⟩/\st.get o1=some ⟨true,1,kG R1 cnt k⟩/\st.get o2=some ⟨true,1,kG R2 cnt k⟩)) (cnt) ⟨0,ai,ai,sl @hX,sl @hX,⟨rfl,fun i hi=>by(have Dy:=eL hi);simp only[go_sem, ↓reduceIte,Nat.reduceEqDiff,Nat.reduceAdd,Nat.reduceSub,Nat.reduceLeDiff,reduceCtorEq,Dy],fun j hj=>absurd hj (Nat.not_lt_zero j)⟩,.inl ⟨rfl,by rw[hX];simp only[go_sem, ↓reduceIte,Nat.reduceEqDiff,Nat.reduceAdd,Nat.reduceSub,Nat.reduceLeDiff,reduceCtorEq]⟩⟩ ?_
 rintro n_a env_a st_a ⟨k,rfl,ale,a11,a5,lL,aI1⟩ ev
 have a0:=ev 0 (by kernel_rfl);have a1:=ev 1 (by kernel_rfl);have MG:=ev 10 (by kernel_rfl)
 simp only[go_sem, ↓reduceIte,Nat.reduceEqDiff,Nat.reduceAdd,Nat.reduceSub,Nat.reduceLeDiff,reduceCtorEq,hX]at a0 a1 MG
 clear ev
 obtain⟨anx,ev,aR⟩:=lL
 have wX:=eL (i:=X) (n:=st_a.next) ai
 by_cases hk:(k:Int)<(cnt:Int)
 ·have cY:∀{e:Env} {gg:Rows} {nx:Nat},(e 11=.int .i64 (IntKind.i64.wrap ((k:Int)+1)))->(e 5=(.ptr X 0 0))->(nx=σ.next+3+4*(k+1)/\(∀i:Id,i.cV<σ.next->gg i=σ.get i)/\∀j,j<(k+1)->gg (R1 j)=some ⟨true,1,ej (fun _=>0) cnt⟩/\gg (R2 j)=some ⟨true,1,ej (fun _=>0) cnt⟩)->(((k+1)=0/\gg X=some ⟨true,2,[[.bS,.bS]]⟩)∨∃o1 o2:Id,o1.site=299004008/\o2.site=299005008/\o1.cV<nx/\o2.cV<nx/\σ.next<=o1.cV/\σ.next<=o2.cV/\gg X=some ⟨true,2,[[.own o1 0 (k+1),.own o2 0 (k+1)]]⟩/\gg o1=some ⟨true,1,kG R1 cnt (k+1)⟩/\gg o2=some ⟨true,1,kG R2 cnt (k+1)⟩)->∃m0,m0<(cnt)-k/\∃k:Nat,m0=(cnt)-k/\k<=(cnt)/\e 11=.int .i64 (k:Int)/\e 5=(.ptr X 0 0)/\(nx=σ.next+3+4*k/\(∀i:Id,i.cV<σ.next->gg i=σ.get i)/\∀j,j<k->gg (R1 j)=some ⟨true,1,ej (fun _=>0) cnt⟩/\gg (R2 j)=some ⟨true,1,ej (fun _=>0) cnt⟩)/\((k=0/\gg X=some ⟨true,2,[[.bS,.bS]]⟩)∨∃o1 o2:Id,o1.site=299004008/\o2.site=299005008/\o1.cV<nx/\o2.cV<nx/\σ.next<=o1.cV/\σ.next<=o2.cV/\gg X=some ⟨true,2,[[.own o1 0 k,.own o2 0 k]]⟩/\gg o1=some ⟨true,1,kG R1 cnt k⟩/\gg o2=some ⟨true,1,kG R2 cnt k⟩):=fun x1 x2 x3 x4=>⟨_,ai,k+1,rfl,ai,(by rw[x1,aI ai]),x2,x3,x4⟩
  have fM:k<cnt:=ai
  have wL:R1 k=⟨299004006,st_a.next+1⟩:=by rw[Q0,anx]
  have uQ:R2 k=⟨299005006,st_a.next+1+1⟩:=by rw[Q1,anx]
  have CD:kG R1 cnt (k+1)=kG R1 cnt k++[[.own ⟨299004006,st_a.next+1⟩ 0 cnt]]:=by rw[sE,wL]
  have Lx:kG R2 cnt (k+1)=kG R2 cnt k++[[.own ⟨299005006,st_a.next+1+1⟩ 0 cnt]]:=by rw[sE,uQ]
  rcases aI1 with⟨rfl,QB⟩|⟨o1,o2,so1,so2,vo1,Sc,vn1,vn2,QB,ag1,ag2⟩
  ·(try((repeat(revert hN;revert N;apply Pn.out));refine wk (tw @a11 (tw @a5 (tw @a0 (tw @a1 (tw @MG (tw @hk (tw @wX (tw @QB (tw @jt (tw @pr (tw @Int.le_refl @hz))))))))))) ?_;(repeat(refine Pn.mk ?_;intro N hN))))
   refine cY ?_ ?_ (by
    (try dsimp only)
    refine⟨ai,fun i hi=>?_,fun j hj=>?_⟩
    ·have q1:=eL (i:=i) (n:=st_a.next) ai
     have q2:=dr (a:=i) (b:=X) ai
     have:=ev i hi
     simp only[go_sem, ↓reduceIte,Nat.reduceEqDiff,Nat.reduceAdd,Nat.reduceSub,Nat.reduceLeDiff,reduceCtorEq,q1,q2,this]
    ·by_cases xV:j=0
     ·subst xV
      rw[wL,uQ]
      have q1:=gQ sX (b:=299004006) (v:=st_a.next+1) (by decide)
      have q2:=gQ sX (b:=299005006) (v:=st_a.next+1+1) (by decide)
      simp only[go_sem, ↓reduceIte,Nat.reduceEqDiff,Nat.reduceAdd,Nat.reduceSub,Nat.reduceLeDiff,reduceCtorEq,q1,q2]
     ·obtain⟨r1,r2⟩:=aR j ai
      have q1:=eL (i:=R1 j) (n:=st_a.next) (by rw[v1];omega)
      have q2:=eL (i:=R2 j) (n:=st_a.next) (by rw[v2];omega)
      have q3:=zP (s1 j) sX (by decide)
      have q4:=zP (s2 j) sX (by decide)
      constructor
      ·simp only[go_sem, ↓reduceIte,Nat.reduceEqDiff,Nat.reduceAdd,Nat.reduceSub,Nat.reduceLeDiff,reduceCtorEq,q1,q3,r1]
      ·simp only[go_sem, ↓reduceIte,Nat.reduceEqDiff,Nat.reduceAdd,Nat.reduceSub,Nat.reduceLeDiff,reduceCtorEq,q2,q4,r2]) (.inr ⟨⟨299004008,st_a.next+1⟩,⟨299005008,st_a.next+1+1⟩,rfl,rfl,bK,bK,bK,bK,sd @wX,by rw[CD,t1];simp only[go_sem, ↓reduceIte,Nat.reduceEqDiff,Nat.reduceAdd,Nat.reduceSub,Nat.reduceLeDiff,reduceCtorEq,wX,List.nil_append],by rw[Lx,t2];simp only[go_sem, ↓reduceIte,Nat.reduceEqDiff,Nat.reduceAdd,Nat.reduceSub,Nat.reduceLeDiff,reduceCtorEq,wX,List.nil_append]⟩)
   all_goals simp only[go_sem, ↓reduceIte,Nat.reduceEqDiff,Nat.reduceAdd,Nat.reduceSub,Nat.reduceLeDiff,reduceCtorEq,a11,a5,a0,a1,MG,wX]
  ·have l1:=jT R1 cnt k
   have l2:=jT R2 cnt k
   have e1:k+1<=16777216:=ai
   have w1:=eL vo1
   have w2:=eL Sc
   have x1:=zP sX so1 (by decide)
   have x2:=zP sX so2 (by decide)
   have x3:=zP so1 so2 (by decide)
   (try((repeat(revert hN;revert N;apply Pn.out));refine wk (tw @a11 (tw @a5 (tw @a0 (tw @a1 (tw @MG (tw @hk (tw @wX (tw @QB (tw @ag1 (tw @ag2 (tw @l1 (tw @l2 (tw @e1 (tw @w1 (tw @w2 (tw @x1 (tw @x2 (tw @x3 (tw @jt (tw @pr (tw @Int.le_refl @hz))))))))))))))))))))) ?_;(repeat(refine Pn.mk ?_;intro N hN))))
   refine cY ?_ ?_ (by
    (try dsimp only)
    refine⟨ai,fun i hi=>?_,fun j hj=>?_⟩
    ·have q1:=eL (i:=i) (n:=st_a.next) ai
     have q2:=dr (a:=i) (b:=X) ai
     have q3:=dr (a:=i) (b:=o1) ai
     have q4:=dr (a:=i) (b:=o2) ai
     have:=ev i hi
     simp only[go_sem, ↓reduceIte,Nat.reduceEqDiff,Nat.reduceAdd,Nat.reduceSub,Nat.reduceLeDiff,reduceCtorEq,q1,q2,this,q3,q4]
    ·by_cases xV:j=k
     ·subst xV
      rw[wL,uQ]
      have q1:=gQ sX (b:=299004006) (v:=st_a.next+1) (by decide)
      have q2:=gQ sX (b:=299005006) (v:=st_a.next+1+1) (by decide)
      simp only[go_sem, ↓reduceIte,Nat.reduceEqDiff,Nat.reduceAdd,Nat.reduceSub,Nat.reduceLeDiff,reduceCtorEq,q1,q2,w1,w2]
     ·obtain⟨r1,r2⟩:=aR j ai
      have q1:=eL (i:=R1 j) (n:=st_a.next) (by rw[v1];omega)
      have q2:=eL (i:=R2 j) (n:=st_a.next) (by rw[v2];omega)
      have q3:=zP (s1 j) sX (by decide)
      have q4:=zP (s2 j) sX (by decide)
      have q5:=zP (s1 j) so1 (by decide)
      have q6:=zP (s1 j) so2 (by decide)
      have q7:=zP (s2 j) so1 (by decide)
      have q8:=zP (s2 j) so2 (by decide)
      constructor
      ·simp only[go_sem, ↓reduceIte,Nat.reduceEqDiff,Nat.reduceAdd,Nat.reduceSub,Nat.reduceLeDiff,reduceCtorEq,q1,q3,r1,q5,q6]
      ·simp only[go_sem, ↓reduceIte,Nat.reduceEqDiff,Nat.reduceAdd,Nat.reduceSub,Nat.reduceLeDiff,reduceCtorEq,q2,q4,r2,q7,q8]) (.inr ⟨⟨299004008,st_a.next+1⟩,⟨299005008,st_a.next+1+1⟩,rfl,rfl,bK,bK,bK,bK,sd @wX,by rw[CD];simp only[go_sem, ↓reduceIte,Nat.reduceEqDiff,Nat.reduceAdd,Nat.reduceSub,Nat.reduceLeDiff,reduceCtorEq,wX,w1,w2],by rw[Lx];simp only[go_sem, ↓reduceIte,Nat.reduceEqDiff,Nat.reduceAdd,Nat.reduceSub,Nat.reduceLeDiff,reduceCtorEq,wX,w1,w2]⟩)
   all_goals simp only[go_sem, ↓reduceIte,Nat.reduceEqDiff,Nat.reduceAdd,Nat.reduceSub,Nat.reduceLeDiff,reduceCtorEq,a11,a5,a0,a1,MG,wX,w1,w2,x1,x2,x3]
 have ml:cnt=k:=ai
 subst ml
 rcases aI1 with⟨h0,_⟩|⟨o1,o2,so1,so2,vo1,Sc,vn1,vn2,QB,ag1,ag2⟩
 ·omega
 (try((repeat(revert hN;revert N;apply Pn.out));refine wk (tw @a11 (tw @a5 (tw @a0 (tw @a1 (tw @MG @hk))))) ?_;(repeat(refine Pn.mk ?_;intro N hN))))
 have I:HJ X o1 o2 R1 R2 cnt st_a.next:=⟨sX,so1,so2,fun i _=>s1 i,fun i _=>s2 i,fun i j _ _ h=>by have:=v1 i;rw[h,v1]at this;omega,fun i j _ _ h=>by have:=v2 i;rw[h,v2]at this;omega,ai,vo1,Sc,fun i hi=>by rw[v1];omega,fun i hi=>by rw[v2];omega⟩
 refine bF (fun n env st=>∃i:Nat,n=(bs.length)-i/\i<=(bs.length)/\env 38=.int .i64 (i:Int)/\(st_a.next<=st.next/\(∀x:Id,x.cV<σ.next->st.get x=σ.get x)/\pE st.get X o1 o2 R1 R2 cnt (kE (bs.take i)) (fun _ _=>0))) (bs.length) ⟨0,ai,ai,sl (tw @a11 (tw @a5 (tw @a0 (tw @a1 @MG)))),⟨bK,ev,QB,ag1,ag2,fun j hj=>(aR j hj).1,fun j hj=>(aR j hj).2⟩⟩ ?_
 rintro n_b env_b st_b ⟨i,rfl,ble,b38,bI0⟩ bfr
 have b0:=bfr 0 (by kernel_rfl);have b1:=bfr 1 (by kernel_rfl);have b5:=bfr 5 (by kernel_rfl);have P5:=bfr 36 (by kernel_rfl);have P6:=bfr 37 (by kernel_rfl)
 simp only[go_sem, ↓reduceIte,Nat.reduceEqDiff,Nat.reduceAdd,Nat.reduceSub,Nat.reduceLeDiff,reduceCtorEq,a11,a5,a0,a1,MG]at b0 b1 b5 P5 P6
 clear bfr
 obtain⟨bn,NK,bM⟩:=bI0
 by_cases hi:(i:Int)<(bs.length:Int)
 ·have j5:∀{e:Env} {gg:Rows} {nx:Nat},(e 38=.int .i64 (IntKind.i64.wrap ((i:Int)+1)))->(st_a.next<=nx/\(∀x:Id,x.cV<σ.next->gg x=σ.get x)/\pE gg X o1 o2 R1 R2 cnt (kE (bs.take (i+1))) (fun _ _=>0))->∃m0,m0<(bs.length)-i/\∃i:Nat,m0=(bs.length)-i/\i<=(bs.length)/\e 38=.int .i64 (i:Int)/\(st_a.next<=nx/\(∀x:Id,x.cV<σ.next->gg x=σ.get x)/\pE gg X o1 o2 R1 R2 cnt (kE (bs.take i)) (fun _ _=>0)):=fun x1 x2=>⟨_,ai,i+1,rfl,ai,(by rw[x1,aI ai]),x2⟩
  have fP:i<bs.length:=ai
  have kO:(bs.map aB)[i]? =some (aB bs[i]):=by simp[fP]
  have fW:=hb _ (List.getElem_mem fP)
  have hsi:=eb _ (List.getElem_mem fP)
  have r9:kE (bs.take (i+1))=ni (kE (bs.take i)) bs[i]:=by rw[List.take_succ_eq_append_getElem fP,Eg]
  have pY:=zG (bs.take i) (fun _ _=>0) (fun b hb=>(eb b (List.mem_of_mem_take hb)).1) (fun _ _=>Int.le_refl _)
  have hle:=room_le (bs.take i) (fun _ _=>0) 0 (fun b hb=>(eb b (List.mem_of_mem_take hb)).2) (fun _ _=>Int.le_refl _) (Int.le_refl _)
  rw[List.length_take]at hle
  have fV:(bs.take i).foldl ni (fun _ _=>0)=kE (bs.take i):=rfl
  rw[fV]at pY hle
  generalize kE (bs.take i)=c at *
  generalize bs[i]=b at *
  obtain⟨ha,rZ⟩:=fW
  have gA:=rn (R:=R1) (n:=cnt) ha
  have gB:=rn (R:=R1) (n:=cnt) rZ
  have rA:=bM.r1 _ ha
  have rB:=bM.r1 _ rZ
  have cA:=ec (f:=c b.a) rZ
  have cB:=ec (f:=c b.b) ha
  have sA:=nO (f:=c) (a:=b.a) (d:=b.s) rZ
  have gX:=bM.x
  have g1:=bM.t1
  have gG:(b.a:Int)<(cnt:Int):=ai
  have fW:(b.b:Int)<(cnt:Int):=ai
  have qX:=eL (i:=X) (n:=st_b.next) ai
  have q1:=eL (i:=o1) (n:=st_b.next) ai
  have qA:=eL (i:=R1 b.a) (n:=st_b.next) (by rw[v1];omega)
  have qB:=eL (i:=R1 b.b) (n:=st_b.next) (by rw[v1];omega)
  have xA:=zP sX (s1 b.a) (by decide)
  have xB:=zP sX (s1 b.b) (by decide)
  have yA:=zP so1 (s1 b.a) (by decide)
  have yB:=zP so1 (s1 b.b) (by decide)
  have l1:=jT R1 cnt cnt
  have lA:=dY (c b.a) cnt
  have lB:=dY (c b.b) cnt
  have hAB:=hle b.a b.b
  have hBA:=hle b.b b.a
  have gAB:=pY b.a b.b
  have gBA:=pY b.b b.a
  have wA:IntKind.i64.wrap (c b.a b.b+b.s)=c b.a b.b+b.s:=bP ai
  by_cases pW:b.a=b.b
  ·obtain⟨ba,bb,s⟩:=b
   dsimp only at *
   subst pW
   have OQ:=nO (f:=bump c ba ba s) (a:=ba) (b:=ba) (d:=s) (n:=cnt) ha
   have Uo:=ec (f:=bump c ba ba s ba) ha
   have hv:bump c ba ba s ba ba=c ba ba+s:=by simp[bump]
   have lC:=dY (bump c ba ba s ba) cnt
   have wB:IntKind.i64.wrap (c ba ba+s+s)=c ba ba+s+s:=bP ai
   rw[hv]at OQ Uo
   have r4:ni c ⟨ba,ba,s⟩ ba=bump (bump c ba ba s) ba ba s ba:=rfl
   rw[bt]at cA sA OQ Uo
   (try((repeat(revert hN;revert N;apply Pn.out));refine wk (tw @b38 (tw @b0 (tw @b1 (tw @b5 (tw @P5 (tw @P6 (tw @hi (tw @kO (tw @aB.eq_1 (tw @gA (tw @rA (tw @cA (tw @sA (tw @gX (tw @g1 (tw @gG (tw @qX (tw @q1 (tw @qA (tw @xA (tw @yA (tw @l1 (tw @lA (tw @wA (tw @OQ (tw @Uo (tw @lC @wB))))))))))))))))))))))))))) ?_;(repeat(refine Pn.mk ?_;intro N hN))))
   exact j5 (sd (tw @b38 (tw @b0 (tw @b1 (tw @b5 (tw @P5 @P6)))))) (by
    (try dsimp only)
    refine⟨ai,fun x hx=>?_,?_⟩
    ·have p1:=eL (i:=x) (n:=st_b.next) ai
     have p2:=dr (a:=x) (b:=R1 ba) (by rw[v1];omega)
     have:=NK x hx
     simp only[go_sem, ↓reduceIte,Nat.reduceEqDiff,Nat.reduceAdd,Nat.reduceSub,Nat.reduceLeDiff,reduceCtorEq,p1,p2,this]
    ·rw[r9]
     refine bM.add I ⟨ba,ba,s⟩ ha ha (fun h=>absurd rfl h) ?_ fun x hx h1 h2=>?_
     ·rw[r4]
      simp only[go_sem, ↓reduceIte,Nat.reduceEqDiff,Nat.reduceAdd,Nat.reduceSub,Nat.reduceLeDiff,reduceCtorEq]
     ·have p1:=eL (i:=x) (n:=st_b.next) ai
      (try dsimp only at h2)
      simp only[go_sem, ↓reduceIte,Nat.reduceEqDiff,Nat.reduceAdd,Nat.reduceSub,Nat.reduceLeDiff,reduceCtorEq,p1,h2])
  ·have gP:(R1 b.a=R1 b.b)=False:=by simp only[eq_iff_iff,iff_false];exact fun h=>pW (I.i1 _ _ ha rZ h)
   have IM:(R1 b.b=R1 b.a)=False:=by simp only[eq_iff_iff,iff_false];exact fun h=>pW (I.i1 _ _ ha rZ h.symm)
   have OJ:bump c b.a b.b b.s b.b=c b.b:=jM fun h=>pW h.symm
   have OQ:=nO (f:=bump c b.a b.b b.s) (a:=b.b) (b:=b.a) (d:=b.s) (n:=cnt) ha
   rw[OJ]at OQ
   have wB:IntKind.i64.wrap (c b.b b.a+b.s)=c b.b b.a+b.s:=bP ai
   have r4:ni c b b.b=bump (bump c b.a b.b b.s) b.b b.a b.s b.b:=rfl
   rw[bt]at cA cB sA OQ
   (try((repeat(revert hN;revert N;apply Pn.out));refine wk (tw @b38 (tw @b0 (tw @b1 (tw @b5 (tw @P5 (tw @P6 (tw @hi (tw @kO (tw @aB.eq_1 (tw @gA (tw @gB (tw @rA (tw @rB (tw @cA (tw @cB (tw @sA (tw @gX (tw @g1 (tw @gG (tw @fW (tw @qX (tw @q1 (tw @qA (tw @qB (tw @xA (tw @xB (tw @yA (tw @yB (tw @l1 (tw @lA (tw @lB (tw @wA (tw @OQ (tw @wB (tw @gP @IM))))))))))))))))))))))))))))))))))) ?_;(repeat(refine Pn.mk ?_;intro N hN))))
   exact j5 (sd (tw @b38 (tw @b0 (tw @b1 (tw @b5 (tw @P5 @P6)))))) (by
    (try dsimp only)
    refine⟨ai,fun x hx=>?_,?_⟩
    ·have p1:=eL (i:=x) (n:=st_b.next) ai
     have p2:=dr (a:=x) (b:=R1 b.b) (by rw[v1];omega)
     have p3:=dr (a:=x) (b:=R1 b.a) (by rw[v1];omega)
     have:=NK x hx
     simp only[go_sem, ↓reduceIte,Nat.reduceEqDiff,Nat.reduceAdd,Nat.reduceSub,Nat.reduceLeDiff,reduceCtorEq,p1,p2,p3,this]
    ·rw[r9]
     refine bM.add I b ha rZ (fun h=>?_) ?_ fun x hx h1 h2=>?_
     ·simp only[go_sem, ↓reduceIte,Nat.reduceEqDiff,Nat.reduceAdd,Nat.reduceSub,Nat.reduceLeDiff,reduceCtorEq,gP]
     ·rw[r4]
      simp only[go_sem, ↓reduceIte,Nat.reduceEqDiff,Nat.reduceAdd,Nat.reduceSub,Nat.reduceLeDiff,reduceCtorEq,gP]
     ·have p1:=eL (i:=x) (n:=st_b.next) ai
      simp only[go_sem, ↓reduceIte,Nat.reduceEqDiff,Nat.reduceAdd,Nat.reduceSub,Nat.reduceLeDiff,reduceCtorEq,p1,h1,h2])
 ·have mi:i=bs.length:=ai
  subst mi
  rw[List.take_length]at bM
  (try((repeat(revert hN;revert N;apply Pn.out));refine wk (tw @b38 (tw @b0 (tw @b1 (tw @b5 (tw @P5 (tw @P6 @hi)))))) ?_;(repeat(refine Pn.mk ?_;intro N hN))))
  exact fJ (.inl rfl) (vs:=[.ptr X 0 0]) (sd @Nat.zero_add) ⟨X,o1,o2,R1,R2,rfl,⟨I.sx,I.s1,I.s2,I.Tn,I.Nn,I.i1,I.i2,by have:=I.vx;(try dsimp only);omega,by have:=I.v1;(try dsimp only);omega,by have:=I.v2;(try dsimp only);omega,fun j hj=>by have:=I.Vr j hj;(try dsimp only);omega,fun j hj=>by have:=I.Sd j hj;(try dsimp only);omega⟩,bK,bM,NK⟩
end Go.Proofs.YtgoljkjaameagaaGreat.V

namespace Go.Proofs.YtgoljkjaameagaaGreat.V
structure Bq (n:Nat) (c f:Nat->Nat->Int) (x:Nat) (par:Nat->Int) (Q:List Nat) (i:Nat):Prop where
 nodup:Q.Nodup
 lt:∀v∈Q,v<n
 root:par x=(x:Int)
 mem:x∈Q
 iff:∀v,v<n->(0<=par v↔v∈Q)
 up:∀v∈Q,v≠x->∃u,u∈Q/\par v=(u:Int)/\Q.idxOf u<Q.idxOf v/\f u v<c u v
 done:∀j (_:j<i) (hl:j<Q.length) (v:Nat),v<n->f Q[j] v<c Q[j] v->v∈Q
 ile:i<=Q.length
section
variable {n:Nat} {c f:Nat->Nat->Int} {x:Nat} {par:Nat->Int} {Q:List Nat} {i:Nat}
theorem Bq.len (h:Bq n c f x par Q i):Q.length<=n:=oi n Q h.nodup h.lt
theorem Bq.start (hx:x<n):Bq n c f x (fun v=>if v=x then(x:Int)else -1) [x] 0:=by
 refine⟨by simp,fun v hv=>by simp at hv;omega,by simp,by simp,fun v hv=>?_,fun v hv gP=>absurd (by simpa using hv) gP,fun j hj=>ai,by simp⟩
 by_cases h:v=x
 ·simp[h]
 ·simp[h]
theorem Bq.visit (h:Bq n c f x par Q i) (hi:i<Q.length) {v:Nat} (hv:v<n) (hp:par v<0) (hr:f Q[i] v<c Q[i] v):Bq n c f x (fun w=>if w=v then(Q[i]:Int)else par w) (Q++[v]) i:=by
 have Vc:v∉Q:=fun hm=>by have:=(h.iff v hv).2 hm;omega
 have Vh:x≠v:=fun e=>Vc (e▸h.mem)
 have ze:∀u∈Q,(Q++[v]).idxOf u=Q.idxOf u:=fun u hu=>by rw[List.idxOf_append,if_pos hu]
 have uR:(Q++[v]).idxOf v=Q.length:=by rw[List.idxOf_append,if_neg Vc];simp
 refine⟨?_,fun w hw=>?_,by simp only[if_neg Vh];exact h.root,by simp[h.mem],fun w hw=>?_,fun w hw gP=>?_,fun j hj hl w hw IY=>?_,by simp;omega⟩
 ·refine List.nodup_append.2 ⟨h.nodup,by simp,fun a ha b hb=>?_⟩
  rw[List.mem_singleton.1 hb]
  rintro rfl;exact Vc ha
 ·rcases List.mem_append.1 hw with hw|hw
  ·exact h.lt w hw
  ·rw[List.mem_singleton.1 hw];exact hv
 ·by_cases Fj:w=v
  ·subst Fj;simp
  ·rw[if_neg Fj,h.iff w hw];simp[Fj]
 ·by_cases Fj:w=v
  ·subst Fj
   refine⟨Q[i],by simp,by simp,?_,hr⟩
   rw[ze _ (List.getElem_mem hi),uR]
   exact List.idxOf_lt_length_of_mem (List.getElem_mem hi)
  ·have hwQ:w∈Q:=by
    rcases List.mem_append.1 hw with hw|hw
    ·exact hw
    ·exact absurd (List.mem_singleton.1 hw) Fj
   obtain⟨u,h1,h2,h3,h4⟩:=h.up w hwQ gP
   exact⟨u,by simp[h1],by rw[if_neg Fj];exact h2,by rw[ze u h1,ze w hwQ];exact h3,h4⟩
 ·have gZ:j<Q.length:=by have:=h.ile;omega
  rw[List.getElem_append_left gZ]at IY
  exact List.mem_append_left _ (h.done j hj gZ w hw IY)
theorem Bq.next (h:Bq n c f x par Q i) (hi:i<Q.length) (ee:∀v,v<n->f Q[i] v<c Q[i] v->0<=par v):Bq n c f x par Q (i+1):=by
 refine⟨h.nodup,h.lt,h.root,h.mem,h.iff,h.up,fun j hj hl v hv hr=>?_,ai⟩
 by_cases mj:j=i
 ·subst mj;exact(h.iff v hv).1 (ee v hv hr)
 ·exact h.done j ai hl v hv hr
theorem Bq.cut (h:Bq n c f x par Q Q.length) {y:Nat} (hy:y<n) (hp:par y<0):∃S:Nat->Bool,S x=true/\S y=false/\∀u v,u<n->v<n->S u=true->S v=false->¬f u v<c u v:=by
 refine⟨fun v=>decide (v∈Q),by simp[h.mem],?_,fun u v hu hv h1 h2 hr=>?_⟩
 ·have:y∉Q:=fun hm=>by have:=(h.iff y hy).2 hm;omega
  simp[this]
 ·simp only[decide_eq_true_eq,decide_eq_false_iff_not]at h1 h2
  obtain⟨j,hj,rfl⟩:=List.getElem_of_mem h1
  exact h2 (h.done j hj hj v hv hr)
def ud (c f:Nat->Nat->Int) (Q:List Nat) (y k:Nat) (out:List Nat):Prop:=∃rest,out.reverse=k::rest/\(k::rest).getLast (by simp)=y/\ql f c (k::rest)/\(k::rest).Pairwise (fun a b=>Q.idxOf a<Q.idxOf b)/\∀v∈k::rest,v∈Q
theorem ud.start {y:Nat} (hy:y∈Q):ud c f Q y y [y]:=⟨[],rfl,rfl,trivial,by simp,by simpa using hy⟩
theorem ud.step {y k u:Nat} {out:List Nat} (h:ud c f Q y k out) (hu:u∈Q) (hi:Q.idxOf u<Q.idxOf k) (hr:f u k<c u k):ud c f Q y u (out++[u]):=by
 obtain⟨rest,h1,h2,h3,h4,h5⟩:=h
 refine⟨k::rest,by rw[List.reverse_append,h1];rfl,by rw[List.getLast_cons (by simp)];exact h2,⟨hr,h3⟩,?_,?_⟩
 ·refine List.pairwise_cons.2 ⟨fun b hb=>?_,h4⟩
  rcases List.mem_cons.1 hb with rfl|hb
  ·exact hi
  ·have:=(List.pairwise_cons.1 h4).1 b hb;omega
 ·intro v hv
  rcases List.mem_cons.1 hv with rfl|hv
  ·exact hu
  ·exact h5 v hv
theorem ud.len {y k:Nat} {out:List Nat} (h:ud c f Q y k out) (hq:∀v∈Q,v<n):out.length<=n:=by
 obtain⟨rest,h1,_,_,h4,h5⟩:=h
 rw[<-List.length_reverse,h1]
 refine oi n _ (h4.imp fun eh he=>?_) fun v hv=>hq v (h5 v hv)
 subst he;omega
structure QA (n:Nat) (c f:Nat->Nat->Int) (x y:Nat) (p:List Nat):Prop where
 way:∃r,p=x::r/\(x::r).getLast (by simp)=y
 nodup:p.Nodup
 room:ql f c p
 lt:∀v∈p,v<n
theorem ud.way {y:Nat} {out:List Nat} (h:ud c f Q y x out) (hq:∀v∈Q,v<n):QA n c f x y out.reverse:=by
 obtain⟨rest,h1,h2,h3,h4,h5⟩:=h
 rw[h1]
 exact⟨⟨rest,rfl,h2⟩,h4.imp fun eh he=>by subst he;omega,h3,fun v hv=>hq v (h5 v hv)⟩
end
end Go.Proofs.YtgoljkjaameagaaGreat.V

namespace Go.Proofs.YtgoljkjaameagaaGreat.V
open Go.RowKit
attribute [local irreducible] dQ wpOps ft Call
attribute [local go_sem] aA eV ef e9 e8 cZ upd bQ K.av cr AV.cells AV.cell rowOf rowsOf part ld rowAt bD bL dm dD fE bu cK dO fa eF db dH cI cH dw dx bz aQ cz bx cD cC dF dI dG cw bC cJ dE bw az cF bZ fD bj cq bB aJ cX aX dn AV.undef bp br dy dC du dz cm dM dP bU dK dJ cE cG List.getD_cons_zero List.getD_cons_succ List.getD_nil List.all_cons List.all_nil Bool.and_true Bool.true_and Bool.and_self Bool.not_true Bool.not_false Option.map_some Option.map_none Option.bind_some Option.bind_none List.length_cons List.length_nil List.take_succ_cons List.take_zero List.take_nil List.drop_succ_cons List.drop_zero List.drop_nil List.head?_cons List.map_cons List.map_nil List.getElem?_cons_zero List.getElem?_cons_succ List.cons_append List.nil_append List.append_nil List.length_map List.set_cons_zero List.set_cons_succ Nat.reduceMul eq_self Int.toNat_natCast Int.natCast_nonneg and_self true_and and_true decide_true decide_false Bool.false_eq_true Nat.zero_add Nat.add_zero List.contains_cons List.contains_nil Bool.or_false Bool.false_or beq_self_eq_true Nat.reduceBEq ne_eq not_true_eq_false not_false_eq_true Id.mk.injEq false_and and_false Nat.reduceLT Int.reduceLE Int.reduceLT Int.reduceToNat Int.reduceNeg Int.reduceAdd Nat.le_refl List.length_append beq_true beq_false Bool.not_eq_eq_eq_not or_false false_or dR ab aj ay bo bJ aD aV aH aU cu bq
def lD (l:List Nat) (i x:Nat):Nat:=if x<i∨l.length-i<=x then l.getD (l.length-1-x) 0 else l.getD x 0
theorem yF (l:List Nat):l.map eN=dZ (fun x=>l.getD x 0) l.length:=by
 refine List.ext_getElem? fun i=>?_
 by_cases h:i<l.length
 ·rw[fA h,List.getElem?_map,List.getElem?_eq_getElem h];simp[List.getD_eq_getElem?_getD,h]
 ·rw[List.getElem?_eq_none (by simp;omega),List.getElem?_eq_none (by rw[gm];omega)]
theorem G3 (l:List Nat):dZ (lD l 0) l.length=l.map eN:=by
 rw[yF]
 exact gS fun x hx=>by unfold lD;rw[if_neg ai]
theorem JO (l:List Nat) {i:Nat} (h:l.length<=2*i+1) (hi:i<=l.length):dZ (lD l i) l.length=l.reverse.map eN:=by
 rw[yF l.reverse,List.length_reverse]
 refine gS fun x hx=>?_
 have hr:l.reverse.getD x 0=l.getD (l.length-1-x) 0:=by
  rw[List.getD_eq_getElem?_getD,List.getElem?_reverse hx,List.getD_eq_getElem?_getD]
 rw[hr]
 unfold lD
 by_cases hc:x<i∨l.length-i<=x
 ·rw[if_pos hc]
 ·rw[if_neg hc]
  have:x=l.length-1-x:=ai
  rw[<-this]
theorem G4 (l:List Nat) (hp:0<l.length) (hl:l.length<=1048576) (o:Id) (σ:au) (ho:σ.get o=some ⟨true,1,l.map eN⟩) (tV:o.cV<σ.next):
  Call Tryz.prog 329 [.own o 0 l.length] σ fun r σ'=>σ'.get o=some ⟨true,1,l.reverse.map eN⟩/\σ.next<=σ'.next/\∀i:Id,i.cV<σ.next->(i=o)=False->σ'.get i=σ.get i:=by
 refine fo eG rfl fun Bk=>?_
 clear Bk
 rw[<-G3]at ho
 have Fi:IntKind.i64.wrap ((l.length:Int)-1)=((l.length-1:Nat):Int):=by rw[bP ai];omega
 (try((repeat(revert hN;revert N;apply Pn.out));refine wk @Fi ?_;(repeat(refine Pn.mk ?_;intro N hN))))
 refine bF (fun m env st=>∃i:Nat,m=l.length-i/\2*i<=l.length+1/\i<=l.length/\env 2=.int .i64 (i:Int)/\env 3=.int .i64 ((l.length:Int)-1-i)/\st.get o=some ⟨true,1,dZ (lD l i) l.length⟩/\σ.next<=st.next/\∀x:Id,x.cV<σ.next->(x=o)=False->st.get x=σ.get x) l.length ⟨0,rfl,ai,ai,by(simp only[go_sem, ↓reduceIte,Nat.reduceEqDiff,Nat.reduceAdd,Nat.reduceSub,Nat.reduceLeDiff,reduceCtorEq])<;>rfl,by(simp only[go_sem, ↓reduceIte,Nat.reduceEqDiff,Nat.reduceAdd,Nat.reduceSub,Nat.reduceLeDiff,reduceCtorEq,Fi]);congr 1;omega,ho,bK,fun x _ _=>rfl⟩ ?_
 rintro m env_b st_b ⟨i,rfl,xT,mi,b2,b3,bg,bn,bfr⟩ bkp
 have b0:=bkp 0 (by kernel_rfl)
 simp only[go_sem, ↓reduceIte,Nat.reduceEqDiff,Nat.reduceAdd,Nat.reduceSub,Nat.reduceLeDiff,reduceCtorEq]at b0
 clear bkp
 have tl:=gm (lD l i) l.length
 have pd:=eL (i:=o) (n:=st_b.next) ai
 by_cases hi:(i:Int)<(l.length:Int)-1-i
 ·have fP:i<l.length:=ai
  obtain⟨j,hj⟩:∃j,j=l.length-1-i:=⟨_,rfl⟩
  have hZ:j<l.length:=ai
  have Lm:(l.length:Int)-1-i=(j:Int):=ai
  rw[Lm]at b3 hi
  have g1:=fA (f:=lD l i) fP
  have g2:=fA (f:=lD l i) hZ
  have e1:lD l i i=l.getD i 0:=by unfold lD;rw[if_neg ai]
  have e2:lD l i j=l.getD j 0:=by unfold lD;rw[if_neg ai]
  have M8:(dZ (lD l i) l.length).set i (eN (l.getD j 0))=dZ (fun x=>if x=i then l.getD j 0 else lD l i x) l.length:=oZ fP (if_pos rfl) fun x _ hx=>if_neg hx
  have IZ:(dZ (fun x=>if x=i then l.getD j 0 else lD l i x) l.length).set j (eN (l.getD i 0))=dZ (lD l (i+1)) l.length:=oZ hZ (by unfold lD;rw[if_pos ai];congr 1;omega) fun x hx Qq=>by
   by_cases CG:x=i
   ·rw[if_pos CG];unfold lD;rw[if_pos ai];congr 1;omega
   ·rw[if_neg CG];unfold lD
    by_cases hc:x<i∨l.length-i<=x
    ·rw[if_pos hc,if_pos ai]
    ·rw[if_neg hc,if_neg ai]
  have To:=gm (fun x=>if x=i then l.getD j 0 else lD l i x) l.length
  have g3:=fA (f:=fun x=>if x=i then l.getD j 0 else lD l i x) hZ
  rw[e1]at g1
  rw[e2]at g2
  rw[if_neg ai,e2]at g3
  rw[eN]at g1 g2 g3 M8 IZ
  have hii:(i:Int)<(l.length:Int):=ai
  have mj:(j:Int)<(l.length:Int):=ai
  have nB:IntKind.i64.wrap ((i:Int)+1)=((i+1:Nat):Int):=aI ai
  have pe:IntKind.i64.wrap ((j:Int)-1)=(l.length:Int)-1-((i+1:Nat):Int):=by rw[bP ai];omega
  (try((repeat(revert hN;revert N;apply Pn.out));refine wk (tw @b0 (tw @b2 (tw @b3 (tw @bg (tw @hi (tw @hii (tw @mj (tw @g1 (tw @g2 (tw @g3 (tw @M8 (tw @IZ (tw @tl (tw @To (tw @pd (tw @nB @pe)))))))))))))))) ?_;(repeat(refine Pn.mk ?_;intro N hN))))
  refine⟨_,?_,i+1,rfl,ai,ai,sd @nB,sd @pe,sd @IZ,bK,fun x hx HB=>?_⟩
  ·omega
  ·have:=bfr x hx HB
   simp only[go_sem, ↓reduceIte,Nat.reduceEqDiff,Nat.reduceAdd,Nat.reduceSub,Nat.reduceLeDiff,reduceCtorEq,HB,this]
 ·rw[JO l ai mi]at bg
  (try((repeat(revert hN;revert N;apply Pn.out));refine wk (tw @b0 (tw @b2 (tw @b3 (tw @bg @hi)))) ?_;(repeat(refine Pn.mk ?_;intro N hN))))
  exact fJ (.inr rfl) (vs:=[]) (by simp only[fj,go_sem, ↓reduceIte,Nat.reduceEqDiff,Nat.reduceAdd,Nat.reduceSub,Nat.reduceLeDiff,reduceCtorEq]) ⟨bg,bK,bfr⟩
theorem Sf (cnt:Nat) (zg:1<=cnt) (hn:cnt<=1048576) (c f:Nat->Nat->Int) (x y:Nat) (hx:x<cnt) (hy:y<cnt):
  mN Tryz.prog 301 [.dt (kY cnt c f),.int .i64 x,.int .i64 y] fun r=>(r=.bS/\∃S:Nat->Bool,S x=true/\S y=false/\∀u v,u<cnt->v<cnt->S u=true->S v=false->¬f u v<c u v)∨∃p:List Nat,r=.sl (p.map eN)/\QA cnt c f x y p:=by
 refine mN.body eG rfl fun hl n0=>?_
 clear hl
 have lM:=wi c cnt
 have jt:(0:Int)<=(cnt:Int):=ai
 have CG:(x:Int)<(cnt:Int):=ai
 have Tj:(y:Int)<(cnt:Int):=ai
 (try((repeat(revert hN;revert N;apply Pn.out));refine wk (tw @kY.eq_1 @lM) ?_;(repeat(refine Pn.mk ?_;intro N hN))))
 refine .inr (aY _ _ _ _ _ (fun r σ1 hq=>?_) (JM cnt zg hn (-1) ⟨301002000,n0+1+1⟩ _ (sd @Nat.zero_add) bK))
 obtain⟨o,rfl,ho,Ls,Lt,kK⟩:=hq
 (try dsimp only at ho Ls Lt kK)
 refine hN _ _ ?_
 clear hN N
 have pd:=eL Lt
 have pr:(cnt:Int)<=1048576:=ai
 have Ra:qC<qC+cnt:=ai
 have gH:List.replicate cnt [AV.int .i64 (-1)]=ej (fun _=>-1) cnt:=by
  refine List.ext_getElem? fun i=>?_
  by_cases h:i<cnt
  ·rw[ec h,List.getElem?_replicate,if_pos h];rfl
  ·rw[List.getElem?_eq_none (by simp;omega),List.getElem?_eq_none (by rw[dY];omega)]
 rw[gH]at ho
 have Bp:(ej (fun _=>-1) cnt).set x (bt (x:Int))=ej (fun v=>if v=x then(x:Int)else -1) cnt:=kH hx (if_pos rfl) fun v _ hv=>if_neg hv
 have hg0:=ec (f:=fun _=>-1) hx
 have tl0:=dY (fun _=>-1) cnt
 rw[bt]at Bp hg0
 (try((repeat(revert hN;revert N;apply Pn.out));refine wk (tw @kY.eq_1 (tw @lM (tw @jt (tw @pr @pd)))) ?_;(repeat(refine Pn.mk ?_;intro N hN))))
 refine Kh ?_
 simp only[go_sem, ↓reduceIte,Nat.reduceEqDiff,Nat.reduceAdd,Nat.reduceSub,Nat.reduceLeDiff,reduceCtorEq,Ra]
 refine hN _ _ ?_
 clear hN N
 (try((repeat(revert hN;revert N;apply Pn.out));refine wk (tw @ho (tw @pd (tw @Bp (tw @hg0 (tw @tl0 @CG))))) ?_;(repeat(refine Pn.mk ?_;intro N hN))))
 obtain⟨C,hC⟩:∃C:Id,C=⟨301003001,σ1.next+1⟩:=⟨_,rfl⟩
 have Ru:=dr (a:=o) (b:=C) (by rw[hC];(try dsimp only);omega)
 have hCv:C.cV=σ1.next+1:=by rw[hC]
 refine bF (fun m env st=>∃(par:Nat->Int) (Q:List Nat) (i:Nat),m=cnt-i/\Bq cnt c f x par Q i/\st.get o=some ⟨true,1,ej par cnt⟩/\st.get C=some ⟨true,qC+cnt,(Q.drop i).map eN⟩/\σ1.next+1<st.next) cnt ⟨_,[x],0,rfl,Bq.start hx,sd @pd,by rw[hC];simp only[go_sem, ↓reduceIte,Nat.reduceEqDiff,Nat.reduceAdd,Nat.reduceSub,Nat.reduceLeDiff,reduceCtorEq,pd];rfl,bK⟩ ?_
 rintro m env_b st_b ⟨par,Q,i,rfl,hB,bgo,bgC,bn⟩ bkp
 have b0:=bkp 0 (by kernel_rfl)
 have b1:=bkp 1 (by kernel_rfl)
 have b2:=bkp 2 (by kernel_rfl)
 have b7:=bkp 7 (by kernel_rfl)
 have b8:=bkp 8 (by kernel_rfl)
 have b9:=bkp 9 (by kernel_rfl)
 rw[<-hC]at b9
 simp only[go_sem, ↓reduceIte,Nat.reduceEqDiff,Nat.reduceAdd,Nat.reduceSub,Nat.reduceLeDiff,reduceCtorEq]at b0 b1 b2 b7 b8 b9
 clear bkp
 have hQn:=hB.len
 have mi:=hB.ile
 have SU:((Q.drop i).map eN).length=Q.length-i:=by simp
 by_cases hi:i<Q.length
 ·have jZ:(0:Int)<((Q.length-i:Nat):Int):=ai
  have rG:Q.drop i=Q[i]::Q.drop (i+1):=List.drop_eq_getElem_cons hi
  obtain⟨u,hu⟩:∃u,u=Q[i]:=⟨_,rfl⟩
  have hun:u<cnt:=by rw[hu];exact hB.lt _ (List.getElem_mem hi)
  rw[<-hu]at rG
  (try((repeat(revert hN;revert N;apply Pn.out));refine wk (tw @b0 (tw @b1 (tw @b2 (tw @b7 (tw @b8 (tw @b9 (tw @bgC (tw @SU @jZ)))))))) ?_;(repeat(refine Pn.mk ?_;intro N hN))))
  refine Kh ?_
  rw[rG,List.map_cons,show eN u=[.int .i64 (u:Int)]from rfl]at bgC
  simp only[go_sem, ↓reduceIte,Nat.reduceEqDiff,Nat.reduceAdd,Nat.reduceSub,Nat.reduceLeDiff,reduceCtorEq,b9,bgC]
  refine hN _ _ ?_
  clear hN N
  (try((repeat(revert hN;revert N;apply Pn.out));refine wk @b7 ?_;(repeat(refine Pn.mk ?_;intro N hN))))
  refine bF (fun m env st=>∃(v:Nat) (par':Nat->Int) (Q':List Nat),m=cnt-v/\v<=cnt/\env 36=.int .i64 (v:Int)/\Bq cnt c f x par' Q' i/\(∃h:i<Q'.length,Q'[i]=u)/\st.get o=some ⟨true,1,ej par' cnt⟩/\st.get C=some ⟨true,qC+cnt,(Q'.drop (i+1)).map eN⟩/\σ1.next+1<st.next/\∀w,w<v->f u w<c u w->0<=par' w) cnt ⟨0,par,Q,rfl,Nat.zero_le _,by(simp only[go_sem, ↓reduceIte,Nat.reduceEqDiff,Nat.reduceAdd,Nat.reduceSub,Nat.reduceLeDiff,reduceCtorEq])<;>rfl,hB,⟨hi,hu.symm⟩,sd (tw @Ru @bgo),sd @Ru,bK,fun w hw=>absurd hw (Nat.not_lt_zero w)⟩ ?_
  rintro m env_c st_c ⟨v,par',Q',rfl,hvn,c36,dW,⟨pw,CE⟩,xJ,cgC,cn,ee⟩ ckp
  have c0:=ckp 0 (by kernel_rfl)
  have c1:=ckp 1 (by kernel_rfl)
  have c2:=ckp 2 (by kernel_rfl)
  have c7:=ckp 7 (by kernel_rfl)
  have c8:=ckp 8 (by kernel_rfl)
  have c9:=ckp 9 (by kernel_rfl)
  have jm:=ckp 10 (by kernel_rfl)
  have NN:=ckp 35 (by kernel_rfl)
  simp only[go_sem, ↓reduceIte,Nat.reduceEqDiff,Nat.reduceAdd,Nat.reduceSub,Nat.reduceLeDiff,reduceCtorEq,b0,b1,b2,b7,b8,b9]at c0 c1 c2 c7 c8 c9 jm NN
  clear ckp
  have tl:=dY par' cnt
  by_cases hv:(v:Int)<(cnt:Int)
  ·have Dz:v<cnt:=ai
   have OB:=ec (f:=par') Dz
   have kK:=N8 cnt c f u v hun Dz
   have hw:IntKind.i64.wrap ((v:Int)+1)=((v+1:Nat):Int):=aI ai
   rw[bt]at OB
   rw[kY]at kK
   by_cases jP:par' v<0
   ·by_cases hr:f u v<c u v
    ·rw[decide_eq_true hr]at kK
     have eI:(ej par' cnt).set v (bt (u:Int))=ej (fun w=>if w=v then(u:Int)else par' w) cnt:=kH Dz (if_pos rfl) fun w _ hw=>if_neg hw
     rw[bt]at eI
     have pa:=dW.visit pw Dz jP (by rw[CE];exact hr)
     rw[CE]at pa
     have hQ2:=pa.len
     rw[List.length_append]at hQ2
     simp only[List.length_singleton]at hQ2
     have fV:qC+(Q'.drop (i+1)).length<qC+cnt:=by rw[List.length_drop];omega
     (repeat(first|((repeat(revert hN;revert N;apply Pn.out));refine wk (tw @kY.eq_1 (tw @c0 (tw @c7 (tw @c8 (tw @c9 (tw @jm (tw @c36 (tw @NN (tw @hv (tw @xJ (tw @OB (tw @tl (tw @jP @eI))))))))))))) ?_;(repeat(refine Pn.mk ?_;intro N hN)))|((try apply Or.inl);refine⟨_,aq.x (kK) (sd (tw @kY.eq_1 (tw @c0 (tw @c7 (tw @c8 (tw @c9 (tw @jm (tw @c36 (tw @NN (tw @hv (tw @xJ (tw @OB (tw @tl (tw @jP @eI)))))))))))))),?_⟩;refine hN _ _ ?_;clear hN N)))
     refine Kh ?_
     have hq:(Q'.drop (i+1)).map eN++[[.int .i64 (v:Int)]]=((Q'++[v]).drop (i+1)).map eN:=by rw[List.drop_append_of_le_length ai,List.map_append];rfl
     simp only[go_sem, ↓reduceIte,Nat.reduceEqDiff,Nat.reduceAdd,Nat.reduceSub,Nat.reduceLeDiff,reduceCtorEq,c9,cgC,fV,Ru,hq]
     refine hN _ _ ?_
     clear hN N
     (try((repeat(revert hN;revert N;apply Pn.out));refine wk (tw @c36 @hw) ?_;(repeat(refine Pn.mk ?_;intro N hN))))
     refine⟨_,?_,v+1,_,_,rfl,Dz,sd @hw,pa,⟨by rw[List.length_append];omega,by rw[List.getElem_append_left pw];exact CE⟩,sd @Ru,sd @Ru,bK,fun w hw IY=>?_⟩
     ·omega
     ·by_cases Fj:w=v
      ·rw[if_pos Fj];omega
      ·rw[if_neg Fj];exact ee w ai IY
    ·rw[decide_eq_false hr]at kK
     (repeat(first|((repeat(revert hN;revert N;apply Pn.out));refine wk (tw @kY.eq_1 (tw @c0 (tw @c7 (tw @c8 (tw @c9 (tw @jm (tw @c36 (tw @NN (tw @hv (tw @xJ (tw @OB (tw @tl (tw @jP @hw))))))))))))) ?_;(repeat(refine Pn.mk ?_;intro N hN)))|((try apply Or.inl);refine⟨_,aq.x (kK) (sd (tw @kY.eq_1 (tw @c0 (tw @c7 (tw @c8 (tw @c9 (tw @jm (tw @c36 (tw @NN (tw @hv (tw @xJ (tw @OB (tw @tl (tw @jP @hw)))))))))))))),?_⟩;refine hN _ _ ?_;clear hN N)))
     refine⟨_,?_,v+1,par',Q',rfl,Dz,sd @hw,dW,⟨pw,CE⟩,sd @xJ,sd @cgC,bK,fun w hw IY=>?_⟩
     ·omega
     ·by_cases Fj:w=v
      ·subst Fj;exact absurd IY hr
      ·exact ee w ai IY
   ·(try((repeat(revert hN;revert N;apply Pn.out));refine wk (tw @kY.eq_1 (tw @c0 (tw @c7 (tw @c8 (tw @c9 (tw @jm (tw @c36 (tw @NN (tw @hv (tw @xJ (tw @OB (tw @tl (tw @jP @hw))))))))))))) ?_;(repeat(refine Pn.mk ?_;intro N hN))))
    refine⟨_,?_,v+1,par',Q',rfl,Dz,sd @hw,dW,⟨pw,CE⟩,sd @xJ,sd @cgC,bK,fun w hw IY=>?_⟩
    ·omega
    ·by_cases Fj:w=v
     ·subst Fj;omega
     ·exact ee w ai IY
  ·have hvc:v=cnt:=ai
   subst hvc
   (try((repeat(revert hN;revert N;apply Pn.out));refine wk (tw @c36 (tw @NN @hv)) ?_;(repeat(refine Pn.mk ?_;intro N hN))))
   refine⟨_,?_,par',Q',i+1,rfl,dW.next pw fun w hw hr=>ee w hw (by rw[<-CE];exact hr),sd @xJ,sd @cgC,bK⟩
   omega
 ·have hiQ:i=Q.length:=ai
  subst hiQ
  have jZ:¬(0:Int)<((Q.length-Q.length:Nat):Int):=ai
  have UE:=ec (f:=par) hy
  have tl:=dY par cnt
  rw[bt]at UE
  by_cases jP:par y<0
  ·(try((repeat(revert hN;revert N;apply Pn.out));refine wk (tw @b0 (tw @b1 (tw @b2 (tw @b7 (tw @b8 (tw @b9 (tw @bgC (tw @SU (tw @jZ (tw @bgo (tw @UE (tw @tl (tw @Tj @jP))))))))))))) ?_;(repeat(refine Pn.mk ?_;intro N hN))))
   exact⟨[.bS],sd @Nat.zero_add,.bS,jO _ _,.inl ⟨rfl,hB.cut hy jP⟩⟩
  ·(try((repeat(revert hN;revert N;apply Pn.out));refine wk (tw @b0 (tw @b1 (tw @b2 (tw @b7 (tw @b8 (tw @b9 (tw @bgC (tw @SU (tw @jZ (tw @bgo (tw @UE (tw @tl (tw @Tj @jP))))))))))))) ?_;(repeat(refine Pn.mk ?_;intro N hN))))
   refine bF (fun m env st=>∃(k:Nat) (out:List Nat) (p:Id),m=Q.idxOf k/\env 13=.int .i64 (k:Int)/\env 12=.own p 0 out.length/\st.get p=some ⟨true,1,out.map eN⟩/\p.cV<st.next/\st_b.next<=p.cV/\k∈Q/\ud c f Q y k out/\st.get o=some ⟨true,1,ej par cnt⟩) (Q.idxOf y) ⟨y,[y],⟨301017001,st_b.next+1+1⟩,rfl,by(simp only[go_sem, ↓reduceIte,Nat.reduceEqDiff,Nat.reduceAdd,Nat.reduceSub,Nat.reduceLeDiff,reduceCtorEq]),by(simp only[go_sem, ↓reduceIte,Nat.reduceEqDiff,Nat.reduceAdd,Nat.reduceSub,Nat.reduceLeDiff,reduceCtorEq])<;>rfl,by(simp only[go_sem, ↓reduceIte,Nat.reduceEqDiff,Nat.reduceAdd,Nat.reduceSub,Nat.reduceLeDiff,reduceCtorEq])<;>rfl,bK,bK,(hB.iff y hy).1 ai,ud.start ((hB.iff y hy).1 ai),by(have Ve:=eL (i:=o) (n:=st_b.next) ai);simp only[go_sem, ↓reduceIte,Nat.reduceEqDiff,Nat.reduceAdd,Nat.reduceSub,Nat.reduceLeDiff,reduceCtorEq,Ve,bgo]⟩ ?_
   rintro m env_d st_d ⟨k,out,p,rfl,d13,d12,dgp,dpn,dpo,hkQ,tP,dgo⟩ dkp
   have d1:=dkp 1 (by kernel_rfl)
   have d8:=dkp 8 (by kernel_rfl)
   simp only[go_sem, ↓reduceIte,Nat.reduceEqDiff,Nat.reduceAdd,Nat.reduceSub,Nat.reduceLeDiff,reduceCtorEq,b1,b8]at d1 d8
   clear dkp
   have Aj:=eL dpn
   have Bs:=eL (i:=o) (n:=st_d.next) ai
   have ez:=dr (a:=o) (b:=p) ai
   have Lp:=tP.len hB.lt
   have fM:=hB.lt k hkQ
   have kP:(out.map eN).length=out.length:=by simp
   by_cases S4:k=x
   ·have hd:decide ((k:Int)=(x:Int))=true:=decide_eq_true (by rw[S4])
    have U3:0<out.length:=by
     obtain⟨rest,h1,_⟩:=tP
     rw[<-List.length_reverse,h1];simp
    (try((repeat(revert hN;revert N;apply Pn.out));refine wk (tw @d1 (tw @d8 (tw @d12 (tw @d13 (tw @hd @Bool.not_true))))) ?_;(repeat(refine Pn.mk ?_;intro N hN))))
    refine .inr (aY _ _ _ _ _ (fun r σ2 hq=>?_) (G4 out U3 ai p _ dgp bK))
    obtain⟨Fb,mC,IG⟩:=hq
    refine hN _ _ ?_
    clear hN N
    (try((repeat(revert hN;revert N;apply Pn.out));refine wk @d12 ?_;(repeat(refine Pn.mk ?_;intro N hN))))
    refine⟨[.own p 0 out.length],sd @d12,.sl (out.reverse.map eN),?_,.inr ⟨out.reverse,rfl,by subst S4;exact tP.way hB.lt⟩⟩
    exact ig (sz:=1) Fb (by simp) fun a=>Oa _ 4 a
   ·have hd:decide ((k:Int)=(x:Int))=false:=decide_eq_false fun h=>S4 ai
    obtain⟨u,huQ,hpu,ze,hr⟩:=hB.up k hkQ S4
    have eU:=ec (f:=par) fM
    rw[bt,hpu]at eU
    have hki:(k:Int)<(cnt:Int):=ai
    have e1:out.length+1<=16777216:=ai
    (try((repeat(revert hN;revert N;apply Pn.out));refine wk (tw @d1 (tw @d8 (tw @d12 (tw @d13 (tw @hd (tw @Bool.not_false (tw @dgo (tw @dgp (tw @eU (tw @tl (tw @hki (tw @Aj (tw @Bs (tw @ez (tw @kP @e1))))))))))))))) ?_;(repeat(refine Pn.mk ?_;intro N hN))))
    refine⟨_,ze,u,out++[u],⟨301021003,st_d.next+1+1⟩,rfl,sd @Nat.zero_add,by rw[List.length_append];simp only[go_sem, ↓reduceIte,Nat.reduceEqDiff,Nat.reduceAdd,Nat.reduceSub,Nat.reduceLeDiff,reduceCtorEq,List.length_cons,List.length_nil],by rw[List.map_append,List.map_cons,List.map_nil];simp only[go_sem, ↓reduceIte,Nat.reduceEqDiff,Nat.reduceAdd,Nat.reduceSub,Nat.reduceLeDiff,reduceCtorEq,eN],bK,bK,huQ,tP.step huQ ze hr,sd (tw @Bs (tw @ez @dgo))⟩
theorem Aw (b:Nat):∀(l:List Nat) (a:Nat) (f:Nat->Nat->Int),lN f ((a::l)++[b])=j6 (lN f (a::l)) ((a::l).getLast (by simp)) b
 |[],a,f=>rfl
 |c::l,a,f=>by
  rw[List.cons_append,List.cons_append,lN,<-List.cons_append,Aw b l c (j6 f a c),lN,List.getLast_cons_cons]
theorem FQ {p:List Nat} {f:Nat->Nat->Int} {i:Nat} (h1:1<=i) (hi:i<p.length):lN f (p.take (i+1))=j6 (lN f (p.take i)) (p[i-1]'ai) p[i]:=by
 rw[List.take_succ_eq_append_getElem hi]
 have gP:p.take i≠[]:=by
  intro h
  have:(p.take i).length=0:=by rw[h];rfl
  rw[List.length_take]at this;omega
 obtain⟨a,l,SO⟩:∃a l,p.take i=a::l:=by
  cases h:p.take i with
  |nil=>exact absurd h gP
  |cons a l=>exact⟨a,l,rfl⟩
 have uR:(p.take i).getLast gP=p[i-1]'ai:=by
  rw[List.getLast_eq_getElem,List.getElem_take]
  congr 1
  rw[List.length_take];omega
 simp only[SO]at uR ⊢
 rw[Aw,uR]
theorem GZ (f:Nat->Nat->Int) (a b u v:Nat):j6 f a b u v<=f u v+1/\f u v-1<=j6 f a b u v:=by
 unfold j6 bump
 split<;>split<;>constructor<;>omega
theorem lO:∀(p:List Nat) (f:Nat->Nat->Int) (u v:Nat),lN f p u v<=f u v+p.length/\f u v-p.length<=lN f p u v
 |[],f,u,v=>by simp[lN]
 |[_],f,u,v=>by simp[lN];omega
 |a::b::r,f,u,v=>by
  rw[lN]
  have h1:=lO (b::r) (j6 f a b) u v
  have h2:=GZ f a b u v
  simp only[List.length_cons]at h1 ⊢
  omega
theorem pE.push {g g':Rows} {X o1 o2:Id} {R1 R2:Nat->Id} {n nb:Nat} {c f:Nat->Nat->Int} (I:HJ X o1 o2 R1 R2 n nb) (h:pE g X o1 o2 R1 R2 n c f) {a b:Nat} (ha:a<n) (hb:b<n) (pW:a≠b) (hA:g' (R2 a)=some ⟨true,1,ej (bump f a b 1 a) n⟩) (hB:g' (R2 b)=some ⟨true,1,ej (bump (bump f a b 1) b a (-1) b) n⟩) (hf:∀i:Id,i.cV<nb->(i=R2 a)=False->(i=R2 b)=False->g' i=g i):pE g' X o1 o2 R1 R2 n c (j6 f a b):=by
 have ne:∀{i:Id} {s:Nat},i.site=s->(s==299005006)=false->∀a,a<n->(i=R2 a)=False:=fun {i s} hi hs a ha=>by
  simp only[eq_iff_iff,iff_false]
  rintro rfl
  rw[I.Nn a ha]at hi
  subst hi
  simp at hs
 refine⟨(hf _ I.vx (ne I.sx (by decide) _ ha) (ne I.sx (by decide) _ hb)).trans h.x,(hf _ I.v1 (ne I.s1 (by decide) _ ha) (ne I.s1 (by decide) _ hb)).trans h.t1,(hf _ I.v2 (ne I.s2 (by decide) _ ha) (ne I.s2 (by decide) _ hb)).trans h.t2,fun i hi=>(hf _ (I.Vr i hi) (ne (I.Tn i hi) (by decide) _ ha) (ne (I.Tn i hi) (by decide) _ hb)).trans (h.r1 i hi),fun i hi=>?_⟩
 by_cases Kx:i=b
 ·subst Kx;exact hB
 ·by_cases Hx:i=a
  ·subst Hx
   rw[hA,j6,jM Kx]
  ·rw[j6,jM Kx,jM Hx,hf _ (I.Sd i hi) (by simp only[eq_iff_iff,iff_false];exact fun he=>Hx (I.i2 i _ hi ha he)) (by simp only[eq_iff_iff,iff_false];exact fun he=>Kx (I.i2 i _ hi hb he))]
   exact h.r2 i hi
theorem Pr (cnt:Nat) (zg:1<=cnt) (hn:cnt<=1048576) (c:Nat->Nat->Int) (hc:∀u v,u<cnt->v<cnt->0<=c u v/\c u v<=16777216) (x y:Nat) (hx:x<cnt) (hy:y<cnt) (RJ:x≠y) (t:Int) (ht:t<=1099511627776)
  (X o1 o2:Id) (R1 R2:Nat->Id) (nb:Nat) (I:HJ X o1 o2 R1 R2 cnt nb) (σ:au) (hM:pE σ.get X o1 o2 R1 R2 cnt c (fun _ _=>0)) (S8:nb<=σ.next):
  Call Tryz.prog 300 [.ptr X 0 0,.int .i64 x,.int .i64 y,.int .i64 t] σ fun r σ'=>∃val:Int,r=.int .i64 val/\(val<t↔∃S:Nat->Bool,S x=true/\S y=false/\lQ cnt S c<t)/\σ.next<=σ'.next:=by
 refine fo eG rfl fun hl=>?_
 clear hl
 have hxS:(fun v=>decide (v=x)) x=true:=by simp
 have hyS:(fun v=>decide (v=x)) y=false:=by simp;exact fun h=>RJ h.symm
 obtain⟨top,Vb⟩:∃top,top=lQ cnt (fun v=>decide (v=x)) c:=⟨_,rfl⟩
 (try((repeat(revert hN;revert N;apply Pn.out));refine wk @Nat.zero_add ?_;(repeat(refine Pn.mk ?_;intro N hN))))
 refine bF (fun m env st=>∃(k:Nat) (f:Nat->Nat->Int),m=(top-k).toNat/\env 9=.int .i64 (k:Int)/\nD cnt c f x y k/\pE st.get X o1 o2 R1 R2 cnt c f/\σ.next<=st.next/\(0<k->(k:Int)<=t)/\∀u v,-((k:Int)*(cnt:Int))<=f u v) (top-0).toNat ⟨0,fun _ _=>0,rfl,by(simp only[go_sem, ↓reduceIte,Nat.reduceEqDiff,Nat.reduceAdd,Nat.reduceSub,Nat.reduceLeDiff,reduceCtorEq])<;>rfl,nD.zero fun u v hu hv=>(hc u v hu hv).1,hM,bK,fun h=>absurd h (Nat.lt_irrefl 0),fun u v=>by simp⟩ ?_
 rintro m env_b st_b ⟨k,f,rfl,b9,hF,bM,bn,bk,blo⟩ bkp
 have b0:=bkp 0 (by kernel_rfl)
 have b1:=bkp 1 (by kernel_rfl)
 have b2:=bkp 2 (by kernel_rfl)
 have b3:=bkp 3 (by kernel_rfl)
 simp only[go_sem, ↓reduceIte,Nat.reduceEqDiff,Nat.reduceAdd,Nat.reduceSub,Nat.reduceLeDiff,reduceCtorEq]at b0 b1 b2 b3
 clear bkp
 have hz:de (dR st_b.get) 6 [.ptr X 0 0,.int .i64 (x:Int),.int .i64 (y:Int)]=some [.dt (kY cnt c f),.int .i64 x,.int .i64 y]:=by simp only[ab,aj,bM.fz,ay,Option.map_some]
 (try((repeat(revert hN;revert N;apply Pn.out));refine wk (tw @b0 (tw @b1 (tw @b2 (tw @b3 @b9)))) ?_;(repeat(refine Pn.mk ?_;intro N hN))))
 refine .inr (aY _ _ _ _ _ (fun r σ1 hq=>?_) ((Sf cnt zg hn c f x y hx hy).x mixed hz))
 obtain⟨OO,rfl⟩:=hq
 refine hN _ _ ?_
 clear hN N
 rcases OO with⟨rfl,S,Ov,Ow,SM⟩|⟨p,rfl,hW⟩
 ·(try((repeat(revert hN;revert N;apply Pn.out));refine wk (tw @b0 (tw @b1 (tw @b2 (tw @b3 (tw @b9 (tw @Bool.not_true @Bool.not_false)))))) ?_;(repeat(refine Pn.mk ?_;intro N hN))))
  refine fJ (.inl rfl) (vs:=[.int .i64 (k:Int)]) (sd @Nat.zero_add) ⟨(k:Int),rfl,⟨fun h=>⟨S,Ov,Ow,by rw[<-hF.full Ov Ow SM];exact h⟩,fun⟨S',h1,h2,h3⟩=>by have:=hF.bound h1 h2;omega⟩,bK⟩
 ·obtain⟨⟨rs,rfl,uR⟩,lu,fV,hplt⟩:=hW
  by_cases Ln:t<=(k:Int)
  ·(try((repeat(revert hN;revert N;apply Pn.out));refine wk (tw @b0 (tw @b1 (tw @b2 (tw @b3 (tw @b9 (tw @Ln (tw @Bool.not_true @Bool.not_false))))))) ?_;(repeat(refine Pn.mk ?_;intro N hN))))
   refine fJ (.inl rfl) (vs:=[.int .i64 (k:Int)]) (sd @Nat.zero_add) ⟨(k:Int),rfl,⟨fun h=>ai,fun⟨S',h1,h2,h3⟩=>by have:=hF.bound h1 h2;omega⟩,bK⟩
  ·(try((repeat(revert hN;revert N;apply Pn.out));refine wk (tw @b0 (tw @b1 (tw @b2 (tw @b3 (tw @b9 (tw @Ln (tw @Bool.not_true @Bool.not_false))))))) ?_;(repeat(refine Pn.mk ?_;intro N hN))))
   have k7:=oi cnt _ lu hplt
   have hkc:(k:Int)*(cnt:Int)<=1099511627776*1048576:=Int.mul_le_mul ai ai ai ai
   have hfb:=hF.bound (S:=fun v=>decide (v=x)) hxS hyS
   have hnear:=lO
   obtain⟨p,hp⟩:∃p,p=x::rs:=⟨_,rfl⟩
   have hmp:eN x::List.map eN rs=p.map eN:=by rw[hp];rfl
   rw[hmp]
   have OK:1<=p.length:=by rw[hp];simp
   have Ub:=hF.aug uR lu fV hplt
   rw[<-hp]at Ub lu fV hplt k7
   have OV:p.take 1=[x]:=by rw[hp];rfl
   clear hmp uR
   refine bF (fun m env st=>∃i:Nat,m=p.length-i/\1<=i/\i<=p.length/\env 11=.int .i64 (i:Int)/\pE st.get X o1 o2 R1 R2 cnt c (lN f (p.take i))/\st_b.next<=st.next) (p.length-1) ⟨1,rfl,Nat.le_refl _,OK,by(simp only[go_sem, ↓reduceIte,Nat.reduceEqDiff,Nat.reduceAdd,Nat.reduceSub,Nat.reduceLeDiff,reduceCtorEq])<;>rfl,by rw[OV];exact bM,bK⟩ ?_
   rintro m env_c st_c ⟨i,rfl,Lk,mi,nq,cM,cn⟩ ckp
   have c0:=ckp 0 (by kernel_rfl)
   have c1:=ckp 1 (by kernel_rfl)
   have c2:=ckp 2 (by kernel_rfl)
   have c3:=ckp 3 (by kernel_rfl)
   have c9:=ckp 9 (by kernel_rfl)
   have jm:=ckp 10 (by kernel_rfl)
   simp only[go_sem, ↓reduceIte,Nat.reduceEqDiff,Nat.reduceAdd,Nat.reduceSub,Nat.reduceLeDiff,reduceCtorEq,b0,b1,b2,b3,b9]at c0 c1 c2 c3 c9 jm
   clear ckp
   have kP:(p.map eN).length=p.length:=by simp
   by_cases hi:(i:Int)<(p.length:Int)
   ·have fP:i<p.length:=ai
    have xh:=FQ (f:=f) Lk fP
    obtain⟨a,ha⟩:∃a,a=p[i-1]'ai:=⟨_,rfl⟩
    obtain⟨b,hb⟩:∃b,b=p[i]:=⟨_,rfl⟩
    have E7:a<cnt:=by rw[ha];exact hplt _ (List.getElem_mem _)
    have E8:b<cnt:=by rw[hb];exact hplt _ (List.getElem_mem _)
    have pW:a≠b:=by
     rw[ha,hb]
     exact List.pairwise_iff_getElem.1 lu (i-1) i ai fP ai
    have Rk:(p.map eN)[i-1]? =some [.int .i64 (a:Int)]:=by rw[List.getElem?_map,List.getElem?_eq_getElem ai,ha];rfl
    have Rl:(p.map eN)[i]? =some [.int .i64 (b:Int)]:=by rw[List.getElem?_map,List.getElem?_eq_getElem fP,hb];rfl
    rw[<-ha,<-hb]at xh
    have UP:=lO (p.take i) f a b
    have UQ:=lO (p.take i) f b a
    rw[List.length_take]at UP UQ
    have hl1:=blo b a
    have hl2:=blo a b
    have RB:=hF.le a b E7 E8
    have hu2:=hF.le b a E8 E7
    have hca:=hc a b E7 E8
    have E9:=hc b a E8 E7
    generalize lN f (p.take i)=fl at *
    have gA:=rn (R:=R2) (n:=cnt) E7
    have gB:=rn (R:=R2) (n:=cnt) E8
    have rA:=cM.r2 _ E7
    have rB:=cM.r2 _ E8
    have cA:=ec (f:=fl a) E8
    have cB:=ec (f:=fl b) E7
    have sA:=nO (f:=fl) (a:=a) (d:=1) E8
    have OJ:bump fl a b 1 b=fl b:=jM fun h=>pW h.symm
    have sB:=nO (f:=bump fl a b 1) (a:=b) (b:=a) (d:=-1) (n:=cnt) E7
    rw[OJ]at sB
    have gX:=cM.x
    have g2:=cM.t2
    have gG:(a:Int)<(cnt:Int):=ai
    have fW:(b:Int)<(cnt:Int):=ai
    have Fi:IntKind.i64.wrap ((i:Int)-1)=((i-1:Nat):Int):=by rw[bP ai];omega
    have xT:((i-1:Nat):Int)<(p.length:Int):=ai
    have wA:IntKind.i64.wrap (fl a b+1)=fl a b+1:=bP ai
    have wB:IntKind.i64.wrap (fl b a-1)=fl b a+-1:=by rw[bP ai];omega
    have RH:IntKind.i64.wrap ((i:Int)+1)=((i+1:Nat):Int):=aI ai
    have l2:=jT R2 cnt cnt
    have lA:=dY (fl a) cnt
    have lB:=dY (fl b) cnt
    have gP:(R2 a=R2 b)=False:=by simp only[eq_iff_iff,iff_false];exact fun h=>pW (I.i2 _ _ E7 E8 h)
    have IM:(R2 b=R2 a)=False:=by simp only[eq_iff_iff,iff_false];exact fun h=>pW (I.i2 _ _ E7 E8 h.symm)
    have xA:=zP I.sx (I.Nn a E7) (by decide)
    have xB:=zP I.sx (I.Nn b E8) (by decide)
    have yA:=zP I.s2 (I.Nn a E7) (by decide)
    have yB:=zP I.s2 (I.Nn b E8) (by decide)
    have qX:=eL (i:=X) (n:=st_c.next) (by have:=I.vx;omega)
    have q2:=eL (i:=o2) (n:=st_c.next) (by have:=I.v2;omega)
    have qA:=eL (i:=R2 a) (n:=st_c.next) (by have:=I.Sd a E7;omega)
    have qB:=eL (i:=R2 b) (n:=st_c.next) (by have:=I.Sd b E8;omega)
    rw[bt]at cA cB sA sB
    (try((repeat(revert hN;revert N;apply Pn.out));refine wk (tw @c0 (tw @c9 (tw @jm (tw @nq (tw @kP (tw @hi (tw @xT (tw @Rk (tw @Rl (tw @gA (tw @gB (tw @rA (tw @rB (tw @cA (tw @cB (tw @sA (tw @sB (tw @gX (tw @g2 (tw @gG (tw @fW (tw @Fi (tw @wA (tw @wB (tw @RH (tw @l2 (tw @lA (tw @lB (tw @gP (tw @IM (tw @xA (tw @xB (tw @yA (tw @yB (tw @qX (tw @q2 (tw @qA @qB))))))))))))))))))))))))))))))))))))) ?_;(repeat(refine Pn.mk ?_;intro N hN))))
    refine⟨_,?_,i+1,rfl,ai,ai,sd @RH,?_,bK⟩
    ·omega
    ·rw[xh]
     refine cM.push I E7 E8 pW ?_ ?_ fun j hj h1 h2=>?_
     ·simp only[go_sem, ↓reduceIte,Nat.reduceEqDiff,Nat.reduceAdd,Nat.reduceSub,Nat.reduceLeDiff,reduceCtorEq,gP]
     ·simp only[go_sem, ↓reduceIte,Nat.reduceEqDiff,Nat.reduceAdd,Nat.reduceSub,Nat.reduceLeDiff,reduceCtorEq,gP]
     ·simp only[go_sem, ↓reduceIte,Nat.reduceEqDiff,Nat.reduceAdd,Nat.reduceSub,Nat.reduceLeDiff,reduceCtorEq,h1,h2]
   ·have Hy:i=p.length:=ai
    subst Hy
    rw[List.take_length]at cM
    have OZ:IntKind.i64.wrap ((k:Int)+1)=((k+1:Nat):Int):=aI ai
    have Uy:=Ub.bound (S:=fun v=>decide (v=x)) hxS hyS
    (try((repeat(revert hN;revert N;apply Pn.out));refine wk (tw @c0 (tw @c9 (tw @jm (tw @nq (tw @kP (tw @hi @OZ)))))) ?_;(repeat(refine Pn.mk ?_;intro N hN))))
    refine⟨_,?_,k+1,_,rfl,sd @OZ,by rw[Int.natCast_add];exact Ub,cM,bK,fun _=>ai,fun u v=>?_⟩
    ·rw[<-Vb]at Uy;omega
    ·have h1:=(lO p f u v).2
     have h2:=blo u v
     rw[Int.natCast_add,Int.add_mul]
     omega
noncomputable def sU (n:Nat) (bs:List PB) (t:Int):Bool:=@decide (kh n bs t) (Classical.propDecidable _)
theorem xW {n:Nat} {bs:List PB} {t:Int} (h:kh n bs t):true=sU n bs t:=by simp[sU,h]
theorem Bn {n:Nat} {bs:List PB} {t:Int} (h:¬kh n bs t):false=sU n bs t:=by simp[sU,h]
theorem Lq (cnt:Nat) (hn:cnt<=1048576) (bs:List PB) (hb:∀b∈bs,b.a<cnt/\b.b<cnt) (eb:∀b∈bs,0<=b.s/\b.s<=4) (pq:bs.length<=1048576) (t:Int) (ht:t<=1099511627776):
  aq Tryz.prog 288 [.int .i64 cnt,.sl (bs.map aB),.int .i64 t] (.bool (sU cnt bs t)):=by
 refine aq.body eG rfl fun hl n0=>?_
 clear hl
 have pY:=zG bs (fun _ _=>0) (fun b h=>(eb b h).1) (fun _ _=>Int.le_refl _)
 have hle:=room_le bs (fun _ _=>0) 0 (fun b h=>(eb b h).2) (fun _ _=>Int.le_refl _) (Int.le_refl _)
 have fV:bs.foldl ni (fun _ _=>0)=kE bs:=rfl
 rw[fV]at pY hle
 (try((repeat(revert hN;revert N;apply Pn.out));refine wk @Nat.zero_add ?_;(repeat(refine Pn.mk ?_;intro N hN))))
 refine bF (fun m env st=>∃y:Nat,m=cnt+1-y/\1<=y/\env 7=.int .i64 (y:Int)/\y<=cnt+1/\∀z,1<=z->z<y->z<cnt->∀S:Nat->Bool,S 0=true->S z=false->t<=iP S bs) (cnt+1-1) ⟨1,rfl,Nat.le_refl _,by(simp only[go_sem, ↓reduceIte,Nat.reduceEqDiff,Nat.reduceAdd,Nat.reduceSub,Nat.reduceLeDiff,reduceCtorEq])<;>rfl,ai,fun z h1 h2=>ai⟩ ?_
 rintro m env_b st_b ⟨y,rfl,hy1,b7,hyl,ee⟩ bkp
 have b0:=bkp 0 (by kernel_rfl)
 have b1:=bkp 1 (by kernel_rfl)
 have b2:=bkp 2 (by kernel_rfl)
 simp only[go_sem, ↓reduceIte,Nat.reduceEqDiff,Nat.reduceAdd,Nat.reduceSub,Nat.reduceLeDiff,reduceCtorEq]at b0 b1 b2
 clear bkp
 by_cases hy:(y:Int)<(cnt:Int)
 ·have hyn:y<cnt:=ai
  (try((repeat(revert hN;revert N;apply Pn.out));refine wk (tw @b0 (tw @b1 (tw @b2 (tw @b7 @hy)))) ?_;(repeat(refine Pn.mk ?_;intro N hN))))
  refine .inr (aY _ _ _ _ _ (fun r σ1 hq=>?_) (BV cnt ai hn bs hb eb pq _))
  obtain⟨X,o1,o2,R1,R2,rfl,I,Gn,hM,_⟩:=hq
  refine hN _ _ ?_
  clear hN N
  (try((repeat(revert hN;revert N;apply Pn.out));refine wk (tw @b0 (tw @b1 (tw @b2 @b7))) ?_;(repeat(refine Pn.mk ?_;intro N hN))))
  have hsd:=Pr cnt ai hn (kE bs) (fun u v _ _=>⟨pY u v,by have:=hle u v;omega⟩) 0 y ai hyn ai t ht X o1 o2 R1 R2 σ1.next I
  refine .inr (aY _ _ _ _ _ (fun r σ2 hq=>?_) (hsd _ hM bK))
  obtain⟨val,rfl,sa,mC⟩:=hq
  refine hN _ _ ?_
  clear hN N
  by_cases eh:val<t
  ·(try((repeat(revert hN;revert N;apply Pn.out));refine wk (tw @b0 (tw @b1 (tw @b2 (tw @b7 @eh)))) ?_;(repeat(refine Pn.mk ?_;intro N hN))))
   obtain⟨S,h1,h2,h3⟩:=sa.1 eh
   rw[AO hb]at h3
   exact bd (b:=false) (.inl rfl) (sd @Nat.zero_add) (Bn fun h=>by have:=h S h1 ⟨y,hyn,h2⟩;omega)
  ·have hw:IntKind.i64.wrap ((y:Int)+1)=((y+1:Nat):Int):=aI ai
   (try((repeat(revert hN;revert N;apply Pn.out));refine wk (tw @b0 (tw @b1 (tw @b2 (tw @b7 (tw @eh @hw))))) ?_;(repeat(refine Pn.mk ?_;intro N hN))))
   refine⟨_,?_,y+1,rfl,ai,sd (tw @b7 @hw),ai,fun z h1 h2 h3 S Ov Ow=>?_⟩
   ·omega
   ·by_cases hzy:z=y
    ·subst hzy
     rcases Int.lt_or_le (iP S bs) t with h|h
     ·exact absurd (sa.2 ⟨S,Ov,Ow,by rw[AO hb];exact h⟩) eh
     ·exact h
    ·exact ee z h1 ai h3 S Ov Ow
 ·(try((repeat(revert hN;revert N;apply Pn.out));refine wk (tw @b0 (tw @b1 (tw @b2 (tw @b7 @hy)))) ?_;(repeat(refine Pn.mk ?_;intro N hN))))
  exact bd (b:=true) (.inl rfl) (sd @Nat.zero_add) (xW fun S h0 ⟨z,hz,hzf⟩=>by
   have:z≠0:=by rintro rfl;rw[h0]at hzf;cases hzf
   exact ee z ai ai hz S h0 hzf)
theorem IP (cnt:Nat) (hn:cnt<=1048576) (bs:List PB) (hb:∀b∈bs,b.a<cnt/\b.b<cnt) (eb:∀b∈bs,0<=b.s/\b.s<=4) (pq:bs.length<=1048576) (t:Int) (ht:t<=1099511627776):
  aq Tryz.prog 288 [.int .i64 cnt,zM bs,.int .i64 t] (.bool (sU cnt bs t)):=by
 have h:=Lq cnt hn bs hb eb pq t ht
 cases bs with
 |nil=>exact h.cut mixed (.same _ (.bS (.same _ .nil)))
 |cons b r=>rw[zN (by simp)];exact h
def CH:Prop:=∀(s:ax) (l:List ae),lK s->pC s l->aq Tryz.prog 205 [.agg (ad s),.agg [.sl (l.map aa)]] (zM (dh s l))
noncomputable def tW (s:ax) (l:List ae) (t:Int):Bool:=if 64<il s l t then false else sU (il s l t) (dU (eE (bc t (dh s l))) (dh s l)) t
theorem DF (s:ax) (l:List ae) (t:Int):tW s l t=nf s l t:=by
 letI:=Classical.propDecidable (oK l.length (dh s l) t)
 unfold tW
 by_cases h:64<il s l t
 ·rw[if_pos h]
  exact(l7 (p:=False) ⟨False.elim,fun k=>by have:=k.1;unfold il at h;omega⟩).symm.trans (by simp) |>.symm
 ·rw[if_neg h]
  by_cases hp:kh (il s l t) (dU (eE (bc t (dh s l))) (dh s l)) t
  ·rw[<-xW hp]
   exact((l7 (p:=True) ⟨fun _=>⟨by unfold il at h;omega,hp⟩,fun _=>trivial⟩).symm.trans (by simp)).symm
  ·rw[<-Bn hp]
   exact((l7 (p:=False) ⟨False.elim,fun k=>hp k.2⟩).symm.trans (by simp)).symm
theorem JX (TZ:CH) (s:ax) (l:List ae) (t:Int) (ht:t<=1099511627776) (h1:1<=l.length) (hS:lK s) (hA:pC s l):aq Tryz.prog 241 [.agg (ad s),.agg [.sl (l.map aa)],.int .i64 t] (.gn [.bool (nf s l t),.bool (decide ¬64<il s l t)]):=by
 rw[<-DF]
 refine aq.body eG rfl fun hl n0=>?_
 clear hl
 have hb:=xG (l:=l) hS
 have pq:=pH (s:=s) hA.1
 have Lh:=hA.1.Hu
 have Af:=TZ s l hS hA
 have Ra:=yX l.length h1 ai (dh s l) (fun b h=>⟨(hb b h).1,(hb b h).2.1⟩) ai t
 have hL:=s7 (bc t (dh s l))
 have fP:=Ek hL (fun b h=>⟨(hb b h).1,(hb b h).2.1⟩)
 have hlen:=(mJ (eE (bc t (dh s l))) (dh s l)).1
 have lS:=jz l.length (eE (bc t (dh s l)))
 have hho:=IP (il s l t) (by unfold il;omega) (dU (eE (bc t (dh s l))) (dh s l)) (fun b h=>⟨(fP b h).1,(fP b h).2.1⟩) (fun b h=>by
  obtain⟨_,_,_,c,hc,dS⟩:=fP b h
  rw[dS];have:=hb c hc;omega) ai t ht
 have gh:(l.map aa).length=l.length:=by simp
 have hzB:∀(g:Rows) (n:Nat) (bs:List PB),V.fz g (n+1) (zM bs)=some (zM bs):=fun g n bs=>by
  unfold zM;split
  ·exact aD _ _
  ·exact bJ _ _ _
 rw[ad]at Af
 rw[<-il]at Ra
 have x7:∀(g:Rows) (x:Int),de (dR g) 6 [.int .i64 l.length,zM (dh s l),.int .i64 x]=some [.int .i64 l.length,zM (dh s l),.int .i64 x]:=fun g x=>by simp only[ab,aj,ay,hzB,Option.map_some]
 have hzh:∀(g:Rows) (x y:Int),de (dR g) 6 [.int .i64 x,zM (dU (eE (bc t (dh s l))) (dh s l)),.int .i64 y]=some [.int .i64 x,zM (dU (eE (bc t (dh s l))) (dh s l)),.int .i64 y]:=fun g x y=>by simp only[ab,aj,ay,hzB,Option.map_some]
 generalize zM (dh s l)=B1 at *
 generalize zM (dU (eE (bc t (dh s l))) (dh s l))=B2 at *
 by_cases tt:(64:Int)<(il s l t:Int)
 ·have tu:64<il s l t:=ai
  (repeat(first|((repeat(revert hN;revert N;apply Pn.out));refine wk (tw @ad.eq_1 (tw @tt @gh)) ?_;(repeat(refine Pn.mk ?_;intro N hN)))|((try apply Or.inl);refine⟨_,aq.x (Af) (sd (tw @ad.eq_1 (tw @tt @gh))),?_⟩;refine hN _ _ ?_;clear hN N)))
  refine⟨_,aq.x Ra (x7 _ _),?_⟩
  refine hN _ _ ?_
  clear hN N
  (try((repeat(revert hN;revert N;apply Pn.out));refine wk @tt ?_;(repeat(refine Pn.mk ?_;intro N hN))))
  exact jh (.inl rfl) (r1:=.bool false) (r2:=.bool false) (sd @Nat.zero_add) (sd @Nat.zero_add) (by rw[tW,if_pos tu,decide_eq_false fun h=>h tu];simp only[eP,bW,cU,fF,Option.map_some])
 ·have tu:¬64<il s l t:=ai
  (repeat(first|((repeat(revert hN;revert N;apply Pn.out));refine wk (tw @ad.eq_1 (tw @tt @gh)) ?_;(repeat(refine Pn.mk ?_;intro N hN)))|((try apply Or.inl);refine⟨_,aq.x (Af) (sd (tw @ad.eq_1 (tw @tt @gh))),?_⟩;refine hN _ _ ?_;clear hN N)))
  refine⟨_,aq.x Ra (x7 _ _),?_⟩
  refine hN _ _ ?_
  clear hN N
  (try((repeat(revert hN;revert N;apply Pn.out));refine wk @tt ?_;(repeat(refine Pn.mk ?_;intro N hN))))
  refine .inl ⟨_,aq.x hho (hzh _ _ _),?_⟩
  refine hN _ _ ?_
  clear hN N
  (try((repeat(revert hN;revert N;apply Pn.out));refine wk @Nat.zero_add ?_;(repeat(refine Pn.mk ?_;intro N hN))))
  exact jh (.inl rfl) (r1:=.bool (sU (il s l t) (dU (eE (bc t (dh s l))) (dh s l)) t)) (r2:=.bool true) (sd @Nat.zero_add) (sd @Nat.zero_add) (by rw[tW,if_neg tu,decide_eq_true tu];simp only[eP,bW,cU,fF,Option.map_some])
theorem tA (t:Int):aq Tryz.prog 132 [.int .i64 t] (.bool (gM t 1 16)):=by
 refine aq.body eG rfl fun hl n0=>?_
 clear hl
 have h:=jj t 1 16
 (repeat(first|((repeat(revert hN;revert N;apply Pn.out));refine wk @Nat.zero_add ?_;(repeat(refine Pn.mk ?_;intro N hN)))|((try apply Or.inl);refine⟨_,aq.x (h) (sd @Nat.zero_add),?_⟩;refine hN _ _ ?_;clear hN N)))
 exact bd (b:=gM t 1 16) (.inl rfl) (sd @Nat.zero_add) rfl
theorem pj (TZ:CH) (s:dc) (hn:fZ s.aM) (hg:s.aM.aw.length<=1048576) (ht:s.aM.ah.length<=1048576) (hs:∀t∈s.aM.ah,t.b4.length<=1048576) (hl:s.cj.ah.length<=1048576):aq Tryz.prog 97 [.agg (bY s)] (.bool (kT s)):=by
 refine aq.body eG rfl fun Bk n0=>?_
 clear Bk
 by_cases h0:(s.cj.ah.length:Int)=0
 ·have hd:decide ((s.cj.ah.length:Int)=0)=true:=decide_eq_true h0
  (try((repeat(revert hN;revert N;apply Pn.out));refine wk (tw @bY.eq_1 @hd) ?_;(repeat(refine Pn.mk ?_;intro N hN))))
  exact bd (b:=false) (.inl rfl) (sd @Nat.zero_add) (jK fun h=>by have:=h.some;omega)
 have hd:decide ((s.cj.ah.length:Int)=0)=false:=decide_eq_false h0
 have Ox:=mT s.aM s.cj.ah hn hg ht hs hl
 have Q2:=tA s.aC
 have key:aq Tryz.prog 169 [.agg (ad s.aM),.agg [.sl (s.cj.ah.map aa)],.int .i64 s.aC] (.gn [.bool (kT s),.int .i64 (if re s.aM&&nj s.aM s.cj.ah then(if gM s.aC 1 16 then(if 64<il s.aM s.cj.ah s.aC then 4 else 0)else 2)else 1)]):=by
  refine aq.body eG rfl fun Bk n0=>?_
  clear Bk
  rw[ad]at Ox
  cases hA:re s.aM&&nj s.aM s.cj.ah
  ·rw[hA]at Ox
   have lv:kT s=false:=(jK fun h=>by rw[lZ.2 h.set,km.2 h.Ml]at hA;cases hA).symm
   (repeat(first|((repeat(revert hN;revert N;apply Pn.out));refine wk @ad.eq_1 ?_;(repeat(refine Pn.mk ?_;intro N hN)))|((try apply Or.inl);refine⟨_,aq.x (Ox) (sd @ad.eq_1),?_⟩;refine hN _ _ ?_;clear hN N)))
   exact jh (.inl rfl) (r1:=.bool false) (r2:=.int .i64 1) (sd @Nat.zero_add) (sd @Nat.zero_add) (by rw[lv];simp only[eP,bW,cU,fF,eC,Option.map_some];rfl)
  rw[hA]at Ox
  simp only[Bool.and_eq_true]at hA
  have hS:=lZ.1 hA.1
  have hP:=km.1 hA.2
  cases hT:gM s.aC 1 16
  ·rw[hT]at Q2
   have lv:kT s=false:=(jK fun h=>by have:=h.Ms;rw[hT]at this;cases this).symm
   (repeat(first|((repeat(revert hN;revert N;apply Pn.out));refine wk @ad.eq_1 ?_;(repeat(refine Pn.mk ?_;intro N hN)))|((try apply Or.inl);refine⟨_,aq.x (Ox) (sd @ad.eq_1),?_⟩;refine hN _ _ ?_;clear hN N)|((try apply Or.inl);refine⟨_,aq.x (Q2) (sd @ad.eq_1),?_⟩;refine hN _ _ ?_;clear hN N)))
   exact jh (.inl rfl) (r1:=.bool false) (r2:=.int .i64 2) (sd @Nat.zero_add) (sd @Nat.zero_add) (by rw[lv];simp only[eP,bW,cU,fF,eC,Option.map_some];rfl)
  have Lz:=dX hT
  rw[hT]at Q2
  have eb:=JX TZ s.aM s.cj.ah s.aC ai ai hS hP
  rw[ad]at eb
  have hsy:kT s=nf s.aM s.cj.ah s.aC:=by
   cases hB:nf s.aM s.cj.ah s.aC
   ·exact(jK fun h=>by have:=oX.2 h.holds;rw[hB]at this;cases this).symm
   ·exact(Ch ⟨hS,hP,ai,hT,oX.1 hB⟩).symm
  by_cases tt:64<il s.aM s.cj.ah s.aC
  ·rw[decide_eq_false fun h=>h tt]at eb
   have lv:kT s=false:=(jK fun h=>by have:=h.holds.1;unfold il at tt;omega).symm
   (repeat(first|((repeat(revert hN;revert N;apply Pn.out));refine wk @ad.eq_1 ?_;(repeat(refine Pn.mk ?_;intro N hN)))|((try apply Or.inl);refine⟨_,aq.x (Ox) (sd @ad.eq_1),?_⟩;refine hN _ _ ?_;clear hN N)|((try apply Or.inl);refine⟨_,aq.x (Q2) (sd @ad.eq_1),?_⟩;refine hN _ _ ?_;clear hN N)|((try apply Or.inl);refine⟨_,aq.x (eb) (sd @ad.eq_1),?_⟩;refine hN _ _ ?_;clear hN N)))
   exact jh (.inl rfl) (r1:=.bool false) (r2:=.int .i64 4) (sd @Nat.zero_add) (sd @Nat.zero_add) (by rw[lv,if_pos tt];simp only[eP,bW,cU,fF,eC,Option.map_some])
  ·rw[decide_eq_true tt,<-hsy]at eb
   (repeat(first|((repeat(revert hN;revert N;apply Pn.out));refine wk @ad.eq_1 ?_;(repeat(refine Pn.mk ?_;intro N hN)))|((try apply Or.inl);refine⟨_,aq.x (Ox) (sd @ad.eq_1),?_⟩;refine hN _ _ ?_;clear hN N)|((try apply Or.inl);refine⟨_,aq.x (Q2) (sd @ad.eq_1),?_⟩;refine hN _ _ ?_;clear hN N)|((try apply Or.inl);refine⟨_,aq.x (eb) (sd @ad.eq_1),?_⟩;refine hN _ _ ?_;clear hN N)))
   exact jh (.inl rfl) (r1:=.bool (kT s)) (r2:=.int .i64 0) (sd @Nat.zero_add) (sd @Nat.zero_add) (by rw[if_neg tt];simp only[eP,bW,cU,fF,eC,Option.map_some])
 generalize hcode:(if re s.aM&&nj s.aM s.cj.ah then(if gM s.aC 1 16 then(if 64<il s.aM s.cj.ah s.aC then(4:Int)else 0)else 2)else 1)=code at key
 rw[ad]at key
 cases hB:kT s
 ·rw[hB]at key
  (repeat(first|((repeat(revert hN;revert N;apply Pn.out));refine wk (tw @bY.eq_1 @hd) ?_;(repeat(refine Pn.mk ?_;intro N hN)))|((try apply Or.inl);refine⟨_,aq.x (key) (sd (tw @bY.eq_1 @hd)),?_⟩;refine hN _ _ ?_;clear hN N)))
  exact bd (b:=false) (.inl rfl) (sd @Nat.zero_add) rfl
 ·rw[hB]at key
  have hP:=wb.1 hB
  have hc:code=0:=by
   rw[<-hcode,lZ.2 hP.set,km.2 hP.Ml,hP.Ms]
   have:=hP.holds.1
   simp only[Bool.and_self,if_true]
   rw[if_neg (by unfold il;omega)]
  rw[hc]at key
  (repeat(first|((repeat(revert hN;revert N;apply Pn.out));refine wk (tw @bY.eq_1 @hd) ?_;(repeat(refine Pn.mk ?_;intro N hN)))|((try apply Or.inl);refine⟨_,aq.x (key) (sd (tw @bY.eq_1 @hd)),?_⟩;refine hN _ _ ?_;clear hN N)))
  exact bd (b:=true) (.inl rfl) (sd @Nat.zero_add) rfl
end Go.Proofs.YtgoljkjaameagaaGreat.V

namespace Go.Proofs.YtgoljkjaameagaaGreat.V
open Go.RowKit
variable {P:Program} {hs:Nat}
theorem Hr {q n i:Nat} {ops:Array Oper} {Q:Exit->Act->World->Prop} {K K':Act->World->Prop} {a:Act} {w:World} (lu:∀(j:Nat) (o:Oper),ops[j]? =some o->∀c,o.op≠.defer c) (lv:¬LetsOut Q) (hK:∀a w,K a w->K' a w) (h:wpOp P ops Q i K a w):wpOpIn (Fence.wide.inRound q) n P ops Q i K' a w:=by
 unfold wpOp at h
 unfold wpOpIn
 split at h
 ·rename_i ho;simp only[ho];exact hK _ _ h
 ·rename_i o ho
  simp only[ho]
  split at h
  ·rename_i hw
   rw[if_pos hw]
   replace h:=h.resolve_right fun hc=>lv hc.2
   refine⟨fun _ _=>trivial,?_⟩
   rw[Oper.semAt_eq _ _ _ (lu i o ho)]
   unfold Oper.wp at h
   generalize (execOp a.eval o).run P w=r at *
   cases r with
   |ok m w'=>
    cases m<;>simp only[Oper.upon,Oper.uponIn]at h ⊢
    case value=>exact hK _ _ h
    case skip=>exact hK _ _ h
    case defer=>exact hK _ _ h
    case enter f args=>
     refine⟨fun h=>by simp[Fence.wide]at h,CallsIn.inRound q (callsIn_wide.2 (h.mono fun e KF he=>?_))⟩
     cases e with
     |returned v=>exact hK _ _ he
     |panicked c=>exact he
     |outgrown=>exact he
    case row r args=>exact⟨fun h=>by simp[Fence.wide]at h,fun c cs _=>let ⟨v,KF,h1,s⟩:=h c cs;⟨v,KF,hK _ _ h1,stepsIn_wide.2 s⟩⟩
   |halt x w'=>cases x<;>simp only[Oper.upon,Oper.uponIn]at h ⊢;exact h
  ·rename_i hw
   rw[if_neg hw]
   exact⟨fun _ _=>trivial,hK _ _ h⟩
theorem wJ {q n:Nat} {md:Region.Mode} {ops:Array Oper} {Q:Exit->Act->World->Prop} (lu:∀(j:Nat) (o:Oper),ops[j]? =some o->∀c,o.op≠.defer c) (lv:¬LetsOut Q):∀(fuel:Nat) (listed:Array Bool) (a:Act) (w:World),wpAny P md ops Q fuel listed a w->wpAnyIn (Fence.wide.inRound q) n P md ops Q fuel listed a w
 |0,_,_,_,h=>h
 |fuel+1,listed,_,_,h=>⟨h.1,fun i hi=>Hr lu lv (fun a w=>wJ lu lv fuel _ a w) (h.2 i hi)⟩
def Fp:Op->Bool
 | .defer _=>true
 |_=>false
theorem Js {ops:Array Oper} (h:(ops.all fun o=> !Fp o.op)=true):∀(j:Nat) (o:Oper),ops[j]? =some o->∀c,o.op≠.defer c:=fun j o hj c hc=>by
 have:=Array.all_eq_true_iff_forall_mem.1 h o (Array.mem_of_getElem? hj)
 rw[hc]at this
 simp[Fp]at this
theorem zD (hm:P.follows .mixedOrders=true) {nt site0 id q n:Nat} {ops:Array Oper} {vl:List bH} (h:qw P nt site0 ops true false=some vl) (lu:∀(j:Nat) (o:Oper),ops[j]? =some o->∀c,o.op≠.defer c)
  {K:Env->au->Prop} {env:Env} {σ:au} {a:Act} {w:World} {D:Nat->Prop} {ι:Names} {Q:Exit->Act->World->Prop} (hv:wpOps (Sound P) true vl K env σ) (eb:St P hs nt D ι env σ a w)
  (hK:∀iz σ' a' w' D' ι',K iz σ'->Step hs D ι w D' ι' w'->St P hs nt D' ι' iz σ' a' w'->a'.defers=a.defers->Q .normal a' w'):(Code.region id ops true).wpIn (Fence.wide.inRound q) n P Q a w:=by
 have ee:∃hidden sG,allM (kn P ops nt site0 true false (jn ops) hidden) ops.toList 0=some sG/\vl=sG/\nR ops sG (jn ops)=true:=by
  unfold qw at h
  simp only[if_true,Bool.not_true,Bool.false_or]at h
  split at h
  ·rename_i sG h'
   split at h
   ·rename_i uS;simp at h;exact⟨_,sG,h',h.symm,uS⟩
   ·cases h
  ·cases h
 obtain⟨hidden,sG,ee,rfl,uS⟩:=ee
 obtain⟨qJ,T0⟩:=eb.drew
 obtain⟨hlen,_⟩:=nL ee
 have kr:vl.length=ops.size:=by rw[hlen];simp
 have Dl:=wE (X:=Sound P) (K:=K) (n:=σ.next) uS kr vl 0 (Array.replicate ops.size false) env σ.get (by simp) (by simp) (fun i hi=>by simp[hi]) (by simp[kr]) (fun k i h=>by
  exfalso
  rcases Nat.lt_or_ge k ops.size with hk|hk
  ·simp[hk]at h
  ·simp[Nat.not_lt.2 hk]at h) hv
 rw[kr]at Dl
 have hw:=xz (Q:=fun e a w=>e=.normal/\Q .normal a w) ee ops.size _ env σ.get a w.drew D ι (fun _=>False) Dl qJ.su qJ.used (fun _ h=>h.elim) qJ.env qJ.size fun iQ g1 a1 w1 D1 ι1 U1 hk T S1 Tx E1 Al hd=>⟨rfl,hK iQ ⟨g1,σ.next+1⟩ a1 w1 D1 ι1 hk (T0.trans T) ⟨S1,Tx.next,E1,Al⟩ hd⟩
 have fP:=wJ (q:=q) (n:=n) (Q:=fun e a w=>e=.normal/\Q .normal a w) lu (by rintro⟨_,_,hc,_⟩;cases hc) ops.size _ a w.drew hw
 refine wpIn_mono (wpIn_region_any (id:=id) hm fP) ?_
 rintro e a w ⟨rfl,h⟩
 exact h
end Go.Proofs.YtgoljkjaameagaaGreat.V

namespace Go.Proofs.YtgoljkjaameagaaGreat.V
open Go.RowKit Go.Shelf
attribute [local go_sem] Oper.semAt_some
def ib (n₀:Nat) (W W':World):Prop:=W.heap.size<=W'.heap.size/\(∀(b:Nat) (cells:Array Value) (T:TypeId) (fr:Nat×Nat),W.heap[b]? =some (Obj.cells cells T fr)->T≠179->T≠254->W'.heap[b]? =W.heap[b]?)/\∀k,k<n₀->k<W.heap.size->W'.heap[k]? =W.heap[k]?
theorem ib.trans {n₀:Nat} {A B C:World} (h:ib n₀ A B) (k:ib n₀ B C):ib n₀ A C:=⟨Nat.le_trans h.1 k.1,fun b cells T fr hb h1 h2=>by
 have e:=h.2.1 b cells T fr hb h1 h2
 rw[<-e]at hb ⊢
 exact k.2.1 b cells T fr hb h1 h2,fun b hb hs=>(k.2.2 b hb (Nat.lt_of_lt_of_le hs h.1)).trans (h.2.2 b hb hs)⟩
theorem ib.of {n₀:Nat} {W W':World} (h:Below W.heap.size W W'):ib n₀ W W':=⟨h.size,fun b cells T fr hb _ _=>h.block b (Array.getElem?_eq_some_iff.1 hb).1,fun k _ hs=>h.block k hs⟩
theorem ib.refl (n₀:Nat) (W:World):ib n₀ W W:=⟨Nat.le_refl _,fun _ _ _ _ _ _ _=>rfl,fun _ _ _=>rfl⟩
theorem ib.b {n₀ m:Nat} (hm:n₀<=m) (W:World) (l:Nat) (o o':Obj) (hl:m<=l) (h:W.heap[l]? =some o) (hc:o.isCells=false) (_:o.isWalk=false):ib n₀ W (W.putObj l o'):=by
 refine⟨by simp,fun b cells T fr hb _ _=>?_,fun k hk _=>World.putObj_heap_other ai⟩
 by_cases pq:b=l
 ·subst pq;rw[h]at hb;cases hb;cases hc
 ·exact World.putObj_heap_other pq
def KP (bs:List PB):List Value:=bs.flatMap fun b=>[.int .i64 b.a,.int .i64 b.b,.int .i64 b.s]
theorem HX (bs:List PB) (b:PB):KP (bs++[b])=KP bs++[.int .i64 b.a,.int .i64 b.b,.int .i64 b.s]:=by simp[KP]
def np (s:ax) (l:List ae) (pre:List (Ny l)):List PB:=(pre.map (·.1)).flatMap (yR s l)
theorem xF (s:ax) (l:List ae) (pre:List (Ny l)) (x:Ny l):np s l (pre++[x])=np s l pre++yR s l x.1:=by simp[np]
theorem HW (s:ax) (l:List ae) (x:Nat×Nat×Int):(yR s l x).length<=1:=by
 unfold yR;split<;>simp
theorem HY (s:ax) (l:List ae) (pre:List (Ny l)):(np s l pre).length<=pre.length:=by
 unfold np
 induction pre with
 |nil=>simp
 |cons x r ih=>
  have:=HW s l x.1
  simp only[List.map_cons,List.flatMap_cons,List.length_append,List.length_cons]at ih ⊢
  omega
theorem ym (l:List ae) (i:Nat):∀m,(kB l i m).length<=m
 |0=>by simp[kB]
 |m+1=>by
  rw[mE,List.length_append]
  have:=ym l i m
  have:(BT l i (1-(m:Int))).length<=1:=by unfold BT;split<;>simp
  omega
theorem BU (l:List ae):∀n,(kR l n).length<=n*2
 |0=>by simp[kR]
 |n+1=>by
  rw[lV,List.length_append]
  have:=BU l n
  have:=ym l n 2
  omega
theorem Bh {β:Type} (B:Nat) (c:Array Value) (t:TypeId) (fr:Nat×Nat):Own (fun(_:β) W=>W.heap[B]? =some (.cells c t fr)):=fun _ X _ row h hg hr=>(hg.block B (Array.getElem?_eq_some_iff.1 h).1 (fun e=>by
 obtain⟨o,ho,hc⟩:=hr B e.symm
 rw[h]at ho;cases ho;cases hc)).trans h
theorem ib.app {n₀:Nat} {W w1:World} {B k:Nat} {v v':Value} {xs:List Value} {tmp:Obj} (hv:Boxed W B 179 v) (gh:W.ownsRow n₀ 254 3 v k xs) (Fc:(W.alloc tmp).grownBy w1 v.ownBlock) (hb:Below n₀ W (w1.setCell ⟨B,0,none⟩ v')):ib n₀ W (w1.setCell ⟨B,0,none⟩ v'):=by
 refine⟨hb.size,fun b cells T fr h h1 h2=>?_,fun k hk _=>hb.block k hk⟩
 have eh:=(Array.getElem?_eq_some_iff.1 h).1
 have hbB:b≠B:=by
  rintro rfl
  rw[show W.heap[b]? = _ from hv]at h
  cases h
  exact h1 rfl
 have SQ:some b≠v.ownBlock:=by
  rcases gh.2 with⟨rfl,_⟩|⟨g,cap,cur,rfl,_,hg,_⟩
  ·simp[Value.ownBlock]
  ·intro e
   obtain rfl:b=g:=by simpa[Value.ownBlock]using e
   rw[hg]at h;cases h
   exact h2 rfl
 refine(Below.heap_setCell w1 ⟨B,0,none⟩ v' b hbB).trans ?_
 exact(Fc.block b (by simp;omega) SQ).trans (Below.heap_alloc W tmp b eh)
theorem RP {w:World} {vS:Value} {l:List ae} (hP:o9 w vS l):HI (ib w.heap.size) vS l where
 refl:=ib.refl _
 trans:=ib.trans
 of:=ib.of
 size h:=h.1
 typed h:=h.2.1
 pl {W W'} h hp:=by
  obtain⟨A,c,rfl,hm,hc⟩:=hp.sl
  refine⟨A,c,rfl,hm,?_⟩
  by_cases hl:l=[]
  ·exact .inl hl
  have jZ:0<l.length:=List.length_pos_iff.2 hl
  rcases hc with h0|⟨b,o,rfl,j4⟩
  ·exact absurd h0 hl
  obtain⟨A',c',e,_,kq⟩:=hP.sl
  cases e
  rcases kq with h0|⟨b',o',e,hcell'⟩
  ·exact absurd h0 hl
  cases e
  have hb:=tH (hcell' 0 jZ).1
  have hk:=h.2.2 b hb (tH (j4 0 jZ).1)
  refine .inr ⟨b,o,rfl,fun i hi=>?_⟩
  have zb:∀x,W'.cell? ⟨b,x,none⟩=W.cell? ⟨b,x,none⟩:=fun x=>World.cell?_of_block hk
  rw[zb,zb,zb]
  exact j4 i hi
theorem rrE {P:Program} {nt site0:Nat} {ops:Array Oper} {vl:List bH} (_:yT P ops site0 false (jn ops) (qQ P false ops.toList 0) ops.toList 0=some vl:=by(conv=>lhs;cbv)<;>exact rfl) (h:qw P nt site0 ops true false=some vl:=by kernel_rfl):qw P nt site0 ops true false=some vl:=h
theorem Jg (l:List Value) (d:Value):l=(List.range l.length).map fun i=>(⟨l⟩:Array Value).getD i d:=by
 refine List.ext_getElem (by simp) fun i h1 h2=>?_
 simp[h1]
theorem D5 {X:fQ} {d:Bool} {ops:List bH} {K:Env->au->Prop} {env:Env} {σ:au} (h:dQ X (.eA d ops) (fun _=>K) env σ):wpOps X d ops K env σ:=h
theorem uz (W:World) (T:TypeId) (x y z:Value):∀(j:Nat) (u:Value),[x,y,z][j]? =some u->(W.alloc (.cells #[x,y,z] T)).cell? ((⟨W.heap.size,0,none⟩:Addr).add j)=some u:=fun j u h=>by
 have hb:(W.alloc (.cells #[x,y,z] T)).heap[W.heap.size]? =some (.cells #[x,y,z] T (0,0)):=World.alloc_heap_new _ _
 have e:∀k,(W.alloc (.cells #[x,y,z] T)).cell? ⟨W.heap.size,k,none⟩=(#[x,y,z]:Array Value)[k]? :=fun k=>by
  unfold World.cell?
  rw[show(W.alloc (.cells #[x,y,z] T)).heap[(⟨W.heap.size,k,none⟩:Addr).block]? = _ from hb]
  rfl
 rw[show(⟨W.heap.size,0,none⟩:Addr).add j=⟨W.heap.size,j,none⟩ by simp[Addr.add];exact fun h=>h.symm,e]
 simpa using h
def H7 (n b:Nat):Names:=fun id=>if id=⟨1,0⟩then some ⟨n,2,2,none⟩else if id=⟨2,0⟩then some ⟨n+1,1,1,none⟩else if id=⟨3,0⟩then some ⟨n+1+1,1,1,none⟩else if id=⟨4,0⟩then some ⟨b,2,2,none⟩else if id=⟨5,0⟩then some ⟨n+1+1+1,1,1,none⟩else none
def MH (s:ax) (l:List ae) (i k:Nat):Rows:=fun id=>if id=⟨1,0⟩then some ⟨false,2,[ad s]⟩else if id=⟨2,0⟩then some ⟨false,1,[[.sl (l.map aa)]]⟩else if id=⟨4,0⟩then some ⟨false,2,[[.int .i64 (i:Int),.int .i64 (k:Int)]]⟩else none
def NM (s:ax) (l:List ae) (i k:Nat) (d:Int):Env:=bQ [.agg (ad s),.agg [.sl (l.map aa)],.ptr ⟨1,0⟩ 0 0,.ptr ⟨2,0⟩ 0 0,.bS,.ptr ⟨3,0⟩ 0 0,.ptr ⟨4,0⟩ 0 0,.int .i64 d,.undef,.agg [.sl (l.map aa)],.fn 302 [.ptr ⟨5,0⟩ 0 0],.agg [.int .i64 (i:Int),.int .i64 (k:Int)],.int .i64 d]
theorem Eh {P:Program} {W:World} {D:Nat->Prop} {ι:Names} {B:rL} {cells:Array Value} {T:TypeId} {cs:List AV} (hk:B.k=none) (hb:W.heap[B.b]? =some (.cells cells T (0,0))) (hC:cells.size=B.C) (hz:B.sz=cs.length) (hl:cs.length=cells.size) (hf:∀a∈cs,a.cell=true) (hr:∀(j:Nat) (a:AV),cs[j]? =some a->∃v,cells[j]? =some v/\dd P W D ι a v):gT P W D ι B ⟨false,cs.length,[cs]⟩:=
 kV.obj ⟨hz,⟨cells,T,hb,hC⟩,by simp;omega,fun c hc=>by simp at hc;rw[hc],fun c hc=>by simp at hc;rw[hc];exact hf,fun i j c a hi hj=>by
  match i,hi with
  |0,hi=>
   simp at hi;subst hi
   obtain⟨v,h1,h2⟩:=hr j a hj
   exact⟨v,by simp[World.cell?,hb,h1],h2⟩
  |i+1,hi=>simp at hi⟩ hk
theorem I6:(Tryz.prog.info? 254).map (fun i=>(i.zero,i.size,i.bytes))=some (some (.agg #[.int .i64 0,.int .i64 0,.int .i64 0]),3,24):=by kernel_rfl
end Go.Proofs.YtgoljkjaameagaaGreat.V
