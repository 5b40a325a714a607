/- DecodeMachine, by the reference. -/
import Derived.Test.YtihgaadadaekmaaGreatMcD
import Derived.Test.YtihgaadadaekmaaGreatMcB
import Derived.Test.YtihgaadadaekmaaGreatMcC
import Derived.Lib.Strings
import Derived.Lib.ItoaWalk
import Derived.Lib.ItoaNum
import Derived.RangeFuncNested
import Derived.RangeFuncBound
import Derived.RangeFuncCalls
import Derived.RangeFuncLeaves
import Derived.Shelf.Abstract
import Derived.Shelf.RegionOpen
import Derived.WalkKit
import Derived.OwnWalkIn
import Derived.TacticsInMore
import Derived.LoopNIn
import Derived.LoopIn
import Derived.BigQuiet
import Derived.RangeFuncBox
import Derived.RangeFuncWrites
import Derived.Maps.AppendAt
import Derived.OrdersIn
set_option linter.unusedVariables false
set_option linter.unusedSimpArgs false
set_option maxRecDepth 100000
set_option maxHeartbeats 16000000
namespace Go.Proofs.YtihgaadadaekmaaGreat.V
open Go.RowKit
attribute [local irreducible] eb wpOps gH Call
attribute [local go_sem] aM fI eM fX fV cE upd cm K.av cK AV.cells AV.cell rowOf rowsOf part ld rowAt bS bZ dH ei ij bK dc eA fZ e8 du ep cY cX dU dW bQ bf cQ bP cT cR ek er eo cP bU cZ ej bL aQ cV cw ig bt cH bR bc dF bq dI AV.undef bD bF dX eh dQ dZ cF ez eE cr ev eu cU cW List.getD_cons_zero List.getD_cons_succ List.getD_nil List.all_cons List.all_nil Bool.and_true Bool.true_and Bool.and_self Bool.not_true Bool.not_false Option.map_some Option.map_none Option.bind_some Option.bind_none List.length_cons List.length_nil List.take_succ_cons List.take_zero List.take_nil List.drop_succ_cons List.drop_zero List.drop_nil List.head?_cons List.map_cons List.map_nil List.getElem?_cons_zero List.getElem?_cons_succ List.cons_append List.nil_append List.append_nil List.length_map List.set_cons_zero List.set_cons_succ Nat.reduceMul eq_self Int.toNat_natCast Int.natCast_nonneg and_self true_and and_true decide_true decide_false Bool.false_eq_true Nat.zero_add Nat.add_zero List.contains_cons List.contains_nil Bool.or_false Bool.false_or beq_self_eq_true Nat.reduceBEq ne_eq not_true_eq_false not_false_eq_true Id.mk.injEq false_and and_false Nat.reduceLT Int.reduceLE Int.reduceLT Int.reduceToNat Int.reduceNeg Int.reduceAdd Nat.le_refl List.length_append beq_true beq_false Bool.not_eq_eq_eq_not or_false false_or dD ad aj aH bC b4 aX bo aY bl cL bE
theorem tE (g:Rows) (n:Nat) (x:fY):cq g (n+1) (eD x)=some (eD x):=by
 simp[eD,ad,aj,aH,b4]
theorem zV (s:cl) (l:List ak) (hF:fQ s.aI) (hA:lT s.aI l) (w:Nat) (hw:1<=w) (qS:w<=1000) (σ:aw) (ip iq:Id) (b1 b2:Bool) (hp:σ.get ip=some ⟨b1,4,[az s]⟩) (hq:σ.get iq=some ⟨b2,1,[[.sl (l.map ai)]]⟩) (hpv:ip.bY<σ.next) (hqv:iq.bY<σ.next):PC (Call Tryz.prog) 27 [.ptr ip 0 0,.ptr iq 0 0,.int .i64 (w:Int)] σ (fun r'=>r'=.sl ((iU s.aI l w).map eD)):=by
 obtain⟨R,hR⟩:∃R,iU s.aI l w=R:=⟨_,rfl⟩
 rw[hR]
 refine fh dY rfl fun sL=>?_
 clear sL
 have fa:=fun y:Nat=>Hc s l hF hA y w
 have IB:V.ro σ.get ip=some ⟨false,4,[az s]⟩:=by simp[V.ro,hp]
 have G0:V.ro σ.get iq=some ⟨false,1,[[.sl (l.map ai)]]⟩:=by simp[V.ro,hq]
 have pv:=eC hpv
 have qv:=eC hqv
 rw[az]at fa IB
 (try((repeat(revert hN;revert N;apply Pn.out));refine wk @Nat.zero_add ?_;(repeat(refine Pn.mk ?_;intro N hN))))
 refine aT (fun n env st=>∃k:Nat,n=(61)-k/\k<=(61)/\env 8=.int .i64 (k:Int)/\(∀j:Nat,j<k->BZ s.aI l w j=true)/\(∃u:Id,env 7=.own u 0 k/\st.get u=some ⟨true,3,(jl s.aI l w k).map eD⟩/\u.bY<st.next/\σ.next<u.bY/\st.get ip=some ⟨false,4,[[.sl (s.aI.au.map bh),.sl (s.aI.ae.map aW),.sl (s.ck.ae.map ai),.int .i64 s.aJ]]⟩/\st.get iq=some ⟨false,1,[[.sl (l.map ai)]]⟩)) (61) ⟨0,ab,ab,sl @Nat.zero_add,fun _ h=>absurd h (Nat.not_lt_zero _),by(try dsimp only);exact⟨⟨27001000,σ.next+1⟩,sl @Nat.zero_add,sl @Nat.zero_add,bw,bw,by simp only[go_sem, ↓reduceIte,Nat.reduceEqDiff,Nat.reduceAdd,Nat.reduceSub,Nat.reduceLeDiff,reduceCtorEq,pv];exact IB,by simp only[go_sem, ↓reduceIte,Nat.reduceEqDiff,Nat.reduceAdd,Nat.reduceSub,Nat.reduceLeDiff,reduceCtorEq,qv];exact G0⟩⟩ ?_
 rintro n_a env_a st_a ⟨k,rfl,ale,a8,kZ,k5⟩ dE
 have a0:=dE 0 (by kernel_rfl);have a1:=dE 1 (by kernel_rfl);have a2:=dE 2 (by kernel_rfl)
 simp only[go_sem, ↓reduceIte,Nat.reduceEqDiff,Nat.reduceAdd,Nat.reduceSub,Nat.reduceLeDiff,reduceCtorEq]at a0 a1 a2
 clear dE
 obtain⟨u,a7,ag,av,auv,Lo,Lp⟩:=k5
 have pu:=dx (a:=ip) (b:=u) ab
 have qu:=dx (a:=iq) (b:=u) ab
 have pv:=eC (i:=ip) (n:=st_a.next) ab
 have qv:=eC (i:=iq) (n:=st_a.next) ab
 have vu:=eC av
 have hlen:=lI (s:=s.aI) (l:=l) (w:=w) (k:=k)
 by_cases hk:(k:Int)<=60
 ·have bW:∀{e:Env} {gg:Rows} {nx:Nat},(e 8=.int .i64 (IntKind.i64.wrap ((k:Int)+1)))->(BZ s.aI l w k=true)->(∃u:Id,e 7=.own u 0 (k+1)/\gg u=some ⟨true,3,(jl s.aI l w (k+1)).map eD⟩/\u.bY<nx/\σ.next<u.bY/\gg ip=some ⟨false,4,[[.sl (s.aI.au.map bh),.sl (s.aI.ae.map aW),.sl (s.ck.ae.map ai),.int .i64 s.aJ]]⟩/\gg iq=some ⟨false,1,[[.sl (l.map ai)]]⟩)->∃m0,m0<(61)-k/\∃k:Nat,m0=(61)-k/\k<=(61)/\e 8=.int .i64 (k:Int)/\(∀j:Nat,j<k->BZ s.aI l w j=true)/\(∃u:Id,e 7=.own u 0 k/\gg u=some ⟨true,3,(jl s.aI l w k).map eD⟩/\u.bY<nx/\σ.next<u.bY/\gg ip=some ⟨false,4,[[.sl (s.aI.au.map bh),.sl (s.aI.ae.map aW),.sl (s.ck.ae.map ai),.int .i64 s.aJ]]⟩/\gg iq=some ⟨false,1,[[.sl (l.map ai)]]⟩):=fun x1 x2 x3=>⟨_,ab,k+1,rfl,ab,(by rw[x1,aA ab]),(all_succ kZ x2),x3⟩
  have hr:=fa k ab hw qS
  rcases hm:lF s.aI l w k with _|c
  ·have gR:=qj ab kZ (.inr (B3 hm))
   rw[hR]at gR
   subst gR
   rcases hmu:m8 s.aI l k w with _|⟨T,h⟩
   ·rw[hmu,ud]at hr
    (repeat(first|((repeat(revert hN;revert N;apply Pn.out));refine wk (tw @a8 (tw @a0 (tw @a1 (tw @a2 (tw @hk (tw @a7 (tw @Lo (tw @Lp (tw @pv @qv))))))))) ?_;(repeat(refine Pn.mk ?_;intro N hN)))|((try apply Or.inl);refine⟨_,ah.x (hr) (sd (tw @a8 (tw @a0 (tw @a1 (tw @a2 (tw @hk (tw @a7 (tw @Lo (tw @Lp (tw @pv @qv)))))))))),?_⟩;refine hN _ _ ?_;clear hN N)))
    exact qq (.inl rfl) (vs:=[.own u 0 k]) (sd @Nat.zero_add) (eT (by simp only[go_sem, ↓reduceIte,Nat.reduceEqDiff,Nat.reduceAdd,Nat.reduceSub,Nat.reduceLeDiff,reduceCtorEq,vu];exact ag) hlen.symm (tE _ 4))
   ·rcases h with _|⟨hd,st⟩
    ·rw[hmu,ud]at hr
     (repeat(first|((repeat(revert hN;revert N;apply Pn.out));refine wk (tw @a8 (tw @a0 (tw @a1 (tw @a2 (tw @hk (tw @a7 (tw @Lo (tw @Lp (tw @pv @qv))))))))) ?_;(repeat(refine Pn.mk ?_;intro N hN)))|((try apply Or.inl);refine⟨_,ah.x (hr) (sd (tw @a8 (tw @a0 (tw @a1 (tw @a2 (tw @hk (tw @a7 (tw @Lo (tw @Lp (tw @pv @qv)))))))))),?_⟩;refine hN _ _ ?_;clear hN N)))
     exact qq (.inl rfl) (vs:=[.own u 0 k]) (sd @Nat.zero_add) (eT (by simp only[go_sem, ↓reduceIte,Nat.reduceEqDiff,Nat.reduceAdd,Nat.reduceSub,Nat.reduceLeDiff,reduceCtorEq,vu];exact ag) hlen.symm (tE _ 4))
    ·rw[lH hmu]at hm;cases hm
  ·have Di:=pk hm
   rcases hmu:m8 s.aI l k w with _|⟨T,h⟩
   ·rw[lG hmu]at hm;cases hm
   rcases h with _|⟨hd,st⟩
   ·rw[rE hmu]at hm;cases hm
   rw[lH hmu]at hm
   injection hm with hm
   subst hm
   rw[hmu,ud]at hr
   have O8:(jl s.aI l w (k+1)).map eD=(jl s.aI l w k).map eD++[[.sl (T.map ay),.int .i64 hd,.int .i64 st]]:=by rw[Di,List.map_append];rfl
   have Ez:((jl s.aI l w k).map eD).length=k:=by rw[List.length_map,hlen]
   have p9:k<=16777215:=ab
   have qa:=xW (lH hmu)
   generalize (jl s.aI l w k).map eD=C at ag O8 Ez
   (repeat(first|((repeat(revert hN;revert N;apply Pn.out));refine wk (tw @a8 (tw @a0 (tw @a1 (tw @a2 (tw @hk (tw @a7 (tw @ag (tw @vu (tw @Ez (tw @p9 (tw @Lo (tw @Lp (tw @pv (tw @qv (tw @pu @qu))))))))))))))) ?_;(repeat(refine Pn.mk ?_;intro N hN)))|((try apply Or.inl);refine⟨_,ah.x (hr) (sd (tw @a8 (tw @a0 (tw @a1 (tw @a2 (tw @hk (tw @a7 (tw @ag (tw @vu (tw @Ez (tw @p9 (tw @Lo (tw @Lp (tw @pv (tw @qv (tw @pu @qu)))))))))))))))),?_⟩;refine hN _ _ ?_;clear hN N)))
   exact bW (sd (tw @a8 (tw @a0 (tw @a1 @a2)))) (qa) (by(try dsimp only);exact⟨⟨27008003,st_a.next+1+1+1⟩,sl @Nat.zero_add,by rw[O8];simp only[go_sem, ↓reduceIte,Nat.reduceEqDiff,Nat.reduceAdd,Nat.reduceSub,Nat.reduceLeDiff,reduceCtorEq]<;>rfl,bw,bw,sd (tw @pv (tw @pu @Lo)),sd (tw @qv (tw @qu @Lp))⟩)
 ·have p9:k=61:=ab
  subst p9
  have gR:=qj (Nat.le_refl _) kZ (.inl rfl)
  rw[hR]at gR
  subst gR
  (try((repeat(revert hN;revert N;apply Pn.out));refine wk (tw @a8 (tw @a0 (tw @a1 (tw @a2 (tw @hk @a7))))) ?_;(repeat(refine Pn.mk ?_;intro N hN))))
  exact qq (.inl rfl) (vs:=[.own u 0 61]) (sd @a7) (eT (by simp only[go_sem, ↓reduceIte,Nat.reduceEqDiff,Nat.reduceAdd,Nat.reduceSub,Nat.reduceLeDiff,reduceCtorEq];exact ag) hlen.symm (tE _ 4))
theorem sv (s:cl) (a:dm) (w:Int) (hn:eX s.aI) (hg:s.aI.au.length<=1048576) (ht:s.aI.ae.length<=1048576):
  ∃u,mD eD (xY s a w).1 u/\j0 Tryz.prog 7 [.agg (az s),.agg (aD a),.int .i64 w] (.gE [u,.int .i64 (xY s a w).2]):=by
 obtain⟨l⟩:=a
 have h1:=BV s l hn hg ht
 rw[aD]
 (try dsimp only)
 cases hask:qV s l
 ·rw[hask]at h1
  have hr:xY s ⟨l⟩ w=([],1):=by rw[xY,hask];rfl
  rw[hr]
  refine⟨.br,.inl ⟨rfl,rfl⟩,?_⟩
  refine j0.body dY rfl fun sL σ=>?_
  clear sL
  rw[az]at h1 ⊢
  (repeat(first|((repeat(revert hN;revert N;apply Pn.out));refine wk @Nat.zero_add ?_;(repeat(refine Pn.mk ?_;intro N hN)))|((try apply Or.inl);refine⟨_,ah.x (h1) (sd @Nat.zero_add),?_⟩;refine hN _ _ ?_;clear hN N)))
  exact qq (.inl rfl) (vs:=[.br,.int .i64 1]) (sd @Nat.zero_add) (by simp[dr,bE,ad,aj,aH,aX])
 rw[hask]at h1
 obtain⟨hP,hA⟩:=yW.1 hask
 have hF:=hP.set.form
 have i1:=j6 w 1 12
 cases uY:g9 w 1 12
 ·have hr:xY s ⟨l⟩ w=([],2):=by rw[xY,hask,if_pos rfl,uY];rfl
  rw[hr]
  refine⟨.br,.inl ⟨rfl,rfl⟩,?_⟩
  refine j0.body dY rfl fun sL σ=>?_
  clear sL
  rw[uY]at i1
  rw[az]at h1 ⊢
  (repeat(first|((repeat(revert hN;revert N;apply Pn.out));refine wk @Nat.zero_add ?_;(repeat(refine Pn.mk ?_;intro N hN)))|((try apply Or.inl);refine⟨_,ah.x (h1) (sd @Nat.zero_add),?_⟩;refine hN _ _ ?_;clear hN N)|((try apply Or.inl);refine⟨_,ah.x (i1) (sd @Nat.zero_add),?_⟩;refine hN _ _ ?_;clear hN N)))
  exact qq (.inl rfl) (vs:=[.br,.int .i64 2]) (sd @Nat.zero_add) (by simp[dr,bE,ad,aj,aH,aX])
 rw[uY]at i1
 have kb:=dO uY
 obtain⟨wn,rfl⟩:∃n:Nat,w=(n:Int):=⟨w.toNat,ab⟩
 have hd:=zV s l hF hA wn ab ab
 have hr:xY s ⟨l⟩ wn=if (iU s.aI l wn).length=0 then([],9)else(iU s.aI l wn,0):=by rw[xY,hask,if_pos rfl,uY];rfl
 rw[hr]
 have hle:=wQ s.aI l wn
 generalize iU s.aI l wn=L at hd hle ⊢
 have jI:(L.map eD).length=L.length:=by simp
 by_cases hz:L.length=0
 ·have d0:decide ((L.length:Int)=0)=true:=decide_eq_true ab
  rw[if_pos hz]
  refine⟨.br,.inl ⟨rfl,rfl⟩,?_⟩
  refine j0.body dY rfl fun sL σ=>?_
  clear sL
  rw[az]at h1 hd ⊢
  (repeat(first|((repeat(revert hN;revert N;apply Pn.out));refine wk (tw @jI @d0) ?_;(repeat(refine Pn.mk ?_;intro N hN)))|((try apply Or.inl);refine⟨_,ah.x (h1) (sd (tw @jI @d0)),?_⟩;refine hN _ _ ?_;clear hN N)|((try apply Or.inl);refine⟨_,ah.x (i1) (sd (tw @jI @d0)),?_⟩;refine hN _ _ ?_;clear hN N)))
  (try apply Or.inl)
  refine⟨_,PC.x (hd _ ⟨7000000,σ.next⟩ ⟨7000001,σ.next⟩ true true (sl @Nat.zero_add) (sl @Nat.zero_add) bw bw),?_⟩
  refine hN _ _ ?_
  clear hN N
  (try((repeat(revert hN;revert N;apply Pn.out));refine wk (tw @jI @d0) ?_;(repeat(refine Pn.mk ?_;intro N hN))))
  exact qq (.inl rfl) (vs:=[.br,.int .i64 9]) (sd @Nat.zero_add) (by simp[dr,bE,ad,aj,aH,aX])
 ·have d0:decide ((L.length:Int)=0)=false:=decide_eq_false ab
  rw[if_neg hz]
  refine⟨.sl (L.map eD),.inr rfl,?_⟩
  refine j0.body dY rfl fun sL σ=>?_
  clear sL
  rw[az]at h1 hd ⊢
  (repeat(first|((repeat(revert hN;revert N;apply Pn.out));refine wk (tw @jI @d0) ?_;(repeat(refine Pn.mk ?_;intro N hN)))|((try apply Or.inl);refine⟨_,ah.x (h1) (sd (tw @jI @d0)),?_⟩;refine hN _ _ ?_;clear hN N)|((try apply Or.inl);refine⟨_,ah.x (i1) (sd (tw @jI @d0)),?_⟩;refine hN _ _ ?_;clear hN N)))
  (try apply Or.inl)
  refine⟨_,PC.x (hd _ ⟨7000000,σ.next⟩ ⟨7000001,σ.next⟩ true true (sl @Nat.zero_add) (sl @Nat.zero_add) bw bw),?_⟩
  refine hN _ _ ?_
  clear hN N
  (try((repeat(revert hN;revert N;apply Pn.out));refine wk (tw @jI @d0) ?_;(repeat(refine Pn.mk ?_;intro N hN))))
  exact qq (.inl rfl) (vs:=[.sl (L.map eD),.int .i64 0]) (sd @Nat.zero_add) (by simp[dr,bE,ad,aj,aH,b4])
structure mH (n:Nat) (px:Nat->Option Nat) (L:Nat->Nat):Prop where
 top:∀k,k<n->px k=none->L k=k
 up:∀k j,k<n->px k=some j->j<k/\L j=L k
theorem mH.root {n:Nat} {px:Nat->Option Nat} {L:Nat->Nat} (h:mH n px L) (hL:ji L) {k:Nat} (hk:k<n) (hr:L k=k):px k=none:=by
 rcases hp:px k with _|j
 ·rfl
 ·obtain⟨h1,h2⟩:=h.up k j hk hp
  have:=hL.le j
  omega
theorem mH.start (n:Nat):mH n (fun _=>none) id:=⟨fun _ _ _=>rfl,fun _ _ _ h=>by cases h⟩
theorem mH.join {n:Nat} {px:Nat->Option Nat} {L:Nat->Nat} (h:mH n px L) (hL:ji L) (b:PB) (dR:min (L b.a) (L b.b)<max (L b.a) (L b.b)):mH n (fun k=>if k=max (L b.a) (L b.b)then some (min (L b.a) (L b.b))else px k) (eF L b):=by
 have ha:=hL.idem b.a
 have hb:=hL.idem b.b
 have xM:L (min (L b.a) (L b.b))=min (L b.a) (L b.b):=by
  rcases Nat.le_total (L b.a) (L b.b)with h|h
  ·rw[Nat.min_eq_left h,ha]
  ·rw[Nat.min_eq_right h,hb]
 have OX:L (max (L b.a) (L b.b))=max (L b.a) (L b.b):=by
  rcases Nat.le_total (L b.a) (L b.b)with h|h
  ·rw[Nat.max_eq_right h,hb]
  ·rw[Nat.max_eq_left h,ha]
 unfold eF
 generalize min (L b.a) (L b.b)=lo at *
 generalize max (L b.a) (L b.b)=hi at *
 refine⟨fun k hk hp=>?_,fun k j hk hp=>?_⟩
 ·by_cases Ix:k=hi
  ·rw[if_pos Ix]at hp;cases hp
  ·rw[if_neg Ix]at hp
   have:=h.top k hk hp
   rw[if_neg ab];exact this
 ·by_cases Ix:k=hi
  ·rw[if_pos Ix]at hp
   cases hp
   subst Ix
   exact⟨dR,by rw[if_neg ab,if_pos OX,xM]⟩
  ·rw[if_neg Ix]at hp
   obtain⟨h1,h2⟩:=h.up k j hk hp
   exact⟨h1,by rw[h2]⟩
theorem xS {L:Nat->Nat} {b:PB} (h:L b.a=L b.b):eF L b=L:=by
 funext k
 unfold eF
 rw[h,Nat.max_self,Nat.min_self]
 split
 ·rename_i h;exact h.symm
 ·rfl
def rm (G:Nat->Id) (px:Nat->Option Nat) (k:Nat):List AV:=[match px k with|none=>.gy|some j=>.ptr (G j) 0 0,.int .i64 (k:Int)]
def sC (g:Rows) (G:Nat->Id) (n:Nat) (px:Nat->Option Nat):Prop:=∀k,k<n->g (G k)=some ⟨true,2,[rm G px k]⟩
theorem sC.frame {g g':Rows} {G:Nat->Id} {n:Nat} {px:Nat->Option Nat} (h:sC g G n px) (hf:∀k,k<n->g' (G k)=g (G k)):sC g' G n px:=fun k hk=>(hf k hk).trans (h k hk)
theorem kU {G:Nat->Id} {px:Nat->Option Nat} {k:Nat} (h:px k=none):rm G px k=[.gy,.int .i64 (k:Int)]:=by rw[rm,h]
theorem r9 {G:Nat->Id} {px:Nat->Option Nat} {k j:Nat} (h:px k=some j):rm G px k=[.ptr (G j) 0 0,.int .i64 (k:Int)]:=by rw[rm,h]
theorem xC (G:Nat->Id) (n:Nat) (px:Nat->Option Nat) (L:Nat->Nat) (h:mH n px L) (k:Nat) (hk:k<n) (σ:aw) (hG:sC σ.get G n px):
  Call Tryz.prog 190 [.ptr (G k) 0 0] σ fun r σ'=>r=.ptr (G (L k)) 0 0/\σ'.get=σ.get/\σ.next<=σ'.next:=by
 refine fh dY rfl fun hl=>?_
 clear hl
 (try((repeat(revert hN;revert N;apply Pn.out));refine wk @Nat.zero_add ?_;(repeat(refine Pn.mk ?_;intro N hN))))
 refine aT (fun m env st=>∃j:Nat,m=j/\j<n/\env 0=.ptr (G j) 0 0/\L j=L k/\st.get=σ.get/\σ.next<=st.next) k ⟨k,rfl,hk,sd @Nat.zero_add,rfl,by(try dsimp only),bw⟩ ?_
 rintro m env_b st_b ⟨j,rfl,hj,b0,hLj,hg,hle⟩ bfr
 clear bfr
 have fa:=hG m hj
 rcases hp:px m with _|j
 ·rw[kU hp]at fa
  (try((repeat(revert hN;revert N;apply Pn.out));refine wk (tw @b0 (tw @hg @fa)) ?_;(repeat(refine Pn.mk ?_;intro N hN))))
  exact fy (.inl rfl) (vs:=[.ptr (G m) 0 0]) (sd @Nat.zero_add) ⟨by rw[<-hLj,h.top m hj hp];rfl,by first|trivial|rfl|exact hg,bw⟩
 ·rw[r9 hp]at fa
  obtain⟨h1,h2⟩:=h.up m j hj hp
  (try((repeat(revert hN;revert N;apply Pn.out));refine wk (tw @b0 (tw @hg @fa)) ?_;(repeat(refine Pn.mk ?_;intro N hN))))
  exact⟨j,h1,j,rfl,ab,sd @Nat.zero_add,ab,by first|trivial|rfl|exact hg,bw⟩
end Go.Proofs.YtihgaadadaekmaaGreat.V

namespace Go.Proofs.YtihgaadadaekmaaGreat.V
open Go.RowKit
attribute [local irreducible] eb wpOps gH Call
attribute [local go_sem] aM fI eM fX fV cE upd cm K.av cK AV.cells AV.cell rowOf rowsOf part ld rowAt bS bZ dH ei ij bK dc eA fZ e8 du ep cY cX dU dW bQ bf cQ bP cT cR ek er eo cP bU cZ ej bL aQ cV cw ig bt cH bR bc dF bq dI AV.undef bD bF dX eh dQ dZ cF ez eE cr ev eu cU cW List.getD_cons_zero List.getD_cons_succ List.getD_nil List.all_cons List.all_nil Bool.and_true Bool.true_and Bool.and_self Bool.not_true Bool.not_false Option.map_some Option.map_none Option.bind_some Option.bind_none List.length_cons List.length_nil List.take_succ_cons List.take_zero List.take_nil List.drop_succ_cons List.drop_zero List.drop_nil List.head?_cons List.map_cons List.map_nil List.getElem?_cons_zero List.getElem?_cons_succ List.cons_append List.nil_append List.append_nil List.length_map List.set_cons_zero List.set_cons_succ eq_self Int.toNat_natCast Int.natCast_nonneg and_self true_and and_true decide_true decide_false Bool.false_eq_true Nat.zero_add Nat.add_zero List.contains_cons List.contains_nil Bool.or_false Bool.false_or beq_self_eq_true ne_eq not_true_eq_false not_false_eq_true Id.mk.injEq false_and and_false Nat.le_refl List.length_append beq_true beq_false Bool.not_eq_eq_eq_not or_false false_or dD ad aj aH bC b4 aX bo aY bl cL bE
abbrev mI:MK:=⟨false,[.tI]⟩
def rz (l:List (Nat×Nat)):List (List AV):=l.map fun p=>[.int .i64 (p.1:Int),.int .i64 (p.2:Int)]
theorem zM (r:Nat):∀(l:List (Nat×Nat)) (i:Nat),((∀p∈l,p.1≠r)->gV mI [.int .i64 (r:Int)] (rz l) i=some none)/\(∀j v,l[j]? =some (r,v)->(∀x y,x<j->l[x]? =some y->y.1≠r)->gV mI [.int .i64 (r:Int)] (rz l) i=some (some (i+j)))
 |[],i=>⟨fun _=>rfl,fun j v h=>by simp at h⟩
 |p::l,i=>by
  obtain⟨h1,h2⟩:=zM r l (i+1)
  by_cases h:p.1=r
  ·refine⟨fun hp=>absurd h (hp p (by simp)),fun j v hj hf=>?_⟩
   have hj0:j=0:=by
    rcases Nat.eq_zero_or_pos j with h0|h0
    ·exact h0
    ·exact absurd h (hf 0 p h0 (by simp))
   subst hj0
   simp[rz,gV,e8,fZ,MK.ks,h]
  ·have hd:¬((r:Int)=(p.1:Int)):=ab
   have sK:¬r=p.1:=fun he=>h he.symm
   have step:gV mI [.int .i64 (r:Int)] (rz (p::l)) i=gV mI [.int .i64 (r:Int)] (rz l) (i+1):=by
    unfold rz
    simp[gV,MK.ks,e8,fZ,hd,sK,h]
   rw[step]
   refine⟨fun hp=>h1 fun q hq=>hp q (by simp[hq]),fun j v hj hf=>?_⟩
   cases j with
   |zero=>simp at hj;rw[hj]at h;exact absurd rfl h
   |succ j=>
    rw[h2 j v (by simpa using hj) fun x y hx hy=>hf (x+1) y ab (by simpa using hy)]
    congr 2;omega
theorem wK {r:Nat} {l:List (Nat×Nat)}:((∀p∈l,p.1≠r)->gN mI (.int .i64 (r:Int)) (rz l)=some none)/\(∀j v,l[j]? =some (r,v)->(∀x y,x<j->l[x]? =some y->y.1≠r)->gN mI (.int .i64 (r:Int)) (rz l)=some (some j)):=by
 have e:gN mI (.int .i64 (r:Int)) (rz l)=gV mI [.int .i64 (r:Int)] (rz l) 0:=by
  unfold gN
  rw[if_pos ⟨rfl,rfl,rfl⟩];rfl
 obtain⟨h1,h2⟩:=zM r l 0
 rw[e]
 exact⟨h1,fun j v hj hf=>by rw[h2 j v hj hf,Nat.zero_add]⟩
def km (k:Nat) (L:Nat->Nat):List (List AV):=rz (leads k L).zipIdx
theorem BY {k:Nat} {L:Nat->Nat} (h:L k=k):km (k+1) L=km k L++[[.int .i64 (k:Int),.int .i64 ((leads k L).length:Int)]]:=by
 unfold km
 rw[gj,if_pos h,List.zipIdx_append]
 simp[rz]
theorem BX {k:Nat} {L:Nat->Nat} (h:L k≠k):km (k+1) L=km k L:=by
 unfold km
 rw[gj,if_neg h,List.append_nil]
theorem EW {k:Nat} {L:Nat->Nat} (h:L k=k):gN mI (.int .i64 (k:Int)) (km k L)=some none:=by
 refine wK.1 fun p hp=>?_
 have:=List.fst_mem_of_mem_zipIdx hp
 have:=(wP.1 this).1
 omega
theorem wO {n:Nat} {L:Nat->Nat} {x y:Nat} (hx:x<(leads n L).length) (hy:y<(leads n L).length) (h:(leads n L)[x]=(leads n L)[y]):x=y:=by
 have hp:=List.pairwise_iff_getElem.1 (sj n L)
 rcases Nat.lt_trichotomy x y with dR|he|dR
 ·exact absurd h (hp x y hx hy dR)
 ·exact he
 ·exact absurd h.symm (hp y x hy hx dR)
theorem wN {k:Nat} {L:Nat->Nat} (hL:ji L) (h:L k≠k):gN mI (.int .i64 (L k:Int)) (km k L)=some (some (bx L k))/\(km k L)[bx L k]? =some [.int .i64 (L k:Int),.int .i64 (bx L k:Int)]/\bx L k<(leads k L).length:=by
 have dR:L k<k:=Nat.lt_of_le_of_ne (hL.le k) h
 have hn:bx L (L k)=bx L k:=by rw[bx,hL.idem,bx]
 have hg:=oh hL dR
 rw[hn,hL.idem]at hg
 have hl:bx L k<(leads k L).length:=(List.getElem?_eq_some_iff.1 hg).1
 have hz:(leads k L).zipIdx[bx L k]? =some (L k,bx L k):=by simp[List.getElem?_zipIdx,hg]
 refine⟨wK.2 _ _ hz fun x y hx hy=>?_,by unfold km rz;rw[List.getElem?_map,hz];rfl,hl⟩
 intro he
 rw[List.getElem?_zipIdx]at hy
 have NU:x<(leads k L).length:=ab
 rw[List.getElem?_eq_getElem NU]at hy
 simp at hy
 rw[<-hy]at he
 simp at he
 have e2:(leads k L)[bx L k]=L k:=(List.getElem?_eq_some_iff.1 hg).2
 have:=wO NU hl (he.trans e2.symm)
 omega
def jo (k:Nat) (L:Nat->Nat):List (List Nat):=(leads k L).map (members k L)
theorem pd (k:Nat) (L:Nat->Nat):(jo k L).length=(leads k L).length:=by simp[jo]
theorem Bn {k:Nat} {L:Nat->Nat} (hL:ji L) (h:L k=k):jo (k+1) L=jo k L++[[k]]:=by
 unfold jo
 rw[gj,if_pos h,List.map_append,List.map_cons,List.map_nil,iV,if_pos h,mc hL (Nat.le_refl k),List.nil_append]
 congr 1
 refine List.map_congr_left fun r hr=>?_
 have:=(wP.1 hr).1
 rw[iV,if_neg ab,List.append_nil]
theorem Bo {k:Nat} {L:Nat->Nat} (hL:ji L) (h:L k≠k):(jo k L)[bx L k]? =some (members k L (L k))/\jo (k+1) L=(jo k L).set (bx L k) (members k L (L k)++[k]):=by
 obtain⟨_,_,hl⟩:=wN hL h
 have dR:L k<k:=Nat.lt_of_le_of_ne (hL.le k) h
 have hg:=oh hL dR
 have hn:bx L (L k)=bx L k:=by rw[bx,hL.idem,bx]
 rw[hn,hL.idem]at hg
 refine⟨by unfold jo;rw[List.getElem?_map,hg];rfl,?_⟩
 unfold jo
 rw[gj,if_neg h,List.append_nil]
 refine List.ext_getElem? fun i=>?_
 rw[List.getElem?_set,List.getElem?_map,List.length_map]
 by_cases hi:bx L k=i
 ·subst hi
  rw[if_pos rfl,if_pos hl,hg,Option.map_some,iV,if_pos rfl]
 ·rw[if_neg hi,List.getElem?_map]
  rcases hr:(leads k L)[i]? with _|r
  ·rfl
  ·rw[Option.map_some,Option.map_some,iV,if_neg,List.append_nil]
   rintro rfl
   obtain⟨oL,he⟩:=List.getElem?_eq_some_iff.1 hr
   have e2:(leads k L)[bx L k]=L k:=(List.getElem?_eq_some_iff.1 hg).2
   exact hi (wO hl oL (e2.trans he.symm))
theorem z3 (k:Nat) (L:Nat->Nat) (r:Nat):(members k L r).length<=k:=by
 have:=List.length_filter_le (fun x=>L x==r) (List.range k)
 simpa[members]using this
def Ii (g:Rows) (o:Id) (L:List (List Nat)) (nx:Nat):Prop:=∃rows ids,g o=some ⟨true,1,rows⟩/\dd Nw g rows L ids/\ids.Nodup/\(∀i∈ids,i.site=169026008/\i.bY<nx)/\o.site=169025002/\o.bY<nx
theorem Ja {g':Rows} {v v' vM j:Nat} (h1:g' ⟨169025002,v⟩=some ⟨true,1,[[.own ⟨169026008,v'⟩ 0 1]]⟩) (h2:g' ⟨169026008,v'⟩=some ⟨true,1,[eN j]⟩) (hv:v<vM) (mZ:v'<vM):Ii g' ⟨169025002,v⟩ [[j]] vM:=
 ⟨_,[⟨169026008,v'⟩],h1,.one ⟨_,rfl,h2,rfl⟩,by simp,fun i hi=>by rw[List.mem_singleton.1 hi];exact⟨rfl,mZ⟩,rfl,hv⟩
theorem Ii.new {g:Rows} {o:Id} {L:List (List Nat)} {nx:Nat} (h:Ii g o L nx) (j:Nat):∃rows,g o=some ⟨true,1,rows⟩/\rows.length=L.length/\∀(g':Rows) (v v' vM:Nat),nx<=v'->v<vM->v'<vM->g' ⟨169025002,v⟩=some ⟨true,1,rows++[[.own ⟨169026008,v'⟩ 0 1]]⟩->g' ⟨169026008,v'⟩=some ⟨true,1,[eN j]⟩->(∀i:Id,i.site=169026008->i.bY<nx->g' i=g i)->Ii g' ⟨169025002,v⟩ (L++[[j]]) vM:=by
 obtain⟨rows,ids,h1,h2,h3,h4,h5,h6⟩:=h
 refine⟨rows,h1,h2.len,fun g' v v' vM hv wH Mw q1 q2 q3=>⟨_,ids++[⟨169026008,v'⟩],q1,(h2.frame ME fun i hi=>q3 i (h4 i hi).1 (h4 i hi).2).app (.one ⟨_,rfl,q2,rfl⟩),?_,fun i hi=>?_,rfl,wH⟩⟩
 ·refine List.nodup_append.2 ⟨h3,by simp,fun a ha b hb sa=>?_⟩
  rw[List.mem_singleton.1 hb]at sa
  have:=(h4 a ha).2
  rw[sa]at this
  simp only at this
  omega
 ·rcases List.mem_append.1 hi with hi|hi
  ·have:=h4 i hi;exact⟨this.1,ab⟩
  ·rw[List.mem_singleton.1 hi];exact⟨rfl,Mw⟩
theorem Ii.add {g:Rows} {o:Id} {L:List (List Nat)} {nx k:Nat} {La:List Nat} (h:Ii g o L nx) (hk:L[k]? =some La) (j:Nat):∃rows id,g o=some ⟨true,1,rows⟩/\rows.length=L.length/\rows[k]? =some [.own id 0 La.length]/\g id=some ⟨true,1,La.map eN⟩/\id.site=169026008/\id.bY<nx/\∀(g':Rows) (v' vM:Nat),nx<=v'->v'<vM->g' o=some ⟨true,1,rows.set k [.own ⟨169026008,v'⟩ 0 (La.length+1)]⟩->g' ⟨169026008,v'⟩=some ⟨true,1,La.map eN++[[.int .i64 (j:Int)]]⟩->(∀i:Id,i.site=169026008->i.bY<nx->(i=id)=False->g' i=g i)->Ii g' o (L.set k (La++[j])) vM:=by
 obtain⟨rows,ids,h1,h2,h3,h4,h5,h6⟩:=h
 have lS:k<L.length:=(List.getElem?_eq_some_iff.1 hk).1
 have Rk:=ke hk lS
 obtain⟨cs,ic,dn,ND,Iu,xN⟩:=h2.PA ME h3 k lS
 rw[Rk]at ND
 obtain⟨id,rfl,q1,rfl⟩:=ND
 have hid:=h4 id (Iu id (by simp))
 refine⟨rows,id,h1,h2.len,dn,q1,hid.1,hid.2,fun g' v' vM hv wH r1 r2 r3=>?_⟩
 obtain⟨BP,s1,s2,s3⟩:=xN g' [.own ⟨169026008,v'⟩ 0 (La.length+1)] (La++[j]) [⟨169026008,v'⟩] ⟨_,by simp,by rw[r2];simp[eN],rfl⟩ (fun i hi Qv=>r3 i (h4 i hi).1 (h4 i hi).2 (by
  simp only[eq_iff_iff,iff_false];rintro rfl;exact Qv (by simp))) (by simp) fun i hi hc=>by
   rw[List.mem_singleton.1 hi]at hc
   have:=(h4 _ hc).2
   simp only at this
   omega
 refine⟨_,BP,r1,s1,s2,fun i hi=>?_,h5,ab⟩
 rcases s3 i hi with h|h
 ·rw[List.mem_singleton.1 h];exact⟨rfl,wH⟩
 ·have:=h4 i h;exact⟨this.1,ab⟩
def lh (G:Nat->Id) (n k:Nat):List (List AV):=(List.range n).map fun i=>[if i<k then .ptr (G i) 0 0 else .gy]
theorem lP (G:Nat->Id) (n k:Nat):(lh G n k).length=n:=by simp[lh]
theorem Fz (G:Nat->Id) (n:Nat):List.replicate n [AV.gy]=lh G n 0:=by
 refine List.ext_getElem? fun i=>?_
 by_cases h:i<n
 ·rw[List.getElem?_replicate,if_pos h];simp[lh,h]
 ·rw[List.getElem?_eq_none (by simp;omega),List.getElem?_eq_none (by rw[lP];omega)]
theorem uK {G:Nat->Id} {n i:Nat} (h:i<n):(lh G n n)[i]? =some [.ptr (G i) 0 0]:=by simp[lh,h]
theorem HU {G:Nat->Id} {n k:Nat} (h:k<n):(lh G n k).set k [.ptr (G k) 0 0]=lh G n (k+1):=by
 refine List.ext_getElem? fun i=>?_
 rw[List.getElem?_set,lP]
 by_cases hi:k=i
 ·subst hi;rw[if_pos rfl,if_pos h];simp[lh,h]
 ·rw[if_neg hi]
  by_cases fJ:i<n
  ·simp only[lh,List.getElem?_map,List.getElem?_range fJ,Option.map_some]
   by_cases wz:i<k
   ·rw[if_pos wz,if_pos ab]
   ·rw[if_neg wz,if_neg ab]
  ·rw[List.getElem?_eq_none (by rw[lP];omega),List.getElem?_eq_none (by rw[lP];omega)]
end Go.Proofs.YtihgaadadaekmaaGreat.V

namespace Go.Proofs.YtihgaadadaekmaaGreat.V
open Go.RowKit
attribute [local irreducible] eb wpOps gH Call
attribute [local go_sem] aM fI eM fX fV cE upd cm K.av cK AV.cells AV.cell rowOf rowsOf part ld rowAt bS bZ dH ei ij bK dc eA fZ e8 du ep cY cX dU dW bQ bf cQ bP cT cR ek er eo cP bU cZ ej bL aQ cV cw ig bt cH bR bc dF bq dI AV.undef bD bF dX eh dQ dZ cF ez eE cr ev eu cU cW List.getD_cons_zero List.getD_cons_succ List.getD_nil List.all_cons List.all_nil Bool.and_true Bool.true_and Bool.and_self Bool.not_true Bool.not_false Option.map_some Option.map_none Option.bind_some Option.bind_none List.length_cons List.length_nil List.take_succ_cons List.take_zero List.take_nil List.drop_succ_cons List.drop_zero List.drop_nil List.head?_cons List.map_cons List.map_nil List.getElem?_cons_zero List.getElem?_cons_succ List.cons_append List.nil_append List.append_nil List.length_map List.set_cons_zero List.set_cons_succ Nat.reduceMul eq_self Int.toNat_natCast Int.natCast_nonneg and_self true_and and_true decide_true decide_false Bool.false_eq_true Nat.zero_add Nat.add_zero List.contains_cons List.contains_nil Bool.or_false Bool.false_or beq_self_eq_true Nat.reduceBEq ne_eq not_true_eq_false not_false_eq_true Id.mk.injEq false_and and_false Nat.reduceLT Int.reduceLE Int.reduceLT Int.reduceToNat Int.reduceNeg Int.reduceAdd Nat.le_refl List.length_append beq_true beq_false Bool.not_eq_eq_eq_not or_false false_or dD ad aj aH bC b4 aX bo aY bl cL bE
theorem gn {o:Id} {a:Nat} (h:o.site=a) {b v:Nat} (sa:(a==b)=false):(o=⟨b,v⟩)=False/\((⟨b,v⟩:Id)=o)=False:=by
 have h1:=yi h (v:=v) sa
 refine⟨h1,?_⟩
 simp only[eq_iff_iff,iff_false]at h1 ⊢
 exact fun h=>h1 h.symm
theorem tO (cnt:Nat) (vC:1<=cnt) (hn:cnt<=1048576) (bs:List PB) (hb:∀b∈bs,b.a<cnt/\b.b<cnt) (pD:bs.length<=1048576):ah Tryz.prog 169 [.int .i64 cnt,.sl (bs.map ax)] (.sl ((e9 cnt (dV bs)).map yF)):=by
 intro n0
 refine xe LB rfl fun hl=>?_
 try simp only[q]
 clear hl
 have jk:(0:Int)<=(cnt:Int):=ab
 have oK:(cnt:Int)<=((16777216:Nat):Int):=ab
 obtain⟨G,hG⟩:∃G:Nat->Id,G=fun k=>⟨169005004,n0+3+4*k+2⟩:=⟨_,rfl⟩
 have P8:∀k,(G k).site=169005004:=fun k=>by rw[hG]
 have Rf:∀k,(G k).bY=n0+3+4*k+2:=fun k=>by rw[hG]
 have Rd:∀i j,i≠j->(G i=G j)=False:=fun i j h=>by
  simp only[eq_iff_iff,iff_false]
  intro he
  have h1:=Rf i
  rw[he,Rf j]at h1
  omega
 have Jd:∀i s v,(169005004==s)=false->(G i=⟨s,v⟩)=False:=fun i s v h=>yi (P8 i) h
 have hz:=Fz G cnt
 (try((repeat(revert hN;revert N;apply Pn.out));refine wk (tw @jk (tw @oK (tw @Int.le_refl @hz))) ?_;(repeat(refine Pn.mk ?_;intro N hN))))
 refine aT (fun n env st=>∃k:Nat,n=(cnt)-k/\k<=(cnt)/\env 21=.int .i64 (k:Int)/\st.get ⟨169001001,n0+1⟩=some ⟨true,1,lh G cnt k⟩/\(st.next=n0+3+4*k/\∀j:Nat,j<k->st.get (G j)=some ⟨true,2,[[.gy,.int .i64 (j:Int)]]⟩)) (cnt) ⟨0,ab,ab,sl @hz,sl @hz,⟨rfl,fun j hj=>ab⟩⟩ ?_
 rintro n_a env_a st_a ⟨k,rfl,ale,a21,ag0,k5⟩ dE
 have a0:=dE 0 (by kernel_rfl);have a1:=dE 1 (by kernel_rfl);have a5:=dE 5 (by kernel_rfl);have Lm:=dE 19 (by kernel_rfl);have Ln:=dE 20 (by kernel_rfl)
 simp only[go_sem, ↓reduceIte,Nat.reduceEqDiff,Nat.reduceAdd,Nat.reduceSub,Nat.reduceLeDiff,reduceCtorEq,hz]at a0 a1 a5 Lm Ln
 clear dE
 obtain⟨k5,kZ⟩:=k5
 by_cases hk:(k:Int)<(cnt:Int)
 ·have bW:∀{e:Env} {gg:Rows} {nx:Nat},(e 21=.int .i64 (IntKind.i64.wrap ((k:Int)+1)))->(gg ⟨169001001,n0+1⟩=some ⟨true,1,lh G cnt (k+1)⟩)->(nx=n0+3+4*(k+1)/\∀j:Nat,j<(k+1)->gg (G j)=some ⟨true,2,[[.gy,.int .i64 (j:Int)]]⟩)->∃m0,m0<(cnt)-k/\∃k:Nat,m0=(cnt)-k/\k<=(cnt)/\e 21=.int .i64 (k:Int)/\gg ⟨169001001,n0+1⟩=some ⟨true,1,lh G cnt k⟩/\(nx=n0+3+4*k/\∀j:Nat,j<k->gg (G j)=some ⟨true,2,[[.gy,.int .i64 (j:Int)]]⟩):=fun x1 x2 x3=>⟨_,ab,k+1,rfl,ab,(by rw[x1,aA ab]),x2,x3⟩
  have fw:k<cnt:=ab
  have tl:=lP G cnt k
  have ew:=HU (G:=G) fw
  have eO:(lh G cnt k)[k]? =some [.gy]:=by simp[lh,fw]
  have P6:(⟨169005004,st_a.next+1+1⟩:Id)=G k:=by rw[hG,k5]
  have hGf:∀j,j<k->(G j=G k)=False:=fun j hj=>Rd j k ab
  have xK:∀j,(G j=(⟨169001001,n0+1⟩:Id))=False:=fun j=>Jd j _ _ (by decide)
  have Bt:∀j,((⟨169001001,n0+1⟩:Id)=G j)=False:=fun j=>by
   have:=xK j
   simp only[eq_iff_iff,iff_false]at this ⊢
   exact fun h=>this h.symm
  (try((repeat(revert hN;revert N;apply Pn.out));refine wk (tw @a21 (tw @ag0 (tw @a0 (tw @a1 (tw @a5 (tw @Lm (tw @Ln (tw @hk (tw @tl (tw @P6 (tw @xK (tw @Bt (tw @ew @eO))))))))))))) ?_;(repeat(refine Pn.mk ?_;intro N hN))))
  refine bW ?_ ?_ (by
   refine⟨by(try dsimp only)<;>omega,fun j hj=>?_⟩
   by_cases wC:j=k
   ·subst wC;simp only[go_sem, ↓reduceIte,Nat.reduceEqDiff,Nat.reduceAdd,Nat.reduceSub,Nat.reduceLeDiff,reduceCtorEq,P6,xK,Bt]
   ·have hold:=kZ j ab
    have gU:=hGf j ab
    simp only[go_sem, ↓reduceIte,Nat.reduceEqDiff,Nat.reduceAdd,Nat.reduceSub,Nat.reduceLeDiff,reduceCtorEq,P6,xK,Bt,gU,hold])
  all_goals simp only[go_sem, ↓reduceIte,Nat.reduceEqDiff,Nat.reduceAdd,Nat.reduceSub,Nat.reduceLeDiff,reduceCtorEq,a21,ag0,a0,a1,a5,Lm,Ln,P6,xK,Bt,ew]
 have lS:cnt=k:=ab
 subst lS
 (try((repeat(revert hN;revert N;apply Pn.out));refine wk (tw @a21 (tw @ag0 (tw @a0 (tw @a1 (tw @a5 (tw @Lm (tw @Ln @hk))))))) ?_;(repeat(refine Pn.mk ?_;intro N hN))))
 refine aT (fun n env st=>∃i:Nat,n=(bs.length)-i/\i<=(bs.length)/\env 33=.int .i64 (i:Int)/\st.get ⟨169001001,n0+1⟩=some ⟨true,1,lh G cnt cnt⟩/\(n0+3+4*cnt<=st.next)/\(∃px,mH cnt px (dV (bs.take i))/\sC st.get G cnt px)) (bs.length) ⟨0,ab,ab,sl (tw @a21 (tw @ag0 (tw @a0 (tw @a1 (tw @a5 (tw @Lm @Ln)))))),sl (tw @a21 (tw @ag0 (tw @a0 (tw @a1 (tw @a5 (tw @Lm @Ln)))))),bw,⟨fun _=>none,mH.start cnt,kZ⟩⟩ ?_
 rintro n_b env_b st_b ⟨i,rfl,ble,b33,bg0,bI0,bI1⟩ bfr
 have b0:=bfr 0 (by kernel_rfl);have b1:=bfr 1 (by kernel_rfl);have b5:=bfr 5 (by kernel_rfl);have vY:=bfr 31 (by kernel_rfl);have vZ:=bfr 32 (by kernel_rfl)
 simp only[go_sem, ↓reduceIte,Nat.reduceEqDiff,Nat.reduceAdd,Nat.reduceSub,Nat.reduceLeDiff,reduceCtorEq,a21,ag0,a0,a1,a5,Lm,Ln]at b0 b1 b5 vY vZ
 clear bfr
 obtain⟨px,IC,P7⟩:=bI1
 have tl:=lP G cnt cnt
 have Oz:∀j v,(G j=(⟨169009002,v⟩:Id))=False:=fun j v=>Jd j _ v (by decide)
 have xK:∀j v,(G j=(⟨169001001,v⟩:Id))=False:=fun j v=>Jd j _ v (by decide)
 have Bt:∀j v,((⟨169001001,v⟩:Id)=G j)=False:=fun j v=>by
  have:=xK j v
  simp only[eq_iff_iff,iff_false]at this ⊢
  exact fun h=>this h.symm
 have hGn:∀j,j<cnt->(G j).bY<st_b.next:=fun j hj=>by rw[Rf];omega
 by_cases hi:(i:Int)<(bs.length:Int)
 ·have jX:∀{e:Env} {gg:Rows} {nx:Nat},(e 33=.int .i64 (IntKind.i64.wrap ((i:Int)+1)))->(gg ⟨169001001,n0+1⟩=some ⟨true,1,lh G cnt cnt⟩)->(n0+3+4*cnt<=nx)->(∃px,mH cnt px (dV (bs.take (i+1)))/\sC gg G cnt px)->∃m0,m0<(bs.length)-i/\∃i:Nat,m0=(bs.length)-i/\i<=(bs.length)/\e 33=.int .i64 (i:Int)/\gg ⟨169001001,n0+1⟩=some ⟨true,1,lh G cnt cnt⟩/\(n0+3+4*cnt<=nx)/\(∃px,mH cnt px (dV (bs.take i))/\sC gg G cnt px):=fun x1 x2 x3 x4=>⟨_,ab,i+1,rfl,ab,(by rw[x1,aA ab]),x2,x3,x4⟩
  have fJ:i<bs.length:=ab
  have oe:(bs.map ax)[i]? =some (ax bs[i]):=by simp[fJ]
  have Es:=hb _ (List.getElem_mem fJ)
  have pg:bs.take (i+1)=bs.take i++[bs[i]]:=List.take_succ_eq_append_getElem fJ
  have kV:dV (bs.take (i+1))=eF (dV (bs.take i)) bs[i]:=by rw[pg,tZ]
  have hL:=si (bs.take i)
  generalize dV (bs.take i)=L at *
  generalize bs[i]=b at *
  have gA:=uK (G:=G) Es.1
  have gB:=uK (G:=G) Es.2
  have ga:(b.a:Int)<(cnt:Int):=ab
  have fB:(b.b:Int)<(cnt:Int):=ab
  (try((repeat(revert hN;revert N;apply Pn.out));refine wk (tw @b33 (tw @bg0 (tw @b0 (tw @b1 (tw @b5 (tw @vY (tw @vZ (tw @hi (tw @oe (tw @ax.eq_1 (tw @gA (tw @gB (tw @ga (tw @fB @tl)))))))))))))) ?_;(repeat(refine Pn.mk ?_;intro N hN))))
  refine Ia (fun e s=>e 0=.int .i64 cnt/\e 1=.sl (bs.map ax)/\e 5=.own ⟨169001001,n0+1⟩ 0 cnt/\e 31=.sl (bs.map ax)/\e 32=.int .i64 bs.length/\e 33=.int .i64 i/\e 9=.ptr (G (L b.a)) 0 0/\e 10=.ptr (G (L b.b)) 0 0/\(∀j:Id,j.bY<st_b.next->s.get j=st_b.get j)/\st_b.next<=s.next) ?_ ?_
  ·rintro e1 s1 ⟨m0,m1,m5,m31,m32,m33,m9,m10,mf,mn⟩
   refine hN _ _ ?_
   clear hN N
   have mG:sC s1.get G cnt px:=P7.frame fun k hk=>mf _ (hGn k hk)
   have mt:=(mf ⟨169001001,n0+1⟩ bw).trans bg0
   have RK:L b.a<cnt:=Nat.lt_of_le_of_lt (hL.le _) Es.1
   have OT:L b.b<cnt:=Nat.lt_of_le_of_lt (hL.le _) Es.2
   have ra:=mG _ RK
   have rb:=mG _ OT
   rw[kU (IC.root hL RK (hL.idem _))]at ra
   rw[kU (IC.root hL OT (hL.idem _))]at rb
   have put:∀(g':Rows) (lo hi:Nat),hi<cnt->g' (G hi)=some ⟨true,2,[[.ptr (G lo) 0 0,.int .i64 (hi:Int)]]⟩->(∀k,k≠hi->k<cnt->g' (G k)=s1.get (G k))->sC g' G cnt (fun k=>if k=hi then some lo else px k):=fun g' lo hi _ h1 h2 k hk=>by
    by_cases Ix:k=hi
    ·subst Ix;rw[h1,r9 (j:=lo) (if_pos rfl)]
    ·rw[h2 k Ix hk,mG k hk]
     unfold rm
     simp only[if_neg Ix]
   rcases Nat.lt_trichotomy (L b.a) (L b.b)with dR|heq|dR
   ·have Mf:(L b.a:Int)<(L b.b:Int):=ab
    have hj:=IC.join hL b ab
    rw[Nat.max_eq_right ab,Nat.min_eq_left ab,<-kV]at hj
    (try((repeat(revert hN;revert N;apply Pn.out));refine wk (tw @m0 (tw @m1 (tw @m5 (tw @m31 (tw @m32 (tw @m33 (tw @m9 (tw @m10 (tw @ra (tw @rb @Mf)))))))))) ?_;(repeat(refine Pn.mk ?_;intro N hN))))
    refine jX ?_ ?_ bw (⟨_,hj,put _ _ _ OT (sd @Nat.zero_add) (fun k hk _=>by
     have gU:=Rd k _ hk
     simp only[go_sem, ↓reduceIte,Nat.reduceEqDiff,Nat.reduceAdd,Nat.reduceSub,Nat.reduceLeDiff,reduceCtorEq,gU])⟩)
    all_goals simp only[go_sem, ↓reduceIte,Nat.reduceEqDiff,Nat.reduceAdd,Nat.reduceSub,Nat.reduceLeDiff,reduceCtorEq,m0,m1,m5,m31,m32,m33,mt,xK,Bt]
   ·have vC:¬(L b.a:Int)<(L b.b:Int):=ab
    have OY:¬(L b.b:Int)<(L b.a:Int):=ab
    have Jv:=xS heq
    rw[Jv]at kV
    (try((repeat(revert hN;revert N;apply Pn.out));refine wk (tw @m0 (tw @m1 (tw @m5 (tw @m31 (tw @m32 (tw @m33 (tw @m9 (tw @m10 (tw @ra (tw @rb (tw @vC @OY))))))))))) ?_;(repeat(refine Pn.mk ?_;intro N hN))))
    refine jX ?_ ?_ bw (⟨_,kV▸IC,mG.frame fun k hk=>rfl⟩)
    all_goals simp only[go_sem, ↓reduceIte,Nat.reduceEqDiff,Nat.reduceAdd,Nat.reduceSub,Nat.reduceLeDiff,reduceCtorEq,m0,m1,m5,m31,m32,m33,mt]
   ·have Mf:(L b.b:Int)<(L b.a:Int):=ab
    have vC:¬(L b.a:Int)<(L b.b:Int):=ab
    have hj:=IC.join hL b ab
    rw[Nat.max_eq_left ab,Nat.min_eq_right ab,<-kV]at hj
    (try((repeat(revert hN;revert N;apply Pn.out));refine wk (tw @m0 (tw @m1 (tw @m5 (tw @m31 (tw @m32 (tw @m33 (tw @m9 (tw @m10 (tw @ra (tw @rb (tw @Mf @vC))))))))))) ?_;(repeat(refine Pn.mk ?_;intro N hN))))
    refine jX ?_ ?_ bw (⟨_,hj,put _ _ _ RK (sd @Nat.zero_add) (fun k hk _=>by
     have gU:=Rd k _ hk
     simp only[go_sem, ↓reduceIte,Nat.reduceEqDiff,Nat.reduceAdd,Nat.reduceSub,Nat.reduceLeDiff,reduceCtorEq,gU])⟩)
    all_goals simp only[go_sem, ↓reduceIte,Nat.reduceEqDiff,Nat.reduceAdd,Nat.reduceSub,Nat.reduceLeDiff,reduceCtorEq,m0,m1,m5,m31,m32,m33,mt,xK,Bt]
  ·intro N hN
   refine eI ?_ ?_<;>(try((repeat(revert hN;revert N;apply Pn.out));refine wk (tw @b33 (tw @bg0 (tw @b0 (tw @b1 (tw @b5 (tw @vY (tw @vZ (tw @hi (tw @oe (tw @ax.eq_1 (tw @gA (tw @gB (tw @ga (tw @fB @tl)))))))))))))) ?_;(repeat(refine Pn.mk ?_;intro N hN))))<;>(try refine eI ?_ ?_)<;>(try((repeat(revert hN;revert N;apply Pn.out));refine wk (tw @b33 (tw @bg0 (tw @b0 (tw @b1 (tw @b5 (tw @vY (tw @vZ (tw @hi (tw @oe (tw @ax.eq_1 (tw @gA (tw @gB (tw @ga (tw @fB @tl)))))))))))))) ?_;(repeat(refine Pn.mk ?_;intro N hN))))<;>(try refine eI ?_ ?_)<;>(try((repeat(revert hN;revert N;apply Pn.out));refine wk (tw @b33 (tw @bg0 (tw @b0 (tw @b1 (tw @b5 (tw @vY (tw @vZ (tw @hi (tw @oe (tw @ax.eq_1 (tw @gA (tw @gB (tw @ga (tw @fB @tl)))))))))))))) ?_;(repeat(refine Pn.mk ?_;intro N hN))))
   all_goals
    refine .inr (aV _ _ _ _ _ (fun r σ1 hq=>?_) (xC G cnt px L IC b.a Es.1 _ (P7.frame fun k hk=>sd @Oz)))
    obtain⟨g1,x1⟩:=σ1
    obtain⟨rfl,yH,Jp⟩:=hq
    (try dsimp only at yH Jp)
    subst yH
    refine hN _ _ ?_
    clear hN N
    (try((repeat(revert hN;revert N;apply Pn.out));refine wk (tw @b33 (tw @bg0 (tw @b0 (tw @b1 (tw @b5 (tw @vY (tw @vZ (tw @hi (tw @oe (tw @ax.eq_1 (tw @gA (tw @gB (tw @ga (tw @fB @tl)))))))))))))) ?_;(repeat(refine Pn.mk ?_;intro N hN))))
    refine .inr (aV _ _ _ _ _ (fun r σ1 hq=>?_) (xC G cnt px L IC b.b Es.2 _ (P7.frame fun k hk=>sd @Oz)))
    obtain⟨g1,x2⟩:=σ1
    obtain⟨rfl,yH,l9⟩:=hq
    (try dsimp only at yH l9)
    subst yH
    refine hN _ _ ?_
    clear hN N
    (try((repeat(revert hN;revert N;apply Pn.out));refine wk (tw @b33 (tw @bg0 (tw @b0 (tw @b1 (tw @b5 (tw @vY (tw @vZ (tw @hi (tw @oe (tw @ax.eq_1 (tw @gA (tw @gB (tw @ga (tw @fB @tl)))))))))))))) ?_;(repeat(refine Pn.mk ?_;intro N hN))))
    exact⟨sd (tw @b33 (tw @bg0 (tw @b0 (tw @b1 (tw @b5 (tw @vY @vZ)))))),sd (tw @b33 (tw @bg0 (tw @b0 (tw @b1 (tw @b5 (tw @vY @vZ)))))),sd (tw @b33 (tw @bg0 (tw @b0 (tw @b1 (tw @b5 (tw @vY @vZ)))))),sd (tw @b33 (tw @bg0 (tw @b0 (tw @b1 (tw @b5 (tw @vY @vZ)))))),sd (tw @b33 (tw @bg0 (tw @b0 (tw @b1 (tw @b5 (tw @vY @vZ)))))),sd (tw @b33 (tw @bg0 (tw @b0 (tw @b1 (tw @b5 (tw @vY @vZ)))))),sd (tw @b33 (tw @bg0 (tw @b0 (tw @b1 (tw @b5 (tw @vY @vZ)))))),sd (tw @b33 (tw @bg0 (tw @b0 (tw @b1 (tw @b5 (tw @vY @vZ)))))),fun j hj=>by
     have hv:=eC hj
     simp only[go_sem, ↓reduceIte,Nat.reduceEqDiff,Nat.reduceAdd,Nat.reduceSub,Nat.reduceLeDiff,reduceCtorEq,hv],bw⟩
 have oL:i=bs.length:=ab
 subst oL
 rw[List.take_length]at IC
 have hL:=si bs
 generalize dV bs=L at *
 (try((repeat(revert hN;revert N;apply Pn.out));refine wk (tw @b33 (tw @bg0 (tw @b0 (tw @b1 (tw @b5 (tw @vY (tw @vZ (tw @hi @tl)))))))) ?_;(repeat(refine Pn.mk ?_;intro N hN))))
 have l0:km 0 L=[]:=rfl
 have oS:(none:Option Nat).isSome=false:=rfl
 have oT:∀a:Nat,(some a).isSome=true:=fun _=>rfl
 refine aT (fun n env st=>∃x:Nat,n=(cnt)-x/\x<=(cnt)/\env 81=.int .i64 (x:Int)/\st.get ⟨169001001,n0+1⟩=some ⟨true,1,lh G cnt cnt⟩/\st.get ⟨169017000,st_b.next+1+1⟩=some ⟨true,mI.Co,km x L⟩/\(st_b.next+3<=st.next/\sC st.get G cnt px)/\((x=0/\env 11=.br)∨∃o:Id,env 11=.own o 0 (leads x L).length/\Ii st.get o (jo x L) st.next)) (cnt) ⟨0,ab,ab,sl (tw @b33 (tw @bg0 (tw @b0 (tw @b1 (tw @b5 (tw @vY (tw @vZ @l0))))))),sl (tw @b33 (tw @bg0 (tw @b0 (tw @b1 (tw @b5 (tw @vY (tw @vZ @l0))))))),sl (tw @b33 (tw @bg0 (tw @b0 (tw @b1 (tw @b5 (tw @vY (tw @vZ @l0))))))),⟨bw,P7.frame fun k hk=>by(have gU:=Jd k 169017000 (st_b.next+1+1) (by decide));simp only[go_sem, ↓reduceIte,Nat.reduceEqDiff,Nat.reduceAdd,Nat.reduceSub,Nat.reduceLeDiff,reduceCtorEq,gU]⟩,.inl ⟨rfl,sd @Nat.zero_add⟩⟩ ?_
 rintro n_c env_c st_c ⟨x,rfl,cle,c81,cg0,cg1,cI0,cI1⟩ cfr
 have xk:=cfr 12 (by kernel_rfl);have IU:=cfr 79 (by kernel_rfl);have IV:=cfr 80 (by kernel_rfl)
 simp only[go_sem, ↓reduceIte,Nat.reduceEqDiff,Nat.reduceAdd,Nat.reduceSub,Nat.reduceLeDiff,reduceCtorEq,b33,bg0,b0,b1,b5,vY,vZ,l0]at xk IU IV
 clear cfr
 obtain⟨vD,Oc⟩:=cI0
 have L2:∀j v,(G j=(⟨169017000,v⟩:Id))=False:=fun j v=>Jd j _ v (by decide)
 have LX:∀j v,(G j=(⟨169025002,v⟩:Id))=False:=fun j v=>Jd j _ v (by decide)
 have LZ:∀j v,(G j=(⟨169025001,v⟩:Id))=False:=fun j v=>Jd j _ v (by decide)
 have L1:∀j v,(G j=(⟨169026007,v⟩:Id))=False:=fun j v=>Jd j _ v (by decide)
 have LY:∀j v,(G j=(⟨169026008,v⟩:Id))=False:=fun j v=>Jd j _ v (by decide)
 by_cases hx:(x:Int)<(cnt:Int)
 ·have gD:∀{e:Env} {gg:Rows} {nx:Nat},(e 81=.int .i64 (IntKind.i64.wrap ((x:Int)+1)))->(gg ⟨169001001,n0+1⟩=some ⟨true,1,lh G cnt cnt⟩)->(gg ⟨169017000,st_b.next+1+1⟩=some ⟨true,mI.Co,km (x+1) L⟩)->(st_b.next+3<=nx/\sC gg G cnt px)->(((x+1)=0/\e 11=.br)∨∃o:Id,e 11=.own o 0 (leads (x+1) L).length/\Ii gg o (jo (x+1) L) nx)->∃m0,m0<(cnt)-x/\∃x:Nat,m0=(cnt)-x/\x<=(cnt)/\e 81=.int .i64 (x:Int)/\gg ⟨169001001,n0+1⟩=some ⟨true,1,lh G cnt cnt⟩/\gg ⟨169017000,st_b.next+1+1⟩=some ⟨true,mI.Co,km x L⟩/\(st_b.next+3<=nx/\sC gg G cnt px)/\((x=0/\e 11=.br)∨∃o:Id,e 11=.own o 0 (leads x L).length/\Ii gg o (jo x L) nx):=fun x1 x2 x3 x4 x5=>⟨_,ab,x+1,rfl,ab,(by rw[x1,aA ab]),x2,x3,x4,x5⟩
  have NV:x<cnt:=ab
  have gX:=uK (G:=G) NV
  have hlx:L x<cnt:=Nat.lt_of_le_of_lt (hL.le _) NV
  have ra:=Oc _ hlx
  rw[kU (IC.root hL hlx (hL.idem _))]at ra
  have jI:=jr x L
  (try((repeat(revert hN;revert N;apply Pn.out));refine wk (tw @c81 (tw @cg0 (tw @cg1 (tw @xk (tw @IU (tw @IV (tw @hx (tw @gX @tl)))))))) ?_;(repeat(refine Pn.mk ?_;intro N hN))))
  refine .inr (aV _ _ _ _ _ (fun r σ1 hq=>?_) (xC G cnt px L IC x NV _ (Oc.frame fun k hk=>sd @Nat.zero_add)))
  obtain⟨g1,x1⟩:=σ1
  obtain⟨rfl,yH,Jp⟩:=hq
  (try dsimp only at yH Jp)
  subst yH
  refine hN _ _ ?_
  clear hN N
  by_cases hr:L x=x
  ·rw[hr]at ra ⊢
   have lk:=EW hr
   have Qu:(leads (x+1) L).length=(leads x L).length+1:=by rw[gj,if_pos hr];simp
   have NR:=BY hr
   have Qn:=Bn hL hr
   rcases cI1 with⟨rfl,mU⟩|⟨o,mU,cS⟩
   ·have R5:km 1 L=[[.int .i64 ((0:Nat):Int),.int .i64 ((0:Nat):Int)]]:=NR
    (try((repeat(revert hN;revert N;apply Pn.out));refine wk (tw @c81 (tw @cg0 (tw @cg1 (tw @xk (tw @IU (tw @IV (tw @mU (tw @ra (tw @lk (tw @l0 (tw @oS (tw @oT (tw @Bool.not_false @Bool.not_true))))))))))))) ?_;(repeat(refine Pn.mk ?_;intro N hN))))
    refine gD ?_ ?_ ?_ (by(try dsimp only);exact⟨ab,Oc.frame fun k hk=>sd (tw @L2 (tw @LX (tw @LY (tw @LZ @L1))))⟩) (.inr ⟨⟨169025002,x1+1+1+1+1⟩,by simp only[go_sem, ↓reduceIte,Nat.reduceEqDiff,Nat.reduceAdd,Nat.reduceSub,Nat.reduceLeDiff,reduceCtorEq,Qu];rfl,by rw[Qn];exact Ja (v':=x1+1+1+1+1+1) (sd @Nat.zero_add) (sd @eN.eq_1) bw bw⟩)
    all_goals simp only[go_sem, ↓reduceIte,Nat.reduceEqDiff,Nat.reduceAdd,Nat.reduceSub,Nat.reduceLeDiff,reduceCtorEq,c81,cg0,cg1,xk,IU,IV,R5]
   ·obtain⟨rows,vp,qP,kh⟩:=cS.new x
    rw[pd]at qP
    have Az:o.site=169025002:=by obtain⟨_,_,_,_,_,_,h,_⟩:=cS;exact h
    have se:o.bY<x1:=by obtain⟨_,_,_,_,_,_,_,h⟩:=cS;omega
    have qQ:=eC se
    have O2:=gn (o:=o) Az (b:=169017000) (v:=st_b.next+1+1) (by decide)
    have NL:=gn (o:=o) Az (b:=169001001) (v:=n0+1) (by decide)
    have L3:∀k,(G k=o)=False:=fun k=>by simp only[eq_iff_iff,iff_false];intro h;have h1:=P8 k;rw[h,Az]at h1;cases h1
    have pE:(rows++[[AV.br]])[(leads x L).length]? =some [.br]:=by rw[<-qP];simp
    have sM:∀a:List AV,(rows++[[AV.br]]).set (leads x L).length a=rows++[a]:=fun a=>by rw[<-qP];simp
    have e1:(leads x L).length+1<=16777216:=ab
    have e2:((leads x L).length:Int)<(((leads x L).length+1:Nat):Int):=ab
    (try((repeat(revert hN;revert N;apply Pn.out));refine wk (tw @c81 (tw @cg0 (tw @cg1 (tw @xk (tw @IU (tw @IV (tw @mU (tw @ra (tw @lk (tw @vp (tw @qP (tw @qQ (tw @O2 (tw @pE (tw @sM (tw @e1 (tw @e2 (tw @oS (tw @oT (tw @Bool.not_false @Bool.not_true)))))))))))))))))))) ?_;(repeat(refine Pn.mk ?_;intro N hN))))
    refine gD ?_ ?_ ?_ (by(try dsimp only);exact⟨ab,Oc.frame fun k hk=>sd (tw @L2 (tw @LX (tw @LY (tw @LZ (tw @L1 @L3)))))⟩) (.inr ⟨⟨169025002,x1+1+1+1+1⟩,sd @Qu,by rw[Qn];exact kh _ _ (x1+1+1+1+1+1) _ ab bw bw (sd @sM) (sd @eN.eq_1) (fun j hj hv=>by
     have q1:=eC (i:=j) (n:=x1) ab
     have q2:=gn hj (b:=169017000) (v:=st_b.next+1+1) (by decide)
     have q3:(j=o)=False:=by simp only[eq_iff_iff,iff_false];intro h;rw[h,Az]at hj;cases hj
     simp only[go_sem, ↓reduceIte,Nat.reduceEqDiff,Nat.reduceAdd,Nat.reduceSub,Nat.reduceLeDiff,reduceCtorEq,q1,q2,q3])⟩)
    all_goals simp only[go_sem, ↓reduceIte,Nat.reduceEqDiff,Nat.reduceAdd,Nat.reduceSub,Nat.reduceLeDiff,reduceCtorEq,c81,cg0,cg1,xk,IU,IV,NR,qQ,O2,NL]
  ·obtain⟨lk,Dg,dR⟩:=wN hL hr
   obtain⟨OP,Qn⟩:=Bo hL hr
   have Qu:(leads (x+1) L).length=(leads x L).length:=by rw[gj,if_neg hr];simp
   have Jv:=BX hr
   rcases cI1 with⟨rfl,mU⟩|⟨o,mU,cS⟩
   ·exact absurd (Nat.le_zero.1 (hL.le 0)) hr
   ·obtain⟨rows,id,vp,qP,hrk,hid,GR,hidv,Rp⟩:=cS.add OP x
    rw[pd]at qP
    have Az:o.site=169025002:=by obtain⟨_,_,_,_,_,_,h,_⟩:=cS;exact h
    have se:o.bY<x1:=by obtain⟨_,_,_,_,_,_,_,h⟩:=cS;omega
    have qQ:=eC se
    have wH:=eC (i:=id) (n:=x1) ab
    have oe:(bx L x:Int)<((leads x L).length:Int):=ab
    have OX:=z3 x L (L x)
    have hma:((members x L (L x)).map eN).length=(members x L (L x)).length:=by simp
    have e1:(members x L (L x)).length+1<=16777216:=ab
    have Mi:(o=id)=False:=by simp only[eq_iff_iff,iff_false];rintro rfl;rw[GR]at Az;cases Az
    have Iw:(id=o)=False:=by simp only[eq_iff_iff,iff_false];rintro rfl;rw[GR]at Az;cases Az
    have O2:=gn (o:=o) Az (b:=169017000) (v:=st_b.next+1+1) (by decide)
    have NL:=gn (o:=o) Az (b:=169001001) (v:=n0+1) (by decide)
    have hiM:=gn (o:=id) GR (b:=169017000) (v:=st_b.next+1+1) (by decide)
    have hiT:=gn (o:=id) GR (b:=169001001) (v:=n0+1) (by decide)
    have L3:∀k,(G k=o)=False:=fun k=>by simp only[eq_iff_iff,iff_false];intro h;have h1:=P8 k;rw[h,Az]at h1;cases h1
    have Re:∀k,(G k=id)=False:=fun k=>by simp only[eq_iff_iff,iff_false];intro h;have h1:=P8 k;rw[h,GR]at h1;cases h1
    (try((repeat(revert hN;revert N;apply Pn.out));refine wk (tw @c81 (tw @cg0 (tw @cg1 (tw @xk (tw @IU (tw @IV (tw @mU (tw @ra (tw @lk (tw @Dg (tw @vp (tw @qP (tw @hrk (tw @hid (tw @qQ (tw @wH (tw @oe (tw @hma (tw @e1 (tw @Mi (tw @Iw (tw @O2 (tw @NL (tw @hiM (tw @hiT (tw @oS (tw @oT (tw @Bool.not_false @Bool.not_true)))))))))))))))))))))))))))) ?_;(repeat(refine Pn.mk ?_;intro N hN))))
    refine gD ?_ ?_ ?_ (by(try dsimp only);exact⟨ab,Oc.frame fun k hk=>sd (tw @L2 (tw @LX (tw @LY (tw @LZ (tw @L1 (tw @L3 @Re))))))⟩) (.inr ⟨o,sd (tw @Qu @mU),by rw[Qn];exact Rp _ (x1+1+1) _ ab bw (sd @Nat.zero_add) (sd (tw @qQ (tw @wH (tw @Mi @Iw)))) (fun j hj hv lR=>by
     have q1:=eC (i:=j) (n:=x1) ab
     have q2:=gn hj (b:=169017000) (v:=st_b.next+1+1) (by decide)
     have q3:(j=o)=False:=by simp only[eq_iff_iff,iff_false];intro h;rw[h,Az]at hj;cases hj
     simp only[go_sem, ↓reduceIte,Nat.reduceEqDiff,Nat.reduceAdd,Nat.reduceSub,Nat.reduceLeDiff,reduceCtorEq,q1,q2,q3,lR])⟩)
    all_goals simp only[go_sem, ↓reduceIte,Nat.reduceEqDiff,Nat.reduceAdd,Nat.reduceSub,Nat.reduceLeDiff,reduceCtorEq,c81,cg0,cg1,xk,IU,IV,Jv,qQ,wH,O2,NL,hiM,hiT]
 have Sb:x=cnt:=ab
 rcases cI1 with⟨h0,_⟩|⟨o,mU,rows,ids,vp,hR,_,_,_,_⟩
 ·omega
 have qP:=hR.len
 rw[pd]at qP
 (try((repeat(revert hN;revert N;apply Pn.out));refine wk (tw @c81 (tw @cg0 (tw @cg1 (tw @xk (tw @IU (tw @IV (tw @hx (tw @mU @vp)))))))) ?_;(repeat(refine Pn.mk ?_;intro N hN))))
 refine uA (.inl rfl) (by simp only[go_sem, ↓reduceIte,Nat.reduceEqDiff,Nat.reduceAdd,Nat.reduceSub,Nat.reduceLeDiff,reduceCtorEq];rfl) ?_
 rw[pW vp ab (rows':=(e9 cnt L).map yF) (by
  rw[List.drop_zero,List.take_of_length_le ab]
  rw[Sb]at hR;exact Hh 3 hR)]
theorem Ib (b:PB) (t:Int):ah Tryz.prog 172 [.agg (ax b),.de [.int .i64 t]] (.bool (decide (b.s<t))):=by
 refine ah.body dY rfl fun hl n0=>?_
 clear hl
 (try((repeat(revert hN;revert N;apply Pn.out));refine wk @ax.eq_1 ?_;(repeat(refine Pn.mk ?_;intro N hN))))
 exact aO (b:=decide (b.s<t)) (.inl rfl) (sd @Nat.zero_add) rfl
theorem wJ (bs:List PB) (t:Int) (hl:bs.length<=1048576):ah Tryz.prog 191 [.sl (bs.map ax),.fn 172 [.de [.int .i64 t]]] (.int .i64 (jR (fun b:PB=>decide (b.s<t)) bs)):=
 sg Gs (show l5 Tryz.prog 191=some (tW 191 3 true) by kernel_rfl) bs hl 172 _ _ (fun x _=>Ib x t) fun g=>by simp only[ad,aj,aY,Option.map_some]
theorem Gm (bs:List PB) (hp:0<bs.length) (hl:bs.length<=1048576) (σ:aw):
  Call Tryz.prog 171 [.sl (bs.map ax)] σ fun r σ'=>∃o:Id,r=.own o 0 bs.length/\σ'.get o=some ⟨true,3,bs.map ax⟩/\σ.next<=o.bY/\o.bY<σ'.next/\∀i:Id,i.bY<σ.next->σ'.get i=σ.get i:=by
 refine fh dY rfl fun hl=>?_
 clear hl
 have hz:=all_map (l:=bs) Lg
 obtain⟨b,r,rfl⟩:∃b r,bs=b::r:=by
  cases bs with
  |nil=>simp at hp
  |cons b r=>exact⟨b,r,rfl⟩
 have jI:(List.map ax (b::r)).length=(b::r).length:=by simp
 have e1:r.length<=16777215:=by simp at hl;omega
 rw[List.map_cons]at hz jI ⊢
 (try((repeat(revert hN;revert N;apply Pn.out));refine wk (tw @hz (tw @jI @e1)) ?_;(repeat(refine Pn.mk ?_;intro N hN))))
 refine fy (.inl rfl) (vs:=[.own ⟨171003002,σ.next+1+1⟩ 0 (b::r).length]) (by simp only[fb,gY,go_sem, ↓reduceIte,Nat.reduceEqDiff,Nat.reduceAdd,Nat.reduceSub,Nat.reduceLeDiff,reduceCtorEq,List.length_cons]) ⟨⟨171003002,σ.next+1+1⟩,rfl,sd @Nat.zero_add,bw,bw,fun i hi=>?_⟩
 have hv:=eC hi
 simp only[go_sem, ↓reduceIte,Nat.reduceEqDiff,Nat.reduceAdd,Nat.reduceSub,Nat.reduceLeDiff,reduceCtorEq,hv]
theorem nT {t:Int} {bs:List PB} {j:Nat} (hj:j<bs.length):aE t (bs.take (j+1))=aE t (bs.take j)++if decide (bs[j].s<t)=true then[]else[bs[j]]:=by
 rw[sr t bs j hj]
 congr 1
 by_cases h:bs[j].s<t
 ·rw[if_neg ab,if_pos (decide_eq_true h)]
 ·rw[if_pos ab,if_neg (by simp only[decide_eq_true_eq];exact h)]
theorem sq {t:Int} {bs:List PB} (h:∀b∈bs,¬b.s<t):aE t bs=bs:=by
 unfold aE
 rw[List.filter_eq_self]
 intro b hb
 have:=h b hb
 exact decide_eq_true ab
structure sw (t:Int) (bs:List PB) (j:Nat) (R:List PB):Prop where
 len:R.length=bs.length
 pre:R.take (aE t (bs.take j)).length=aE t (bs.take j)
 post:∀x,j<=x->R[x]? =bs[x]?
 lt:(aE t (bs.take j)).length<j
theorem sw.start {t:Int} {bs:List PB} {i:Nat} (hi:i<bs.length) (hw:bs[i].s<t) (hp:∀x (h:x<i),¬bs[x].s<t):sw t bs (i+1) bs/\(aE t (bs.take (i+1))).length=i:=by
 have h1:aE t (bs.take i)=bs.take i:=sq fun b hb=>by
  obtain⟨x,hx,rfl⟩:=List.getElem_of_mem hb
  rw[List.length_take]at hx
  rw[List.getElem_take]
  exact hp x ab
 have h2:aE t (bs.take (i+1))=bs.take i:=by rw[nT hi,if_pos (decide_eq_true hw),List.append_nil,h1]
 have h3:(bs.take i).length=i:=by rw[List.length_take];omega
 exact⟨⟨rfl,by rw[h2,h3],fun _ _=>rfl,by rw[h2,h3];omega⟩,by rw[h2,h3]⟩
theorem sw.Sq {t:Int} {bs R:List PB} {j:Nat} (h:sw t bs j R) (hj:j<bs.length) (hw:bs[j].s<t):sw t bs (j+1) R/\(aE t (bs.take (j+1))).length=(aE t (bs.take j)).length:=by
 have h2:aE t (bs.take (j+1))=aE t (bs.take j):=by rw[nT hj,if_pos (decide_eq_true hw),List.append_nil]
 exact⟨⟨h.len,by rw[h2];exact h.pre,fun x hx=>h.post x ab,by rw[h2];have:=h.lt;omega⟩,by rw[h2]⟩
theorem sw.tX {t:Int} {bs R:List PB} {j:Nat} (h:sw t bs j R) (hj:j<bs.length) (hw:¬bs[j].s<t):sw t bs (j+1) (R.set (aE t (bs.take j)).length bs[j])/\(aE t (bs.take (j+1))).length=(aE t (bs.take j)).length+1:=by
 have h2:aE t (bs.take (j+1))=aE t (bs.take j)++[bs[j]]:=by rw[nT hj,if_neg (by simp only[decide_eq_true_eq];exact hw)]
 have dR:=h.lt
 have hlen:=h.len
 have vE:=h.pre
 generalize hc:(aE t (bs.take j)).length=c at *
 refine⟨⟨by rw[List.length_set];exact hlen,?_,fun x hx=>?_,by rw[h2,List.length_append,hc];simp;omega⟩,by rw[h2,List.length_append,hc];rfl⟩
 ·rw[h2,List.length_append,hc,List.length_singleton,List.take_succ_eq_append_getElem (by rw[List.length_set];omega),List.getElem_set_self,List.take_set_of_le (Nat.le_refl _),vE]
 ·rw[List.getElem?_set_ne ab];exact h.post x ab
theorem sw.at_ {t:Int} {bs R:List PB} {j:Nat} (h:sw t bs j R) (hj:j<bs.length):(R.map ax)[j]? =some (ax bs[j]):=by
 rw[List.getElem?_map,h.post j (Nat.le_refl j),List.getElem?_eq_getElem hj];rfl
theorem Be {p:PB->Bool} {bs:List PB} (h:¬0<=jR p bs):∀b∈bs,p b=false:=by
 intro b hb
 unfold jR at h
 split at h
 ·omega
 ·rename_i h1
  rw[List.findIdx_lt_length]at h1
  cases hp:p b
  ·rfl
  ·exact absurd ⟨b,hb,hp⟩ h1
theorem Bf {p:PB->Bool} {bs:List PB} (h:0<=jR p bs):∃i,∃hi:i<bs.length,jR p bs=(i:Int)/\p bs[i]=true/\∀x (hx:x<i),p (bs[x]'ab)=false:=by
 unfold jR at h ⊢
 split
 ·rename_i h1
  exact⟨bs.findIdx p,h1,rfl,List.findIdx_getElem,fun x hx=>by simpa using List.not_of_lt_findIdx hx⟩
 ·rename_i h1;rw[if_neg h1]at h;omega
theorem Ee (bs:List PB) (t:Int) (hl:bs.length<=1048576) (o T:Id) (σ:aw) (ho:σ.get o=some ⟨true,3,bs.map ax⟩) (hT:σ.get T=some ⟨true,1,[[.int .i64 t]]⟩) (se:o.bY<σ.next) (hTv:T.bY<σ.next) (NL:o≠T):
  Call Tryz.prog 170 [.own o 0 bs.length,.fn 172 [.ptr T 0 0]] σ fun r σ'=>∃rows,r=.own o 0 (aE t bs).length/\σ'.get o=some ⟨true,3,rows⟩/\rows.take (aE t bs).length=(aE t bs).map ax/\(aE t bs).length<=rows.length/\σ.next<=σ'.next/\∀i:Id,i.bY<σ.next->i≠o->σ'.get i=σ.get i:=by
 refine fh dY rfl fun sL=>?_
 clear sL
 have Ey:=wJ bs t hl
 have hzT:∀(g:Rows),g T=some ⟨true,1,[[.int .i64 t]]⟩->V.fz (dD g) 5 (.ptr T 0 0)=some (.de [.int .i64 t]):=fun g hg=>xF (sz:=1) (rows:=[[.int .i64 t]]) (by simp[dD,hg]) rfl (by simp only[List.drop_zero,ad,aj,aH,Option.map_some])
 have yK:∀(g:Rows),g T=some ⟨true,1,[[.int .i64 t]]⟩->g o=some ⟨true,3,bs.map ax⟩->cq (dD g) 6 [.own o 0 bs.length,.fn 172 [.ptr T 0 0]]=some [.sl (bs.map ax),.fn 172 [.de [.int .i64 t]]]:=fun g h1 h2=>by
  have q1:=eT (g:=dD g) (n:=5) (e:=ax) (sz:=3) (len:=bs.length) (l:=bs) (id:=o) (by simp[dD,h2]) rfl fun b=>xD _ 4 b
  have q2:=hzT g h1
  simp only[ad,aj,q1,cL,List.all_cons,List.all_nil,AV.cell,Bool.and_true,if_true,q2,Option.map_some]
 have lp:∀(g:Rows),g T=some ⟨true,1,[[.int .i64 t]]⟩->∀b:PB,cq (dD g) 6 [.agg (ax b),.ptr T 0 0]=some [.agg (ax b),.de [.int .i64 t]]:=fun g h1 b=>by
  have q3:V.fz (dD g) 6 (.ptr T 0 0)=some (.de [.int .i64 t]):=xF (sz:=1) (rows:=[[.int .i64 t]]) (by simp[dD,h1]) rfl (by simp only[List.drop_zero,ad,aj,aH,Option.map_some])
  simp only[ad,aj,bo,xD,q3,Option.map_some]
 (try((repeat(revert hN;revert N;apply Pn.out));refine wk @Nat.zero_add ?_;(repeat(refine Pn.mk ?_;intro N hN))))
 refine .inl ⟨_,ah.x Ey (yK _ hT ho),?_⟩
 refine hN _ _ ?_
 clear hN N
 by_cases h0:0<=jR (fun b:PB=>decide (b.s<t)) bs
 ·obtain⟨i,hi,Iv,hpi,Mn⟩:=Bf h0
  rw[Iv]at *
  have Jq:decide ((i:Int)= -1)=false:=decide_eq_false ab
  have Pd:IntKind.i64.wrap ((i:Int)+1)=((i+1:Nat):Int):=aA ab
  obtain⟨eB,sM⟩:=sw.start (t:=t) hi (by simpa using hpi) (fun x hx=>by simpa using Mn x hx)
  (try((repeat(revert hN;revert N;apply Pn.out));refine wk (tw @Jq @Pd) ?_;(repeat(refine Pn.mk ?_;intro N hN))))
  refine aT (fun m env st=>∃(j:Nat) (R:List PB),m=bs.length-j/\env 6=.int .i64 (j:Int)/\env 5=.int .i64 ((aE t (bs.take j)).length:Int)/\st.get o=some ⟨true,3,R.map ax⟩/\sw t bs j R/\j<=bs.length/\σ.next<=st.next/\∀x:Id,x.bY<σ.next->(x=o)=False->st.get x=σ.get x) (bs.length-(i+1)) ⟨i+1,bs,rfl,sd @Pd,sd @sM,sd @ho,eB,ab,bw,fun x _ _=>sd @Nat.zero_add⟩ ?_
  rintro m env_b st_b ⟨j,R,rfl,b6,b5,bg,hD,gG,hle,mN⟩ bfr
  have b0:=bfr 0 (by kernel_rfl)
  have b1:=bfr 1 (by kernel_rfl)
  simp only[go_sem, ↓reduceIte,Nat.reduceEqDiff,Nat.reduceAdd,Nat.reduceSub,Nat.reduceLeDiff,reduceCtorEq]at b0 b1
  clear bfr
  have bT:=(mN T hTv (by simp only[eq_iff_iff,iff_false];exact fun h=>NL h.symm)).trans hT
  have oF:=eC (i:=o) (n:=st_b.next) ab
  have R9:=eC (i:=T) (n:=st_b.next) ab
  have hRl:=hD.len
  have Rn:(R.map ax).length=bs.length:=by rw[List.length_map,hRl]
  have dR:=hD.lt
  by_cases hj:(j:Int)<(bs.length:Int)
  ·have gw:j<bs.length:=ab
   have FO:=hD.at_ gw
   have My:=Ib bs[j] t
   have QD:IntKind.i64.wrap ((j:Int)+1)=((j+1:Nat):Int):=aA ab
   have hD1:=hD.Sq gw
   have hD2:=hD.tX gw
   generalize bs[j]=b at *
   (try((repeat(revert hN;revert N;apply Pn.out));refine wk (tw @b0 (tw @b1 (tw @b5 (tw @b6 (tw @bg (tw @hj (tw @FO (tw @ax.eq_1 (tw @oF (tw @R9 @Rn)))))))))) ?_;(repeat(refine Pn.mk ?_;intro N hN))))
   refine .inl ⟨_,ah.x My (lp _ (sd (tw @R9 @bT)) b),?_⟩
   refine hN _ _ ?_
   clear hN N
   by_cases hw:b.s<t
   ·obtain⟨Ra,Q9⟩:=hD1 hw
    have hd:decide (b.s<t)=true:=decide_eq_true hw
    (try((repeat(revert hN;revert N;apply Pn.out));refine wk (tw @b0 (tw @b1 (tw @b5 (tw @b6 (tw @hd @QD))))) ?_;(repeat(refine Pn.mk ?_;intro N hN))))
    refine⟨_,?_,j+1,R,rfl,sd @QD,sd (tw @b5 @Q9),sd (tw @bg @oF),Ra,ab,bw,fun x hx FV=>?_⟩
    ·omega
    ·have NS:=eC (i:=x) (n:=st_b.next) ab
     have:=mN x hx FV
     simp only[go_sem, ↓reduceIte,Nat.reduceEqDiff,Nat.reduceAdd,Nat.reduceSub,Nat.reduceLeDiff,reduceCtorEq,NS,this]
   ·obtain⟨Ra,Q9⟩:=hD2 hw
    have hd:decide (b.s<t)=false:=decide_eq_false hw
    have Rr:((aE t (bs.take j)).length:Int)<(bs.length:Int):=ab
    have hwc:IntKind.i64.wrap (((aE t (bs.take j)).length:Int)+1)=(((aE t (bs.take j)).length+1:Nat):Int):=aA ab
    have ew:(R.map ax).set (aE t (bs.take j)).length [.int .i64 (b.a:Int),.int .i64 (b.b:Int),.int .i64 b.s]=(R.set (aE t (bs.take j)).length b).map ax:=by rw[List.map_set];rfl
    have Qm:∃y,(R.map ax)[(aE t (bs.take j)).length]? =some (ax y):=⟨R[(aE t (bs.take j)).length]'ab,by rw[List.getElem?_map,List.getElem?_eq_getElem ab];rfl⟩
    obtain⟨y,Qm⟩:=Qm
    rw[ax]at Qm
    (try((repeat(revert hN;revert N;apply Pn.out));refine wk (tw @b0 (tw @b1 (tw @b5 (tw @b6 (tw @bg (tw @hd (tw @QD (tw @hwc (tw @Rr (tw @ew (tw @Qm (tw @oF (tw @R9 @Rn))))))))))))) ?_;(repeat(refine Pn.mk ?_;intro N hN))))
    refine⟨_,?_,j+1,_,rfl,sd @QD,sd (tw @hwc @Q9),sd @ew,Ra,ab,bw,fun x hx FV=>?_⟩
    ·omega
    ·have NS:=eC (i:=x) (n:=st_b.next) ab
     have:=mN x hx FV
     simp only[go_sem, ↓reduceIte,Nat.reduceEqDiff,Nat.reduceAdd,Nat.reduceSub,Nat.reduceLeDiff,reduceCtorEq,NS,this,FV]
  ·have gG:j=bs.length:=ab
   subst gG
   have vE:=hD.pre
   rw[List.take_length]at b5 dR vE
   have Rr:((aE t bs).length:Int)<=(bs.length:Int):=ab
   have Qg:(aE t bs).length<=bs.length:=ab
   have pf:(aE t bs).length+(bs.length-(aE t bs).length)=bs.length:=ab
   have sM:=mm t bs
   (try((repeat(revert hN;revert N;apply Pn.out));refine wk (tw @b0 (tw @b1 (tw @b5 (tw @b6 (tw @bg (tw @hj (tw @Rn (tw @Rr (tw @Qg (tw @pf (tw @Nat.le_refl (tw @Nat.sub_zero (tw @Int.le_refl @oF))))))))))))) ?_;(repeat(refine Pn.mk ?_;intro N hN))))
   refine fy (.inl rfl) (vs:=[.own o 0 (aE t bs).length]) (sd @Nat.zero_add) ⟨_,rfl,by simp only[go_sem, ↓reduceIte,Nat.reduceEqDiff,Nat.reduceAdd,Nat.reduceSub,Nat.reduceLeDiff,reduceCtorEq];rfl,?_,?_,bw,fun x hx FV=>?_⟩
   ·have hm:List.take (aE t bs).length (List.map ax R)=(aE t bs).map ax:=by rw[<-List.map_take,vE]
    rw[hm,List.append_assoc,List.take_append_of_le_length (by simp),List.take_of_length_le (by simp)]
   ·have hm:List.take (aE t bs).length (List.map ax R)=(aE t bs).map ax:=by rw[<-List.map_take,vE]
    rw[hm]
    simp only[List.length_append,List.length_map]
    omega
   ·have Pe:(x=o)=False:=by simp only[eq_iff_iff,iff_false];exact FV
    have:=mN x hx Pe
    simp only[go_sem, ↓reduceIte,Nat.reduceEqDiff,Nat.reduceAdd,Nat.reduceSub,Nat.reduceLeDiff,reduceCtorEq,Pe,this]
 ·have hn:=Be h0
  have eB:=sq (t:=t) (bs:=bs) fun b hb=>by simpa using hn b hb
  have hd:decide (jR (fun b:PB=>decide (b.s<t)) bs= -1)=true:=decide_eq_true (by
   unfold jR at h0 ⊢
   split
   ·rename_i h;rw[if_pos h]at h0;omega
   ·rfl)
  (try((repeat(revert hN;revert N;apply Pn.out));refine wk @hd ?_;(repeat(refine Pn.mk ?_;intro N hN))))
  refine fy (.inl rfl) (vs:=[.own o 0 bs.length]) (sd @Nat.zero_add) ⟨bs.map ax,by rw[eB];rfl,sd @ho,by rw[eB,List.take_of_length_le (by simp)],by rw[eB];simp,bw,fun x _ _=>rfl⟩
def yj (bs:List PB):AV:=if bs=[]then .br else .sl (bs.map ax)
theorem Kh:yj []=.br:=rfl
theorem yk {bs:List PB} (h:0<bs.length):yj bs=.sl (bs.map ax):=by
 unfold yj
 rw[if_neg (by rintro rfl;simp at h)]
theorem vh (cnt:Nat) (vC:1<=cnt) (hn:cnt<=1048576) (bs:List PB) (hb:∀b∈bs,b.a<cnt/\b.b<cnt) (hp:0<bs.length) (pD:bs.length<=1048576) (t:Int):ah Tryz.prog 156 [.int .i64 cnt,.sl (bs.map ax),.int .i64 t] (.gE [.int .i64 (leads cnt (dV (aE t bs))).length,yj (dk (dV (aE t bs)) bs)]):=by
 refine ah.body dY rfl fun hl n0=>?_
 clear hl
 (try((repeat(revert hN;revert N;apply Pn.out));refine wk @Nat.zero_add ?_;(repeat(refine Pn.mk ?_;intro N hN))))
 refine .inr (aV _ _ _ _ _ (fun r σ1 hq=>?_) (Gm bs hp pD _))
 obtain⟨o,rfl,ho,Jt,Ju,ON⟩:=hq
 (try dsimp only at ho Jt Ju ON)
 refine hN _ _ ?_
 clear hN N
 (try((repeat(revert hN;revert N;apply Pn.out));refine wk @Nat.zero_add ?_;(repeat(refine Pn.mk ?_;intro N hN))))
 refine .inr (aV _ _ _ _ _ (fun r σ2 hq=>?_) (Ee bs t pD o ⟨156000000,n0⟩ _ ho (by rw[ON _ bw];simp only[go_sem, ↓reduceIte,Nat.reduceEqDiff,Nat.reduceAdd,Nat.reduceSub,Nat.reduceLeDiff,reduceCtorEq]) bw bw (by rintro rfl;simp only at Jt;omega)))
 obtain⟨rows,rfl,fa,hrt,qP,l9,GP⟩:=hq
 (try dsimp only at l9 GP)
 refine hN _ _ ?_
 clear hN N
 have FP:=tO cnt vC hn (aE t bs) (fun b h=>hb b (uI h)) (by have:=mm t bs;omega)
 have hL:=si (aE t bs)
 have hz:∀x,cq (dD σ2.get) 6 [.int .i64 x,.own o 0 (aE t bs).length]=some [.int .i64 x,.sl ((aE t bs).map ax)]:=fun x=>by
  have:V.fz (dD σ2.get) 6 (.own o 0 (aE t bs).length)=some (.sl ((aE t bs).map ax)):=by
   rw[gC];simp only[dD,fa,Option.map_some,if_true]
   rw[if_pos ab,List.drop_zero,hrt,l7 fun b=>xD _ 4 b];rfl
  simp only[ad,aj,aH,this,Option.map_some]
 (try((repeat(revert hN;revert N;apply Pn.out));refine wk @Nat.zero_add ?_;(repeat(refine Pn.mk ?_;intro N hN))))
 refine .inl ⟨_,ah.x FP (hz _),?_⟩
 refine hN _ _ ?_
 clear hN N
 generalize dV (aE t bs)=L at *
 have pE:((e9 cnt L).map yF).length=(leads cnt L).length:=by simp[e9]
 have Qt:=jr cnt L
 have jk:(0:Int)<=(cnt:Int):=ab
 have oK:(cnt:Int)<=((16777216:Nat):Int):=ab
 have gx:List.replicate cnt [AV.int .i64 0]=dw (cv cnt L 0 0) cnt:=by rw[uM,nK]
 (try((repeat(revert hN;revert N;apply Pn.out));refine wk (tw @jk (tw @oK (tw @Int.le_refl (tw @pE @gx)))) ?_;(repeat(refine Pn.mk ?_;intro N hN))))
 refine aT (fun n env st=>∃i:Nat,n=((leads cnt L).length)-i/\i<=((leads cnt L).length)/\env 27=.int .i64 (i:Int)/\st.get ⟨156002001,σ2.next+1⟩=some ⟨true,1,dw (cv cnt L i 0) cnt⟩/\(σ2.next+1<st.next)) ((leads cnt L).length) ⟨0,ab,ab,sl (tw @gx @pE),sl (tw @gx @pE),bw⟩ ?_
 rintro n_c env_c st_c ⟨i,rfl,cle,c27,cg0,cI0⟩ cfr
 have c1:=cfr 1 (by kernel_rfl);have c8:=cfr 8 (by kernel_rfl);have c9:=cfr 9 (by kernel_rfl);have u9:=cfr 25 (by kernel_rfl);have vd:=cfr 26 (by kernel_rfl)
 simp only[go_sem, ↓reduceIte,Nat.reduceEqDiff,Nat.reduceAdd,Nat.reduceSub,Nat.reduceLeDiff,reduceCtorEq,gx,pE]at c1 c8 c9 u9 vd
 clear cfr
 by_cases hi:(i:Int)<((leads cnt L).length:Int)
 ·have gD:∀{e:Env} {gg:Rows} {nx:Nat},(e 27=.int .i64 (IntKind.i64.wrap ((i:Int)+1)))->(gg ⟨156002001,σ2.next+1⟩=some ⟨true,1,dw (cv cnt L (i+1) 0) cnt⟩)->(σ2.next+1<nx)->∃m0,m0<((leads cnt L).length)-i/\∃i:Nat,m0=((leads cnt L).length)-i/\i<=((leads cnt L).length)/\e 27=.int .i64 (i:Int)/\gg ⟨156002001,σ2.next+1⟩=some ⟨true,1,dw (cv cnt L i 0) cnt⟩/\(σ2.next+1<nx):=fun x1 x2 x3=>⟨_,ab,i+1,rfl,ab,(by rw[x1,aA ab]),x2,x3⟩
  have fJ:i<(leads cnt L).length:=ab
  have oe:((e9 cnt L).map yF)[i]? =some (yF (members cnt L (leads cnt L)[i])):=by simp[e9,fJ]
  have s7:(leads cnt L).getD i 0=(leads cnt L)[i]:=by simp[List.getD_eq_getElem?_getD,fJ]
  have qd:∀m,cv cnt L i m=fun x=>if bx L x<i then bx L x else if x∈(members cnt L (leads cnt L)[i]).take m then i else 0:=fun m=>by unfold cv;rw[s7]
  have p7:=fun x (hx:x<cnt)=>rF hL (n:=cnt) (k:=x) (i:=i) hx fJ
  have k7:(members cnt L (leads cnt L)[i]).Nodup:=List.nodup_range.filter _
  have vB:∀x∈members cnt L (leads cnt L)[i],x<cnt:=fun x hx=>(kW.1 hx).1
  have hMc:(members cnt L (leads cnt L)[i]).length<=cnt:=by
   have:=List.length_filter_le (fun k=>L k==(leads cnt L)[i]) (List.range cnt)
   simpa[members]using this
  generalize members cnt L (leads cnt L)[i]=M at *
  have Ax:(M.map eN).length=M.length:=by simp
  (try((repeat(revert hN;revert N;apply Pn.out));refine wk (tw @c27 (tw @cg0 (tw @c1 (tw @c8 (tw @c9 (tw @u9 (tw @vd (tw @hi (tw @pE (tw @oe (tw @yF.eq_1 @Ax))))))))))) ?_;(repeat(refine Pn.mk ?_;intro N hN))))
  refine aT (fun n env st=>∃m:Nat,n=(M.length)-m/\m<=(M.length)/\env 34=.int .i64 (m:Int)/\st.get ⟨156002001,σ2.next+1⟩=some ⟨true,1,dw (cv cnt L i m) cnt⟩/\(σ2.next+1<st.next)) (M.length) ⟨0,ab,ab,sl (tw @c27 (tw @cg0 (tw @c1 (tw @c8 (tw @c9 (tw @u9 (tw @vd @Ax))))))),sl (tw @c27 (tw @cg0 (tw @c1 (tw @c8 (tw @c9 (tw @u9 (tw @vd @Ax))))))),bw⟩ ?_
  rintro n_d env_d st_d ⟨m,rfl,dle,d34,dg0,dI0⟩ dfr
  have d1:=dfr 1 (by kernel_rfl);have d8:=dfr 8 (by kernel_rfl);have d9:=dfr 9 (by kernel_rfl);have d10:=dfr 10 (by kernel_rfl);have d25:=dfr 25 (by kernel_rfl);have d26:=dfr 26 (by kernel_rfl);have d27:=dfr 27 (by kernel_rfl);have d32:=dfr 32 (by kernel_rfl);have d33:=dfr 33 (by kernel_rfl)
  simp only[go_sem, ↓reduceIte,Nat.reduceEqDiff,Nat.reduceAdd,Nat.reduceSub,Nat.reduceLeDiff,reduceCtorEq,c27,cg0,c1,c8,c9,u9,vd,Ax]at d1 d8 d9 d10 d25 d26 d27 d32 d33
  clear dfr
  have tl:=fF (cv cnt L i m) cnt
  by_cases hm:(m:Int)<(M.length:Int)
  ·have sk:∀{e:Env} {gg:Rows} {nx:Nat},(e 34=.int .i64 (IntKind.i64.wrap ((m:Int)+1)))->(gg ⟨156002001,σ2.next+1⟩=some ⟨true,1,dw (cv cnt L i (m+1)) cnt⟩)->(σ2.next+1<nx)->∃m0,m0<(M.length)-m/\∃m:Nat,m0=(M.length)-m/\m<=(M.length)/\e 34=.int .i64 (m:Int)/\gg ⟨156002001,σ2.next+1⟩=some ⟨true,1,dw (cv cnt L i m) cnt⟩/\(σ2.next+1<nx):=fun x1 x2 x3=>⟨_,ab,m+1,rfl,ab,(by rw[x1,aA ab]),x2,x3⟩
   have xM:m<M.length:=ab
   have tQ:(M.map eN)[m]? =some (eN M[m]):=by simp[xM]
   have tU:=vB _ (List.getElem_mem xM)
   have AE:(M[m]:Int)<(cnt:Int):=ab
   have AD:=e6 (f:=cv cnt L i m) tU
   have ew:(dw (cv cnt L i m) cnt).set M[m] (eN i)=dw (cv cnt L i (m+1)) cnt:=oy tU (by
    have h1:=(p7 _ tU).1 (List.getElem_mem xM)
    rw[qd]
    simp only[]
    rw[if_neg ab,if_pos (by rw[List.take_succ_eq_append_getElem xM];exact List.mem_append_right _ (List.mem_singleton.2 rfl))]) fun x hx gU=>by
    rw[qd,qd]
    simp only[]
    rw[List.take_succ_eq_append_getElem xM]
    simp only[List.mem_append,List.mem_singleton,gU,or_false]
   rw[eN]at ew AD
   generalize M[m]=xm at *
   (try((repeat(revert hN;revert N;apply Pn.out));refine wk (tw @d34 (tw @dg0 (tw @d1 (tw @d8 (tw @d9 (tw @d10 (tw @d25 (tw @d26 (tw @d27 (tw @d32 (tw @d33 (tw @hm (tw @hi (tw @tQ (tw @Ax (tw @AE (tw @AD (tw @tl (tw @ew @eN.eq_1))))))))))))))))))) ?_;(repeat(refine Pn.mk ?_;intro N hN))))
   refine sk ?_ ?_ bw
   all_goals simp only[go_sem, ↓reduceIte,Nat.reduceEqDiff,Nat.reduceAdd,Nat.reduceSub,Nat.reduceLeDiff,reduceCtorEq,d34,dg0,d1,d8,d9,d10,d25,d26,d27,d32,d33,ew]
  ·have jI:m=M.length:=ab
   subst jI
   have vD:dw (cv cnt L i M.length) cnt=dw (cv cnt L (i+1) 0) cnt:=gr fun x hx=>by
    rw[qd,List.take_length]
    simp only[cv,List.take_zero,List.not_mem_nil,if_false]
    have h1:=p7 x hx
    by_cases h2:bx L x<i
    ·rw[if_pos h2,if_pos ab]
    ·rw[if_neg h2]
     by_cases h3:x∈M
     ·rw[if_pos h3,if_pos (by have:=h1.1 h3;omega),h1.1 h3]
     ·rw[if_neg h3,if_neg fun h4=>h3 (h1.2 ab)]
   (try((repeat(revert hN;revert N;apply Pn.out));refine wk (tw @d34 (tw @dg0 (tw @d1 (tw @d8 (tw @d9 (tw @d10 (tw @d25 (tw @d26 (tw @d27 (tw @d32 (tw @d33 (tw @hm (tw @hi (tw @pE @Ax)))))))))))))) ?_;(repeat(refine Pn.mk ?_;intro N hN))))
   refine gD ?_ ?_ bw
   all_goals simp only[go_sem, ↓reduceIte,Nat.reduceEqDiff,Nat.reduceAdd,Nat.reduceSub,Nat.reduceLeDiff,reduceCtorEq,c27,cg0,c1,c8,c9,u9,vd,d34,dg0,d1,d8,d9,d10,d25,d26,d27,d32,d33,vD]
 have oL:i=(leads cnt L).length:=ab
 subst oL
 have EA:dw (cv cnt L (leads cnt L).length 0) cnt=dw (bx L) cnt:=gr fun x hx=>by rw[cv,if_pos (jK hL hx)]
 rw[EA]at cg0
 have tl:=fF (bx L) cnt
 have Qd:(bs.map ax).length=bs.length:=by simp
 (try((repeat(revert hN;revert N;apply Pn.out));refine wk (tw @c27 (tw @cg0 (tw @c1 (tw @c8 (tw @c9 (tw @u9 (tw @vd (tw @hi (tw @pE @Qd))))))))) ?_;(repeat(refine Pn.mk ?_;intro N hN))))
 have Qg:σ2.next+1<st_c.next:=cI0
 refine aT (fun n env st=>∃j:Nat,n=(bs.length)-j/\j<=(bs.length)/\env 46=.int .i64 (j:Int)/\st.get ⟨156002001,σ2.next+1⟩=some ⟨true,1,dw (bx L) cnt⟩/\(st_c.next<=st.next/\((dk L (bs.take j)=[]/\env 14=.br)∨∃p:Id,env 14=.own p 0 (dk L (bs.take j)).length/\st.get p=some ⟨true,3,(dk L (bs.take j)).map ax⟩/\st_c.next<=p.bY/\p.bY<st.next/\0<(dk L (bs.take j)).length))) (bs.length) ⟨0,ab,ab,sl (tw @c27 (tw @cg0 (tw @c1 (tw @c8 (tw @c9 (tw @u9 (tw @vd @Qd))))))),sl (tw @c27 (tw @cg0 (tw @c1 (tw @c8 (tw @c9 (tw @u9 (tw @vd @Qd))))))),⟨bw,.inl ⟨rfl,by(simp only[go_sem, ↓reduceIte,Nat.reduceEqDiff,Nat.reduceAdd,Nat.reduceSub,Nat.reduceLeDiff,reduceCtorEq])⟩⟩⟩ ?_
 rintro n_f env_f st_f ⟨j,rfl,fle,f46,fg0,fI0⟩ ffr
 have f1:=ffr 1 (by kernel_rfl);have f8:=ffr 8 (by kernel_rfl);have f9:=ffr 9 (by kernel_rfl);have f44:=ffr 44 (by kernel_rfl);have f45:=ffr 45 (by kernel_rfl)
 simp only[go_sem, ↓reduceIte,Nat.reduceEqDiff,Nat.reduceAdd,Nat.reduceSub,Nat.reduceLeDiff,reduceCtorEq,c27,cg0,c1,c8,c9,u9,vd,Qd]at f1 f8 f9 f44 f45
 clear ffr
 obtain⟨Ql,fO⟩:=fI0
 have G5:=eC (i:=⟨156002001,σ2.next+1⟩) (n:=st_f.next) bw
 have sM:=(ml L (bs.take j)).1
 rw[List.length_take]at sM
 by_cases hj:(j:Int)<(bs.length:Int)
 ·have qo:∀{e:Env} {gg:Rows} {nx:Nat},(e 46=.int .i64 (IntKind.i64.wrap ((j:Int)+1)))->(gg ⟨156002001,σ2.next+1⟩=some ⟨true,1,dw (bx L) cnt⟩)->(st_c.next<=nx/\((dk L (bs.take (j+1))=[]/\e 14=.br)∨∃p:Id,e 14=.own p 0 (dk L (bs.take (j+1))).length/\gg p=some ⟨true,3,(dk L (bs.take (j+1))).map ax⟩/\st_c.next<=p.bY/\p.bY<nx/\0<(dk L (bs.take (j+1))).length))->∃m0,m0<(bs.length)-j/\∃j:Nat,m0=(bs.length)-j/\j<=(bs.length)/\e 46=.int .i64 (j:Int)/\gg ⟨156002001,σ2.next+1⟩=some ⟨true,1,dw (bx L) cnt⟩/\(st_c.next<=nx/\((dk L (bs.take j)=[]/\e 14=.br)∨∃p:Id,e 14=.own p 0 (dk L (bs.take j)).length/\gg p=some ⟨true,3,(dk L (bs.take j)).map ax⟩/\st_c.next<=p.bY/\p.bY<nx/\0<(dk L (bs.take j)).length)):=fun x1 x2 x3=>⟨_,ab,j+1,rfl,ab,(by rw[x1,aA ab]),x2,x3⟩
  have gw:j<bs.length:=ab
  have FO:(bs.map ax)[j]? =some (ax bs[j]):=by simp[gw]
  have KH:=hb _ (List.getElem_mem gw)
  have hs:=yg L (bs.take j) bs[j]
  rw[<-List.take_succ_eq_append_getElem gw]at hs
  generalize bs[j]=b at *
  have hA:=e6 (f:=bx L) KH.1
  have hB:=e6 (f:=bx L) KH.2
  have ga:(b.a:Int)<(cnt:Int):=ab
  have fB:(b.b:Int)<(cnt:Int):=ab
  rw[eN]at hA hB
  have e1:(dk L (bs.take j)).length+1<=16777216:=ab
  have jI:((dk L (bs.take j)).map ax).length=(dk L (bs.take j)).length:=by simp
  by_cases he:bx L b.a=bx L b.b
  ·rw[if_pos he,List.append_nil]at hs
   have s6:decide ((bx L b.a:Int)=(bx L b.b:Int))=true:=decide_eq_true (by rw[he])
   (try((repeat(revert hN;revert N;apply Pn.out));refine wk (tw @f46 (tw @fg0 (tw @f1 (tw @f8 (tw @f9 (tw @f44 (tw @f45 (tw @hj (tw @FO (tw @hA (tw @hB (tw @ga (tw @fB (tw @tl (tw @s6 (tw @G5 (tw @ax.eq_1 (tw @Bool.not_true @Bool.not_false)))))))))))))))))) ?_;(repeat(refine Pn.mk ?_;intro N hN))))
   refine qo ?_ ?_ (by(try dsimp only);exact⟨ab,by
    rw[hs]
    rcases fO with⟨h1,h2⟩|⟨p,h1,h2,h3,h4,h5⟩
    ·exact .inl ⟨h1,sd @h2⟩
    ·have yI:=eC h4
     exact .inr ⟨p,sd @h1,sd (tw @h2 @yI),h3,ab,h5⟩⟩)
   all_goals simp only[go_sem, ↓reduceIte,Nat.reduceEqDiff,Nat.reduceAdd,Nat.reduceSub,Nat.reduceLeDiff,reduceCtorEq,f46,fg0,f1,f8,f9,f44,f45,G5]
  ·rw[if_neg he]at hs
   have s6:decide ((bx L b.a:Int)=(bx L b.b:Int))=false:=decide_eq_false fun h=>he ab
   rcases fO with⟨h1,f14⟩|⟨p,f14,fg,Ml,KU,Qx⟩
   ·rw[h1]at hs
    (try((repeat(revert hN;revert N;apply Pn.out));refine wk (tw @f46 (tw @fg0 (tw @f1 (tw @f8 (tw @f9 (tw @f44 (tw @f45 (tw @f14 (tw @hj (tw @FO (tw @hA (tw @hB (tw @ga (tw @fB (tw @tl (tw @s6 (tw @G5 (tw @ax.eq_1 (tw @Bool.not_true @Bool.not_false))))))))))))))))))) ?_;(repeat(refine Pn.mk ?_;intro N hN))))
    refine qo ?_ ?_ (by(try dsimp only);exact⟨ab,.inr ⟨⟨156017015,st_f.next+1+1+1⟩,by rw[hs];simp only[go_sem, ↓reduceIte,Nat.reduceEqDiff,Nat.reduceAdd,Nat.reduceSub,Nat.reduceLeDiff,reduceCtorEq,List.nil_append,List.length_cons,List.length_nil],by rw[hs];simp only[go_sem, ↓reduceIte,Nat.reduceEqDiff,Nat.reduceAdd,Nat.reduceSub,Nat.reduceLeDiff,reduceCtorEq,ax,List.nil_append,List.map_cons,List.map_nil],bw,bw,by rw[hs];simp⟩⟩)
    all_goals simp only[go_sem, ↓reduceIte,Nat.reduceEqDiff,Nat.reduceAdd,Nat.reduceSub,Nat.reduceLeDiff,reduceCtorEq,f46,fg0,f1,f8,f9,f44,f45,G5]
   ·have x1:=dx (a:=⟨156002001,σ2.next+1⟩) (b:=p) bw
    have yI:=eC KU
    (try((repeat(revert hN;revert N;apply Pn.out));refine wk (tw @f46 (tw @fg0 (tw @f1 (tw @f8 (tw @f9 (tw @f44 (tw @f45 (tw @f14 (tw @fg (tw @hj (tw @FO (tw @hA (tw @hB (tw @ga (tw @fB (tw @tl (tw @s6 (tw @x1 (tw @yI (tw @G5 (tw @e1 (tw @jI (tw @ax.eq_1 (tw @Bool.not_true @Bool.not_false)))))))))))))))))))))))) ?_;(repeat(refine Pn.mk ?_;intro N hN))))
    refine qo ?_ ?_ (by(try dsimp only);exact⟨ab,.inr ⟨⟨156017015,st_f.next+1+1+1⟩,by rw[hs,List.length_append];simp only[go_sem, ↓reduceIte,Nat.reduceEqDiff,Nat.reduceAdd,Nat.reduceSub,Nat.reduceLeDiff,reduceCtorEq,List.length_cons,List.length_nil],by rw[hs,List.map_append,List.map_cons,List.map_nil];simp only[go_sem, ↓reduceIte,Nat.reduceEqDiff,Nat.reduceAdd,Nat.reduceSub,Nat.reduceLeDiff,reduceCtorEq,ax],bw,bw,by rw[hs];simp⟩⟩)
    all_goals simp only[go_sem, ↓reduceIte,Nat.reduceEqDiff,Nat.reduceAdd,Nat.reduceSub,Nat.reduceLeDiff,reduceCtorEq,f46,fg0,f1,f8,f9,f44,f45,x1,G5]
 ·have gG:j=bs.length:=ab
  subst gG
  rw[List.take_length]at fO
  rcases fO with⟨h1,f14⟩|⟨p,f14,fg,Ml,KU,Qx⟩
  ·(try((repeat(revert hN;revert N;apply Pn.out));refine wk (tw @f46 (tw @fg0 (tw @f1 (tw @f8 (tw @f9 (tw @f44 (tw @f45 (tw @f14 (tw @hj @pE))))))))) ?_;(repeat(refine Pn.mk ?_;intro N hN))))
   refine jc (.inl rfl) (r1:=.int .i64 ((leads cnt L).length:Int)) (sd @Nat.zero_add) (by simp only[go_sem, ↓reduceIte,Nat.reduceEqDiff,Nat.reduceAdd,Nat.reduceSub,Nat.reduceLeDiff,reduceCtorEq];rfl) ?_
   simp only[cJ,aC,aL,cC,il,h1,Kh,Option.map_some]
  ·(try((repeat(revert hN;revert N;apply Pn.out));refine wk (tw @f46 (tw @fg0 (tw @f1 (tw @f8 (tw @f9 (tw @f44 (tw @f45 (tw @f14 (tw @hj @pE))))))))) ?_;(repeat(refine Pn.mk ?_;intro N hN))))
   refine jc (.inl rfl) (r1:=.int .i64 ((leads cnt L).length:Int)) (sd @Nat.zero_add) (by simp only[go_sem, ↓reduceIte,Nat.reduceEqDiff,Nat.reduceAdd,Nat.reduceSub,Nat.reduceLeDiff,reduceCtorEq];rfl) ?_
   have h1:fu st_f.get 5 (.own p 0 (dk L bs).length)=some (.sl ((dk L bs).map ax)):=eW (sz:=3) fg rfl fun b=>sZ _ 3 b
   simp only[cJ,aC,aL,cC,h1,yk Qx,Option.map_some]
theorem vg (cnt:Nat) (vC:1<=cnt) (hn:cnt<=1048576) (t:Int):ah Tryz.prog 156 [.int .i64 cnt,.br,.int .i64 t] (.gE [.int .i64 cnt,.br]):=by
 refine ah.body dY rfl fun hl n0=>?_
 clear hl
 have h1:ah Tryz.prog 171 [.br] .br:=by
  refine ah.body dY rfl fun hl n0=>?_
  clear hl
  (try((repeat(revert hN;revert N;apply Pn.out));refine wk @Nat.zero_add ?_;(repeat(refine Pn.mk ?_;intro N hN))))
  exact uA (.inl rfl) (r0:=.br) (sd @Nat.zero_add) (il _ _)
 have h2:ah Tryz.prog 170 [.br,.fn 172 [.de [.int .i64 t]]] .br:=by
  have Ey:=(wJ [] t (by simp)).cut mixed (.br (.same _ .nil))
  refine ah.body dY rfl fun hl n0=>?_
  clear hl
  (try((repeat(revert hN;revert N;apply Pn.out));refine wk @Nat.zero_add ?_;(repeat(refine Pn.mk ?_;intro N hN))))
  refine .inl ⟨_,ah.x Ey (by simp only[ad,aj,aX,cL,aY,List.all_cons,List.all_nil,AV.cell,Bool.and_true,if_true,Option.map_some]),?_⟩
  refine hN _ _ ?_
  clear hN N
  have hd:decide (jR (fun b:PB=>decide (b.s<t)) []= -1)=true:=rfl
  (try((repeat(revert hN;revert N;apply Pn.out));refine wk @hd ?_;(repeat(refine Pn.mk ?_;intro N hN))))
  exact uA (.inl rfl) (r0:=.br) (sd @Nat.zero_add) (il _ _)
 have FP:=(tO cnt vC hn [] (fun b h=>by cases h) (by simp)).cut mixed (.same _ (.br .nil))
 (repeat(first|((repeat(revert hN;revert N;apply Pn.out));refine wk @Nat.zero_add ?_;(repeat(refine Pn.mk ?_;intro N hN)))|((try apply Or.inl);refine⟨_,ah.x (h1) (sd @Nat.zero_add),?_⟩;refine hN _ _ ?_;clear hN N)))
 refine .inl ⟨_,ah.x h2 ?_,?_⟩
 ·have:V.fz (dD (bS (fun _=>none) ⟨156000000,n0⟩ ⟨true,1,[[.int .i64 t]]⟩)) 5 (.ptr ⟨156000000,n0⟩ 0 0)=some (.de [.int .i64 t]):=xF (sz:=1) (rows:=[[.int .i64 t]]) (by simp[dD,bS]) rfl (by simp only[List.drop_zero,ad,aj,aH,Option.map_some])
  simp only[ad,aj,aX,cL,this,List.all_cons,List.all_nil,AV.cell,Bool.and_true,if_true,Option.map_some]
 refine hN _ _ ?_
 clear hN N
 have fB:dV ([]:List PB)=id:=rfl
 rw[fB]at FP
 have hL:ji id:=fB▸si ([]:List PB)
 have NI:(leads cnt id).length=cnt:=by rw[leads,List.filter_eq_self.2 (fun a _=>by simp)];simp
 generalize (id:Nat->Nat)=L at *
 have pE:((e9 cnt L).map yF).length=(leads cnt L).length:=by simp[e9]
 have Qt:=jr cnt L
 have jk:(0:Int)<=(cnt:Int):=ab
 have oK:(cnt:Int)<=((16777216:Nat):Int):=ab
 have gx:List.replicate cnt [AV.int .i64 0]=dw (cv cnt L 0 0) cnt:=by rw[uM,nK]
 (repeat(first|((repeat(revert hN;revert N;apply Pn.out));refine wk (tw @jk (tw @oK (tw @Int.le_refl (tw @pE @gx)))) ?_;(repeat(refine Pn.mk ?_;intro N hN)))|((try apply Or.inl);refine⟨_,ah.x (FP) (sd (tw @jk (tw @oK (tw @Int.le_refl (tw @pE @gx))))),?_⟩;refine hN _ _ ?_;clear hN N)))
 refine aT (fun n env st=>∃i:Nat,n=((leads cnt L).length)-i/\i<=((leads cnt L).length)/\env 27=.int .i64 (i:Int)/\st.get ⟨156002001,n0+1+1⟩=some ⟨true,1,dw (cv cnt L i 0) cnt⟩/\(n0+1+1<st.next)) ((leads cnt L).length) ⟨0,ab,ab,sl (tw @gx @pE),sl (tw @gx @pE),bw⟩ ?_
 rintro n_c env_c st_c ⟨i,rfl,cle,c27,cg0,cI0⟩ cfr
 have c1:=cfr 1 (by kernel_rfl);have c8:=cfr 8 (by kernel_rfl);have c9:=cfr 9 (by kernel_rfl);have u9:=cfr 25 (by kernel_rfl);have vd:=cfr 26 (by kernel_rfl)
 simp only[go_sem, ↓reduceIte,Nat.reduceEqDiff,Nat.reduceAdd,Nat.reduceSub,Nat.reduceLeDiff,reduceCtorEq,gx,pE]at c1 c8 c9 u9 vd
 clear cfr
 by_cases hi:(i:Int)<((leads cnt L).length:Int)
 ·have gD:∀{e:Env} {gg:Rows} {nx:Nat},(e 27=.int .i64 (IntKind.i64.wrap ((i:Int)+1)))->(gg ⟨156002001,n0+1+1⟩=some ⟨true,1,dw (cv cnt L (i+1) 0) cnt⟩)->(n0+1+1<nx)->∃m0,m0<((leads cnt L).length)-i/\∃i:Nat,m0=((leads cnt L).length)-i/\i<=((leads cnt L).length)/\e 27=.int .i64 (i:Int)/\gg ⟨156002001,n0+1+1⟩=some ⟨true,1,dw (cv cnt L i 0) cnt⟩/\(n0+1+1<nx):=fun x1 x2 x3=>⟨_,ab,i+1,rfl,ab,(by rw[x1,aA ab]),x2,x3⟩
  have fJ:i<(leads cnt L).length:=ab
  have oe:((e9 cnt L).map yF)[i]? =some (yF (members cnt L (leads cnt L)[i])):=by simp[e9,fJ]
  have s7:(leads cnt L).getD i 0=(leads cnt L)[i]:=by simp[List.getD_eq_getElem?_getD,fJ]
  have qd:∀m,cv cnt L i m=fun x=>if bx L x<i then bx L x else if x∈(members cnt L (leads cnt L)[i]).take m then i else 0:=fun m=>by unfold cv;rw[s7]
  have p7:=fun x (hx:x<cnt)=>rF hL (n:=cnt) (k:=x) (i:=i) hx fJ
  have k7:(members cnt L (leads cnt L)[i]).Nodup:=List.nodup_range.filter _
  have vB:∀x∈members cnt L (leads cnt L)[i],x<cnt:=fun x hx=>(kW.1 hx).1
  have hMc:(members cnt L (leads cnt L)[i]).length<=cnt:=by
   have:=List.length_filter_le (fun k=>L k==(leads cnt L)[i]) (List.range cnt)
   simpa[members]using this
  generalize members cnt L (leads cnt L)[i]=M at *
  have Ax:(M.map eN).length=M.length:=by simp
  (try((repeat(revert hN;revert N;apply Pn.out));refine wk (tw @c27 (tw @cg0 (tw @c1 (tw @c8 (tw @c9 (tw @u9 (tw @vd (tw @hi (tw @pE (tw @oe (tw @yF.eq_1 @Ax))))))))))) ?_;(repeat(refine Pn.mk ?_;intro N hN))))
  refine aT (fun n env st=>∃m:Nat,n=(M.length)-m/\m<=(M.length)/\env 34=.int .i64 (m:Int)/\st.get ⟨156002001,n0+1+1⟩=some ⟨true,1,dw (cv cnt L i m) cnt⟩/\(n0+1+1<st.next)) (M.length) ⟨0,ab,ab,sl (tw @c27 (tw @cg0 (tw @c1 (tw @c8 (tw @c9 (tw @u9 (tw @vd @Ax))))))),sl (tw @c27 (tw @cg0 (tw @c1 (tw @c8 (tw @c9 (tw @u9 (tw @vd @Ax))))))),bw⟩ ?_
  rintro n_d env_d st_d ⟨m,rfl,dle,d34,dg0,dI0⟩ dfr
  have d1:=dfr 1 (by kernel_rfl);have d8:=dfr 8 (by kernel_rfl);have d9:=dfr 9 (by kernel_rfl);have d10:=dfr 10 (by kernel_rfl);have d25:=dfr 25 (by kernel_rfl);have d26:=dfr 26 (by kernel_rfl);have d27:=dfr 27 (by kernel_rfl);have d32:=dfr 32 (by kernel_rfl);have d33:=dfr 33 (by kernel_rfl)
  simp only[go_sem, ↓reduceIte,Nat.reduceEqDiff,Nat.reduceAdd,Nat.reduceSub,Nat.reduceLeDiff,reduceCtorEq,c27,cg0,c1,c8,c9,u9,vd,Ax]at d1 d8 d9 d10 d25 d26 d27 d32 d33
  clear dfr
  have tl:=fF (cv cnt L i m) cnt
  by_cases hm:(m:Int)<(M.length:Int)
  ·have sk:∀{e:Env} {gg:Rows} {nx:Nat},(e 34=.int .i64 (IntKind.i64.wrap ((m:Int)+1)))->(gg ⟨156002001,n0+1+1⟩=some ⟨true,1,dw (cv cnt L i (m+1)) cnt⟩)->(n0+1+1<nx)->∃m0,m0<(M.length)-m/\∃m:Nat,m0=(M.length)-m/\m<=(M.length)/\e 34=.int .i64 (m:Int)/\gg ⟨156002001,n0+1+1⟩=some ⟨true,1,dw (cv cnt L i m) cnt⟩/\(n0+1+1<nx):=fun x1 x2 x3=>⟨_,ab,m+1,rfl,ab,(by rw[x1,aA ab]),x2,x3⟩
   have xM:m<M.length:=ab
   have tQ:(M.map eN)[m]? =some (eN M[m]):=by simp[xM]
   have tU:=vB _ (List.getElem_mem xM)
   have AE:(M[m]:Int)<(cnt:Int):=ab
   have AD:=e6 (f:=cv cnt L i m) tU
   have ew:(dw (cv cnt L i m) cnt).set M[m] (eN i)=dw (cv cnt L i (m+1)) cnt:=oy tU (by
    have h1:=(p7 _ tU).1 (List.getElem_mem xM)
    rw[qd]
    simp only[]
    rw[if_neg ab,if_pos (by rw[List.take_succ_eq_append_getElem xM];exact List.mem_append_right _ (List.mem_singleton.2 rfl))]) fun x hx gU=>by
    rw[qd,qd]
    simp only[]
    rw[List.take_succ_eq_append_getElem xM]
    simp only[List.mem_append,List.mem_singleton,gU,or_false]
   rw[eN]at ew AD
   generalize M[m]=xm at *
   (try((repeat(revert hN;revert N;apply Pn.out));refine wk (tw @d34 (tw @dg0 (tw @d1 (tw @d8 (tw @d9 (tw @d10 (tw @d25 (tw @d26 (tw @d27 (tw @d32 (tw @d33 (tw @hm (tw @hi (tw @tQ (tw @Ax (tw @AE (tw @AD (tw @tl (tw @ew @eN.eq_1))))))))))))))))))) ?_;(repeat(refine Pn.mk ?_;intro N hN))))
   refine sk ?_ ?_ bw
   all_goals simp only[go_sem, ↓reduceIte,Nat.reduceEqDiff,Nat.reduceAdd,Nat.reduceSub,Nat.reduceLeDiff,reduceCtorEq,d34,dg0,d1,d8,d9,d10,d25,d26,d27,d32,d33,ew]
  ·have jI:m=M.length:=ab
   subst jI
   have vD:dw (cv cnt L i M.length) cnt=dw (cv cnt L (i+1) 0) cnt:=gr fun x hx=>by
    rw[qd,List.take_length]
    simp only[cv,List.take_zero,List.not_mem_nil,if_false]
    have h1:=p7 x hx
    by_cases h2:bx L x<i
    ·rw[if_pos h2,if_pos ab]
    ·rw[if_neg h2]
     by_cases h3:x∈M
     ·rw[if_pos h3,if_pos (by have:=h1.1 h3;omega),h1.1 h3]
     ·rw[if_neg h3,if_neg fun h4=>h3 (h1.2 ab)]
   (try((repeat(revert hN;revert N;apply Pn.out));refine wk (tw @d34 (tw @dg0 (tw @d1 (tw @d8 (tw @d9 (tw @d10 (tw @d25 (tw @d26 (tw @d27 (tw @d32 (tw @d33 (tw @hm (tw @hi (tw @pE @Ax)))))))))))))) ?_;(repeat(refine Pn.mk ?_;intro N hN))))
   refine gD ?_ ?_ bw
   all_goals simp only[go_sem, ↓reduceIte,Nat.reduceEqDiff,Nat.reduceAdd,Nat.reduceSub,Nat.reduceLeDiff,reduceCtorEq,c27,cg0,c1,c8,c9,u9,vd,d34,dg0,d1,d8,d9,d10,d25,d26,d27,d32,d33,vD]
 have oL:i=(leads cnt L).length:=ab
 subst oL
 have EA:dw (cv cnt L (leads cnt L).length 0) cnt=dw (bx L) cnt:=gr fun x hx=>by rw[cv,if_pos (jK hL hx)]
 rw[EA]at cg0
 have tl:=fF (bx L) cnt
 (try((repeat(revert hN;revert N;apply Pn.out));refine wk (tw @c27 (tw @cg0 (tw @c1 (tw @c8 (tw @c9 (tw @u9 (tw @vd (tw @hi @pE)))))))) ?_;(repeat(refine Pn.mk ?_;intro N hN))))
 refine aT (fun n env st=>∃j:Nat,n=(0)-j/\j<=(0)/\env 46=.int .i64 (j:Int)/\env 14=.br) (0) ⟨0,ab,ab,sl (tw @c27 (tw @cg0 (tw @c1 (tw @c8 (tw @c9 (tw @u9 @vd)))))),sl (tw @c27 (tw @cg0 (tw @c1 (tw @c8 (tw @c9 (tw @u9 @vd))))))⟩ ?_
 rintro n_f env_f st_f ⟨j,rfl,fle,f46,f14⟩ ffr
 have f8:=ffr 8 (by kernel_rfl);have f44:=ffr 44 (by kernel_rfl);have f45:=ffr 45 (by kernel_rfl)
 simp only[go_sem, ↓reduceIte,Nat.reduceEqDiff,Nat.reduceAdd,Nat.reduceSub,Nat.reduceLeDiff,reduceCtorEq,c27,cg0,c1,c8,c9,u9,vd]at f8 f44 f45
 clear ffr
 have hj:¬(j:Int)<((0:Nat):Int):=ab
 (try((repeat(revert hN;revert N;apply Pn.out));refine wk (tw @f46 (tw @f14 (tw @f8 (tw @f44 (tw @f45 (tw @hj @pE)))))) ?_;(repeat(refine Pn.mk ?_;intro N hN))))
 refine jc (.inl rfl) (r1:=.int .i64 ((leads cnt L).length:Int)) (r2:=.br) (sd @Nat.zero_add) (sd @Nat.zero_add) ?_
 simp only[cJ,aC,aL,cC,il,NI,Option.map_some]
theorem xt (cnt:Nat) (vC:1<=cnt) (hn:cnt<=1048576) (bs:List PB) (hb:∀b∈bs,b.a<cnt/\b.b<cnt) (pD:bs.length<=1048576) (t:Int):ah Tryz.prog 156 [.int .i64 cnt,yj bs,.int .i64 t] (.gE [.int .i64 (leads cnt (dV (aE t bs))).length,yj (dk (dV (aE t bs)) bs)]):=by
 cases bs with
 |nil=>
  have h:=vg cnt vC hn t
  have NI:(leads cnt (dV (aE t []))).length=cnt:=by
   show(leads cnt id).length=cnt
   rw[leads,List.filter_eq_self.2 (fun a _=>by simp)];simp
  rw[NI]
  exact h
 |cons b r=>
  rw[yk (by simp)]
  exact vh cnt vC hn (b::r) hb (by simp) pD t
end Go.Proofs.YtihgaadadaekmaaGreat.V

namespace Go.Proofs.YtihgaadadaekmaaGreat.V
open Go.RowKit
attribute [local irreducible] eb wpOps gH Call
attribute [local go_sem] aM fI eM fX fV cE upd cm K.av cK AV.cells AV.cell rowOf rowsOf part ld rowAt bS bZ dH ei ij bK dc eA fZ e8 du ep cY cX dU dW bQ bf cQ bP cT cR ek er eo cP bU cZ ej bL aQ cV cw ig bt cH bR bc dF bq dI AV.undef bD bF dX eh dQ dZ cF ez eE cr ev eu cU cW List.getD_cons_zero List.getD_cons_succ List.getD_nil List.all_cons List.all_nil Bool.and_true Bool.true_and Bool.and_self Bool.not_true Bool.not_false Option.map_some Option.map_none Option.bind_some Option.bind_none List.length_cons List.length_nil List.take_succ_cons List.take_zero List.take_nil List.drop_succ_cons List.drop_zero List.drop_nil List.head?_cons List.map_cons List.map_nil List.getElem?_cons_zero List.getElem?_cons_succ List.cons_append List.nil_append List.append_nil List.length_map List.set_cons_zero List.set_cons_succ Nat.reduceMul eq_self Int.toNat_natCast Int.natCast_nonneg and_self true_and and_true decide_true decide_false Bool.false_eq_true Nat.zero_add Nat.add_zero List.contains_cons List.contains_nil Bool.or_false Bool.false_or beq_self_eq_true Nat.reduceBEq ne_eq not_true_eq_false not_false_eq_true Id.mk.injEq false_and and_false Nat.reduceLT Int.reduceLE Int.reduceLT Int.reduceToNat Int.reduceNeg Int.reduceAdd Nat.le_refl List.length_append beq_true beq_false Bool.not_eq_eq_eq_not or_false false_or dD ad aj aH bC b4 aX bo aY bl cL bE
attribute [local go_sem] DH
section
attribute [-go_sem] dH
theorem JW (n:Nat) (hn:n<=1048576):ah Tryz.prog 211 [.int .u64 1,.int .u64 n] (.gE [.int .u64 0,.int .u64 n]):=by
 refine ah.body dY rfl fun hl n0=>?_
 clear hl
 have b1:(BitVec.ofInt 64 (n:Int)&&& BitVec.ofInt 64 4294967295).toNat=n:=by
  rw[BitVec.toNat_and]
  have e1:(BitVec.ofInt 64 (n:Int)).toNat=n:=by rw[BitVec.toNat_ofInt];omega
  have e2:(BitVec.ofInt 64 4294967295).toNat=2 ^ 32-1:=by decide
  rw[e1,e2]
  exact Nat.and_two_pow_sub_one_of_lt_two_pow ab
 have zn:IntKind.u64.wrap (n:Int)=n:=by rw[IntKind.wrap_u64];omega
 have i1:dH .and .u64 (n:Int) 4294967295=some (.int .u64 n):=by
  show some (AV.int .u64 (IntKind.u64.wrap (((BitVec.ofInt 64 (n:Int)&&& BitVec.ofInt 64 4294967295).toNat:Nat):Int)))= _
  rw[b1,zn]
 have i2:dH .and .u64 1 4294967295=some (.int .u64 1):=rfl
 have i3:dH .and .u64 0 4294967295=some (.int .u64 0):=rfl
 have i4:dH .mul .u64 1 (n:Int)=some (.int .u64 n):=by simp only[dH,Int.one_mul,zn]
 have i5:dH .mul .u64 0 (n:Int)=some (.int .u64 0):=by simp only[dH,Int.zero_mul];rfl
 have i6:dH .mul .u64 1 0=some (.int .u64 0):=rfl
 have i7:dH .mul .u64 0 0=some (.int .u64 0):=rfl
 have i8:dH .add .u64 0 0=some (.int .u64 0):=rfl
 have a3:Int.fdiv 1 (2 ^ min 32 64)=0:=by decide
 have a4:Int.fdiv (n:Int) (2 ^ min 32 64)=0:=by
  rw[Int.fdiv_eq_ediv_of_nonneg _ (by decide)]
  have h32:(2:Int) ^ min 32 64=4294967296:=by decide
  exact Int.ediv_eq_zero_of_lt ab ab
 have z1:Int.fdiv 0 (2 ^ min 32 64)=0:=by decide
 (try((repeat(revert hN;revert N;apply Pn.out));refine wk (tw @i1 (tw @i2 (tw @i3 (tw @i4 (tw @i5 (tw @i6 (tw @i7 (tw @i8 (tw @a3 (tw @a4 @z1)))))))))) ?_;(repeat(refine Pn.mk ?_;intro N hN))))
 refine jc (.inl rfl) (r1:=.int .u64 0) (r2:=.int .u64 n) (sd @Nat.zero_add) (sd @Nat.zero_add) ?_
 simp only[cJ,aC,aL,cC,Option.map_some]
end
theorem Pu (n:Nat) (hn:n<=1048576):ah Tryz.prog 209 [.int .u64 1,.int .u64 n] (.gE [.int .u64 0,.int .u64 n]):=by
 refine ah.body dY rfl fun hl n0=>?_
 clear hl
 have h:=JW n hn
 (repeat(first|((repeat(revert hN;revert N;apply Pn.out));refine wk @Nat.zero_add ?_;(repeat(refine Pn.mk ?_;intro N hN)))|((try apply Or.inl);refine⟨_,ah.x (h) (sd @Nat.zero_add),?_⟩;refine hN _ _ ?_;clear hN N)))
 refine jc (.inl rfl) (r1:=.int .u64 0) (r2:=.int .u64 n) (sd @Nat.zero_add) (sd @Nat.zero_add) ?_
 simp only[cJ,aC,aL,cC,Option.map_some]
theorem HE (cnt:Nat) (vC:1<=cnt) (hn:cnt<=1048576) (v:Int) (x:Id) (σ:aw) (hx:σ.get x=some ⟨true,1,[[.int .i64 v]]⟩) (Sc:x.bY<σ.next):
  Call Tryz.prog 203 [.own x 0 1,.int .i64 cnt] σ fun r σ'=>∃o:Id,r=.own o 0 cnt/\σ'.get o=some ⟨true,1,List.replicate cnt [.int .i64 v]⟩/\σ.next<=o.bY/\o.bY<σ'.next/\∀i:Id,i.bY<σ.next->σ'.get i=σ.get i:=by
 refine fh dY rfl fun hl=>?_
 clear hl
 have h:=Pu cnt hn
 have w1:IntKind.u64.wrap (cnt:Int)=cnt:=by rw[IntKind.wrap_u64];omega
 have w2:IntKind.i64.wrap (cnt:Int)=cnt:=Ic ab
 have w0:IntKind.u64.wrap ((1:Nat):Int)=1:=by decide
 have g1:¬(cnt:Int)<0:=ab
 have g2:¬(9223372036854775807:Int)<cnt:=ab
 have jk:(0:Int)<=(cnt:Int):=ab
 have oK:(cnt:Int)<=((16777216:Nat):Int):=ab
 have NS:=eC Sc
 have qP:(List.replicate cnt [AV.int .i64 0]).length=cnt:=List.length_replicate
 have m1:min 1 cnt=1:=ab
 (repeat(first|((repeat(revert hN;revert N;apply Pn.out));refine wk (tw @w0 (tw @w1 (tw @w2 (tw @g1 (tw @g2 (tw @jk (tw @oK (tw @Int.le_refl (tw @Nat.le_refl (tw @hx (tw @NS (tw @qP @m1)))))))))))) ?_;(repeat(refine Pn.mk ?_;intro N hN)))|((try apply Or.inl);refine⟨_,ah.x (h) (sd (tw @w0 (tw @w1 (tw @w2 (tw @g1 (tw @g2 (tw @jk (tw @oK (tw @Int.le_refl (tw @Nat.le_refl (tw @hx (tw @NS (tw @qP @m1))))))))))))),?_⟩;refine hN _ _ ?_;clear hN N)))
 refine aT (fun m env st=>∃k:Nat,m=cnt-k/\1<=k/\k<=cnt/\env 8=.int .i64 (k:Int)/\st.get ⟨203006002,σ.next+1+1+1+1⟩=some ⟨true,1,List.replicate k [.int .i64 v]++List.replicate (cnt-k) [.int .i64 0]⟩/\σ.next+4<st.next/\∀i:Id,i.bY<σ.next->st.get i=σ.get i) (cnt-1) ⟨1,rfl,Nat.le_refl _,vC,by(simp only[go_sem, ↓reduceIte,Nat.reduceEqDiff,Nat.reduceAdd,Nat.reduceSub,Nat.reduceLeDiff,reduceCtorEq,m1])<;>rfl,?_,bw,fun i hi=>?_⟩ ?_
 ·simp only[go_sem, ↓reduceIte,Nat.reduceEqDiff,Nat.reduceAdd,Nat.reduceSub,Nat.reduceLeDiff,reduceCtorEq]
  rw[List.drop_replicate];rfl
 ·have BL:=eC hi
  simp only[go_sem, ↓reduceIte,Nat.reduceEqDiff,Nat.reduceAdd,Nat.reduceSub,Nat.reduceLeDiff,reduceCtorEq,BL]
 rintro m env_b st_b ⟨k,rfl,p9,tR,b8,bg,bn,bfr⟩ bkp
 have b7:=bkp 7 (by kernel_rfl)
 simp only[go_sem, ↓reduceIte,Nat.reduceEqDiff,Nat.reduceAdd,Nat.reduceSub,Nat.reduceLeDiff,reduceCtorEq]at b7
 clear bkp
 have O5:(List.replicate k [AV.int .i64 v]++List.replicate (cnt-k) [AV.int .i64 0]).length=cnt:=by simp;omega
 by_cases hk:(k:Int)<(cnt:Int)
 ·have fw:k<cnt:=ab
  have s8:(k:Int)<=(cnt:Int):=ab
  have hw:IntKind.i64.wrap ((k:Int)+((min k (cnt-k):Nat):Int))=((k+min k (cnt-k):Nat):Int):=by rw[bd ab];omega
  have pg:List.take k (List.replicate k [AV.int .i64 v]++List.replicate (cnt-k) [AV.int .i64 0])=List.replicate k [AV.int .i64 v]:=List.take_left' (by simp)
  have dt:(List.replicate k [AV.int .i64 v]).all (fun c=>c.length==1&&c.all AV.cell)=true:=List.all_eq_true.2 fun c hc=>by rw[List.eq_of_mem_replicate hc];rfl
  have hlr:(List.replicate k [AV.int .i64 v]).length=k:=List.length_replicate
  have ED:k+(cnt-k)=cnt:=ab
  have xN:List.replicate k [AV.int .i64 v]++List.take (min k (cnt-k)) (List.replicate k [AV.int .i64 v])++List.drop (k+min k (cnt-k)) (List.replicate k [AV.int .i64 v]++List.replicate (cnt-k) [AV.int .i64 0])=List.replicate (k+min k (cnt-k)) [AV.int .i64 v]++List.replicate (cnt-(k+min k (cnt-k))) [AV.int .i64 0]:=by
   rw[List.take_replicate,List.drop_append,List.drop_of_length_le (by simp),List.nil_append,hlr,List.drop_replicate,List.replicate_append_replicate]
   congr 2
   ·omega
   ·omega
  (try((repeat(revert hN;revert N;apply Pn.out));refine wk (tw @b7 (tw @b8 (tw @bg (tw @O5 (tw @hk (tw @s8 (tw @tR (tw @hw (tw @fw (tw @Nat.sub_zero (tw @pg (tw @dt (tw @hlr (tw @ED (tw @Nat.le_refl @xN))))))))))))))) ?_;(repeat(refine Pn.mk ?_;intro N hN))))
  refine⟨_,?_,k+min k (cnt-k),rfl,ab,ab,sd @hw,sd @xN,bw,fun i hi=>?_⟩
  ·omega
  ·have BL:=eC hi
   have:=bfr i hi
   simp only[go_sem, ↓reduceIte,Nat.reduceEqDiff,Nat.reduceAdd,Nat.reduceSub,Nat.reduceLeDiff,reduceCtorEq,BL,this]
 ·have lS:k=cnt:=ab
  subst lS
  (try((repeat(revert hN;revert N;apply Pn.out));refine wk (tw @b7 (tw @b8 (tw @bg (tw @O5 @hk)))) ?_;(repeat(refine Pn.mk ?_;intro N hN))))
  refine fy (.inl rfl) (vs:=[.own ⟨203006002,σ.next+1+1+1+1⟩ 0 k]) (sd @Nat.zero_add) ⟨⟨203006002,σ.next+1+1+1+1⟩,rfl,by simp only[go_sem, ↓reduceIte,Nat.reduceEqDiff,Nat.reduceAdd,Nat.reduceSub,Nat.reduceLeDiff,reduceCtorEq,bg];simp,bw,bw,fun i hi=>bfr i hi⟩
end Go.Proofs.YtihgaadadaekmaaGreat.V

namespace Go.Proofs.YtihgaadadaekmaaGreat.V
open Go.RowKit
attribute [local irreducible] eb wpOps gH Call
attribute [local go_sem] aM fI eM fX fV cE upd cm K.av cK AV.cells AV.cell rowOf rowsOf part ld rowAt bS bZ dH ei ij bK dc eA fZ e8 du ep cY cX dU dW bQ bf cQ bP cT cR ek er eo cP bU cZ ej bL aQ cV cw ig bt cH bR bc dF bq dI AV.undef bD bF dX eh dQ dZ cF ez eE cr ev eu cU cW List.getD_cons_zero List.getD_cons_succ List.getD_nil List.all_cons List.all_nil Bool.and_true Bool.true_and Bool.and_self Bool.not_true Bool.not_false Option.map_some Option.map_none Option.bind_some Option.bind_none List.length_cons List.length_nil List.take_succ_cons List.take_zero List.take_nil List.drop_succ_cons List.drop_zero List.drop_nil List.head?_cons List.map_cons List.map_nil List.getElem?_cons_zero List.getElem?_cons_succ List.cons_append List.nil_append List.append_nil List.length_map List.set_cons_zero List.set_cons_succ Nat.reduceMul eq_self Int.toNat_natCast Int.natCast_nonneg and_self true_and and_true decide_true decide_false Bool.false_eq_true Nat.zero_add Nat.add_zero List.contains_cons List.contains_nil Bool.or_false Bool.false_or beq_self_eq_true Nat.reduceBEq ne_eq not_true_eq_false not_false_eq_true Id.mk.injEq false_and and_false Nat.reduceLT Int.reduceLE Int.reduceLT Int.reduceToNat Int.reduceNeg Int.reduceAdd Nat.le_refl List.length_append beq_true beq_false Bool.not_eq_eq_eq_not or_false false_or dD ad aj aH bC b4 aX bo aY bl cL bE
def kF (R:Nat->Id) (n k:Nat):List (List AV):=(List.range k).map fun i=>[.own (R i) 0 n]
theorem jM (R:Nat->Id) (n k:Nat):(kF R n k).length=k:=by simp[kF]
theorem qH {R:Nat->Id} {n k i:Nat} (h:i<k):(kF R n k)[i]? =some [.own (R i) 0 n]:=by simp[kF,h]
theorem rL (R:Nat->Id) (n k:Nat):kF R n (k+1)=kF R n k++[[.own (R k) 0 n]]:=by simp[kF,List.range_succ]
def vQ (c:Nat->Nat->Int) (n:Nat):List (List AV):=(List.range n).map fun i=>[.sl (dJ (c i) n)]
theorem Al {c:Nat->Nat->Int} {n i:Nat} (h:i<n):(vQ c n)[i]? =some [.sl (dJ (c i) n)]:=by simp[vQ,h]
theorem uL (c:Nat->Nat->Int) (n:Nat):(vQ c n).length=n:=by simp[vQ]
structure DQ (X o1 o2:Id) (R1 R2:Nat->Id) (n nb:Nat):Prop where
 sx:X.site=174001001
 s1:o1.site=174004008
 s2:o2.site=174005008
 QJ:∀i,i<n->(R1 i).site=174004006
 K6:∀i,i<n->(R2 i).site=174005006
 i1:∀i j,i<n->j<n->R1 i=R1 j->i=j
 i2:∀i j,i<n->j<n->R2 i=R2 j->i=j
 vx:X.bY<nb
 v1:o1.bY<nb
 v2:o2.bY<nb
 Sp:∀i,i<n->(R1 i).bY<nb
 PJ:∀i,i<n->(R2 i).bY<nb
structure nh (g:Rows) (X o1 o2:Id) (R1 R2:Nat->Id) (n:Nat) (c f:Nat->Nat->Int):Prop where
 x:g X=some ⟨true,2,[[.own o1 0 n,.own o2 0 n]]⟩
 t1:g o1=some ⟨true,1,kF R1 n n⟩
 t2:g o2=some ⟨true,1,kF R2 n n⟩
 r1:∀i,i<n->g (R1 i)=some ⟨true,1,dJ (c i) n⟩
 r2:∀i,i<n->g (R2 i)=some ⟨true,1,dJ (f i) n⟩
theorem nu {f:Nat->Nat->Int} {a b:Nat} {d:Int} {n:Nat} (hb:b<n):(dJ (f a) n).set b (ay (f a b+d))=dJ (gF f a b d a) n:=kG hb (by simp[gF]) fun i _ hi=>by simp[gF,hi]
theorem jF {f:Nat->Nat->Int} {a b i:Nat} {d:Int} (h:i≠a):gF f a b d i=f i:=by funext v;simp[gF,h]
theorem nh.add {g g':Rows} {X o1 o2:Id} {R1 R2:Nat->Id} {n nb:Nat} {c f:Nat->Nat->Int} (I:DQ X o1 o2 R1 R2 n nb) (h:nh g X o1 o2 R1 R2 n c f) (b:PB) (ha:b.a<n) (hb:b.b<n) (hA:b.a≠b.b->g' (R1 b.a)=some ⟨true,1,dJ (gF c b.a b.b b.s b.a) n⟩) (hB:g' (R1 b.b)=some ⟨true,1,dJ (mP c b b.b) n⟩) (hf:∀i:Id,i.bY<nb->(i=R1 b.a)=False->(i=R1 b.b)=False->g' i=g i):nh g' X o1 o2 R1 R2 n (mP c b) f:=by
 have ne:∀{i:Id} {s:Nat},i.site=s->(s==174004006)=false->∀a,a<n->(i=R1 a)=False:=fun {i s} hi hs a ha=>by
  simp only[eq_iff_iff,iff_false]
  rintro rfl
  rw[I.QJ a ha]at hi
  subst hi
  simp at hs
 refine⟨(hf _ I.vx (ne I.sx (by decide) _ ha) (ne I.sx (by decide) _ hb)).trans h.x,(hf _ I.v1 (ne I.s1 (by decide) _ ha) (ne I.s1 (by decide) _ hb)).trans h.t1,(hf _ I.v2 (ne I.s2 (by decide) _ ha) (ne I.s2 (by decide) _ hb)).trans h.t2,fun i hi=>?_,fun i hi=>(hf _ (I.PJ i hi) (ne (I.K6 i hi) (by decide) _ ha) (ne (I.K6 i hi) (by decide) _ hb)).trans (h.r2 i hi)⟩
 by_cases It:i=b.b
 ·subst It;exact hB
 ·by_cases Mc:i=b.a
  ·subst Mc
   rw[hA It,mP,jF It]
  ·rw[mP,jF It,jF Mc,hf _ (I.Sp i hi) (by simp only[eq_iff_iff,iff_false];exact fun he=>Mc (I.i1 i _ hi ha he)) (by simp only[eq_iff_iff,iff_false];exact fun he=>It (I.i1 i _ hi hb he))]
   exact h.r1 i hi
def kT (n:Nat) (c f:Nat->Nat->Int):List AV:=[.sl (vQ c n),.sl (vQ f n)]
theorem DG {g:Rows} {R:Nat->Id} {n k:Nat} {c:Nat->Nat->Int} (h:∀i,i<k->g (R i)=some ⟨true,1,dJ (c i) n⟩) (m:Nat):dM (dD g) (m+3) (kF R n k)=some ((List.range k).map fun i=>[.sl (dJ (c i) n)]):=by
 induction k with
 |zero=>rw[show kF R n 0=[]from rfl,dM];rfl
 |succ k ih=>
  have e1:V.fz (dD g) (m+3) (.own (R k) 0 n)=some (.sl (dJ (c k) n)):=by
   rw[gC];simp only[dD,h k ab,Option.map_some,if_true]
   rw[if_pos (by rw[dv];omega),List.drop_zero,List.take_of_length_le (by rw[dv];omega),yq];rfl
  have app:∀(xs ys:List (List AV)) (QL PW:List (List AV)),dM (dD g) (m+3) xs=some QL->dM (dD g) (m+3) ys=some PW->dM (dD g) (m+3) (xs++ys)=some (QL++PW):=by
   intro xs
   induction xs with
   |nil=>intro ys QL PW h1 h2;rw[dM]at h1;cases h1;exact h2
   |cons a xs ih2=>
    intro ys QL PW h1 h2
    rw[dM]at h1
    rw[List.cons_append,dM]
    cases ha:cq (dD g) (m+3) a with
    |none=>simp[ha]at h1
    |some a'=>
     cases hb:dM (dD g) (m+3) xs with
     |none=>simp[ha,hb]at h1
     |some b'=>
      simp[ha,hb]at h1
      subst h1
      rw[ih2 ys b' PW hb h2];rfl
  rw[rL,List.range_succ,List.map_append]
  refine app _ _ _ _ (ih fun i hi=>h i ab) ?_
  rw[dM,ad,aj,e1,dM];rfl
theorem nh.fz {g:Rows} {X o1 o2:Id} {R1 R2:Nat->Id} {n:Nat} {c f:Nat->Nat->Int} (h:nh g X o1 o2 R1 R2 n c f):V.fz (dD g) 6 (.ptr X 0 0)=some (.de (kT n c f)):=by
 refine xF (sz:=2) (rows:=[[.own o1 0 n,.own o2 0 n]]) (by simp[dD,h.x]) rfl ?_
 have e1:V.fz (dD g) 5 (.own o1 0 n)=some (.sl (vQ c n)):=by
  rw[gC];simp only[dD,h.t1,Option.map_some,if_true]
  rw[if_pos (by rw[jM];omega),List.drop_zero,List.take_of_length_le (by rw[jM];omega)]
  rw[show dM _ 4 _=some (vQ c n)from DG h.r1 1];rfl
 have e2:V.fz (dD g) 5 (.own o2 0 n)=some (.sl (vQ f n)):=by
  rw[gC];simp only[dD,h.t2,Option.map_some,if_true]
  rw[if_pos (by rw[jM];omega),List.drop_zero,List.take_of_length_le (by rw[jM];omega)]
  rw[show dM _ 4 _=some (vQ f n)from DG h.r2 1];rfl
 simp only[List.drop_zero,ad,aj,e1,e2,kT,Option.map_some]
theorem LO (n:Nat) (c f:Nat->Nat->Int) (u v:Nat) (hu:u<n) (hv:v<n):ah Tryz.prog 204 [.de (kT n c f),.int .i64 u,.int .i64 v] (.bool (decide (f u v<c u v))):=by
 refine ah.body dY rfl fun hl n0=>?_
 clear hl
 have h1:=Al (c:=c) hu
 have h2:=Al (c:=f) hu
 have h3:=dC (f:=c u) hv
 have h4:=dC (f:=f u) hv
 have hui:(u:Int)<(n:Int):=ab
 have BL:(v:Int)<(n:Int):=ab
 have l1:=uL c n
 have l2:=uL f n
 have l3:=dv (c u) n
 have l4:=dv (f u) n
 rw[ay]at h3 h4
 (try((repeat(revert hN;revert N;apply Pn.out));refine wk (tw @kT.eq_1 (tw @h1 (tw @h2 (tw @h3 (tw @h4 (tw @hui (tw @BL (tw @l1 (tw @l2 (tw @l3 @l4)))))))))) ?_;(repeat(refine Pn.mk ?_;intro N hN))))
 exact aO (b:=decide (f u v<c u v)) (.inl rfl) (sd @Nat.zero_add) rfl
theorem FB (n:Nat):List.replicate n [AV.int .i64 0]=dJ (fun _=>0) n:=by
 refine List.ext_getElem? fun i=>?_
 by_cases h:i<n
 ·rw[dC h,List.getElem?_replicate,if_pos h];rfl
 ·rw[List.getElem?_eq_none (by simp;omega),List.getElem?_eq_none (by rw[dv];omega)]
theorem ym {i j:Id} {s t:Nat} (hi:i.site=s) (hj:j.site=t) (h:(s==t)=false):(i=j)=False/\(j=i)=False:=by
 constructor<;>(simp only[eq_iff_iff,iff_false];rintro rfl;rw[hi]at hj;subst hj;simp at h)
theorem z8 (cnt:Nat) (vC:1<=cnt) (hn:cnt<=1048576) (bs:List PB) (hb:∀b∈bs,b.a<cnt/\b.b<cnt) (eB:∀b∈bs,0<=b.s/\b.s<=4) (pD:bs.length<=1048576) (σ:aw):
  Call Tryz.prog 174 [.int .i64 cnt,.sl (bs.map ax)] σ fun r σ'=>∃X o1 o2 R1 R2,r=.ptr X 0 0/\DQ X o1 o2 R1 R2 cnt σ'.next/\σ.next<=σ'.next/\nh σ'.get X o1 o2 R1 R2 cnt (kB bs) (fun _ _=>0)/\∀i:Id,i.bY<σ.next->σ'.get i=σ.get i:=by
 refine fh dY rfl fun hl=>?_
 clear hl
 (try((repeat(revert hN;revert N;apply Pn.out));refine wk @Nat.zero_add ?_;(repeat(refine Pn.mk ?_;intro N hN))))
 obtain⟨X,hX⟩:∃X:Id,X=⟨174001001,σ.next+1⟩:=⟨_,rfl⟩
 obtain⟨R1,OB⟩:∃R:Nat->Id,R=fun k=>⟨174004006,σ.next+3+4*k+1⟩:=⟨_,rfl⟩
 obtain⟨R2,Je⟩:∃R:Nat->Id,R=fun k=>⟨174005006,σ.next+3+4*k+2⟩:=⟨_,rfl⟩
 have sX:X.site=174001001:=by rw[hX]
 have vX:X.bY=σ.next+1:=by rw[hX]
 have s1:∀k,(R1 k).site=174004006:=fun k=>by rw[OB]
 have s2:∀k,(R2 k).site=174005006:=fun k=>by rw[Je]
 have v1:∀k,(R1 k).bY=σ.next+3+4*k+1:=fun k=>by rw[OB]
 have v2:∀k,(R2 k).bY=σ.next+3+4*k+2:=fun k=>by rw[Je]
 have jk:(0:Int)<=(cnt:Int):=ab
 have oK:(cnt:Int)<=((16777216:Nat):Int):=ab
 have hz:=FB cnt
 have t1:kF R1 cnt 0=[]:=rfl
 have t2:kF R2 cnt 0=[]:=rfl
 refine aT (fun n env st=>∃k:Nat,n=(cnt)-k/\k<=(cnt)/\env 11=.int .i64 (k:Int)/\env 5=(.ptr X 0 0)/\(st.next=σ.next+3+4*k/\(∀i:Id,i.bY<σ.next->st.get i=σ.get i)/\∀j,j<k->st.get (R1 j)=some ⟨true,1,dJ (fun _=>0) cnt⟩/\st.get (R2 j)=some ⟨true,1,dJ (fun _=>0) cnt⟩)/\((k=0/\st.get X=some ⟨true,2,[[.br,.br]]⟩)∨∃o1 o2:Id,o1.site=174004008/\o2.site=174005008/\o1.bY<st.next/\o2.bY<st.next/\σ.next<=o1.bY/\σ.next<=o2.bY/\st.get X=some ⟨true,2,[[.own o1 0 k,.own o2 0 k]]⟩/\st.get o1=some ⟨true,1,kF R1 cnt k⟩/\st.get o2=some ⟨true,1,kF R2 cnt k⟩)) (cnt) ⟨0,ab,ab,sl @hX,sl @hX,⟨rfl,fun i hi=>by(have BL:=eC hi);simp only[go_sem, ↓reduceIte,Nat.reduceEqDiff,Nat.reduceAdd,Nat.reduceSub,Nat.reduceLeDiff,reduceCtorEq,BL],fun j hj=>absurd hj (Nat.not_lt_zero j)⟩,.inl ⟨rfl,by rw[hX];simp only[go_sem, ↓reduceIte,Nat.reduceEqDiff,Nat.reduceAdd,Nat.reduceSub,Nat.reduceLeDiff,reduceCtorEq]⟩⟩ ?_
 rintro n_a env_a st_a ⟨k,rfl,ale,a11,a5,k5,aI1⟩ dE
 have a0:=dE 0 (by kernel_rfl);have a1:=dE 1 (by kernel_rfl);have gP:=dE 10 (by kernel_rfl)
 simp only[go_sem, ↓reduceIte,Nat.reduceEqDiff,Nat.reduceAdd,Nat.reduceSub,Nat.reduceLeDiff,reduceCtorEq,hX]at a0 a1 gP
 clear dE
 obtain⟨anx,dE,aR⟩:=k5
 have wX:=eC (i:=X) (n:=st_a.next) ab
 by_cases hk:(k:Int)<(cnt:Int)
 ·have bW:∀{e:Env} {gg:Rows} {nx:Nat},(e 11=.int .i64 (IntKind.i64.wrap ((k:Int)+1)))->(e 5=(.ptr X 0 0))->(nx=σ.next+3+4*(k+1)/\(∀i:Id,i.bY<σ.next->gg i=σ.get i)/\∀j,j<(k+1)->gg (R1 j)=some ⟨true,1,dJ (fun _=>0) cnt⟩/\gg (R2 j)=some ⟨true,1,dJ (fun _=>0) cnt⟩)->(((k+1)=0/\gg X=some ⟨true,2,[[.br,.br]]⟩)∨∃o1 o2:Id,o1.site=174004008/\o2.site=174005008/\o1.bY<nx/\o2.bY<nx/\σ.next<=o1.bY/\σ.next<=o2.bY/\gg X=some ⟨true,2,[[.own o1 0 (k+1),.own o2 0 (k+1)]]⟩/\gg o1=some ⟨true,1,kF R1 cnt (k+1)⟩/\gg o2=some ⟨true,1,kF R2 cnt (k+1)⟩)->∃m0,m0<(cnt)-k/\∃k:Nat,m0=(cnt)-k/\k<=(cnt)/\e 11=.int .i64 (k:Int)/\e 5=(.ptr X 0 0)/\(nx=σ.next+3+4*k/\(∀i:Id,i.bY<σ.next->gg i=σ.get i)/\∀j,j<k->gg (R1 j)=some ⟨true,1,dJ (fun _=>0) cnt⟩/\gg (R2 j)=some ⟨true,1,dJ (fun _=>0) cnt⟩)/\((k=0/\gg X=some ⟨true,2,[[.br,.br]]⟩)∨∃o1 o2:Id,o1.site=174004008/\o2.site=174005008/\o1.bY<nx/\o2.bY<nx/\σ.next<=o1.bY/\σ.next<=o2.bY/\gg X=some ⟨true,2,[[.own o1 0 k,.own o2 0 k]]⟩/\gg o1=some ⟨true,1,kF R1 cnt k⟩/\gg o2=some ⟨true,1,kF R2 cnt k⟩):=fun x1 x2 x3 x4=>⟨_,ab,k+1,rfl,ab,(by rw[x1,aA ab]),x2,x3,x4⟩
  have fw:k<cnt:=ab
  have p9:R1 k=⟨174004006,st_a.next+1⟩:=by rw[OB,anx]
  have tR:R2 k=⟨174005006,st_a.next+1+1⟩:=by rw[Je,anx]
  have KW:kF R1 cnt (k+1)=kF R1 cnt k++[[.own ⟨174004006,st_a.next+1⟩ 0 cnt]]:=by rw[rL,p9]
  have NQ:kF R2 cnt (k+1)=kF R2 cnt k++[[.own ⟨174005006,st_a.next+1+1⟩ 0 cnt]]:=by rw[rL,tR]
  rcases aI1 with⟨rfl,N8⟩|⟨o1,o2,so1,so2,vo1,vo2,vn1,vn2,N8,ag1,ag2⟩
  ·(try((repeat(revert hN;revert N;apply Pn.out));refine wk (tw @a11 (tw @a5 (tw @a0 (tw @a1 (tw @gP (tw @hk (tw @wX (tw @N8 (tw @jk (tw @oK (tw @Int.le_refl @hz))))))))))) ?_;(repeat(refine Pn.mk ?_;intro N hN))))
   refine bW ?_ ?_ (by
    (try dsimp only)
    refine⟨ab,fun i hi=>?_,fun j hj=>?_⟩
    ·have q1:=eC (i:=i) (n:=st_a.next) ab
     have q2:=dx (a:=i) (b:=X) ab
     have:=dE i hi
     simp only[go_sem, ↓reduceIte,Nat.reduceEqDiff,Nat.reduceAdd,Nat.reduceSub,Nat.reduceLeDiff,reduceCtorEq,q1,q2,this]
    ·by_cases wC:j=0
     ·subst wC
      rw[p9,tR]
      have q1:=gn sX (b:=174004006) (v:=st_a.next+1) (by decide)
      have q2:=gn sX (b:=174005006) (v:=st_a.next+1+1) (by decide)
      simp only[go_sem, ↓reduceIte,Nat.reduceEqDiff,Nat.reduceAdd,Nat.reduceSub,Nat.reduceLeDiff,reduceCtorEq,q1,q2]
     ·obtain⟨r1,r2⟩:=aR j ab
      have q1:=eC (i:=R1 j) (n:=st_a.next) (by rw[v1];omega)
      have q2:=eC (i:=R2 j) (n:=st_a.next) (by rw[v2];omega)
      have q3:=ym (s1 j) sX (by decide)
      have q4:=ym (s2 j) sX (by decide)
      constructor
      ·simp only[go_sem, ↓reduceIte,Nat.reduceEqDiff,Nat.reduceAdd,Nat.reduceSub,Nat.reduceLeDiff,reduceCtorEq,q1,q3,r1]
      ·simp only[go_sem, ↓reduceIte,Nat.reduceEqDiff,Nat.reduceAdd,Nat.reduceSub,Nat.reduceLeDiff,reduceCtorEq,q2,q4,r2]) (.inr ⟨⟨174004008,st_a.next+1⟩,⟨174005008,st_a.next+1+1⟩,rfl,rfl,bw,bw,bw,bw,sd @wX,by rw[KW,t1];simp only[go_sem, ↓reduceIte,Nat.reduceEqDiff,Nat.reduceAdd,Nat.reduceSub,Nat.reduceLeDiff,reduceCtorEq,wX,List.nil_append],by rw[NQ,t2];simp only[go_sem, ↓reduceIte,Nat.reduceEqDiff,Nat.reduceAdd,Nat.reduceSub,Nat.reduceLeDiff,reduceCtorEq,wX,List.nil_append]⟩)
   all_goals simp only[go_sem, ↓reduceIte,Nat.reduceEqDiff,Nat.reduceAdd,Nat.reduceSub,Nat.reduceLeDiff,reduceCtorEq,a11,a5,a0,a1,gP,wX]
  ·have l1:=jM R1 cnt k
   have l2:=jM R2 cnt k
   have e1:k+1<=16777216:=ab
   have w1:=eC vo1
   have w2:=eC vo2
   have x1:=ym sX so1 (by decide)
   have x2:=ym sX so2 (by decide)
   have x3:=ym so1 so2 (by decide)
   (try((repeat(revert hN;revert N;apply Pn.out));refine wk (tw @a11 (tw @a5 (tw @a0 (tw @a1 (tw @gP (tw @hk (tw @wX (tw @N8 (tw @ag1 (tw @ag2 (tw @l1 (tw @l2 (tw @e1 (tw @w1 (tw @w2 (tw @x1 (tw @x2 (tw @x3 (tw @jk (tw @oK (tw @Int.le_refl @hz))))))))))))))))))))) ?_;(repeat(refine Pn.mk ?_;intro N hN))))
   refine bW ?_ ?_ (by
    (try dsimp only)
    refine⟨ab,fun i hi=>?_,fun j hj=>?_⟩
    ·have q1:=eC (i:=i) (n:=st_a.next) ab
     have q2:=dx (a:=i) (b:=X) ab
     have q3:=dx (a:=i) (b:=o1) ab
     have q4:=dx (a:=i) (b:=o2) ab
     have:=dE i hi
     simp only[go_sem, ↓reduceIte,Nat.reduceEqDiff,Nat.reduceAdd,Nat.reduceSub,Nat.reduceLeDiff,reduceCtorEq,q1,q2,this,q3,q4]
    ·by_cases wC:j=k
     ·subst wC
      rw[p9,tR]
      have q1:=gn sX (b:=174004006) (v:=st_a.next+1) (by decide)
      have q2:=gn sX (b:=174005006) (v:=st_a.next+1+1) (by decide)
      simp only[go_sem, ↓reduceIte,Nat.reduceEqDiff,Nat.reduceAdd,Nat.reduceSub,Nat.reduceLeDiff,reduceCtorEq,q1,q2,w1,w2]
     ·obtain⟨r1,r2⟩:=aR j ab
      have q1:=eC (i:=R1 j) (n:=st_a.next) (by rw[v1];omega)
      have q2:=eC (i:=R2 j) (n:=st_a.next) (by rw[v2];omega)
      have q3:=ym (s1 j) sX (by decide)
      have q4:=ym (s2 j) sX (by decide)
      have q5:=ym (s1 j) so1 (by decide)
      have q6:=ym (s1 j) so2 (by decide)
      have q7:=ym (s2 j) so1 (by decide)
      have q8:=ym (s2 j) so2 (by decide)
      constructor
      ·simp only[go_sem, ↓reduceIte,Nat.reduceEqDiff,Nat.reduceAdd,Nat.reduceSub,Nat.reduceLeDiff,reduceCtorEq,q1,q3,r1,q5,q6]
      ·simp only[go_sem, ↓reduceIte,Nat.reduceEqDiff,Nat.reduceAdd,Nat.reduceSub,Nat.reduceLeDiff,reduceCtorEq,q2,q4,r2,q7,q8]) (.inr ⟨⟨174004008,st_a.next+1⟩,⟨174005008,st_a.next+1+1⟩,rfl,rfl,bw,bw,bw,bw,sd @wX,by rw[KW];simp only[go_sem, ↓reduceIte,Nat.reduceEqDiff,Nat.reduceAdd,Nat.reduceSub,Nat.reduceLeDiff,reduceCtorEq,wX,w1,w2],by rw[NQ];simp only[go_sem, ↓reduceIte,Nat.reduceEqDiff,Nat.reduceAdd,Nat.reduceSub,Nat.reduceLeDiff,reduceCtorEq,wX,w1,w2]⟩)
   all_goals simp only[go_sem, ↓reduceIte,Nat.reduceEqDiff,Nat.reduceAdd,Nat.reduceSub,Nat.reduceLeDiff,reduceCtorEq,a11,a5,a0,a1,gP,wX,w1,w2,x1,x2,x3]
 have lS:cnt=k:=ab
 subst lS
 rcases aI1 with⟨h0,_⟩|⟨o1,o2,so1,so2,vo1,vo2,vn1,vn2,N8,ag1,ag2⟩
 ·omega
 (try((repeat(revert hN;revert N;apply Pn.out));refine wk (tw @a11 (tw @a5 (tw @a0 (tw @a1 (tw @gP @hk))))) ?_;(repeat(refine Pn.mk ?_;intro N hN))))
 have I:DQ X o1 o2 R1 R2 cnt st_a.next:=⟨sX,so1,so2,fun i _=>s1 i,fun i _=>s2 i,fun i j _ _ h=>by have:=v1 i;rw[h,v1]at this;omega,fun i j _ _ h=>by have:=v2 i;rw[h,v2]at this;omega,ab,vo1,vo2,fun i hi=>by rw[v1];omega,fun i hi=>by rw[v2];omega⟩
 refine aT (fun n env st=>∃i:Nat,n=(bs.length)-i/\i<=(bs.length)/\env 38=.int .i64 (i:Int)/\(st_a.next<=st.next/\(∀x:Id,x.bY<σ.next->st.get x=σ.get x)/\nh st.get X o1 o2 R1 R2 cnt (kB (bs.take i)) (fun _ _=>0))) (bs.length) ⟨0,ab,ab,sl (tw @a11 (tw @a5 (tw @a0 (tw @a1 @gP)))),⟨bw,dE,N8,ag1,ag2,fun j hj=>(aR j hj).1,fun j hj=>(aR j hj).2⟩⟩ ?_
 rintro n_b env_b st_b ⟨i,rfl,ble,b38,bI0⟩ bfr
 have b0:=bfr 0 (by kernel_rfl);have b1:=bfr 1 (by kernel_rfl);have b5:=bfr 5 (by kernel_rfl);have Nx:=bfr 36 (by kernel_rfl);have Ny:=bfr 37 (by kernel_rfl)
 simp only[go_sem, ↓reduceIte,Nat.reduceEqDiff,Nat.reduceAdd,Nat.reduceSub,Nat.reduceLeDiff,reduceCtorEq,a11,a5,a0,a1,gP]at b0 b1 b5 Nx Ny
 clear bfr
 obtain⟨bn,Lu,bM⟩:=bI0
 by_cases hi:(i:Int)<(bs.length:Int)
 ·have jX:∀{e:Env} {gg:Rows} {nx:Nat},(e 38=.int .i64 (IntKind.i64.wrap ((i:Int)+1)))->(st_a.next<=nx/\(∀x:Id,x.bY<σ.next->gg x=σ.get x)/\nh gg X o1 o2 R1 R2 cnt (kB (bs.take (i+1))) (fun _ _=>0))->∃m0,m0<(bs.length)-i/\∃i:Nat,m0=(bs.length)-i/\i<=(bs.length)/\e 38=.int .i64 (i:Int)/\(st_a.next<=nx/\(∀x:Id,x.bY<σ.next->gg x=σ.get x)/\nh gg X o1 o2 R1 R2 cnt (kB (bs.take i)) (fun _ _=>0)):=fun x1 x2=>⟨_,ab,i+1,rfl,ab,(by rw[x1,aA ab]),x2⟩
  have fJ:i<bs.length:=ab
  have oe:(bs.map ax)[i]? =some (ax bs[i]):=by simp[fJ]
  have fB:=hb _ (List.getElem_mem fJ)
  have hsi:=eB _ (List.getElem_mem fJ)
  have rr:kB (bs.take (i+1))=mP (kB (bs.take i)) bs[i]:=by rw[List.take_succ_eq_append_getElem fJ,Cm]
  have jO:=yf (bs.take i) (fun _ _=>0) (fun b hb=>(eB b (List.mem_of_mem_take hb)).1) (fun _ _=>Int.le_refl _)
  have hle:=room_le (bs.take i) (fun _ _=>0) 0 (fun b hb=>(eB b (List.mem_of_mem_take hb)).2) (fun _ _=>Int.le_refl _) (Int.le_refl _)
  rw[List.length_take]at hle
  have fA:(bs.take i).foldl mP (fun _ _=>0)=kB (bs.take i):=rfl
  rw[fA]at jO hle
  generalize kB (bs.take i)=c at *
  generalize bs[i]=b at *
  obtain⟨ha,rn⟩:=fB
  have gA:=qH (R:=R1) (n:=cnt) ha
  have gB:=qH (R:=R1) (n:=cnt) rn
  have rA:=bM.r1 _ ha
  have rB:=bM.r1 _ rn
  have cA:=dC (f:=c b.a) rn
  have cB:=dC (f:=c b.b) ha
  have sA:=nu (f:=c) (a:=b.a) (d:=b.s) rn
  have gX:=bM.x
  have g1:=bM.t1
  have ga:(b.a:Int)<(cnt:Int):=ab
  have fB:(b.b:Int)<(cnt:Int):=ab
  have qX:=eC (i:=X) (n:=st_b.next) ab
  have q1:=eC (i:=o1) (n:=st_b.next) ab
  have qA:=eC (i:=R1 b.a) (n:=st_b.next) (by rw[v1];omega)
  have qB:=eC (i:=R1 b.b) (n:=st_b.next) (by rw[v1];omega)
  have xA:=ym sX (s1 b.a) (by decide)
  have xB:=ym sX (s1 b.b) (by decide)
  have yA:=ym so1 (s1 b.a) (by decide)
  have yB:=ym so1 (s1 b.b) (by decide)
  have l1:=jM R1 cnt cnt
  have lA:=dv (c b.a) cnt
  have lB:=dv (c b.b) cnt
  have hAB:=hle b.a b.b
  have hBA:=hle b.b b.a
  have gAB:=jO b.a b.b
  have gBA:=jO b.b b.a
  have wA:IntKind.i64.wrap (c b.a b.b+b.s)=c b.a b.b+b.s:=bd ab
  by_cases sa:b.a=b.b
  ·obtain⟨ba,bb,s⟩:=b
   dsimp only at *
   subst sa
   have Mr:=nu (f:=gF c ba ba s) (a:=ba) (b:=ba) (d:=s) (n:=cnt) ha
   have Rq:=dC (f:=gF c ba ba s ba) ha
   have hv:gF c ba ba s ba ba=c ba ba+s:=by simp[gF]
   have lC:=dv (gF c ba ba s ba) cnt
   have wB:IntKind.i64.wrap (c ba ba+s+s)=c ba ba+s+s:=bd ab
   rw[hv]at Mr Rq
   have rq:mP c ⟨ba,ba,s⟩ ba=gF (gF c ba ba s) ba ba s ba:=rfl
   rw[ay]at cA sA Mr Rq
   (try((repeat(revert hN;revert N;apply Pn.out));refine wk (tw @b38 (tw @b0 (tw @b1 (tw @b5 (tw @Nx (tw @Ny (tw @hi (tw @oe (tw @ax.eq_1 (tw @gA (tw @rA (tw @cA (tw @sA (tw @gX (tw @g1 (tw @ga (tw @qX (tw @q1 (tw @qA (tw @xA (tw @yA (tw @l1 (tw @lA (tw @wA (tw @Mr (tw @Rq (tw @lC @wB))))))))))))))))))))))))))) ?_;(repeat(refine Pn.mk ?_;intro N hN))))
   exact jX (sd (tw @b38 (tw @b0 (tw @b1 (tw @b5 (tw @Nx @Ny)))))) (by
    (try dsimp only)
    refine⟨ab,fun x hx=>?_,?_⟩
    ·have p1:=eC (i:=x) (n:=st_b.next) ab
     have p2:=dx (a:=x) (b:=R1 ba) (by rw[v1];omega)
     have:=Lu x hx
     simp only[go_sem, ↓reduceIte,Nat.reduceEqDiff,Nat.reduceAdd,Nat.reduceSub,Nat.reduceLeDiff,reduceCtorEq,p1,p2,this]
    ·rw[rr]
     refine bM.add I ⟨ba,ba,s⟩ ha ha (fun h=>absurd rfl h) ?_ fun x hx h1 h2=>?_
     ·rw[rq]
      simp only[go_sem, ↓reduceIte,Nat.reduceEqDiff,Nat.reduceAdd,Nat.reduceSub,Nat.reduceLeDiff,reduceCtorEq]
     ·have p1:=eC (i:=x) (n:=st_b.next) ab
      (try dsimp only at h2)
      simp only[go_sem, ↓reduceIte,Nat.reduceEqDiff,Nat.reduceAdd,Nat.reduceSub,Nat.reduceLeDiff,reduceCtorEq,p1,h2])
  ·have gU:(R1 b.a=R1 b.b)=False:=by simp only[eq_iff_iff,iff_false];exact fun h=>sa (I.i1 _ _ ha rn h)
   have GW:(R1 b.b=R1 b.a)=False:=by simp only[eq_iff_iff,iff_false];exact fun h=>sa (I.i1 _ _ ha rn h.symm)
   have Mh:gF c b.a b.b b.s b.b=c b.b:=jF fun h=>sa h.symm
   have Mr:=nu (f:=gF c b.a b.b b.s) (a:=b.b) (b:=b.a) (d:=b.s) (n:=cnt) ha
   rw[Mh]at Mr
   have wB:IntKind.i64.wrap (c b.b b.a+b.s)=c b.b b.a+b.s:=bd ab
   have rq:mP c b b.b=gF (gF c b.a b.b b.s) b.b b.a b.s b.b:=rfl
   rw[ay]at cA cB sA Mr
   (try((repeat(revert hN;revert N;apply Pn.out));refine wk (tw @b38 (tw @b0 (tw @b1 (tw @b5 (tw @Nx (tw @Ny (tw @hi (tw @oe (tw @ax.eq_1 (tw @gA (tw @gB (tw @rA (tw @rB (tw @cA (tw @cB (tw @sA (tw @gX (tw @g1 (tw @ga (tw @fB (tw @qX (tw @q1 (tw @qA (tw @qB (tw @xA (tw @xB (tw @yA (tw @yB (tw @l1 (tw @lA (tw @lB (tw @wA (tw @Mr (tw @wB (tw @gU @GW))))))))))))))))))))))))))))))))))) ?_;(repeat(refine Pn.mk ?_;intro N hN))))
   exact jX (sd (tw @b38 (tw @b0 (tw @b1 (tw @b5 (tw @Nx @Ny)))))) (by
    (try dsimp only)
    refine⟨ab,fun x hx=>?_,?_⟩
    ·have p1:=eC (i:=x) (n:=st_b.next) ab
     have p2:=dx (a:=x) (b:=R1 b.b) (by rw[v1];omega)
     have p3:=dx (a:=x) (b:=R1 b.a) (by rw[v1];omega)
     have:=Lu x hx
     simp only[go_sem, ↓reduceIte,Nat.reduceEqDiff,Nat.reduceAdd,Nat.reduceSub,Nat.reduceLeDiff,reduceCtorEq,p1,p2,p3,this]
    ·rw[rr]
     refine bM.add I b ha rn (fun h=>?_) ?_ fun x hx h1 h2=>?_
     ·simp only[go_sem, ↓reduceIte,Nat.reduceEqDiff,Nat.reduceAdd,Nat.reduceSub,Nat.reduceLeDiff,reduceCtorEq,gU]
     ·rw[rq]
      simp only[go_sem, ↓reduceIte,Nat.reduceEqDiff,Nat.reduceAdd,Nat.reduceSub,Nat.reduceLeDiff,reduceCtorEq,gU]
     ·have p1:=eC (i:=x) (n:=st_b.next) ab
      simp only[go_sem, ↓reduceIte,Nat.reduceEqDiff,Nat.reduceAdd,Nat.reduceSub,Nat.reduceLeDiff,reduceCtorEq,p1,h1,h2])
 ·have oL:i=bs.length:=ab
  subst oL
  rw[List.take_length]at bM
  (try((repeat(revert hN;revert N;apply Pn.out));refine wk (tw @b38 (tw @b0 (tw @b1 (tw @b5 (tw @Nx (tw @Ny @hi)))))) ?_;(repeat(refine Pn.mk ?_;intro N hN))))
  exact fy (.inl rfl) (vs:=[.ptr X 0 0]) (sd @Nat.zero_add) ⟨X,o1,o2,R1,R2,rfl,⟨I.sx,I.s1,I.s2,I.QJ,I.K6,I.i1,I.i2,by have:=I.vx;(try dsimp only);omega,by have:=I.v1;(try dsimp only);omega,by have:=I.v2;(try dsimp only);omega,fun j hj=>by have:=I.Sp j hj;(try dsimp only);omega,fun j hj=>by have:=I.PJ j hj;(try dsimp only);omega⟩,bw,bM,Lu⟩
end Go.Proofs.YtihgaadadaekmaaGreat.V

namespace Go.Proofs.YtihgaadadaekmaaGreat.V
structure Bq (n:Nat) (c f:Nat->Nat->Int) (x:Nat) (par:Nat->Int) (Q:List Nat) (i:Nat):Prop where
 nodup:Q.Nodup
 lt:∀v∈Q,v<n
 root:par x=(x:Int)
 mem:x∈Q
 iff:∀v,v<n->(0<=par v↔v∈Q)
 up:∀v∈Q,v≠x->∃u,u∈Q/\par v=(u:Int)/\Q.idxOf u<Q.idxOf v/\f u v<c u v
 done:∀j (_:j<i) (hl:j<Q.length) (v:Nat),v<n->f Q[j] v<c Q[j] v->v∈Q
 ile:i<=Q.length
section
variable {n:Nat} {c f:Nat->Nat->Int} {x:Nat} {par:Nat->Int} {Q:List Nat} {i:Nat}
theorem Bq.len (h:Bq n c f x par Q i):Q.length<=n:=nL n Q h.nodup h.lt
theorem Bq.start (hx:x<n):Bq n c f x (fun v=>if v=x then(x:Int)else -1) [x] 0:=by
 refine⟨by simp,fun v hv=>by simp at hv;omega,by simp,by simp,fun v hv=>?_,fun v hv gU=>absurd (by simpa using hv) gU,fun j hj=>ab,by simp⟩
 by_cases h:v=x
 ·simp[h]
 ·simp[h]
theorem Bq.visit (h:Bq n c f x par Q i) (hi:i<Q.length) {v:Nat} (hv:v<n) (hp:par v<0) (hr:f Q[i] v<c Q[i] v):Bq n c f x (fun w=>if w=v then(Q[i]:Int)else par w) (Q++[v]) i:=by
 have R8:v∉Q:=fun hm=>by have:=(h.iff v hv).2 hm;omega
 have Sc:x≠v:=fun e=>R8 (e▸h.mem)
 have xL:∀u∈Q,(Q++[v]).idxOf u=Q.idxOf u:=fun u hu=>by rw[List.idxOf_append,if_pos hu]
 have tT:(Q++[v]).idxOf v=Q.length:=by rw[List.idxOf_append,if_neg R8];simp
 refine⟨?_,fun w hw=>?_,by simp only[if_neg Sc];exact h.root,by simp[h.mem],fun w hw=>?_,fun w hw gU=>?_,fun j hj hl w hw Dg=>?_,by simp;omega⟩
 ·refine List.nodup_append.2 ⟨h.nodup,by simp,fun a ha b hb=>?_⟩
  rw[List.mem_singleton.1 hb]
  rintro rfl;exact R8 ha
 ·rcases List.mem_append.1 hw with hw|hw
  ·exact h.lt w hw
  ·rw[List.mem_singleton.1 hw];exact hv
 ·by_cases Dl:w=v
  ·subst Dl;simp
  ·rw[if_neg Dl,h.iff w hw];simp[Dl]
 ·by_cases Dl:w=v
  ·subst Dl
   refine⟨Q[i],by simp,by simp,?_,hr⟩
   rw[xL _ (List.getElem_mem hi),tT]
   exact List.idxOf_lt_length_of_mem (List.getElem_mem hi)
  ·have hwQ:w∈Q:=by
    rcases List.mem_append.1 hw with hw|hw
    ·exact hw
    ·exact absurd (List.mem_singleton.1 hw) Dl
   obtain⟨u,h1,h2,h3,h4⟩:=h.up w hwQ gU
   exact⟨u,by simp[h1],by rw[if_neg Dl];exact h2,by rw[xL u h1,xL w hwQ];exact h3,h4⟩
 ·have gG:j<Q.length:=by have:=h.ile;omega
  rw[List.getElem_append_left gG]at Dg
  exact List.mem_append_left _ (h.done j hj gG w hw Dg)
theorem Bq.next (h:Bq n c f x par Q i) (hi:i<Q.length) (dt:∀v,v<n->f Q[i] v<c Q[i] v->0<=par v):Bq n c f x par Q (i+1):=by
 refine⟨h.nodup,h.lt,h.root,h.mem,h.iff,h.up,fun j hj hl v hv hr=>?_,ab⟩
 by_cases lR:j=i
 ·subst lR;exact(h.iff v hv).1 (dt v hv hr)
 ·exact h.done j ab hl v hv hr
theorem Bq.cut (h:Bq n c f x par Q Q.length) {y:Nat} (hy:y<n) (hp:par y<0):∃S:Nat->Bool,S x=true/\S y=false/\∀u v,u<n->v<n->S u=true->S v=false->¬f u v<c u v:=by
 refine⟨fun v=>decide (v∈Q),by simp[h.mem],?_,fun u v hu hv h1 h2 hr=>?_⟩
 ·have:y∉Q:=fun hm=>by have:=(h.iff y hy).2 hm;omega
  simp[this]
 ·simp only[decide_eq_true_eq,decide_eq_false_iff_not]at h1 h2
  obtain⟨j,hj,rfl⟩:=List.getElem_of_mem h1
  exact h2 (h.done j hj hj v hv hr)
def tf (c f:Nat->Nat->Int) (Q:List Nat) (y k:Nat) (out:List Nat):Prop:=∃rest,out.reverse=k::rest/\(k::rest).getLast (by simp)=y/\pJ f c (k::rest)/\(k::rest).Pairwise (fun a b=>Q.idxOf a<Q.idxOf b)/\∀v∈k::rest,v∈Q
theorem tf.start {y:Nat} (hy:y∈Q):tf c f Q y y [y]:=⟨[],rfl,rfl,trivial,by simp,by simpa using hy⟩
theorem tf.step {y k u:Nat} {out:List Nat} (h:tf c f Q y k out) (hu:u∈Q) (hi:Q.idxOf u<Q.idxOf k) (hr:f u k<c u k):tf c f Q y u (out++[u]):=by
 obtain⟨rest,h1,h2,h3,h4,h5⟩:=h
 refine⟨k::rest,by rw[List.reverse_append,h1];rfl,by rw[List.getLast_cons (by simp)];exact h2,⟨hr,h3⟩,?_,?_⟩
 ·refine List.pairwise_cons.2 ⟨fun b hb=>?_,h4⟩
  rcases List.mem_cons.1 hb with rfl|hb
  ·exact hi
  ·have:=(List.pairwise_cons.1 h4).1 b hb;omega
 ·intro v hv
  rcases List.mem_cons.1 hv with rfl|hv
  ·exact hu
  ·exact h5 v hv
theorem tf.len {y k:Nat} {out:List Nat} (h:tf c f Q y k out) (hq:∀v∈Q,v<n):out.length<=n:=by
 obtain⟨rest,h1,_,_,h4,h5⟩:=h
 rw[<-List.length_reverse,h1]
 refine nL n _ (h4.imp fun dR he=>?_) fun v hv=>hq v (h5 v hv)
 subst he;omega
structure N7 (n:Nat) (c f:Nat->Nat->Int) (x y:Nat) (p:List Nat):Prop where
 way:∃r,p=x::r/\(x::r).getLast (by simp)=y
 nodup:p.Nodup
 room:pJ f c p
 lt:∀v∈p,v<n
theorem tf.way {y:Nat} {out:List Nat} (h:tf c f Q y x out) (hq:∀v∈Q,v<n):N7 n c f x y out.reverse:=by
 obtain⟨rest,h1,h2,h3,h4,h5⟩:=h
 rw[h1]
 exact⟨⟨rest,rfl,h2⟩,h4.imp fun dR he=>by subst he;omega,h3,fun v hv=>hq v (h5 v hv)⟩
end
end Go.Proofs.YtihgaadadaekmaaGreat.V

namespace Go.Proofs.YtihgaadadaekmaaGreat.V
open Go.RowKit
attribute [local irreducible] eb wpOps gH Call
attribute [local go_sem] aM fI eM fX fV cE upd cm K.av cK AV.cells AV.cell rowOf rowsOf part ld rowAt bS bZ dH ei ij bK dc eA fZ e8 du ep cY cX dU dW bQ bf cQ bP cT cR ek er eo cP bU cZ ej bL aQ cV cw ig bt cH bR bc dF bq dI AV.undef bD bF dX eh dQ dZ cF ez eE cr ev eu cU cW List.getD_cons_zero List.getD_cons_succ List.getD_nil List.all_cons List.all_nil Bool.and_true Bool.true_and Bool.and_self Bool.not_true Bool.not_false Option.map_some Option.map_none Option.bind_some Option.bind_none List.length_cons List.length_nil List.take_succ_cons List.take_zero List.take_nil List.drop_succ_cons List.drop_zero List.drop_nil List.head?_cons List.map_cons List.map_nil List.getElem?_cons_zero List.getElem?_cons_succ List.cons_append List.nil_append List.append_nil List.length_map List.set_cons_zero List.set_cons_succ Nat.reduceMul eq_self Int.toNat_natCast Int.natCast_nonneg and_self true_and and_true decide_true decide_false Bool.false_eq_true Nat.zero_add Nat.add_zero List.contains_cons List.contains_nil Bool.or_false Bool.false_or beq_self_eq_true Nat.reduceBEq ne_eq not_true_eq_false not_false_eq_true Id.mk.injEq false_and and_false Nat.reduceLT Int.reduceLE Int.reduceLT Int.reduceToNat Int.reduceNeg Int.reduceAdd Nat.le_refl List.length_append beq_true beq_false Bool.not_eq_eq_eq_not or_false false_or dD ad aj aH bC b4 aX bo aY bl cL bE
def lf (l:List Nat) (i x:Nat):Nat:=if x<i∨l.length-i<=x then l.getD (l.length-1-x) 0 else l.getD x 0
theorem w6 (l:List Nat):l.map eN=dw (fun x=>l.getD x 0) l.length:=by
 refine List.ext_getElem? fun i=>?_
 by_cases h:i<l.length
 ·rw[e6 h,List.getElem?_map,List.getElem?_eq_getElem h];simp[List.getD_eq_getElem?_getD,h]
 ·rw[List.getElem?_eq_none (by simp;omega),List.getElem?_eq_none (by rw[fF];omega)]
theorem Fp (l:List Nat):dw (lf l 0) l.length=l.map eN:=by
 rw[w6]
 exact gr fun x hx=>by unfold lf;rw[if_neg ab]
theorem HG (l:List Nat) {i:Nat} (h:l.length<=2*i+1) (hi:i<=l.length):dw (lf l i) l.length=l.reverse.map eN:=by
 rw[w6 l.reverse,List.length_reverse]
 refine gr fun x hx=>?_
 have hr:l.reverse.getD x 0=l.getD (l.length-1-x) 0:=by
  rw[List.getD_eq_getElem?_getD,List.getElem?_reverse hx,List.getD_eq_getElem?_getD]
 rw[hr]
 unfold lf
 by_cases hc:x<i∨l.length-i<=x
 ·rw[if_pos hc]
 ·rw[if_neg hc]
  have:x=l.length-1-x:=ab
  rw[<-this]
theorem Fq (l:List Nat) (hp:0<l.length) (hl:l.length<=1048576) (o:Id) (σ:aw) (ho:σ.get o=some ⟨true,1,l.map eN⟩) (se:o.bY<σ.next):
  Call Tryz.prog 205 [.own o 0 l.length] σ fun r σ'=>σ'.get o=some ⟨true,1,l.reverse.map eN⟩/\σ.next<=σ'.next/\∀i:Id,i.bY<σ.next->(i=o)=False->σ'.get i=σ.get i:=by
 refine fh dY rfl fun sL=>?_
 clear sL
 rw[<-Fp]at ho
 have FU:IntKind.i64.wrap ((l.length:Int)-1)=((l.length-1:Nat):Int):=by rw[bd ab];omega
 (try((repeat(revert hN;revert N;apply Pn.out));refine wk @FU ?_;(repeat(refine Pn.mk ?_;intro N hN))))
 refine aT (fun m env st=>∃i:Nat,m=l.length-i/\2*i<=l.length+1/\i<=l.length/\env 2=.int .i64 (i:Int)/\env 3=.int .i64 ((l.length:Int)-1-i)/\st.get o=some ⟨true,1,dw (lf l i) l.length⟩/\σ.next<=st.next/\∀x:Id,x.bY<σ.next->(x=o)=False->st.get x=σ.get x) l.length ⟨0,rfl,ab,ab,by(simp only[go_sem, ↓reduceIte,Nat.reduceEqDiff,Nat.reduceAdd,Nat.reduceSub,Nat.reduceLeDiff,reduceCtorEq])<;>rfl,by(simp only[go_sem, ↓reduceIte,Nat.reduceEqDiff,Nat.reduceAdd,Nat.reduceSub,Nat.reduceLeDiff,reduceCtorEq,FU]);congr 1;omega,ho,bw,fun x _ _=>rfl⟩ ?_
 rintro m env_b st_b ⟨i,rfl,vq,oL,b2,b3,bg,bn,bfr⟩ bkp
 have b0:=bkp 0 (by kernel_rfl)
 simp only[go_sem, ↓reduceIte,Nat.reduceEqDiff,Nat.reduceAdd,Nat.reduceSub,Nat.reduceLeDiff,reduceCtorEq]at b0
 clear bkp
 have tl:=fF (lf l i) l.length
 have oF:=eC (i:=o) (n:=st_b.next) ab
 by_cases hi:(i:Int)<(l.length:Int)-1-i
 ·have fJ:i<l.length:=ab
  obtain⟨j,hj⟩:∃j,j=l.length-1-i:=⟨_,rfl⟩
  have gw:j<l.length:=ab
  have Jn:(l.length:Int)-1-i=(j:Int):=ab
  rw[Jn]at b3 hi
  have g1:=e6 (f:=lf l i) fJ
  have g2:=e6 (f:=lf l i) gw
  have e1:lf l i i=l.getD i 0:=by unfold lf;rw[if_neg ab]
  have e2:lf l i j=l.getD j 0:=by unfold lf;rw[if_neg ab]
  have Dh:(dw (lf l i) l.length).set i (eN (l.getD j 0))=dw (fun x=>if x=i then l.getD j 0 else lf l i x) l.length:=oy fJ (if_pos rfl) fun x _ hx=>if_neg hx
  have G2:(dw (fun x=>if x=i then l.getD j 0 else lf l i x) l.length).set j (eN (l.getD i 0))=dw (lf l (i+1)) l.length:=oy gw (by unfold lf;rw[if_pos ab];congr 1;omega) fun x hx NT=>by
   by_cases AE:x=i
   ·rw[if_pos AE];unfold lf;rw[if_pos ab];congr 1;omega
   ·rw[if_neg AE];unfold lf
    by_cases hc:x<i∨l.length-i<=x
    ·rw[if_pos hc,if_pos ab]
    ·rw[if_neg hc,if_neg ab]
  have QK:=fF (fun x=>if x=i then l.getD j 0 else lf l i x) l.length
  have g3:=e6 (f:=fun x=>if x=i then l.getD j 0 else lf l i x) gw
  rw[e1]at g1
  rw[e2]at g2
  rw[if_neg ab,e2]at g3
  rw[eN]at g1 g2 g3 Dh G2
  have hii:(i:Int)<(l.length:Int):=ab
  have lR:(j:Int)<(l.length:Int):=ab
  have oM:IntKind.i64.wrap ((i:Int)+1)=((i+1:Nat):Int):=aA ab
  have qS:IntKind.i64.wrap ((j:Int)-1)=(l.length:Int)-1-((i+1:Nat):Int):=by rw[bd ab];omega
  (try((repeat(revert hN;revert N;apply Pn.out));refine wk (tw @b0 (tw @b2 (tw @b3 (tw @bg (tw @hi (tw @hii (tw @lR (tw @g1 (tw @g2 (tw @g3 (tw @Dh (tw @G2 (tw @tl (tw @QK (tw @oF (tw @oM @qS)))))))))))))))) ?_;(repeat(refine Pn.mk ?_;intro N hN))))
  refine⟨_,?_,i+1,rfl,ab,ab,sd @oM,sd @qS,sd @G2,bw,fun x hx FV=>?_⟩
  ·omega
  ·have:=bfr x hx FV
   simp only[go_sem, ↓reduceIte,Nat.reduceEqDiff,Nat.reduceAdd,Nat.reduceSub,Nat.reduceLeDiff,reduceCtorEq,FV,this]
 ·rw[HG l ab oL]at bg
  (try((repeat(revert hN;revert N;apply Pn.out));refine wk (tw @b0 (tw @b2 (tw @b3 (tw @bg @hi)))) ?_;(repeat(refine Pn.mk ?_;intro N hN))))
  exact fy (.inr rfl) (vs:=[]) (by simp only[fb,go_sem, ↓reduceIte,Nat.reduceEqDiff,Nat.reduceAdd,Nat.reduceSub,Nat.reduceLeDiff,reduceCtorEq]) ⟨bg,bw,bfr⟩
theorem PK (cnt:Nat) (vC:1<=cnt) (hn:cnt<=1048576) (c f:Nat->Nat->Int) (x y:Nat) (hx:x<cnt) (hy:y<cnt):
  mB Tryz.prog 193 [.de (kT cnt c f),.int .i64 x,.int .i64 y] fun r=>(r=.br/\∃S:Nat->Bool,S x=true/\S y=false/\∀u v,u<cnt->v<cnt->S u=true->S v=false->¬f u v<c u v)∨∃p:List Nat,r=.sl (p.map eN)/\N7 cnt c f x y p:=by
 refine mB.body dY rfl fun hl n0=>?_
 clear hl
 have lM:=uL c cnt
 have jk:(0:Int)<=(cnt:Int):=ab
 have AE:(x:Int)<(cnt:Int):=ab
 have QE:(y:Int)<(cnt:Int):=ab
 (try((repeat(revert hN;revert N;apply Pn.out));refine wk (tw @kT.eq_1 @lM) ?_;(repeat(refine Pn.mk ?_;intro N hN))))
 refine .inr (aV _ _ _ _ _ (fun r σ1 hq=>?_) (HE cnt vC hn (-1) ⟨193002000,n0+1+1⟩ _ (sd @Nat.zero_add) bw))
 obtain⟨o,rfl,ho,Jt,Ju,mN⟩:=hq
 (try dsimp only at ho Jt Ju mN)
 refine hN _ _ ?_
 clear hN N
 have oF:=eC Ju
 have oK:(cnt:Int)<=1048576:=ab
 have OI:pU<pU+cnt:=ab
 have gx:List.replicate cnt [AV.int .i64 (-1)]=dJ (fun _=>-1) cnt:=by
  refine List.ext_getElem? fun i=>?_
  by_cases h:i<cnt
  ·rw[dC h,List.getElem?_replicate,if_pos h];rfl
  ·rw[List.getElem?_eq_none (by simp;omega),List.getElem?_eq_none (by rw[dv];omega)]
 rw[gx]at ho
 have zI:(dJ (fun _=>-1) cnt).set x (ay (x:Int))=dJ (fun v=>if v=x then(x:Int)else -1) cnt:=kG hx (if_pos rfl) fun v _ hv=>if_neg hv
 have L8:=dC (f:=fun _=>-1) hx
 have tl0:=dv (fun _=>-1) cnt
 rw[ay]at zI L8
 (try((repeat(revert hN;revert N;apply Pn.out));refine wk (tw @kT.eq_1 (tw @lM (tw @jk (tw @oK @oF)))) ?_;(repeat(refine Pn.mk ?_;intro N hN))))
 refine H8 ?_
 simp only[go_sem, ↓reduceIte,Nat.reduceEqDiff,Nat.reduceAdd,Nat.reduceSub,Nat.reduceLeDiff,reduceCtorEq,OI]
 refine hN _ _ ?_
 clear hN N
 (try((repeat(revert hN;revert N;apply Pn.out));refine wk (tw @ho (tw @oF (tw @zI (tw @L8 (tw @tl0 @AE))))) ?_;(repeat(refine Pn.mk ?_;intro N hN))))
 obtain⟨C,hC⟩:∃C:Id,C=⟨193003001,σ1.next+1⟩:=⟨_,rfl⟩
 have O1:=dx (a:=o) (b:=C) (by rw[hC];(try dsimp only);omega)
 have hCv:C.bY=σ1.next+1:=by rw[hC]
 refine aT (fun m env st=>∃(par:Nat->Int) (Q:List Nat) (i:Nat),m=cnt-i/\Bq cnt c f x par Q i/\st.get o=some ⟨true,1,dJ par cnt⟩/\st.get C=some ⟨true,pU+cnt,(Q.drop i).map eN⟩/\σ1.next+1<st.next) cnt ⟨_,[x],0,rfl,Bq.start hx,sd @oF,by rw[hC];simp only[go_sem, ↓reduceIte,Nat.reduceEqDiff,Nat.reduceAdd,Nat.reduceSub,Nat.reduceLeDiff,reduceCtorEq,oF];rfl,bw⟩ ?_
 rintro m env_b st_b ⟨par,Q,i,rfl,hB,bgo,bgC,bn⟩ bkp
 have b0:=bkp 0 (by kernel_rfl)
 have b1:=bkp 1 (by kernel_rfl)
 have b2:=bkp 2 (by kernel_rfl)
 have b7:=bkp 7 (by kernel_rfl)
 have b8:=bkp 8 (by kernel_rfl)
 have b9:=bkp 9 (by kernel_rfl)
 rw[<-hC]at b9
 simp only[go_sem, ↓reduceIte,Nat.reduceEqDiff,Nat.reduceAdd,Nat.reduceSub,Nat.reduceLeDiff,reduceCtorEq]at b0 b1 b2 b7 b8 b9
 clear bkp
 have hQn:=hB.len
 have oL:=hB.ile
 have Qi:((Q.drop i).map eN).length=Q.length-i:=by simp
 by_cases hi:i<Q.length
 ·have jq:(0:Int)<((Q.length-i:Nat):Int):=ab
  have qN:Q.drop i=Q[i]::Q.drop (i+1):=List.drop_eq_getElem_cons hi
  obtain⟨u,hu⟩:∃u,u=Q[i]:=⟨_,rfl⟩
  have hun:u<cnt:=by rw[hu];exact hB.lt _ (List.getElem_mem hi)
  rw[<-hu]at qN
  (try((repeat(revert hN;revert N;apply Pn.out));refine wk (tw @b0 (tw @b1 (tw @b2 (tw @b7 (tw @b8 (tw @b9 (tw @bgC (tw @Qi @jq)))))))) ?_;(repeat(refine Pn.mk ?_;intro N hN))))
  refine H8 ?_
  rw[qN,List.map_cons,show eN u=[.int .i64 (u:Int)]from rfl]at bgC
  simp only[go_sem, ↓reduceIte,Nat.reduceEqDiff,Nat.reduceAdd,Nat.reduceSub,Nat.reduceLeDiff,reduceCtorEq,b9,bgC]
  refine hN _ _ ?_
  clear hN N
  (try((repeat(revert hN;revert N;apply Pn.out));refine wk @b7 ?_;(repeat(refine Pn.mk ?_;intro N hN))))
  refine aT (fun m env st=>∃(v:Nat) (par':Nat->Int) (Q':List Nat),m=cnt-v/\v<=cnt/\env 36=.int .i64 (v:Int)/\Bq cnt c f x par' Q' i/\(∃h:i<Q'.length,Q'[i]=u)/\st.get o=some ⟨true,1,dJ par' cnt⟩/\st.get C=some ⟨true,pU+cnt,(Q'.drop (i+1)).map eN⟩/\σ1.next+1<st.next/\∀w,w<v->f u w<c u w->0<=par' w) cnt ⟨0,par,Q,rfl,Nat.zero_le _,by(simp only[go_sem, ↓reduceIte,Nat.reduceEqDiff,Nat.reduceAdd,Nat.reduceSub,Nat.reduceLeDiff,reduceCtorEq])<;>rfl,hB,⟨hi,hu.symm⟩,sd (tw @O1 @bgo),sd @O1,bw,fun w hw=>absurd hw (Nat.not_lt_zero w)⟩ ?_
  rintro m env_c st_c ⟨v,par',Q',rfl,hvn,c36,dz,⟨pG,Dj⟩,we,cgC,cn,dt⟩ ckp
  have c0:=ckp 0 (by kernel_rfl)
  have c1:=ckp 1 (by kernel_rfl)
  have c2:=ckp 2 (by kernel_rfl)
  have c7:=ckp 7 (by kernel_rfl)
  have c8:=ckp 8 (by kernel_rfl)
  have c9:=ckp 9 (by kernel_rfl)
  have je:=ckp 10 (by kernel_rfl)
  have Ly:=ckp 35 (by kernel_rfl)
  simp only[go_sem, ↓reduceIte,Nat.reduceEqDiff,Nat.reduceAdd,Nat.reduceSub,Nat.reduceLeDiff,reduceCtorEq,b0,b1,b2,b7,b8,b9]at c0 c1 c2 c7 c8 c9 je Ly
  clear ckp
  have tl:=dv par' cnt
  by_cases hv:(v:Int)<(cnt:Int)
  ·have BM:v<cnt:=ab
   have Ma:=dC (f:=par') BM
   have mN:=LO cnt c f u v hun BM
   have hw:IntKind.i64.wrap ((v:Int)+1)=((v+1:Nat):Int):=aA ab
   rw[ay]at Ma
   rw[kT]at mN
   by_cases jJ:par' v<0
   ·by_cases hr:f u v<c u v
    ·rw[decide_eq_true hr]at mN
     have ew:(dJ par' cnt).set v (ay (u:Int))=dJ (fun w=>if w=v then(u:Int)else par' w) cnt:=kG BM (if_pos rfl) fun w _ hw=>if_neg hw
     rw[ay]at ew
     have oD:=dz.visit pG BM jJ (by rw[Dj];exact hr)
     rw[Dj]at oD
     have hQ2:=oD.len
     rw[List.length_append]at hQ2
     simp only[List.length_singleton]at hQ2
     have fA:pU+(Q'.drop (i+1)).length<pU+cnt:=by rw[List.length_drop];omega
     (repeat(first|((repeat(revert hN;revert N;apply Pn.out));refine wk (tw @kT.eq_1 (tw @c0 (tw @c7 (tw @c8 (tw @c9 (tw @je (tw @c36 (tw @Ly (tw @hv (tw @we (tw @Ma (tw @tl (tw @jJ @ew))))))))))))) ?_;(repeat(refine Pn.mk ?_;intro N hN)))|((try apply Or.inl);refine⟨_,ah.x (mN) (sd (tw @kT.eq_1 (tw @c0 (tw @c7 (tw @c8 (tw @c9 (tw @je (tw @c36 (tw @Ly (tw @hv (tw @we (tw @Ma (tw @tl (tw @jJ @ew)))))))))))))),?_⟩;refine hN _ _ ?_;clear hN N)))
     refine H8 ?_
     have hq:(Q'.drop (i+1)).map eN++[[.int .i64 (v:Int)]]=((Q'++[v]).drop (i+1)).map eN:=by rw[List.drop_append_of_le_length ab,List.map_append];rfl
     simp only[go_sem, ↓reduceIte,Nat.reduceEqDiff,Nat.reduceAdd,Nat.reduceSub,Nat.reduceLeDiff,reduceCtorEq,c9,cgC,fA,O1,hq]
     refine hN _ _ ?_
     clear hN N
     (try((repeat(revert hN;revert N;apply Pn.out));refine wk (tw @c36 @hw) ?_;(repeat(refine Pn.mk ?_;intro N hN))))
     refine⟨_,?_,v+1,_,_,rfl,BM,sd @hw,oD,⟨by rw[List.length_append];omega,by rw[List.getElem_append_left pG];exact Dj⟩,sd @O1,sd @O1,bw,fun w hw Dg=>?_⟩
     ·omega
     ·by_cases Dl:w=v
      ·rw[if_pos Dl];omega
      ·rw[if_neg Dl];exact dt w ab Dg
    ·rw[decide_eq_false hr]at mN
     (repeat(first|((repeat(revert hN;revert N;apply Pn.out));refine wk (tw @kT.eq_1 (tw @c0 (tw @c7 (tw @c8 (tw @c9 (tw @je (tw @c36 (tw @Ly (tw @hv (tw @we (tw @Ma (tw @tl (tw @jJ @hw))))))))))))) ?_;(repeat(refine Pn.mk ?_;intro N hN)))|((try apply Or.inl);refine⟨_,ah.x (mN) (sd (tw @kT.eq_1 (tw @c0 (tw @c7 (tw @c8 (tw @c9 (tw @je (tw @c36 (tw @Ly (tw @hv (tw @we (tw @Ma (tw @tl (tw @jJ @hw)))))))))))))),?_⟩;refine hN _ _ ?_;clear hN N)))
     refine⟨_,?_,v+1,par',Q',rfl,BM,sd @hw,dz,⟨pG,Dj⟩,sd @we,sd @cgC,bw,fun w hw Dg=>?_⟩
     ·omega
     ·by_cases Dl:w=v
      ·subst Dl;exact absurd Dg hr
      ·exact dt w ab Dg
   ·(try((repeat(revert hN;revert N;apply Pn.out));refine wk (tw @kT.eq_1 (tw @c0 (tw @c7 (tw @c8 (tw @c9 (tw @je (tw @c36 (tw @Ly (tw @hv (tw @we (tw @Ma (tw @tl (tw @jJ @hw))))))))))))) ?_;(repeat(refine Pn.mk ?_;intro N hN))))
    refine⟨_,?_,v+1,par',Q',rfl,BM,sd @hw,dz,⟨pG,Dj⟩,sd @we,sd @cgC,bw,fun w hw Dg=>?_⟩
    ·omega
    ·by_cases Dl:w=v
     ·subst Dl;omega
     ·exact dt w ab Dg
  ·have hvc:v=cnt:=ab
   subst hvc
   (try((repeat(revert hN;revert N;apply Pn.out));refine wk (tw @c36 (tw @Ly @hv)) ?_;(repeat(refine Pn.mk ?_;intro N hN))))
   refine⟨_,?_,par',Q',i+1,rfl,dz.next pG fun w hw hr=>dt w hw (by rw[<-Dj];exact hr),sd @we,sd @cgC,bw⟩
   omega
 ·have hiQ:i=Q.length:=ab
  subst hiQ
  have jq:¬(0:Int)<((Q.length-Q.length:Nat):Int):=ab
  have RG:=dC (f:=par) hy
  have tl:=dv par cnt
  rw[ay]at RG
  by_cases jJ:par y<0
  ·(try((repeat(revert hN;revert N;apply Pn.out));refine wk (tw @b0 (tw @b1 (tw @b2 (tw @b7 (tw @b8 (tw @b9 (tw @bgC (tw @Qi (tw @jq (tw @bgo (tw @RG (tw @tl (tw @QE @jJ))))))))))))) ?_;(repeat(refine Pn.mk ?_;intro N hN))))
   exact⟨[.br],sd @Nat.zero_add,.br,il _ _,.inl ⟨rfl,hB.cut hy jJ⟩⟩
  ·(try((repeat(revert hN;revert N;apply Pn.out));refine wk (tw @b0 (tw @b1 (tw @b2 (tw @b7 (tw @b8 (tw @b9 (tw @bgC (tw @Qi (tw @jq (tw @bgo (tw @RG (tw @tl (tw @QE @jJ))))))))))))) ?_;(repeat(refine Pn.mk ?_;intro N hN))))
   refine aT (fun m env st=>∃(k:Nat) (out:List Nat) (p:Id),m=Q.idxOf k/\env 13=.int .i64 (k:Int)/\env 12=.own p 0 out.length/\st.get p=some ⟨true,1,out.map eN⟩/\p.bY<st.next/\st_b.next<=p.bY/\k∈Q/\tf c f Q y k out/\st.get o=some ⟨true,1,dJ par cnt⟩) (Q.idxOf y) ⟨y,[y],⟨193017001,st_b.next+1+1⟩,rfl,by(simp only[go_sem, ↓reduceIte,Nat.reduceEqDiff,Nat.reduceAdd,Nat.reduceSub,Nat.reduceLeDiff,reduceCtorEq]),by(simp only[go_sem, ↓reduceIte,Nat.reduceEqDiff,Nat.reduceAdd,Nat.reduceSub,Nat.reduceLeDiff,reduceCtorEq])<;>rfl,by(simp only[go_sem, ↓reduceIte,Nat.reduceEqDiff,Nat.reduceAdd,Nat.reduceSub,Nat.reduceLeDiff,reduceCtorEq])<;>rfl,bw,bw,(hB.iff y hy).1 ab,tf.start ((hB.iff y hy).1 ab),by(have Mx:=eC (i:=o) (n:=st_b.next) ab);simp only[go_sem, ↓reduceIte,Nat.reduceEqDiff,Nat.reduceAdd,Nat.reduceSub,Nat.reduceLeDiff,reduceCtorEq,Mx,bgo]⟩ ?_
   rintro m env_d st_d ⟨k,out,p,rfl,d13,d12,dgp,dpn,dpo,hkQ,s4,dgo⟩ dkp
   have d1:=dkp 1 (by kernel_rfl)
   have d8:=dkp 8 (by kernel_rfl)
   simp only[go_sem, ↓reduceIte,Nat.reduceEqDiff,Nat.reduceAdd,Nat.reduceSub,Nat.reduceLeDiff,reduceCtorEq,b1,b8]at d1 d8
   clear dkp
   have yI:=eC dpn
   have zK:=eC (i:=o) (n:=st_d.next) ab
   have dN:=dx (a:=o) (b:=p) ab
   have hol:=s4.len hB.lt
   have fw:=hB.lt k hkQ
   have jI:(out.map eN).length=out.length:=by simp
   by_cases Qq:k=x
   ·have hd:decide ((k:Int)=(x:Int))=true:=decide_eq_true (by rw[Qq])
    have RZ:0<out.length:=by
     obtain⟨rest,h1,_⟩:=s4
     rw[<-List.length_reverse,h1];simp
    (try((repeat(revert hN;revert N;apply Pn.out));refine wk (tw @d1 (tw @d8 (tw @d12 (tw @d13 (tw @hd @Bool.not_true))))) ?_;(repeat(refine Pn.mk ?_;intro N hN))))
    refine .inr (aV _ _ _ _ _ (fun r σ2 hq=>?_) (Fq out RZ ab p _ dgp bw))
    obtain⟨OO,l9,GP⟩:=hq
    refine hN _ _ ?_
    clear hN N
    (try((repeat(revert hN;revert N;apply Pn.out));refine wk @d12 ?_;(repeat(refine Pn.mk ?_;intro N hN))))
    refine⟨[.own p 0 out.length],sd @d12,.sl (out.reverse.map eN),?_,.inr ⟨out.reverse,rfl,by subst Qq;exact s4.way hB.lt⟩⟩
    exact eW (sz:=1) OO (by simp) fun a=>LP _ 4 a
   ·have hd:decide ((k:Int)=(x:Int))=false:=decide_eq_false fun h=>Qq ab
    obtain⟨u,huQ,hpu,xL,hr⟩:=hB.up k hkQ Qq
    have eO:=dC (f:=par) fw
    rw[ay,hpu]at eO
    have hki:(k:Int)<(cnt:Int):=ab
    have e1:out.length+1<=16777216:=ab
    (try((repeat(revert hN;revert N;apply Pn.out));refine wk (tw @d1 (tw @d8 (tw @d12 (tw @d13 (tw @hd (tw @Bool.not_false (tw @dgo (tw @dgp (tw @eO (tw @tl (tw @hki (tw @yI (tw @zK (tw @dN (tw @jI @e1))))))))))))))) ?_;(repeat(refine Pn.mk ?_;intro N hN))))
    refine⟨_,xL,u,out++[u],⟨193021003,st_d.next+1+1⟩,rfl,sd @Nat.zero_add,by rw[List.length_append];simp only[go_sem, ↓reduceIte,Nat.reduceEqDiff,Nat.reduceAdd,Nat.reduceSub,Nat.reduceLeDiff,reduceCtorEq,List.length_cons,List.length_nil],by rw[List.map_append,List.map_cons,List.map_nil];simp only[go_sem, ↓reduceIte,Nat.reduceEqDiff,Nat.reduceAdd,Nat.reduceSub,Nat.reduceLeDiff,reduceCtorEq,eN],bw,bw,huQ,s4.step huQ xL hr,sd (tw @zK (tw @dN @dgo))⟩
theorem yY (b:Nat):∀(l:List Nat) (a:Nat) (f:Nat->Nat->Int),lu f ((a::l)++[b])=jY (lu f (a::l)) ((a::l).getLast (by simp)) b
 |[],a,f=>rfl
 |c::l,a,f=>by
  rw[List.cons_append,List.cons_append,lu,<-List.cons_append,yY b l c (jY f a c),lu,List.getLast_cons_cons]
theorem DV {p:List Nat} {f:Nat->Nat->Int} {i:Nat} (h1:1<=i) (hi:i<p.length):lu f (p.take (i+1))=jY (lu f (p.take i)) (p[i-1]'ab) p[i]:=by
 rw[List.take_succ_eq_append_getElem hi]
 have gU:p.take i≠[]:=by
  intro h
  have:(p.take i).length=0:=by rw[h];rfl
  rw[List.length_take]at this;omega
 obtain⟨a,l,Qc⟩:∃a l,p.take i=a::l:=by
  cases h:p.take i with
  |nil=>exact absurd h gU
  |cons a l=>exact⟨a,l,rfl⟩
 have tT:(p.take i).getLast gU=p[i-1]'ab:=by
  rw[List.getLast_eq_getElem,List.getElem_take]
  congr 1
  rw[List.length_take];omega
 simp only[Qc]at tT ⊢
 rw[yY,tT]
theorem Fk (f:Nat->Nat->Int) (a b u v:Nat):jY f a b u v<=f u v+1/\f u v-1<=jY f a b u v:=by
 unfold jY gF
 split<;>split<;>constructor<;>omega
theorem lv:∀(p:List Nat) (f:Nat->Nat->Int) (u v:Nat),lu f p u v<=f u v+p.length/\f u v-p.length<=lu f p u v
 |[],f,u,v=>by simp[lu]
 |[_],f,u,v=>by simp[lu];omega
 |a::b::r,f,u,v=>by
  rw[lu]
  have h1:=lv (b::r) (jY f a b) u v
  have h2:=Fk f a b u v
  simp only[List.length_cons]at h1 ⊢
  omega
theorem nh.push {g g':Rows} {X o1 o2:Id} {R1 R2:Nat->Id} {n nb:Nat} {c f:Nat->Nat->Int} (I:DQ X o1 o2 R1 R2 n nb) (h:nh g X o1 o2 R1 R2 n c f) {a b:Nat} (ha:a<n) (hb:b<n) (sa:a≠b) (hA:g' (R2 a)=some ⟨true,1,dJ (gF f a b 1 a) n⟩) (hB:g' (R2 b)=some ⟨true,1,dJ (gF (gF f a b 1) b a (-1) b) n⟩) (hf:∀i:Id,i.bY<nb->(i=R2 a)=False->(i=R2 b)=False->g' i=g i):nh g' X o1 o2 R1 R2 n c (jY f a b):=by
 have ne:∀{i:Id} {s:Nat},i.site=s->(s==174005006)=false->∀a,a<n->(i=R2 a)=False:=fun {i s} hi hs a ha=>by
  simp only[eq_iff_iff,iff_false]
  rintro rfl
  rw[I.K6 a ha]at hi
  subst hi
  simp at hs
 refine⟨(hf _ I.vx (ne I.sx (by decide) _ ha) (ne I.sx (by decide) _ hb)).trans h.x,(hf _ I.v1 (ne I.s1 (by decide) _ ha) (ne I.s1 (by decide) _ hb)).trans h.t1,(hf _ I.v2 (ne I.s2 (by decide) _ ha) (ne I.s2 (by decide) _ hb)).trans h.t2,fun i hi=>(hf _ (I.Sp i hi) (ne (I.QJ i hi) (by decide) _ ha) (ne (I.QJ i hi) (by decide) _ hb)).trans (h.r1 i hi),fun i hi=>?_⟩
 by_cases It:i=b
 ·subst It;exact hB
 ·by_cases Mc:i=a
  ·subst Mc
   rw[hA,jY,jF It]
  ·rw[jY,jF It,jF Mc,hf _ (I.PJ i hi) (by simp only[eq_iff_iff,iff_false];exact fun he=>Mc (I.i2 i _ hi ha he)) (by simp only[eq_iff_iff,iff_false];exact fun he=>It (I.i2 i _ hi hb he))]
   exact h.r2 i hi
theorem MV (cnt:Nat) (vC:1<=cnt) (hn:cnt<=1048576) (c:Nat->Nat->Int) (hc:∀u v,u<cnt->v<cnt->0<=c u v/\c u v<=16777216) (x y:Nat) (hx:x<cnt) (hy:y<cnt) (MA:x≠y) (t:Int) (ht:t<=1099511627776)
  (X o1 o2:Id) (R1 R2:Nat->Id) (nb:Nat) (I:DQ X o1 o2 R1 R2 cnt nb) (σ:aw) (hM:nh σ.get X o1 o2 R1 R2 cnt c (fun _ _=>0)) (NK:nb<=σ.next):
  Call Tryz.prog 175 [.ptr X 0 0,.int .i64 x,.int .i64 y,.int .i64 t] σ fun r σ'=>∃(k:Nat) (f:Nat->Nat->Int),r=.int .i64 k/\mC cnt c f x y k/\nh σ'.get X o1 o2 R1 R2 cnt c f/\((∃S:Nat->Bool,S x=true/\S y=false/\∀u v,u<cnt->v<cnt->S u=true->S v=false->¬f u v<c u v)∨t<=k)/\σ.next<=σ'.next:=by
 refine fh dY rfl fun hl=>?_
 clear hl
 have hxS:(fun v=>decide (v=x)) x=true:=by simp
 have hyS:(fun v=>decide (v=x)) y=false:=by simp;exact fun h=>MA h.symm
 obtain⟨top,R7⟩:∃top,top=ly cnt (fun v=>decide (v=x)) c:=⟨_,rfl⟩
 (try((repeat(revert hN;revert N;apply Pn.out));refine wk @Nat.zero_add ?_;(repeat(refine Pn.mk ?_;intro N hN))))
 refine aT (fun m env st=>∃(k:Nat) (f:Nat->Nat->Int),m=(top-k).toNat/\env 9=.int .i64 (k:Int)/\mC cnt c f x y k/\nh st.get X o1 o2 R1 R2 cnt c f/\σ.next<=st.next/\(0<k->(k:Int)<=t)/\∀u v,-((k:Int)*(cnt:Int))<=f u v) (top-0).toNat ⟨0,fun _ _=>0,rfl,by(simp only[go_sem, ↓reduceIte,Nat.reduceEqDiff,Nat.reduceAdd,Nat.reduceSub,Nat.reduceLeDiff,reduceCtorEq])<;>rfl,mC.zero fun u v hu hv=>(hc u v hu hv).1,hM,bw,fun h=>absurd h (Nat.lt_irrefl 0),fun u v=>by simp⟩ ?_
 rintro m env_b st_b ⟨k,f,rfl,b9,hF,bM,bn,bk,blo⟩ bkp
 have b0:=bkp 0 (by kernel_rfl)
 have b1:=bkp 1 (by kernel_rfl)
 have b2:=bkp 2 (by kernel_rfl)
 have b3:=bkp 3 (by kernel_rfl)
 simp only[go_sem, ↓reduceIte,Nat.reduceEqDiff,Nat.reduceAdd,Nat.reduceSub,Nat.reduceLeDiff,reduceCtorEq]at b0 b1 b2 b3
 clear bkp
 have hz:cq (dD st_b.get) 6 [.ptr X 0 0,.int .i64 (x:Int),.int .i64 (y:Int)]=some [.de (kT cnt c f),.int .i64 x,.int .i64 y]:=by simp only[ad,aj,bM.fz,aH,Option.map_some]
 (try((repeat(revert hN;revert N;apply Pn.out));refine wk (tw @b0 (tw @b1 (tw @b2 (tw @b3 @b9)))) ?_;(repeat(refine Pn.mk ?_;intro N hN))))
 refine .inr (aV _ _ _ _ _ (fun r σ1 hq=>?_) ((PK cnt vC hn c f x y hx hy).x mixed hz))
 obtain⟨Mp,rfl⟩:=hq
 refine hN _ _ ?_
 clear hN N
 rcases Mp with⟨rfl,S,Jf,Jg,NF⟩|⟨p,rfl,hW⟩
 ·(try((repeat(revert hN;revert N;apply Pn.out));refine wk (tw @b0 (tw @b1 (tw @b2 (tw @b3 (tw @b9 (tw @Bool.not_true @Bool.not_false)))))) ?_;(repeat(refine Pn.mk ?_;intro N hN))))
  refine fy (.inl rfl) (vs:=[.int .i64 (k:Int)]) (sd @Nat.zero_add) ⟨k,f,rfl,hF,by(try dsimp only);exact bM,.inl ⟨S,Jf,Jg,NF⟩,bw⟩
 ·obtain⟨⟨rs,rfl,tT⟩,k7,fA,hplt⟩:=hW
  by_cases Iy:t<=(k:Int)
  ·(try((repeat(revert hN;revert N;apply Pn.out));refine wk (tw @b0 (tw @b1 (tw @b2 (tw @b3 (tw @b9 (tw @Iy (tw @Bool.not_true @Bool.not_false))))))) ?_;(repeat(refine Pn.mk ?_;intro N hN))))
   refine fy (.inl rfl) (vs:=[.int .i64 (k:Int)]) (sd @Nat.zero_add) ⟨k,f,rfl,hF,by(try dsimp only);exact bM,.inr Iy,bw⟩
  ·(try((repeat(revert hN;revert N;apply Pn.out));refine wk (tw @b0 (tw @b1 (tw @b2 (tw @b3 (tw @b9 (tw @Iy (tw @Bool.not_true @Bool.not_false))))))) ?_;(repeat(refine Pn.mk ?_;intro N hN))))
   have lk:=nL cnt _ k7 hplt
   have hkc:(k:Int)*(cnt:Int)<=1099511627776*1048576:=Int.mul_le_mul ab ab ab ab
   have hfb:=hF.bound (S:=fun v=>decide (v=x)) hxS hyS
   have hnear:=lv
   obtain⟨p,hp⟩:∃p,p=x::rs:=⟨_,rfl⟩
   have hmp:eN x::List.map eN rs=p.map eN:=by rw[hp];rfl
   rw[hmp]
   have Ml:1<=p.length:=by rw[hp];simp
   have Rc:=hF.aug tT k7 fA hplt
   rw[<-hp]at Rc k7 fA hplt lk
   have Mu:p.take 1=[x]:=by rw[hp];rfl
   clear hmp tT
   refine aT (fun m env st=>∃i:Nat,m=p.length-i/\1<=i/\i<=p.length/\env 11=.int .i64 (i:Int)/\nh st.get X o1 o2 R1 R2 cnt c (lu f (p.take i))/\st_b.next<=st.next) (p.length-1) ⟨1,rfl,Nat.le_refl _,Ml,by(simp only[go_sem, ↓reduceIte,Nat.reduceEqDiff,Nat.reduceAdd,Nat.reduceSub,Nat.reduceLeDiff,reduceCtorEq])<;>rfl,by rw[Mu];exact bM,bw⟩ ?_
   rintro m env_c st_c ⟨i,rfl,Is,oL,mU,cM,cn⟩ ckp
   have c0:=ckp 0 (by kernel_rfl)
   have c1:=ckp 1 (by kernel_rfl)
   have c2:=ckp 2 (by kernel_rfl)
   have c3:=ckp 3 (by kernel_rfl)
   have c9:=ckp 9 (by kernel_rfl)
   have je:=ckp 10 (by kernel_rfl)
   simp only[go_sem, ↓reduceIte,Nat.reduceEqDiff,Nat.reduceAdd,Nat.reduceSub,Nat.reduceLeDiff,reduceCtorEq,b0,b1,b2,b3,b9]at c0 c1 c2 c3 c9 je
   clear ckp
   have jI:(p.map eN).length=p.length:=by simp
   by_cases hi:(i:Int)<(p.length:Int)
   ·have fJ:i<p.length:=ab
    have vH:=DV (f:=f) Is fJ
    obtain⟨a,ha⟩:∃a,a=p[i-1]'ab:=⟨_,rfl⟩
    obtain⟨b,hb⟩:∃b,b=p[i]:=⟨_,rfl⟩
    have C6:a<cnt:=by rw[ha];exact hplt _ (List.getElem_mem _)
    have C7:b<cnt:=by rw[hb];exact hplt _ (List.getElem_mem _)
    have sa:a≠b:=by
     rw[ha,hb]
     exact List.pairwise_iff_getElem.1 k7 (i-1) i ab fJ ab
    have OP:(p.map eN)[i-1]? =some [.int .i64 (a:Int)]:=by rw[List.getElem?_map,List.getElem?_eq_getElem ab,ha];rfl
    have OQ:(p.map eN)[i]? =some [.int .i64 (b:Int)]:=by rw[List.getElem?_map,List.getElem?_eq_getElem fJ,hb];rfl
    rw[<-ha,<-hb]at vH
    have RP:=lv (p.take i) f a b
    have RQ:=lv (p.take i) f b a
    rw[List.length_take]at RP RQ
    have hl1:=blo b a
    have hl2:=blo a b
    have KY:=hF.le a b C6 C7
    have Dk:=hF.le b a C7 C6
    have hca:=hc a b C6 C7
    have C8:=hc b a C7 C6
    generalize lu f (p.take i)=fl at *
    have gA:=qH (R:=R2) (n:=cnt) C6
    have gB:=qH (R:=R2) (n:=cnt) C7
    have rA:=cM.r2 _ C6
    have rB:=cM.r2 _ C7
    have cA:=dC (f:=fl a) C7
    have cB:=dC (f:=fl b) C6
    have sA:=nu (f:=fl) (a:=a) (d:=1) C7
    have Mh:gF fl a b 1 b=fl b:=jF fun h=>sa h.symm
    have sB:=nu (f:=gF fl a b 1) (a:=b) (b:=a) (d:=-1) (n:=cnt) C6
    rw[Mh]at sB
    have gX:=cM.x
    have g2:=cM.t2
    have ga:(a:Int)<(cnt:Int):=ab
    have fB:(b:Int)<(cnt:Int):=ab
    have FU:IntKind.i64.wrap ((i:Int)-1)=((i-1:Nat):Int):=by rw[bd ab];omega
    have vq:((i-1:Nat):Int)<(p.length:Int):=ab
    have wA:IntKind.i64.wrap (fl a b+1)=fl a b+1:=bd ab
    have wB:IntKind.i64.wrap (fl b a-1)=fl b a+-1:=by rw[bd ab];omega
    have Pd:IntKind.i64.wrap ((i:Int)+1)=((i+1:Nat):Int):=aA ab
    have l2:=jM R2 cnt cnt
    have lA:=dv (fl a) cnt
    have lB:=dv (fl b) cnt
    have gU:(R2 a=R2 b)=False:=by simp only[eq_iff_iff,iff_false];exact fun h=>sa (I.i2 _ _ C6 C7 h)
    have GW:(R2 b=R2 a)=False:=by simp only[eq_iff_iff,iff_false];exact fun h=>sa (I.i2 _ _ C6 C7 h.symm)
    have xA:=ym I.sx (I.K6 a C6) (by decide)
    have xB:=ym I.sx (I.K6 b C7) (by decide)
    have yA:=ym I.s2 (I.K6 a C6) (by decide)
    have yB:=ym I.s2 (I.K6 b C7) (by decide)
    have qX:=eC (i:=X) (n:=st_c.next) (by have:=I.vx;omega)
    have q2:=eC (i:=o2) (n:=st_c.next) (by have:=I.v2;omega)
    have qA:=eC (i:=R2 a) (n:=st_c.next) (by have:=I.PJ a C6;omega)
    have qB:=eC (i:=R2 b) (n:=st_c.next) (by have:=I.PJ b C7;omega)
    rw[ay]at cA cB sA sB
    (try((repeat(revert hN;revert N;apply Pn.out));refine wk (tw @c0 (tw @c9 (tw @je (tw @mU (tw @jI (tw @hi (tw @vq (tw @OP (tw @OQ (tw @gA (tw @gB (tw @rA (tw @rB (tw @cA (tw @cB (tw @sA (tw @sB (tw @gX (tw @g2 (tw @ga (tw @fB (tw @FU (tw @wA (tw @wB (tw @Pd (tw @l2 (tw @lA (tw @lB (tw @gU (tw @GW (tw @xA (tw @xB (tw @yA (tw @yB (tw @qX (tw @q2 (tw @qA @qB))))))))))))))))))))))))))))))))))))) ?_;(repeat(refine Pn.mk ?_;intro N hN))))
    refine⟨_,?_,i+1,rfl,ab,ab,sd @Pd,?_,bw⟩
    ·omega
    ·rw[vH]
     refine cM.push I C6 C7 sa ?_ ?_ fun j hj h1 h2=>?_
     ·simp only[go_sem, ↓reduceIte,Nat.reduceEqDiff,Nat.reduceAdd,Nat.reduceSub,Nat.reduceLeDiff,reduceCtorEq,gU]
     ·simp only[go_sem, ↓reduceIte,Nat.reduceEqDiff,Nat.reduceAdd,Nat.reduceSub,Nat.reduceLeDiff,reduceCtorEq,gU]
     ·simp only[go_sem, ↓reduceIte,Nat.reduceEqDiff,Nat.reduceAdd,Nat.reduceSub,Nat.reduceLeDiff,reduceCtorEq,h1,h2]
   ·have Iv:i=p.length:=ab
    subst Iv
    rw[List.take_length]at cM
    have My:IntKind.i64.wrap ((k:Int)+1)=((k+1:Nat):Int):=aA ab
    have Rz:=Rc.bound (S:=fun v=>decide (v=x)) hxS hyS
    (try((repeat(revert hN;revert N;apply Pn.out));refine wk (tw @c0 (tw @c9 (tw @je (tw @mU (tw @jI (tw @hi @My)))))) ?_;(repeat(refine Pn.mk ?_;intro N hN))))
    refine⟨_,?_,k+1,_,rfl,sd @My,by rw[Int.natCast_add];exact Rc,cM,bw,fun _=>ab,fun u v=>?_⟩
    ·rw[<-R7]at Rz;omega
    ·have h1:=(lv p f u v).2
     have h2:=blo u v
     rw[Int.natCast_add,Int.add_mul]
     omega
theorem MU (cnt:Nat) (vC:1<=cnt) (hn:cnt<=1048576) (c:Nat->Nat->Int) (hc:∀u v,u<cnt->v<cnt->0<=c u v/\c u v<=16777216) (x y:Nat) (hx:x<cnt) (hy:y<cnt) (MA:x≠y) (t:Int) (ht:t<=1099511627776)
  (X o1 o2:Id) (R1 R2:Nat->Id) (nb:Nat) (I:DQ X o1 o2 R1 R2 cnt nb) (σ:aw) (hM:nh σ.get X o1 o2 R1 R2 cnt c (fun _ _=>0)) (NK:nb<=σ.next):
  Call Tryz.prog 175 [.ptr X 0 0,.int .i64 x,.int .i64 y,.int .i64 t] σ fun r σ'=>∃val:Int,r=.int .i64 val/\(val<t↔∃S:Nat->Bool,S x=true/\S y=false/\ly cnt S c<t)/\σ.next<=σ'.next:=by
 refine aV _ _ _ _ _ (fun r σ1 hq=>?_) (MV cnt vC hn c hc x y hx hy MA t ht X o1 o2 R1 R2 nb I σ hM NK)
 obtain⟨k,f,rfl,hF,_,hS,hle⟩:=hq
 refine⟨(k:Int),rfl,⟨fun h=>?_,fun⟨S',h1,h2,h3⟩=>by have:=hF.bound h1 h2;omega⟩,hle⟩
 rcases hS with⟨S,Jf,Jg,NF⟩|h2
 ·exact⟨S,Jf,Jg,by rw[<-hF.full Jf Jg NF];exact h⟩
 ·omega
noncomputable def sb (n:Nat) (bs:List PB) (t:Int):Bool:=@decide (kc n bs t) (Classical.propDecidable _)
theorem wD {n:Nat} {bs:List PB} {t:Int} (h:kc n bs t):true=sb n bs t:=by simp[sb,h]
theorem zF {n:Nat} {bs:List PB} {t:Int} (h:¬kc n bs t):false=sb n bs t:=by simp[sb,h]
theorem Jr (cnt:Nat) (hn:cnt<=1048576) (bs:List PB) (hb:∀b∈bs,b.a<cnt/\b.b<cnt) (eB:∀b∈bs,0<=b.s/\b.s<=4) (pD:bs.length<=1048576) (t:Int) (ht:t<=1099511627776):
  ah Tryz.prog 158 [.int .i64 cnt,.sl (bs.map ax),.int .i64 t] (.bool (sb cnt bs t)):=by
 refine ah.body dY rfl fun hl n0=>?_
 clear hl
 have jO:=yf bs (fun _ _=>0) (fun b h=>(eB b h).1) (fun _ _=>Int.le_refl _)
 have hle:=room_le bs (fun _ _=>0) 0 (fun b h=>(eB b h).2) (fun _ _=>Int.le_refl _) (Int.le_refl _)
 have fA:bs.foldl mP (fun _ _=>0)=kB bs:=rfl
 rw[fA]at jO hle
 (try((repeat(revert hN;revert N;apply Pn.out));refine wk @Nat.zero_add ?_;(repeat(refine Pn.mk ?_;intro N hN))))
 refine aT (fun m env st=>∃y:Nat,m=cnt+1-y/\1<=y/\env 7=.int .i64 (y:Int)/\y<=cnt+1/\∀z,1<=z->z<y->z<cnt->∀S:Nat->Bool,S 0=true->S z=false->t<=iH S bs) (cnt+1-1) ⟨1,rfl,Nat.le_refl _,by(simp only[go_sem, ↓reduceIte,Nat.reduceEqDiff,Nat.reduceAdd,Nat.reduceSub,Nat.reduceLeDiff,reduceCtorEq])<;>rfl,ab,fun z h1 h2=>ab⟩ ?_
 rintro m env_b st_b ⟨y,rfl,hy1,b7,hyl,dt⟩ bkp
 have b0:=bkp 0 (by kernel_rfl)
 have b1:=bkp 1 (by kernel_rfl)
 have b2:=bkp 2 (by kernel_rfl)
 simp only[go_sem, ↓reduceIte,Nat.reduceEqDiff,Nat.reduceAdd,Nat.reduceSub,Nat.reduceLeDiff,reduceCtorEq]at b0 b1 b2
 clear bkp
 by_cases hy:(y:Int)<(cnt:Int)
 ·have hyn:y<cnt:=ab
  (try((repeat(revert hN;revert N;apply Pn.out));refine wk (tw @b0 (tw @b1 (tw @b2 (tw @b7 @hy)))) ?_;(repeat(refine Pn.mk ?_;intro N hN))))
  refine .inr (aV _ _ _ _ _ (fun r σ1 hq=>?_) (z8 cnt ab hn bs hb eB pD _))
  obtain⟨X,o1,o2,R1,R2,rfl,I,Jp,hM,_⟩:=hq
  refine hN _ _ ?_
  clear hN N
  (try((repeat(revert hN;revert N;apply Pn.out));refine wk (tw @b0 (tw @b1 (tw @b2 @b7))) ?_;(repeat(refine Pn.mk ?_;intro N hN))))
  have hsd:=MU cnt ab hn (kB bs) (fun u v _ _=>⟨jO u v,by have:=hle u v;omega⟩) 0 y ab hyn ab t ht X o1 o2 R1 R2 σ1.next I
  refine .inr (aV _ _ _ _ _ (fun r σ2 hq=>?_) (hsd _ hM bw))
  obtain⟨val,rfl,qe,l9⟩:=hq
  refine hN _ _ ?_
  clear hN N
  by_cases dR:val<t
  ·(try((repeat(revert hN;revert N;apply Pn.out));refine wk (tw @b0 (tw @b1 (tw @b2 (tw @b7 @dR)))) ?_;(repeat(refine Pn.mk ?_;intro N hN))))
   obtain⟨S,h1,h2,h3⟩:=qe.1 dR
   rw[zd hb]at h3
   exact aO (b:=false) (.inl rfl) (sd @Nat.zero_add) (zF fun h=>by have:=h S h1 ⟨y,hyn,h2⟩;omega)
  ·have hw:IntKind.i64.wrap ((y:Int)+1)=((y+1:Nat):Int):=aA ab
   (try((repeat(revert hN;revert N;apply Pn.out));refine wk (tw @b0 (tw @b1 (tw @b2 (tw @b7 (tw @dR @hw))))) ?_;(repeat(refine Pn.mk ?_;intro N hN))))
   refine⟨_,?_,y+1,rfl,ab,sd (tw @b7 @hw),ab,fun z h1 h2 h3 S Jf Jg=>?_⟩
   ·omega
   ·by_cases hzy:z=y
    ·subst hzy
     rcases Int.lt_or_le (iH S bs) t with h|h
     ·exact absurd (qe.2 ⟨S,Jf,Jg,by rw[zd hb];exact h⟩) dR
     ·exact h
    ·exact dt z h1 ab h3 S Jf Jg
 ·(try((repeat(revert hN;revert N;apply Pn.out));refine wk (tw @b0 (tw @b1 (tw @b2 (tw @b7 @hy)))) ?_;(repeat(refine Pn.mk ?_;intro N hN))))
  exact aO (b:=true) (.inl rfl) (sd @Nat.zero_add) (wD fun S h0 ⟨z,hz,hzf⟩=>by
   have:z≠0:=by rintro rfl;rw[h0]at hzf;cases hzf
   exact dt z ab ab hz S h0 hzf)
theorem GX (cnt:Nat) (hn:cnt<=1048576) (bs:List PB) (hb:∀b∈bs,b.a<cnt/\b.b<cnt) (eB:∀b∈bs,0<=b.s/\b.s<=4) (pD:bs.length<=1048576) (t:Int) (ht:t<=1099511627776):
  ah Tryz.prog 158 [.int .i64 cnt,yj bs,.int .i64 t] (.bool (sb cnt bs t)):=by
 have h:=Jr cnt hn bs hb eB pD t ht
 cases bs with
 |nil=>exact h.cut mixed (.same _ (.br (.same _ .nil)))
 |cons b r=>rw[yk (by simp)];exact h
def AG:Prop:=∀(s:aq) (l:List ak),lV s->lT s l->ah Tryz.prog 157 [.agg (aa s),.agg [.sl (l.map ai)]] (yj (cu s l))
noncomputable def s9 (s:aq) (l:List ak) (t:Int):Bool:=if 64<gQ s l t then false else sb (gQ s l t) (dk (dV (aE t (cu s l))) (cu s l)) t
theorem BQ (s:aq) (l:List ak) (t:Int):s9 s l t=mO s l t:=by
 letI:=Classical.propDecidable (nY l.length (cu s l) t)
 unfold s9
 by_cases h:64<gQ s l t
 ·rw[if_pos h]
  exact(lO (p:=False) ⟨False.elim,fun k=>by have:=k.1;unfold gQ at h;omega⟩).symm.trans (by simp) |>.symm
 ·rw[if_neg h]
  by_cases hp:kc (gQ s l t) (dk (dV (aE t (cu s l))) (cu s l)) t
  ·rw[<-wD hp]
   exact((lO (p:=True) ⟨fun _=>⟨by unfold gQ at h;omega,hp⟩,fun _=>trivial⟩).symm.trans (by simp)).symm
  ·rw[<-zF hp]
   exact((lO (p:=False) ⟨False.elim,fun k=>hp k.2⟩).symm.trans (by simp)).symm
theorem HL (Q7:AG) (s:aq) (l:List ak) (t:Int) (ht:t<=1099511627776) (h1:1<=l.length) (hS:lV s) (hA:lT s l):ah Tryz.prog 129 [.agg (aa s),.agg [.sl (l.map ai)],.int .i64 t] (.gE [.bool (mO s l t),.bool (decide ¬64<gQ s l t)]):=by
 rw[<-BQ]
 refine ah.body dY rfl fun hl n0=>?_
 clear hl
 have hb:=v5 (l:=l) hS
 have pD:=oX (s:=s) hA.1
 have OL:=hA.1.FN
 have zB:=Q7 s l hS hA
 have OI:=xt l.length h1 ab (cu s l) (fun b h=>⟨(hb b h).1,(hb b h).2.1⟩) ab t
 have hL:=si (aE t (cu s l))
 have fJ:=Cr hL (fun b h=>⟨(hb b h).1,(hb b h).2.1⟩)
 have hlen:=(ml (dV (aE t (cu s l))) (cu s l)).1
 have mW:=jr l.length (dV (aE t (cu s l)))
 have hho:=GX (gQ s l t) (by unfold gQ;omega) (dk (dV (aE t (cu s l))) (cu s l)) (fun b h=>⟨(fJ b h).1,(fJ b h).2.1⟩) (fun b h=>by
  obtain⟨_,_,_,c,hc,dn⟩:=fJ b h
  rw[dn];have:=hb c hc;omega) ab t ht
 have fa:(l.map ai).length=l.length:=by simp
 have hzB:∀(g:Rows) (n:Nat) (bs:List PB),V.fz g (n+1) (yj bs)=some (yj bs):=fun g n bs=>by
  unfold yj;split
  ·exact aX _ _
  ·exact b4 _ _ _
 rw[aa]at zB
 rw[<-gQ]at OI
 have wI:∀(g:Rows) (x:Int),cq (dD g) 6 [.int .i64 l.length,yj (cu s l),.int .i64 x]=some [.int .i64 l.length,yj (cu s l),.int .i64 x]:=fun g x=>by simp only[ad,aj,aH,hzB,Option.map_some]
 have hzh:∀(g:Rows) (x y:Int),cq (dD g) 6 [.int .i64 x,yj (dk (dV (aE t (cu s l))) (cu s l)),.int .i64 y]=some [.int .i64 x,yj (dk (dV (aE t (cu s l))) (cu s l)),.int .i64 y]:=fun g x y=>by simp only[ad,aj,aH,hzB,Option.map_some]
 generalize yj (cu s l)=B1 at *
 generalize yj (dk (dV (aE t (cu s l))) (cu s l))=B2 at *
 by_cases sH:(64:Int)<(gQ s l t:Int)
 ·have sI:64<gQ s l t:=ab
  (repeat(first|((repeat(revert hN;revert N;apply Pn.out));refine wk (tw @aa.eq_1 (tw @sH @fa)) ?_;(repeat(refine Pn.mk ?_;intro N hN)))|((try apply Or.inl);refine⟨_,ah.x (zB) (sd (tw @aa.eq_1 (tw @sH @fa))),?_⟩;refine hN _ _ ?_;clear hN N)))
  refine⟨_,ah.x OI (wI _ _),?_⟩
  refine hN _ _ ?_
  clear hN N
  (try((repeat(revert hN;revert N;apply Pn.out));refine wk @sH ?_;(repeat(refine Pn.mk ?_;intro N hN))))
  exact jc (.inl rfl) (r1:=.bool false) (r2:=.bool false) (sd @Nat.zero_add) (sd @Nat.zero_add) (by rw[s9,if_pos sI,decide_eq_false fun h=>h sI];simp only[cJ,aC,aL,cz,Option.map_some])
 ·have sI:¬64<gQ s l t:=ab
  (repeat(first|((repeat(revert hN;revert N;apply Pn.out));refine wk (tw @aa.eq_1 (tw @sH @fa)) ?_;(repeat(refine Pn.mk ?_;intro N hN)))|((try apply Or.inl);refine⟨_,ah.x (zB) (sd (tw @aa.eq_1 (tw @sH @fa))),?_⟩;refine hN _ _ ?_;clear hN N)))
  refine⟨_,ah.x OI (wI _ _),?_⟩
  refine hN _ _ ?_
  clear hN N
  (try((repeat(revert hN;revert N;apply Pn.out));refine wk @sH ?_;(repeat(refine Pn.mk ?_;intro N hN))))
  refine .inl ⟨_,ah.x hho (hzh _ _ _),?_⟩
  refine hN _ _ ?_
  clear hN N
  (try((repeat(revert hN;revert N;apply Pn.out));refine wk @Nat.zero_add ?_;(repeat(refine Pn.mk ?_;intro N hN))))
  exact jc (.inl rfl) (r1:=.bool (sb (gQ s l t) (dk (dV (aE t (cu s l))) (cu s l)) t)) (r2:=.bool true) (sd @Nat.zero_add) (sd @Nat.zero_add) (by rw[s9,if_neg sI,decide_eq_true sI];simp only[cJ,aC,aL,cz,Option.map_some])
theorem sO (t:Int):ah Tryz.prog 128 [.int .i64 t] (.bool (g9 t 1 16)):=by
 refine ah.body dY rfl fun hl n0=>?_
 clear hl
 have h:=jN t 1 16
 (repeat(first|((repeat(revert hN;revert N;apply Pn.out));refine wk @Nat.zero_add ?_;(repeat(refine Pn.mk ?_;intro N hN)))|((try apply Or.inl);refine⟨_,ah.x (h) (sd @Nat.zero_add),?_⟩;refine hN _ _ ?_;clear hN N)))
 exact aO (b:=g9 t 1 16) (.inl rfl) (sd @Nat.zero_add) rfl
theorem u6 (Q7:AG) (s:cl) (hn:eX s.aI) (hg:s.aI.au.length<=1048576) (ht:s.aI.ae.length<=1048576) (hs:∀t∈s.aI.ae,t.bm.length<=1048576) (hl:s.ck.ae.length<=1048576):ah Tryz.prog 60 [.agg (az s)] (.bool (mu s)):=by
 refine ah.body dY rfl fun sL n0=>?_
 clear sL
 by_cases h0:(s.ck.ae.length:Int)=0
 ·have hd:decide ((s.ck.ae.length:Int)=0)=true:=decide_eq_true h0
  (try((repeat(revert hN;revert N;apply Pn.out));refine wk (tw @az.eq_1 @hd) ?_;(repeat(refine Pn.mk ?_;intro N hN))))
  exact aO (b:=false) (.inl rfl) (sd @Nat.zero_add) (jC fun h=>by have:=h.some;omega)
 have hd:decide ((s.ck.ae.length:Int)=0)=false:=decide_eq_false h0
 have L5:=mJ s.aI s.ck.ae hn hg ht hs hl
 have OC:=sO s.aJ
 have key:ah Tryz.prog 97 [.agg (aa s.aI),.agg [.sl (s.ck.ae.map ai)],.int .i64 s.aJ] (.gE [.bool (mu s),.int .i64 (if pA s.aI&&oC s.aI s.ck.ae then(if g9 s.aJ 1 16 then(if 64<gQ s.aI s.ck.ae s.aJ then 4 else 0)else 2)else 1)]):=by
  refine ah.body dY rfl fun sL n0=>?_
  clear sL
  rw[aa]at L5
  cases hA:pA s.aI&&oC s.aI s.ck.ae
  ·rw[hA]at L5
   have gR:mu s=false:=(jC fun h=>by rw[lN.2 h.set,lr.2 h.MT]at hA;cases hA).symm
   (repeat(first|((repeat(revert hN;revert N;apply Pn.out));refine wk @aa.eq_1 ?_;(repeat(refine Pn.mk ?_;intro N hN)))|((try apply Or.inl);refine⟨_,ah.x (L5) (sd @aa.eq_1),?_⟩;refine hN _ _ ?_;clear hN N)))
   exact jc (.inl rfl) (r1:=.bool false) (r2:=.int .i64 1) (sd @Nat.zero_add) (sd @Nat.zero_add) (by rw[gR];simp only[cJ,aC,aL,cz,cC,Option.map_some];rfl)
  rw[hA]at L5
  simp only[Bool.and_eq_true]at hA
  have hS:=lN.1 hA.1
  have hP:=lr.1 hA.2
  cases hT:g9 s.aJ 1 16
  ·rw[hT]at OC
   have gR:mu s=false:=(jC fun h=>by have:=h.M3;rw[hT]at this;cases this).symm
   (repeat(first|((repeat(revert hN;revert N;apply Pn.out));refine wk @aa.eq_1 ?_;(repeat(refine Pn.mk ?_;intro N hN)))|((try apply Or.inl);refine⟨_,ah.x (L5) (sd @aa.eq_1),?_⟩;refine hN _ _ ?_;clear hN N)|((try apply Or.inl);refine⟨_,ah.x (OC) (sd @aa.eq_1),?_⟩;refine hN _ _ ?_;clear hN N)))
   exact jc (.inl rfl) (r1:=.bool false) (r2:=.int .i64 2) (sd @Nat.zero_add) (sd @Nat.zero_add) (by rw[gR];simp only[cJ,aC,aL,cz,cC,Option.map_some];rfl)
  have FR:=dO hT
  rw[hT]at OC
  have eB:=HL Q7 s.aI s.ck.ae s.aJ ab ab hS hP
  rw[aa]at eB
  have hsy:mu s=mO s.aI s.ck.ae s.aJ:=by
   cases hB:mO s.aI s.ck.ae s.aJ
   ·exact(jC fun h=>by have:=ow.2 h.holds;rw[hB]at this;cases this).symm
   ·exact(Aj ⟨hS,hP,ab,hT,ow.1 hB⟩).symm
  by_cases sH:64<gQ s.aI s.ck.ae s.aJ
  ·rw[decide_eq_false fun h=>h sH]at eB
   have gR:mu s=false:=(jC fun h=>by have:=h.holds.1;unfold gQ at sH;omega).symm
   (repeat(first|((repeat(revert hN;revert N;apply Pn.out));refine wk @aa.eq_1 ?_;(repeat(refine Pn.mk ?_;intro N hN)))|((try apply Or.inl);refine⟨_,ah.x (L5) (sd @aa.eq_1),?_⟩;refine hN _ _ ?_;clear hN N)|((try apply Or.inl);refine⟨_,ah.x (OC) (sd @aa.eq_1),?_⟩;refine hN _ _ ?_;clear hN N)|((try apply Or.inl);refine⟨_,ah.x (eB) (sd @aa.eq_1),?_⟩;refine hN _ _ ?_;clear hN N)))
   exact jc (.inl rfl) (r1:=.bool false) (r2:=.int .i64 4) (sd @Nat.zero_add) (sd @Nat.zero_add) (by rw[gR,if_pos sH];simp only[cJ,aC,aL,cz,cC,Option.map_some])
  ·rw[decide_eq_true sH,<-hsy]at eB
   (repeat(first|((repeat(revert hN;revert N;apply Pn.out));refine wk @aa.eq_1 ?_;(repeat(refine Pn.mk ?_;intro N hN)))|((try apply Or.inl);refine⟨_,ah.x (L5) (sd @aa.eq_1),?_⟩;refine hN _ _ ?_;clear hN N)|((try apply Or.inl);refine⟨_,ah.x (OC) (sd @aa.eq_1),?_⟩;refine hN _ _ ?_;clear hN N)|((try apply Or.inl);refine⟨_,ah.x (eB) (sd @aa.eq_1),?_⟩;refine hN _ _ ?_;clear hN N)))
   exact jc (.inl rfl) (r1:=.bool (mu s)) (r2:=.int .i64 0) (sd @Nat.zero_add) (sd @Nat.zero_add) (by rw[if_neg sH];simp only[cJ,aC,aL,cz,cC,Option.map_some])
 generalize hcode:(if pA s.aI&&oC s.aI s.ck.ae then(if g9 s.aJ 1 16 then(if 64<gQ s.aI s.ck.ae s.aJ then(4:Int)else 0)else 2)else 1)=code at key
 rw[aa]at key
 cases hB:mu s
 ·rw[hB]at key
  (repeat(first|((repeat(revert hN;revert N;apply Pn.out));refine wk (tw @az.eq_1 @hd) ?_;(repeat(refine Pn.mk ?_;intro N hN)))|((try apply Or.inl);refine⟨_,ah.x (key) (sd (tw @az.eq_1 @hd)),?_⟩;refine hN _ _ ?_;clear hN N)))
  exact aO (b:=false) (.inl rfl) (sd @Nat.zero_add) rfl
 ·rw[hB]at key
  have hP:=uJ.1 hB
  have hc:code=0:=by
   rw[<-hcode,lN.2 hP.set,lr.2 hP.MT,hP.M3]
   have:=hP.holds.1
   simp only[Bool.and_self,if_true]
   rw[if_neg (by unfold gQ;omega)]
  rw[hc]at key
  (repeat(first|((repeat(revert hN;revert N;apply Pn.out));refine wk (tw @az.eq_1 @hd) ?_;(repeat(refine Pn.mk ?_;intro N hN)))|((try apply Or.inl);refine⟨_,ah.x (key) (sd (tw @az.eq_1 @hd)),?_⟩;refine hN _ _ ?_;clear hN N)))
  exact aO (b:=true) (.inl rfl) (sd @Nat.zero_add) rfl
end Go.Proofs.YtihgaadadaekmaaGreat.V

namespace Go.Proofs.YtihgaadadaekmaaGreat
open Go.RowKit
theorem vJ (s:ByteArray) (c:Int) (w:World):
  Calls Tryz.prog 194 #[.string s,.int .u8 c] w fun e w'=>e=.returned (.int .i64 (Lib.indexByte s.data.toList c.toNat.toUInt8))/\w'=w:=by
 go_enter Tryz.func194,Tryz.ntmps194
 go_wp2
 rw[run_callFunc_extern Tryz.func206 (by kernel_rfl) (by kernel_rfl) (by kernel_rfl) (e:=Extern.BytealgIndexByte.indexByte) (by kernel_rfl),Lib.run_indexByteString]
 simp only[Result.andThen]
 rw[Oper.upon_value]
 go_wp2
 go_ret
 exact⟨rfl,rfl⟩
theorem EJ (s:ByteArray) (c:UInt8) (w:World):
  Calls Tryz.prog 177 #[.string s,.string ⟨#[c]⟩] w fun e w'=>e=.returned (.int .i64 (Lib.indexByte s.data.toList c))/\w'=w:=by
 go_enter Tryz.func177,Tryz.ntmps177
 go_wp2_with (go_at_call 194;refine(vJ _ _ _).mono ?_;rintro e w' ⟨rfl,rfl⟩)
 ·have h:([c]==s.toList)=true:=by assumption
  go_ret
  refine⟨?_,rfl⟩
  have e:s.data.toList=[c]:=by rw[<-Lib.toList_data];exact(beq_iff_eq.1 h).symm
  rw[e]
  simp[Lib.indexByte]
 ·go_ret
  exact⟨rfl,rfl⟩
namespace V
attribute [local irreducible] eb wpOps gH Call
attribute [local go_sem] aM fI eM fX fV cE upd cm K.av cK AV.cells AV.cell rowOf rowsOf part ld rowAt bS bZ dH ei ij bK dc eA fZ e8 du ep cY cX dU dW bQ bf cQ bP cT cR ek er eo cP bU cZ ej bL aQ cV cw ig bt cH bR bc dF bq dI AV.undef bD bF dX eh dQ dZ cF ez eE cr ev eu cU cW List.getD_cons_zero List.getD_cons_succ List.getD_nil List.all_cons List.all_nil Bool.and_true Bool.true_and Bool.and_self Bool.not_true Bool.not_false Option.map_some Option.map_none Option.bind_some Option.bind_none List.length_cons List.length_nil List.take_succ_cons List.take_zero List.take_nil List.drop_succ_cons List.drop_zero List.drop_nil List.head?_cons List.map_cons List.map_nil List.getElem?_cons_zero List.getElem?_cons_succ List.cons_append List.nil_append List.append_nil List.length_map List.set_cons_zero List.set_cons_succ Nat.reduceMul eq_self Int.toNat_natCast Int.natCast_nonneg and_self true_and and_true decide_true decide_false Bool.false_eq_true Nat.zero_add Nat.add_zero List.contains_cons List.contains_nil Bool.or_false Bool.false_or beq_self_eq_true Nat.reduceBEq ne_eq not_true_eq_false not_false_eq_true Id.mk.injEq false_and and_false Nat.reduceLT Int.reduceLE Int.reduceLT Int.reduceToNat Int.reduceNeg Int.reduceAdd Nat.le_refl List.length_append beq_true beq_false Bool.not_eq_eq_eq_not or_false false_or dD ad aj aH bC b4 aX bo aY bl cL bE
theorem J8 {P:Program} {w:World} {D:Nat->Prop} {ι:Names} {a b:ByteArray} {vs:Array Value} (h:e7 P w D ι [.str a,.str b] vs):vs= #[.string a,.string b]:=by
 obtain⟨h1,h2⟩:=h
 obtain⟨u,hu,hr⟩:=h2 0 _ rfl
 rw[eV hr]at hu
 obtain⟨u2,Dk,BI⟩:=h2 1 _ rfl
 rw[eV BI]at Dk
 obtain⟨l⟩:=vs
 match l,h1 with
 |[a,b],_=>
  simp at hu Dk
  rw[hu,Dk]
theorem JC (s:ByteArray) (c:UInt8):ah Tryz.prog 177 [.str s,.str ⟨#[c]⟩] (.int .i64 (Lib.indexByte s.data.toList c)):=
 jA (vs0:= #[.string s,.string ⟨#[c]⟩]) (u0:=.int .i64 (Lib.indexByte s.data.toList c)) (fun _ _ _ _=>J8) (fun _ _ _=>.eK _ _ (.int _ _)) (fun g=>cC g 5 _ _) fun w=>(EJ s c w).mono (by
  rintro e w' ⟨rfl,rfl⟩
  exact⟨rfl,Below.refl _ _⟩)
def preB (s u:ByteArray):Bool:=decide (1<=s.size)&&decide (s.extract 0 1=u)
theorem Fj (s:ByteArray) (c:UInt8):preB s ⟨#[c]⟩=oW s c.toNat:=by
 unfold preB oW
 by_cases h:1<=s.size
 ·rw[decide_eq_true h,Bool.true_and,Bool.true_and]
  refine decide_eq_decide.2 ?_
  have h1:s.extract 0 1=⟨#[s[0]]⟩:=by
   refine Lt ?_
   have:s.data.toList.take 1=[s[0]]:=by
    rw[List.take_one,List.head?_eq_getElem?,List.getElem?_eq_getElem (by simp;omega)]
    rfl
   simpa using this
  rw[h1,gK (by omega)]
  constructor
  ·intro h2
   have h3:=congrArg (fun b:ByteArray=>b.data.toList) h2
   simp at h3
   rw[h3]
  ·intro h2
   rw[UInt8.toNat_inj.1 h2]
 ·rw[decide_eq_false h];rfl
section
set_option maxRecDepth 100000
set_option maxHeartbeats 8000000
theorem GI (s u:ByteArray) (hu:u.size=1):ah Tryz.prog 176 [.str s,.str u] (.bool (preB s u)):=by
 refine ah.body dY rfl fun hl n0=>?_
 clear hl
 by_cases h:1<=s.size
 ·have h1:((1:Nat):Int)<=(s.size:Int):=by omega
  have c0:(0:Int)<=((1:Nat):Int):=by omega
  have ct:((1:Nat):Int).toNat=1:=rfl
  (try((repeat(revert hN;revert N;apply Pn.out));refine wk (tw @hu (tw @h (tw @h1 (tw @c0 @ct)))) ?_;(repeat(refine Pn.mk ?_;intro N hN))))
  exact aO (b:=decide (s.extract 0 1=u)) (.inl rfl) (sd @Nat.zero_add) (by rw[preB,decide_eq_true h,Bool.true_and])
 ·have h1:¬((1:Nat):Int)<=(s.size:Int):=by omega
  (try((repeat(revert hN;revert N;apply Pn.out));refine wk (tw @hu (tw @h @h1)) ?_;(repeat(refine Pn.mk ?_;intro N hN))))
  exact aO (b:=false) (.inl rfl) (sd @Nat.zero_add) (by rw[preB,decide_eq_false h,Bool.false_and])
theorem Gp (s u:ByteArray) (hu:u.size=1):ah Tryz.prog 160 [.str s,.str u] (.gE [.str (if preB s u=true then s.extract 1 s.size else s),.bool (preB s u)]):=by
 refine ah.body dY rfl fun hl n0=>?_
 clear hl
 have hp:=GI s u hu
 have h1:preB s u=true->1<=s.size:=fun h=>by
  simp only[preB,Bool.and_eq_true,decide_eq_true_eq]at h;exact h.1
 cases hb:preB s u
 ·rw[hb]at hp
  (repeat(first|((repeat(revert hN;revert N;apply Pn.out));refine wk @hu ?_;(repeat(refine Pn.mk ?_;intro N hN)))|((try apply Or.inl);refine⟨_,ah.x (hp) (sd @hu),?_⟩;refine hN _ _ ?_;clear hN N)))
  exact eQ (.inl rfl) (vs:=[.str s,.bool false]) (sd @Nat.zero_add) (by simp[dr,cJ,aC,aL,jy,cz])
 ·rw[hb]at hp
  have h2:=h1 hb
  have h3:((1:Nat):Int)<=(s.size:Int):=by omega
  have c0:(0:Int)<=((1:Nat):Int):=by omega
  have ct:((1:Nat):Int).toNat=1:=rfl
  (repeat(first|((repeat(revert hN;revert N;apply Pn.out));refine wk (tw @hu (tw @h2 (tw @h3 (tw @c0 @ct)))) ?_;(repeat(refine Pn.mk ?_;intro N hN)))|((try apply Or.inl);refine⟨_,ah.x (hp) (sd (tw @hu (tw @h2 (tw @h3 (tw @c0 @ct))))),?_⟩;refine hN _ _ ?_;clear hN N)))
  exact eQ (.inl rfl) (vs:=[.str (s.extract 1 s.size),.bool true]) (sd @Nat.zero_add) (by simp[dr,cJ,aC,aL,jy,cz])
theorem rX (s u:ByteArray) (hu:u.size=1):ah Tryz.prog 137 [.str s,.str u] (.gE [.str (if preB s u=true then s.extract 1 s.size else s),.bool (preB s u)]):=by
 refine ah.body dY rfl fun hl n0=>?_
 clear hl
 have hp:=Gp s u hu
 generalize (if preB s u=true then s.extract 1 s.size else s)=a at hp ⊢
 generalize preB s u=b at hp ⊢
 (repeat(first|((repeat(revert hN;revert N;apply Pn.out));refine wk @Nat.zero_add ?_;(repeat(refine Pn.mk ?_;intro N hN)))|((try apply Or.inl);refine⟨_,ah.x (hp) (sd @Nat.zero_add),?_⟩;refine hN _ _ ?_;clear hN N)))
 exact eQ (.inl rfl) (vs:=[.str a,.bool b]) (sd @Nat.zero_add) (by simp[dr,cJ,aC,aL,jy,cz])
theorem Eb (s:ByteArray) (hs:s.size<=9223372036854775807):ah Tryz.prog 161 [.str s,.str ⟨#[95]⟩] (.gE [.str (mT s),.str (lX s),.bool (decide (0<=sR s))]):=by
 refine ah.body dY rfl fun hl n0=>?_
 clear hl
 have hi:=JC s 95
 rw[show Lib.indexByte s.data.toList 95=sR s from rfl]at hi
 have hz:(⟨#[95]⟩:ByteArray).size=1:=rfl
 obtain⟨u,hu⟩:∃u:ByteArray,(⟨#[95]⟩:ByteArray)=u:=⟨_,rfl⟩
 rw[hu]at hz hi ⊢
 clear hu
 rcases uQ s with⟨h1,h2⟩|⟨i,h1,h2,h3,h4⟩
 ·rw[mT,lX,h1]
  rw[h1]at hi
  (repeat(first|((repeat(revert hN;revert N;apply Pn.out));refine wk @Nat.zero_add ?_;(repeat(refine Pn.mk ?_;intro N hN)))|((try apply Or.inl);refine⟨_,ah.x (hi) (sd @Nat.zero_add),?_⟩;refine hN _ _ ?_;clear hN N)))
  exact eQ (.inl rfl) (vs:=[.str s,.str ⟨#[]⟩,.bool false]) (sd @Nat.zero_add) (by simp[dr,cJ,aC,aL,jy,cz])
 ·have e1:mT s=s.extract 0 i:=by rw[mT,h1,if_neg (by omega)];rfl
  have e2:lX s=s.extract (i+1) s.size:=by rw[lX,h1,if_neg (by omega)];rfl
  rw[e1,e2,h1,decide_eq_true (by omega:(0:Int)<=(i:Int))]
  rw[h1]at hi
  have g0:(0:Int)<=(i:Int):=by omega
  have g1:(i:Int)<=(s.size:Int):=by omega
  have g2:i<=s.size:=by omega
  have g3:IntKind.i64.wrap ((i:Int)+((1:Nat):Int))=((i+1:Nat):Int):=by rw[bd (by omega)];omega
  have g6:(0:Int)<=((i+1:Nat):Int):=by omega
  have t1:((i:Nat):Int).toNat=i:=rfl
  have t2:((i+1:Nat):Int).toNat=i+1:=rfl
  have g4:i+1<=s.size:=by omega
  have g5:((i+1:Nat):Int)<=(s.size:Int):=by omega
  (repeat(first|((repeat(revert hN;revert N;apply Pn.out));refine wk (tw @hz (tw @g0 (tw @g1 (tw @g2 (tw @g3 (tw @g4 (tw @g5 (tw @g6 (tw @t1 @t2))))))))) ?_;(repeat(refine Pn.mk ?_;intro N hN)))|((try apply Or.inl);refine⟨_,ah.x (hi) (sd (tw @hz (tw @g0 (tw @g1 (tw @g2 (tw @g3 (tw @g4 (tw @g5 (tw @g6 (tw @t1 @t2)))))))))),?_⟩;refine hN _ _ ?_;clear hN N)))
  exact eQ (.inl rfl) (vs:=[.str (s.extract 0 i),.str (s.extract (i+1) s.size),.bool true]) (sd @Nat.zero_add) (by simp[dr,cJ,aC,aL,jy,cz])
theorem Oi (s:ByteArray) (hs:s.size<=9223372036854775807):ah Tryz.prog 139 [.str s,.str ⟨#[95]⟩] (.gE [.str (mT s),.str (lX s),.bool (decide (0<=sR s))]):=by
 refine ah.body dY rfl fun hl n0=>?_
 clear hl
 have hp:=Eb s hs
 generalize mT s=a at hp ⊢
 generalize lX s=b at hp ⊢
 generalize decide (0<=sR s)=c at hp ⊢
 (repeat(first|((repeat(revert hN;revert N;apply Pn.out));refine wk @Nat.zero_add ?_;(repeat(refine Pn.mk ?_;intro N hN)))|((try apply Or.inl);refine⟨_,ah.x (hp) (sd @Nat.zero_add),?_⟩;refine hN _ _ ?_;clear hN N)))
 exact eQ (.inl rfl) (vs:=[.str a,.str b,.bool c]) (sd @Nat.zero_add) (by simp[dr,cJ,aC,aL,jy,cz])
theorem xu (s:ByteArray):ah Tryz.prog 138 [.str s] (.int .i64 (k6 s)):=by
 refine ah.body dY rfl fun hl n0=>?_
 clear hl
 by_cases h1:s.size=1
 ·have e1:decide ((s.size:Int)=1)=true:=decide_eq_true (by omega)
  have b0:=iE (s:=s) (i:=0) (by omega)
  have c0:=gK (s:=s) (i:=0) (by omega)
  rw[k6,c0]
  generalize s[0]=x at b0 ⊢
  have hx:=x.toNat_lt
  by_cases g1:(x.toNat:Int)<48
  ·(try((repeat(revert hN;revert N;apply Pn.out));refine wk (tw @e1 (tw @b0 @g1)) ?_;(repeat(refine Pn.mk ?_;intro N hN))))
   exact bG (b:=-1) (.inl rfl) (sd @Nat.zero_add) (by rw[if_neg];simp only[fv,Bool.and_eq_true,decide_eq_true_eq];omega)
  ·by_cases g2:(57:Int)<(x.toNat:Int)
   ·(try((repeat(revert hN;revert N;apply Pn.out));refine wk (tw @e1 (tw @b0 (tw @g1 @g2))) ?_;(repeat(refine Pn.mk ?_;intro N hN))))
    exact bG (b:=-1) (.inl rfl) (sd @Nat.zero_add) (by rw[if_neg];simp only[fv,Bool.and_eq_true,decide_eq_true_eq];omega)
   ·have hd:fv x.toNat=true:=by simp only[fv,Bool.and_eq_true,decide_eq_true_eq];omega
    have w8:IntKind.u8.wrap ((x.toNat:Int)-48)=(x.toNat:Int)-48:=by
     unfold IntKind.wrap
     simp[IntKind.signed,IntKind.bits]
     omega
    have Ld:IntKind.i64.wrap ((x.toNat:Int)-48)=(x.toNat:Int)-48:=bd (by omega)
    (try((repeat(revert hN;revert N;apply Pn.out));refine wk (tw @e1 (tw @b0 (tw @g1 (tw @g2 (tw @w8 @Ld))))) ?_;(repeat(refine Pn.mk ?_;intro N hN))))
    exact bG (b:=(x.toNat:Int)-48) (.inl rfl) (sd @Nat.zero_add) (by rw[if_pos ⟨h1,hd⟩])
 ·have e1:decide ((s.size:Int)=1)=false:=decide_eq_false (by omega)
  (try((repeat(revert hN;revert N;apply Pn.out));refine wk @e1 ?_;(repeat(refine Pn.mk ?_;intro N hN))))
  exact bG (b:=-1) (.inl rfl) (sd @Nat.zero_add) (by rw[k6,if_neg (fun q=>h1 q.1)])
theorem Gk (nm:ByteArray) (hs:nm.size<=9223372036854775807):ah Tryz.prog 103 [.str nm] (.gE [.int .i64 (pT nm).1,.int .i64 (pT nm).2.1,.bool (pT nm).2.2]):=by
 refine ah.body dY rfl fun hl n0=>?_
 clear hl
 have p1:=rX nm ⟨#[97]⟩ rfl
 have p2:=rX nm ⟨#[104]⟩ rfl
 rw[Fj]at p1 p2
 rw[show(97:UInt8).toNat=97 from rfl]at p1
 rw[show(104:UInt8).toNat=104 from rfl,show(if oW nm 104=true then nm.extract 1 nm.size else nm)=vk nm 104 from rfl]at p2
 have p3:=Oi (vk nm 104) (by
  unfold vk
  split
  ·rw[ByteArray.size_extract];omega
  ·exact hs)
 unfold pT
 cases Jc:oW nm 97
 ·rw[Jc]at p1
  rw[if_neg (by simp)]at p1 ⊢
  generalize oW nm 104=is at p2 ⊢
  generalize vk nm 104=r at p2 p3 ⊢
  generalize decide (0<=sR r)=c at p3
  have d1:=xu (mT r)
  have d2:=xu (lX r)
  generalize mT r=ra at p3 d1 ⊢
  generalize lX r=rb at p3 d2 ⊢
  generalize k6 ra=ia at d1 ⊢
  generalize k6 rb=ib at d2 ⊢
  (try dsimp only)
  cases is
  ·(repeat(first|((repeat(revert hN;revert N;apply Pn.out));refine wk @Nat.zero_add ?_;(repeat(refine Pn.mk ?_;intro N hN)))|((try apply Or.inl);refine⟨_,ah.x (p1) (sd @Nat.zero_add),?_⟩;refine hN _ _ ?_;clear hN N)|((try apply Or.inl);refine⟨_,ah.x (p2) (sd @Nat.zero_add),?_⟩;refine hN _ _ ?_;clear hN N)|((try apply Or.inl);refine⟨_,ah.x (p3) (sd @Nat.zero_add),?_⟩;refine hN _ _ ?_;clear hN N)|((try apply Or.inl);refine⟨_,ah.x (d1) (sd @Nat.zero_add),?_⟩;refine hN _ _ ?_;clear hN N)|((try apply Or.inl);refine⟨_,ah.x (d2) (sd @Nat.zero_add),?_⟩;refine hN _ _ ?_;clear hN N)))
   exact eQ (.inl rfl) (vs:=[.int .i64 ia,.int .i64 ib,.bool false]) (sd @Nat.zero_add) (by simp[dr,cJ,aC,aL,cC,cz])
  ·by_cases ha:0<=ia
   ·(repeat(first|((repeat(revert hN;revert N;apply Pn.out));refine wk @ha ?_;(repeat(refine Pn.mk ?_;intro N hN)))|((try apply Or.inl);refine⟨_,ah.x (p1) (sd @ha),?_⟩;refine hN _ _ ?_;clear hN N)|((try apply Or.inl);refine⟨_,ah.x (p2) (sd @ha),?_⟩;refine hN _ _ ?_;clear hN N)|((try apply Or.inl);refine⟨_,ah.x (p3) (sd @ha),?_⟩;refine hN _ _ ?_;clear hN N)|((try apply Or.inl);refine⟨_,ah.x (d1) (sd @ha),?_⟩;refine hN _ _ ?_;clear hN N)|((try apply Or.inl);refine⟨_,ah.x (d2) (sd @ha),?_⟩;refine hN _ _ ?_;clear hN N)))
    exact eQ (.inl rfl) (vs:=[.int .i64 ia,.int .i64 ib,.bool (decide (0<=ib))]) (sd @Nat.zero_add) (by simp[dr,cJ,aC,aL,cC,cz,ha])
   ·(repeat(first|((repeat(revert hN;revert N;apply Pn.out));refine wk @ha ?_;(repeat(refine Pn.mk ?_;intro N hN)))|((try apply Or.inl);refine⟨_,ah.x (p1) (sd @ha),?_⟩;refine hN _ _ ?_;clear hN N)|((try apply Or.inl);refine⟨_,ah.x (p2) (sd @ha),?_⟩;refine hN _ _ ?_;clear hN N)|((try apply Or.inl);refine⟨_,ah.x (p3) (sd @ha),?_⟩;refine hN _ _ ?_;clear hN N)|((try apply Or.inl);refine⟨_,ah.x (d1) (sd @ha),?_⟩;refine hN _ _ ?_;clear hN N)|((try apply Or.inl);refine⟨_,ah.x (d2) (sd @ha),?_⟩;refine hN _ _ ?_;clear hN N)))
    exact eQ (.inl rfl) (vs:=[.int .i64 ia,.int .i64 ib,.bool false]) (sd @Nat.zero_add) (by simp[dr,cJ,aC,aL,cC,cz,ha])
 ·rw[Jc]at p1
  rw[if_pos rfl]at p1 ⊢
  have d1:=xu (nm.extract 1 nm.size)
  generalize nm.extract 1 nm.size=r at p1 d1 ⊢
  generalize k6 r=ia at d1 ⊢
  (try dsimp only)
  (repeat(first|((repeat(revert hN;revert N;apply Pn.out));refine wk @Nat.zero_add ?_;(repeat(refine Pn.mk ?_;intro N hN)))|((try apply Or.inl);refine⟨_,ah.x (p1) (sd @Nat.zero_add),?_⟩;refine hN _ _ ?_;clear hN N)|((try apply Or.inl);refine⟨_,ah.x (d1) (sd @Nat.zero_add),?_⟩;refine hN _ _ ?_;clear hN N)))
  exact eQ (.inl rfl) (vs:=[.int .i64 (-1),.int .i64 ia,.bool (decide (0<=ia))]) (sd @Nat.zero_add) (by simp[dr,cJ,aC,aL,cC,cz])
end
end V
namespace V
attribute [local irreducible] eb wpOps gH Call
attribute [local go_sem] aM fI eM fX fV cE upd cm K.av cK AV.cells AV.cell rowOf rowsOf part ld rowAt bS bZ dH ei ij bK dc eA fZ e8 du ep cY cX dU dW bQ bf cQ bP cT cR ek er eo cP bU cZ ej bL aQ cV cw ig bt cH bR bc dF bq dI AV.undef bD bF dX eh dQ dZ cF ez eE cr ev eu cU cW List.getD_cons_zero List.getD_cons_succ List.getD_nil List.all_cons List.all_nil Bool.and_true Bool.true_and Bool.and_self Bool.not_true Bool.not_false Option.map_some Option.map_none Option.bind_some Option.bind_none List.length_cons List.length_nil List.take_succ_cons List.take_zero List.take_nil List.drop_succ_cons List.drop_zero List.drop_nil List.head?_cons List.map_cons List.map_nil List.getElem?_cons_zero List.getElem?_cons_succ List.cons_append List.nil_append List.append_nil List.length_map List.set_cons_zero List.set_cons_succ Nat.reduceMul eq_self Int.toNat_natCast Int.natCast_nonneg and_self true_and and_true decide_true decide_false Bool.false_eq_true Nat.zero_add Nat.add_zero List.contains_cons List.contains_nil Bool.or_false Bool.false_or beq_self_eq_true Nat.reduceBEq ne_eq not_true_eq_false not_false_eq_true Id.mk.injEq false_and and_false Nat.reduceLT Int.reduceLE Int.reduceLT Int.reduceToNat Int.reduceNeg Int.reduceAdd Nat.le_refl List.length_append beq_true beq_false Bool.not_eq_eq_eq_not or_false false_or dD ad aj aH bC b4 aX bo aY bl cL bE
theorem QG {P:Program} {w:World} {D:Nat->Prop} {ι:Names} {k m:Int} {vs:Array Value} (h:e7 P w D ι [.int .i64 k,.int .i64 m] vs):vs= #[.int .i64 k,.int .i64 m]:=by
 obtain⟨h1,h2⟩:=h
 obtain⟨u,hu,hr⟩:=h2 0 _ rfl
 rw[dj hr]at hu
 obtain⟨u2,Dk,BI⟩:=h2 1 _ rfl
 rw[dj BI]at Dk
 obtain⟨l⟩:=vs
 match l,h1 with
 |[a,b],_=>
  simp at hu Dk
  rw[hu,Dk]
theorem zw (s:aq) (hF:fQ s) (l:List ak) (hA:lT s l) (p:bH) (d:Int) (hd:g9 d 0 3=true):ah Tryz.prog 104 [.agg (aa s),.agg [.sl (l.map ai)],.agg (ao p),.int .i64 d] (.str (Bm s l p d)):=by
 refine ah.body dY rfl fun hl n0=>?_
 have hn:s.au.length<=9223372036854775807:=by
  have h1:=(hl (.agg (aa s)) (by simp)).IM (a:=.sl (s.au.map bh)) (by simp[aa])
  simpa using h1.len
 clear hl
 have uX:=QS l p hA.1.QH (by have:=hA.1.FN;omega)
 rw[ao]at uX ⊢
 by_cases h0:u7 l p<0
 ·(repeat(first|((repeat(revert hN;revert N;apply Pn.out));refine wk (tw @aa.eq_1 @h0) ?_;(repeat(refine Pn.mk ?_;intro N hN)))|((try apply Or.inl);refine⟨_,ah.x (uX) (sd (tw @aa.eq_1 @h0)),?_⟩;refine hN _ _ ?_;clear hN N)))
  exact eQ (.inl rfl) (vs:=[.str ⟨#[]⟩]) (sd @Nat.zero_add) (by rw[Bm,if_pos h0];simp only[dr,jy])
 ·have ht:=yX hA (p:=p) (by omega)
  have hg:Bm s l p d=if di (dh s (u7 l p)) d=0 then⟨#[]⟩else(g7 s (di (dh s (u7 l p)) d-1)).aB:=by rw[Bm,if_neg h0]
  rw[hg]
  generalize u7 l p=t at uX h0 ht
  obtain⟨a0,a1,a2⟩:=kH ht
  have s1:=kD (hF.nS _ a2) hd
  have gl:=hF.r8 _ a2 _ (qz (hF.nS _ a2) hd)
  have d0:=(dO hd).1
  generalize di (dh s t) d=g at s1 gl ⊢
  by_cases L8:g=0
  ·have e:=decide_eq_true L8
   (repeat(first|((repeat(revert hN;revert N;apply Pn.out));refine wk (tw @aa.eq_1 (tw @aW.eq_1 (tw @h0 (tw @a0 (tw @a1 (tw @s1 (tw @d0 @e))))))) ?_;(repeat(refine Pn.mk ?_;intro N hN)))|((try apply Or.inl);refine⟨_,ah.x (uX) (sd (tw @aa.eq_1 (tw @aW.eq_1 (tw @h0 (tw @a0 (tw @a1 (tw @s1 (tw @d0 @e)))))))),?_⟩;refine hN _ _ ?_;clear hN N)))
   exact eQ (.inl rfl) (vs:=[.str ⟨#[]⟩]) (sd @Nat.zero_add) (by rw[if_pos L8];simp only[dr,jy])
  ·have e:=decide_eq_false L8
   have hw:IntKind.i64.wrap (g-1)=g-1:=bd (by omega)
   have jO:0<=g-1:=by omega
   have dp:(s.au.map bh)[(g-1).toNat]? =some (bh (g7 s (g-1))):=getD_map bh (by omega)
   (repeat(first|((repeat(revert hN;revert N;apply Pn.out));refine wk (tw @aa.eq_1 (tw @aW.eq_1 (tw @h0 (tw @a0 (tw @a1 (tw @s1 (tw @d0 (tw @e (tw @hw (tw @jO (tw @dp @bh.eq_1))))))))))) ?_;(repeat(refine Pn.mk ?_;intro N hN)))|((try apply Or.inl);refine⟨_,ah.x (uX) (sd (tw @aa.eq_1 (tw @aW.eq_1 (tw @h0 (tw @a0 (tw @a1 (tw @s1 (tw @d0 (tw @e (tw @hw (tw @jO (tw @dp @bh.eq_1)))))))))))),?_⟩;refine hN _ _ ?_;clear hN N)))
   exact eQ (.inl rfl) (vs:=[.str (g7 s (g-1)).aB]) (sd @Nat.zero_add) (by rw[if_neg L8];simp only[dr,jy])
end V
end Go.Proofs.YtihgaadadaekmaaGreat

namespace Go.Proofs.YtihgaadadaekmaaGreat.V
open Go.RowKit
section
variable {α:Type} {R:uV α} {z:Nat}
theorem fM.push (ok:oR R z) {lo m n':Nat} {L:List α} {o o':Id} {rows:List (List AV)} {is:List Id} {g g':Rows} {x:α} {cs:List AV} {ic:List Id} (hR:dd R g rows L is) (hN:eP lo m (o::is)) (hf:∀y:Id,lo<=y.bY->y.bY<m->y≠o->g' y=g y) (hx:R g' cs x ic) (Iu:eP m o'.bY ic) (hm:m<=o'.bY) (BF:o'.bY<n') (jS:lo<=m) (hg:g' o'=some ⟨true,z,rows++[cs]⟩):
  ∃ids,fM R z g' (.own o' 0 (L++[x]).length) (L++[x]) ids/\eP lo n' ids:=by
 obtain⟨n1,n2⟩:=List.nodup_cons.1 hN.1
 have hb:=fun i (hi:i∈is)=>hN.2 i (by simp[hi])
 have Je:dd R g' rows L is:=hR.frame ok fun i hi=>hf i (hb i hi).1 (hb i hi).2 fun e=>n1 (e▸hi)
 refine⟨o'::(is++ic),⟨o',_,_,rfl,hg,Je.app (dd.one hx),rfl⟩,List.nodup_cons.2 ⟨fun h=>?_,List.nodup_append.2 ⟨n2,Iu.1,fun x hx y hy e=>?_⟩⟩,fun i hi=>?_⟩
 ·rcases List.mem_append.1 h with h|h
  ·have:=hb _ h;omega
  ·have:=Iu.2 _ h;omega
 ·have h1:=hb _ hx;have h2:=Iu.2 _ hy;rw[e]at h1;omega
 ·rcases List.mem_cons.1 hi with rfl|hi
  ·omega
  ·rcases List.mem_append.1 hi with h|h
   ·have:=hb _ h;omega
   ·have:=Iu.2 _ h;omega
end
end Go.Proofs.YtihgaadadaekmaaGreat.V

namespace Go.Proofs.YtihgaadadaekmaaGreat.V
open Go.RowKit
attribute [local irreducible] eb wpOps gH Call
attribute [local go_sem] aM fI eM fX fV cE upd cm K.av cK AV.cells AV.cell rowOf rowsOf part ld rowAt bS bZ dH ei ij bK dc eA fZ e8 du ep cY cX dU dW bQ bf cQ bP cT cR ek er eo cP bU cZ ej bL aQ cV cw ig bt cH bR bc dF bq dI AV.undef bD bF dX eh dQ dZ cF ez eE cr ev eu cU cW List.getD_cons_zero List.getD_cons_succ List.getD_nil List.all_cons List.all_nil Bool.and_true Bool.true_and Bool.and_self Bool.not_true Bool.not_false Option.map_some Option.map_none Option.bind_some Option.bind_none List.length_cons List.length_nil List.take_succ_cons List.take_zero List.take_nil List.drop_succ_cons List.drop_zero List.drop_nil List.head?_cons List.map_cons List.map_nil List.getElem?_cons_zero List.getElem?_cons_succ List.cons_append List.nil_append List.append_nil List.length_map List.set_cons_zero List.set_cons_succ Nat.reduceMul eq_self Int.toNat_natCast Int.natCast_nonneg and_self true_and and_true decide_true decide_false Bool.false_eq_true Nat.zero_add Nat.add_zero List.contains_cons List.contains_nil Bool.or_false Bool.false_or beq_self_eq_true Nat.reduceBEq ne_eq not_true_eq_false not_false_eq_true Id.mk.injEq false_and and_false Nat.reduceLT Int.reduceLE Int.reduceLT Int.reduceToNat Int.reduceNeg Int.reduceAdd Nat.le_refl List.length_append beq_true beq_false Bool.not_eq_eq_eq_not or_false false_or dD ad aj aH bC b4 aX bo aY bl cL bE
theorem zu {s:aq} (hn:eX s) (k:Int):(g7 s k).aB.size<=9223372036854775807:=by
 unfold g7
 rw[List.getD_eq_getElem?_getD]
 rcases h:s.au[k.toNat]? with _|u
 ·exact Nat.zero_le _
 ·exact hn.1 _ (List.mem_of_getElem? h)
theorem GD {s:aq} (hn:eX s) (l:List ak) (p:bH) (d:Int):(Bm s l p d).size<=9223372036854775807:=by
 unfold Bm
 split
 ·exact Nat.zero_le _
 ·split
  ·exact Nat.zero_le _
  ·exact zu hn _
def iL (o:Option fY) (m:Nat) (r:AV) (g:Rows) (n:Nat):Prop:=
 match o with
 |none=>∃v a b,r=.gE [.agg [v,.int .i64 a,.int .i64 b],.bool false]/\(v=.br∨∃u k,v=.own u 0 k)
 |some c=>∃u:Id,r=.gE [.agg [.own u 0 c.t.length,.int .i64 c.n,.int .i64 c.d],.bool true]/\g u=some ⟨true,1,c.t.map ay⟩/\m<=u.bY/\u.bY<n
theorem iL.no {m n:Nat} {g:Rows} (v:AV) (a b:Int) (h:v=.br∨∃u k,v=.own u 0 k):iL none m (.gE [.agg [v,.int .i64 a,.int .i64 b],.bool false]) g n:=⟨v,a,b,rfl,h⟩
theorem iL.yes {m n:Nat} {g:Rows} {T:List Int} {hd st:Int} (u:Id) (h1:g u=some ⟨true,1,T.map ay⟩) (h2:m<=u.bY) (h3:u.bY<n):iL (some ⟨T,hd,st⟩) m (.gE [.agg [.own u 0 T.length,.int .i64 hd,.int .i64 st],.bool true]) g n:=⟨u,rfl,h1,h2,h3⟩
def nG (h:Option (Int×Int)):Int:=(h.map (·.1)).getD (-1)
def uG (h:Option (Int×Int)):Int:=(h.map (·.2)).getD 0
theorem Fm (s:aq) (l:List ak) (hn:eX s) (hF:fQ s) (hA:lT s l) (y w:Nat) (hw:1<=w) (qS:w<=1000) (σ:aw):
  Call Tryz.prog 62 [.agg (aa s),.agg [.sl (l.map ai)],.int .i64 (y:Int),.int .i64 (w:Int)] σ (fun r σ'=>σ.next<=σ'.next/\(∀i:Id,i.bY<σ.next->σ'.get i=σ.get i)/\iL (lF s l w y) σ.next r σ'.get σ'.next):=by
 obtain⟨R,hR⟩:∃R,lF s l w y=R:=⟨_,rfl⟩
 rw[hR]
 have pE:=fun x:Nat=>zw s hF l hA ⟨(x:Int),(y:Int)⟩ 0 (nI ab)
 refine xe Oh rfl fun hl=>?_
 try simp only[q]
 clear hl
 rw[aa]at pE ⊢
 (try((repeat(revert hN;revert N;apply Pn.out));refine wk @Nat.zero_add ?_;(repeat(refine Pn.mk ?_;intro N hN))))
 refine aT (fun n env st=>∃x:Nat,n=(w)-x/\x<=(w)/\env 17=.int .i64 (x:Int)/\(∃(T:List Int) (h:Option (Int×Int)) (tv:AV),m8 s l y x=some (T,h)/\st.get ⟨62001001,σ.next+1⟩=some ⟨true,3,[[tv,.int .i64 (nG h),.int .i64 (uG h)]]⟩/\st.get ⟨62000002,σ.next⟩=some ⟨true,3,[[.br,.int .i64 0,.int .i64 0]]⟩/\st.get ⟨62000000,σ.next⟩=some ⟨true,2,[[.sl (s.au.map bh),.sl (s.ae.map aW)]]⟩/\st.get ⟨62000001,σ.next⟩=some ⟨true,1,[[.sl (l.map ai)]]⟩/\Nu 62010004 (σ.next+1) T tv st.get st.next/\σ.next+1<st.next/\∀i:Id,i.bY<σ.next->st.get i=σ.get i)) (w) ⟨0,ab,ab,sl @Nat.zero_add,by(try dsimp only);exact⟨[],none,.br,rfl,sl @Nat.zero_add,sd @Nat.zero_add,sd @Nat.zero_add,sd @Nat.zero_add,.inl ⟨rfl,rfl⟩,ab,fun i hi=>(by have h9:=eC hi;simp only[go_sem, ↓reduceIte,Nat.reduceEqDiff,Nat.reduceAdd,Nat.reduceSub,Nat.reduceLeDiff,reduceCtorEq,h9])⟩⟩ ?_
 rintro n_a env_a st_a ⟨x,rfl,ale,a17,k5⟩ dE
 have a2:=dE 2 (by kernel_rfl);have a4:=dE 4 (by kernel_rfl);have a5:=dE 5 (by kernel_rfl);have a8:=dE 8 (by kernel_rfl);have gP:=dE 10 (by kernel_rfl);have pN:=dE 16 (by kernel_rfl)
 simp only[go_sem, ↓reduceIte,Nat.reduceEqDiff,Nat.reduceAdd,Nat.reduceSub,Nat.reduceLeDiff,reduceCtorEq]at a2 a4 a5 a8 gP pN
 clear dE
 obtain⟨T,h,tv,aU,ag,ar,qU,uW,aG,an,aF⟩:=k5
 have hlen:=(oi aU).1
 have jq:=(oi aU).2
 by_cases hx:(x:Int)<(w:Int)
 ·have bW:∀{e:Env} {gg:Rows} {nx:Nat},(e 17=.int .i64 (IntKind.i64.wrap ((x:Int)+1)))->(∃(T:List Int) (h:Option (Int×Int)) (tv:AV),m8 s l y (x+1)=some (T,h)/\gg ⟨62001001,σ.next+1⟩=some ⟨true,3,[[tv,.int .i64 (nG h),.int .i64 (uG h)]]⟩/\gg ⟨62000002,σ.next⟩=some ⟨true,3,[[.br,.int .i64 0,.int .i64 0]]⟩/\gg ⟨62000000,σ.next⟩=some ⟨true,2,[[.sl (s.au.map bh),.sl (s.ae.map aW)]]⟩/\gg ⟨62000001,σ.next⟩=some ⟨true,1,[[.sl (l.map ai)]]⟩/\Nu 62010004 (σ.next+1) T tv gg nx/\σ.next+1<nx/\∀i:Id,i.bY<σ.next->gg i=σ.get i)->∃m0,m0<(w)-x/\∃x:Nat,m0=(w)-x/\x<=(w)/\e 17=.int .i64 (x:Int)/\(∃(T:List Int) (h:Option (Int×Int)) (tv:AV),m8 s l y x=some (T,h)/\gg ⟨62001001,σ.next+1⟩=some ⟨true,3,[[tv,.int .i64 (nG h),.int .i64 (uG h)]]⟩/\gg ⟨62000002,σ.next⟩=some ⟨true,3,[[.br,.int .i64 0,.int .i64 0]]⟩/\gg ⟨62000000,σ.next⟩=some ⟨true,2,[[.sl (s.au.map bh),.sl (s.ae.map aW)]]⟩/\gg ⟨62000001,σ.next⟩=some ⟨true,1,[[.sl (l.map ai)]]⟩/\Nu 62010004 (σ.next+1) T tv gg nx/\σ.next+1<nx/\∀i:Id,i.bY<σ.next->gg i=σ.get i):=fun x1 x2=>⟨_,ab,x+1,rfl,ab,(by rw[x1,aA ab]),x2⟩
  have IF:x<w:=ab
  have KN:=pE x
  rw[ao]at KN
  have OU:oN s l y x=jV (Bm s l ⟨(x:Int),(y:Int)⟩ 0):=rfl
  have eY:=GD hn l ⟨(x:Int),(y:Int)⟩ 0
  generalize Bm s l ⟨(x:Int),(y:Int)⟩ 0=nm at KN OU eY
  have C9:=Gk nm eY
  have gM:=wc nm
  rw[<-OU]at gM
  obtain⟨p3,Qx⟩:∃p3,pT nm=p3:=⟨_,rfl⟩
  rw[Qx]at C9 gM
  obtain⟨i1,i2,i3⟩:=p3
  (try dsimp only at C9 gM)
  have Di:∀sy:Int,(T++[sy]).map ay=T.map ay++[[.int .i64 sy]]:=fun sy=>by rw[List.map_append];rfl
  have sM:∀sy:Int,(T++[sy]).length=T.length+1:=fun sy=>by rw[List.length_append];rfl
  have vB:(T.map ay).length=T.length:=by simp
  have Ep:T.length<=16777215:=ab
  cases i3
  ·rw[if_neg (by simp)]at gM
   have gR:R=none:=by
    rw[<-hR]
    exact lG (oj (ko gM) IF)
   subst gR
   (repeat(first|((repeat(revert hN;revert N;apply Pn.out));refine wk (tw @a17 (tw @a2 (tw @a4 (tw @a5 (tw @a8 (tw @gP (tw @pN (tw @hx (tw @ar (tw @qU @uW)))))))))) ?_;(repeat(refine Pn.mk ?_;intro N hN)))|((try apply Or.inl);refine⟨_,ah.x (KN) (sd (tw @a17 (tw @a2 (tw @a4 (tw @a5 (tw @a8 (tw @gP (tw @pN (tw @hx (tw @ar (tw @qU @uW))))))))))),?_⟩;refine hN _ _ ?_;clear hN N)|((try apply Or.inl);refine⟨_,ah.x (C9) (sd (tw @a17 (tw @a2 (tw @a4 (tw @a5 (tw @a8 (tw @gP (tw @pN (tw @hx (tw @ar (tw @qU @uW))))))))))),?_⟩;refine hN _ _ ?_;clear hN N)))
   exact fy (.inl rfl) (vs:=[.agg [.br,.int .i64 0,.int .i64 0],.bool false]) (sd @a8) ⟨bw,fun i hi=>(by have h9:=eC hi;simp only[go_sem, ↓reduceIte,Nat.reduceEqDiff,Nat.reduceAdd,Nat.reduceSub,Nat.reduceLeDiff,reduceCtorEq,h9,aF i hi]),iL.no _ _ _ (.inl rfl)⟩
  rw[if_pos rfl]at gM
  by_cases h1:0<=i1
  ·rcases h with _|⟨hd,st0⟩
   ·have qd:=ue aU gM h1
    have n1:¬(0:Int)<=nG none:=by decide
    rcases aG with⟨hM,rfl⟩|⟨u,rfl,hu,hum,wG,hup2,sN⟩
    ·subst hM
     (repeat(first|((repeat(revert hN;revert N;apply Pn.out));refine wk (tw @a17 (tw @a2 (tw @a4 (tw @a5 (tw @a8 (tw @gP (tw @pN (tw @hx (tw @ar (tw @ag (tw @qU (tw @uW (tw @h1 @n1))))))))))))) ?_;(repeat(refine Pn.mk ?_;intro N hN)))|((try apply Or.inl);refine⟨_,ah.x (KN) (sd (tw @a17 (tw @a2 (tw @a4 (tw @a5 (tw @a8 (tw @gP (tw @pN (tw @hx (tw @ar (tw @ag (tw @qU (tw @uW (tw @h1 @n1)))))))))))))),?_⟩;refine hN _ _ ?_;clear hN N)|((try apply Or.inl);refine⟨_,ah.x (C9) (sd (tw @a17 (tw @a2 (tw @a4 (tw @a5 (tw @a8 (tw @gP (tw @pN (tw @hx (tw @ar (tw @ag (tw @qU (tw @uW (tw @h1 @n1)))))))))))))),?_⟩;refine hN _ _ ?_;clear hN N)))
     exact bW (sd (tw @a17 (tw @a2 (tw @a4 (tw @a5 (tw @a8 (tw @gP @pN))))))) (by(try dsimp only);exact⟨_,_,.own ⟨62010004,st_a.next+1+1+1+1+1+1⟩ 0 1,qd,sl @Nat.zero_add,sd @ar,sd @qU,sd @uW,.inr ⟨⟨62010004,st_a.next+1+1+1+1+1+1⟩,rfl,sl @Nat.zero_add,bw,bw,by simp,rfl⟩,ab,fun i hi=>by
     have h9:=eC (i:=i) (n:=st_a.next) ab
     have h8:=aF i hi
     have h7:=eC (i:=i) (n:=σ.next) hi
     simp only[go_sem, ↓reduceIte,Nat.reduceEqDiff,Nat.reduceAdd,Nat.reduceSub,Nat.reduceLeDiff,reduceCtorEq,h9,h8,h7]⟩)
    ·have vu:=eC wG
     have ub:((⟨62001001,σ.next+1⟩:Id)=u)=False:=eq_false fun e=>absurd (show(62001001:Nat)=62010004 from(congrArg Id.site e).trans sN) (by decide)
     have Kn:((⟨62000002,σ.next⟩:Id)=u)=False:=eq_false fun e=>absurd (show(62000002:Nat)=62010004 from(congrArg Id.site e).trans sN) (by decide)
     have Ko:((⟨62000000,σ.next⟩:Id)=u)=False:=eq_false fun e=>absurd (show(62000000:Nat)=62010004 from(congrArg Id.site e).trans sN) (by decide)
     have Kp:((⟨62000001,σ.next⟩:Id)=u)=False:=eq_false fun e=>absurd (show(62000001:Nat)=62010004 from(congrArg Id.site e).trans sN) (by decide)
     have bu:(u=(⟨62001001,σ.next+1⟩:Id))=False:=eq_false fun e=>absurd (show(62001001:Nat)=62010004 from(congrArg Id.site e).symm.trans sN) (by decide)
     (repeat(first|((repeat(revert hN;revert N;apply Pn.out));refine wk (tw @a17 (tw @a2 (tw @a4 (tw @a5 (tw @a8 (tw @gP (tw @pN (tw @hx (tw @ar (tw @ag (tw @qU (tw @uW (tw @hu (tw @vu (tw @ub (tw @bu (tw @Kn (tw @Ko (tw @Kp (tw @vB (tw @Ep (tw @h1 @n1)))))))))))))))))))))) ?_;(repeat(refine Pn.mk ?_;intro N hN)))|((try apply Or.inl);refine⟨_,ah.x (KN) (sd (tw @a17 (tw @a2 (tw @a4 (tw @a5 (tw @a8 (tw @gP (tw @pN (tw @hx (tw @ar (tw @ag (tw @qU (tw @uW (tw @hu (tw @vu (tw @ub (tw @bu (tw @Kn (tw @Ko (tw @Kp (tw @vB (tw @Ep (tw @h1 @n1))))))))))))))))))))))),?_⟩;refine hN _ _ ?_;clear hN N)|((try apply Or.inl);refine⟨_,ah.x (C9) (sd (tw @a17 (tw @a2 (tw @a4 (tw @a5 (tw @a8 (tw @gP (tw @pN (tw @hx (tw @ar (tw @ag (tw @qU (tw @uW (tw @hu (tw @vu (tw @ub (tw @bu (tw @Kn (tw @Ko (tw @Kp (tw @vB (tw @Ep (tw @h1 @n1))))))))))))))))))))))),?_⟩;refine hN _ _ ?_;clear hN N)))
     exact bW (sd (tw @a17 (tw @a2 (tw @a4 (tw @a5 (tw @a8 (tw @gP @pN))))))) (by(try dsimp only);exact⟨_,_,.own ⟨62010004,st_a.next+1+1+1+1+1+1⟩ 0 (T.length+1),qd,sl @Nat.zero_add,sd (tw @ar @Kn),sd (tw @qU @Ko),sd (tw @uW @Kp),.inr ⟨⟨62010004,st_a.next+1+1+1+1+1+1⟩,by rw[sM],by rw[Di];simp only[go_sem, ↓reduceIte,Nat.reduceEqDiff,Nat.reduceAdd,Nat.reduceSub,Nat.reduceLeDiff,reduceCtorEq]<;>rfl,bw,bw,by rw[sM];omega,rfl⟩,ab,fun i hi=>by
     have h9:=eC (i:=i) (n:=st_a.next) ab
     have h8:=aF i hi
     have h7:=eC (i:=i) (n:=σ.next) hi
     have h6:=dx (a:=i) (b:=u) ab
     simp only[go_sem, ↓reduceIte,Nat.reduceEqDiff,Nat.reduceAdd,Nat.reduceSub,Nat.reduceLeDiff,reduceCtorEq,h9,h8,h7,h6]⟩)
   ·have n1:(0:Int)<=nG (some (hd,st0)):=(jq hd st0 rfl).1
    have gR:R=none:=by
     rw[<-hR]
     exact lG (oj (xX aU gM h1) IF)
    subst gR
    (repeat(first|((repeat(revert hN;revert N;apply Pn.out));refine wk (tw @a17 (tw @a2 (tw @a4 (tw @a5 (tw @a8 (tw @gP (tw @pN (tw @hx (tw @ar (tw @ag (tw @qU (tw @uW (tw @h1 @n1))))))))))))) ?_;(repeat(refine Pn.mk ?_;intro N hN)))|((try apply Or.inl);refine⟨_,ah.x (KN) (sd (tw @a17 (tw @a2 (tw @a4 (tw @a5 (tw @a8 (tw @gP (tw @pN (tw @hx (tw @ar (tw @ag (tw @qU (tw @uW (tw @h1 @n1)))))))))))))),?_⟩;refine hN _ _ ?_;clear hN N)|((try apply Or.inl);refine⟨_,ah.x (C9) (sd (tw @a17 (tw @a2 (tw @a4 (tw @a5 (tw @a8 (tw @gP (tw @pN (tw @hx (tw @ar (tw @ag (tw @qU (tw @uW (tw @h1 @n1)))))))))))))),?_⟩;refine hN _ _ ?_;clear hN N)))
    exact fy (.inl rfl) (vs:=[.agg [.br,.int .i64 0,.int .i64 0],.bool false]) (sd @a8) ⟨bw,fun i hi=>(by have h9:=eC hi;simp only[go_sem, ↓reduceIte,Nat.reduceEqDiff,Nat.reduceAdd,Nat.reduceSub,Nat.reduceLeDiff,reduceCtorEq,h9,aF i hi]),iL.no _ _ _ (.inl rfl)⟩
  ·have qd:=uf aU gM h1
   rcases aG with⟨hM,rfl⟩|⟨u,rfl,hu,hum,wG,hup2,sN⟩
   ·subst hM
    (repeat(first|((repeat(revert hN;revert N;apply Pn.out));refine wk (tw @a17 (tw @a2 (tw @a4 (tw @a5 (tw @a8 (tw @gP (tw @pN (tw @hx (tw @ar (tw @ag (tw @qU (tw @uW @h1)))))))))))) ?_;(repeat(refine Pn.mk ?_;intro N hN)))|((try apply Or.inl);refine⟨_,ah.x (KN) (sd (tw @a17 (tw @a2 (tw @a4 (tw @a5 (tw @a8 (tw @gP (tw @pN (tw @hx (tw @ar (tw @ag (tw @qU (tw @uW @h1))))))))))))),?_⟩;refine hN _ _ ?_;clear hN N)|((try apply Or.inl);refine⟨_,ah.x (C9) (sd (tw @a17 (tw @a2 (tw @a4 (tw @a5 (tw @a8 (tw @gP (tw @pN (tw @hx (tw @ar (tw @ag (tw @qU (tw @uW @h1))))))))))))),?_⟩;refine hN _ _ ?_;clear hN N)))
    exact bW (sd (tw @a17 (tw @a2 (tw @a4 (tw @a5 (tw @a8 (tw @gP @pN))))))) (by(try dsimp only);exact⟨_,_,.own ⟨62010004,st_a.next+1+1+1+1+1⟩ 0 1,qd,sl @Nat.zero_add,sd @ar,sd @qU,sd @uW,.inr ⟨⟨62010004,st_a.next+1+1+1+1+1⟩,rfl,sl @Nat.zero_add,bw,bw,by simp,rfl⟩,ab,fun i hi=>by
    have h9:=eC (i:=i) (n:=st_a.next) ab
    have h8:=aF i hi
    have h7:=eC (i:=i) (n:=σ.next) hi
    simp only[go_sem, ↓reduceIte,Nat.reduceEqDiff,Nat.reduceAdd,Nat.reduceSub,Nat.reduceLeDiff,reduceCtorEq,h9,h8,h7]⟩)
   ·have vu:=eC wG
    have ub:((⟨62001001,σ.next+1⟩:Id)=u)=False:=eq_false fun e=>absurd (show(62001001:Nat)=62010004 from(congrArg Id.site e).trans sN) (by decide)
    have Kn:((⟨62000002,σ.next⟩:Id)=u)=False:=eq_false fun e=>absurd (show(62000002:Nat)=62010004 from(congrArg Id.site e).trans sN) (by decide)
    have Ko:((⟨62000000,σ.next⟩:Id)=u)=False:=eq_false fun e=>absurd (show(62000000:Nat)=62010004 from(congrArg Id.site e).trans sN) (by decide)
    have Kp:((⟨62000001,σ.next⟩:Id)=u)=False:=eq_false fun e=>absurd (show(62000001:Nat)=62010004 from(congrArg Id.site e).trans sN) (by decide)
    have bu:(u=(⟨62001001,σ.next+1⟩:Id))=False:=eq_false fun e=>absurd (show(62001001:Nat)=62010004 from(congrArg Id.site e).symm.trans sN) (by decide)
    (repeat(first|((repeat(revert hN;revert N;apply Pn.out));refine wk (tw @a17 (tw @a2 (tw @a4 (tw @a5 (tw @a8 (tw @gP (tw @pN (tw @hx (tw @ar (tw @ag (tw @qU (tw @uW (tw @hu (tw @vu (tw @ub (tw @bu (tw @Kn (tw @Ko (tw @Kp (tw @vB (tw @Ep @h1))))))))))))))))))))) ?_;(repeat(refine Pn.mk ?_;intro N hN)))|((try apply Or.inl);refine⟨_,ah.x (KN) (sd (tw @a17 (tw @a2 (tw @a4 (tw @a5 (tw @a8 (tw @gP (tw @pN (tw @hx (tw @ar (tw @ag (tw @qU (tw @uW (tw @hu (tw @vu (tw @ub (tw @bu (tw @Kn (tw @Ko (tw @Kp (tw @vB (tw @Ep @h1)))))))))))))))))))))),?_⟩;refine hN _ _ ?_;clear hN N)|((try apply Or.inl);refine⟨_,ah.x (C9) (sd (tw @a17 (tw @a2 (tw @a4 (tw @a5 (tw @a8 (tw @gP (tw @pN (tw @hx (tw @ar (tw @ag (tw @qU (tw @uW (tw @hu (tw @vu (tw @ub (tw @bu (tw @Kn (tw @Ko (tw @Kp (tw @vB (tw @Ep @h1)))))))))))))))))))))),?_⟩;refine hN _ _ ?_;clear hN N)))
    exact bW (sd (tw @a17 (tw @a2 (tw @a4 (tw @a5 (tw @a8 (tw @gP @pN))))))) (by(try dsimp only);exact⟨_,_,.own ⟨62010004,st_a.next+1+1+1+1+1⟩ 0 (T.length+1),qd,sl @Nat.zero_add,sd (tw @ar @Kn),sd (tw @qU @Ko),sd (tw @uW @Kp),.inr ⟨⟨62010004,st_a.next+1+1+1+1+1⟩,by rw[sM],by rw[Di];simp only[go_sem, ↓reduceIte,Nat.reduceEqDiff,Nat.reduceAdd,Nat.reduceSub,Nat.reduceLeDiff,reduceCtorEq]<;>rfl,bw,bw,by rw[sM];omega,rfl⟩,ab,fun i hi=>by
    have h9:=eC (i:=i) (n:=st_a.next) ab
    have h8:=aF i hi
    have h7:=eC (i:=i) (n:=σ.next) hi
    have h6:=dx (a:=i) (b:=u) ab
    simp only[go_sem, ↓reduceIte,Nat.reduceEqDiff,Nat.reduceAdd,Nat.reduceSub,Nat.reduceLeDiff,reduceCtorEq,h9,h8,h7,h6]⟩)
 ·have IF:x=w:=ab
  subst IF
  have PY:∀i:Id,i.bY<σ.next->(i=(⟨62000002,σ.next⟩:Id))=False:=fun i hi=>eq_false fun e=>by rw[e]at hi;exact absurd hi (Nat.lt_irrefl _)
  rcases aG with⟨hM,rfl⟩|⟨u,rfl,hu,hum,wG,hup2,sN⟩
  ·subst hM;simp at hlen;omega
  have vu:=eC wG
  have PZ:(u=(⟨62000002,σ.next⟩:Id))=False:=eq_false fun e=>absurd (show(62000002:Nat)=62010004 from(congrArg Id.site e).symm.trans sN) (by decide)
  rcases h with _|⟨hd,st0⟩
  ·have n1:¬(0:Int)<=nG none:=by decide
   rw[rE aU]at hR
   subst hR
   (try((repeat(revert hN;revert N;apply Pn.out));refine wk (tw @a17 (tw @a2 (tw @a4 (tw @a5 (tw @a8 (tw @gP (tw @pN (tw @hx (tw @ag (tw @ar @n1)))))))))) ?_;(repeat(refine Pn.mk ?_;intro N hN))))
   refine eI ?_ ?_
   ·(try((repeat(revert hN;revert N;apply Pn.out));refine wk (tw @a17 (tw @a2 (tw @a4 (tw @a5 (tw @a8 (tw @gP (tw @pN (tw @ag (tw @ar @n1))))))))) ?_;(repeat(refine Pn.mk ?_;intro N hN))))
    exact fy (.inl rfl) (vs:=[.agg [.own u 0 T.length,.int .i64 (nG none),.int .i64 (uG none)],.bool false]) (sd @a8) ⟨bw,fun i hi=>(by have h9:=PY i hi;simp only[go_sem, ↓reduceIte,Nat.reduceEqDiff,Nat.reduceAdd,Nat.reduceSub,Nat.reduceLeDiff,reduceCtorEq,h9,aF i hi]),iL.no _ _ _ (.inr ⟨_,_,rfl⟩)⟩
   ·(try((repeat(revert hN;revert N;apply Pn.out));refine wk (tw @a17 (tw @a2 (tw @a4 (tw @a5 (tw @a8 (tw @gP (tw @pN (tw @ag (tw @ar @n1))))))))) ?_;(repeat(refine Pn.mk ?_;intro N hN))))
    exact fy (.inl rfl) (vs:=[.agg [.own u 0 T.length,.int .i64 (nG none),.int .i64 (uG none)],.bool false]) (sd @a8) ⟨bw,fun i hi=>(by have h9:=PY i hi;simp only[go_sem, ↓reduceIte,Nat.reduceEqDiff,Nat.reduceAdd,Nat.reduceSub,Nat.reduceLeDiff,reduceCtorEq,h9,aF i hi]),iL.no _ _ _ (.inr ⟨_,_,rfl⟩)⟩
  ·have n1:(0:Int)<=nG (some (hd,st0)):=(jq hd st0 rfl).1
   rw[lH aU]at hR
   subst hR
   (try((repeat(revert hN;revert N;apply Pn.out));refine wk (tw @a17 (tw @a2 (tw @a4 (tw @a5 (tw @a8 (tw @gP (tw @pN (tw @hx (tw @ag (tw @ar @n1)))))))))) ?_;(repeat(refine Pn.mk ?_;intro N hN))))
   refine eI ?_ ?_
   ·(try((repeat(revert hN;revert N;apply Pn.out));refine wk (tw @a17 (tw @a2 (tw @a4 (tw @a5 (tw @a8 (tw @gP (tw @pN (tw @ag (tw @ar @n1))))))))) ?_;(repeat(refine Pn.mk ?_;intro N hN))))
    exact fy (.inl rfl) (vs:=[.agg [.own u 0 T.length,.int .i64 (nG (some (hd,st0))),.int .i64 (uG (some (hd,st0)))],.bool true]) (sd @a8) ⟨bw,fun i hi=>(by have h9:=PY i hi;simp only[go_sem, ↓reduceIte,Nat.reduceEqDiff,Nat.reduceAdd,Nat.reduceSub,Nat.reduceLeDiff,reduceCtorEq,h9,aF i hi]),iL.yes u (by simp only[go_sem, ↓reduceIte,Nat.reduceEqDiff,Nat.reduceAdd,Nat.reduceSub,Nat.reduceLeDiff,reduceCtorEq,PZ];exact hu) ab bw⟩
   ·(try((repeat(revert hN;revert N;apply Pn.out));refine wk (tw @a17 (tw @a2 (tw @a4 (tw @a5 (tw @a8 (tw @gP (tw @pN (tw @ag (tw @ar @n1))))))))) ?_;(repeat(refine Pn.mk ?_;intro N hN))))
    exact fy (.inl rfl) (vs:=[.agg [.own u 0 T.length,.int .i64 (nG (some (hd,st0))),.int .i64 (uG (some (hd,st0)))],.bool true]) (sd @a8) ⟨bw,fun i hi=>(by have h9:=PY i hi;simp only[go_sem, ↓reduceIte,Nat.reduceEqDiff,Nat.reduceAdd,Nat.reduceSub,Nat.reduceLeDiff,reduceCtorEq,h9,aF i hi]),iL.yes u (by simp only[go_sem, ↓reduceIte,Nat.reduceEqDiff,Nat.reduceAdd,Nat.reduceSub,Nat.reduceLeDiff,reduceCtorEq,PZ];exact hu) ab bw⟩
end Go.Proofs.YtihgaadadaekmaaGreat.V

namespace Go.Proofs.YtihgaadadaekmaaGreat.V
open Go.RowKit Go.Shelf
attribute [local go_sem] Oper.semAt_some
structure oA (W:World) (v:Value) (l:List ak):Prop where
 sl:∃A c,v=.slice A l.length c/\(l.length<=c/\c<=maxLen)/\(l=[]∨∃b o,A=some ⟨b,o,none⟩/\∀i,i<l.length->W.cell? ⟨b,o+(i*3+0),none⟩=some (.int .i64 (bB l i).cI.gu)/\W.cell? ⟨b,o+(i*3+1),none⟩=some (.int .i64 (bB l i).cI.fN)/\W.cell? ⟨b,o+(i*3+2),none⟩=some (.int .i64 (bB l i).bJ))
structure F2 (K:World->World->Prop) (v:Value) (l:List ak):Prop where
 refl:∀W,K W W
 trans:∀{A B C:World},K A B->K B C->K A C
 of:∀{W W':World},Below W.heap.size W W'->K W W'
 size:∀{W W':World},K W W'->W.heap.size<=W'.heap.size
 typed:∀{W W':World},K W W'->∀(b:Nat) (cells:Array Value) (T:TypeId) (fr:Nat×Nat),W.heap[b]? =some (Obj.cells cells T fr)->T≠54->T≠88->W'.heap[b]? =W.heap[b]?
 pl:∀{W W':World},K W W'->oA W v l->oA W' v l
theorem sW {W:World} {b x:Nat} {v:Value} (h:W.cell? ⟨b,x,none⟩=some v):b<W.heap.size:=by
 rcases Nat.lt_or_ge b W.heap.size with h1|h1
 ·exact h1
 ·simp[World.cell?,Array.getElem?_eq_none h1]at h
theorem oA.below {W W':World} {v:Value} {l:List ak} (h:oA W v l) (k:Below W.heap.size W W'):oA W' v l:=by
 obtain⟨A,c,rfl,hm,hc⟩:=h.sl
 refine⟨A,c,rfl,hm,?_⟩
 rcases hc with h0|⟨b,o,rfl,jW⟩
 ·exact .inl h0
 ·refine .inr ⟨b,o,rfl,fun i hi=>?_⟩
  obtain⟨h1,h2,h3⟩:=jW i hi
  have hb:=sW h1
  exact⟨(k.cell (p:=⟨b,_,none⟩) hb).trans h1,(k.cell (p:=⟨b,_,none⟩) hb).trans h2,(k.cell (p:=⟨b,_,none⟩) hb).trans h3⟩
theorem oA.eK {P:Program} {W:World} {v:Value} {l:List ak} (h:oA W v l):jE P W (fun b=>b<W.heap.size) (.sl (l.map ai)) v:=by
 obtain⟨A,c,rfl,hm,hc⟩:=h.sl
 rcases hc with rfl|⟨b,o,rfl,jW⟩
 ·exact .AF A c (by simpa using hm.2)
 by_cases Qs:l=[]
 ·subst Qs;exact .AF _ c (by simpa using hm.2)
 ·have jq:0<l.length:=List.length_pos_iff.2 Qs
  have hb:=sW (jW 0 jq).1
  refine .sl (l.map ai) b o l.length c 3 (fun i j=>if j=0 then .int .i64 (bB l i).cI.gu else if j=1 then .int .i64 (bB l i).cI.fN else .int .i64 (bB l i).bJ) (by simp) hm.1 hm.2 hb (fun cs dn=>?_) (fun cs dn a ha=>?_) (fun i j hi hj=>?_) (fun i j cs a hi hj=>?_)
  ·obtain⟨x,_,rfl⟩:=List.mem_map.1 dn;rfl
  ·obtain⟨x,_,rfl⟩:=List.mem_map.1 dn
   simp[ai]at ha
   rcases ha with rfl|rfl|rfl<;>rfl
  ·obtain⟨h1,h2,h3⟩:=jW i hi
   match j,hj with
   |0,_=>exact h1
   |1,_=>exact h2
   |2,_=>exact h3
   |j+3,hj=>omega
  ·have oL:i<l.length:=by have:=(List.getElem?_eq_some_iff.1 hi).1;simpa using this
   rw[gz oL]at hi
   injection hi with hi
   subst hi
   match j,hj with
   |0,hj=>simp[ai]at hj;subst hj;exact .int _ _
   |1,hj=>simp[ai]at hj;subst hj;exact .int _ _
   |2,hj=>simp[ai]at hj;subst hj;exact .int _ _
   |j+3,hj=>simp[ai]at hj
theorem y7 {P:Program} (hm:P.follows .mixedOrders=true) {f:Nat} {args:List AV} {vs:Array Value} {w:World} {r:AV} (h:ah P f args r) (hr:∀g r0,fu g 6 r0=some r->r0=r) (hA:e7 P w (fun b=>b<w.heap.size) (fun _=>none) args vs):
  Calls P f vs w fun e w'=>∃D ι u,e=.returned u/\cG P w' D ι r u/\Below w.heap.size w w':=by
 have hs:=gJ hm (h 0) w.heap.size (fun b=>b<w.heap.size) (fun _=>none) w vs ⟨Nat.le_refl _,fun _ h=>h,fun id r h=>(by cases h),fun id ki r r' B B' h=>(by cases h)⟩ (fun id h=>absurd rfl h) hA
 refine hs.mono ?_
 rintro e w' ⟨r0,g',n',D',ι',u,rfl,⟨r',hz,rfl⟩,eB,hsim,_,_,gx⟩
 have:=hr _ _ hz
 subst this
 exact⟨D',ι',u,rfl,gx,eB.below⟩
theorem nF {g:Rows} {n:Nat} {a:AV} {k:IntKind} {m:Int} (h:fu g (n+1) a=some (.int k m)):a=.int k m:=by
 cases a<;>rw[fu]at h<;>simp_all
 all_goals (repeat' (split at h))<;>simp_all
theorem Bk {g:Rows} {a:AV} {x y:Int} (h:fu g 6 a=some (.agg [.int .i64 x,.int .i64 y])):a=.agg [.int .i64 x,.int .i64 y]:=by
 cases a with
 |agg cs=>
  rw[j3]at h
  simp only[Option.map_eq_some_iff,AV.agg.injEq,exists_eq_right]at h
  match cs,h with
  |[],h=>rw[aL]at h;simp at h
  |[a],h=>
   rw[aC,aL]at h
   cases ha:fu g 5 a<;>simp[ha]at h
  |[a,b],h=>
   rw[aC,aC,aL]at h
   cases ha:fu g 5 a<;>cases hb:fu g 5 b<;>simp[ha,hb]at h
   obtain⟨rfl,rfl⟩:=h
   rw[nF ha,nF hb]
  |a::b::c::r,h=>
   rw[aC,aC,aC]at h
   cases ha:fu g 5 a<;>cases hb:fu g 5 b<;>cases hc:fu g 5 c<;>cases hd:dB g 5 r<;>simp[ha,hb,hc,hd]at h
 |_=>rw[fu]at h<;>simp_all<;>(repeat' (split at h))<;>simp_all
theorem Cu (W:World) (p:bH) (d:Int) (hd:g9 d 0 3=true) (hx:iB p.gu) (hy:iB p.fN):Calls Tryz.prog 49 #[.agg #[.int .i64 p.gu,.int .i64 p.fN],.int .i64 d] W fun e W'=>e=.returned (.agg #[.int .i64 (eL p d).gu,.int .i64 (eL p d).fN])/\Below W.heap.size W W':=by
 refine(y7 mixed (MZ p d hd hx hy) (fun g r0 h=>Bk h) ?_:Calls _ _ _ _ _).mono ?_
 ·exact kz (vs:= #[.int .i64 d]) (.agg _ _ (fun j=>if j=0 then .int .i64 p.gu else .int .i64 p.fN) rfl (fun a ha=>by simp[ao]at ha;rcases ha with rfl|rfl<;>rfl) (fun j hj=>by match j,hj with|0,_=>rfl|1,_=>rfl|j+2,hj=>simp[ao]at hj;omega) (fun j a ha=>by match j,ha with|0,ha=>simp[ao]at ha;subst ha;exact .int _ _|1,ha=>simp[ao]at ha;subst ha;exact .int _ _|j+2,ha=>simp[ao]at ha)) (kz (vs:= #[]) (.int _ _) uw)
 ·rintro e W' ⟨D,ι,u,rfl,hr,hB⟩
  refine⟨?_,hB⟩
  obtain⟨vs,f,rfl,eY,_,h1,h2⟩:=iv hr
  have v0:=h1 0 (by simp[ao])
  have v1:=h1 1 (by simp[ao])
  rw[dj (h2 0 _ rfl)]at v0
  rw[dj (h2 1 _ rfl)]at v1
  obtain⟨vl⟩:=vs
  match vl,eY with
  |[a,b],_=>
   simp at v0 v1
   rw[v0,v1]
theorem vN (W:World) (l:List ak) (v:Value) (hP:oA W v l) (p:bH) (hR:yQ l) (Jb:l.length<=1048576):Calls Tryz.prog 79 #[.agg #[v],.agg #[.int .i64 p.gu,.int .i64 p.fN]] W fun e W'=>e=.returned (.int .i64 (fK l p))/\Below W.heap.size W W':=by
 refine(y7 mixed (Fi l p hR Jb) (fun g r0 h=>nF h) ?_:Calls _ _ _ _ _).mono ?_
 ·exact kz (vs:= #[.agg #[.int .i64 p.gu,.int .i64 p.fN]]) (.agg _ _ (fun _=>v) rfl (fun a ha=>by simp at ha;rw[ha];rfl) (fun j hj=>by match j,hj with|0,_=>rfl|j+1,hj=>simp at hj) (fun j a ha=>by match j,ha with|0,ha=>simp at ha;subst ha;exact hP.eK|j+1,ha=>simp at ha)) (kz (vs:= #[]) (.agg _ _ (fun j=>if j=0 then .int .i64 p.gu else .int .i64 p.fN) rfl (fun a ha=>by simp[ao]at ha;rcases ha with rfl|rfl<;>rfl) (fun j hj=>by match j,hj with|0,_=>rfl|1,_=>rfl|j+2,hj=>simp[ao]at hj;omega) (fun j a ha=>by match j,ha with|0,ha=>simp[ao]at ha;subst ha;exact .int _ _|1,ha=>simp[ao]at ha;subst ha;exact .int _ _|j+2,ha=>simp[ao]at ha)) uw)
 ·rintro e W' ⟨D,ι,u,rfl,hr,hB⟩
  exact⟨by rw[dj hr],hB⟩
theorem pZ {W W':World} (h:Below W.heap.size W W'):W.grownBy W' none:=⟨h.os,h.tape,h.output,h.size,fun k hk _=>h.block k hk⟩
def z6 (l:List ak) (i:Nat) (d:Int):List (Nat×Nat×Int):=if 0<=fK l (eL (bB l i).cI d)then[(i,(fK l (eL (bB l i).cI d)).toNat,d)]else[]
def kp (l:List ak) (i m:Nat):List (Nat×Nat×Int):=(List.range m).flatMap fun j:Nat=>z6 l i (1-(j:Int))
def kO (l:List ak) (n:Nat):List (Nat×Nat×Int):=(List.range n).flatMap fun i=>kp l i 2
theorem lK (l:List ak) (n:Nat):kO l (n+1)=kO l n++kp l n 2:=by simp[kO,List.range_succ]
theorem mh (l:List ak) (i m:Nat):kp l i (m+1)=kp l i m++z6 l i (1-(m:Int)):=by simp[kp,List.range_succ]
theorem MI (l:List ak) {k m:Nat} (hk:k<l.length) (hm:m<=2):kO l k++kp l k m <+:kO l l.length:=by
 have h1:∀d,kO l k <+:kO l (k+d):=fun d=>by
  induction d with
  |zero=>exact List.prefix_refl _
  |succ d ih=>rw[<-Nat.add_assoc,lK l (k+d)];exact ih.trans (List.prefix_append _ _)
 have h2:∀d,kO l (k+1) <+:kO l (k+1+d):=fun d=>by
  induction d with
  |zero=>exact List.prefix_refl _
  |succ d ih=>rw[<-Nat.add_assoc,lK l (k+1+d)];exact ih.trans (List.prefix_append _ _)
 have h3:=h2 (l.length-(k+1))
 rw[show k+1+(l.length-(k+1))=l.length by omega,lK]at h3
 refine List.IsPrefix.trans ?_ h3
 have h4:kp l k m <+:kp l k 2:=by
  have:m=0∨m=1∨m=2:=ab
  rcases this with rfl|rfl|rfl
  ·exact List.nil_prefix
  ·rw[mh l k 1];exact List.prefix_append _ _
  ·exact List.prefix_refl _
 exact(List.prefix_append_right_inj _).2 h4
def N4 (l:List ak) (x:Nat×Nat×Int):Prop:=x.1<l.length/\x.2.1<l.length/\(0<=x.2.2/\x.2.2<=1)
def CY (x:Nat×Nat×Int):Array Value:= #[.agg #[.int .i64 (x.1:Int),.int .i64 (x.2.1:Int)],.int .i64 x.2.2]
theorem JA (l:List ak) (p:bH) (h:0<l.length:=by omega):fK l p<(l.length:Int):=by
 unfold fK
 split<;>omega
theorem Pv (l:List ak) (hA:j9 l) (q Ba:Nat) (vS:Value) (K:World->World->Prop) (kl:F2 K vS l) (J Jx:List (Nat×Nat×Int)->World->Prop) (n:Nat) (hn:1<=n)
  (hY:∀pre x W,J pre W->pre.length<(kO l l.length).length->N4 l x->YieldAt Fence.wide (n-1) Tryz.prog q (CY x) W fun e W'=>
   (e=.returned (.bool true)/\J (pre++[x]) W'/\K W W')∨(e=.returned (.bool false)/\Jx (pre++[x]) W'))
  (W:World) (hJ:AbidesFrom W.heap.size J) (LV:W.heap[Ba]? =some (.cells #[vS] 42 (0,0))) (hP:oA W vS l) (h0:J [] W):
  CallsIn Fence.wide n Tryz.prog 78 #[.func (.yield q) #[] #[],.pointer (some ⟨Ba,0,none⟩)] W fun e W'=>(∃v,e=.returned v)/\
   ((∃ys,ys=kO l l.length/\J ys W')∨(∃pre,pre <+:kO l l.length/\Jx pre W')):=by
 obtain⟨A,cp,rfl,_,_⟩:=hP.sl
 refine callsIn_of_wp Tryz.func78 rfl trivial ?_ rfl
 simp only[Tryz.ntmps78,List.size_toArray,List.length_cons,List.length_nil,Nat.reduceAdd,Nat.reduceSub,Array.replicate_succ,Array.replicate_zero,List.push_toArray,List.append_toArray,List.nil_append,List.cons_append]
 have jk:W.cell? ⟨Ba,0,none⟩=some (.slice A l.length cp):=by simp[World.cell?,LV]
 gi_wp2
 gi_loopw [11] (fun i wr=>∃k:Nat,k<=l.length/\i=.int .i64 k/\J (kO l k) wr/\K W wr)
  (fun i _=>l.length-(intOf i).toNat)
 case atStart=>exact⟨0,Nat.zero_le _,rfl,h0,kl.refl _⟩
 case round=>
  obtain⟨k,hk,rfl,hJs,hKt⟩:=hrel
  by_cases dR:k<l.length
  ·have dn:∃b o,A=some ⟨b,o,none⟩/\wr.cell? ⟨b,o+k*3,none⟩=some (.int .i64 (bB l k).cI.gu)/\wr.cell? ⟨b,o+k*3+1,none⟩=some (.int .i64 (bB l k).cI.fN)/\wr.cell? ⟨b,o+k*3+2,none⟩=some (.int .i64 (bB l k).bJ):=by
    obtain⟨A',c',hv,_,hc⟩:=(kl.pl hKt hP).sl
    cases hv
    rcases hc with rfl|⟨b,o,rfl,jW⟩
    ·simp at dR
    ·obtain⟨h1,h2,h3⟩:=jW k dR
     exact⟨b,o,rfl,by simpa using h1,by rw[Nat.add_assoc];exact h2,by rw[Nat.add_assoc];exact h3⟩
   obtain⟨b,o,rfl,hx,hy',ht⟩:=dn
   gi_wp2
   obtain⟨W2,OD⟩:∃W2,(wr.alloc (.cells #[.int .i64 (bB l k).cI.gu,.int .i64 (bB l k).cI.fN,.int .i64 (bB l k).bJ] 86)).alloc (.cells #[.int .i64 1,.int .i64 0] 2)=W2:=⟨_,rfl⟩
   have oD:Below wr.heap.size wr W2:=by rw[<-OD];exact((Below.refl _ wr).alloc (Nat.le_refl _) _).alloc (by simp) _
   have Rh:W2.heap[wr.heap.size]? =some (.cells #[.int .i64 (bB l k).cI.gu,.int .i64 (bB l k).cI.fN,.int .i64 (bB l k).bJ] 86 (0,0)):=by
    rw[<-OD,Below.heap_alloc _ _ _ (by simp)];exact World.alloc_heap_new _ _
   have Rg:W2.heap[wr.heap.size+1]? =some (.cells #[.int .i64 1,.int .i64 0] 2 (0,0)):=by
    have:=World.alloc_heap_new (wr.alloc (.cells #[.int .i64 (bB l k).cI.gu,.int .i64 (bB l k).cI.fN,.int .i64 (bB l k).bJ] 86)) (.cells #[.int .i64 1,.int .i64 0] 2)
    rw[World.size_alloc]at this
    rw[<-OD];exact this
   have OA:K W W2:=kl.trans hKt (kl.of oD)
   have hJ2:J (kO l k++kp l k 0) W2:=by
    have:=hJ _ _ _ none hJs (pZ oD) (fun r h=>by cases h)
    simpa[kp]using this
   rw[OD]
   clear OD
   generalize wr=w1 at *
   gi_loopw [18] (fun j wr=>∃m:Nat,m<=2/\j=.int .i64 m/\J (kO l k++kp l k m) wr/\K W2 wr)
    (fun j _=>2-(intOf j).toNat)
   case atStart=>exact⟨0,ab,rfl,hJ2,kl.refl _⟩
   case round=>
    obtain⟨m,hm,rfl,hJm,KF⟩:=hrel
    have hm0:m=0∨m=1∨m=2:=ab
    by_cases KR:m<2
    ·have hkd:=kl.typed KF _ _ _ _ Rg (by decide) (by decide)
     have Iy:=kl.typed KF _ _ _ _ Rh (by decide) (by decide)
     have hka:=kl.typed (kl.trans OA KF) _ _ _ _ LV (by decide) (by decide)
     have cd:wr.cell? ⟨w1.heap.size+1,m,none⟩=some (.int .i64 (1-(m:Int))):=by
      rw[World.cell?_of_block hkd]
      rcases hm0 with rfl|rfl|rfl
      ·simp[World.cell?,Rg]
      ·simp[World.cell?,Rg]
      ·omega
     have ct0:wr.cell? ⟨w1.heap.size,0,none⟩=some (.int .i64 (bB l k).cI.gu):=by rw[World.cell?_of_block Iy];simp[World.cell?,Rh]
     have ct1:wr.cell? ⟨w1.heap.size,1,none⟩=some (.int .i64 (bB l k).cI.fN):=by rw[World.cell?_of_block Iy];simp[World.cell?,Rh]
     have ca:wr.cell? ⟨Ba,0,none⟩=some (.slice (some ⟨b,o,none⟩) l.length cp):=by rw[World.cell?_of_block hka];simp[World.cell?,LV]
     have hPw:oA wr (.slice (some ⟨b,o,none⟩) l.length cp) l:=kl.pl (kl.trans OA KF) hP
     have hba:Ba<wr.heap.size:=by
      have h1:=(Array.getElem?_eq_some_iff.1 LV).1
      have h2:=kl.size (kl.trans OA KF)
      omega
     have hdm:g9 (1-(m:Int)) 0 3=true:=nI ab
     have hpb:=HC (hA.pt dR)
     have NR:=fun w0=>Cu w0 (bB l k).cI (1-(m:Int)) hdm hpb.1 hpb.2
     have hPd:oA wr.drew (.slice (some ⟨b,o,none⟩) l.length cp) l:=hPw.below ⟨rfl,rfl,rfl,Nat.le_refl _,fun _ _=>rfl⟩
     have cad:wr.drew.cell? ⟨Ba,0,none⟩=some (.slice (some ⟨b,o,none⟩) l.length cp):=ca
     have ctd0:wr.drew.cell? ⟨w1.heap.size,0,none⟩=some (.int .i64 (bB l k).cI.gu):=ct0
     have ctd1:wr.drew.cell? ⟨w1.heap.size,1,none⟩=some (.int .i64 (bB l k).cI.fN):=ct1
     have hfw:=hA.FN
     have OT:=hA.QH
     have RL:=mixed
     gi_wp2
     gi_region_with_o (first|(refine⟨trivial,?_⟩;gi_at_call 49;refine(callsIn_wide.2 (NR _)).mono ?_;rintro e w3 ⟨rfl,zA⟩;have ca3:=(zA.cell (p:=⟨Ba,0,none⟩) hba).trans cad)|(refine⟨trivial,?_⟩;gi_at_call 79;refine(callsIn_wide.2 (vN _ l _ (hPd.below zA) (eL (bB l k).cI (1-(m:Int))) OT ab)).mono ?_;rintro e w4 ⟨rfl,hB4⟩))
     all_goals
      have LU:Below wr.heap.size wr w4:=(show Below wr.heap.size wr wr.drew from⟨rfl,rfl,rfl,Nat.le_refl _,fun _ _=>rfl⟩).trans (zA.trans (hB4.mono zA.size))
      have hJ4:J (kO l k++kp l k m) w4:=hJ _ _ _ none hJm (pZ LU) (fun r h=>by cases h)
      have vE:=MI l dR (m:=m+1) ab
      rw[mh,<-List.append_assoc]at vE
      have vD:=mh l k m
      have hw:wrap64 ((m:Int)+1)=((m+1:Nat):Int):=by unfold wrap64;omega
      by_cases xL:0<=fK l (eL (bB l k).cI (1-(m:Int)))
      ·have fJ:((fK l (eL (bB l k).cI (1-(m:Int)))).toNat:Int)=fK l (eL (bB l k).cI (1-(m:Int))):=ab
       rw[z6,if_pos xL]at vE vD
       obtain⟨fn,tmps,assign,body,hy,hR⟩:=hY _ (k,(fK l (eL (bB l k).cI (1-(m:Int)))).toNat,1-(m:Int)) w4 hJ4 (by
        have:=vE.length_le
        simp only[List.length_append,List.length_cons,List.length_nil]at this ⊢
        omega) ⟨dR,by
        have:fK l (eL (bB l k).cI (1-(m:Int)))<(l.length:Int):=JA _ _
        show(fK l (eL (bB l k).cI (1-(m:Int)))).toNat<l.length
        omega,by show 0<=1-(m:Int);omega,by show 1-(m:Int)<=1;omega⟩
       simp only[CY,fJ]at hy
       gi_wp2
       refine hR.mono ?_
       rintro e W3 (⟨rfl,hJ3,hk3⟩|⟨rfl,hJx3⟩)
       ·gi_wp2
        go_roundw
        case rel=>exact⟨m+1,ab,by simp,by rw[vD,<-List.append_assoc];exact hJ3,kl.trans (kl.trans KF (kl.of LU)) hk3⟩
        case measure=>simp[intOf];omega
       ·gi_wp2
        refine bodyPost_ret (results_none rfl _ _ _) rfl ?_
        exact⟨⟨_,rfl⟩,.inr ⟨_,vE,hJx3⟩⟩
      ·rw[z6,if_neg xL,List.append_nil]at vD
       gi_wp2
       refine⟨fun _ h=>(by cases h),?_⟩
       gi_wp2
       go_roundw
       case rel=>exact⟨m+1,ab,by simp,by rw[vD];exact hJ4,kl.trans KF (kl.of LU)⟩
       case measure=>simp[intOf];omega
    ·obtain rfl:m=2:=ab
     have hfw:=hA.FN
     gi_wp2
     go_roundw
     case rel=>exact⟨k+1,ab,by simp,by rw[lK];exact hJm,kl.trans OA KF⟩
     case measure=>simp[intOf];omega
  ·obtain rfl:k=l.length:=ab
   gi_wp2
   go_end0
   exact⟨⟨_,rfl⟩,.inl ⟨_,rfl,hJs⟩⟩
theorem x9 (n:Nat) (vS:Value) (w:World):CallsIn Fence.wide n Tryz.prog 45 #[.agg #[vS]] w fun e w'=>e=.returned (.func (.func 78) #[] #[.pointer (some ⟨w.heap.size,0,none⟩)])/\w'=w.alloc (.cells #[vS] 42):=by
 refine callsIn_of_wp Tryz.func45 rfl trivial ?_ rfl
 simp only[Tryz.ntmps45,List.size_toArray,List.length_cons,List.length_nil,Nat.reduceAdd,Nat.reduceSub,Array.replicate_succ,Array.replicate_zero,List.push_toArray,List.append_toArray,List.nil_append,List.cons_append]
 gi_wp2
 go_ret
 exact⟨rfl,rfl⟩
abbrev Li (l:List ak):Type:={x:Nat×Nat×Int // N4 l x}
theorem Hp (l:List ak) (hA:j9 l) (Ba n:Nat) (hn:1<=n) (vS:Value) (K:World->World->Prop) (kl:F2 K vS l) (w:World) (LV:w.heap[Ba]? =some (.cells #[vS] 42 (0,0))) (hP:oA w vS l):
  SeqStopsK Fence.wide n Tryz.prog 78 #[.pointer (some ⟨Ba,0,none⟩)] (fun x:Li l=>CY x.1) K (fun ys=>ys.map (·.1)=kO l l.length) (fun _=>True) (kO l l.length).length w:=fun q J Jx W hW hJ _ hY h0=>by
 refine(Pv l hA q Ba vS K kl (fun ys W=>∃zs:List (Li l),zs.map (·.1)=ys/\J zs W) (fun ys W=>∃zs:List (Li l),zs.map (·.1)=ys/\Jx zs W) n hn (fun pre x W1 hJ1 dR qa=>?_) W (fun s A B row ⟨zs,e,h⟩ hg hr=>⟨zs,e,hJ zs A B row h hg hr⟩) ((hW.block Ba (Array.getElem?_eq_some_iff.1 LV).1).trans LV) (hP.below hW) ⟨[],rfl,h0⟩).mono ?_
 ·obtain⟨zs,rfl,h1⟩:=hJ1
  refine YieldAt.mono (hY zs ⟨x,qa⟩ W1 h1 (by simpa using dR)) ?_
  rintro e W' (⟨h2,h3,h4⟩|⟨h2,h3⟩)
  ·exact .inl ⟨h2,⟨zs++[⟨x,qa⟩],by simp,h3⟩,h4⟩
  ·exact .inr ⟨h2,⟨zs++[⟨x,qa⟩],by simp,h3⟩⟩
 ·rintro e W' ⟨h1,⟨ys,rfl,zs,h2,h3⟩|⟨pre,_,zs,h2,h3⟩⟩
  ·exact⟨h1,.inl ⟨zs,h2,h3⟩⟩
  ·exact⟨h1,.inr ⟨zs,trivial,h3⟩⟩
def xj (s:aq) (l:List ak) (x:Nat×Nat×Int):List PB:=if 0<iP s (bB l x.1).bJ x.2.2 (bB l x.2.1).bJ then[⟨x.1,x.2.1,iP s (bB l x.1).bJ x.2.2 (bB l x.2.1).bJ⟩]else[]
theorem Gi (s:aq) (l:List ak):cu s l=(kO l l.length).flatMap (xj s l):=by
 have h1:∀i d,lZ s l i d=(z6 l i d).flatMap (xj s l):=fun i d=>by
  unfold lZ z6
  by_cases h:0<=fK l (eL (bB l i).cI d)
  ·rw[if_pos h]
   simp only[List.flatMap_cons,List.flatMap_nil,List.append_nil,xj]
   by_cases h2:0<iP s (bB l i).bJ d (bB l (fK l (eL (bB l i).cI d)).toNat).bJ
   ·rw[if_pos ⟨h,h2⟩,if_pos h2]
   ·rw[if_neg fun hc=>h2 hc.2,if_neg h2]
  ·rw[if_neg h,if_neg fun hc=>h hc.1];rfl
 unfold cu gh kO
 rw[List.flatMap_assoc]
 congr 1
 funext i
 unfold fD kp
 rw[List.flatMap_assoc]
 congr 1
 funext j
 exact h1 i _
end Go.Proofs.YtihgaadadaekmaaGreat.V

namespace Go.Proofs.YtihgaadadaekmaaGreat.V
open Go.RowKit
variable {P:Program} {hs:Nat}
theorem FK {q n i:Nat} {ops:Array Oper} {Q:Exit->Act->World->Prop} {K K':Act->World->Prop} {a:Act} {w:World} (k7:∀(j:Nat) (o:Oper),ops[j]? =some o->∀c,o.op≠.defer c) (gR:¬LetsOut Q) (hK:∀a w,K a w->K' a w) (h:wpOp P ops Q i K a w):wpOpIn (Fence.wide.inRound q) n P ops Q i K' a w:=by
 unfold wpOp at h
 unfold wpOpIn
 split at h
 ·rename_i ho;simp only[ho];exact hK _ _ h
 ·rename_i o ho
  simp only[ho]
  split at h
  ·rename_i hw
   rw[if_pos hw]
   replace h:=h.resolve_right fun hc=>gR hc.2
   refine⟨fun _ _=>trivial,?_⟩
   rw[Oper.semAt_eq _ _ _ (k7 i o ho)]
   unfold Oper.wp at h
   generalize (execOp a.eval o).run P w=r at *
   cases r with
   |ok m w'=>
    cases m<;>simp only[Oper.upon,Oper.uponIn]at h ⊢
    case value=>exact hK _ _ h
    case skip=>exact hK _ _ h
    case defer=>exact hK _ _ h
    case enter f args=>
     refine⟨fun h=>by simp[Fence.wide]at h,CallsIn.inRound q (callsIn_wide.2 (h.mono fun e IH he=>?_))⟩
     cases e with
     |returned v=>exact hK _ _ he
     |panicked c=>exact he
     |outgrown=>exact he
    case row r args=>exact⟨fun h=>by simp[Fence.wide]at h,fun c cs _=>let ⟨v,IH,h1,s⟩:=h c cs;⟨v,IH,hK _ _ h1,stepsIn_wide.2 s⟩⟩
   |halt x w'=>cases x<;>simp only[Oper.upon,Oper.uponIn]at h ⊢;exact h
  ·rename_i hw
   rw[if_neg hw]
   exact⟨fun _ _=>trivial,hK _ _ h⟩
theorem uU {q n:Nat} {md:Region.Mode} {ops:Array Oper} {Q:Exit->Act->World->Prop} (k7:∀(j:Nat) (o:Oper),ops[j]? =some o->∀c,o.op≠.defer c) (gR:¬LetsOut Q):∀(fuel:Nat) (listed:Array Bool) (a:Act) (w:World),wpAny P md ops Q fuel listed a w->wpAnyIn (Fence.wide.inRound q) n P md ops Q fuel listed a w
 |0,_,_,_,h=>h
 |fuel+1,listed,_,_,h=>⟨h.1,fun i hi=>FK k7 gR (fun a w=>uU k7 gR fuel _ a w) (h.2 i hi)⟩
def Dr:Op->Bool
 | .defer _=>true
 |_=>false
theorem Ht {ops:Array Oper} (h:(ops.all fun o=> !Dr o.op)=true):∀(j:Nat) (o:Oper),ops[j]? =some o->∀c,o.op≠.defer c:=fun j o hj c hc=>by
 have:=Array.all_eq_true_iff_forall_mem.1 h o (Array.mem_of_getElem? hj)
 rw[hc]at this
 simp[Dr]at this
theorem ye (hm:P.follows .mixedOrders=true) {nt site0 id q n:Nat} {ops:Array Oper} {vl:List bj} (h:pS P nt site0 ops true false=some vl) (k7:∀(j:Nat) (o:Oper),ops[j]? =some o->∀c,o.op≠.defer c)
  {K:Env->aw->Prop} {env:Env} {σ:aw} {a:Act} {w:World} {D:Nat->Prop} {ι:Names} {Q:Exit->Act->World->Prop} (hv:wpOps (Sound P) true vl K env σ) (eB:St P hs nt D ι env σ a w)
  (hK:∀gZ σ' a' w' D' ι',K gZ σ'->Step hs D ι w D' ι' w'->St P hs nt D' ι' gZ σ' a' w'->a'.defers=a.defers->Q .normal a' w'):(Code.region id ops true).wpIn (Fence.wide.inRound q) n P Q a w:=by
 have dt:∃hidden rO,allM (lx P ops nt site0 true false (jf ops) hidden) ops.toList 0=some rO/\vl=rO/\nA ops rO (jf ops)=true:=by
  unfold pS at h
  simp only[if_true,Bool.not_true,Bool.false_or]at h
  split at h
  ·rename_i rO h'
   split at h
   ·rename_i qa;simp at h;exact⟨_,rO,h',h.symm,qa⟩
   ·cases h
  ·cases h
 obtain⟨hidden,rO,dt,rfl,qa⟩:=dt
 obtain⟨qc,T0⟩:=eB.drew
 obtain⟨hlen,_⟩:=nq dt
 have kg:vl.length=ops.size:=by rw[hlen];simp
 have Bp:=uS (X:=Sound P) (K:=K) (n:=σ.next) qa kg vl 0 (Array.replicate ops.size false) env σ.get (by simp) (by simp) (fun i hi=>by simp[hi]) (by simp[kg]) (fun k i h=>by
  exfalso
  rcases Nat.lt_or_ge k ops.size with hk|hk
  ·simp[hk]at h
  ·simp[Nat.not_lt.2 hk]at h) hv
 rw[kg]at Bp
 have hw:=vW (Q:=fun e a w=>e=.normal/\Q .normal a w) dt ops.size _ env σ.get a w.drew D ι (fun _=>False) Bp qc.IG qc.used (fun _ h=>h.elim) qc.env qc.size fun jG g1 a1 w1 D1 ι1 U1 hk T S1 QP E1 yK hd=>⟨rfl,hK jG ⟨g1,σ.next+1⟩ a1 w1 D1 ι1 hk (T0.trans T) ⟨S1,QP.next,E1,yK⟩ hd⟩
 have fJ:=uU (q:=q) (n:=n) (Q:=fun e a w=>e=.normal/\Q .normal a w) k7 (by rintro⟨_,_,hc,_⟩;cases hc) ops.size _ a w.drew hw
 refine wpIn_mono (wpIn_region_any (id:=id) hm fJ) ?_
 rintro e a w ⟨rfl,h⟩
 exact h
end Go.Proofs.YtihgaadadaekmaaGreat.V

namespace Go.Proofs.YtihgaadadaekmaaGreat.V
open Go.RowKit Go.Shelf
attribute [local go_sem] Oper.semAt_some
def gI (n₀:Nat) (W W':World):Prop:=W.heap.size<=W'.heap.size/\(∀(b:Nat) (cells:Array Value) (T:TypeId) (fr:Nat×Nat),W.heap[b]? =some (Obj.cells cells T fr)->T≠54->T≠88->W'.heap[b]? =W.heap[b]?)/\∀k,k<n₀->k<W.heap.size->W'.heap[k]? =W.heap[k]?
theorem gI.trans {n₀:Nat} {A B C:World} (h:gI n₀ A B) (k:gI n₀ B C):gI n₀ A C:=⟨Nat.le_trans h.1 k.1,fun b cells T fr hb h1 h2=>by
 have e:=h.2.1 b cells T fr hb h1 h2
 rw[<-e]at hb ⊢
 exact k.2.1 b cells T fr hb h1 h2,fun b hb hs=>(k.2.2 b hb (Nat.lt_of_lt_of_le hs h.1)).trans (h.2.2 b hb hs)⟩
theorem gI.of {n₀:Nat} {W W':World} (h:Below W.heap.size W W'):gI n₀ W W':=⟨h.size,fun b cells T fr hb _ _=>h.block b (Array.getElem?_eq_some_iff.1 hb).1,fun k _ hs=>h.block k hs⟩
theorem gI.refl (n₀:Nat) (W:World):gI n₀ W W:=⟨Nat.le_refl _,fun _ _ _ _ _ _ _=>rfl,fun _ _ _=>rfl⟩
theorem gI.b {n₀ m:Nat} (hm:n₀<=m) (W:World) (l:Nat) (o o':Obj) (hl:m<=l) (h:W.heap[l]? =some o) (hc:o.isCells=false) (_:o.isWalk=false):gI n₀ W (W.putObj l o'):=by
 refine⟨by simp,fun b cells T fr hb _ _=>?_,fun k hk _=>World.putObj_heap_other ab⟩
 by_cases pD:b=l
 ·subst pD;rw[h]at hb;cases hb;cases hc
 ·exact World.putObj_heap_other pD
def IS (bs:List PB):List Value:=bs.flatMap fun b=>[.int .i64 b.a,.int .i64 b.b,.int .i64 b.s]
theorem Gd (bs:List PB) (b:PB):IS (bs++[b])=IS bs++[.int .i64 b.a,.int .i64 b.b,.int .i64 b.s]:=by simp[IS]
def mQ (s:aq) (l:List ak) (pre:List (Li l)):List PB:=(pre.map (·.1)).flatMap (xj s l)
theorem v3 (s:aq) (l:List ak) (pre:List (Li l)) (x:Li l):mQ s l (pre++[x])=mQ s l pre++xj s l x.1:=by simp[mQ]
theorem Gc (s:aq) (l:List ak) (x:Nat×Nat×Int):(xj s l x).length<=1:=by
 unfold xj;split<;>simp
theorem Ge (s:aq) (l:List ak) (pre:List (Li l)):(mQ s l pre).length<=pre.length:=by
 unfold mQ
 induction pre with
 |nil=>simp
 |cons x r ih=>
  have:=Gc s l x.1
  simp only[List.map_cons,List.flatMap_cons,List.length_append,List.length_cons]at ih ⊢
  omega
theorem wU (l:List ak) (i:Nat):∀m,(kp l i m).length<=m
 |0=>by simp[kp]
 |m+1=>by
  rw[mh,List.length_append]
  have:=wU l i m
  have:(z6 l i (1-(m:Int))).length<=1:=by unfold z6;split<;>simp
  omega
theorem z7 (l:List ak):∀n,(kO l n).length<=n*2
 |0=>by simp[kO]
 |n+1=>by
  rw[lK,List.length_append]
  have:=z7 l n
  have:=wU l n 2
  omega
theorem zC {β:Type} (B:Nat) (c:Array Value) (t:TypeId) (fr:Nat×Nat):Own (fun(_:β) W=>W.heap[B]? =some (.cells c t fr)):=fun _ X _ row h hg hr=>(hg.block B (Array.getElem?_eq_some_iff.1 h).1 (fun e=>by
 obtain⟨o,ho,hc⟩:=hr B e.symm
 rw[h]at ho;cases ho;cases hc)).trans h
theorem gI.app {n₀:Nat} {W w1:World} {B k:Nat} {v v':Value} {xs:List Value} {tmp:Obj} (hv:Boxed W B 54 v) (fa:W.ownsRow n₀ 88 3 v k xs) (Dc:(W.alloc tmp).grownBy w1 v.ownBlock) (hb:Below n₀ W (w1.setCell ⟨B,0,none⟩ v')):gI n₀ W (w1.setCell ⟨B,0,none⟩ v'):=by
 refine⟨hb.size,fun b cells T fr h h1 h2=>?_,fun k hk _=>hb.block k hk⟩
 have dR:=(Array.getElem?_eq_some_iff.1 h).1
 have hbB:b≠B:=by
  rintro rfl
  rw[show W.heap[b]? = _ from hv]at h
  cases h
  exact h1 rfl
 have Qe:some b≠v.ownBlock:=by
  rcases fa.2 with⟨rfl,_⟩|⟨g,cap,cur,rfl,_,hg,_⟩
  ·simp[Value.ownBlock]
  ·intro e
   obtain rfl:b=g:=by simpa[Value.ownBlock]using e
   rw[hg]at h;cases h
   exact h2 rfl
 refine(Below.heap_setCell w1 ⟨B,0,none⟩ v' b hbB).trans ?_
 exact(Dc.block b (by simp;omega) Qe).trans (Below.heap_alloc W tmp b dR)
theorem Pm {w:World} {vS:Value} {l:List ak} (hP:oA w vS l):F2 (gI w.heap.size) vS l where
 refl:=gI.refl _
 trans:=gI.trans
 of:=gI.of
 size h:=h.1
 typed h:=h.2.1
 pl {W W'} h hp:=by
  obtain⟨A,c,rfl,hm,hc⟩:=hp.sl
  refine⟨A,c,rfl,hm,?_⟩
  by_cases hl:l=[]
  ·exact .inl hl
  have jq:0<l.length:=List.length_pos_iff.2 hl
  rcases hc with h0|⟨b,o,rfl,jW⟩
  ·exact absurd h0 hl
  obtain⟨A',c',e,_,kf⟩:=hP.sl
  cases e
  rcases kf with h0|⟨b',o',e,hcell'⟩
  ·exact absurd h0 hl
  cases e
  have hb:=sW (hcell' 0 jq).1
  have hk:=h.2.2 b hb (sW (jW 0 jq).1)
  refine .inr ⟨b,o,rfl,fun i hi=>?_⟩
  have uZ:∀x,W'.cell? ⟨b,x,none⟩=W.cell? ⟨b,x,none⟩:=fun x=>World.cell?_of_block hk
  rw[uZ,uZ,uZ]
  exact jW i hi
theorem rrE {P:Program} {nt site0:Nat} {ops:Array Oper} {vl:List bj} (_:xl P ops site0 false (jf ops) (qk P false ops.toList 0) ops.toList 0=some vl:=by(conv=>lhs;cbv)<;>exact rfl) (h:pS P nt site0 ops true false=some vl:=by kernel_rfl):pS P nt site0 ops true false=some vl:=h
theorem Hf (l:List Value) (d:Value):l=(List.range l.length).map fun i=>(⟨l⟩:Array Value).getD i d:=by
 refine List.ext_getElem (by simp) fun i h1 h2=>?_
 simp[h1]
theorem Cd {X:fj} {d:Bool} {ops:List bj} {K:Env->aw->Prop} {env:Env} {σ:aw} (h:eb X (.dG d ops) (fun _=>K) env σ):wpOps X d ops K env σ:=h
theorem tC (W:World) (T:TypeId) (x y z:Value):∀(j:Nat) (u:Value),[x,y,z][j]? =some u->(W.alloc (.cells #[x,y,z] T)).cell? ((⟨W.heap.size,0,none⟩:Addr).add j)=some u:=fun j u h=>by
 have hb:(W.alloc (.cells #[x,y,z] T)).heap[W.heap.size]? =some (.cells #[x,y,z] T (0,0)):=World.alloc_heap_new _ _
 have e:∀k,(W.alloc (.cells #[x,y,z] T)).cell? ⟨W.heap.size,k,none⟩=(#[x,y,z]:Array Value)[k]? :=fun k=>by
  unfold World.cell?
  rw[show(W.alloc (.cells #[x,y,z] T)).heap[(⟨W.heap.size,k,none⟩:Addr).block]? = _ from hb]
  rfl
 rw[show(⟨W.heap.size,0,none⟩:Addr).add j=⟨W.heap.size,j,none⟩ by simp[Addr.add];exact fun h=>h.symm,e]
 simpa using h
def Gj (n b:Nat):Names:=fun id=>if id=⟨1,0⟩then some ⟨n,2,2,none⟩else if id=⟨2,0⟩then some ⟨n+1,1,1,none⟩else if id=⟨3,0⟩then some ⟨n+1+1,1,1,none⟩else if id=⟨4,0⟩then some ⟨b,2,2,none⟩else if id=⟨5,0⟩then some ⟨n+1+1+1,1,1,none⟩else none
def KB (s:aq) (l:List ak) (i k:Nat):Rows:=fun id=>if id=⟨1,0⟩then some ⟨false,2,[aa s]⟩else if id=⟨2,0⟩then some ⟨false,1,[[.sl (l.map ai)]]⟩else if id=⟨4,0⟩then some ⟨false,2,[[.int .i64 (i:Int),.int .i64 (k:Int)]]⟩else none
def Lx (s:aq) (l:List ak) (i k:Nat) (d:Int):Env:=cm [.agg (aa s),.agg [.sl (l.map ai)],.ptr ⟨1,0⟩ 0 0,.ptr ⟨2,0⟩ 0 0,.br,.ptr ⟨3,0⟩ 0 0,.ptr ⟨4,0⟩ 0 0,.int .i64 d,.undef,.agg [.sl (l.map ai)],.fn 78 [.ptr ⟨5,0⟩ 0 0],.agg [.int .i64 (i:Int),.int .i64 (k:Int)],.int .i64 d]
theorem Cn {P:Program} {W:World} {D:Nat->Prop} {ι:Names} {B:rQ} {cells:Array Value} {T:TypeId} {cs:List AV} (hk:B.k=none) (hb:W.heap[B.b]? =some (.cells cells T (0,0))) (hC:cells.size=B.C) (hz:B.sz=cs.length) (hl:cs.length=cells.size) (hf:∀a∈cs,a.cell=true) (hr:∀(j:Nat) (a:AV),cs[j]? =some a->∃v,cells[j]? =some v/\cG P W D ι a v):ik P W D ι B ⟨false,cs.length,[cs]⟩:=
 kS.obj ⟨hz,⟨cells,T,hb,hC⟩,by simp;omega,fun c hc=>by simp at hc;rw[hc],fun c hc=>by simp at hc;rw[hc];exact hf,fun i j c a hi hj=>by
  match i,hi with
  |0,hi=>
   simp at hi;subst hi
   obtain⟨v,h1,h2⟩:=hr j a hj
   exact⟨v,by simp[World.cell?,hb,h1],h2⟩
  |i+1,hi=>simp at hi⟩ hk
theorem G6:(Tryz.prog.info? 88).map (fun i=>(i.zero,i.size,i.bytes))=some (some (.agg #[.int .i64 0,.int .i64 0,.int .i64 0]),3,24):=by kernel_rfl
end Go.Proofs.YtihgaadadaekmaaGreat.V
