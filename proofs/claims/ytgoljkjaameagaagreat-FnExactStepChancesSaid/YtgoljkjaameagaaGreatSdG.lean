/- The chances of one step, by the program. -/
import Derived.Test.YtgoljkjaameagaaGreatSdF
import Derived.Test.YtgoljkjaameagaaGreatSdB
import Derived.Test.YtgoljkjaameagaaGreatChecked
import Derived.ProofKit
import Derived.Deep.Slices
import Derived.ChangeSame
import Derived.Test.YtgoljkjaameagaaGreatRows
import Derived.Test.YtgoljkjaameagaaGreatSdC
import Derived.OpenShut
import Derived.ShutString
import Derived.ChangeOld
import Derived.Below
set_option linter.unusedVariables false
set_option linter.unusedSimpArgs false
set_option maxRecDepth 100000
set_option maxHeartbeats 16000000
namespace Go.Proofs.YtgoljkjaameagaaGreat.V
open Go.RowKit
attribute [local irreducible] ek wpOps fK Call
attribute [local go_sem] aI fw eH fE fD dd upd cm K.av cG AV.cells AV.cell rowOf rowsOf part ld rowAt bL bY dx dO gz bE cW dY fC eY dj dS cU cR dG dH bH aZ cJ bG cL cK dQ dU dR cI bJ cV dP bF aL cP cz gy bq cF bI aW dq bm dy AV.undef bw bz dJ dM dD dI cE dX ea cq dW dV cN cQ List.getD_cons_zero List.getD_cons_succ List.getD_nil List.all_cons List.all_nil Bool.and_true Bool.true_and Bool.and_self Bool.not_true Bool.not_false Option.map_some Option.map_none Option.bind_some Option.bind_none List.length_cons List.length_nil List.take_succ_cons List.take_zero List.take_nil List.drop_succ_cons List.drop_zero List.drop_nil List.head?_cons List.map_cons List.map_nil List.getElem?_cons_zero List.getElem?_cons_succ List.cons_append List.nil_append List.append_nil List.length_map List.set_cons_zero List.set_cons_succ Nat.reduceMul eq_self Int.toNat_natCast Int.natCast_nonneg and_self true_and and_true decide_true decide_false Bool.false_eq_true Nat.zero_add Nat.add_zero List.contains_cons List.contains_nil Bool.or_false Bool.false_or beq_self_eq_true Nat.reduceBEq ne_eq not_true_eq_false not_false_eq_true Id.mk.injEq false_and and_false Nat.reduceLT Int.reduceLE Int.reduceLT Int.reduceToNat Int.reduceNeg Int.reduceAdd Nat.le_refl List.length_append beq_true beq_false Bool.not_eq_eq_eq_not or_false false_or dK aq au aH bf bt bZ aU bh aT bc cH bx
theorem xX (s:aM) (l:List ae) (hn:gJ s.aC) (hm:tU s) (hl:l.length<=1048576) (n0:Nat):
  Call Tryz.prog 36 [.agg (aE s),.agg [.sl (l.map ah)]] ⟨fun _=>none,n0⟩ (fun r σ'=>∃ids,(∃v0 i0,r=.iA [v0,.int .i64 (Fu s l).2]/\jM σ'.get v0 (Fu s l).1 i0/\ids=i0)/\eE n0 σ'.next ids):=by
 have h1:aw Tryz.prog 82 [.agg (aE s),.agg [.sl (l.map ah)]] (.int .i64 (rW s l)):=Aa s l hn hm hl
 by_cases h0:rW s l=0
 ·obtain⟨hP,hA⟩:=vQ.1 h0
  have hT:1<=s.aA:=(eD hP.LF).1
  have hr:Fu s l=if 0<(lv s l).length/\500<=l.length then([],4)else(s8 l (lv s l).length (lv s l),0):=by rw[Fu,if_pos h0]
  rw[h0]at h1
  rw[hr]
  obtain⟨R,Qp⟩:∃R,(if 0<(lv s l).length/\500<=l.length then(([]:List jn),(4:Int))else(s8 l (lv s l).length (lv s l),0))=R:=⟨_,rfl⟩
  rw[Qp]
  have Dv:=xc hP.set hA
  have Cf:=hA.1.zW
  have Xo:=fun σ=>AG s hP.set hT l hA σ
  have TL:∀x∈lv s l,eO l x.bj<0:=fun x hx=>by
   have h8:=(K1 hx).2
   simp only[eF,Bool.and_eq_true]at h8
   exact(DU hA _).1 (of_decide_eq_true h8.1.2)
  have O7:0<(lv s l).length->l≠[]:=fun h e=>by
   have h9:lv s l=[]:=by rw[e];rfl
   rw[h9]at h;simp at h
  refine e6 eK rfl fun lf=>?_
  clear lf
  rw[aE]at h1 Xo ⊢
  (repeat(first|((repeat(revert hN;revert N;apply Pn.out));refine wk @Nat.zero_add ?_;(repeat(refine Pn.mk ?_;intro N hN)))|((try apply Or.inl);refine⟨_,aw.x (h1) (sd @Nat.zero_add),?_⟩;refine hN _ _ ?_;clear hN N)))
  refine .inr (aJ _ _ _ _ _ (fun r σ1 hq=>?_) (Xo _))
  obtain⟨g1,x1⟩:=σ1
  obtain⟨c,T,O,rfl,hC,Tw,WK,R8,pN,l5⟩:=hq
  (try dsimp only at hC Tw WK R8 pN l5)
  have kl:=l5 ⟨36000001,n0⟩ (by(try dsimp only);omega)
  simp only[go_sem, ↓reduceIte,Nat.reduceEqDiff,Nat.reduceAdd,Nat.reduceSub,Nat.reduceLeDiff,reduceCtorEq]at kl
  refine hN _ _ ?_
  clear hN N
  (try((repeat(revert hN;revert N;apply Pn.out));refine wk @Nat.zero_add ?_;(repeat(refine Pn.mk ?_;intro N hN))))
  refine .inr (aJ _ _ _ _ _ (fun r σ2 hq=>?_) (Q7 (σ:=⟨g1,_⟩) (hC.frame (by(try dsimp only);omega) fun x hx=>rfl) hT hP.set hA))
  obtain⟨g2,x2⟩:=σ2
  obtain⟨Kk,Ce,hq⟩:=hq
  (try dsimp only at hq Kk Ce)
  have jl:=(Ce ⟨36000001,n0⟩ (by(try dsimp only);omega)).trans kl
  have yl:=dr (i:=⟨36000001,n0⟩) (n:=x2) (by(try dsimp only);omega)
  refine hN _ _ ?_
  clear hN N
  have ei:rY (eF s l) s.aC.aj.length (iQ l)=lv s l:=rfl
  rw[ei]at hq
  generalize lv s l=L at *
  rcases hq with⟨qm,rfl⟩|⟨u,rfl,hu,QY,T7,hu3,hu4⟩
  ·subst qm
   have d0:decide ((0:Int)<((0:Nat):Int))=false:=rfl
   (try((repeat(revert hN;revert N;apply Pn.out));refine wk @d0 ?_;(repeat(refine Pn.mk ?_;intro N hN))))
   have d1:decide ((0:Int)<0)=false:=rfl
   refine aX (fun n env st=>(env 31=.int .i64 0/\env 32=.int .i64 0/\env 8=.cj/\env 30=.cj)/\x2<=st.next) 0 ⟨⟨sl @Nat.zero_add,sd @Nat.zero_add,sd @Nat.zero_add,sd @Nat.zero_add⟩,by(try dsimp only);omega⟩ ?_
   rintro z env_a st_a ⟨⟨a31,a32,a8,a30⟩,an⟩ -
   (try((repeat(revert hN;revert N;apply Pn.out));refine wk (tw @a31 (tw @a32 (tw @a8 (tw @a30 @d1)))) ?_;(repeat(refine Pn.mk ?_;intro N hN))))
   have kH:¬(0<([]:List ae).length/\500<=l.length):=fun h=>by simp at h
   rw[if_neg kH]at Qp
   subst Qp
   exact fe (.inl rfl) (vs:=[.cj,.int .i64 0]) (sd @a8) ⟨[],⟨.cj,[],rfl,.inl ⟨rfl,rfl,rfl⟩,rfl⟩,⟨List.nodup_nil,fun i hi=>by cases hi⟩⟩
  ·(try dsimp only at hu QY T7)
   have Xe:=O7 hu3
   have d0:(0:Int)<(L.length:Int):=by omega
   have wG:(l.map ah).length=l.length:=by simp
   by_cases h5:500<=l.length
   ·have d5:(500:Int)<=(l.length:Int):=by omega
    (try((repeat(revert hN;revert N;apply Pn.out));refine wk (tw @d0 (tw @jl (tw @yl (tw @wG @d5)))) ?_;(repeat(refine Pn.mk ?_;intro N hN))))
    rw[if_pos ⟨hu3,h5⟩]at Qp
    subst Qp
    exact fe (.inl rfl) (vs:=[.cj,.int .i64 4]) (sd @Nat.zero_add) ⟨[],⟨.cj,[],rfl,.inl ⟨rfl,rfl,rfl⟩,rfl⟩,⟨List.nodup_nil,fun i hi=>by cases hi⟩⟩
   ·have d5:¬(500:Int)<=(l.length:Int):=by omega
    have kH:¬(0<L.length/\500<=l.length):=fun h=>h5 h.2
    rw[if_neg kH]at Qp
    subst Qp
    (try((repeat(revert hN;revert N;apply Pn.out));refine wk (tw @d0 (tw @jl (tw @yl (tw @wG @d5)))) ?_;(repeat(refine Pn.mk ?_;intro N hN))))
    refine aX (fun n env st=>∃k:Nat,n=(L.length)-k/\k<=(L.length)/\env 32=.int .i64 (k:Int)/\(x2<=st.next/\(∀x:Id,x.br<x2->st.get x=g2 x)/\((k=0/\env 8=.cj)∨(0<k/\∃ids,eV iH 3 st.get (env 8) (s8 l L.length (L.take k)) ids/\eE x2 st.next ids)))) (L.length) ⟨0,by omega,by omega,sl @Nat.zero_add,by(try dsimp only);exact⟨by omega,fun x hx=>sd @Nat.zero_add,.inl ⟨rfl,sd @Nat.zero_add⟩⟩⟩ ?_
    rintro n_b env_b st_b ⟨k,rfl,ble,pI,bI0⟩ eX
    have b3:=eX 3 (by kernel_rfl);have b7:=eX 7 (by kernel_rfl);have OO:=eX 30 (by kernel_rfl);have rX:=eX 31 (by kernel_rfl)
    simp only[go_sem, ↓reduceIte,Nat.reduceEqDiff,Nat.reduceAdd,Nat.reduceSub,Nat.reduceLeDiff,reduceCtorEq]at b3 b7 OO rX
    clear eX
    obtain⟨bn,eX,b8⟩:=bI0
    have gu:=(eX u T7).trans hu
    have gl:=(eX ⟨36000001,n0⟩ (by(try dsimp only);omega)).trans jl
    have wu:=dr (i:=u) (n:=st_b.next) (by omega)
    have wl:=dr (i:=⟨36000001,n0⟩) (n:=st_b.next) (by(try dsimp only);omega)
    by_cases hk:(k:Int)<(L.length:Int)
    ·have fh:∀{e:Env} {gg:Rows} {nx:Nat},(e 32=.int .i64 (IntKind.i64.wrap ((k:Int)+1)))->(x2<=nx/\(∀x:Id,x.br<x2->gg x=g2 x)/\(((k+1)=0/\e 8=.cj)∨(0<(k+1)/\∃ids,eV iH 3 gg (e 8) (s8 l L.length (L.take (k+1))) ids/\eE x2 nx ids)))->∃m0,m0<(L.length)-k/\∃k:Nat,m0=(L.length)-k/\k<=(L.length)/\e 32=.int .i64 (k:Int)/\(x2<=nx/\(∀x:Id,x.br<x2->gg x=g2 x)/\((k=0/\e 8=.cj)∨(0<k/\∃ids,eV iH 3 gg (e 8) (s8 l L.length (L.take k)) ids/\eE x2 nx ids))):=fun x1 x2=>⟨_,by omega,k+1,rfl,by omega,(by rw[x1,az (by omega)]),x2⟩
     have fm:k<L.length:=by omega
     have eU:=fU fm
     rw[ah]at eU
     have gR:(L.map ah).length=L.length:=by simp
     have Gx:=fun σ=>RE l Xe (by omega) hA.1.Rm (aY L k).bj (aY L k).bQ (TL _ (ko fm)) σ
     rcases b8 with⟨ue,b8⟩|⟨ue,ids,⟨oo,rows,is,b8,I9,L3,rfl⟩,hNI⟩
     ·have Kq:(⟨(aY L k).bj,(aY L k).bQ⟩:ae)=aY L k:=rfl
      rw[Kq]at Gx
      (try((repeat(revert hN;revert N;apply Pn.out));refine wk (tw @pI (tw @b3 (tw @b7 (tw @OO (tw @rX (tw @hk (tw @eU (tw @gR (tw @gu (tw @wu (tw @gl (tw @wl @b8)))))))))))) ?_;(repeat(refine Pn.mk ?_;intro N hN))))
      refine .inr (aJ _ _ _ _ _ (fun r' σ3 Sn=>?_) (Gx _))
      obtain⟨g3,x3⟩:=σ3
      obtain⟨o3,rfl,p1,p2,p3,p4⟩:=Sn
      (try dsimp only at p1 p2 p3 p4)
      have y3:=dr p3
      have J2:∀x:Id,x.br<st_b.next->g3 x=st_b.get x:=fun x hx=>by
       have h4:=p4 x (by(try dsimp only);omega)
       have h5:=dr (i:=x) (n:=st_b.next) hx
       simp only[go_sem, ↓reduceIte,Nat.reduceEqDiff,Nat.reduceAdd,Nat.reduceSub,Nat.reduceLeDiff,reduceCtorEq,h5]at h4
       exact h4
      refine hN _ _ ?_
      clear hN N
      (try((repeat(revert hN;revert N;apply Pn.out));refine wk (tw @pI (tw @b3 (tw @b7 (tw @OO (tw @rX @gR))))) ?_;(repeat(refine Pn.mk ?_;intro N hN))))
      have lR:=xx (l:=l) (n:=L.length) fm
      exact fh (sd (tw @pI (tw @b3 (tw @b7 (tw @OO @rX))))) (by(try dsimp only);exact⟨by omega,fun x hx=>(by
       have e2:=dr (i:=x) (n:=x3) (by omega)
       simp only[go_sem, ↓reduceIte,Nat.reduceEqDiff,Nat.reduceAdd,Nat.reduceSub,Nat.reduceLeDiff,reduceCtorEq,e2]
       exact(J2 x (by omega)).trans (eX x hx)),.inr ⟨by omega,by
       rw[lR,show s8 l (L.length:Int) (L.take k)=[] by rw[ue];rfl,List.nil_append]
       simp only[go_sem, ↓reduceIte,Nat.reduceEqDiff,Nat.reduceAdd,Nat.reduceSub,Nat.reduceLeDiff,reduceCtorEq]
       exact eV.first (R:=iH) (z:=3) (lo:=x2) (x:=⟨ga l (aY L k),1,L.length⟩) (cs:=[.own o3 0 (ga l (aY L k)).length,.int .i64 1,.int .i64 L.length]) (ic:=[o3]) ⟨o3,rfl,sd (tw @y3 @p1),rfl⟩ ⟨by simp,fun i hi=>by rw[List.mem_singleton.1 hi];(try dsimp only);omega⟩ (by(try dsimp only);omega) (by(try dsimp only);omega) (sd @Nat.zero_add)⟩⟩)
     ·have Kq:(⟨(aY L k).bj,(aY L k).bQ⟩:ae)=aY L k:=rfl
      rw[Kq]at Gx
      have Nf:=hNI.2 oo (by simp)
      have woo:=dr Nf.2
      have pP:=L3.len
      have M6:=Nat.min_eq_left (show k<=L.length by omega)
      have u9:(s8 l (L.length:Int) (L.take k)).length=k:=by rw[vp,List.length_take,M6]
      rw[u9]at pP
      have pc:k<=16777215:=by omega
      (try((repeat(revert hN;revert N;apply Pn.out));refine wk (tw @pI (tw @b3 (tw @b7 (tw @OO (tw @rX (tw @hk (tw @eU (tw @gR (tw @gu (tw @wu (tw @gl (tw @wl @b8)))))))))))) ?_;(repeat(refine Pn.mk ?_;intro N hN))))
      refine .inr (aJ _ _ _ _ _ (fun r' σ3 Sn=>?_) (Gx _))
      obtain⟨g3,x3⟩:=σ3
      obtain⟨o3,rfl,p1,p2,p3,p4⟩:=Sn
      (try dsimp only at p1 p2 p3 p4)
      have y3:=dr p3
      have J2:∀x:Id,x.br<st_b.next->g3 x=st_b.get x:=fun x hx=>by
       have h4:=p4 x (by(try dsimp only);omega)
       have h5:=dr (i:=x) (n:=st_b.next) hx
       simp only[go_sem, ↓reduceIte,Nat.reduceEqDiff,Nat.reduceAdd,Nat.reduceSub,Nat.reduceLeDiff,reduceCtorEq,h5]at h4
       exact h4
      have jo:=(J2 oo Nf.2).trans I9
      have yo:=dr (i:=oo) (n:=x3) (by omega)
      have oX:=da (a:=oo) (b:=o3) (by omega)
      refine hN _ _ ?_
      clear hN N
      (try((repeat(revert hN;revert N;apply Pn.out));refine wk (tw @pI (tw @b3 (tw @b7 (tw @OO (tw @rX (tw @gR (tw @b8 (tw @u9 (tw @jo (tw @yo (tw @pP @pc))))))))))) ?_;(repeat(refine Pn.mk ?_;intro N hN))))
      have lR:=xx (l:=l) (n:=L.length) fm
      have Xf:(s8 l L.length (L.take k)++[(⟨ga l (aY L k),1,L.length⟩:jn)]).length=k+1:=by rw[List.length_append,u9];rfl
      exact fh (sd (tw @pI (tw @b3 (tw @b7 (tw @OO @rX))))) (by(try dsimp only);exact⟨by omega,fun x hx=>(by
       have e2:=dr (i:=x) (n:=x3) (by omega)
       have e3:=da (a:=x) (b:=oo) (by omega)
       simp only[go_sem, ↓reduceIte,Nat.reduceEqDiff,Nat.reduceAdd,Nat.reduceSub,Nat.reduceLeDiff,reduceCtorEq,e2,e3]
       exact(J2 x (by omega)).trans (eX x hx)),.inr ⟨by omega,by
       rw[lR]
       simp only[go_sem, ↓reduceIte,Nat.reduceEqDiff,Nat.reduceAdd,Nat.reduceSub,Nat.reduceLeDiff,reduceCtorEq]
       rw[<-Xf]
       exact eV.push xe (lo:=x2) (m:=st_b.next) (x:=⟨ga l (aY L k),1,L.length⟩) (cs:=[.own o3 0 (ga l (aY L k)).length,.int .i64 1,.int .i64 L.length]) (ic:=[o3]) L3 hNI (fun y h1 h2 h3=>by
        have e1:=eq_false h3
        have e2:=dr (i:=y) (n:=x3) (by omega)
        simp only[go_sem, ↓reduceIte,Nat.reduceEqDiff,Nat.reduceAdd,Nat.reduceSub,Nat.reduceLeDiff,reduceCtorEq,e1,e2]
        exact J2 y h2) ⟨o3,rfl,sd (tw @oX (tw @y3 @p1)),rfl⟩ ⟨by simp,fun i hi=>by rw[List.mem_singleton.1 hi];(try dsimp only);omega⟩ (by(try dsimp only);omega) (by(try dsimp only);omega) (by omega) (sd @Nat.zero_add)⟩⟩)
    ·have kM:k=L.length:=by omega
     subst kM
     rcases b8 with⟨ue,_⟩|⟨_,ids,⟨oo,rows,is,b8,I9,L3,rfl⟩,hNI⟩
     ·omega
     rw[List.take_length]at b8 L3
     (try((repeat(revert hN;revert N;apply Pn.out));refine wk (tw @pI (tw @b3 (tw @b7 (tw @OO (tw @rX (tw @hk @b8)))))) ?_;(repeat(refine Pn.mk ?_;intro N hN))))
     exact fe (.inl rfl) (vs:=[.own oo 0 (s8 l L.length L).length,.int .i64 0]) (sd @b8) ⟨oo::is,⟨_,oo::is,rfl,.inr ⟨⟨oo,rows,is,rfl,I9,L3,rfl⟩,by rw[vp];exact hu3⟩,rfl⟩,hNI.wide (by omega) (by(try dsimp only);omega)⟩
 ·have hd:decide (rW s l=0)=false:=decide_eq_false h0
  have hr:Fu s l=([],rW s l):=by rw[Fu,if_neg h0]
  rw[hr]
  refine e6 eK rfl fun lf=>?_
  clear lf
  rw[aE]at h1 ⊢
  (repeat(first|((repeat(revert hN;revert N;apply Pn.out));refine wk @hd ?_;(repeat(refine Pn.mk ?_;intro N hN)))|((try apply Or.inl);refine⟨_,aw.x (h1) (sd @hd),?_⟩;refine hN _ _ ?_;clear hN N)))
  exact fe (.inl rfl) (vs:=[.cj,.int .i64 (rW s l)]) (sd @Nat.zero_add) ⟨[],⟨.cj,[],rfl,.inl ⟨rfl,rfl,rfl⟩,rfl⟩,⟨List.nodup_nil,fun i hi=>by cases hi⟩⟩
end Go.Proofs.YtgoljkjaameagaaGreat.V

namespace Go.Proofs.YtgoljkjaameagaaGreat
open Go.ChangeShapes Go.WideShapes Go.ChangeAt Go.RowKit Go.Deep
section
variable {H:Type} {enc:TypeId×Value->H} {P:Program} {w:World}
theorem np.Uo {α:Type} {rep:World->List Nat->List Value->α->Prop} {sz:Nat} {w:World} {b o len cap:Nat} (oU:Nat->List Value) (fs:Nat->List Nat) (ds:Nat->α) (hc:len<=cap) (hm:cap<=maxLen)
  (hl:∀i,i<len->(oU i).length=sz) (hr:∀i,i<len->rep w (fs i) (oU i) (ds i)) (yg:∀i,i<len->∀j u,(oU i)[j]? =some u->w.cell? ⟨b,o+(i*sz+j),none⟩=some u):
  np rep sz w ([b]++((List.range len).map fs).flatten) (.slice (some ⟨b,o,none⟩) len cap) ((List.range len).map ds):=by
 refine⟨(List.range len).map oU,(List.range len).map fs,[b],rfl,⟨some ⟨b,o,none⟩,cap,by simp,by simpa using hc,hm,.inr ⟨b,o,rfl,rfl,fun j u hj=>?_⟩⟩,by simp,by simp,fun i cs f d h1 h2 h3=>?_⟩
 ·have hlen:∀cs∈(List.range len).map oU,cs.length=sz:=fun cs dz=>by
   obtain⟨i,hi,rfl⟩:=List.mem_map.1 dz
   exact hl i (List.mem_range.1 hi)
  have gT:=(List.getElem?_eq_some_iff.1 hj).1
  have EH:((List.range len).map oU).flatten.length=len*sz:=by
   rw[List.length_flatten,List.map_map]
   have:∀(l:List Nat),(∀i∈l,i<len)->(l.map (List.length∘oU)).sum=l.length*sz:=by
    intro l
    induction l with
    |nil=>intro _;simp
    |cons a l ih=>intro h;rw[List.map_cons,List.sum_cons,ih fun i hi=>h i (List.mem_cons_of_mem _ hi)];simp only[Function.comp,hl a (h a (by simp)),List.length_cons,Nat.add_mul];omega
   rw[this _ fun i hi=>List.mem_range.1 hi,List.length_range]
  rw[EH]at gT
  have DD:0<sz:=by
   rcases Nat.eq_zero_or_pos sz with h|h
   ·subst h;simp at gT
   ·exact h
  have hi:j / sz<len:=(Nat.div_lt_iff_lt_mul DD).2 gT
  have Gr:j % sz<sz:=Nat.mod_lt _ DD
  have M5:j=(j / sz)*sz+j % sz:=by rw[Nat.mul_comm];exact(Nat.div_add_mod j sz).symm
  rw[M5,tY hlen (i:=j / sz) (cs:=oU (j / sz)) (by simp[hi]) Gr]at hj
  rw[M5]
  have:=yg (j / sz) hi (j % sz) u hj
  rw[<-M5]at this ⊢
  exact this
 ·have hi:i<len:=by
   have:=(List.getElem?_eq_some_iff.1 h1).1
   simpa using this
  simp[hi]at h1 h2 h3
  subst h1 h2 h3
  exact⟨hr i hi,hl i hi⟩
theorem kD (b o k:Nat):(⟨b,o,none⟩:Addr).add k=⟨b,o+k,none⟩:=by
 unfold Addr.add;split
 ·rename_i h;subst h;rfl
 ·rfl
theorem qa {α:Type} {rep:World->List Nat->List Value->α->Prop} {Q:α->Prop} {t e:TypeId} {sz fuel:Nat} {cs:List Value} {x:DataW H×List MemPlace} (ht:P.underlying t=some (.slice e)) (hC:P.cellsOf e=sz) (DD:0<sz)
  (h:DataW.trod enc P w 0 (fun _=>true) true fuel t cs=some x) (hel:∀n qw y,qw.length=sz->DataW.trod enc P w 0 (fun _=>true) true n e qw=some y->∃f d,gi f 0 w.heap.size/\rep w f qw d/\Q d):
  ∃A n c f xs,cs=[.slice A n c]/\gi f 0 w.heap.size/\np rep sz w f (.slice A n c) xs/\∀d∈xs,Q d:=by
 rcases open_slice ht h with⟨rfl,_⟩|⟨a,len,cap,m,n,D,Pl,rfl,_,hl,hm,QI,_,hi⟩
 ·exact⟨none,0,0,[],[],rfl,gi.nil _ _,np.nil _ _ _,fun d h=>by cases h⟩
 rw[hC]at hi
 simp only[if_true]at QI
 by_cases h0:len=0
 ·subst h0
  exact⟨some a,0,cap,[],[],rfl,gi.nil _ _,⟨[],[],[],rfl,⟨some a,cap,rfl,Nat.zero_le _,hm,.inl ⟨rfl,rfl⟩⟩,rfl,rfl,fun i cs f d hc=>by simp at hc⟩,fun d h=>by cases h⟩
 obtain⟨b,o,sp⟩:=a
 have cell0:∃v,w.cell? ⟨b,o,sp⟩=some v:=by
  obtain⟨qw,hc,_⟩:=hi 0 (by omega)
  obtain⟨_,mi,yg⟩:=World.cells?_some hc
  refine⟨qw[0]'(by omega),?_⟩
  have:=yg 0 DD
  rw[List.getElem?_eq_getElem (by omega)]at this
  simpa[Addr.add]using this
 obtain⟨v0,rz⟩:=cell0
 have hb:b<w.heap.size:=World.block_lt_of_cell? w _ rz
 have Kw:sp=none:=by
  unfold World.cell? at rz
  split at rz
  ·split at rz
   ·cases rz
   ·rename_i h;simpa using h
  ·cases rz
 subst Kw
 have key:∀i,i<len->∃qw f d,qw.length=sz/\gi f 0 w.heap.size/\rep w f qw d/\Q d/\∀j u,qw[j]? =some u->w.cell? ⟨b,o+(i*sz+j),none⟩=some u:=fun i mj=>by
  obtain⟨qw,hc,htr⟩:=hi i (by omega)
  obtain⟨_,mi,yg⟩:=World.cells?_some hc
  obtain⟨f,d,h1,h2,h3⟩:=hel n qw _ mi htr
  refine⟨qw,f,d,mi,h1,h2,h3,fun j u hj=>?_⟩
  have gT:=(List.getElem?_eq_some_iff.1 hj).1
  have:=yg j (by omega)
  rw[hj]at this
  rw[<-this,Go.Deep.add_add,kD]
 have:Nonempty α:=by
  obtain⟨_,_,d,_⟩:=key 0 (by omega)
  exact⟨d⟩
 let cf:Nat->List Value:=fun i=>if hi:i<len then(key i hi).choose else[]
 let ff:Nat->List Nat:=fun i=>if hi:i<len then(key i hi).choose_spec.choose else[]
 let df:Nat->α:=fun i=>if hi:i<len then(key i hi).choose_spec.choose_spec.choose else Classical.choice this
 have eh:∀i,i<len->(cf i).length=sz/\gi (ff i) 0 w.heap.size/\rep w (ff i) (cf i) (df i)/\Q (df i)/\∀j u,(cf i)[j]? =some u->w.cell? ⟨b,o+(i*sz+j),none⟩=some u:=fun i hi=>by
  have:=(key i hi).choose_spec.choose_spec.choose_spec
  simp only[cf,ff,df,dif_pos hi]
  exact this
 refine⟨some ⟨b,o,none⟩,len,cap,_,(List.range len).map df,rfl,?_,np.Uo cf ff df hl hm (fun i hi=>(eh i hi).1) (fun i hi=>(eh i hi).2.2.1) (fun i hi=>(eh i hi).2.2.2.2),fun d hd=>?_⟩
 ·intro x hx
  rcases List.mem_append.1 hx with hx|hx
  ·simp at hx;subst hx;exact⟨Nat.zero_le _,hb⟩
  ·obtain⟨l,wG,Sv⟩:=List.mem_flatten.1 hx
   obtain⟨i,hi,rfl⟩:=List.mem_map.1 wG
   exact(eh i (List.mem_range.1 hi)).2.1 x Sv
 ·obtain⟨i,hi,rfl⟩:=List.mem_map.1 hd
  exact(eh i (List.mem_range.1 hi)).2.2.2.1
end
section
variable {H:Type} {enc:TypeId×Value->H} {w:World} {fuel:Nat} {cs:List Value} {x:DataW H×List MemPlace}
abbrev TT (enc:TypeId×Value->H) (w:World) (fuel t:Nat) (cs:List Value) (x:DataW H×List MemPlace):Prop:=DataW.trod enc Tryz.prog w 0 (fun _=>true) true fuel t cs=some x
theorem Rg (h:TT enc w fuel 31 cs x):∃A n c f xs,cs=[.slice A n c]/\gi f 0 w.heap.size/\vO w f (.slice A n c) xs:=by
 obtain⟨A,n,c,f,xs,h1,h2,h3,_⟩:=qa (rep:=FX) (Q:=fun _=>True) Tryz.underlying31 (sz:=1) (by kernel_rfl) (by omega) h fun n qw y hl hy=>by
  obtain⟨b,rfl,_⟩:=DataW.trod_int Tryz.underlying2 hy
  exact⟨[],b,gi.nil _ _,⟨rfl,rfl⟩,trivial⟩
 exact⟨A,n,c,f,xs,h1,h2,h3⟩
theorem nF {t:TypeId} {fs:Array Field} (ht:Tryz.prog.underlying t=some (.struct fs)) (h:TT enc w fuel t cs x):cs.length=Tryz.prog.cellsOf t/\∃n,∀(i:Nat) (f:Field),fs[i]? =some f->∃y,TT enc w n f.type ((cs.drop f.offset).take (Tryz.prog.cellsOf f.type)) y:=by
 obtain⟨xs,n,_,_,hl,Sv,hf⟩:=DataW.trod_struct ht h
 refine⟨hl,n,fun i f hi=>?_⟩
 have mj:i<xs.length:=by rw[Sv];exact(Array.getElem?_eq_some_iff.1 hi).1
 exact⟨xs[i],(hf i f hi).trans (List.getElem?_eq_getElem mj)⟩
theorem Uj {l:List Value} (h:l.length=2):∃a b,l=[a,b]:=by
 match l,h with
 |[a,b],_=>exact⟨a,b,rfl⟩
theorem XR {l:List Value} (h:l.length=3):∃a b c,l=[a,b,c]:=by
 match l,h with
 |[a,b,c],_=>exact⟨a,b,c,rfl⟩
theorem XQ {l:List Value} (h:l.length=1):∃a,l=[a]:=by
 match l,h with
 |[a],_=>exact⟨a,rfl⟩
theorem XS {l:List Value} (h:l.length=4):∃a b c d,l=[a,b,c,d]:=by
 match l,h with
 |[a,b,c,d],_=>exact⟨a,b,c,d,rfl⟩
theorem NX (h:TT enc w fuel 22 cs x):∃A n c f xs,cs=[.slice A n c]/\gi f 0 w.heap.size/\rT w f (.slice A n c) xs/\∀d∈xs,d.aO.size<=9223372036854775807:=by
 exact qa (rep:=Jl) (Q:=fun d=>d.aO.size<=9223372036854775807) Tryz.underlying22 (sz:=2) (by kernel_rfl) (by omega) h fun n qw y hl hy=>by
  obtain⟨_,m,hf⟩:=nF Tryz.underlying247 hy
  obtain⟨a,b,rfl⟩:=Uj hl
  ·skip
   obtain⟨y0,h0⟩:=hf 0 _ rfl
   obtain⟨y1,h1⟩:=hf 1 _ rfl
   rw[show Tryz.prog.cellsOf _=1 from by kernel_rfl]at h0 h1
   obtain⟨p,e0,_,ws⟩:=DataW.trod_string Tryz.underlying9 h0
   obtain⟨q,e1,_⟩:=DataW.trod_int Tryz.underlying2 h1
   simp at e0 e1
   subst e0 e1
   exact⟨[],⟨p,q⟩,gi.nil _ _,⟨rfl,rfl⟩,by simpa[maxLen]using ws⟩
theorem NY (h:TT enc w fuel 23 cs x):∃A n c f xs,cs=[.slice A n c]/\gi f 0 w.heap.size/\rU w f (.slice A n c) xs/\∀d∈xs,d.aO.size<=9223372036854775807:=by
 exact qa (rep:=Jm) (Q:=fun d=>d.aO.size<=9223372036854775807) Tryz.underlying23 (sz:=2) (by kernel_rfl) (by omega) h fun n qw y hl hy=>by
  obtain⟨_,m,hf⟩:=nF Tryz.underlying250 hy
  obtain⟨a,b,rfl⟩:=Uj hl
  ·skip
   obtain⟨y0,h0⟩:=hf 0 _ rfl
   obtain⟨y1,h1⟩:=hf 1 _ rfl
   rw[show Tryz.prog.cellsOf _=1 from by kernel_rfl]at h0 h1
   obtain⟨p,e0,_,ws⟩:=DataW.trod_string Tryz.underlying9 h0
   obtain⟨A1,n1,c1,f1,UI,e1,k1,s1⟩:=Rg h1
   simp at e0 e1
   subst e0 e1
   exact⟨_,⟨p,UI⟩,k1,⟨_,f1,rfl,rfl,s1⟩,by simpa[maxLen]using ws⟩
theorem Ip (h:TT enc w fuel 26 cs x):∃A n c f xs,cs=[.slice A n c]/\gi f 0 w.heap.size/\jd w f (.slice A n c) xs:=by
 obtain⟨A,n,c,f,xs,h1,h2,h3,_⟩:=qa (rep:=Bw) (Q:=fun _=>True) Tryz.underlying26 (sz:=3) (by kernel_rfl) (by omega) h fun n qw y hl hy=>by
  obtain⟨_,m,hf⟩:=nF Tryz.underlying208 hy
  obtain⟨a,b,c,rfl⟩:=XR hl
  ·skip
   obtain⟨y0,h0⟩:=hf 0 _ rfl
   obtain⟨y1,h1⟩:=hf 1 _ rfl
   rw[show Tryz.prog.cellsOf _=2 from by kernel_rfl]at h0
   rw[show Tryz.prog.cellsOf _=1 from by kernel_rfl]at h1
   obtain⟨_,m2,Ce⟩:=nF Tryz.underlying163 h0
   obtain⟨z0,g0⟩:=Ce 0 _ rfl
   obtain⟨z1,g1⟩:=Ce 1 _ rfl
   rw[show Tryz.prog.cellsOf _=1 from by kernel_rfl]at g0 g1
   obtain⟨px,e0,_⟩:=DataW.trod_int Tryz.underlying2 g0
   obtain⟨py,e1,_⟩:=DataW.trod_int Tryz.underlying2 g1
   obtain⟨ti,e2,_⟩:=DataW.trod_int Tryz.underlying2 h1
   simp at e0 e1 e2
   subst e0 e1 e2
   exact⟨[],⟨⟨px,py⟩,ti⟩,gi.nil _ _,⟨rfl,rfl⟩,trivial⟩
 exact⟨A,n,c,f,xs,h1,h2,h3⟩
theorem xb (h:TT enc w fuel 28 cs x):∃A n c f,∃d:eB,cs=[.slice A n c]/\gi f 0 w.heap.size/\jd w f (.slice A n c) d.aj:=by
 obtain⟨hl,m,hf⟩:=nF Tryz.underlying28 h
 rw[show Tryz.prog.cellsOf _=1 from by kernel_rfl]at hl
 obtain⟨a,rfl⟩:=XQ hl
 ·skip
  obtain⟨y0,h0⟩:=hf 0 _ rfl
  rw[show Tryz.prog.cellsOf _=1 from by kernel_rfl]at h0
  obtain⟨A1,n1,c1,f1,UI,e1,k1,s1⟩:=Ip h0
  simp at e1
  subst e1
  exact⟨A1,n1,c1,f1,⟨UI⟩,rfl,k1,s1⟩
theorem KY (h:TT enc w fuel 30 cs x):∃A0 n0 c0 f0 A1 n1 c1 f1 A2 n2 c2 f2,∃d:aM,cs=[.slice A0 n0 c0,.slice A1 n1 c1,.slice A2 n2 c2,.int .i64 d.aA]/\gi f0 0 w.heap.size/\rT w f0 (.slice A0 n0 c0) d.aC.aB/\gi f1 0 w.heap.size/\rU w f1 (.slice A1 n1 c1) d.aC.aj/\gi f2 0 w.heap.size/\jd w f2 (.slice A2 n2 c2) d.cC.aj/\(∀g∈d.aC.aB,g.aO.size<=9223372036854775807)/\∀t∈d.aC.aj,t.aO.size<=9223372036854775807:=by
 obtain⟨hl,m,hf⟩:=nF Tryz.underlying30 h
 rw[show Tryz.prog.cellsOf _=4 from by kernel_rfl]at hl
 obtain⟨a,b,c,d,rfl⟩:=XS hl
 ·skip
  obtain⟨y0,h0⟩:=hf 0 _ rfl
  obtain⟨y1,h1⟩:=hf 1 _ rfl
  obtain⟨y2,h2⟩:=hf 2 _ rfl
  rw[show Tryz.prog.cellsOf _=2 from by kernel_rfl]at h0
  rw[show Tryz.prog.cellsOf _=1 from by kernel_rfl]at h1 h2
  obtain⟨_,m2,Ce⟩:=nF Tryz.underlying25 h0
  obtain⟨z0,g0⟩:=Ce 0 _ rfl
  obtain⟨z1,g1⟩:=Ce 1 _ rfl
  rw[show Tryz.prog.cellsOf _=1 from by kernel_rfl]at g0 g1
  obtain⟨A0,n0,c0,f0,xs0,e0,k0,s0,o0⟩:=NX g0
  obtain⟨A1,n1,c1,f1,UI,e1,k1,s1,o1⟩:=NY g1
  obtain⟨A2,n2,c2,f2,d2,e2,k2,s2⟩:=xb h1
  obtain⟨t,e3,_⟩:=DataW.trod_int Tryz.underlying2 h2
  simp at e0 e1 e2 e3
  subst e0 e1 e2 e3
  exact⟨A0,n0,c0,f0,A1,n1,c1,f1,A2,n2,c2,f2,⟨⟨xs0,UI⟩,d2,t⟩,rfl,k0,s0,k1,s1,k2,s2,o0,o1⟩
end
end Go.Proofs.YtgoljkjaameagaaGreat

namespace Go.Proofs.YtgoljkjaameagaaGreat
open Go.ChangeShapes Go.WideShapes Go.ChangeAt Go.RowKit V
theorem Ut:ownKnob Tryz.prog.godebug=none:=by kernel_rfl
theorem KG:laidOutB Tryz.prog=true:=by kernel_rfl
theorem GP (l:List ae) (n:Int):∀L:List ae,((s8 l n L).map jh).sum=L.length*(3*(l.length+1)+2)
 |[]=>by simp[s8]
 |x::L=>by
  have ih:=GP l n L
  unfold s8 at ih ⊢
  simp only[List.map_cons,List.sum_cons,List.length_cons,jh,po,ih,Nat.add_mul,Nat.one_mul]
  omega
theorem Og (s:aM) (l:List ae):((Fu s l).1.map jh).sum<=1099511627776:=by
 unfold Fu
 split
 ·rename_i h0
  obtain⟨hP,hA⟩:=vQ.1 h0
  split
  ·simp
  ·have h1:=xc hP.set hA
   have h2:=hA.1.zW
   have h3:(lv s l).length*(3*(l.length+1)+2)<=320000*1505:=Nat.mul_le_mul h1 (by omega)
   (try dsimp only)
   rw[GP];omega
 ·simp
theorem On (s:aM) (a:eB) (hn:gJ s.aC):aw Tryz.prog 6 [.agg (aE s),.agg (bd a)] (.bool true):=
 NJ (fun s a=>Fu s a.aj) (fun s a hn hm _=>⟨_,.inr rfl,xY s a.aj hn hm.s.g hm.s.t⟩) (fun s a hn hm hl n=>xX s a.aj hn hm hl n) (fun s a _ _ hl=>Og s a.aj) s a hn
theorem Fz (os:Os) (started:os.Started) (H:Type) (enc:TypeId×Value->H):
  ReturnsInHanded {} Tryz.checked os 6 .any (Rows.fnExactStepChancesSpec.pre6 enc Tryz.prog Tryz.f6 Rows.fnExactStepChancesRow.domain false) (Rows.fnExactStepChancesSpec.post enc Tryz.prog Tryz.f6 false true false false):=by
 refine returnsInHanded_of_change (C:=Tryz.checked) Ut started (by kernel_rfl) Tryz.func6
  (ChangeSpec.witness6 (enc:=enc) (C:=Tryz.checked) false ⟨#[], #[.agg #[.slice none 0 0,.slice none 0 0,.slice none 0 0,.int .i64 0],.agg #[.slice none 0 0]],[]⟩ 8 (by kernel_rfl) (by kernel_rfl) (by kernel_rfl) (by kernel_rfl)) ?_
 intro W base args ds gs before Pd hW hcnd _
 have tt:∀(j:Nat) t v,Tryz.f6.params[j]? =some t->args[j]? =some v->Value.okWide Tryz.prog W .any base t v:=Pd
 have hW':=hW
 obtain⟨p,q,hA0,hV,rfl,Ah,lg⟩:=hW
 have hA:DataW.TrodAll enc Tryz.prog W 0 (fun _=>true) true Tryz.f6.params.toList args.toList ds p:=hA0
 rw[Tryz.params6]at hA tt
 obtain⟨v0,vs0,d0,ds0,p0,q0,n9,rfl,rfl,h0,r0⟩:=trodAll_cons hA
 obtain⟨v1,vs1,d1,ds1,p1,q1,rfl,rfl,rfl,h1,r1⟩:=trodAll_cons r0
 obtain⟨rfl,rfl,rfl⟩:=trodAll_nil r1
 obtain rfl:args= #[v0,v1]:=by cases args;simp_all
 obtain⟨rfl,rfl⟩:=trodVars_none hV
 obtain⟨R5,rfl,_⟩:=okWide_struct Tryz.underlying30 (tt 0 30 v0 rfl rfl)
 obtain⟨Wc,rfl,_⟩:=okWide_struct Tryz.underlying28 (tt 1 28 v1 rfl rfl)
 have k0:=h0
 have k1:=h1
 have lt0:∀x∈p0,x.block<W.heap.size:=by obtain⟨m,hm⟩:=k0;exact DataW.trod_lt m _ _ _ hm
 have lt1:∀x∈p1,x.block<W.heap.size:=by obtain⟨m,hm⟩:=k1;exact DataW.trod_lt m _ _ _ hm
 obtain⟨A0,n0,c0,f0,A1,n1,c1,f1,A2,n2,c2,f2,s,dz,w0,s0,w1,s1,w2,s2,o0,o1⟩:∃A0 n0 c0 f0 A1 n1 c1 f1 A2 n2 c2 f2,∃d:aM,(Value.agg R5).cells.toList=[.slice A0 n0 c0,.slice A1 n1 c1,.slice A2 n2 c2,.int .i64 d.aA]/\gi f0 0 W.heap.size/\rT W f0 (.slice A0 n0 c0) d.aC.aB/\gi f1 0 W.heap.size/\rU W f1 (.slice A1 n1 c1) d.aC.aj/\gi f2 0 W.heap.size/\jd W f2 (.slice A2 n2 c2) d.cC.aj/\(∀g∈d.aC.aB,g.aO.size<=9223372036854775807)/\∀t∈d.aC.aj,t.aO.size<=9223372036854775807:=by
  obtain⟨fuel,hf⟩:=h0
  exact KY hf
 obtain⟨A3,n3,c3,f3,a,Tt,w3,s3⟩:∃A n c f,∃d:eB,(Value.agg Wc).cells.toList=[.slice A n c]/\gi f 0 W.heap.size/\jd W f (.slice A n c) d.aj:=by
  obtain⟨fuel,hf⟩:=h1
  exact xb hf
 obtain rfl:R5= #[.slice A0 n0 c0,.slice A1 n1 c1,.slice A2 n2 c2,.int .i64 s.aA]:=by
  cases R5;simp[Value.cells]at dz;subst dz;rfl
 obtain rfl:Wc= #[.slice A3 n3 c3]:=by
  cases Wc;simp[Value.cells]at Tt;subst Tt;rfl
 clear hA0 Pd
 have gS:fb Tryz.prog W (fun b=>b<W.heap.size) (fun _=>none) [.agg (aE s),.agg (bd a)] #[.agg #[.slice A0 n0 c0,.slice A1 n1 c1,.slice A2 n2 c2,.int .i64 s.aA],.agg #[.slice A3 n3 c3]]:=by
  have h:=mV (DR s0 (fun b hb=>(w0 b hb).2) s1 (fun b hb=>(w1 b hb).2) s2 (fun b hb=>(w2 b hb).2)) (mV (zE s3 (fun b hb=>(w3 b hb).2)) (⟨rfl,fun j b hj=>by cases j<;>cases hj⟩:fb Tryz.prog W (fun b=>b<W.heap.size) (fun _=>none) [] #[]))
  simpa using h
 have iy:=Q6 mixed (On s a ⟨o0,o1⟩) gS
 clear s0 s1 s2 s3 w0 w1 w2 w3 gS
 refine(iy.mono fun e W' ⟨he,bel⟩=>?_)
 subst he
 exact⟨_,rfl,_,_,_,[],_,[],hW',trodAll_mk1 (shut_bool Tryz.underlying4 _),(trodAll_cons_mk (Below.trod KG (by kernel_rfl) (of_decide_eq_true (by kernel_rfl)) k0 bel lt0) (trodAll_cons_mk (Below.trod KG (by kernel_rfl) (of_decide_eq_true (by kernel_rfl)) k1 bel lt1) trodAll_mk0)),rfl,bel.frame _,fun h=>by cases h⟩
end Go.Proofs.YtgoljkjaameagaaGreat

namespace Go.Proofs.YtgoljkjaameagaaGreat
open Go.ChangeShapes Go.WideShapes Go.ChangeAt Go.RowKit
theorem scN:Tryz.pinned.checked.prog.funcNamed Rows.fnExactStepChancesRow.func=some 6:=by kernel_rfl
theorem scJ:joinedFacts Tryz.pinned.checked.prog 6 Tryz.f6 Rows.fnExactStepChancesSpec Rows.fnExactStepChancesRow=true:=by
 unfold joinedFacts
 repeat(with_reducible refine Bool.and_eq_true_iff.2 ⟨?_,by as_aux_lemma=>kernel_rfl⟩)
 as_aux_lemma=>kernel_rfl
theorem scI:Tryz.f6.isInstance Tryz.pinned.checked.prog Rows.fnExactStepChancesRow.origin Rows.fnExactStepChancesRow.targs:=of_decide_eq_true (by kernel_rfl)
theorem scW:Tryz.f6.isWrapper Tryz.pinned.checked.prog Rows.fnExactStepChancesRow.wrapper Rows.fnExactStepChancesRow.mainSum:=by
 unfold Func.isWrapper;first|(rw[if_pos (by decide+kernel)];kernel_rfl)|(rw[if_neg (by decide+kernel)];exact⟨rfl,rfl⟩)
theorem Lr:Rows.fnExactStepChancesRow.holds Tryz.pinned (OpenSpec.ofChange Rows.fnExactStepChancesSpec):=
 OpenClaim.holds_of_wide 6 Tryz.f6 rfl rfl rfl rfl rfl rfl rfl ⟨rfl,rfl,rfl,rfl,rfl⟩ rfl rfl rfl rfl rfl scN Tryz.func6 scJ scI scW
  (fun os started H enc _=>Fz os started H enc)
theorem fnExactStepChances_proved:Rows.FnExactStepChancesSaid:=Lr
end Go.Proofs.YtgoljkjaameagaaGreat
