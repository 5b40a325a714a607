/- The law of BlockMismatches, given that both sides answer alike. -/
import Derived.Test.YtkbipfflibjfbaaGreatBmC
import Derived.Test.YtkbipfflibjfbaaGreatBmB
set_option linter.unusedVariables false
set_option linter.unusedSimpArgs false
set_option maxRecDepth 100000
set_option maxHeartbeats 16000000
namespace Go.Proofs.YtkbipfflibjfbaaGreat.V
open Go.RowKit
attribute [local irreducible] ef wpOps gN Call
attribute [local go_sem] aH fJ eW fZ gh dh upd cD K.av cP AV.cells AV.cell rowOf rowsOf part ld rowAt bU cw dI ek iq bL de eD gj fq dx ew db da dW dY bR bd cU bQ cW cV er ez eu cR bV dc eo bP aL cY cI im br cH bz bc dB bo dF AV.undef bx bE dZ ej dV ec cJ eC eE cF eB eA cX cZ List.getD_cons_zero List.getD_cons_succ List.getD_nil List.all_cons List.all_nil Bool.and_true Bool.true_and Bool.and_self Bool.not_true Bool.not_false Option.map_some Option.map_none Option.bind_some Option.bind_none List.length_cons List.length_nil List.take_succ_cons List.take_zero List.take_nil List.drop_succ_cons List.drop_zero List.drop_nil List.head?_cons List.map_cons List.map_nil List.getElem?_cons_zero List.getElem?_cons_succ List.cons_append List.nil_append List.append_nil List.length_map List.set_cons_zero List.set_cons_succ Nat.reduceMul eq_self Int.toNat_natCast Int.natCast_nonneg and_self true_and and_true decide_true decide_false Bool.false_eq_true Nat.zero_add Nat.add_zero List.contains_cons List.contains_nil Bool.or_false Bool.false_or beq_self_eq_true Nat.reduceBEq ne_eq not_true_eq_false not_false_eq_true Id.mk.injEq false_and and_false Nat.reduceLT Int.reduceLE Int.reduceLT Int.reduceToNat Int.reduceNeg Int.reduceAdd Nat.le_refl List.length_append beq_true beq_false Bool.not_eq_eq_eq_not or_false false_or dM ai ao aD bt cz aY bj aV bf cL bJ
theorem MS (OO:cj->dD->Int->List ah×Int)
  (S7:∀s a k,gy s.aC->rM s->a.aj.length<=1048576->∃w0,oO ab (OO s a k).1 w0/\lS Tryz.prog 19 [.agg (aA s),.agg (aP a),.int .i64 k] (.iJ [w0,.int .i64 (OO s a k).2]))
  (SP:∀s a k,gy s.aC->rM s->a.aj.length<=1048576->∀n:Nat,Call Tryz.prog 21 [.agg (aA s),.agg (aP a),.int .i64 k] ⟨fun _=>none,n⟩ (fun r σ'=>∃ids,(∃v0 i0,r=.iJ [v0,.int .i64 (OO s a k).2]/\oC σ'.get v0 (OO s a k).1 i0/\ids=i0)/\e8 n σ'.next ids))
  (Ob:∀s a k,gy s.aC->rM s->a.aj.length<=1048576->(OO s a k).1.length<=1099511627776)
  (s:cj) (a:dD) (k:Int) (hn:gy s.aC):ak Tryz.prog 4 [.agg (aA s),.agg (aP a),.int .i64 k] (.bool true):=by
 refine ak.body eM rfl fun hl n0=>?_
 clear hl
 have h1:=Fk s 1048576 ae ae hn
 by_cases N2:((xC s:Nat):Int)<=1048576
 ·rw[jj N2]at h1
  have G6:¬(1048576:Int)-((xC s:Nat):Int)<0:=ae
  have h2:=sH a (1048576-((xC s:Nat):Int)) ae ae
  by_cases N3:((a.aj.length:Nat):Int)<=1048576-((xC s:Nat):Int)
  ·rw[jj N3]at h2
   have PH:¬(1048576:Int)-((xC s:Nat):Int)-((a.aj.length:Nat):Int)<0:=ae
   have sm:=HU (s:=s) ae
   have ma:a.aj.length<=1048576:=ae
   have t1:=Fs s sm
   have t2:=sL a ma
   obtain⟨w0,It,r1⟩:=S7 s a k hn sm ma
   have r2:=SP s a k hn sm ma
   have q1:=DX s
   have q2:=zV a
   have Sm:=Ob s a k hn sm ma
   obtain⟨L0,hR0⟩:∃R,(OO s a k).1=R:=⟨_,rfl⟩
   obtain⟨c1,Sn⟩:∃R,(OO s a k).2=R:=⟨_,rfl⟩
   simp only[hR0,Sn]at r1 r2 It Sm
   have o1:=fun σ=>Fq s sm σ
   rw[aA]at o1
   have o2:=fun σ=>sK a ma σ
   rw[aP]at o2
   have Lh:decide (c1=c1)=true:=by simp
   rw[aA]at h1
   rw[aP]at h2
   (repeat(first|((repeat(revert hN;revert N;apply Pn.out));refine wk (tw @aA.eq_1 (tw @aP.eq_1 (tw @G6 @PH))) ?_;(repeat(refine Pn.mk ?_;intro N hN)))|((try apply Or.inl);refine⟨_,ak.x (h1) (sd (tw @aA.eq_1 (tw @aP.eq_1 (tw @G6 @PH)))),?_⟩;refine hN _ _ ?_;clear hN N)|((try apply Or.inl);refine⟨_,ak.x (h2) (sd (tw @aA.eq_1 (tw @aP.eq_1 (tw @G6 @PH)))),?_⟩;refine hN _ _ ?_;clear hN N)))
   refine⟨_,lS.x (by rw[aA]at t1;exact t1) _,?_⟩
   refine hN _ _ ?_
   clear hN N
   (try((repeat(revert hN;revert N;apply Pn.out));refine wk (tw @aA.eq_1 @aP.eq_1) ?_;(repeat(refine Pn.mk ?_;intro N hN))))
   refine⟨_,lS.x (by rw[aP]at t2;exact t2) _,?_⟩
   refine hN _ _ ?_
   clear hN N
   (try((repeat(revert hN;revert N;apply Pn.out));refine wk @Nat.zero_add ?_;(repeat(refine Pn.mk ?_;intro N hN))))
   refine⟨_,lS.x (by rw[aA,aP]at r1;exact r1) _,?_⟩
   refine hN _ _ ?_
   clear hN N
   (try((repeat(revert hN;revert N;apply Pn.out));refine wk @Nat.zero_add ?_;(repeat(refine Pn.mk ?_;intro N hN))))
   refine .inr (aU _ _ _ _ _ (fun r' σ1 hq=>?_) (o1 _))
   obtain⟨is,Hs,Ns,Ks⟩:=hq
   obtain⟨g1,x1⟩:=σ1
   (try dsimp only at Hs Ns Ks)
   obtain⟨As,Bs,Cs,j1s,j2s,j3s,rfl,hAs,FR,hCs,-⟩:=Hs.ex
   obtain⟨oAs,rfl⟩:=hAs.lG
   obtain⟨oBs,rfl⟩:=FR.lG
   obtain⟨oCs,rfl⟩:=hCs.lG
   clear hAs FR hCs
   have ns:=Ks.1
   have bs:=Ns.2
   (try dsimp only at ns bs)
   have Pa:=Ks.2 ⟨4000000,n0⟩ bW
   have Pb:=Ks.2 ⟨4000001,n0⟩ bW
   simp only[go_sem, ↓reduceIte,Nat.reduceEqDiff,Nat.reduceAdd,Nat.reduceSub,Nat.reduceLeDiff,reduceCtorEq]at Pa Pb
   clear Ks
   refine hN _ _ ?_
   clear hN N
   (try((repeat(revert hN;revert N;apply Pn.out));refine wk (tw @Pa @Pb) ?_;(repeat(refine Pn.mk ?_;intro N hN))))
   refine .inr (aU _ _ _ _ _ (fun r' σ2 hq=>?_) (o2 _))
   obtain⟨ia,Ha,Na,Ka⟩:=hq
   obtain⟨g2,x2⟩:=σ2
   (try dsimp only at Ha Na Ka)
   obtain⟨Da,hDa⟩:=Ha
   obtain⟨rfl,Vf⟩:=hDa
   obtain⟨oDa,rfl⟩:=Vf.lG
   have Ha:zD g2 (.agg [.own oDa 0 a.aj.length]) a ia:=⟨_,rfl,Vf⟩
   clear Vf
   have na:=Ka.1
   have ba:=Na.2
   (try dsimp only at na ba)
   have Q5:∀i:Id,i.cC<x1->g2 i=g1 i:=fun i hi=>by
    have h4:=Ka.2 i bW
    have h5:=eX (i:=i) (n:=x1) hi
    simp only[go_sem, ↓reduceIte,Nat.reduceEqDiff,Nat.reduceAdd,Nat.reduceSub,Nat.reduceLeDiff,reduceCtorEq,h5]at h4
    exact h4
   have RZ:=(Q5 ⟨4000000,n0⟩ bW).trans Pa
   have R0:=(Q5 ⟨4000001,n0⟩ bW).trans Pb
   have Pc:=Ka.2 ⟨4009002,x1⟩ bW
   simp only[go_sem, ↓reduceIte,Nat.reduceEqDiff,Nat.reduceAdd,Nat.reduceSub,Nat.reduceLeDiff,reduceCtorEq]at Pc
   have Hs:=Hs.frame (g':=g2) fun i hi=>Q5 i (by have:=bs i hi;omega)
   clear Ka
   refine hN _ _ ?_
   clear hN N
   (try((repeat(revert hN;revert N;apply Pn.out));refine wk (tw @RZ (tw @R0 @Pc)) ?_;(repeat(refine Pn.mk ?_;intro N hN))))
   refine .inr (aU _ _ _ _ _ (fun r' σ3 hq=>?_) (Gr mixed (K:=fun r g ids=>(∃v0 i0,r=.iJ [v0,.int .i64 c1]/\oC g v0 L0 i0/\ids=i0)) (by
    rintro r g ids ⟨v0,i0,rfl,k0,rfl⟩
    exact⟨by simp[DQ,GG k0.clean,DP,BN],(k0.hand)⟩) (by
    rintro r g g' ids ⟨v0,i0,rfl,k0,rfl⟩ hf
    exact⟨v0,ids,rfl,k0.frame (fun i hi=>hf i (by simp[hi])),rfl⟩) r2 (Sb ((Hs.frame fun i hi=>by
    have h5:=eX (i:=i) (n:=x2) (by have:=bs i hi;omega)
    simp only[go_sem, ↓reduceIte,Nat.reduceEqDiff,Nat.reduceAdd,Nat.reduceSub,Nat.reduceLeDiff,reduceCtorEq,h5]).fz 1) ((Ha.frame fun i hi=>by
    have h5:=eX (i:=i) (n:=x2) (by have:=ba i hi;omega)
    simp only[go_sem, ↓reduceIte,Nat.reduceEqDiff,Nat.reduceAdd,Nat.reduceSub,Nat.reduceLeDiff,reduceCtorEq,h5]).fz 2) (aD _ _ _ _))))
   obtain⟨iZ,⟨v0,iZ0,rfl,Z0,rfl⟩,NZ,KZ⟩:=hq
   obtain⟨g3,x3⟩:=σ3
   (try dsimp only at Z0 NZ KZ)
   have nZ:=KZ.1
   (try dsimp only at nZ)
   have N0:=NZ
   have b0:=N0.2
   (try dsimp only at b0)
   have R8:∀i:Id,i.cC<x2->g3 i=g2 i:=fun i hi=>by
    have h4:=KZ.2 i bW
    have h5:=eX (i:=i) (n:=x2) hi
    simp only[go_sem, ↓reduceIte,Nat.reduceEqDiff,Nat.reduceAdd,Nat.reduceSub,Nat.reduceLeDiff,reduceCtorEq,h5]at h4
    exact h4
   have DY:=(R8 ⟨4000000,n0⟩ bW).trans RZ
   have DZ:=(R8 ⟨4000001,n0⟩ bW).trans R0
   have G0:=(R8 ⟨4009002,x1⟩ bW).trans Pc
   have BX:=KZ.2 ⟨4010002,x2⟩ bW
   simp only[go_sem, ↓reduceIte,Nat.reduceEqDiff,Nat.reduceAdd,Nat.reduceSub,Nat.reduceLeDiff,reduceCtorEq]at BX
   have Hs:=Hs.frame (g':=g3) fun i hi=>R8 i (by have:=bs i hi;omega)
   have Ha:=Ha.frame (g':=g3) fun i hi=>R8 i (by have:=ba i hi;omega)
   clear KZ
   refine hN _ _ ?_
   clear hN N
   (try((repeat(revert hN;revert N;apply Pn.out));refine wk (tw @DY (tw @DZ (tw @G0 @BX))) ?_;(repeat(refine Pn.mk ?_;intro N hN))))
   refine .inl ⟨_,ak.x (vW Z0.Hw It) (xx ((Z0.frame fun i hi=>by
    have h5:=eX (i:=i) (n:=x3) (by have:=b0 i hi;omega)
    simp only[go_sem, ↓reduceIte,Nat.reduceEqDiff,Nat.reduceAdd,Nat.reduceSub,Nat.reduceLeDiff,reduceCtorEq,h5]).Q6) (It.fz _)),?_⟩
   refine hN _ _ ?_
   clear hN N
   (try((repeat(revert hN;revert N;apply Pn.out));refine wk (tw @DY (tw @DZ (tw @G0 (tw @BX @Lh)))) ?_;(repeat(refine Pn.mk ?_;intro N hN))))
   refine⟨_,lS.x (by rw[aA]at t1;exact t1) _,?_⟩
   refine hN _ _ ?_
   clear hN N
   (try((repeat(revert hN;revert N;apply Pn.out));refine wk (tw @DY (tw @DZ (tw @G0 (tw @BX @Lh)))) ?_;(repeat(refine Pn.mk ?_;intro N hN))))
   refine⟨_,ak.x (by rw[aA]at q1;exact q1) (by rw[<-aA];exact Nw (Hs.frame fun i hi=>by
    have h5:=eX (i:=i) (n:=x3) (by have:=bs i hi;omega)
    simp only[go_sem, ↓reduceIte,Nat.reduceEqDiff,Nat.reduceAdd,Nat.reduceSub,Nat.reduceLeDiff,reduceCtorEq,h5]) (FK _ _)),?_⟩
   refine hN _ _ ?_
   clear hN N
   (try((repeat(revert hN;revert N;apply Pn.out));refine wk (tw @DY (tw @DZ (tw @G0 (tw @BX @Lh)))) ?_;(repeat(refine Pn.mk ?_;intro N hN))))
   refine⟨_,lS.x (by rw[aP]at t2;exact t2) _,?_⟩
   refine hN _ _ ?_
   clear hN N
   (try((repeat(revert hN;revert N;apply Pn.out));refine wk (tw @DY (tw @DZ (tw @G0 (tw @BX @Lh)))) ?_;(repeat(refine Pn.mk ?_;intro N hN))))
   refine⟨_,ak.x (by rw[aP]at q2;exact q2) (by rw[<-aP];exact LN (Ha.frame fun i hi=>by
    have h5:=eX (i:=i) (n:=x3) (by have:=ba i hi;omega)
    simp only[go_sem, ↓reduceIte,Nat.reduceEqDiff,Nat.reduceAdd,Nat.reduceSub,Nat.reduceLeDiff,reduceCtorEq,h5]) (FJ _ _)),?_⟩
   refine hN _ _ ?_
   clear hN N
   (try((repeat(revert hN;revert N;apply Pn.out));refine wk (tw @DY (tw @DZ (tw @G0 (tw @BX @Lh)))) ?_;(repeat(refine Pn.mk ?_;intro N hN))))
   have PO:=MX s
   refine .inr (aU _ _ _ _ _ (fun r' σ4 hq=>?_) (HB _ s _ 1 ae sm.s.t ae _ (fun i hi=>by have:=bs i hi;(try dsimp only);omega) Ns.1 (Hs.frame fun i hi=>by
    have h5:=eX (i:=i) (n:=x3) (by have:=bs i hi;omega)
    simp only[go_sem, ↓reduceIte,Nat.reduceEqDiff,Nat.reduceAdd,Nat.reduceSub,Nat.reduceLeDiff,reduceCtorEq,h5])))
   obtain⟨rfl,hM⟩:=hq
   obtain⟨g4,x4⟩:=σ4
   (try dsimp only at hM)
   have nM4:=hM.1
   (try dsimp only at nM4)
   have R9:∀i:Id,i.cC<x3->i∉is->g4 i=g3 i:=fun i hi hx=>hM.2 i bW hx
   have R3:=(R9 ⟨4000000,n0⟩ bW (Ns.not bW)).trans DY
   have R4:=(R9 ⟨4000001,n0⟩ bW (Ns.not bW)).trans DZ
   have U3:=(R9 ⟨4010002,x2⟩ bW (Ns.not bW)).trans BX
   have Ha:=Ha.frame (g':=g4) fun i hi=>R9 i (by have:=ba i hi;omega) (Ns.not (by have:=ba i hi;omega))
   have Z0:=Z0.frame (g':=g4) fun i hi=>R9 i (by have:=b0 i hi;omega) (Ns.not (by have:=b0 i hi;omega))
   clear hM
   refine hN _ _ ?_
   clear hN N
   (try((repeat(revert hN;revert N;apply Pn.out));refine wk (tw @R3 (tw @R4 @U3)) ?_;(repeat(refine Pn.mk ?_;intro N hN))))
   refine .inr (aU _ _ _ _ _ (fun r' σ5 hq=>?_) (zj _ a _ (1+CG s) ae ae _ (fun i hi=>by have:=ba i hi;(try dsimp only);omega) Ha))
   obtain⟨rfl,hM⟩:=hq
   obtain⟨g5,x5⟩:=σ5
   (try dsimp only at hM)
   have nM5:=hM.1
   (try dsimp only at nM5)
   have U6:∀i:Id,i.cC<x4->i∉ia->g5 i=g4 i:=fun i hi hx=>hM.2 i bW hx
   have Pd:=(U6 ⟨4000000,n0⟩ bW (Na.not bW)).trans R3
   have Pe:=(U6 ⟨4000001,n0⟩ bW (Na.not bW)).trans R4
   have Z0:=Z0.frame (g':=g5) fun i hi=>U6 i (by have:=b0 i hi;omega) (Na.not (by have:=b0 i hi;omega))
   clear hM
   have e3:decide (1+((CG s:Nat):Int)+3*(a.aj.length:Int)<0)=false:=decide_eq_false ae
   refine hN _ _ ?_
   clear hN N
   (try((repeat(revert hN;revert N;apply Pn.out));refine wk (tw @Pd (tw @Pe @e3)) ?_;(repeat(refine Pn.mk ?_;intro N hN))))
   refine .inl ⟨_,ak.x (vW Z0.Hw It) (xx (Z0.Q6) (It.fz _)),?_⟩
   refine hN _ _ ?_
   clear hN N
   (try((repeat(revert hN;revert N;apply Pn.out));refine wk (tw @Pd (tw @Pe (tw @Lh @e3))) ?_;(repeat(refine Pn.mk ?_;intro N hN))))
   refine .inr (aU _ _ _ _ _ (fun r' σ6 hq=>?_) (J6 1 ae ae _ (fun i hi=>by have:=b0 i hi;(try dsimp only);omega) Z0))
   obtain⟨rfl,hM,Y0⟩:=hq
   obtain⟨g6,x6⟩:=σ6
   (try dsimp only at hM Y0)
   have nM6:=hM.1
   (try dsimp only at nM6)
   have fr6:∀i:Id,i.cC<x5->i∉iZ->g6 i=g5 i:=fun i hi hx=>hM.2 i bW hx
   have D4:=(fr6 ⟨4000000,n0⟩ bW (N0.not bW)).trans Pd
   have D5:=(fr6 ⟨4000001,n0⟩ bW (N0.not bW)).trans Pe
   clear hM
   refine hN _ _ ?_
   clear hN N
   (try((repeat(revert hN;revert N;apply Pn.out));refine wk (tw @D4 @D5) ?_;(repeat(refine Pn.mk ?_;intro N hN))))
   have TU:decide (1+3*(L0.length:Int)<0)=false:=decide_eq_false ae
   refine .inl ⟨_,ak.x (yY 1 L0.length ae ae Y0.Hw) (xx (Y0.Q6) (aD _ _ _ _)),?_⟩
   refine hN _ _ ?_
   clear hN N
   have e5:decide (1+3*(L0.length:Int)=1+3*(L0.length:Int))=true:=decide_eq_true rfl
   (try((repeat(revert hN;revert N;apply Pn.out));refine wk (tw @D4 (tw @D5 (tw @TU @e5))) ?_;(repeat(refine Pn.mk ?_;intro N hN))))
   refine⟨_,lS.x (by rw[aA]at t1;exact t1) _,?_⟩
   refine hN _ _ ?_
   clear hN N
   (try((repeat(revert hN;revert N;apply Pn.out));refine wk (tw @D4 (tw @D5 (tw @TU @e5))) ?_;(repeat(refine Pn.mk ?_;intro N hN))))
   refine⟨_,lS.x (by rw[aP]at t2;exact t2) _,?_⟩
   refine hN _ _ ?_
   clear hN N
   (try((repeat(revert hN;revert N;apply Pn.out));refine wk (tw @D4 (tw @D5 (tw @TU @e5))) ?_;(repeat(refine Pn.mk ?_;intro N hN))))
   have rs:ak Tryz.prog 21 [.agg (aA s),.agg (aP a),.int .i64 k] (.iJ [xK ab L0,.int .i64 c1]):=fun n=>aU _ _ _ _ _ (fun r σ' hq=>by
    obtain⟨ids,⟨v0,i0,rfl,k0,rfl⟩,-⟩:=hq
    exact⟨_,by simp only[eV,aI,aW,jR,k0.s,dw,fH,Option.map_some]<;>rfl,rfl⟩) (r2 n)
   refine⟨_,ak.x (by rw[aA,aP]at rs;exact rs) (Sb (by rw[<-aA];exact FK _ _) (by rw[<-aP];exact FJ _ _) (aD _ _ _ _)),?_⟩
   refine hN _ _ ?_
   clear hN N
   have Ev:=(Kd (e:=ab) (L:=L0))
   generalize xK ab L0=u0 at Ev ⊢
   (try((repeat(revert hN;revert N;apply Pn.out));refine wk (tw @D4 (tw @D5 @Lh)) ?_;(repeat(refine Pn.mk ?_;intro N hN))))
   refine .inl ⟨_,ak.x (vW Ev It) (xx (Ev.fz _) (It.fz _)),?_⟩
   refine hN _ _ ?_
   clear hN N
   (try((repeat(revert hN;revert N;apply Pn.out));refine wk (tw @D4 (tw @D5 @Lh)) ?_;(repeat(refine Pn.mk ?_;intro N hN))))
   refine .inl ⟨_,ak.x (yY 1 L0.length ae ae Y0.Hw) (xx ((Y0.frame fun i hi=>by
    have h5:=eX (i:=i) (n:=x6) (by have:=b0 i hi;omega)
    simp only[go_sem, ↓reduceIte,Nat.reduceEqDiff,Nat.reduceAdd,Nat.reduceSub,Nat.reduceLeDiff,reduceCtorEq,h5]).Q6) (aD _ _ _ _)),?_⟩
   refine hN _ _ ?_
   clear hN N
   (try((repeat(revert hN;revert N;apply Pn.out));refine wk (tw @D4 (tw @D5 (tw @TU @e5))) ?_;(repeat(refine Pn.mk ?_;intro N hN))))
   exact aZ (b:=true) (.inl rfl) (sd @Nat.zero_add) rfl
  ·rw[js N3]at h2
   rw[aA]at h1
   rw[aP]at h2
   (repeat(first|((repeat(revert hN;revert N;apply Pn.out));refine wk (tw @aA.eq_1 (tw @aP.eq_1 @G6)) ?_;(repeat(refine Pn.mk ?_;intro N hN)))|((try apply Or.inl);refine⟨_,ak.x (h1) (sd (tw @aA.eq_1 (tw @aP.eq_1 @G6))),?_⟩;refine hN _ _ ?_;clear hN N)|((try apply Or.inl);refine⟨_,ak.x (h2) (sd (tw @aA.eq_1 (tw @aP.eq_1 @G6))),?_⟩;refine hN _ _ ?_;clear hN N)))
   exact aZ (b:=true) (.inl rfl) (sd @Nat.zero_add) rfl
 ·rw[js N2]at h1
  rw[aA]at h1
  (repeat(first|((repeat(revert hN;revert N;apply Pn.out));refine wk (tw @aA.eq_1 @aP.eq_1) ?_;(repeat(refine Pn.mk ?_;intro N hN)))|((try apply Or.inl);refine⟨_,ak.x (h1) (sd (tw @aA.eq_1 @aP.eq_1)),?_⟩;refine hN _ _ ?_;clear hN N)))
  exact aZ (b:=true) (.inl rfl) (sd @Nat.zero_add) rfl
theorem Cw (a b:Nat):ak Tryz.prog 185 [.int .i64 a,.int .i64 b] (.int .i64 (min a b:Nat)):=by
 refine ak.body eM rfl fun hl n0=>?_
 clear hl
 by_cases h:(a:Int)<(b:Int)
 ·(try((repeat(revert hN;revert N;apply Pn.out));refine wk @h ?_;(repeat(refine Pn.mk ?_;intro N hN))))
  exact cu (b:=(a:Int)) (.inl rfl) (sd @Nat.zero_add) ae
 ·(try((repeat(revert hN;revert N;apply Pn.out));refine wk @h ?_;(repeat(refine Pn.mk ?_;intro N hN))))
  exact cu (b:=(b:Int)) (.inl rfl) (sd @Nat.zero_add) ae
theorem Cv (a b:Nat):ak Tryz.prog 186 [.int .i64 a,.int .i64 b] (.int .i64 (max a b:Nat)):=by
 refine ak.body eM rfl fun hl n0=>?_
 clear hl
 by_cases h:(b:Int)<(a:Int)
 ·(try((repeat(revert hN;revert N;apply Pn.out));refine wk @h ?_;(repeat(refine Pn.mk ?_;intro N hN))))
  exact cu (b:=(a:Int)) (.inl rfl) (sd @Nat.zero_add) ae
 ·(try((repeat(revert hN;revert N;apply Pn.out));refine wk @h ?_;(repeat(refine Pn.mk ?_;intro N hN))))
  exact cu (b:=(b:Int)) (.inl rfl) (sd @Nat.zero_add) ae
def dU (f:Nat->Nat) (n:Nat):List (List AV):=(List.range n).map fun i=>eN (f i)
theorem gD (f:Nat->Nat) (n:Nat):(dU f n).length=n:=by simp[dU]
theorem fG {f:Nat->Nat} {n i:Nat} (h:i<n):(dU f n)[i]? =some (eN (f i)):=by simp[dU,h]
theorem iG {f g:Nat->Nat} {n:Nat} (h:∀i,i<n->f i=g i):dU f n=dU g n:=List.map_congr_left fun i hi=>by rw[h i (List.mem_range.1 hi)]
theorem qd {f g:Nat->Nat} {n k v:Nat} (hk:k<n) (hv:g k=v) (h:∀i,i<n->i≠k->g i=f i):(dU f n).set k (eN v)=dU g n:=by
 refine List.ext_getElem? fun i=>?_
 rw[List.getElem?_set]
 by_cases hi:k=i
 ·subst hi
  rw[if_pos rfl,gD,if_pos hk,fG hk,hv]
 ·rw[if_neg hi]
  by_cases fB:i<n
  ·rw[fG fB,fG fB,h i fB (fun h=>hi h.symm)]
  ·rw[List.getElem?_eq_none (by rw[gD];omega),List.getElem?_eq_none (by rw[gD];omega)]
theorem Cx (cnt:Nat) (hn:cnt<=1048576) (bs:List PB) (hb:∀b∈bs,b.a<cnt/\b.b<cnt) (ke:bs.length<=1048576):ak Tryz.prog 184 [.int .i64 cnt,.sl (bs.map ay)] (.sl ((fI cnt (eR bs)).map Bb)):=by
 refine ak.body eM rfl fun hl n0=>?_
 clear hl
 (try((repeat(revert hN;revert N;apply Pn.out));refine wk @Nat.zero_add ?_;(repeat(refine Pn.mk ?_;intro N hN))))
 refine aT (fun n env st=>∃k:Nat,n=(cnt)-k/\k<=(cnt)/\env 6=.int .i64 (k:Int)/\(∃o:Id,env 5=.own o 0 k/\st.get o=some ⟨true,1,dU id k⟩/\o.cC<st.next)) (cnt) ⟨0,ae,ae,sl @Nat.zero_add,⟨⟨184001000,n0+1⟩,sd @Nat.zero_add,by simp only[go_sem, ↓reduceIte,Nat.reduceEqDiff,Nat.reduceAdd,Nat.reduceSub,Nat.reduceLeDiff,reduceCtorEq];rfl,bW⟩⟩ ?_
 rintro n_a env_a st_a ⟨k,rfl,ale,a6,kB⟩ dr
 have a0:=dr 0 (by kernel_rfl);have a1:=dr 1 (by kernel_rfl)
 simp only[go_sem, ↓reduceIte,Nat.reduceEqDiff,Nat.reduceAdd,Nat.reduceSub,Nat.reduceLeDiff,reduceCtorEq]at a0 a1
 clear dr
 obtain⟨o,a5,ag,r9⟩:=kB
 have tl:=gD id k
 have rh:=eX r9
 by_cases hk:(k:Int)<(cnt:Int)
 ·have bZ:∀{e:Env} {gg:Rows} {nx:Nat},(e 6=.int .i64 (IntKind.i64.wrap ((k:Int)+1)))->(∃o:Id,e 5=.own o 0 (k+1)/\gg o=some ⟨true,1,dU id (k+1)⟩/\o.cC<nx)->∃m0,m0<(cnt)-k/\∃k:Nat,m0=(cnt)-k/\k<=(cnt)/\e 6=.int .i64 (k:Int)/\(∃o:Id,e 5=.own o 0 k/\gg o=some ⟨true,1,dU id k⟩/\o.cC<nx):=fun x1 x2=>⟨_,ae,k+1,rfl,ae,(by rw[x1,aB ae]),x2⟩
  have fK:k<cnt:=ae
  have e1:k+1<=16777216:=ae
  have qo:dU id k++[[.int .i64 (k:Int)]]=dU id (k+1):=by simp[dU,List.range_succ,eN]
  (try((repeat(revert hN;revert N;apply Pn.out));refine wk (tw @a6 (tw @a0 (tw @a1 (tw @a5 (tw @ag (tw @rh (tw @hk (tw @tl (tw @e1 @qo))))))))) ?_;(repeat(refine Pn.mk ?_;intro N hN))))
  exact bZ (sd (tw @a6 (tw @a0 @a1))) (⟨⟨184005003,st_a.next+1⟩,sd @Nat.zero_add,sd @qo,bW⟩)
 have mQ:k=cnt:=ae
 subst mQ
 have VW:st_a.get o=some ⟨true,1,dU (eR (bs.take 0)) k⟩:=ag
 clear ag
 (try((repeat(revert hN;revert N;apply Pn.out));refine wk (tw @a6 (tw @a0 (tw @a1 @hk))) ?_;(repeat(refine Pn.mk ?_;intro N hN))))
 refine aT (fun n env st=>∃j:Nat,n=(bs.length)-j/\j<=(bs.length)/\env 7=.int .i64 (j:Int)/\st.get o=some ⟨true,1,dU (eR (bs.take j)) k⟩/\(o.cC<st.next)) (bs.length) ⟨0,ae,ae,sl (tw @a6 (tw @a0 (tw @a1 (tw @a5 @VW)))),sl (tw @a6 (tw @a0 (tw @a1 (tw @a5 @VW)))),bW⟩ ?_
 rintro n_b env_b st_b ⟨j,rfl,ble,b7,bg0,bI0⟩ bfr
 have b0:=bfr 0 (by kernel_rfl);have b1:=bfr 1 (by kernel_rfl);have b5:=bfr 5 (by kernel_rfl)
 simp only[go_sem, ↓reduceIte,Nat.reduceEqDiff,Nat.reduceAdd,Nat.reduceSub,Nat.reduceLeDiff,reduceCtorEq,a6,a0,a1,a5,VW]at b0 b1 b5
 clear bfr
 by_cases hj:(j:Int)<(bs.length:Int)
 ·have gY:∀{e:Env} {gg:Rows} {nx:Nat},(e 7=.int .i64 (IntKind.i64.wrap ((j:Int)+1)))->(gg o=some ⟨true,1,dU (eR (bs.take (j+1))) k⟩)->(o.cC<nx)->∃m0,m0<(bs.length)-j/\∃j:Nat,m0=(bs.length)-j/\j<=(bs.length)/\e 7=.int .i64 (j:Int)/\gg o=some ⟨true,1,dU (eR (bs.take j)) k⟩/\(o.cC<nx):=fun x1 x2 x3=>⟨_,ae,j+1,rfl,ae,(by rw[x1,aB ae]),x2,x3⟩
  have jI:j<bs.length:=ae
  have FX:(bs.map ay)[j]? =some (ay bs[j]):=by simp[jI]
  have NX:=hb _ (List.getElem_mem jI)
  have oA:bs.take (j+1)=bs.take j++[bs[j]]:=List.take_succ_eq_append_getElem jI
  have iL:eR (bs.take (j+1))=eY (eR (bs.take j)) bs[j]:=by rw[oA,wM]
  generalize eR (bs.take j)=L at *
  generalize bs[j]=b at *
  have hA:=fG (f:=L) NX.1
  have hB:=fG (f:=L) NX.2
  have T5:=Cw (L b.a) (L b.b)
  have T6:=Cv (L b.a) (L b.b)
  have tl:=gD L k
  have gU:(b.a:Int)<(k:Int):=ae
  have fE:(b.b:Int)<(k:Int):=ae
  (try((repeat(revert hN;revert N;apply Pn.out));refine wk (tw @b7 (tw @bg0 (tw @b0 (tw @b1 (tw @b5 (tw @hj (tw @FX (tw @ay.eq_1 (tw @hA (tw @hB (tw @gU (tw @fE (tw @tl @eN.eq_1))))))))))))) ?_;(repeat(refine Pn.mk ?_;intro N hN))))
  refine aT (fun n env st=>∃i:Nat,n=(k)-i/\i<=(k)/\env 10=.int .i64 (i:Int)/\st.get o=some ⟨true,1,dU (fun x=>if x<i then eY L b x else L x) k⟩/\(o.cC<st.next)) (k) ⟨0,ae,ae,sl (tw @b7 (tw @bg0 (tw @b0 (tw @b1 (tw @b5 @Nat.not_lt_zero))))),sl (tw @b7 (tw @bg0 (tw @b0 (tw @b1 (tw @b5 @Nat.not_lt_zero))))),bW⟩ ?_
  rintro n_c env_c st_c ⟨i,rfl,cle,j6,cg0,cI0⟩ cfr
  have c0:=cfr 0 (by kernel_rfl);have c1:=cfr 1 (by kernel_rfl);have c5:=cfr 5 (by kernel_rfl);have c7:=cfr 7 (by kernel_rfl);have c8:=cfr 8 (by kernel_rfl);have c9:=cfr 9 (by kernel_rfl)
  simp only[go_sem, ↓reduceIte,Nat.reduceEqDiff,Nat.reduceAdd,Nat.reduceSub,Nat.reduceLeDiff,reduceCtorEq,b7,bg0,b0,b1,b5,Nat.not_lt_zero]at c0 c1 c5 c7 c8 c9
  clear cfr
  have hC:=fG (f:=fun x=>if x<i then eY L b x else L x) (n:=k) (i:=i)
  have tc:=gD (fun x=>if x<i then eY L b x else L x) k
  by_cases hi:(i:Int)<(k:Int)
  ·have iM:∀{e:Env} {gg:Rows} {nx:Nat},(e 10=.int .i64 (IntKind.i64.wrap ((i:Int)+1)))->(gg o=some ⟨true,1,dU (fun x=>if x<(i+1)then eY L b x else L x) k⟩)->(o.cC<nx)->∃m0,m0<(k)-i/\∃i:Nat,m0=(k)-i/\i<=(k)/\e 10=.int .i64 (i:Int)/\gg o=some ⟨true,1,dU (fun x=>if x<i then eY L b x else L x) k⟩/\(o.cC<nx):=fun x1 x2 x3=>⟨_,ae,i+1,rfl,ae,(by rw[x1,aB ae]),x2,x3⟩
   have fB:i<k:=ae
   replace hC:=hC fB
   rw[if_neg (Nat.lt_irrefl i)]at hC
   by_cases he:L i=max (L b.a) (L b.b)
   ·have uY:decide ((L i:Int)=((max (L b.a) (L b.b):Nat):Int))=true:=decide_eq_true (by rw[he])
    have ei:(dU (fun x=>if x<i then eY L b x else L x) k).set i (eN (min (L b.a) (L b.b)))=dU (fun x=>if x<i+1 then eY L b x else L x) k:=qd fB (by rw[if_pos ae,eY,if_pos he]) fun x hx Du=>by
     by_cases h:x<i
     ·rw[if_pos h,if_pos ae]
     ·rw[if_neg h,if_neg ae]
    rw[eN]at ei hC
    (repeat(first|((repeat(revert hN;revert N;apply Pn.out));refine wk (tw @j6 (tw @cg0 (tw @c0 (tw @c1 (tw @c5 (tw @c7 (tw @c8 (tw @c9 (tw @hi (tw @hC (tw @tc (tw @uY @ei)))))))))))) ?_;(repeat(refine Pn.mk ?_;intro N hN)))|((try apply Or.inl);refine⟨_,ak.x (T5) (sd (tw @j6 (tw @cg0 (tw @c0 (tw @c1 (tw @c5 (tw @c7 (tw @c8 (tw @c9 (tw @hi (tw @hC (tw @tc (tw @uY @ei))))))))))))),?_⟩;refine hN _ _ ?_;clear hN N)|((try apply Or.inl);refine⟨_,ak.x (T6) (sd (tw @j6 (tw @cg0 (tw @c0 (tw @c1 (tw @c5 (tw @c7 (tw @c8 (tw @c9 (tw @hi (tw @hC (tw @tc (tw @uY @ei))))))))))))),?_⟩;refine hN _ _ ?_;clear hN N)))
    refine iM ?_ ?_ bW
    all_goals simp only[go_sem, ↓reduceIte,Nat.reduceEqDiff,Nat.reduceAdd,Nat.reduceSub,Nat.reduceLeDiff,reduceCtorEq,j6,cg0,c0,c1,c5,c7,c8,c9]
   ·have uY:decide ((L i:Int)=((max (L b.a) (L b.b):Nat):Int))=false:=decide_eq_false fun h=>he ae
    have np:dU (fun x=>if x<i then eY L b x else L x) k=dU (fun x=>if x<i+1 then eY L b x else L x) k:=iG fun x hx=>by
     by_cases h:x<i
     ·rw[if_pos h,if_pos ae]
     ·by_cases Du:x=i
      ·subst Du;rw[if_neg h,if_pos ae,eY,if_neg he]
      ·rw[if_neg h,if_neg ae]
    rw[eN]at hC
    (repeat(first|((repeat(revert hN;revert N;apply Pn.out));refine wk (tw @j6 (tw @cg0 (tw @c0 (tw @c1 (tw @c5 (tw @c7 (tw @c8 (tw @c9 (tw @hi (tw @hC (tw @tc @uY))))))))))) ?_;(repeat(refine Pn.mk ?_;intro N hN)))|((try apply Or.inl);refine⟨_,ak.x (T5) (sd (tw @j6 (tw @cg0 (tw @c0 (tw @c1 (tw @c5 (tw @c7 (tw @c8 (tw @c9 (tw @hi (tw @hC (tw @tc @uY)))))))))))),?_⟩;refine hN _ _ ?_;clear hN N)|((try apply Or.inl);refine⟨_,ak.x (T6) (sd (tw @j6 (tw @cg0 (tw @c0 (tw @c1 (tw @c5 (tw @c7 (tw @c8 (tw @c9 (tw @hi (tw @hC (tw @tc @uY)))))))))))),?_⟩;refine hN _ _ ?_;clear hN N)))
    rw[np]at cg0
    refine iM ?_ ?_ bW
    all_goals simp only[go_sem, ↓reduceIte,Nat.reduceEqDiff,Nat.reduceAdd,Nat.reduceSub,Nat.reduceLeDiff,reduceCtorEq,j6,cg0,c0,c1,c5,c7,c8,c9]
  ·have wo:i=k:=ae
   subst wo
   have dz:dU (fun x=>if x<i then eY L b x else L x) i=dU (eY L b) i:=iG fun x hx=>if_pos hx
   rw[dz]at cg0
   rw[<-iL]at cg0
   (try((repeat(revert hN;revert N;apply Pn.out));refine wk (tw @j6 (tw @cg0 (tw @c0 (tw @c1 (tw @c5 (tw @c7 (tw @c8 (tw @c9 (tw @hi @tc))))))))) ?_;(repeat(refine Pn.mk ?_;intro N hN))))
   refine gY ?_ ?_ bW
   all_goals simp only[go_sem, ↓reduceIte,Nat.reduceEqDiff,Nat.reduceAdd,Nat.reduceSub,Nat.reduceLeDiff,reduceCtorEq,b7,bg0,b0,b1,b5,j6,cg0,c0,c1,c5,c7,c8,c9]
 have gW:j=bs.length:=ae
 subst gW
 rw[List.take_length]at bg0
 have hL:=ui bs
 generalize eR bs=L at *
 have tl:=gD L k
 (try((repeat(revert hN;revert N;apply Pn.out));refine wk (tw @b7 (tw @bg0 (tw @b0 (tw @b1 (tw @b5 @hj))))) ?_;(repeat(refine Pn.mk ?_;intro N hN))))
 have PR:o.cC<st_b.next:=bI0
 refine aT (fun n env st=>∃i:Nat,n=(k)-i/\i<=(k)/\env 12=.int .i64 (i:Int)/\st.get o=some ⟨true,1,dU L k⟩/\(∃oo rows ids,env 11=.own oo 0 rows.length/\st.get oo=some ⟨true,1,rows⟩/\eT QY st.get rows ((leads i L).map (members k L)) ids/\(∀x∈oo::ids,st_b.next<=x.cC/\x.cC<st.next)/\st_b.next<=st.next/\oo∉ids)) (k) ⟨0,ae,ae,sl (tw @b7 (tw @bg0 (tw @b0 (tw @b1 (tw @b5 (eX PR)))))),sl (tw @b7 (tw @bg0 (tw @b0 (tw @b1 (tw @b5 (eX PR)))))),⟨⟨184016000,st_b.next+1⟩,[],[],by(simp only[go_sem, ↓reduceIte,Nat.reduceEqDiff,Nat.reduceAdd,Nat.reduceSub,Nat.reduceLeDiff,reduceCtorEq])<;>rfl,sd @Nat.zero_add,.nil,fun x hx=>by rw[List.mem_singleton.1 hx];(try dsimp only);omega,bW,by simp⟩⟩ ?_
 rintro n_d env_d st_d ⟨i,rfl,dle,d12,dg0,dI0⟩ dfr
 have d0:=dfr 0 (by kernel_rfl);have d5:=dfr 5 (by kernel_rfl)
 simp only[go_sem, ↓reduceIte,Nat.reduceEqDiff,Nat.reduceAdd,Nat.reduceSub,Nat.reduceLeDiff,reduceCtorEq,b7,bg0,b0,b1,b5,eX PR]at d0 d5
 clear dfr
 obtain⟨oo,rows,ids,d11,dg,hR,oJ,hle,Bh⟩:=dI0
 have qo:=ik i L
 have sR:=hR.len
 by_cases hi:(i:Int)<(k:Int)
 ·have uk:∀{e:Env} {gg:Rows} {nx:Nat},(e 12=.int .i64 (IntKind.i64.wrap ((i:Int)+1)))->(gg o=some ⟨true,1,dU L k⟩)->(∃oo rows ids,e 11=.own oo 0 rows.length/\gg oo=some ⟨true,1,rows⟩/\eT QY gg rows ((leads (i+1) L).map (members k L)) ids/\(∀x∈oo::ids,st_b.next<=x.cC/\x.cC<nx)/\st_b.next<=nx/\oo∉ids)->∃m0,m0<(k)-i/\∃i:Nat,m0=(k)-i/\i<=(k)/\e 12=.int .i64 (i:Int)/\gg o=some ⟨true,1,dU L k⟩/\(∃oo rows ids,e 11=.own oo 0 rows.length/\gg oo=some ⟨true,1,rows⟩/\eT QY gg rows ((leads i L).map (members k L)) ids/\(∀x∈oo::ids,st_b.next<=x.cC/\x.cC<nx)/\st_b.next<=nx/\oo∉ids):=fun x1 x2 x3=>⟨_,ae,i+1,rfl,ae,(by rw[x1,aB ae]),x2,x3⟩
  have fB:i<k:=ae
  have hC:=fG (f:=L) fB
  have lZ:=eX (i:=o) (n:=st_d.next) ae
  have S9:=eX (i:=oo) (n:=st_d.next) (oJ oo (by simp)).2
  by_cases he:L i=i
  ·rw[if_pos he]at qo
   have uY:decide ((L i:Int)=(i:Int))=true:=decide_eq_true (by rw[he])
   rw[eN]at hC
   (try((repeat(revert hN;revert N;apply Pn.out));refine wk (tw @d12 (tw @dg0 (tw @d0 (tw @d5 (tw @d11 (tw @dg (tw @hi (tw @hC (tw @tl (tw @uY (tw @lZ @S9))))))))))) ?_;(repeat(refine Pn.mk ?_;intro N hN))))
   refine aT (fun n env st=>∃m:Nat,n=((k-i))-m/\m<=((k-i))/\env 14=(.int .i64 ((i+m:Nat):Int))/\(∃pp:Id,env 13=.own pp 0 (members (i+m) L i).length/\st.get pp=some ⟨true,1,(members (i+m) L i).map eN⟩/\st_d.next<=pp.cC/\pp.cC<st.next/\(∀x:Id,x.cC<st_d.next->st.get x=st_d.get x)/\st_d.next<=st.next)) ((k-i)) ⟨0,ae,ae,sl (tw @d12 (tw @dg0 (tw @d0 (tw @d5 @d11)))),⟨⟨184021000,st_d.next+1+1⟩,by rw[show members (i+0) L i=[]from nS hL (Nat.le_refl i)];(simp only[go_sem, ↓reduceIte,Nat.reduceEqDiff,Nat.reduceAdd,Nat.reduceSub,Nat.reduceLeDiff,reduceCtorEq])<;>rfl,by rw[show members (i+0) L i=[]from nS hL (Nat.le_refl i)];(simp only[go_sem, ↓reduceIte,Nat.reduceEqDiff,Nat.reduceAdd,Nat.reduceSub,Nat.reduceLeDiff,reduceCtorEq])<;>rfl,bW,bW,fun x hx=>sd (eX hx),bW⟩⟩ ?_
   rintro n_f env_f st_f ⟨m,rfl,fle,f14,fI0⟩ ffr
   have f0:=ffr 0 (by kernel_rfl);have f5:=ffr 5 (by kernel_rfl);have f11:=ffr 11 (by kernel_rfl);have f12:=ffr 12 (by kernel_rfl)
   simp only[go_sem, ↓reduceIte,Nat.reduceEqDiff,Nat.reduceAdd,Nat.reduceSub,Nat.reduceLeDiff,reduceCtorEq,d12,dg0,d0,d5,d11]at f0 f5 f11 f12
   clear ffr
   obtain⟨pp,f13,fg,PT,Oc,kR,mT⟩:=fI0
   have xU:st_f.get o=some ⟨true,1,dU L k⟩:=(kR o ae).trans dg0
   have VE:st_f.get oo=some ⟨true,1,rows⟩:=(kR oo (oJ oo (by simp)).2).trans dg
   have Bi:=eX Oc
   have Cm:=eX (i:=o) (n:=st_f.next) ae
   have Ta:=eX (i:=oo) (n:=st_f.next) (by have:=(oJ oo (by simp)).2;omega)
   have PO:members (i+(m+1)) L i=members (i+m) L i++if L (i+m)=i then[i+m]else[]:=jW (i+m) L i
   have VO:(members (i+m) L i).length<=i+m:=by
    have:=List.length_filter_le (fun k=>L k==i) (List.range (i+m))
    simpa[members]using this
   have x1:=ep (a:=o) (b:=pp) ae
   have x2:=ep (a:=oo) (b:=pp) (by have:=(oJ oo (by simp)).2;omega)
   have x3:=ep (a:=o) (b:=oo) (by have:=(oJ oo (by simp)).1;omega)
   by_cases hm:m<k-i
   ·have so:∀{e:Env} {gg:Rows} {nx:Nat},(e 14=(.int .i64 ((i+(m+1):Nat):Int)))->(∃pp:Id,e 13=.own pp 0 (members (i+(m+1)) L i).length/\gg pp=some ⟨true,1,(members (i+(m+1)) L i).map eN⟩/\st_d.next<=pp.cC/\pp.cC<nx/\(∀x:Id,x.cC<st_d.next->gg x=st_d.get x)/\st_d.next<=nx)->∃m0,m0<((k-i))-m/\∃m:Nat,m0=((k-i))-m/\m<=((k-i))/\e 14=(.int .i64 ((i+m:Nat):Int))/\(∃pp:Id,e 13=.own pp 0 (members (i+m) L i).length/\gg pp=some ⟨true,1,(members (i+m) L i).map eN⟩/\st_d.next<=pp.cC/\pp.cC<nx/\(∀x:Id,x.cC<st_d.next->gg x=st_d.get x)/\st_d.next<=nx):=fun x1 x2=>⟨_,ae,m+1,rfl,ae,x1,x2⟩
    have SX:((i+m:Nat):Int)<(k:Int):=ae
    have Vd:=fG (f:=L) (show i+m<k by omega)
    have hw:IntKind.i64.wrap (((i+m:Nat):Int)+1)=((i+(m+1):Nat):Int):=by rw[aJ ae];omega
    rw[eN]at Vd
    by_cases hq:L (i+m)=i
    ·have q9:decide ((L (i+m):Int)=(i:Int))=true:=decide_eq_true (by rw[hq])
     rw[if_pos hq]at PO
     have e1:(members (i+m) L i).length+1<=16777216:=ae
     have kf:((members (i+m) L i).map eN).length=(members (i+m) L i).length:=by simp
     (try((repeat(revert hN;revert N;apply Pn.out));refine wk (tw @f14 (tw @f0 (tw @f5 (tw @f11 (tw @f12 (tw @f13 (tw @fg (tw @xU (tw @SX (tw @Vd (tw @tl (tw @q9 (tw @Bi (tw @Cm (tw @x1 (tw @e1 @kf)))))))))))))))) ?_;(repeat(refine Pn.mk ?_;intro N hN))))
     exact so (sd (tw @f14 (tw @f0 (tw @f5 (tw @f11 (tw @f12 (tw @xU (tw @hw (tw @Cm @x1))))))))) (⟨⟨184026003,st_f.next+1+1⟩,by rw[PO,List.length_append];simp only[go_sem, ↓reduceIte,Nat.reduceEqDiff,Nat.reduceAdd,Nat.reduceSub,Nat.reduceLeDiff,reduceCtorEq,List.length_cons,List.length_nil],by rw[PO,List.map_append,List.map_cons,List.map_nil];simp only[go_sem, ↓reduceIte,Nat.reduceEqDiff,Nat.reduceAdd,Nat.reduceSub,Nat.reduceLeDiff,reduceCtorEq,eN],bW,bW,fun x hx=>by
      have y1:=kR x hx
      have y2:=ep (a:=x) (b:=pp) ae
      simp only[go_sem, ↓reduceIte,Nat.reduceEqDiff,Nat.reduceAdd,Nat.reduceSub,Nat.reduceLeDiff,reduceCtorEq,eX (show x.cC<st_f.next by omega),y1,y2],bW⟩)
    ·have q9:decide ((L (i+m):Int)=(i:Int))=false:=decide_eq_false fun h=>hq ae
     rw[if_neg hq,List.append_nil]at PO
     (try((repeat(revert hN;revert N;apply Pn.out));refine wk (tw @f14 (tw @f0 (tw @f5 (tw @f11 (tw @f12 (tw @f13 (tw @fg (tw @xU (tw @SX (tw @Vd (tw @tl (tw @q9 (tw @Bi (tw @Cm @x1)))))))))))))) ?_;(repeat(refine Pn.mk ?_;intro N hN))))
     exact so (sd (tw @f14 (tw @f0 (tw @f5 (tw @f11 (tw @f12 (tw @xU @hw))))))) (⟨pp,by rw[PO];simp only[go_sem, ↓reduceIte,Nat.reduceEqDiff,Nat.reduceAdd,Nat.reduceSub,Nat.reduceLeDiff,reduceCtorEq,f13],by rw[PO];simp only[go_sem, ↓reduceIte,Nat.reduceEqDiff,Nat.reduceAdd,Nat.reduceSub,Nat.reduceLeDiff,reduceCtorEq,fg],PT,bW,kR,bW⟩)
   ·have hmk:i+m=k:=ae
    have SX:¬((i+m:Nat):Int)<(k:Int):=ae
    rw[hmk]at f13 fg VO
    have e1:rows.length+1<=16777216:=by
     have:=kj i L
     rw[sR,List.length_map];omega
    (try((repeat(revert hN;revert N;apply Pn.out));refine wk (tw @f14 (tw @f0 (tw @f5 (tw @f11 (tw @f12 (tw @f13 (tw @fg (tw @xU (tw @VE (tw @SX (tw @Bi (tw @Cm (tw @Ta (tw @x1 (tw @x2 @e1))))))))))))))) ?_;(repeat(refine Pn.mk ?_;intro N hN))))
    refine uk ?_ ?_ (⟨⟨184027003,st_f.next+1⟩,rows++[[.own pp 0 (members k L i).length]],ids++[pp],by rw[List.length_append];simp only[go_sem, ↓reduceIte,Nat.reduceEqDiff,Nat.reduceAdd,Nat.reduceSub,Nat.reduceLeDiff,reduceCtorEq,List.length_cons,List.length_nil],sd @Nat.zero_add,by
      rw[qo,List.map_append]
      refine(hR.frame Qc fun x hx=>?_).app (.one ⟨pp,rfl,?_,rfl⟩)
      ·have h1:=oJ x (by simp[hx])
       have y1:=kR x h1.2
       have y2:=ep (a:=x) (b:=pp) ae
       have y3:(x=oo)=False:=by
        simp only[eq_iff_iff,iff_false]
        rintro rfl
        exact Bh hx
       simp only[go_sem, ↓reduceIte,Nat.reduceEqDiff,Nat.reduceAdd,Nat.reduceSub,Nat.reduceLeDiff,reduceCtorEq,eX (show x.cC<st_f.next by omega),y1,y2,y3]
      ·simp only[go_sem, ↓reduceIte,Nat.reduceEqDiff,Nat.reduceAdd,Nat.reduceSub,Nat.reduceLeDiff,reduceCtorEq,Bi,x2,fg],fun x hx=>by
      rcases List.mem_cons.1 hx with rfl|hx
      ·(try dsimp only);omega
      ·rcases List.mem_append.1 hx with hx|hx
       ·have:=oJ x (by simp[hx]);(try dsimp only);omega
       ·rw[List.mem_singleton.1 hx];(try dsimp only);omega,bW,fun hc=>by
      rcases List.mem_append.1 hc with hc|hc
      ·have:=(oJ _ (List.mem_cons_of_mem _ hc)).2;(try dsimp only at this);omega
      ·have:=List.mem_singleton.1 hc;rw[<-this]at Oc;(try dsimp only at Oc);omega⟩)
    all_goals simp only[go_sem, ↓reduceIte,Nat.reduceEqDiff,Nat.reduceAdd,Nat.reduceSub,Nat.reduceLeDiff,reduceCtorEq,f14,f0,f5,f11,f12,xU,Cm,x3]
  ·rw[if_neg he,List.append_nil]at qo
   have uY:decide ((L i:Int)=(i:Int))=false:=decide_eq_false fun h=>he ae
   rw[eN]at hC
   (try((repeat(revert hN;revert N;apply Pn.out));refine wk (tw @d12 (tw @dg0 (tw @d0 (tw @d5 (tw @d11 (tw @dg (tw @hi (tw @hC (tw @tl (tw @uY (tw @lZ @S9))))))))))) ?_;(repeat(refine Pn.mk ?_;intro N hN))))
   refine uk ?_ ?_ (⟨oo,rows,ids,sd @d11,sd @dg,by rw[qo];exact hR,fun x hx=>by have:=oJ x hx;(try dsimp only);omega,bW,Bh⟩)
   all_goals simp only[go_sem, ↓reduceIte,Nat.reduceEqDiff,Nat.reduceAdd,Nat.reduceSub,Nat.reduceLeDiff,reduceCtorEq,d12,dg0,d0,d5]
 ·have wo:i=k:=ae
  (try((repeat(revert hN;revert N;apply Pn.out));refine wk (tw @d12 (tw @dg0 (tw @d0 (tw @d5 (tw @d11 (tw @dg @hi)))))) ?_;(repeat(refine Pn.mk ?_;intro N hN))))
  refine xd (.inl rfl) (by simp only[go_sem, ↓reduceIte,Nat.reduceEqDiff,Nat.reduceAdd,Nat.reduceSub,Nat.reduceLeDiff,reduceCtorEq];rfl) ?_
  rw[nQ dg (by simp) (rows':=(fI k L).map Bb) (by rw[List.drop_zero,List.take_of_length_le (Nat.le_refl _)];rw[wo]at hR;exact J3 3 hR)]
theorem xr (n:Nat):List.replicate n [AV.int .i64 0]=dU (fun _=>0) n:=by
 refine List.ext_getElem? fun i=>?_
 by_cases h:i<n
 ·rw[fG h,List.getElem?_replicate,if_pos h];rfl
 ·rw[List.getElem?_eq_none (by simp;omega),List.getElem?_eq_none (by rw[gD];omega)]
def dm (cnt:Nat) (L:Nat->Nat) (i m:Nat):Nat->Nat:=fun x=>if cm L x<i then cm L x else if x∈(members cnt L ((leads cnt L).getD i 0)).take m then i else 0
theorem pr (cnt:Nat) (L:Nat->Nat):dm cnt L 0 0=fun _=>0:=by funext x;simp[dm]
theorem ur (t:Int) (bs:List PB) (k:Nat) (h:k<bs.length):aQ t (bs.take (k+1))=aQ t (bs.take k)++if t<=(bs[k]).s then[bs[k]]else[]:=by
 unfold aQ
 rw[List.take_succ_eq_append_getElem h,List.filter_append]
 congr 1
 by_cases h:t<=bs[k].s<;>simp[h]
theorem xl {t:Int} {bs:List PB} {b:PB} (h:b∈aQ t bs):b∈bs:=(List.mem_filter.1 h).1
theorem nY (t:Int) (bs:List PB):(aQ t bs).length<=bs.length:=List.length_filter_le _ _
theorem CA (cnt:Nat) (hn:cnt<=1048576) (bs:List PB) (hb:∀b∈bs,b.a<cnt/\b.b<cnt) (ke:bs.length<=1048576) (t:Int):ak Tryz.prog 168 [.int .i64 cnt,.sl (bs.map ay),.int .i64 t] (.iJ [.int .i64 (leads cnt (eR (aQ t bs))).length,.sl ((ft (eR (aQ t bs)) bs).map ay)]):=by
 refine ak.body eM rfl fun hl n0=>?_
 clear hl
 (try((repeat(revert hN;revert N;apply Pn.out));refine wk @Nat.zero_add ?_;(repeat(refine Pn.mk ?_;intro N hN))))
 refine aT (fun n env st=>∃k:Nat,n=(bs.length)-k/\k<=(bs.length)/\env 9=.int .i64 (k:Int)/\(∃o:Id,env 8=.own o 0 (aQ t (bs.take k)).length/\st.get o=some ⟨true,3,(aQ t (bs.take k)).map ay⟩/\o.cC<st.next)) (bs.length) ⟨0,ae,ae,sl @Nat.zero_add,⟨⟨168001000,n0+1⟩,by(simp only[go_sem, ↓reduceIte,Nat.reduceEqDiff,Nat.reduceAdd,Nat.reduceSub,Nat.reduceLeDiff,reduceCtorEq])<;>rfl,by(simp only[go_sem, ↓reduceIte,Nat.reduceEqDiff,Nat.reduceAdd,Nat.reduceSub,Nat.reduceLeDiff,reduceCtorEq])<;>rfl,bW⟩⟩ ?_
 rintro n_a env_a st_a ⟨k,rfl,ale,a9,kB⟩ dr
 have a0:=dr 0 (by kernel_rfl);have a1:=dr 1 (by kernel_rfl);have a2:=dr 2 (by kernel_rfl)
 simp only[go_sem, ↓reduceIte,Nat.reduceEqDiff,Nat.reduceAdd,Nat.reduceSub,Nat.reduceLeDiff,reduceCtorEq]at a0 a1 a2
 clear dr
 obtain⟨o,a8,ag,r9⟩:=kB
 have rh:=eX r9
 by_cases hk:(k:Int)<(bs.length:Int)
 ·have bZ:∀{e:Env} {gg:Rows} {nx:Nat},(e 9=.int .i64 (IntKind.i64.wrap ((k:Int)+1)))->(∃o:Id,e 8=.own o 0 (aQ t (bs.take (k+1))).length/\gg o=some ⟨true,3,(aQ t (bs.take (k+1))).map ay⟩/\o.cC<nx)->∃m0,m0<(bs.length)-k/\∃k:Nat,m0=(bs.length)-k/\k<=(bs.length)/\e 9=.int .i64 (k:Int)/\(∃o:Id,e 8=.own o 0 (aQ t (bs.take k)).length/\gg o=some ⟨true,3,(aQ t (bs.take k)).map ay⟩/\o.cC<nx):=fun x1 x2=>⟨_,ae,k+1,rfl,ae,(by rw[x1,aB ae]),x2⟩
  have fK:k<bs.length:=ae
  have fe:(bs.map ay)[k]? =some (ay bs[k]):=by simp[fK]
  have hs:=ur t bs k fK
  have nR:=nY t (bs.take k)
  rw[List.length_take]at nR
  by_cases hc:t<=(bs[k]).s
  ·rw[if_pos hc]at hs
   have e1:(aQ t (bs.take k)).length+1<=16777216:=ae
   have kf:((aQ t (bs.take k)).map ay).length=(aQ t (bs.take k)).length:=by simp
   generalize bs[k]=b at *
   (try((repeat(revert hN;revert N;apply Pn.out));refine wk (tw @a9 (tw @a0 (tw @a1 (tw @a2 (tw @a8 (tw @ag (tw @rh (tw @hk (tw @fe (tw @hc (tw @e1 (tw @kf @ay.eq_1)))))))))))) ?_;(repeat(refine Pn.mk ?_;intro N hN))))
   exact bZ (sd (tw @a9 (tw @a0 (tw @a1 @a2)))) (⟨⟨168006006,st_a.next+1+1⟩,by rw[hs,List.length_append];simp only[go_sem, ↓reduceIte,Nat.reduceEqDiff,Nat.reduceAdd,Nat.reduceSub,Nat.reduceLeDiff,reduceCtorEq,List.length_cons,List.length_nil],by rw[hs,List.map_append,List.map_cons,List.map_nil];simp only[go_sem, ↓reduceIte,Nat.reduceEqDiff,Nat.reduceAdd,Nat.reduceSub,Nat.reduceLeDiff,reduceCtorEq,ay],bW⟩)
  ·rw[if_neg hc,List.append_nil]at hs
   generalize bs[k]=b at *
   (try((repeat(revert hN;revert N;apply Pn.out));refine wk (tw @a9 (tw @a0 (tw @a1 (tw @a2 (tw @a8 (tw @ag (tw @rh (tw @hk (tw @fe (tw @hc @ay.eq_1)))))))))) ?_;(repeat(refine Pn.mk ?_;intro N hN))))
   exact bZ (sd (tw @a9 (tw @a0 (tw @a1 @a2)))) (⟨o,by rw[hs];simp only[go_sem, ↓reduceIte,Nat.reduceEqDiff,Nat.reduceAdd,Nat.reduceSub,Nat.reduceLeDiff,reduceCtorEq,a8],by rw[hs];simp only[go_sem, ↓reduceIte,Nat.reduceEqDiff,Nat.reduceAdd,Nat.reduceSub,Nat.reduceLeDiff,reduceCtorEq,ag],bW⟩)
 have mQ:k=bs.length:=ae
 subst mQ
 rw[List.take_length]at a8 ag
 have Il:=Cx cnt hn (aQ t bs) (fun b h=>hb b (xl h)) (by have:=nY t bs;omega)
 have hL:=ui (aQ t bs)
 have Dq:fz (dM st_a.get) 6 (.own o 0 (aQ t bs).length)=some (.sl ((aQ t bs).map ay)):=gH (sz:=3) (by simp[dM,ag]) rfl fun b=>wb _ 4 b
 have VD:∀x,cQ (dM st_a.get) 6 [.int .i64 x,.own o 0 (aQ t bs).length]=some [.int .i64 x,.sl ((aQ t bs).map ay)]:=fun x=>by simp only[ai,ao,aD,Dq,Option.map_some]
 (try((repeat(revert hN;revert N;apply Pn.out));refine wk (tw @a9 (tw @a0 (tw @a1 (tw @a2 (tw @a8 @hk))))) ?_;(repeat(refine Pn.mk ?_;intro N hN))))
 refine .inl ⟨_,ak.x Il (VD _),?_⟩
 refine hN _ _ ?_
 clear hN N
 generalize eR (aQ t bs)=L at *
 have tj:((fI cnt L).map Bb).length=(leads cnt L).length:=by simp[fI]
 have Un:=kj cnt L
 have jN:(0:Int)<=(cnt:Int):=ae
 have qk:(cnt:Int)<=((16777216:Nat):Int):=ae
 have ij:List.replicate cnt [AV.int .i64 0]=dU (dm cnt L 0 0) cnt:=by rw[xr,pr]
 (try((repeat(revert hN;revert N;apply Pn.out));refine wk (tw @a9 (tw @a0 (tw @a1 (tw @a2 (tw @jN (tw @qk @Int.le_refl)))))) ?_;(repeat(refine Pn.mk ?_;intro N hN))))
 refine aT (fun n env st=>∃i:Nat,n=((leads cnt L).length)-i/\i<=((leads cnt L).length)/\env 12=.int .i64 (i:Int)/\st.get ⟨168008001,st_a.next+1+1⟩=some ⟨true,1,dU (dm cnt L i 0) cnt⟩/\(st_a.next+1+1<st.next)) ((leads cnt L).length) ⟨0,ae,ae,sl (tw @a9 (tw @a0 (tw @a1 (tw @a2 @ij)))),sl (tw @a9 (tw @a0 (tw @a1 (tw @a2 @ij)))),bW⟩ ?_
 rintro n_c env_c st_c ⟨i,rfl,cle,zN,cg0,cI0⟩ cfr
 have c1:=cfr 1 (by kernel_rfl);have j6:=cfr 10 (by kernel_rfl);have oF:=cfr 11 (by kernel_rfl)
 simp only[go_sem, ↓reduceIte,Nat.reduceEqDiff,Nat.reduceAdd,Nat.reduceSub,Nat.reduceLeDiff,reduceCtorEq,a9,a0,a1,a2,ij]at c1 j6 oF
 clear cfr
 by_cases hi:(i:Int)<((leads cnt L).length:Int)
 ·have iM:∀{e:Env} {gg:Rows} {nx:Nat},(e 12=.int .i64 (IntKind.i64.wrap ((i:Int)+1)))->(gg ⟨168008001,st_a.next+1+1⟩=some ⟨true,1,dU (dm cnt L (i+1) 0) cnt⟩)->(st_a.next+1+1<nx)->∃m0,m0<((leads cnt L).length)-i/\∃i:Nat,m0=((leads cnt L).length)-i/\i<=((leads cnt L).length)/\e 12=.int .i64 (i:Int)/\gg ⟨168008001,st_a.next+1+1⟩=some ⟨true,1,dU (dm cnt L i 0) cnt⟩/\(st_a.next+1+1<nx):=fun x1 x2 x3=>⟨_,ae,i+1,rfl,ae,(by rw[x1,aB ae]),x2,x3⟩
  have fB:i<(leads cnt L).length:=ae
  have gT:((fI cnt L).map Bb)[i]? =some (Bb (members cnt L (leads cnt L)[i])):=by simp[fI,fB]
  have oy:(leads cnt L).getD i 0=(leads cnt L)[i]:=by simp[List.getD_eq_getElem?_getD,fB]
  have k6:∀m,dm cnt L i m=fun x=>if cm L x<i then cm L x else if x∈(members cnt L (leads cnt L)[i]).take m then i else 0:=fun m=>by unfold dm;rw[oy]
  have r7:=fun x (hx:x<cnt)=>tE hL (n:=cnt) (k:=x) (i:=i) hx fB
  have kZ:(members cnt L (leads cnt L)[i]).Nodup:=List.nodup_range.filter _
  have Bg:∀x∈members cnt L (leads cnt L)[i],x<cnt:=fun x hx=>(mi.1 hx).1
  have hMc:(members cnt L (leads cnt L)[i]).length<=cnt:=by
   have:=List.length_filter_le (fun k=>L k==(leads cnt L)[i]) (List.range cnt)
   simpa[members]using this
  generalize members cnt L (leads cnt L)[i]=M at *
  have Dp:(M.map eN).length=M.length:=by simp
  (try((repeat(revert hN;revert N;apply Pn.out));refine wk (tw @zN (tw @cg0 (tw @c1 (tw @j6 (tw @oF (tw @hi @tj)))))) ?_;(repeat(refine Pn.mk ?_;intro N hN))))
  refine aT (fun n env st=>∃m:Nat,n=(M.length)-m/\m<=(M.length)/\env 13=.int .i64 (m:Int)/\st.get ⟨168008001,st_a.next+1+1⟩=some ⟨true,1,dU (dm cnt L i m) cnt⟩/\(st_a.next+1+1<st.next)) (M.length) ⟨0,ae,ae,sl (tw @zN (tw @cg0 (tw @c1 (tw @j6 @oF)))),sl (tw @zN (tw @cg0 (tw @c1 (tw @j6 @oF)))),bW⟩ ?_
  rintro n_d env_d st_d ⟨m,rfl,dle,d13,dg0,dI0⟩ dfr
  have d1:=dfr 1 (by kernel_rfl);have d10:=dfr 10 (by kernel_rfl);have d11:=dfr 11 (by kernel_rfl);have d12:=dfr 12 (by kernel_rfl)
  simp only[go_sem, ↓reduceIte,Nat.reduceEqDiff,Nat.reduceAdd,Nat.reduceSub,Nat.reduceLeDiff,reduceCtorEq,zN,cg0,c1,j6,oF]at d1 d10 d11 d12
  clear dfr
  have tl:=gD (dm cnt L i m) cnt
  by_cases hm:(m:Int)<(M.length:Int)
  ·have uk:∀{e:Env} {gg:Rows} {nx:Nat},(e 13=.int .i64 (IntKind.i64.wrap ((m:Int)+1)))->(gg ⟨168008001,st_a.next+1+1⟩=some ⟨true,1,dU (dm cnt L i (m+1)) cnt⟩)->(st_a.next+1+1<nx)->∃m0,m0<(M.length)-m/\∃m:Nat,m0=(M.length)-m/\m<=(M.length)/\e 13=.int .i64 (m:Int)/\gg ⟨168008001,st_a.next+1+1⟩=some ⟨true,1,dU (dm cnt L i m) cnt⟩/\(st_a.next+1+1<nx):=fun x1 x2 x3=>⟨_,ae,m+1,rfl,ae,(by rw[x1,aB ae]),x2,x3⟩
   have Aj:m<M.length:=ae
   have wm:(M.map eN)[m]? =some (eN M[m]):=by simp[Aj]
   have wH:=Bg _ (List.getElem_mem Aj)
   have Du:(M[m]:Int)<(cnt:Int):=ae
   have y9:=fG (f:=dm cnt L i m) wH
   have ei:(dU (dm cnt L i m) cnt).set M[m] (eN i)=dU (dm cnt L i (m+1)) cnt:=qd wH (by
    have h1:=(r7 _ wH).1 (List.getElem_mem Aj)
    rw[k6]
    simp only[]
    rw[if_neg ae,if_pos (by rw[List.take_succ_eq_append_getElem Aj];exact List.mem_append_right _ (List.mem_singleton.2 rfl))]) fun x hx gI=>by
    rw[k6,k6]
    simp only[]
    rw[List.take_succ_eq_append_getElem Aj]
    simp only[List.mem_append,List.mem_singleton,gI,or_false]
   rw[eN]at ei y9
   generalize M[m]=xm at *
   (try((repeat(revert hN;revert N;apply Pn.out));refine wk (tw @d13 (tw @dg0 (tw @d1 (tw @d10 (tw @d11 (tw @d12 (tw @hm (tw @hi (tw @gT (tw @tj (tw @wm (tw @Dp (tw @Du (tw @y9 (tw @tl (tw @ei (tw @Bb.eq_1 @eN.eq_1))))))))))))))))) ?_;(repeat(refine Pn.mk ?_;intro N hN))))
   refine uk ?_ ?_ bW
   all_goals simp only[go_sem, ↓reduceIte,Nat.reduceEqDiff,Nat.reduceAdd,Nat.reduceSub,Nat.reduceLeDiff,reduceCtorEq,d13,dg0,d1,d10,d11,d12,ei]
  ·have kf:m=M.length:=ae
   subst kf
   have mT:dU (dm cnt L i M.length) cnt=dU (dm cnt L (i+1) 0) cnt:=iG fun x hx=>by
    rw[k6,List.take_length]
    simp only[dm,List.take_zero,List.not_mem_nil,if_false]
    have h1:=r7 x hx
    by_cases h2:cm L x<i
    ·rw[if_pos h2,if_pos ae]
    ·rw[if_neg h2]
     by_cases h3:x∈M
     ·rw[if_pos h3,if_pos (by have:=h1.1 h3;omega),h1.1 h3]
     ·rw[if_neg h3,if_neg fun h4=>h3 (h1.2 ae)]
   (try((repeat(revert hN;revert N;apply Pn.out));refine wk (tw @d13 (tw @dg0 (tw @d1 (tw @d10 (tw @d11 (tw @d12 (tw @hm (tw @hi (tw @gT (tw @tj (tw @Dp @Bb.eq_1))))))))))) ?_;(repeat(refine Pn.mk ?_;intro N hN))))
   refine iM ?_ ?_ bW
   all_goals simp only[go_sem, ↓reduceIte,Nat.reduceEqDiff,Nat.reduceAdd,Nat.reduceSub,Nat.reduceLeDiff,reduceCtorEq,zN,cg0,c1,j6,oF,d13,dg0,d1,d10,d11,d12,mT]
 have nj:i=(leads cnt L).length:=ae
 subst nj
 have Bh:dU (dm cnt L (leads cnt L).length 0) cnt=dU (cm L) cnt:=iG fun x hx=>by rw[dm,if_pos (kM hL hx)]
 rw[Bh]at cg0
 have tl:=gD (cm L) cnt
 (try((repeat(revert hN;revert N;apply Pn.out));refine wk (tw @zN (tw @cg0 (tw @c1 (tw @j6 (tw @oF (tw @hi @tj)))))) ?_;(repeat(refine Pn.mk ?_;intro N hN))))
 have Re:st_a.next+1+1<st_c.next:=cI0
 refine aT (fun n env st=>∃j:Nat,n=(bs.length)-j/\j<=(bs.length)/\env 15=.int .i64 (j:Int)/\st.get ⟨168008001,st_a.next+1+1⟩=some ⟨true,1,dU (cm L) cnt⟩/\(∃p:Id,env 14=.own p 0 (ft L (bs.take j)).length/\st.get p=some ⟨true,3,(ft L (bs.take j)).map ay⟩/\st_c.next<=p.cC/\p.cC<st.next)) (bs.length) ⟨0,ae,ae,sl (tw @zN (tw @cg0 (tw @c1 (tw @j6 @oF)))),sl (tw @zN (tw @cg0 (tw @c1 (tw @j6 @oF)))),⟨⟨168016000,st_c.next+1⟩,by(simp only[go_sem, ↓reduceIte,Nat.reduceEqDiff,Nat.reduceAdd,Nat.reduceSub,Nat.reduceLeDiff,reduceCtorEq])<;>rfl,by(simp only[go_sem, ↓reduceIte,Nat.reduceEqDiff,Nat.reduceAdd,Nat.reduceSub,Nat.reduceLeDiff,reduceCtorEq])<;>rfl,bW,bW⟩⟩ ?_
 rintro n_f env_f st_f ⟨j,rfl,fle,f15,fg0,fI0⟩ ffr
 have f1:=ffr 1 (by kernel_rfl);have f10:=ffr 10 (by kernel_rfl);have f11:=ffr 11 (by kernel_rfl)
 simp only[go_sem, ↓reduceIte,Nat.reduceEqDiff,Nat.reduceAdd,Nat.reduceSub,Nat.reduceLeDiff,reduceCtorEq,zN,cg0,c1,j6,oF]at f1 f10 f11
 clear ffr
 obtain⟨p,f14,fg,PT,Oc⟩:=fI0
 have x1:=ep (a:=⟨168008001,st_a.next+1+1⟩) (b:=p) bW
 have Bi:=eX Oc
 have hvn:st_a.next+1+1<st_f.next:=ae
 have JP:=eX (i:=⟨168008001,st_a.next+1+1⟩) (n:=st_f.next) hvn
 have nR:=(nX L (bs.take j)).2
 rw[List.length_take]at nR
 by_cases hj:(j:Int)<(bs.length:Int)
 ·have so:∀{e:Env} {gg:Rows} {nx:Nat},(e 15=.int .i64 (IntKind.i64.wrap ((j:Int)+1)))->(gg ⟨168008001,st_a.next+1+1⟩=some ⟨true,1,dU (cm L) cnt⟩)->(∃p:Id,e 14=.own p 0 (ft L (bs.take (j+1))).length/\gg p=some ⟨true,3,(ft L (bs.take (j+1))).map ay⟩/\st_c.next<=p.cC/\p.cC<nx)->∃m0,m0<(bs.length)-j/\∃j:Nat,m0=(bs.length)-j/\j<=(bs.length)/\e 15=.int .i64 (j:Int)/\gg ⟨168008001,st_a.next+1+1⟩=some ⟨true,1,dU (cm L) cnt⟩/\(∃p:Id,e 14=.own p 0 (ft L (bs.take j)).length/\gg p=some ⟨true,3,(ft L (bs.take j)).map ay⟩/\st_c.next<=p.cC/\p.cC<nx):=fun x1 x2 x3=>⟨_,ae,j+1,rfl,ae,(by rw[x1,aB ae]),x2,x3⟩
  have jI:j<bs.length:=ae
  have FX:(bs.map ay)[j]? =some (ay bs[j]):=by simp[jI]
  have NX:=hb _ (List.getElem_mem jI)
  have hs:=AO L (bs.take j) bs[j]
  rw[<-List.take_succ_eq_append_getElem jI]at hs
  generalize bs[j]=b at *
  have hA:=fG (f:=cm L) NX.1
  have hB:=fG (f:=cm L) NX.2
  have gU:(b.a:Int)<(cnt:Int):=ae
  have fE:(b.b:Int)<(cnt:Int):=ae
  have T5:=Cw (cm L b.a) (cm L b.b)
  have T6:=Cv (cm L b.a) (cm L b.b)
  rw[eN]at hA hB
  by_cases he:cm L b.a=cm L b.b
  ·rw[if_pos he,List.append_nil]at hs
   have uY:decide ((cm L b.a:Int)=(cm L b.b:Int))=true:=decide_eq_true (by rw[he])
   (try((repeat(revert hN;revert N;apply Pn.out));refine wk (tw @f15 (tw @fg0 (tw @f1 (tw @f10 (tw @f11 (tw @f14 (tw @fg (tw @hj (tw @FX (tw @hA (tw @hB (tw @gU (tw @fE (tw @tl (tw @uY (tw @x1 (tw @Bi @ay.eq_1))))))))))))))))) ?_;(repeat(refine Pn.mk ?_;intro N hN))))
   refine so ?_ ?_ (⟨p,by rw[hs];simp only[go_sem, ↓reduceIte,Nat.reduceEqDiff,Nat.reduceAdd,Nat.reduceSub,Nat.reduceLeDiff,reduceCtorEq,f14],by rw[hs];simp only[go_sem, ↓reduceIte,Nat.reduceEqDiff,Nat.reduceAdd,Nat.reduceSub,Nat.reduceLeDiff,reduceCtorEq,fg],PT,bW⟩)
   all_goals simp only[go_sem, ↓reduceIte,Nat.reduceEqDiff,Nat.reduceAdd,Nat.reduceSub,Nat.reduceLeDiff,reduceCtorEq,f15,fg0,f1,f10,f11]
  ·rw[if_neg he]at hs
   have uY:decide ((cm L b.a:Int)=(cm L b.b:Int))=false:=decide_eq_false fun h=>he ae
   have e1:(ft L (bs.take j)).length+1<=16777216:=ae
   have kf:((ft L (bs.take j)).map ay).length=(ft L (bs.take j)).length:=by simp
   (repeat(first|((repeat(revert hN;revert N;apply Pn.out));refine wk (tw @f15 (tw @fg0 (tw @f1 (tw @f10 (tw @f11 (tw @f14 (tw @fg (tw @hj (tw @FX (tw @hA (tw @hB (tw @gU (tw @fE (tw @tl (tw @uY (tw @x1 (tw @Bi (tw @JP (tw @e1 (tw @kf @ay.eq_1)))))))))))))))))))) ?_;(repeat(refine Pn.mk ?_;intro N hN)))|((try apply Or.inl);refine⟨_,ak.x (T5) (sd (tw @f15 (tw @fg0 (tw @f1 (tw @f10 (tw @f11 (tw @f14 (tw @fg (tw @hj (tw @FX (tw @hA (tw @hB (tw @gU (tw @fE (tw @tl (tw @uY (tw @x1 (tw @Bi (tw @JP (tw @e1 (tw @kf @ay.eq_1))))))))))))))))))))),?_⟩;refine hN _ _ ?_;clear hN N)|((try apply Or.inl);refine⟨_,ak.x (T6) (sd (tw @f15 (tw @fg0 (tw @f1 (tw @f10 (tw @f11 (tw @f14 (tw @fg (tw @hj (tw @FX (tw @hA (tw @hB (tw @gU (tw @fE (tw @tl (tw @uY (tw @x1 (tw @Bi (tw @JP (tw @e1 (tw @kf @ay.eq_1))))))))))))))))))))),?_⟩;refine hN _ _ ?_;clear hN N)))
   refine so ?_ ?_ (⟨⟨168023014,st_f.next+1+1+1+1⟩,by rw[hs,List.length_append];simp only[go_sem, ↓reduceIte,Nat.reduceEqDiff,Nat.reduceAdd,Nat.reduceSub,Nat.reduceLeDiff,reduceCtorEq,List.length_cons,List.length_nil],by rw[hs,List.map_append,List.map_cons,List.map_nil];simp only[go_sem, ↓reduceIte,Nat.reduceEqDiff,Nat.reduceAdd,Nat.reduceSub,Nat.reduceLeDiff,reduceCtorEq,ay],bW,bW⟩)
   all_goals simp only[go_sem, ↓reduceIte,Nat.reduceEqDiff,Nat.reduceAdd,Nat.reduceSub,Nat.reduceLeDiff,reduceCtorEq,f15,fg0,f1,f10,f11,x1,JP]
 ·have gW:j=bs.length:=ae
  subst gW
  rw[List.take_length]at f14 fg
  (try((repeat(revert hN;revert N;apply Pn.out));refine wk (tw @f15 (tw @fg0 (tw @f1 (tw @f10 (tw @f11 (tw @f14 (tw @hj @tj))))))) ?_;(repeat(refine Pn.mk ?_;intro N hN))))
  refine j0 (.inl rfl) (r1:=.int .i64 ((leads cnt L).length:Int)) (sd @Nat.zero_add) (by simp only[go_sem, ↓reduceIte,Nat.reduceEqDiff,Nat.reduceAdd,Nat.reduceSub,Nat.reduceLeDiff,reduceCtorEq];rfl) ?_
  have h1:gw st_f.get 5 (.own p 0 (ft L bs).length)=some (.sl ((ft L bs).map ay)):=e9 (sz:=3) fg rfl fun b=>uU _ 3 b
  simp only[eV,aI,aW,dw,h1,Option.map_some]
end Go.Proofs.YtkbipfflibjfbaaGreat.V

namespace Go.Proofs.YtkbipfflibjfbaaGreat.V
def Fy (bs:List PB) (e v:Nat):Prop:=(cG bs e).a=v∨(cG bs e).b=v
def jB (bs:List PB) (m v:Nat):List Nat:=(List.range m).filter fun i=>(cG bs i).a==v||(cG bs i).b==v
theorem sg {bs:List PB} {m v e:Nat}:e∈jB bs m v↔e<m/\Fy bs e v:=by simp[jB,Fy]
theorem Hj (bs:List PB) (m v:Nat):jB bs (m+1) v=jB bs m v++if (cG bs m).a=v∨(cG bs m).b=v then[m]else[]:=by
 unfold jB
 rw[List.range_succ,List.filter_append]
 congr 1
 by_cases h:(cG bs m).a=v<;>by_cases h2:(cG bs m).b=v<;>simp[h,h2]
theorem sf (bs:List PB) (m v:Nat):(jB bs m v).length<=m:=by
 have:=List.length_filter_le (fun i=>(cG bs i).a==v||(cG bs i).b==v) (List.range m)
 simpa[jB]using this
def om (cnt:Nat) (bs:List PB):Prop:=∀e,e<bs.length->(cG bs e).a<cnt/\(cG bs e).b<cnt/\(cG bs e).a≠(cG bs e).b
theorem pz {cnt:Nat} {bs:List PB} (h:om cnt bs) {e v:Nat} (he:e<bs.length):cr bs e v<cnt:=by
 have:=h e he;unfold cr;split;exact this.2.1;exact this.1
theorem Kl {cnt:Nat} {bs:List PB} (h:om cnt bs) {e v:Nat} (he:e<bs.length) (hi:Fy bs e v):cr bs e v≠v:=by
 have h1:=(h e he).2.2
 unfold cr
 split
 ·rename_i ha;rw[<-ha];exact fun h=>h1 h.symm
 ·rename_i ha;rcases hi with hi|hi
  ·exact absurd hi ha
  ·rw[<-hi];exact h1
theorem zp {bs:List PB} {e v:Nat}:Fy bs e (cr bs e v):=by
 unfold cr Fy;split
 ·exact .inr rfl
 ·exact .inl rfl
theorem pA {cnt:Nat} {bs:List PB} (h:om cnt bs) {e v:Nat} (he:e<bs.length) (hi:Fy bs e v):cr bs e (cr bs e v)=v:=by
 have h1:=(h e he).2.2
 unfold cr
 by_cases ha:(cG bs e).a=v
 ·rw[if_pos ha,if_neg h1];exact ha
 ·rw[if_neg ha,if_pos rfl]
  rcases hi with hi|hi
  ·exact absurd hi ha
  ·exact hi
structure zG (cnt:Nat) (bs:List PB) (f:Nat->Int) (y:Nat) (out:Nat->Int):Prop where
 lo:∀v,v<cnt->-1<=out v/\out v<=cnt
 first:out y=0
 zero:∀v,v<cnt->out v=0->v=y
 down:∀v,v<cnt->0<out v->∃e,e<bs.length/\Fy bs e v/\0<fU bs f e v/\out (cr bs e v)=out v-1
 shut:∀e v,e<bs.length->Fy bs e v->0<=out (cr bs e v)->0<fU bs f e v->0<=out v
structure A8 (cnt:Nat) (bs:List PB) (f:Nat->Int) (y:Nat) (out:Nat->Int) (Q:List Nat) (i:Nat):Prop where
 nd:Q.Nodup
 lt:∀x∈Q,x<cnt
 iff:∀v,v<cnt->(0<=out v↔v∈Q)
 lo:∀v,v<cnt->-1<=out v
 first:out y=0
 up:∀j (h:j<Q.length),out Q[j]<=j
 zero:∀v,v<cnt->out v=0->v=y
 down:∀v,v<cnt->0<out v->∃e,e<bs.length/\Fy bs e v/\0<fU bs f e v/\out (cr bs e v)=out v-1
 shut:∀j (h:j<Q.length),j<i->∀e,e<bs.length->Fy bs e Q[j]->0<fU bs f e (cr bs e Q[j])->0<=out (cr bs e Q[j])
section
variable {cnt:Nat} {bs:List PB} {f:Nat->Int} {y:Nat} {out:Nat->Int} {Q:List Nat} {i:Nat}
theorem A8.start (hy:y<cnt):A8 cnt bs f y (fun v=>if v=y then 0 else -1) [y] 0 where
 nd:=by simp
 lt:=fun x hx=>by rw[List.mem_singleton.1 hx];exact hy
 iff:=fun v _=>by
  by_cases h:v=y<;>simp[h]
 lo:=fun v _=>by split<;>omega
 first:=if_pos rfl
 up:=fun j h=>by
  have:j=0:=by simp at h;omega
  subst this;simp
 zero:=fun v _ h=>by
  by_cases hv:v=y
  ·exact hv
  ·rw[if_neg hv]at h;omega
 down:=fun v _ h=>by
  by_cases hv:v=y
  ·rw[if_pos hv]at h;omega
  ·rw[if_neg hv]at h;omega
 shut:=fun j h hj=>by omega
theorem A8.len (h:A8 cnt bs f y out Q i):Q.length<=cnt:=pv cnt Q h.nd h.lt
theorem A8.visit (h:A8 cnt bs f y out Q i) (ok:om cnt bs) (hi:i<Q.length) {e:Nat} (he:e<bs.length) (qm:Fy bs e Q[i]) (kK:out (cr bs e Q[i])<0) (gp:0<fU bs f e (cr bs e Q[i])):
  A8 cnt bs f y (fun v=>if v=cr bs e Q[i]then out Q[i]+1 else out v) (Q++[cr bs e Q[i]]) i:=by
 have LB:0<=out Q[i]:=(h.iff _ (h.lt _ (List.getElem_mem hi))).2 (List.getElem_mem hi)
 have hq:=pz ok (v:=Q[i]) he
 have gI:=Kl ok he qm
 have Ur:=pA ok he qm
 have VU:cr bs e Q[i]∉Q:=fun hm=>by have:=(h.iff _ hq).2 hm;omega
 have k6:=h.up i hi
 generalize hw:cr bs e Q[i]=w at *
 have tx:∀v,0<=out v->(if v=w then out Q[i]+1 else out v)=out v:=fun v hv=>by
  rw[if_neg];rintro rfl;omega
 have mono:∀v,0<=out v->0<=(if v=w then out Q[i]+1 else out v):=fun v hv=>by rw[tx v hv];exact hv
 refine⟨?_,?_,?_,?_,?_,?_,?_,?_,?_⟩
 ·rw[List.nodup_append]
  exact⟨h.nd,by simp,fun a ha b hb=>by rw[List.mem_singleton.1 hb];rintro rfl;exact VU ha⟩
 ·intro x hx
  rcases List.mem_append.1 hx with hx|hx
  ·exact h.lt x hx
  ·rw[List.mem_singleton.1 hx];exact hq
 ·intro v hv
  by_cases Is:v=w
  ·subst Is;simp;omega
  ·rw[if_neg Is,h.iff v hv];simp[Is]
 ·intro v hv
  by_cases Is:v=w
  ·rw[if_pos Is];omega
  ·rw[if_neg Is];exact h.lo v hv
 ·rw[tx y (by rw[h.first];exact Int.le_refl _)];exact h.first
 ·intro j hj
  by_cases gW:j<Q.length
  ·rw[List.getElem_append_left gW,tx _ ((h.iff _ (h.lt _ (List.getElem_mem gW))).2 (List.getElem_mem gW))]
   exact h.up j gW
  ·have Mv:j=Q.length:=by simp at hj;omega
   subst Mv
   simp
   omega
 ·intro v hv h0
  by_cases Is:v=w
  ·rw[if_pos Is]at h0;omega
  ·rw[if_neg Is]at h0;exact h.zero v hv h0
 ·intro v hv h0
  by_cases Is:v=w
  ·subst Is
   rw[if_pos rfl]
   refine⟨e,he,by rw[<-hw];exact zp,gp,?_⟩
   rw[Ur,tx _ LB];omega
  ·rw[if_neg Is]at h0 ⊢
   obtain⟨e',h1,h2,h3,h4⟩:=h.down v hv h0
   exact⟨e',h1,h2,h3,by rw[tx _ ae];exact h4⟩
 ·intro j hj lr e' Mr N9 hr
  have gW:j<Q.length:=ae
  rw[List.getElem_append_left gW]at N9 hr ⊢
  exact mono _ (h.shut j gW lr e' Mr N9 hr)
theorem A8.next (h:A8 cnt bs f y out Q i) (hi:i<Q.length) (hs:∀e∈jB bs bs.length Q[i],0<fU bs f e (cr bs e Q[i])->0<=out (cr bs e Q[i])):A8 cnt bs f y out Q (i+1):=
 ⟨h.nd,h.lt,h.iff,h.lo,h.first,h.up,h.zero,h.down,fun j hj lr e he qm hr=>by
  by_cases Mv:j=i
  ·subst Mv;exact hs e (sg.2 ⟨he,qm⟩) hr
  ·exact h.shut j hj ae e he qm hr⟩
theorem A8.done (h:A8 cnt bs f y out Q i) (ok:om cnt bs) (hi:Q.length<=i):zG cnt bs f y out where
 lo:=fun v hv=>⟨h.lo v hv,by
  by_cases h0:0<=out v
  ·obtain⟨j,hj,rfl⟩:=List.getElem_of_mem ((h.iff v hv).1 h0)
   have:=h.up j hj
   have:=h.len
   omega
  ·omega⟩
 first:=h.first
 zero:=h.zero
 down:=h.down
 shut:=fun e v he qm h0 hr=>by
  obtain⟨j,hj,Ri⟩:=List.getElem_of_mem ((h.iff _ (pz ok he)).1 h0)
  have h2:=h.shut j hj ae e he (by rw[Ri];exact zp)
  rw[Ri,pA ok he qm]at h2
  exact h2 hr
end
end Go.Proofs.YtkbipfflibjfbaaGreat.V

namespace Go.Proofs.YtkbipfflibjfbaaGreat.V
open Go.RowKit
attribute [local irreducible] ef wpOps gN Call
attribute [local go_sem] aH fJ eW fZ gh dh upd cD K.av cP AV.cells AV.cell rowOf rowsOf part ld rowAt bU cw dI ek iq bL de eD gj fq dx ew db da dW dY bR bd cU bQ cW cV er ez eu cR bV dc eo bP aL cY cI im br cH bz bc dB bo dF AV.undef bx bE dZ ej dV ec cJ eC eE cF eB eA cX cZ List.getD_cons_zero List.getD_cons_succ List.getD_nil List.all_cons List.all_nil Bool.and_true Bool.true_and Bool.and_self Bool.not_true Bool.not_false Option.map_some Option.map_none Option.bind_some Option.bind_none List.length_cons List.length_nil List.take_succ_cons List.take_zero List.take_nil List.drop_succ_cons List.drop_zero List.drop_nil List.head?_cons List.map_cons List.map_nil List.getElem?_cons_zero List.getElem?_cons_succ List.cons_append List.nil_append List.append_nil List.length_map List.set_cons_zero List.set_cons_succ Nat.reduceMul eq_self Int.toNat_natCast Int.natCast_nonneg and_self true_and and_true decide_true decide_false Bool.false_eq_true Nat.zero_add Nat.add_zero List.contains_cons List.contains_nil Bool.or_false Bool.false_or beq_self_eq_true Nat.reduceBEq ne_eq not_true_eq_false not_false_eq_true Id.mk.injEq false_and and_false Nat.reduceLT Int.reduceLE Int.reduceLT Int.reduceToNat Int.reduceNeg Int.reduceAdd Nat.le_refl List.length_append beq_true beq_false Bool.not_eq_eq_eq_not or_false false_or dM ai ao aD bt cz aY bj aV bf cL bJ
def oi (P:Program) (f:Nat) (args:List AV) (R:AV->Prop):Prop:=∀n:Nat,Call P f args ⟨fun _=>none,n⟩ fun r0 σ'=>∃r',gw σ'.get 6 r0=some r'/\R r'
theorem G2 {P:Program} {f:Nat} {args fx:List AV} {g:Rows} {n:Nat} {R:AV->Prop} (hv:cQ (dM g) 6 args=some fx) (h:Sound P f fx ⟨fun _=>none,n⟩ fun r0 σ'=>∃r',gw σ'.get 6 r0=some r'/\R r'):Sound P f args ⟨g,n⟩ fun r σ'=>R r/\σ'=⟨g,n⟩:=by
 intro hs D ι w vs S U A
 refine(yu (g0:=g) (K:=R) ⟨fx,hv,h⟩ (fun _ _ h=>h) S U A).mono ?_
 rintro e w' ⟨r,D',u,rfl,hR,T,S',hr⟩
 exact⟨r,g,n,D',ι,u,rfl,⟨hR,rfl⟩,T,S',U,Nat.le_refl _,hr⟩
theorem oi.x {P:Program} (hm:P.follows .mixedOrders=true) {f:Nat} {args fx:List AV} {R:AV->Prop} (h:oi P f fx R) {σ:ax} (hv:cQ (dM σ.get) 6 args=some fx):Call P f args σ fun r σ'=>R r/\σ'=σ:=
 gF (G2 hv (gG hm (h σ.next)))
theorem oi.body {P:Program} {f:Nat} {args:List AV} {R:AV->Prop} {nt na:Nat} {body:VC} {res:List qg} (hf:nf P f=some ⟨nt,na,body,res⟩) (ha:na=args.length) (h:(∀a∈args,eZ a)->∀n:Nat,ef (Call P) body (mH res fun r0 σ'=>∃r',gw σ'.get 6 r0=some r'/\R r') (cD args) ⟨fun _=>none,n⟩):oi P f args R:=fun n=>mU hf ha fun hl=>h hl n
def eF (f:Nat->Int) (n:Nat):List (List AV):=(List.range n).map fun i=>aX (f i)
theorem dS (f:Nat->Int) (n:Nat):(eF f n).length=n:=by simp[eF]
theorem ee {f:Nat->Int} {n i:Nat} (h:i<n):(eF f n)[i]? =some (aX (f i)):=by simp[eF,h]
theorem lQ {f g:Nat->Int} {n k:Nat} {v:Int} (hk:k<n) (hv:g k=v) (h:∀i,i<n->i≠k->g i=f i):(eF f n).set k (aX v)=eF g n:=by
 refine List.ext_getElem? fun i=>?_
 rw[List.getElem?_set]
 by_cases hi:k=i
 ·subst hi
  rw[if_pos rfl,dS,if_pos hk,ee hk,hv]
 ·rw[if_neg hi]
  by_cases fB:i<n
  ·rw[ee fB,ee fB,h i fB (fun h=>hi h.symm)]
  ·rw[List.getElem?_eq_none (by rw[dS];omega),List.getElem?_eq_none (by rw[dS];omega)]
theorem HY (f:Nat->Int) (n:Nat):eF f (n+1)=eF f n++[aX (f n)]:=by simp[eF,List.range_succ]
theorem fzI (g:Rows) (n:Nat) (a:Int):cQ g (n+1) (aX a)=some (aX a):=by simp[aX,ai,ao,aD]
theorem U7 (g:Rows) (n:Nat) (a:Int):eh g (n+1) (aX a)=some (aX a):=by simp[aX,aI,aW,dw]
theorem KQ {g:Rows} {f:Nat->Int} {n m:Nat}:iK g (m+1) (eF f n)=some (eF f n):=by
 have:eF f n=((List.range n).map f).map aX:=by simp[eF]
 rw[this];exact kI fun x=>U7 g m x
theorem AX {g:Rows} {f:Nat->Int} {n m:Nat}:eK g (m+1) (eF f n)=some (eF f n):=by
 have:eF f n=((List.range n).map f).map aX:=by simp[eF]
 rw[this];exact lD fun x=>fzI g m x
def Qu (l:List Nat):AV:=if l=[]then .ck else .sl (l.map eN)
def qM (cnt:Nat) (bs:List PB) (m:Nat):List (List AV):=(List.range cnt).map fun v=>[Qu (jB bs m v)]
theorem DH {cnt:Nat} {bs:List PB} {m v:Nat} (h:v<cnt):(qM cnt bs m)[v]? =some [Qu (jB bs m v)]:=by simp[qM,h]
def gi (cnt:Nat) (bs:List PB) (f:Nat->Int):List AV:=[.int .i64 cnt,.sl (bs.map ay),.sl (qM cnt bs bs.length),.sl (eF f bs.length)]
theorem uQ {bs:List PB} {e:Nat} (h:e<bs.length):(bs.map ay)[e]? =some (ay (cG bs e)):=getD_map ay h
def Small (bs:List PB) (f:Nat->Int):Prop:=∀e,e<bs.length->(0<=(cG bs e).s/\(cG bs e).s<=4)/\-4<=f e/\f e<=4
theorem KB (cnt:Nat) (bs:List PB) (f:Nat->Int) (hs:Small bs f) (e v:Nat) (he:e<bs.length):ak Tryz.prog 224 [.dq (gi cnt bs f),.int .i64 v,.int .i64 e] (.iJ [.int .i64 (fU bs f e v),.int .i64 (cr bs e v)]):=by
 refine ak.body eM rfl fun hl n0=>?_
 clear hl
 have hb:=uQ he
 have hf:=ee (f:=f) he
 obtain⟨⟨s0,s1⟩,s2,s3⟩:=hs e he
 have w1:IntKind.i64.wrap ((cG bs e).s-f e)=(cG bs e).s-f e:=aJ ae
 have w2:IntKind.i64.wrap ((cG bs e).s+f e)=(cG bs e).s+f e:=aJ ae
 unfold fU cr
 generalize cG bs e=b at *
 by_cases h:b.a=v
 ·have hd:decide ((b.a:Int)=(v:Int))=true:=decide_eq_true (by rw[h])
  (try((repeat(revert hN;revert N;apply Pn.out));refine wk (tw @gi.eq_1 (tw @hb (tw @hf (tw @ay.eq_1 (tw @aX.eq_1 (tw @hd (tw @w1 @w2))))))) ?_;(repeat(refine Pn.mk ?_;intro N hN))))
  refine j0 (.inl rfl) (by simp only[go_sem, ↓reduceIte,Nat.reduceEqDiff,Nat.reduceAdd,Nat.reduceSub,Nat.reduceLeDiff,reduceCtorEq];rfl) (by simp only[go_sem, ↓reduceIte,Nat.reduceEqDiff,Nat.reduceAdd,Nat.reduceSub,Nat.reduceLeDiff,reduceCtorEq];rfl) ?_
  simp only[eV,aI,aW,dw,Option.map_some,if_pos h]
 ·have hd:decide ((b.a:Int)=(v:Int))=false:=decide_eq_false fun hc=>h ae
  (try((repeat(revert hN;revert N;apply Pn.out));refine wk (tw @gi.eq_1 (tw @hb (tw @hf (tw @ay.eq_1 (tw @aX.eq_1 (tw @hd (tw @w1 @w2))))))) ?_;(repeat(refine Pn.mk ?_;intro N hN))))
  refine j0 (.inl rfl) (by simp only[go_sem, ↓reduceIte,Nat.reduceEqDiff,Nat.reduceAdd,Nat.reduceSub,Nat.reduceLeDiff,reduceCtorEq];rfl) (by simp only[go_sem, ↓reduceIte,Nat.reduceEqDiff,Nat.reduceAdd,Nat.reduceSub,Nat.reduceLeDiff,reduceCtorEq];rfl) ?_
  simp only[eV,aI,aW,dw,Option.map_some,if_neg h]
theorem Gh (cnt:Nat) (hn:cnt<=1048576) (bs:List PB) (ok:om cnt bs) (ke:bs.length<=1048576) (f:Nat->Int) (hs:Small bs f) (y:Nat) (hy:y<cnt):
  oi Tryz.prog 199 [.dq (gi cnt bs f),.int .i64 y] fun r=>∃out,r=.sl (eF out cnt)/\zG cnt bs f y out:=by
 refine oi.body eM rfl fun hl n0=>?_
 clear hl
 (try((repeat(revert hN;revert N;apply Pn.out));refine wk @gi.eq_1 ?_;(repeat(refine Pn.mk ?_;intro N hN))))
 refine aT (fun n env st=>∃k:Nat,n=(cnt)-k/\k<=(cnt)/\env 6=.int .i64 (k:Int)/\(∃o:Id,env 5=.own o 0 k/\st.get o=some ⟨true,1,eF (fun _=>-1) k⟩/\o.cC<st.next)) (cnt) ⟨0,ae,ae,sl @gi.eq_1,⟨⟨199001000,n0+1⟩,by(simp only[go_sem, ↓reduceIte,Nat.reduceEqDiff,Nat.reduceAdd,Nat.reduceSub,Nat.reduceLeDiff,reduceCtorEq])<;>rfl,by(simp only[go_sem, ↓reduceIte,Nat.reduceEqDiff,Nat.reduceAdd,Nat.reduceSub,Nat.reduceLeDiff,reduceCtorEq])<;>rfl,bW⟩⟩ ?_
 rintro n_a env_a st_a ⟨k,rfl,ale,a6,kB⟩ dr
 have a0:=dr 0 (by kernel_rfl);have a1:=dr 1 (by kernel_rfl)
 simp only[go_sem, ↓reduceIte,Nat.reduceEqDiff,Nat.reduceAdd,Nat.reduceSub,Nat.reduceLeDiff,reduceCtorEq,gi]at a0 a1
 clear dr
 obtain⟨o,a5,ag,r9⟩:=kB
 have tl:=dS (fun _=>-1) k
 have rh:=eX r9
 by_cases hk:(k:Int)<(cnt:Int)
 ·have bZ:∀{e:Env} {gg:Rows} {nx:Nat},(e 6=.int .i64 (IntKind.i64.wrap ((k:Int)+1)))->(∃o:Id,e 5=.own o 0 (k+1)/\gg o=some ⟨true,1,eF (fun _=>-1) (k+1)⟩/\o.cC<nx)->∃m0,m0<(cnt)-k/\∃k:Nat,m0=(cnt)-k/\k<=(cnt)/\e 6=.int .i64 (k:Int)/\(∃o:Id,e 5=.own o 0 k/\gg o=some ⟨true,1,eF (fun _=>-1) k⟩/\o.cC<nx):=fun x1 x2=>⟨_,ae,k+1,rfl,ae,(by rw[x1,aB ae]),x2⟩
  have e1:k+1<=16777216:=ae
  have qo:eF (fun _=>-1) k++[[.int .i64 (-1)]]=eF (fun _=>-1) (k+1):=(HY _ _).symm
  (try((repeat(revert hN;revert N;apply Pn.out));refine wk (tw @a6 (tw @a0 (tw @a1 (tw @a5 (tw @ag (tw @rh (tw @hk (tw @tl (tw @e1 (tw @qo @gi.eq_1)))))))))) ?_;(repeat(refine Pn.mk ?_;intro N hN))))
  exact bZ (sd (tw @a6 (tw @a0 (tw @a1 @gi.eq_1)))) (⟨⟨199005002,st_a.next+1⟩,sd @Nat.zero_add,sd @qo,bW⟩)
 have mQ:k=cnt:=ae
 subst mQ
 have UA:(y:Int)<(k:Int):=ae
 have hym:=ee (f:=fun _=>-1) hy
 have Ck:(eF (fun _=>-1) k).set y (aX 0)=eF (fun v=>if v=y then 0 else -1) k:=lQ hy (if_pos rfl) fun i _ hi=>if_neg hi
 rw[aX]at Ck hym
 (try((repeat(revert hN;revert N;apply Pn.out));refine wk (tw @a6 (tw @a0 (tw @a1 (tw @a5 (tw @ag (tw @rh (tw @hk (tw @tl (tw @UA (tw @hym (tw @Ck @gi.eq_1))))))))))) ?_;(repeat(refine Pn.mk ?_;intro N hN))))
 refine aT (fun m env st=>∃(i:Nat) (out:Nat->Int) (Q:List Nat) (p:Id),m=k-i/\env 8=.int .i64 (i:Int)/\env 7=.own p 0 Q.length/\st.get p=some ⟨true,1,Q.map eN⟩/\st.get o=some ⟨true,1,eF out k⟩/\o.cC<p.cC/\p.cC<st.next/\A8 k bs f y out Q i/\i<=Q.length) k ⟨0,_,[y],⟨199007001,st_a.next+1+1⟩,ae,by(simp only[go_sem, ↓reduceIte,Nat.reduceEqDiff,Nat.reduceAdd,Nat.reduceSub,Nat.reduceLeDiff,reduceCtorEq])<;>rfl,by(simp only[go_sem, ↓reduceIte,Nat.reduceEqDiff,Nat.reduceAdd,Nat.reduceSub,Nat.reduceLeDiff,reduceCtorEq])<;>rfl,by(simp only[go_sem, ↓reduceIte,Nat.reduceEqDiff,Nat.reduceAdd,Nat.reduceSub,Nat.reduceLeDiff,reduceCtorEq])<;>rfl,sd @rh,bW,bW,A8.start hy,by simp⟩ ?_
 rintro n env_b st_b ⟨i,out,Q,p,rfl,b8,b7,bgp,bgo,eb,hpn,hB,hiq⟩ bfr
 have b0:=bfr 0 (by kernel_rfl)
 have b5:=bfr 5 (by kernel_rfl)
 simp only[go_sem, ↓reduceIte,Nat.reduceEqDiff,Nat.reduceAdd,Nat.reduceSub,Nat.reduceLeDiff,reduceCtorEq,a6,a0,a1,a5,gi]at b0 b5
 clear bfr
 have hql:=hB.len
 have UG:=dS out k
 have hqm:(Q.map eN).length=Q.length:=by simp
 have Bi:=eX hpn
 have lZ:=eX (i:=o) (n:=st_b.next) ae
 by_cases hi:(i:Int)<(Q.length:Int)
 ·have fB:i<Q.length:=ae
  have gT:(Q.map eN)[i]? =some (eN Q[i]):=by simp[fB]
  have LB:=hB.lt _ (List.getElem_mem fB)
  obtain⟨vt,P5⟩:∃vt,vt=Q[i]:=⟨_,rfl⟩
  rw[<-P5]at gT LB
  have hA:=DH (cnt:=k) (bs:=bs) (m:=bs.length) LB
  have MC:(vt:Int)<(k:Int):=ae
  have nj:=sf bs bs.length vt
  have hme:∀x,x<(jB bs bs.length vt).length->(jB bs bs.length vt).getD x 0<bs.length/\Fy bs ((jB bs bs.length vt).getD x 0) vt:=fun x hx=>by
   rw[List.getD_eq_getElem?_getD,List.getElem?_eq_getElem hx]
   exact sg.1 (List.getElem_mem hx)
  have Rk:∀e∈jB bs bs.length vt,∃x,x<(jB bs bs.length vt).length/\(jB bs bs.length vt).getD x 0=e:=fun e he=>by
   obtain⟨x,hx,rfl⟩:=List.getElem_of_mem he
   exact⟨x,hx,by rw[List.getD_eq_getElem?_getD,List.getElem?_eq_getElem hx];rfl⟩
  generalize hIn:jB bs bs.length vt=I at *
  unfold Qu at hA
  by_cases Vn:I=[]
  ·rw[if_pos Vn]at hA
   have hI1:I.length=0:=by rw[Vn];rfl
   (try((repeat(revert hN;revert N;apply Pn.out));refine wk (tw @b0 (tw @b5 (tw @b7 (tw @b8 (tw @bgp (tw @hi (tw @gT (tw @hqm (tw @eN.eq_1 @gi.eq_1))))))))) ?_;(repeat(refine Pn.mk ?_;intro N hN))))
   refine aT (fun n env st=>∃x:Nat,n=(I.length)-x/\x<=(I.length)/\env 10=.int .i64 (x:Int)/\(∃(jw:Nat->Int) (Q':List Nat) (p':Id),env 7=.own p' 0 Q'.length/\st.get p'=some ⟨true,1,Q'.map eN⟩/\st.get o=some ⟨true,1,eF jw k⟩/\o.cC<p'.cC/\p'.cC<st.next/\A8 k bs f y jw Q' i/\(∃h:i<Q'.length,Q'[i]=vt)/\(∀z,z<x->0<fU bs f (I.getD z 0) (cr bs (I.getD z 0) vt)->0<=jw (cr bs (I.getD z 0) vt)))) (I.length) ⟨0,ae,ae,sl (tw @b0 (tw @b5 (tw @b8 @gi.eq_1))),⟨out,Q,p,sd @b7,sd @bgp,sd @bgo,eb,bW,hB,⟨fB,P5.symm⟩,fun z hz=>ae⟩⟩ ?_
   rintro n_c env_c st_c ⟨x,rfl,cle,j6,cI0⟩ cfr
   have c0:=cfr 0 (by kernel_rfl);have c5:=cfr 5 (by kernel_rfl);have c8:=cfr 8 (by kernel_rfl);have c9:=cfr 9 (by kernel_rfl)
   simp only[go_sem, ↓reduceIte,Nat.reduceEqDiff,Nat.reduceAdd,Nat.reduceSub,Nat.reduceLeDiff,reduceCtorEq,b0,b5,b8,gi]at c0 c5 c8 c9
   clear cfr
   obtain⟨jw,Q',p',c7,I1,yJ,Ey,PU,dG,⟨xV,rf⟩,Ly⟩:=cI0
   have V3:=dG.len
   have Qy:=dS jw k
   have PV:(Q'.map eN).length=Q'.length:=by simp
   have Am:=eX PU
   have nq:=eX (i:=o) (n:=st_c.next) ae
   have x1:=ep Ey
   have hx:¬(x:Int)<((0:Nat):Int):=ae
   have Tc:x=I.length:=ae
   have hw:IntKind.i64.wrap ((i:Int)+1)=((i+1:Nat):Int):=aB ae
   (try((repeat(revert hN;revert N;apply Pn.out));refine wk (tw @j6 (tw @c0 (tw @c5 (tw @c8 (tw @c9 (tw @c7 (tw @hx (tw @hA (tw @MC @gi.eq_1))))))))) ?_;(repeat(refine Pn.mk ?_;intro N hN))))
   refine⟨_,?_,i+1,jw,Q',p',rfl,sd (tw @j6 (tw @c0 (tw @c5 (tw @c8 (tw @c9 @hw))))),sd @c7,sd @I1,sd @yJ,Ey,bW,dG.next xV fun e he hr=>?_,ae⟩
   ·omega
   ·rw[rf,hIn]at he
    rw[rf]at hr ⊢
    obtain⟨z,hz,rfl⟩:=Rk e he
    exact Ly z ae hr
  ·rw[if_neg Vn]at hA
   have qZ:(I.map eN).length=I.length:=by simp
   (try((repeat(revert hN;revert N;apply Pn.out));refine wk (tw @b0 (tw @b5 (tw @b7 (tw @b8 (tw @bgp (tw @hi (tw @gT (tw @hqm (tw @eN.eq_1 @gi.eq_1))))))))) ?_;(repeat(refine Pn.mk ?_;intro N hN))))
   refine aT (fun n env st=>∃x:Nat,n=(I.length)-x/\x<=(I.length)/\env 10=.int .i64 (x:Int)/\(∃(jw:Nat->Int) (Q':List Nat) (p':Id),env 7=.own p' 0 Q'.length/\st.get p'=some ⟨true,1,Q'.map eN⟩/\st.get o=some ⟨true,1,eF jw k⟩/\o.cC<p'.cC/\p'.cC<st.next/\A8 k bs f y jw Q' i/\(∃h:i<Q'.length,Q'[i]=vt)/\(∀z,z<x->0<fU bs f (I.getD z 0) (cr bs (I.getD z 0) vt)->0<=jw (cr bs (I.getD z 0) vt)))) (I.length) ⟨0,ae,ae,sl (tw @b0 (tw @b5 (tw @b8 @gi.eq_1))),⟨out,Q,p,sd @b7,sd @bgp,sd @bgo,eb,bW,hB,⟨fB,P5.symm⟩,fun z hz=>ae⟩⟩ ?_
   rintro n_c env_c st_c ⟨x,rfl,cle,j6,cI0⟩ cfr
   have c0:=cfr 0 (by kernel_rfl);have c5:=cfr 5 (by kernel_rfl);have c8:=cfr 8 (by kernel_rfl);have c9:=cfr 9 (by kernel_rfl)
   simp only[go_sem, ↓reduceIte,Nat.reduceEqDiff,Nat.reduceAdd,Nat.reduceSub,Nat.reduceLeDiff,reduceCtorEq,b0,b5,b8,gi]at c0 c5 c8 c9
   clear cfr
   obtain⟨jw,Q',p',c7,I1,yJ,Ey,PU,dG,⟨xV,rf⟩,Ly⟩:=cI0
   have V3:=dG.len
   have Qy:=dS jw k
   have PV:(Q'.map eN).length=Q'.length:=by simp
   have Am:=eX PU
   have nq:=eX (i:=o) (n:=st_c.next) ae
   have x1:=ep Ey
   by_cases hx:(x:Int)<(I.length:Int)
   ·have iM:∀{e:Env} {gg:Rows} {nx:Nat},(e 10=.int .i64 (IntKind.i64.wrap ((x:Int)+1)))->(∃(jw:Nat->Int) (Q':List Nat) (p':Id),e 7=.own p' 0 Q'.length/\gg p'=some ⟨true,1,Q'.map eN⟩/\gg o=some ⟨true,1,eF jw k⟩/\o.cC<p'.cC/\p'.cC<nx/\A8 k bs f y jw Q' i/\(∃h:i<Q'.length,Q'[i]=vt)/\(∀z,z<(x+1)->0<fU bs f (I.getD z 0) (cr bs (I.getD z 0) vt)->0<=jw (cr bs (I.getD z 0) vt)))->∃m0,m0<(I.length)-x/\∃x:Nat,m0=(I.length)-x/\x<=(I.length)/\e 10=.int .i64 (x:Int)/\(∃(jw:Nat->Int) (Q':List Nat) (p':Id),e 7=.own p' 0 Q'.length/\gg p'=some ⟨true,1,Q'.map eN⟩/\gg o=some ⟨true,1,eF jw k⟩/\o.cC<p'.cC/\p'.cC<nx/\A8 k bs f y jw Q' i/\(∃h:i<Q'.length,Q'[i]=vt)/\(∀z,z<x->0<fU bs f (I.getD z 0) (cr bs (I.getD z 0) vt)->0<=jw (cr bs (I.getD z 0) vt))):=fun x1 x2=>⟨_,ae,x+1,rfl,ae,(by rw[x1,aB ae]),x2⟩
    have Rv:x<I.length:=ae
    have Po:(I.map eN)[x]? =some (eN (I.getD x 0)):=getD_map eN Rv
    obtain⟨he,qm⟩:=hme x Rv
    obtain⟨e,Ug⟩:∃e,e=I.getD x 0:=⟨_,rfl⟩
    rw[<-Ug]at Po he qm
    have jv:=uQ he
    have hq:=pz ok (v:=vt) he
    have Ur:=pA ok he qm
    have PX:=KB k bs f hs e (cr bs e vt) he
    have SF:=ok e he
    have pR:IntKind.i64.wrap (((cG bs e).a:Int)+((cG bs e).b:Int))=((cG bs e).a:Int)+((cG bs e).b:Int):=aJ ae
    have x9:IntKind.i64.wrap (((cG bs e).a:Int)+((cG bs e).b:Int)-(vt:Int))=(cr bs e vt:Int):=by
     rw[aJ ae]
     unfold cr
     rcases qm with h1|h1
     ·rw[if_pos h1];omega
     ·rw[if_neg fun h2=>SF.2.2 (h2.trans h1.symm)];omega
    have Rp:(cr bs e vt:Int)<(k:Int):=ae
    have PJ:=ee (f:=jw) hq
    have Im:=ee (f:=jw) LB
    rw[gi]at PX
    have k6:=dG.up i xV
    rw[rf]at k6
    have kJ:=dG.lo vt LB
    have JQ:IntKind.i64.wrap (jw vt+1)=jw vt+1:=aJ ae
    rw[aX]at PJ Im
    generalize Bd:cG bs e=b at *
    by_cases kK:jw (cr bs e vt)<0
    ·by_cases gp:0<fU bs f e (cr bs e vt)
     ·have hV:=dG.visit ok xV (e:=e) he (by rw[rf];exact qm) (by rw[rf];exact kK) (by rw[rf];exact gp)
      rw[rf]at hV
      have ei:(eF jw k).set (cr bs e vt) (aX (jw vt+1))=eF (fun v=>if v=cr bs e vt then jw vt+1 else jw v) k:=lQ hq (if_pos rfl) fun v _ hv=>if_neg hv
      rw[aX]at ei
      have e1:Q'.length+1<=16777216:=ae
      (repeat(first|((repeat(revert hN;revert N;apply Pn.out));refine wk (tw @j6 (tw @c0 (tw @c5 (tw @c8 (tw @c9 (tw @c7 (tw @I1 (tw @yJ (tw @hx (tw @hA (tw @qZ (tw @Po (tw @MC (tw @jv (tw @pR (tw @x9 (tw @Rp (tw @PJ (tw @Im (tw @kK (tw @gp (tw @JQ (tw @ei (tw @PV (tw @Qy (tw @Am (tw @nq (tw @x1 (tw @e1 (tw @eN.eq_1 (tw @ay.eq_1 @gi.eq_1))))))))))))))))))))))))))))))) ?_;(repeat(refine Pn.mk ?_;intro N hN)))|((try apply Or.inl);refine⟨_,ak.x (PX) (sd (tw @j6 (tw @c0 (tw @c5 (tw @c8 (tw @c9 (tw @c7 (tw @I1 (tw @yJ (tw @hx (tw @hA (tw @qZ (tw @Po (tw @MC (tw @jv (tw @pR (tw @x9 (tw @Rp (tw @PJ (tw @Im (tw @kK (tw @gp (tw @JQ (tw @ei (tw @PV (tw @Qy (tw @Am (tw @nq (tw @x1 (tw @e1 (tw @eN.eq_1 (tw @ay.eq_1 @gi.eq_1)))))))))))))))))))))))))))))))),?_⟩;refine hN _ _ ?_;clear hN N)))
      exact iM (sd (tw @j6 (tw @c0 (tw @c5 (tw @c8 @c9))))) (⟨_,Q'++[cr bs e vt],⟨199020003,st_c.next+1+1+1+1+1+1⟩,by rw[List.length_append];simp only[go_sem, ↓reduceIte,Nat.reduceEqDiff,Nat.reduceAdd,Nat.reduceSub,Nat.reduceLeDiff,reduceCtorEq,List.length_cons,List.length_nil],by rw[List.map_append,List.map_cons,List.map_nil];simp only[go_sem, ↓reduceIte,Nat.reduceEqDiff,Nat.reduceAdd,Nat.reduceSub,Nat.reduceLeDiff,reduceCtorEq,eN],sd (tw @nq @x1),bW,bW,hV,⟨by simp;omega,by rw[List.getElem_append_left xV];exact rf⟩,fun z hz hr=>by
       by_cases Tf:z=x
       ·subst Tf
        rw[<-Ug,if_pos rfl]
        have:=(dG.iff vt LB).2 (by rw[<-rf];exact List.getElem_mem xV)
        omega
       ·have:=Ly z ae hr
        split
        ·have:=(dG.iff vt LB).2 (by rw[<-rf];exact List.getElem_mem xV)
         omega
        ·exact this⟩)
     ·(repeat(first|((repeat(revert hN;revert N;apply Pn.out));refine wk (tw @j6 (tw @c0 (tw @c5 (tw @c8 (tw @c9 (tw @c7 (tw @I1 (tw @yJ (tw @hx (tw @hA (tw @qZ (tw @Po (tw @MC (tw @jv (tw @pR (tw @x9 (tw @Rp (tw @PJ (tw @kK (tw @gp (tw @Qy (tw @Am (tw @nq (tw @x1 (tw @eN.eq_1 (tw @ay.eq_1 @gi.eq_1)))))))))))))))))))))))))) ?_;(repeat(refine Pn.mk ?_;intro N hN)))|((try apply Or.inl);refine⟨_,ak.x (PX) (sd (tw @j6 (tw @c0 (tw @c5 (tw @c8 (tw @c9 (tw @c7 (tw @I1 (tw @yJ (tw @hx (tw @hA (tw @qZ (tw @Po (tw @MC (tw @jv (tw @pR (tw @x9 (tw @Rp (tw @PJ (tw @kK (tw @gp (tw @Qy (tw @Am (tw @nq (tw @x1 (tw @eN.eq_1 (tw @ay.eq_1 @gi.eq_1))))))))))))))))))))))))))),?_⟩;refine hN _ _ ?_;clear hN N)))
      exact iM (sd (tw @j6 (tw @c0 (tw @c5 (tw @c8 @c9))))) (⟨jw,Q',p',sd @c7,sd (tw @I1 @Am),sd (tw @yJ @nq),Ey,bW,dG,⟨xV,rf⟩,fun z hz hr=>by
       by_cases Tf:z=x
       ·subst Tf;rw[<-Ug]at hr;exact absurd hr gp
       ·exact Ly z ae hr⟩)
    ·(repeat(first|((repeat(revert hN;revert N;apply Pn.out));refine wk (tw @j6 (tw @c0 (tw @c5 (tw @c8 (tw @c9 (tw @c7 (tw @I1 (tw @yJ (tw @hx (tw @hA (tw @qZ (tw @Po (tw @MC (tw @jv (tw @pR (tw @x9 (tw @Rp (tw @PJ (tw @kK (tw @Qy (tw @Am (tw @nq (tw @x1 (tw @eN.eq_1 (tw @ay.eq_1 @gi.eq_1))))))))))))))))))))))))) ?_;(repeat(refine Pn.mk ?_;intro N hN)))|((try apply Or.inl);refine⟨_,ak.x (PX) (sd (tw @j6 (tw @c0 (tw @c5 (tw @c8 (tw @c9 (tw @c7 (tw @I1 (tw @yJ (tw @hx (tw @hA (tw @qZ (tw @Po (tw @MC (tw @jv (tw @pR (tw @x9 (tw @Rp (tw @PJ (tw @kK (tw @Qy (tw @Am (tw @nq (tw @x1 (tw @eN.eq_1 (tw @ay.eq_1 @gi.eq_1)))))))))))))))))))))))))),?_⟩;refine hN _ _ ?_;clear hN N)))
     exact iM (sd (tw @j6 (tw @c0 (tw @c5 (tw @c8 @c9))))) (⟨jw,Q',p',sd @c7,sd (tw @I1 @Am),sd (tw @yJ @nq),Ey,bW,dG,⟨xV,rf⟩,fun z hz hr=>by
      by_cases Tf:z=x
      ·subst Tf;rw[<-Ug];omega
      ·exact Ly z ae hr⟩)
   ·have Tc:x=I.length:=ae
    have hw:IntKind.i64.wrap ((i:Int)+1)=((i+1:Nat):Int):=aB ae
    (try((repeat(revert hN;revert N;apply Pn.out));refine wk (tw @j6 (tw @c0 (tw @c5 (tw @c8 (tw @c9 (tw @c7 (tw @hx (tw @hA (tw @qZ (tw @MC @gi.eq_1)))))))))) ?_;(repeat(refine Pn.mk ?_;intro N hN))))
    refine⟨_,?_,i+1,jw,Q',p',rfl,sd (tw @j6 (tw @c0 (tw @c5 (tw @c8 (tw @c9 @hw))))),sd @c7,sd @I1,sd @yJ,Ey,bW,dG.next xV fun e he hr=>?_,ae⟩
    ·omega
    ·rw[rf,hIn]at he
     rw[rf]at hr ⊢
     obtain⟨z,hz,rfl⟩:=Rk e he
     exact Ly z ae hr
 ·(try((repeat(revert hN;revert N;apply Pn.out));refine wk (tw @b0 (tw @b5 (tw @b7 (tw @b8 (tw @hi @gi.eq_1))))) ?_;(repeat(refine Pn.mk ?_;intro N hN))))
  have th:gw st_b.get 6 (.own o 0 k)=some (.sl (eF out k)):=nQ bgo (by rw[UG];omega) (by rw[List.drop_zero,List.take_of_length_le (by rw[UG];omega)];exact KQ)
  exact⟨_,rfl,_,by simp only[go_sem, ↓reduceIte,Nat.reduceEqDiff,Nat.reduceAdd,Nat.reduceSub,Nat.reduceLeDiff,reduceCtorEq,eJ];exact th,out,rfl,hB.done ok ae⟩
end Go.Proofs.YtkbipfflibjfbaaGreat.V

namespace Go.Proofs.YtkbipfflibjfbaaGreat.V
open Go.RowKit
attribute [local irreducible] ef wpOps gN Call
attribute [local go_sem] aH fJ eW fZ gh dh upd cD K.av cP AV.cells AV.cell rowOf rowsOf part ld rowAt bU cw dI ek iq bL de eD gj fq dx ew db da dW dY bR bd cU bQ cW cV er ez eu cR bV dc eo bP aL cY cI im br cH bz bc dB bo dF AV.undef bx bE dZ ej dV ec cJ eC eE cF eB eA cX cZ List.getD_cons_zero List.getD_cons_succ List.getD_nil List.all_cons List.all_nil Bool.and_true Bool.true_and Bool.and_self Bool.not_true Bool.not_false Option.map_some Option.map_none Option.bind_some Option.bind_none List.length_cons List.length_nil List.take_succ_cons List.take_zero List.take_nil List.drop_succ_cons List.drop_zero List.drop_nil List.head?_cons List.map_cons List.map_nil List.getElem?_cons_zero List.getElem?_cons_succ List.cons_append List.nil_append List.append_nil List.length_map List.set_cons_zero List.set_cons_succ eq_self Int.toNat_natCast Int.natCast_nonneg and_self true_and and_true decide_true decide_false Bool.false_eq_true Nat.zero_add Nat.add_zero List.contains_cons List.contains_nil Bool.or_false Bool.false_or beq_self_eq_true ne_eq not_true_eq_false not_false_eq_true Id.mk.injEq false_and and_false Nat.le_refl List.length_append beq_true beq_false Bool.not_eq_eq_eq_not or_false false_or dM ai ao aD bt cz aY bj aV bf cL bJ
def QX:yq (List Nat):=fun g cs x ids=>(x=[]/\cs=[.ck]/\ids=[])∨∃id,cs=[.own id 0 x.length]/\0<x.length/\g id=some ⟨true,1,x.map eN⟩/\ids=[id]
theorem Ot:uA QX 1 where
 frame:=fun h hf=>by
  rcases h with h|⟨id,h1,h0,h2,h3⟩
  ·exact .inl h
  ·subst h3;exact .inr ⟨id,h1,h0,(hf id (by simp)).trans h2,rfl⟩
 len:=fun h=>by rcases h with⟨_,h,_⟩|⟨id,h,_⟩<;>subst h<;>rfl
 cell:=fun h=>by rcases h with⟨_,h,_⟩|⟨id,h,_⟩<;>subst h<;>rfl
 live:=fun h i hi=>by
  rcases h with⟨_,_,h⟩|⟨id,h1,h0,h2,h3⟩
  ·subst h;cases hi
  ·subst h3
   have:i=id:=by simpa using hi
   subst this
   exact⟨_,h2,rfl,by simp[qt]⟩
 small:=by simp[qt]
theorem Qd {g:Rows} {rows:List (List AV)} {xs:List (List Nat)} {ids:List Id} (n:Nat) (h:eT QX g rows xs ids):eK (dM g) (n+2) rows=some (xs.map fun l=>[Qu l]):=
 h.fz (fun {cs x ids} h=>by
  rcases h with⟨h0,h1,_⟩|⟨id,h1,h0,h2,_⟩
  ·subst h0 h1;rw[ai,ao,aY];rfl
  ·have gI:x≠[]:=by rintro rfl;simp at h0
   subst h1
   rw[ai,ao,gH (e:=eN) (sz:=1) (by simp[dM,h2]) rfl fun a=>fzN _ n a]
   simp[Qu,gI])
theorem eT.Tv {α:Type} {R:yq α} {sz:Nat} {g:Rows} {rows:List (List AV)} {xs:List α} {ids:List Id} (ok:uA R sz) (h:eT R g rows xs ids) (kZ:ids.Nodup) (k:Nat) (hk:k<xs.length):
  ∃cs ic,rows[k]? =some cs/\R g cs xs[k] ic/\(∀i∈ic,i∈ids)/\∀(g':Rows) mM x' Rx,R g' mM x' Rx->(∀i∈ids,i∉ic->g' i=g i)->Rx.Nodup->(∀i∈Rx,i∉ids)->∃EE,eT R g' (rows.set k mM) (xs.set k x') EE/\EE.Nodup/\∀i∈EE,i∈Rx∨i∈ids:=by
 obtain⟨r1,cs,r2,i1,ic,i2,rfl,rfl,rfl,h3,h4,h5⟩:=h.split k hk
 obtain⟨n1,n2,n3⟩:=List.nodup_append.1 kZ
 obtain⟨nc,n5,n4⟩:=List.nodup_append.1 n2
 refine⟨cs,ic,by simp,h4,fun i hi=>by simp[hi],fun g' mM x' Rx hR hf hn' lF=>⟨i1++(Rx++i2),?_,?_,fun i hi=>?_⟩⟩
 ·have e:xs.set r1.length x'=xs.take r1.length++x'::xs.drop (r1.length+1):=by rw[List.set_eq_take_append_cons_drop,if_pos hk]
  have e2:(r1++cs::r2).set r1.length mM=r1++mM::r2:=by simp
  rw[e,e2]
  refine(h3.frame ok fun i hi=>hf i (by simp[hi]) fun hc=>n3 i hi i (by simp[hc]) rfl).app (.cons hR (h5.frame ok fun i hi=>hf i (by simp[hi]) fun hc=>n4 i hc i hi rfl))
 ·rw[List.nodup_append,List.nodup_append]
  refine⟨n1,⟨hn',n5,fun x hx y hy he=>?_⟩,fun x hx y hy he=>?_⟩
  ·subst he;exact lF x hx (by simp[hy])
  ·subst he
   rcases List.mem_append.1 hy with hy|hy
   ·exact lF x hy (by simp[hx])
   ·exact n3 x hx x (by simp[hy]) rfl
 ·rcases List.mem_append.1 hi with hi|hi
  ·exact .inr (by simp[hi])
  ·rcases List.mem_append.1 hi with hi|hi
   ·exact .inl hi
   ·exact .inr (by simp[hi])
def rI (A:Id) (lo:Nat) (L:List (List Nat)) (g:Rows) (nx:Nat):Prop:=∃rows ids,g A=some ⟨true,1,rows⟩/\eT QX g rows L ids/\ids.Nodup/\∀i∈ids,lo<i.cC/\i.cC<nx
def bH (cnt:Nat) (bs:List PB) (A F:Id):List AV:=[.int .i64 cnt,.sl (bs.map ay),.own A 0 cnt,.own F 0 bs.length]
def l5 (cnt:Nat) (bs:List PB) (m:Nat):List (List Nat):=(List.range cnt).map fun v=>jB bs m v
theorem jV (cnt:Nat) (bs:List PB) (m:Nat):(l5 cnt bs m).length=cnt:=by simp[l5]
structure oQ (cnt:Nat) (bs:List PB) (f:Nat->Int) (X A F:Id) (g:Rows) (nx:Nat):Prop where
 x:g X=some ⟨true,4,[bH cnt bs A F]⟩
 a:rI A F.cC (l5 cnt bs bs.length) g nx
 f:g F=some ⟨true,1,eF f bs.length⟩
 xa:X.cC<A.cC
 af:A.cC<F.cC
 fn:F.cC<nx
theorem rI.fz {A:Id} {lo cnt:Nat} {bs:List PB} {m nx n:Nat} {g:Rows} (h:rI A lo (l5 cnt bs m) g nx):V.fz (dM g) (n+3) (.own A 0 cnt)=some (.sl (qM cnt bs m)):=by
 obtain⟨rows,ids,h1,h2,_,_⟩:=h
 have hl:=h2.len
 rw[jV]at hl
 rw[ig]
 simp only[dM,h1,Option.map_some,if_true]
 rw[if_pos ae,List.drop_zero,List.take_of_length_le ae]
 have:=Qd n h2
 rw[this]
 simp[l5,qM]
theorem oQ.fz {cnt:Nat} {bs:List PB} {f:Nat->Int} {X A F:Id} {g:Rows} {nx:Nat} (h:oQ cnt bs f X A F g nx):V.fz (dM g) 6 (.ptr X 0 0)=some (.dq (gi cnt bs f)):=by
 have hF:dM g F=some ⟨true,1,eF f bs.length⟩:=by simp[dM,h.f]
 have hX:dM g X=some ⟨true,4,[bH cnt bs A F]⟩:=by simp[dM,h.x]
 have hf:V.fz (dM g) 5 (.own F 0 bs.length)=some (.sl (eF f bs.length)):=by
  rw[ig]
  simp only[hF,if_true]
  rw[if_pos (by rw[dS];omega),List.drop_zero,List.take_of_length_le (by rw[dS];omega),AX];rfl
 have ha:=h.a.fz (n:=2)
 rw[bf]
 simp only[hX,if_true,List.getElem?_cons_zero,List.drop_zero,bH,ai,ao,aD,cz,ha,hf,Option.map_some,gi]
theorem Hi (cnt:Nat) (bs:List PB):l5 cnt bs 0=List.replicate cnt []:=by
 refine List.ext_getElem? fun i=>?_
 simp only[l5,List.getElem?_map,List.getElem?_replicate]
 by_cases h:i<cnt
 ·rw[List.getElem?_range h,if_pos h];rfl
 ·rw[List.getElem?_eq_none (by simpa using h),if_neg h];rfl
theorem zt (g:Rows):∀n:Nat,eT QX g (List.replicate n [.ck]) (List.replicate n []) []
 |0=>.nil
 |n+1=>.cons (i1:=[]) (.inl ⟨rfl,rfl,rfl⟩) (zt g n)
def ya (cnt:Nat) (bs:List PB) (m:Nat):List (List Nat):=(l5 cnt bs m).set (cG bs m).a (jB bs m (cG bs m).a++[m])
theorem Cp {cnt:Nat} {bs:List PB} {m v:Nat} (hv:v<cnt) (gI:(cG bs m).a≠v):(ya cnt bs m)[v]? =some (jB bs m v):=by
 unfold ya
 rw[List.getElem?_set_ne gI]
 simp[l5,hv]
theorem Hh {cnt:Nat} {bs:List PB} {m:Nat} (ha:(cG bs m).a<cnt) (hb:(cG bs m).b<cnt) (gI:(cG bs m).a≠(cG bs m).b):(ya cnt bs m).set (cG bs m).b (jB bs m (cG bs m).b++[m])=l5 cnt bs (m+1):=by
 refine List.ext_getElem? fun i=>?_
 by_cases hi:i<cnt
 ·have hr:(l5 cnt bs (m+1))[i]? =some (jB bs (m+1) i):=by simp[l5,hi]
  rw[hr,Hj]
  by_cases h1:(cG bs m).b=i
  ·rw[List.getElem?_set,if_pos h1,if_pos (by simp[ya,jV];omega),if_pos (.inr h1),h1]
  ·rw[List.getElem?_set_ne h1]
   by_cases h2:(cG bs m).a=i
   ·unfold ya
    rw[List.getElem?_set,if_pos h2,if_pos (by rw[jV];omega),if_pos (.inl h2),h2]
   ·rw[Cp hi h2,if_neg (fun h=>h.elim h2 h1),List.append_nil]
 ·rw[List.getElem?_eq_none (by simp[ya,jV];omega),List.getElem?_eq_none (by rw[jV];omega)]
theorem lE {α:Type} {l:List α} {k:Nat} {x:α} (h:l[k]? =some x) (hk:k<l.length):l[k]=x:=by
 rw[List.getElem?_eq_getElem hk]at h;exact Option.some.inj h
theorem F7 {A K:Id} {lo Tr nx k j:Nat} {L:List (List Nat)} {La:List Nat} {g:Rows} {rows:List (List AV)} {ids:List Id} (hR:eT QX g rows L ids) (kZ:ids.Nodup) (oJ:∀i∈ids,lo<i.cC/\i.cC<Tr) (hA:A.cC<=lo) (hL:L[k]? =some La) (hK1:Tr<=K.cC) (Sj:K.cC<nx) (kJ:lo<Tr):
  ∃cs,rows[k]? =some cs/\((La=[]/\cs=[.ck])∨∃id:Id,cs=[.own id 0 La.length]/\0<La.length/\g id=some ⟨true,1,La.map eN⟩/\id.cC<Tr/\lo<id.cC)/\
   ∀g':Rows,g' A=some ⟨true,1,rows.set k [.own K 0 (La.length+1)]⟩->g' K=some ⟨true,1,La.map eN++[[.int .i64 j]]⟩->(∀i:Id,i.cC<Tr->(i=A)=False->(∀id,cs=[.own id 0 La.length]->(i=id)=False)->g' i=g i)->rI A lo (L.set k (La++[j])) g' nx:=by
 have hk:k<L.length:=(List.getElem?_eq_some_iff.1 hL).1
 have Vo:=lE hL hk
 obtain⟨cs,ic,dy,Ra,SN,wD⟩:=hR.Tv Ot kZ k hk
 rw[Vo]at Ra
 refine⟨cs,dy,?_,fun g' h1 h2 h3=>?_⟩
 ·rcases Ra with⟨h1,h2,_⟩|⟨id,h1,h2,h3,h4⟩
  ·exact .inl ⟨h1,h2⟩
  ·subst h4
   have:=oJ id (SN id (by simp))
   exact .inr ⟨id,h1,h2,h3,this.2,this.1⟩
 ·obtain⟨EE,q1,q2,q3⟩:=wD g' [.own K 0 (La.length+1)] (La++[j]) [K] (.inr ⟨K,by simp,by simp,by rw[h2];simp[eN],rfl⟩) (fun i hi Uq=>by
   refine h3 i (oJ i hi).2 ?_ fun id hid=>?_
   ·simp only[eq_iff_iff,iff_false];rintro rfl;have:=oJ _ hi;omega
   ·simp only[eq_iff_iff,iff_false]
    rintro rfl
    rcases Ra with⟨_,h4,_⟩|⟨kS,h4,_,_,h5⟩
    ·rw[hid]at h4;cases h4
    ·rw[hid]at h4
     simp only[List.cons.injEq,AV.own.injEq,and_true]at h4
     rw[h5,h4]at Uq
     exact Uq (by simp)) (by simp) fun i hi hc=>by
   rw[List.mem_singleton.1 hi]at hc;have:=oJ _ hc;omega
  refine⟨_,EE,h1,q1,q2,fun i hi=>?_⟩
  rcases q3 i hi with h|h
  ·rw[List.mem_singleton.1 h];omega
  ·have:=oJ i h;omega
theorem NF {P:Program} {Q:Ex->Env->ax->Prop} {c:VC} {env:Env} {σ:ax} (I:Env->ax->Prop) (h2:∀e s,I e s->Q .normal e s) (h1:∀N':Env->ax->Prop,(∀e s,I e s->N' e s)->ef (Call P) c (dB N' Q) env σ):ef (Call P) c Q env σ:=by
 refine kQ (fun _ _ _ _ h=>h) aU c _ _ env σ (fun x e s h=>?_) (h1 I fun _ _ h=>h)
 cases x with
 |normal=>exact h2 e s h
 |exit id=>exact h
 |ret=>exact h
end Go.Proofs.YtkbipfflibjfbaaGreat.V

namespace Go.Proofs.YtkbipfflibjfbaaGreat.V
open Go.RowKit
attribute [local irreducible] ef wpOps gN Call
attribute [local go_sem] aH fJ eW fZ gh dh upd cD K.av cP AV.cells AV.cell rowOf rowsOf part ld rowAt bU cw dI ek iq bL de eD gj fq dx ew db da dW dY bR bd cU bQ cW cV er ez eu cR bV dc eo bP aL cY cI im br cH bz bc dB bo dF AV.undef bx bE dZ ej dV ec cJ eC eE cF eB eA cX cZ List.getD_cons_zero List.getD_cons_succ List.getD_nil List.all_cons List.all_nil Bool.and_true Bool.true_and Bool.and_self Bool.not_true Bool.not_false Option.map_some Option.map_none Option.bind_some Option.bind_none List.length_cons List.length_nil List.take_succ_cons List.take_zero List.take_nil List.drop_succ_cons List.drop_zero List.drop_nil List.head?_cons List.map_cons List.map_nil List.getElem?_cons_zero List.getElem?_cons_succ List.cons_append List.nil_append List.append_nil List.length_map List.set_cons_zero List.set_cons_succ Nat.reduceMul eq_self Int.toNat_natCast Int.natCast_nonneg and_self true_and and_true decide_true decide_false Bool.false_eq_true Nat.zero_add Nat.add_zero List.contains_cons List.contains_nil Bool.or_false Bool.false_or beq_self_eq_true Nat.reduceBEq ne_eq not_true_eq_false not_false_eq_true Id.mk.injEq false_and and_false Nat.reduceLT Int.reduceLE Int.reduceLT Int.reduceToNat Int.reduceNeg Int.reduceAdd Nat.le_refl List.length_append beq_true beq_false Bool.not_eq_eq_eq_not or_false false_or dM ai ao aD bt cz aY bj aV bf cL bJ
theorem JZ (cnt:Nat) (hn:cnt<=1048576) (bs:List PB) (ok:om cnt bs) (ke:bs.length<=1048576) (σ:ax):
  Call Tryz.prog 197 [.int .i64 cnt,.sl (bs.map ay)] σ fun r σ'=>∃X A F,r=.ptr X 0 0/\σ.next<=X.cC/\oQ cnt bs (fun _=>0) X A F σ'.get σ'.next:=by
 refine Iw O1 rfl fun hl=>?_
 try simp only[q]
 clear hl
 have jN:(0:Int)<=(cnt:Int):=ae
 have qk:(cnt:Int)<=((16777216:Nat):Int):=ae
 have Mo:(0:Int)<=(bs.length:Int):=ae
 have Ln:(bs.length:Int)<=((16777216:Nat):Int):=ae
 have hz:List.replicate bs.length [AV.int .i64 0]=eF (fun _=>0) bs.length:=by
  refine List.ext_getElem? fun i=>?_
  by_cases h:i<bs.length
  ·rw[ee h,List.getElem?_replicate,if_pos h];rfl
  ·rw[List.getElem?_eq_none (by simp;omega),List.getElem?_eq_none (by rw[dS];omega)]
 (try((repeat(revert hN;revert N;apply Pn.out));refine wk (tw @jN (tw @qk (tw @Mo (tw @Ln (tw @Int.le_refl @hz))))) ?_;(repeat(refine Pn.mk ?_;intro N hN))))
 obtain⟨X,hX⟩:∃X:Id,X=⟨197001003,σ.next+1⟩:=⟨_,rfl⟩
 obtain⟨A,hA⟩:∃X:Id,X=⟨197002002,σ.next+1+1⟩:=⟨_,rfl⟩
 obtain⟨F,hF⟩:∃X:Id,X=⟨197003003,σ.next+1+1+1⟩:=⟨_,rfl⟩
 have hXA:X.cC<A.cC:=by rw[hX,hA];(try dsimp only);omega
 have hAF:A.cC<F.cC:=by rw[hA,hF];(try dsimp only);omega
 have hXs:σ.next<=X.cC:=by rw[hX];(try dsimp only);omega
 refine aT (fun n env st=>∃j:Nat,n=(bs.length)-j/\j<=(bs.length)/\env 6=.int .i64 (j:Int)/\env 5=(.ptr X 0 0)/\st.get X=some ⟨true,4,[bH cnt bs A F]⟩/\st.get F=some ⟨true,1,eF (fun _=>0) bs.length⟩/\(rI A F.cC (l5 cnt bs j) st.get st.next/\F.cC<st.next)) (bs.length) ⟨0,ae,ae,by(try simp only[go_sem, ↓reduceIte,Nat.reduceEqDiff,Nat.reduceAdd,Nat.reduceSub,Nat.reduceLeDiff,reduceCtorEq,hX,hF,hA,bH,hz]);try rfl,by(try simp only[go_sem, ↓reduceIte,Nat.reduceEqDiff,Nat.reduceAdd,Nat.reduceSub,Nat.reduceLeDiff,reduceCtorEq,hX,hF,hA,bH,hz]);try rfl,by(try simp only[go_sem, ↓reduceIte,Nat.reduceEqDiff,Nat.reduceAdd,Nat.reduceSub,Nat.reduceLeDiff,reduceCtorEq,hX,hF,hA,bH,hz]);try rfl,by(try simp only[go_sem, ↓reduceIte,Nat.reduceEqDiff,Nat.reduceAdd,Nat.reduceSub,Nat.reduceLeDiff,reduceCtorEq,hX,hF,hA,bH,hz]);try rfl,⟨⟨List.replicate cnt [.ck],[],by rw[hA];(simp only[go_sem, ↓reduceIte,Nat.reduceEqDiff,Nat.reduceAdd,Nat.reduceSub,Nat.reduceLeDiff,reduceCtorEq])<;>rfl,by rw[Hi];exact zt _ _,List.nodup_nil,fun i hi=>by cases hi⟩,by rw[hF];(try dsimp only);omega⟩⟩ ?_
 rintro n_a env_a st_a ⟨j,rfl,ale,a6,a5,ag0,ag1,kB⟩ dr
 have a0:=dr 0 (by kernel_rfl);have a1:=dr 1 (by kernel_rfl)
 simp only[go_sem, ↓reduceIte,Nat.reduceEqDiff,Nat.reduceAdd,Nat.reduceSub,Nat.reduceLeDiff,reduceCtorEq,hX,hF,hA,bH,hz]at a0 a1
 clear dr
 obtain⟨⟨rows,ids,ag,hR,kZ,oJ⟩,hFn⟩:=kB
 have x1:=ep hXA
 have x2:=ep hAF
 have x3:=ep (a:=X) (b:=F) ae
 have vX:=eX (i:=X) (n:=st_a.next) ae
 have vA:=eX (i:=A) (n:=st_a.next) ae
 have vF:=eX (i:=F) (n:=st_a.next) ae
 by_cases hj:(j:Int)<(bs.length:Int)
 ·have bZ:∀{e:Env} {gg:Rows} {nx:Nat},(e 6=.int .i64 (IntKind.i64.wrap ((j:Int)+1)))->(e 5=(.ptr X 0 0))->(gg X=some ⟨true,4,[bH cnt bs A F]⟩)->(gg F=some ⟨true,1,eF (fun _=>0) bs.length⟩)->(rI A F.cC (l5 cnt bs (j+1)) gg nx/\F.cC<nx)->∃m0,m0<(bs.length)-j/\∃j:Nat,m0=(bs.length)-j/\j<=(bs.length)/\e 6=.int .i64 (j:Int)/\e 5=(.ptr X 0 0)/\gg X=some ⟨true,4,[bH cnt bs A F]⟩/\gg F=some ⟨true,1,eF (fun _=>0) bs.length⟩/\(rI A F.cC (l5 cnt bs j) gg nx/\F.cC<nx):=fun x1 x2 x3 x4 x5=>⟨_,ae,j+1,rfl,ae,(by rw[x1,aB ae]),x2,x3,x4,x5⟩
  have jI:j<bs.length:=ae
  have jv:=uQ jI
  obtain⟨ha1,Ss,gI⟩:=ok j jI
  have gU:((cG bs j).a:Int)<(cnt:Int):=ae
  have fE:((cG bs j).b:Int)<(cnt:Int):=ae
  have mT:=Hh (m:=j) ha1 Ss gI
  have e1:=sf bs j (cG bs j).a
  have e2:=sf bs j (cG bs j).b
  have PI:(ya cnt bs j)[(cG bs j).b]? =some (jB bs j (cG bs j).b):=Cp Ss gI
  have SJ:(l5 cnt bs j)[(cG bs j).a]? =some (jB bs j (cG bs j).a):=by simp[l5,ha1]
  have Va:ya cnt bs j=(l5 cnt bs j).set (cG bs j).a (jB bs j (cG bs j).a++[j]):=rfl
  have NW:(ya cnt bs j).length=cnt:=by rw[Va,List.length_set,jV]
  have jL:=hR.len
  rw[jV]at jL
  obtain⟨cs7,jS,Jr,JG⟩:=F7 (A:=A) (K:=⟨197007022,st_a.next+1⟩) (nx:=st_a.next+1+1) (j:=j) hR kZ oJ ae SJ bW bW hFn
  rw[<-Va]at JG
  obtain⟨c7,rfl⟩:∃c,cs7=[c]:=by
   rcases Jr with⟨_,h⟩|⟨id,h,_⟩<;>exact⟨_,h⟩
  generalize jB bs j (cG bs j).a=La at *
  generalize jB bs j (cG bs j).b=Lb at *
  generalize cG bs j=b at *
  generalize ya cnt bs j=LA at *
  clear Va
  (try((repeat(revert hN;revert N;apply Pn.out));refine wk (tw @a6 (tw @a5 (tw @ag0 (tw @ag1 (tw @a0 (tw @a1 (tw @hj (tw @jv (tw @ay.eq_1 (tw @ag (tw @jS (tw @gU (tw @fE (tw @jL (tw @x1 (tw @x2 (tw @x3 (tw @vX (tw @vA (tw @vF @bH.eq_1)))))))))))))))))))) ?_;(repeat(refine Pn.mk ?_;intro N hN))))
  refine Fx (fun e s=>e 0=.int .i64 cnt/\e 1=.sl (bs.map ay)/\e 5=.ptr X 0 0/\e 6=.int .i64 j/\s.get X=some ⟨true,4,[bH cnt bs A F]⟩/\s.get F=some ⟨true,1,eF (fun _=>0) bs.length⟩/\rI A F.cC LA s.get s.next/\F.cC<s.next) ?_ ?_
  ·rintro e1 s1 ⟨m0,m1,m5,m6,mX,mF,⟨rows1,ids1,mg,mR,mnd,mver⟩,mn⟩
   refine hN _ _ ?_
   clear hN N
   have jM:=mR.len
   rw[NW]at jM
   have wX:=eX (i:=X) (n:=s1.next) ae
   have wA:=eX (i:=A) (n:=s1.next) ae
   have wF:=eX (i:=F) (n:=s1.next) ae
   obtain⟨cs8,jT,Js,JH⟩:=F7 (A:=A) (K:=⟨197008022,s1.next⟩) (nx:=s1.next+1) (j:=j) mR mnd mver ae PI bW bW mn
   rw[mT]at JH
   obtain⟨c8,rfl⟩:∃c,cs8=[c]:=by
    rcases Js with⟨_,h⟩|⟨id,h,_⟩<;>exact⟨_,h⟩
   (try((repeat(revert hN;revert N;apply Pn.out));refine wk (tw @m0 (tw @m1 (tw @m5 (tw @m6 (tw @mX (tw @mF (tw @hj (tw @jv (tw @ay.eq_1 (tw @mg (tw @jT (tw @gU (tw @fE (tw @jM (tw @x1 (tw @x2 (tw @x3 (tw @wX (tw @wA (tw @wF @bH.eq_1)))))))))))))))))))) ?_;(repeat(refine Pn.mk ?_;intro N hN))))
   refine NF (fun e s=>e 0=.int .i64 cnt/\e 1=.sl (bs.map ay)/\e 5=.ptr X 0 0/\e 6=.int .i64 j/\s.get X=some ⟨true,4,[bH cnt bs A F]⟩/\s.get F=some ⟨true,1,eF (fun _=>0) bs.length⟩/\rI A F.cC (l5 cnt bs (j+1)) s.get s.next/\F.cC<s.next) ?_ ?_
   ·rintro e2 s2 ⟨p0,p1,p5,p6,pX,pF,pL,pn⟩
    simp only[dB,bo]
    refine hN _ _ ?_
    clear hN N
    (try((repeat(revert hN;revert N;apply Pn.out));refine wk (tw @p0 (tw @p1 (tw @p5 @p6))) ?_;(repeat(refine Pn.mk ?_;intro N hN))))
    refine bZ ?_ ?_ ?_ ?_ (⟨by obtain⟨r,i,q1,q2,q3,q4⟩:=pL;exact⟨r,i,sd @q1,q2,q3,fun x hx=>by have:=q4 x hx;(try dsimp only);omega⟩,bW⟩)
    all_goals simp only[go_sem, ↓reduceIte,Nat.reduceEqDiff,Nat.reduceAdd,Nat.reduceSub,Nat.reduceLeDiff,reduceCtorEq,p0,p1,p5,p6,pX,pF]
   ·intro N hN
    rcases Js with⟨Sm,tg⟩|⟨id,tg,hLp,hid,Mu,yZ⟩
    ·simp only[List.cons.injEq,and_true]at tg
     subst tg
     subst Sm
     refine fw ?_ ?_<;>(try((repeat(revert hN;revert N;apply Pn.out));refine wk (tw @m0 (tw @m1 (tw @m5 (tw @m6 (tw @mX (tw @mF (tw @hj (tw @jv (tw @ay.eq_1 (tw @mg (tw @jT (tw @gU (tw @fE (tw @jM (tw @x1 (tw @x2 (tw @x3 (tw @wX (tw @wA (tw @wF @bH.eq_1)))))))))))))))))))) ?_;(repeat(refine Pn.mk ?_;intro N hN))))<;>(try refine fw ?_ ?_)<;>(try((repeat(revert hN;revert N;apply Pn.out));refine wk (tw @m0 (tw @m1 (tw @m5 (tw @m6 (tw @mX (tw @mF (tw @hj (tw @jv (tw @ay.eq_1 (tw @mg (tw @jT (tw @gU (tw @fE (tw @jM (tw @x1 (tw @x2 (tw @x3 (tw @wX (tw @wA (tw @wF @bH.eq_1)))))))))))))))))))) ?_;(repeat(refine Pn.mk ?_;intro N hN))))<;>(try refine fw ?_ ?_)<;>(try((repeat(revert hN;revert N;apply Pn.out));refine wk (tw @m0 (tw @m1 (tw @m5 (tw @m6 (tw @mX (tw @mF (tw @hj (tw @jv (tw @ay.eq_1 (tw @mg (tw @jT (tw @gU (tw @fE (tw @jM (tw @x1 (tw @x2 (tw @x3 (tw @wX (tw @wA (tw @wF @bH.eq_1)))))))))))))))))))) ?_;(repeat(refine Pn.mk ?_;intro N hN))))<;>(try refine fw ?_ ?_)<;>(try((repeat(revert hN;revert N;apply Pn.out));refine wk (tw @m0 (tw @m1 (tw @m5 (tw @m6 (tw @mX (tw @mF (tw @hj (tw @jv (tw @ay.eq_1 (tw @mg (tw @jT (tw @gU (tw @fE (tw @jM (tw @x1 (tw @x2 (tw @x3 (tw @wX (tw @wA (tw @wF @bH.eq_1)))))))))))))))))))) ?_;(repeat(refine Pn.mk ?_;intro N hN))))<;>(try refine fw ?_ ?_)<;>(try((repeat(revert hN;revert N;apply Pn.out));refine wk (tw @m0 (tw @m1 (tw @m5 (tw @m6 (tw @mX (tw @mF (tw @hj (tw @jv (tw @ay.eq_1 (tw @mg (tw @jT (tw @gU (tw @fE (tw @jM (tw @x1 (tw @x2 (tw @x3 (tw @wX (tw @wA (tw @wF @bH.eq_1)))))))))))))))))))) ?_;(repeat(refine Pn.mk ?_;intro N hN))))<;>(try refine fw ?_ ?_)<;>(try((repeat(revert hN;revert N;apply Pn.out));refine wk (tw @m0 (tw @m1 (tw @m5 (tw @m6 (tw @mX (tw @mF (tw @hj (tw @jv (tw @ay.eq_1 (tw @mg (tw @jT (tw @gU (tw @fE (tw @jM (tw @x1 (tw @x2 (tw @x3 (tw @wX (tw @wA (tw @wF @bH.eq_1)))))))))))))))))))) ?_;(repeat(refine Pn.mk ?_;intro N hN))))
     all_goals
      refine⟨by simp only[go_sem, ↓reduceIte,Nat.reduceEqDiff,Nat.reduceAdd,Nat.reduceSub,Nat.reduceLeDiff,reduceCtorEq,m0,m1,m5,m6,mX,mF,hj,jv,ay,mg,jT,gU,fE,jM,x1,x2,x3,wX,wA,wF,bH],by simp only[go_sem, ↓reduceIte,Nat.reduceEqDiff,Nat.reduceAdd,Nat.reduceSub,Nat.reduceLeDiff,reduceCtorEq,m0,m1,m5,m6,mX,mF,hj,jv,ay,mg,jT,gU,fE,jM,x1,x2,x3,wX,wA,wF,bH],by simp only[go_sem, ↓reduceIte,Nat.reduceEqDiff,Nat.reduceAdd,Nat.reduceSub,Nat.reduceLeDiff,reduceCtorEq,m0,m1,m5,m6,mX,mF,hj,jv,ay,mg,jT,gU,fE,jM,x1,x2,x3,wX,wA,wF,bH],by simp only[go_sem, ↓reduceIte,Nat.reduceEqDiff,Nat.reduceAdd,Nat.reduceSub,Nat.reduceLeDiff,reduceCtorEq,m0,m1,m5,m6,mX,mF,hj,jv,ay,mg,jT,gU,fE,jM,x1,x2,x3,wX,wA,wF,bH],by simp only[go_sem, ↓reduceIte,Nat.reduceEqDiff,Nat.reduceAdd,Nat.reduceSub,Nat.reduceLeDiff,reduceCtorEq,m0,m1,m5,m6,mX,mF,hj,jv,ay,mg,jT,gU,fE,jM,x1,x2,x3,wX,wA,wF,bH],by simp only[go_sem, ↓reduceIte,Nat.reduceEqDiff,Nat.reduceAdd,Nat.reduceSub,Nat.reduceLeDiff,reduceCtorEq,m0,m1,m5,m6,mX,mF,hj,jv,ay,mg,jT,gU,fE,jM,x1,x2,x3,wX,wA,wF,bH],JH _ (by simp only[go_sem, ↓reduceIte,Nat.reduceEqDiff,Nat.reduceAdd,Nat.reduceSub,Nat.reduceLeDiff,reduceCtorEq,m0,m1,m5,m6,mX,mF,hj,jv,ay,mg,jT,gU,fE,jM,x1,x2,x3,wX,wA,wF,bH,List.length_nil]) (by simp only[go_sem, ↓reduceIte,Nat.reduceEqDiff,Nat.reduceAdd,Nat.reduceSub,Nat.reduceLeDiff,reduceCtorEq,m0,m1,m5,m6,mX,mF,hj,jv,ay,mg,jT,gU,fE,jM,x1,x2,x3,wX,wA,wF,bH,List.map_nil,List.nil_append]) (fun i hi PL fB=>?_),bW⟩
      clear fB
      simp only[go_sem, ↓reduceIte,Nat.reduceEqDiff,Nat.reduceAdd,Nat.reduceSub,Nat.reduceLeDiff,reduceCtorEq,wX,wA,wF,eX hi,PL]
    ·simp only[List.cons.injEq,and_true]at tg
     subst tg
     have sO:=eX Mu
     have y1:=ep (a:=A) (b:=id) ae
     have y2:=ep (a:=F) (b:=id) yZ
     have y3:=ep (a:=X) (b:=id) ae
     have e3:Lb.length+1<=16777216:=ae
     have z1:(Lb.map eN).length=Lb.length:=by simp
     refine fw ?_ ?_<;>(try((repeat(revert hN;revert N;apply Pn.out));refine wk (tw @m0 (tw @m1 (tw @m5 (tw @m6 (tw @mX (tw @mF (tw @hj (tw @jv (tw @ay.eq_1 (tw @mg (tw @jT (tw @gU (tw @fE (tw @jM (tw @x1 (tw @x2 (tw @x3 (tw @wX (tw @wA (tw @wF (tw @bH.eq_1 (tw @hid (tw @sO (tw @y1 (tw @y2 (tw @y3 (tw @e3 @z1))))))))))))))))))))))))))) ?_;(repeat(refine Pn.mk ?_;intro N hN))))<;>(try refine fw ?_ ?_)<;>(try((repeat(revert hN;revert N;apply Pn.out));refine wk (tw @m0 (tw @m1 (tw @m5 (tw @m6 (tw @mX (tw @mF (tw @hj (tw @jv (tw @ay.eq_1 (tw @mg (tw @jT (tw @gU (tw @fE (tw @jM (tw @x1 (tw @x2 (tw @x3 (tw @wX (tw @wA (tw @wF (tw @bH.eq_1 (tw @hid (tw @sO (tw @y1 (tw @y2 (tw @y3 (tw @e3 @z1))))))))))))))))))))))))))) ?_;(repeat(refine Pn.mk ?_;intro N hN))))<;>(try refine fw ?_ ?_)<;>(try((repeat(revert hN;revert N;apply Pn.out));refine wk (tw @m0 (tw @m1 (tw @m5 (tw @m6 (tw @mX (tw @mF (tw @hj (tw @jv (tw @ay.eq_1 (tw @mg (tw @jT (tw @gU (tw @fE (tw @jM (tw @x1 (tw @x2 (tw @x3 (tw @wX (tw @wA (tw @wF (tw @bH.eq_1 (tw @hid (tw @sO (tw @y1 (tw @y2 (tw @y3 (tw @e3 @z1))))))))))))))))))))))))))) ?_;(repeat(refine Pn.mk ?_;intro N hN))))<;>(try refine fw ?_ ?_)<;>(try((repeat(revert hN;revert N;apply Pn.out));refine wk (tw @m0 (tw @m1 (tw @m5 (tw @m6 (tw @mX (tw @mF (tw @hj (tw @jv (tw @ay.eq_1 (tw @mg (tw @jT (tw @gU (tw @fE (tw @jM (tw @x1 (tw @x2 (tw @x3 (tw @wX (tw @wA (tw @wF (tw @bH.eq_1 (tw @hid (tw @sO (tw @y1 (tw @y2 (tw @y3 (tw @e3 @z1))))))))))))))))))))))))))) ?_;(repeat(refine Pn.mk ?_;intro N hN))))<;>(try refine fw ?_ ?_)<;>(try((repeat(revert hN;revert N;apply Pn.out));refine wk (tw @m0 (tw @m1 (tw @m5 (tw @m6 (tw @mX (tw @mF (tw @hj (tw @jv (tw @ay.eq_1 (tw @mg (tw @jT (tw @gU (tw @fE (tw @jM (tw @x1 (tw @x2 (tw @x3 (tw @wX (tw @wA (tw @wF (tw @bH.eq_1 (tw @hid (tw @sO (tw @y1 (tw @y2 (tw @y3 (tw @e3 @z1))))))))))))))))))))))))))) ?_;(repeat(refine Pn.mk ?_;intro N hN))))<;>(try refine fw ?_ ?_)<;>(try((repeat(revert hN;revert N;apply Pn.out));refine wk (tw @m0 (tw @m1 (tw @m5 (tw @m6 (tw @mX (tw @mF (tw @hj (tw @jv (tw @ay.eq_1 (tw @mg (tw @jT (tw @gU (tw @fE (tw @jM (tw @x1 (tw @x2 (tw @x3 (tw @wX (tw @wA (tw @wF (tw @bH.eq_1 (tw @hid (tw @sO (tw @y1 (tw @y2 (tw @y3 (tw @e3 @z1))))))))))))))))))))))))))) ?_;(repeat(refine Pn.mk ?_;intro N hN))))
     all_goals
      refine⟨by simp only[go_sem, ↓reduceIte,Nat.reduceEqDiff,Nat.reduceAdd,Nat.reduceSub,Nat.reduceLeDiff,reduceCtorEq,m0,m1,m5,m6,mX,mF,hj,jv,ay,mg,jT,gU,fE,jM,x1,x2,x3,wX,wA,wF,bH,hid,sO,y1,y2,y3,e3,z1],by simp only[go_sem, ↓reduceIte,Nat.reduceEqDiff,Nat.reduceAdd,Nat.reduceSub,Nat.reduceLeDiff,reduceCtorEq,m0,m1,m5,m6,mX,mF,hj,jv,ay,mg,jT,gU,fE,jM,x1,x2,x3,wX,wA,wF,bH,hid,sO,y1,y2,y3,e3,z1],by simp only[go_sem, ↓reduceIte,Nat.reduceEqDiff,Nat.reduceAdd,Nat.reduceSub,Nat.reduceLeDiff,reduceCtorEq,m0,m1,m5,m6,mX,mF,hj,jv,ay,mg,jT,gU,fE,jM,x1,x2,x3,wX,wA,wF,bH,hid,sO,y1,y2,y3,e3,z1],by simp only[go_sem, ↓reduceIte,Nat.reduceEqDiff,Nat.reduceAdd,Nat.reduceSub,Nat.reduceLeDiff,reduceCtorEq,m0,m1,m5,m6,mX,mF,hj,jv,ay,mg,jT,gU,fE,jM,x1,x2,x3,wX,wA,wF,bH,hid,sO,y1,y2,y3,e3,z1],by simp only[go_sem, ↓reduceIte,Nat.reduceEqDiff,Nat.reduceAdd,Nat.reduceSub,Nat.reduceLeDiff,reduceCtorEq,m0,m1,m5,m6,mX,mF,hj,jv,ay,mg,jT,gU,fE,jM,x1,x2,x3,wX,wA,wF,bH,hid,sO,y1,y2,y3,e3,z1],by simp only[go_sem, ↓reduceIte,Nat.reduceEqDiff,Nat.reduceAdd,Nat.reduceSub,Nat.reduceLeDiff,reduceCtorEq,m0,m1,m5,m6,mX,mF,hj,jv,ay,mg,jT,gU,fE,jM,x1,x2,x3,wX,wA,wF,bH,hid,sO,y1,y2,y3,e3,z1],JH _ (by simp only[go_sem, ↓reduceIte,Nat.reduceEqDiff,Nat.reduceAdd,Nat.reduceSub,Nat.reduceLeDiff,reduceCtorEq,m0,m1,m5,m6,mX,mF,hj,jv,ay,mg,jT,gU,fE,jM,x1,x2,x3,wX,wA,wF,bH,hid,sO,y1,y2,y3,e3,z1,List.length_nil]) (by simp only[go_sem, ↓reduceIte,Nat.reduceEqDiff,Nat.reduceAdd,Nat.reduceSub,Nat.reduceLeDiff,reduceCtorEq,m0,m1,m5,m6,mX,mF,hj,jv,ay,mg,jT,gU,fE,jM,x1,x2,x3,wX,wA,wF,bH,hid,sO,y1,y2,y3,e3,z1,List.map_nil,List.nil_append]) (fun i hi PL fB=>?_),bW⟩
      have gI:=fB id rfl
      simp only[go_sem, ↓reduceIte,Nat.reduceEqDiff,Nat.reduceAdd,Nat.reduceSub,Nat.reduceLeDiff,reduceCtorEq,wX,wA,wF,eX hi,PL,gI]
  ·intro N hN
   rcases Jr with⟨Sm,tg⟩|⟨id,tg,hLp,hid,Mu,yZ⟩
   ·simp only[List.cons.injEq,and_true]at tg
    subst tg
    subst Sm
    refine fw ?_ ?_<;>(try((repeat(revert hN;revert N;apply Pn.out));refine wk (tw @a6 (tw @a5 (tw @ag0 (tw @ag1 (tw @a0 (tw @a1 (tw @hj (tw @jv (tw @ay.eq_1 (tw @ag (tw @jS (tw @gU (tw @fE (tw @jL (tw @x1 (tw @x2 (tw @x3 (tw @vX (tw @vA (tw @vF @bH.eq_1)))))))))))))))))))) ?_;(repeat(refine Pn.mk ?_;intro N hN))))<;>(try refine fw ?_ ?_)<;>(try((repeat(revert hN;revert N;apply Pn.out));refine wk (tw @a6 (tw @a5 (tw @ag0 (tw @ag1 (tw @a0 (tw @a1 (tw @hj (tw @jv (tw @ay.eq_1 (tw @ag (tw @jS (tw @gU (tw @fE (tw @jL (tw @x1 (tw @x2 (tw @x3 (tw @vX (tw @vA (tw @vF @bH.eq_1)))))))))))))))))))) ?_;(repeat(refine Pn.mk ?_;intro N hN))))<;>(try refine fw ?_ ?_)<;>(try((repeat(revert hN;revert N;apply Pn.out));refine wk (tw @a6 (tw @a5 (tw @ag0 (tw @ag1 (tw @a0 (tw @a1 (tw @hj (tw @jv (tw @ay.eq_1 (tw @ag (tw @jS (tw @gU (tw @fE (tw @jL (tw @x1 (tw @x2 (tw @x3 (tw @vX (tw @vA (tw @vF @bH.eq_1)))))))))))))))))))) ?_;(repeat(refine Pn.mk ?_;intro N hN))))<;>(try refine fw ?_ ?_)<;>(try((repeat(revert hN;revert N;apply Pn.out));refine wk (tw @a6 (tw @a5 (tw @ag0 (tw @ag1 (tw @a0 (tw @a1 (tw @hj (tw @jv (tw @ay.eq_1 (tw @ag (tw @jS (tw @gU (tw @fE (tw @jL (tw @x1 (tw @x2 (tw @x3 (tw @vX (tw @vA (tw @vF @bH.eq_1)))))))))))))))))))) ?_;(repeat(refine Pn.mk ?_;intro N hN))))<;>(try refine fw ?_ ?_)<;>(try((repeat(revert hN;revert N;apply Pn.out));refine wk (tw @a6 (tw @a5 (tw @ag0 (tw @ag1 (tw @a0 (tw @a1 (tw @hj (tw @jv (tw @ay.eq_1 (tw @ag (tw @jS (tw @gU (tw @fE (tw @jL (tw @x1 (tw @x2 (tw @x3 (tw @vX (tw @vA (tw @vF @bH.eq_1)))))))))))))))))))) ?_;(repeat(refine Pn.mk ?_;intro N hN))))<;>(try refine fw ?_ ?_)<;>(try((repeat(revert hN;revert N;apply Pn.out));refine wk (tw @a6 (tw @a5 (tw @ag0 (tw @ag1 (tw @a0 (tw @a1 (tw @hj (tw @jv (tw @ay.eq_1 (tw @ag (tw @jS (tw @gU (tw @fE (tw @jL (tw @x1 (tw @x2 (tw @x3 (tw @vX (tw @vA (tw @vF @bH.eq_1)))))))))))))))))))) ?_;(repeat(refine Pn.mk ?_;intro N hN))))
    all_goals
     refine⟨by simp only[go_sem, ↓reduceIte,Nat.reduceEqDiff,Nat.reduceAdd,Nat.reduceSub,Nat.reduceLeDiff,reduceCtorEq,a6,a5,ag0,ag1,a0,a1,hj,jv,ay,ag,jS,gU,fE,jL,x1,x2,x3,vX,vA,vF,bH],by simp only[go_sem, ↓reduceIte,Nat.reduceEqDiff,Nat.reduceAdd,Nat.reduceSub,Nat.reduceLeDiff,reduceCtorEq,a6,a5,ag0,ag1,a0,a1,hj,jv,ay,ag,jS,gU,fE,jL,x1,x2,x3,vX,vA,vF,bH],by simp only[go_sem, ↓reduceIte,Nat.reduceEqDiff,Nat.reduceAdd,Nat.reduceSub,Nat.reduceLeDiff,reduceCtorEq,a6,a5,ag0,ag1,a0,a1,hj,jv,ay,ag,jS,gU,fE,jL,x1,x2,x3,vX,vA,vF,bH],by simp only[go_sem, ↓reduceIte,Nat.reduceEqDiff,Nat.reduceAdd,Nat.reduceSub,Nat.reduceLeDiff,reduceCtorEq,a6,a5,ag0,ag1,a0,a1,hj,jv,ay,ag,jS,gU,fE,jL,x1,x2,x3,vX,vA,vF,bH],by simp only[go_sem, ↓reduceIte,Nat.reduceEqDiff,Nat.reduceAdd,Nat.reduceSub,Nat.reduceLeDiff,reduceCtorEq,a6,a5,ag0,ag1,a0,a1,hj,jv,ay,ag,jS,gU,fE,jL,x1,x2,x3,vX,vA,vF,bH],by simp only[go_sem, ↓reduceIte,Nat.reduceEqDiff,Nat.reduceAdd,Nat.reduceSub,Nat.reduceLeDiff,reduceCtorEq,a6,a5,ag0,ag1,a0,a1,hj,jv,ay,ag,jS,gU,fE,jL,x1,x2,x3,vX,vA,vF,bH],JG _ (by simp only[go_sem, ↓reduceIte,Nat.reduceEqDiff,Nat.reduceAdd,Nat.reduceSub,Nat.reduceLeDiff,reduceCtorEq,a6,a5,ag0,ag1,a0,a1,hj,jv,ay,ag,jS,gU,fE,jL,x1,x2,x3,vX,vA,vF,bH,List.length_nil]) (by simp only[go_sem, ↓reduceIte,Nat.reduceEqDiff,Nat.reduceAdd,Nat.reduceSub,Nat.reduceLeDiff,reduceCtorEq,a6,a5,ag0,ag1,a0,a1,hj,jv,ay,ag,jS,gU,fE,jL,x1,x2,x3,vX,vA,vF,bH,List.map_nil,List.nil_append]) (fun i hi PL fB=>?_),bW⟩
     clear fB
     simp only[go_sem, ↓reduceIte,Nat.reduceEqDiff,Nat.reduceAdd,Nat.reduceSub,Nat.reduceLeDiff,reduceCtorEq,vX,vA,vF,eX hi,PL]
   ·simp only[List.cons.injEq,and_true]at tg
    subst tg
    have sO:=eX Mu
    have y1:=ep (a:=A) (b:=id) ae
    have y2:=ep (a:=F) (b:=id) yZ
    have y3:=ep (a:=X) (b:=id) ae
    have e3:La.length+1<=16777216:=ae
    have z1:(La.map eN).length=La.length:=by simp
    refine fw ?_ ?_<;>(try((repeat(revert hN;revert N;apply Pn.out));refine wk (tw @a6 (tw @a5 (tw @ag0 (tw @ag1 (tw @a0 (tw @a1 (tw @hj (tw @jv (tw @ay.eq_1 (tw @ag (tw @jS (tw @gU (tw @fE (tw @jL (tw @x1 (tw @x2 (tw @x3 (tw @vX (tw @vA (tw @vF (tw @bH.eq_1 (tw @hid (tw @sO (tw @y1 (tw @y2 (tw @y3 (tw @e3 @z1))))))))))))))))))))))))))) ?_;(repeat(refine Pn.mk ?_;intro N hN))))<;>(try refine fw ?_ ?_)<;>(try((repeat(revert hN;revert N;apply Pn.out));refine wk (tw @a6 (tw @a5 (tw @ag0 (tw @ag1 (tw @a0 (tw @a1 (tw @hj (tw @jv (tw @ay.eq_1 (tw @ag (tw @jS (tw @gU (tw @fE (tw @jL (tw @x1 (tw @x2 (tw @x3 (tw @vX (tw @vA (tw @vF (tw @bH.eq_1 (tw @hid (tw @sO (tw @y1 (tw @y2 (tw @y3 (tw @e3 @z1))))))))))))))))))))))))))) ?_;(repeat(refine Pn.mk ?_;intro N hN))))<;>(try refine fw ?_ ?_)<;>(try((repeat(revert hN;revert N;apply Pn.out));refine wk (tw @a6 (tw @a5 (tw @ag0 (tw @ag1 (tw @a0 (tw @a1 (tw @hj (tw @jv (tw @ay.eq_1 (tw @ag (tw @jS (tw @gU (tw @fE (tw @jL (tw @x1 (tw @x2 (tw @x3 (tw @vX (tw @vA (tw @vF (tw @bH.eq_1 (tw @hid (tw @sO (tw @y1 (tw @y2 (tw @y3 (tw @e3 @z1))))))))))))))))))))))))))) ?_;(repeat(refine Pn.mk ?_;intro N hN))))<;>(try refine fw ?_ ?_)<;>(try((repeat(revert hN;revert N;apply Pn.out));refine wk (tw @a6 (tw @a5 (tw @ag0 (tw @ag1 (tw @a0 (tw @a1 (tw @hj (tw @jv (tw @ay.eq_1 (tw @ag (tw @jS (tw @gU (tw @fE (tw @jL (tw @x1 (tw @x2 (tw @x3 (tw @vX (tw @vA (tw @vF (tw @bH.eq_1 (tw @hid (tw @sO (tw @y1 (tw @y2 (tw @y3 (tw @e3 @z1))))))))))))))))))))))))))) ?_;(repeat(refine Pn.mk ?_;intro N hN))))<;>(try refine fw ?_ ?_)<;>(try((repeat(revert hN;revert N;apply Pn.out));refine wk (tw @a6 (tw @a5 (tw @ag0 (tw @ag1 (tw @a0 (tw @a1 (tw @hj (tw @jv (tw @ay.eq_1 (tw @ag (tw @jS (tw @gU (tw @fE (tw @jL (tw @x1 (tw @x2 (tw @x3 (tw @vX (tw @vA (tw @vF (tw @bH.eq_1 (tw @hid (tw @sO (tw @y1 (tw @y2 (tw @y3 (tw @e3 @z1))))))))))))))))))))))))))) ?_;(repeat(refine Pn.mk ?_;intro N hN))))<;>(try refine fw ?_ ?_)<;>(try((repeat(revert hN;revert N;apply Pn.out));refine wk (tw @a6 (tw @a5 (tw @ag0 (tw @ag1 (tw @a0 (tw @a1 (tw @hj (tw @jv (tw @ay.eq_1 (tw @ag (tw @jS (tw @gU (tw @fE (tw @jL (tw @x1 (tw @x2 (tw @x3 (tw @vX (tw @vA (tw @vF (tw @bH.eq_1 (tw @hid (tw @sO (tw @y1 (tw @y2 (tw @y3 (tw @e3 @z1))))))))))))))))))))))))))) ?_;(repeat(refine Pn.mk ?_;intro N hN))))
    all_goals
     refine⟨by simp only[go_sem, ↓reduceIte,Nat.reduceEqDiff,Nat.reduceAdd,Nat.reduceSub,Nat.reduceLeDiff,reduceCtorEq,a6,a5,ag0,ag1,a0,a1,hj,jv,ay,ag,jS,gU,fE,jL,x1,x2,x3,vX,vA,vF,bH,hid,sO,y1,y2,y3,e3,z1],by simp only[go_sem, ↓reduceIte,Nat.reduceEqDiff,Nat.reduceAdd,Nat.reduceSub,Nat.reduceLeDiff,reduceCtorEq,a6,a5,ag0,ag1,a0,a1,hj,jv,ay,ag,jS,gU,fE,jL,x1,x2,x3,vX,vA,vF,bH,hid,sO,y1,y2,y3,e3,z1],by simp only[go_sem, ↓reduceIte,Nat.reduceEqDiff,Nat.reduceAdd,Nat.reduceSub,Nat.reduceLeDiff,reduceCtorEq,a6,a5,ag0,ag1,a0,a1,hj,jv,ay,ag,jS,gU,fE,jL,x1,x2,x3,vX,vA,vF,bH,hid,sO,y1,y2,y3,e3,z1],by simp only[go_sem, ↓reduceIte,Nat.reduceEqDiff,Nat.reduceAdd,Nat.reduceSub,Nat.reduceLeDiff,reduceCtorEq,a6,a5,ag0,ag1,a0,a1,hj,jv,ay,ag,jS,gU,fE,jL,x1,x2,x3,vX,vA,vF,bH,hid,sO,y1,y2,y3,e3,z1],by simp only[go_sem, ↓reduceIte,Nat.reduceEqDiff,Nat.reduceAdd,Nat.reduceSub,Nat.reduceLeDiff,reduceCtorEq,a6,a5,ag0,ag1,a0,a1,hj,jv,ay,ag,jS,gU,fE,jL,x1,x2,x3,vX,vA,vF,bH,hid,sO,y1,y2,y3,e3,z1],by simp only[go_sem, ↓reduceIte,Nat.reduceEqDiff,Nat.reduceAdd,Nat.reduceSub,Nat.reduceLeDiff,reduceCtorEq,a6,a5,ag0,ag1,a0,a1,hj,jv,ay,ag,jS,gU,fE,jL,x1,x2,x3,vX,vA,vF,bH,hid,sO,y1,y2,y3,e3,z1],JG _ (by simp only[go_sem, ↓reduceIte,Nat.reduceEqDiff,Nat.reduceAdd,Nat.reduceSub,Nat.reduceLeDiff,reduceCtorEq,a6,a5,ag0,ag1,a0,a1,hj,jv,ay,ag,jS,gU,fE,jL,x1,x2,x3,vX,vA,vF,bH,hid,sO,y1,y2,y3,e3,z1,List.length_nil]) (by simp only[go_sem, ↓reduceIte,Nat.reduceEqDiff,Nat.reduceAdd,Nat.reduceSub,Nat.reduceLeDiff,reduceCtorEq,a6,a5,ag0,ag1,a0,a1,hj,jv,ay,ag,jS,gU,fE,jL,x1,x2,x3,vX,vA,vF,bH,hid,sO,y1,y2,y3,e3,z1,List.map_nil,List.nil_append]) (fun i hi PL fB=>?_),bW⟩
     have gI:=fB id rfl
     simp only[go_sem, ↓reduceIte,Nat.reduceEqDiff,Nat.reduceAdd,Nat.reduceSub,Nat.reduceLeDiff,reduceCtorEq,vX,vA,vF,eX hi,PL,gI]
 ·have gW:j=bs.length:=ae
  subst gW
  (try((repeat(revert hN;revert N;apply Pn.out));refine wk (tw @a6 (tw @a5 (tw @ag0 (tw @ag1 (tw @a0 (tw @a1 @hj)))))) ?_;(repeat(refine Pn.mk ?_;intro N hN))))
  exact gJ (.inl rfl) (by simp only[fo,gS,go_sem, ↓reduceIte,Nat.reduceEqDiff,Nat.reduceAdd,Nat.reduceSub,Nat.reduceLeDiff,reduceCtorEq];rfl) ⟨X,A,F,rfl,hXs,⟨ag0,⟨rows,ids,ag,hR,kZ,fun x hx=>by have:=oJ x hx;(try dsimp only);omega⟩,ag1,hXA,hAF,bW⟩⟩
theorem rI.frame {A:Id} {lo nx yg:Nat} {L:List (List Nat)} {g g':Rows} (h:rI A lo L g nx) (hA:A.cC<nx) (hf:∀i:Id,i.cC<nx->lo<i.cC∨i=A->g' i=g i) (hn:nx<=yg):rI A lo L g' yg:=by
 obtain⟨rows,ids,h1,h2,h3,h4⟩:=h
 refine⟨rows,ids,(hf A hA (.inr rfl)).trans h1,h2.frame Ot fun i hi=>hf i (h4 i hi).2 (.inl (h4 i hi).1),h3,fun i hi=>?_⟩
 have:=h4 i hi;omega
theorem oQ.frame {cnt:Nat} {bs:List PB} {f:Nat->Int} {X A F:Id} {g g':Rows} {nx yg:Nat} (h:oQ cnt bs f X A F g nx) (hf:∀i:Id,i.cC<nx->g' i=g i) (hn:nx<=yg):oQ cnt bs f X A F g' yg:=by
 have h1:=h.xa;have h2:=h.af;have h3:=h.fn
 exact⟨(hf X ae).trans h.x,h.a.frame ae (fun i hi _=>hf i hi) hn,(hf F h3).trans h.f,h1,h2,ae⟩
theorem oQ.R6 {cnt:Nat} {bs:List PB} {f f':Nat->Int} {X A F:Id} {g g':Rows} {nx yg:Nat} (h:oQ cnt bs f X A F g nx) (hF:g' F=some ⟨true,1,eF f' bs.length⟩) (hf:∀i:Id,i.cC<nx->(i=F)=False->g' i=g i) (hn:nx<=yg):oQ cnt bs f' X A F g' yg:=by
 have h1:=h.xa;have h2:=h.af;have h3:=h.fn
 refine⟨(hf X ae (ep ae).1).trans h.x,h.a.frame ae (fun i hi kJ=>hf i hi ?_) hn,hF,h1,h2,ae⟩
 rcases kJ with kJ|rfl
 ·exact(ep kJ).2
 ·exact(ep h2).1
theorem Qj (cnt:Nat) (bs:List PB) (f:Nat->Int) (hs:Small bs f) (e v:Nat) (he:e<bs.length) (X A F:Id) (σ:ax) (nx:Nat) (hS:oQ cnt bs f X A F σ.get nx) (hn:nx<=σ.next):
  Call Tryz.prog 225 [.ptr X 0 0,.int .i64 v,.int .i64 e] σ fun r σ'=>oQ cnt bs (um bs f e v) X A F σ'.get nx/\σ.next<=σ'.next/\∀i:Id,(i=F)=False->σ'.get i=σ.get i:=by
 refine fj eM rfl fun hl=>?_
 clear hl
 have hX:=hS.x
 have hF:=hS.f
 have hb:=uQ he
 have VA:=ee (f:=f) he
 have tl:=dS f bs.length
 obtain⟨⟨s0,s1⟩,s2,s3⟩:=hs e he
 have hei:(e:Int)<(bs.length:Int):=ae
 have w1:IntKind.i64.wrap (f e+1)=f e+1:=aJ ae
 have w2:IntKind.i64.wrap (f e-1)=f e+-1:=by rw[aJ ae];omega
 rw[aX]at VA
 unfold um
 by_cases h:(cG bs e).a=v
 ·have ei:(eF f bs.length).set e (aX (f e+1))=eF (fun j=>f j+if j=e then(if (cG bs e).a=v then 1 else -1)else 0) bs.length:=lQ he (by rw[if_pos rfl,if_pos h]) fun i _ hi=>by rw[if_neg hi,Int.add_zero]
  rw[aX]at ei
  generalize Ue:cG bs e=b at *
  have hd:decide ((b.a:Int)=(v:Int))=true:=decide_eq_true (by rw[h])
  (try((repeat(revert hN;revert N;apply Pn.out));refine wk (tw @hX (tw @hF (tw @hb (tw @VA (tw @tl (tw @hei (tw @w1 (tw @ei (tw @hd (tw @ay.eq_1 @bH.eq_1)))))))))) ?_;(repeat(refine Pn.mk ?_;intro N hN))))
  exact gJ (.inr rfl) (vs:=[]) rfl ⟨hS.R6 (sd @Nat.zero_add) (fun i hi gI=>sd @gI) (Nat.le_refl _),bW,fun i gI=>sd @gI⟩
 ·have ei:(eF f bs.length).set e (aX (f e+-1))=eF (fun j=>f j+if j=e then(if (cG bs e).a=v then 1 else -1)else 0) bs.length:=lQ he (by rw[if_pos rfl,if_neg h]) fun i _ hi=>by rw[if_neg hi,Int.add_zero]
  rw[aX]at ei
  generalize Ue:cG bs e=b at *
  have hd:decide ((b.a:Int)=(v:Int))=false:=decide_eq_false fun hc=>h ae
  (try((repeat(revert hN;revert N;apply Pn.out));refine wk (tw @hX (tw @hF (tw @hb (tw @VA (tw @tl (tw @hei (tw @w2 (tw @ei (tw @hd (tw @ay.eq_1 @bH.eq_1)))))))))) ?_;(repeat(refine Pn.mk ?_;intro N hN))))
  exact gJ (.inr rfl) (vs:=[]) rfl ⟨hS.R6 (sd @Nat.zero_add) (fun i hi gI=>sd @gI) (Nat.le_refl _),bW,fun i gI=>sd @gI⟩
structure oR (bs:List PB) (out:Nat->Int) (f f':Nat->Int) (x v:Nat):Prop where
 le:∀i,i<bs.length->f' i<=(cG bs i).s/\-(cG bs i).s<=f' i
 cut:∀S:Nat->Bool,GK S bs f'=GK S bs f+bi (S x)-bi (S v)
 CU:∀e,e<bs.length->out (cG bs e).a<=out v->out (cG bs e).b<=out v->f' e=f e
section
variable {cnt:Nat} {bs:List PB} {out:Nat->Int} {f f':Nat->Int} {x v y:Nat}
theorem oR.start (h:∀i,i<bs.length->f i<=(cG bs i).s/\-(cG bs i).s<=f i):oR bs out f f x x:=⟨h,fun S=>ae,fun _ _ _ _=>rfl⟩
theorem oR.step (h:oR bs out f f' x v) {e:Nat} (he:e<bs.length) (hi:Fy bs e v) (hr:0<fU bs f' e v) (hd:out (cr bs e v)=out v-1):oR bs out f (um bs f' e v) x (cr bs e v):=by
 refine⟨fun i nj=>?_,fun S=>?_,fun i nj ha hb=>?_⟩
 ·have h1:=h.le i nj
  unfold um
  by_cases Io:i=e
  ·subst Io
   rw[if_pos rfl]
   unfold fU at hr
   split at hr<;>rename_i hc
   ·rw[if_pos hc];omega
   ·rw[if_neg hc];omega
  ·rw[if_neg Io];omega
 ·rw[GL he hi,h.cut S];omega
 ·have Io:i≠e:=by
   rintro rfl
   rcases hi with hi|hi
   ·rw[hi]at ha;omega
   ·rw[hi]at hb;omega
  unfold um
  rw[if_neg Io,Int.add_zero]
  exact h.CU i nj ae ae
theorem oR.goes (h:oR bs out f f' x v) (hs:zG cnt bs f y out) (hv:v<cnt) (h0:0<out v):∃e∈jB bs bs.length v,0<fU bs f' e v/\out (cr bs e v)=out v-1:=by
 obtain⟨e,h1,h2,h3,h4⟩:=hs.down v hv h0
 refine⟨e,sg.2 ⟨h1,h2⟩,?_,h4⟩
 have hf:f' e=f e:=by
  refine h.CU e h1 ?_ ?_
  ·unfold cr at h4
   split at h4
   ·rename_i ha;rw[ha];exact Int.le_refl _
   ·omega
  ·unfold cr at h4
   rcases h2 with h2|h2
   ·rw[if_pos h2]at h4;omega
   ·rw[h2];exact Int.le_refl _
 unfold fU at h3 ⊢
 rw[hf];exact h3
theorem oR.done {val:Int} (h:oR bs out f f' x y) (hf:kF bs f x y val):kF bs f' x y (val+1):=
 ⟨h.le,fun S hx hy=>by rw[h.cut S,hf.cut S hx hy,hx,hy];simp[bi]⟩
theorem Fg {val:Int} (hs:zG cnt bs f y out) (ok:om cnt bs) (hf:kF bs f x y val) (hx:out x<0):∃S:Nat->Bool,S x=true/\S y=false/\val=jK S bs:=by
 refine⟨fun v=>decide (out v<0),decide_eq_true hx,decide_eq_false (by rw[hs.first];omega),hf.full (decide_eq_true hx) (decide_eq_false (by rw[hs.first];omega)) fun i hi rZ=>⟨fun h1 h2 hr=>?_,fun h1 h2 hr=>?_⟩⟩
 ·have Sc:=of_decide_eq_true h1
  have Dm:=of_decide_eq_false h2
  have:=hs.shut i (cG bs i).a hi (.inl rfl) (by unfold cr;rw[if_pos rfl];omega) hr
  omega
 ·have Sc:=of_decide_eq_true h1
  have Dm:=of_decide_eq_false h2
  have:=hs.shut i (cG bs i).b hi (.inr rfl) (by unfold cr;rw[if_neg rZ];omega) hr
  omega
end
theorem xj {bs:List PB} {f:Nat->Int} (dR:∀e,e<bs.length->0<=(cG bs e).s/\(cG bs e).s<=4) (h:∀i,i<bs.length->f i<=(cG bs i).s/\-(cG bs i).s<=f i):Small bs f:=fun e he=>by
 have:=dR e he;have:=h e he;omega
theorem rI.at_ {A:Id} {lo nx v:Nat} {L:List (List Nat)} {l:List Nat} {g:Rows} (h:rI A lo L g nx) (hv:L[v]? =some l) (hl:0<l.length):∃(rows:List (List AV)) (id:Id),g A=some ⟨true,1,rows⟩/\rows.length=L.length/\rows[v]? =some [.own id 0 l.length]/\g id=some ⟨true,1,l.map eN⟩/\lo<id.cC/\id.cC<nx:=by
 obtain⟨rows,ids,h1,h2,h3,h4⟩:=h
 have hk:v<L.length:=(List.getElem?_eq_some_iff.1 hv).1
 obtain⟨cs,ic,dy,hR,SN⟩:=h2.at_ v hk
 rw[lE hv hk]at hR
 rcases hR with⟨h5,_⟩|⟨id,rfl,_,h6,rfl⟩
 ·subst h5;simp at hl
 ·have:=h4 id (SN id (by simp))
  exact⟨rows,id,h1,h2.len,dy,h6,this.1,this.2⟩
theorem Pm (cnt:Nat) (hn:cnt<=1048576) (bs:List PB) (ok:om cnt bs) (ke:bs.length<=1048576) (dR:∀e,e<bs.length->0<=(cG bs e).s/\(cG bs e).s<=4) (f:Nat->Int) (x y:Nat) (hx:x<cnt) (hy:y<cnt) (P8:x≠y) (val:Int) (hf:kF bs f x y val)
  (X A F:Id) (σ:ax) (nb:Nat) (hS:oQ cnt bs f X A F σ.get nb) (mT:nb<=σ.next):
  Call Tryz.prog 198 [.ptr X 0 0,.int .i64 x,.int .i64 y] σ fun r σ'=>∃b f',r=.bool b/\oQ cnt bs f' X A F σ'.get nb/\σ.next<=σ'.next/\(∀i:Id,i.cC<nb->(i=F)=False->σ'.get i=σ.get i)/\
   (b=false->f'=f/\∃S:Nat->Bool,S x=true/\S y=false/\val=jK S bs)/\(b=true->kF bs f' x y (val+1)):=by
 refine fj eM rfl fun hl=>?_
 clear hl
 have Du:(x:Int)<(cnt:Int):=ae
 have hz:∀(g:Rows),(∀i:Id,i.cC<nb->g i=σ.get i)->cQ (dM g) 6 [.ptr X 0 0,.int .i64 (y:Int)]=some [.dq (gi cnt bs f),.int .i64 y]:=fun g hg=>by
  have:=(hS.frame hg (Nat.le_refl _)).fz
  simp only[ai,ao,this,aD,Option.map_some]
 (try((repeat(revert hN;revert N;apply Pn.out));refine wk @Nat.zero_add ?_;(repeat(refine Pn.mk ?_;intro N hN))))
 refine .inr (aU _ _ _ _ _ (fun r σ1 hq=>?_) ((Gh cnt hn bs ok ke f (xj dR hf.le) y hy).x mixed (hz _ (fun i hi=>rfl))))
 obtain⟨⟨out,rfl,P0⟩,rfl⟩:=hq
 refine hN _ _ ?_
 clear hN N
 have hox:=ee (f:=out) hx
 have tl:=dS out cnt
 by_cases kK:out x<0
 ·(try((repeat(revert hN;revert N;apply Pn.out));refine wk (tw @hox (tw @kK (tw @Du (tw @tl @aX.eq_1)))) ?_;(repeat(refine Pn.mk ?_;intro N hN))))
  exact gJ (.inl rfl) (vs:=[.bool false]) (sd @Nat.zero_add) ⟨false,f,rfl,hS.frame (fun i hi=>rfl) (Nat.le_refl _),bW,fun i _ _=>rfl,fun _=>⟨rfl,Fg P0 ok hf kK⟩,fun h=>by cases h⟩
 (try((repeat(revert hN;revert N;apply Pn.out));refine wk (tw @hox (tw @kK (tw @Du (tw @tl @aX.eq_1)))) ?_;(repeat(refine Pn.mk ?_;intro N hN))))
 refine aT (fun m env st=>∃(v:Nat) (f':Nat->Int),m=(out v).toNat/\v<cnt/\0<=out v/\env 8=.int .i64 (v:Int)/\oR bs out f f' x v/\oQ cnt bs f' X A F st.get nb/\(∀i:Id,i.cC<nb->(i=F)=False->st.get i=σ.get i)/\σ.next<=st.next) (out x).toNat ⟨x,f,rfl,hx,ae,by(simp only[go_sem, ↓reduceIte,Nat.reduceEqDiff,Nat.reduceAdd,Nat.reduceSub,Nat.reduceLeDiff,reduceCtorEq]),oR.start hf.le,hS.frame (fun i hi=>rfl) (Nat.le_refl _),fun i _ _=>rfl,bW⟩ ?_
 rintro m env_b st_b ⟨v,f',rfl,hv,rh,b8,hW,hN1,kR,hle⟩ bfr
 have b0:=bfr 0 (by kernel_rfl)
 have b2:=bfr 2 (by kernel_rfl)
 have b7:=bfr 7 (by kernel_rfl)
 simp only[go_sem, ↓reduceIte,Nat.reduceEqDiff,Nat.reduceAdd,Nat.reduceSub,Nat.reduceLeDiff,reduceCtorEq]at b0 b2 b7
 clear bfr
 by_cases Uy:v=y
 ·have hd:decide ((v:Int)=(y:Int))=true:=decide_eq_true (by rw[Uy])
  subst Uy
  (try((repeat(revert hN;revert N;apply Pn.out));refine wk (tw @b0 (tw @b2 (tw @b7 (tw @b8 @hd)))) ?_;(repeat(refine Pn.mk ?_;intro N hN))))
  exact gJ (.inl rfl) (vs:=[.bool true]) (sd @Nat.zero_add) ⟨true,f',rfl,hN1,bW,kR,fun h=>(by cases h),fun _=>hW.done hf⟩
 have hd:decide ((v:Int)=(y:Int))=false:=decide_eq_false fun h=>Uy ae
 have Bi:0<out v:=by
  have:=P0.zero v hv
  rcases Int.lt_or_eq_of_le rh with h|h
  ·exact h
  ·exact absurd (this h.symm) Uy
 have N7:=hW.goes P0 hv Bi
 have hIm:∀ed∈jB bs bs.length v,ed<bs.length/\Fy bs ed v:=fun ed h=>sg.1 h
 have hIL:(l5 cnt bs bs.length)[v]? =some (jB bs bs.length v):=by simp[l5,hv]
 have hIl:=sf bs bs.length v
 generalize jB bs bs.length v=I at *
 have hIp:0<I.length:=by
  obtain⟨ed,h,_⟩:=N7
  exact List.length_pos_of_mem h
 obtain⟨rows,id,Ui,sR,me,hid,hid1,hid2⟩:=hN1.a.at_ hIL hIp
 rw[jV]at sR
 have hgX:=hN1.x
 have EB:(v:Int)<(cnt:Int):=ae
 have r9:=ee (f:=out) hv
 have pR:IntKind.i64.wrap (out v-1)=out v-1:=aJ (by have:=P0.lo v hv;omega)
 have qZ:(I.map eN).length=I.length:=by simp
 have wG:=xj dR hW.le
 have k7:∀(g:Rows),(∀i:Id,i.cC<nb->g i=st_b.get i)->∀ed:Nat,cQ (dM g) 6 [.ptr X 0 0,.int .i64 (v:Int),.int .i64 (ed:Int)]=some [.dq (gi cnt bs f'),.int .i64 v,.int .i64 ed]:=fun g hg ed=>by
  have:=(hN1.frame hg (Nat.le_refl _)).fz
  simp only[ai,ao,this,aD,Option.map_some]
 rw[aX]at r9
 (try((repeat(revert hN;revert N;apply Pn.out));refine wk (tw @b0 (tw @b2 (tw @b7 (tw @b8 @hd)))) ?_;(repeat(refine Pn.mk ?_;intro N hN))))
 refine aT (fun n env st=>∃k:Nat,n=(I.length)-k/\k<=(I.length)/\env 11=.int .i64 (k:Int)/\(∃(zm FE:Int),env 9=.int .i64 zm/\env 10=.int .i64 FE/\((zm<0/\∀z,z<k->¬(0<fU bs f' (I.getD z 0) v/\out (cr bs (I.getD z 0) v)=out v-1))∨∃ed:Nat,ed∈I/\FE=(ed:Int)/\zm=(cr bs ed v:Int)/\0<fU bs f' ed v/\out (cr bs ed v)=out v-1))/\((∀i:Id,st.get i=st_b.get i)/\st_b.next<=st.next)) (I.length) ⟨0,ae,ae,sl (tw @b0 (tw @b2 (tw @b7 @b8))),⟨-1,0,by(simp only[go_sem, ↓reduceIte,Nat.reduceEqDiff,Nat.reduceAdd,Nat.reduceSub,Nat.reduceLeDiff,reduceCtorEq]),by(simp only[go_sem, ↓reduceIte,Nat.reduceEqDiff,Nat.reduceAdd,Nat.reduceSub,Nat.reduceLeDiff,reduceCtorEq]),.inl ⟨ae,fun z hz=>ae⟩⟩,⟨fun i=>rfl,bW⟩⟩ ?_
 rintro n_c env_c st_c ⟨k,rfl,cle,oF,cI0,cI1⟩ cfr
 have c0:=cfr 0 (by kernel_rfl);have c2:=cfr 2 (by kernel_rfl);have c7:=cfr 7 (by kernel_rfl);have c8:=cfr 8 (by kernel_rfl)
 simp only[go_sem, ↓reduceIte,Nat.reduceEqDiff,Nat.reduceAdd,Nat.reduceSub,Nat.reduceLeDiff,reduceCtorEq,b0,b2,b7,b8]at c0 c2 c7 c8
 clear cfr
 obtain⟨zm,FE,c9,j6,Jq⟩:=cI0
 obtain⟨np,Re⟩:=cI1
 have Er:=(np X).trans hgX
 have Ep:=(np A).trans Ui
 have Et:=(np id).trans hid
 by_cases hk:(k:Int)<(I.length:Int)
 ·have iM:∀{e:Env} {gg:Rows} {nx:Nat},(e 11=.int .i64 (IntKind.i64.wrap ((k:Int)+1)))->(∃(zm FE:Int),e 9=.int .i64 zm/\e 10=.int .i64 FE/\((zm<0/\∀z,z<(k+1)->¬(0<fU bs f' (I.getD z 0) v/\out (cr bs (I.getD z 0) v)=out v-1))∨∃ed:Nat,ed∈I/\FE=(ed:Int)/\zm=(cr bs ed v:Int)/\0<fU bs f' ed v/\out (cr bs ed v)=out v-1))->((∀i:Id,gg i=st_b.get i)/\st_b.next<=nx)->∃m0,m0<(I.length)-k/\∃k:Nat,m0=(I.length)-k/\k<=(I.length)/\e 11=.int .i64 (k:Int)/\(∃(zm FE:Int),e 9=.int .i64 zm/\e 10=.int .i64 FE/\((zm<0/\∀z,z<k->¬(0<fU bs f' (I.getD z 0) v/\out (cr bs (I.getD z 0) v)=out v-1))∨∃ed:Nat,ed∈I/\FE=(ed:Int)/\zm=(cr bs ed v:Int)/\0<fU bs f' ed v/\out (cr bs ed v)=out v-1))/\((∀i:Id,gg i=st_b.get i)/\st_b.next<=nx):=fun x1 x2 x3=>⟨_,ae,k+1,rfl,ae,(by rw[x1,aB ae]),x2,x3⟩
  have fK:k<I.length:=ae
  have fe:(I.map eN)[k]? =some (eN (I.getD k 0)):=getD_map eN fK
  have r8:I.getD k 0∈I:=by rw[List.getD_eq_getElem?_getD,List.getElem?_eq_getElem fK];exact List.getElem_mem fK
  obtain⟨he,qm⟩:=hIm _ r8
  have PX:=KB cnt bs f' wG (I.getD k 0) v he
  have uh:=k7 st_c.get (fun i _=>np i) (I.getD k 0)
  have hq:=pz ok (v:=v) he
  have Rn:=ee (f:=out) hq
  obtain⟨ed,hed⟩:∃ed,ed=I.getD k 0:=⟨_,rfl⟩
  rw[<-hed]at fe he qm PX uh hq Rn r8
  rw[aX]at Rn
  rw[eN]at fe
  (try((repeat(revert hN;revert N;apply Pn.out));refine wk (tw @oF (tw @c0 (tw @c2 (tw @c7 (tw @c8 (tw @c9 (tw @j6 (tw @hk (tw @Er (tw @Ep (tw @Et (tw @me (tw @sR (tw @EB (tw @fe (tw @qZ @bH.eq_1)))))))))))))))) ?_;(repeat(refine Pn.mk ?_;intro N hN))))
  refine .inl ⟨_,ak.x PX uh,?_⟩
  refine hN _ _ ?_
  clear hN N
  have stay:∀k',k'=k+1->(¬(0<fU bs f' ed v/\out (cr bs ed v)=out v-1))->((zm<0/\∀z,z<k'->¬(0<fU bs f' (I.getD z 0) v/\out (cr bs (I.getD z 0) v)=out v-1))∨∃ed:Nat,ed∈I/\FE=(ed:Int)/\zm=(cr bs ed v:Int)/\0<fU bs f' ed v/\out (cr bs ed v)=out v-1):=fun k' JB jA=>by
   rcases Jq with⟨h1,h2⟩|h
   ·refine .inl ⟨h1,fun z hz=>?_⟩
    by_cases ED:z=k
    ·subst ED;rw[<-hed];exact jA
    ·exact h2 z ae
   ·exact .inr h
  by_cases hr:0<fU bs f' ed v
  ·by_cases Rg:out (cr bs ed v)=out v-1
   ·have q9:decide (out (cr bs ed v)=out v-1)=true:=decide_eq_true Rg
    have found:∃RW:Nat,RW∈I/\(ed:Int)=(RW:Int)/\(cr bs ed v:Int)=(cr bs RW v:Int)/\0<fU bs f' RW v/\out (cr bs RW v)=out v-1:=⟨ed,r8,rfl,rfl,hr,Rg⟩
    by_cases Ev:zm<0
    ·(try((repeat(revert hN;revert N;apply Pn.out));refine wk (tw @oF (tw @c0 (tw @c2 (tw @c7 (tw @c8 (tw @c9 (tw @j6 (tw @hk (tw @Er (tw @Ep (tw @Et (tw @me (tw @sR (tw @EB (tw @fe (tw @qZ (tw @hr (tw @Rn (tw @r9 (tw @pR (tw @q9 (tw @Ev @bH.eq_1)))))))))))))))))))))) ?_;(repeat(refine Pn.mk ?_;intro N hN))))
     exact iM (sd (tw @oF (tw @c0 (tw @c2 (tw @c7 @c8))))) (⟨_,_,sd @Nat.zero_add,sd @Nat.zero_add,.inr found⟩) (⟨np,bW⟩)
    ·by_cases dO:(cr bs ed v:Int)<zm
     ·(try((repeat(revert hN;revert N;apply Pn.out));refine wk (tw @oF (tw @c0 (tw @c2 (tw @c7 (tw @c8 (tw @c9 (tw @j6 (tw @hk (tw @Er (tw @Ep (tw @Et (tw @me (tw @sR (tw @EB (tw @fe (tw @qZ (tw @hr (tw @Rn (tw @r9 (tw @pR (tw @q9 (tw @Ev (tw @dO @bH.eq_1))))))))))))))))))))))) ?_;(repeat(refine Pn.mk ?_;intro N hN))))
      exact iM (sd (tw @oF (tw @c0 (tw @c2 (tw @c7 @c8))))) (⟨_,_,sd @Nat.zero_add,sd @Nat.zero_add,.inr found⟩) (⟨np,bW⟩)
     ·(try((repeat(revert hN;revert N;apply Pn.out));refine wk (tw @oF (tw @c0 (tw @c2 (tw @c7 (tw @c8 (tw @c9 (tw @j6 (tw @hk (tw @Er (tw @Ep (tw @Et (tw @me (tw @sR (tw @EB (tw @fe (tw @qZ (tw @hr (tw @Rn (tw @r9 (tw @pR (tw @q9 (tw @Ev (tw @dO @bH.eq_1))))))))))))))))))))))) ?_;(repeat(refine Pn.mk ?_;intro N hN))))
      exact iM (sd (tw @oF (tw @c0 (tw @c2 (tw @c7 @c8))))) (⟨zm,FE,sd @c9,sd @j6,by
       rcases Jq with⟨h1,_⟩|h
       ·exact absurd h1 Ev
       ·exact .inr h⟩) (⟨np,bW⟩)
   ·have q9:decide (out (cr bs ed v)=out v-1)=false:=decide_eq_false Rg
    (try((repeat(revert hN;revert N;apply Pn.out));refine wk (tw @oF (tw @c0 (tw @c2 (tw @c7 (tw @c8 (tw @c9 (tw @j6 (tw @hk (tw @Er (tw @Ep (tw @Et (tw @me (tw @sR (tw @EB (tw @fe (tw @qZ (tw @hr (tw @Rn (tw @r9 (tw @pR (tw @q9 @bH.eq_1))))))))))))))))))))) ?_;(repeat(refine Pn.mk ?_;intro N hN))))
    exact iM (sd (tw @oF (tw @c0 (tw @c2 (tw @c7 @c8))))) (⟨zm,FE,sd @c9,sd @j6,stay _ rfl fun h=>Rg h.2⟩) (⟨np,bW⟩)
  ·(try((repeat(revert hN;revert N;apply Pn.out));refine wk (tw @oF (tw @c0 (tw @c2 (tw @c7 (tw @c8 (tw @c9 (tw @j6 (tw @hk (tw @Er (tw @Ep (tw @Et (tw @me (tw @sR (tw @EB (tw @fe (tw @qZ (tw @hr @bH.eq_1))))))))))))))))) ?_;(repeat(refine Pn.mk ?_;intro N hN))))
   exact iM (sd (tw @oF (tw @c0 (tw @c2 (tw @c7 @c8))))) (⟨zm,FE,sd @c9,sd @j6,stay _ rfl fun h=>hr h.1⟩) (⟨np,bW⟩)
 ·have mQ:k=I.length:=ae
  have VB:∃ed:Nat,ed∈I/\FE=(ed:Int)/\zm=(cr bs ed v:Int)/\0<fU bs f' ed v/\out (cr bs ed v)=out v-1:=by
   rcases Jq with⟨h1,h2⟩|h
   ·exfalso
    obtain⟨ed,he,hq⟩:=N7
    obtain⟨z,hz,rfl⟩:=List.getElem_of_mem he
    refine h2 z ae ?_
    rw[List.getD_eq_getElem?_getD,List.getElem?_eq_getElem hz];exact hq
   ·exact h
  obtain⟨ed,r8,rfl,rfl,hr,Rg⟩:=VB
  obtain⟨he,qm⟩:=hIm _ r8
  (try((repeat(revert hN;revert N;apply Pn.out));refine wk (tw @oF (tw @c0 (tw @c2 (tw @c7 (tw @c8 (tw @c9 (tw @j6 (tw @hk (tw @Er (tw @Ep (tw @Et (tw @me (tw @sR (tw @EB (tw @qZ @bH.eq_1))))))))))))))) ?_;(repeat(refine Pn.mk ?_;intro N hN))))
  refine .inr (aU _ _ _ _ _ (fun r σ1 hq=>?_) (Qj cnt bs f' wG ed v he X A F ⟨st_c.get,_⟩ nb (hN1.frame (fun i _=>np i) (Nat.le_refl _)) bW))
  obtain⟨T7,mA,Jw⟩:=hq
  (try dsimp only at mA Jw)
  refine hN _ _ ?_
  clear hN N
  (try((repeat(revert hN;revert N;apply Pn.out));refine wk (tw @oF (tw @c0 (tw @c2 (tw @c7 (tw @c8 @c9))))) ?_;(repeat(refine Pn.mk ?_;intro N hN))))
  refine⟨_,?_,cr bs ed v,um bs f' ed v,rfl,pz ok he,ae,sd @Nat.zero_add,hW.step he qm hr Rg,T7,fun i hi hF=>by rw[Jw i hF,np i,kR i hi hF],bW⟩
  omega
def tQ (P:Program) (f:Nat) (args:List AV) (R:AV->Prop):Prop:=∀σ:ax,Call P f args ⟨V.ro σ.get,σ.next⟩ fun r0 σ'=>∃r',V.fz σ'.get 6 r0=some r'/\R r'
theorem Ed {P:Program} {f:Nat} {args:List AV} {g:Rows} {n:Nat} {R:AV->Prop} (h:Sound P f args ⟨V.ro g,n⟩ fun r0 σ'=>∃r',V.fz σ'.get 6 r0=some r'/\R r'):Sound P f args ⟨g,n⟩ fun r σ'=>R r/\σ'=⟨g,n⟩:=by
 intro hs D ι w vs S U A
 refine(Bn (g0:=g) (K:=R) h (fun _ _ h=>h) S U A).mono ?_
 rintro e w' ⟨r,D',u,rfl,hR,T,S',hr⟩
 exact⟨r,g,n,D',ι,u,rfl,⟨hR,rfl⟩,T,S',U,Nat.le_refl _,hr⟩
theorem tQ.x {P:Program} (hm:P.follows .mixedOrders=true) {f:Nat} {args:List AV} {R:AV->Prop} (h:tQ P f args R) {σ:ax}:Call P f args σ fun r σ'=>R r/\σ'=σ:=
 gF (Ed (gG hm (h σ)))
theorem tQ.body {P:Program} {f:Nat} {args:List AV} {R:AV->Prop} {nt na:Nat} {body:VC} {res:List qg} (hf:nf P f=some ⟨nt,na,body,res⟩) (ha:na=args.length) (h:(∀a∈args,eZ a)->∀σ:ax,ef (Call P) body (mH res fun r0 σ'=>∃r',V.fz σ'.get 6 r0=some r'/\R r') (cD args) ⟨V.ro σ.get,σ.next⟩):tQ P f args R:=fun σ=>mU hf ha fun hl=>h hl σ
theorem MV {g:Rows} {rows:List (List AV)} {xs:List (List Nat)} {ids:List Id} (n:Nat) (h:eT QX g rows xs ids):eK g (n+2) rows=some (xs.map fun l=>[Qu l]):=by
 induction h with
 |nil=>rw[eK];rfl
 |cons h1 _ ih=>
  rename_i x _ _ _ _ _
  rcases h1 with⟨h0,h1,_⟩|⟨id,h1,h0,h2,_⟩
  ·subst h0 h1;rw[eK,ih,ai,ao,aY];rfl
  ·have gI:x≠[]:=by rintro rfl;simp at h0
   subst h1
   rw[eK,ih,ai,ao,gH (e:=eN) (sz:=1) h2 rfl fun a=>fzN _ n a]
   simp[Qu,gI]
theorem oQ.fz0 {cnt:Nat} {bs:List PB} {f:Nat->Int} {X A F:Id} {g:Rows} {nx:Nat} (h:oQ cnt bs f X A F g nx):V.fz g 5 (.ptr X 0 0)=some (.dq (gi cnt bs f)):=by
 have hf:V.fz g 4 (.own F 0 bs.length)=some (.sl (eF f bs.length)):=by
  rw[ig]
  simp only[h.f,if_true]
  rw[if_pos (by rw[dS];omega),List.drop_zero,List.take_of_length_le (by rw[dS];omega),AX];rfl
 have ha:V.fz g 4 (.own A 0 cnt)=some (.sl (qM cnt bs bs.length)):=by
  obtain⟨rows,ids,h1,h2,_,_⟩:=h.a
  have hl:=h2.len
  rw[jV]at hl
  rw[ig]
  simp only[h1,if_true]
  rw[if_pos ae,List.drop_zero,List.take_of_length_le ae,MV 1 h2]
  simp[l5,qM]
 rw[bf]
 simp only[h.x,if_true,List.getElem?_cons_zero,List.drop_zero,bH,ai,ao,aD,cz,ha,hf,Option.map_some,gi]
theorem FF {S:Nat->Bool}:∀bs:List PB,(∀b∈bs,b.s<=4)->jK S bs<=4*bs.length
 |[],_=>by simp[jK]
 |b::bs,h=>by
  rw[s7]
  have:=FF (S:=S) bs fun x hx=>h x (List.mem_cons_of_mem _ hx)
  have:=h b (by simp)
  simp only[List.length_cons]
  split<;>omega
theorem kF.zero {bs:List PB} {x y:Nat} (h:∀e,e<bs.length->0<=(cG bs e).s/\(cG bs e).s<=4):kF bs (fun _=>0) x y 0:=
 ⟨fun i hi=>by have:=h i hi;omega,fun S _ _=>kz fun i _=>by simp⟩
theorem LO {bs:List PB} {b:PB} (h:b∈bs):∃e,e<bs.length/\cG bs e=b:=by
 obtain⟨e,he,rfl⟩:=List.getElem_of_mem h
 exact⟨e,he,by simp[cG,List.getD_eq_getElem?_getD,he]⟩
theorem Hr (cnt:Nat) (hn:cnt<=1048576) (bs:List PB) (ok:om cnt bs) (ke:bs.length<=1048576) (dR:∀e,e<bs.length->0<=(cG bs e).s/\(cG bs e).s<=4) (x y:Nat) (hx:x<cnt) (hy:y<cnt) (P8:x≠y):
  tQ Tryz.prog 187 [.int .i64 cnt,.sl (bs.map ay),.int .i64 x,.int .i64 y] fun r=>∃f val,r=.iJ [.dq (gi cnt bs f),.int .i64 val]/\kF bs f x y val/\∃S:Nat->Bool,S x=true/\S y=false/\val=jK S bs:=by
 refine tQ.body eM rfl fun hl σ=>?_
 clear hl
 (try((repeat(revert hN;revert N;apply Pn.out));refine wk @Nat.zero_add ?_;(repeat(refine Pn.mk ?_;intro N hN))))
 refine .inr (aU _ _ _ _ _ (fun r σ1 hq=>?_) (JZ cnt hn bs ok ke _))
 obtain⟨X,A,F,rfl,hX,hS⟩:=hq
 refine hN _ _ ?_
 clear hN N
 have Ua:∀f val,kF bs f x y val->val<=jK (fun v=>decide (v=x)) bs:=fun f val hf=>hf.bound (decide_eq_true rfl) (decide_eq_false fun h=>P8 h.symm)
 have htot:=FF (S:=fun v=>decide (v=x)) bs fun b hb=>by
  obtain⟨e,he,rfl⟩:=LO hb
  exact(dR e he).2
 generalize jK (fun v=>decide (v=x)) bs=T at *
 (try((repeat(revert hN;revert N;apply Pn.out));refine wk @Nat.zero_add ?_;(repeat(refine Pn.mk ?_;intro N hN))))
 refine aT (fun m env st=>∃(f:Nat->Int) (val:Int),m=(T-val).toNat/\0<=val/\env 10=.ptr X 0 0/\env 11=.int .i64 val/\kF bs f x y val/\oQ cnt bs f X A F st.get σ1.next/\σ1.next<=st.next) T.toNat ⟨_,0,by simp,ae,by(simp only[go_sem, ↓reduceIte,Nat.reduceEqDiff,Nat.reduceAdd,Nat.reduceSub,Nat.reduceLeDiff,reduceCtorEq]),by(simp only[go_sem, ↓reduceIte,Nat.reduceEqDiff,Nat.reduceAdd,Nat.reduceSub,Nat.reduceLeDiff,reduceCtorEq]),kF.zero dR,hS.frame (fun i hi=>rfl) (Nat.le_refl _),bW⟩ ?_
 rintro m env_b st_b ⟨f,val,rfl,rh,b10,yw,hf,hN1,hle⟩ bfr
 have b2:=bfr 2 (by kernel_rfl)
 have b3:=bfr 3 (by kernel_rfl)
 simp only[go_sem, ↓reduceIte,Nat.reduceEqDiff,Nat.reduceAdd,Nat.reduceSub,Nat.reduceLeDiff,reduceCtorEq]at b2 b3
 clear bfr
 (try((repeat(revert hN;revert N;apply Pn.out));refine wk (tw @b2 (tw @b3 @b10)) ?_;(repeat(refine Pn.mk ?_;intro N hN))))
 refine .inr (aU _ _ _ _ _ (fun r σ2 hq=>?_) (Pm cnt hn bs ok ke dR f x y hx hy P8 val hf X A F ⟨st_b.get,_⟩ σ1.next hN1 bW))
 obtain⟨b,f',rfl,T7,mA,_,jA,qp⟩:=hq
 (try dsimp only at mA)
 refine hN _ _ ?_
 clear hN N
 cases b with
 |true=>
  have mO:=qp rfl
  have Ln:=Ua _ _ hf
  have xG:=Ua _ _ mO
  have hw:IntKind.i64.wrap (val+1)=val+1:=aJ ae
  (try((repeat(revert hN;revert N;apply Pn.out));refine wk (tw @b10 (tw @yw @hw)) ?_;(repeat(refine Pn.mk ?_;intro N hN))))
  exact⟨_,ae,f',val+1,rfl,ae,sd @b10,sd (tw @yw @hw),mO,T7,bW⟩
 |false=>
  obtain⟨rfl,S,h1,h2,h3⟩:=jA rfl
  (try((repeat(revert hN;revert N;apply Pn.out));refine wk (tw @b10 @yw) ?_;(repeat(refine Pn.mk ?_;intro N hN))))
  have hz:=T7.fz0
  exact⟨[.ptr X 0 0,.int .i64 val],sd @Nat.zero_add,.iJ [.dq (gi cnt bs f'),.int .i64 val],by simp only[eJ,bJ,ai,ao,hz,aD,Option.map_some],f',val,rfl,hf,S,h1,h2,h3⟩
theorem Ht (cnt:Nat) (hn:cnt<=1048576) (bs:List PB) (ok:om cnt bs) (ke:bs.length<=1048576) (f:Nat->Int) (hs:Small bs f) (y:Nat) (hy:y<cnt):
  oi Tryz.prog 188 [.dq (gi cnt bs f),.int .i64 y] fun r=>∃l:List Nat,r=.sl (l.map eN)/\l.length<=cnt:=by
 refine oi.body eM rfl fun hl n0=>?_
 clear hl
 have hz:∀g:Rows,cQ (dM g) 6 [.dq (gi cnt bs f),.int .i64 (y:Int)]=some [.dq (gi cnt bs f),.int .i64 y]:=fun g=>by simp only[ai,ao,aV,aD,Option.map_some]
 (try((repeat(revert hN;revert N;apply Pn.out));refine wk @Nat.zero_add ?_;(repeat(refine Pn.mk ?_;intro N hN))))
 refine .inr (aU _ _ _ _ _ (fun r σ1 hq=>?_) ((Gh cnt hn bs ok ke f hs y hy).x mixed (hz _)))
 obtain⟨⟨out,rfl,P0⟩,rfl⟩:=hq
 refine hN _ _ ?_
 clear hN N
 (try((repeat(revert hN;revert N;apply Pn.out));refine wk @gi.eq_1 ?_;(repeat(refine Pn.mk ?_;intro N hN))))
 refine aT (fun n env st=>∃k:Nat,n=(cnt)-k/\k<=(cnt)/\env 7=.int .i64 (k:Int)/\(∃(o:Id) (l:List Nat),env 6=.own o 0 l.length/\st.get o=some ⟨true,1,l.map eN⟩/\o.cC<st.next/\l.length<=k)) (cnt) ⟨0,ae,ae,sl @gi.eq_1,⟨⟨188002000,n0+1+1+1⟩,[],by(simp only[go_sem, ↓reduceIte,Nat.reduceEqDiff,Nat.reduceAdd,Nat.reduceSub,Nat.reduceLeDiff,reduceCtorEq])<;>rfl,by(simp only[go_sem, ↓reduceIte,Nat.reduceEqDiff,Nat.reduceAdd,Nat.reduceSub,Nat.reduceLeDiff,reduceCtorEq])<;>rfl,bW,by simp⟩⟩ ?_
 rintro n_a env_a st_a ⟨k,rfl,ale,a7,kB⟩ dr
 have a0:=dr 0 (by kernel_rfl);have a5:=dr 5 (by kernel_rfl)
 simp only[go_sem, ↓reduceIte,Nat.reduceEqDiff,Nat.reduceAdd,Nat.reduceSub,Nat.reduceLeDiff,reduceCtorEq,gi]at a0 a5
 clear dr
 obtain⟨o,l,a6,ag,r9,G7⟩:=kB
 have rh:=eX r9
 have kf:(l.map eN).length=l.length:=by simp
 by_cases hk:(k:Int)<(cnt:Int)
 ·have bZ:∀{e:Env} {gg:Rows} {nx:Nat},(e 7=.int .i64 (IntKind.i64.wrap ((k:Int)+1)))->(∃(o:Id) (l:List Nat),e 6=.own o 0 l.length/\gg o=some ⟨true,1,l.map eN⟩/\o.cC<nx/\l.length<=(k+1))->∃m0,m0<(cnt)-k/\∃k:Nat,m0=(cnt)-k/\k<=(cnt)/\e 7=.int .i64 (k:Int)/\(∃(o:Id) (l:List Nat),e 6=.own o 0 l.length/\gg o=some ⟨true,1,l.map eN⟩/\o.cC<nx/\l.length<=k):=fun x1 x2=>⟨_,ae,k+1,rfl,ae,(by rw[x1,aB ae]),x2⟩
  have k5:=ee (f:=out) (show k<cnt by omega)
  rw[aX]at k5
  have e1:l.length+1<=16777216:=ae
  by_cases h0:0<=out k
  ·(try((repeat(revert hN;revert N;apply Pn.out));refine wk (tw @a7 (tw @a0 (tw @a5 (tw @a6 (tw @ag (tw @rh (tw @hk (tw @k5 (tw @h0 (tw @e1 (tw @kf @gi.eq_1))))))))))) ?_;(repeat(refine Pn.mk ?_;intro N hN))))
   exact bZ (sd (tw @a7 (tw @a0 (tw @a5 @gi.eq_1)))) (⟨⟨188007003,st_a.next+1+1⟩,l++[k],by rw[List.length_append];simp only[go_sem, ↓reduceIte,Nat.reduceEqDiff,Nat.reduceAdd,Nat.reduceSub,Nat.reduceLeDiff,reduceCtorEq,List.length_cons,List.length_nil],by rw[List.map_append,List.map_cons,List.map_nil];simp only[go_sem, ↓reduceIte,Nat.reduceEqDiff,Nat.reduceAdd,Nat.reduceSub,Nat.reduceLeDiff,reduceCtorEq,eN],bW,by simp;omega⟩)
  ·(try((repeat(revert hN;revert N;apply Pn.out));refine wk (tw @a7 (tw @a0 (tw @a5 (tw @a6 (tw @ag (tw @rh (tw @hk (tw @k5 (tw @h0 (tw @kf @gi.eq_1)))))))))) ?_;(repeat(refine Pn.mk ?_;intro N hN))))
   exact bZ (sd (tw @a7 (tw @a0 (tw @a5 @gi.eq_1)))) (⟨o,l,sd @a6,sd @ag,bW,ae⟩)
 ·(try((repeat(revert hN;revert N;apply Pn.out));refine wk (tw @a7 (tw @a0 (tw @a5 (tw @a6 (tw @hk @gi.eq_1))))) ?_;(repeat(refine Pn.mk ?_;intro N hN))))
  have th:gw st_a.get 6 (.own o 0 l.length)=some (.sl (l.map eN)):=e9 ag rfl fun b=>Pj _ 4 b
  exact⟨_,rfl,_,by simp only[go_sem, ↓reduceIte,Nat.reduceEqDiff,Nat.reduceAdd,Nat.reduceSub,Nat.reduceLeDiff,reduceCtorEq,eJ];exact th,l,rfl,ae⟩
theorem Cz (v1 v2:Int) (l1 l2:List Nat) (h1:l1.length<=1048576) (h2:l2.length<=1048576):
  oi Tryz.prog 189 [.int .i64 v1,.sl (l1.map eN),.int .i64 v2,.sl (l2.map eN)] fun r=>∃b,r=.bool b/\(v1<v2->b=true)/\(v2<v1->b=false):=by
 refine oi.body eM rfl fun hl n0=>?_
 clear hl
 have ret:∀{t:Nat} {env:Env} {σ:ax} {b:Bool} {x:Ex},(x=.ret∨x=.normal)->env t=.bool b->((v1<v2->b=true)/\(v2<v1->b=false))->mH [.tmp t] (fun r0 σ'=>∃r',gw σ'.get 6 r0=some r'/\∃b,r'=.bool b/\(v1<v2->b=true)/\(v2<v1->b=false)) x env σ:=by
  intro t env σ b x hx he hb
  have:∃vs,fo env σ.get [.tmp t]=some vs/\∃r',gw σ.get 6 (eJ vs)=some r'/\∃b,r'=.bool b/\(v1<v2->b=true)/\(v2<v1->b=false):=⟨[env t],rfl,.bool b,by rw[he];exact fH _ _ _,b,rfl,hb⟩
  rcases hx with rfl|rfl
  ·exact this
  ·exact this
 have m1:(l1.map eN).length=l1.length:=by simp
 have m2:(l2.map eN).length=l2.length:=by simp
 by_cases hv:v1=v2
 ·have hd:decide (v1=v2)=true:=decide_eq_true hv
  by_cases G7:(l1.length:Int)=(l2.length:Int)
  ·have q9:decide ((l1.length:Int)=(l2.length:Int))=true:=decide_eq_true G7
   have Vv:decide (l1.length=l2.length)=true:=decide_eq_true ae
   (try((repeat(revert hN;revert N;apply Pn.out));refine wk (tw @hd (tw @q9 (tw @Vv (tw @m1 @m2)))) ?_;(repeat(refine Pn.mk ?_;intro N hN))))
   refine aT (fun n env st=>∃k:Nat,n=(l1.length)-k/\k<=(l1.length)/\env 9=.int .i64 (k:Int)) (l1.length) ⟨0,ae,ae,sl @Nat.zero_add⟩ ?_
   rintro n_a env_a st_a ⟨k,rfl,ale,a9⟩ dr
   have a1:=dr 1 (by kernel_rfl);have a3:=dr 3 (by kernel_rfl)
   simp only[go_sem, ↓reduceIte,Nat.reduceEqDiff,Nat.reduceAdd,Nat.reduceSub,Nat.reduceLeDiff,reduceCtorEq]at a1 a3
   clear dr
   by_cases hk:(k:Int)<(l1.length:Int)
   ·have bZ:∀{e:Env},(e 9=.int .i64 (IntKind.i64.wrap ((k:Int)+1)))->∃m0,m0<(l1.length)-k/\∃k:Nat,m0=(l1.length)-k/\k<=(l1.length)/\e 9=.int .i64 (k:Int):=fun x1=>⟨_,ae,k+1,rfl,ae,(by rw[x1,aB ae])⟩
    have g1:(l1.map eN)[k]? =some (eN (l1.getD k 0)):=getD_map eN ae
    have g2:(l2.map eN)[k]? =some (eN (l2.getD k 0)):=getD_map eN ae
    rw[eN]at g1 g2
    by_cases he:((l1.getD k 0:Nat):Int)=((l2.getD k 0:Nat):Int)
    ·have Vw:decide (((l1.getD k 0:Nat):Int)=((l2.getD k 0:Nat):Int))=true:=decide_eq_true he
     have Vx:decide (l1.getD k 0=l2.getD k 0)=true:=decide_eq_true ae
     (try((repeat(revert hN;revert N;apply Pn.out));refine wk (tw @a9 (tw @a1 (tw @a3 (tw @hk (tw @m1 (tw @g1 (tw @g2 (tw @Vw @Vx)))))))) ?_;(repeat(refine Pn.mk ?_;intro N hN))))
     exact bZ (sd (tw @a9 (tw @a1 @a3)))
    ·have Vw:decide (((l1.getD k 0:Nat):Int)=((l2.getD k 0:Nat):Int))=false:=decide_eq_false he
     have Vx:decide (l1.getD k 0=l2.getD k 0)=false:=decide_eq_false ae
     (try((repeat(revert hN;revert N;apply Pn.out));refine wk (tw @a9 (tw @a1 (tw @a3 (tw @hk (tw @m1 (tw @g1 (tw @g2 (tw @Vw @Vx)))))))) ?_;(repeat(refine Pn.mk ?_;intro N hN))))
     exact ret (.inl rfl) (by simp only[go_sem, ↓reduceIte,Nat.reduceEqDiff,Nat.reduceAdd,Nat.reduceSub,Nat.reduceLeDiff,reduceCtorEq];rfl) ⟨fun h=>ae,fun h=>ae⟩
   ·(try((repeat(revert hN;revert N;apply Pn.out));refine wk (tw @a9 (tw @a1 (tw @a3 (tw @hk @m1)))) ?_;(repeat(refine Pn.mk ?_;intro N hN))))
    exact ret (b:=false) (.inl rfl) (sd @Nat.zero_add) ⟨fun h=>ae,fun h=>ae⟩
  ·have q9:decide ((l1.length:Int)=(l2.length:Int))=false:=decide_eq_false G7
   have Vv:decide (l1.length=l2.length)=false:=decide_eq_false ae
   (try((repeat(revert hN;revert N;apply Pn.out));refine wk (tw @hd (tw @q9 (tw @Vv (tw @m1 @m2)))) ?_;(repeat(refine Pn.mk ?_;intro N hN))))
   exact ret (.inl rfl) (by simp only[go_sem, ↓reduceIte,Nat.reduceEqDiff,Nat.reduceAdd,Nat.reduceSub,Nat.reduceLeDiff,reduceCtorEq];rfl) ⟨fun h=>ae,fun h=>ae⟩
 ·have hd:decide (v1=v2)=false:=decide_eq_false hv
  (try((repeat(revert hN;revert N;apply Pn.out));refine wk @hd ?_;(repeat(refine Pn.mk ?_;intro N hN))))
  exact ret (b:=decide (v1<v2)) (.inl rfl) (sd @Nat.zero_add) ⟨fun h=>decide_eq_true h,fun h=>decide_eq_false ae⟩
def vC (bs:List PB) (cnt:Nat) (jP:Int) (k:Nat):Prop:=(k=1/\jP= -1)∨(0<=jP/\(∀z,1<=z->z<k->∀S:Nat->Bool,S 0=true->S z=false->jP<=jK S bs)/\∃S:Nat->Bool,S 0=true/\(∃z,z<cnt/\S z=false)/\jP=jK S bs)
theorem kF.nn {bs:List PB} {val:Int} {S:Nat->Bool} (dR:∀e,e<bs.length->0<=(cG bs e).s/\(cG bs e).s<=4) (h:val=jK S bs):0<=val:=by
 rw[h,vR]
 have:=sG (f:=fun _=>0) (g:=fun i=>if S (cG bs i).a=S (cG bs i).b then 0 else(cG bs i).s) (n:=bs.length) fun i hi=>by
  have:=dR i hi
  split<;>omega
 rw[kz fun _ _=>rfl]at this
 exact this
theorem vC.done {bs:List PB} {cnt:Nat} {jP:Int} (hc:2<=cnt) (h:vC bs cnt jP cnt) (t:Int):t<=jP↔lv cnt bs t:=by
 rcases h with⟨h,_⟩|⟨_,h1,S,h2,⟨z,hz,k7⟩,h3⟩
 ·omega
 ·constructor
  ·intro ht S h0 ⟨y,hy,hy2⟩
   have:y≠0:=by rintro rfl;rw[h0]at hy2;cases hy2
   have:=h1 y ae hy S h0 hy2
   omega
  ·intro hH
   rw[h3];exact hH S h2 ⟨z,hz,k7⟩
theorem Ar (cnt:Nat) (h2:2<=cnt) (hn:cnt<=1048576) (bs:List PB) (ok:om cnt bs) (ke:bs.length<=1048576) (dR:∀e,e<bs.length->0<=(cG bs e).s/\(cG bs e).s<=4):
  tQ Tryz.prog 170 [.int .i64 cnt,.sl (bs.map ay)] fun r=>∃jP p,r=.iJ [.int .i64 jP,p]/\∀t:Int,t<=jP↔lv cnt bs t:=by
 refine tQ.body eM rfl fun hl σ=>?_
 clear hl
 (try((repeat(revert hN;revert N;apply Pn.out));refine wk @Nat.zero_add ?_;(repeat(refine Pn.mk ?_;intro N hN))))
 have z0:∀(g:Rows) (id:Id),g id=some ⟨true,1,[]⟩->V.fz (dM g) 6 (.own id 0 0)=some (.sl (([]:List Nat).map eN))/\V.fz g 5 (.own id 0 0)=some (.sl (([]:List Nat).map eN)):=fun g id h=>by
  have h':dM g id=some ⟨true,1,[]⟩:=by simp[dM,h]
  constructor
  ·rw[ig];simp only[h',if_true];rw[if_pos (by simp)];simp[pd]
  ·rw[ig];simp only[h,if_true];rw[if_pos (by simp)];simp[pd]
 refine aT (fun m env st=>∃(k:Nat) (jP:Int) (l:List Nat) (p:AV),m=cnt-k/\1<=k/\k<=cnt/\env 8=.int .i64 (k:Int)/\env 6=.int .i64 jP/\env 7=p/\V.fz (dM st.get) 6 p=some (.sl (l.map eN))/\V.fz st.get 5 p=some (.sl (l.map eN))/\l.length<=cnt/\vC bs cnt jP k) (cnt-1) ⟨1,-1,[],.own ⟨170002000,σ.next+1+1⟩ 0 0,rfl,ae,ae,by(simp only[go_sem, ↓reduceIte,Nat.reduceEqDiff,Nat.reduceAdd,Nat.reduceSub,Nat.reduceLeDiff,reduceCtorEq])<;>rfl,by(simp only[go_sem, ↓reduceIte,Nat.reduceEqDiff,Nat.reduceAdd,Nat.reduceSub,Nat.reduceLeDiff,reduceCtorEq])<;>rfl,by(simp only[go_sem, ↓reduceIte,Nat.reduceEqDiff,Nat.reduceAdd,Nat.reduceSub,Nat.reduceLeDiff,reduceCtorEq])<;>rfl,(z0 _ _ (sd @Nat.zero_add)).1,(z0 _ _ (sd @Nat.zero_add)).2,by simp,.inl ⟨rfl,rfl⟩⟩ ?_
 rintro m env_b st_b ⟨k,jP,l,p,rfl,re,uK,b8,b6,b7,sS,k7,hl,hB⟩ bfr
 have b0:=bfr 0 (by kernel_rfl)
 have b1:=bfr 1 (by kernel_rfl)
 simp only[go_sem, ↓reduceIte,Nat.reduceEqDiff,Nat.reduceAdd,Nat.reduceSub,Nat.reduceLeDiff,reduceCtorEq]at b0 b1
 clear bfr z0
 by_cases hk:(k:Int)<(cnt:Int)
 ·have fK:k<cnt:=ae
  have hFl:=Hr cnt hn bs ok ke dR 0 k ae fK ae
  rw[show(((0:Nat):Int))=0 from rfl]at hFl
  (try((repeat(revert hN;revert N;apply Pn.out));refine wk (tw @b0 (tw @b1 (tw @b6 (tw @b7 (tw @b8 @hk))))) ?_;(repeat(refine Pn.mk ?_;intro N hN))))
  refine .inr (aU _ _ _ _ _ (fun r σ1 hq=>?_) (hFl.x mixed))
  obtain⟨⟨f,val,rfl,hf,S,Bc,Mn,Rb⟩,rfl⟩:=hq
  refine hN _ _ ?_
  clear hN N
  have wG:=xj dR hf.le
  have se:=kF.nn (val:=val) dR Rb
  (try((repeat(revert hN;revert N;apply Pn.out));refine wk (tw @b0 (tw @b1 (tw @b6 (tw @b7 @b8)))) ?_;(repeat(refine Pn.mk ?_;intro N hN))))
  refine .inr (aU _ _ _ _ _ (fun r σ1 hq=>?_) ((Ht cnt hn bs ok ke f wG k fK).x mixed (by simp only[ai,ao,aV,aD,Option.map_some])))
  obtain⟨⟨l',rfl,Lu⟩,rfl⟩:=hq
  refine hN _ _ ?_
  clear hN N
  have hw:IntKind.i64.wrap ((k:Int)+1)=((k+1:Nat):Int):=aB ae
  have TB:(∀z,1<=z->z<k->∀S:Nat->Bool,S 0=true->S z=false->val<=jK S bs)->vC bs cnt val (k+1):=fun h=>.inr ⟨se,fun z sS k7 S' h0 h1=>by
   by_cases uh:z=k
   ·subst uh;exact hf.bound h0 h1
   ·exact h z sS ae S' h0 h1,S,Bc,⟨k,fK,Mn⟩,Rb⟩
  by_cases kK:jP<0
  ·have oK:k=1:=by
    rcases hB with⟨h,_⟩|⟨h,_⟩
    ·exact h
    ·omega
   (try((repeat(revert hN;revert N;apply Pn.out));refine wk (tw @b0 (tw @b1 (tw @b6 (tw @b7 (tw @b8 (tw @kK @hw)))))) ?_;(repeat(refine Pn.mk ?_;intro N hN))))
   refine⟨_,?_,k+1,val,l',.sl (l'.map eN),rfl,ae,ae,sd (tw @b8 @hw),sd @Nat.zero_add,sd @Nat.zero_add,cz _ _ _,cz _ _ _,Lu,TB fun z h1 h2=>ae⟩
   omega
  ·have oK:(∀z,1<=z->z<k->∀S:Nat->Bool,S 0=true->S z=false->jP<=jK S bs)/\∃S:Nat->Bool,S 0=true/\(∃z,z<cnt/\S z=false)/\jP=jK S bs:=by
    rcases hB with⟨_,h⟩|⟨_,h⟩
    ·omega
    ·exact h
   (try((repeat(revert hN;revert N;apply Pn.out));refine wk (tw @b0 (tw @b1 (tw @b6 (tw @b7 (tw @b8 (tw @kK @hw)))))) ?_;(repeat(refine Pn.mk ?_;intro N hN))))
   refine .inr (aU _ _ _ _ _ (fun r σ1 hq=>?_) ((Cz val jP l' l ae ae).x mixed (by simp only[ai,ao,cz,aD,sS,Option.map_some])))
   obtain⟨⟨b,rfl,Ln,xG⟩,rfl⟩:=hq
   refine hN _ _ ?_
   clear hN N
   cases b with
   |true=>
    have Rt:val<=jP:=by
     rcases Int.lt_or_le jP val with h|h
     ·exact absurd (xG h) (by simp)
     ·exact h
    (try((repeat(revert hN;revert N;apply Pn.out));refine wk (tw @b0 (tw @b1 (tw @b6 (tw @b7 (tw @b8 @hw))))) ?_;(repeat(refine Pn.mk ?_;intro N hN))))
    refine⟨_,?_,k+1,val,l',.sl (l'.map eN),rfl,ae,ae,sd (tw @b8 @hw),sd @Nat.zero_add,sd @Nat.zero_add,cz _ _ _,cz _ _ _,Lu,TB fun z h1 h2 S' h3 h4=>by have:=oK.1 z h1 h2 S' h3 h4;omega⟩
    omega
   |false=>
    have Rt:jP<=val:=by
     rcases Int.lt_or_le val jP with h|h
     ·exact absurd (Ln h) (by simp)
     ·exact h
    (try((repeat(revert hN;revert N;apply Pn.out));refine wk (tw @b0 (tw @b1 (tw @b6 (tw @b7 (tw @b8 @hw))))) ?_;(repeat(refine Pn.mk ?_;intro N hN))))
    refine⟨_,?_,k+1,jP,l,p,rfl,ae,ae,sd (tw @b8 @hw),sd @b6,sd @b7,sS,k7,hl,.inr ⟨ae,fun z h1 h2 S' h3 h4=>?_,oK.2⟩⟩
    ·omega
    ·by_cases uh:z=k
     ·subst uh;have:=hf.bound h3 h4;omega
     ·exact oK.1 z h1 ae S' h3 h4
 ·have mQ:k=cnt:=ae
  (try((repeat(revert hN;revert N;apply Pn.out));refine wk (tw @b0 (tw @b1 (tw @b6 (tw @b7 (tw @b8 @hk))))) ?_;(repeat(refine Pn.mk ?_;intro N hN))))
  exact⟨[.int .i64 jP,p],sd @Nat.zero_add,.iJ [.int .i64 jP,.sl (l.map eN)],by simp only[eJ,bJ,ai,ao,k7,aD,Option.map_some],jP,_,rfl,vC.done h2 (mQ▸hB)⟩
theorem Nv {s:aw} (hS:mV s) (a d:Int):xk s (dK (dL s a) d)<=4:=by
 have hF:=hS.form
 have fB:dK (dL s a) d=0∨(0<=dK (dL s a) d/\dK (dL s a) d<=s.az.length):=by
  unfold dK dL
  rw[List.getD_eq_getElem?_getD,List.getD_eq_getElem?_getD]
  rcases ht:s.aj[a.toNat]? with _|t
  ·exact .inl (by simp[EV])
  ·have htm:=List.mem_of_getElem? ht
   simp only[Option.getD_some]
   rcases hg:t.bD[d.toNat]? with _|g
   ·exact .inl rfl
   ·exact .inr (hF.yX t htm g (List.mem_of_getElem? hg))
 unfold xk
 by_cases h0:dK (dL s a) d=0
 ·rw[if_pos h0];omega
 ·rw[if_neg h0]
  have hk:(dK (dL s a) d-1).toNat<s.az.length:=ae
  have:=dX (hS.U8 _ hk).2.1
  unfold qC at this
  unfold td
  omega
theorem IW {s:aw} (hS:mV s) (a d b:Int):jG s a d b<=4:=by
 unfold jG
 split
 ·exact Nv hS a d
 ·omega
theorem GD {s:aw} {l:List ah} (hS:mV s) {i:Nat} (hi:i<l.length) {d:Int}:∀b∈nJ s l i d,b.a<l.length/\b.b<l.length/\0<=b.s/\b.s<=4:=by
 intro b hb
 unfold nJ at hb
 split at hb
 ·rename_i h
  simp only[List.mem_singleton]at hb
  subst hb
  exact⟨hi,(mh h.1).1,by simp only;omega,IW hS ..⟩
 ·cases hb
theorem yF {s:aw} {l:List ah} (hS:mV s):∀b∈di s l,b.a<l.length/\b.b<l.length/\0<=b.s/\b.s<=4:=by
 intro b hb
 simp only[di,hZ,gz,List.mem_flatMap,List.mem_range]at hb
 obtain⟨i,hi,j,_,hb⟩:=hb
 exact GD hS hi b hb
theorem qN {s:aw} {l:List ah} (hF:iv l):(di s l).length<=1000:=by
 have:=tU s l l.length
 have:=hF.zX
 rw[di];omega
theorem IJ {bs:List PB} {e:Nat} (h:e<bs.length):cG bs e∈bs:=by
 rw[cG,List.getD_eq_getElem?_getD,List.getElem?_eq_getElem h];exact List.getElem_mem h
theorem Hb {n:Nat} {bs:List PB} {t:Int} (h:n<2):lv n bs t:=fun S h0 ⟨y,hy,hf⟩=>by
 have:y=0:=ae
 subst this;rw[h0]at hf;cases hf
def jc (s:aw) (l:List ah) (t:Int):Nat:=(leads l.length (eR (aQ t (di s l)))).length
noncomputable def oB (s:aw) (l:List ah) (t:Int):Bool:=@decide (pK l.length (di s l) t) (Classical.propDecidable _)
def ta (s:aw) (l:List ah) (t:Int):Int:=if 64<jc s l t then 4 else 0
theorem nB {s:aw} {l:List ah} {t:Int} {p:Prop} [Decidable p] (h:p↔pK l.length (di s l) t):decide p=oB s l t:=by
 letI:=Classical.propDecidable (pK l.length (di s l) t)
 unfold oB
 by_cases hp:p
 ·rw[decide_eq_true hp];exact(decide_eq_true (h.1 hp)).symm
 ·rw[decide_eq_false hp];exact(decide_eq_false fun k=>hp (h.2 k)).symm
theorem CB (s:aw) (l:List ah) (t:Int) (hS:mV s) (hA:qJ s l):ak Tryz.prog 146 [.dq (ad s),.dq [.sl (l.map ab)],.int .i64 t] (.iJ [.bool (oB s l t),.int .i64 (ta s l t)]):=by
 refine ak.body eM rfl fun hl n0=>?_
 clear hl
 have hb:=yF (l:=l) hS
 have ke:=qN (s:=s) hA.1
 have Ah:=hA.1.zX
 have Bd:=EK s l hS.form hA
 have Ly:=CA l.length ae (di s l) (fun b h=>⟨(hb b h).1,(hb b h).2.1⟩) ae t
 have hL:=ui (aQ t (di s l))
 have fB:=Fb hL (fun b h=>⟨(hb b h).1,(hb b h).2.1⟩)
 have hlen:=(nX (eR (aQ t (di s l))) (di s l)).2
 have mc:=kj l.length (eR (aQ t (di s l)))
 have fh:(l.map ab).length=l.length:=by simp
 by_cases uG:(64:Int)<(jc s l t:Int)
 ·have uH:64<jc s l t:=ae
  have hd:oB s l t=false:=(nB (p:=False) ⟨False.elim,fun h=>by have:=h.1;unfold jc at uH;omega⟩).symm.trans (by simp)
  rw[jc]at uG
  (repeat(first|((repeat(revert hN;revert N;apply Pn.out));refine wk (tw @ad.eq_1 (tw @uG @fh)) ?_;(repeat(refine Pn.mk ?_;intro N hN)))|((try apply Or.inl);refine⟨_,ak.x (Bd) (sd (tw @ad.eq_1 (tw @uG @fh))),?_⟩;refine hN _ _ ?_;clear hN N)|((try apply Or.inl);refine⟨_,ak.x (Ly) (sd (tw @ad.eq_1 (tw @uG @fh))),?_⟩;refine hN _ _ ?_;clear hN N)))
  exact j0 (.inl rfl) (r1:=.bool false) (r2:=.int .i64 4) (sd @Nat.zero_add) (sd @Nat.zero_add) (by rw[hd,ta,if_pos uH];simp only[eV,aI,aW,fH,dw,Option.map_some])
 have uH:¬64<jc s l t:=ae
 have hf:ta s l t=0:=by rw[ta,if_neg uH]
 by_cases h2:(jc s l t:Int)<2
 ·have hd:oB s l t=true:=(nB (p:=True) ⟨fun _=>⟨by unfold jc at uH;omega,Hb (by unfold jc at h2;omega)⟩,fun _=>trivial⟩).symm.trans (by simp)
  rw[jc]at uG h2
  (repeat(first|((repeat(revert hN;revert N;apply Pn.out));refine wk (tw @ad.eq_1 (tw @uG (tw @h2 @fh))) ?_;(repeat(refine Pn.mk ?_;intro N hN)))|((try apply Or.inl);refine⟨_,ak.x (Bd) (sd (tw @ad.eq_1 (tw @uG (tw @h2 @fh)))),?_⟩;refine hN _ _ ?_;clear hN N)|((try apply Or.inl);refine⟨_,ak.x (Ly) (sd (tw @ad.eq_1 (tw @uG (tw @h2 @fh)))),?_⟩;refine hN _ _ ?_;clear hN N)))
  exact j0 (.inl rfl) (r1:=.bool true) (r2:=.int .i64 0) (sd @Nat.zero_add) (sd @Nat.zero_add) (by rw[hd,hf];simp only[eV,aI,aW,fH,dw,Option.map_some])
 have MG:=Ar (jc s l t) ae (by unfold jc;omega) (ft (eR (aQ t (di s l))) (di s l)) (fun e he=>by have:=fB _ (IJ he);exact⟨this.1,this.2.1,this.2.2.1⟩) ae (fun e he=>by
  obtain⟨_,_,_,c,hc,dy⟩:=fB _ (IJ he)
  rw[dy];have:=hb c hc;omega)
 rw[jc]at uG h2 MG
 (repeat(first|((repeat(revert hN;revert N;apply Pn.out));refine wk (tw @ad.eq_1 (tw @uG (tw @h2 @fh))) ?_;(repeat(refine Pn.mk ?_;intro N hN)))|((try apply Or.inl);refine⟨_,ak.x (Bd) (sd (tw @ad.eq_1 (tw @uG (tw @h2 @fh)))),?_⟩;refine hN _ _ ?_;clear hN N)|((try apply Or.inl);refine⟨_,ak.x (Ly) (sd (tw @ad.eq_1 (tw @uG (tw @h2 @fh)))),?_⟩;refine hN _ _ ?_;clear hN N)))
 refine .inr (aU _ _ _ _ _ (fun r σ1 hq=>?_) (MG.x mixed))
 obtain⟨⟨jP,p,rfl,Sv⟩,rfl⟩:=hq
 refine hN _ _ ?_
 clear hN N
 (try((repeat(revert hN;revert N;apply Pn.out));refine wk @Nat.zero_add ?_;(repeat(refine Pn.mk ?_;intro N hN))))
 exact j0 (.inl rfl) (r1:=.bool (decide (t<=jP))) (r2:=.int .i64 0) (sd @Nat.zero_add) (sd @Nat.zero_add) (by
  rw[hf,nB (s:=s) (l:=l) (t:=t) (p:=t<=jP) ((Sv t).trans (Ew.trans ⟨fun h=>⟨by unfold jc at uH;omega,h⟩,fun h=>h.2⟩))]
  simp only[eV,aI,aW,fH,dw,Option.map_some])
theorem tA (t:Int):ak Tryz.prog 65 [.int .i64 t] (.bool (iw t 1 16)):=by
 refine ak.body eM rfl fun hl n0=>?_
 clear hl
 have h:=lj t 1 16
 (repeat(first|((repeat(revert hN;revert N;apply Pn.out));refine wk @Nat.zero_add ?_;(repeat(refine Pn.mk ?_;intro N hN)))|((try apply Or.inl);refine⟨_,ak.x (h) (sd @Nat.zero_add),?_⟩;refine hN _ _ ?_;clear hN N)))
 exact aZ (b:=iw t 1 16) (.inl rfl) (sd @Nat.zero_add) rfl
structure IG (s:cj):Prop where
 set:mV s.aC
 Nq:qJ s.aC s.cq.aj
 some:1<=s.cq.aj.length
 Nx:iw s.au 1 16=true
 holds:pK s.cq.aj.length (di s.aC s.cq.aj) s.au
noncomputable def n9 (s:cj):Bool:=@decide (IG s) (Classical.propDecidable _)
theorem xo {s:cj}:n9 s=true↔IG s:=by simp[n9]
theorem kE {s:cj} (h:¬IG s):false=n9 s:=by simp[n9,h]
theorem C8 {s:cj} (h:IG s):true=n9 s:=by simp[n9,h]
theorem qb {s:aw} {l:List ah} {t:Int}:oB s l t=true↔pK l.length (di s l) t:=by simp[oB]
theorem MR (s:cj) (hn:gy s.aC) (hg:s.aC.az.length<=1048576) (ht:s.aC.aj.length<=1048576):ak Tryz.prog 94 [.dq (aA s)] (.bool (n9 s)):=by
 refine ak.body eM rfl fun hl n0=>?_
 clear hl
 have h1:=(MP s.aC hn hg ht).cut mixed (.ptr _ [.sl (s.cq.aj.map ab),.int .i64 s.au] .nil)
 by_cases hS:mV s.aC
 ·rw[nA.2 hS]at h1
  have h2:=(F5 s.aC s.cq.aj).cut mixed (.ptr _ [.sl (s.cq.aj.map ab),.int .i64 s.au] (.ptr _ [.int .i64 s.au] .nil))
  by_cases hA:qJ s.aC s.cq.aj
  ·rw[mW.2 hA]at h2
   by_cases h0:(s.cq.aj.length:Int)=0
   ·have hd:decide ((s.cq.aj.length:Int)=0)=true:=decide_eq_true h0
    have jA:false=n9 s:=kE fun h=>by have:=h.some;omega
    generalize fh:(s.cq.aj.map ab).length=len at *
    (repeat(first|((repeat(revert hN;revert N;apply Pn.out));refine wk (tw @aA.eq_1 (tw @ad.eq_1 @hd)) ?_;(repeat(refine Pn.mk ?_;intro N hN)))|((try apply Or.inl);refine⟨_,ak.x (h1) (sd (tw @aA.eq_1 (tw @ad.eq_1 @hd))),?_⟩;refine hN _ _ ?_;clear hN N)|((try apply Or.inl);refine⟨_,ak.x (h2) (sd (tw @aA.eq_1 (tw @ad.eq_1 @hd))),?_⟩;refine hN _ _ ?_;clear hN N)))
    exact aZ (b:=false) (.inl rfl) (sd @Nat.zero_add) jA
   ·have hd:decide ((s.cq.aj.length:Int)=0)=false:=decide_eq_false h0
    have h3:=tA s.au
    cases hT:iw s.au 1 16
    ·rw[hT]at h3
     (repeat(first|((repeat(revert hN;revert N;apply Pn.out));refine wk (tw @aA.eq_1 (tw @ad.eq_1 @hd)) ?_;(repeat(refine Pn.mk ?_;intro N hN)))|((try apply Or.inl);refine⟨_,ak.x (h1) (sd (tw @aA.eq_1 (tw @ad.eq_1 @hd))),?_⟩;refine hN _ _ ?_;clear hN N)|((try apply Or.inl);refine⟨_,ak.x (h2) (sd (tw @aA.eq_1 (tw @ad.eq_1 @hd))),?_⟩;refine hN _ _ ?_;clear hN N)|((try apply Or.inl);refine⟨_,ak.x (h3) (sd (tw @aA.eq_1 (tw @ad.eq_1 @hd))),?_⟩;refine hN _ _ ?_;clear hN N)))
     exact aZ (b:=false) (.inl rfl) (sd @Nat.zero_add) (kE fun h=>by have:=h.Nx;rw[hT]at this;cases this)
    ·rw[hT]at h3
     have h4:=(CB s.aC s.cq.aj s.au hS hA).cut mixed (.ptr _ [.sl (s.cq.aj.map ab),.int .i64 s.au] (.ptr _ [.int .i64 s.au] (.same _ .nil)))
     cases hB:oB s.aC s.cq.aj s.au
     ·rw[hB]at h4
      (repeat(first|((repeat(revert hN;revert N;apply Pn.out));refine wk (tw @aA.eq_1 (tw @ad.eq_1 @hd)) ?_;(repeat(refine Pn.mk ?_;intro N hN)))|((try apply Or.inl);refine⟨_,ak.x (h1) (sd (tw @aA.eq_1 (tw @ad.eq_1 @hd))),?_⟩;refine hN _ _ ?_;clear hN N)|((try apply Or.inl);refine⟨_,ak.x (h2) (sd (tw @aA.eq_1 (tw @ad.eq_1 @hd))),?_⟩;refine hN _ _ ?_;clear hN N)|((try apply Or.inl);refine⟨_,ak.x (h3) (sd (tw @aA.eq_1 (tw @ad.eq_1 @hd))),?_⟩;refine hN _ _ ?_;clear hN N)|((try apply Or.inl);refine⟨_,ak.x (h4) (sd (tw @aA.eq_1 (tw @ad.eq_1 @hd))),?_⟩;refine hN _ _ ?_;clear hN N)))
      exact aZ (b:=false) (.inl rfl) (sd @Nat.zero_add) (kE fun h=>by have:=qb.2 h.holds;rw[hB]at this;cases this)
     ·have hP:=qb.1 hB
      have hf:ta s.aC s.cq.aj s.au=0:=by
       have:=hP.1
       rw[ta,if_neg (by unfold jc;omega)]
      rw[hB,hf]at h4
      (repeat(first|((repeat(revert hN;revert N;apply Pn.out));refine wk (tw @aA.eq_1 (tw @ad.eq_1 @hd)) ?_;(repeat(refine Pn.mk ?_;intro N hN)))|((try apply Or.inl);refine⟨_,ak.x (h1) (sd (tw @aA.eq_1 (tw @ad.eq_1 @hd))),?_⟩;refine hN _ _ ?_;clear hN N)|((try apply Or.inl);refine⟨_,ak.x (h2) (sd (tw @aA.eq_1 (tw @ad.eq_1 @hd))),?_⟩;refine hN _ _ ?_;clear hN N)|((try apply Or.inl);refine⟨_,ak.x (h3) (sd (tw @aA.eq_1 (tw @ad.eq_1 @hd))),?_⟩;refine hN _ _ ?_;clear hN N)|((try apply Or.inl);refine⟨_,ak.x (h4) (sd (tw @aA.eq_1 (tw @ad.eq_1 @hd))),?_⟩;refine hN _ _ ?_;clear hN N)))
      exact aZ (b:=true) (.inl rfl) (sd @Nat.zero_add) (C8 ⟨hS,hA,ae,hT,hP⟩)
  ·have hb:qh s.aC s.cq.aj=false:=Bool.eq_false_iff.2 fun h=>hA (mW.1 h)
   rw[hb]at h2
   (repeat(first|((repeat(revert hN;revert N;apply Pn.out));refine wk (tw @aA.eq_1 @ad.eq_1) ?_;(repeat(refine Pn.mk ?_;intro N hN)))|((try apply Or.inl);refine⟨_,ak.x (h1) (sd (tw @aA.eq_1 @ad.eq_1)),?_⟩;refine hN _ _ ?_;clear hN N)|((try apply Or.inl);refine⟨_,ak.x (h2) (sd (tw @aA.eq_1 @ad.eq_1)),?_⟩;refine hN _ _ ?_;clear hN N)))
   exact aZ (b:=false) (.inl rfl) (sd @Nat.zero_add) (kE fun h=>hA h.Nq)
 ·have hb:rD s.aC=false:=Bool.eq_false_iff.2 fun h=>hS (nA.1 h)
  rw[hb]at h1
  (repeat(first|((repeat(revert hN;revert N;apply Pn.out));refine wk (tw @aA.eq_1 @ad.eq_1) ?_;(repeat(refine Pn.mk ?_;intro N hN)))|((try apply Or.inl);refine⟨_,ak.x (h1) (sd (tw @aA.eq_1 @ad.eq_1)),?_⟩;refine hN _ _ ?_;clear hN N)))
  exact aZ (b:=false) (.inl rfl) (sd @Nat.zero_add) (kE fun h=>hS h.set)
def BA (s:aw) (f:aq->Int) (p:aq) (t:Int):Nat->Int
 |0=>0
 |d+1=>BA s f p t d+if 0<=f (dt p d)then jG s t d (f (dt p d))else 0
def RJ (s:aw) (f:aq->Int) (p:aq) (t:Int):Int:=BA s f p t 4
theorem rP {s:aw} {l:List ah} (hA:qJ s l) {p:aq} (h:0<=oY l p):gR s (oY l p)=true:=by
 unfold oY at h ⊢
 split at h
 ·rename_i h0
  rw[if_pos h0]
  exact hA.2 _ (jY (mh h0).1)
 ·omega
noncomputable def rO (s:cj) (l:List ah):Bool:=n9 s&&qh s.aC l
theorem EL (s:cj) (l:List ah) (hn:gy s.aC) (hg:s.aC.az.length<=1048576) (ht:s.aC.aj.length<=1048576):ak Tryz.prog 46 [.dq (aA s),.dq [.sl (l.map ab)]] (.int .i64 (if rO s l then 0 else 1)):=by
 refine ak.body eM rfl fun hl n0=>?_
 clear hl
 have h1:=MR s hn hg ht
 have h2:=(F5 s.aC l).cut mixed (.ptr _ [.sl (s.cq.aj.map ab),.int .i64 s.au] (.same _ .nil))
 cases b1:n9 s
 ·rw[b1]at h1
  (repeat(first|((repeat(revert hN;revert N;apply Pn.out));refine wk @Nat.zero_add ?_;(repeat(refine Pn.mk ?_;intro N hN)))|((try apply Or.inl);refine⟨_,ak.x (h1) (sd @Nat.zero_add),?_⟩;refine hN _ _ ?_;clear hN N)))
  exact cu (b:=1) (.inl rfl) (sd @Nat.zero_add) (by rw[rO,b1];rfl)
 rw[b1]at h1
 rw[aA]at h1 ⊢
 cases b2:qh s.aC l
 ·rw[b2]at h2
  (repeat(first|((repeat(revert hN;revert N;apply Pn.out));refine wk @ad.eq_1 ?_;(repeat(refine Pn.mk ?_;intro N hN)))|((try apply Or.inl);refine⟨_,ak.x (h1) (sd @ad.eq_1),?_⟩;refine hN _ _ ?_;clear hN N)|((try apply Or.inl);refine⟨_,ak.x (h2) (sd @ad.eq_1),?_⟩;refine hN _ _ ?_;clear hN N)))
  exact cu (b:=1) (.inl rfl) (sd @Nat.zero_add) (by rw[rO,b1,b2];rfl)
 ·rw[b2]at h2
  (repeat(first|((repeat(revert hN;revert N;apply Pn.out));refine wk @ad.eq_1 ?_;(repeat(refine Pn.mk ?_;intro N hN)))|((try apply Or.inl);refine⟨_,ak.x (h1) (sd @ad.eq_1),?_⟩;refine hN _ _ ?_;clear hN N)|((try apply Or.inl);refine⟨_,ak.x (h2) (sd @ad.eq_1),?_⟩;refine hN _ _ ?_;clear hN N)))
  exact cu (b:=0) (.inl rfl) (sd @Nat.zero_add) (by rw[rO,b1,b2];rfl)
theorem Bu {s:cj} {l:List ah}:rO s l=true↔IG s/\qJ s.aC l:=by simp[rO,xo,mW]
abbrev mP:MK:=⟨true,[.tI,.tI]⟩
structure Cry (g:Rows) (n:Nat) (c T O:Id) (s:cj) (ts:List ah):Prop where
 row:∃b,g c=some ⟨b,6,[[.sl (s.aC.az.map bI),.sl (s.aC.aj.map bm),.sl (s.cq.aj.map ab),.int .i64 s.au,.map T mP,.map O mP]]⟩
 tl:∃b,g T=some ⟨b,mP.AM,ts.map ab⟩
 cv:c.cC<n
 tv:T.cC<n
 ov:O.cC<n
noncomputable def Pf (s:cj) (ts:List ah) (p:aq) (t:Int):Bool:=AI p&&decide (oY ts p<0)&&decide (s.au<=RJ s.aC (oY ts) p t)
def OW (rows:List (List AV)):Prop:=∀r∈rows,∃(x y:Int) (v:AV),r=[.int .i64 x,.int .i64 y,v]
def LookK (σ:ax) (O:Id) (g:Rows) (n:Nat):Prop:=σ.next<=n/\(∀x:Id,x.cC<σ.next->x≠O->g x=σ.get x)/\∃rows,g O=some ⟨true,mP.AM,rows⟩/\OW rows
structure CryO (g:Rows) (n:Nat) (c T O:Id) (s:cj) (ts:List ah):Prop where
 row:g c=some ⟨true,6,[[.sl (s.aC.az.map bI),.sl (s.aC.aj.map bm),.sl (s.cq.aj.map ab),.int .i64 s.au,.map T mP,.map O mP]]⟩
 tl:g T=some ⟨true,mP.AM,ts.map ab⟩
 op:∃rows,g O=some ⟨true,mP.AM,rows⟩/\OW rows
 cv:c.cC<n
 tv:T.cC<n
 ov:O.cC<n
 cT:c≠T
 cO:c≠O
 TO:T≠O
theorem JT {l:List ah} {p:aq}:fD l p<0↔∀t∈l,t.bw≠p:=by
 unfold fD EF
 by_cases h:(l.findIdx fun c=>decide (c.bw=p))<l.length
 ·rw[if_pos h]
  obtain⟨t,ht,h2⟩:=List.findIdx_lt_length.1 h
  exact⟨fun h=>ae,fun h=>absurd (by simpa using h2) (h t ht)⟩
 ·rw[if_neg h]
  exact⟨fun _ t ht e=>h (List.findIdx_lt_length.2 ⟨t,ht,by simp[e]⟩),fun _=>ae⟩
end Go.Proofs.YtkbipfflibjfbaaGreat.V

namespace Go.Proofs.YtkbipfflibjfbaaGreat.V
open Go.RowKit
def AJ:List ah->ah->List ah
 |[],q=>[q]
 |x::r,q=>if k8 q.bw x.bw=true then q::x::r else x::AJ r q
theorem CJ {q x:ah}:∀{l:List ah},x∈AJ l q↔x=q∨x∈l
 |[]=>by simp[AJ]
 |y::r=>by
  have ih:=@CJ q x r
  rw[AJ]
  split
  ·simp
  ·simp only[List.mem_cons,ih]
   constructor
   ·rintro(h|h|h)<;>simp[h]
   ·rintro(h|h|h)<;>simp[h]
theorem Kq (q:ah):∀l:List ah,(AJ l q).length=l.length+1
 |[]=>rfl
 |y::r=>by
  have ih:=Kq q r
  rw[AJ]
  split
  ·simp
  ·simp[ih]
theorem xf {l:List ah}:qL l↔l.Pairwise fun a b=>k8 a.bw b.bw=true:=by
 rw[List.pairwise_iff_getElem]
 constructor
 ·intro h i j hi hj y4
  have:=h i j y4 hj
  rwa [fP hi,fP hj]at this
 ·intro h i j y4 hj
  have:=h i j ae hj y4
  rwa [fP ae,fP hj]
theorem MJ {l:List ah} {p:aq}:fD l p<0↔∀t∈l,t.bw≠p:=JT
theorem Tt {q:ah}:∀{l:List ah},qL l->fD l q.bw<0->qL (AJ l q):=by
 intro l
 rw[xf,xf,MJ]
 induction l with
 |nil=>intro _ _;exact List.pairwise_singleton _ _
 |cons y r ih=>
  intro h hn
  obtain⟨h1,h2⟩:=List.pairwise_cons.1 h
  rw[AJ]
  split
  ·rename_i hl
   refine List.pairwise_cons.2 ⟨fun x hx=>?_,h⟩
   rcases List.mem_cons.1 hx with rfl|hx
   ·exact hl
   ·exact iD hl (h1 x hx)
  ·rename_i hl
   rw[Bool.not_eq_true]at hl
   refine List.pairwise_cons.2 ⟨fun x hx=>?_,ih h2 fun t ht=>hn t (by simp[ht])⟩
   rcases CJ.1 hx with rfl|hx
   ·exact vg hl fun e=>hn y (by simp) e.symm
   ·exact h1 x hx
theorem HD {α:Type} [DecidableEq α]:∀{xs ys:List α},xs.Nodup->(∀x∈xs,x∈ys)->xs.length<=ys.length
 |[],_,_,_=>Nat.zero_le _
 |x::xs,ys,hn,h=>by
  obtain⟨h1,h2⟩:=List.nodup_cons.1 hn
  have hx:=h x (by simp)
  have:=@HD α _ xs (ys.erase x) h2 fun y hy=>(List.mem_erase_of_ne fun e=>h1 (by rw[<-e];exact hy)).2 (h y (by simp[hy]))
  rw[List.length_erase_of_mem hx]at this
  have:=List.length_pos_of_mem hx
  rw[List.length_cons];omega
theorem RA {l:List ah} (h:qL l):l.Nodup:=by
 rw[xf]at h
 refine List.Pairwise.imp (fun {a b} rZ e=>?_) h
 rw[e,pU]at rZ;cases rZ
abbrev OE:=List ah×List ah
noncomputable def UC (s:cj) (st:OE) (x:ah):OE:=if Pf s st.2 x.bw x.bY=true then(st.1++[x],AJ st.2 x)else st
structure InsI (s:cj) (l:List ah) (st:OE):Prop where
 Qn:qL st.2
 sub:∀x∈st.2,x∈l
 done:∀x∈st.1,x∈l
 len:st.2.length=s.cq.aj.length+st.1.length
theorem R5 {s:cj} {l:List ah} (hA:qJ s.aC l) {now:List ah} (hs:∀x∈now,x∈l) {p:aq} {t:Int} (h:Pf s now p t=true):fD now p<0:=by
 rcases Int.lt_or_le (fD now p) 0 with h0|h0
 ·exact h0
 ·exfalso
  obtain⟨h1,_⟩:=mh h0
  have h2:=(dX (hA.2 _ (hs _ (jY h1)))).1
  simp[Pf,oY,h0]at h
  omega
structure SysW (s:cj):Prop where
 set:mV s.aC
 Nq:qJ s.aC s.cq.aj
 some:1<=s.cq.aj.length
 Nx:iw s.au 1 16=true
end Go.Proofs.YtkbipfflibjfbaaGreat.V

namespace Go.Proofs.YtkbipfflibjfbaaGreat.V
open Go.RowKit
attribute [local irreducible] ef wpOps gN Call
attribute [local go_sem] aH fJ eW fZ gh dh upd cD K.av cP AV.cells AV.cell rowOf rowsOf part ld rowAt bU cw dI ek iq bL de eD gj fq dx ew db da dW dY bR bd cU bQ cW cV er ez eu cR bV dc eo bP aL cY cI im br cH bz bc dB bo dF AV.undef bx bE dZ ej dV ec cJ eC eE cF eB eA cX cZ List.getD_cons_zero List.getD_cons_succ List.getD_nil List.all_cons List.all_nil Bool.and_true Bool.true_and Bool.and_self Bool.not_true Bool.not_false Option.map_some Option.map_none Option.bind_some Option.bind_none List.length_cons List.length_nil List.take_succ_cons List.take_zero List.take_nil List.drop_succ_cons List.drop_zero List.drop_nil List.head?_cons List.map_cons List.map_nil List.getElem?_cons_zero List.getElem?_cons_succ List.cons_append List.nil_append List.append_nil List.length_map List.set_cons_zero List.set_cons_succ Nat.reduceMul eq_self Int.toNat_natCast Int.natCast_nonneg and_self true_and and_true decide_true decide_false Bool.false_eq_true Nat.zero_add Nat.add_zero List.contains_cons List.contains_nil Bool.or_false Bool.false_or beq_self_eq_true Nat.reduceBEq ne_eq not_true_eq_false not_false_eq_true Id.mk.injEq false_and and_false Nat.reduceLT Int.reduceLE Int.reduceLT Int.reduceToNat Int.reduceNeg Int.reduceAdd Nat.le_refl List.length_append beq_true beq_false Bool.not_eq_eq_eq_not or_false false_or dM ai ao aD bt cz aY bj aV bf cL bJ
theorem four {k:Int} (h1:1<=k) (h4:k<=4):k=1∨k=2∨k=3∨k=4:=ae
theorem I7 {a k:Int} (h1:1<=k) (h4:k<=4) (h0:a<0):0-((0-a+k-1) / k)=a / k:=by
 rcases four h1 h4 with rfl|rfl|rfl|rfl<;>omega
theorem ni {a k:Int} (h1:1<=k) (h4:k<=4) (ha: -1000000<=a) (hb:a<=1000000): -1000000<=a / k/\a / k<=1000000:=by
 rcases four h1 h4 with rfl|rfl|rfl|rfl<;>omega
theorem KR {a k:Int} (h1:1<=k) (h4:k<=4) (h0:0<=a):a.tmod k=a-k*(a / k):=by
 rw[Int.tmod_eq_emod_of_nonneg h0]
 rcases four h1 h4 with rfl|rfl|rfl|rfl<;>omega
theorem wL (a k:Int) (h1:1<=k) (h4:k<=4) (ha: -1000000<=a) (hb:a<=1000000):ak Tryz.prog 171 [.int .i64 a,.int .i64 k] (.iJ [.int .i64 (a / k),.int .i64 (a-k*(a / k))]):=by
 refine ak.body eM rfl fun hl n0=>?_
 clear hl
 have tk:¬k=0:=ae
 have hB:=ni h1 h4 ha hb
 by_cases h0:a<0
 ·obtain⟨b,rfl⟩:∃b:Int,a= -b:=⟨-a,ae⟩
  have hd:(-b).tdiv k= -(b / k):=by rw[Int.neg_tdiv,Int.tdiv_eq_ediv_of_nonneg ae]
  have hr:(-b).tmod k= -(b-k*(b / k)):=by rw[Int.neg_tmod,KR h1 h4 ae]
  have Bd:=ni (a:=b) h1 h4 ae ae
  have hmd:0<=b-k*(b / k)/\b-k*(b / k)<k:=by rcases four h1 h4 with rfl|rfl|rfl|rfl<;>omega
  have NY:b-k*(b / k)=0/\(-b) / k= -(b / k)/\-b-k*((-b) / k)=0∨0<b-k*(b / k)/\(-b) / k= -(b / k)-1/\-b-k*((-b) / k)= -(b-k*(b / k))+k:=by
   rcases four h1 h4 with rfl|rfl|rfl|rfl<;>omega
  generalize b-k*(b / k)=r at *
  generalize -b-k*((-b) / k)=r2 at *
  generalize (-b) / k=q2 at *
  generalize b / k=q at *
  have w1:IntKind.i64.wrap (-q)= -q:=aJ ae
  have w2:IntKind.i64.wrap (-r)= -r:=aJ ae
  rcases NY with⟨e1,e2,e3⟩|⟨e1,e2,e3⟩
  ·have hn:¬ -r<0:=ae
   (try((repeat(revert hN;revert N;apply Pn.out));refine wk (tw @tk (tw @hd (tw @hr (tw @w1 (tw @w2 @hn))))) ?_;(repeat(refine Pn.mk ?_;intro N hN))))
   exact gZ (.inl rfl) (vs:=[.int .i64 (-q),.int .i64 (-r)]) (sd @Nat.zero_add) (by rw[e2,e3,e1];simp only[eJ,eV,aI,aW,dw,Option.map_some];rfl)
  ·have hn: -r<0:=ae
   have w3:IntKind.i64.wrap (-q-1)= -q-1:=aJ ae
   have w4:IntKind.i64.wrap (-r+k)= -r+k:=aJ ae
   (try((repeat(revert hN;revert N;apply Pn.out));refine wk (tw @tk (tw @hd (tw @hr (tw @w1 (tw @w2 (tw @hn (tw @w3 @w4))))))) ?_;(repeat(refine Pn.mk ?_;intro N hN))))
   exact gZ (.inl rfl) (vs:=[.int .i64 (-q-1),.int .i64 (-r+k)]) (sd @Nat.zero_add) (by rw[e2,e3];simp only[eJ,eV,aI,aW,dw,Option.map_some])
 ·have hd:a.tdiv k=a / k:=Int.tdiv_eq_ediv_of_nonneg ae
  have hr:=KR h1 h4 (a:=a) ae
  have hmd:0<=a-k*(a / k)/\a-k*(a / k)<k:=by rcases four h1 h4 with rfl|rfl|rfl|rfl<;>omega
  generalize a-k*(a / k)=r at *
  have w1:IntKind.i64.wrap (a / k)=a / k:=aJ ae
  have w2:IntKind.i64.wrap r=r:=aJ ae
  have hn:¬r<0:=ae
  (try((repeat(revert hN;revert N;apply Pn.out));refine wk (tw @tk (tw @hd (tw @hr (tw @w1 (tw @w2 @hn))))) ?_;(repeat(refine Pn.mk ?_;intro N hN))))
  exact gZ (.inl rfl) (vs:=[.int .i64 (a / k),.int .i64 r]) (sd @Nat.zero_add) (by simp only[eJ,eV,aI,aW,dw,Option.map_some])
def nH (p:aq) (k:Int):aq:=⟨p.dQ / k,p.dH / k⟩
def O0 (p:aq) (k:Int):aq:=⟨p.dQ-k*(p.dQ / k),p.dH-k*(p.dH / k)⟩
theorem EM (p:aq) (k:Int) (h1:1<=k) (h4:k<=4) (hx: -1000000<=p.dQ/\p.dQ<=1000000) (hy: -1000000<=p.dH/\p.dH<=1000000):ak Tryz.prog 147 [.agg (aa p),.int .i64 k] (.iJ [.agg (aa (nH p k)),.agg (aa (O0 p k))]):=by
 refine ak.body eM rfl fun hl n0=>?_
 clear hl
 have e1:=wL p.dQ k h1 h4 hx.1 hx.2
 have e2:=wL p.dH k h1 h4 hy.1 hy.2
 (repeat(first|((repeat(revert hN;revert N;apply Pn.out));refine wk @aa.eq_1 ?_;(repeat(refine Pn.mk ?_;intro N hN)))|((try apply Or.inl);refine⟨_,ak.x (e1) (sd @aa.eq_1),?_⟩;refine hN _ _ ?_;clear hN N)|((try apply Or.inl);refine⟨_,ak.x (e2) (sd @aa.eq_1),?_⟩;refine hN _ _ ?_;clear hN N)))
 exact gZ (.inl rfl) (vs:=[.agg [.int .i64 (p.dQ / k),.int .i64 (p.dH / k)],.agg [.int .i64 (p.dQ-k*(p.dQ / k)),.int .i64 (p.dH-k*(p.dH / k))]]) (sd @Nat.zero_add) (by simp only[eJ,eV,jR,aI,aW,dw,Option.map_some];rfl)
def iu (ps:List aq) (i:Nat):aq:=ps.getD i ⟨0,0⟩
theorem jC {ps:List aq} {i:Nat} (h:i<ps.length):iu ps i=ps[i]:=by simp[iu,List.getD_eq_getElem?_getD,h]
theorem vk {ps:List aq} {i:Nat} (h:i<ps.length):iu ps i∈ps:=by rw[jC h];exact List.getElem_mem h
theorem sq {ps:List aq} {i:Nat} (h:i<ps.length):(ps.map aa)[i]? =some (aa (iu ps i)):=by simp[iu,List.getD_eq_getElem?_getD,h]
def uC (ps:List aq):Prop:=ps.Pairwise fun a b=>k8 a b=true
theorem uC.at_ {ps:List aq} (h:uC ps) {i j:Nat} (y4:i<j) (hj:j<ps.length):k8 (iu ps i) (iu ps j)=true:=by
 rw[jC hj,jC ae]
 exact List.pairwise_iff_getElem.1 h i j ae hj y4
def km (ps:List aq) (p:aq):Nat:=ps.findIdx fun q=> !k8 q p
theorem Az (ps:List aq) (p:aq):km ps p<=ps.length:=List.findIdx_le_length
theorem F6 {ps:List aq} {p:aq} {x:Nat} (h:x<km ps p):k8 (iu ps x) p=true:=by
 have hx:x<ps.length:=Nat.lt_of_lt_of_le h (Az ps p)
 have:=List.not_of_lt_findIdx h
 rw[jC hx]
 simpa using this
theorem Ay {ps:List aq} {p:aq} (hR:uC ps) {x:Nat} (h:km ps p<=x) (hx:x<ps.length):k8 (iu ps x) p=false:=by
 have h0:km ps p<ps.length:=ae
 have h1:k8 (iu ps (km ps p)) p=false:=by
  have:=List.findIdx_getElem (p:=fun q=> !k8 q p) (xs:=ps) (w:=h0)
  rw[jC h0]
  have e:(!k8 ps[km ps p] p)=true:=this
  simpa using e
 by_cases he:km ps p=x
 ·rw[<-he];exact h1
 ·have h2:=hR.at_ (show km ps p<x by omega) hx
  cases hc:k8 (iu ps x) p
  ·rfl
  ·rw[iD h2 hc]at h1;cases h1
def qu (ps:List aq) (p:aq):List aq:=if km ps p<ps.length/\iu ps (km ps p)=p then ps else ps.take (km ps p)++p::ps.drop (km ps p)
theorem Kr (ps:List aq) (p:aq):(qu ps p).length<=ps.length+1:=by
 unfold qu
 have:=Az ps p
 split
 ·omega
 ·simp;omega
theorem J8 (ps:List aq) (p x:aq):x∈qu ps p↔x=p∨x∈ps:=by
 unfold qu
 split
 ·rename_i h
  refine⟨.inr,fun hx=>hx.elim (fun e=>?_) id⟩
  rw[e,<-h.2];exact vk h.1
 ·have:x∈ps↔x∈ps.take (km ps p)++ps.drop (km ps p):=by rw[List.take_append_drop]
  rw[this]
  simp only[List.mem_append,List.mem_cons]
  constructor
  ·rintro(h|h|h)
   ·exact .inr (.inl h)
   ·exact .inl h
   ·exact .inr (.inr h)
  ·rintro(h|h|h)
   ·exact .inr (.inl h)
   ·exact .inl h
   ·exact .inr (.inr h)
theorem Kt {ps:List aq} (hR:uC ps) (p:aq):uC (qu ps p):=by
 unfold qu
 split
 ·exact hR
 ·rename_i jA
  have hd:∀x∈ps.drop (km ps p),k8 p x=true:=fun x hx=>by
   obtain⟨j,hj,rfl⟩:=List.getElem_of_mem hx
   rw[List.length_drop]at hj
   rw[List.getElem_drop]
   have gW:km ps p+j<ps.length:=ae
   have h1:=Ay (p:=p) hR (Nat.le_add_right _ j) gW
   rw[<-jC gW]
   refine vg h1 fun he=>?_
   by_cases h0:j=0
   ·subst h0
    exact jA ⟨ae,by simpa using he⟩
   ·have:=hR.at_ (show km ps p<km ps p+j by omega) gW
    rw[he]at this
    have h2:=Ay (p:=p) hR (Nat.le_refl _) (show km ps p<ps.length by omega)
    rw[this]at h2;cases h2
  have ht:∀x∈ps.take (km ps p),k8 x p=true:=fun x hx=>by
   obtain⟨j,hj,rfl⟩:=List.getElem_of_mem hx
   rw[List.length_take]at hj
   rw[List.getElem_take]
   have:=F6 (ps:=ps) (p:=p) (x:=j) ae
   rwa [jC ae]at this
  refine List.pairwise_append.2 ⟨hR.sublist (List.take_sublist _ _),List.pairwise_cons.2 ⟨hd,hR.sublist (List.drop_sublist _ _)⟩,fun x hx y hy=>?_⟩
  rcases List.mem_cons.1 hy with rfl|hy
  ·exact ht x hx
  ·exact iD (ht x hx) (hd y hy)
theorem Gd:∀{ps qs:List aq},uC ps->uC qs->(∀x,x∈ps↔x∈qs)->ps=qs
 |[],[],_,_,_=>rfl
 |[],q::qs,_,_,h=>absurd ((h q).2 (by simp)) (by simp)
 |p::ps,[],_,_,h=>absurd ((h p).1 (by simp)) (by simp)
 |p::ps,q::qs,hp,hq,h=>by
  obtain⟨p1,p2⟩:=List.pairwise_cons.1 hp
  obtain⟨q1,q2⟩:=List.pairwise_cons.1 hq
  have e:p=q:=by
   rcases List.mem_cons.1 ((h p).1 (by simp))with e|e
   ·exact e
   ·rcases List.mem_cons.1 ((h q).2 (by simp))with e'|e'
    ·exact e'.symm
    ·have:=J4 (q1 p e)
     rw[p1 q e']at this;cases this
  subst e
  congr 1
  refine Gd p2 q2 fun x=>⟨fun hx=>?_,fun hx=>?_⟩
  ·rcases List.mem_cons.1 ((h x).1 (List.mem_cons_of_mem _ hx))with e|e
   ·subst e;have:=p1 x hx;rw[pU]at this;cases this
   ·exact e
  ·rcases List.mem_cons.1 ((h x).2 (List.mem_cons_of_mem _ hx))with e|e
   ·subst e;have:=q1 x hx;rw[pU]at this;cases this
   ·exact e
def RF (σ:ax) (kp:Id->Prop) (ps:List aq) (r:AV) (σ':ax):Prop:=
 ∃o:Id,r=.own o 0 ps.length/\σ'.get o=some ⟨true,2,ps.map aa⟩/\σ.next<=σ'.next/\o.cC<σ'.next/\(σ.next<=o.cC∨¬kp o)/\∀x:Id,x.cC<σ.next->kp x->σ'.get x=σ.get x
theorem Ou {ps:List aq} {i:Nat} {q:aq}:(ps.map aa).set i (aa q)=(ps.set i q).map aa:=List.map_set.symm
def zA (ps:List aq) (p:aq) (i:Nat):List aq:=(ps++[p]).take (i+1)++ps.drop i
theorem qf (ps:List aq) (p:aq) {i:Nat} (h:i<=ps.length):(zA ps p i).length=ps.length+1:=by simp[zA];omega
theorem QB {ps:List aq} {p:aq} {i j:Nat} (hi:i<=ps.length) (hj:j<i):iu (zA ps p i) j=iu ps j:=by
 unfold iu zA
 rw[List.getD_eq_getElem?_getD,List.getD_eq_getElem?_getD,List.getElem?_append_left (by simp;omega),List.getElem?_take,if_pos ae,List.getElem?_append_left ae]
theorem H7 (ps:List aq) (p:aq):zA ps p ps.length=ps++[p]:=by
 unfold zA
 rw[List.drop_length,List.append_nil,List.take_of_length_le (by simp)]
theorem K1 {ps:List aq} {p:aq} {i:Nat} (hi:i<ps.length):(zA ps p (i+1)).set (i+1) (iu ps i)=zA ps p i:=by
 refine List.ext_getElem? fun j=>?_
 rw[List.getElem?_set,qf ps p ae]
 unfold zA
 by_cases hj:i+1=j
 ·subst hj
  rw[if_pos rfl,if_pos ae,List.getElem?_append_right (by simp;omega)]
  simp only[List.length_take,List.length_append,List.length_cons,List.length_nil]
  rw[show i+1-min (i+1) (ps.length+(0+1))=0 by omega,List.getElem?_drop,Nat.add_zero,List.getElem?_eq_getElem hi,jC hi]
 ·rw[if_neg hj]
  by_cases dO:j<i+1
  ·rw[List.getElem?_append_left (by simp;omega),List.getElem?_append_left (by simp;omega),List.getElem?_take,List.getElem?_take,if_pos ae,if_pos dO]
  ·rw[List.getElem?_append_right (by simp;omega),List.getElem?_append_right (by simp;omega)]
   simp only[List.length_take,List.length_append,List.length_cons,List.length_nil,List.getElem?_drop]
   congr 1
   omega
theorem NB {ps:List aq} {p:aq} {i:Nat} (hi:i<=ps.length):(zA ps p i).set i p=ps.take i++p::ps.drop i:=by
 refine List.ext_getElem? fun j=>?_
 rw[List.getElem?_set,qf ps p hi]
 unfold zA
 by_cases hj:i=j
 ·subst hj
  rw[if_pos rfl,if_pos ae,List.getElem?_append_right (by simp;omega)]
  simp[Nat.min_eq_left hi]
 ·rw[if_neg hj]
  by_cases dO:j<i
  ·rw[List.getElem?_append_left (by simp;omega),List.getElem?_append_left (by simp;omega),List.getElem?_take,List.getElem?_take,if_pos ae,if_pos dO,List.getElem?_append_left ae]
  ·rw[List.getElem?_append_right (by simp;omega),List.getElem?_append_right (by simp;omega)]
   simp only[List.length_take,List.length_append,List.length_cons,List.length_nil]
   rw[show j-min i ps.length=(j-i-1)+1 by omega,List.getElem?_cons_succ]
   congr 1
   omega
theorem ND {X:fm} {Q:Ex->Env->ax->Prop} {N:Env->ax->Prop} {c:VC} {env:Env} {σ:ax} {id:Nat} (I:Env->ax->Prop) (h2:∀e s,I e s->N e s) (h1:∀N':Env->ax->Prop,(∀e s,I e s->N' e s)->ef X c (bo id (dB N' Q)) env σ):ef X c (bo id (dB N Q)) env σ:=h1 N h2
theorem yd (ps:List aq) (hR:uC ps) (hlen:ps.length<=1048576) (p:aq) (o:Id) (σ:ax) (ho:σ.get o=some ⟨true,2,ps.map aa⟩) (r9:o.cC<σ.next):
  Call Tryz.prog 148 [.own o 0 ps.length,.agg (aa p)] σ (RF σ (fun x=>(x=o)=False) (qu ps p)):=by
 refine fj eM rfl fun wz=>?_
 clear wz
 have rh:=eX r9
 have Up:=Az ps p
 have Cf:(ps.map aa).length=ps.length:=by simp
 (try((repeat(revert hN;revert N;apply Pn.out));refine wk (tw @aa.eq_1 @rh) ?_;(repeat(refine Pn.mk ?_;intro N hN))))
 refine ND (fun e s=>e 5=.int .i64 (km ps p:Int)/\e 0=.own o 0 ps.length/\e 3=.ptr ⟨148000000,σ.next⟩ 0 0/\s.get ⟨148000000,σ.next⟩=some ⟨true,2,[aa p]⟩/\s.get o=some ⟨true,2,ps.map aa⟩/\σ.next<s.next/\∀x:Id,x.cC<σ.next->s.get x=σ.get x) ?_ ?_
 ·rintro e s ⟨f5,f0,f3,fg0,fg1,fn,ffr⟩
  refine hN _ _ ?_
  clear hN N
  have ME:=eX (i:=o) (n:=s.next) ae
  obtain⟨a,ha⟩:∃a,km ps p=a:=⟨_,rfl⟩
  rw[ha]at f5 Up
  by_cases hex:a<ps.length/\iu ps a=p
  ·have dO:(a:Int)<(ps.length:Int):=ae
   have hg:=sq hex.1
   have hx:decide ((iu ps a).dQ=p.dQ)=true:=decide_eq_true (by rw[hex.2])
   have hy:decide ((iu ps a).dH=p.dH)=true:=decide_eq_true (by rw[hex.2])
   (try((repeat(revert hN;revert N;apply Pn.out));refine wk (tw @f5 (tw @f0 (tw @f3 (tw @fg0 (tw @fg1 (tw @dO (tw @hg (tw @hx (tw @hy (tw @Cf @aa.eq_1)))))))))) ?_;(repeat(refine Pn.mk ?_;intro N hN))))
   have hp:qu ps p=ps:=by unfold qu;rw[ha,if_pos hex]
   rw[hp]
   exact gJ (.inl rfl) (vs:=[.own o 0 ps.length]) (sd @Nat.zero_add) ⟨o,rfl,sd @fg1,bW,bW,.inr (by simp),fun x hx _=>sd (ffr x hx)⟩
  refine Dk (fun N hN=>?_)
  refine Fx (fun e s=>e 5=.int .i64 (a:Int)/\e 0=.own o 0 ps.length/\e 3=.ptr ⟨148000000,σ.next⟩ 0 0/\s.get ⟨148000000,σ.next⟩=some ⟨true,2,[aa p]⟩/\s.get o=some ⟨true,2,ps.map aa⟩/\σ.next<s.next/\∀x:Id,x.cC<σ.next->s.get x=σ.get x) ?_ ?_
  ·clear f5 f0 f3 fg0 fg1 fn ffr ME
   rintro e s ⟨f5,f0,f3,fg0,fg1,fn,ffr⟩
   refine hN _ _ ?_
   clear hN N
   have ME:=eX (i:=o) (n:=s.next) ae
   have Rt:=eX (i:=⟨148000000,σ.next⟩) (n:=s.next) fn
   have e1:ps.length+1<=16777216:=ae
   have qo:ps.map aa++[[.int .i64 p.dQ,.int .i64 p.dH]]=(zA ps p ps.length).map aa:=by rw[H7];simp[aa]
   have pR:IntKind.i64.wrap ((ps.length:Int)+1-1)=(ps.length:Int):=by rw[aJ ae];omega
   have hp:qu ps p=ps.take a++p::ps.drop a:=by unfold qu;rw[ha,if_neg hex]
   have PR:((⟨148000000,σ.next⟩:Id)=o)=False:=by
    refine eq_false fun h=>?_
    rw[<-h]at r9;exact Nat.lt_irrefl _ r9
   (try((repeat(revert hN;revert N;apply Pn.out));refine wk (tw @f5 (tw @f0 (tw @f3 (tw @fg0 (tw @fg1 (tw @ME (tw @Rt (tw @PR (tw @Cf (tw @e1 (tw @qo (tw @pR (tw @Int.natCast_add (tw @Int.cast_ofNat_Int @aa.eq_1)))))))))))))) ?_;(repeat(refine Pn.mk ?_;intro N hN))))
   refine aT (fun m env st=>∃i:Nat,m=i/\a<=i/\i<=ps.length/\env 6=.int .i64 (i:Int)/\st.get ⟨148006003,s.next⟩=some ⟨true,2,(zA ps p i).map aa⟩/\st.get ⟨148000000,σ.next⟩=some ⟨true,2,[aa p]⟩/\s.next<st.next/\∀x:Id,x.cC<σ.next->(x=o)=False->st.get x=σ.get x) ps.length ⟨ps.length,rfl,Up,Nat.le_refl _,sd (tw @pR (tw @Int.natCast_add @Int.cast_ofNat_Int)),sd @qo,sd (tw @fg0 (tw @Rt (tw @PR @aa.eq_1))),bW,fun x hx tp=>by
    have h1:=eX (i:=x) (n:=s.next) ae
    have h2:=ffr x hx
    simp only[go_sem, ↓reduceIte,Nat.reduceEqDiff,Nat.reduceAdd,Nat.reduceSub,Nat.reduceLeDiff,reduceCtorEq,h1,h2,tp]⟩ ?_
   rintro m env_b st_b ⟨i,hmi,bl,ble,b6,bg0,bg1,bn,bfr⟩ bkp
   have b0:=bkp 0 (by kernel_rfl)
   have b3:=bkp 3 (by kernel_rfl)
   have b5:=bkp 5 (by kernel_rfl)
   simp only[go_sem, ↓reduceIte,Nat.reduceEqDiff,Nat.reduceAdd,Nat.reduceSub,Nat.reduceLeDiff,reduceCtorEq,f0,f3,f5,aa]at b0 b3 b5
   clear bkp
   have Ux:((zA ps p i).map aa).length=ps.length+1:=by rw[List.length_map,qf ps p ble]
   by_cases Lq:(a:Int)<(i:Int)
   ·obtain⟨k,rfl⟩:∃k,i=k+1:=⟨i-1,ae⟩
    have fK:k<ps.length:=ae
    have x9:IntKind.i64.wrap (((k+1:Nat):Int)-1)=(k:Int):=by rw[aJ ae];omega
    have hq:((zA ps p (k+1)).map aa)[k]? =some (aa (iu ps k)):=by rw[sq (by rw[qf ps p ble];omega),QB ble (Nat.lt_succ_self _)]
    have xH:∃z,((zA ps p (k+1)).map aa)[k+1]? =some (aa z):=⟨_,sq (by rw[qf ps p ble];omega)⟩
    obtain⟨z,xH⟩:=xH
    have ei:((zA ps p (k+1)).map aa).set (k+1) (aa (iu ps k))=(zA ps p k).map aa:=by rw[Ou,K1 fK]
    have c1:(k:Int)<(ps.length:Int)+1:=ae
    have c2:(k:Int)+1<(ps.length:Int)+1:=ae
    have c3:(0:Int)<=(k:Int)+1:=ae
    have c4:((k:Int)+1).toNat=k+1:=ae
    have c5:(a:Int)<(k:Int)+1:=ae
    have c6:IntKind.i64.wrap ((k:Int)+1-1)=(k:Int):=by rw[aJ ae];omega
    rw[aa]at ei hq xH
    (try((repeat(revert hN;revert N;apply Pn.out));refine wk (tw @b0 (tw @b3 (tw @b5 (tw @b6 (tw @bg0 (tw @bg1 (tw @Lq (tw @x9 (tw @hq (tw @xH (tw @ei (tw @Ux (tw @c1 (tw @c2 (tw @c3 (tw @c4 (tw @c5 (tw @c6 (tw @Int.natCast_add @Int.cast_ofNat_Int))))))))))))))))))) ?_;(repeat(refine Pn.mk ?_;intro N hN))))
    exact⟨k,ae,k,rfl,ae,ae,sd @c6,sd @ei,sd (tw @bg1 @PR),bW,fun x hx tp=>by
     have h1:=eX (i:=x) (n:=s.next) ae
     have h2:=bfr x hx tp
     simp only[go_sem, ↓reduceIte,Nat.reduceEqDiff,Nat.reduceAdd,Nat.reduceSub,Nat.reduceLeDiff,reduceCtorEq,h1,h2]⟩
   ·obtain rfl:i=a:=ae
    have ei:((zA ps p i).map aa).set i (aa p)=(qu ps p).map aa:=by rw[Ou,NB Up,hp]
    have xH:∃z,((zA ps p i).map aa)[i]? =some (aa z):=⟨_,sq (by rw[qf ps p ble];omega)⟩
    obtain⟨z,xH⟩:=xH
    have nk:(qu ps p).length=ps.length+1:=by rw[hp];simp;omega
    have c1:(i:Int)<(ps.length:Int)+1:=ae
    rw[aa]at ei xH
    (try((repeat(revert hN;revert N;apply Pn.out));refine wk (tw @b0 (tw @b3 (tw @b5 (tw @b6 (tw @bg0 (tw @bg1 (tw @Lq (tw @xH (tw @ei (tw @Ux (tw @c1 (tw @Int.natCast_add (tw @Int.cast_ofNat_Int @aa.eq_1))))))))))))) ?_;(repeat(refine Pn.mk ?_;intro N hN))))
    rw[<-nk]
    exact gJ (.inl rfl) (vs:=[.own ⟨148006003,s.next⟩ 0 (qu ps p).length]) (sd (tw @b0 @nk)) ⟨⟨148006003,s.next⟩,rfl,sd @ei,bW,bW,.inl bW,fun x hx tp=>by
     have h1:=eX (i:=x) (n:=s.next) ae
     have h2:=bfr x hx tp
     simp only[go_sem, ↓reduceIte,Nat.reduceEqDiff,Nat.reduceAdd,Nat.reduceSub,Nat.reduceLeDiff,reduceCtorEq,h1,h2]⟩
  ·intro N hN
   by_cases NW:(a:Int)<(ps.length:Int)
   ·have hg:=sq (ps:=ps) (i:=a) ae
    by_cases hx:(iu ps a).dQ=p.dQ
    ·have ug:decide ((iu ps a).dQ=p.dQ)=true:=decide_eq_true hx
     have Uz:decide ((iu ps a).dH=p.dH)=false:=decide_eq_false fun h=>hex ⟨ae,E3 hx h⟩
     (try((repeat(revert hN;revert N;apply Pn.out));refine wk (tw @f5 (tw @f0 (tw @f3 (tw @fg0 (tw @fg1 (tw @NW (tw @hg (tw @ug (tw @Uz (tw @Cf @aa.eq_1)))))))))) ?_;(repeat(refine Pn.mk ?_;intro N hN))))
     exact⟨sd @f5,sd @f0,sd @f3,sd (tw @fg0 @aa.eq_1),sd @fg1,bW,fun x hx=>sd (ffr x hx)⟩
    ·have ug:decide ((iu ps a).dQ=p.dQ)=false:=decide_eq_false hx
     (try((repeat(revert hN;revert N;apply Pn.out));refine wk (tw @f5 (tw @f0 (tw @f3 (tw @fg0 (tw @fg1 (tw @NW (tw @hg (tw @ug (tw @Bool.false_and (tw @Cf @aa.eq_1)))))))))) ?_;(repeat(refine Pn.mk ?_;intro N hN))))
     exact⟨sd @f5,sd @f0,sd @f3,sd (tw @fg0 @aa.eq_1),sd @fg1,bW,fun x hx=>sd (ffr x hx)⟩
   ·(try((repeat(revert hN;revert N;apply Pn.out));refine wk (tw @f5 (tw @f0 (tw @f3 (tw @fg0 (tw @fg1 (tw @NW (tw @Cf @aa.eq_1))))))) ?_;(repeat(refine Pn.mk ?_;intro N hN))))
    exact⟨sd @f5,sd @f0,sd @f3,sd (tw @fg0 @aa.eq_1),sd @fg1,bW,fun x hx=>sd (ffr x hx)⟩
 intro N hN
 refine aT (fun m env st=>∃a:Nat,m=a/\km ps p<=a/\a<=ps.length/\env 5=.int .i64 (a:Int)/\st.get ⟨148000000,σ.next⟩=some ⟨true,2,[aa p]⟩/\st.get o=some ⟨true,2,ps.map aa⟩/\σ.next<st.next/\∀x:Id,x.cC<σ.next->st.get x=σ.get x) ps.length ⟨ps.length,rfl,Up,Nat.le_refl _,sd @Nat.zero_add,sd @aa.eq_1,sd (tw @rh @ho),bW,fun x hx=>by have:=eX hx;simp only[go_sem, ↓reduceIte,Nat.reduceEqDiff,Nat.reduceAdd,Nat.reduceSub,Nat.reduceLeDiff,reduceCtorEq,this]⟩ ?_
 rintro m env_a st_a ⟨a,hma,al,ale,a5,ag0,ag1,an,dr⟩ akp
 have a0:=akp 0 (by kernel_rfl)
 have a3:=akp 3 (by kernel_rfl)
 simp only[go_sem, ↓reduceIte,Nat.reduceEqDiff,Nat.reduceAdd,Nat.reduceSub,Nat.reduceLeDiff,reduceCtorEq,aa]at a0 a3
 clear akp
 by_cases h0:(0:Int)<(a:Int)
 ·obtain⟨b,rfl⟩:∃b,a=b+1:=⟨a-1,ae⟩
  have ke:b<ps.length:=ae
  have fE:(b:Int)<(ps.length:Int):=ae
  have hg:=sq ke
  have hw:IntKind.i64.wrap (((b+1:Nat):Int)-1)=(b:Int):=by rw[aJ ae];omega
  have hq:=oN (iu ps b) p
  cases hc:k8 (iu ps b) p
  ·rw[hc]at hq
   (repeat(first|((repeat(revert hN;revert N;apply Pn.out));refine wk (tw @a0 (tw @a3 (tw @a5 (tw @ag0 (tw @ag1 (tw @h0 (tw @fE (tw @hg (tw @hw (tw @Cf @aa.eq_1)))))))))) ?_;(repeat(refine Pn.mk ?_;intro N hN)))|((try apply Or.inl);refine⟨_,ak.x (hq) (sd (tw @a0 (tw @a3 (tw @a5 (tw @ag0 (tw @ag1 (tw @h0 (tw @fE (tw @hg (tw @hw (tw @Cf @aa.eq_1))))))))))),?_⟩;refine hN _ _ ?_;clear hN N)))
   refine⟨b,ae,b,rfl,?_,ae,sd @hw,sd (tw @ag0 @aa.eq_1),sd @ag1,bW,fun x hx=>sd (dr x hx)⟩
   rcases Nat.lt_or_ge b (km ps p)with h|h
   ·rw[F6 h]at hc;cases hc
   ·exact h
  ·rw[hc]at hq
   have kJ:km ps p=b+1:=by
    rcases Nat.lt_or_ge b (km ps p)with h|h
    ·omega
    ·have:=Ay (p:=p) hR h ke
     rw[hc]at this;cases this
   (repeat(first|((repeat(revert hN;revert N;apply Pn.out));refine wk (tw @a0 (tw @a3 (tw @a5 (tw @ag0 (tw @ag1 (tw @h0 (tw @fE (tw @hg (tw @hw (tw @Cf @aa.eq_1)))))))))) ?_;(repeat(refine Pn.mk ?_;intro N hN)))|((try apply Or.inl);refine⟨_,ak.x (hq) (sd (tw @a0 (tw @a3 (tw @a5 (tw @ag0 (tw @ag1 (tw @h0 (tw @fE (tw @hg (tw @hw (tw @Cf @aa.eq_1))))))))))),?_⟩;refine hN _ _ ?_;clear hN N)))
   exact⟨sd (tw @a5 @kJ),sd @a0,sd @a3,sd (tw @ag0 @aa.eq_1),sd @ag1,bW,fun x hx=>sd (dr x hx)⟩
 ·have kJ:km ps p=a:=ae
  (try((repeat(revert hN;revert N;apply Pn.out));refine wk (tw @a0 (tw @a3 (tw @a5 (tw @ag0 (tw @ag1 (tw @h0 (tw @Cf @aa.eq_1))))))) ?_;(repeat(refine Pn.mk ?_;intro N hN))))
  exact⟨sd (tw @a5 @kJ),sd @a0,sd @a3,sd (tw @ag0 @aa.eq_1),sd @ag1,bW,fun x hx=>sd (dr x hx)⟩
noncomputable def bT (l:List ah) (b:aq) (k c:Nat):Int:=oY l ⟨b.dQ*k+(c % k:Nat),b.dH*k+(c / k:Nat)⟩
noncomputable def jt (l:List ah) (b:aq) (k c:Nat):Bool:=decide (0<=bT l b k c)&&(decide (bT l b k c % ((k*k:Nat):Int)=c)&&decide (bT l b k c / ((k*k:Nat):Int)=bT l b k 0 / ((k*k:Nat):Int)))
noncomputable def lW (l:List ah) (b:aq) (k:Nat):Int:=@ite _ (∀c,c<k*k->jt l b k c=true) (Classical.propDecidable _) (bT l b k 0 / ((k*k:Nat):Int)) (-1)
theorem uR {l:List ah} {b:aq} {k c:Nat} (hc:c<k*k) (h:jt l b k c=false):lW l b k= -1:=by
 rw[lW,if_neg]
 intro h2
 rw[h2 c hc]at h
 cases h
theorem BO {l:List ah} {b:aq} {k:Nat} (h:∀c,c<k*k->jt l b k c=true):lW l b k=bT l b k 0 / ((k*k:Nat):Int):=by
 rw[lW,if_pos h]
theorem Ap {k:Nat} (h1:1<=k) (h4:k<=4):k=1∨k=2∨k=3∨k=4:=ae
theorem Cu {k:Nat} (h1:1<=k) (h4:k<=4):1<=k*k/\k*k<=16:=by
 rcases Ap h1 h4 with rfl|rfl|rfl|rfl<;>omega
theorem mul_k {a:Int} {k:Nat} (h1:1<=k) (h4:k<=4) (ha: -1000000<=a/\a<=1000000): -4000000<=a*(k:Int)/\a*(k:Int)<=4000000:=by
 rcases Ap h1 h4 with rfl|rfl|rfl|rfl<;>omega
def EW (q:Int):Nat->Int
 |0=>-1
 |_+1=>q
section
set_option maxRecDepth 100000
set_option maxHeartbeats 8000000
theorem tC (b:aq) (x y k:Nat) (h1:1<=k) (h4:k<=4) (hx: -1000000<=b.dQ/\b.dQ<=1000000) (hy: -1000000<=b.dH/\b.dH<=1000000) (On:x<=1000) (hyl:y<=1000):
  ak Tryz.prog 99 [.agg (aa b),.int .i64 (x:Int),.int .i64 (y:Int),.int .i64 (k:Int)] (.agg (aa ⟨b.dQ*k+x,b.dH*k+y⟩)):=by
 refine ak.body eM rfl fun hl n0=>?_
 clear hl
 have m1:=mul_k h1 h4 hx
 have m2:=mul_k h1 h4 hy
 have w1:IntKind.i64.wrap (b.dQ*(k:Int))=b.dQ*(k:Int):=aJ ae
 have w2:IntKind.i64.wrap (b.dH*(k:Int))=b.dH*(k:Int):=aJ ae
 have w3:IntKind.i64.wrap (b.dQ*(k:Int)+(x:Int))=b.dQ*(k:Int)+(x:Int):=aJ ae
 have w4:IntKind.i64.wrap (b.dH*(k:Int)+(y:Int))=b.dH*(k:Int)+(y:Int):=aJ ae
 rw[aa,aa]
 (try dsimp only)
 (try((repeat(revert hN;revert N;apply Pn.out));refine wk (tw @w1 (tw @w2 (tw @w3 @w4))) ?_;(repeat(refine Pn.mk ?_;intro N hN))))
 exact gZ (.inl rfl) (vs:=[.agg [.int .i64 (b.dQ*(k:Int)+(x:Int)),.int .i64 (b.dH*(k:Int)+(y:Int))]]) (sd @Nat.zero_add) (by simp[eJ,jR,aI,aW,dw])
theorem ye (l:List ah) (hR:qL l) (SR:l.length<=1048576) (hT:∀p,oY l p<=4611686018427387904) (b:aq) (k:Nat) (h1:1<=k) (h4:k<=4) (hx: -1000000<=b.dQ/\b.dQ<=1000000) (hy: -1000000<=b.dH/\b.dH<=1000000):
  ak Tryz.prog 96 [.dq [.sl (l.map ab)],.agg (aa b),.int .i64 (k:Int)] (.int .i64 (lW l b k)):=by
 refine ak.body eM rfl fun hl n0=>?_
 clear hl
 have gn:=fun c:Nat=>tC b (c % k) (c / k) k h1 h4 hx hy
 have Lm:=fun c:Nat=>Aq l ⟨b.dQ*k+(c % k:Nat),b.dH*k+(c / k:Nat)⟩ hR SR
 have Lt:=Cu h1 h4
 have qv:IntKind.i64.wrap ((k:Int)*(k:Int))=((k*k:Nat):Int):=by rw[<-Int.natCast_mul,aJ ae]
 have k0:¬(k:Int)=0:=ae
 have qE:¬((k*k:Nat):Int)=0:=ae
 obtain⟨R,Ej⟩:∃R,lW l b k=R:=⟨_,rfl⟩
 rw[Ej]
 rw[aa]at gn ⊢
 (try((repeat(revert hN;revert N;apply Pn.out));refine wk @Nat.zero_add ?_;(repeat(refine Pn.mk ?_;intro N hN))))
 refine aT (fun n env st=>∃c:Nat,n=(k*k)-c/\c<=(k*k)/\env 8=.int .i64 (c:Int)/\env 7=.int .i64 (EW (bT l b k 0 / ((k*k:Nat):Int)) c)/\(∀j:Nat,j<c->jt l b k j=true)/\st.get ⟨96000000,n0⟩=some ⟨true,2,[[.int .i64 b.dQ,.int .i64 b.dH]]⟩) (k*k) ⟨0,ae,ae,sl @Nat.zero_add,sl @Nat.zero_add,fun _ h=>absurd h (Nat.not_lt_zero _),sl @Nat.zero_add⟩ ?_
 rintro n_a env_a st_a ⟨c,rfl,ale,a8,a7,lV,ag0⟩ dr
 have a0:=dr 0 (by kernel_rfl);have a2:=dr 2 (by kernel_rfl);have a4:=dr 4 (by kernel_rfl)
 simp only[go_sem, ↓reduceIte,Nat.reduceEqDiff,Nat.reduceAdd,Nat.reduceSub,Nat.reduceLeDiff,reduceCtorEq]at a0 a2 a4
 clear dr
 by_cases hc:(c:Int)<((k*k:Nat):Int)
 ·have bZ:∀{e:Env} {gg:Rows},(e 8=.int .i64 (IntKind.i64.wrap ((c:Int)+1)))->(e 7=.int .i64 (EW (bT l b k 0 / ((k*k:Nat):Int)) (c+1)))->(jt l b k c=true)->(gg ⟨96000000,n0⟩=some ⟨true,2,[[.int .i64 b.dQ,.int .i64 b.dH]]⟩)->∃m0,m0<(k*k)-c/\∃c:Nat,m0=(k*k)-c/\c<=(k*k)/\e 8=.int .i64 (c:Int)/\e 7=.int .i64 (EW (bT l b k 0 / ((k*k:Nat):Int)) c)/\(∀j:Nat,j<c->jt l b k j=true)/\gg ⟨96000000,n0⟩=some ⟨true,2,[[.int .i64 b.dQ,.int .i64 b.dH]]⟩:=fun x1 x2 x3 x4=>⟨_,ae,c+1,rfl,ae,(by rw[x1,aB ae]),x2,(all_succ lV x3),x4⟩
  have ql:c<k*k:=ae
  have Eu:(c:Int).tmod (k:Int)=((c % k:Nat):Int):=rfl
  have ud:(c:Int).tdiv (k:Int)=((c / k:Nat):Int):=rfl
  have G5:c % k<=c:=Nat.mod_le _ _
  have Uf:c / k<=c:=Nat.div_le_self _ _
  have wd0:∀n:Nat,n<=c->IntKind.i64.wrap (n:Int)=(n:Int):=fun n hn=>aJ ae
  have wd:=wd0 (c / k) Uf
  clear wd0
  have uI:=gn c ae ae
  have xF:=Lm c
  rw[aa]at uI xF
  (try dsimp only at uI xF)
  have Sw:oY l ⟨b.dQ*k+(c % k:Nat),b.dH*k+(c / k:Nat)⟩=bT l b k c:=rfl
  rw[Sw]at xF
  have Ub:=hT ⟨b.dQ*k+(c % k:Nat),b.dH*k+(c / k:Nat)⟩
  rw[Sw]at Ub
  have oy:jt l b k c=(decide (0<=bT l b k c)&&(decide (bT l b k c % ((k*k:Nat):Int)=c)&&decide (bT l b k c / ((k*k:Nat):Int)=bT l b k 0 / ((k*k:Nat):Int)))):=rfl
  generalize b.dQ*(k:Int)+((c % k:Nat):Int)=px at uI xF
  generalize b.dH*(k:Int)+((c / k:Nat):Int)=py at uI xF
  obtain⟨t,ht⟩:∃t,bT l b k c=t:=⟨_,rfl⟩
  rw[ht]at xF oy Ub
  obtain⟨q0,hq0⟩:∃q0,bT l b k 0 / ((k*k:Nat):Int)=q0:=⟨_,rfl⟩
  by_cases h0:t<0
  ·have jA:=uR ql (by rw[oy,decide_eq_false (by omega:¬0<=t),Bool.false_and])
   rw[Ej]at jA
   subst jA
   (repeat(first|((repeat(revert hN;revert N;apply Pn.out));refine wk (tw @a8 (tw @a7 (tw @ag0 (tw @a0 (tw @a2 (tw @a4 (tw @hc (tw @qv (tw @k0 (tw @qE (tw @Eu (tw @ud (tw @wd @h0))))))))))))) ?_;(repeat(refine Pn.mk ?_;intro N hN)))|((try apply Or.inl);refine⟨_,ak.x (uI) (sd (tw @a8 (tw @a7 (tw @ag0 (tw @a0 (tw @a2 (tw @a4 (tw @hc (tw @qv (tw @k0 (tw @qE (tw @Eu (tw @ud (tw @wd @h0)))))))))))))),?_⟩;refine hN _ _ ?_;clear hN N)|((try apply Or.inl);refine⟨_,ak.x (xF) (sd (tw @a8 (tw @a7 (tw @ag0 (tw @a0 (tw @a2 (tw @a4 (tw @hc (tw @qv (tw @k0 (tw @qE (tw @Eu (tw @ud (tw @wd @h0)))))))))))))),?_⟩;refine hN _ _ ?_;clear hN N)))
   exact cu (b:=-1) (.inl rfl) (sd @Nat.zero_add) rfl
  have kW:t.tmod ((k*k:Nat):Int)=t % ((k*k:Nat):Int):=Int.tmod_eq_emod_of_nonneg ae
  have hdiv:t.tdiv ((k*k:Nat):Int)=t / ((k*k:Nat):Int):=Int.tdiv_eq_ediv_of_nonneg ae
  have xH:0<=t / ((k*k:Nat):Int):=Int.ediv_nonneg ae ae
  have tn:t / ((k*k:Nat):Int)<=t:=Int.ediv_le_self _ ae
  have wq:IntKind.i64.wrap (t / ((k*k:Nat):Int))=t / ((k*k:Nat):Int):=aJ ae
  by_cases h2:t % ((k*k:Nat):Int)=(c:Int)
  ·have d2:=decide_eq_true h2
   by_cases jN:c=0
   ·have hq:bT l b k 0 / ((k*k:Nat):Int)=t / ((k*k:Nat):Int):=by rw[<-ht,jN]
    have c0:¬(0:Int)<(c:Int):=ae
    have qp:jt l b k c=true:=by rw[oy,decide_eq_true (by omega:0<=t),d2,decide_eq_true hq.symm];rfl
    have uL:EW (bT l b k 0 / ((k*k:Nat):Int)) (c+1)=t / ((k*k:Nat):Int):=hq
    (repeat(first|((repeat(revert hN;revert N;apply Pn.out));refine wk (tw @a8 (tw @a7 (tw @ag0 (tw @a0 (tw @a2 (tw @a4 (tw @hc (tw @qv (tw @k0 (tw @qE (tw @Eu (tw @ud (tw @wd (tw @h0 (tw @kW (tw @hdiv (tw @wq (tw @d2 @c0)))))))))))))))))) ?_;(repeat(refine Pn.mk ?_;intro N hN)))|((try apply Or.inl);refine⟨_,ak.x (uI) (sd (tw @a8 (tw @a7 (tw @ag0 (tw @a0 (tw @a2 (tw @a4 (tw @hc (tw @qv (tw @k0 (tw @qE (tw @Eu (tw @ud (tw @wd (tw @h0 (tw @kW (tw @hdiv (tw @wq (tw @d2 @c0))))))))))))))))))),?_⟩;refine hN _ _ ?_;clear hN N)|((try apply Or.inl);refine⟨_,ak.x (xF) (sd (tw @a8 (tw @a7 (tw @ag0 (tw @a0 (tw @a2 (tw @a4 (tw @hc (tw @qv (tw @k0 (tw @qE (tw @Eu (tw @ud (tw @wd (tw @h0 (tw @kW (tw @hdiv (tw @wq (tw @d2 @c0))))))))))))))))))),?_⟩;refine hN _ _ ?_;clear hN N)))
    refine bZ ?_ ?_ (qp) ?_
    all_goals simp only[go_sem, ↓reduceIte,Nat.reduceEqDiff,Nat.reduceAdd,Nat.reduceSub,Nat.reduceLeDiff,reduceCtorEq,a8,a7,ag0,a0,a2,a4,uL,wq]
   ·have c0:(0:Int)<(c:Int):=ae
    have Ev:EW (bT l b k 0 / ((k*k:Nat):Int)) c=bT l b k 0 / ((k*k:Nat):Int):=by
     obtain⟨m,rfl⟩:∃m,c=m+1:=⟨c-1,ae⟩
     rfl
    by_cases hq:t / ((k*k:Nat):Int)=bT l b k 0 / ((k*k:Nat):Int)
    ·have qp:jt l b k c=true:=by rw[oy,decide_eq_true (by omega:0<=t),d2,decide_eq_true hq];rfl
     have uL:EW (bT l b k 0 / ((k*k:Nat):Int)) (c+1)=t / ((k*k:Nat):Int):=hq.symm
     rw[Ev]at a7
     have d3:=decide_eq_true hq
     (repeat(first|((repeat(revert hN;revert N;apply Pn.out));refine wk (tw @a8 (tw @a7 (tw @ag0 (tw @a0 (tw @a2 (tw @a4 (tw @hc (tw @qv (tw @k0 (tw @qE (tw @Eu (tw @ud (tw @wd (tw @h0 (tw @kW (tw @hdiv (tw @wq (tw @d2 (tw @c0 @d3))))))))))))))))))) ?_;(repeat(refine Pn.mk ?_;intro N hN)))|((try apply Or.inl);refine⟨_,ak.x (uI) (sd (tw @a8 (tw @a7 (tw @ag0 (tw @a0 (tw @a2 (tw @a4 (tw @hc (tw @qv (tw @k0 (tw @qE (tw @Eu (tw @ud (tw @wd (tw @h0 (tw @kW (tw @hdiv (tw @wq (tw @d2 (tw @c0 @d3)))))))))))))))))))),?_⟩;refine hN _ _ ?_;clear hN N)|((try apply Or.inl);refine⟨_,ak.x (xF) (sd (tw @a8 (tw @a7 (tw @ag0 (tw @a0 (tw @a2 (tw @a4 (tw @hc (tw @qv (tw @k0 (tw @qE (tw @Eu (tw @ud (tw @wd (tw @h0 (tw @kW (tw @hdiv (tw @wq (tw @d2 (tw @c0 @d3)))))))))))))))))))),?_⟩;refine hN _ _ ?_;clear hN N)))
     refine bZ ?_ ?_ (qp) ?_
     all_goals simp only[go_sem, ↓reduceIte,Nat.reduceEqDiff,Nat.reduceAdd,Nat.reduceSub,Nat.reduceLeDiff,reduceCtorEq,a8,a7,ag0,a0,a2,a4,uL,wq]
    ·have d3:=decide_eq_false hq
     have jA:=uR ql (by rw[oy,d3,Bool.and_false,Bool.and_false])
     rw[Ej]at jA
     subst jA
     rw[Ev]at a7
     (repeat(first|((repeat(revert hN;revert N;apply Pn.out));refine wk (tw @a8 (tw @a7 (tw @ag0 (tw @a0 (tw @a2 (tw @a4 (tw @hc (tw @qv (tw @k0 (tw @qE (tw @Eu (tw @ud (tw @wd (tw @h0 (tw @kW (tw @hdiv (tw @wq (tw @d2 (tw @c0 @d3))))))))))))))))))) ?_;(repeat(refine Pn.mk ?_;intro N hN)))|((try apply Or.inl);refine⟨_,ak.x (uI) (sd (tw @a8 (tw @a7 (tw @ag0 (tw @a0 (tw @a2 (tw @a4 (tw @hc (tw @qv (tw @k0 (tw @qE (tw @Eu (tw @ud (tw @wd (tw @h0 (tw @kW (tw @hdiv (tw @wq (tw @d2 (tw @c0 @d3)))))))))))))))))))),?_⟩;refine hN _ _ ?_;clear hN N)|((try apply Or.inl);refine⟨_,ak.x (xF) (sd (tw @a8 (tw @a7 (tw @ag0 (tw @a0 (tw @a2 (tw @a4 (tw @hc (tw @qv (tw @k0 (tw @qE (tw @Eu (tw @ud (tw @wd (tw @h0 (tw @kW (tw @hdiv (tw @wq (tw @d2 (tw @c0 @d3)))))))))))))))))))),?_⟩;refine hN _ _ ?_;clear hN N)))
     exact cu (b:=-1) (.inl rfl) (sd @Nat.zero_add) rfl
  ·have d2:=decide_eq_false h2
   have jA:=uR ql (by rw[oy,d2,Bool.false_and,Bool.and_false])
   rw[Ej]at jA
   subst jA
   (repeat(first|((repeat(revert hN;revert N;apply Pn.out));refine wk (tw @a8 (tw @a7 (tw @ag0 (tw @a0 (tw @a2 (tw @a4 (tw @hc (tw @qv (tw @k0 (tw @qE (tw @Eu (tw @ud (tw @wd (tw @h0 (tw @kW @d2))))))))))))))) ?_;(repeat(refine Pn.mk ?_;intro N hN)))|((try apply Or.inl);refine⟨_,ak.x (uI) (sd (tw @a8 (tw @a7 (tw @ag0 (tw @a0 (tw @a2 (tw @a4 (tw @hc (tw @qv (tw @k0 (tw @qE (tw @Eu (tw @ud (tw @wd (tw @h0 (tw @kW @d2)))))))))))))))),?_⟩;refine hN _ _ ?_;clear hN N)|((try apply Or.inl);refine⟨_,ak.x (xF) (sd (tw @a8 (tw @a7 (tw @ag0 (tw @a0 (tw @a2 (tw @a4 (tw @hc (tw @qv (tw @k0 (tw @qE (tw @Eu (tw @ud (tw @wd (tw @h0 (tw @kW @d2)))))))))))))))),?_⟩;refine hN _ _ ?_;clear hN N)))
   exact cu (b:=-1) (.inl rfl) (sd @Nat.zero_add) rfl
 ·have ql:c=k*k:=ae
  subst ql
  have qp:=BO lV
  rw[Ej]at qp
  have Ev:EW (bT l b k 0 / ((k*k:Nat):Int)) (k*k)=R:=by
   rw[qp]
   obtain⟨m,hm⟩:∃m,k*k=m+1:=⟨k*k-1,ae⟩
   rw[hm];rfl
  rw[Ev]at a7
  (try((repeat(revert hN;revert N;apply Pn.out));refine wk (tw @a8 (tw @a7 (tw @ag0 (tw @a0 (tw @a2 (tw @a4 (tw @hc @qv))))))) ?_;(repeat(refine Pn.mk ?_;intro N hN))))
  exact cu (b:=R) (.inl rfl) (sd (tw @a8 (tw @a7 (tw @ag0 (tw @a0 (tw @a2 @a4)))))) rfl
end
def ju (l:List ah) (k:Int):Nat->List aq
 |0=>[]
 |i+1=>qu (ju l k i) (nH (bq l i).bw k)
theorem lp (l:List ah) (k:Int):∀i,(ju l k i).length<=i
 |0=>Nat.zero_le _
 |i+1=>by
  have h1:=Kr (ju l k i) (nH (bq l i).bw k)
  have h2:=lp l k i
  rw[ju];omega
theorem pN (l:List ah) (k:Int):∀i,uC (ju l k i)
 |0=>List.Pairwise.nil
 |i+1=>by rw[ju];exact Kt (pN l k i) _
theorem pV (l:List ah) (k:Int) (x:aq):∀i,x∈ju l k i↔∃j,j<i/\x=nH (bq l j).bw k
 |0=>by simp[ju]
 |i+1=>by
  rw[ju,J8,pV l k x i]
  constructor
  ·rintro(h|⟨j,h1,h2⟩)
   ·exact⟨i,ae,h⟩
   ·exact⟨j,ae,h2⟩
  ·rintro⟨j,h1,h2⟩
   by_cases h:j=i
   ·exact .inl (by rw[h2,h])
   ·exact .inr ⟨j,ae,h2⟩
def jJ (l:List ah) (k:Int):List aq:=ju l k l.length
theorem rz {p:aq} (h:AI p=true):(-60<=p.dQ/\p.dQ<=60)/\(-60<=p.dH/\p.dH<=60):=by
 simp only[AI,iw,Bool.and_eq_true,decide_eq_true_eq]at h
 exact h
theorem I6 {z k:Int} (h1:1<=k) (h4:k<=4) (h: -60<=z/\z<=60): -60<=z / k/\z / k<=60:=by
 rcases four h1 h4 with rfl|rfl|rfl|rfl<;>omega
theorem rQ {l:List ah} {k:Int} (hF:iv l) (h1:1<=k) (h4:k<=4) {i:Nat} (hi:i<=l.length) {x:aq} (hx:x∈ju l k i):AI x=true:=by
 obtain⟨j,hj,rfl⟩:=(pV l k x i).1 hx
 have hp:=rz (hF.ok j ae).1
 simp only[AI,iw,Bool.and_eq_true,decide_eq_true_eq]
 exact⟨I6 h1 h4 hp.1,I6 h1 h4 hp.2⟩
section
set_option maxRecDepth 100000
set_option maxHeartbeats 16000000
theorem CC (l:List ah) (hF:iv l) (k:Int) (h1:1<=k) (h4:k<=4) (σ:ax):Call Tryz.prog 95 [.dq [.sl (l.map ab)],.int .i64 k] σ (RF σ (fun _=>True) (jJ l k)):=by
 refine fj eM rfl fun wz=>?_
 clear wz
 have Ah:=hF.zX
 (try((repeat(revert hN;revert N;apply Pn.out));refine wk @Nat.zero_add ?_;(repeat(refine Pn.mk ?_;intro N hN))))
 refine aT (fun n env st=>∃i:Nat,n=(l.length)-i/\i<=(l.length)/\env 6=.int .i64 (i:Int)/\(∃o:Id,env 5=.own o 0 (ju l k i).length/\st.get o=some ⟨true,2,(ju l k i).map aa⟩/\o.cC<st.next/\σ.next<=o.cC/\∀x:Id,x.cC<σ.next->st.get x=σ.get x)) (l.length) ⟨0,ae,ae,sl @Nat.zero_add,⟨⟨95001000,σ.next+1⟩,by simp only[go_sem, ↓reduceIte,Nat.reduceEqDiff,Nat.reduceAdd,Nat.reduceSub,Nat.reduceLeDiff,reduceCtorEq];rfl,by simp only[go_sem, ↓reduceIte,Nat.reduceEqDiff,Nat.reduceAdd,Nat.reduceSub,Nat.reduceLeDiff,reduceCtorEq];rfl,bW,bW,fun x hx=>by
  have:=eX (i:=x) (n:=σ.next) ae
  simp only[go_sem, ↓reduceIte,Nat.reduceEqDiff,Nat.reduceAdd,Nat.reduceSub,Nat.reduceLeDiff,reduceCtorEq,this]⟩⟩ ?_
 rintro n_a env_a st_a ⟨i,rfl,ale,a6,kB⟩ dr
 have a0:=dr 0 (by kernel_rfl);have a1:=dr 1 (by kernel_rfl)
 simp only[go_sem, ↓reduceIte,Nat.reduceEqDiff,Nat.reduceAdd,Nat.reduceSub,Nat.reduceLeDiff,reduceCtorEq]at a0 a1
 clear dr
 obtain⟨o,a5,ag,aov,aon,dr⟩:=kB
 have lZ:=eX aov
 by_cases hi:(i:Int)<(l.length:Int)
 ·have bZ:∀{e:Env} {gg:Rows} {nx:Nat},(e 6=.int .i64 (IntKind.i64.wrap ((i:Int)+1)))->(∃o:Id,e 5=.own o 0 (ju l k (i+1)).length/\gg o=some ⟨true,2,(ju l k (i+1)).map aa⟩/\o.cC<nx/\σ.next<=o.cC/\∀x:Id,x.cC<σ.next->gg x=σ.get x)->∃m0,m0<(l.length)-i/\∃i:Nat,m0=(l.length)-i/\i<=(l.length)/\e 6=.int .i64 (i:Int)/\(∃o:Id,e 5=.own o 0 (ju l k i).length/\gg o=some ⟨true,2,(ju l k i).map aa⟩/\o.cC<nx/\σ.next<=o.cC/\∀x:Id,x.cC<σ.next->gg x=σ.get x):=fun x1 x2=>⟨_,ae,i+1,rfl,ae,(by rw[x1,aB ae]),x2⟩
  have fB:i<l.length:=ae
  have gT:=gu fB
  have Uu:=rz (hF.ok i fB).1
  have NY:=EM (bq l i).bw k h1 h4 ae ae
  have mT:ju l k (i+1)=qu (ju l k i) (nH (bq l i).bw k):=rfl
  have hl1:=lp l k i
  rw[aa,aa,aa]at NY
  (repeat(first|((repeat(revert hN;revert N;apply Pn.out));refine wk (tw @a6 (tw @a0 (tw @a1 (tw @a5 (tw @ag (tw @hi (tw @gT (tw @lZ (tw @ab.eq_1 @aa.eq_1))))))))) ?_;(repeat(refine Pn.mk ?_;intro N hN)))|((try apply Or.inl);refine⟨_,ak.x (NY) (sd (tw @a6 (tw @a0 (tw @a1 (tw @a5 (tw @ag (tw @hi (tw @gT (tw @lZ (tw @ab.eq_1 @aa.eq_1)))))))))),?_⟩;refine hN _ _ ?_;clear hN N)))
  refine .inr (aU _ _ _ _ _ (fun r σ1 hq=>?_) (yd _ (pN l k i) ae (nH (bq l i).bw k) o _ (sd (tw @ag @lZ)) bW))
  obtain⟨g1,x1⟩:=σ1
  obtain⟨o1,rfl,q1,q2,q3,q4,q5⟩:=hq
  (try dsimp only at q1 q2 q3 q4 q5)
  refine hN _ _ ?_
  clear hN N
  (try((repeat(revert hN;revert N;apply Pn.out));refine wk (tw @a6 (tw @a0 @a1)) ?_;(repeat(refine Pn.mk ?_;intro N hN))))
  exact bZ (sd (tw @a6 (tw @a0 @a1))) (by exact⟨o1,sd @mT,sd (tw @q1 @mT),bW,by
   rcases q4 with h|h
   ·omega
   ·have:o1=o:=by simpa using h
    rw[this];exact aon,fun x hx=>by
   have h1:=eX (i:=x) (n:=st_a.next) ae
   have h3:=dr x hx
   have h4:(x=o)=False:=eq_false fun h=>by rw[h]at hx;omega
   have h5:=q5 x ae h4
   simp only[go_sem, ↓reduceIte,Nat.reduceEqDiff,Nat.reduceAdd,Nat.reduceSub,Nat.reduceLeDiff,reduceCtorEq,h1,h3,h5]⟩)
 ·have nj:i=l.length:=ae
  subst nj
  (try((repeat(revert hN;revert N;apply Pn.out));refine wk (tw @a6 (tw @a0 (tw @a1 (tw @a5 @hi)))) ?_;(repeat(refine Pn.mk ?_;intro N hN))))
  exact gJ (.inl rfl) (vs:=[.own o 0 (jJ l k).length]) (by simp only[fo,gS,go_sem, ↓reduceIte,Nat.reduceEqDiff,Nat.reduceAdd,Nat.reduceSub,Nat.reduceLeDiff,reduceCtorEq,a5];rfl) ⟨o,rfl,ag,bW,bW,.inl aon,fun x hx _=>dr x hx⟩
end
noncomputable def eH (l:List ah) (k:Nat) (B:List aq):Nat->List ah
 |0=>[]
 |i+1=>if 0<=lW l (iu B i) k then eH l k B i++[⟨iu B i,lW l (iu B i) k⟩]else eH l k B i
noncomputable def dj (l:List ah) (k:Nat):List ah:=eH l k (jJ l k) (jJ l k).length
theorem lq (l:List ah) (k:Nat) (B:List aq):∀i,(eH l k B i).length<=i
 |0=>Nat.zero_le _
 |i+1=>by
  have h:=lq l k B i
  rw[eH]
  split
  ·rw[List.length_append];simp;omega
  ·omega
theorem tD {l:List ah} {k:Nat} {B:List aq} {t:ah}:∀{i:Nat},t∈eH l k B i->∃j,j<i/\t=⟨iu B j,lW l (iu B j) k⟩/\0<=lW l (iu B j) k
 |0,h=>by cases h
 |i+1,h=>by
  rw[eH]at h
  split at h
  ·rename_i h0
   rcases List.mem_append.1 h with h|h
   ·obtain⟨j,h1,h2⟩:=tD h
    exact⟨j,ae,h2⟩
   ·exact⟨i,ae,List.mem_singleton.1 h,h0⟩
  ·obtain⟨j,h1,h2⟩:=tD h
   exact⟨j,ae,h2⟩
theorem sJ {l:List ah} (hF:iv l) (p:aq): -1<=oY l p/\oY l p<=159:=by
 unfold oY
 split
 ·rename_i h
  have h1:=(hF.ok _ (mh h).1).2.1
  simp only[iw,Bool.and_eq_true,decide_eq_true_eq]at h1
  omega
 ·omega
section
set_option maxRecDepth 100000
set_option maxHeartbeats 16000000
theorem CD (l:List ah) (hF:iv l) (k:Nat) (h1:1<=k) (h4:k<=4):ak Tryz.prog 48 [.dq [.sl (l.map ab)],.int .i64 (k:Int)] (.agg [xK ab (dj l k)]):=by
 intro n0
 refine fj eM rfl fun wz=>?_
 clear wz
 have Ah:=hF.zX
 have ke:ak Tryz.prog 95 [.dq [.sl (l.map ab)],.int .i64 (k:Int)] (.sl ((jJ l k).map aa)):=fun n=>by
  refine aU _ _ _ _ _ (fun r σ1 hq=>?_) (CC l hF k ae ae _)
  obtain⟨u,rfl,q1,_⟩:=hq
  exact⟨_,e9 (e:=aa) q1 rfl fun y=>by simp[aa,aI,aW,dw],rfl⟩
 have El:∀i,i<(jJ l k).length->AI (iu (jJ l k) i)=true:=fun i hi=>rQ hF ae ae (Nat.le_refl _) (vk hi)
 have Jp:=lp l k l.length
 rw[show ju l k l.length=jJ l k from rfl]at Jp
 have G5:=fun b hx hy=>ye l hF.Qn ae (fun p=>by have:=(sJ hF p).2;omega) b k h1 h4 hx hy
 obtain⟨R,hR⟩:∃R,dj l k=R:=⟨_,rfl⟩
 have Q9:eH l k (jJ l k) (jJ l k).length=R:=hR
 rw[hR]
 generalize jJ l k=B at ke El Jp Q9
 have wi:(B.map aa).length=B.length:=by simp
 (repeat(first|((repeat(revert hN;revert N;apply Pn.out));refine wk @wi ?_;(repeat(refine Pn.mk ?_;intro N hN)))|((try apply Or.inl);refine⟨_,ak.x (ke) (sd @wi),?_⟩;refine hN _ _ ?_;clear hN N)))
 refine aT (fun n env st=>∃i:Nat,n=(B.length)-i/\i<=(B.length)/\env 7=.int .i64 (i:Int)/\(∃(v:AV) (ids:List Id),st.get ⟨48001001,n0+1⟩=some ⟨true,1,[[v]]⟩/\lU ab 3 st.get v (eH l k B i) ids/\e8 (n0+2) st.next ids/\(∀u∈ids,u.site=48008009)/\st.get ⟨48000000,n0⟩=some ⟨true,1,[[.ck]]⟩/\n0+1<st.next)) (B.length) ⟨0,ae,ae,sl @Nat.zero_add,by(try dsimp only);exact⟨.ck,[],sl @Nat.zero_add,.inl ⟨rfl,rfl,rfl⟩,⟨List.nodup_nil,fun i hi=>by cases hi⟩,(fun i hi=>by cases hi),sd @Nat.zero_add,ae⟩⟩ ?_
 rintro n_a env_a st_a ⟨i,rfl,ale,a7,kB⟩ dr
 have a0:=dr 0 (by kernel_rfl);have a1:=dr 1 (by kernel_rfl);have a4:=dr 4 (by kernel_rfl);have a5:=dr 5 (by kernel_rfl);have a6:=dr 6 (by kernel_rfl)
 simp only[go_sem, ↓reduceIte,Nat.reduceEqDiff,Nat.reduceAdd,Nat.reduceSub,Nat.reduceLeDiff,reduceCtorEq]at a0 a1 a4 a5 a6
 clear dr
 obtain⟨v,ids,ag,aO,aN,aS,ar,an⟩:=kB
 by_cases hi:(i:Int)<(B.length:Int)
 ·have bZ:∀{e:Env} {gg:Rows} {nx:Nat},(e 7=.int .i64 (IntKind.i64.wrap ((i:Int)+1)))->(∃(v:AV) (ids:List Id),gg ⟨48001001,n0+1⟩=some ⟨true,1,[[v]]⟩/\lU ab 3 gg v (eH l k B (i+1)) ids/\e8 (n0+2) nx ids/\(∀u∈ids,u.site=48008009)/\gg ⟨48000000,n0⟩=some ⟨true,1,[[.ck]]⟩/\n0+1<nx)->∃m0,m0<(B.length)-i/\∃i:Nat,m0=(B.length)-i/\i<=(B.length)/\e 7=.int .i64 (i:Int)/\(∃(v:AV) (ids:List Id),gg ⟨48001001,n0+1⟩=some ⟨true,1,[[v]]⟩/\lU ab 3 gg v (eH l k B i) ids/\e8 (n0+2) nx ids/\(∀u∈ids,u.site=48008009)/\gg ⟨48000000,n0⟩=some ⟨true,1,[[.ck]]⟩/\n0+1<nx):=fun x1 x2=>⟨_,ae,i+1,rfl,ae,(by rw[x1,aB ae]),x2⟩
  have fB:i<B.length:=ae
  have gT:=sq fB
  have Uc:=rz (El i fB)
  have hc:=G5 (iu B i) ae ae
  rw[aa]at gT hc
  obtain⟨n,hn⟩:∃n,lW l (iu B i) k=n:=⟨_,rfl⟩
  rw[hn]at hc
  by_cases h0:0<=n
  ·have mT:eH l k B (i+1)=eH l k B i++[⟨iu B i,n⟩]:=by rw[eH,hn,if_pos h0]
   rcases aO with⟨hL,rfl,rfl⟩|⟨u,rfl,hu,rfl,k6⟩
   ·(repeat(first|((repeat(revert hN;revert N;apply Pn.out));refine wk (tw @a7 (tw @a0 (tw @a1 (tw @a4 (tw @a5 (tw @a6 (tw @hi (tw @gT (tw @wi (tw @ag (tw @ar @h0))))))))))) ?_;(repeat(refine Pn.mk ?_;intro N hN)))|((try apply Or.inl);refine⟨_,ak.x (hc) (sd (tw @a7 (tw @a0 (tw @a1 (tw @a4 (tw @a5 (tw @a6 (tw @hi (tw @gT (tw @wi (tw @ag (tw @ar @h0)))))))))))),?_⟩;refine hN _ _ ?_;clear hN N)))
    have wG:∀q:ah,(eH l k B i++[q]).map ab=[ab q]:=fun q=>by rw[hL];rfl
    have nR:∀q:ah,(eH l k B i++[q]).length=1:=fun q=>by rw[hL];rfl
    exact bZ (sd (tw @a7 (tw @a0 (tw @a1 (tw @a4 (tw @a5 @a6)))))) (by(try dsimp only);exact⟨.own ⟨48008009,st_a.next+1+1+1⟩ 0 1,[⟨48008009,st_a.next+1+1+1⟩],sl @Nat.zero_add,.inr ⟨⟨48008009,st_a.next+1+1+1⟩,by rw[mT,nR],by rw[mT,wG];simp only[go_sem, ↓reduceIte,Nat.reduceEqDiff,Nat.reduceAdd,Nat.reduceSub,Nat.reduceLeDiff,reduceCtorEq]<;>rfl,rfl,by rw[mT,nR];omega⟩,⟨List.nodup_cons.2 ⟨by simp,List.nodup_nil⟩,fun i hi=>by rw[List.mem_singleton.1 hi];(try dsimp only);omega⟩,(fun i hi=>by rw[List.mem_singleton.1 hi]),sd @ar,bW⟩)
   ·have x8:=aN.2 u (by simp)
    have y8:=aS u (by simp)
    have vu:=eX x8.2
    have ub:((⟨48001001,n0+1⟩:Id)=u)=False:=eq_false fun e=>absurd (show(48001001:Nat)=48008009 from(congrArg Id.site e).trans y8) (by decide)
    have bu:(u=(⟨48001001,n0+1⟩:Id))=False:=eq_false fun e=>absurd (show(48001001:Nat)=48008009 from(congrArg Id.site e).symm.trans y8) (by decide)
    have QA:((⟨48000000,n0⟩:Id)=u)=False:=eq_false fun e=>absurd (show(48000000:Nat)=48008009 from(congrArg Id.site e).trans y8) (by decide)
    have N1:=lq l k B i
    have Ll:(eH l k B i).length<=16777215:=ae
    have Bg:((eH l k B i).map ab).length=(eH l k B i).length:=by simp
    have wG:∀q:ah,(eH l k B i++[q]).map ab=(eH l k B i).map ab++[ab q]:=fun q=>by rw[List.map_append];rfl
    have nR:∀q:ah,(eH l k B i++[q]).length=(eH l k B i).length+1:=fun q=>by rw[List.length_append];rfl
    (repeat(first|((repeat(revert hN;revert N;apply Pn.out));refine wk (tw @a7 (tw @a0 (tw @a1 (tw @a4 (tw @a5 (tw @a6 (tw @hi (tw @gT (tw @wi (tw @ag (tw @ar (tw @h0 (tw @hu (tw @vu (tw @ub (tw @bu (tw @QA (tw @Bg @Ll)))))))))))))))))) ?_;(repeat(refine Pn.mk ?_;intro N hN)))|((try apply Or.inl);refine⟨_,ak.x (hc) (sd (tw @a7 (tw @a0 (tw @a1 (tw @a4 (tw @a5 (tw @a6 (tw @hi (tw @gT (tw @wi (tw @ag (tw @ar (tw @h0 (tw @hu (tw @vu (tw @ub (tw @bu (tw @QA (tw @Bg @Ll))))))))))))))))))),?_⟩;refine hN _ _ ?_;clear hN N)))
    exact bZ (sd (tw @a7 (tw @a0 (tw @a1 (tw @a4 (tw @a5 @a6)))))) (by(try dsimp only);exact⟨.own ⟨48008009,st_a.next+1+1+1⟩ 0 ((eH l k B i).length+1),[⟨48008009,st_a.next+1+1+1⟩],sl @Nat.zero_add,.inr ⟨⟨48008009,st_a.next+1+1+1⟩,by rw[mT,nR],by rw[mT,wG];simp only[go_sem, ↓reduceIte,Nat.reduceEqDiff,Nat.reduceAdd,Nat.reduceSub,Nat.reduceLeDiff,reduceCtorEq]<;>rfl,rfl,by rw[mT,nR];omega⟩,⟨List.nodup_cons.2 ⟨by simp,List.nodup_nil⟩,fun i hi=>by rw[List.mem_singleton.1 hi];(try dsimp only);omega⟩,(fun i hi=>by rw[List.mem_singleton.1 hi]),sd (tw @ar @QA),bW⟩)
  ·have mT:eH l k B (i+1)=eH l k B i:=by rw[eH,hn,if_neg h0]
   (repeat(first|((repeat(revert hN;revert N;apply Pn.out));refine wk (tw @a7 (tw @a0 (tw @a1 (tw @a4 (tw @a5 (tw @a6 (tw @hi (tw @gT (tw @wi @h0))))))))) ?_;(repeat(refine Pn.mk ?_;intro N hN)))|((try apply Or.inl);refine⟨_,ak.x (hc) (sd (tw @a7 (tw @a0 (tw @a1 (tw @a4 (tw @a5 (tw @a6 (tw @hi (tw @gT (tw @wi @h0)))))))))),?_⟩;refine hN _ _ ?_;clear hN N)))
   exact bZ (sd (tw @a7 (tw @a0 (tw @a1 (tw @a4 (tw @a5 @a6)))))) (by(try dsimp only);exact⟨v,ids,ag,by rw[mT];exact aO,aN.wide (Nat.le_refl _) bW,aS,ar,ae⟩)
 ·have nj:i=B.length:=ae
  subst nj
  rw[Q9]at aO
  rcases aO with⟨hL,rfl,rfl⟩|⟨u,rfl,hu,rfl,k6⟩
  ·(try((repeat(revert hN;revert N;apply Pn.out));refine wk (tw @a7 (tw @a0 (tw @a1 (tw @a4 (tw @a5 (tw @a6 (tw @hi (tw @wi (tw @ag @ar))))))))) ?_;(repeat(refine Pn.mk ?_;intro N hN))))
   exact gZ (.inl rfl) (vs:=[.agg [.ck]]) (sd @a4) (by rw[hL];simp[xK,eJ,jR,aI,aW,gC])
  ·have y8:=aS u (by simp)
   have UU:(u=(⟨48000000,n0⟩:Id))=False:=eq_false fun e=>absurd (show(48000000:Nat)=48008009 from(congrArg Id.site e).symm.trans y8) (by decide)
   (try((repeat(revert hN;revert N;apply Pn.out));refine wk (tw @a7 (tw @a0 (tw @a1 (tw @a4 (tw @a5 (tw @a6 (tw @hi (tw @wi (tw @ag @ar))))))))) ?_;(repeat(refine Pn.mk ?_;intro N hN))))
   have hz:=fun r=>e9 (g:=bU st_a.get ⟨48000000,n0⟩ r) (id:=u) (l:=R) (e:=ab) (n:=4) (sz:=3) (by simp only[bU,UU,if_false];exact hu) rfl fun y=>by simp[ab,aI,aW,dw]
   exact gZ (.inl rfl) (vs:=[.agg [.own u 0 R.length]]) (sd @a4) (by rw[xK,if_neg ae];simp[eJ,jR,aI,aW,hz])
end
def J9 (s:aw) (t:Int) (d:Int) (u:Int):Bool:= !decide (dK (dL s t) d=dK (dL s u) (ny d))
def gV (b:aq) (d:Int) (k c:Nat):aq:=if d=0 then⟨b.dQ*k+c,b.dH*k+((k-1:Nat):Int)⟩else⟨b.dQ*k+((k-1:Nat):Int),b.dH*k+c⟩
noncomputable def ES (s:aw) (l:List ah) (p:aq) (d:Int):Bool:=J9 s (oY l p) d (oY l (dt p d))
noncomputable def gq (s:aw) (l:List ah) (b:aq) (d:Int) (k:Nat):Nat->Nat
 |0=>0
 |c+1=>gq s l b d k c+if ES s l (gV b d k c) d=true then 1 else 0
theorem pk (s:aw) (l:List ah) (b:aq) (d:Int) (k:Nat):∀c,gq s l b d k c<=c
 |0=>Nat.le_refl _
 |c+1=>by
  have h:=pk s l b d k c
  rw[gq]
  split<;>omega
section
set_option maxRecDepth 100000
set_option maxHeartbeats 16000000
theorem Cy (s:aw) (hF:jb s) (t u d:Int) (ht:gR s t=true) (hu:gR s u=true) (hd:iw d 0 3=true):ak Tryz.prog 100 [.dq (ad s),.int .i64 t,.int .i64 d,.int .i64 u] (.bool (J9 s t d u)):=by
 refine ak.body eM rfl fun hl n0=>?_
 clear hl
 obtain⟨t0,t1,t2⟩:=j5 ht
 obtain⟨u0,u1,u2⟩:=j5 hu
 have eb:=vG d hd
 have hod:iw (ny d) 0 3=true:=by
  have h:=dX hd
  rw[ny,if_pos hd]
  exact mC ae
 have s1:=j4 (hF.pD _ t2) hd
 have s2:=j4 (hF.pD _ u2) hod
 have d0:=(dX hd).1
 have d1:=(dX hod).1
 rw[J9]
 generalize dK (dL s t) d=x at s1 ⊢
 generalize dK (dL s u) (ny d)=y at s2 ⊢
 generalize ny d=o at eb s2 d1
 (repeat(first|((repeat(revert hN;revert N;apply Pn.out));refine wk (tw @ad.eq_1 (tw @bm.eq_1 (tw @t0 (tw @t1 (tw @u0 (tw @u1 (tw @s1 (tw @s2 (tw @d0 @d1))))))))) ?_;(repeat(refine Pn.mk ?_;intro N hN)))|((try apply Or.inl);refine⟨_,ak.x (eb) (sd (tw @ad.eq_1 (tw @bm.eq_1 (tw @t0 (tw @t1 (tw @u0 (tw @u1 (tw @s1 (tw @s2 (tw @d0 @d1)))))))))),?_⟩;refine hN _ _ ?_;clear hN N)))
 exact aZ (b:= !decide (x=y)) (.inl rfl) (sd @Nat.zero_add) rfl
theorem Au (s:cj) (l:List ah) (hF:jb s.aC) (hA:qJ s.aC l) (b:aq) (d:Int) (k:Nat) (h1:1<=k) (h4:k<=4) (hd:d=0∨d=1) (hx: -1000000<=b.dQ/\b.dQ<=1000000) (hy: -1000000<=b.dH/\b.dH<=1000000)
  (h0:∀c,c<k->0<=oY l (gV b d k c)/\0<=oY l (dt (gV b d k c) d)):ak Tryz.prog 50 [.dq (ad s.aC),.dq [.sl (l.map ab)],.agg (aa b),.int .i64 d,.int .i64 (k:Int)] (.int .i64 (gq s.aC l b d k k:Nat)):=by
 refine ak.body eM rfl fun hl n0=>?_
 clear hl
 have hR:=hA.1.Qn
 have Ah:=hA.1.zX
 have Mp:iw d 0 3=true:=mC ae
 have ux:IntKind.i64.wrap ((k:Int)-1)=((k-1:Nat):Int):=by rw[aJ ae];omega
 have m1:=mul_k h1 h4 hx
 have m2:=mul_k h1 h4 hy
 rw[aa]
 (try((repeat(revert hN;revert N;apply Pn.out));refine wk @Nat.zero_add ?_;(repeat(refine Pn.mk ?_;intro N hN))))
 refine aT (fun n env st=>∃c:Nat,n=(k)-c/\c<=(k)/\env 12=.int .i64 (c:Int)/\env 11=.int .i64 (gq s.aC l b d k c:Nat)/\st.get ⟨50000000,n0⟩=some ⟨true,2,[[.int .i64 b.dQ,.int .i64 b.dH]]⟩) (k) ⟨0,ae,ae,sl @Nat.zero_add,sl @Nat.zero_add,sl @Nat.zero_add⟩ ?_
 rintro n_a env_a st_a ⟨c,rfl,ale,a12,fV,ag0⟩ dr
 have a0:=dr 0 (by kernel_rfl);have a1:=dr 1 (by kernel_rfl);have a3:=dr 3 (by kernel_rfl);have a4:=dr 4 (by kernel_rfl);have a7:=dr 7 (by kernel_rfl)
 simp only[go_sem, ↓reduceIte,Nat.reduceEqDiff,Nat.reduceAdd,Nat.reduceSub,Nat.reduceLeDiff,reduceCtorEq]at a0 a1 a3 a4 a7
 clear dr
 by_cases hc:(c:Int)<(k:Int)
 ·have bZ:∀{e:Env} {gg:Rows},(e 12=.int .i64 (IntKind.i64.wrap ((c:Int)+1)))->(e 11=.int .i64 (gq s.aC l b d k (c+1):Nat))->(gg ⟨50000000,n0⟩=some ⟨true,2,[[.int .i64 b.dQ,.int .i64 b.dH]]⟩)->∃m0,m0<(k)-c/\∃c:Nat,m0=(k)-c/\c<=(k)/\e 12=.int .i64 (c:Int)/\e 11=.int .i64 (gq s.aC l b d k c:Nat)/\gg ⟨50000000,n0⟩=some ⟨true,2,[[.int .i64 b.dQ,.int .i64 b.dH]]⟩:=fun x1 x2 x3=>⟨_,ae,c+1,rfl,ae,(by rw[x1,aB ae]),x2,x3⟩
  have ql:c<k:=ae
  have e1:=tC b (k-1) c k h1 h4 hx hy ae ae
  have e2:=tC b c (k-1) k h1 h4 hx hy ae ae
  rw[aa,aa]at e1 e2
  (try dsimp only at e1 e2)
  obtain⟨p0,p1⟩:=h0 c ql
  have ht:=rP hA p0
  have hu:=rP hA p1
  have FZ:=Cy s.aC hF _ _ d ht hu Mp
  have hle:=pk s.aC l b d k c
  have k6:gq s.aC l b d k (c+1)=gq s.aC l b d k c+if ES s.aC l (gV b d k c) d=true then 1 else 0:=rfl
  have Dl:=Aq l (gV b d k c) hR ae
  have SM:iB (gV b d k c).dQ/\iB (gV b d k c).dH:=by
   unfold gV iB
   split<;>(constructor<;>(constructor<;>(dsimp only;omega)))
  have st:=zf (gV b d k c) d Mp SM.1 SM.2
  have Gz:=Aq l (dt (gV b d k c) d) hR ae
  rw[show J9 s.aC (oY l (gV b d k c)) d (oY l (dt (gV b d k c) d))=ES s.aC l (gV b d k c) d from rfl]at FZ
  obtain⟨tt,V7⟩:∃tt,oY l (gV b d k c)=tt:=⟨_,rfl⟩
  rw[V7]at Dl FZ
  generalize oY l (dt (gV b d k c) d)=u at Gz FZ
  generalize dt (gV b d k c) d=q2 at st Gz
  rw[aa]at st Dl Gz
  rcases hd with rfl|rfl
  ·have hr:gV b 0 k c=⟨b.dQ*k+c,b.dH*k+((k-1:Nat):Int)⟩:=rfl
   rw[hr]at st Dl
   (try dsimp only at st Dl)
   have d0:decide ((0:Int)=0)=true:=rfl
   cases hm:ES s.aC l (gV b 0 k c) 0
   ·rw[hm]at FZ k6
    rw[if_neg (by simp),Nat.add_zero]at k6
    (repeat(first|((repeat(revert hN;revert N;apply Pn.out));refine wk (tw @a12 (tw @fV (tw @ag0 (tw @a0 (tw @a1 (tw @a3 (tw @a4 (tw @a7 (tw @hc (tw @ux (tw @d0 @aa.eq_1))))))))))) ?_;(repeat(refine Pn.mk ?_;intro N hN)))|((try apply Or.inl);refine⟨_,ak.x (e1) (sd (tw @a12 (tw @fV (tw @ag0 (tw @a0 (tw @a1 (tw @a3 (tw @a4 (tw @a7 (tw @hc (tw @ux (tw @d0 @aa.eq_1)))))))))))),?_⟩;refine hN _ _ ?_;clear hN N)|((try apply Or.inl);refine⟨_,ak.x (e2) (sd (tw @a12 (tw @fV (tw @ag0 (tw @a0 (tw @a1 (tw @a3 (tw @a4 (tw @a7 (tw @hc (tw @ux (tw @d0 @aa.eq_1)))))))))))),?_⟩;refine hN _ _ ?_;clear hN N)|((try apply Or.inl);refine⟨_,ak.x (Dl) (sd (tw @a12 (tw @fV (tw @ag0 (tw @a0 (tw @a1 (tw @a3 (tw @a4 (tw @a7 (tw @hc (tw @ux (tw @d0 @aa.eq_1)))))))))))),?_⟩;refine hN _ _ ?_;clear hN N)|((try apply Or.inl);refine⟨_,ak.x (st) (sd (tw @a12 (tw @fV (tw @ag0 (tw @a0 (tw @a1 (tw @a3 (tw @a4 (tw @a7 (tw @hc (tw @ux (tw @d0 @aa.eq_1)))))))))))),?_⟩;refine hN _ _ ?_;clear hN N)|((try apply Or.inl);refine⟨_,ak.x (Gz) (sd (tw @a12 (tw @fV (tw @ag0 (tw @a0 (tw @a1 (tw @a3 (tw @a4 (tw @a7 (tw @hc (tw @ux (tw @d0 @aa.eq_1)))))))))))),?_⟩;refine hN _ _ ?_;clear hN N)|((try apply Or.inl);refine⟨_,ak.x (FZ) (sd (tw @a12 (tw @fV (tw @ag0 (tw @a0 (tw @a1 (tw @a3 (tw @a4 (tw @a7 (tw @hc (tw @ux (tw @d0 @aa.eq_1)))))))))))),?_⟩;refine hN _ _ ?_;clear hN N)))
    refine bZ ?_ ?_ ?_
    all_goals simp only[go_sem, ↓reduceIte,Nat.reduceEqDiff,Nat.reduceAdd,Nat.reduceSub,Nat.reduceLeDiff,reduceCtorEq,a12,fV,ag0,a0,a1,a3,a4,a7,k6]
   ·rw[hm]at FZ k6
    rw[if_pos rfl]at k6
    have hw:IntKind.i64.wrap ((gq s.aC l b 0 k c:Int)+1)=((gq s.aC l b 0 k c+1:Nat):Int):=by rw[aJ ae];omega
    (repeat(first|((repeat(revert hN;revert N;apply Pn.out));refine wk (tw @a12 (tw @fV (tw @ag0 (tw @a0 (tw @a1 (tw @a3 (tw @a4 (tw @a7 (tw @hc (tw @ux (tw @d0 @aa.eq_1))))))))))) ?_;(repeat(refine Pn.mk ?_;intro N hN)))|((try apply Or.inl);refine⟨_,ak.x (e1) (sd (tw @a12 (tw @fV (tw @ag0 (tw @a0 (tw @a1 (tw @a3 (tw @a4 (tw @a7 (tw @hc (tw @ux (tw @d0 @aa.eq_1)))))))))))),?_⟩;refine hN _ _ ?_;clear hN N)|((try apply Or.inl);refine⟨_,ak.x (e2) (sd (tw @a12 (tw @fV (tw @ag0 (tw @a0 (tw @a1 (tw @a3 (tw @a4 (tw @a7 (tw @hc (tw @ux (tw @d0 @aa.eq_1)))))))))))),?_⟩;refine hN _ _ ?_;clear hN N)|((try apply Or.inl);refine⟨_,ak.x (Dl) (sd (tw @a12 (tw @fV (tw @ag0 (tw @a0 (tw @a1 (tw @a3 (tw @a4 (tw @a7 (tw @hc (tw @ux (tw @d0 @aa.eq_1)))))))))))),?_⟩;refine hN _ _ ?_;clear hN N)|((try apply Or.inl);refine⟨_,ak.x (st) (sd (tw @a12 (tw @fV (tw @ag0 (tw @a0 (tw @a1 (tw @a3 (tw @a4 (tw @a7 (tw @hc (tw @ux (tw @d0 @aa.eq_1)))))))))))),?_⟩;refine hN _ _ ?_;clear hN N)|((try apply Or.inl);refine⟨_,ak.x (Gz) (sd (tw @a12 (tw @fV (tw @ag0 (tw @a0 (tw @a1 (tw @a3 (tw @a4 (tw @a7 (tw @hc (tw @ux (tw @d0 @aa.eq_1)))))))))))),?_⟩;refine hN _ _ ?_;clear hN N)|((try apply Or.inl);refine⟨_,ak.x (FZ) (sd (tw @a12 (tw @fV (tw @ag0 (tw @a0 (tw @a1 (tw @a3 (tw @a4 (tw @a7 (tw @hc (tw @ux (tw @d0 @aa.eq_1)))))))))))),?_⟩;refine hN _ _ ?_;clear hN N)))
    refine bZ ?_ ?_ ?_
    all_goals simp only[go_sem, ↓reduceIte,Nat.reduceEqDiff,Nat.reduceAdd,Nat.reduceSub,Nat.reduceLeDiff,reduceCtorEq,a12,fV,ag0,a0,a1,a3,a4,a7,k6,hw]
  ·have hr:gV b 1 k c=⟨b.dQ*k+((k-1:Nat):Int),b.dH*k+c⟩:=rfl
   rw[hr]at st Dl
   (try dsimp only at st Dl)
   have d0:decide ((1:Int)=0)=false:=rfl
   cases hm:ES s.aC l (gV b 1 k c) 1
   ·rw[hm]at FZ k6
    rw[if_neg (by simp),Nat.add_zero]at k6
    (repeat(first|((repeat(revert hN;revert N;apply Pn.out));refine wk (tw @a12 (tw @fV (tw @ag0 (tw @a0 (tw @a1 (tw @a3 (tw @a4 (tw @a7 (tw @hc (tw @ux (tw @d0 @aa.eq_1))))))))))) ?_;(repeat(refine Pn.mk ?_;intro N hN)))|((try apply Or.inl);refine⟨_,ak.x (e1) (sd (tw @a12 (tw @fV (tw @ag0 (tw @a0 (tw @a1 (tw @a3 (tw @a4 (tw @a7 (tw @hc (tw @ux (tw @d0 @aa.eq_1)))))))))))),?_⟩;refine hN _ _ ?_;clear hN N)|((try apply Or.inl);refine⟨_,ak.x (Dl) (sd (tw @a12 (tw @fV (tw @ag0 (tw @a0 (tw @a1 (tw @a3 (tw @a4 (tw @a7 (tw @hc (tw @ux (tw @d0 @aa.eq_1)))))))))))),?_⟩;refine hN _ _ ?_;clear hN N)|((try apply Or.inl);refine⟨_,ak.x (st) (sd (tw @a12 (tw @fV (tw @ag0 (tw @a0 (tw @a1 (tw @a3 (tw @a4 (tw @a7 (tw @hc (tw @ux (tw @d0 @aa.eq_1)))))))))))),?_⟩;refine hN _ _ ?_;clear hN N)|((try apply Or.inl);refine⟨_,ak.x (Gz) (sd (tw @a12 (tw @fV (tw @ag0 (tw @a0 (tw @a1 (tw @a3 (tw @a4 (tw @a7 (tw @hc (tw @ux (tw @d0 @aa.eq_1)))))))))))),?_⟩;refine hN _ _ ?_;clear hN N)|((try apply Or.inl);refine⟨_,ak.x (FZ) (sd (tw @a12 (tw @fV (tw @ag0 (tw @a0 (tw @a1 (tw @a3 (tw @a4 (tw @a7 (tw @hc (tw @ux (tw @d0 @aa.eq_1)))))))))))),?_⟩;refine hN _ _ ?_;clear hN N)))
    refine bZ ?_ ?_ ?_
    all_goals simp only[go_sem, ↓reduceIte,Nat.reduceEqDiff,Nat.reduceAdd,Nat.reduceSub,Nat.reduceLeDiff,reduceCtorEq,a12,fV,ag0,a0,a1,a3,a4,a7,k6]
   ·rw[hm]at FZ k6
    rw[if_pos rfl]at k6
    have hw:IntKind.i64.wrap ((gq s.aC l b 1 k c:Int)+1)=((gq s.aC l b 1 k c+1:Nat):Int):=by rw[aJ ae];omega
    (repeat(first|((repeat(revert hN;revert N;apply Pn.out));refine wk (tw @a12 (tw @fV (tw @ag0 (tw @a0 (tw @a1 (tw @a3 (tw @a4 (tw @a7 (tw @hc (tw @ux (tw @d0 @aa.eq_1))))))))))) ?_;(repeat(refine Pn.mk ?_;intro N hN)))|((try apply Or.inl);refine⟨_,ak.x (e1) (sd (tw @a12 (tw @fV (tw @ag0 (tw @a0 (tw @a1 (tw @a3 (tw @a4 (tw @a7 (tw @hc (tw @ux (tw @d0 @aa.eq_1)))))))))))),?_⟩;refine hN _ _ ?_;clear hN N)|((try apply Or.inl);refine⟨_,ak.x (Dl) (sd (tw @a12 (tw @fV (tw @ag0 (tw @a0 (tw @a1 (tw @a3 (tw @a4 (tw @a7 (tw @hc (tw @ux (tw @d0 @aa.eq_1)))))))))))),?_⟩;refine hN _ _ ?_;clear hN N)|((try apply Or.inl);refine⟨_,ak.x (st) (sd (tw @a12 (tw @fV (tw @ag0 (tw @a0 (tw @a1 (tw @a3 (tw @a4 (tw @a7 (tw @hc (tw @ux (tw @d0 @aa.eq_1)))))))))))),?_⟩;refine hN _ _ ?_;clear hN N)|((try apply Or.inl);refine⟨_,ak.x (Gz) (sd (tw @a12 (tw @fV (tw @ag0 (tw @a0 (tw @a1 (tw @a3 (tw @a4 (tw @a7 (tw @hc (tw @ux (tw @d0 @aa.eq_1)))))))))))),?_⟩;refine hN _ _ ?_;clear hN N)|((try apply Or.inl);refine⟨_,ak.x (FZ) (sd (tw @a12 (tw @fV (tw @ag0 (tw @a0 (tw @a1 (tw @a3 (tw @a4 (tw @a7 (tw @hc (tw @ux (tw @d0 @aa.eq_1)))))))))))),?_⟩;refine hN _ _ ?_;clear hN N)))
    refine bZ ?_ ?_ ?_
    all_goals simp only[go_sem, ↓reduceIte,Nat.reduceEqDiff,Nat.reduceAdd,Nat.reduceSub,Nat.reduceLeDiff,reduceCtorEq,a12,fV,ag0,a0,a1,a3,a4,a7,k6,hw]
 ·have ql:c=k:=ae
  subst ql
  (try((repeat(revert hN;revert N;apply Pn.out));refine wk (tw @a12 (tw @fV (tw @ag0 (tw @a0 (tw @a1 (tw @a3 (tw @a4 (tw @a7 @hc)))))))) ?_;(repeat(refine Pn.mk ?_;intro N hN))))
  exact cu (b:=(gq s.aC l b d c c:Nat)) (.inl rfl) (sd (tw @a12 (tw @fV (tw @ag0 (tw @a0 (tw @a1 (tw @a3 (tw @a4 @a7)))))))) rfl
end
end Go.Proofs.YtkbipfflibjfbaaGreat.V

namespace Go.Proofs.YtkbipfflibjfbaaGreat.V
open Go.RowKit
attribute [local irreducible] ef wpOps gN Call
attribute [local go_sem] aH fJ eW fZ gh dh upd cD K.av cP AV.cells AV.cell rowOf rowsOf part ld rowAt bU cw dI ek iq bL de eD gj fq dx ew db da dW dY bR bd cU bQ cW cV er ez eu cR bV dc eo bP aL cY cI im br cH bz bc dB bo dF AV.undef bx bE dZ ej dV ec cJ eC eE cF eB eA cX cZ List.getD_cons_zero List.getD_cons_succ List.getD_nil List.all_cons List.all_nil Bool.and_true Bool.true_and Bool.and_self Bool.not_true Bool.not_false Option.map_some Option.map_none Option.bind_some Option.bind_none List.length_cons List.length_nil List.take_succ_cons List.take_zero List.take_nil List.drop_succ_cons List.drop_zero List.drop_nil List.head?_cons List.map_cons List.map_nil List.getElem?_cons_zero List.getElem?_cons_succ List.cons_append List.nil_append List.append_nil List.length_map List.set_cons_zero List.set_cons_succ eq_self Int.toNat_natCast Int.natCast_nonneg and_self true_and and_true decide_true decide_false Bool.false_eq_true Nat.zero_add Nat.add_zero List.contains_cons List.contains_nil Bool.or_false Bool.false_or beq_self_eq_true ne_eq not_true_eq_false not_false_eq_true Id.mk.injEq false_and and_false Nat.le_refl List.length_append beq_true beq_false Bool.not_eq_eq_eq_not or_false false_or dM ai ao aD bt cz aY bj aV bf cL bJ
section
variable {P:Program} {α:Type} {R:yq α} {e:α->List AV} {z:Nat} {g g':Rows} {v:AV} {L:List α} {ids:List Id}
def RE (R:yq α) (z:Nat) (g:Rows) (v:AV) (L:List α) (ids:List Id):Prop:=(L=[]/\v=.ck/\ids=[])∨(iQ R z g v L ids/\0<L.length)
end
def zU (R:List ah):List AV:=[.sl (R.map ab)]
def vI:yq (List ah):=fun g cs R ids=>∃u,cs=[.own u 0 R.length]/\g u=some ⟨true,3,R.map ab⟩/\ids=[u]
theorem UE:uA vI 1 where
 frame:=fun⟨i,h1,h2,h3⟩ hf=>⟨i,h1,(hf i (by rw[h3];simp)).trans h2,h3⟩
 len:=fun⟨i,h1,_⟩=>by rw[h1];rfl
 cell:=fun⟨i,h1,_⟩=>by rw[h1];rfl
 live:=fun⟨i,h1,h2,h3⟩ j hj=>by
  rw[h3]at hj
  have:j=i:=by simpa using hj
  subst this
  exact⟨_,h2,rfl,by simp[qt]⟩
 small:=by simp[qt]
theorem Tx {g:Rows} {cs:List AV} {x:List ah} {ids:List Id} (n:Nat) (h:vI g cs x ids):cQ (dM g) (n+2) cs=some (zU x):=by
 obtain⟨i,rfl,h2,_⟩:=h
 have h3:V.fz (dM g) (n+2) (.own i 0 x.length)=some (.sl (x.map ab)):=gH (e:=ab) (sz:=3) (by simp[dM,h2]) rfl fun y=>by simp[ab,ai,ao,aD]
 simp only[ai,ao,h3,Option.map_some,zU]
theorem RB {g:Rows} {cs:List AV} {x:List ah} {ids:List Id} (n:Nat) (h:vI g cs x ids):eh g (n+2) cs=some (zU x):=by
 obtain⟨i,rfl,h2,_⟩:=h
 have h3:gw g (n+2) (.own i 0 x.length)=some (.sl (x.map ab)):=e9 (e:=ab) h2 rfl fun y=>by simp[ab,aI,aW,dw]
 simp only[aI,aW,h3,Option.map_some,zU]
theorem Qp {g:Rows} {cs:List AV} {x:List ah} {ids:List Id} (h:vI g cs x ids):cs.all AV.clean=true/\Handed ids g:=by
 obtain⟨i,rfl,h2,rfl⟩:=h
 refine⟨rfl,fun j hj=>?_⟩
 rw[List.mem_singleton.1 hj]
 refine⟨_,h2,rfl,fun cs dy a ha=>?_⟩
 obtain⟨y,_,rfl⟩:=List.mem_map.1 dy
 exact List.all_eq_true.1 (RU y) a ha
def OutRs (g:Rows) (v:AV) (L:List (List ah)) (ids:List Id):Prop:=RE vI 1 g v L ids
section
variable {g g':Rows} {v:AV} {L:List (List ah)} {ids:List Id}
end
end Go.Proofs.YtkbipfflibjfbaaGreat.V
