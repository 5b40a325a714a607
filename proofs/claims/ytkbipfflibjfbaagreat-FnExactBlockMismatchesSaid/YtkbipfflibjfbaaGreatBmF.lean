/- slices.Reverse of one's own numbers. -/
import Derived.Test.YtkbipfflibjfbaaGreatBmE
import Derived.Test.YtkbipfflibjfbaaGreatBmB
import Derived.Test.YtkbipfflibjfbaaGreatBmC
import Derived.Maps.RangeRun
import Derived.Test.YtkbipfflibjfbaaGreatBmD
import Derived.Test.YtkbipfflibjfbaaGreatChecked
import Derived.ProofKit
import Derived.Deep.Slices
import Derived.ChangeSame
import Derived.Test.YtkbipfflibjfbaaGreatRows
import Derived.OpenShut
import Derived.ShutString
import Derived.ChangeOld
import Derived.Below
set_option linter.unusedVariables false
set_option linter.unusedSimpArgs false
set_option maxRecDepth 100000
set_option maxHeartbeats 16000000
namespace Go.Proofs.YtkbipfflibjfbaaGreat.V
open Go.RowKit
attribute [local irreducible] ef wpOps gN Call
attribute [local go_sem] aH fJ eW fZ gh dh upd cD K.av cP AV.cells AV.cell rowOf rowsOf part ld rowAt bU cw dI ek iq bL de eD gj fq dx ew db da dW dY bR bd cU bQ cW cV er ez eu cR bV dc eo bP aL cY cI im br cH bz bc dB bo dF AV.undef bx bE dZ ej dV ec cJ eC eE cF eB eA cX cZ List.getD_cons_zero List.getD_cons_succ List.getD_nil List.all_cons List.all_nil Bool.and_true Bool.true_and Bool.and_self Bool.not_true Bool.not_false Option.map_some Option.map_none Option.bind_some Option.bind_none List.length_cons List.length_nil List.take_succ_cons List.take_zero List.take_nil List.drop_succ_cons List.drop_zero List.drop_nil List.head?_cons List.map_cons List.map_nil List.getElem?_cons_zero List.getElem?_cons_succ List.cons_append List.nil_append List.append_nil List.length_map List.set_cons_zero List.set_cons_succ Nat.reduceMul eq_self Int.toNat_natCast Int.natCast_nonneg and_self true_and and_true decide_true decide_false Bool.false_eq_true Nat.zero_add Nat.add_zero List.contains_cons List.contains_nil Bool.or_false Bool.false_or beq_self_eq_true Nat.reduceBEq ne_eq not_true_eq_false not_false_eq_true Id.mk.injEq false_and and_false Nat.reduceLT Int.reduceLE Int.reduceLT Int.reduceToNat Int.reduceNeg Int.reduceAdd Nat.le_refl List.length_append beq_true beq_false Bool.not_eq_eq_eq_not or_false false_or dM ai ao aD bt cz aY bj aV bf cL bJ
def mJ (l:List Nat) (i x:Nat):Nat:=if x<i∨l.length-i<=x then l.getD (l.length-1-x) 0 else l.getD x 0
theorem zw (l:List Nat):l.map eN=dU (fun x=>l.getD x 0) l.length:=by
 refine List.ext_getElem? fun i=>?_
 by_cases h:i<l.length
 ·rw[fG h,List.getElem?_map,List.getElem?_eq_getElem h];simp[List.getD_eq_getElem?_getD,h]
 ·rw[List.getElem?_eq_none (by simp;omega),List.getElem?_eq_none (by rw[gD];omega)]
theorem HM (l:List Nat):dU (mJ l 0) l.length=l.map eN:=by
 rw[zw]
 exact iG fun x hx=>by unfold mJ;rw[if_neg ae]
theorem Ky (l:List Nat) {i:Nat} (h:l.length<=2*i+1) (hi:i<=l.length):dU (mJ l i) l.length=l.reverse.map eN:=by
 rw[zw l.reverse,List.length_reverse]
 refine iG fun x hx=>?_
 have hr:l.reverse.getD x 0=l.getD (l.length-1-x) 0:=by
  rw[List.getD_eq_getElem?_getD,List.getElem?_reverse hx,List.getD_eq_getElem?_getD]
 rw[hr]
 unfold mJ
 by_cases hc:x<i∨l.length-i<=x
 ·rw[if_pos hc]
 ·rw[if_neg hc]
  have:x=l.length-1-x:=ae
  rw[<-this]
theorem HN (l:List Nat) (hp:0<l.length) (hl:l.length<=1048576) (o:Id) (σ:ax) (ho:σ.get o=some ⟨true,1,l.map eN⟩) (r9:o.cC<σ.next):
  Call Tryz.prog 239 [.own o 0 l.length] σ fun r σ'=>σ'.get o=some ⟨true,1,l.reverse.map eN⟩/\σ.next<=σ'.next/\∀i:Id,i.cC<σ.next->(i=o)=False->σ'.get i=σ.get i:=by
 refine fj eM rfl fun wz=>?_
 clear wz
 rw[<-HM]at ho
 have It:IntKind.i64.wrap ((l.length:Int)-1)=((l.length-1:Nat):Int):=by rw[aJ ae];omega
 (try((repeat(revert hN;revert N;apply Pn.out));refine wk @It ?_;(repeat(refine Pn.mk ?_;intro N hN))))
 refine aT (fun m env st=>∃i:Nat,m=l.length-i/\2*i<=l.length+1/\i<=l.length/\env 2=.int .i64 (i:Int)/\env 3=.int .i64 ((l.length:Int)-1-i)/\st.get o=some ⟨true,1,dU (mJ l i) l.length⟩/\σ.next<=st.next/\∀x:Id,x.cC<σ.next->(x=o)=False->st.get x=σ.get x) l.length ⟨0,rfl,ae,ae,by(simp only[go_sem, ↓reduceIte,Nat.reduceEqDiff,Nat.reduceAdd,Nat.reduceSub,Nat.reduceLeDiff,reduceCtorEq])<;>rfl,by(simp only[go_sem, ↓reduceIte,Nat.reduceEqDiff,Nat.reduceAdd,Nat.reduceSub,Nat.reduceLeDiff,reduceCtorEq,It]);congr 1;omega,ho,bW,fun x _ _=>rfl⟩ ?_
 rintro m env_b st_b ⟨i,rfl,yZ,nj,b2,b3,bg,bn,bfr⟩ bkp
 have b0:=bkp 0 (by kernel_rfl)
 simp only[go_sem, ↓reduceIte,Nat.reduceEqDiff,Nat.reduceAdd,Nat.reduceSub,Nat.reduceLeDiff,reduceCtorEq]at b0
 clear bkp
 have tl:=gD (mJ l i) l.length
 have lZ:=eX (i:=o) (n:=st_b.next) ae
 by_cases hi:(i:Int)<(l.length:Int)-1-i
 ·have fB:i<l.length:=ae
  obtain⟨j,hj⟩:∃j,j=l.length-1-i:=⟨_,rfl⟩
  have jI:j<l.length:=ae
  have Mv:(l.length:Int)-1-i=(j:Int):=ae
  rw[Mv]at b3 hi
  have g1:=fG (f:=mJ l i) fB
  have g2:=fG (f:=mJ l i) jI
  have e1:mJ l i i=l.getD i 0:=by unfold mJ;rw[if_neg ae]
  have e2:mJ l i j=l.getD j 0:=by unfold mJ;rw[if_neg ae]
  have Of:(dU (mJ l i) l.length).set i (eN (l.getD j 0))=dU (fun x=>if x=i then l.getD j 0 else mJ l i x) l.length:=qd fB (if_pos rfl) fun x _ hx=>if_neg hx
  have JK:(dU (fun x=>if x=i then l.getD j 0 else mJ l i x) l.length).set j (eN (l.getD i 0))=dU (mJ l (i+1)) l.length:=qd jI (by unfold mJ;rw[if_pos ae];congr 1;omega) fun x hx Ru=>by
   by_cases Du:x=i
   ·rw[if_pos Du];unfold mJ;rw[if_pos ae];congr 1;omega
   ·rw[if_neg Du];unfold mJ
    by_cases hc:x<i∨l.length-i<=x
    ·rw[if_pos hc,if_pos ae]
    ·rw[if_neg hc,if_neg ae]
  have UG:=gD (fun x=>if x=i then l.getD j 0 else mJ l i x) l.length
  have g3:=fG (f:=fun x=>if x=i then l.getD j 0 else mJ l i x) jI
  rw[e1]at g1
  rw[e2]at g2
  rw[if_neg ae,e2]at g3
  rw[eN]at g1 g2 g3 Of JK
  have hii:(i:Int)<(l.length:Int):=ae
  have lr:(j:Int)<(l.length:Int):=ae
  have pR:IntKind.i64.wrap ((i:Int)+1)=((i+1:Nat):Int):=aB ae
  have x9:IntKind.i64.wrap ((j:Int)-1)=(l.length:Int)-1-((i+1:Nat):Int):=by rw[aJ ae];omega
  (try((repeat(revert hN;revert N;apply Pn.out));refine wk (tw @b0 (tw @b2 (tw @b3 (tw @bg (tw @hi (tw @hii (tw @lr (tw @g1 (tw @g2 (tw @g3 (tw @Of (tw @JK (tw @tl (tw @UG (tw @lZ (tw @pR @x9)))))))))))))))) ?_;(repeat(refine Pn.mk ?_;intro N hN))))
  refine⟨_,?_,i+1,rfl,ae,ae,sd @pR,sd @x9,sd @JK,bW,fun x hx tp=>?_⟩
  ·omega
  ·have:=bfr x hx tp
   simp only[go_sem, ↓reduceIte,Nat.reduceEqDiff,Nat.reduceAdd,Nat.reduceSub,Nat.reduceLeDiff,reduceCtorEq,tp,this]
 ·rw[Ky l ae nj]at bg
  (try((repeat(revert hN;revert N;apply Pn.out));refine wk (tw @b0 (tw @b2 (tw @b3 (tw @bg @hi)))) ?_;(repeat(refine Pn.mk ?_;intro N hN))))
  exact gJ (.inr rfl) (vs:=[]) (by simp only[fo,go_sem, ↓reduceIte,Nat.reduceEqDiff,Nat.reduceAdd,Nat.reduceSub,Nat.reduceLeDiff,reduceCtorEq]) ⟨bg,bW,bfr⟩
theorem TE (cnt:Nat) (uL:1<=cnt) (hn:cnt<=1048576) (c f:Nat->Nat->Int) (x y:Nat) (hx:x<cnt) (hy:y<cnt):
  oi Tryz.prog 228 [.dq (l9 cnt c f),.int .i64 x,.int .i64 y] fun r=>(r=.ck/\∃S:Nat->Bool,S x=true/\S y=false/\∀u v,u<cnt->v<cnt->S u=true->S v=false->¬f u v<c u v)∨∃p:List Nat,r=.sl (p.map eN)/\RG cnt c f x y p:=by
 refine oi.body eM rfl fun hl n0=>?_
 clear hl
 have lM:=xq c cnt
 have jN:(0:Int)<=(cnt:Int):=ae
 have Du:(x:Int)<(cnt:Int):=ae
 have UA:(y:Int)<(cnt:Int):=ae
 (try((repeat(revert hN;revert N;apply Pn.out));refine wk (tw @l9.eq_1 @lM) ?_;(repeat(refine Pn.mk ?_;intro N hN))))
 refine .inr (aU _ _ _ _ _ (fun r σ1 hq=>?_) (Kw cnt uL hn (-1) ⟨228002000,n0+1+1⟩ _ (sd @Nat.zero_add) bW))
 obtain⟨o,rfl,ho,Mz,MA,kR⟩:=hq
 (try dsimp only at ho Mz MA kR)
 refine hN _ _ ?_
 clear hN N
 have lZ:=eX MA
 have qk:(cnt:Int)<=1048576:=ae
 have SC:rW<rW+cnt:=ae
 have ij:List.replicate cnt [AV.int .i64 (-1)]=eF (fun _=>-1) cnt:=by
  refine List.ext_getElem? fun i=>?_
  by_cases h:i<cnt
  ·rw[ee h,List.getElem?_replicate,if_pos h];rfl
  ·rw[List.getElem?_eq_none (by simp;omega),List.getElem?_eq_none (by rw[dS];omega)]
 rw[ij]at ho
 have Ck:(eF (fun _=>-1) cnt).set x (aX (x:Int))=eF (fun v=>if v=x then(x:Int)else -1) cnt:=lQ hx (if_pos rfl) fun v _ hv=>if_neg hv
 have hg0:=ee (f:=fun _=>-1) hx
 have tl0:=dS (fun _=>-1) cnt
 rw[aX]at Ck hg0
 (try((repeat(revert hN;revert N;apply Pn.out));refine wk (tw @l9.eq_1 (tw @lM (tw @jN (tw @qk @lZ)))) ?_;(repeat(refine Pn.mk ?_;intro N hN))))
 refine K5 ?_
 simp only[go_sem, ↓reduceIte,Nat.reduceEqDiff,Nat.reduceAdd,Nat.reduceSub,Nat.reduceLeDiff,reduceCtorEq,SC]
 refine hN _ _ ?_
 clear hN N
 (try((repeat(revert hN;revert N;apply Pn.out));refine wk (tw @ho (tw @lZ (tw @Ck (tw @hg0 (tw @tl0 @Du))))) ?_;(repeat(refine Pn.mk ?_;intro N hN))))
 obtain⟨C,hC⟩:∃C:Id,C=⟨228003001,σ1.next+1⟩:=⟨_,rfl⟩
 have SZ:=ep (a:=o) (b:=C) (by rw[hC];(try dsimp only);omega)
 have hCv:C.cC=σ1.next+1:=by rw[hC]
 refine aT (fun m env st=>∃(par:Nat->Int) (Q:List Nat) (i:Nat),m=cnt-i/\Bq cnt c f x par Q i/\st.get o=some ⟨true,1,eF par cnt⟩/\st.get C=some ⟨true,rW+cnt,(Q.drop i).map eN⟩/\σ1.next+1<st.next) cnt ⟨_,[x],0,rfl,Bq.start hx,sd @lZ,by rw[hC];simp only[go_sem, ↓reduceIte,Nat.reduceEqDiff,Nat.reduceAdd,Nat.reduceSub,Nat.reduceLeDiff,reduceCtorEq,lZ];rfl,bW⟩ ?_
 rintro m env_b st_b ⟨par,Q,i,rfl,hB,bgo,bgC,bn⟩ bkp
 have b0:=bkp 0 (by kernel_rfl)
 have b1:=bkp 1 (by kernel_rfl)
 have b2:=bkp 2 (by kernel_rfl)
 have b7:=bkp 7 (by kernel_rfl)
 have b8:=bkp 8 (by kernel_rfl)
 have b9:=bkp 9 (by kernel_rfl)
 rw[<-hC]at b9
 simp only[go_sem, ↓reduceIte,Nat.reduceEqDiff,Nat.reduceAdd,Nat.reduceSub,Nat.reduceLeDiff,reduceCtorEq]at b0 b1 b2 b7 b8 b9
 clear bkp
 have hQn:=hB.len
 have nj:=hB.ile
 have N1:((Q.drop i).map eN).length=Q.length-i:=by simp
 by_cases hi:i<Q.length
 ·have je:(0:Int)<((Q.length-i:Nat):Int):=ae
  have pf:Q.drop i=Q[i]::Q.drop (i+1):=List.drop_eq_getElem_cons hi
  obtain⟨u,hu⟩:∃u,u=Q[i]:=⟨_,rfl⟩
  have hun:u<cnt:=by rw[hu];exact hB.lt _ (List.getElem_mem hi)
  rw[<-hu]at pf
  (try((repeat(revert hN;revert N;apply Pn.out));refine wk (tw @b0 (tw @b1 (tw @b2 (tw @b7 (tw @b8 (tw @b9 (tw @bgC (tw @N1 @je)))))))) ?_;(repeat(refine Pn.mk ?_;intro N hN))))
  refine K5 ?_
  rw[pf,List.map_cons,show eN u=[.int .i64 (u:Int)]from rfl]at bgC
  simp only[go_sem, ↓reduceIte,Nat.reduceEqDiff,Nat.reduceAdd,Nat.reduceSub,Nat.reduceLeDiff,reduceCtorEq,b9,bgC]
  refine hN _ _ ?_
  clear hN N
  (try((repeat(revert hN;revert N;apply Pn.out));refine wk @b7 ?_;(repeat(refine Pn.mk ?_;intro N hN))))
  refine aT (fun m env st=>∃(v:Nat) (par':Nat->Int) (Q':List Nat),m=cnt-v/\v<=cnt/\env 36=.int .i64 (v:Int)/\Bq cnt c f x par' Q' i/\(∃h:i<Q'.length,Q'[i]=u)/\st.get o=some ⟨true,1,eF par' cnt⟩/\st.get C=some ⟨true,rW+cnt,(Q'.drop (i+1)).map eN⟩/\σ1.next+1<st.next/\∀w,w<v->f u w<c u w->0<=par' w) cnt ⟨0,par,Q,rfl,Nat.zero_le _,by(simp only[go_sem, ↓reduceIte,Nat.reduceEqDiff,Nat.reduceAdd,Nat.reduceSub,Nat.reduceLeDiff,reduceCtorEq])<;>rfl,hB,⟨hi,hu.symm⟩,sd (tw @SZ @bgo),sd @SZ,bW,fun w hw=>absurd hw (Nat.not_lt_zero w)⟩ ?_
  rintro m env_c st_c ⟨v,par',Q',rfl,hvn,c36,dG,⟨qD,Dt⟩,yJ,cgC,cn,dz⟩ ckp
  have c0:=ckp 0 (by kernel_rfl)
  have c1:=ckp 1 (by kernel_rfl)
  have c2:=ckp 2 (by kernel_rfl)
  have c7:=ckp 7 (by kernel_rfl)
  have c8:=ckp 8 (by kernel_rfl)
  have c9:=ckp 9 (by kernel_rfl)
  have j6:=ckp 10 (by kernel_rfl)
  have OZ:=ckp 35 (by kernel_rfl)
  simp only[go_sem, ↓reduceIte,Nat.reduceEqDiff,Nat.reduceAdd,Nat.reduceSub,Nat.reduceLeDiff,reduceCtorEq,b0,b1,b2,b7,b8,b9]at c0 c1 c2 c7 c8 c9 j6 OZ
  clear ckp
  have tl:=dS par' cnt
  by_cases hv:(v:Int)<(cnt:Int)
  ·have EC:v<cnt:=ae
   have PK:=ee (f:=par') EC
   have kR:=Pg cnt c f u v hun EC
   have hw:IntKind.i64.wrap ((v:Int)+1)=((v+1:Nat):Int):=aB ae
   rw[aX]at PK
   rw[l9]at kR
   by_cases kK:par' v<0
   ·by_cases hr:f u v<c u v
    ·rw[decide_eq_true hr]at kR
     have ei:(eF par' cnt).set v (aX (u:Int))=eF (fun w=>if w=v then(u:Int)else par' w) cnt:=lQ EC (if_pos rfl) fun w _ hw=>if_neg hw
     rw[aX]at ei
     have mv:=dG.visit qD EC kK (by rw[Dt];exact hr)
     rw[Dt]at mv
     have hQ2:=mv.len
     rw[List.length_append]at hQ2
     simp only[List.length_singleton]at hQ2
     have gp:rW+(Q'.drop (i+1)).length<rW+cnt:=by rw[List.length_drop];omega
     (repeat(first|((repeat(revert hN;revert N;apply Pn.out));refine wk (tw @l9.eq_1 (tw @c0 (tw @c7 (tw @c8 (tw @c9 (tw @j6 (tw @c36 (tw @OZ (tw @hv (tw @yJ (tw @PK (tw @tl (tw @kK @ei))))))))))))) ?_;(repeat(refine Pn.mk ?_;intro N hN)))|((try apply Or.inl);refine⟨_,ak.x (kR) (sd (tw @l9.eq_1 (tw @c0 (tw @c7 (tw @c8 (tw @c9 (tw @j6 (tw @c36 (tw @OZ (tw @hv (tw @yJ (tw @PK (tw @tl (tw @kK @ei)))))))))))))),?_⟩;refine hN _ _ ?_;clear hN N)))
     refine K5 ?_
     have hq:(Q'.drop (i+1)).map eN++[[.int .i64 (v:Int)]]=((Q'++[v]).drop (i+1)).map eN:=by rw[List.drop_append_of_le_length ae,List.map_append];rfl
     simp only[go_sem, ↓reduceIte,Nat.reduceEqDiff,Nat.reduceAdd,Nat.reduceSub,Nat.reduceLeDiff,reduceCtorEq,c9,cgC,gp,SZ,hq]
     refine hN _ _ ?_
     clear hN N
     (try((repeat(revert hN;revert N;apply Pn.out));refine wk (tw @c36 @hw) ?_;(repeat(refine Pn.mk ?_;intro N hN))))
     refine⟨_,?_,v+1,_,_,rfl,EC,sd @hw,mv,⟨by rw[List.length_append];omega,by rw[List.getElem_append_left qD];exact Dt⟩,sd @SZ,sd @SZ,bW,fun w hw JJ=>?_⟩
     ·omega
     ·by_cases F2:w=v
      ·rw[if_pos F2];omega
      ·rw[if_neg F2];exact dz w ae JJ
    ·rw[decide_eq_false hr]at kR
     (repeat(first|((repeat(revert hN;revert N;apply Pn.out));refine wk (tw @l9.eq_1 (tw @c0 (tw @c7 (tw @c8 (tw @c9 (tw @j6 (tw @c36 (tw @OZ (tw @hv (tw @yJ (tw @PK (tw @tl (tw @kK @hw))))))))))))) ?_;(repeat(refine Pn.mk ?_;intro N hN)))|((try apply Or.inl);refine⟨_,ak.x (kR) (sd (tw @l9.eq_1 (tw @c0 (tw @c7 (tw @c8 (tw @c9 (tw @j6 (tw @c36 (tw @OZ (tw @hv (tw @yJ (tw @PK (tw @tl (tw @kK @hw)))))))))))))),?_⟩;refine hN _ _ ?_;clear hN N)))
     refine⟨_,?_,v+1,par',Q',rfl,EC,sd @hw,dG,⟨qD,Dt⟩,sd @yJ,sd @cgC,bW,fun w hw JJ=>?_⟩
     ·omega
     ·by_cases F2:w=v
      ·subst F2;exact absurd JJ hr
      ·exact dz w ae JJ
   ·(try((repeat(revert hN;revert N;apply Pn.out));refine wk (tw @l9.eq_1 (tw @c0 (tw @c7 (tw @c8 (tw @c9 (tw @j6 (tw @c36 (tw @OZ (tw @hv (tw @yJ (tw @PK (tw @tl (tw @kK @hw))))))))))))) ?_;(repeat(refine Pn.mk ?_;intro N hN))))
    refine⟨_,?_,v+1,par',Q',rfl,EC,sd @hw,dG,⟨qD,Dt⟩,sd @yJ,sd @cgC,bW,fun w hw JJ=>?_⟩
    ·omega
    ·by_cases F2:w=v
     ·subst F2;omega
     ·exact dz w ae JJ
  ·have hvc:v=cnt:=ae
   subst hvc
   (try((repeat(revert hN;revert N;apply Pn.out));refine wk (tw @c36 (tw @OZ @hv)) ?_;(repeat(refine Pn.mk ?_;intro N hN))))
   refine⟨_,?_,par',Q',i+1,rfl,dG.next qD fun w hw hr=>dz w hw (by rw[<-Dt];exact hr),sd @yJ,sd @cgC,bW⟩
   omega
 ·have hiQ:i=Q.length:=ae
  subst hiQ
  have je:¬(0:Int)<((Q.length-Q.length:Nat):Int):=ae
  have SL:=ee (f:=par) hy
  have tl:=dS par cnt
  rw[aX]at SL
  by_cases kK:par y<0
  ·(try((repeat(revert hN;revert N;apply Pn.out));refine wk (tw @b0 (tw @b1 (tw @b2 (tw @b7 (tw @b8 (tw @b9 (tw @bgC (tw @N1 (tw @je (tw @bgo (tw @SL (tw @tl (tw @UA @kK))))))))))))) ?_;(repeat(refine Pn.mk ?_;intro N hN))))
   exact⟨[.ck],sd @Nat.zero_add,.ck,gC _ _,.inl ⟨rfl,hB.cut hy kK⟩⟩
  ·(try((repeat(revert hN;revert N;apply Pn.out));refine wk (tw @b0 (tw @b1 (tw @b2 (tw @b7 (tw @b8 (tw @b9 (tw @bgC (tw @N1 (tw @je (tw @bgo (tw @SL (tw @tl (tw @UA @kK))))))))))))) ?_;(repeat(refine Pn.mk ?_;intro N hN))))
   refine aT (fun m env st=>∃(k:Nat) (out:List Nat) (p:Id),m=Q.idxOf k/\env 13=.int .i64 (k:Int)/\env 12=.own p 0 out.length/\st.get p=some ⟨true,1,out.map eN⟩/\p.cC<st.next/\st_b.next<=p.cC/\k∈Q/\vz c f Q y k out/\st.get o=some ⟨true,1,eF par cnt⟩) (Q.idxOf y) ⟨y,[y],⟨228017001,st_b.next+1+1⟩,rfl,by(simp only[go_sem, ↓reduceIte,Nat.reduceEqDiff,Nat.reduceAdd,Nat.reduceSub,Nat.reduceLeDiff,reduceCtorEq]),by(simp only[go_sem, ↓reduceIte,Nat.reduceEqDiff,Nat.reduceAdd,Nat.reduceSub,Nat.reduceLeDiff,reduceCtorEq])<;>rfl,by(simp only[go_sem, ↓reduceIte,Nat.reduceEqDiff,Nat.reduceAdd,Nat.reduceSub,Nat.reduceLeDiff,reduceCtorEq])<;>rfl,bW,bW,(hB.iff y hy).1 ae,vz.start ((hB.iff y hy).1 ae),by(have Rt:=eX (i:=o) (n:=st_b.next) ae);simp only[go_sem, ↓reduceIte,Nat.reduceEqDiff,Nat.reduceAdd,Nat.reduceSub,Nat.reduceLeDiff,reduceCtorEq,Rt,bgo]⟩ ?_
   rintro m env_d st_d ⟨k,out,p,rfl,d13,d12,dgp,dpn,dpo,hkQ,uW,dgo⟩ dkp
   have d1:=dkp 1 (by kernel_rfl)
   have d8:=dkp 8 (by kernel_rfl)
   simp only[go_sem, ↓reduceIte,Nat.reduceEqDiff,Nat.reduceAdd,Nat.reduceSub,Nat.reduceLeDiff,reduceCtorEq,b1,b8]at d1 d8
   clear dkp
   have Bi:=eX dpn
   have Cm:=eX (i:=o) (n:=st_d.next) ae
   have eb:=ep (a:=o) (b:=p) ae
   have hol:=uW.len hB.lt
   have fK:=hB.lt k hkQ
   have kf:(out.map eN).length=out.length:=by simp
   by_cases Ul:k=x
   ·have hd:decide ((k:Int)=(x:Int))=true:=decide_eq_true (by rw[Ul])
    have V1:0<out.length:=by
     obtain⟨rest,h1,_⟩:=uW
     rw[<-List.length_reverse,h1];simp
    (try((repeat(revert hN;revert N;apply Pn.out));refine wk (tw @d1 (tw @d8 (tw @d12 (tw @d13 (tw @hd @Bool.not_true))))) ?_;(repeat(refine Pn.mk ?_;intro N hN))))
    refine .inr (aU _ _ _ _ _ (fun r σ2 hq=>?_) (HN out V1 ae p _ dgp bW))
    obtain⟨SI,mA,Jw⟩:=hq
    refine hN _ _ ?_
    clear hN N
    (try((repeat(revert hN;revert N;apply Pn.out));refine wk @d12 ?_;(repeat(refine Pn.mk ?_;intro N hN))))
    refine⟨[.own p 0 out.length],sd @d12,.sl (out.reverse.map eN),?_,.inr ⟨out.reverse,rfl,by subst Ul;exact uW.way hB.lt⟩⟩
    exact e9 (sz:=1) SI (by simp) fun a=>Pj _ 4 a
   ·have hd:decide ((k:Int)=(x:Int))=false:=decide_eq_false fun h=>Ul ae
    obtain⟨u,huQ,hpu,Ai,hr⟩:=hB.up k hkQ Ul
    have fe:=ee (f:=par) fK
    rw[aX,hpu]at fe
    have hki:(k:Int)<(cnt:Int):=ae
    have e1:out.length+1<=16777216:=ae
    (try((repeat(revert hN;revert N;apply Pn.out));refine wk (tw @d1 (tw @d8 (tw @d12 (tw @d13 (tw @hd (tw @Bool.not_false (tw @dgo (tw @dgp (tw @fe (tw @tl (tw @hki (tw @Bi (tw @Cm (tw @eb (tw @kf @e1))))))))))))))) ?_;(repeat(refine Pn.mk ?_;intro N hN))))
    refine⟨_,Ai,u,out++[u],⟨228021003,st_d.next+1+1⟩,rfl,sd @Nat.zero_add,by rw[List.length_append];simp only[go_sem, ↓reduceIte,Nat.reduceEqDiff,Nat.reduceAdd,Nat.reduceSub,Nat.reduceLeDiff,reduceCtorEq,List.length_cons,List.length_nil],by rw[List.map_append,List.map_cons,List.map_nil];simp only[go_sem, ↓reduceIte,Nat.reduceEqDiff,Nat.reduceAdd,Nat.reduceSub,Nat.reduceLeDiff,reduceCtorEq,eN],bW,bW,huQ,uW.step huQ Ai hr,sd (tw @Cm (tw @eb @dgo))⟩
theorem Bv (b:Nat):∀(l:List Nat) (a:Nat) (f:Nat->Nat->Int),mY f ((a::l)++[b])=la (mY f (a::l)) ((a::l).getLast (by simp)) b
 |[],a,f=>rfl
 |c::l,a,f=>by
  rw[List.cons_append,List.cons_append,mY,<-List.cons_append,Bv b l c (la f a c),mY,List.getLast_cons_cons]
theorem GA {p:List Nat} {f:Nat->Nat->Int} {i:Nat} (h1:1<=i) (hi:i<p.length):mY f (p.take (i+1))=la (mY f (p.take i)) (p[i-1]'ae) p[i]:=by
 rw[List.take_succ_eq_append_getElem hi]
 have gI:p.take i≠[]:=by
  intro h
  have:(p.take i).length=0:=by rw[h];rfl
  rw[List.length_take]at this;omega
 obtain⟨a,l,NW⟩:∃a l,p.take i=a::l:=by
  cases h:p.take i with
  |nil=>exact absurd h gI
  |cons a l=>exact⟨a,l,rfl⟩
 have wv:(p.take i).getLast gI=p[i-1]'ae:=by
  rw[List.getLast_eq_getElem,List.getElem_take]
  congr 1
  rw[List.length_take];omega
 simp only[NW]at wv ⊢
 rw[Bv,wv]
theorem HJ (f:Nat->Nat->Int) (a b u v:Nat):la f a b u v<=f u v+1/\f u v-1<=la f a b u v:=by
 unfold la bump
 split<;>split<;>constructor<;>omega
theorem mZ:∀(p:List Nat) (f:Nat->Nat->Int) (u v:Nat),mY f p u v<=f u v+p.length/\f u v-p.length<=mY f p u v
 |[],f,u,v=>by simp[mY]
 |[_],f,u,v=>by simp[mY];omega
 |a::b::r,f,u,v=>by
  rw[mY]
  have h1:=mZ (b::r) (la f a b) u v
  have h2:=HJ f a b u v
  simp only[List.length_cons]at h1 ⊢
  omega
theorem oP.push {g g':Rows} {X o1 o2:Id} {R1 R2:Nat->Id} {n nb:Nat} {c f:Nat->Nat->Int} (I:Gu X o1 o2 R1 R2 n nb) (h:oP g X o1 o2 R1 R2 n c f) {a b:Nat} (ha:a<n) (hb:b<n) (rZ:a≠b) (hA:g' (R2 a)=some ⟨true,1,eF (bump f a b 1 a) n⟩) (hB:g' (R2 b)=some ⟨true,1,eF (bump (bump f a b 1) b a (-1) b) n⟩) (hf:∀i:Id,i.cC<nb->(i=R2 a)=False->(i=R2 b)=False->g' i=g i):oP g' X o1 o2 R1 R2 n c (la f a b):=by
 have ne:∀{i:Id} {s:Nat},i.site=s->(s==204005006)=false->∀a,a<n->(i=R2 a)=False:=fun {i s} hi hs a ha=>by
  simp only[eq_iff_iff,iff_false]
  rintro rfl
  rw[I.Ow a ha]at hi
  subst hi
  simp at hs
 refine⟨(hf _ I.vx (ne I.sx (by decide) _ ha) (ne I.sx (by decide) _ hb)).trans h.x,(hf _ I.v1 (ne I.s1 (by decide) _ ha) (ne I.s1 (by decide) _ hb)).trans h.t1,(hf _ I.v2 (ne I.s2 (by decide) _ ha) (ne I.s2 (by decide) _ hb)).trans h.t2,fun i hi=>(hf _ (I.Wp i hi) (ne (I.UF i hi) (by decide) _ ha) (ne (I.UF i hi) (by decide) _ hb)).trans (h.r1 i hi),fun i hi=>?_⟩
 by_cases Lr:i=b
 ·subst Lr;exact hB
 ·by_cases Lq:i=a
  ·subst Lq
   rw[hA,la,kG Lr]
  ·rw[la,kG Lr,kG Lq,hf _ (I.TC i hi) (by simp only[eq_iff_iff,iff_false];exact fun he=>Lq (I.i2 i _ hi ha he)) (by simp only[eq_iff_iff,iff_false];exact fun he=>Lr (I.i2 i _ hi hb he))]
   exact h.r2 i hi
theorem Qs (cnt:Nat) (uL:1<=cnt) (hn:cnt<=1048576) (c:Nat->Nat->Int) (hc:∀u v,u<cnt->v<cnt->0<=c u v/\c u v<=16777216) (x y:Nat) (hx:x<cnt) (hy:y<cnt) (P8:x≠y) (t:Int) (ht:t<=1099511627776)
  (X o1 o2:Id) (R1 R2:Nat->Id) (nb:Nat) (I:Gu X o1 o2 R1 R2 cnt nb) (σ:ax) (hM:oP σ.get X o1 o2 R1 R2 cnt c (fun _ _=>0)) (JD:nb<=σ.next):
  Call Tryz.prog 205 [.ptr X 0 0,.int .i64 x,.int .i64 y,.int .i64 t] σ fun r σ'=>∃(k:Nat) (f:Nat->Nat->Int),r=.int .i64 k/\oj cnt c f x y k/\oP σ'.get X o1 o2 R1 R2 cnt c f/\((∃S:Nat->Bool,S x=true/\S y=false/\∀u v,u<cnt->v<cnt->S u=true->S v=false->¬f u v<c u v)∨t<=k)/\σ.next<=σ'.next:=by
 refine fj eM rfl fun hl=>?_
 clear hl
 have hxS:(fun v=>decide (v=x)) x=true:=by simp
 have hyS:(fun v=>decide (v=x)) y=false:=by simp;exact fun h=>P8 h.symm
 obtain⟨top,V6⟩:∃top,top=nh cnt (fun v=>decide (v=x)) c:=⟨_,rfl⟩
 (try((repeat(revert hN;revert N;apply Pn.out));refine wk @Nat.zero_add ?_;(repeat(refine Pn.mk ?_;intro N hN))))
 refine aT (fun m env st=>∃(k:Nat) (f:Nat->Nat->Int),m=(top-k).toNat/\env 9=.int .i64 (k:Int)/\oj cnt c f x y k/\oP st.get X o1 o2 R1 R2 cnt c f/\σ.next<=st.next/\(0<k->(k:Int)<=t)/\∀u v,-((k:Int)*(cnt:Int))<=f u v) (top-0).toNat ⟨0,fun _ _=>0,rfl,by(simp only[go_sem, ↓reduceIte,Nat.reduceEqDiff,Nat.reduceAdd,Nat.reduceSub,Nat.reduceLeDiff,reduceCtorEq])<;>rfl,oj.zero fun u v hu hv=>(hc u v hu hv).1,hM,bW,fun h=>absurd h (Nat.lt_irrefl 0),fun u v=>by simp⟩ ?_
 rintro m env_b st_b ⟨k,f,rfl,b9,hF,bM,bn,bk,blo⟩ bkp
 have b0:=bkp 0 (by kernel_rfl)
 have b1:=bkp 1 (by kernel_rfl)
 have b2:=bkp 2 (by kernel_rfl)
 have b3:=bkp 3 (by kernel_rfl)
 simp only[go_sem, ↓reduceIte,Nat.reduceEqDiff,Nat.reduceAdd,Nat.reduceSub,Nat.reduceLeDiff,reduceCtorEq]at b0 b1 b2 b3
 clear bkp
 have hz:cQ (dM st_b.get) 6 [.ptr X 0 0,.int .i64 (x:Int),.int .i64 (y:Int)]=some [.dq (l9 cnt c f),.int .i64 x,.int .i64 y]:=by simp only[ai,ao,bM.fz,aD,Option.map_some]
 (try((repeat(revert hN;revert N;apply Pn.out));refine wk (tw @b0 (tw @b1 (tw @b2 (tw @b3 @b9)))) ?_;(repeat(refine Pn.mk ?_;intro N hN))))
 refine .inr (aU _ _ _ _ _ (fun r σ1 hq=>?_) ((TE cnt uL hn c f x y hx hy).x mixed hz))
 obtain⟨PW,rfl⟩:=hq
 refine hN _ _ ?_
 clear hN N
 rcases PW with⟨rfl,S,Bc,Mn,Rb⟩|⟨p,rfl,hW⟩
 ·(try((repeat(revert hN;revert N;apply Pn.out));refine wk (tw @b0 (tw @b1 (tw @b2 (tw @b3 (tw @b9 (tw @Bool.not_true @Bool.not_false)))))) ?_;(repeat(refine Pn.mk ?_;intro N hN))))
  refine gJ (.inl rfl) (vs:=[.int .i64 (k:Int)]) (sd @Nat.zero_add) ⟨k,f,rfl,hF,by(try dsimp only);exact bM,.inl ⟨S,Bc,Mn,Rb⟩,bW⟩
 ·obtain⟨⟨rs,rfl,wv⟩,kZ,gp,hplt⟩:=hW
  by_cases Ce:t<=(k:Int)
  ·(try((repeat(revert hN;revert N;apply Pn.out));refine wk (tw @b0 (tw @b1 (tw @b2 (tw @b3 (tw @b9 (tw @Ce (tw @Bool.not_true @Bool.not_false))))))) ?_;(repeat(refine Pn.mk ?_;intro N hN))))
   refine gJ (.inl rfl) (vs:=[.int .i64 (k:Int)]) (sd @Nat.zero_add) ⟨k,f,rfl,hF,by(try dsimp only);exact bM,.inr Ce,bW⟩
  ·(try((repeat(revert hN;revert N;apply Pn.out));refine wk (tw @b0 (tw @b1 (tw @b2 (tw @b3 (tw @b9 (tw @Ce (tw @Bool.not_true @Bool.not_false))))))) ?_;(repeat(refine Pn.mk ?_;intro N hN))))
   have nk:=pv cnt _ kZ hplt
   have hkc:(k:Int)*(cnt:Int)<=1099511627776*1048576:=Int.mul_le_mul ae ae ae ae
   have hfb:=hF.bound (S:=fun v=>decide (v=x)) hxS hyS
   have hnear:=mZ
   obtain⟨p,hp⟩:∃p,p=x::rs:=⟨_,rfl⟩
   have hmp:eN x::List.map eN rs=p.map eN:=by rw[hp];rfl
   rw[hmp]
   have PT:1<=p.length:=by rw[hp];simp
   have Vg:=hF.aug wv kZ gp hplt
   rw[<-hp]at Vg kZ gp hplt nk
   have P4:p.take 1=[x]:=by rw[hp];rfl
   clear hmp wv
   refine aT (fun m env st=>∃i:Nat,m=p.length-i/\1<=i/\i<=p.length/\env 11=.int .i64 (i:Int)/\oP st.get X o1 o2 R1 R2 cnt c (mY f (p.take i))/\st_b.next<=st.next) (p.length-1) ⟨1,rfl,Nat.le_refl _,PT,by(simp only[go_sem, ↓reduceIte,Nat.reduceEqDiff,Nat.reduceAdd,Nat.reduceSub,Nat.reduceLeDiff,reduceCtorEq])<;>rfl,by rw[P4];exact bM,bW⟩ ?_
   rintro m env_c st_c ⟨i,rfl,Mu,nj,oF,cM,cn⟩ ckp
   have c0:=ckp 0 (by kernel_rfl)
   have c1:=ckp 1 (by kernel_rfl)
   have c2:=ckp 2 (by kernel_rfl)
   have c3:=ckp 3 (by kernel_rfl)
   have c9:=ckp 9 (by kernel_rfl)
   have j6:=ckp 10 (by kernel_rfl)
   simp only[go_sem, ↓reduceIte,Nat.reduceEqDiff,Nat.reduceAdd,Nat.reduceSub,Nat.reduceLeDiff,reduceCtorEq,b0,b1,b2,b3,b9]at c0 c1 c2 c3 c9 j6
   clear ckp
   have kf:(p.map eN).length=p.length:=by simp
   by_cases hi:(i:Int)<(p.length:Int)
   ·have fB:i<p.length:=ae
    have xZ:=GA (f:=f) Mu fB
    obtain⟨a,ha⟩:∃a,a=p[i-1]'ae:=⟨_,rfl⟩
    obtain⟨b,hb⟩:∃b,b=p[i]:=⟨_,rfl⟩
    have FT:a<cnt:=by rw[ha];exact hplt _ (List.getElem_mem _)
    have FU:b<cnt:=by rw[hb];exact hplt _ (List.getElem_mem _)
    have rZ:a≠b:=by
     rw[ha,hb]
     exact List.pairwise_iff_getElem.1 kZ (i-1) i ae fB ae
    have SJ:(p.map eN)[i-1]? =some [.int .i64 (a:Int)]:=by rw[List.getElem?_map,List.getElem?_eq_getElem ae,ha];rfl
    have PI:(p.map eN)[i]? =some [.int .i64 (b:Int)]:=by rw[List.getElem?_map,List.getElem?_eq_getElem fB,hb];rfl
    rw[<-ha,<-hb]at xZ
    have VQ:=mZ (p.take i) f a b
    have VR:=mZ (p.take i) f b a
    rw[List.length_take]at VQ VR
    have hl1:=blo b a
    have hl2:=blo a b
    have Oi:=hF.le a b FT FU
    have Rs:=hF.le b a FU FT
    have hca:=hc a b FT FU
    have FV:=hc b a FU FT
    generalize mY f (p.take i)=fl at *
    have gA:=sI (R:=R2) (n:=cnt) FT
    have gB:=sI (R:=R2) (n:=cnt) FU
    have rA:=cM.r2 _ FT
    have rB:=cM.r2 _ FU
    have cA:=ee (f:=fl a) FU
    have cB:=ee (f:=fl b) FT
    have sA:=o3 (f:=fl) (a:=a) (d:=1) FU
    have PS:bump fl a b 1 b=fl b:=kG fun h=>rZ h.symm
    have sB:=o3 (f:=bump fl a b 1) (a:=b) (b:=a) (d:=-1) (n:=cnt) FT
    rw[PS]at sB
    have gX:=cM.x
    have g2:=cM.t2
    have gU:(a:Int)<(cnt:Int):=ae
    have fE:(b:Int)<(cnt:Int):=ae
    have It:IntKind.i64.wrap ((i:Int)-1)=((i-1:Nat):Int):=by rw[aJ ae];omega
    have yZ:((i-1:Nat):Int)<(p.length:Int):=ae
    have wA:IntKind.i64.wrap (fl a b+1)=fl a b+1:=aJ ae
    have wB:IntKind.i64.wrap (fl b a-1)=fl b a+-1:=by rw[aJ ae];omega
    have Ol:IntKind.i64.wrap ((i:Int)+1)=((i+1:Nat):Int):=aB ae
    have l2:=kN R2 cnt cnt
    have lA:=dS (fl a) cnt
    have lB:=dS (fl b) cnt
    have gI:(R2 a=R2 b)=False:=by simp only[eq_iff_iff,iff_false];exact fun h=>rZ (I.i2 _ _ FT FU h)
    have JE:(R2 b=R2 a)=False:=by simp only[eq_iff_iff,iff_false];exact fun h=>rZ (I.i2 _ _ FT FU h.symm)
    have xA:=AS I.sx (I.Ow a FT) (by decide)
    have xB:=AS I.sx (I.Ow b FU) (by decide)
    have yA:=AS I.s2 (I.Ow a FT) (by decide)
    have yB:=AS I.s2 (I.Ow b FU) (by decide)
    have qX:=eX (i:=X) (n:=st_c.next) (by have:=I.vx;omega)
    have q2:=eX (i:=o2) (n:=st_c.next) (by have:=I.v2;omega)
    have qA:=eX (i:=R2 a) (n:=st_c.next) (by have:=I.TC a FT;omega)
    have qB:=eX (i:=R2 b) (n:=st_c.next) (by have:=I.TC b FU;omega)
    rw[aX]at cA cB sA sB
    (try((repeat(revert hN;revert N;apply Pn.out));refine wk (tw @c0 (tw @c9 (tw @j6 (tw @oF (tw @kf (tw @hi (tw @yZ (tw @SJ (tw @PI (tw @gA (tw @gB (tw @rA (tw @rB (tw @cA (tw @cB (tw @sA (tw @sB (tw @gX (tw @g2 (tw @gU (tw @fE (tw @It (tw @wA (tw @wB (tw @Ol (tw @l2 (tw @lA (tw @lB (tw @gI (tw @JE (tw @xA (tw @xB (tw @yA (tw @yB (tw @qX (tw @q2 (tw @qA @qB))))))))))))))))))))))))))))))))))))) ?_;(repeat(refine Pn.mk ?_;intro N hN))))
    refine⟨_,?_,i+1,rfl,ae,ae,sd @Ol,?_,bW⟩
    ·omega
    ·rw[xZ]
     refine cM.push I FT FU rZ ?_ ?_ fun j hj h1 h2=>?_
     ·simp only[go_sem, ↓reduceIte,Nat.reduceEqDiff,Nat.reduceAdd,Nat.reduceSub,Nat.reduceLeDiff,reduceCtorEq,gI]
     ·simp only[go_sem, ↓reduceIte,Nat.reduceEqDiff,Nat.reduceAdd,Nat.reduceSub,Nat.reduceLeDiff,reduceCtorEq,gI]
     ·simp only[go_sem, ↓reduceIte,Nat.reduceEqDiff,Nat.reduceAdd,Nat.reduceSub,Nat.reduceLeDiff,reduceCtorEq,h1,h2]
   ·have Io:i=p.length:=ae
    subst Io
    rw[List.take_length]at cM
    have MG:IntKind.i64.wrap ((k:Int)+1)=((k+1:Nat):Int):=aB ae
    have Vz:=Vg.bound (S:=fun v=>decide (v=x)) hxS hyS
    (try((repeat(revert hN;revert N;apply Pn.out));refine wk (tw @c0 (tw @c9 (tw @j6 (tw @oF (tw @kf (tw @hi @MG)))))) ?_;(repeat(refine Pn.mk ?_;intro N hN))))
    refine⟨_,?_,k+1,_,rfl,sd @MG,by rw[Int.natCast_add];exact Vg,cM,bW,fun _=>ae,fun u v=>?_⟩
    ·rw[<-V6]at Vz;omega
    ·have h1:=(mZ p f u v).2
     have h2:=blo u v
     rw[Int.natCast_add,Int.add_mul]
     omega
theorem Qr (cnt:Nat) (uL:1<=cnt) (hn:cnt<=1048576) (c:Nat->Nat->Int) (hc:∀u v,u<cnt->v<cnt->0<=c u v/\c u v<=16777216) (x y:Nat) (hx:x<cnt) (hy:y<cnt) (P8:x≠y) (t:Int) (ht:t<=1099511627776)
  (X o1 o2:Id) (R1 R2:Nat->Id) (nb:Nat) (I:Gu X o1 o2 R1 R2 cnt nb) (σ:ax) (hM:oP σ.get X o1 o2 R1 R2 cnt c (fun _ _=>0)) (JD:nb<=σ.next):
  Call Tryz.prog 205 [.ptr X 0 0,.int .i64 x,.int .i64 y,.int .i64 t] σ fun r σ'=>∃val:Int,r=.int .i64 val/\(val<t↔∃S:Nat->Bool,S x=true/\S y=false/\nh cnt S c<t)/\σ.next<=σ'.next:=by
 refine aU _ _ _ _ _ (fun r σ1 hq=>?_) (Qs cnt uL hn c hc x y hx hy P8 t ht X o1 o2 R1 R2 nb I σ hM JD)
 obtain⟨k,f,rfl,hF,_,hS,hle⟩:=hq
 refine⟨(k:Int),rfl,⟨fun h=>?_,fun⟨S',h1,h2,h3⟩=>by have:=hF.bound h1 h2;omega⟩,hle⟩
 rcases hS with⟨S,Bc,Mn,Rb⟩|h2
 ·exact⟨S,Bc,Mn,by rw[<-hF.full Bc Mn Rb];exact h⟩
 ·omega
noncomputable def ue (n:Nat) (bs:List PB) (t:Int):Bool:=@decide (lv n bs t) (Classical.propDecidable _)
theorem y6 {n:Nat} {bs:List PB} {t:Int} (h:lv n bs t):true=ue n bs t:=by simp[ue,h]
theorem Ci {n:Nat} {bs:List PB} {t:Int} (h:¬lv n bs t):false=ue n bs t:=by simp[ue,h]
theorem Mx (cnt:Nat) (hn:cnt<=1048576) (bs:List PB) (hb:∀b∈bs,b.a<cnt/\b.b<cnt) (dR:∀b∈bs,0<=b.s/\b.s<=4) (ke:bs.length<=1048576) (t:Int) (ht:t<=1099511627776):
  ak Tryz.prog 191 [.int .i64 cnt,.sl (bs.map ay),.int .i64 t] (.bool (ue cnt bs t)):=by
 refine ak.body eM rfl fun hl n0=>?_
 clear hl
 have mz:=AL bs (fun _ _=>0) (fun b h=>(dR b h).1) (fun _ _=>Int.le_refl _)
 have hle:=room_le bs (fun _ _=>0) 0 (fun b h=>(dR b h).2) (fun _ _=>Int.le_refl _) (Int.le_refl _)
 have gp:bs.foldl oD (fun _ _=>0)=lN bs:=rfl
 rw[gp]at mz hle
 (try((repeat(revert hN;revert N;apply Pn.out));refine wk @Nat.zero_add ?_;(repeat(refine Pn.mk ?_;intro N hN))))
 refine aT (fun m env st=>∃y:Nat,m=cnt+1-y/\1<=y/\env 7=.int .i64 (y:Int)/\y<=cnt+1/\∀z,1<=z->z<y->z<cnt->∀S:Nat->Bool,S 0=true->S z=false->t<=jK S bs) (cnt+1-1) ⟨1,rfl,Nat.le_refl _,by(simp only[go_sem, ↓reduceIte,Nat.reduceEqDiff,Nat.reduceAdd,Nat.reduceSub,Nat.reduceLeDiff,reduceCtorEq])<;>rfl,ae,fun z h1 h2=>ae⟩ ?_
 rintro m env_b st_b ⟨y,rfl,hy1,b7,hyl,dz⟩ bkp
 have b0:=bkp 0 (by kernel_rfl)
 have b1:=bkp 1 (by kernel_rfl)
 have b2:=bkp 2 (by kernel_rfl)
 simp only[go_sem, ↓reduceIte,Nat.reduceEqDiff,Nat.reduceAdd,Nat.reduceSub,Nat.reduceLeDiff,reduceCtorEq]at b0 b1 b2
 clear bkp
 by_cases hy:(y:Int)<(cnt:Int)
 ·have hyn:y<cnt:=ae
  (try((repeat(revert hN;revert N;apply Pn.out));refine wk (tw @b0 (tw @b1 (tw @b2 (tw @b7 @hy)))) ?_;(repeat(refine Pn.mk ?_;intro N hN))))
  refine .inr (aU _ _ _ _ _ (fun r σ1 hq=>?_) (CR cnt ae hn bs hb dR ke _))
  obtain⟨X,o1,o2,R1,R2,rfl,I,Mw,hM,_⟩:=hq
  refine hN _ _ ?_
  clear hN N
  (try((repeat(revert hN;revert N;apply Pn.out));refine wk (tw @b0 (tw @b1 (tw @b2 @b7))) ?_;(repeat(refine Pn.mk ?_;intro N hN))))
  have hsd:=Qr cnt ae hn (lN bs) (fun u v _ _=>⟨mz u v,by have:=hle u v;omega⟩) 0 y ae hyn ae t ht X o1 o2 R1 R2 σ1.next I
  refine .inr (aU _ _ _ _ _ (fun r σ2 hq=>?_) (hsd _ hM bW))
  obtain⟨val,rfl,se,mA⟩:=hq
  refine hN _ _ ?_
  clear hN N
  by_cases dO:val<t
  ·(try((repeat(revert hN;revert N;apply Pn.out));refine wk (tw @b0 (tw @b1 (tw @b2 (tw @b7 @dO)))) ?_;(repeat(refine Pn.mk ?_;intro N hN))))
   obtain⟨S,h1,h2,h3⟩:=se.1 dO
   rw[BR hb]at h3
   exact aZ (b:=false) (.inl rfl) (sd @Nat.zero_add) (Ci fun h=>by have:=h S h1 ⟨y,hyn,h2⟩;omega)
  ·have hw:IntKind.i64.wrap ((y:Int)+1)=((y+1:Nat):Int):=aB ae
   (try((repeat(revert hN;revert N;apply Pn.out));refine wk (tw @b0 (tw @b1 (tw @b2 (tw @b7 (tw @dO @hw))))) ?_;(repeat(refine Pn.mk ?_;intro N hN))))
   refine⟨_,?_,y+1,rfl,ae,sd (tw @b7 @hw),ae,fun z h1 h2 h3 S Bc Mn=>?_⟩
   ·omega
   ·by_cases hzy:z=y
    ·subst hzy
     rcases Int.lt_or_le (jK S bs) t with h|h
     ·exact absurd (se.2 ⟨S,Bc,Mn,by rw[BR hb];exact h⟩) dO
     ·exact h
    ·exact dz z h1 ae h3 S Bc Mn
 ·(try((repeat(revert hN;revert N;apply Pn.out));refine wk (tw @b0 (tw @b1 (tw @b2 (tw @b7 @hy)))) ?_;(repeat(refine Pn.mk ?_;intro N hN))))
  exact aZ (b:=true) (.inl rfl) (sd @Nat.zero_add) (y6 fun S h0 ⟨z,hz,hzf⟩=>by
   have:z≠0:=by rintro rfl;rw[h0]at hzf;cases hzf
   exact dz z ae ae hz S h0 hzf)
theorem JF (cnt:Nat) (hn:cnt<=1048576) (bs:List PB) (hb:∀b∈bs,b.a<cnt/\b.b<cnt) (dR:∀b∈bs,0<=b.s/\b.s<=4) (ke:bs.length<=1048576) (t:Int) (ht:t<=1099511627776):
  ak Tryz.prog 191 [.int .i64 cnt,AP bs,.int .i64 t] (.bool (ue cnt bs t)):=by
 have h:=Mx cnt hn bs hb dR ke t ht
 cases bs with
 |nil=>exact h.cut mixed (.same _ (.ck (.same _ .nil)))
 |cons b r=>rw[AQ (by simp)];exact h
def Dx:Prop:=∀(s:aw) (l:List ah),mV s->qJ s l->ak Tryz.prog 134 [.agg (ad s),.agg [.sl (l.map ab)]] (AP (di s l))
noncomputable def vd (s:aw) (l:List ah) (t:Int):Bool:=if 64<jc s l t then false else ue (jc s l t) (dC (eR (aQ t (di s l))) (di s l)) t
theorem EG (s:aw) (l:List ah) (t:Int):vd s l t=oB s l t:=by
 letI:=Classical.propDecidable (pK l.length (di s l) t)
 unfold vd
 by_cases h:64<jc s l t
 ·rw[if_pos h]
  exact(nB (p:=False) ⟨False.elim,fun k=>by have:=k.1;unfold jc at h;omega⟩).symm.trans (by simp) |>.symm
 ·rw[if_neg h]
  by_cases hp:lv (jc s l t) (dC (eR (aQ t (di s l))) (di s l)) t
  ·rw[<-y6 hp]
   exact((nB (p:=True) ⟨fun _=>⟨by unfold jc at h;omega,hp⟩,fun _=>trivial⟩).symm.trans (by simp)).symm
  ·rw[<-Ci hp]
   exact((nB (p:=False) ⟨False.elim,fun k=>hp k.2⟩).symm.trans (by simp)).symm
theorem KF (Vc:Dx) (s:aw) (l:List ah) (t:Int) (ht:t<=1099511627776) (h1:1<=l.length) (hS:mV s) (hA:qJ s l):ak Tryz.prog 173 [.agg (ad s),.agg [.sl (l.map ab)],.int .i64 t] (.iJ [.bool (oB s l t),.bool (decide ¬64<jc s l t)]):=by
 rw[<-EG]
 refine ak.body eM rfl fun hl n0=>?_
 clear hl
 have hb:=yF (l:=l) hS
 have ke:=qN (s:=s) hA.1
 have Ah:=hA.1.zX
 have Bd:=Vc s l hS hA
 have SC:=zS l.length h1 ae (di s l) (fun b h=>⟨(hb b h).1,(hb b h).2.1⟩) ae t
 have hL:=ui (aQ t (di s l))
 have fB:=Fa hL (fun b h=>⟨(hb b h).1,(hb b h).2.1⟩)
 have hlen:=(nX (eR (aQ t (di s l))) (di s l)).1
 have mc:=kj l.length (eR (aQ t (di s l)))
 have hho:=JF (jc s l t) (by unfold jc;omega) (dC (eR (aQ t (di s l))) (di s l)) (fun b h=>⟨(fB b h).1,(fB b h).2.1⟩) (fun b h=>by
  obtain⟨_,_,_,c,hc,dy⟩:=fB b h
  rw[dy];have:=hb c hc;omega) ae t ht
 have fh:(l.map ab).length=l.length:=by simp
 have hzB:∀(g:Rows) (n:Nat) (bs:List PB),V.fz g (n+1) (AP bs)=some (AP bs):=fun g n bs=>by
  unfold AP;split
  ·exact aY _ _
  ·exact cz _ _ _
 rw[ad]at Bd
 rw[<-jc]at SC
 have za:∀(g:Rows) (x:Int),cQ (dM g) 6 [.int .i64 l.length,AP (di s l),.int .i64 x]=some [.int .i64 l.length,AP (di s l),.int .i64 x]:=fun g x=>by simp only[ai,ao,aD,hzB,Option.map_some]
 have hzh:∀(g:Rows) (x y:Int),cQ (dM g) 6 [.int .i64 x,AP (dC (eR (aQ t (di s l))) (di s l)),.int .i64 y]=some [.int .i64 x,AP (dC (eR (aQ t (di s l))) (di s l)),.int .i64 y]:=fun g x y=>by simp only[ai,ao,aD,hzB,Option.map_some]
 generalize AP (di s l)=B1 at *
 generalize AP (dC (eR (aQ t (di s l))) (di s l))=B2 at *
 by_cases uG:(64:Int)<(jc s l t:Int)
 ·have uH:64<jc s l t:=ae
  (repeat(first|((repeat(revert hN;revert N;apply Pn.out));refine wk (tw @ad.eq_1 (tw @uG @fh)) ?_;(repeat(refine Pn.mk ?_;intro N hN)))|((try apply Or.inl);refine⟨_,ak.x (Bd) (sd (tw @ad.eq_1 (tw @uG @fh))),?_⟩;refine hN _ _ ?_;clear hN N)))
  refine⟨_,ak.x SC (za _ _),?_⟩
  refine hN _ _ ?_
  clear hN N
  (try((repeat(revert hN;revert N;apply Pn.out));refine wk @uG ?_;(repeat(refine Pn.mk ?_;intro N hN))))
  exact j0 (.inl rfl) (r1:=.bool false) (r2:=.bool false) (sd @Nat.zero_add) (sd @Nat.zero_add) (by rw[vd,if_pos uH,decide_eq_false fun h=>h uH];simp only[eV,aI,aW,fH,Option.map_some])
 ·have uH:¬64<jc s l t:=ae
  (repeat(first|((repeat(revert hN;revert N;apply Pn.out));refine wk (tw @ad.eq_1 (tw @uG @fh)) ?_;(repeat(refine Pn.mk ?_;intro N hN)))|((try apply Or.inl);refine⟨_,ak.x (Bd) (sd (tw @ad.eq_1 (tw @uG @fh))),?_⟩;refine hN _ _ ?_;clear hN N)))
  refine⟨_,ak.x SC (za _ _),?_⟩
  refine hN _ _ ?_
  clear hN N
  (try((repeat(revert hN;revert N;apply Pn.out));refine wk @uG ?_;(repeat(refine Pn.mk ?_;intro N hN))))
  refine .inl ⟨_,ak.x hho (hzh _ _ _),?_⟩
  refine hN _ _ ?_
  clear hN N
  (try((repeat(revert hN;revert N;apply Pn.out));refine wk @Nat.zero_add ?_;(repeat(refine Pn.mk ?_;intro N hN))))
  exact j0 (.inl rfl) (r1:=.bool (ue (jc s l t) (dC (eR (aQ t (di s l))) (di s l)) t)) (r2:=.bool true) (sd @Nat.zero_add) (sd @Nat.zero_add) (by rw[vd,if_neg uH,decide_eq_true uH];simp only[eV,aI,aW,fH,Option.map_some])
theorem uM (t:Int):ak Tryz.prog 78 [.int .i64 t] (.bool (iw t 1 16)):=by
 refine ak.body eM rfl fun hl n0=>?_
 clear hl
 have h:=kP t 1 16
 (repeat(first|((repeat(revert hN;revert N;apply Pn.out));refine wk @Nat.zero_add ?_;(repeat(refine Pn.mk ?_;intro N hN)))|((try apply Or.inl);refine⟨_,ak.x (h) (sd @Nat.zero_add),?_⟩;refine hN _ _ ?_;clear hN N)))
 exact aZ (b:=iw t 1 16) (.inl rfl) (sd @Nat.zero_add) rfl
theorem xM (Vc:Dx) (s:cj) (hn:gy s.aC) (hg:s.aC.az.length<=1048576) (ht:s.aC.aj.length<=1048576) (hs:∀t∈s.aC.aj,t.bD.length<=1048576) (hl:s.cq.aj.length<=1048576):ak Tryz.prog 102 [.agg (aA s)] (.bool (n9 s)):=by
 refine ak.body eM rfl fun wz n0=>?_
 clear wz
 by_cases h0:(s.cq.aj.length:Int)=0
 ·have hd:decide ((s.cq.aj.length:Int)=0)=true:=decide_eq_true h0
  (try((repeat(revert hN;revert N;apply Pn.out));refine wk (tw @aA.eq_1 @hd) ?_;(repeat(refine Pn.mk ?_;intro N hN))))
  exact aZ (b:=false) (.inl rfl) (sd @Nat.zero_add) (kE fun h=>by have:=h.some;omega)
 have hd:decide ((s.cq.aj.length:Int)=0)=false:=decide_eq_false h0
 have Pz:=ot s.aC s.cq.aj hn hg ht hs hl
 have Sp:=uM s.au
 have key:ak Tryz.prog 150 [.agg (ad s.aC),.agg [.sl (s.cq.aj.map ab)],.int .i64 s.au] (.iJ [.bool (n9 s),.int .i64 (if rD s.aC&&qh s.aC s.cq.aj then(if iw s.au 1 16 then(if 64<jc s.aC s.cq.aj s.au then 4 else 0)else 2)else 1)]):=by
  refine ak.body eM rfl fun wz n0=>?_
  clear wz
  rw[ad]at Pz
  cases hA:rD s.aC&&qh s.aC s.cq.aj
  ·rw[hA]at Pz
   have jA:n9 s=false:=(kE fun h=>by rw[nA.2 h.set,mW.2 h.Nq]at hA;cases hA).symm
   (repeat(first|((repeat(revert hN;revert N;apply Pn.out));refine wk @ad.eq_1 ?_;(repeat(refine Pn.mk ?_;intro N hN)))|((try apply Or.inl);refine⟨_,ak.x (Pz) (sd @ad.eq_1),?_⟩;refine hN _ _ ?_;clear hN N)))
   exact j0 (.inl rfl) (r1:=.bool false) (r2:=.int .i64 1) (sd @Nat.zero_add) (sd @Nat.zero_add) (by rw[jA];simp only[eV,aI,aW,fH,dw,Option.map_some];rfl)
  rw[hA]at Pz
  simp only[Bool.and_eq_true]at hA
  have hS:=nA.1 hA.1
  have hP:=mW.1 hA.2
  cases hT:iw s.au 1 16
  ·rw[hT]at Sp
   have jA:n9 s=false:=(kE fun h=>by have:=h.Nx;rw[hT]at this;cases this).symm
   (repeat(first|((repeat(revert hN;revert N;apply Pn.out));refine wk @ad.eq_1 ?_;(repeat(refine Pn.mk ?_;intro N hN)))|((try apply Or.inl);refine⟨_,ak.x (Pz) (sd @ad.eq_1),?_⟩;refine hN _ _ ?_;clear hN N)|((try apply Or.inl);refine⟨_,ak.x (Sp) (sd @ad.eq_1),?_⟩;refine hN _ _ ?_;clear hN N)))
   exact j0 (.inl rfl) (r1:=.bool false) (r2:=.int .i64 2) (sd @Nat.zero_add) (sd @Nat.zero_add) (by rw[jA];simp only[eV,aI,aW,fH,dw,Option.map_some];rfl)
  have MC:=dX hT
  rw[hT]at Sp
  have dR:=KF Vc s.aC s.cq.aj s.au ae ae hS hP
  rw[ad]at dR
  have hsy:n9 s=oB s.aC s.cq.aj s.au:=by
   cases hB:oB s.aC s.cq.aj s.au
   ·exact(kE fun h=>by have:=qb.2 h.holds;rw[hB]at this;cases this).symm
   ·exact(C8 ⟨hS,hP,ae,hT,qb.1 hB⟩).symm
  by_cases uG:64<jc s.aC s.cq.aj s.au
  ·rw[decide_eq_false fun h=>h uG]at dR
   have jA:n9 s=false:=(kE fun h=>by have:=h.holds.1;unfold jc at uG;omega).symm
   (repeat(first|((repeat(revert hN;revert N;apply Pn.out));refine wk @ad.eq_1 ?_;(repeat(refine Pn.mk ?_;intro N hN)))|((try apply Or.inl);refine⟨_,ak.x (Pz) (sd @ad.eq_1),?_⟩;refine hN _ _ ?_;clear hN N)|((try apply Or.inl);refine⟨_,ak.x (Sp) (sd @ad.eq_1),?_⟩;refine hN _ _ ?_;clear hN N)|((try apply Or.inl);refine⟨_,ak.x (dR) (sd @ad.eq_1),?_⟩;refine hN _ _ ?_;clear hN N)))
   exact j0 (.inl rfl) (r1:=.bool false) (r2:=.int .i64 4) (sd @Nat.zero_add) (sd @Nat.zero_add) (by rw[jA,if_pos uG];simp only[eV,aI,aW,fH,dw,Option.map_some])
  ·rw[decide_eq_true uG,<-hsy]at dR
   (repeat(first|((repeat(revert hN;revert N;apply Pn.out));refine wk @ad.eq_1 ?_;(repeat(refine Pn.mk ?_;intro N hN)))|((try apply Or.inl);refine⟨_,ak.x (Pz) (sd @ad.eq_1),?_⟩;refine hN _ _ ?_;clear hN N)|((try apply Or.inl);refine⟨_,ak.x (Sp) (sd @ad.eq_1),?_⟩;refine hN _ _ ?_;clear hN N)|((try apply Or.inl);refine⟨_,ak.x (dR) (sd @ad.eq_1),?_⟩;refine hN _ _ ?_;clear hN N)))
   exact j0 (.inl rfl) (r1:=.bool (n9 s)) (r2:=.int .i64 0) (sd @Nat.zero_add) (sd @Nat.zero_add) (by rw[if_neg uG];simp only[eV,aI,aW,fH,dw,Option.map_some])
 generalize hcode:(if rD s.aC&&qh s.aC s.cq.aj then(if iw s.au 1 16 then(if 64<jc s.aC s.cq.aj s.au then(4:Int)else 0)else 2)else 1)=code at key
 rw[ad]at key
 cases hB:n9 s
 ·rw[hB]at key
  (repeat(first|((repeat(revert hN;revert N;apply Pn.out));refine wk (tw @aA.eq_1 @hd) ?_;(repeat(refine Pn.mk ?_;intro N hN)))|((try apply Or.inl);refine⟨_,ak.x (key) (sd (tw @aA.eq_1 @hd)),?_⟩;refine hN _ _ ?_;clear hN N)))
  exact aZ (b:=false) (.inl rfl) (sd @Nat.zero_add) rfl
 ·rw[hB]at key
  have hP:=xo.1 hB
  have hc:code=0:=by
   rw[<-hcode,nA.2 hP.set,mW.2 hP.Nq,hP.Nx]
   have:=hP.holds.1
   simp only[Bool.and_self,if_true]
   rw[if_neg (by unfold jc;omega)]
  rw[hc]at key
  (repeat(first|((repeat(revert hN;revert N;apply Pn.out));refine wk (tw @aA.eq_1 @hd) ?_;(repeat(refine Pn.mk ?_;intro N hN)))|((try apply Or.inl);refine⟨_,ak.x (key) (sd (tw @aA.eq_1 @hd)),?_⟩;refine hN _ _ ?_;clear hN N)))
  exact aZ (b:=true) (.inl rfl) (sd @Nat.zero_add) rfl
end Go.Proofs.YtkbipfflibjfbaaGreat.V

namespace Go.Proofs.YtkbipfflibjfbaaGreat.V
open Go.RowKit Go.Shelf
attribute [local go_sem] Oper.semAt_some
def iO (n₀:Nat) (W W':World):Prop:=W.heap.size<=W'.heap.size/\(∀(b:Nat) (cells:Array Value) (T:TypeId) (fr:Nat×Nat),W.heap[b]? =some (Obj.cells cells T fr)->T≠53->T≠103->W'.heap[b]? =W.heap[b]?)/\∀k,k<n₀->k<W.heap.size->W'.heap[k]? =W.heap[k]?
theorem iO.trans {n₀:Nat} {A B C:World} (h:iO n₀ A B) (k:iO n₀ B C):iO n₀ A C:=⟨Nat.le_trans h.1 k.1,fun b cells T fr hb h1 h2=>by
 have e:=h.2.1 b cells T fr hb h1 h2
 rw[<-e]at hb ⊢
 exact k.2.1 b cells T fr hb h1 h2,fun b hb hs=>(k.2.2 b hb (Nat.lt_of_lt_of_le hs h.1)).trans (h.2.2 b hb hs)⟩
theorem iO.of {n₀:Nat} {W W':World} (h:Below W.heap.size W W'):iO n₀ W W':=⟨h.size,fun b cells T fr hb _ _=>h.block b (Array.getElem?_eq_some_iff.1 hb).1,fun k _ hs=>h.block k hs⟩
theorem iO.refl (n₀:Nat) (W:World):iO n₀ W W:=⟨Nat.le_refl _,fun _ _ _ _ _ _ _=>rfl,fun _ _ _=>rfl⟩
theorem iO.b {n₀ m:Nat} (hm:n₀<=m) (W:World) (l:Nat) (o o':Obj) (hl:m<=l) (h:W.heap[l]? =some o) (hc:o.isCells=false) (_:o.isWalk=false):iO n₀ W (W.putObj l o'):=by
 refine⟨by simp,fun b cells T fr hb _ _=>?_,fun k hk _=>World.putObj_heap_other ae⟩
 by_cases ke:b=l
 ·subst ke;rw[h]at hb;cases hb;cases hc
 ·exact World.putObj_heap_other ke
def Ii (bs:List PB):List Value:=bs.flatMap fun b=>[.int .i64 b.a,.int .i64 b.b,.int .i64 b.s]
theorem By (bs:List PB) (b:PB):Ii (bs++[b])=Ii bs++[.int .i64 b.a,.int .i64 b.b,.int .i64 b.s]:=by simp[Ii]
def oE (s:aw) (l:List ah) (pre:List (IB l)):List PB:=(pre.map (·.1)).flatMap (zL s l)
theorem yC (s:aw) (l:List ah) (pre:List (IB l)) (x:IB l):oE s l (pre++[x])=oE s l pre++zL s l x.1:=by simp[oE]
theorem IL (s:aw) (l:List ah) (x:Nat×Nat×Int):(zL s l x).length<=1:=by
 unfold zL;split<;>simp
theorem IM (s:aw) (l:List ah) (pre:List (IB l)):(oE s l pre).length<=pre.length:=by
 unfold oE
 induction pre with
 |nil=>simp
 |cons x r ih=>
  have:=IL s l x.1
  simp only[List.map_cons,List.flatMap_cons,List.length_append,List.length_cons]at ih ⊢
  omega
theorem zl (l:List ah) (i:Nat):∀m,(k9 l i m).length<=m
 |0=>by simp[k9]
 |m+1=>by
  rw[nT,List.length_append]
  have:=zl l i m
  have:(yf l i (1-(m:Int))).length<=1:=by unfold yf;split<;>simp
  omega
theorem wS (l:List ah):∀n,(lk l n).length<=n*2
 |0=>by simp[lk]
 |n+1=>by
  rw[nu,List.length_append]
  have:=wS l n
  have:=zl l n 2
  omega
theorem r4 {β:Type} (B:Nat) (c:Array Value) (t:TypeId) (fr:Nat×Nat):Own (fun(_:β) W=>W.heap[B]? =some (.cells c t fr)):=fun _ X _ row h hg hr=>(hg.block B (Array.getElem?_eq_some_iff.1 h).1 (fun e=>by
 obtain⟨o,ho,hc⟩:=hr B e.symm
 rw[h]at ho;cases ho;cases hc)).trans h
theorem iO.app {n₀:Nat} {W w1:World} {B k:Nat} {v v':Value} {xs:List Value} {tmp:Obj} (hv:Boxed W B 53 v) (fh:W.ownsRow n₀ 103 3 v k xs) (r6:(W.alloc tmp).grownBy w1 v.ownBlock) (hb:Below n₀ W (w1.setCell ⟨B,0,none⟩ v')):iO n₀ W (w1.setCell ⟨B,0,none⟩ v'):=by
 refine⟨hb.size,fun b cells T fr h h1 h2=>?_,fun k hk _=>hb.block k hk⟩
 have dO:=(Array.getElem?_eq_some_iff.1 h).1
 have hbB:b≠B:=by
  rintro rfl
  rw[show W.heap[b]? = _ from hv]at h
  cases h
  exact h1 rfl
 have Ud:some b≠v.ownBlock:=by
  rcases fh.2 with⟨rfl,_⟩|⟨g,cap,cur,rfl,_,hg,_⟩
  ·simp[Value.ownBlock]
  ·intro e
   obtain rfl:b=g:=by simpa[Value.ownBlock]using e
   rw[hg]at h;cases h
   exact h2 rfl
 refine(Below.heap_setCell w1 ⟨B,0,none⟩ v' b hbB).trans ?_
 exact(r6.block b (by simp;omega) Ud).trans (Below.heap_alloc W tmp b dO)
theorem Ti {w:World} {vS:Value} {l:List ah} (hP:mm w vS l):Fz (iO w.heap.size) vS l where
 refl:=iO.refl _
 trans:=iO.trans
 of:=iO.of
 size h:=h.1
 typed h:=h.2.1
 pl {W W'} h hp:=by
  obtain⟨A,c,rfl,hm,hc⟩:=hp.sl
  refine⟨A,c,rfl,hm,?_⟩
  by_cases hl:l=[]
  ·exact .inl hl
  have je:0<l.length:=List.length_pos_iff.2 hl
  rcases hc with h0|⟨b,o,rfl,gn⟩
  ·exact absurd h0 hl
  obtain⟨A',c',e,_,lg⟩:=hP.sl
  cases e
  rcases lg with h0|⟨b',o',e,hcell'⟩
  ·exact absurd h0 hl
  cases e
  have hb:=nL (hcell' 0 je).1
  have hk:=h.2.2 b hb (nL (gn 0 je).1)
  refine .inr ⟨b,o,rfl,fun i hi=>?_⟩
  have tg:∀x,W'.cell? ⟨b,x,none⟩=W.cell? ⟨b,x,none⟩:=fun x=>World.cell?_of_block hk
  rw[tg,tg,tg]
  exact gn i hi
theorem rrE {P:Program} {nt site0:Nat} {ops:Array Oper} {vl:List bh} (_:zO P ops site0 false (iN ops) (si P false ops.toList 0) ops.toList 0=some vl:=by(conv=>lhs;cbv)<;>exact rfl) (h:o5 P nt site0 ops true false=some vl:=by kernel_rfl):o5 P nt site0 ops true false=some vl:=h
theorem CE (l:List Value) (d:Value):l=(List.range l.length).map fun i=>(⟨l⟩:Array Value).getD i d:=by
 refine List.ext_getElem (by simp) fun i h1 h2=>?_
 simp[h1]
theorem EY {X:fm} {d:Bool} {ops:List bh} {K:Env->ax->Prop} {env:Env} {σ:ax} (h:ef X (.eS d ops) (fun _=>K) env σ):wpOps X d ops K env σ:=h
theorem o6 (W:World) (T:TypeId) (x y z:Value):∀(j:Nat) (u:Value),[x,y,z][j]? =some u->(W.alloc (.cells #[x,y,z] T)).cell? ((⟨W.heap.size,0,none⟩:Addr).add j)=some u:=fun j u h=>by
 have hb:(W.alloc (.cells #[x,y,z] T)).heap[W.heap.size]? =some (.cells #[x,y,z] T (0,0)):=World.alloc_heap_new _ _
 have e:∀k,(W.alloc (.cells #[x,y,z] T)).cell? ⟨W.heap.size,k,none⟩=(#[x,y,z]:Array Value)[k]? :=fun k=>by
  unfold World.cell?
  rw[show(W.alloc (.cells #[x,y,z] T)).heap[(⟨W.heap.size,k,none⟩:Addr).block]? = _ from hb]
  rfl
 rw[show(⟨W.heap.size,0,none⟩:Addr).add j=⟨W.heap.size,j,none⟩ by simp[Addr.add];exact fun h=>h.symm,e]
 simpa using h
def IZ (n b:Nat):Names:=fun id=>if id=⟨1,0⟩then some ⟨n,2,2,none⟩else if id=⟨2,0⟩then some ⟨n+1,1,1,none⟩else if id=⟨3,0⟩then some ⟨n+1+1,1,1,none⟩else if id=⟨4,0⟩then some ⟨b,2,2,none⟩else if id=⟨5,0⟩then some ⟨n+1+1+1,1,1,none⟩else none
def NQ (s:aw) (l:List ah) (i k:Nat):Rows:=fun id=>if id=⟨1,0⟩then some ⟨false,2,[ad s]⟩else if id=⟨2,0⟩then some ⟨false,1,[[.sl (l.map ab)]]⟩else if id=⟨4,0⟩then some ⟨false,2,[[.int .i64 (i:Int),.int .i64 (k:Int)]]⟩else none
def OY (s:aw) (l:List ah) (i k:Nat) (d:Int):Env:=cD [.agg (ad s),.agg [.sl (l.map ab)],.ptr ⟨1,0⟩ 0 0,.ptr ⟨2,0⟩ 0 0,.ck,.ptr ⟨3,0⟩ 0 0,.ptr ⟨4,0⟩ 0 0,.int .i64 d,.undef,.agg [.sl (l.map ab)],.fn 106 [.ptr ⟨5,0⟩ 0 0],.agg [.int .i64 (i:Int),.int .i64 (k:Int)],.int .i64 d]
theorem tH {P:Program} {W:World} {D:Nat->Prop} {ι:Names} {B:sU} {cells:Array Value} {T:TypeId} {cs:List AV} (hk:B.k=none) (hb:W.heap[B.b]? =some (.cells cells T (0,0))) (hC:cells.size=B.C) (hz:B.sz=cs.length) (hl:cs.length=cells.size) (hf:∀a∈cs,a.cell=true) (hr:∀(j:Nat) (a:AV),cs[j]? =some a->∃v,cells[j]? =some v/\cN P W D ι a v):iR P W D ι B ⟨false,cs.length,[cs]⟩:=
 lx.obj ⟨hz,⟨cells,T,hb,hC⟩,by simp;omega,fun c hc=>by simp at hc;rw[hc],fun c hc=>by simp at hc;rw[hc];exact hf,fun i j c a hi hj=>by
  match i,hi with
  |0,hi=>
   simp at hi;subst hi
   obtain⟨v,h1,h2⟩:=hr j a hj
   exact⟨v,by simp[World.cell?,hb,h1],h2⟩
  |i+1,hi=>simp at hi⟩ hk
theorem Cq:(Tryz.prog.info? 103).map (fun i=>(i.zero,i.size,i.bytes))=some (some (.agg #[.int .i64 0,.int .i64 0,.int .i64 0]),3,24):=by kernel_rfl
end Go.Proofs.YtkbipfflibjfbaaGreat.V

namespace Go.Proofs.YtkbipfflibjfbaaGreat.V
open Go.RowKit Go.Shelf
attribute [local go_sem] Oper.semAt_some
attribute [local irreducible] ef wpOps gN Call
attribute [local go_sem] aH fJ eW fZ gh dh upd cD K.av cP AV.cells AV.cell rowOf rowsOf part ld rowAt bU cw dI ek iq bL de eD gj fq dx ew db da dW dY bR bd cU bQ cW cV er ez eu cR bV dc eo bP aL cY cI im br cH bz bc dB bo dF AV.undef bx bE dZ ej dV ec cJ eC eE cF eB eA cX cZ List.getD_cons_zero List.getD_cons_succ List.getD_nil List.all_cons List.all_nil Bool.and_true Bool.true_and Bool.and_self Bool.not_true Bool.not_false Option.map_some Option.map_none Option.bind_some Option.bind_none List.length_cons List.length_nil List.take_succ_cons List.take_zero List.take_nil List.drop_succ_cons List.drop_zero List.drop_nil List.head?_cons List.map_cons List.map_nil List.getElem?_cons_zero List.getElem?_cons_succ List.cons_append List.nil_append List.append_nil List.length_map List.set_cons_zero List.set_cons_succ Nat.reduceMul eq_self Int.toNat_natCast Int.natCast_nonneg and_self true_and and_true decide_true decide_false Bool.false_eq_true Nat.zero_add Nat.add_zero List.contains_cons List.contains_nil Bool.or_false Bool.false_or beq_self_eq_true Nat.reduceBEq ne_eq not_true_eq_false not_false_eq_true Id.mk.injEq false_and and_false Nat.reduceLT Int.reduceLE Int.reduceLT Int.reduceToNat Int.reduceNeg Int.reduceAdd Nat.le_refl List.length_append beq_true beq_false Bool.not_eq_eq_eq_not or_false false_or dM ai ao aD bt cz aY bj aV bf cL bJ
theorem IX (s:aw) (l:List ah) (hF:jb s) (hA:qJ s l) (w:World) (Ag At:Option Addr) (ng cg nt ct:Nat) (vS:Value) (hT:ja Tryz.prog w (fun b=>b<w.heap.size) (.agg (ad s)) (.agg #[.slice Ag ng cg,.slice At nt ct])) (hP:mm w vS l):
  CallsIn Fence.wide 5 Tryz.prog 134 #[.agg #[.slice Ag ng cg,.slice At nt ct],.agg #[vS]] w fun e W'=>∃v,e=.returned v/\W'.ownsRow w.heap.size 103 3 v (di s l).length (Ii (di s l))/\(v=.slice none 0 0↔di s l=[])/\Below w.heap.size w W':=by
 obtain⟨A,cp,rfl,_,_⟩:=hP.sl
 obtain⟨i0,hi,xI,sS,k7⟩:=info_parts Cq
 refine callsIn_of_wp_marks Tryz.func134 rfl trivial ?_ rfl
 simp only[Tryz.ntmps134,List.size_toArray,List.length_cons,List.length_nil,Nat.reduceAdd,Nat.reduceSub,Array.replicate_succ,Array.replicate_zero,List.push_toArray,List.append_toArray,List.nil_append,List.cons_append]
 gi_wp2_with (refine⟨trivial,?_⟩;gi_at_call 54;refine(sn _ _ _).mono ?_;rintro e w' ⟨rfl,rfl⟩)
 have bT:((w.alloc (.cells #[.slice Ag ng cg,.slice At nt ct] 37)).heap[w.heap.size]?)=some (.cells #[.slice Ag ng cg,.slice At nt ct] 37 (0,0)):=World.alloc_heap_new _ _
 obtain⟨w1,pR⟩:∃w1,w.alloc (.cells #[.slice Ag ng cg,.slice At nt ct] 37)=w1:=⟨_,rfl⟩
 have Rw:w1.heap.size=w.heap.size+1:=by rw[<-pR];simp
 have qj:Below w.heap.size w w1:=by rw[<-pR];exact(Below.refl _ w).alloc (Nat.le_refl _) _
 rw[pR]at bT ⊢
 clear pR
 have bA:=Boxed.new w1 41 (.slice A l.length cp)
 have bO:=Boxed.new (w1.alloc (.cells #[.slice A l.length cp] 41)) 53 (.slice none 0 0)
 have bN:=Boxed.new ((w1.alloc (.cells #[.slice A l.length cp] 41)).alloc (.cells #[.slice none 0 0] 53)) 41 (.slice A l.length cp)
 replace bA:=(bA.alloc (.cells #[.slice none 0 0] 53)).alloc (.cells #[.slice A l.length cp] 41)
 replace bO:=bO.alloc (.cells #[.slice A l.length cp] 41)
 simp only[World.size_alloc,Rw]at bA bO bN
 have mv:Below w1.heap.size w1 (((w1.alloc (.cells #[.slice A l.length cp] 41)).alloc (.cells #[.slice none 0 0] 53)).alloc (.cells #[.slice A l.length cp] 41)):=(((Below.refl _ w1).alloc (Nat.le_refl _) _).alloc (by simp) _).alloc (by simp;omega) _
 have fy:(((w1.alloc (.cells #[.slice A l.length cp] 41)).alloc (.cells #[.slice none 0 0] 53)).alloc (.cells #[.slice A l.length cp] 41)).heap.size=w.heap.size+4:=by simp;omega
 obtain⟨W0,Sq⟩:∃W0,((w1.alloc (.cells #[.slice A l.length cp] 41)).alloc (.cells #[.slice none 0 0] 53)).alloc (.cells #[.slice A l.length cp] 41)=W0:=⟨_,rfl⟩
 rw[Sq]at bA bO bN mv fy ⊢
 clear Sq
 have oK:Below w.heap.size w W0:=qj.trans (mv.mono ae)
 replace bT:=(mv.block w.heap.size ae).trans bT
 have hP0:mm W0 (.slice A l.length cp) l:=hP.below oK
 have kl:=Ti hP
 have ke:=qN (s:=s) hA.1
 refine wpIn_rangeFunc_ownH (n:=5) rfl ae (gf:=106) (lb:= #[.pointer (some ⟨w.heap.size+1+1+1,0,none⟩)]) rfl trivial (enters_of Tryz.func106 (by kernel_rfl) rfl)
  (CQ l hA.1 (w.heap.size+1+1+1) (5-1) ae (.slice A l.length cp) (iO w.heap.size) kl W0 bN hP0) iO.trans (iO.b ae) (Below.refl _ _) (fun _=>rfl)
  (fun pre W=>((∃v,Boxed W (w.heap.size+1+1) 53 v/\W.ownsRow w.heap.size 103 3 v (oE s l pre).length (Ii (oE s l pre))/\(v=.slice none 0 0↔oE s l pre=[]))/\(Boxed W (w.heap.size+1) 41 (.slice A l.length cp)/\W.heap[w.heap.size]? =some (.cells #[.slice Ag ng cg,.slice At nt ct] 37 (0,0))))/\Below w.heap.size w W)
  (fun _ _ _=>False)
  (OwnFrom.and (OwnFrom.and (Own.from (holdsRow_own w.heap.size (w.heap.size+1+1) 53 103 3 (fun pre=>(oE s l pre).length) (fun pre=>Ii (oE s l pre)) (fun pre v=>v=.slice none 0 0↔oE s l pre=[])) _) (OwnFrom.and (Own.from (boxed_own _ _ _) _) (Own.from (r4 _ _ _ _) _))) (ownFrom_below (Nat.le_refl _) ae))
  (fun _ _ _ _ _ hs _ _=>hs)
  ⟨⟨⟨_,bO,World.ownsRow_nil _ _ _ _,by simp[oE]⟩,bA,bT⟩,oK⟩
  (fun x a' W=>∃Bx,w.heap.size+1+1<Bx/\W.heap[Bx]? =some (.cells #[.int .i64 (x.1.1:Int),.int .i64 (x.1.2.1:Int)] 110 (0,0))/\a'={tmps:= #[.agg #[.slice Ag ng cg,.slice At nt ct],.agg #[.slice A l.length cp],.pointer (some ⟨w.heap.size,0,none⟩),.pointer (some ⟨w.heap.size+1,0,none⟩),.slice none 0 0,.pointer (some ⟨w.heap.size+1+1,0,none⟩),.pointer (some ⟨Bx,0,none⟩),.int .i64 x.1.2.2,undef,.agg #[.slice A l.length cp],.func (.func 106) #[] #[.pointer (some ⟨w.heap.size+1+1+1,0,none⟩)],.agg #[.int .i64 (x.1.1:Int),.int .i64 (x.1.2.1:Int)],.int .i64 x.1.2.2,undef,undef,undef,undef,undef,undef,undef,undef,undef,undef,undef,undef,undef,undef,undef,undef,undef,undef,undef,undef,undef,undef,undef,undef,undef,undef,undef,undef,undef],defers:=[]})
  (fun x a' _ X Y row hs hg hr=>by obtain⟨Bx,h1,h2,h3⟩:=hs;exact⟨Bx,h1,r4 Bx _ _ _ () X Y row h2 hg (fun r e=>(hr r e).2),h3⟩)
  ?assign ?body ?done ?stop
 case assign=>
  rintro q pre ⟨⟨x0,x1,x2⟩,hx⟩ W K ⟨⟨⟨v,hv,fh,lY⟩,bA1,bT1⟩,hB⟩ hK
  simp only[BU]
  gi_wp2
  exact hK _ _ ((KeepsOthers.alloc _ _).from _) (iO.of ((Below.refl _ W).alloc (Nat.le_refl _) _)) ⟨⟨⟨v,hv.alloc _,fh.alloc _,lY⟩,bA1.alloc _,(Below.heap_alloc _ _ _ (Array.getElem?_eq_some_iff.1 bT1).1).trans bT1⟩,hB.alloc hB.size _⟩ ⟨W.heap.size,hv.lt,World.alloc_heap_new _ _,rfl⟩
 case body=>
  rintro q pre ⟨⟨x0,x1,x2⟩,hx⟩ a' W hq hqr ⟨⟨⟨v,hv,fh,lY⟩,bA1,bT1⟩,hB⟩ ⟨Bx,hBx,bX,rfl⟩ dO
  obtain⟨y9,Om,Bj,-⟩:=id hx
  simp only at y9 Om Bj bX
  obtain⟨A',c',e',_,hc⟩:=(hP.below hB).sl
  cases e'
  have dy:∃b o,A=some ⟨b,o,none⟩/\W.cell? ⟨b,o+x0*3+2,none⟩=some (.int .i64 (bq l x0).bY)/\W.cell? ⟨b,o+x1*3+2,none⟩=some (.int .i64 (bq l x1).bY):=by
   rcases hc with rfl|⟨b,o,rfl,gn⟩
   ·simp at y9
   ·exact⟨b,o,rfl,by rw[Nat.add_assoc];exact(gn x0 y9).2.2,by rw[Nat.add_assoc];exact(gn x1 Om).2.2⟩
  obtain⟨b,o,rfl,cP0,cP1⟩:=dy
  have cT0:W.cell? ⟨w.heap.size,0,none⟩=some (.slice Ag ng cg):=by simp[World.cell?,bT1]
  have cT1:W.cell? ⟨w.heap.size,1,none⟩=some (.slice At nt ct):=by simp[World.cell?,bT1]
  have cX0:W.cell? ⟨Bx,0,none⟩=some (.int .i64 (x0:Int)):=by simp[World.cell?,bX]
  have cX1:W.cell? ⟨Bx,1,none⟩=some (.int .i64 (x1:Int)):=by simp[World.cell?,bX]
  have cA:=bA1.cell
  have dP0:W.drew.cell? ⟨b,o+x0*3+2,none⟩=some (.int .i64 (bq l x0).bY):=cP0
  have dP1:W.drew.cell? ⟨b,o+x1*3+2,none⟩=some (.int .i64 (bq l x1).bY):=cP1
  have dT0:W.drew.cell? ⟨w.heap.size,0,none⟩=some (.slice Ag ng cg):=cT0
  have dT1:W.drew.cell? ⟨w.heap.size,1,none⟩=some (.slice At nt ct):=cT1
  have dX0:W.drew.cell? ⟨Bx,0,none⟩=some (.int .i64 (x0:Int)):=cX0
  have dX1:W.drew.cell? ⟨Bx,1,none⟩=some (.int .i64 (x1:Int)):=cX1
  have dA:W.drew.cell? ⟨w.heap.size+1,0,none⟩=some (.slice (some ⟨b,o,none⟩) l.length cp):=cA
  have r8:∀i,i<l.length->bq l i∈l:=fun i hi=>by
   unfold bq
   rw[List.getD_eq_getElem?_getD,List.getElem?_eq_getElem hi]
   exact List.getElem_mem hi
  have VN:=mixed
  have hfw:=hA.1.zX
  have Ue:=OU s hF (bq l x0).bY x2 (bq l x1).bY (hA.2 _ (r8 x0 y9)) (hA.2 _ (r8 x1 Om)) (mC ae)
  have hTW:ja Tryz.prog W (fun b=>b<w.heap.size) (.agg (ad s)) (.agg #[.slice Ag ng cg,.slice At nt ct]):=hT.frame (fun b hb=>hB.block b hb) (fun _ h=>h)
  have hAW:ja Tryz.prog W (fun b=>b<w.heap.size) (.sl (l.map ab)) (.slice (some ⟨b,o,none⟩) l.length cp):=hP.eO.frame (fun b hb=>hB.block b hb) (fun _ h=>h)
  obtain⟨fT,hT0,hT1⟩:∃f:Nat->Value,(∀j,j<(ad s).length->(#[Value.slice Ag ng cg,.slice At nt ct])[j]? =some (f j))/\∀j a,(ad s)[j]? =some a->ja Tryz.prog W (fun b=>b<w.heap.size) a (f j):=by
   cases hTW with
   |agg _ _ f _ _ h3 h4=>exact⟨f,h3,h4⟩
  have dR:St Tryz.prog W.heap.size 42 (fun b=>b<w.heap.size) (IZ w.heap.size Bx) (OY s l x0 x1 x2) ⟨NQ s l x0 x1,1⟩ {tmps:= #[.agg #[.slice Ag ng cg,.slice At nt ct],.agg #[.slice (some ⟨b,o,none⟩) l.length cp],.pointer (some ⟨w.heap.size,0,none⟩),.pointer (some ⟨w.heap.size+1,0,none⟩),.slice none 0 0,.pointer (some ⟨w.heap.size+1+1,0,none⟩),.pointer (some ⟨Bx,0,none⟩),.int .i64 x2,undef,.agg #[.slice (some ⟨b,o,none⟩) l.length cp],.func (.func 106) #[] #[.pointer (some ⟨w.heap.size+1+1+1,0,none⟩)],.agg #[.int .i64 (x0:Int),.int .i64 (x1:Int)],.int .i64 x2,undef,undef,undef,undef,undef,undef,undef,undef,undef,undef,undef,undef,undef,undef,undef,undef,undef,undef,undef,undef,undef,undef,undef,undef,undef,undef,undef,undef,undef],defers:=[]} W:=by
   have n1:(IZ w.heap.size Bx) ⟨1,0⟩=some ⟨w.heap.size,2,2,none⟩:=rfl
   have n2:(IZ w.heap.size Bx) ⟨2,0⟩=some ⟨w.heap.size+1,1,1,none⟩:=rfl
   have n3:(IZ w.heap.size Bx) ⟨3,0⟩=some ⟨w.heap.size+1+1,1,1,none⟩:=rfl
   have n4:(IZ w.heap.size Bx) ⟨4,0⟩=some ⟨Bx,2,2,none⟩:=rfl
   have n5:(IZ w.heap.size Bx) ⟨5,0⟩=some ⟨w.heap.size+1+1+1,1,1,none⟩:=rfl
   have rp:∀(id:Id) (B:sU),(IZ w.heap.size Bx) id=some B->B.k=none->cN Tryz.prog W (fun b=>b<w.heap.size) (IZ w.heap.size Bx) (.ptr id 0 0) (.pointer (some ⟨B.b,0,none⟩)):=fun id B h hk=>by
    have:=cN.ptr (P:=Tryz.prog) (w:=W) (D:=fun b=>b<w.heap.size) id 0 0 B h hk
    simpa using this
   have ri:∀n:Int,cN Tryz.prog W (fun b=>b<w.heap.size) (IZ w.heap.size Bx) (.int .i64 n) (.int .i64 n):=fun n=>.eO _ _ (.int _ _)
   have hA1:ja Tryz.prog W (fun b=>b<w.heap.size) (.agg [.sl (l.map ab)]) (.agg #[.slice (some ⟨b,o,none⟩) l.length cp]):=.agg _ _ (fun _=>.slice (some ⟨b,o,none⟩) l.length cp) rfl (fun a ha=>by simp at ha;rw[ha];rfl) (fun j hj=>by match j,hj with|0,_=>rfl|j+1,hj=>simp at hj) (fun j a ha=>by match j,ha with|0,ha=>simp at ha;subst ha;exact hAW|j+1,ha=>simp at ha)
   refine⟨⟨Nat.le_refl _,fun b hb=>Nat.lt_of_lt_of_le hb hB.size,fun id r hg=>?_,fun id kS r r' B B' h _ hw=>?_⟩,fun id hid=>?_,fun t=>?_,rfl⟩
   ·replace hg:NQ s l x0 x1 id=some r:=hg
    unfold NQ at hg
    split at hg
    ·rename_i e;subst e;injection hg with hg;subst hg
     exact⟨_,n1,tH (cs:=ad s) rfl bT1 rfl rfl rfl (fun a ha=>by simp[ad]at ha;rcases ha with rfl|rfl<;>rfl) (fun j a ha=>⟨_,hT0 j (List.getElem?_eq_some_iff.1 ha).1,.eO _ _ (hT1 j a ha)⟩),fun h=>(by cases h),fun h=>(by cases h)⟩
    ·split at hg
     ·rename_i e;subst e;injection hg with hg;subst hg
      exact⟨_,n2,tH (cs:=[.sl (l.map ab)]) rfl bA1 rfl rfl rfl (fun a ha=>by simp at ha;rw[ha];rfl) (fun j a ha=>by match j,ha with|0,ha=>simp at ha;subst ha;exact⟨_,rfl,.eO _ _ hAW⟩|j+1,ha=>simp at ha),fun h=>(by cases h),fun h=>(by cases h)⟩
     ·split at hg
      ·rename_i e;subst e;injection hg with hg;subst hg
       exact⟨_,n4,tH (cs:=[.int .i64 (x0:Int),.int .i64 (x1:Int)]) rfl bX rfl rfl rfl (fun a ha=>by simp at ha;rcases ha with rfl|rfl<;>rfl) (fun j a ha=>by match j,ha with|0,ha=>simp at ha;subst ha;exact⟨_,rfl,ri _⟩|1,ha=>simp at ha;subst ha;exact⟨_,rfl,ri _⟩|j+2,ha=>simp at ha),fun h=>(by cases h),fun h=>(by cases h)⟩
      ·cases hg
   ·exfalso
    replace h:NQ s l x0 x1 id=some r:=h
    unfold NQ at h
    split at h
    ·injection h with h;subst h;cases hw
    ·split at h
     ·injection h with h;subst h;cases hw
     ·split at h
      ·injection h with h;subst h;cases hw
      ·cases h
   ·left
    unfold IZ at hid
    repeat' (split at hid)
    all_goals first|(rename_i e;subst e;exact Nat.zero_lt_one)|exact absurd rfl hid
   ·match t with
    |0=>exact .eO _ _ hTW
    |1=>exact .eO _ _ hA1
    |2=>exact rp _ _ n1 rfl
    |3=>exact rp _ _ n2 rfl
    |4=>exact .eO _ _ .ck
    |5=>exact rp _ _ n3 rfl
    |6=>exact rp _ _ n4 rfl
    |7=>exact ri _
    |8=>exact cN.undef
    |9=>exact .eO _ _ hA1
    |10=>exact .fn _ _ _ (fun _=>.pointer (some ⟨w.heap.size+1+1+1,0,none⟩)) (by kernel_rfl) rfl (fun j hj=>by match j,hj with|0,_=>rfl|j+1,hj=>simp at hj) (fun j a ha=>by match j,ha with|0,ha=>simp at ha;subst ha;exact rp _ _ n5 rfl|j+1,ha=>simp at ha)
    |11=>exact .agg _ _ (fun j=>if j=0 then .int .i64 (x0:Int)else .int .i64 (x1:Int)) rfl (fun a ha=>by simp at ha;rcases ha with rfl|rfl<;>rfl) (fun j hj=>by match j,hj with|0,_=>rfl|1,_=>rfl|j+2,hj=>simp at hj;omega) (fun j a ha=>by match j,ha with|0,ha=>simp at ha;subst ha;exact ri _|1,ha=>simp at ha;subst ha;exact ri _|j+2,ha=>simp at ha)
    |12=>exact ri _
    |13=>exact cN.undef
    |14=>exact cN.undef
    |15=>exact cN.undef
    |16=>exact cN.undef
    |17=>exact cN.undef
    |18=>exact cN.undef
    |19=>exact cN.undef
    |20=>exact cN.undef
    |21=>exact cN.undef
    |22=>exact cN.undef
    |23=>exact cN.undef
    |24=>exact cN.undef
    |25=>exact cN.undef
    |26=>exact cN.undef
    |27=>exact cN.undef
    |28=>exact cN.undef
    |29=>exact cN.undef
    |30=>exact cN.undef
    |31=>exact cN.undef
    |32=>exact cN.undef
    |33=>exact cN.undef
    |34=>exact cN.undef
    |35=>exact cN.undef
    |36=>exact cN.undef
    |37=>exact cN.undef
    |38=>exact cN.undef
    |39=>exact cN.undef
    |40=>exact cN.undef
    |41=>exact cN.undef
    |t+42=>exact cN.undef
  have hV:wpOps (Call Tryz.prog) true ?vl (fun e _=>e 5=.ptr ⟨3,0⟩ 0 0/\e 6=.ptr ⟨4,0⟩ 0 0/\e 8=.int .i64 (jG s (bq l x0).bY x2 (bq l x1).bY)) (OY s l x0 x1 x2) ⟨NQ s l x0 x1,1⟩:= ?hv
  gi_wp2
  refine AK mixed (rrE (nt:=42) (site0:=134005000)) (CT (by kernel_rfl)) (oh (fun _ _ _ _ h=>gG mixed h) ly (fun _ _ h=>h) _ _ _ hV) dR ?_
  rintro e1 σ1 ⟨tm,df⟩ w3 D1 ι1 ⟨h5,h6,h8⟩ T1 Gx Cb
  case hv=>
   refine EY ?_
   have e0:=gu y9
   have e1:=gu Om
   (repeat(first|((repeat(revert hN;revert N;apply Pn.out));refine wk (tw @e0 (tw @e1 (tw @OY.eq_1 (tw @NQ.eq_1 (tw @ab.eq_1 @ad.eq_1))))) ?_;(repeat(refine Pn.mk ?_;intro N hN)))|((try apply Or.inl);refine⟨_,ak.x (Ue) (sd (tw @e0 (tw @e1 (tw @OY.eq_1 (tw @NQ.eq_1 (tw @ab.eq_1 @ad.eq_1)))))),?_⟩;refine hN _ _ ?_;clear hN N)))
   exact⟨sd @OY.eq_1,sd @OY.eq_1,sd @OY.eq_1⟩
  ·have mN:Below W.heap.size W w3:=T1.below
   have Bh:∀id B,IZ w.heap.size Bx id=some B->ι1 id=some B:=T1.names
   have p5:tm.getD 5 undef=.pointer (some ⟨w.heap.size+1+1,0,none⟩):=by
    have g:=Gx.env 5
    rw[h5]at g
    obtain⟨B,e,hB,_⟩:=ji g
    have h:=Bh ⟨3,0⟩ ⟨w.heap.size+1+1,1,1,none⟩ rfl
    rw[h]at hB;injection hB with hB;subst hB
    simpa using e
   have p6:tm.getD 6 undef=.pointer (some ⟨Bx,0,none⟩):=by
    have g:=Gx.env 6
    rw[h6]at g
    obtain⟨B,e,hB,_⟩:=ji g
    have h:=Bh ⟨4,0⟩ ⟨Bx,2,2,none⟩ rfl
    rw[h]at hB;injection hB with hB;subst hB
    simpa using e
   have p8:tm.getD 8 undef=.int .i64 (jG s (bq l x0).bY x2 (bq l x1).bY):=by
    have g:=Gx.env 8
    rw[h8]at g
    exact dn g
   have fy:=Gx.size
   obtain⟨tl⟩:=tm
   obtain⟨f,Oh,hf⟩:∃f:Nat->Value,tl=[f 0,f 1,f 2,f 3,f 4,f 5,f 6,f 7,f 8,f 9,f 10,f 11,f 12,f 13,f 14,f 15,f 16,f 17,f 18,f 19,f 20,f 21,f 22,f 23,f 24,f 25,f 26,f 27,f 28,f 29,f 30,f 31,f 32,f 33,f 34,f 35,f 36,f 37,f 38,f 39,f 40,f 41]/\∀i,f i=(⟨tl⟩:Array Value).getD i undef:=by
    refine⟨fun i=>(⟨tl⟩:Array Value).getD i undef,?_,fun _=>rfl⟩
    have h:=CE tl undef
    rw[show tl.length=42 from fy]at h
    exact h
   rw[<-hf]at p5 p6 p8
   have PE:df=[]:=Cb
   subst PE
   clear hf Gx dR hV
   subst Oh
   rw[p5,p6,p8]
   have MD:=hv.kept (grown_of mN) (by simp)
   have sa:=fh.kept (grown_of mN) (by rcases fh.2 with⟨e,_⟩|⟨_,_,_,e,_⟩<;>rw[e]<;>simp[Value.ownBlock])
   have hc3:=MD.cell
   have VT:w.heap.size<=w3.heap.size:=Nat.le_trans hB.size mN.size
   have eX0:w3.cell? ⟨Bx,0,none⟩=some (.int .i64 (x0:Int)):=(mN.cell (p:=⟨Bx,0,none⟩) (Array.getElem?_eq_some_iff.1 bX).1).trans cX0
   have eX1:w3.cell? ⟨Bx,1,none⟩=some (.int .i64 (x1:Int)):=(mN.cell (p:=⟨Bx,1,none⟩) (Array.getElem?_eq_some_iff.1 bX).1).trans cX1
   have nk:(oE s l pre).length<=2097152:=by
    have h1:=IM s l pre
    have h2:=wS l l.length
    omega
   have Sk:KeepsFrom (w.heap.size+4) W w3:=⟨mN.size,fun k o _ hk _=>(mN.block k (Array.getElem?_eq_some_iff.1 hk).1).trans hk⟩
   have Q8:iO w.heap.size W w3:=iO.of mN
   have Lg:w3.heap[w.heap.size+1]? = _:=(mN.block _ bA1.lt).trans bA1
   have UT:=(mN.block _ (Array.getElem?_eq_some_iff.1 bT1).1).trans bT1
   by_cases je:0<jG s (bq l x0).bY x2 (bq l x1).bY
   ·have Bd:oE s l (pre++[⟨(x0,x1,x2),hx⟩])=oE s l pre++[⟨x0,x1,jG s (bq l x0).bY x2 (bq l x1).bY⟩]:=by
     rw[yC];simp only[zL,if_pos je]
    gi_wp2_with (gi_at_builtin;refine wpListIn_append_own _ rfl _ _ 53 rfl w.heap.size 103 i0 (.agg #[.int .i64 0,.int .i64 0,.int .i64 0]) 3 24 (by kernel_rfl) hi xI sS k7 rfl (by decide) _ _ _ rfl (sa.alloc _) ⟨w3.heap.size,0,none⟩ 1 1 [.int .i64 (x0:Int),.int .i64 (x1:Int),.int .i64 (jG s (bq l x0).bY x2 (bq l x1).bY)] rfl rfl (o6 _ _ _ _ _) (by simp[Value.oneCell']) (by unfold maxLen;omega) ae (by simp;omega) ?_;intro v' w4 wC r6 _;obtain⟨g',RT,rfl⟩:=ownsRow_succ wC;obtain⟨uf,JO,Ip,uK,xG⟩:=MD.appended (by decide) sa VT ae wC r6;have Ce:=iO.app MD sa r6 xG;have qk:=uf.cell;have N2:=uf.frozen)
    exact⟨Sk.trans (uK.from _),Q8.trans Ce,⟨⟨_,JO,by rw[Bd,By,List.length_append];exact Ip,by rw[Bd];simp⟩,(Ce.2.1 _ _ _ _ Lg (by decide) (by decide)).trans Lg,(Ce.2.1 _ _ _ _ UT (by decide) (by decide)).trans UT⟩,hB.trans ((mN.mono hB.size).trans xG)⟩
   ·have Bd:oE s l (pre++[⟨(x0,x1,x2),hx⟩])=oE s l pre:=by
     rw[yC];simp only[zL,if_neg je,List.append_nil]
    gi_wp2
    exact⟨Sk,Q8,⟨⟨v,MD,by rw[Bd];exact sa,by rw[Bd];exact lY⟩,Lg,UT⟩,hB.trans (mN.mono hB.size)⟩
 case done=>
  rintro D ys W hD Dv ⟨⟨⟨v,hv,fh,lY⟩,_⟩,hB⟩ hK
  have hc:=hv.cell
  have Ij:oE s l ys=di s l:=by rw[IY,<-Dv];rfl
  rw[Ij]at fh lY
  gi_wp2
  refine⟨by simp,.inl ⟨_,_,rfl,run_takeDeferred hK,?_⟩⟩
  exact⟨_,results_tmp rfl _ _ _,v,rfl,ownsRow_putObj fh _ hK rfl,lY,hB.trans (belowK_b (w:=w) (Nat.le_refl _) W D _ _ ae hK rfl rfl)⟩
 case stop=>
  rintro D c pre W _ _ h _
  exact h.elim
end Go.Proofs.YtkbipfflibjfbaaGreat.V

namespace Go.Proofs.YtkbipfflibjfbaaGreat.V
open Go.RowKit Go.Shelf
theorem zM:∀{bs:List PB} {i j:Nat} {b:PB},bs[i]? =some b->j<3->(Ii bs)[i*3+j]? =([.int .i64 b.a,.int .i64 b.b,.int .i64 b.s]:List Value)[j]?
 |c::bs,0,j,b,h,hj=>by
  simp at h;subst h
  simp only[Ii,List.flatMap_cons,Nat.zero_mul,Nat.zero_add]
  rw[List.getElem?_append_left (by simpa using hj)]
 |c::bs,i+1,j,b,h,hj=>by
  simp only[List.getElem?_cons_succ]at h
  have:=zM (bs:=bs) (i:=i) (j:=j) h hj
  simp only[Ii,List.flatMap_cons]at this ⊢
  rw[List.getElem?_append_right (by simp;omega),<-this]
  congr 1
  simp;omega
theorem jg {P:Program} {w:World} {D:Nat->Prop} {rows:List (List AV)} {v:Value} (h:ja P w D (.sl rows) v):∃A n c,v=.slice A n c:=by
 cases h with
 |Dw a c _=>exact⟨_,_,_,rfl⟩
 |sl=>exact⟨_,_,_,rfl⟩
theorem iW {P:Program} {w:World} {D:Nat->Prop} {ι:Names} {rows:List (List AV)} {v:Value} (h:cN P w D ι (.sl rows) v):ja P w D (.sl rows) v:=by
 cases h with
 |eO _ _ h=>exact h
theorem Ga {P:Program} {w:World} {D:Nat->Prop} {l:List ah} {v:Value} (h:ja P w D (.sl (l.map ab)) v):mm w v l:=by
 generalize hr:l.map ab=rows at h
 cases h with
 |Dw a c hc=>
  have:l=[]:=by simpa using hr
  subst this
  exact⟨a,c,rfl,⟨Nat.zero_le _,hc⟩,.inl rfl⟩
 |sl _ b o n c sz vs h1 h2 h3 h4 h5 h5' h6 h7=>
  have hn:n=l.length:=by rw[<-h1,<-hr];simp
  subst hn
  refine⟨some ⟨b,o,none⟩,c,rfl,⟨h2,h3⟩,?_⟩
  by_cases hl:l=[]
  ·exact .inl hl
  refine .inr ⟨b,o,rfl,fun i hi=>?_⟩
  have hg:rows[i]? =some (ab (bq l i)):=by rw[<-hr];exact gu hi
  have fy:sz=3:=by rw[<-h5 _ (List.mem_of_getElem? hg)];rfl
  subst fy
  have k:∀(j:Nat) (x:Int),(ab (bq l i))[j]? =some (.int .i64 x)->j<3->w.cell? ⟨b,o+(i*3+j),none⟩=some (.int .i64 x):=fun j x hj h3=>by
   have:=h7 i j _ _ hg hj
   rw[h6 i j hi h3,dn (.eO (ι:=fun _=>none) _ _ this)]
  exact⟨k 0 _ rfl ae,k 1 _ rfl ae,k 2 _ rfl ae⟩
theorem OV:Dx:=by
 intro s l hS hA n
 refine gF ?_
 intro hs D ι w vs S U A
 obtain⟨u0,P6,r0⟩:=A.2 0 _ rfl
 obtain⟨u1,Oi,r1⟩:=A.2 1 _ rfl
 have dO:∀b,D b->b<w.heap.size:=S.dead
 obtain⟨v0,f0,rfl,xI,_,Ik,Hd⟩:=gM r0
 obtain⟨v1,f1,rfl,sS,_,N2,He⟩:=gM r1
 have g0:=iW (Hd 0 _ rfl)
 have g1:=iW (Hd 1 _ rfl)
 have a0:=iW (He 0 _ rfl)
 obtain⟨Ag,ng,cg,eg⟩:=jg g0
 obtain⟨At,nt,ct,et⟩:=jg g1
 have e0:v0= #[.slice Ag ng cg,.slice At nt ct]:=by
  obtain⟨vl⟩:=v0
  have q0:=Ik 0 (by simp[ad])
  have q1:=Ik 1 (by simp[ad])
  rw[eg]at q0;rw[et]at q1
  match vl,xI with
  |[a,b],_=>simp at q0 q1;rw[q0,q1]
 have e1:v1= #[f1 0]:=by
  obtain⟨vl⟩:=v1
  have q0:=N2 0 (by simp)
  match vl,sS with
  |[a],_=>simp at q0;rw[q0]
 subst e0 e1
 have UZ:vs= #[.agg #[.slice Ag ng cg,.slice At nt ct],.agg #[f1 0]]:=by
  obtain⟨vl⟩:=vs
  have hz:=A.1
  match vl,hz with
  |[a,b],_=>simp at P6 Oi;rw[P6,Oi]
 subst UZ
 have up:∀{a v},ja Tryz.prog w D a v->ja Tryz.prog w (fun b=>b<w.heap.size) a v:=fun h=>h.frame (fun _ _=>rfl) dO
 have hT:ja Tryz.prog w (fun b=>b<w.heap.size) (.agg (ad s)) (.agg #[.slice Ag ng cg,.slice At nt ct]):=
  .agg _ _ f0 xI (fun a ha=>by simp[ad]at ha;rcases ha with rfl|rfl<;>rfl) Ik (fun j a ha=>by
   match j,ha with
   |0,ha=>simp[ad]at ha;subst ha;exact up g0
   |1,ha=>simp[ad]at ha;subst ha;exact up g1
   |j+2,ha=>simp[ad]at ha)
 refine(callsIn_wide.1 (IX s l hS.form hA w Ag At ng cg nt ct (f1 0) hT (Ga a0))).mono ?_
 rintro e W' ⟨v,rfl,⟨hl,hown⟩,lY,hB⟩
 have S':gK Tryz.prog hs D ι (fun _=>none) W':=S.stay (fun b hb=>hB.block b hb) hB.size (fun _ h=>h) (fun b hb=>Nat.lt_of_lt_of_le (dO b hb) hB.size) (fun _ h=>.inl h) (fun _ _ h=>h)
 have T:Step hs D ι w D ι W':=Step.stay S (fun b hb=>hB.block b hb) hB.size hB.os hB.tape hB.output (fun _ h=>h) (fun _ h=>.inl h) (fun _ _ h=>h)
 rcases hown with⟨rfl,h0⟩|⟨gb,cap,cur,rfl,PI,hblk,hle,Em,dy,oA⟩
 ·have Mo:di s l=[]:=lY.1 rfl
  exact⟨.ck,_,n,D,ι,_,rfl,⟨.ck,gC _ _,by rw[Mo];rfl⟩,T,S',U,Nat.le_refl _,.eO _ _ .ck⟩
 ·have Mo:di s l≠[]:=fun h=>by have:=lY.2 h;cases this
  have kR:ι ⟨0,n⟩=none:=fresh U (fun h=>h)
  have ij:∀{a v},cN Tryz.prog W' D ι a v->cN Tryz.prog W' D (kX ι ⟨0,n⟩ ⟨gb,3,cap*3,none⟩) a v:=fun h=>h.frame (fun _ _=>rfl) (fun _ h=>h) (ga kR)
  have hR:iR Tryz.prog W' D (kX ι ⟨0,n⟩ ⟨gb,3,cap*3,none⟩) ⟨gb,3,cap*3,none⟩ ⟨true,3,(di s l).map ay⟩:=by
   refine lx.obj ⟨rfl,⟨cur,_,hblk,dy⟩,?_,fun cs hc=>?_,fun cs hc a ha=>?_,fun i j cs a hi hj=>?_⟩ rfl
   ·simp only[List.length_map];exact Nat.mul_le_mul_right 3 hle
   ·obtain⟨b,_,rfl⟩:=List.mem_map.1 hc;rfl
   ·obtain⟨b,_,rfl⟩:=List.mem_map.1 hc
    simp[ay]at ha
    rcases ha with rfl|rfl|rfl<;>rfl
   ·rw[List.getElem?_map]at hi
    simp only[Option.map_eq_some_iff]at hi
    obtain⟨b,hb,rfl⟩:=hi
    have VI:j<3:=by have:=(List.getElem?_eq_some_iff.1 hj).1;simpa[ay]using this
    have nj:=(List.getElem?_eq_some_iff.1 hb).1
    have hg:=zM hb VI
    rw[<-oA,List.getElem?_take,if_pos ae]at hg
    have key:∀x:Value,([.int .i64 b.a,.int .i64 b.b,.int .i64 b.s]:List Value)[j]? =some x->W'.cell? ⟨gb,i*3+j,none⟩=some x:=fun x hx=>by
     rw[hx]at hg
     have e:W'.cell? ⟨gb,i*3+j,none⟩=cur[i*3+j]? :=by
      unfold World.cell?
      rw[show W'.heap[(⟨gb,i*3+j,none⟩:Addr).block]? = _ from hblk]
      rfl
     rw[e,<-Array.getElem?_toList];exact hg
    match j,hj with
    |0,hj=>simp[ay]at hj;subst hj;exact⟨_,key _ rfl,.eO _ _ (.int _ _)⟩
    |1,hj=>simp[ay]at hj;subst hj;exact⟨_,key _ rfl,.eO _ _ (.int _ _)⟩
    |2,hj=>simp[ay]at hj;subst hj;exact⟨_,key _ rfl,.eO _ _ (.int _ _)⟩
    |j+3,hj=>simp[ay]at hj
  have S2:=gK.add (r:=⟨true,3,(di s l).map ay⟩) S S' kR PI hR
  refine⟨.own ⟨0,n⟩ 0 (di s l).length,bU (fun _=>none) ⟨0,n⟩ ⟨true,3,(di s l).map ay⟩,n+1,D,kX ι ⟨0,n⟩ ⟨gb,3,cap*3,none⟩,_,rfl,⟨AP (di s l),?_,rfl⟩,T.trans (Step.stay S' (fun _ _=>rfl) (Nat.le_refl _) rfl rfl rfl (fun _ h=>h) (fun _ h=>.inl h) (ga kR)),S2,U.upd.next,Nat.le_succ _,.own _ _ _ _ _ _ (eL _ _ _) rfl hle (.inr (by simp)) (by simp) Em⟩
  unfold AP
  rw[if_neg Mo]
  have hg:(bU (fun _=>none) (⟨0,n⟩:Id) ⟨true,3,(di s l).map ay⟩:Rows) ⟨0,n⟩=some ⟨true,3,(di s l).map ay⟩:=by simp[bU]
  have:=e9 (n:=5) hg rfl fun b=>uU _ 4 b
  simpa using this
end Go.Proofs.YtkbipfflibjfbaaGreat.V

namespace Go.Proofs.YtkbipfflibjfbaaGreat.V
open Go.RowKit
theorem Qm {P:Program} {w:World} {D:Nat->Prop} {ι:Names} {x y:Int} {v:Value} (h:cN P w D ι (.agg [.int .i64 x,.int .i64 y]) v):v=.agg #[.int .i64 x,.int .i64 y]:=by
 obtain⟨vs,f,rfl,fy,_,h1,h2⟩:=gM h
 have v0:=h1 0 (by simp)
 have v1:=h1 1 (by simp)
 rw[dn (h2 0 _ rfl)]at v0
 rw[dn (h2 1 _ rfl)]at v1
 obtain⟨vl⟩:=vs
 match vl,fy with
 |[a,b],_=>
  simp at v0 v1
  rw[v0,v1]
variable {P:Program} {w w':World} {D D':Nat->Prop} {ι ι':Names} {hs:Nat} {g:Rows}
def UK (w:World) (rr:Nat):Prop:=∃m s seen c,w.heap[rr]? =some (.mapIter m s seen c)
theorem xc {x y:AV} {u v:Value} (h1:cN P w D ι x u) (h2:cN P w D ι y v):cN P w D ι (.iJ [x,y]) (.tuple #[u,v]):=
 .iJ _ _ (fun j=>if j=0 then u else v) rfl (fun j hj=>by match j,hj with|0,_=>rfl|1,_=>rfl|j+2,hj=>simp at hj;omega) (fun j a ha=>by match j,ha with|0,ha=>simp at ha;subst ha;exact h1|1,ha=>simp at ha;subst ha;exact h2|j+2,ha=>simp at ha)
structure Lft (P:Program) (w:World) (D:Nat->Prop) (ι:Names) (m:MK) (L:List MapEntry) (left:List (List AV)):Prop where
 len:left.length=L.length
 at_:∀(i:Nat) (cs:List AV),left[i]? =some cs->∃(e:MapEntry) (kv vv:AV),L[i]? =some e/\part m.ka m.ks cs=some kv/\cs[m.ks]? =some vv/\cN P w D ι kv e.key/\cN P w D ι vv e.val
theorem Ab {α β:Type} {l:List α} {k:List β} {i j:Nat} {x:α} (hl:l.length=k.length) (h:(l.eraseIdx i)[j]? =some x):∃q:Nat,l[q]? =some x/\(k.eraseIdx i)[j]? =k[q]? :=by
 rw[List.getElem?_eraseIdx]at h
 split at h
 ·rename_i hj;exact⟨j,h,by rw[List.getElem?_eraseIdx,if_pos hj]⟩
 ·rename_i hj;exact⟨j+1,h,by rw[List.getElem?_eraseIdx,if_neg hj]⟩
def CS (P:Program) (nt:Nat) (c:Code) (W:(Ex->Env->ax->Prop)->Env->ax->Prop):Prop:=
 ∀(hs:Nat) (Q:Ex->Env->ax->Prop) (env:Env) (σ:ax) (a:Act) (w:World) (D:Nat->Prop) (ι:Names) (Q':Exit->Act->World->Prop),W Q env σ->St P hs nt D ι env σ a w->qx P hs nt a.defers Q σ.next D ι w Q'->Bm P c Q' a w
end Go.Proofs.YtkbipfflibjfbaaGreat.V

namespace Go.Proofs.YtkbipfflibjfbaaGreat.V
open Go.RowKit
theorem CZ {P:Program} {w:World} {D:Nat->Prop} {ι:Names} (k1 k2:IntKind) (x y:Int):cN P w D ι (.agg [.int k1 x,.int k2 y]) (.agg #[.int k1 x,.int k2 y]):=by
 refine .eO _ _ (.agg _ _ (fun j=>if j=0 then .int k1 x else .int k2 y) rfl (by simp[AV.cell]) (fun j hj=>?_) (fun j a ha=>?_))
 ·have:j=0∨j=1:=by simp at hj;omega
  rcases this with rfl|rfl<;>rfl
 ·match j,ha with
  |0,ha=>simp at ha;subst ha;exact .int _ _
  |1,ha=>simp at ha;subst ha;exact .int _ _
  |j+2,ha=>simp at ha
theorem GB (p:aq) (k:Int) (h1:1<=k) (h4:k<=4) (hx: -1000000<=p.dQ/\p.dQ<=1000000) (hy: -1000000<=p.dH/\p.dH<=1000000):ak Tryz.prog 151 [.agg (aa p),.int .i64 k] (.iJ [.agg (aa (nH p k)),.agg (aa (O0 p k))]):=by
 intro n
 refine gF fun hs D ι w vs S U A=>?_
 obtain⟨u,us,rfl,g1,g2⟩:=lu A
 obtain⟨u',us',g3,g4,g5⟩:=lu g2
 simp at g3;subst g3
 have:=w6 g5
 simp at this;subst this
 obtain rfl:=Qm g1
 rw[dn g4]
 refine(BC w p.dQ p.dH k h1 h4 hx hy).mono ?_
 rintro e w' ⟨rfl,hb⟩
 exact⟨.iJ [.agg (aa (nH p k)),.agg (aa (O0 p k))],_,n,D,ι,_,rfl,⟨_,by simp only[aa,eV,jR,aI,aW,dw,Option.map_some],rfl⟩,Step.stay S hb.block hb.size hb.os hb.tape hb.output (fun _ h=>h) (fun _ h=>.inl h) (fun _ _ h=>h),
  S.stay hb.block hb.size (fun _ h=>h) (fun b hd=>Nat.lt_of_lt_of_le (S.dead b hd) hb.size) (fun _ h=>.inl h) (fun _ _ h=>h),U,Nat.le_refl _,xc (CZ _ _ _ _) (CZ _ _ _ _)⟩
end Go.Proofs.YtkbipfflibjfbaaGreat.V

namespace Go.Proofs.YtkbipfflibjfbaaGreat.V
open Go.RowKit
attribute [local irreducible] ef wpOps gN Call
attribute [local go_sem] aH fJ eW fZ gh dh upd cD K.av cP AV.cells AV.cell rowOf rowsOf part ld rowAt bU cw dI ek iq bL de eD gj fq dx ew db da dW dY bR bd cU bQ cW cV er ez eu cR bV dc eo bP aL cY cI im br cH bz bc dB bo dF AV.undef bx bE dZ ej dV ec cJ eC eE cF eB eA cX cZ List.getD_cons_zero List.getD_cons_succ List.getD_nil List.all_cons List.all_nil Bool.and_true Bool.true_and Bool.and_self Bool.not_true Bool.not_false Option.map_some Option.map_none Option.bind_some Option.bind_none List.length_cons List.length_nil List.take_succ_cons List.take_zero List.take_nil List.drop_succ_cons List.drop_zero List.drop_nil List.head?_cons List.map_cons List.map_nil List.getElem?_cons_zero List.getElem?_cons_succ List.cons_append List.nil_append List.append_nil List.length_map List.set_cons_zero List.set_cons_succ Nat.reduceMul eq_self Int.toNat_natCast Int.natCast_nonneg and_self true_and and_true decide_true decide_false Bool.false_eq_true Nat.zero_add Nat.add_zero List.contains_cons List.contains_nil Bool.or_false Bool.false_or beq_self_eq_true Nat.reduceBEq ne_eq not_true_eq_false not_false_eq_true Id.mk.injEq false_and and_false Nat.reduceLT Int.reduceLE Int.reduceLT Int.reduceToNat Int.reduceNeg Int.reduceAdd Nat.le_refl List.length_append beq_true beq_false Bool.not_eq_eq_eq_not or_false false_or dM ai ao aD bt cz aY bj aV bf cL bJ
theorem yk (ps qs:List aq) (hlen:ps.length<=1000000) (h0:ps≠[]) (hR:uC qs) (hm:∀x,x∈qs↔x∈ps) (σ:ax) (id:Id) (hv:id.cC<σ.next) (hg:σ.get id=some ⟨true,2,ps.map aa⟩):
  Call Tryz.prog 152 [.own id 0 ps.length] σ fun a σ'=>∃(o:Id) (X:List aq),a=.own o 0 qs.length/\σ'.get o=some ⟨true,2,(qs++X).map aa⟩/\σ.next<=o.cC/\o.cC<σ'.next/\∀x:Id,x.cC<σ.next->σ'.get x=σ.get x:=by
 refine fj eM rfl fun hl=>?_
 clear hl
 have v1:=eX hv
 (try((repeat(revert hN;revert N;apply Pn.out));refine wk (tw @hg @v1) ?_;(repeat(refine Pn.mk ?_;intro N hN))))
 refine .inr (aU _ _ _ _ _ (fun r σ1 hq=>?_) (DR ps h0 ae ⟨σ.get,_⟩ id bW hg))
 obtain⟨g1,x1⟩:=σ1
 obtain⟨o,rfl,q1,q2,q3,q4⟩:=hq
 (try dsimp only at q1 q2 q3 q4)
 refine hN _ _ ?_
 clear hN N
 (try((repeat(revert hN;revert N;apply Pn.out));refine wk @Nat.zero_add ?_;(repeat(refine Pn.mk ?_;intro N hN))))
 refine .inr (aU _ _ _ _ _ (fun r σ2 hq=>?_) (HR Tz Ov ps ae ⟨g1,_⟩ o q1))
 obtain⟨g2,x2⟩:=σ2
 obtain⟨u1,u2,ss,u3,u4,u5,u6⟩:=hq
 (try dsimp only at u1 u2 u3)
 refine hN _ _ ?_
 clear hN N
 (try((repeat(revert hN;revert N;apply Pn.out));refine wk @Nat.zero_add ?_;(repeat(refine Pn.mk ?_;intro N hN))))
 rw[<-u4]
 refine .inr (aU _ _ _ _ _ (fun r σ3 hq=>?_) (GJ ss ae ⟨g2,_⟩ o u3))
 obtain⟨g3,x3⟩:=σ3
 obtain⟨y1,y2,X,rfl,y3⟩:=hq
 (try dsimp only at y1 y2 y3)
 have hD:dd ss ss.length=qs:=Gd (I4 u6 ss.length (Nat.le_refl _)) hR fun x=>by
  rw[zT,hm,<-u5]
  constructor
  ·rintro⟨i,hi,rfl⟩
   rw[jC hi];exact List.getElem_mem hi
  ·intro hx
   obtain⟨i,hi,rfl⟩:=List.getElem_of_mem hx
   exact⟨i,hi,jC hi⟩
 rw[hD]at y3 ⊢
 refine hN _ _ ?_
 clear hN N
 (try((repeat(revert hN;revert N;apply Pn.out));refine wk @Nat.zero_add ?_;(repeat(refine Pn.mk ?_;intro N hN))))
 exact gJ (.inl rfl) (vs:=[.own o 0 qs.length]) (sd @Nat.zero_add) ⟨o,X,rfl,y3,ae,bW,fun x hx=>by
  have h1:x≠o:=fun e=>by rw[e]at hx;omega
  have h2:=y2 x bW h1
  have h3:=u2 x h1
  have h4:=q4 x ae
  exact h2.trans (h3.trans h4)⟩
end Go.Proofs.YtkbipfflibjfbaaGreat.V

namespace Go.Proofs.YtkbipfflibjfbaaGreat.V
open Go.RowKit Go.Shelf Go.Lib Go.Sort
attribute [local irreducible] ef wpOps gN Call
attribute [local go_sem] aH fJ eW fZ gh dh upd cD K.av cP AV.cells AV.cell rowOf rowsOf part ld rowAt bU cw dI ek iq bL de eD gj fq dx ew db da dW dY bR bd cU bQ cW cV er ez eu cR bV dc eo bP aL cY cI im br cH bz bc dB bo dF AV.undef bx bE dZ ej dV ec cJ eC eE cF eB eA cX cZ List.getD_cons_zero List.getD_cons_succ List.getD_nil List.all_cons List.all_nil Bool.and_true Bool.true_and Bool.and_self Bool.not_true Bool.not_false Option.map_some Option.map_none Option.bind_some Option.bind_none List.length_cons List.length_nil List.take_succ_cons List.take_zero List.take_nil List.drop_succ_cons List.drop_zero List.drop_nil List.head?_cons List.map_cons List.map_nil List.getElem?_cons_zero List.getElem?_cons_succ List.cons_append List.nil_append List.append_nil List.length_map List.set_cons_zero List.set_cons_succ Nat.reduceMul eq_self Int.toNat_natCast Int.natCast_nonneg and_self true_and and_true decide_true decide_false Bool.false_eq_true Nat.zero_add Nat.add_zero List.contains_cons List.contains_nil Bool.or_false Bool.false_or beq_self_eq_true Nat.reduceBEq ne_eq not_true_eq_false not_false_eq_true Id.mk.injEq false_and and_false Nat.reduceLT Int.reduceLE Int.reduceLT Int.reduceToNat Int.reduceNeg Int.reduceAdd Nat.le_refl List.length_append beq_true beq_false Bool.not_eq_eq_eq_not or_false false_or dM ai ao aD bt cz aY bj aV bf cL bJ
theorem Ni {P:Program} {w:World} {D:Nat->Prop} {ι:Names} {f:Nat} {vs:Array Value} (h:fc P w D ι [.ck,.fn f []] vs):vs= #[.slice none 0 0,.func (.func f) #[] #[]]:=by
 obtain⟨u1,us1,rfl,h1,h2⟩:=lu h
 obtain⟨u2,us2,h3,h4,h5⟩:=lu h2
 simp at h3;subst h3
 have:=w6 h5
 simp at this;subst this
 obtain⟨TD,gf,rfl,_,hz,_,_⟩:=w7 h4
 have We:TD= #[]:=Array.eq_empty_of_size_eq_zero (by simpa using hz)
 subst We
 rw[jZ h1]
theorem HQ:ak Tryz.prog 176 [.ck,.fn 155 []] (.iJ []):=
 kD (vs0:= #[.slice none 0 0,.func (.func 155) #[] #[]]) (u0:=.tuple #[]) (fun _ _ _ _=>Ni) (fun _ _ _=>.iJ [] #[] (fun _=>Go.undef) rfl (fun j hj=>by simp at hj) (fun j a h=>by simp at h)) (fun g=>by rw[eV,aW];rfl) fun w=>(Ov none 0 _ w).mono (by
  rintro e w' ⟨rfl,rfl⟩
  exact⟨rfl,Below.refl _ _⟩)
section
set_option maxRecDepth 100000
set_option maxHeartbeats 16000000
theorem C5:ak Tryz.prog 152 [.ck] .ck:=by
 refine ak.body eM rfl fun hl n0=>?_
 clear hl
 have hc:ak Tryz.prog 175 [.ck] .ck:=by
  refine ak.body eM rfl fun hl n0=>?_
  clear hl
  (try((repeat(revert hN;revert N;apply Pn.out));refine wk @Nat.zero_add ?_;(repeat(refine Pn.mk ?_;intro N hN))))
  exact gZ (.inl rfl) (vs:=[.ck]) (sd @Nat.zero_add) (by simp[eJ,gC])
 have hp:ak Tryz.prog 177 [.ck] .ck:=by
  refine ak.body eM rfl fun hl n0=>?_
  clear hl
  have d0:((0:Nat):Int)<2:=ae
  (try((repeat(revert hN;revert N;apply Pn.out));refine wk @d0 ?_;(repeat(refine Pn.mk ?_;intro N hN))))
  exact gZ (.inl rfl) (vs:=[.ck]) (sd @Nat.zero_add) (by simp[eJ,gC])
 have hs:=HQ
 (repeat(first|((repeat(revert hN;revert N;apply Pn.out));refine wk @Nat.zero_add ?_;(repeat(refine Pn.mk ?_;intro N hN)))|((try apply Or.inl);refine⟨_,ak.x (hc) (sd @Nat.zero_add),?_⟩;refine hN _ _ ?_;clear hN N)|((try apply Or.inl);refine⟨_,ak.x (hs) (sd @Nat.zero_add),?_⟩;refine hN _ _ ?_;clear hN N)|((try apply Or.inl);refine⟨_,ak.x (hp) (sd @Nat.zero_add),?_⟩;refine hN _ _ ?_;clear hN N)))
 exact gZ (.inl rfl) (vs:=[.ck]) (sd @Nat.zero_add) (by simp[eJ,gC])
theorem IS (l:List ah) (hF:iv l) (k:Int) (h1:1<=k) (h4:k<=4):ak Tryz.prog 104 [.agg [.sl (l.map ab)],.int .i64 k] (xK aa (jJ l k)):=by
 refine ak.body eM rfl fun hl n0=>?_
 clear hl
 have Ah:=hF.zX
 have kf:(l.map ab).length=l.length:=by simp
 have lY:=C5
 (try((repeat(revert hN;revert N;apply Pn.out));refine wk @kf ?_;(repeat(refine Pn.mk ?_;intro N hN))))
 refine aT (fun n env st=>∃i:Nat,n=(l.length)-i/\i<=(l.length)/\env 13=.int .i64 (i:Int)/\(Ih 104006003 (n0+1) ((l.take i).map fun t=>nH t.bw k) (env 5) st.get st.next/\n0<st.next)) (l.length) ⟨0,ae,ae,sl @Nat.zero_add,by(try dsimp only);exact⟨.inl ⟨rfl,sd @Nat.zero_add⟩,ae⟩⟩ ?_
 rintro n_a env_a st_a ⟨i,rfl,ale,mo,kB⟩ dr
 have a1:=dr 1 (by kernel_rfl);have fV:=dr 11 (by kernel_rfl);have a12:=dr 12 (by kernel_rfl)
 simp only[go_sem, ↓reduceIte,Nat.reduceEqDiff,Nat.reduceAdd,Nat.reduceSub,Nat.reduceLeDiff,reduceCtorEq]at a1 fV a12
 clear dr
 obtain⟨aG,an⟩:=kB
 by_cases hi:(i:Int)<(l.length:Int)
 ·have bZ:∀{e:Env} {gg:Rows} {nx:Nat},(e 13=.int .i64 (IntKind.i64.wrap ((i:Int)+1)))->(Ih 104006003 (n0+1) ((l.take (i+1)).map fun t=>nH t.bw k) (e 5) gg nx/\n0<nx)->∃m0,m0<(l.length)-i/\∃i:Nat,m0=(l.length)-i/\i<=(l.length)/\e 13=.int .i64 (i:Int)/\(Ih 104006003 (n0+1) ((l.take i).map fun t=>nH t.bw k) (e 5) gg nx/\n0<nx):=fun x1 x2=>⟨_,ae,i+1,rfl,ae,(by rw[x1,aB ae]),x2⟩
  have fB:i<l.length:=ae
  have gT:=gu fB
  have Uu:=rz (hF.ok i fB).1
  have NY:=GB (bq l i).bw k h1 h4 ae ae
  have EA:(l.take (i+1)).map (fun t=>nH t.bw k)=(l.take i).map (fun t=>nH t.bw k)++[nH (bq l i).bw k]:=by
   rw[List.take_succ_eq_append_getElem fB,List.map_append,fP fB];rfl
  have G7:((l.take i).map fun t=>nH t.bw k).length=i:=by simp;omega
  generalize (l.take i).map (fun t=>nH t.bw k)=M at aG EA G7
  have wG:∀q:aq,(M++[q]).map aa=M.map aa++[aa q]:=fun q=>by rw[List.map_append];rfl
  have nR:∀q:aq,(M++[q]).length=M.length+1:=fun q=>by rw[List.length_append];rfl
  have Bg:(M.map aa).length=M.length:=by simp
  have Ll:M.length<=16777215:=ae
  rw[ab]at gT
  rw[aa,aa,aa]at NY
  rcases aG with⟨hM,a5⟩|⟨u,a5,hu,hum,x8,k6,y8⟩
  ·subst hM
   (repeat(first|((repeat(revert hN;revert N;apply Pn.out));refine wk (tw @mo (tw @a1 (tw @fV (tw @a12 (tw @a5 (tw @hi (tw @kf @gT))))))) ?_;(repeat(refine Pn.mk ?_;intro N hN)))|((try apply Or.inl);refine⟨_,ak.x (NY) (sd (tw @mo (tw @a1 (tw @fV (tw @a12 (tw @a5 (tw @hi (tw @kf @gT)))))))),?_⟩;refine hN _ _ ?_;clear hN N)))
   exact bZ (sd (tw @mo (tw @a1 (tw @fV @a12)))) (by(try dsimp only);exact⟨.inr ⟨⟨104006003,st_a.next+1+1+1⟩,by rw[EA,nR];simp only[go_sem, ↓reduceIte,Nat.reduceEqDiff,Nat.reduceAdd,Nat.reduceSub,Nat.reduceLeDiff,reduceCtorEq]<;>rfl,by rw[EA,wG];simp only[go_sem, ↓reduceIte,Nat.reduceEqDiff,Nat.reduceAdd,Nat.reduceSub,Nat.reduceLeDiff,reduceCtorEq]<;>rfl,bW,bW,by rw[EA,nR];omega,rfl⟩,ae⟩)
  ·have vu:=eX x8
   (repeat(first|((repeat(revert hN;revert N;apply Pn.out));refine wk (tw @mo (tw @a1 (tw @fV (tw @a12 (tw @a5 (tw @hi (tw @kf (tw @gT (tw @hu (tw @vu (tw @Bg @Ll))))))))))) ?_;(repeat(refine Pn.mk ?_;intro N hN)))|((try apply Or.inl);refine⟨_,ak.x (NY) (sd (tw @mo (tw @a1 (tw @fV (tw @a12 (tw @a5 (tw @hi (tw @kf (tw @gT (tw @hu (tw @vu (tw @Bg @Ll)))))))))))),?_⟩;refine hN _ _ ?_;clear hN N)))
   exact bZ (sd (tw @mo (tw @a1 (tw @fV @a12)))) (by(try dsimp only);exact⟨.inr ⟨⟨104006003,st_a.next+1+1+1⟩,by rw[EA,nR];simp only[go_sem, ↓reduceIte,Nat.reduceEqDiff,Nat.reduceAdd,Nat.reduceSub,Nat.reduceLeDiff,reduceCtorEq]<;>rfl,by rw[EA,wG];simp only[go_sem, ↓reduceIte,Nat.reduceEqDiff,Nat.reduceAdd,Nat.reduceSub,Nat.reduceLeDiff,reduceCtorEq]<;>rfl,bW,bW,by rw[EA,nR];omega,rfl⟩,ae⟩)
 ·have nj:i=l.length:=ae
  subst nj
  rw[List.take_length]at aG
  rcases aG with⟨hM,a5⟩|⟨u,a5,hu,hum,x8,k6,y8⟩
  ·have FY:l=[]:=List.map_eq_nil_iff.1 hM
   have ke:jJ l k=[]:=by rw[FY];rfl
   (repeat(first|((repeat(revert hN;revert N;apply Pn.out));refine wk (tw @mo (tw @a1 (tw @fV (tw @a12 (tw @a5 (tw @hi @kf)))))) ?_;(repeat(refine Pn.mk ?_;intro N hN)))|((try apply Or.inl);refine⟨_,ak.x (lY) (sd (tw @mo (tw @a1 (tw @fV (tw @a12 (tw @a5 (tw @hi @kf))))))),?_⟩;refine hN _ _ ?_;clear hN N)))
   exact gZ (.inl rfl) (vs:=[.ck]) (sd @Nat.zero_add) (by rw[ke];simp[xK,eJ,gC])
  ·have gI:(l.map fun t=>nH t.bw k)≠[]:=fun e=>by rw[e]at k6;simp at k6
   have hlen:(l.map fun t=>nH t.bw k).length<=1000000:=by simp;omega
   have hbp:0<(jJ l k).length:=by
    obtain⟨x,hx⟩:=List.exists_mem_of_ne_nil _ gI
    have:x∈jJ l k:=by
     obtain⟨t,ht,rfl⟩:=List.mem_map.1 hx
     obtain⟨j,hj,rfl⟩:=List.getElem_of_mem ht
     exact(pV l k _ l.length).2 ⟨j,hj,by rw[fP hj]⟩
    exact List.length_pos_of_mem this
   have hso:=fun(σ1:ax) hv hg=>yk (l.map fun t=>nH t.bw k) (jJ l k) hlen gI (pN l k _) (fun x=>by
    rw[show x∈jJ l k↔_ from pV l k x l.length]
    constructor
    ·rintro⟨j,hj,rfl⟩
     exact List.mem_map.2 ⟨l[j],List.getElem_mem hj,by rw[fP hj]⟩
    ·intro hx
     obtain⟨t,ht,rfl⟩:=List.mem_map.1 hx
     obtain⟨j,hj,rfl⟩:=List.getElem_of_mem ht
     exact⟨j,hj,by rw[fP hj]⟩) σ1 u hv hg
   rw[List.length_map]at a5 hso
   (try((repeat(revert hN;revert N;apply Pn.out));refine wk (tw @mo (tw @a1 (tw @fV (tw @a12 (tw @a5 (tw @hi @kf)))))) ?_;(repeat(refine Pn.mk ?_;intro N hN))))
   refine .inr (aU _ _ _ _ _ (fun r σ1 hq=>?_) (hso ⟨st_a.get,st_a.next+1+1⟩ bW hu))
   obtain⟨g1,x1⟩:=σ1
   obtain⟨o,X,rfl,q1,q2,q3,q4⟩:=hq
   (try dsimp only at q1 q2 q3 q4)
   refine hN _ _ ?_
   clear hN N
   (try((repeat(revert hN;revert N;apply Pn.out));refine wk @Nat.zero_add ?_;(repeat(refine Pn.mk ?_;intro N hN))))
   have hz:=nQ (n:=5) (off:=0) (len:=(jJ l k).length) (rows':=(jJ l k).map aa) q1 (by simp) (by
    rw[List.drop_zero,List.map_append,List.take_left' (by simp),kI fun y=>by simp[aa,aI,aW,dw]])
   exact gZ (.inl rfl) (vs:=[.own o 0 (jJ l k).length]) (sd @Nat.zero_add) (by rw[xK,if_neg ae];simpa[eJ]using hz)
end
end Go.Proofs.YtkbipfflibjfbaaGreat.V

namespace Go.Proofs.YtkbipfflibjfbaaGreat.V
open Go.RowKit
attribute [local irreducible] ef wpOps gN Call
attribute [local go_sem] aH fJ eW fZ gh dh upd cD K.av cP AV.cells AV.cell rowOf rowsOf part ld rowAt bU cw dI ek iq bL de eD gj fq dx ew db da dW dY bR bd cU bQ cW cV er ez eu cR bV dc eo bP aL cY cI im br cH bz bc dB bo dF AV.undef bx bE dZ ej dV ec cJ eC eE cF eB eA cX cZ List.getD_cons_zero List.getD_cons_succ List.getD_nil List.all_cons List.all_nil Bool.and_true Bool.true_and Bool.and_self Bool.not_true Bool.not_false Option.map_some Option.map_none Option.bind_some Option.bind_none List.length_cons List.length_nil List.take_succ_cons List.take_zero List.take_nil List.drop_succ_cons List.drop_zero List.drop_nil List.head?_cons List.map_cons List.map_nil List.getElem?_cons_zero List.getElem?_cons_succ List.cons_append List.nil_append List.append_nil List.length_map List.set_cons_zero List.set_cons_succ Nat.reduceMul eq_self Int.toNat_natCast Int.natCast_nonneg and_self true_and and_true decide_true decide_false Bool.false_eq_true Nat.zero_add Nat.add_zero List.contains_cons List.contains_nil Bool.or_false Bool.false_or beq_self_eq_true Nat.reduceBEq ne_eq not_true_eq_false not_false_eq_true Id.mk.injEq false_and and_false Nat.reduceLT Int.reduceLE Int.reduceLT Int.reduceToNat Int.reduceNeg Int.reduceAdd Nat.le_refl List.length_append beq_true beq_false Bool.not_eq_eq_eq_not or_false false_or dM ai ao aD bt cz aY bj aV bf cL bJ
section
set_option maxRecDepth 100000
set_option maxHeartbeats 16000000
theorem vV (l:List ah) (hF:iv l) (k:Nat) (h1:1<=k) (h4:k<=4):ak Tryz.prog 53 [.agg [.sl (l.map ab)],.int .i64 (k:Int)] (.agg [xK ab (dj l k)]):=by
 have Ah:=hF.zX
 have ke:=IS l hF k ae ae
 have El:∀i,i<(jJ l k).length->AI (iu (jJ l k) i)=true:=fun i hi=>rQ hF ae ae (Nat.le_refl _) (vk hi)
 have Jp:=lp l k l.length
 rw[show ju l k l.length=jJ l k from rfl]at Jp
 have G5:=fun b hx hy=>DT l hF.Qn ae (fun p=>by have:=(sJ hF p).2;omega) (fun p=>(sJ hF p).1) b k h1 h4 hx hy
 obtain⟨R,hR⟩:∃R,dj l k=R:=⟨_,rfl⟩
 have Q9:eH l k (jJ l k) (jJ l k).length=R:=hR
 rw[hR]
 generalize jJ l k=B at ke El Jp Q9
 have wi:(B.map aa).length=B.length:=by simp
 by_cases oK:B.length=0
 ·have hRn:R.length=0:=by
   have:=lq l k B B.length
   rw[Q9]at this
   omega
  rw[xK,if_pos oK]at ke
  rw[xK,if_pos hRn]
  intro n0
  refine fj eM rfl fun wz=>?_
  clear wz
  have d0:¬(0:Int)<((0:Nat):Int):=ae
  (repeat(first|((repeat(revert hN;revert N;apply Pn.out));refine wk @d0 ?_;(repeat(refine Pn.mk ?_;intro N hN)))|((try apply Or.inl);refine⟨_,ak.x (ke) (sd @d0),?_⟩;refine hN _ _ ?_;clear hN N)))
  refine aT (fun n env st=>∃i:Nat,n=(0)-i/\i<=(0)/\env 13=.int .i64 (i:Int)/\st.get ⟨53001000,n0+1⟩=some ⟨true,1,[[.ck]]⟩/\st.get ⟨53000001,n0⟩=some ⟨true,1,[[.ck]]⟩) (0) ⟨0,ae,ae,sl @Nat.zero_add,sl @Nat.zero_add,sl @Nat.zero_add⟩ ?_
  rintro n_a env_a st_a ⟨i,rfl,ale,mo,ag0,ag1⟩ dr
  have a4:=dr 4 (by kernel_rfl);have a5:=dr 5 (by kernel_rfl);have a12:=dr 12 (by kernel_rfl)
  simp only[go_sem, ↓reduceIte,Nat.reduceEqDiff,Nat.reduceAdd,Nat.reduceSub,Nat.reduceLeDiff,reduceCtorEq]at a4 a5 a12
  clear dr
  have uJ:i=0:=ae
  subst uJ
  have d1:¬((0:Nat):Int)<((0:Nat):Int):=ae
  (try((repeat(revert hN;revert N;apply Pn.out));refine wk (tw @mo (tw @ag0 (tw @ag1 (tw @a4 (tw @a5 (tw @a12 (tw @d0 @d1))))))) ?_;(repeat(refine Pn.mk ?_;intro N hN))))
  exact gZ (.inl rfl) (vs:=[.agg [.ck]]) (sd @a4) (by simp[eJ,jR,aI,aW,gC])
 rw[xK,if_neg oK]at ke
 intro n0
 refine fj eM rfl fun wz=>?_
 clear wz
 (repeat(first|((repeat(revert hN;revert N;apply Pn.out));refine wk @wi ?_;(repeat(refine Pn.mk ?_;intro N hN)))|((try apply Or.inl);refine⟨_,ak.x (ke) (sd @wi),?_⟩;refine hN _ _ ?_;clear hN N)))
 refine aT (fun n env st=>∃i:Nat,n=(B.length)-i/\i<=(B.length)/\env 13=.int .i64 (i:Int)/\(∃(v:AV) (ids:List Id),st.get ⟨53001000,n0+1⟩=some ⟨true,1,[[v]]⟩/\lU ab 3 st.get v (eH l k B i) ids/\e8 (n0+1) st.next ids/\(∀u∈ids,u.site=53007006)/\st.get ⟨53000001,n0⟩=some ⟨true,1,[[.ck]]⟩/\st.get ⟨53000000,n0⟩=some ⟨true,1,[[.sl (l.map ab)]]⟩/\n0+1<st.next)) (B.length) ⟨0,ae,ae,sl @Nat.zero_add,by(try dsimp only);exact⟨.ck,[],sl @Nat.zero_add,.inl ⟨rfl,rfl,rfl⟩,⟨List.nodup_nil,fun i hi=>by cases hi⟩,(fun i hi=>by cases hi),sd @Nat.zero_add,sd @Nat.zero_add,ae⟩⟩ ?_
 rintro n_a env_a st_a ⟨i,rfl,ale,mo,kB⟩ dr
 have a1:=dr 1 (by kernel_rfl);have a2:=dr 2 (by kernel_rfl);have a4:=dr 4 (by kernel_rfl);have a5:=dr 5 (by kernel_rfl);have fV:=dr 11 (by kernel_rfl);have a12:=dr 12 (by kernel_rfl)
 simp only[go_sem, ↓reduceIte,Nat.reduceEqDiff,Nat.reduceAdd,Nat.reduceSub,Nat.reduceLeDiff,reduceCtorEq]at a1 a2 a4 a5 fV a12
 clear dr
 obtain⟨v,ids,ag,aO,aN,aS,ar,LM,an⟩:=kB
 by_cases hi:(i:Int)<(B.length:Int)
 ·have bZ:∀{e:Env} {gg:Rows} {nx:Nat},(e 13=.int .i64 (IntKind.i64.wrap ((i:Int)+1)))->(∃(v:AV) (ids:List Id),gg ⟨53001000,n0+1⟩=some ⟨true,1,[[v]]⟩/\lU ab 3 gg v (eH l k B (i+1)) ids/\e8 (n0+1) nx ids/\(∀u∈ids,u.site=53007006)/\gg ⟨53000001,n0⟩=some ⟨true,1,[[.ck]]⟩/\gg ⟨53000000,n0⟩=some ⟨true,1,[[.sl (l.map ab)]]⟩/\n0+1<nx)->∃m0,m0<(B.length)-i/\∃i:Nat,m0=(B.length)-i/\i<=(B.length)/\e 13=.int .i64 (i:Int)/\(∃(v:AV) (ids:List Id),gg ⟨53001000,n0+1⟩=some ⟨true,1,[[v]]⟩/\lU ab 3 gg v (eH l k B i) ids/\e8 (n0+1) nx ids/\(∀u∈ids,u.site=53007006)/\gg ⟨53000001,n0⟩=some ⟨true,1,[[.ck]]⟩/\gg ⟨53000000,n0⟩=some ⟨true,1,[[.sl (l.map ab)]]⟩/\n0+1<nx):=fun x1 x2=>⟨_,ae,i+1,rfl,ae,(by rw[x1,aB ae]),x2⟩
  have fB:i<B.length:=ae
  have gT:=sq fB
  have Uc:=rz (El i fB)
  have hc:=G5 (iu B i) ae ae
  rw[aa]at gT hc
  obtain⟨n,hn⟩:∃n,lW l (iu B i) k=n:=⟨_,rfl⟩
  rw[hn]at hc
  by_cases h0:0<=n
  ·have mT:eH l k B (i+1)=eH l k B i++[⟨iu B i,n⟩]:=by rw[eH,hn,if_pos h0]
   rcases aO with⟨hL,rfl,rfl⟩|⟨u,rfl,hu,rfl,k6⟩
   ·(repeat(first|((repeat(revert hN;revert N;apply Pn.out));refine wk (tw @mo (tw @a1 (tw @a2 (tw @a4 (tw @a5 (tw @fV (tw @a12 (tw @hi (tw @gT (tw @wi (tw @ag (tw @ar (tw @LM @h0))))))))))))) ?_;(repeat(refine Pn.mk ?_;intro N hN)))|((try apply Or.inl);refine⟨_,ak.x (hc) (sd (tw @mo (tw @a1 (tw @a2 (tw @a4 (tw @a5 (tw @fV (tw @a12 (tw @hi (tw @gT (tw @wi (tw @ag (tw @ar (tw @LM @h0)))))))))))))),?_⟩;refine hN _ _ ?_;clear hN N)))
    have wG:∀q:ah,(eH l k B i++[q]).map ab=[ab q]:=fun q=>by rw[hL];rfl
    have nR:∀q:ah,(eH l k B i++[q]).length=1:=fun q=>by rw[hL];rfl
    exact bZ (sd (tw @mo (tw @a1 (tw @a2 (tw @a4 (tw @a5 (tw @fV @a12))))))) (by(try dsimp only);exact⟨.own ⟨53007006,st_a.next+1+1+1+1⟩ 0 1,[⟨53007006,st_a.next+1+1+1+1⟩],sl @Nat.zero_add,.inr ⟨⟨53007006,st_a.next+1+1+1+1⟩,by rw[mT,nR],by rw[mT,wG];simp only[go_sem, ↓reduceIte,Nat.reduceEqDiff,Nat.reduceAdd,Nat.reduceSub,Nat.reduceLeDiff,reduceCtorEq]<;>rfl,rfl,by rw[mT,nR];omega⟩,⟨List.nodup_cons.2 ⟨by simp,List.nodup_nil⟩,fun i hi=>by rw[List.mem_singleton.1 hi];(try dsimp only);omega⟩,(fun i hi=>by rw[List.mem_singleton.1 hi]),sd @ar,sd @LM,bW⟩)
   ·have x8:=aN.2 u (by simp)
    have y8:=aS u (by simp)
    have vu:=eX x8.2
    have ub:((⟨53001000,n0+1⟩:Id)=u)=False:=eq_false fun e=>absurd (show(53001000:Nat)=53007006 from(congrArg Id.site e).trans y8) (by decide)
    have bu:(u=(⟨53001000,n0+1⟩:Id))=False:=eq_false fun e=>absurd (show(53001000:Nat)=53007006 from(congrArg Id.site e).symm.trans y8) (by decide)
    have QA:((⟨53000001,n0⟩:Id)=u)=False:=eq_false fun e=>absurd (show(53000001:Nat)=53007006 from(congrArg Id.site e).trans y8) (by decide)
    have Wo:((⟨53000000,n0⟩:Id)=u)=False:=eq_false fun e=>absurd (show(53000000:Nat)=53007006 from(congrArg Id.site e).trans y8) (by decide)
    have N1:=lq l k B i
    have Ll:(eH l k B i).length<=16777215:=ae
    have Bg:((eH l k B i).map ab).length=(eH l k B i).length:=by simp
    have wG:∀q:ah,(eH l k B i++[q]).map ab=(eH l k B i).map ab++[ab q]:=fun q=>by rw[List.map_append];rfl
    have nR:∀q:ah,(eH l k B i++[q]).length=(eH l k B i).length+1:=fun q=>by rw[List.length_append];rfl
    (repeat(first|((repeat(revert hN;revert N;apply Pn.out));refine wk (tw @mo (tw @a1 (tw @a2 (tw @a4 (tw @a5 (tw @fV (tw @a12 (tw @hi (tw @gT (tw @wi (tw @ag (tw @ar (tw @LM (tw @h0 (tw @hu (tw @vu (tw @ub (tw @bu (tw @QA (tw @Wo (tw @Bg @Ll))))))))))))))))))))) ?_;(repeat(refine Pn.mk ?_;intro N hN)))|((try apply Or.inl);refine⟨_,ak.x (hc) (sd (tw @mo (tw @a1 (tw @a2 (tw @a4 (tw @a5 (tw @fV (tw @a12 (tw @hi (tw @gT (tw @wi (tw @ag (tw @ar (tw @LM (tw @h0 (tw @hu (tw @vu (tw @ub (tw @bu (tw @QA (tw @Wo (tw @Bg @Ll)))))))))))))))))))))),?_⟩;refine hN _ _ ?_;clear hN N)))
    exact bZ (sd (tw @mo (tw @a1 (tw @a2 (tw @a4 (tw @a5 (tw @fV @a12))))))) (by(try dsimp only);exact⟨.own ⟨53007006,st_a.next+1+1+1+1⟩ 0 ((eH l k B i).length+1),[⟨53007006,st_a.next+1+1+1+1⟩],sl @Nat.zero_add,.inr ⟨⟨53007006,st_a.next+1+1+1+1⟩,by rw[mT,nR],by rw[mT,wG];simp only[go_sem, ↓reduceIte,Nat.reduceEqDiff,Nat.reduceAdd,Nat.reduceSub,Nat.reduceLeDiff,reduceCtorEq]<;>rfl,rfl,by rw[mT,nR];omega⟩,⟨List.nodup_cons.2 ⟨by simp,List.nodup_nil⟩,fun i hi=>by rw[List.mem_singleton.1 hi];(try dsimp only);omega⟩,(fun i hi=>by rw[List.mem_singleton.1 hi]),sd (tw @ar @QA),sd (tw @LM @Wo),bW⟩)
  ·have mT:eH l k B (i+1)=eH l k B i:=by rw[eH,hn,if_neg h0]
   (repeat(first|((repeat(revert hN;revert N;apply Pn.out));refine wk (tw @mo (tw @a1 (tw @a2 (tw @a4 (tw @a5 (tw @fV (tw @a12 (tw @hi (tw @gT (tw @wi (tw @LM @h0))))))))))) ?_;(repeat(refine Pn.mk ?_;intro N hN)))|((try apply Or.inl);refine⟨_,ak.x (hc) (sd (tw @mo (tw @a1 (tw @a2 (tw @a4 (tw @a5 (tw @fV (tw @a12 (tw @hi (tw @gT (tw @wi (tw @LM @h0)))))))))))),?_⟩;refine hN _ _ ?_;clear hN N)))
   exact bZ (sd (tw @mo (tw @a1 (tw @a2 (tw @a4 (tw @a5 (tw @fV @a12))))))) (by(try dsimp only);exact⟨v,ids,sd @ag,by rw[mT];exact aO.frame fun i hi=>(by have h9:=eX (i:=i) (n:=st_a.next) (aN.2 i hi).2;simp only[go_sem, ↓reduceIte,Nat.reduceEqDiff,Nat.reduceAdd,Nat.reduceSub,Nat.reduceLeDiff,reduceCtorEq,h9]),aN.wide (Nat.le_refl _) bW,aS,sd @ar,sd @LM,ae⟩)
 ·have nj:i=B.length:=ae
  subst nj
  rw[Q9]at aO
  rcases aO with⟨hL,rfl,rfl⟩|⟨u,rfl,hu,rfl,k6⟩
  ·(try((repeat(revert hN;revert N;apply Pn.out));refine wk (tw @mo (tw @a1 (tw @a2 (tw @a4 (tw @a5 (tw @fV (tw @a12 (tw @hi (tw @wi (tw @ag @ar)))))))))) ?_;(repeat(refine Pn.mk ?_;intro N hN))))
   exact gZ (.inl rfl) (vs:=[.agg [.ck]]) (sd @a4) (by rw[hL];simp[xK,eJ,jR,aI,aW,gC])
  ·have y8:=aS u (by simp)
   have UU:(u=(⟨53000001,n0⟩:Id))=False:=eq_false fun e=>absurd (show(53000001:Nat)=53007006 from(congrArg Id.site e).symm.trans y8) (by decide)
   (try((repeat(revert hN;revert N;apply Pn.out));refine wk (tw @mo (tw @a1 (tw @a2 (tw @a4 (tw @a5 (tw @fV (tw @a12 (tw @hi (tw @wi (tw @ag @ar)))))))))) ?_;(repeat(refine Pn.mk ?_;intro N hN))))
   have hz:=fun r=>e9 (g:=bU st_a.get ⟨53000001,n0⟩ r) (id:=u) (l:=R) (e:=ab) (n:=4) (sz:=3) (by simp only[bU,UU,if_false];exact hu) rfl fun y=>by simp[ab,aI,aW,dw]
   exact gZ (.inl rfl) (vs:=[.agg [.own u 0 R.length]]) (sd @a4) (by rw[xK,if_neg ae];simp[eJ,jR,aI,aW,hz])
end
def jE (d k:Int) (x:aq):Bool:=if d=1 then decide (x.dQ<k-1)else decide (x.dH<k-1)
theorem uw (d k:Int) (re:1<=k) (SQ:k<=4) (x:aq):ak Tryz.prog 110 [.agg (aa x),.dq [.int .i64 d],.dq [.int .i64 k]] (.bool (jE d k x)):=by
 refine ak.body eM rfl fun hl n0=>?_
 clear hl
 have w1:IntKind.i64.wrap (k-1)=k-1:=aJ ae
 by_cases h0:d=1
 ·have d1:=decide_eq_true h0
  (try((repeat(revert hN;revert N;apply Pn.out));refine wk (tw @d1 (tw @w1 @aa.eq_1)) ?_;(repeat(refine Pn.mk ?_;intro N hN))))
  exact aZ (b:=decide (x.dQ<k-1)) (.inl rfl) (sd @Nat.zero_add) (by rw[jE,if_pos h0])
 ·have d1:=decide_eq_false h0
  (try((repeat(revert hN;revert N;apply Pn.out));refine wk (tw @d1 (tw @w1 @aa.eq_1)) ?_;(repeat(refine Pn.mk ?_;intro N hN))))
  exact aZ (b:=decide (x.dH<k-1)) (.inl rfl) (sd @Nat.zero_add) (by rw[jE,if_neg h0])
theorem JU (d k:Int) (re:1<=k) (SQ:k<=4) (ps:List aq) (hl:ps.length<=1048576):ak Tryz.prog 153 [.sl (ps.map aa),.fn 110 [.dq [.int .i64 d],.dq [.int .i64 k]]] (.int .i64 (jd (jE d k) ps)):=
 ph GV (show nf Tryz.prog 153=some (tq 153 2 true) by kernel_rfl) ps hl 110 _ _ (fun x _=>uw d k re SQ x) fun g=>by simp only[ai,ao,aV,Option.map_some]
theorem GQ (d k:Int) (re:1<=k) (SQ:k<=4) (ps X:List aq) (hl:ps.length<=1048576) (o A S:Id) (σ:ax) (ho:σ.get o=some ⟨true,2,(ps++X).map aa⟩) (Ui:σ.get A=some ⟨true,1,[[.int .i64 d]]⟩) (hgS:σ.get S=some ⟨true,1,[[.int .i64 k]]⟩) (r9:o.cC<σ.next) (hAv:A.cC<σ.next) (hSv:S.cC<σ.next) (hoA:o≠A) (hoS:o≠S):
  Call Tryz.prog 108 [.own o 0 ps.length,.fn 110 [.ptr A 0 0,.ptr S 0 0]] σ fun r σ'=>∃rows,r=.own o 0 (e7 (jE d k) ps).length/\σ'.get o=some ⟨true,2,rows⟩/\rows.take (e7 (jE d k) ps).length=(e7 (jE d k) ps).map aa/\(e7 (jE d k) ps).length<=rows.length/\σ.next<=σ'.next/\∀i:Id,i.cC<σ.next->i≠o->σ'.get i=σ.get i:=by
 refine fj eM rfl fun wz=>?_
 clear wz
 have Bf:=JU d k re SQ ps hl
 have hzA:∀(g:Rows) (n:Nat),g A=some ⟨true,1,[[.int .i64 d]]⟩->V.fz (dM g) (n+1+1) (.ptr A 0 0)=some (.dq [.int .i64 d]):=fun g n hg=>tb (sz:=1) (rows:=[[.int .i64 d]]) (by simp[dM,hg]) rfl (by simp only[List.drop_zero,ai,ao,aD,Option.map_some])
 have hzS:∀(g:Rows) (n:Nat),g S=some ⟨true,1,[[.int .i64 k]]⟩->V.fz (dM g) (n+1+1) (.ptr S 0 0)=some (.dq [.int .i64 k]):=fun g n hg=>tb (sz:=1) (rows:=[[.int .i64 k]]) (by simp[dM,hg]) rfl (by simp only[List.drop_zero,ai,ao,aD,Option.map_some])
 have sS:∀(g:Rows),g A=some ⟨true,1,[[.int .i64 d]]⟩->g S=some ⟨true,1,[[.int .i64 k]]⟩->g o=some ⟨true,2,(ps++X).map aa⟩->cQ (dM g) 6 [.own o 0 ps.length,.fn 110 [.ptr A 0 0,.ptr S 0 0]]=some [.sl (ps.map aa),.fn 110 [.dq [.int .i64 d],.dq [.int .i64 k]]]:=fun g h1 h2 h3=>by
  have q1:V.fz (dM g) 6 (.own o 0 ps.length)=some (.sl (ps.map aa)):=by
   rw[ig]
   have:dM g o=some ⟨true,2,(ps++X).map aa⟩:=by simp[dM,h3]
   simp only[this,if_true]
   have h4:((ps++X).map aa).take ps.length=ps.map aa:=by rw[<-List.map_take,List.take_append_of_le_length (Nat.le_refl _),List.take_length]
   rw[if_pos (by simp),List.drop_zero,h4,lD fun x=>by simp only[aa,ai,ao,aD,Option.map_some]];rfl
  have q2:=hzA g 3 h1
  have q3:=hzS g 3 h2
  simp only[ai,ao,q1,cL,List.all_cons,List.all_nil,AV.cell,Bool.and_true,if_true,q2,q3,Option.map_some]
 have k7:∀(g:Rows),g A=some ⟨true,1,[[.int .i64 d]]⟩->g S=some ⟨true,1,[[.int .i64 k]]⟩->∀b:aq,cQ (dM g) 6 [.agg (aa b),.ptr A 0 0,.ptr S 0 0]=some [.agg (aa b),.dq [.int .i64 d],.dq [.int .i64 k]]:=fun g h1 h2 b=>by
  have q2:=hzA g 4 h1
  have q3:=hzS g 4 h2
  simp only[ai,ao,bj,aa,aD,q2,q3,Option.map_some]
 have ke:(ps++X).length=ps.length+X.length:=List.length_append
 have oA:∀j,j<=ps.length->(ps++X).take j=ps.take j:=fun j hj=>List.take_append_of_le_length hj
 have mz:∀j (hj:j<ps.length),(ps++X)[j]'(by rw[ke];omega)=ps[j]:=fun j hj=>List.getElem_append_left hj
 (try((repeat(revert hN;revert N;apply Pn.out));refine wk @Nat.zero_add ?_;(repeat(refine Pn.mk ?_;intro N hN))))
 refine .inl ⟨_,ak.x Bf (sS _ Ui hgS ho),?_⟩
 refine hN _ _ ?_
 clear hN N
 by_cases h0:0<=jd (jE d k) ps
 ·obtain⟨i,hi,Io,Uv,Lw⟩:=D9 h0
  rw[Io]at *
  have G9:decide ((i:Int)= -1)=false:=decide_eq_false ae
  have Ol:IntKind.i64.wrap ((i:Int)+1)=((i+1:Nat):Int):=aB ae
  obtain⟨dR,nR⟩:=Ig.start (p:=jE d k) (bs:=ps++X) (i:=i) (by rw[ke];omega) (by rw[mz i hi];exact Uv) (fun x hx=>by rw[mz x ae];exact Lw x hx)
  (try((repeat(revert hN;revert N;apply Pn.out));refine wk (tw @G9 @Ol) ?_;(repeat(refine Pn.mk ?_;intro N hN))))
  refine aT (fun m env st=>∃(j:Nat) (R:List aq),m=ps.length-j/\env 6=.int .i64 (j:Int)/\env 5=.int .i64 ((e7 (jE d k) (ps.take j)).length:Int)/\st.get o=some ⟨true,2,R.map aa⟩/\Ig (jE d k) (ps++X) j R/\j<=ps.length/\σ.next<=st.next/\∀x:Id,x.cC<σ.next->(x=o)=False->st.get x=σ.get x) (ps.length-(i+1)) ⟨i+1,ps++X,rfl,sd @Ol,by rw[<-oA (i+1) ae];simp only[go_sem, ↓reduceIte,Nat.reduceEqDiff,Nat.reduceAdd,Nat.reduceSub,Nat.reduceLeDiff,reduceCtorEq,nR],sd @ho,dR,ae,bW,fun x _ _=>sd @Nat.zero_add⟩ ?_
  rintro m env_b st_b ⟨j,R,rfl,b6,b5,bg,hD,gW,hle,kR⟩ bfr
  have b0:=bfr 0 (by kernel_rfl)
  have b1:=bfr 1 (by kernel_rfl)
  simp only[go_sem, ↓reduceIte,Nat.reduceEqDiff,Nat.reduceAdd,Nat.reduceSub,Nat.reduceLeDiff,reduceCtorEq]at b0 b1
  clear bfr
  have bA:=(kR A hAv (by simp only[eq_iff_iff,iff_false];exact fun h=>hoA h.symm)).trans Ui
  have bS:=(kR S hSv (by simp only[eq_iff_iff,iff_false];exact fun h=>hoS h.symm)).trans hgS
  have lZ:=eX (i:=o) (n:=st_b.next) ae
  have hvA:=eX (i:=A) (n:=st_b.next) ae
  have hvS:=eX (i:=S) (n:=st_b.next) ae
  have T9:=hD.len
  rw[ke]at T9
  have Py:(R.map aa).length=ps.length+X.length:=by rw[List.length_map,T9]
  have dO:=hD.lt
  by_cases hj:(j:Int)<(ps.length:Int)
  ·have jI:j<ps.length:=ae
   have VJ:j<(ps++X).length:=ae
   have FX:=hD.at_ VJ
   have MG:=uw d k re SQ (ps++X)[j]
   have MF:IntKind.i64.wrap ((j:Int)+1)=((j+1:Nat):Int):=aB ae
   have Sg:=hD.QG VJ
   have Sh:=hD.tx VJ
   rw[oA j ae]at Sg Sh dO
   rw[oA (j+1) ae]at Sg Sh
   generalize (ps++X)[j]=b at *
   (try((repeat(revert hN;revert N;apply Pn.out));refine wk (tw @b0 (tw @b1 (tw @b5 (tw @b6 (tw @bg (tw @hj (tw @FX (tw @aa.eq_1 (tw @lZ (tw @hvA (tw @hvS @Py))))))))))) ?_;(repeat(refine Pn.mk ?_;intro N hN))))
   refine .inl ⟨_,ak.x MG (k7 _ (sd (tw @hvA @bA)) (sd (tw @hvS @bS)) b),?_⟩
   refine hN _ _ ?_
   clear hN N
   cases hw:jE d k b
   ·obtain⟨Pq,Dn⟩:=Sh hw
    have PA:((e7 (jE d k) (ps.take j)).length:Int)<(ps.length:Int):=ae
    have Tb:IntKind.i64.wrap (((e7 (jE d k) (ps.take j)).length:Int)+1)=(((e7 (jE d k) (ps.take j)).length+1:Nat):Int):=aB ae
    have ei:(R.map aa).set (e7 (jE d k) (ps.take j)).length [.int .i64 b.dQ,.int .i64 b.dH]=(R.set (e7 (jE d k) (ps.take j)).length b).map aa:=by rw[List.map_set];rfl
    have Mt:∃y,(R.map aa)[(e7 (jE d k) (ps.take j)).length]? =some (aa y):=⟨R[(e7 (jE d k) (ps.take j)).length]'ae,by rw[List.getElem?_map,List.getElem?_eq_getElem ae];rfl⟩
    obtain⟨y,Mt⟩:=Mt
    rw[aa]at Mt
    (try((repeat(revert hN;revert N;apply Pn.out));refine wk (tw @b0 (tw @b1 (tw @b5 (tw @b6 (tw @bg (tw @hw (tw @MF (tw @Tb (tw @PA (tw @ei (tw @Mt (tw @lZ @Py)))))))))))) ?_;(repeat(refine Pn.mk ?_;intro N hN))))
    refine⟨_,?_,j+1,_,rfl,sd @MF,sd (tw @Tb @Dn),sd @ei,Pq,ae,bW,fun x hx tp=>?_⟩
    ·omega
    ·have LC:=eX (i:=x) (n:=st_b.next) ae
     have:=kR x hx tp
     simp only[go_sem, ↓reduceIte,Nat.reduceEqDiff,Nat.reduceAdd,Nat.reduceSub,Nat.reduceLeDiff,reduceCtorEq,LC,this,tp]
   ·obtain⟨Pq,Dn⟩:=Sg hw
    (try((repeat(revert hN;revert N;apply Pn.out));refine wk (tw @b0 (tw @b1 (tw @b5 (tw @b6 (tw @hw @MF))))) ?_;(repeat(refine Pn.mk ?_;intro N hN))))
    refine⟨_,?_,j+1,R,rfl,sd @MF,sd (tw @b5 @Dn),sd (tw @bg @lZ),Pq,ae,bW,fun x hx tp=>?_⟩
    ·omega
    ·have LC:=eX (i:=x) (n:=st_b.next) ae
     have:=kR x hx tp
     simp only[go_sem, ↓reduceIte,Nat.reduceEqDiff,Nat.reduceAdd,Nat.reduceSub,Nat.reduceLeDiff,reduceCtorEq,LC,this]
  ·have gW:j=ps.length:=ae
   subst gW
   have qn:=hD.pre
   rw[oA _ (Nat.le_refl _)]at dO qn
   rw[List.take_length]at b5 dO qn
   have PA:((e7 (jE d k) ps).length:Int)<=(ps.length:Int):=ae
   have Re:(e7 (jE d k) ps).length<=ps.length:=ae
   have pg:(e7 (jE d k) ps).length+(ps.length-(e7 (jE d k) ps).length)=ps.length:=ae
   have mA:ps.length<=ps.length+X.length:=ae
   (try((repeat(revert hN;revert N;apply Pn.out));refine wk (tw @b0 (tw @b1 (tw @b5 (tw @b6 (tw @bg (tw @hj (tw @Py (tw @PA (tw @Re (tw @pg (tw @mA (tw @Nat.le_refl (tw @Nat.sub_zero (tw @Int.le_refl @lZ)))))))))))))) ?_;(repeat(refine Pn.mk ?_;intro N hN))))
   have hm:List.take (e7 (jE d k) ps).length (List.map aa R)=(e7 (jE d k) ps).map aa:=by rw[<-List.map_take,qn]
   refine gJ (.inl rfl) (vs:=[.own o 0 (e7 (jE d k) ps).length]) (sd @Nat.zero_add) ⟨_,rfl,by simp only[go_sem, ↓reduceIte,Nat.reduceEqDiff,Nat.reduceAdd,Nat.reduceSub,Nat.reduceLeDiff,reduceCtorEq];rfl,?_,?_,bW,fun x hx tp=>?_⟩
   ·rw[hm,List.append_assoc,List.take_append_of_le_length (by simp),List.take_of_length_le (by simp)]
   ·rw[hm]
    simp only[List.length_append,List.length_map]
    omega
   ·have JR:(x=o)=False:=by simp only[eq_iff_iff,iff_false];exact tp
    have:=kR x hx JR
    simp only[go_sem, ↓reduceIte,Nat.reduceEqDiff,Nat.reduceAdd,Nat.reduceSub,Nat.reduceLeDiff,reduceCtorEq,JR,this]
 ·have hn:=D8 h0
  have dR:=wJ (p:=jE d k) hn
  have hd:decide (jd (jE d k) ps= -1)=true:=decide_eq_true (by
   unfold jd at h0 ⊢
   split
   ·rename_i h;rw[if_pos h]at h0;omega
   ·rfl)
  (try((repeat(revert hN;revert N;apply Pn.out));refine wk @hd ?_;(repeat(refine Pn.mk ?_;intro N hN))))
  refine gJ (.inl rfl) (vs:=[.own o 0 ps.length]) (sd @Nat.zero_add) ⟨(ps++X).map aa,by rw[dR];rfl,sd @ho,by rw[dR,<-List.map_take,List.take_append_of_le_length (Nat.le_refl _),List.take_length],by rw[dR];simp,bW,fun x _ _=>rfl⟩
def yn (d:Int) (k:Nat):List aq:=e7 (jE d k) (fN k (k*k))
section
set_option maxRecDepth 100000
set_option maxHeartbeats 8000000
theorem Ft (d:Int) (k:Nat) (h1:1<=k) (h4:k<=4):ak Tryz.prog 55 [.int .i64 d,.int .i64 (k:Int)] (.sl ((yn d k).map aa)):=by
 intro n0
 refine fj eM rfl fun hl=>?_
 clear hl
 have Lt:=Cu h1 h4
 have uI:=fun σ:ax=>FG k h1 h4 σ
 have hde:=fun(o A S:Id) (σ:ax)=>GQ d k ae ae (fN k (k*k)) [] (by rw[jy];omega) o A S σ
 simp only[jy,List.append_nil]at hde
 (try((repeat(revert hN;revert N;apply Pn.out));refine wk @Nat.zero_add ?_;(repeat(refine Pn.mk ?_;intro N hN))))
 refine .inr (aU _ _ _ _ _ (fun r σ1 hq=>?_) (uI _))
 obtain⟨g1,n1⟩:=σ1
 obtain⟨u,rfl,q1,q2,q3,q4,q5⟩:=hq
 (try dsimp only at q1 q2 q3 q4 q5)
 refine hN _ _ ?_
 clear hN N
 (try((repeat(revert hN;revert N;apply Pn.out));refine wk @Nat.zero_add ?_;(repeat(refine Pn.mk ?_;intro N hN))))
 refine .inr (aU _ _ _ _ _ (fun r σ2 hq=>?_) (hde u ⟨55000000,n0⟩ ⟨55000001,n0⟩ _ q1 ((q5 _ bW).trans (sd @Nat.zero_add)) ((q5 _ bW).trans (sd @Nat.zero_add)) bW bW bW (fun e=>by rw[e]at q2;(try dsimp only at q2);omega) (fun e=>by rw[e]at q2;(try dsimp only at q2);omega)))
 obtain⟨g2,n2⟩:=σ2
 obtain⟨rows,rfl,p1,p2,p3,p4,p5⟩:=hq
 (try dsimp only at p1 p2 p3 p4 p5)
 refine hN _ _ ?_
 clear hN N
 (try((repeat(revert hN;revert N;apply Pn.out));refine wk @Nat.zero_add ?_;(repeat(refine Pn.mk ?_;intro N hN))))
 have hz:=nQ (n:=5) (off:=0) (len:=(yn d k).length) (rows':=(yn d k).map aa) p1 (by rw[Nat.zero_add];exact p3) (by
  rw[List.drop_zero,show(yn d k).length=(e7 (jE d k) (fN k (k*k))).length from rfl,p2,kI fun y=>by simp[aa,aI,aW,dw]];rfl)
 exact gZ (.inl rfl) (vs:=[.own u 0 (yn d k).length]) (by simp only[fo,gS,go_sem, ↓reduceIte,Nat.reduceEqDiff,Nat.reduceAdd,Nat.reduceSub,Nat.reduceLeDiff,reduceCtorEq];rfl) (by simpa[eJ]using hz)
end
end Go.Proofs.YtkbipfflibjfbaaGreat.V

namespace Go.Proofs.YtkbipfflibjfbaaGreat.V
open Go.RowKit
theorem Gk {d:Int} {k:Nat} (hd:d=0∨d=1) (h1:1<=k) (h4:k<=4):yn d k=(List.range k).map fun c:Nat=>if d=0 then(⟨(c:Int),((k-1:Nat):Int)⟩:aq)else⟨((k-1:Nat):Int),(c:Int)⟩:=by
 rcases hd with rfl|rfl<;>rcases Ap h1 h4 with rfl|rfl|rfl|rfl<;>rfl
theorem K0 {d:Int} {k:Nat} (hd:d=0∨d=1) (h1:1<=k) (h4:k<=4):(yn d k).length=k:=by rw[Gk hd h1 h4];simp
noncomputable def BE (s:aw) (l:List ah) (k:Nat) (x:Nat×Nat×Int):List PB:=if 0<gq s l (bq (dj l k) x.1).bw x.2.2 k k then[⟨x.1,x.2.1,(gq s l (bq (dj l k) x.1).bw x.2.2 k k:Nat)⟩]else[]
theorem RL (s:aw) (l:List ah) (k:Nat):LU s l k=(lk (dj l k) (dj l k).length).flatMap (BE s l k):=by
 have h1:∀i d,DK s l k i d=(yf (dj l k) i d).flatMap (BE s l k):=fun i d=>by
  unfold DK yf
  by_cases h:0<=fD (dj l k) (dt (bq (dj l k) i).bw d)
  ·rw[if_pos h]
   simp only[List.flatMap_cons,List.flatMap_nil,List.append_nil,BE]
   by_cases h2:0<gq s l (bq (dj l k) i).bw d k k
   ·rw[if_pos ⟨h,h2⟩,if_pos h2]
   ·rw[if_neg fun hc=>h2 hc.2,if_neg h2]
  ·rw[if_neg h,if_neg fun hc=>h hc.1];rfl
 unfold LU oZ lk
 rw[List.flatMap_assoc]
 congr 1
 funext i
 unfold kh k9
 rw[List.flatMap_assoc]
 congr 1
 funext j
 exact h1 i _
noncomputable def BD (s:aw) (l:List ah) (k:Nat) (pre:List (IB (dj l k))):List PB:=(pre.map (·.1)).flatMap (BE s l k)
theorem IT (s:aw) (l:List ah) (k:Nat) (pre:List (IB (dj l k))) (x:IB (dj l k)):BD s l k (pre++[x])=BD s l k pre++BE s l k x.1:=by simp[BD]
theorem IU (s:aw) (l:List ah) (k:Nat) (x:Nat×Nat×Int):(BE s l k x).length<=1:=by
 unfold BE;split<;>simp
theorem LR (s:aw) (l:List ah) (k:Nat) (pre:List (IB (dj l k))):(BD s l k pre).length<=pre.length:=by
 unfold BD
 induction pre with
 |nil=>simp
 |cons x r ih=>
  have:=IU s l k x.1
  simp only[List.map_cons,List.flatMap_cons,List.length_append,List.length_cons]at ih ⊢
  omega
theorem NA {b:aq} {d:Int} {k c:Nat} (hd:d=0∨d=1) (h1:1<=k) (h4:k<=4) (hc:c<k):∃i j:Nat,(yn d k)[c]? =some ⟨(i:Int),(j:Int)⟩/\gV b d k c=⟨b.dQ*k+i,b.dH*k+j⟩/\i<k/\j<k:=by
 rw[Gk hd h1 h4]
 rcases hd with rfl|rfl
 ·exact⟨c,k-1,by simp[hc],by simp[gV],hc,ae⟩
 ·exact⟨k-1,c,by simp[hc],by simp[gV],ae,hc⟩
end Go.Proofs.YtkbipfflibjfbaaGreat.V

namespace Go.Proofs.YtkbipfflibjfbaaGreat.V
open Go.RowKit
attribute [local irreducible] ef wpOps gN Call
attribute [local go_sem] aH fJ eW fZ gh dh upd cD K.av cP AV.cells AV.cell rowOf rowsOf part ld rowAt bU cw dI ek iq bL de eD gj fq dx ew db da dW dY bR bd cU bQ cW cV er ez eu cR bV dc eo bP aL cY cI im br cH bz bc dB bo dF AV.undef bx bE dZ ej dV ec cJ eC eE cF eB eA cX cZ List.getD_cons_zero List.getD_cons_succ List.getD_nil List.all_cons List.all_nil Bool.and_true Bool.true_and Bool.and_self Bool.not_true Bool.not_false Option.map_some Option.map_none Option.bind_some Option.bind_none List.length_cons List.length_nil List.take_succ_cons List.take_zero List.take_nil List.drop_succ_cons List.drop_zero List.drop_nil List.head?_cons List.map_cons List.map_nil List.getElem?_cons_zero List.getElem?_cons_succ List.cons_append List.nil_append List.append_nil List.length_map List.set_cons_zero List.set_cons_succ Nat.reduceMul eq_self Int.toNat_natCast Int.natCast_nonneg and_self true_and and_true decide_true decide_false Bool.false_eq_true Nat.zero_add Nat.add_zero List.contains_cons List.contains_nil Bool.or_false Bool.false_or beq_self_eq_true Nat.reduceBEq ne_eq not_true_eq_false not_false_eq_true Id.mk.injEq false_and and_false Nat.reduceLT Int.reduceLE Int.reduceLT Int.reduceToNat Int.reduceNeg Int.reduceAdd Nat.le_refl List.length_append beq_true beq_false Bool.not_eq_eq_eq_not or_false false_or dM ai ao aD bt cz aY bj aV bf cL bJ
theorem LX (s:cj) (l:List ah) (hF:jb s.aC) (hA:qJ s.aC l) (k:Nat) (h1:1<=k) (h4:k<=4) (i0 i1:Nat) (d:Int) (y9:i0<(dj l k).length) (hd:d=0∨d=1) (hx:(i1:Int)=fD (dj l k) (dt (bq (dj l k) i0).bw d))
  (ev:Env) (gv:Rows) (nv:Nat) (u3:ev 3=.ptr ⟨1,0⟩ 0 0) (u4:ev 4=.ptr ⟨2,0⟩ 0 0) (u5:ev 5=.ptr ⟨3,0⟩ 0 0) (u8:ev 8=.ptr ⟨6,0⟩ 0 0) (u9:ev 9=.ptr ⟨4,0⟩ 0 0) (LD:ev 10=.ptr ⟨5,0⟩ 0 0) (LF:ev 11=.int .i64 d) (LG:ev 12=.int .i64 0)
  (v1:gv ⟨1,0⟩=some ⟨false,4,[[.sl (s.aC.az.map bI),.sl (s.aC.aj.map bm),.sl (s.cq.aj.map ab),.int .i64 s.au]]⟩) (v2:gv ⟨2,0⟩=some ⟨false,1,[[.sl (l.map ab)]]⟩) (v3:gv ⟨3,0⟩=some ⟨false,1,[[.int .i64 (k:Int)]]⟩) (v4:gv ⟨4,0⟩=some ⟨false,1,[[.sl ((dj l k).map ab)]]⟩) (v5:gv ⟨5,0⟩=some ⟨false,2,[[.int .i64 (i0:Int),.int .i64 (i1:Int)]]⟩):
  ef (Call Tryz.prog) OR (fun ex e _=>ex=.normal/\e 8=.ptr ⟨6,0⟩ 0 0/\e 10=.ptr ⟨5,0⟩ 0 0/\e 12=.int .i64 (gq s.aC l (bq (dj l k) i0).bw d k k:Nat)) ev ⟨gv,nv⟩:=by
 have hR:=hA.1.Qn
 have Ah:=hA.1.zX
 have Q7:=vU hA.1 (k:=k) h1 h4
 have Mp:iw d 0 3=true:=mC ae
 have SU:=uS (l:=l) (k:=k) (jY y9)
 obtain⟨q1,q2,q3⟩:=SU
 have Uc:=rz (rQ hA.1 (k:=(k:Int)) ae ae (Nat.le_refl _) q1)
 have wu:=mh (l:=dj l k) (p:=dt (bq (dj l k) i0).bw d) ae
 obtain⟨z1,z2,z3⟩:=uS (l:=l) (k:=k) (jY wu.1)
 have h0:∀c,c<k->0<=oY l (gV (bq (dj l k) i0).bw d k c)/\0<=oY l (dt (gV (bq (dj l k) i0).bw d k c) d):=fun c hc=>⟨Kz hd hc (by rw[<-q2];exact q3),Gc hd hc (by rw[<-wu.2,<-z2];exact z3)⟩
 clear wu z1 z2 z3 q1 q2 q3 hx
 have gT:=gu y9
 rw[ab]at gT
 obtain⟨bb,Lo⟩:∃bb,(bq (dj l k) i0).bw=bb:=⟨_,rfl⟩
 rw[Lo]at Uc h0 gT ⊢
 have LB:=Ft d k h1 h4
 have eb:=wU d Mp
 have Oh:=K0 hd h1 h4
 have xY:((yn d k).map aa).length=k:=by simp[Oh]
 have d0:=(dX Mp).1
 have d1:=(dX (tF Mp)).1
 unfold OR
 simp only[q]
 (repeat(first|((repeat(revert hN;revert N;apply Pn.out));refine wk (tw @u3 (tw @u4 (tw @u5 (tw @u8 (tw @u9 (tw @LD (tw @LF (tw @LG (tw @v1 (tw @v2 (tw @v3 (tw @v4 (tw @v5 @xY))))))))))))) ?_;(repeat(refine Pn.mk ?_;intro N hN)))|((try apply Or.inl);refine⟨_,ak.x (LB) (sd (tw @u3 (tw @u4 (tw @u5 (tw @u8 (tw @u9 (tw @LD (tw @LF (tw @LG (tw @v1 (tw @v2 (tw @v3 (tw @v4 (tw @v5 @xY)))))))))))))),?_⟩;refine hN _ _ ?_;clear hN N)))
 refine aT (fun n env st=>∃c:Nat,n=(k)-c/\c<=(k)/\env 38=.int .i64 (c:Int)/\env 12=.int .i64 (gq s.aC l bb d k c:Nat)/\st.get ⟨1,0⟩=some ⟨false,4,[[.sl (s.aC.az.map bI),.sl (s.aC.aj.map bm),.sl (s.cq.aj.map ab),.int .i64 s.au]]⟩/\st.get ⟨2,0⟩=some ⟨false,1,[[.sl (l.map ab)]]⟩/\st.get ⟨3,0⟩=some ⟨false,1,[[.int .i64 (k:Int)]]⟩/\st.get ⟨4,0⟩=some ⟨false,1,[[.sl ((dj l k).map ab)]]⟩/\st.get ⟨5,0⟩=some ⟨false,2,[[.int .i64 (i0:Int),.int .i64 (i1:Int)]]⟩) (k) ⟨0,ae,ae,sl (tw @u3 (tw @u4 (tw @u5 (tw @u8 (tw @u9 (tw @LD (tw @LF (tw @LG (tw @v1 (tw @v2 (tw @v3 (tw @v4 (tw @v5 @xY))))))))))))),sl (tw @u3 (tw @u4 (tw @u5 (tw @u8 (tw @u9 (tw @LD (tw @LF (tw @LG (tw @v1 (tw @v2 (tw @v3 (tw @v4 (tw @v5 @xY))))))))))))),sl (tw @u3 (tw @u4 (tw @u5 (tw @u8 (tw @u9 (tw @LD (tw @LF (tw @LG (tw @v1 (tw @v2 (tw @v3 (tw @v4 (tw @v5 @xY))))))))))))),sl (tw @u3 (tw @u4 (tw @u5 (tw @u8 (tw @u9 (tw @LD (tw @LF (tw @LG (tw @v1 (tw @v2 (tw @v3 (tw @v4 (tw @v5 @xY))))))))))))),sl (tw @u3 (tw @u4 (tw @u5 (tw @u8 (tw @u9 (tw @LD (tw @LF (tw @LG (tw @v1 (tw @v2 (tw @v3 (tw @v4 (tw @v5 @xY))))))))))))),sl (tw @u3 (tw @u4 (tw @u5 (tw @u8 (tw @u9 (tw @LD (tw @LF (tw @LG (tw @v1 (tw @v2 (tw @v3 (tw @v4 (tw @v5 @xY))))))))))))),sl (tw @u3 (tw @u4 (tw @u5 (tw @u8 (tw @u9 (tw @LD (tw @LF (tw @LG (tw @v1 (tw @v2 (tw @v3 (tw @v4 (tw @v5 @xY)))))))))))))⟩ ?_
 rintro n_a env_a st_a ⟨c,rfl,ale,a38,a12,ag0,ag1,oW,xD,ag4⟩ dr
 have a3:=dr 3 (by kernel_rfl);have a4:=dr 4 (by kernel_rfl);have a5:=dr 5 (by kernel_rfl);have a8:=dr 8 (by kernel_rfl);have a9:=dr 9 (by kernel_rfl);have qy:=dr 10 (by kernel_rfl);have fV:=dr 11 (by kernel_rfl);have zJ:=dr 36 (by kernel_rfl);have a37:=dr 37 (by kernel_rfl)
 simp only[go_sem, ↓reduceIte,Nat.reduceEqDiff,Nat.reduceAdd,Nat.reduceSub,Nat.reduceLeDiff,reduceCtorEq,u3,u4,u5,u8,u9,LD,LF,LG,v1,v2,v3,v4,v5,xY]at a3 a4 a5 a8 a9 qy fV zJ a37
 clear dr
 by_cases hc:(c:Int)<(k:Int)
 ·have bZ:∀{e:Env} {gg:Rows},(e 38=.int .i64 (IntKind.i64.wrap ((c:Int)+1)))->(e 12=.int .i64 (gq s.aC l bb d k (c+1):Nat))->(gg ⟨1,0⟩=some ⟨false,4,[[.sl (s.aC.az.map bI),.sl (s.aC.aj.map bm),.sl (s.cq.aj.map ab),.int .i64 s.au]]⟩)->(gg ⟨2,0⟩=some ⟨false,1,[[.sl (l.map ab)]]⟩)->(gg ⟨3,0⟩=some ⟨false,1,[[.int .i64 (k:Int)]]⟩)->(gg ⟨4,0⟩=some ⟨false,1,[[.sl ((dj l k).map ab)]]⟩)->(gg ⟨5,0⟩=some ⟨false,2,[[.int .i64 (i0:Int),.int .i64 (i1:Int)]]⟩)->∃m0,m0<(k)-c/\∃c:Nat,m0=(k)-c/\c<=(k)/\e 38=.int .i64 (c:Int)/\e 12=.int .i64 (gq s.aC l bb d k c:Nat)/\gg ⟨1,0⟩=some ⟨false,4,[[.sl (s.aC.az.map bI),.sl (s.aC.aj.map bm),.sl (s.cq.aj.map ab),.int .i64 s.au]]⟩/\gg ⟨2,0⟩=some ⟨false,1,[[.sl (l.map ab)]]⟩/\gg ⟨3,0⟩=some ⟨false,1,[[.int .i64 (k:Int)]]⟩/\gg ⟨4,0⟩=some ⟨false,1,[[.sl ((dj l k).map ab)]]⟩/\gg ⟨5,0⟩=some ⟨false,2,[[.int .i64 (i0:Int),.int .i64 (i1:Int)]]⟩:=fun x1 x2 x3 x4 x5 x6 x7=>⟨_,ae,c+1,rfl,ae,(by rw[x1,aB ae]),x2,x3,x4,x5,x6,x7⟩
  have ql:c<k:=ae
  obtain⟨px,py,hq,hr,Lw,hpy⟩:=NA (b:=bb) hd h1 h4 ql
  have Ir:((yn d k).map aa)[c]? =some [.int .i64 (px:Int),.int .i64 (py:Int)]:=by rw[List.getElem?_map,hq];rfl
  have po:=zq bb px py k h1 h4 ae ae ae ae
  rw[<-hr]at po
  obtain⟨p0,p1⟩:=h0 c ql
  have ht:=rP hA p0
  have hu:=rP hA p1
  have hle:=pk s.aC l bb d k c
  have k6:gq s.aC l bb d k (c+1)=gq s.aC l bb d k c+if ES s.aC l (gV bb d k c) d=true then 1 else 0:=rfl
  have Dl:=OP l (gV bb d k c) hR ae
  have SM:iB (gV bb d k c).dQ/\iB (gV bb d k c).dH:=by
   rw[hr]
   rcases Ap h1 h4 with rfl|rfl|rfl|rfl<;>(unfold iB;constructor<;>(constructor<;>(dsimp only;omega)))
  have st:=KG (gV bb d k c) d Mp SM.1 SM.2
  have Gz:=OP l (dt (gV bb d k c) d) hR ae
  rw[ES,J9]at k6
  obtain⟨tt,V7⟩:∃tt,oY l (gV bb d k c)=tt:=⟨_,rfl⟩
  rw[V7]at Dl k6 ht
  generalize oY l (dt (gV bb d k c) d)=uu at Gz k6 hu
  generalize dt (gV bb d k c) d=qq at st Gz
  generalize gV bb d k c=pp at po Dl st
  obtain⟨t0,t1,t2⟩:=j5 ht
  obtain⟨w0,w1,w2⟩:=j5 hu
  have s1:=j4 (hF.pD _ t2) Mp
  have s2:=j4 (hF.pD _ w2) (tF Mp)
  simp only[aa]at po Dl st Gz
  generalize dK (dL s.aC tt) d=sx at s1 k6
  generalize dK (dL s.aC uu) (ny d)=sy at s2 k6
  generalize ny d=oo at eb s2 d1
  by_cases e:sx=sy
  ·have e':decide (sx=sy)=true:=decide_eq_true e
   rw[e',if_neg (by simp),Nat.add_zero]at k6
   (repeat(first|((repeat(revert hN;revert N;apply Pn.out));refine wk (tw @a38 (tw @a12 (tw @ag0 (tw @ag1 (tw @oW (tw @xD (tw @ag4 (tw @a3 (tw @a4 (tw @a5 (tw @a8 (tw @a9 (tw @qy (tw @fV (tw @zJ (tw @a37 (tw @hc (tw @Ir (tw @gT (tw @t0 (tw @t1 (tw @w0 (tw @w1 (tw @s1 (tw @s2 (tw @d0 (tw @d1 (tw @bm.eq_1 @e')))))))))))))))))))))))))))) ?_;(repeat(refine Pn.mk ?_;intro N hN)))|((try apply Or.inl);refine⟨_,ak.x (po) (sd (tw @a38 (tw @a12 (tw @ag0 (tw @ag1 (tw @oW (tw @xD (tw @ag4 (tw @a3 (tw @a4 (tw @a5 (tw @a8 (tw @a9 (tw @qy (tw @fV (tw @zJ (tw @a37 (tw @hc (tw @Ir (tw @gT (tw @t0 (tw @t1 (tw @w0 (tw @w1 (tw @s1 (tw @s2 (tw @d0 (tw @d1 (tw @bm.eq_1 @e'))))))))))))))))))))))))))))),?_⟩;refine hN _ _ ?_;clear hN N)|((try apply Or.inl);refine⟨_,ak.x (Dl) (sd (tw @a38 (tw @a12 (tw @ag0 (tw @ag1 (tw @oW (tw @xD (tw @ag4 (tw @a3 (tw @a4 (tw @a5 (tw @a8 (tw @a9 (tw @qy (tw @fV (tw @zJ (tw @a37 (tw @hc (tw @Ir (tw @gT (tw @t0 (tw @t1 (tw @w0 (tw @w1 (tw @s1 (tw @s2 (tw @d0 (tw @d1 (tw @bm.eq_1 @e'))))))))))))))))))))))))))))),?_⟩;refine hN _ _ ?_;clear hN N)|((try apply Or.inl);refine⟨_,ak.x (st) (sd (tw @a38 (tw @a12 (tw @ag0 (tw @ag1 (tw @oW (tw @xD (tw @ag4 (tw @a3 (tw @a4 (tw @a5 (tw @a8 (tw @a9 (tw @qy (tw @fV (tw @zJ (tw @a37 (tw @hc (tw @Ir (tw @gT (tw @t0 (tw @t1 (tw @w0 (tw @w1 (tw @s1 (tw @s2 (tw @d0 (tw @d1 (tw @bm.eq_1 @e'))))))))))))))))))))))))))))),?_⟩;refine hN _ _ ?_;clear hN N)|((try apply Or.inl);refine⟨_,ak.x (Gz) (sd (tw @a38 (tw @a12 (tw @ag0 (tw @ag1 (tw @oW (tw @xD (tw @ag4 (tw @a3 (tw @a4 (tw @a5 (tw @a8 (tw @a9 (tw @qy (tw @fV (tw @zJ (tw @a37 (tw @hc (tw @Ir (tw @gT (tw @t0 (tw @t1 (tw @w0 (tw @w1 (tw @s1 (tw @s2 (tw @d0 (tw @d1 (tw @bm.eq_1 @e'))))))))))))))))))))))))))))),?_⟩;refine hN _ _ ?_;clear hN N)|((try apply Or.inl);refine⟨_,ak.x (eb) (sd (tw @a38 (tw @a12 (tw @ag0 (tw @ag1 (tw @oW (tw @xD (tw @ag4 (tw @a3 (tw @a4 (tw @a5 (tw @a8 (tw @a9 (tw @qy (tw @fV (tw @zJ (tw @a37 (tw @hc (tw @Ir (tw @gT (tw @t0 (tw @t1 (tw @w0 (tw @w1 (tw @s1 (tw @s2 (tw @d0 (tw @d1 (tw @bm.eq_1 @e'))))))))))))))))))))))))))))),?_⟩;refine hN _ _ ?_;clear hN N)))
   refine bZ ?_ ?_ ?_ ?_ ?_ ?_ ?_
   all_goals simp only[go_sem, ↓reduceIte,Nat.reduceEqDiff,Nat.reduceAdd,Nat.reduceSub,Nat.reduceLeDiff,reduceCtorEq,a38,a12,ag0,ag1,oW,xD,ag4,a3,a4,a5,a8,a9,qy,fV,zJ,a37,k6]
  ·have e':decide (sx=sy)=false:=decide_eq_false e
   rw[e',if_pos (by simp)]at k6
   have hw:IntKind.i64.wrap ((gq s.aC l bb d k c:Int)+1)=((gq s.aC l bb d k c+1:Nat):Int):=by rw[aJ ae];omega
   (repeat(first|((repeat(revert hN;revert N;apply Pn.out));refine wk (tw @a38 (tw @a12 (tw @ag0 (tw @ag1 (tw @oW (tw @xD (tw @ag4 (tw @a3 (tw @a4 (tw @a5 (tw @a8 (tw @a9 (tw @qy (tw @fV (tw @zJ (tw @a37 (tw @hc (tw @Ir (tw @gT (tw @t0 (tw @t1 (tw @w0 (tw @w1 (tw @s1 (tw @s2 (tw @d0 (tw @d1 (tw @bm.eq_1 @e')))))))))))))))))))))))))))) ?_;(repeat(refine Pn.mk ?_;intro N hN)))|((try apply Or.inl);refine⟨_,ak.x (po) (sd (tw @a38 (tw @a12 (tw @ag0 (tw @ag1 (tw @oW (tw @xD (tw @ag4 (tw @a3 (tw @a4 (tw @a5 (tw @a8 (tw @a9 (tw @qy (tw @fV (tw @zJ (tw @a37 (tw @hc (tw @Ir (tw @gT (tw @t0 (tw @t1 (tw @w0 (tw @w1 (tw @s1 (tw @s2 (tw @d0 (tw @d1 (tw @bm.eq_1 @e'))))))))))))))))))))))))))))),?_⟩;refine hN _ _ ?_;clear hN N)|((try apply Or.inl);refine⟨_,ak.x (Dl) (sd (tw @a38 (tw @a12 (tw @ag0 (tw @ag1 (tw @oW (tw @xD (tw @ag4 (tw @a3 (tw @a4 (tw @a5 (tw @a8 (tw @a9 (tw @qy (tw @fV (tw @zJ (tw @a37 (tw @hc (tw @Ir (tw @gT (tw @t0 (tw @t1 (tw @w0 (tw @w1 (tw @s1 (tw @s2 (tw @d0 (tw @d1 (tw @bm.eq_1 @e'))))))))))))))))))))))))))))),?_⟩;refine hN _ _ ?_;clear hN N)|((try apply Or.inl);refine⟨_,ak.x (st) (sd (tw @a38 (tw @a12 (tw @ag0 (tw @ag1 (tw @oW (tw @xD (tw @ag4 (tw @a3 (tw @a4 (tw @a5 (tw @a8 (tw @a9 (tw @qy (tw @fV (tw @zJ (tw @a37 (tw @hc (tw @Ir (tw @gT (tw @t0 (tw @t1 (tw @w0 (tw @w1 (tw @s1 (tw @s2 (tw @d0 (tw @d1 (tw @bm.eq_1 @e'))))))))))))))))))))))))))))),?_⟩;refine hN _ _ ?_;clear hN N)|((try apply Or.inl);refine⟨_,ak.x (Gz) (sd (tw @a38 (tw @a12 (tw @ag0 (tw @ag1 (tw @oW (tw @xD (tw @ag4 (tw @a3 (tw @a4 (tw @a5 (tw @a8 (tw @a9 (tw @qy (tw @fV (tw @zJ (tw @a37 (tw @hc (tw @Ir (tw @gT (tw @t0 (tw @t1 (tw @w0 (tw @w1 (tw @s1 (tw @s2 (tw @d0 (tw @d1 (tw @bm.eq_1 @e'))))))))))))))))))))))))))))),?_⟩;refine hN _ _ ?_;clear hN N)|((try apply Or.inl);refine⟨_,ak.x (eb) (sd (tw @a38 (tw @a12 (tw @ag0 (tw @ag1 (tw @oW (tw @xD (tw @ag4 (tw @a3 (tw @a4 (tw @a5 (tw @a8 (tw @a9 (tw @qy (tw @fV (tw @zJ (tw @a37 (tw @hc (tw @Ir (tw @gT (tw @t0 (tw @t1 (tw @w0 (tw @w1 (tw @s1 (tw @s2 (tw @d0 (tw @d1 (tw @bm.eq_1 @e'))))))))))))))))))))))))))))),?_⟩;refine hN _ _ ?_;clear hN N)))
   refine bZ ?_ ?_ ?_ ?_ ?_ ?_ ?_
   all_goals simp only[go_sem, ↓reduceIte,Nat.reduceEqDiff,Nat.reduceAdd,Nat.reduceSub,Nat.reduceLeDiff,reduceCtorEq,a38,a12,ag0,ag1,oW,xD,ag4,a3,a4,a5,a8,a9,qy,fV,zJ,a37,k6,hw]
 ·have ql:c=k:=ae
  subst ql
  (try((repeat(revert hN;revert N;apply Pn.out));refine wk (tw @a38 (tw @a12 (tw @ag0 (tw @ag1 (tw @oW (tw @xD (tw @ag4 (tw @a3 (tw @a4 (tw @a5 (tw @a8 (tw @a9 (tw @qy (tw @fV (tw @zJ (tw @a37 @hc)))))))))))))))) ?_;(repeat(refine Pn.mk ?_;intro N hN))))
  exact⟨trivial,sd (tw @a38 (tw @a12 (tw @ag0 (tw @ag1 (tw @oW (tw @xD (tw @ag4 (tw @a3 (tw @a4 (tw @a5 (tw @a8 (tw @a9 (tw @qy (tw @fV (tw @zJ @a37))))))))))))))),sd (tw @a38 (tw @a12 (tw @ag0 (tw @ag1 (tw @oW (tw @xD (tw @ag4 (tw @a3 (tw @a4 (tw @a5 (tw @a8 (tw @a9 (tw @qy (tw @fV (tw @zJ @a37))))))))))))))),sd (tw @a38 (tw @a12 (tw @ag0 (tw @ag1 (tw @oW (tw @xD (tw @ag4 (tw @a3 (tw @a4 (tw @a5 (tw @a8 (tw @a9 (tw @qy (tw @fV (tw @zJ @a37)))))))))))))))⟩
end Go.Proofs.YtkbipfflibjfbaaGreat.V

namespace Go.Proofs.YtkbipfflibjfbaaGreat.V
open Go.RowKit
theorem s6 {P:Program} (hm:P.follows .mixedOrders=true) {f:Nat} {args:List AV} {vs:Array Value} {w:World} {r:AV} (h:ak P f args r) (hA:fc P w (fun b=>b<w.heap.size) (fun _=>none) args vs):
  Calls P f vs w fun e w'=>∃u,e=.returned u/\cN P w' (fun b=>b<w'.heap.size) (fun _=>none) r u/\Below w.heap.size w w':=by
 have hs:=gG hm (h 0) w.heap.size (fun b=>b<w.heap.size) (fun _=>none) w vs ⟨Nat.le_refl _,fun _ h=>h,fun id r h=>(by cases h),fun id kS r r' B B' h=>(by cases h)⟩ (fun id h=>absurd rfl h) hA
 refine hs.mono ?_
 rintro e w' ⟨r0,g',n',D',ι',u,rfl,⟨r',hz,rfl⟩,dR,hsim,_,_,ij⟩
 refine⟨u,rfl,?_,dR.below⟩
 exact(yV (D2:=fun b=>b<w'.heap.size) (ι2:=fun _=>none) (fun id row hg hw=>by
  obtain⟨B,h1,h2,_⟩:=hsim.row id row hg
  exact⟨B,h1,h2,h2.lt⟩) 6 r0 u r' ij hz).1
end Go.Proofs.YtkbipfflibjfbaaGreat.V

namespace Go.Proofs.YtkbipfflibjfbaaGreat.V
open Go.RowKit
attribute [local irreducible] ef wpOps gN Call
attribute [local go_sem] aH fJ eW fZ gh dh upd cD K.av cP AV.cells AV.cell rowOf rowsOf part ld rowAt bU cw dI ek iq bL de eD gj fq dx ew db da dW dY bR bd cU bQ cW cV er ez eu cR bV dc eo bP aL cY cI im br cH bz bc dB bo dF AV.undef bx bE dZ ej dV ec cJ eC eE cF eB eA cX cZ List.getD_cons_zero List.getD_cons_succ List.getD_nil List.all_cons List.all_nil Bool.and_true Bool.true_and Bool.and_self Bool.not_true Bool.not_false Option.map_some Option.map_none Option.bind_some Option.bind_none List.length_cons List.length_nil List.take_succ_cons List.take_zero List.take_nil List.drop_succ_cons List.drop_zero List.drop_nil List.head?_cons List.map_cons List.map_nil List.getElem?_cons_zero List.getElem?_cons_succ List.cons_append List.nil_append List.append_nil List.length_map List.set_cons_zero List.set_cons_succ Nat.reduceMul eq_self Int.toNat_natCast Int.natCast_nonneg and_self true_and and_true decide_true decide_false Bool.false_eq_true Nat.zero_add Nat.add_zero List.contains_cons List.contains_nil Bool.or_false Bool.false_or beq_self_eq_true Nat.reduceBEq ne_eq not_true_eq_false not_false_eq_true Id.mk.injEq false_and and_false Nat.reduceLT Int.reduceLE Int.reduceLT Int.reduceToNat Int.reduceNeg Int.reduceAdd Nat.le_refl List.length_append beq_true beq_false Bool.not_eq_eq_eq_not or_false false_or dM ai ao aD bt cz aY bj aV bf cL bJ
theorem Ac (s:cj) (l:List ah) (hn:gy s.aC) (hm:rM s) (hl:l.length<=1048576):ak Tryz.prog 51 [.agg (aA s),.agg [.sl (l.map ab)]] (.int .i64 (if rO s l then 0 else 1)):=by
 refine ak.body eM rfl fun wz n0=>?_
 clear wz
 have h1:=xM OV s hn hm.s.g hm.s.t hm.s.s hm.a
 have h2:=ot s.aC l hn hm.s.g hm.s.t hm.s.s hl
 cases b1:n9 s
 ·rw[b1]at h1
  rw[aA]at h1 ⊢
  (repeat(first|((repeat(revert hN;revert N;apply Pn.out));refine wk @Nat.zero_add ?_;(repeat(refine Pn.mk ?_;intro N hN)))|((try apply Or.inl);refine⟨_,ak.x (h1) (sd @Nat.zero_add),?_⟩;refine hN _ _ ?_;clear hN N)))
  exact cu (b:=1) (.inl rfl) (sd @Nat.zero_add) (by simp[rO,b1])
 have ei:rD s.aC=true:=nA.2 (xo.1 b1).set
 rw[b1]at h1
 rw[ei,Bool.true_and]at h2
 rw[aA]at h1 ⊢
 rw[ad]at h2
 cases b2:qh s.aC l
 ·rw[b2]at h2
  (repeat(first|((repeat(revert hN;revert N;apply Pn.out));refine wk @Nat.zero_add ?_;(repeat(refine Pn.mk ?_;intro N hN)))|((try apply Or.inl);refine⟨_,ak.x (h1) (sd @Nat.zero_add),?_⟩;refine hN _ _ ?_;clear hN N)|((try apply Or.inl);refine⟨_,ak.x (h2) (sd @Nat.zero_add),?_⟩;refine hN _ _ ?_;clear hN N)))
  exact cu (b:=1) (.inl rfl) (sd @Nat.zero_add) (by simp[rO,b1,b2])
 ·rw[b2]at h2
  (repeat(first|((repeat(revert hN;revert N;apply Pn.out));refine wk @Nat.zero_add ?_;(repeat(refine Pn.mk ?_;intro N hN)))|((try apply Or.inl);refine⟨_,ak.x (h1) (sd @Nat.zero_add),?_⟩;refine hN _ _ ?_;clear hN N)|((try apply Or.inl);refine⟨_,ak.x (h2) (sd @Nat.zero_add),?_⟩;refine hN _ _ ?_;clear hN N)))
  exact cu (b:=0) (.inl rfl) (sd @Nat.zero_add) (by simp[rO,b1,b2])
end Go.Proofs.YtkbipfflibjfbaaGreat.V

namespace Go.Proofs.YtkbipfflibjfbaaGreat.V
open Go.RowKit Go.Shelf
section
variable {P:Program} {w:World} {D:Nat->Prop} {ι:Names}
theorem Qo:fc P w D ι [] ([]:List Value).toArray:=kq
theorem dP {a:AV} {v:Value} {xs:List AV} {vs:List Value} (h:cN P w D ι a v) (k:fc P w D ι xs vs.toArray):fc P w D ι (a::xs) (v::vs).toArray:=⟨by have:=k.1;simp at this ⊢;exact this,fun j b hj=>by
 cases j with
 |zero=>simp at hj;subst hj;exact⟨v,by simp,h⟩
 |succ j=>
  obtain⟨u,h1,h2⟩:=k.2 j b (by simpa using hj)
  exact⟨u,by simpa using h1,h2⟩⟩
theorem Me {avs:List AV} {vs:List Value} (h:fc P w D ι avs vs.toArray) (m:Nat) (ds:List Deferred):cE P w D ι (cD avs) {tmps:=(vs++List.replicate m undef).toArray,defers:=ds}:=by
 intro t
 have hz:vs.length=avs.length:=by simpa using h.1
 show cN P w D ι (avs.getD t .undef) (((vs++List.replicate m undef).toArray).getD t undef)
 by_cases ht:t<avs.length
 ·obtain⟨u,h1,h2⟩:=h.2 t avs[t] (List.getElem?_eq_getElem ht)
  have e1:avs.getD t .undef=avs[t]:=by rw[List.getD_eq_getElem?_getD,List.getElem?_eq_getElem ht];rfl
  have e2:((vs++List.replicate m undef).toArray).getD t undef=u:=by
   rw[Array.getD_eq_getD_getElem?,List.getElem?_toArray,List.getElem?_append_left ae]
   rw[List.getElem?_toArray]at h1
   rw[h1];rfl
  rw[e1,e2];exact h2
 ·have e1:avs.getD t .undef=.undef:=by rw[List.getD_eq_getElem?_getD,List.getElem?_eq_none ae];rfl
  have e2:((vs++List.replicate m undef).toArray).getD t undef=undef:=by
   rw[Array.getD_eq_getD_getElem?,List.getElem?_toArray,List.getElem?_append_right ae,List.getElem?_replicate]
   split<;>rfl
  rw[e1,e2];exact cN.undef
end
theorem Qz {P:Program} {hs:Nat} (hm:P.follows .mixedOrders=true) {l3:List (Nat×Nat×Nat)} {md:List (Nat×Nat)} {nt fid q n:Nat} {A B C:Code} {va vb:VC} (hA:iH P l3 md nt fid A=some va) (okA:rj A=true) (hB:iH P l3 md nt fid B=some vb) (okB:rj B=true)
  {Qv:Env->ax->Prop} {env:Env} {σ:ax} {a:Act} {w:World} {D:Nat->Prop} {ι:Names} {Q':Exit->Act->World->Prop}
  (hv:ef (Sound P) va (fun ex e s=>ex=.normal/\ef (Sound P) vb (fun ex e s=>ex=.normal/\Qv e s) e s) env σ) (dR:St P hs nt D ι env σ a w)
  (hK:∀fA σ1 a1 w1 D1 ι1,Qv fA σ1->Step hs D ι w D1 ι1 w1->St P hs nt D1 ι1 fA σ1 a1 w1->a1.defers=a.defers->C.wpIn (Fence.wide.inRound q) n P Q' a1 w1):(Code.seq A (Code.seq B C)).wpIn (Fence.wide.inRound q) n P Q' a w:=by
 refine wpIn_seq (FH hm A va hA okA _ env σ a w D ι _ hv dR ?_)
 rintro ex fA σ1 a1 w1 D1 ι1 ⟨rfl,uf⟩ T1 gr uY _
 refine wpIn_seq (FH hm B vb hB okB _ fA σ1 a1 w1 D1 ι1 _ uf gr ?_)
 rintro ex jo σ2 a2 w2 D2 ι2 ⟨rfl,JO⟩ T2 JN q9 _
 exact hK jo σ2 a2 w2 D2 ι2 JO (T1.trans T2) JN (q9.trans uY)
theorem LY {X:fm} {Q:Ex->Env->ax->Prop} {env:Env} {σ:ax} {d site:Nat} (h:Q .normal (upd env (some d) (.int .i64 0)) ⟨σ.get,σ.next+1⟩):ef X (.eS false [⟨some d,.du (.k (.int .i64 0)),none,site,[]⟩]) Q env σ:=h
def iP (m b:Nat) (W W':World):Prop:=W.heap.size<=W'.heap.size/\(∀(x:Nat) (cells:Array Value) (T:TypeId) (fr:Nat×Nat),W.heap[x]? =some (Obj.cells cells T fr)->T≠53->T≠103->W'.heap[x]? =W.heap[x]?)/\∀k,k<m->k≠b->k<W.heap.size->W'.heap[k]? =W.heap[k]?
theorem iP.trans {m b:Nat} {A B C:World} (h:iP m b A B) (k:iP m b B C):iP m b A C:=⟨Nat.le_trans h.1 k.1,fun x cells T fr hb h1 h2=>by
 have e:=h.2.1 x cells T fr hb h1 h2
 rw[<-e]at hb ⊢
 exact k.2.1 x cells T fr hb h1 h2,fun x hb gI hs=>(k.2.2 x hb gI (Nat.lt_of_lt_of_le hs h.1)).trans (h.2.2 x hb gI hs)⟩
theorem iP.of {m b:Nat} {W W':World} (h:Below W.heap.size W W'):iP m b W W':=⟨h.size,fun x cells T fr hb _ _=>h.block x (Array.getElem?_eq_some_iff.1 hb).1,fun k _ _ hs=>h.block k hs⟩
theorem iP.refl (m b:Nat) (W:World):iP m b W W:=⟨Nat.le_refl _,fun _ _ _ _ _ _ _=>rfl,fun _ _ _ _=>rfl⟩
theorem iP.b {m b n:Nat} (hm:m<=n) (W:World) (l:Nat) (o o':Obj) (hl:n<=l) (h:W.heap[l]? =some o) (hc:o.isCells=false) (_:o.isWalk=false):iP m b W (W.putObj l o'):=by
 refine⟨by simp,fun x cells T fr hb _ _=>?_,fun k hk _ _=>World.putObj_heap_other ae⟩
 by_cases ke:x=l
 ·subst ke;rw[h]at hb;cases hb;cases hc
 ·exact World.putObj_heap_other ke
theorem iP.app {m n₀:Nat} {W w1:World} {B k:Nat} {v v':Value} {xs:List Value} {tmp:Obj} (hv:Boxed W B 53 v) (fh:W.ownsRow m 103 3 v k xs) (r6:(W.alloc tmp).grownBy w1 v.ownBlock) (hb:Below n₀ W (w1.setCell ⟨B,0,none⟩ v')):iP m B W (w1.setCell ⟨B,0,none⟩ v'):=by
 have key:∀x,x≠B->some x≠v.ownBlock->x<W.heap.size->(w1.setCell ⟨B,0,none⟩ v').heap[x]? =W.heap[x]? :=fun x hxB tp dO=>
  (Below.heap_setCell w1 ⟨B,0,none⟩ v' x hxB).trans ((r6.block x (by simp;omega) tp).trans (Below.heap_alloc W tmp x dO))
 refine⟨hb.size,fun b cells T fr h h1 h2=>?_,fun x hx gI dO=>key x gI ?_ dO⟩
 ·have dO:=(Array.getElem?_eq_some_iff.1 h).1
  refine key b ?_ ?_ dO
  ·rintro rfl
   rw[show W.heap[b]? = _ from hv]at h
   cases h
   exact h1 rfl
  ·rcases fh.2 with⟨rfl,_⟩|⟨g,cap,cur,rfl,_,hg,_⟩
   ·simp[Value.ownBlock]
   ·intro e
    obtain rfl:b=g:=by simpa[Value.ownBlock]using e
    rw[hg]at h;cases h
    exact h2 rfl
 ·rcases fh.2 with⟨rfl,_⟩|⟨g,cap,cur,rfl,hmg,hg,_⟩
  ·simp[Value.ownBlock]
  ·intro e
   have:x=g:=by simpa[Value.ownBlock]using e
   omega
theorem OX {W:World} {B b x:Nat} {T:TypeId} {v u:Value} (hB:Boxed W B T v) (h:W.cell? ⟨b,x,none⟩=some u) (hx:1<=x):b≠B:=by
 rintro rfl
 rw[World.cell?,show W.heap[(⟨b,x,none⟩:Addr).block]? = _ from hB]at h
 simp at h
 have:=(List.getElem?_eq_some_iff.1 h).1
 simp at this
 omega
theorem Tj {w:World} {B:Nat} {T:TypeId} {v vS:Value} {l:List ah} (hP:mm w vS l) (hB:Boxed w B T v):Fz (iP w.heap.size B) vS l where
 refl:=iP.refl _ _
 trans:=iP.trans
 of:=iP.of
 size h:=h.1
 typed h:=h.2.1
 pl {W W'} h hp:=by
  obtain⟨A,c,rfl,hm,hc⟩:=hp.sl
  refine⟨A,c,rfl,hm,?_⟩
  by_cases hl:l=[]
  ·exact .inl hl
  have je:0<l.length:=List.length_pos_iff.2 hl
  rcases hc with h0|⟨b,o,rfl,gn⟩
  ·exact absurd h0 hl
  obtain⟨A',c',e,_,lg⟩:=hP.sl
  cases e
  rcases lg with h0|⟨b',o',e,hcell'⟩
  ·exact absurd h0 hl
  cases e
  have hb:=nL (hcell' 0 je).1
  have gI:=OX hB (hcell' 0 je).2.2 ae
  have hk:=h.2.2 b hb gI (nL (gn 0 je).1)
  refine .inr ⟨b,o,rfl,fun i hi=>?_⟩
  have tg:∀x,W'.cell? ⟨b,x,none⟩=W.cell? ⟨b,x,none⟩:=fun x=>World.cell?_of_block hk
  rw[tg,tg,tg]
  exact gn i hi
theorem Ko {β:Type} (vS:Value) (l:List ah):Own (fun(_:β) W=>mm W vS l):=by
 intro _ W W' row hp hg hr
 obtain⟨A,c,rfl,hm,hc⟩:=hp.sl
 refine⟨A,c,rfl,hm,?_⟩
 by_cases hl:l=[]
 ·exact .inl hl
 have je:0<l.length:=List.length_pos_iff.2 hl
 rcases hc with h0|⟨b,o,rfl,gn⟩
 ·exact absurd h0 hl
 have hb:=nL (gn 0 je).1
 have hk:W'.heap[b]? =W.heap[b]? :=hg.block b hb fun e=>by
  obtain⟨ob,ho,dy⟩:=hr b e.symm
  have h1:=(gn 0 je).1
  unfold World.cell? at h1
  rw[show W.heap[(⟨b,o+(0*3+0),none⟩:Addr).block]? =some ob from ho]at h1
  cases ob<;>simp_all [Obj.isCells]
 refine .inr ⟨b,o,rfl,fun i hi=>?_⟩
 have tg:∀x,W'.cell? ⟨b,x,none⟩=W.cell? ⟨b,x,none⟩:=fun x=>World.cell?_of_block hk
 rw[tg,tg,tg]
 exact gn i hi
theorem nV {W:World} {m n:Nat} (hn:n<=m) {e:TypeId} {size:Nat} {v:Value} {k:Nat} {xs:List Value} (h:W.ownsRow m e size v k xs):W.ownsRow n e size v k xs:=by
 refine⟨h.1,?_⟩
 rcases h.2 with h|⟨g,cap,cur,h1,h2,h3⟩
 ·exact .inl h
 ·exact .inr ⟨g,cap,cur,h1,Nat.le_trans hn h2,h3⟩
def nI (bS bA bK bB bX bO bC:Nat):Names:=fun id=>if id=⟨1,0⟩then some ⟨bS,4,4,none⟩else if id=⟨2,0⟩then some ⟨bA,1,1,none⟩else if id=⟨3,0⟩then some ⟨bK,1,1,none⟩else if id=⟨4,0⟩then some ⟨bB,1,1,none⟩else if id=⟨5,0⟩then some ⟨bX,2,2,none⟩else if id=⟨6,0⟩then some ⟨bO,1,1,none⟩else if id=⟨7,0⟩then some ⟨bC,1,1,none⟩else none
def RK (s:cj) (l b:List ah) (k i0 i1:Nat):Rows:=fun id=>if id=⟨1,0⟩then some ⟨false,4,[aA s]⟩else if id=⟨2,0⟩then some ⟨false,1,[[.sl (l.map ab)]]⟩else if id=⟨3,0⟩then some ⟨false,1,[[.int .i64 (k:Int)]]⟩else if id=⟨4,0⟩then some ⟨false,1,[[.sl (b.map ab)]]⟩else if id=⟨5,0⟩then some ⟨false,2,[[.int .i64 (i0:Int),.int .i64 (i1:Int)]]⟩else none
theorem RM {P:Program} {W:World} {s:cj} {l b:List ah} {k i0 i1 bS bA bK bB bX bO bC:Nat} {cs:Array Value} {vS vB:Value}
  (hS:W.heap[bS]? =some (.cells cs 57 (0,0))) (hA:Boxed W bA 41 vS) (hK:Boxed W bK 2 (.int .i64 (k:Int))) (hB:Boxed W bB 41 vB) (hX:W.heap[bX]? =some (.cells #[.int .i64 (i0:Int),.int .i64 (i1:Int)] 110 (0,0)))
  (iS:ja P W (fun b=>b<W.heap.size) (.agg (aA s)) (.agg cs)) (iA:ja P W (fun b=>b<W.heap.size) (.sl (l.map ab)) vS) (iB:ja P W (fun b=>b<W.heap.size) (.sl (b.map ab)) vB)
  {avs:List AV} {vs:List Value} {m:Nat} (hR:fc P W (fun b=>b<W.heap.size) (nI bS bA bK bB bX bO bC) avs vs.toArray) (hz:vs.length+m=97):
  St P W.heap.size 97 (fun b=>b<W.heap.size) (nI bS bA bK bB bX bO bC) (cD avs) ⟨RK s l b k i0 i1,1⟩ {tmps:=(vs++List.replicate m undef).toArray,defers:=[]} W:=by
 obtain⟨fS,xI,Ua,Bc⟩:∃f:Nat->Value,cs.size=4/\(∀j,j<(aA s).length->cs[j]? =some (f j))/\∀j a,(aA s)[j]? =some a->ja P W (fun b=>b<W.heap.size) a (f j):=by
  cases iS with
  |agg _ _ f h1 h2 h3 h4=>exact⟨f,h1,h3,h4⟩
 have n1:(nI bS bA bK bB bX bO bC) ⟨1,0⟩=some ⟨bS,4,4,none⟩:=rfl
 have n2:(nI bS bA bK bB bX bO bC) ⟨2,0⟩=some ⟨bA,1,1,none⟩:=rfl
 have n3:(nI bS bA bK bB bX bO bC) ⟨3,0⟩=some ⟨bK,1,1,none⟩:=rfl
 have n4:(nI bS bA bK bB bX bO bC) ⟨4,0⟩=some ⟨bB,1,1,none⟩:=rfl
 have n5:(nI bS bA bK bB bX bO bC) ⟨5,0⟩=some ⟨bX,2,2,none⟩:=rfl
 have one:∀{x:Nat} {T:TypeId} {a:AV} {v:Value},Boxed W x T v->a.cell=true->cN P W (fun b=>b<W.heap.size) (nI bS bA bK bB bX bO bC) a v->iR P W (fun b=>b<W.heap.size) (nI bS bA bK bB bX bO bC) ⟨x,1,1,none⟩ ⟨false,1,[[a]]⟩:=fun {x T a v} hb hc hr=>tH (cs:=[a]) rfl hb rfl rfl rfl (fun a' ha=>by simp at ha;rw[ha];exact hc) (fun j a' ha=>by
  match j,ha with
  |0,ha=>simp at ha;subst ha;exact⟨_,rfl,hr⟩
  |j+1,ha=>simp at ha)
 refine⟨⟨Nat.le_refl _,fun b hb=>hb,fun id r hg=>?_,fun id kS r r' B B' h _ hw=>?_⟩,fun id hid=>?_,Me hR m [],by simp;exact hz⟩
 ·replace hg:RK s l b k i0 i1 id=some r:=hg
  unfold RK at hg
  split at hg
  ·rename_i e;subst e;injection hg with hg;subst hg
   exact⟨_,n1,tH (cs:=aA s) rfl hS xI rfl xI.symm (fun a ha=>by simp[aA]at ha;rcases ha with rfl|rfl|rfl|rfl<;>rfl) (fun j a ha=>⟨_,Ua j (List.getElem?_eq_some_iff.1 ha).1,.eO _ _ (Bc j a ha)⟩),fun h=>(by cases h),fun h=>(by cases h)⟩
  split at hg
  ·rename_i e;subst e;injection hg with hg;subst hg
   exact⟨_,n2,one hA rfl (.eO _ _ iA),fun h=>(by cases h),fun h=>(by cases h)⟩
  split at hg
  ·rename_i e;subst e;injection hg with hg;subst hg
   exact⟨_,n3,one hK rfl (.eO _ _ (.int _ _)),fun h=>(by cases h),fun h=>(by cases h)⟩
  split at hg
  ·rename_i e;subst e;injection hg with hg;subst hg
   exact⟨_,n4,one hB rfl (.eO _ _ iB),fun h=>(by cases h),fun h=>(by cases h)⟩
  split at hg
  ·rename_i e;subst e;injection hg with hg;subst hg
   exact⟨_,n5,tH (cs:=[.int .i64 (i0:Int),.int .i64 (i1:Int)]) rfl hX rfl rfl rfl (fun a ha=>by simp at ha;rcases ha with rfl|rfl<;>rfl) (fun j a ha=>by match j,ha with|0,ha=>simp at ha;subst ha;exact⟨_,rfl,.eO _ _ (.int _ _)⟩|1,ha=>simp at ha;subst ha;exact⟨_,rfl,.eO _ _ (.int _ _)⟩|j+2,ha=>simp at ha),fun h=>(by cases h),fun h=>(by cases h)⟩
  ·cases hg
 ·exfalso
  replace h:RK s l b k i0 i1 id=some r:=h
  unfold RK at h
  repeat' (split at h)
  all_goals first|(injection h with h;subst h;cases hw)|cases h
 ·left
  unfold nI at hid
  repeat' (split at hid)
  all_goals first|(rename_i e;subst e;exact Nat.zero_lt_one)|exact absurd rfl hid
end Go.Proofs.YtkbipfflibjfbaaGreat.V

namespace Go.Proofs.YtkbipfflibjfbaaGreat.V
open Go.RowKit Go.Shelf
attribute [local go_sem] Oper.semAt_some
attribute [local irreducible] ef wpOps gN Call
attribute [local go_sem] aH fJ eW fZ gh dh upd cD K.av cP AV.cells AV.cell rowOf rowsOf part ld rowAt bU cw dI ek iq bL de eD gj fq dx ew db da dW dY bR bd cU bQ cW cV er ez eu cR bV dc eo bP aL cY cI im br cH bz bc dB bo dF AV.undef bx bE dZ ej dV ec cJ eC eE cF eB eA cX cZ List.getD_cons_zero List.getD_cons_succ List.getD_nil List.all_cons List.all_nil Bool.and_true Bool.true_and Bool.and_self Bool.not_true Bool.not_false Option.map_some Option.map_none Option.bind_some Option.bind_none List.length_cons List.length_nil List.take_succ_cons List.take_zero List.take_nil List.drop_succ_cons List.drop_zero List.drop_nil List.head?_cons List.map_cons List.map_nil List.getElem?_cons_zero List.getElem?_cons_succ List.cons_append List.nil_append List.append_nil List.length_map List.set_cons_zero List.set_cons_succ Nat.reduceMul eq_self Int.toNat_natCast Int.natCast_nonneg and_self true_and and_true decide_true decide_false Bool.false_eq_true Nat.zero_add Nat.add_zero List.contains_cons List.contains_nil Bool.or_false Bool.false_or beq_self_eq_true Nat.reduceBEq ne_eq not_true_eq_false not_false_eq_true Id.mk.injEq false_and and_false Nat.reduceLT Int.reduceLE Int.reduceLT Int.reduceToNat Int.reduceNeg Int.reduceAdd Nat.le_refl List.length_append beq_true beq_false Bool.not_eq_eq_eq_not or_false false_or dM ai ao aD bt cz aY bj aV bf cL bJ
theorem Ki (k:Int):ak Tryz.prog 52 [.int .i64 k] (.bool (iw k 1 4)):=by
 refine ak.body eM rfl fun hl n0=>?_
 clear hl
 have h:=kP k 1 4
 (repeat(first|((repeat(revert hN;revert N;apply Pn.out));refine wk @Nat.zero_add ?_;(repeat(refine Pn.mk ?_;intro N hN)))|((try apply Or.inl);refine⟨_,ak.x (h) (sd @Nat.zero_add),?_⟩;refine hN _ _ ?_;clear hN N)))
 exact aZ (b:=iw k 1 4) (.inl rfl) (sd @Nat.zero_add) rfl
theorem fC {W W':World} {B:Nat} {T:TypeId} {v:Value} (h:Boxed W B T v) (hB:Below W.heap.size W W'):Boxed W' B T v:=(hB.block B h.lt).trans h
theorem uZ {P:Program} {W:World} {D:Nat->Prop} {L:List ah} {v:Value} (h:ja P W D (.sl (L.map ab)) v):ja P W D (.agg [.sl (L.map ab)]) (.agg #[v]):=.agg _ _ (fun _=>v) rfl (fun a ha=>by simp at ha;rw[ha];rfl) (fun j hj=>by match j,hj with|0,_=>rfl|j+1,hj=>simp at hj) (fun j a ha=>by match j,ha with|0,ha=>simp at ha;subst ha;exact h|j+1,ha=>simp at ha)
theorem GO (l:List ah) (hF:iv l) (k:Nat) (h1:1<=k) (h4:k<=4) (W:World) (vS:Value) (hA:ja Tryz.prog W (fun b=>b<W.heap.size) (.sl (l.map ab)) vS):Calls Tryz.prog 53 #[.agg #[vS],.int .i64 (k:Int)] W fun e W'=>∃vB,e=.returned (.agg #[vB])/\mm W' vB (dj l k)/\Below W.heap.size W W':=by
 refine(s6 mixed (vV l hF k h1 h4) (iy (vs:= #[.int .i64 (k:Int)]) (uZ hA) (iy (vs:= #[]) (.int _ _) kq))).mono ?_
 rintro e W' ⟨u,rfl,hr,hB⟩
 obtain⟨v0,f0,rfl,xI,_,Ik,Hd⟩:=gM hr
 have e0:v0= #[f0 0]:=by
  obtain⟨vl⟩:=v0
  have q0:=Ik 0 (by simp)
  match vl,xI with
  |[a],_=>simp at q0;rw[q0]
 subst e0
 refine⟨_,rfl,?_,hB⟩
 have h0:=Hd 0 _ rfl
 generalize f0 0=u at h0 ⊢
 unfold xK at h0
 split at h0
 ·rename_i hz
  have:dj l k=[]:=List.length_eq_zero_iff.1 hz
  rw[this]
  cases h0 with
  |eO _ _ h=>cases h;exact⟨none,0,rfl,⟨Nat.le_refl _,Nat.zero_le _⟩,.inl rfl⟩
 ·exact Ga (iW h0)
theorem OT (s:cj) (l:List ah) (k:Int) (hn:gy s.aC) (hm:rM s) (hl:l.length<=1048576) (w:World) (Ag At As A:Option Addr) (ng cg nt ct ns cs na ca:Nat)
  (hT:ja Tryz.prog w (fun b=>b<w.heap.size) (.agg (aA s)) (.agg #[.slice Ag ng cg,.slice At nt ct,.slice As ns cs,.int .i64 s.au])) (hA:ja Tryz.prog w (fun b=>b<w.heap.size) (.sl (l.map ab)) (.slice A na ca)):
  CallsIn Fence.wide 5 Tryz.prog 21 #[.agg #[.slice Ag ng cg,.slice At nt ct,.slice As ns cs,.int .i64 s.au],.agg #[.slice A na ca],.int .i64 k] w fun e W'=>∃v,e=.returned (.tuple #[v,.int .i64 (sW s ⟨l⟩ k).2])/\W'.ownsRow w.heap.size 103 3 v (sW s ⟨l⟩ k).1.length (Ii (sW s ⟨l⟩ k).1)/\(v=.slice none 0 0↔(sW s ⟨l⟩ k).1=[])/\Below w.heap.size w W':=by
 have Pr:∀W,Below w.heap.size w W->Calls Tryz.prog 51 #[.agg #[.slice Ag ng cg,.slice At nt ct,.slice As ns cs,.int .i64 s.au],.agg #[.slice A na ca]] W fun e W'=>e=.returned (.int .i64 (if rO s l then 0 else 1))/\Below W.heap.size W W':=fun W hW=>by
  have fr:∀{a v},ja Tryz.prog w (fun b=>b<w.heap.size) a v->ja Tryz.prog W (fun b=>b<W.heap.size) a v:=fun h=>h.frame (fun b hb=>hW.block b hb) (fun b hb=>Nat.lt_of_lt_of_le hb hW.size)
  refine(s6 mixed (Ac s l hn hm hl) (iy (vs:= #[.agg #[.slice A na ca]]) (fr hT) (iy (vs:= #[]) (uZ (fr hA)) kq))).mono ?_
  rintro e W' ⟨u,rfl,hr,hB⟩
  exact⟨by rw[dn hr],hB⟩
 have Sf:∀W,Calls Tryz.prog 52 #[.int .i64 k] W fun e W'=>e=.returned (.bool (iw k 1 4))/\Below W.heap.size W W':=fun W=>by
  refine(s6 mixed (Ki k) (iy (vs:= #[]) (.int _ _) kq)).mono ?_
  rintro e W' ⟨u,rfl,hr,hB⟩
  exact⟨by rw[fa hr],hB⟩
 cases hask:rO s l
 ·have hr:sW s ⟨l⟩ k=([],1):=by rw[sW,hask];rfl
  rw[hr]
  rw[hask]at Pr
  refine callsIn_of_wp_marks Tryz.func21 rfl trivial ?_ rfl
  simp only[Tryz.ntmps21,List.size_toArray,List.length_cons,List.length_nil,Nat.reduceAdd,Nat.reduceSub,Array.replicate_succ,Array.replicate_zero,List.push_toArray,List.append_toArray,List.nil_append,List.cons_append]
  gi_wp2_with (refine⟨trivial,?_⟩;gi_at_call 51;have oK:=(((Below.refl _ w).alloc (Nat.le_refl _) (.cells #[.slice Ag ng cg,.slice At nt ct,.slice As ns cs,.int .i64 s.au] 57)).alloc (by simp) (.cells #[.slice A na ca] 41)).alloc (by simp;omega) (.cells #[.int .i64 k] 2);refine(callsIn_wide.2 (Pr _ oK)).mono ?_;rintro e w1 ⟨rfl,qj⟩)
  exact⟨_,results_tmp2 rfl _ _ _,_,rfl,World.ownsRow_nil _ _ _ _,by simp,oK.trans (qj.mono oK.size)⟩
 cases xG:iw k 1 4
 ·have hr:sW s ⟨l⟩ k=([],2):=by rw[sW,hask,if_pos rfl,xG];rfl
  rw[hr]
  rw[hask]at Pr
  rw[xG]at Sf
  refine callsIn_of_wp_marks Tryz.func21 rfl trivial ?_ rfl
  simp only[Tryz.ntmps21,List.size_toArray,List.length_cons,List.length_nil,Nat.reduceAdd,Nat.reduceSub,Array.replicate_succ,Array.replicate_zero,List.push_toArray,List.append_toArray,List.nil_append,List.cons_append]
  gi_wp2_with (first|(refine⟨trivial,?_⟩;gi_at_call 51;have oK:=(((Below.refl _ w).alloc (Nat.le_refl _) (.cells #[.slice Ag ng cg,.slice At nt ct,.slice As ns cs,.int .i64 s.au] 57)).alloc (by simp) (.cells #[.slice A na ca] 41)).alloc (by simp;omega) (.cells #[.int .i64 k] 2);refine(callsIn_wide.2 (Pr _ oK)).mono ?_;rintro e w1 ⟨rfl,qj⟩;have bK:=fC (Boxed.new ((w.alloc (.cells #[.slice Ag ng cg,.slice At nt ct,.slice As ns cs,.int .i64 s.au] 57)).alloc (.cells #[.slice A na ca] 41)) 2 (.int .i64 k)) qj;have cK:=bK.cell;simp only[World.size_alloc]at cK)|(refine⟨trivial,?_⟩;gi_at_call 52;refine(callsIn_wide.2 (Sf _)).mono ?_;rintro e w2 ⟨rfl,mv⟩))
  exact⟨_,results_tmp2 rfl _ _ _,_,rfl,World.ownsRow_nil _ _ _ _,by simp,oK.trans ((qj.mono oK.size).trans (mv.mono (Nat.le_trans oK.size qj.size)))⟩
 have kb:=dX xG
 obtain⟨kn,rfl⟩:∃n:Nat,k=(n:Int):=⟨k.toNat,ae⟩
 have hr:sW s ⟨l⟩ kn=(LU s.aC l kn,0):=by rw[sW,hask,if_pos rfl,xG];rfl
 rw[hr]
 rw[hask]at Pr
 rw[xG]at Sf
 obtain⟨hSP,Vb⟩:=Bu.1 hask
 have hF:=hSP.set.form
 have Lk:∀W,Below w.heap.size w W->Calls Tryz.prog 53 #[.agg #[.slice A na ca],.int .i64 (kn:Int)] W fun e W'=>∃vB,e=.returned (.agg #[vB])/\mm W' vB (dj l kn)/\Below W.heap.size W W':=fun W hW=>GO l Vb.1 kn ae ae W _ (hA.frame (fun b hb=>hW.block b hb) (fun b hb=>Nat.lt_of_lt_of_le hb hW.size))
 refine callsIn_of_wp_marks Tryz.func21 rfl trivial ?_ rfl
 simp only[Tryz.ntmps21,List.size_toArray,List.length_cons,List.length_nil,Nat.reduceAdd,Nat.reduceSub,Array.replicate_succ,Array.replicate_zero,List.push_toArray,List.append_toArray,List.nil_append,List.cons_append]
 gi_wp2_with (first|(refine⟨trivial,?_⟩;gi_at_call 51;have oK:=(((Below.refl _ w).alloc (Nat.le_refl _) (.cells #[.slice Ag ng cg,.slice At nt ct,.slice As ns cs,.int .i64 s.au] 57)).alloc (by simp) (.cells #[.slice A na ca] 41)).alloc (by simp;omega) (.cells #[.int .i64 (kn:Int)] 2);refine(callsIn_wide.2 (Pr _ oK)).mono ?_;rintro e w1 ⟨rfl,qj⟩;have bK:=fC (Boxed.new ((w.alloc (.cells #[.slice Ag ng cg,.slice At nt ct,.slice As ns cs,.int .i64 s.au] 57)).alloc (.cells #[.slice A na ca] 41)) 2 (.int .i64 (kn:Int))) qj;have bA:=fC ((Boxed.new (w.alloc (.cells #[.slice Ag ng cg,.slice At nt ct,.slice As ns cs,.int .i64 s.au] 57)) 41 (.slice A na ca)).alloc (.cells #[.int .i64 (kn:Int)] 2)) qj;simp only[World.size_alloc]at bK bA;have cK:=bK.cell)|(refine⟨trivial,?_⟩;gi_at_call 52;refine(callsIn_wide.2 (Sf _)).mono ?_;rintro e w2 ⟨rfl,mv⟩;have UP:=fC bK mv;have UN:=fC bA mv;have cK2:=(UP.alloc (.cells #[.slice none 0 0] 53)).cell;have cA2:=(UN.alloc (.cells #[.slice none 0 0] 53)).cell;have Mj:=(oK.trans ((qj.mono oK.size).trans (mv.mono (Nat.le_trans oK.size qj.size)))).alloc (Nat.le_trans oK.size (Nat.le_trans qj.size mv.size)) (.cells #[.slice none 0 0] 53))|(refine⟨trivial,?_⟩;gi_at_call 53;refine(callsIn_wide.2 (Lk _ Mj)).mono ?_;rintro e w3 ⟨vB,rfl,hP3,mN⟩;obtain⟨AB,cB,rfl,Sx⟩:=hP3.sl)|(refine⟨trivial,?_⟩;gi_at_call 54;refine(sn _ _ _).mono ?_;rintro e w' ⟨rfl,rfl⟩))
 have Q7:=vU Vb.1 (k:=kn) ae ae
 have z0:(((w.alloc (.cells #[.slice Ag ng cg,.slice At nt ct,.slice As ns cs,.int .i64 s.au] 57)).alloc (.cells #[.slice A na ca] 41)).alloc (.cells #[.int .i64 (kn:Int)] 2)).heap.size=w.heap.size+3:=by simp
 have z1:=qj.size
 have z2:=mv.size
 have z3:=mN.size
 rw[z0]at z1
 rw[World.size_alloc]at z3
 have bS:w3.heap[w.heap.size]? =some (.cells #[.slice Ag ng cg,.slice At nt ct,.slice As ns cs,.int .i64 s.au] 57 (0,0)):=by
  refine(mN.block _ (by rw[World.size_alloc];omega)).trans ((Below.heap_alloc _ _ _ ae).trans ((mv.block _ ae).trans ((qj.block _ ae).trans ?_)))
  rw[Below.heap_alloc _ _ _ (by simp;omega),Below.heap_alloc _ _ _ (by simp)]
  exact World.alloc_heap_new _ _
 have Lg:=fC (UN.alloc (.cells #[.slice none 0 0] 53)) mN
 have Q1:=fC (UP.alloc (.cells #[.slice none 0 0] 53)) mN
 have bO3:=fC (Boxed.new w2 53 (.slice none 0 0)) mN
 have Sd:Below w.heap.size w w3:=Mj.trans (mN.mono Mj.size)
 have bB4:=Boxed.new w3 41 (.slice AB (dj l kn).length cB)
 have UQ:=Boxed.new (w3.alloc (.cells #[.slice AB (dj l kn).length cB] 41)) 41 (.slice AB (dj l kn).length cB)
 have bB5:=bB4.alloc (.cells #[.slice AB (dj l kn).length cB] 41)
 have bA5:=(Lg.alloc (.cells #[.slice AB (dj l kn).length cB] 41)).alloc (.cells #[.slice AB (dj l kn).length cB] 41)
 have bK5:=(Q1.alloc (.cells #[.slice AB (dj l kn).length cB] 41)).alloc (.cells #[.slice AB (dj l kn).length cB] 41)
 have UR:=(bO3.alloc (.cells #[.slice AB (dj l kn).length cB] 41)).alloc (.cells #[.slice AB (dj l kn).length cB] 41)
 have Ml:Below w3.heap.size w3 ((w3.alloc (.cells #[.slice AB (dj l kn).length cB] 41)).alloc (.cells #[.slice AB (dj l kn).length cB] 41)):=((Below.refl _ w3).alloc (Nat.le_refl _) _).alloc (by simp) _
 have bS5:=(Ml.block w.heap.size ae).trans bS
 have T8:=hP3.below Ml
 have Se:=Sd.trans (Ml.mono Sd.size)
 have z5:((w3.alloc (.cells #[.slice AB (dj l kn).length cB] 41)).alloc (.cells #[.slice AB (dj l kn).length cB] 41)).heap.size=w3.heap.size+2:=by simp
 simp only[World.size_alloc]at UQ
 obtain⟨W0,Sq⟩:∃W0,(w3.alloc (.cells #[.slice AB (dj l kn).length cB] 41)).alloc (.cells #[.slice AB (dj l kn).length cB] 41)=W0:=⟨_,rfl⟩
 rw[Sq]at bB5 bA5 bK5 UR UQ bS5 T8 Se z5 ⊢
 clear Sq Ml Lg Q1 bO3 bB4 bS hP3 mN Mj cA2 cK2 UN UP cK bA bK qj mv oK Sx Lk Sf Pr z0
 have z6:=And.intro (Nat.le_of_eq z5) (Nat.le_of_eq z5.symm)
 clear z5
 have kl:=Tj T8 UR
 have ke:=vM s.aC l kn (dj l kn).length
 have N1:(dj l kn).length<=4096:=by have:=Q7.zX;omega
 refine wpIn_rangeFunc_ownH (n:=5) rfl ae (gf:=106) (lb:= #[.pointer (some ⟨w3.heap.size+1,0,none⟩)]) rfl trivial (enters_of Tryz.func106 (by kernel_rfl) rfl)
  (CQ (dj l kn) Q7 (w3.heap.size+1) (5-1) ae (.slice AB (dj l kn).length cB) (iP W0.heap.size w2.heap.size) kl W0 UQ T8) iP.trans (iP.b (Nat.le_refl _)) (Below.refl _ _) (fun _=>rfl)
  (fun pre W=>((∃v,Boxed W w2.heap.size 53 v/\W.ownsRow W0.heap.size 103 3 v (BD s.aC l kn pre).length (Ii (BD s.aC l kn pre))/\(v=.slice none 0 0↔BD s.aC l kn pre=[]))/\(W.heap[w.heap.size]? =some (.cells #[.slice Ag ng cg,.slice At nt ct,.slice As ns cs,.int .i64 s.au] 57 (0,0))/\Boxed W (w.heap.size+1) 41 (.slice A na ca)/\Boxed W (w.heap.size+1+1) 2 (.int .i64 (kn:Int))/\Boxed W w3.heap.size 41 (.slice AB (dj l kn).length cB)/\mm W (.slice AB (dj l kn).length cB) (dj l kn)))/\Below w.heap.size w W)
  (fun _ _ _=>False)
  (OwnFrom.and (OwnFrom.and (Own.from (holdsRow_own W0.heap.size w2.heap.size 53 103 3 (fun pre=>(BD s.aC l kn pre).length) (fun pre=>Ii (BD s.aC l kn pre)) (fun pre v=>v=.slice none 0 0↔BD s.aC l kn pre=[])) _) (OwnFrom.and (Own.from (r4 _ _ _ _) _) (OwnFrom.and (Own.from (boxed_own _ _ _) _) (OwnFrom.and (Own.from (boxed_own _ _ _) _) (OwnFrom.and (Own.from (boxed_own _ _ _) _) (Own.from (Ko _ _) _)))))) (ownFrom_below (Nat.le_refl _) ae))
  (fun _ _ _ _ _ hs _ _=>hs)
  ⟨⟨⟨_,UR,World.ownsRow_nil _ _ _ _,by simp[BD]⟩,bS5,bA5,bK5,bB5,T8⟩,Se⟩
  (fun x a' W=>∃Bx,w2.heap.size<Bx/\W.heap[Bx]? =some (.cells #[.int .i64 (x.1.1:Int),.int .i64 (x.1.2.1:Int)] 110 (0,0))/\a'={tmps:=([.agg #[.slice Ag ng cg,.slice At nt ct,.slice As ns cs,.int .i64 s.au],.agg #[.slice A na ca],.int .i64 (kn:Int),.pointer (some ⟨w.heap.size,0,none⟩),.pointer (some ⟨w.heap.size+1,0,none⟩),.pointer (some ⟨w.heap.size+1+1,0,none⟩),.slice none 0 0,.int .i64 0,.pointer (some ⟨w2.heap.size,0,none⟩),.pointer (some ⟨w3.heap.size,0,none⟩),.pointer (some ⟨Bx,0,none⟩),.int .i64 x.1.2.2,undef,undef,undef,undef,undef,undef,.bool false,.agg #[.slice Ag ng cg,.slice At nt ct,.slice As ns cs,.int .i64 s.au],.agg #[.slice A na ca],.int .i64 0,.bool false,.bool false,.int .i64 (kn:Int),.bool true,.bool false,.agg #[.slice A na ca],.int .i64 (kn:Int),.agg #[.slice AB (dj l kn).length cB],.agg #[.slice AB (dj l kn).length cB],.func (.func 106) #[] #[.pointer (some ⟨w3.heap.size+1,0,none⟩)],.agg #[.int .i64 (x.1.1:Int),.int .i64 (x.1.2.1:Int)],.int .i64 x.1.2.2]++List.replicate 63 undef).toArray,defers:=[]})
  (fun x a' _ X Y row hs hg hr=>by obtain⟨Bx,h1,h2,h3⟩:=hs;exact⟨Bx,h1,r4 Bx _ _ _ () X Y row h2 hg (fun r e=>(hr r e).2),h3⟩)
  ?assign ?body ?done ?stop
 case assign=>
  rintro qq pre ⟨⟨x0,x1,x2⟩,hx⟩ W K ⟨⟨⟨v,hv,fh,lY⟩,Bc,bA1,bK1,bB1,hP1⟩,hB⟩ hK
  simp only[BU]
  gi_wp2
  have Lj:=(Below.refl _ W).alloc (Nat.le_refl _) (.cells #[.int .i64 (x0:Int),.int .i64 (x1:Int)] 110)
  exact hK _ _ ((KeepsOthers.alloc _ _).from _) (iP.of Lj) ⟨⟨⟨v,hv.alloc _,fh.alloc _,lY⟩,(Below.heap_alloc _ _ _ (Array.getElem?_eq_some_iff.1 Bc).1).trans Bc,bA1.alloc _,bK1.alloc _,bB1.alloc _,hP1.below Lj⟩,hB.alloc hB.size _⟩ ⟨W.heap.size,hv.lt,World.alloc_heap_new _ _,rfl⟩
 case body=>
  rintro qq pre ⟨⟨x0,x1,x2⟩,hx⟩ a' W hq hqr ⟨⟨⟨v,hv,fh,lY⟩,Bc,bA1,bK1,bB1,hP1⟩,hB⟩ ⟨Bx,hBx,bX,rfl⟩ dO
  obtain⟨y9,Om,Bj,Tc⟩:=id hx
  simp only at y9 Om Bj Tc bX ⊢
  have up:∀{a v},ja Tryz.prog w (fun b=>b<w.heap.size) a v->ja Tryz.prog W (fun b=>b<W.heap.size) a v:=fun h=>h.frame (fun b hb=>hB.block b hb) (fun b hb=>Nat.lt_of_lt_of_le hb hB.size)
  have iS:=up hT
  have iA:=up hA
  have iB:=hP1.eO (P:=Tryz.prog)
  have n1:(nI w.heap.size (w.heap.size+1) (w.heap.size+1+1) w3.heap.size Bx w2.heap.size (w3.heap.size+1)) ⟨1,0⟩=some ⟨w.heap.size,4,4,none⟩:=rfl
  have n2:(nI w.heap.size (w.heap.size+1) (w.heap.size+1+1) w3.heap.size Bx w2.heap.size (w3.heap.size+1)) ⟨2,0⟩=some ⟨w.heap.size+1,1,1,none⟩:=rfl
  have n3:(nI w.heap.size (w.heap.size+1) (w.heap.size+1+1) w3.heap.size Bx w2.heap.size (w3.heap.size+1)) ⟨3,0⟩=some ⟨w.heap.size+1+1,1,1,none⟩:=rfl
  have n4:(nI w.heap.size (w.heap.size+1) (w.heap.size+1+1) w3.heap.size Bx w2.heap.size (w3.heap.size+1)) ⟨4,0⟩=some ⟨w3.heap.size,1,1,none⟩:=rfl
  have n5:(nI w.heap.size (w.heap.size+1) (w.heap.size+1+1) w3.heap.size Bx w2.heap.size (w3.heap.size+1)) ⟨5,0⟩=some ⟨Bx,2,2,none⟩:=rfl
  have n6:(nI w.heap.size (w.heap.size+1) (w.heap.size+1+1) w3.heap.size Bx w2.heap.size (w3.heap.size+1)) ⟨6,0⟩=some ⟨w2.heap.size,1,1,none⟩:=rfl
  have n7:(nI w.heap.size (w.heap.size+1) (w.heap.size+1+1) w3.heap.size Bx w2.heap.size (w3.heap.size+1)) ⟨7,0⟩=some ⟨w3.heap.size+1,1,1,none⟩:=rfl
  generalize Bh:nI w.heap.size (w.heap.size+1) (w.heap.size+1+1) w3.heap.size Bx w2.heap.size (w3.heap.size+1)=nm at n1 n2 n3 n4 n5 n6 n7
  have rp:∀(id:Id) (B:sU),nm id=some B->B.k=none->cN Tryz.prog W (fun b=>b<W.heap.size) nm (.ptr id 0 0) (.pointer (some ⟨B.b,0,none⟩)):=fun id B h hk=>by
   have:=cN.ptr (P:=Tryz.prog) (w:=W) (D:=fun b=>b<W.heap.size) id 0 0 B h hk
   simpa using this
  have ri:∀n:Int,cN Tryz.prog W (fun b=>b<W.heap.size) nm (.int .i64 n) (.int .i64 n):=fun n=>.eO _ _ (.int _ _)
  have rb:∀b:Bool,cN Tryz.prog W (fun b=>b<W.heap.size) nm (.bool b) (.bool b):=fun n=>.eO _ _ (.bool _)
  have Wg:cN Tryz.prog W (fun b=>b<W.heap.size) nm (.agg (aA s)) (.agg #[.slice Ag ng cg,.slice At nt ct,.slice As ns cs,.int .i64 s.au]):=.eO _ _ iS
  have UB:cN Tryz.prog W (fun b=>b<W.heap.size) nm (.agg [.sl (l.map ab)]) (.agg #[.slice A na ca]):=.eO _ _ (uZ iA)
  have Wf:cN Tryz.prog W (fun b=>b<W.heap.size) nm (.agg [.sl ((dj l kn).map ab)]) (.agg #[.slice AB (dj l kn).length cB]):=.eO _ _ (uZ iB)
  have iF:cN Tryz.prog W (fun b=>b<W.heap.size) nm (.fn 106 [.ptr ⟨7,0⟩ 0 0]) (.func (.func 106) #[] #[.pointer (some ⟨w3.heap.size+1,0,none⟩)]):=.fn _ _ _ (fun _=>.pointer (some ⟨w3.heap.size+1,0,none⟩)) (by kernel_rfl) rfl (fun j hj=>by match j,hj with|0,_=>rfl|j+1,hj=>simp at hj) (fun j a ha=>by match j,ha with|0,ha=>simp at ha;subst ha;exact rp _ _ n7 rfl|j+1,ha=>simp at ha)
  have iX:cN Tryz.prog W (fun b=>b<W.heap.size) nm (.agg [.int .i64 (x0:Int),.int .i64 (x1:Int)]) (.agg #[.int .i64 (x0:Int),.int .i64 (x1:Int)]):=.agg _ _ (fun j=>if j=0 then .int .i64 (x0:Int)else .int .i64 (x1:Int)) rfl (fun a ha=>by simp at ha;rcases ha with rfl|rfl<;>rfl) (fun j hj=>by match j,hj with|0,_=>rfl|1,_=>rfl|j+2,hj=>simp at hj;omega) (fun j a ha=>by match j,ha with|0,ha=>simp at ha;subst ha;exact ri _|1,ha=>simp at ha;subst ha;exact ri _|j+2,ha=>simp at ha)
  have Vq:fc Tryz.prog W (fun b=>b<W.heap.size) nm [.agg (aA s),.agg [.sl (l.map ab)],.int .i64 (kn:Int),.ptr ⟨1,0⟩ 0 0,.ptr ⟨2,0⟩ 0 0,.ptr ⟨3,0⟩ 0 0,.ck,.int .i64 0,.ptr ⟨6,0⟩ 0 0,.ptr ⟨4,0⟩ 0 0,.ptr ⟨5,0⟩ 0 0,.int .i64 x2,.undef,.undef,.undef,.undef,.undef,.undef,.bool false,.agg (aA s),.agg [.sl (l.map ab)],.int .i64 0,.bool false,.bool false,.int .i64 (kn:Int),.bool true,.bool false,.agg [.sl (l.map ab)],.int .i64 (kn:Int),.agg [.sl ((dj l kn).map ab)],.agg [.sl ((dj l kn).map ab)],.fn 106 [.ptr ⟨7,0⟩ 0 0],.agg [.int .i64 (x0:Int),.int .i64 (x1:Int)],.int .i64 x2] ([.agg #[.slice Ag ng cg,.slice At nt ct,.slice As ns cs,.int .i64 s.au],.agg #[.slice A na ca],.int .i64 (kn:Int),.pointer (some ⟨w.heap.size,0,none⟩),.pointer (some ⟨w.heap.size+1,0,none⟩),.pointer (some ⟨w.heap.size+1+1,0,none⟩),.slice none 0 0,.int .i64 0,.pointer (some ⟨w2.heap.size,0,none⟩),.pointer (some ⟨w3.heap.size,0,none⟩),.pointer (some ⟨Bx,0,none⟩),.int .i64 x2,undef,undef,undef,undef,undef,undef,.bool false,.agg #[.slice Ag ng cg,.slice At nt ct,.slice As ns cs,.int .i64 s.au],.agg #[.slice A na ca],.int .i64 0,.bool false,.bool false,.int .i64 (kn:Int),.bool true,.bool false,.agg #[.slice A na ca],.int .i64 (kn:Int),.agg #[.slice AB (dj l kn).length cB],.agg #[.slice AB (dj l kn).length cB],.func (.func 106) #[] #[.pointer (some ⟨w3.heap.size+1,0,none⟩)],.agg #[.int .i64 (x0:Int),.int .i64 (x1:Int)],.int .i64 x2]:List Value).toArray:=dP (Wg) (dP (UB) (dP (ri _) (dP (rp _ _ n1 rfl) (dP (rp _ _ n2 rfl) (dP (rp _ _ n3 rfl) (dP (.eO _ _ .ck) (dP (ri _) (dP (rp _ _ n6 rfl) (dP (rp _ _ n4 rfl) (dP (rp _ _ n5 rfl) (dP (ri _) (dP (cN.undef) (dP (cN.undef) (dP (cN.undef) (dP (cN.undef) (dP (cN.undef) (dP (cN.undef) (dP (rb _) (dP (Wg) (dP (UB) (dP (ri _) (dP (rb _) (dP (rb _) (dP (ri _) (dP (rb _) (dP (rb _) (dP (UB) (dP (ri _) (dP (Wf) (dP (Wf) (dP (iF) (dP (iX) (dP (ri _) (Qo))))))))))))))))))))))))))))))))))
  rw[<-Bh]at Vq
  have dR:=RM (avs:=[.agg (aA s),.agg [.sl (l.map ab)],.int .i64 (kn:Int),.ptr ⟨1,0⟩ 0 0,.ptr ⟨2,0⟩ 0 0,.ptr ⟨3,0⟩ 0 0,.ck,.int .i64 0,.ptr ⟨6,0⟩ 0 0,.ptr ⟨4,0⟩ 0 0,.ptr ⟨5,0⟩ 0 0,.int .i64 x2,.undef,.undef,.undef,.undef,.undef,.undef,.bool false,.agg (aA s),.agg [.sl (l.map ab)],.int .i64 0,.bool false,.bool false,.int .i64 (kn:Int),.bool true,.bool false,.agg [.sl (l.map ab)],.int .i64 (kn:Int),.agg [.sl ((dj l kn).map ab)],.agg [.sl ((dj l kn).map ab)],.fn 106 [.ptr ⟨7,0⟩ 0 0],.agg [.int .i64 (x0:Int),.int .i64 (x1:Int)],.int .i64 x2]) Bc bA1 bK1 bB1 bX iS iA iB Vq (m:=63) rfl
  refine wpIn_block (Qz mixed (hs:=W.heap.size) (l3:=[(15,20,18)]) (md:=[]) (nt:=97) (fid:=21) (va:=.eS false [⟨some 12,.du (.k (.int .i64 0)),none,21010000,[]⟩]) (vb:=OR) (by kernel_rfl) (by kernel_rfl) (by kernel_rfl) (by kernel_rfl) (Qv:=fun e _=>e 8=.ptr ⟨6,0⟩ 0 0/\e 10=.ptr ⟨5,0⟩ 0 0/\e 12=.int .i64 (gq s.aC l (bq (dj l kn) x0).bw x2 kn kn:Nat)) ?_ dR ?_)
  ·refine LY ⟨rfl,kQ (fun _ _ _ _ h=>gG mixed h) ly _ _ _ _ _ (fun x e s h=>⟨h.1,h.2⟩) (LX s l hF Vb kn ae ae x0 x1 x2 y9 ae Tc _ _ _ rfl rfl rfl rfl rfl rfl rfl rfl rfl rfl rfl rfl rfl)⟩
  rintro e1 σ1 ⟨tm,df⟩ w4 D1 ι1 ⟨h8,h10,h12⟩ T1 Gx Cb
  subst Bh
  have mN:Below W.heap.size W w4:=T1.below
  have Bh:∀id B,nI w.heap.size (w.heap.size+1) (w.heap.size+1+1) w3.heap.size Bx w2.heap.size (w3.heap.size+1) id=some B->ι1 id=some B:=T1.names
  have p8:tm.getD 8 undef=.pointer (some ⟨w2.heap.size,0,none⟩):=by
   have g:=Gx.env 8
   rw[h8]at g
   obtain⟨B,e,dG,_⟩:=ji g
   have h:=Bh _ _ n6
   rw[h]at dG;injection dG with dG;subst dG
   simpa using e
  have p10:tm.getD 10 undef=.pointer (some ⟨Bx,0,none⟩):=by
   have g:=Gx.env 10
   rw[h10]at g
   obtain⟨B,e,dG,_⟩:=ji g
   have h:=Bh _ _ n5
   rw[h]at dG;injection dG with dG;subst dG
   simpa using e
  have hle:=pk s.aC l (bq (dj l kn) x0).bw x2 kn kn
  have Og:=IT s.aC l kn pre ⟨(x0,x1,x2),hx⟩
  simp only[BE]at Og
  generalize gq s.aC l (bq (dj l kn) x0).bw x2 kn kn=mu at h12 hle Og
  have p12:tm.getD 12 undef=.int .i64 (mu:Int):=by
   have g:=Gx.env 12
   rw[h12]at g
   exact dn g
  have fy:=Gx.size
  obtain⟨tl⟩:=tm
  obtain⟨f,Oh,hf⟩:∃f:Nat->Value,tl=[f 0,f 1,f 2,f 3,f 4,f 5,f 6,f 7,f 8,f 9,f 10,f 11,f 12,f 13,f 14,f 15,f 16,f 17,f 18,f 19,f 20,f 21,f 22,f 23,f 24,f 25,f 26,f 27,f 28,f 29,f 30,f 31,f 32,f 33,f 34,f 35,f 36,f 37,f 38,f 39,f 40,f 41,f 42,f 43,f 44,f 45,f 46,f 47,f 48,f 49,f 50,f 51,f 52,f 53,f 54,f 55,f 56,f 57,f 58,f 59,f 60,f 61,f 62,f 63,f 64,f 65,f 66,f 67,f 68,f 69,f 70,f 71,f 72,f 73,f 74,f 75,f 76,f 77,f 78,f 79,f 80,f 81,f 82,f 83,f 84,f 85,f 86,f 87,f 88,f 89,f 90,f 91,f 92,f 93,f 94,f 95,f 96]/\∀i,f i=(⟨tl⟩:Array Value).getD i undef:=by
   refine⟨fun i=>(⟨tl⟩:Array Value).getD i undef,?_,fun _=>rfl⟩
   have h:=CE tl undef
   rw[show tl.length=97 from fy]at h
   exact h
  rw[<-hf]at p8 p10 p12
  have PE:df=[]:=Cb
  subst PE
  clear hf Gx dR Vq Wg UB Wf iF iX iS iA iB rp ri rb n1 n2 n3 n4 n5 n6 n7 Bh up
  subst Oh
  rw[p8,p10,p12]
  obtain⟨rr,hrr⟩:=hqr
  have hWq:=(Array.getElem?_eq_some_iff.1 hrr).1
  have MD:=hv.kept (grown_of mN) (by simp)
  have sa:=fh.kept (grown_of mN) (by rcases fh.2 with⟨e,_⟩|⟨_,_,_,e,_⟩<;>rw[e]<;>simp[Value.ownBlock])
  have PY:=nV (n:=w.heap.size) ae sa
  have hc3:=MD.cell
  have VT:w.heap.size<=w4.heap.size:=Nat.le_trans hB.size mN.size
  have hz4:=mN.size
  have eX0:w4.cell? ⟨Bx,0,none⟩=some (.int .i64 (x0:Int)):=(mN.cell (p:=⟨Bx,0,none⟩) (Array.getElem?_eq_some_iff.1 bX).1).trans (by simp[World.cell?,bX])
  have eX1:w4.cell? ⟨Bx,1,none⟩=some (.int .i64 (x1:Int)):=(mN.cell (p:=⟨Bx,1,none⟩) (Array.getElem?_eq_some_iff.1 bX).1).trans (by simp[World.cell?,bX])
  have nk:(BD s.aC l kn pre).length<=2097152:=by
   have h1:=LR s.aC l kn pre
   have h2:=wS (dj l kn) (dj l kn).length
   omega
  have Sk:KeepsFrom W0.heap.size W w4:=⟨mN.size,fun k o _ hk _=>(mN.block k (Array.getElem?_eq_some_iff.1 hk).1).trans hk⟩
  have Q8:iP W0.heap.size w2.heap.size W w4:=iP.of mN
  have Lg:=fC bA1 mN
  have Q1:=fC bK1 mN
  have UO:=fC bB1 mN
  have US:=(mN.block _ (Array.getElem?_eq_some_iff.1 Bc).1).trans Bc
  obtain⟨i0,hi,xI,sS,k7⟩:=info_parts Cq
  clear Tc
  by_cases je:0<mu
  ·rw[if_pos je]at Og
   have Uv:(0:Int)<(mu:Int):=ae
   gi_wp2_with (gi_at_builtin;refine wpListIn_append_own _ rfl _ _ 53 rfl W0.heap.size 103 i0 (.agg #[.int .i64 0,.int .i64 0,.int .i64 0]) 3 24 (by kernel_rfl) hi xI sS k7 rfl (by decide) _ _ _ rfl (sa.alloc _) ⟨w4.heap.size,0,none⟩ 1 1 [.int .i64 (x0:Int),.int .i64 (x1:Int),.int .i64 (mu:Int)] rfl rfl (o6 _ _ _ _ _) (by simp[Value.oneCell']) (by unfold maxLen;omega) ae (by simp;omega) ?_;intro v' w5 wC r6 _;obtain⟨g',RT,rfl⟩:=ownsRow_succ wC;obtain⟨uf,JO,Ip,uK,Su⟩:=MD.appended (by decide) PY VT ae (nV (n:=w.heap.size) ae wC) r6;have Ce:=iP.app MD sa r6 Su;have hrM:=wC.kept (grownBy_setCell' w5 w2.heap.size (.slice (some ⟨g',0,none⟩) ((BD s.aC l kn pre).length+1) RT)) (.inr (uf.not_row (by decide) wC).symm);have qk:=uf.cell;have N2:=uf.frozen)
   exact⟨Sk.trans (uK.from _),Q8.trans Ce,⟨⟨_,JO,by rw[Og,By,List.length_append];exact hrM,by rw[Og];simp⟩,(Ce.2.1 _ _ _ _ US (by decide) (by decide)).trans US,(Ce.2.1 _ _ _ _ Lg (by decide) (by decide)).trans Lg,(Ce.2.1 _ _ _ _ Q1 (by decide) (by decide)).trans Q1,(Ce.2.1 _ _ _ _ UO (by decide) (by decide)).trans UO,kl.pl (Q8.trans Ce) hP1⟩,hB.trans ((mN.mono hB.size).trans Su)⟩
  ·rw[if_neg je,List.append_nil]at Og
   have SU:mu=0:=ae
   subst SU
   gi_wp2
   exact⟨Sk,Q8,⟨⟨v,MD,by rw[Og];exact sa,by rw[Og];exact lY⟩,US,Lg,Q1,UO,hP1.below mN⟩,hB.trans (mN.mono hB.size)⟩
 case done=>
  rintro D ys W hD Dv ⟨⟨⟨v,hv,fh,lY⟩,_⟩,hB⟩ hK
  have hc:=hv.cell
  have Ij:BD s.aC l kn ys=LU s.aC l kn:=by rw[RL,<-Dv];rfl
  rw[Ij]at fh lY
  gi_wp2
  refine⟨by simp,.inl ⟨_,_,rfl,run_takeDeferred hK,?_⟩⟩
  exact⟨_,results_tmp2 rfl _ _ _,v,rfl,ownsRow_putObj (nV (n:=w.heap.size) ae fh) _ hK rfl,lY,hB.trans (belowK_b (w:=w) (Nat.le_refl _) W D _ _ ae hK rfl rfl)⟩
 case stop=>
  rintro D c pre W _ _ h _
  exact h.elim
end Go.Proofs.YtkbipfflibjfbaaGreat.V

namespace Go.Proofs.YtkbipfflibjfbaaGreat.V
open Go.RowKit Go.Shelf
theorem rG (s:cj) (a:dD) (k:Int) (hn:gy s.aC) (hm:rM s) (hl:a.aj.length<=1048576) (n:Nat):
  Call Tryz.prog 21 [.agg (aA s),.agg (aP a),.int .i64 k] ⟨fun _=>none,n⟩ (fun r σ'=>∃ids,(∃v0 i0,r=.iJ [v0,.int .i64 (sW s a k).2]/\oC σ'.get v0 ((sW s a k).1.map pbP) i0/\ids=i0)/\e8 n σ'.next ids):=by
 obtain⟨l⟩:=a
 rw[aP]
 try dsimp only
 try dsimp only at hl
 refine gF ?_
 intro hs D ι w vs S U A
 obtain⟨u0,P6,r0⟩:=A.2 0 _ rfl
 obtain⟨u1,Oi,r1⟩:=A.2 1 _ rfl
 obtain⟨u2,Rs,r2⟩:=A.2 2 _ rfl
 rw[dn r2]at Rs
 have dO:∀b,D b->b<w.heap.size:=S.dead
 obtain⟨v0,f0,rfl,xI,_,Ik,Hd⟩:=gM r0
 obtain⟨v1,f1,rfl,sS,_,N2,He⟩:=gM r1
 have g0:=iW (Hd 0 _ rfl)
 have g1:=iW (Hd 1 _ rfl)
 have g2:=iW (Hd 2 _ rfl)
 have g3:=dn (Hd 3 _ rfl)
 have a0:=iW (He 0 _ rfl)
 obtain⟨Ag,ng,cg,eg⟩:=jg g0
 obtain⟨At,nt,ct,et⟩:=jg g1
 obtain⟨As,ns,cs,es⟩:=jg g2
 obtain⟨Aa,na,ca,ea⟩:=jg a0
 have e0:v0= #[.slice Ag ng cg,.slice At nt ct,.slice As ns cs,.int .i64 s.au]:=by
  obtain⟨vl⟩:=v0
  have q0:=Ik 0 (by simp[aA])
  have q1:=Ik 1 (by simp[aA])
  have q2:=Ik 2 (by simp[aA])
  have q3:=Ik 3 (by simp[aA])
  rw[eg]at q0;rw[et]at q1;rw[es]at q2;rw[g3]at q3
  match vl,xI with
  |[x0,x1,x2,x3],_=>simp at q0 q1 q2 q3;rw[q0,q1,q2,q3]
 have e1:v1= #[.slice Aa na ca]:=by
  obtain⟨vl⟩:=v1
  have q0:=N2 0 (by simp)
  rw[ea]at q0
  match vl,sS with
  |[x0],_=>simp at q0;rw[q0]
 subst e0 e1
 have UZ:vs= #[.agg #[.slice Ag ng cg,.slice At nt ct,.slice As ns cs,.int .i64 s.au],.agg #[.slice Aa na ca],.int .i64 k]:=by
  obtain⟨vl⟩:=vs
  have hz:=A.1
  match vl,hz with
  |[x0,x1,x2],_=>simp at P6 Oi Rs;rw[P6,Oi,Rs]
 subst UZ
 have up:∀{a v},ja Tryz.prog w D a v->ja Tryz.prog w (fun b=>b<w.heap.size) a v:=fun h=>h.frame (fun _ _=>rfl) dO
 have hT:ja Tryz.prog w (fun b=>b<w.heap.size) (.agg (aA s)) (.agg #[.slice Ag ng cg,.slice At nt ct,.slice As ns cs,.int .i64 s.au]):=
  .agg _ _ f0 xI (fun a ha=>by simp[aA]at ha;rcases ha with rfl|rfl|rfl|rfl<;>rfl) Ik (fun j a ha=>by
   match j,ha with
   |0,ha=>simp[aA]at ha;subst ha;exact up g0
   |1,ha=>simp[aA]at ha;subst ha;exact up g1
   |2,ha=>simp[aA]at ha;subst ha;exact up g2
   |3,ha=>simp[aA]at ha;subst ha;rw[g3];exact .int _ _
   |j+4,ha=>simp[aA]at ha)
 rw[ea]at a0
 refine(callsIn_wide.1 (OT s l k hn hm hl w Ag At As Aa ng cg nt ct ns cs na ca hT (up a0))).mono ?_
 rintro e W' ⟨v,rfl,⟨hlen,hown⟩,lY,hB⟩
 generalize (sW s ⟨l⟩ k).2=code
 generalize hL:(sW s ⟨l⟩ k).1=L at hlen hown lY ⊢
 have S':gK Tryz.prog hs D ι (fun _=>none) W':=S.stay (fun b hb=>hB.block b hb) hB.size (fun _ h=>h) (fun b hb=>Nat.lt_of_lt_of_le (dO b hb) hB.size) (fun _ h=>.inl h) (fun _ _ h=>h)
 have T:Step hs D ι w D ι W':=Step.stay S (fun b hb=>hB.block b hb) hB.size hB.os hB.tape hB.output (fun _ h=>h) (fun _ h=>.inl h) (fun _ _ h=>h)
 rcases hown with⟨rfl,h0⟩|⟨gb,cap,cur,rfl,PI,hblk,hle,Em,dy,oA⟩
 ·have Mo:L=[]:=lY.1 rfl
  subst Mo
  exact⟨.iJ [.ck,.int .i64 code],_,n,D,ι,_,rfl,⟨[],⟨.ck,[],rfl,.inl ⟨rfl,rfl,rfl⟩,rfl⟩,by simp[e8]⟩,T,S',U,Nat.le_refl _,xc (.eO _ _ .ck) (.eO _ _ (.int _ _))⟩
 ·have Mo:L≠[]:=fun h=>by have:=lY.2 h;cases this
  have kR:ι ⟨0,n⟩=none:=fresh U (fun h=>h)
  have hR:iR Tryz.prog W' D (kX ι ⟨0,n⟩ ⟨gb,3,cap*3,none⟩) ⟨gb,3,cap*3,none⟩ ⟨true,3,L.map ay⟩:=by
   refine lx.obj ⟨rfl,⟨cur,_,hblk,dy⟩,?_,fun cs hc=>?_,fun cs hc a ha=>?_,fun i j cs a hi hj=>?_⟩ rfl
   ·simp only[List.length_map];exact Nat.mul_le_mul_right 3 hle
   ·obtain⟨b,_,rfl⟩:=List.mem_map.1 hc;rfl
   ·obtain⟨b,_,rfl⟩:=List.mem_map.1 hc
    simp[ay]at ha
    rcases ha with rfl|rfl|rfl<;>rfl
   ·rw[List.getElem?_map]at hi
    simp only[Option.map_eq_some_iff]at hi
    obtain⟨b,hb,rfl⟩:=hi
    have VI:j<3:=by have:=(List.getElem?_eq_some_iff.1 hj).1;simpa[ay]using this
    have nj:=(List.getElem?_eq_some_iff.1 hb).1
    have hg:=zM hb VI
    rw[<-oA,List.getElem?_take,if_pos ae]at hg
    have key:∀x:Value,([.int .i64 b.a,.int .i64 b.b,.int .i64 b.s]:List Value)[j]? =some x->W'.cell? ⟨gb,i*3+j,none⟩=some x:=fun x hx=>by
     rw[hx]at hg
     have e:W'.cell? ⟨gb,i*3+j,none⟩=cur[i*3+j]? :=by
      unfold World.cell?
      rw[show W'.heap[(⟨gb,i*3+j,none⟩:Addr).block]? = _ from hblk]
      rfl
     rw[e,<-Array.getElem?_toList];exact hg
    match j,hj with
    |0,hj=>simp[ay]at hj;subst hj;exact⟨_,key _ rfl,.eO _ _ (.int _ _)⟩
    |1,hj=>simp[ay]at hj;subst hj;exact⟨_,key _ rfl,.eO _ _ (.int _ _)⟩
    |2,hj=>simp[ay]at hj;subst hj;exact⟨_,key _ rfl,.eO _ _ (.int _ _)⟩
    |j+3,hj=>simp[ay]at hj
  have S2:=gK.add (r:=⟨true,3,L.map ay⟩) S S' kR PI hR
  have je:0<L.length:=List.length_pos_iff.2 Mo
  refine⟨.iJ [.own ⟨0,n⟩ 0 L.length,.int .i64 code],bU (fun _=>none) ⟨0,n⟩ ⟨true,3,L.map ay⟩,n+1,D,kX ι ⟨0,n⟩ ⟨gb,3,cap*3,none⟩,_,rfl,⟨[⟨0,n⟩],⟨.own ⟨0,n⟩ 0 L.length,[⟨0,n⟩],rfl,.inr ⟨⟨0,n⟩,by simp,?_,rfl,by simpa using je⟩,rfl⟩,by simp[e8]⟩,T.trans (Step.stay S' (fun _ _=>rfl) (Nat.le_refl _) rfl rfl rfl (fun _ h=>h) (fun _ h=>.inl h) (ga kR)),S2,U.upd.next,Nat.le_succ _,xc (.own _ _ _ _ _ _ (eL _ _ _) rfl hle (.inr (by simp)) (by simp) Em) (.eO _ _ (.int _ _))⟩
  simp[bU,List.map_map]
  intro b _
  rfl
end Go.Proofs.YtkbipfflibjfbaaGreat.V

namespace Go.Proofs.YtkbipfflibjfbaaGreat
open Go.ChangeShapes Go.WideShapes Go.ChangeAt Go.RowKit Go.Deep
section
variable {H:Type} {enc:TypeId×Value->H} {P:Program} {w:World}
theorem nF.To {α:Type} {rep:World->List Nat->List Value->α->Prop} {sz:Nat} {w:World} {b o len cap:Nat} (o9:Nat->List Value) (fs:Nat->List Nat) (ds:Nat->α) (hc:len<=cap) (hm:cap<=maxLen)
  (hl:∀i,i<len->(o9 i).length=sz) (hr:∀i,i<len->rep w (fs i) (o9 i) (ds i)) (Lm:∀i,i<len->∀j u,(o9 i)[j]? =some u->w.cell? ⟨b,o+(i*sz+j),none⟩=some u):
  nF rep sz w ([b]++((List.range len).map fs).flatten) (.slice (some ⟨b,o,none⟩) len cap) ((List.range len).map ds):=by
 refine⟨(List.range len).map o9,(List.range len).map fs,[b],rfl,⟨some ⟨b,o,none⟩,cap,by simp,by simpa using hc,hm,.inr ⟨b,o,rfl,rfl,fun j u hj=>?_⟩⟩,by simp,by simp,fun i cs f d h1 h2 h3=>?_⟩
 ·have hlen:∀cs∈(List.range len).map o9,cs.length=sz:=fun cs dy=>by
   obtain⟨i,hi,rfl⟩:=List.mem_map.1 dy
   exact hl i (List.mem_range.1 hi)
  have gW:=(List.getElem?_eq_some_iff.1 hj).1
  have Ms:((List.range len).map o9).flatten.length=len*sz:=by
   rw[List.length_flatten,List.map_map]
   have:∀(l:List Nat),(∀i∈l,i<len)->(l.map (List.length∘o9)).sum=l.length*sz:=by
    intro l
    induction l with
    |nil=>intro _;simp
    |cons a l ih=>intro h;rw[List.map_cons,List.sum_cons,ih fun i hi=>h i (List.mem_cons_of_mem _ hi)];simp only[Function.comp,hl a (h a (by simp)),List.length_cons,Nat.add_mul];omega
   rw[this _ fun i hi=>List.mem_range.1 hi,List.length_range]
  rw[Ms]at gW
  have Oe:0<sz:=by
   rcases Nat.eq_zero_or_pos sz with h|h
   ·subst h;simp at gW
   ·exact h
  have hi:j / sz<len:=(Nat.div_lt_iff_lt_mul Oe).2 gW
  have ud:j % sz<sz:=Nat.mod_lt _ Oe
  have Mv:j=(j / sz)*sz+j % sz:=by rw[Nat.mul_comm];exact(Nat.div_add_mod j sz).symm
  rw[Mv,tY hlen (i:=j / sz) (cs:=o9 (j / sz)) (by simp[hi]) ud]at hj
  rw[Mv]
  have:=Lm (j / sz) hi (j % sz) u hj
  rw[<-Mv]at this ⊢
  exact this
 ·have hi:i<len:=by
   have:=(List.getElem?_eq_some_iff.1 h1).1
   simpa using this
  simp[hi]at h1 h2 h3
  subst h1 h2 h3
  exact⟨hr i hi,hl i hi⟩
theorem kU (b o k:Nat):(⟨b,o,none⟩:Addr).add k=⟨b,o+k,none⟩:=by
 unfold Addr.add;split
 ·rename_i h;subst h;rfl
 ·rfl
theorem qe {α:Type} {rep:World->List Nat->List Value->α->Prop} {Q:α->Prop} {t e:TypeId} {sz fuel:Nat} {cs:List Value} {x:DataW H×List MemPlace} (ht:P.underlying t=some (.slice e)) (hC:P.cellsOf e=sz) (Oe:0<sz)
  (h:DataW.trod enc P w 0 (fun _=>true) true fuel t cs=some x) (hel:∀n mM y,mM.length=sz->DataW.trod enc P w 0 (fun _=>true) true n e mM=some y->∃f d,fX f 0 w.heap.size/\rep w f mM d/\Q d):
  ∃A n c f xs,cs=[.slice A n c]/\fX f 0 w.heap.size/\nF rep sz w f (.slice A n c) xs/\∀d∈xs,Q d:=by
 rcases open_slice ht h with⟨rfl,_⟩|⟨a,len,cap,m,n,D,Pl,rfl,_,hl,hm,Bg,_,hi⟩
 ·exact⟨none,0,0,[],[],rfl,fX.nil _ _,nF.nil _ _ _,fun d h=>by cases h⟩
 rw[hC]at hi
 simp only[if_true]at Bg
 by_cases h0:len=0
 ·subst h0
  exact⟨some a,0,cap,[],[],rfl,fX.nil _ _,⟨[],[],[],rfl,⟨some a,cap,rfl,Nat.zero_le _,hm,.inl ⟨rfl,rfl⟩⟩,rfl,rfl,fun i cs f d hc=>by simp at hc⟩,fun d h=>by cases h⟩
 obtain⟨b,o,sp⟩:=a
 have cell0:∃v,w.cell? ⟨b,o,sp⟩=some v:=by
  obtain⟨mM,hc,_⟩:=hi 0 (by omega)
  obtain⟨_,mc,Lm⟩:=World.cells?_some hc
  refine⟨mM[0]'(by omega),?_⟩
  have:=Lm 0 Oe
  rw[List.getElem?_eq_getElem (by omega)]at this
  simpa[Addr.add]using this
 obtain⟨v0,rh⟩:=cell0
 have hb:b<w.heap.size:=World.block_lt_of_cell? w _ rh
 have P0:sp=none:=by
  unfold World.cell? at rh
  split at rh
  ·split at rh
   ·cases rh
   ·rename_i h;simpa using h
  ·cases rh
 subst P0
 have key:∀i,i<len->∃mM f d,mM.length=sz/\fX f 0 w.heap.size/\rep w f mM d/\Q d/\∀j u,mM[j]? =some u->w.cell? ⟨b,o+(i*sz+j),none⟩=some u:=fun i nj=>by
  obtain⟨mM,hc,htr⟩:=hi i (by omega)
  obtain⟨_,mc,Lm⟩:=World.cells?_some hc
  obtain⟨f,d,h1,h2,h3⟩:=hel n mM _ mc htr
  refine⟨mM,f,d,mc,h1,h2,h3,fun j u hj=>?_⟩
  have gW:=(List.getElem?_eq_some_iff.1 hj).1
  have:=Lm j (by omega)
  rw[hj]at this
  rw[<-this,Go.Deep.add_add,kU]
 have:Nonempty α:=by
  obtain⟨_,_,d,_⟩:=key 0 (by omega)
  exact⟨d⟩
 let cf:Nat->List Value:=fun i=>if hi:i<len then(key i hi).choose else[]
 let ff:Nat->List Nat:=fun i=>if hi:i<len then(key i hi).choose_spec.choose else[]
 let df:Nat->α:=fun i=>if hi:i<len then(key i hi).choose_spec.choose_spec.choose else Classical.choice this
 have dz:∀i,i<len->(cf i).length=sz/\fX (ff i) 0 w.heap.size/\rep w (ff i) (cf i) (df i)/\Q (df i)/\∀j u,(cf i)[j]? =some u->w.cell? ⟨b,o+(i*sz+j),none⟩=some u:=fun i hi=>by
  have:=(key i hi).choose_spec.choose_spec.choose_spec
  simp only[cf,ff,df,dif_pos hi]
  exact this
 refine⟨some ⟨b,o,none⟩,len,cap,_,(List.range len).map df,rfl,?_,nF.To cf ff df hl hm (fun i hi=>(dz i hi).1) (fun i hi=>(dz i hi).2.2.1) (fun i hi=>(dz i hi).2.2.2.2),fun d hd=>?_⟩
 ·intro x hx
  rcases List.mem_append.1 hx with hx|hx
  ·simp at hx;subst hx;exact⟨Nat.zero_le _,hb⟩
  ·obtain⟨l,Cf,On⟩:=List.mem_flatten.1 hx
   obtain⟨i,hi,rfl⟩:=List.mem_map.1 Cf
   exact(dz i (List.mem_range.1 hi)).2.1 x On
 ·obtain⟨i,hi,rfl⟩:=List.mem_map.1 hd
  exact(dz i (List.mem_range.1 hi)).2.2.2.1
end
section
variable {H:Type} {enc:TypeId×Value->H} {w:World} {fuel:Nat} {cs:List Value} {x:DataW H×List MemPlace}
abbrev TT (enc:TypeId×Value->H) (w:World) (fuel t:Nat) (cs:List Value) (x:DataW H×List MemPlace):Prop:=DataW.trod enc Tryz.prog w 0 (fun _=>true) true fuel t cs=some x
theorem Qg (h:TT enc w fuel 114 cs x):∃A n c f xs,cs=[.slice A n c]/\fX f 0 w.heap.size/\vJ w f (.slice A n c) xs:=by
 obtain⟨A,n,c,f,xs,h1,h2,h3,_⟩:=qe (rep:=FB) (Q:=fun _=>True) Tryz.underlying114 (sz:=1) (by kernel_rfl) (by omega) h fun n mM y hl hy=>by
  obtain⟨b,rfl,_⟩:=DataW.trod_int Tryz.underlying2 hy
  exact⟨[],b,fX.nil _ _,⟨rfl,rfl⟩,trivial⟩
 exact⟨A,n,c,f,xs,h1,h2,h3⟩
theorem nU {t:TypeId} {fs:Array Field} (ht:Tryz.prog.underlying t=some (.struct fs)) (h:TT enc w fuel t cs x):cs.length=Tryz.prog.cellsOf t/\∃n,∀(i:Nat) (f:Field),fs[i]? =some f->∃y,TT enc w n f.type ((cs.drop f.offset).take (Tryz.prog.cellsOf f.type)) y:=by
 obtain⟨xs,n,_,_,hl,On,hf⟩:=DataW.trod_struct ht h
 refine⟨hl,n,fun i f hi=>?_⟩
 have nj:i<xs.length:=by rw[On];exact(Array.getElem?_eq_some_iff.1 hi).1
 exact⟨xs[i],(hf i f hi).trans (List.getElem?_eq_getElem nj)⟩
theorem Tk {l:List Value} (h:l.length=2):∃a b,l=[a,b]:=by
 match l,h with
 |[a,b],_=>exact⟨a,b,rfl⟩
theorem Wk {l:List Value} (h:l.length=3):∃a b c,l=[a,b,c]:=by
 match l,h with
 |[a,b,c],_=>exact⟨a,b,c,rfl⟩
theorem Wj {l:List Value} (h:l.length=1):∃a,l=[a]:=by
 match l,h with
 |[a],_=>exact⟨a,rfl⟩
theorem Wl {l:List Value} (h:l.length=4):∃a b c d,l=[a,b,c,d]:=by
 match l,h with
 |[a,b,c,d],_=>exact⟨a,b,c,d,rfl⟩
theorem M5 (h:TT enc w fuel 22 cs x):∃A n c f xs,cs=[.slice A n c]/\fX f 0 w.heap.size/\rK w f (.slice A n c) xs/\∀d∈xs,d.aE.size<=9223372036854775807:=by
 exact qe (rep:=ID) (Q:=fun d=>d.aE.size<=9223372036854775807) Tryz.underlying22 (sz:=2) (by kernel_rfl) (by omega) h fun n mM y hl hy=>by
  obtain⟨_,m,hf⟩:=nU Tryz.underlying123 hy
  obtain⟨a,b,rfl⟩:=Tk hl
  ·skip
   obtain⟨y0,h0⟩:=hf 0 _ rfl
   obtain⟨y1,h1⟩:=hf 1 _ rfl
   rw[show Tryz.prog.cellsOf _=1 from by kernel_rfl]at h0 h1
   obtain⟨p,e0,_,ws⟩:=DataW.trod_string Tryz.underlying9 h0
   obtain⟨q,e1,_⟩:=DataW.trod_int Tryz.underlying2 h1
   simp at e0 e1
   subst e0 e1
   exact⟨[],⟨p,q⟩,fX.nil _ _,⟨rfl,rfl⟩,by simpa[maxLen]using ws⟩
theorem M6 (h:TT enc w fuel 23 cs x):∃A n c f xs,cs=[.slice A n c]/\fX f 0 w.heap.size/\rL w f (.slice A n c) xs/\∀d∈xs,d.aE.size<=9223372036854775807:=by
 exact qe (rep:=IE) (Q:=fun d=>d.aE.size<=9223372036854775807) Tryz.underlying23 (sz:=2) (by kernel_rfl) (by omega) h fun n mM y hl hy=>by
  obtain⟨_,m,hf⟩:=nU Tryz.underlying125 hy
  obtain⟨a,b,rfl⟩:=Tk hl
  ·skip
   obtain⟨y0,h0⟩:=hf 0 _ rfl
   obtain⟨y1,h1⟩:=hf 1 _ rfl
   rw[show Tryz.prog.cellsOf _=1 from by kernel_rfl]at h0 h1
   obtain⟨p,e0,_,ws⟩:=DataW.trod_string Tryz.underlying9 h0
   obtain⟨A1,n1,c1,f1,TF,e1,k1,s1⟩:=Qg h1
   simp at e0 e1
   subst e0 e1
   exact⟨_,⟨p,TF⟩,k1,⟨_,f1,rfl,rfl,s1⟩,by simpa[maxLen]using ws⟩
theorem HH (h:TT enc w fuel 26 cs x):∃A n c f xs,cs=[.slice A n c]/\fX f 0 w.heap.size/\jF w f (.slice A n c) xs:=by
 obtain⟨A,n,c,f,xs,h1,h2,h3,_⟩:=qe (rep:=Bo) (Q:=fun _=>True) Tryz.underlying26 (sz:=3) (by kernel_rfl) (by omega) h fun n mM y hl hy=>by
  obtain⟨_,m,hf⟩:=nU Tryz.underlying145 hy
  obtain⟨a,b,c,rfl⟩:=Wk hl
  ·skip
   obtain⟨y0,h0⟩:=hf 0 _ rfl
   obtain⟨y1,h1⟩:=hf 1 _ rfl
   rw[show Tryz.prog.cellsOf _=2 from by kernel_rfl]at h0
   rw[show Tryz.prog.cellsOf _=1 from by kernel_rfl]at h1
   obtain⟨_,m2,N3⟩:=nU Tryz.underlying143 h0
   obtain⟨z0,g0⟩:=N3 0 _ rfl
   obtain⟨z1,g1⟩:=N3 1 _ rfl
   rw[show Tryz.prog.cellsOf _=1 from by kernel_rfl]at g0 g1
   obtain⟨px,e0,_⟩:=DataW.trod_int Tryz.underlying2 g0
   obtain⟨py,e1,_⟩:=DataW.trod_int Tryz.underlying2 g1
   obtain⟨ti,e2,_⟩:=DataW.trod_int Tryz.underlying2 h1
   simp at e0 e1 e2
   subst e0 e1 e2
   exact⟨[],⟨⟨px,py⟩,ti⟩,fX.nil _ _,⟨rfl,rfl⟩,trivial⟩
 exact⟨A,n,c,f,xs,h1,h2,h3⟩
theorem wT (h:TT enc w fuel 28 cs x):∃A n c f,∃d:dD,cs=[.slice A n c]/\fX f 0 w.heap.size/\jF w f (.slice A n c) d.aj:=by
 obtain⟨hl,m,hf⟩:=nU Tryz.underlying28 h
 rw[show Tryz.prog.cellsOf _=1 from by kernel_rfl]at hl
 obtain⟨a,rfl⟩:=Wj hl
 ·skip
  obtain⟨y0,h0⟩:=hf 0 _ rfl
  rw[show Tryz.prog.cellsOf _=1 from by kernel_rfl]at h0
  obtain⟨A1,n1,c1,f1,TF,e1,k1,s1⟩:=HH h0
  simp at e1
  subst e1
  exact⟨A1,n1,c1,f1,⟨TF⟩,rfl,k1,s1⟩
theorem Kh (h:TT enc w fuel 51 cs x):∃A0 n0 c0 f0 A1 n1 c1 f1 A2 n2 c2 f2,∃d:cj,cs=[.slice A0 n0 c0,.slice A1 n1 c1,.slice A2 n2 c2,.int .i64 d.au]/\fX f0 0 w.heap.size/\rK w f0 (.slice A0 n0 c0) d.aC.az/\fX f1 0 w.heap.size/\rL w f1 (.slice A1 n1 c1) d.aC.aj/\fX f2 0 w.heap.size/\jF w f2 (.slice A2 n2 c2) d.cq.aj/\(∀g∈d.aC.az,g.aE.size<=9223372036854775807)/\∀t∈d.aC.aj,t.aE.size<=9223372036854775807:=by
 obtain⟨hl,m,hf⟩:=nU Tryz.underlying51 h
 rw[show Tryz.prog.cellsOf _=4 from by kernel_rfl]at hl
 obtain⟨a,b,c,d,rfl⟩:=Wl hl
 ·skip
  obtain⟨y0,h0⟩:=hf 0 _ rfl
  obtain⟨y1,h1⟩:=hf 1 _ rfl
  obtain⟨y2,h2⟩:=hf 2 _ rfl
  rw[show Tryz.prog.cellsOf _=2 from by kernel_rfl]at h0
  rw[show Tryz.prog.cellsOf _=1 from by kernel_rfl]at h1 h2
  obtain⟨_,m2,N3⟩:=nU Tryz.underlying25 h0
  obtain⟨z0,g0⟩:=N3 0 _ rfl
  obtain⟨z1,g1⟩:=N3 1 _ rfl
  rw[show Tryz.prog.cellsOf _=1 from by kernel_rfl]at g0 g1
  obtain⟨A0,n0,c0,f0,xs0,e0,k0,s0,o0⟩:=M5 g0
  obtain⟨A1,n1,c1,f1,TF,e1,k1,s1,o1⟩:=M6 g1
  obtain⟨A2,n2,c2,f2,d2,e2,k2,s2⟩:=wT h1
  obtain⟨t,e3,_⟩:=DataW.trod_int Tryz.underlying2 h2
  simp at e0 e1 e2 e3
  subst e0 e1 e2 e3
  exact⟨A0,n0,c0,f0,A1,n1,c1,f1,A2,n2,c2,f2,⟨⟨xs0,TF⟩,d2,t⟩,rfl,k0,s0,k1,s1,k2,s2,o0,o1⟩
end
end Go.Proofs.YtkbipfflibjfbaaGreat

namespace Go.Proofs.YtkbipfflibjfbaaGreat
open Go.ChangeShapes Go.WideShapes Go.ChangeAt Go.RowKit V
theorem Ts:ownKnob Tryz.prog.godebug=none:=by kernel_rfl
theorem EN:laidOutB Tryz.prog=true:=by kernel_rfl
theorem LV (s:cj) (a:dD) (k:Int) (hl:a.aj.length<=1048576):(sW s a k).1.length<=1099511627776:=by
 unfold sW
 split
 ·split
  ·have h1:=vM s.aC a.aj k.toNat (dj a.aj k.toNat).length
   have h2:(dj a.aj k.toNat).length<=a.aj.length:=Nat.le_trans (lq a.aj k.toNat (jJ a.aj k.toNat) _) (lp a.aj k.toNat a.aj.length)
   show(oZ s.aC a.aj k.toNat (dj a.aj k.toNat).length).length<=1099511627776
   omega
  ·simp
 ·simp
theorem OS (s:cj) (a:dD) (k:Int) (hn:gy s.aC):ak Tryz.prog 4 [.agg (aA s),.agg (aP a),.int .i64 k] (.bool true):=
 MS (fun s a k=>((sW s a k).1.map pbP,(sW s a k).2))
  (fun s a k hn hm _=>⟨.sl ((sW s a k).1.map ay),.inr (by simp only[List.map_map];congr 1),rH s a k hn hm.s.g hm.s.t⟩)
  (fun s a k hn hm hl n=>rG s a k hn hm hl n)
  (fun s a k _ _ hl=>by simp only[List.length_map];exact LV s a k hl) s a k hn
theorem GC (os:Os) (started:os.Started) (H:Type) (enc:TypeId×Value->H):
  ReturnsInHanded {} Tryz.checked os 4 .any (Rows.fnExactBlockMismatchesSpec.pre6 enc Tryz.prog Tryz.f4 Rows.fnExactBlockMismatchesRow.domain false) (Rows.fnExactBlockMismatchesSpec.post enc Tryz.prog Tryz.f4 false true false false):=by
 refine returnsInHanded_of_change (C:=Tryz.checked) Ts started (by kernel_rfl) Tryz.func4
  (ChangeSpec.witness6 (enc:=enc) (C:=Tryz.checked) false ⟨#[], #[.agg #[.slice none 0 0,.slice none 0 0,.slice none 0 0,.int .i64 0],.agg #[.slice none 0 0],.int .i64 0],[]⟩ 8 (by kernel_rfl) (by kernel_rfl) (by kernel_rfl) (by kernel_rfl)) ?_
 intro W base args ds gs before Oj hW hcnd _
 have se:∀(j:Nat) t v,Tryz.f4.params[j]? =some t->args[j]? =some v->Value.okWide Tryz.prog W .any base t v:=Oj
 have hW':=hW
 obtain⟨p,q,hA0,hV,rfl,Dq,kZ⟩:=hW
 have hA:DataW.TrodAll enc Tryz.prog W 0 (fun _=>true) true Tryz.f4.params.toList args.toList ds p:=hA0
 rw[Tryz.params4]at hA se
 obtain⟨v0,vs0,d0,ds0,p0,q0,ox,rfl,rfl,h0,r0⟩:=trodAll_cons hA
 obtain⟨v1,vs1,d1,ds1,p1,q1,rfl,rfl,rfl,h1,r1⟩:=trodAll_cons r0
 obtain⟨v2,vs2,d2,ds2,p2,q2,rfl,rfl,rfl,h2,r2⟩:=trodAll_cons r1
 obtain⟨rfl,rfl,rfl⟩:=trodAll_nil r2
 obtain rfl:args= #[v0,v1,v2]:=by cases args;simp_all
 obtain⟨rfl,rfl⟩:=trodVars_none hV
 obtain⟨Q3,rfl,_⟩:=okWide_struct Tryz.underlying51 (se 0 51 v0 rfl rfl)
 obtain⟨UX,rfl,_⟩:=okWide_struct Tryz.underlying28 (se 1 28 v1 rfl rfl)
 have k0:=h0
 have k1:=h1
 have k2:=h2
 have lt0:∀x∈p0,x.block<W.heap.size:=by obtain⟨m,hm⟩:=k0;exact DataW.trod_lt m _ _ _ hm
 have lt1:∀x∈p1,x.block<W.heap.size:=by obtain⟨m,hm⟩:=k1;exact DataW.trod_lt m _ _ _ hm
 have lt2:∀x∈p2,x.block<W.heap.size:=by obtain⟨m,hm⟩:=k2;exact DataW.trod_lt m _ _ _ hm
 obtain⟨A0,n0,c0,f0,A1,n1,c1,f1,A2,n2,c2,f2,s,En,w0,s0,w1,s1,w2,s2,o0,o1⟩:∃A0 n0 c0 f0 A1 n1 c1 f1 A2 n2 c2 f2,∃d:cj,(Value.agg Q3).cells.toList=[.slice A0 n0 c0,.slice A1 n1 c1,.slice A2 n2 c2,.int .i64 d.au]/\fX f0 0 W.heap.size/\rK W f0 (.slice A0 n0 c0) d.aC.az/\fX f1 0 W.heap.size/\rL W f1 (.slice A1 n1 c1) d.aC.aj/\fX f2 0 W.heap.size/\jF W f2 (.slice A2 n2 c2) d.cq.aj/\(∀g∈d.aC.az,g.aE.size<=9223372036854775807)/\∀t∈d.aC.aj,t.aE.size<=9223372036854775807:=by
  obtain⟨fuel,hf⟩:=h0
  exact Kh hf
 obtain rfl:Q3= #[.slice A0 n0 c0,.slice A1 n1 c1,.slice A2 n2 c2,.int .i64 s.au]:=by
  cases Q3;simp[Value.cells]at En;subst En;rfl
 obtain⟨A3,n3,c3,f3,a,SB,w3,s3⟩:∃A n c f,∃d:dD,(Value.agg UX).cells.toList=[.slice A n c]/\fX f 0 W.heap.size/\jF W f (.slice A n c) d.aj:=by
  obtain⟨fuel,hf⟩:=h1
  exact wT hf
 obtain rfl:UX= #[.slice A3 n3 c3]:=by
  cases UX;simp[Value.cells]at SB;subst SB;rfl
 obtain⟨k,e2,-,-,-⟩:=open_int Tryz.underlying2 (se 2 2 v2 rfl rfl) h2
 subst e2
 clear hA0 Oj
 have ij:fc Tryz.prog W (fun b=>b<W.heap.size) (fun _=>none) [.agg (aA s),.agg (aP a),.int .i64 k] #[.agg #[.slice A0 n0 c0,.slice A1 n1 c1,.slice A2 n2 c2,.int .i64 s.au],.agg #[.slice A3 n3 c3],.int .i64 k]:=by
  have h:=iy (DF s0 (fun b hb=>(w0 b hb).2) s1 (fun b hb=>(w1 b hb).2) s2 (fun b hb=>(w2 b hb).2)) (iy (zE s3 (fun b hb=>(w3 b hb).2)) (iy (.int .i64 k) (⟨rfl,fun j b hj=>by cases j<;>cases hj⟩:fc Tryz.prog W (fun b=>b<W.heap.size) (fun _=>none) [] #[])))
  simpa using h
 have iT:=Qa mixed (OS s a k ⟨o0,o1⟩) ij
 clear s0 s1 s2 w0 w1 w2 s3 w3 ij
 refine(iT.mono fun e W' ⟨he,bel⟩=>?_)
 subst he
 exact⟨_,rfl,_,_,_,[],_,[],hW',trodAll_mk1 (shut_bool Tryz.underlying4 _),(trodAll_cons_mk (Below.trod EN (by kernel_rfl) (of_decide_eq_true (by kernel_rfl)) k0 bel lt0) (trodAll_cons_mk (Below.trod EN (by kernel_rfl) (of_decide_eq_true (by kernel_rfl)) k1 bel lt1) (trodAll_cons_mk (Below.trod EN (by kernel_rfl) (of_decide_eq_true (by kernel_rfl)) k2 bel lt2) trodAll_mk0))),rfl,bel.frame _,fun h=>by cases h⟩
end Go.Proofs.YtkbipfflibjfbaaGreat

namespace Go.Proofs.YtkbipfflibjfbaaGreat
open Go.ChangeShapes Go.WideShapes Go.ChangeAt Go.RowKit
theorem BD:Tryz.pinned.checked.prog.funcNamed Rows.fnExactBlockMismatchesRow.func=some 4:=by kernel_rfl
theorem bmJ:joinedFacts Tryz.pinned.checked.prog 4 Tryz.f4 Rows.fnExactBlockMismatchesSpec Rows.fnExactBlockMismatchesRow=true:=by
 unfold joinedFacts
 repeat(with_reducible refine Bool.and_eq_true_iff.2 ⟨?_,by as_aux_lemma=>kernel_rfl⟩)
 as_aux_lemma=>kernel_rfl
theorem bmI:Tryz.f4.isInstance Tryz.pinned.checked.prog Rows.fnExactBlockMismatchesRow.origin Rows.fnExactBlockMismatchesRow.targs:=of_decide_eq_true (by kernel_rfl)
theorem bmW:Tryz.f4.isWrapper Tryz.pinned.checked.prog Rows.fnExactBlockMismatchesRow.wrapper Rows.fnExactBlockMismatchesRow.mainSum:=by
 unfold Func.isWrapper;first|(rw[if_pos (by decide+kernel)];kernel_rfl)|(rw[if_neg (by decide+kernel)];exact⟨rfl,rfl⟩)
theorem LW:Rows.fnExactBlockMismatchesRow.holds Tryz.pinned (OpenSpec.ofChange Rows.fnExactBlockMismatchesSpec):=
 OpenClaim.holds_of_wide 4 Tryz.f4 rfl rfl rfl rfl rfl rfl rfl ⟨rfl,rfl,rfl,rfl,rfl⟩ rfl rfl rfl rfl rfl BD Tryz.func4 bmJ bmI bmW
  (fun os started H enc _=>GC os started H enc)
theorem fnExactBlockMismatches_proved:Rows.FnExactBlockMismatchesSaid:=LW
end Go.Proofs.YtkbipfflibjfbaaGreat
