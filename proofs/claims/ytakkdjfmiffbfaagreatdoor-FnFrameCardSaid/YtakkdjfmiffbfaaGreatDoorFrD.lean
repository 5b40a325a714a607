/- Bonds that are too weak are taken out. -/
import Derived.Test.YtakkdjfmiffbfaaGreatDoorFrC
import Derived.Test.YtakkdjfmiffbfaaGreatDoorFrB
import Derived.RangeFuncNested
import Derived.RangeFuncBound
import Derived.RangeFuncCalls
import Derived.RangeFuncLeaves
import Derived.Shelf.Abstract
import Derived.Shelf.RegionOpen
import Derived.WalkKit
import Derived.OwnWalkIn
import Derived.TacticsInMore
import Derived.LoopNIn
import Derived.LoopIn
import Derived.BigQuiet
import Derived.RangeFuncBox
import Derived.RangeFuncWrites
import Derived.Maps.AppendAt
import Derived.OrdersIn
set_option linter.unusedVariables false
set_option linter.unusedSimpArgs false
set_option maxRecDepth 100000
set_option maxHeartbeats 16000000
namespace Go.Proofs.YtakkdjfmiffbfaaGreatDoor.V
open Go.RowKit
attribute [local irreducible] dL wpOps ez Call
attribute [local go_sem] ay ew dZ eE eC cY upd bJ K.av bZ AV.cells AV.cell rowOf rowsOf part ld rowAt eO bH bI cX dj eQ bq cF dx eA ed cQ dq cD cC dc de bu aE cm bt cr cq dn dr dp ck bz cE dm br aw cw bQ eP aZ bW bx aD cR aQ cZ AV.undef bd bj dh di c6 da bV dw dz bP du dt cu cz List.getD_cons_zero List.getD_cons_succ List.getD_nil List.all_cons List.all_nil Bool.and_true Bool.true_and Bool.and_self Bool.not_true Bool.not_false Option.map_some Option.map_none Option.bind_some Option.bind_none List.length_cons List.length_nil List.take_succ_cons List.take_zero List.take_nil List.drop_succ_cons List.drop_zero List.drop_nil List.head?_cons List.map_cons List.map_nil List.getElem?_cons_zero List.getElem?_cons_succ List.cons_append List.nil_append List.append_nil List.length_map List.set_cons_zero List.set_cons_succ Nat.reduceMul eq_self Int.toNat_natCast Int.natCast_nonneg and_self true_and and_true decide_true decide_false Bool.false_eq_true Nat.zero_add Nat.add_zero List.contains_cons List.contains_nil Bool.or_false Bool.false_or beq_self_eq_true Nat.reduceBEq ne_eq not_true_eq_false not_false_eq_true Id.mk.injEq false_and and_false Nat.reduceLT Int.reduceLE Int.reduceLT Int.reduceToNat Int.reduceNeg Int.reduceAdd Nat.le_refl List.length_append beq_true beq_false Bool.not_eq_eq_eq_not or_false false_or dW ad ae aL aI bf bR az bc aA aJ cj bh
theorem Lp (b:PB) (t:Int):aP Tryz.prog 166 [.agg (dB b),.eT [.int .i64 t]] (.bool (decide (b.s<t))):=by
 refine aP.body fH rfl fun hl n0=>?_
 clear hl
 (try((repeat(revert hN;revert N;apply Pn.out));refine wk @dB.eq_1 ?_;(repeat(refine Pn.mk ?_;intro N hN))))
 exact dU (b:=decide (b.s<t)) (.inl rfl) (sd @Nat.zero_add) rfl
theorem yM (bs:List PB) (t:Int) (hl:bs.length<=1048576):aP Tryz.prog 193 [.sl (bs.map dB),.fn 166 [.eT [.int .i64 t]]] (.int .i64 (kj (fun b:PB=>decide (b.s<t)) bs)):=
 tA Jb (show Bh Tryz.prog 193=some (sw 193 3 true) by kernel_rfl) bs hl 166 _ _ (fun x _=>Lp x t) fun g=>by simp only[ad,ae,aA,Option.map_some]
theorem I4 (bs:List PB) (hp:0<bs.length) (hl:bs.length<=1048576) (σ:aq):
  Call Tryz.prog 165 [.sl (bs.map dB)] σ fun r σ'=>∃o:Id,r=.own o 0 bs.length/\σ'.get o=some ⟨true,3,bs.map dB⟩/\σ.next<=o.cW/\o.cW<σ'.next/\∀i:Id,i.cW<σ.next->σ'.get i=σ.get i:=by
 refine eU fH rfl fun hl=>?_
 clear hl
 have hz:=all_map (l:=bs) UH
 obtain⟨b,r,rfl⟩:∃b r,bs=b::r:=by
  cases bs with
  |nil=>simp at hp
  |cons b r=>exact⟨b,r,rfl⟩
 have fw:(List.map dB (b::r)).length=(b::r).length:=by simp
 have e1:r.length<=16777215:=by simp at hl;omega
 rw[List.map_cons]at hz fw ⊢
 (try((repeat(revert hN;revert N;apply Pn.out));refine wk (tw @hz (tw @fw @e1)) ?_;(repeat(refine Pn.mk ?_;intro N hN))))
 refine eK (.inl rfl) (vs:=[.own ⟨165003002,σ.next+1+1⟩ 0 (b::r).length]) (by simp only[gR,jV,go_sem, ↓reduceIte,Nat.reduceEqDiff,Nat.reduceAdd,Nat.reduceSub,Nat.reduceLeDiff,reduceCtorEq,List.length_cons]) ⟨⟨165003002,σ.next+1+1⟩,rfl,sd @Nat.zero_add,bL,bL,fun i hi=>?_⟩
 have hv:=dE hi
 simp only[go_sem, ↓reduceIte,Nat.reduceEqDiff,Nat.reduceAdd,Nat.reduceSub,Nat.reduceLeDiff,reduceCtorEq,hv]
theorem oK {t:Int} {bs:List PB} {j:Nat} (hj:j<bs.length):cH t (bs.take (j+1))=cH t (bs.take j)++if decide (bs[j].s<t)=true then[]else[bs[j]]:=by
 rw[CL t bs j hj]
 congr 1
 by_cases h:bs[j].s<t
 ·rw[if_neg ab,if_pos (decide_eq_true h)]
 ·rw[if_pos ab,if_neg (by simp only[decide_eq_true_eq];exact h)]
theorem tK {t:Int} {bs:List PB} (h:∀b∈bs,¬b.s<t):cH t bs=bs:=by
 unfold cH
 rw[List.filter_eq_self]
 intro b hb
 have:=h b hb
 exact decide_eq_true ab
structure tM (t:Int) (bs:List PB) (j:Nat) (R:List PB):Prop where
 len:R.length=bs.length
 pre:R.take (cH t (bs.take j)).length=cH t (bs.take j)
 post:∀x,j<=x->R[x]? =bs[x]?
 lt:(cH t (bs.take j)).length<j
theorem tM.start {t:Int} {bs:List PB} {i:Nat} (hi:i<bs.length) (hw:bs[i].s<t) (hp:∀x (h:x<i),¬bs[x].s<t):tM t bs (i+1) bs/\(cH t (bs.take (i+1))).length=i:=by
 have h1:cH t (bs.take i)=bs.take i:=tK fun b hb=>by
  obtain⟨x,hx,rfl⟩:=List.getElem_of_mem hb
  rw[List.length_take]at hx
  rw[List.getElem_take]
  exact hp x ab
 have h2:cH t (bs.take (i+1))=bs.take i:=by rw[oK hi,if_pos (decide_eq_true hw),List.append_nil,h1]
 have h3:(bs.take i).length=i:=by rw[List.length_take];omega
 exact⟨⟨rfl,by rw[h2,h3],fun _ _=>rfl,by rw[h2,h3];omega⟩,by rw[h2,h3]⟩
theorem tM.XP {t:Int} {bs R:List PB} {j:Nat} (h:tM t bs j R) (hj:j<bs.length) (hw:bs[j].s<t):tM t bs (j+1) R/\(cH t (bs.take (j+1))).length=(cH t (bs.take j)).length:=by
 have h2:cH t (bs.take (j+1))=cH t (bs.take j):=by rw[oK hj,if_pos (decide_eq_true hw),List.append_nil]
 exact⟨⟨h.len,by rw[h2];exact h.pre,fun x hx=>h.post x ab,by rw[h2];have:=h.lt;omega⟩,by rw[h2]⟩
theorem tM.xS {t:Int} {bs R:List PB} {j:Nat} (h:tM t bs j R) (hj:j<bs.length) (hw:¬bs[j].s<t):tM t bs (j+1) (R.set (cH t (bs.take j)).length bs[j])/\(cH t (bs.take (j+1))).length=(cH t (bs.take j)).length+1:=by
 have h2:cH t (bs.take (j+1))=cH t (bs.take j)++[bs[j]]:=by rw[oK hj,if_neg (by simp only[decide_eq_true_eq];exact hw)]
 have eR:=h.lt
 have hlen:=h.len
 have xP:=h.pre
 generalize hc:(cH t (bs.take j)).length=c at *
 refine⟨⟨by rw[List.length_set];exact hlen,?_,fun x hx=>?_,by rw[h2,List.length_append,hc];simp;omega⟩,by rw[h2,List.length_append,hc];rfl⟩
 ·rw[h2,List.length_append,hc,List.length_singleton,List.take_succ_eq_append_getElem (by rw[List.length_set];omega),List.getElem_set_self,List.take_set_of_le (Nat.le_refl _),xP]
 ·rw[List.getElem?_set_ne ab];exact h.post x ab
theorem tM.at_ {t:Int} {bs R:List PB} {j:Nat} (h:tM t bs j R) (hj:j<bs.length):(R.map dB)[j]? =some (dB bs[j]):=by
 rw[List.getElem?_map,h.post j (Nat.le_refl j),List.getElem?_eq_getElem hj];rfl
theorem Dt {p:PB->Bool} {bs:List PB} (h:¬0<=kj p bs):∀b∈bs,p b=false:=by
 intro b hb
 unfold kj at h
 split at h
 ·omega
 ·rename_i h1
  rw[List.findIdx_lt_length]at h1
  cases hp:p b
  ·rfl
  ·exact absurd ⟨b,hb,hp⟩ h1
theorem Du {p:PB->Bool} {bs:List PB} (h:0<=kj p bs):∃i,∃hi:i<bs.length,kj p bs=(i:Int)/\p bs[i]=true/\∀x (hx:x<i),p (bs[x]'ab)=false:=by
 unfold kj at h ⊢
 split
 ·rename_i h1
  exact⟨bs.findIdx p,h1,rfl,List.findIdx_getElem,fun x hx=>by simpa using List.not_of_lt_findIdx hx⟩
 ·rename_i h1;rw[if_neg h1]at h;omega
theorem GC (bs:List PB) (t:Int) (hl:bs.length<=1048576) (o T:Id) (σ:aq) (ho:σ.get o=some ⟨true,3,bs.map dB⟩) (hT:σ.get T=some ⟨true,1,[[.int .i64 t]]⟩) (RH:o.cW<σ.next) (BN:T.cW<σ.next) (RG:o≠T):
  Call Tryz.prog 164 [.own o 0 bs.length,.fn 166 [.ptr T 0 0]] σ fun r σ'=>∃rows,r=.own o 0 (cH t bs).length/\σ'.get o=some ⟨true,3,rows⟩/\rows.take (cH t bs).length=(cH t bs).map dB/\(cH t bs).length<=rows.length/\σ.next<=σ'.next/\∀i:Id,i.cW<σ.next->i≠o->σ'.get i=σ.get i:=by
 refine eU fH rfl fun fR=>?_
 clear fR
 have WR:=yM bs t hl
 have hzT:∀(g:Rows),g T=some ⟨true,1,[[.int .i64 t]]⟩->V.fz (dW g) 5 (.ptr T 0 0)=some (.eT [.int .i64 t]):=fun g hg=>vJ (sz:=1) (rows:=[[.int .i64 t]]) (by simp[dW,hg]) rfl (by simp only[List.drop_zero,ad,ae,aL,Option.map_some])
 have pM:∀(g:Rows),g T=some ⟨true,1,[[.int .i64 t]]⟩->g o=some ⟨true,3,bs.map dB⟩->er (dW g) 6 [.own o 0 bs.length,.fn 166 [.ptr T 0 0]]=some [.sl (bs.map dB),.fn 166 [.eT [.int .i64 t]]]:=fun g h1 h2=>by
  have q1:=gi (g:=dW g) (n:=5) (e:=dB) (sz:=3) (len:=bs.length) (l:=bs) (id:=o) (by simp[dW,h2]) rfl fun b=>DF _ 4 b
  have q2:=hzT g h1
  simp only[ad,ae,q1,cj,List.all_cons,List.all_nil,AV.cell,Bool.and_true,if_true,q2,Option.map_some]
 have nH:∀(g:Rows),g T=some ⟨true,1,[[.int .i64 t]]⟩->∀b:PB,er (dW g) 6 [.agg (dB b),.ptr T 0 0]=some [.agg (dB b),.eT [.int .i64 t]]:=fun g h1 b=>by
  have q3:V.fz (dW g) 6 (.ptr T 0 0)=some (.eT [.int .i64 t]):=vJ (sz:=1) (rows:=[[.int .i64 t]]) (by simp[dW,h1]) rfl (by simp only[List.drop_zero,ad,ae,aL,Option.map_some])
  simp only[ad,ae,bc,DF,q3,Option.map_some]
 (try((repeat(revert hN;revert N;apply Pn.out));refine wk @Nat.zero_add ?_;(repeat(refine Pn.mk ?_;intro N hN))))
 refine .inl ⟨_,aP.x WR (pM _ hT ho),?_⟩
 refine hN _ _ ?_
 clear hN N
 by_cases h0:0<=kj (fun b:PB=>decide (b.s<t)) bs
 ·obtain⟨i,hi,LB,hpi,Qp⟩:=Du h0
  rw[LB]at *
  have MC:decide ((i:Int)= -1)=false:=decide_eq_false ab
  have TC:IntKind.i64.wrap ((i:Int)+1)=((i+1:Nat):Int):=cI ab
  obtain⟨ee,nP⟩:=tM.start (t:=t) hi (by simpa using hpi) (fun x hx=>by simpa using Qp x hx)
  (try((repeat(revert hN;revert N;apply Pn.out));refine wk (tw @MC @TC) ?_;(repeat(refine Pn.mk ?_;intro N hN))))
  refine cU (fun m env st=>∃(j:Nat) (R:List PB),m=bs.length-j/\env 6=.int .i64 (j:Int)/\env 5=.int .i64 ((cH t (bs.take j)).length:Int)/\st.get o=some ⟨true,3,R.map dB⟩/\tM t bs j R/\j<=bs.length/\σ.next<=st.next/\∀x:Id,x.cW<σ.next->(x=o)=False->st.get x=σ.get x) (bs.length-(i+1)) ⟨i+1,bs,rfl,sd @TC,sd @nP,sd @ho,ee,ab,bL,fun x _ _=>sd @Nat.zero_add⟩ ?_
  rintro m env_b st_b ⟨j,R,rfl,b6,b5,bg,hD,iZ,hle,jP⟩ fA
  have b0:=fA 0 (by kernel_rfl)
  have b1:=fA 1 (by kernel_rfl)
  simp only[go_sem, ↓reduceIte,Nat.reduceEqDiff,Nat.reduceAdd,Nat.reduceSub,Nat.reduceLeDiff,reduceCtorEq]at b0 b1
  clear fA
  have bT:=(jP T BN (by simp only[eq_iff_iff,iff_false];exact fun h=>RG h.symm)).trans hT
  have qW:=dE (i:=o) (n:=st_b.next) ab
  have Xo:=dE (i:=T) (n:=st_b.next) ab
  have hRl:=hD.len
  have Ww:(R.map dB).length=bs.length:=by rw[List.length_map,hRl]
  have eR:=hD.lt
  by_cases hj:(j:Int)<(bs.length:Int)
  ·have vV:j<bs.length:=ab
   have Mz:=hD.at_ vV
   have Vv:=Lp bs[j] t
   have Vu:IntKind.i64.wrap ((j:Int)+1)=((j+1:Nat):Int):=cI ab
   have hD1:=hD.XP vV
   have hD2:=hD.xS vV
   generalize bs[j]=b at *
   (try((repeat(revert hN;revert N;apply Pn.out));refine wk (tw @b0 (tw @b1 (tw @b5 (tw @b6 (tw @bg (tw @hj (tw @Mz (tw @dB.eq_1 (tw @qW (tw @Xo @Ww)))))))))) ?_;(repeat(refine Pn.mk ?_;intro N hN))))
   refine .inl ⟨_,aP.x Vv (nH _ (sd (tw @Xo @bT)) b),?_⟩
   refine hN _ _ ?_
   clear hN N
   by_cases hw:b.s<t
   ·obtain⟨We,Wd⟩:=hD1 hw
    have hd:decide (b.s<t)=true:=decide_eq_true hw
    (try((repeat(revert hN;revert N;apply Pn.out));refine wk (tw @b0 (tw @b1 (tw @b5 (tw @b6 (tw @hd @Vu))))) ?_;(repeat(refine Pn.mk ?_;intro N hN))))
    refine⟨_,?_,j+1,R,rfl,sd @Vu,sd (tw @b5 @Wd),sd (tw @bg @qW),We,ab,bL,fun x hx Il=>?_⟩
    ·omega
    ·have RJ:=dE (i:=x) (n:=st_b.next) ab
     have:=jP x hx Il
     simp only[go_sem, ↓reduceIte,Nat.reduceEqDiff,Nat.reduceAdd,Nat.reduceSub,Nat.reduceLeDiff,reduceCtorEq,RJ,this]
   ·obtain⟨We,Wd⟩:=hD2 hw
    have hd:decide (b.s<t)=false:=decide_eq_false hw
    have Rz:((cH t (bs.take j)).length:Int)<(bs.length:Int):=ab
    have hwc:IntKind.i64.wrap (((cH t (bs.take j)).length:Int)+1)=(((cH t (bs.take j)).length+1:Nat):Int):=cI ab
    have jc:(R.map dB).set (cH t (bs.take j)).length [.int .i64 (b.a:Int),.int .i64 (b.b:Int),.int .i64 b.s]=(R.set (cH t (bs.take j)).length b).map dB:=by rw[List.map_set];rfl
    have On:∃y,(R.map dB)[(cH t (bs.take j)).length]? =some (dB y):=⟨R[(cH t (bs.take j)).length]'ab,by rw[List.getElem?_map,List.getElem?_eq_getElem ab];rfl⟩
    obtain⟨y,On⟩:=On
    rw[dB]at On
    (try((repeat(revert hN;revert N;apply Pn.out));refine wk (tw @b0 (tw @b1 (tw @b5 (tw @b6 (tw @bg (tw @hd (tw @Vu (tw @hwc (tw @Rz (tw @jc (tw @On (tw @qW (tw @Xo @Ww))))))))))))) ?_;(repeat(refine Pn.mk ?_;intro N hN))))
    refine⟨_,?_,j+1,_,rfl,sd @Vu,sd (tw @hwc @Wd),sd @jc,We,ab,bL,fun x hx Il=>?_⟩
    ·omega
    ·have RJ:=dE (i:=x) (n:=st_b.next) ab
     have:=jP x hx Il
     simp only[go_sem, ↓reduceIte,Nat.reduceEqDiff,Nat.reduceAdd,Nat.reduceSub,Nat.reduceLeDiff,reduceCtorEq,RJ,this,Il]
  ·have iZ:j=bs.length:=ab
   subst iZ
   have xP:=hD.pre
   rw[List.take_length]at b5 eR xP
   have Rz:((cH t bs).length:Int)<=(bs.length:Int):=ab
   have hcn:(cH t bs).length<=bs.length:=ab
   have qa:(cH t bs).length+(bs.length-(cH t bs).length)=bs.length:=ab
   have nP:=xe t bs
   (try((repeat(revert hN;revert N;apply Pn.out));refine wk (tw @b0 (tw @b1 (tw @b5 (tw @b6 (tw @bg (tw @hj (tw @Ww (tw @Rz (tw @hcn (tw @qa (tw @Nat.le_refl (tw @Nat.sub_zero (tw @Int.le_refl @qW))))))))))))) ?_;(repeat(refine Pn.mk ?_;intro N hN))))
   refine eK (.inl rfl) (vs:=[.own o 0 (cH t bs).length]) (sd @Nat.zero_add) ⟨_,rfl,by simp only[go_sem, ↓reduceIte,Nat.reduceEqDiff,Nat.reduceAdd,Nat.reduceSub,Nat.reduceLeDiff,reduceCtorEq];rfl,?_,?_,bL,fun x hx Il=>?_⟩
   ·have hm:List.take (cH t bs).length (List.map dB R)=(cH t bs).map dB:=by rw[<-List.map_take,xP]
    rw[hm,List.append_assoc,List.take_append_of_le_length (by simp),List.take_of_length_le (by simp)]
   ·have hm:List.take (cH t bs).length (List.map dB R)=(cH t bs).map dB:=by rw[<-List.map_take,xP]
    rw[hm]
    simp only[List.length_append,List.length_map]
    omega
   ·have TD:(x=o)=False:=by simp only[eq_iff_iff,iff_false];exact Il
    have:=jP x hx TD
    simp only[go_sem, ↓reduceIte,Nat.reduceEqDiff,Nat.reduceAdd,Nat.reduceSub,Nat.reduceLeDiff,reduceCtorEq,TD,this]
 ·have hn:=Dt h0
  have ee:=tK (t:=t) (bs:=bs) fun b hb=>by simpa using hn b hb
  have hd:decide (kj (fun b:PB=>decide (b.s<t)) bs= -1)=true:=decide_eq_true (by
   unfold kj at h0 ⊢
   split
   ·rename_i h;rw[if_pos h]at h0;omega
   ·rfl)
  (try((repeat(revert hN;revert N;apply Pn.out));refine wk @hd ?_;(repeat(refine Pn.mk ?_;intro N hN))))
  refine eK (.inl rfl) (vs:=[.own o 0 bs.length]) (sd @Nat.zero_add) ⟨bs.map dB,by rw[ee];rfl,sd @ho,by rw[ee,List.take_of_length_le (by simp)],by rw[ee];simp,bL,fun x _ _=>rfl⟩
end Go.Proofs.YtakkdjfmiffbfaaGreatDoor.V

namespace Go.Proofs.YtakkdjfmiffbfaaGreatDoor.V
open Go.RowKit
variable {P:Program}
theorem l7 {xs:List AV} {w:World} {D:Nat->Prop} {ι:Names} {a:AV} {v:Value} {vs:Array Value} (h:jK P w D a v) (k:fo P w D ι xs vs):fo P w D ι (a::xs) (#[v]++vs):=
 oH (xs:=[a]) ⟨rfl,fun j b hj=>by
  cases j with
  |zero=>simp at hj;subst hj;exact⟨v,rfl,.eG _ _ h⟩
  |succ j=>simp at hj⟩ k
end Go.Proofs.YtakkdjfmiffbfaaGreatDoor.V

namespace Go.Proofs.YtakkdjfmiffbfaaGreatDoor.V
open Go.RowKit Go.Shelf
attribute [local go_sem] Oper.semAt_some
structure po (W:World) (v:Value) (l:List aa):Prop where
 sl:∃A c,v=.slice A l.length c/\(l.length<=c/\c<=maxLen)/\(l=[]∨∃b o,A=some ⟨b,o,none⟩/\∀i,i<l.length->W.cell? ⟨b,o+(i*3+0),none⟩=some (.int .i64 (cP l i).cG.fu)/\W.cell? ⟨b,o+(i*3+1),none⟩=some (.int .i64 (cP l i).cG.eZ)/\W.cell? ⟨b,o+(i*3+2),none⟩=some (.int .i64 (cP l i).cL))
structure Ix (K:World->World->Prop) (v:Value) (l:List aa):Prop where
 refl:∀W,K W W
 trans:∀{A B C:World},K A B->K B C->K A C
 of:∀{W W':World},Below W.heap.size W W'->K W W'
 size:∀{W W':World},K W W'->W.heap.size<=W'.heap.size
 typed:∀{W W':World},K W W'->∀(b:Nat) (cells:Array Value) (T:TypeId) (fr:Nat×Nat),W.heap[b]? =some (Obj.cells cells T fr)->T≠184->T≠225->W'.heap[b]? =W.heap[b]?
 pl:∀{W W':World},K W W'->po W v l->po W' v l
theorem ui {W:World} {b x:Nat} {v:Value} (h:W.cell? ⟨b,x,none⟩=some v):b<W.heap.size:=by
 rcases Nat.lt_or_ge b W.heap.size with h1|h1
 ·exact h1
 ·simp[World.cell?,Array.getElem?_eq_none h1]at h
theorem po.below {W W':World} {v:Value} {l:List aa} (h:po W v l) (k:Below W.heap.size W W'):po W' v l:=by
 obtain⟨A,c,rfl,hm,hc⟩:=h.sl
 refine⟨A,c,rfl,hm,?_⟩
 rcases hc with h0|⟨b,o,rfl,kn⟩
 ·exact .inl h0
 ·refine .inr ⟨b,o,rfl,fun i hi=>?_⟩
  obtain⟨h1,h2,h3⟩:=kn i hi
  have hb:=ui h1
  exact⟨(k.cell (p:=⟨b,_,none⟩) hb).trans h1,(k.cell (p:=⟨b,_,none⟩) hb).trans h2,(k.cell (p:=⟨b,_,none⟩) hb).trans h3⟩
theorem po.eG {P:Program} {W:World} {v:Value} {l:List aa} (h:po W v l):jK P W (fun b=>b<W.heap.size) (.sl (l.map ai)) v:=by
 obtain⟨A,c,rfl,hm,hc⟩:=h.sl
 rcases hc with rfl|⟨b,o,rfl,kn⟩
 ·exact .AU A c (by simpa using hm.2)
 by_cases LH:l=[]
 ·subst LH;exact .AU _ c (by simpa using hm.2)
 ·have kq:0<l.length:=List.length_pos_iff.2 LH
  have hb:=ui (kn 0 kq).1
  refine .sl (l.map ai) b o l.length c 3 (fun i j=>if j=0 then .int .i64 (cP l i).cG.fu else if j=1 then .int .i64 (cP l i).cG.eZ else .int .i64 (cP l i).cL) (by simp) hm.1 hm.2 hb (fun cs eb=>?_) (fun cs eb a ha=>?_) (fun i j hi hj=>?_) (fun i j cs a hi hj=>?_)
  ·obtain⟨x,_,rfl⟩:=List.mem_map.1 eb;rfl
  ·obtain⟨x,_,rfl⟩:=List.mem_map.1 eb
   simp[ai]at ha
   rcases ha with rfl|rfl|rfl<;>rfl
  ·obtain⟨h1,h2,h3⟩:=kn i hi
   match j,hj with
   |0,_=>exact h1
   |1,_=>exact h2
   |2,_=>exact h3
   |j+3,hj=>omega
  ·have qp:i<l.length:=by have:=(List.getElem?_eq_some_iff.1 hi).1;simpa using this
   rw[jn qp]at hi
   injection hi with hi
   subst hi
   match j,hj with
   |0,hj=>simp[ai]at hj;subst hj;exact .int _ _
   |1,hj=>simp[ai]at hj;subst hj;exact .int _ _
   |2,hj=>simp[ai]at hj;subst hj;exact .int _ _
   |j+3,hj=>simp[ai]at hj
theorem Bk {P:Program} (hm:P.follows .mixedOrders=true) {f:Nat} {args:List AV} {vs:Array Value} {w:World} {r:AV} (h:aP P f args r) (hr:∀g r0,gE g 6 r0=some r->r0=r) (hA:fo P w (fun b=>b<w.heap.size) (fun _=>none) args vs):
  Calls P f vs w fun e w'=>∃D ι u,e=.returned u/\dF P w' D ι r u/\Below w.heap.size w w':=by
 have hs:=gG hm (h 0) w.heap.size (fun b=>b<w.heap.size) (fun _=>none) w vs ⟨Nat.le_refl _,fun _ h=>h,fun id r h=>(by cases h),fun id jQ r r' B B' h=>(by cases h)⟩ (fun id h=>absurd rfl h) hA
 refine hs.mono ?_
 rintro e w' ⟨r0,g',n',D',ι',u,rfl,⟨r',hz,rfl⟩,ee,hsim,_,_,hZ⟩
 have:=hr _ _ hz
 subst this
 exact⟨D',ι',u,rfl,hZ,ee.below⟩
theorem om {g:Rows} {n:Nat} {a:AV} {k:IntKind} {m:Int} (h:gE g (n+1) a=some (.int k m)):a=.int k m:=by
 cases a<;>rw[gE]at h<;>simp_all
 all_goals (repeat' (split at h))<;>simp_all
theorem DH {g:Rows} {a:AV} {x y:Int} (h:gE g 6 a=some (.agg [.int .i64 x,.int .i64 y])):a=.agg [.int .i64 x,.int .i64 y]:=by
 cases a with
 |agg cs=>
  rw[zX]at h
  simp only[Option.map_eq_some_iff,AV.agg.injEq,exists_eq_right]at h
  match cs,h with
  |[],h=>rw[dH]at h;simp at h
  |[a],h=>
   rw[cV,dH]at h
   cases ha:gE g 5 a<;>simp[ha]at h
  |[a,b],h=>
   rw[cV,cV,dH]at h
   cases ha:gE g 5 a<;>cases hb:gE g 5 b<;>simp[ha,hb]at h
   obtain⟨rfl,rfl⟩:=h
   rw[om ha,om hb]
  |a::b::c::r,h=>
   rw[cV,cV,cV]at h
   cases ha:gE g 5 a<;>cases hb:gE g 5 b<;>cases hc:gE g 5 c<;>cases hd:fa g 5 r<;>simp[ha,hb,hc,hd]at h
 |_=>rw[gE]at h<;>simp_all<;>(repeat' (split at h))<;>simp_all
theorem EI (W:World) (p:af) (d:Int) (hd:je d 0 3=true) (hx:iB p.fu) (hy:iB p.eZ):Calls Tryz.prog 128 #[.agg #[.int .i64 p.fu,.int .i64 p.eZ],.int .i64 d] W fun e W'=>e=.returned (.agg #[.int .i64 (cN p d).fu,.int .i64 (cN p d).eZ])/\Below W.heap.size W W':=by
 refine(Bk mixed (EK p d hd hx hy) (fun g r0 h=>DH h) ?_:Calls _ _ _ _ _).mono ?_
 ·exact l7 (vs:= #[.int .i64 d]) (.agg _ _ (fun j=>if j=0 then .int .i64 p.fu else .int .i64 p.eZ) rfl (fun a ha=>by simp[aj]at ha;rcases ha with rfl|rfl<;>rfl) (fun j hj=>by match j,hj with|0,_=>rfl|1,_=>rfl|j+2,hj=>simp[aj]at hj;omega) (fun j a ha=>by match j,ha with|0,ha=>simp[aj]at ha;subst ha;exact .int _ _|1,ha=>simp[aj]at ha;subst ha;exact .int _ _|j+2,ha=>simp[aj]at ha)) (l7 (vs:= #[]) (.int _ _) wV)
 ·rintro e W' ⟨D,ι,u,rfl,hr,hB⟩
  refine⟨?_,hB⟩
  obtain⟨vs,f,rfl,e8,_,h1,h2⟩:=iw hr
  have v0:=h1 0 (by simp[aj])
  have v1:=h1 1 (by simp[aj])
  rw[dO (h2 0 _ rfl)]at v0
  rw[dO (h2 1 _ rfl)]at v1
  obtain⟨vl⟩:=vs
  match vl,e8 with
  |[a,b],_=>
   simp at v0 v1
   rw[v0,v1]
theorem xV (W:World) (l:List aa) (v:Value) (hP:po W v l) (p:af) (hR:nq l) (UT:l.length<=1048576):Calls Tryz.prog 195 #[.agg #[v],.agg #[.int .i64 p.fu,.int .i64 p.eZ]] W fun e W'=>e=.returned (.int .i64 (eF l p))/\Below W.heap.size W W':=by
 refine(Bk mixed (Hy l p hR UT) (fun g r0 h=>om h) ?_:Calls _ _ _ _ _).mono ?_
 ·exact l7 (vs:= #[.agg #[.int .i64 p.fu,.int .i64 p.eZ]]) (.agg _ _ (fun _=>v) rfl (fun a ha=>by simp at ha;rw[ha];rfl) (fun j hj=>by match j,hj with|0,_=>rfl|j+1,hj=>simp at hj) (fun j a ha=>by match j,ha with|0,ha=>simp at ha;subst ha;exact hP.eG|j+1,ha=>simp at ha)) (l7 (vs:= #[]) (.agg _ _ (fun j=>if j=0 then .int .i64 p.fu else .int .i64 p.eZ) rfl (fun a ha=>by simp[aj]at ha;rcases ha with rfl|rfl<;>rfl) (fun j hj=>by match j,hj with|0,_=>rfl|1,_=>rfl|j+2,hj=>simp[aj]at hj;omega) (fun j a ha=>by match j,ha with|0,ha=>simp[aj]at ha;subst ha;exact .int _ _|1,ha=>simp[aj]at ha;subst ha;exact .int _ _|j+2,ha=>simp[aj]at ha)) wV)
 ·rintro e W' ⟨D,ι,u,rfl,hr,hB⟩
  exact⟨by rw[dO hr],hB⟩
theorem grown_of {W W':World} (h:Below W.heap.size W W'):W.grownBy W' none:=⟨h.os,h.tape,h.output,h.size,fun k hk _=>h.block k hk⟩
def Co (l:List aa) (i:Nat) (d:Int):List (Nat×Nat×Int):=if 0<=eF l (cN (cP l i).cG d)then[(i,(eF l (cN (cP l i).cG d)).toNat,d)]else[]
def kD (l:List aa) (i m:Nat):List (Nat×Nat×Int):=(List.range m).flatMap fun j:Nat=>Co l i (1-(j:Int))
def kV (l:List aa) (n:Nat):List (Nat×Nat×Int):=(List.range n).flatMap fun i=>kD l i 2
theorem lX (l:List aa) (n:Nat):kV l (n+1)=kV l n++kD l n 2:=by simp[kV,List.range_succ]
theorem mK (l:List aa) (i m:Nat):kD l i (m+1)=kD l i m++Co l i (1-(m:Int)):=by simp[kD,List.range_succ]
theorem QO (l:List aa) {k m:Nat} (hk:k<l.length) (hm:m<=2):kV l k++kD l k m <+:kV l l.length:=by
 have h1:∀d,kV l k <+:kV l (k+d):=fun d=>by
  induction d with
  |zero=>exact List.prefix_refl _
  |succ d ih=>rw[<-Nat.add_assoc,lX l (k+d)];exact ih.trans (List.prefix_append _ _)
 have h2:∀d,kV l (k+1) <+:kV l (k+1+d):=fun d=>by
  induction d with
  |zero=>exact List.prefix_refl _
  |succ d ih=>rw[<-Nat.add_assoc,lX l (k+1+d)];exact ih.trans (List.prefix_append _ _)
 have h3:=h2 (l.length-(k+1))
 rw[show k+1+(l.length-(k+1))=l.length by omega,lX]at h3
 refine List.IsPrefix.trans ?_ h3
 have h4:kD l k m <+:kD l k 2:=by
  have:m=0∨m=1∨m=2:=ab
  rcases this with rfl|rfl|rfl
  ·exact List.nil_prefix
  ·rw[mK l k 1];exact List.prefix_append _ _
  ·exact List.prefix_refl _
 exact(List.prefix_append_right_inj _).2 h4
def R0 (l:List aa) (x:Nat×Nat×Int):Prop:=x.1<l.length/\x.2.1<l.length/\(0<=x.2.2/\x.2.2<=1)/\(x.2.1:Int)=eF l (cN (cP l x.1).cG x.2.2)
def Fi (x:Nat×Nat×Int):Array Value:= #[.agg #[.int .i64 (x.1:Int),.int .i64 (x.2.1:Int)],.int .i64 x.2.2]
theorem MT (l:List aa) (p:af) (h:0<l.length:=by omega):eF l p<(l.length:Int):=by
 unfold eF
 split<;>omega
theorem TP (l:List aa) (hA:lJ l) (q Ba:Nat) (vS:Value) (K:World->World->Prop) (kl:Ix K vS l) (J Jx:List (Nat×Nat×Int)->World->Prop) (n:Nat) (hn:1<=n)
  (hY:∀pre x W,J pre W->pre.length<(kV l l.length).length->R0 l x->YieldAt Fence.wide (n-1) Tryz.prog q (Fi x) W fun e W'=>
   (e=.returned (.bool true)/\J (pre++[x]) W'/\K W W')∨(e=.returned (.bool false)/\Jx (pre++[x]) W'))
  (W:World) (hJ:AbidesFrom W.heap.size J) (PQ:W.heap[Ba]? =some (.cells #[vS] 31 (0,0))) (hP:po W vS l) (h0:J [] W):
  CallsIn Fence.wide n Tryz.prog 194 #[.func (.yield q) #[] #[],.pointer (some ⟨Ba,0,none⟩)] W fun e W'=>(∃v,e=.returned v)/\
   ((∃ys,ys=kV l l.length/\J ys W')∨(∃pre,pre <+:kV l l.length/\Jx pre W')):=by
 obtain⟨A,cp,rfl,_,_⟩:=hP.sl
 refine callsIn_of_wp Tryz.func194 rfl trivial ?_ rfl
 simp only[Tryz.ntmps194,List.size_toArray,List.length_cons,List.length_nil,Nat.reduceAdd,Nat.reduceSub,Array.replicate_succ,Array.replicate_zero,List.push_toArray,List.append_toArray,List.nil_append,List.cons_append]
 have jA:W.cell? ⟨Ba,0,none⟩=some (.slice A l.length cp):=by simp[World.cell?,PQ]
 gi_wp2
 gi_loopw [11] (fun i wr=>∃k:Nat,k<=l.length/\i=.int .i64 k/\J (kV l k) wr/\K W wr)
  (fun i _=>l.length-(intOf i).toNat)
 case atStart=>exact⟨0,Nat.zero_le _,rfl,h0,kl.refl _⟩
 case round=>
  obtain⟨k,hk,rfl,SE,hKt⟩:=hrel
  by_cases eR:k<l.length
  ·have eb:∃b o,A=some ⟨b,o,none⟩/\wr.cell? ⟨b,o+k*3,none⟩=some (.int .i64 (cP l k).cG.fu)/\wr.cell? ⟨b,o+k*3+1,none⟩=some (.int .i64 (cP l k).cG.eZ)/\wr.cell? ⟨b,o+k*3+2,none⟩=some (.int .i64 (cP l k).cL):=by
    obtain⟨A',c',hv,_,hc⟩:=(kl.pl hKt hP).sl
    cases hv
    rcases hc with rfl|⟨b,o,rfl,kn⟩
    ·simp at eR
    ·obtain⟨h1,h2,h3⟩:=kn k eR
     exact⟨b,o,rfl,by simpa using h1,by rw[Nat.add_assoc];exact h2,by rw[Nat.add_assoc];exact h3⟩
   obtain⟨b,o,rfl,hx,hy',ht⟩:=eb
   gi_wp2
   obtain⟨W2,SJ⟩:∃W2,(wr.alloc (.cells #[.int .i64 (cP l k).cG.fu,.int .i64 (cP l k).cG.eZ,.int .i64 (cP l k).cL] 74)).alloc (.cells #[.int .i64 1,.int .i64 0] 2)=W2:=⟨_,rfl⟩
   have pv:Below wr.heap.size wr W2:=by rw[<-SJ];exact((Below.refl _ wr).alloc (Nat.le_refl _) _).alloc (by simp) _
   have Wm:W2.heap[wr.heap.size]? =some (.cells #[.int .i64 (cP l k).cG.fu,.int .i64 (cP l k).cG.eZ,.int .i64 (cP l k).cL] 74 (0,0)):=by
    rw[<-SJ,Below.heap_alloc _ _ _ (by simp)];exact World.alloc_heap_new _ _
   have Wk:W2.heap[wr.heap.size+1]? =some (.cells #[.int .i64 1,.int .i64 0] 2 (0,0)):=by
    have:=World.alloc_heap_new (wr.alloc (.cells #[.int .i64 (cP l k).cG.fu,.int .i64 (cP l k).cG.eZ,.int .i64 (cP l k).cL] 74)) (.cells #[.int .i64 1,.int .i64 0] 2)
    rw[World.size_alloc]at this
    rw[<-SJ];exact this
   have iY:K W W2:=kl.trans hKt (kl.of pv)
   have Wq:J (kV l k++kD l k 0) W2:=by
    have:=hJ _ _ _ none SE (grown_of pv) (fun r h=>by cases h)
    simpa[kD]using this
   rw[SJ]
   clear SJ
   generalize wr=w1 at *
   gi_loopw [18] (fun j wr=>∃m:Nat,m<=2/\j=.int .i64 m/\J (kV l k++kD l k m) wr/\K W2 wr)
    (fun j _=>2-(intOf j).toNat)
   case atStart=>exact⟨0,ab,rfl,Wq,kl.refl _⟩
   case round=>
    obtain⟨m,hm,rfl,hJm,Og⟩:=hrel
    have Th:m=0∨m=1∨m=2:=ab
    by_cases Vh:m<2
    ·have hkd:=kl.typed Og _ _ _ _ Wk (by decide) (by decide)
     have LG:=kl.typed Og _ _ _ _ Wm (by decide) (by decide)
     have hka:=kl.typed (kl.trans iY Og) _ _ _ _ PQ (by decide) (by decide)
     have cd:wr.cell? ⟨w1.heap.size+1,m,none⟩=some (.int .i64 (1-(m:Int))):=by
      rw[World.cell?_of_block hkd]
      rcases Th with rfl|rfl|rfl
      ·simp[World.cell?,Wk]
      ·simp[World.cell?,Wk]
      ·omega
     have ct0:wr.cell? ⟨w1.heap.size,0,none⟩=some (.int .i64 (cP l k).cG.fu):=by rw[World.cell?_of_block LG];simp[World.cell?,Wm]
     have ct1:wr.cell? ⟨w1.heap.size,1,none⟩=some (.int .i64 (cP l k).cG.eZ):=by rw[World.cell?_of_block LG];simp[World.cell?,Wm]
     have ca:wr.cell? ⟨Ba,0,none⟩=some (.slice (some ⟨b,o,none⟩) l.length cp):=by rw[World.cell?_of_block hka];simp[World.cell?,PQ]
     have hPw:po wr (.slice (some ⟨b,o,none⟩) l.length cp) l:=kl.pl (kl.trans iY Og) hP
     have hba:Ba<wr.heap.size:=by
      have h1:=(Array.getElem?_eq_some_iff.1 PQ).1
      have h2:=kl.size (kl.trans iY Og)
      omega
     have hdm:je (1-(m:Int)) 0 3=true:=ly ab
     have Tp:=Ax (hA.pt eR)
     have ML:=fun w0=>EI w0 (cP l k).cG (1-(m:Int)) hdm Tp.1 Tp.2
     have hPd:po wr.drew (.slice (some ⟨b,o,none⟩) l.length cp) l:=hPw.below ⟨rfl,rfl,rfl,Nat.le_refl _,fun _ _=>rfl⟩
     have cad:wr.drew.cell? ⟨Ba,0,none⟩=some (.slice (some ⟨b,o,none⟩) l.length cp):=ca
     have ctd0:wr.drew.cell? ⟨w1.heap.size,0,none⟩=some (.int .i64 (cP l k).cG.fu):=ct0
     have ctd1:wr.drew.cell? ⟨w1.heap.size,1,none⟩=some (.int .i64 (cP l k).cG.eZ):=ct1
     have hfw:=hA.CX
     have Te:=hA.OG
     have W4:=mixed
     gi_wp2
     gi_region_with_o (first|(refine⟨trivial,?_⟩;gi_at_call 128;refine(callsIn_wide.2 (ML _)).mono ?_;rintro e w3 ⟨rfl,BL⟩;have ca3:=(BL.cell (p:=⟨Ba,0,none⟩) hba).trans cad)|(refine⟨trivial,?_⟩;gi_at_call 195;refine(callsIn_wide.2 (xV _ l _ (hPd.below BL) (cN (cP l k).cG (1-(m:Int))) Te ab)).mono ?_;rintro e w4 ⟨rfl,hB4⟩))
     all_goals
      have PO:Below wr.heap.size wr w4:=(show Below wr.heap.size wr wr.drew from⟨rfl,rfl,rfl,Nat.le_refl _,fun _ _=>rfl⟩).trans (BL.trans (hB4.mono BL.size))
      have hJ4:J (kV l k++kD l k m) w4:=hJ _ _ _ none hJm (grown_of PO) (fun r h=>by cases h)
      have xP:=QO l eR (m:=m+1) ab
      rw[mK,<-List.append_assoc]at xP
      have BU:=mK l k m
      have hw:wrap64 ((m:Int)+1)=((m+1:Nat):Int):=by unfold wrap64;omega
      by_cases Aa:0<=eF l (cN (cP l k).cG (1-(m:Int)))
      ·have iO:((eF l (cN (cP l k).cG (1-(m:Int)))).toNat:Int)=eF l (cN (cP l k).cG (1-(m:Int))):=ab
       rw[Co,if_pos Aa]at xP BU
       obtain⟨fn,tmps,assign,body,hy,hR⟩:=hY _ (k,(eF l (cN (cP l k).cG (1-(m:Int)))).toNat,1-(m:Int)) w4 hJ4 (by
        have:=xP.length_le
        simp only[List.length_append,List.length_cons,List.length_nil]at this ⊢
        omega) ⟨eR,by
        have:eF l (cN (cP l k).cG (1-(m:Int)))<(l.length:Int):=MT _ _
        show(eF l (cN (cP l k).cG (1-(m:Int)))).toNat<l.length
        omega,⟨by show 0<=1-(m:Int);omega,by show 1-(m:Int)<=1;omega⟩,iO⟩
       simp only[Fi,iO]at hy
       gi_wp2
       refine hR.mono ?_
       rintro e W3 (⟨rfl,hJ3,LD⟩|⟨rfl,hJx3⟩)
       ·gi_wp2
        go_roundw
        case rel=>exact⟨m+1,ab,by simp,by rw[BU,<-List.append_assoc];exact hJ3,kl.trans (kl.trans Og (kl.of PO)) LD⟩
        case measure=>simp[intOf];omega
       ·gi_wp2
        refine bodyPost_ret (results_none rfl _ _ _) rfl ?_
        exact⟨⟨_,rfl⟩,.inr ⟨_,xP,hJx3⟩⟩
      ·rw[Co,if_neg Aa,List.append_nil]at BU
       gi_wp2
       refine⟨fun _ h=>(by cases h),?_⟩
       gi_wp2
       go_roundw
       case rel=>exact⟨m+1,ab,by simp,by rw[BU];exact hJ4,kl.trans Og (kl.of PO)⟩
       case measure=>simp[intOf];omega
    ·obtain rfl:m=2:=ab
     have hfw:=hA.CX
     gi_wp2
     go_roundw
     case rel=>exact⟨k+1,ab,by simp,by rw[lX];exact hJm,kl.trans iY Og⟩
     case measure=>simp[intOf];omega
  ·obtain rfl:k=l.length:=ab
   gi_wp2
   go_end0
   exact⟨⟨_,rfl⟩,.inl ⟨_,rfl,SE⟩⟩
theorem As (n:Nat) (vS:Value) (w:World):CallsIn Fence.wide n Tryz.prog 167 #[.agg #[vS]] w fun e w'=>e=.returned (.func (.func 194) #[] #[.pointer (some ⟨w.heap.size,0,none⟩)])/\w'=w.alloc (.cells #[vS] 31):=by
 refine callsIn_of_wp Tryz.func167 rfl trivial ?_ rfl
 simp only[Tryz.ntmps167,List.size_toArray,List.length_cons,List.length_nil,Nat.reduceAdd,Nat.reduceSub,Array.replicate_succ,Array.replicate_zero,List.push_toArray,List.append_toArray,List.nil_append,List.cons_append]
 gi_wp2
 go_ret
 exact⟨rfl,rfl⟩
abbrev O2 (l:List aa):Type:={x:Nat×Nat×Int // R0 l x}
theorem Kl (l:List aa) (hA:lJ l) (Ba n:Nat) (hn:1<=n) (vS:Value) (K:World->World->Prop) (kl:Ix K vS l) (w:World) (PQ:w.heap[Ba]? =some (.cells #[vS] 31 (0,0))) (hP:po w vS l):
  SeqStopsK Fence.wide n Tryz.prog 194 #[.pointer (some ⟨Ba,0,none⟩)] (fun x:O2 l=>Fi x.1) K (fun ys=>ys.map (·.1)=kV l l.length) (fun _=>True) (kV l l.length).length w:=fun q J Jx W hW hJ _ hY h0=>by
 refine(TP l hA q Ba vS K kl (fun ys W=>∃zs:List (O2 l),zs.map (·.1)=ys/\J zs W) (fun ys W=>∃zs:List (O2 l),zs.map (·.1)=ys/\Jx zs W) n hn (fun pre x W1 Wp eR Ac=>?_) W (fun s A B row ⟨zs,e,h⟩ hg hr=>⟨zs,e,hJ zs A B row h hg hr⟩) ((hW.block Ba (Array.getElem?_eq_some_iff.1 PQ).1).trans PQ) (hP.below hW) ⟨[],rfl,h0⟩).mono ?_
 ·obtain⟨zs,rfl,h1⟩:=Wp
  refine YieldAt.mono (hY zs ⟨x,Ac⟩ W1 h1 (by simpa using eR)) ?_
  rintro e W' (⟨h2,h3,h4⟩|⟨h2,h3⟩)
  ·exact .inl ⟨h2,⟨zs++[⟨x,Ac⟩],by simp,h3⟩,h4⟩
  ·exact .inr ⟨h2,⟨zs++[⟨x,Ac⟩],by simp,h3⟩⟩
 ·rintro e W' ⟨h1,⟨ys,rfl,zs,h2,h3⟩|⟨pre,_,zs,h2,h3⟩⟩
  ·exact⟨h1,.inl ⟨zs,h2,h3⟩⟩
  ·exact⟨h1,.inr ⟨zs,trivial,h3⟩⟩
def zF (s:aH) (l:List aa) (x:Nat×Nat×Int):List PB:=if 0<fV s (cP l x.1).cL x.2.2 (cP l x.2.1).cL then[⟨x.1,x.2.1,fV s (cP l x.1).cL x.2.2 (cP l x.2.1).cL⟩]else[]
theorem IY (s:aH) (l:List aa):dP s l=(kV l l.length).flatMap (zF s l):=by
 have h1:∀i d,lu s l i d=(Co l i d).flatMap (zF s l):=fun i d=>by
  unfold lu Co
  by_cases h:0<=eF l (cN (cP l i).cG d)
  ·rw[if_pos h]
   simp only[List.flatMap_cons,List.flatMap_nil,List.append_nil,zF]
   by_cases h2:0<fV s (cP l i).cL d (cP l (eF l (cN (cP l i).cG d)).toNat).cL
   ·rw[if_pos ⟨h,h2⟩,if_pos h2]
   ·rw[if_neg fun hc=>h2 hc.2,if_neg h2]
  ·rw[if_neg h,if_neg fun hc=>h hc.1];rfl
 unfold dP kW kV
 rw[List.flatMap_assoc]
 congr 1
 funext i
 unfold ik kD
 rw[List.flatMap_assoc]
 congr 1
 funext j
 exact h1 i _
end Go.Proofs.YtakkdjfmiffbfaaGreatDoor.V

namespace Go.Proofs.YtakkdjfmiffbfaaGreatDoor.V
open Go.RowKit
attribute [local irreducible] dL wpOps ez Call
attribute [local go_sem] ay ew dZ eE eC cY upd bJ K.av bZ AV.cells AV.cell rowOf rowsOf part ld rowAt eO bH bI cX dj eQ bq cF dx eA ed cQ dq cD cC dc de bu aE cm bt cr cq dn dr dp ck bz cE dm br aw cw bQ eP aZ bW bx aD cR aQ cZ AV.undef bd bj dh di c6 da bV dw dz bP du dt cu cz List.getD_cons_zero List.getD_cons_succ List.getD_nil List.all_cons List.all_nil Bool.and_true Bool.true_and Bool.and_self Bool.not_true Bool.not_false Option.map_some Option.map_none Option.bind_some Option.bind_none List.length_cons List.length_nil List.take_succ_cons List.take_zero List.take_nil List.drop_succ_cons List.drop_zero List.drop_nil List.head?_cons List.map_cons List.map_nil List.getElem?_cons_zero List.getElem?_cons_succ List.cons_append List.nil_append List.append_nil List.length_map List.set_cons_zero List.set_cons_succ Nat.reduceMul eq_self Int.toNat_natCast Int.natCast_nonneg and_self true_and and_true decide_true decide_false Bool.false_eq_true Nat.zero_add Nat.add_zero List.contains_cons List.contains_nil Bool.or_false Bool.false_or beq_self_eq_true Nat.reduceBEq ne_eq not_true_eq_false not_false_eq_true Id.mk.injEq false_and and_false Nat.reduceLT Int.reduceLE Int.reduceLT Int.reduceToNat Int.reduceNeg Int.reduceAdd Nat.le_refl List.length_append beq_true beq_false Bool.not_eq_eq_eq_not or_false false_or dW ad ae aL aI bf bR az bc aA aJ cj bh
def AE (bs:List PB):AV:=if bs=[]then .bB else .sl (bs.map dB)
theorem NB:AE []=.bB:=rfl
theorem AF {bs:List PB} (h:0<bs.length):AE bs=.sl (bs.map dB):=by
 unfold AE
 rw[if_neg (by rintro rfl;simp at h)]
theorem xH (cnt:Nat) (qq:1<=cnt) (hn:cnt<=1048576) (bs:List PB) (hb:∀b∈bs,b.a<cnt/\b.b<cnt) (hp:0<bs.length) (nA:bs.length<=1048576) (t:Int):aP Tryz.prog 125 [.int .i64 cnt,.sl (bs.map dB),.int .i64 t] (.fK [.int .i64 (leads cnt (fI (cH t bs))).length,AE (eh (fI (cH t bs)) bs)]):=by
 refine aP.body fH rfl fun hl n0=>?_
 clear hl
 (try((repeat(revert hN;revert N;apply Pn.out));refine wk @Nat.zero_add ?_;(repeat(refine Pn.mk ?_;intro N hN))))
 refine .inr (aS _ _ _ _ _ (fun r σ1 hq=>?_) (I4 bs hp nA _))
 obtain⟨o,rfl,ho,ME,MF,SX⟩:=hq
 (try dsimp only at ho ME MF SX)
 refine hN _ _ ?_
 clear hN N
 (try((repeat(revert hN;revert N;apply Pn.out));refine wk @Nat.zero_add ?_;(repeat(refine Pn.mk ?_;intro N hN))))
 refine .inr (aS _ _ _ _ _ (fun r σ2 hq=>?_) (GC bs t nA o ⟨125000000,n0⟩ _ ho (by rw[SX _ bL];simp only[go_sem, ↓reduceIte,Nat.reduceEqDiff,Nat.reduceAdd,Nat.reduceSub,Nat.reduceLeDiff,reduceCtorEq]) bL bL (by rintro rfl;simp only at ME;omega)))
 obtain⟨rows,rfl,fS,hrt,xQ,p7,SY⟩:=hq
 (try dsimp only at p7 SY)
 refine hN _ _ ?_
 clear hN N
 have Lz:=vL cnt qq hn (cH t bs) (fun b h=>hb b (EN h)) (by have:=xe t bs;omega)
 have hL:=Cd (cH t bs)
 have hz:∀x,er (dW σ2.get) 6 [.int .i64 x,.own o 0 (cH t bs).length]=some [.int .i64 x,.sl ((cH t bs).map dB)]:=fun x=>by
  have:V.fz (dW σ2.get) 6 (.own o 0 (cH t bs).length)=some (.sl ((cH t bs).map dB)):=by
   rw[mC];simp only[dW,fS,Option.map_some,if_true]
   rw[if_pos ab,List.drop_zero,hrt,pW fun b=>DF _ 4 b];rfl
  simp only[ad,ae,aL,this,Option.map_some]
 (try((repeat(revert hN;revert N;apply Pn.out));refine wk @Nat.zero_add ?_;(repeat(refine Pn.mk ?_;intro N hN))))
 refine .inl ⟨_,aP.x Lz (hz _),?_⟩
 refine hN _ _ ?_
 clear hN N
 generalize fI (cH t bs)=L at *
 have sv:((iJ cnt L).map I9).length=(leads cnt L).length:=by simp[iJ]
 have WW:=lR cnt L
 have jA:(0:Int)<=(cnt:Int):=ab
 have pF:(cnt:Int)<=((16777216:Nat):Int):=ab
 have hZ:List.replicate cnt [AV.int .i64 0]=fX (ev cnt L 0 0) cnt:=by rw[CP,tF]
 (try((repeat(revert hN;revert N;apply Pn.out));refine wk (tw @jA (tw @pF (tw @Int.le_refl (tw @sv @hZ)))) ?_;(repeat(refine Pn.mk ?_;intro N hN))))
 refine cU (fun n env st=>∃i:Nat,n=((leads cnt L).length)-i/\i<=((leads cnt L).length)/\env 27=.int .i64 (i:Int)/\st.get ⟨125002001,σ2.next+1⟩=some ⟨true,1,fX (ev cnt L i 0) cnt⟩/\(σ2.next+1<st.next)) ((leads cnt L).length) ⟨0,ab,ab,sl (tw @hZ @sv),sl (tw @hZ @sv),bL⟩ ?_
 rintro n_c env_c st_c ⟨i,rfl,cle,c27,cg0,cI0⟩ cfr
 have c1:=cfr 1 (by kernel_rfl);have c8:=cfr 8 (by kernel_rfl);have c9:=cfr 9 (by kernel_rfl);have xE:=cfr 25 (by kernel_rfl);have xF:=cfr 26 (by kernel_rfl)
 simp only[go_sem, ↓reduceIte,Nat.reduceEqDiff,Nat.reduceAdd,Nat.reduceSub,Nat.reduceLeDiff,reduceCtorEq,hZ,sv]at c1 c8 c9 xE xF
 clear cfr
 by_cases hi:(i:Int)<((leads cnt L).length:Int)
 ·have wJ:∀{e:Env} {gg:Rows} {nx:Nat},(e 27=.int .i64 (IntKind.i64.wrap ((i:Int)+1)))->(gg ⟨125002001,σ2.next+1⟩=some ⟨true,1,fX (ev cnt L (i+1) 0) cnt⟩)->(σ2.next+1<nx)->∃m0,m0<((leads cnt L).length)-i/\∃i:Nat,m0=((leads cnt L).length)-i/\i<=((leads cnt L).length)/\e 27=.int .i64 (i:Int)/\gg ⟨125002001,σ2.next+1⟩=some ⟨true,1,fX (ev cnt L i 0) cnt⟩/\(σ2.next+1<nx):=fun x1 x2 x3=>⟨_,ab,i+1,rfl,ab,(by rw[x1,cI ab]),x2,x3⟩
  have iO:i<(leads cnt L).length:=ab
  have DS:((iJ cnt L).map I9)[i]? =some (I9 (members cnt L (leads cnt L)[i])):=by simp[iJ,iO]
  have z8:(leads cnt L).getD i 0=(leads cnt L)[i]:=by simp[List.getD_eq_getElem?_getD,iO]
  have JY:∀m,ev cnt L i m=fun x=>if dV L x<i then dV L x else if x∈(members cnt L (leads cnt L)[i]).take m then i else 0:=fun m=>by unfold ev;rw[z8]
  have JJ:=fun x (hx:x<cnt)=>y4 hL (n:=cnt) (k:=x) (i:=i) hx iO
  have pI:(members cnt L (leads cnt L)[i]).Nodup:=List.nodup_range.filter _
  have Qk:∀x∈members cnt L (leads cnt L)[i],x<cnt:=fun x hx=>(oy.1 hx).1
  have hMc:(members cnt L (leads cnt L)[i]).length<=cnt:=by
   have:=List.length_filter_le (fun k=>L k==(leads cnt L)[i]) (List.range cnt)
   simpa[members]using this
  generalize members cnt L (leads cnt L)[i]=M at *
  have GQ:(M.map eN).length=M.length:=by simp
  (try((repeat(revert hN;revert N;apply Pn.out));refine wk (tw @c27 (tw @cg0 (tw @c1 (tw @c8 (tw @c9 (tw @xE (tw @xF (tw @hi (tw @sv (tw @DS (tw @I9.eq_1 @GQ))))))))))) ?_;(repeat(refine Pn.mk ?_;intro N hN))))
  refine cU (fun n env st=>∃m:Nat,n=(M.length)-m/\m<=(M.length)/\env 34=.int .i64 (m:Int)/\st.get ⟨125002001,σ2.next+1⟩=some ⟨true,1,fX (ev cnt L i m) cnt⟩/\(σ2.next+1<st.next)) (M.length) ⟨0,ab,ab,sl (tw @c27 (tw @cg0 (tw @c1 (tw @c8 (tw @c9 (tw @xE (tw @xF @GQ))))))),sl (tw @c27 (tw @cg0 (tw @c1 (tw @c8 (tw @c9 (tw @xE (tw @xF @GQ))))))),bL⟩ ?_
  rintro n_d env_d st_d ⟨m,rfl,dle,d34,dg0,dI0⟩ dfr
  have d1:=dfr 1 (by kernel_rfl);have d8:=dfr 8 (by kernel_rfl);have d9:=dfr 9 (by kernel_rfl);have d10:=dfr 10 (by kernel_rfl);have d25:=dfr 25 (by kernel_rfl);have d26:=dfr 26 (by kernel_rfl);have d27:=dfr 27 (by kernel_rfl);have d32:=dfr 32 (by kernel_rfl);have d33:=dfr 33 (by kernel_rfl)
  simp only[go_sem, ↓reduceIte,Nat.reduceEqDiff,Nat.reduceAdd,Nat.reduceSub,Nat.reduceLeDiff,reduceCtorEq,c27,cg0,c1,c8,c9,xE,xF,GQ]at d1 d8 d9 d10 d25 d26 d27 d32 d33
  clear dfr
  have tl:=js (ev cnt L i m) cnt
  by_cases hm:(m:Int)<(M.length:Int)
  ·have wK:∀{e:Env} {gg:Rows} {nx:Nat},(e 34=.int .i64 (IntKind.i64.wrap ((m:Int)+1)))->(gg ⟨125002001,σ2.next+1⟩=some ⟨true,1,fX (ev cnt L i (m+1)) cnt⟩)->(σ2.next+1<nx)->∃m0,m0<(M.length)-m/\∃m:Nat,m0=(M.length)-m/\m<=(M.length)/\e 34=.int .i64 (m:Int)/\gg ⟨125002001,σ2.next+1⟩=some ⟨true,1,fX (ev cnt L i m) cnt⟩/\(σ2.next+1<nx):=fun x1 x2 x3=>⟨_,ab,m+1,rfl,ab,(by rw[x1,cI ab]),x2,x3⟩
   have G1:m<M.length:=ab
   have Ih:(M.map eN)[m]? =some (eN M[m]):=by simp[G1]
   have D5:=Qk _ (List.getElem_mem G1)
   have Ox:(M[m]:Int)<(cnt:Int):=ab
   have DZ:=iP (f:=ev cnt L i m) D5
   have jc:(fX (ev cnt L i m) cnt).set M[m] (eN i)=fX (ev cnt L i (m+1)) cnt:=uB D5 (by
    have h1:=(JJ _ D5).1 (List.getElem_mem G1)
    rw[JY]
    simp only[]
    rw[if_neg ab,if_pos (by rw[List.take_succ_eq_append_getElem G1];exact List.mem_append_right _ (List.mem_singleton.2 rfl))]) fun x hx ig=>by
    rw[JY,JY]
    simp only[]
    rw[List.take_succ_eq_append_getElem G1]
    simp only[List.mem_append,List.mem_singleton,ig,or_false]
   rw[eN]at jc DZ
   generalize M[m]=xm at *
   (try((repeat(revert hN;revert N;apply Pn.out));refine wk (tw @d34 (tw @dg0 (tw @d1 (tw @d8 (tw @d9 (tw @d10 (tw @d25 (tw @d26 (tw @d27 (tw @d32 (tw @d33 (tw @hm (tw @hi (tw @Ih (tw @GQ (tw @Ox (tw @DZ (tw @tl (tw @jc @eN.eq_1))))))))))))))))))) ?_;(repeat(refine Pn.mk ?_;intro N hN))))
   refine wK ?_ ?_ bL
   all_goals simp only[go_sem, ↓reduceIte,Nat.reduceEqDiff,Nat.reduceAdd,Nat.reduceSub,Nat.reduceLeDiff,reduceCtorEq,d34,dg0,d1,d8,d9,d10,d25,d26,d27,d32,d33,jc]
  ·have fw:m=M.length:=ab
   subst fw
   have BU:fX (ev cnt L i M.length) cnt=fX (ev cnt L (i+1) 0) cnt:=kf fun x hx=>by
    rw[JY,List.take_length]
    simp only[ev,List.take_zero,List.not_mem_nil,if_false]
    have h1:=JJ x hx
    by_cases h2:dV L x<i
    ·rw[if_pos h2,if_pos ab]
    ·rw[if_neg h2]
     by_cases h3:x∈M
     ·rw[if_pos h3,if_pos (by have:=h1.1 h3;omega),h1.1 h3]
     ·rw[if_neg h3,if_neg fun h4=>h3 (h1.2 ab)]
   (try((repeat(revert hN;revert N;apply Pn.out));refine wk (tw @d34 (tw @dg0 (tw @d1 (tw @d8 (tw @d9 (tw @d10 (tw @d25 (tw @d26 (tw @d27 (tw @d32 (tw @d33 (tw @hm (tw @hi (tw @sv @GQ)))))))))))))) ?_;(repeat(refine Pn.mk ?_;intro N hN))))
   refine wJ ?_ ?_ bL
   all_goals simp only[go_sem, ↓reduceIte,Nat.reduceEqDiff,Nat.reduceAdd,Nat.reduceSub,Nat.reduceLeDiff,reduceCtorEq,c27,cg0,c1,c8,c9,xE,xF,d34,dg0,d1,d8,d9,d10,d25,d26,d27,d32,d33,BU]
 have qp:i=(leads cnt L).length:=ab
 subst qp
 have qt:fX (ev cnt L (leads cnt L).length 0) cnt=fX (dV L) cnt:=kf fun x hx=>by rw[ev,if_pos (oz hL hx)]
 rw[qt]at cg0
 have tl:=js (dV L) cnt
 have U7:(bs.map dB).length=bs.length:=by simp
 (try((repeat(revert hN;revert N;apply Pn.out));refine wk (tw @c27 (tw @cg0 (tw @c1 (tw @c8 (tw @c9 (tw @xE (tw @xF (tw @hi (tw @sv @U7))))))))) ?_;(repeat(refine Pn.mk ?_;intro N hN))))
 have hcn:σ2.next+1<st_c.next:=cI0
 refine cU (fun n env st=>∃j:Nat,n=(bs.length)-j/\j<=(bs.length)/\env 46=.int .i64 (j:Int)/\st.get ⟨125002001,σ2.next+1⟩=some ⟨true,1,fX (dV L) cnt⟩/\(st_c.next<=st.next/\((eh L (bs.take j)=[]/\env 14=.bB)∨∃p:Id,env 14=.own p 0 (eh L (bs.take j)).length/\st.get p=some ⟨true,3,(eh L (bs.take j)).map dB⟩/\st_c.next<=p.cW/\p.cW<st.next/\0<(eh L (bs.take j)).length))) (bs.length) ⟨0,ab,ab,sl (tw @c27 (tw @cg0 (tw @c1 (tw @c8 (tw @c9 (tw @xE (tw @xF @U7))))))),sl (tw @c27 (tw @cg0 (tw @c1 (tw @c8 (tw @c9 (tw @xE (tw @xF @U7))))))),⟨bL,.inl ⟨rfl,by(simp only[go_sem, ↓reduceIte,Nat.reduceEqDiff,Nat.reduceAdd,Nat.reduceSub,Nat.reduceLeDiff,reduceCtorEq])⟩⟩⟩ ?_
 rintro n_f env_f st_f ⟨j,rfl,fle,f46,fg0,fI0⟩ ffr
 have f1:=ffr 1 (by kernel_rfl);have f8:=ffr 8 (by kernel_rfl);have f9:=ffr 9 (by kernel_rfl);have f44:=ffr 44 (by kernel_rfl);have f45:=ffr 45 (by kernel_rfl)
 simp only[go_sem, ↓reduceIte,Nat.reduceEqDiff,Nat.reduceAdd,Nat.reduceSub,Nat.reduceLeDiff,reduceCtorEq,c27,cg0,c1,c8,c9,xE,xF,U7]at f1 f8 f9 f44 f45
 clear ffr
 obtain⟨Om,fO⟩:=fI0
 have Ow:=dE (i:=⟨125002001,σ2.next+1⟩) (n:=st_f.next) bL
 have nP:=(xb L (bs.take j)).1
 rw[List.length_take]at nP
 by_cases hj:(j:Int)<(bs.length:Int)
 ·have Ko:∀{e:Env} {gg:Rows} {nx:Nat},(e 46=.int .i64 (IntKind.i64.wrap ((j:Int)+1)))->(gg ⟨125002001,σ2.next+1⟩=some ⟨true,1,fX (dV L) cnt⟩)->(st_c.next<=nx/\((eh L (bs.take (j+1))=[]/\e 14=.bB)∨∃p:Id,e 14=.own p 0 (eh L (bs.take (j+1))).length/\gg p=some ⟨true,3,(eh L (bs.take (j+1))).map dB⟩/\st_c.next<=p.cW/\p.cW<nx/\0<(eh L (bs.take (j+1))).length))->∃m0,m0<(bs.length)-j/\∃j:Nat,m0=(bs.length)-j/\j<=(bs.length)/\e 46=.int .i64 (j:Int)/\gg ⟨125002001,σ2.next+1⟩=some ⟨true,1,fX (dV L) cnt⟩/\(st_c.next<=nx/\((eh L (bs.take j)=[]/\e 14=.bB)∨∃p:Id,e 14=.own p 0 (eh L (bs.take j)).length/\gg p=some ⟨true,3,(eh L (bs.take j)).map dB⟩/\st_c.next<=p.cW/\p.cW<nx/\0<(eh L (bs.take j)).length)):=fun x1 x2 x3=>⟨_,ab,j+1,rfl,ab,(by rw[x1,cI ab]),x2,x3⟩
  have vV:j<bs.length:=ab
  have Mz:(bs.map dB)[j]? =some (dB bs[j]):=by simp[vV]
  have hbj:=hb _ (List.getElem_mem vV)
  have hs:=AD L (bs.take j) bs[j]
  rw[<-List.take_succ_eq_append_getElem vV]at hs
  generalize bs[j]=b at *
  have hA:=iP (f:=dV L) hbj.1
  have hB:=iP (f:=dV L) hbj.2
  have DO:(b.a:Int)<(cnt:Int):=ab
  have rW:(b.b:Int)<(cnt:Int):=ab
  rw[eN]at hA hB
  have e1:(eh L (bs.take j)).length+1<=16777216:=ab
  have fw:((eh L (bs.take j)).map dB).length=(eh L (bs.take j)).length:=by simp
  by_cases he:dV L b.a=dV L b.b
  ·rw[if_pos he,List.append_nil]at hs
   have Ly:decide ((dV L b.a:Int)=(dV L b.b:Int))=true:=decide_eq_true (by rw[he])
   (try((repeat(revert hN;revert N;apply Pn.out));refine wk (tw @f46 (tw @fg0 (tw @f1 (tw @f8 (tw @f9 (tw @f44 (tw @f45 (tw @hj (tw @Mz (tw @hA (tw @hB (tw @DO (tw @rW (tw @tl (tw @Ly (tw @Ow (tw @dB.eq_1 (tw @Bool.not_true @Bool.not_false)))))))))))))))))) ?_;(repeat(refine Pn.mk ?_;intro N hN))))
   refine Ko ?_ ?_ (by(try dsimp only);exact⟨ab,by
    rw[hs]
    rcases fO with⟨h1,h2⟩|⟨p,h1,h2,h3,h4,h5⟩
    ·exact .inl ⟨h1,sd @h2⟩
    ·have TA:=dE h4
     exact .inr ⟨p,sd @h1,sd (tw @h2 @TA),h3,ab,h5⟩⟩)
   all_goals simp only[go_sem, ↓reduceIte,Nat.reduceEqDiff,Nat.reduceAdd,Nat.reduceSub,Nat.reduceLeDiff,reduceCtorEq,f46,fg0,f1,f8,f9,f44,f45,Ow]
  ·rw[if_neg he]at hs
   have Ly:decide ((dV L b.a:Int)=(dV L b.b:Int))=false:=decide_eq_false fun h=>he ab
   rcases fO with⟨h1,f14⟩|⟨p,f14,fg,MH,DW,hp3⟩
   ·rw[h1]at hs
    (try((repeat(revert hN;revert N;apply Pn.out));refine wk (tw @f46 (tw @fg0 (tw @f1 (tw @f8 (tw @f9 (tw @f44 (tw @f45 (tw @f14 (tw @hj (tw @Mz (tw @hA (tw @hB (tw @DO (tw @rW (tw @tl (tw @Ly (tw @Ow (tw @dB.eq_1 (tw @Bool.not_true @Bool.not_false))))))))))))))))))) ?_;(repeat(refine Pn.mk ?_;intro N hN))))
    refine Ko ?_ ?_ (by(try dsimp only);exact⟨ab,.inr ⟨⟨125017015,st_f.next+1+1+1⟩,by rw[hs];simp only[go_sem, ↓reduceIte,Nat.reduceEqDiff,Nat.reduceAdd,Nat.reduceSub,Nat.reduceLeDiff,reduceCtorEq,List.nil_append,List.length_cons,List.length_nil],by rw[hs];simp only[go_sem, ↓reduceIte,Nat.reduceEqDiff,Nat.reduceAdd,Nat.reduceSub,Nat.reduceLeDiff,reduceCtorEq,dB,List.nil_append,List.map_cons,List.map_nil],bL,bL,by rw[hs];simp⟩⟩)
    all_goals simp only[go_sem, ↓reduceIte,Nat.reduceEqDiff,Nat.reduceAdd,Nat.reduceSub,Nat.reduceLeDiff,reduceCtorEq,f46,fg0,f1,f8,f9,f44,f45,Ow]
   ·have x1:=dD (a:=⟨125002001,σ2.next+1⟩) (b:=p) bL
    have TA:=dE DW
    (try((repeat(revert hN;revert N;apply Pn.out));refine wk (tw @f46 (tw @fg0 (tw @f1 (tw @f8 (tw @f9 (tw @f44 (tw @f45 (tw @f14 (tw @fg (tw @hj (tw @Mz (tw @hA (tw @hB (tw @DO (tw @rW (tw @tl (tw @Ly (tw @x1 (tw @TA (tw @Ow (tw @e1 (tw @fw (tw @dB.eq_1 (tw @Bool.not_true @Bool.not_false)))))))))))))))))))))))) ?_;(repeat(refine Pn.mk ?_;intro N hN))))
    refine Ko ?_ ?_ (by(try dsimp only);exact⟨ab,.inr ⟨⟨125017015,st_f.next+1+1+1⟩,by rw[hs,List.length_append];simp only[go_sem, ↓reduceIte,Nat.reduceEqDiff,Nat.reduceAdd,Nat.reduceSub,Nat.reduceLeDiff,reduceCtorEq,List.length_cons,List.length_nil],by rw[hs,List.map_append,List.map_cons,List.map_nil];simp only[go_sem, ↓reduceIte,Nat.reduceEqDiff,Nat.reduceAdd,Nat.reduceSub,Nat.reduceLeDiff,reduceCtorEq,dB],bL,bL,by rw[hs];simp⟩⟩)
    all_goals simp only[go_sem, ↓reduceIte,Nat.reduceEqDiff,Nat.reduceAdd,Nat.reduceSub,Nat.reduceLeDiff,reduceCtorEq,f46,fg0,f1,f8,f9,f44,f45,x1,Ow]
 ·have iZ:j=bs.length:=ab
  subst iZ
  rw[List.take_length]at fO
  rcases fO with⟨h1,f14⟩|⟨p,f14,fg,MH,DW,hp3⟩
  ·(try((repeat(revert hN;revert N;apply Pn.out));refine wk (tw @f46 (tw @fg0 (tw @f1 (tw @f8 (tw @f9 (tw @f44 (tw @f45 (tw @f14 (tw @hj @sv))))))))) ?_;(repeat(refine Pn.mk ?_;intro N hN))))
   refine l8 (.inl rfl) (r1:=.int .i64 ((leads cnt L).length:Int)) (sd @Nat.zero_add) (by simp only[go_sem, ↓reduceIte,Nat.reduceEqDiff,Nat.reduceAdd,Nat.reduceSub,Nat.reduceLeDiff,reduceCtorEq];rfl) ?_
   simp only[gp,cV,dH,eW,lQ,h1,NB,Option.map_some]
  ·(try((repeat(revert hN;revert N;apply Pn.out));refine wk (tw @f46 (tw @fg0 (tw @f1 (tw @f8 (tw @f9 (tw @f44 (tw @f45 (tw @f14 (tw @hj @sv))))))))) ?_;(repeat(refine Pn.mk ?_;intro N hN))))
   refine l8 (.inl rfl) (r1:=.int .i64 ((leads cnt L).length:Int)) (sd @Nat.zero_add) (by simp only[go_sem, ↓reduceIte,Nat.reduceEqDiff,Nat.reduceAdd,Nat.reduceSub,Nat.reduceLeDiff,reduceCtorEq];rfl) ?_
   have h1:gE st_f.get 5 (.own p 0 (eh L bs).length)=some (.sl ((eh L bs).map dB)):=fN (sz:=3) fg rfl fun b=>Fw _ 3 b
   simp only[gp,cV,dH,eW,h1,AF hp3,Option.map_some]
theorem xG (cnt:Nat) (qq:1<=cnt) (hn:cnt<=1048576) (t:Int):aP Tryz.prog 125 [.int .i64 cnt,.bB,.int .i64 t] (.fK [.int .i64 cnt,.bB]):=by
 refine aP.body fH rfl fun hl n0=>?_
 clear hl
 have h1:aP Tryz.prog 165 [.bB] .bB:=by
  refine aP.body fH rfl fun hl n0=>?_
  clear hl
  (try((repeat(revert hN;revert N;apply Pn.out));refine wk @Nat.zero_add ?_;(repeat(refine Pn.mk ?_;intro N hN))))
  exact zi (.inl rfl) (r0:=.bB) (sd @Nat.zero_add) (lQ _ _)
 have h2:aP Tryz.prog 164 [.bB,.fn 166 [.eT [.int .i64 t]]] .bB:=by
  have WR:=(yM [] t (by simp)).cut mixed (.bB (.same _ .nil))
  refine aP.body fH rfl fun hl n0=>?_
  clear hl
  (try((repeat(revert hN;revert N;apply Pn.out));refine wk @Nat.zero_add ?_;(repeat(refine Pn.mk ?_;intro N hN))))
  refine .inl ⟨_,aP.x WR (by simp only[ad,ae,az,cj,aA,List.all_cons,List.all_nil,AV.cell,Bool.and_true,if_true,Option.map_some]),?_⟩
  refine hN _ _ ?_
  clear hN N
  have hd:decide (kj (fun b:PB=>decide (b.s<t)) []= -1)=true:=rfl
  (try((repeat(revert hN;revert N;apply Pn.out));refine wk @hd ?_;(repeat(refine Pn.mk ?_;intro N hN))))
  exact zi (.inl rfl) (r0:=.bB) (sd @Nat.zero_add) (lQ _ _)
 have Lz:=(vL cnt qq hn [] (fun b h=>by cases h) (by simp)).cut mixed (.same _ (.bB .nil))
 (repeat(first|((repeat(revert hN;revert N;apply Pn.out));refine wk @Nat.zero_add ?_;(repeat(refine Pn.mk ?_;intro N hN)))|((try apply Or.inl);refine⟨_,aP.x (h1) (sd @Nat.zero_add),?_⟩;refine hN _ _ ?_;clear hN N)))
 refine .inl ⟨_,aP.x h2 ?_,?_⟩
 ·have:V.fz (dW (bH (fun _=>none) ⟨125000000,n0⟩ ⟨true,1,[[.int .i64 t]]⟩)) 5 (.ptr ⟨125000000,n0⟩ 0 0)=some (.eT [.int .i64 t]):=vJ (sz:=1) (rows:=[[.int .i64 t]]) (by simp[dW,bH]) rfl (by simp only[List.drop_zero,ad,ae,aL,Option.map_some])
  simp only[ad,ae,az,cj,this,List.all_cons,List.all_nil,AV.cell,Bool.and_true,if_true,Option.map_some]
 refine hN _ _ ?_
 clear hN N
 have rW:fI ([]:List PB)=id:=rfl
 rw[rW]at Lz
 have hL:jM id:=rW▸Cd ([]:List PB)
 have RD:(leads cnt id).length=cnt:=by rw[leads,List.filter_eq_self.2 (fun a _=>by simp)];simp
 generalize (id:Nat->Nat)=L at *
 have sv:((iJ cnt L).map I9).length=(leads cnt L).length:=by simp[iJ]
 have WW:=lR cnt L
 have jA:(0:Int)<=(cnt:Int):=ab
 have pF:(cnt:Int)<=((16777216:Nat):Int):=ab
 have hZ:List.replicate cnt [AV.int .i64 0]=fX (ev cnt L 0 0) cnt:=by rw[CP,tF]
 (repeat(first|((repeat(revert hN;revert N;apply Pn.out));refine wk (tw @jA (tw @pF (tw @Int.le_refl (tw @sv @hZ)))) ?_;(repeat(refine Pn.mk ?_;intro N hN)))|((try apply Or.inl);refine⟨_,aP.x (Lz) (sd (tw @jA (tw @pF (tw @Int.le_refl (tw @sv @hZ))))),?_⟩;refine hN _ _ ?_;clear hN N)))
 refine cU (fun n env st=>∃i:Nat,n=((leads cnt L).length)-i/\i<=((leads cnt L).length)/\env 27=.int .i64 (i:Int)/\st.get ⟨125002001,n0+1+1⟩=some ⟨true,1,fX (ev cnt L i 0) cnt⟩/\(n0+1+1<st.next)) ((leads cnt L).length) ⟨0,ab,ab,sl (tw @hZ @sv),sl (tw @hZ @sv),bL⟩ ?_
 rintro n_c env_c st_c ⟨i,rfl,cle,c27,cg0,cI0⟩ cfr
 have c1:=cfr 1 (by kernel_rfl);have c8:=cfr 8 (by kernel_rfl);have c9:=cfr 9 (by kernel_rfl);have xE:=cfr 25 (by kernel_rfl);have xF:=cfr 26 (by kernel_rfl)
 simp only[go_sem, ↓reduceIte,Nat.reduceEqDiff,Nat.reduceAdd,Nat.reduceSub,Nat.reduceLeDiff,reduceCtorEq,hZ,sv]at c1 c8 c9 xE xF
 clear cfr
 by_cases hi:(i:Int)<((leads cnt L).length:Int)
 ·have wJ:∀{e:Env} {gg:Rows} {nx:Nat},(e 27=.int .i64 (IntKind.i64.wrap ((i:Int)+1)))->(gg ⟨125002001,n0+1+1⟩=some ⟨true,1,fX (ev cnt L (i+1) 0) cnt⟩)->(n0+1+1<nx)->∃m0,m0<((leads cnt L).length)-i/\∃i:Nat,m0=((leads cnt L).length)-i/\i<=((leads cnt L).length)/\e 27=.int .i64 (i:Int)/\gg ⟨125002001,n0+1+1⟩=some ⟨true,1,fX (ev cnt L i 0) cnt⟩/\(n0+1+1<nx):=fun x1 x2 x3=>⟨_,ab,i+1,rfl,ab,(by rw[x1,cI ab]),x2,x3⟩
  have iO:i<(leads cnt L).length:=ab
  have DS:((iJ cnt L).map I9)[i]? =some (I9 (members cnt L (leads cnt L)[i])):=by simp[iJ,iO]
  have z8:(leads cnt L).getD i 0=(leads cnt L)[i]:=by simp[List.getD_eq_getElem?_getD,iO]
  have JY:∀m,ev cnt L i m=fun x=>if dV L x<i then dV L x else if x∈(members cnt L (leads cnt L)[i]).take m then i else 0:=fun m=>by unfold ev;rw[z8]
  have JJ:=fun x (hx:x<cnt)=>y4 hL (n:=cnt) (k:=x) (i:=i) hx iO
  have pI:(members cnt L (leads cnt L)[i]).Nodup:=List.nodup_range.filter _
  have Qk:∀x∈members cnt L (leads cnt L)[i],x<cnt:=fun x hx=>(oy.1 hx).1
  have hMc:(members cnt L (leads cnt L)[i]).length<=cnt:=by
   have:=List.length_filter_le (fun k=>L k==(leads cnt L)[i]) (List.range cnt)
   simpa[members]using this
  generalize members cnt L (leads cnt L)[i]=M at *
  have GQ:(M.map eN).length=M.length:=by simp
  (try((repeat(revert hN;revert N;apply Pn.out));refine wk (tw @c27 (tw @cg0 (tw @c1 (tw @c8 (tw @c9 (tw @xE (tw @xF (tw @hi (tw @sv (tw @DS (tw @I9.eq_1 @GQ))))))))))) ?_;(repeat(refine Pn.mk ?_;intro N hN))))
  refine cU (fun n env st=>∃m:Nat,n=(M.length)-m/\m<=(M.length)/\env 34=.int .i64 (m:Int)/\st.get ⟨125002001,n0+1+1⟩=some ⟨true,1,fX (ev cnt L i m) cnt⟩/\(n0+1+1<st.next)) (M.length) ⟨0,ab,ab,sl (tw @c27 (tw @cg0 (tw @c1 (tw @c8 (tw @c9 (tw @xE (tw @xF @GQ))))))),sl (tw @c27 (tw @cg0 (tw @c1 (tw @c8 (tw @c9 (tw @xE (tw @xF @GQ))))))),bL⟩ ?_
  rintro n_d env_d st_d ⟨m,rfl,dle,d34,dg0,dI0⟩ dfr
  have d1:=dfr 1 (by kernel_rfl);have d8:=dfr 8 (by kernel_rfl);have d9:=dfr 9 (by kernel_rfl);have d10:=dfr 10 (by kernel_rfl);have d25:=dfr 25 (by kernel_rfl);have d26:=dfr 26 (by kernel_rfl);have d27:=dfr 27 (by kernel_rfl);have d32:=dfr 32 (by kernel_rfl);have d33:=dfr 33 (by kernel_rfl)
  simp only[go_sem, ↓reduceIte,Nat.reduceEqDiff,Nat.reduceAdd,Nat.reduceSub,Nat.reduceLeDiff,reduceCtorEq,c27,cg0,c1,c8,c9,xE,xF,GQ]at d1 d8 d9 d10 d25 d26 d27 d32 d33
  clear dfr
  have tl:=js (ev cnt L i m) cnt
  by_cases hm:(m:Int)<(M.length:Int)
  ·have wK:∀{e:Env} {gg:Rows} {nx:Nat},(e 34=.int .i64 (IntKind.i64.wrap ((m:Int)+1)))->(gg ⟨125002001,n0+1+1⟩=some ⟨true,1,fX (ev cnt L i (m+1)) cnt⟩)->(n0+1+1<nx)->∃m0,m0<(M.length)-m/\∃m:Nat,m0=(M.length)-m/\m<=(M.length)/\e 34=.int .i64 (m:Int)/\gg ⟨125002001,n0+1+1⟩=some ⟨true,1,fX (ev cnt L i m) cnt⟩/\(n0+1+1<nx):=fun x1 x2 x3=>⟨_,ab,m+1,rfl,ab,(by rw[x1,cI ab]),x2,x3⟩
   have G1:m<M.length:=ab
   have Ih:(M.map eN)[m]? =some (eN M[m]):=by simp[G1]
   have D5:=Qk _ (List.getElem_mem G1)
   have Ox:(M[m]:Int)<(cnt:Int):=ab
   have DZ:=iP (f:=ev cnt L i m) D5
   have jc:(fX (ev cnt L i m) cnt).set M[m] (eN i)=fX (ev cnt L i (m+1)) cnt:=uB D5 (by
    have h1:=(JJ _ D5).1 (List.getElem_mem G1)
    rw[JY]
    simp only[]
    rw[if_neg ab,if_pos (by rw[List.take_succ_eq_append_getElem G1];exact List.mem_append_right _ (List.mem_singleton.2 rfl))]) fun x hx ig=>by
    rw[JY,JY]
    simp only[]
    rw[List.take_succ_eq_append_getElem G1]
    simp only[List.mem_append,List.mem_singleton,ig,or_false]
   rw[eN]at jc DZ
   generalize M[m]=xm at *
   (try((repeat(revert hN;revert N;apply Pn.out));refine wk (tw @d34 (tw @dg0 (tw @d1 (tw @d8 (tw @d9 (tw @d10 (tw @d25 (tw @d26 (tw @d27 (tw @d32 (tw @d33 (tw @hm (tw @hi (tw @Ih (tw @GQ (tw @Ox (tw @DZ (tw @tl (tw @jc @eN.eq_1))))))))))))))))))) ?_;(repeat(refine Pn.mk ?_;intro N hN))))
   refine wK ?_ ?_ bL
   all_goals simp only[go_sem, ↓reduceIte,Nat.reduceEqDiff,Nat.reduceAdd,Nat.reduceSub,Nat.reduceLeDiff,reduceCtorEq,d34,dg0,d1,d8,d9,d10,d25,d26,d27,d32,d33,jc]
  ·have fw:m=M.length:=ab
   subst fw
   have BU:fX (ev cnt L i M.length) cnt=fX (ev cnt L (i+1) 0) cnt:=kf fun x hx=>by
    rw[JY,List.take_length]
    simp only[ev,List.take_zero,List.not_mem_nil,if_false]
    have h1:=JJ x hx
    by_cases h2:dV L x<i
    ·rw[if_pos h2,if_pos ab]
    ·rw[if_neg h2]
     by_cases h3:x∈M
     ·rw[if_pos h3,if_pos (by have:=h1.1 h3;omega),h1.1 h3]
     ·rw[if_neg h3,if_neg fun h4=>h3 (h1.2 ab)]
   (try((repeat(revert hN;revert N;apply Pn.out));refine wk (tw @d34 (tw @dg0 (tw @d1 (tw @d8 (tw @d9 (tw @d10 (tw @d25 (tw @d26 (tw @d27 (tw @d32 (tw @d33 (tw @hm (tw @hi (tw @sv @GQ)))))))))))))) ?_;(repeat(refine Pn.mk ?_;intro N hN))))
   refine wJ ?_ ?_ bL
   all_goals simp only[go_sem, ↓reduceIte,Nat.reduceEqDiff,Nat.reduceAdd,Nat.reduceSub,Nat.reduceLeDiff,reduceCtorEq,c27,cg0,c1,c8,c9,xE,xF,d34,dg0,d1,d8,d9,d10,d25,d26,d27,d32,d33,BU]
 have qp:i=(leads cnt L).length:=ab
 subst qp
 have qt:fX (ev cnt L (leads cnt L).length 0) cnt=fX (dV L) cnt:=kf fun x hx=>by rw[ev,if_pos (oz hL hx)]
 rw[qt]at cg0
 have tl:=js (dV L) cnt
 (try((repeat(revert hN;revert N;apply Pn.out));refine wk (tw @c27 (tw @cg0 (tw @c1 (tw @c8 (tw @c9 (tw @xE (tw @xF (tw @hi @sv)))))))) ?_;(repeat(refine Pn.mk ?_;intro N hN))))
 refine cU (fun n env st=>∃j:Nat,n=(0)-j/\j<=(0)/\env 46=.int .i64 (j:Int)/\env 14=.bB) (0) ⟨0,ab,ab,sl (tw @c27 (tw @cg0 (tw @c1 (tw @c8 (tw @c9 (tw @xE @xF)))))),sl (tw @c27 (tw @cg0 (tw @c1 (tw @c8 (tw @c9 (tw @xE @xF))))))⟩ ?_
 rintro n_f env_f st_f ⟨j,rfl,fle,f46,f14⟩ ffr
 have f8:=ffr 8 (by kernel_rfl);have f44:=ffr 44 (by kernel_rfl);have f45:=ffr 45 (by kernel_rfl)
 simp only[go_sem, ↓reduceIte,Nat.reduceEqDiff,Nat.reduceAdd,Nat.reduceSub,Nat.reduceLeDiff,reduceCtorEq,c27,cg0,c1,c8,c9,xE,xF]at f8 f44 f45
 clear ffr
 have hj:¬(j:Int)<((0:Nat):Int):=ab
 (try((repeat(revert hN;revert N;apply Pn.out));refine wk (tw @f46 (tw @f14 (tw @f8 (tw @f44 (tw @f45 (tw @hj @sv)))))) ?_;(repeat(refine Pn.mk ?_;intro N hN))))
 refine l8 (.inl rfl) (r1:=.int .i64 ((leads cnt L).length:Int)) (r2:=.bB) (sd @Nat.zero_add) (sd @Nat.zero_add) ?_
 simp only[gp,cV,dH,eW,lQ,RD,Option.map_some]
theorem zN (cnt:Nat) (qq:1<=cnt) (hn:cnt<=1048576) (bs:List PB) (hb:∀b∈bs,b.a<cnt/\b.b<cnt) (nA:bs.length<=1048576) (t:Int):aP Tryz.prog 125 [.int .i64 cnt,AE bs,.int .i64 t] (.fK [.int .i64 (leads cnt (fI (cH t bs))).length,AE (eh (fI (cH t bs)) bs)]):=by
 cases bs with
 |nil=>
  have h:=xG cnt qq hn t
  have RD:(leads cnt (fI (cH t []))).length=cnt:=by
   show(leads cnt id).length=cnt
   rw[leads,List.filter_eq_self.2 (fun a _=>by simp)];simp
  rw[RD]
  exact h
 |cons b r=>
  rw[AF (by simp)]
  exact xH cnt qq hn (b::r) hb (by simp) nA t
end Go.Proofs.YtakkdjfmiffbfaaGreatDoor.V

namespace Go.Proofs.YtakkdjfmiffbfaaGreatDoor.V
open Go.RowKit
attribute [local irreducible] dL wpOps ez Call
attribute [local go_sem] ay ew dZ eE eC cY upd bJ K.av bZ AV.cells AV.cell rowOf rowsOf part ld rowAt eO bH bI cX dj eQ bq cF dx eA ed cQ dq cD cC dc de bu aE cm bt cr cq dn dr dp ck bz cE dm br aw cw bQ eP aZ bW bx aD cR aQ cZ AV.undef bd bj dh di c6 da bV dw dz bP du dt cu cz List.getD_cons_zero List.getD_cons_succ List.getD_nil List.all_cons List.all_nil Bool.and_true Bool.true_and Bool.and_self Bool.not_true Bool.not_false Option.map_some Option.map_none Option.bind_some Option.bind_none List.length_cons List.length_nil List.take_succ_cons List.take_zero List.take_nil List.drop_succ_cons List.drop_zero List.drop_nil List.head?_cons List.map_cons List.map_nil List.getElem?_cons_zero List.getElem?_cons_succ List.cons_append List.nil_append List.append_nil List.length_map List.set_cons_zero List.set_cons_succ Nat.reduceMul eq_self Int.toNat_natCast Int.natCast_nonneg and_self true_and and_true decide_true decide_false Bool.false_eq_true Nat.zero_add Nat.add_zero List.contains_cons List.contains_nil Bool.or_false Bool.false_or beq_self_eq_true Nat.reduceBEq ne_eq not_true_eq_false not_false_eq_true Id.mk.injEq false_and and_false Nat.reduceLT Int.reduceLE Int.reduceLT Int.reduceToNat Int.reduceNeg Int.reduceAdd Nat.le_refl List.length_append beq_true beq_false Bool.not_eq_eq_eq_not or_false false_or dW ad ae aL aI bf bR az bc aA aJ cj bh
attribute [local go_sem] Ga
section
attribute [-go_sem] cX
theorem Nc (n:Nat) (hn:n<=1048576):aP Tryz.prog 240 [.int .u64 1,.int .u64 n] (.fK [.int .u64 0,.int .u64 n]):=by
 refine aP.body fH rfl fun hl n0=>?_
 clear hl
 have b1:(BitVec.ofInt 64 (n:Int)&&& BitVec.ofInt 64 4294967295).toNat=n:=by
  rw[BitVec.toNat_and]
  have e1:(BitVec.ofInt 64 (n:Int)).toNat=n:=by rw[BitVec.toNat_ofInt];omega
  have e2:(BitVec.ofInt 64 4294967295).toNat=2 ^ 32-1:=by decide
  rw[e1,e2]
  exact Nat.and_two_pow_sub_one_of_lt_two_pow ab
 have zn:IntKind.u64.wrap (n:Int)=n:=by rw[IntKind.wrap_u64];omega
 have i1:cX .and .u64 (n:Int) 4294967295=some (.int .u64 n):=by
  show some (AV.int .u64 (IntKind.u64.wrap (((BitVec.ofInt 64 (n:Int)&&& BitVec.ofInt 64 4294967295).toNat:Nat):Int)))= _
  rw[b1,zn]
 have i2:cX .and .u64 1 4294967295=some (.int .u64 1):=rfl
 have i3:cX .and .u64 0 4294967295=some (.int .u64 0):=rfl
 have i4:cX .mul .u64 1 (n:Int)=some (.int .u64 n):=by simp only[cX,Int.one_mul,zn]
 have i5:cX .mul .u64 0 (n:Int)=some (.int .u64 0):=by simp only[cX,Int.zero_mul];rfl
 have i6:cX .mul .u64 1 0=some (.int .u64 0):=rfl
 have i7:cX .mul .u64 0 0=some (.int .u64 0):=rfl
 have i8:cX .add .u64 0 0=some (.int .u64 0):=rfl
 have a3:Int.fdiv 1 (2 ^ min 32 64)=0:=by decide
 have a4:Int.fdiv (n:Int) (2 ^ min 32 64)=0:=by
  rw[Int.fdiv_eq_ediv_of_nonneg _ (by decide)]
  have h32:(2:Int) ^ min 32 64=4294967296:=by decide
  exact Int.ediv_eq_zero_of_lt ab ab
 have z1:Int.fdiv 0 (2 ^ min 32 64)=0:=by decide
 (try((repeat(revert hN;revert N;apply Pn.out));refine wk (tw @i1 (tw @i2 (tw @i3 (tw @i4 (tw @i5 (tw @i6 (tw @i7 (tw @i8 (tw @a3 (tw @a4 @z1)))))))))) ?_;(repeat(refine Pn.mk ?_;intro N hN))))
 refine l8 (.inl rfl) (r1:=.int .u64 0) (r2:=.int .u64 n) (sd @Nat.zero_add) (sd @Nat.zero_add) ?_
 simp only[gp,cV,dH,eW,Option.map_some]
end
theorem TN (n:Nat) (hn:n<=1048576):aP Tryz.prog 229 [.int .u64 1,.int .u64 n] (.fK [.int .u64 0,.int .u64 n]):=by
 refine aP.body fH rfl fun hl n0=>?_
 clear hl
 have h:=Nc n hn
 (repeat(first|((repeat(revert hN;revert N;apply Pn.out));refine wk @Nat.zero_add ?_;(repeat(refine Pn.mk ?_;intro N hN)))|((try apply Or.inl);refine⟨_,aP.x (h) (sd @Nat.zero_add),?_⟩;refine hN _ _ ?_;clear hN N)))
 refine l8 (.inl rfl) (r1:=.int .u64 0) (r2:=.int .u64 n) (sd @Nat.zero_add) (sd @Nat.zero_add) ?_
 simp only[gp,cV,dH,eW,Option.map_some]
theorem KN (cnt:Nat) (qq:1<=cnt) (hn:cnt<=1048576) (v:Int) (x:Id) (σ:aq) (hx:σ.get x=some ⟨true,1,[[.int .i64 v]]⟩) (QC:x.cW<σ.next):
  Call Tryz.prog 219 [.own x 0 1,.int .i64 cnt] σ fun r σ'=>∃o:Id,r=.own o 0 cnt/\σ'.get o=some ⟨true,1,List.replicate cnt [.int .i64 v]⟩/\σ.next<=o.cW/\o.cW<σ'.next/\∀i:Id,i.cW<σ.next->σ'.get i=σ.get i:=by
 refine eU fH rfl fun hl=>?_
 clear hl
 have h:=TN cnt hn
 have w1:IntKind.u64.wrap (cnt:Int)=cnt:=by rw[IntKind.wrap_u64];omega
 have w2:IntKind.i64.wrap (cnt:Int)=cnt:=Lq ab
 have w0:IntKind.u64.wrap ((1:Nat):Int)=1:=by decide
 have g1:¬(cnt:Int)<0:=ab
 have g2:¬(9223372036854775807:Int)<cnt:=ab
 have jA:(0:Int)<=(cnt:Int):=ab
 have pF:(cnt:Int)<=((16777216:Nat):Int):=ab
 have RJ:=dE QC
 have xQ:(List.replicate cnt [AV.int .i64 0]).length=cnt:=List.length_replicate
 have m1:min 1 cnt=1:=ab
 (repeat(first|((repeat(revert hN;revert N;apply Pn.out));refine wk (tw @w0 (tw @w1 (tw @w2 (tw @g1 (tw @g2 (tw @jA (tw @pF (tw @Int.le_refl (tw @Nat.le_refl (tw @hx (tw @RJ (tw @xQ @m1)))))))))))) ?_;(repeat(refine Pn.mk ?_;intro N hN)))|((try apply Or.inl);refine⟨_,aP.x (h) (sd (tw @w0 (tw @w1 (tw @w2 (tw @g1 (tw @g2 (tw @jA (tw @pF (tw @Int.le_refl (tw @Nat.le_refl (tw @hx (tw @RJ (tw @xQ @m1))))))))))))),?_⟩;refine hN _ _ ?_;clear hN N)))
 refine cU (fun m env st=>∃k:Nat,m=cnt-k/\1<=k/\k<=cnt/\env 8=.int .i64 (k:Int)/\st.get ⟨219006002,σ.next+1+1+1+1⟩=some ⟨true,1,List.replicate k [.int .i64 v]++List.replicate (cnt-k) [.int .i64 0]⟩/\σ.next+4<st.next/\∀i:Id,i.cW<σ.next->st.get i=σ.get i) (cnt-1) ⟨1,rfl,Nat.le_refl _,qq,by(simp only[go_sem, ↓reduceIte,Nat.reduceEqDiff,Nat.reduceAdd,Nat.reduceSub,Nat.reduceLeDiff,reduceCtorEq,m1])<;>rfl,?_,bL,fun i hi=>?_⟩ ?_
 ·simp only[go_sem, ↓reduceIte,Nat.reduceEqDiff,Nat.reduceAdd,Nat.reduceSub,Nat.reduceLeDiff,reduceCtorEq]
  rw[List.drop_replicate];rfl
 ·have QB:=dE hi
  simp only[go_sem, ↓reduceIte,Nat.reduceEqDiff,Nat.reduceAdd,Nat.reduceSub,Nat.reduceLeDiff,reduceCtorEq,QB]
 rintro m env_b st_b ⟨k,rfl,yF,tr,b8,bg,bn,fA⟩ bkp
 have b7:=bkp 7 (by kernel_rfl)
 simp only[go_sem, ↓reduceIte,Nat.reduceEqDiff,Nat.reduceAdd,Nat.reduceSub,Nat.reduceLeDiff,reduceCtorEq]at b7
 clear bkp
 have Tt:(List.replicate k [AV.int .i64 v]++List.replicate (cnt-k) [AV.int .i64 0]).length=cnt:=by simp;omega
 by_cases hk:(k:Int)<(cnt:Int)
 ·have jB:k<cnt:=ab
  have tq:(k:Int)<=(cnt:Int):=ab
  have hw:IntKind.i64.wrap ((k:Int)+((min k (cnt-k):Nat):Int))=((k+min k (cnt-k):Nat):Int):=by rw[dy ab];omega
  have pL:List.take k (List.replicate k [AV.int .i64 v]++List.replicate (cnt-k) [AV.int .i64 0])=List.replicate k [AV.int .i64 v]:=List.take_left' (by simp)
  have eJ:(List.replicate k [AV.int .i64 v]).all (fun c=>c.length==1&&c.all AV.cell)=true:=List.all_eq_true.2 fun c hc=>by rw[List.eq_of_mem_replicate hc];rfl
  have hlr:(List.replicate k [AV.int .i64 v]).length=k:=List.length_replicate
  have Xi:k+(cnt-k)=cnt:=ab
  have qU:List.replicate k [AV.int .i64 v]++List.take (min k (cnt-k)) (List.replicate k [AV.int .i64 v])++List.drop (k+min k (cnt-k)) (List.replicate k [AV.int .i64 v]++List.replicate (cnt-k) [AV.int .i64 0])=List.replicate (k+min k (cnt-k)) [AV.int .i64 v]++List.replicate (cnt-(k+min k (cnt-k))) [AV.int .i64 0]:=by
   rw[List.take_replicate,List.drop_append,List.drop_of_length_le (by simp),List.nil_append,hlr,List.drop_replicate,List.replicate_append_replicate]
   congr 2
   ·omega
   ·omega
  (try((repeat(revert hN;revert N;apply Pn.out));refine wk (tw @b7 (tw @b8 (tw @bg (tw @Tt (tw @hk (tw @tq (tw @tr (tw @hw (tw @jB (tw @Nat.sub_zero (tw @pL (tw @eJ (tw @hlr (tw @Xi (tw @Nat.le_refl @qU))))))))))))))) ?_;(repeat(refine Pn.mk ?_;intro N hN))))
  refine⟨_,?_,k+min k (cnt-k),rfl,ab,ab,sd @hw,sd @qU,bL,fun i hi=>?_⟩
  ·omega
  ·have QB:=dE hi
   have:=fA i hi
   simp only[go_sem, ↓reduceIte,Nat.reduceEqDiff,Nat.reduceAdd,Nat.reduceSub,Nat.reduceLeDiff,reduceCtorEq,QB,this]
 ·have ko:k=cnt:=ab
  subst ko
  (try((repeat(revert hN;revert N;apply Pn.out));refine wk (tw @b7 (tw @b8 (tw @bg (tw @Tt @hk)))) ?_;(repeat(refine Pn.mk ?_;intro N hN))))
  refine eK (.inl rfl) (vs:=[.own ⟨219006002,σ.next+1+1+1+1⟩ 0 k]) (sd @Nat.zero_add) ⟨⟨219006002,σ.next+1+1+1+1⟩,rfl,by simp only[go_sem, ↓reduceIte,Nat.reduceEqDiff,Nat.reduceAdd,Nat.reduceSub,Nat.reduceLeDiff,reduceCtorEq,bg];simp,bL,bL,fun i hi=>fA i hi⟩
end Go.Proofs.YtakkdjfmiffbfaaGreatDoor.V

namespace Go.Proofs.YtakkdjfmiffbfaaGreatDoor.V
open Go.RowKit
attribute [local irreducible] dL wpOps ez Call
attribute [local go_sem] ay ew dZ eE eC cY upd bJ K.av bZ AV.cells AV.cell rowOf rowsOf part ld rowAt eO bH bI cX dj eQ bq cF dx eA ed cQ dq cD cC dc de bu aE cm bt cr cq dn dr dp ck bz cE dm br aw cw bQ eP aZ bW bx aD cR aQ cZ AV.undef bd bj dh di c6 da bV dw dz bP du dt cu cz List.getD_cons_zero List.getD_cons_succ List.getD_nil List.all_cons List.all_nil Bool.and_true Bool.true_and Bool.and_self Bool.not_true Bool.not_false Option.map_some Option.map_none Option.bind_some Option.bind_none List.length_cons List.length_nil List.take_succ_cons List.take_zero List.take_nil List.drop_succ_cons List.drop_zero List.drop_nil List.head?_cons List.map_cons List.map_nil List.getElem?_cons_zero List.getElem?_cons_succ List.cons_append List.nil_append List.append_nil List.length_map List.set_cons_zero List.set_cons_succ Nat.reduceMul eq_self Int.toNat_natCast Int.natCast_nonneg and_self true_and and_true decide_true decide_false Bool.false_eq_true Nat.zero_add Nat.add_zero List.contains_cons List.contains_nil Bool.or_false Bool.false_or beq_self_eq_true Nat.reduceBEq ne_eq not_true_eq_false not_false_eq_true Id.mk.injEq false_and and_false Nat.reduceLT Int.reduceLE Int.reduceLT Int.reduceToNat Int.reduceNeg Int.reduceAdd Nat.le_refl List.length_append beq_true beq_false Bool.not_eq_eq_eq_not or_false false_or dW ad ae aL aI bf bR az bc aA aJ cj bh
def kN (R:Nat->Id) (n k:Nat):List (List AV):=(List.range k).map fun i=>[.own (R i) 0 n]
theorem jT (R:Nat->Id) (n k:Nat):(kN R n k).length=k:=by simp[kN]
theorem rL {R:Nat->Id} {n k i:Nat} (h:i<k):(kN R n k)[i]? =some [.own (R i) 0 n]:=by simp[kN,h]
theorem sU (R:Nat->Id) (n k:Nat):kN R n (k+1)=kN R n k++[[.own (R k) 0 n]]:=by simp[kN,List.range_succ]
def xY (c:Nat->Nat->Int) (n:Nat):List (List AV):=(List.range n).map fun i=>[.sl (gQ (c i) n)]
theorem CO {c:Nat->Nat->Int} {n i:Nat} (h:i<n):(xY c n)[i]? =some [.sl (gQ (c i) n)]:=by simp[xY,h]
theorem xg (c:Nat->Nat->Int) (n:Nat):(xY c n).length=n:=by simp[xY]
structure Gh (X o1 o2:Id) (R1 R2:Nat->Id) (n nb:Nat):Prop where
 sx:X.site=169001001
 s1:o1.site=169004008
 s2:o2.site=169005008
 VG:∀i,i<n->(R1 i).site=169004006
 OI:∀i,i<n->(R2 i).site=169005006
 i1:∀i j,i<n->j<n->R1 i=R1 j->i=j
 i2:∀i j,i<n->j<n->R2 i=R2 j->i=j
 vx:X.cW<nb
 v1:o1.cW<nb
 v2:o2.cW<nb
 XO:∀i,i<n->(R1 i).cW<nb
 Ur:∀i,i<n->(R2 i).cW<nb
structure nR (g:Rows) (X o1 o2:Id) (R1 R2:Nat->Id) (n:Nat) (c f:Nat->Nat->Int):Prop where
 x:g X=some ⟨true,2,[[.own o1 0 n,.own o2 0 n]]⟩
 t1:g o1=some ⟨true,1,kN R1 n n⟩
 t2:g o2=some ⟨true,1,kN R2 n n⟩
 r1:∀i,i<n->g (R1 i)=some ⟨true,1,gQ (c i) n⟩
 r2:∀i,i<n->g (R2 i)=some ⟨true,1,gQ (f i) n⟩
theorem nY {f:Nat->Nat->Int} {a b:Nat} {d:Int} {n:Nat} (hb:b<n):(gQ (f a) n).set b (bE (f a b+d))=gQ (bump f a b d a) n:=xh hb (by simp[bump]) fun i _ hi=>by simp[bump,hi]
theorem jN {f:Nat->Nat->Int} {a b i:Nat} {d:Int} (h:i≠a):bump f a b d i=f i:=by funext v;simp[bump,h]
theorem nR.add {g g':Rows} {X o1 o2:Id} {R1 R2:Nat->Id} {n nb:Nat} {c f:Nat->Nat->Int} (I:Gh X o1 o2 R1 R2 n nb) (h:nR g X o1 o2 R1 R2 n c f) (b:PB) (ha:b.a<n) (hb:b.b<n) (hA:b.a≠b.b->g' (R1 b.a)=some ⟨true,1,gQ (bump c b.a b.b b.s b.a) n⟩) (hB:g' (R1 b.b)=some ⟨true,1,gQ (nu c b b.b) n⟩) (hf:∀i:Id,i.cW<nb->(i=R1 b.a)=False->(i=R1 b.b)=False->g' i=g i):nR g' X o1 o2 R1 R2 n (nu c b) f:=by
 have ne:∀{i:Id} {s:Nat},i.site=s->(s==169004006)=false->∀a,a<n->(i=R1 a)=False:=fun {i s} hi hs a ha=>by
  simp only[eq_iff_iff,iff_false]
  rintro rfl
  rw[I.VG a ha]at hi
  subst hi
  simp at hs
 refine⟨(hf _ I.vx (ne I.sx (by decide) _ ha) (ne I.sx (by decide) _ hb)).trans h.x,(hf _ I.v1 (ne I.s1 (by decide) _ ha) (ne I.s1 (by decide) _ hb)).trans h.t1,(hf _ I.v2 (ne I.s2 (by decide) _ ha) (ne I.s2 (by decide) _ hb)).trans h.t2,fun i hi=>?_,fun i hi=>(hf _ (I.Ur i hi) (ne (I.OI i hi) (by decide) _ ha) (ne (I.OI i hi) (by decide) _ hb)).trans (h.r2 i hi)⟩
 by_cases LA:i=b.b
 ·subst LA;exact hB
 ·by_cases Qd:i=b.a
  ·subst Qd
   rw[hA LA,nu,jN LA]
  ·rw[nu,jN LA,jN Qd,hf _ (I.XO i hi) (by simp only[eq_iff_iff,iff_false];exact fun he=>Qd (I.i1 i _ hi ha he)) (by simp only[eq_iff_iff,iff_false];exact fun he=>LA (I.i1 i _ hi hb he))]
   exact h.r1 i hi
def kZ (n:Nat) (c f:Nat->Nat->Int):List AV:=[.sl (xY c n),.sl (xY f n)]
theorem F6 {g:Rows} {R:Nat->Id} {n k:Nat} {c:Nat->Nat->Int} (h:∀i,i<k->g (R i)=some ⟨true,1,gQ (c i) n⟩) (m:Nat):eX (dW g) (m+3) (kN R n k)=some ((List.range k).map fun i=>[.sl (gQ (c i) n)]):=by
 induction k with
 |zero=>rw[show kN R n 0=[]from rfl,eX];rfl
 |succ k ih=>
  have e1:V.fz (dW g) (m+3) (.own (R k) 0 n)=some (.sl (gQ (c k) n)):=by
   rw[mC];simp only[dW,h k ab,Option.map_some,if_true]
   rw[if_pos (by rw[fy];omega),List.drop_zero,List.take_of_length_le (by rw[fy];omega),NI];rfl
  have app:∀(xs ys:List (List AV)) (VI UG:List (List AV)),eX (dW g) (m+3) xs=some VI->eX (dW g) (m+3) ys=some UG->eX (dW g) (m+3) (xs++ys)=some (VI++UG):=by
   intro xs
   induction xs with
   |nil=>intro ys VI UG h1 h2;rw[eX]at h1;cases h1;exact h2
   |cons a xs ih2=>
    intro ys VI UG h1 h2
    rw[eX]at h1
    rw[List.cons_append,eX]
    cases ha:er (dW g) (m+3) a with
    |none=>simp[ha]at h1
    |some a'=>
     cases hb:eX (dW g) (m+3) xs with
     |none=>simp[ha,hb]at h1
     |some b'=>
      simp[ha,hb]at h1
      subst h1
      rw[ih2 ys b' UG hb h2];rfl
  rw[sU,List.range_succ,List.map_append]
  refine app _ _ _ _ (ih fun i hi=>h i ab) ?_
  rw[eX,ad,ae,e1,eX];rfl
theorem nR.fz {g:Rows} {X o1 o2:Id} {R1 R2:Nat->Id} {n:Nat} {c f:Nat->Nat->Int} (h:nR g X o1 o2 R1 R2 n c f):V.fz (dW g) 6 (.ptr X 0 0)=some (.eT (kZ n c f)):=by
 refine vJ (sz:=2) (rows:=[[.own o1 0 n,.own o2 0 n]]) (by simp[dW,h.x]) rfl ?_
 have e1:V.fz (dW g) 5 (.own o1 0 n)=some (.sl (xY c n)):=by
  rw[mC];simp only[dW,h.t1,Option.map_some,if_true]
  rw[if_pos (by rw[jT];omega),List.drop_zero,List.take_of_length_le (by rw[jT];omega)]
  rw[show eX _ 4 _=some (xY c n)from F6 h.r1 1];rfl
 have e2:V.fz (dW g) 5 (.own o2 0 n)=some (.sl (xY f n)):=by
  rw[mC];simp only[dW,h.t2,Option.map_some,if_true]
  rw[if_pos (by rw[jT];omega),List.drop_zero,List.take_of_length_le (by rw[jT];omega)]
  rw[show eX _ 4 _=some (xY f n)from F6 h.r2 1];rfl
 simp only[List.drop_zero,ad,ae,e1,e2,kZ,Option.map_some]
theorem PG (n:Nat) (c f:Nat->Nat->Int) (u v:Nat) (hu:u<n) (hv:v<n):aP Tryz.prog 220 [.eT (kZ n c f),.int .i64 u,.int .i64 v] (.bool (decide (f u v<c u v))):=by
 refine aP.body fH rfl fun hl n0=>?_
 clear hl
 have h1:=CO (c:=c) hu
 have h2:=CO (c:=f) hu
 have h3:=fJ (f:=c u) hv
 have h4:=fJ (f:=f u) hv
 have hui:(u:Int)<(n:Int):=ab
 have QB:(v:Int)<(n:Int):=ab
 have l1:=xg c n
 have l2:=xg f n
 have l3:=fy (c u) n
 have l4:=fy (f u) n
 rw[bE]at h3 h4
 (try((repeat(revert hN;revert N;apply Pn.out));refine wk (tw @kZ.eq_1 (tw @h1 (tw @h2 (tw @h3 (tw @h4 (tw @hui (tw @QB (tw @l1 (tw @l2 (tw @l3 @l4)))))))))) ?_;(repeat(refine Pn.mk ?_;intro N hN))))
 exact dU (b:=decide (f u v<c u v)) (.inl rfl) (sd @Nat.zero_add) rfl
theorem HU (n:Nat):List.replicate n [AV.int .i64 0]=gQ (fun _=>0) n:=by
 refine List.ext_getElem? fun i=>?_
 by_cases h:i<n
 ·rw[fJ h,List.getElem?_replicate,if_pos h];rfl
 ·rw[List.getElem?_eq_none (by simp;omega),List.getElem?_eq_none (by rw[fy];omega)]
theorem qu {i j:Id} {s t:Nat} (hi:i.site=s) (hj:j.site=t) (h:(s==t)=false):(i=j)=False/\(j=i)=False:=by
 constructor<;>(simp only[eq_iff_iff,iff_false];rintro rfl;rw[hi]at hj;subst hj;simp at h)
theorem Cq (cnt:Nat) (qq:1<=cnt) (hn:cnt<=1048576) (bs:List PB) (hb:∀b∈bs,b.a<cnt/\b.b<cnt) (ee:∀b∈bs,0<=b.s/\b.s<=4) (nA:bs.length<=1048576) (σ:aq):
  Call Tryz.prog 169 [.int .i64 cnt,.sl (bs.map dB)] σ fun r σ'=>∃X o1 o2 R1 R2,r=.ptr X 0 0/\Gh X o1 o2 R1 R2 cnt σ'.next/\σ.next<=σ'.next/\nR σ'.get X o1 o2 R1 R2 cnt (kK bs) (fun _ _=>0)/\∀i:Id,i.cW<σ.next->σ'.get i=σ.get i:=by
 refine eU fH rfl fun hl=>?_
 clear hl
 (try((repeat(revert hN;revert N;apply Pn.out));refine wk @Nat.zero_add ?_;(repeat(refine Pn.mk ?_;intro N hN))))
 obtain⟨X,hX⟩:∃X:Id,X=⟨169001001,σ.next+1⟩:=⟨_,rfl⟩
 obtain⟨R1,Wu⟩:∃R:Nat->Id,R=fun k=>⟨169004006,σ.next+3+4*k+1⟩:=⟨_,rfl⟩
 obtain⟨R2,Wv⟩:∃R:Nat->Id,R=fun k=>⟨169005006,σ.next+3+4*k+2⟩:=⟨_,rfl⟩
 have sX:X.site=169001001:=by rw[hX]
 have vX:X.cW=σ.next+1:=by rw[hX]
 have s1:∀k,(R1 k).site=169004006:=fun k=>by rw[Wu]
 have s2:∀k,(R2 k).site=169005006:=fun k=>by rw[Wv]
 have v1:∀k,(R1 k).cW=σ.next+3+4*k+1:=fun k=>by rw[Wu]
 have v2:∀k,(R2 k).cW=σ.next+3+4*k+2:=fun k=>by rw[Wv]
 have jA:(0:Int)<=(cnt:Int):=ab
 have pF:(cnt:Int)<=((16777216:Nat):Int):=ab
 have hz:=HU cnt
 have t1:kN R1 cnt 0=[]:=rfl
 have t2:kN R2 cnt 0=[]:=rfl
 refine cU (fun n env st=>∃k:Nat,n=(cnt)-k/\k<=(cnt)/\env 11=.int .i64 (k:Int)/\env 5=(.ptr X 0 0)/\(st.next=σ.next+3+4*k/\(∀i:Id,i.cW<σ.next->st.get i=σ.get i)/\∀j,j<k->st.get (R1 j)=some ⟨true,1,gQ (fun _=>0) cnt⟩/\st.get (R2 j)=some ⟨true,1,gQ (fun _=>0) cnt⟩)/\((k=0/\st.get X=some ⟨true,2,[[.bB,.bB]]⟩)∨∃o1 o2:Id,o1.site=169004008/\o2.site=169005008/\o1.cW<st.next/\o2.cW<st.next/\σ.next<=o1.cW/\σ.next<=o2.cW/\st.get X=some ⟨true,2,[[.own o1 0 k,.own o2 0 k]]⟩/\st.get o1=some ⟨true,1,kN R1 cnt k⟩/\st.get o2=some ⟨true,1,kN R2 cnt k⟩)) (cnt) ⟨0,ab,ab,sl @hX,sl @hX,⟨rfl,fun i hi=>by(have QB:=dE hi);simp only[go_sem, ↓reduceIte,Nat.reduceEqDiff,Nat.reduceAdd,Nat.reduceSub,Nat.reduceLeDiff,reduceCtorEq,QB],fun j hj=>absurd hj (Nat.not_lt_zero j)⟩,.inl ⟨rfl,by rw[hX];simp only[go_sem, ↓reduceIte,Nat.reduceEqDiff,Nat.reduceAdd,Nat.reduceSub,Nat.reduceLeDiff,reduceCtorEq]⟩⟩ ?_
 rintro n_a env_a st_a ⟨k,rfl,ale,A4,a5,qn,aI1⟩ eL
 have a0:=eL 0 (by kernel_rfl);have a1:=eL 1 (by kernel_rfl);have N2:=eL 10 (by kernel_rfl)
 simp only[go_sem, ↓reduceIte,Nat.reduceEqDiff,Nat.reduceAdd,Nat.reduceSub,Nat.reduceLeDiff,reduceCtorEq,hX]at a0 a1 N2
 clear eL
 obtain⟨anx,eL,aR⟩:=qn
 have wX:=dE (i:=X) (n:=st_a.next) ab
 by_cases hk:(k:Int)<(cnt:Int)
 ·have eB:∀{e:Env} {gg:Rows} {nx:Nat},(e 11=.int .i64 (IntKind.i64.wrap ((k:Int)+1)))->(e 5=(.ptr X 0 0))->(nx=σ.next+3+4*(k+1)/\(∀i:Id,i.cW<σ.next->gg i=σ.get i)/\∀j,j<(k+1)->gg (R1 j)=some ⟨true,1,gQ (fun _=>0) cnt⟩/\gg (R2 j)=some ⟨true,1,gQ (fun _=>0) cnt⟩)->(((k+1)=0/\gg X=some ⟨true,2,[[.bB,.bB]]⟩)∨∃o1 o2:Id,o1.site=169004008/\o2.site=169005008/\o1.cW<nx/\o2.cW<nx/\σ.next<=o1.cW/\σ.next<=o2.cW/\gg X=some ⟨true,2,[[.own o1 0 (k+1),.own o2 0 (k+1)]]⟩/\gg o1=some ⟨true,1,kN R1 cnt (k+1)⟩/\gg o2=some ⟨true,1,kN R2 cnt (k+1)⟩)->∃m0,m0<(cnt)-k/\∃k:Nat,m0=(cnt)-k/\k<=(cnt)/\e 11=.int .i64 (k:Int)/\e 5=(.ptr X 0 0)/\(nx=σ.next+3+4*k/\(∀i:Id,i.cW<σ.next->gg i=σ.get i)/\∀j,j<k->gg (R1 j)=some ⟨true,1,gQ (fun _=>0) cnt⟩/\gg (R2 j)=some ⟨true,1,gQ (fun _=>0) cnt⟩)/\((k=0/\gg X=some ⟨true,2,[[.bB,.bB]]⟩)∨∃o1 o2:Id,o1.site=169004008/\o2.site=169005008/\o1.cW<nx/\o2.cW<nx/\σ.next<=o1.cW/\σ.next<=o2.cW/\gg X=some ⟨true,2,[[.own o1 0 k,.own o2 0 k]]⟩/\gg o1=some ⟨true,1,kN R1 cnt k⟩/\gg o2=some ⟨true,1,kN R2 cnt k⟩):=fun x1 x2 x3 x4=>⟨_,ab,k+1,rfl,ab,(by rw[x1,cI ab]),x2,x3,x4⟩
  have jB:k<cnt:=ab
  have yF:R1 k=⟨169004006,st_a.next+1⟩:=by rw[Wu,anx]
  have tr:R2 k=⟨169005006,st_a.next+1+1⟩:=by rw[Wv,anx]
  have yJ:kN R1 cnt (k+1)=kN R1 cnt k++[[.own ⟨169004006,st_a.next+1⟩ 0 cnt]]:=by rw[sU,yF]
  have LJ:kN R2 cnt (k+1)=kN R2 cnt k++[[.own ⟨169005006,st_a.next+1+1⟩ 0 cnt]]:=by rw[sU,tr]
  rcases aI1 with⟨rfl,R5⟩|⟨o1,o2,so1,so2,vo1,RU,vn1,vn2,R5,ag1,Dc⟩
  ·(try((repeat(revert hN;revert N;apply Pn.out));refine wk (tw @A4 (tw @a5 (tw @a0 (tw @a1 (tw @N2 (tw @hk (tw @wX (tw @R5 (tw @jA (tw @pF (tw @Int.le_refl @hz))))))))))) ?_;(repeat(refine Pn.mk ?_;intro N hN))))
   refine eB ?_ ?_ (by
    (try dsimp only)
    refine⟨ab,fun i hi=>?_,fun j hj=>?_⟩
    ·have q1:=dE (i:=i) (n:=st_a.next) ab
     have q2:=dD (a:=i) (b:=X) ab
     have:=eL i hi
     simp only[go_sem, ↓reduceIte,Nat.reduceEqDiff,Nat.reduceAdd,Nat.reduceSub,Nat.reduceLeDiff,reduceCtorEq,q1,q2,this]
    ·by_cases FF:j=0
     ·subst FF
      rw[yF,tr]
      have q1:=ga sX (b:=169004006) (v:=st_a.next+1) (by decide)
      have q2:=ga sX (b:=169005006) (v:=st_a.next+1+1) (by decide)
      simp only[go_sem, ↓reduceIte,Nat.reduceEqDiff,Nat.reduceAdd,Nat.reduceSub,Nat.reduceLeDiff,reduceCtorEq,q1,q2]
     ·obtain⟨r1,r2⟩:=aR j ab
      have q1:=dE (i:=R1 j) (n:=st_a.next) (by rw[v1];omega)
      have q2:=dE (i:=R2 j) (n:=st_a.next) (by rw[v2];omega)
      have q3:=qu (s1 j) sX (by decide)
      have q4:=qu (s2 j) sX (by decide)
      constructor
      ·simp only[go_sem, ↓reduceIte,Nat.reduceEqDiff,Nat.reduceAdd,Nat.reduceSub,Nat.reduceLeDiff,reduceCtorEq,q1,q3,r1]
      ·simp only[go_sem, ↓reduceIte,Nat.reduceEqDiff,Nat.reduceAdd,Nat.reduceSub,Nat.reduceLeDiff,reduceCtorEq,q2,q4,r2]) (.inr ⟨⟨169004008,st_a.next+1⟩,⟨169005008,st_a.next+1+1⟩,rfl,rfl,bL,bL,bL,bL,sd @wX,by rw[yJ,t1];simp only[go_sem, ↓reduceIte,Nat.reduceEqDiff,Nat.reduceAdd,Nat.reduceSub,Nat.reduceLeDiff,reduceCtorEq,wX,List.nil_append],by rw[LJ,t2];simp only[go_sem, ↓reduceIte,Nat.reduceEqDiff,Nat.reduceAdd,Nat.reduceSub,Nat.reduceLeDiff,reduceCtorEq,wX,List.nil_append]⟩)
   all_goals simp only[go_sem, ↓reduceIte,Nat.reduceEqDiff,Nat.reduceAdd,Nat.reduceSub,Nat.reduceLeDiff,reduceCtorEq,A4,a5,a0,a1,N2,wX]
  ·have l1:=jT R1 cnt k
   have l2:=jT R2 cnt k
   have e1:k+1<=16777216:=ab
   have w1:=dE vo1
   have w2:=dE RU
   have x1:=qu sX so1 (by decide)
   have x2:=qu sX so2 (by decide)
   have x3:=qu so1 so2 (by decide)
   (try((repeat(revert hN;revert N;apply Pn.out));refine wk (tw @A4 (tw @a5 (tw @a0 (tw @a1 (tw @N2 (tw @hk (tw @wX (tw @R5 (tw @ag1 (tw @Dc (tw @l1 (tw @l2 (tw @e1 (tw @w1 (tw @w2 (tw @x1 (tw @x2 (tw @x3 (tw @jA (tw @pF (tw @Int.le_refl @hz))))))))))))))))))))) ?_;(repeat(refine Pn.mk ?_;intro N hN))))
   refine eB ?_ ?_ (by
    (try dsimp only)
    refine⟨ab,fun i hi=>?_,fun j hj=>?_⟩
    ·have q1:=dE (i:=i) (n:=st_a.next) ab
     have q2:=dD (a:=i) (b:=X) ab
     have q3:=dD (a:=i) (b:=o1) ab
     have q4:=dD (a:=i) (b:=o2) ab
     have:=eL i hi
     simp only[go_sem, ↓reduceIte,Nat.reduceEqDiff,Nat.reduceAdd,Nat.reduceSub,Nat.reduceLeDiff,reduceCtorEq,q1,q2,this,q3,q4]
    ·by_cases FF:j=k
     ·subst FF
      rw[yF,tr]
      have q1:=ga sX (b:=169004006) (v:=st_a.next+1) (by decide)
      have q2:=ga sX (b:=169005006) (v:=st_a.next+1+1) (by decide)
      simp only[go_sem, ↓reduceIte,Nat.reduceEqDiff,Nat.reduceAdd,Nat.reduceSub,Nat.reduceLeDiff,reduceCtorEq,q1,q2,w1,w2]
     ·obtain⟨r1,r2⟩:=aR j ab
      have q1:=dE (i:=R1 j) (n:=st_a.next) (by rw[v1];omega)
      have q2:=dE (i:=R2 j) (n:=st_a.next) (by rw[v2];omega)
      have q3:=qu (s1 j) sX (by decide)
      have q4:=qu (s2 j) sX (by decide)
      have q5:=qu (s1 j) so1 (by decide)
      have q6:=qu (s1 j) so2 (by decide)
      have q7:=qu (s2 j) so1 (by decide)
      have q8:=qu (s2 j) so2 (by decide)
      constructor
      ·simp only[go_sem, ↓reduceIte,Nat.reduceEqDiff,Nat.reduceAdd,Nat.reduceSub,Nat.reduceLeDiff,reduceCtorEq,q1,q3,r1,q5,q6]
      ·simp only[go_sem, ↓reduceIte,Nat.reduceEqDiff,Nat.reduceAdd,Nat.reduceSub,Nat.reduceLeDiff,reduceCtorEq,q2,q4,r2,q7,q8]) (.inr ⟨⟨169004008,st_a.next+1⟩,⟨169005008,st_a.next+1+1⟩,rfl,rfl,bL,bL,bL,bL,sd @wX,by rw[yJ];simp only[go_sem, ↓reduceIte,Nat.reduceEqDiff,Nat.reduceAdd,Nat.reduceSub,Nat.reduceLeDiff,reduceCtorEq,wX,w1,w2],by rw[LJ];simp only[go_sem, ↓reduceIte,Nat.reduceEqDiff,Nat.reduceAdd,Nat.reduceSub,Nat.reduceLeDiff,reduceCtorEq,wX,w1,w2]⟩)
   all_goals simp only[go_sem, ↓reduceIte,Nat.reduceEqDiff,Nat.reduceAdd,Nat.reduceSub,Nat.reduceLeDiff,reduceCtorEq,A4,a5,a0,a1,N2,wX,w1,w2,x1,x2,x3]
 have ko:cnt=k:=ab
 subst ko
 rcases aI1 with⟨h0,_⟩|⟨o1,o2,so1,so2,vo1,RU,vn1,vn2,R5,ag1,Dc⟩
 ·omega
 (try((repeat(revert hN;revert N;apply Pn.out));refine wk (tw @A4 (tw @a5 (tw @a0 (tw @a1 (tw @N2 @hk))))) ?_;(repeat(refine Pn.mk ?_;intro N hN))))
 have I:Gh X o1 o2 R1 R2 cnt st_a.next:=⟨sX,so1,so2,fun i _=>s1 i,fun i _=>s2 i,fun i j _ _ h=>by have:=v1 i;rw[h,v1]at this;omega,fun i j _ _ h=>by have:=v2 i;rw[h,v2]at this;omega,ab,vo1,RU,fun i hi=>by rw[v1];omega,fun i hi=>by rw[v2];omega⟩
 refine cU (fun n env st=>∃i:Nat,n=(bs.length)-i/\i<=(bs.length)/\env 38=.int .i64 (i:Int)/\(st_a.next<=st.next/\(∀x:Id,x.cW<σ.next->st.get x=σ.get x)/\nR st.get X o1 o2 R1 R2 cnt (kK (bs.take i)) (fun _ _=>0))) (bs.length) ⟨0,ab,ab,sl (tw @A4 (tw @a5 (tw @a0 (tw @a1 @N2)))),⟨bL,eL,R5,ag1,Dc,fun j hj=>(aR j hj).1,fun j hj=>(aR j hj).2⟩⟩ ?_
 rintro n_b env_b st_b ⟨i,rfl,ble,b38,bI0⟩ fA
 have b0:=fA 0 (by kernel_rfl);have b1:=fA 1 (by kernel_rfl);have b5:=fA 5 (by kernel_rfl);have Rt:=fA 36 (by kernel_rfl);have Ru:=fA 37 (by kernel_rfl)
 simp only[go_sem, ↓reduceIte,Nat.reduceEqDiff,Nat.reduceAdd,Nat.reduceSub,Nat.reduceLeDiff,reduceCtorEq,A4,a5,a0,a1,N2]at b0 b1 b5 Rt Ru
 clear fA
 obtain⟨bn,Ph,bM⟩:=bI0
 by_cases hi:(i:Int)<(bs.length:Int)
 ·have fP:∀{e:Env} {gg:Rows} {nx:Nat},(e 38=.int .i64 (IntKind.i64.wrap ((i:Int)+1)))->(st_a.next<=nx/\(∀x:Id,x.cW<σ.next->gg x=σ.get x)/\nR gg X o1 o2 R1 R2 cnt (kK (bs.take (i+1))) (fun _ _=>0))->∃m0,m0<(bs.length)-i/\∃i:Nat,m0=(bs.length)-i/\i<=(bs.length)/\e 38=.int .i64 (i:Int)/\(st_a.next<=nx/\(∀x:Id,x.cW<σ.next->gg x=σ.get x)/\nR gg X o1 o2 R1 R2 cnt (kK (bs.take i)) (fun _ _=>0)):=fun x1 x2=>⟨_,ab,i+1,rfl,ab,(by rw[x1,cI ab]),x2⟩
  have iO:i<bs.length:=ab
  have DS:(bs.map dB)[i]? =some (dB bs[i]):=by simp[iO]
  have rW:=hb _ (List.getElem_mem iO)
  have hsi:=ee _ (List.getElem_mem iO)
  have Tv:kK (bs.take (i+1))=nu (kK (bs.take i)) bs[i]:=by rw[List.take_succ_eq_append_getElem iO,Ez]
  have xN:=AA (bs.take i) (fun _ _=>0) (fun b hb=>(ee b (List.mem_of_mem_take hb)).1) (fun _ _=>Int.le_refl _)
  have hle:=room_le (bs.take i) (fun _ _=>0) 0 (fun b hb=>(ee b (List.mem_of_mem_take hb)).2) (fun _ _=>Int.le_refl _) (Int.le_refl _)
  rw[List.length_take]at hle
  have gM:(bs.take i).foldl nu (fun _ _=>0)=kK (bs.take i):=rfl
  rw[gM]at xN hle
  generalize kK (bs.take i)=c at *
  generalize bs[i]=b at *
  obtain⟨ha,sq⟩:=rW
  have gA:=rL (R:=R1) (n:=cnt) ha
  have gB:=rL (R:=R1) (n:=cnt) sq
  have rA:=bM.r1 _ ha
  have rB:=bM.r1 _ sq
  have cA:=fJ (f:=c b.a) sq
  have cB:=fJ (f:=c b.b) ha
  have sA:=nY (f:=c) (a:=b.a) (d:=b.s) sq
  have gX:=bM.x
  have g1:=bM.t1
  have DO:(b.a:Int)<(cnt:Int):=ab
  have rW:(b.b:Int)<(cnt:Int):=ab
  have qX:=dE (i:=X) (n:=st_b.next) ab
  have q1:=dE (i:=o1) (n:=st_b.next) ab
  have qA:=dE (i:=R1 b.a) (n:=st_b.next) (by rw[v1];omega)
  have qB:=dE (i:=R1 b.b) (n:=st_b.next) (by rw[v1];omega)
  have xA:=qu sX (s1 b.a) (by decide)
  have xB:=qu sX (s1 b.b) (by decide)
  have yA:=qu so1 (s1 b.a) (by decide)
  have yB:=qu so1 (s1 b.b) (by decide)
  have l1:=jT R1 cnt cnt
  have lA:=fy (c b.a) cnt
  have lB:=fy (c b.b) cnt
  have hAB:=hle b.a b.b
  have hBA:=hle b.b b.a
  have gAB:=xN b.a b.b
  have gBA:=xN b.b b.a
  have wA:IntKind.i64.wrap (c b.a b.b+b.s)=c b.a b.b+b.s:=dy ab
  by_cases qQ:b.a=b.b
  ·obtain⟨ba,bb,s⟩:=b
   dsimp only at *
   subst qQ
   have Qs:=nY (f:=bump c ba ba s) (a:=ba) (b:=ba) (d:=s) (n:=cnt) ha
   have WE:=fJ (f:=bump c ba ba s ba) ha
   have hv:bump c ba ba s ba ba=c ba ba+s:=by simp[bump]
   have lC:=fy (bump c ba ba s ba) cnt
   have wB:IntKind.i64.wrap (c ba ba+s+s)=c ba ba+s+s:=dy ab
   rw[hv]at Qs WE
   have z7:nu c ⟨ba,ba,s⟩ ba=bump (bump c ba ba s) ba ba s ba:=rfl
   rw[bE]at cA sA Qs WE
   (try((repeat(revert hN;revert N;apply Pn.out));refine wk (tw @b38 (tw @b0 (tw @b1 (tw @b5 (tw @Rt (tw @Ru (tw @hi (tw @DS (tw @dB.eq_1 (tw @gA (tw @rA (tw @cA (tw @sA (tw @gX (tw @g1 (tw @DO (tw @qX (tw @q1 (tw @qA (tw @xA (tw @yA (tw @l1 (tw @lA (tw @wA (tw @Qs (tw @WE (tw @lC @wB))))))))))))))))))))))))))) ?_;(repeat(refine Pn.mk ?_;intro N hN))))
   exact fP (sd (tw @b38 (tw @b0 (tw @b1 (tw @b5 (tw @Rt @Ru)))))) (by
    (try dsimp only)
    refine⟨ab,fun x hx=>?_,?_⟩
    ·have p1:=dE (i:=x) (n:=st_b.next) ab
     have p2:=dD (a:=x) (b:=R1 ba) (by rw[v1];omega)
     have:=Ph x hx
     simp only[go_sem, ↓reduceIte,Nat.reduceEqDiff,Nat.reduceAdd,Nat.reduceSub,Nat.reduceLeDiff,reduceCtorEq,p1,p2,this]
    ·rw[Tv]
     refine bM.add I ⟨ba,ba,s⟩ ha ha (fun h=>absurd rfl h) ?_ fun x hx h1 h2=>?_
     ·rw[z7]
      simp only[go_sem, ↓reduceIte,Nat.reduceEqDiff,Nat.reduceAdd,Nat.reduceSub,Nat.reduceLeDiff,reduceCtorEq]
     ·have p1:=dE (i:=x) (n:=st_b.next) ab
      (try dsimp only at h2)
      simp only[go_sem, ↓reduceIte,Nat.reduceEqDiff,Nat.reduceAdd,Nat.reduceSub,Nat.reduceLeDiff,reduceCtorEq,p1,h2])
  ·have ig:(R1 b.a=R1 b.b)=False:=by simp only[eq_iff_iff,iff_false];exact fun h=>qQ (I.i1 _ _ ha sq h)
   have JN:(R1 b.b=R1 b.a)=False:=by simp only[eq_iff_iff,iff_false];exact fun h=>qQ (I.i1 _ _ ha sq h.symm)
   have Qo:bump c b.a b.b b.s b.b=c b.b:=jN fun h=>qQ h.symm
   have Qs:=nY (f:=bump c b.a b.b b.s) (a:=b.b) (b:=b.a) (d:=b.s) (n:=cnt) ha
   rw[Qo]at Qs
   have wB:IntKind.i64.wrap (c b.b b.a+b.s)=c b.b b.a+b.s:=dy ab
   have z7:nu c b b.b=bump (bump c b.a b.b b.s) b.b b.a b.s b.b:=rfl
   rw[bE]at cA cB sA Qs
   (try((repeat(revert hN;revert N;apply Pn.out));refine wk (tw @b38 (tw @b0 (tw @b1 (tw @b5 (tw @Rt (tw @Ru (tw @hi (tw @DS (tw @dB.eq_1 (tw @gA (tw @gB (tw @rA (tw @rB (tw @cA (tw @cB (tw @sA (tw @gX (tw @g1 (tw @DO (tw @rW (tw @qX (tw @q1 (tw @qA (tw @qB (tw @xA (tw @xB (tw @yA (tw @yB (tw @l1 (tw @lA (tw @lB (tw @wA (tw @Qs (tw @wB (tw @ig @JN))))))))))))))))))))))))))))))))))) ?_;(repeat(refine Pn.mk ?_;intro N hN))))
   exact fP (sd (tw @b38 (tw @b0 (tw @b1 (tw @b5 (tw @Rt @Ru)))))) (by
    (try dsimp only)
    refine⟨ab,fun x hx=>?_,?_⟩
    ·have p1:=dE (i:=x) (n:=st_b.next) ab
     have p2:=dD (a:=x) (b:=R1 b.b) (by rw[v1];omega)
     have p3:=dD (a:=x) (b:=R1 b.a) (by rw[v1];omega)
     have:=Ph x hx
     simp only[go_sem, ↓reduceIte,Nat.reduceEqDiff,Nat.reduceAdd,Nat.reduceSub,Nat.reduceLeDiff,reduceCtorEq,p1,p2,p3,this]
    ·rw[Tv]
     refine bM.add I b ha sq (fun h=>?_) ?_ fun x hx h1 h2=>?_
     ·simp only[go_sem, ↓reduceIte,Nat.reduceEqDiff,Nat.reduceAdd,Nat.reduceSub,Nat.reduceLeDiff,reduceCtorEq,ig]
     ·rw[z7]
      simp only[go_sem, ↓reduceIte,Nat.reduceEqDiff,Nat.reduceAdd,Nat.reduceSub,Nat.reduceLeDiff,reduceCtorEq,ig]
     ·have p1:=dE (i:=x) (n:=st_b.next) ab
      simp only[go_sem, ↓reduceIte,Nat.reduceEqDiff,Nat.reduceAdd,Nat.reduceSub,Nat.reduceLeDiff,reduceCtorEq,p1,h1,h2])
 ·have qp:i=bs.length:=ab
  subst qp
  rw[List.take_length]at bM
  (try((repeat(revert hN;revert N;apply Pn.out));refine wk (tw @b38 (tw @b0 (tw @b1 (tw @b5 (tw @Rt (tw @Ru @hi)))))) ?_;(repeat(refine Pn.mk ?_;intro N hN))))
  exact eK (.inl rfl) (vs:=[.ptr X 0 0]) (sd @Nat.zero_add) ⟨X,o1,o2,R1,R2,rfl,⟨I.sx,I.s1,I.s2,I.VG,I.OI,I.i1,I.i2,by have:=I.vx;(try dsimp only);omega,by have:=I.v1;(try dsimp only);omega,by have:=I.v2;(try dsimp only);omega,fun j hj=>by have:=I.XO j hj;(try dsimp only);omega,fun j hj=>by have:=I.Ur j hj;(try dsimp only);omega⟩,bL,bM,Ph⟩
end Go.Proofs.YtakkdjfmiffbfaaGreatDoor.V

namespace Go.Proofs.YtakkdjfmiffbfaaGreatDoor.V
structure Bq (n:Nat) (c f:Nat->Nat->Int) (x:Nat) (par:Nat->Int) (Q:List Nat) (i:Nat):Prop where
 nodup:Q.Nodup
 lt:∀v∈Q,v<n
 root:par x=(x:Int)
 mem:x∈Q
 iff:∀v,v<n->(0<=par v↔v∈Q)
 up:∀v∈Q,v≠x->∃u,u∈Q/\par v=(u:Int)/\Q.idxOf u<Q.idxOf v/\f u v<c u v
 done:∀j (_:j<i) (hl:j<Q.length) (v:Nat),v<n->f Q[j] v<c Q[j] v->v∈Q
 ile:i<=Q.length
section
variable {n:Nat} {c f:Nat->Nat->Int} {x:Nat} {par:Nat->Int} {Q:List Nat} {i:Nat}
theorem Bq.len (h:Bq n c f x par Q i):Q.length<=n:=rn n Q h.nodup h.lt
theorem Bq.start (hx:x<n):Bq n c f x (fun v=>if v=x then(x:Int)else -1) [x] 0:=by
 refine⟨by simp,fun v hv=>by simp at hv;omega,by simp,by simp,fun v hv=>?_,fun v hv ig=>absurd (by simpa using hv) ig,fun j hj=>ab,by simp⟩
 by_cases h:v=x
 ·simp[h]
 ·simp[h]
theorem Bq.visit (h:Bq n c f x par Q i) (hi:i<Q.length) {v:Nat} (hv:v<n) (hp:par v<0) (hr:f Q[i] v<c Q[i] v):Bq n c f x (fun w=>if w=v then(Q[i]:Int)else par w) (Q++[v]) i:=by
 have Xn:v∉Q:=fun hm=>by have:=(h.iff v hv).2 hm;omega
 have QC:x≠v:=fun e=>Xn (e▸h.mem)
 have Aa:∀u∈Q,(Q++[v]).idxOf u=Q.idxOf u:=fun u hu=>by rw[List.idxOf_append,if_pos hu]
 have vW:(Q++[v]).idxOf v=Q.length:=by rw[List.idxOf_append,if_neg Xn];simp
 refine⟨?_,fun w hw=>?_,by simp only[if_neg QC];exact h.root,by simp[h.mem],fun w hw=>?_,fun w hw ig=>?_,fun j hj hl w hw JU=>?_,by simp;omega⟩
 ·refine List.nodup_append.2 ⟨h.nodup,by simp,fun a ha b hb=>?_⟩
  rw[List.mem_singleton.1 hb]
  rintro rfl;exact Xn ha
 ·rcases List.mem_append.1 hw with hw|hw
  ·exact h.lt w hw
  ·rw[List.mem_singleton.1 hw];exact hv
 ·by_cases FJ:w=v
  ·subst FJ;simp
  ·rw[if_neg FJ,h.iff w hw];simp[FJ]
 ·by_cases FJ:w=v
  ·subst FJ
   refine⟨Q[i],by simp,by simp,?_,hr⟩
   rw[Aa _ (List.getElem_mem hi),vW]
   exact List.idxOf_lt_length_of_mem (List.getElem_mem hi)
  ·have hwQ:w∈Q:=by
    rcases List.mem_append.1 hw with hw|hw
    ·exact hw
    ·exact absurd (List.mem_singleton.1 hw) FJ
   obtain⟨u,h1,h2,h3,h4⟩:=h.up w hwQ ig
   exact⟨u,by simp[h1],by rw[if_neg FJ];exact h2,by rw[Aa u h1,Aa w hwQ];exact h3,h4⟩
 ·have iZ:j<Q.length:=by have:=h.ile;omega
  rw[List.getElem_append_left iZ]at JU
  exact List.mem_append_left _ (h.done j hj iZ w hw JU)
theorem Bq.next (h:Bq n c f x par Q i) (hi:i<Q.length) (eJ:∀v,v<n->f Q[i] v<c Q[i] v->0<=par v):Bq n c f x par Q (i+1):=by
 refine⟨h.nodup,h.lt,h.root,h.mem,h.iff,h.up,fun j hj hl v hv hr=>?_,ab⟩
 by_cases mj:j=i
 ·subst mj;exact(h.iff v hv).1 (eJ v hv hr)
 ·exact h.done j ab hl v hv hr
theorem Bq.cut (h:Bq n c f x par Q Q.length) {y:Nat} (hy:y<n) (hp:par y<0):∃S:Nat->Bool,S x=true/\S y=false/\∀u v,u<n->v<n->S u=true->S v=false->¬f u v<c u v:=by
 refine⟨fun v=>decide (v∈Q),by simp[h.mem],?_,fun u v hu hv h1 h2 hr=>?_⟩
 ·have:y∉Q:=fun hm=>by have:=(h.iff y hy).2 hm;omega
  simp[this]
 ·simp only[decide_eq_true_eq,decide_eq_false_iff_not]at h1 h2
  obtain⟨j,hj,rfl⟩:=List.getElem_of_mem h1
  exact h2 (h.done j hj hj v hv hr)
def uD (c f:Nat->Nat->Int) (Q:List Nat) (y k:Nat) (out:List Nat):Prop:=∃rest,out.reverse=k::rest/\(k::rest).getLast (by simp)=y/\qv f c (k::rest)/\(k::rest).Pairwise (fun a b=>Q.idxOf a<Q.idxOf b)/\∀v∈k::rest,v∈Q
theorem uD.start {y:Nat} (hy:y∈Q):uD c f Q y y [y]:=⟨[],rfl,rfl,trivial,by simp,by simpa using hy⟩
theorem uD.step {y k u:Nat} {out:List Nat} (h:uD c f Q y k out) (hu:u∈Q) (hi:Q.idxOf u<Q.idxOf k) (hr:f u k<c u k):uD c f Q y u (out++[u]):=by
 obtain⟨rest,h1,h2,h3,h4,h5⟩:=h
 refine⟨k::rest,by rw[List.reverse_append,h1];rfl,by rw[List.getLast_cons (by simp)];exact h2,⟨hr,h3⟩,?_,?_⟩
 ·refine List.pairwise_cons.2 ⟨fun b hb=>?_,h4⟩
  rcases List.mem_cons.1 hb with rfl|hb
  ·exact hi
  ·have:=(List.pairwise_cons.1 h4).1 b hb;omega
 ·intro v hv
  rcases List.mem_cons.1 hv with rfl|hv
  ·exact hu
  ·exact h5 v hv
theorem uD.len {y k:Nat} {out:List Nat} (h:uD c f Q y k out) (hq:∀v∈Q,v<n):out.length<=n:=by
 obtain⟨rest,h1,_,_,h4,h5⟩:=h
 rw[<-List.length_reverse,h1]
 refine rn n _ (h4.imp fun eR he=>?_) fun v hv=>hq v (h5 v hv)
 subst he;omega
structure R4 (n:Nat) (c f:Nat->Nat->Int) (x y:Nat) (p:List Nat):Prop where
 way:∃r,p=x::r/\(x::r).getLast (by simp)=y
 nodup:p.Nodup
 room:qv f c p
 lt:∀v∈p,v<n
theorem uD.way {y:Nat} {out:List Nat} (h:uD c f Q y x out) (hq:∀v∈Q,v<n):R4 n c f x y out.reverse:=by
 obtain⟨rest,h1,h2,h3,h4,h5⟩:=h
 rw[h1]
 exact⟨⟨rest,rfl,h2⟩,h4.imp fun eR he=>by subst he;omega,h3,fun v hv=>hq v (h5 v hv)⟩
end
end Go.Proofs.YtakkdjfmiffbfaaGreatDoor.V

namespace Go.Proofs.YtakkdjfmiffbfaaGreatDoor.V
open Go.RowKit
attribute [local irreducible] dL wpOps ez Call
attribute [local go_sem] ay ew dZ eE eC cY upd bJ K.av bZ AV.cells AV.cell rowOf rowsOf part ld rowAt eO bH bI cX dj eQ bq cF dx eA ed cQ dq cD cC dc de bu aE cm bt cr cq dn dr dp ck bz cE dm br aw cw bQ eP aZ bW bx aD cR aQ cZ AV.undef bd bj dh di c6 da bV dw dz bP du dt cu cz List.getD_cons_zero List.getD_cons_succ List.getD_nil List.all_cons List.all_nil Bool.and_true Bool.true_and Bool.and_self Bool.not_true Bool.not_false Option.map_some Option.map_none Option.bind_some Option.bind_none List.length_cons List.length_nil List.take_succ_cons List.take_zero List.take_nil List.drop_succ_cons List.drop_zero List.drop_nil List.head?_cons List.map_cons List.map_nil List.getElem?_cons_zero List.getElem?_cons_succ List.cons_append List.nil_append List.append_nil List.length_map List.set_cons_zero List.set_cons_succ Nat.reduceMul eq_self Int.toNat_natCast Int.natCast_nonneg and_self true_and and_true decide_true decide_false Bool.false_eq_true Nat.zero_add Nat.add_zero List.contains_cons List.contains_nil Bool.or_false Bool.false_or beq_self_eq_true Nat.reduceBEq ne_eq not_true_eq_false not_false_eq_true Id.mk.injEq false_and and_false Nat.reduceLT Int.reduceLE Int.reduceLT Int.reduceToNat Int.reduceNeg Int.reduceAdd Nat.le_refl List.length_append beq_true beq_false Bool.not_eq_eq_eq_not or_false false_or dW ad ae aL aI bf bR az bc aA aJ cj bh
def lH (l:List Nat) (i x:Nat):Nat:=if x<i∨l.length-i<=x then l.getD (l.length-1-x) 0 else l.getD x 0
theorem zp (l:List Nat):l.map eN=fX (fun x=>l.getD x 0) l.length:=by
 refine List.ext_getElem? fun i=>?_
 by_cases h:i<l.length
 ·rw[iP h,List.getElem?_map,List.getElem?_eq_getElem h];simp[List.getD_eq_getElem?_getD,h]
 ·rw[List.getElem?_eq_none (by simp;omega),List.getElem?_eq_none (by rw[js];omega)]
theorem HB (l:List Nat):fX (lH l 0) l.length=l.map eN:=by
 rw[zp]
 exact kf fun x hx=>by unfold lH;rw[if_neg ab]
theorem KP (l:List Nat) {i:Nat} (h:l.length<=2*i+1) (hi:i<=l.length):fX (lH l i) l.length=l.reverse.map eN:=by
 rw[zp l.reverse,List.length_reverse]
 refine kf fun x hx=>?_
 have hr:l.reverse.getD x 0=l.getD (l.length-1-x) 0:=by
  rw[List.getD_eq_getElem?_getD,List.getElem?_reverse hx,List.getD_eq_getElem?_getD]
 rw[hr]
 unfold lH
 by_cases hc:x<i∨l.length-i<=x
 ·rw[if_pos hc]
 ·rw[if_neg hc]
  have:x=l.length-1-x:=ab
  rw[<-this]
theorem HC (l:List Nat) (hp:0<l.length) (hl:l.length<=1048576) (o:Id) (σ:aq) (ho:σ.get o=some ⟨true,1,l.map eN⟩) (RH:o.cW<σ.next):
  Call Tryz.prog 221 [.own o 0 l.length] σ fun r σ'=>σ'.get o=some ⟨true,1,l.reverse.map eN⟩/\σ.next<=σ'.next/\∀i:Id,i.cW<σ.next->(i=o)=False->σ'.get i=σ.get i:=by
 refine eU fH rfl fun fR=>?_
 clear fR
 rw[<-HB]at ho
 have Vt:IntKind.i64.wrap ((l.length:Int)-1)=((l.length-1:Nat):Int):=by rw[dy ab];omega
 (try((repeat(revert hN;revert N;apply Pn.out));refine wk @Vt ?_;(repeat(refine Pn.mk ?_;intro N hN))))
 refine cU (fun m env st=>∃i:Nat,m=l.length-i/\2*i<=l.length+1/\i<=l.length/\env 2=.int .i64 (i:Int)/\env 3=.int .i64 ((l.length:Int)-1-i)/\st.get o=some ⟨true,1,fX (lH l i) l.length⟩/\σ.next<=st.next/\∀x:Id,x.cW<σ.next->(x=o)=False->st.get x=σ.get x) l.length ⟨0,rfl,ab,ab,by(simp only[go_sem, ↓reduceIte,Nat.reduceEqDiff,Nat.reduceAdd,Nat.reduceSub,Nat.reduceLeDiff,reduceCtorEq])<;>rfl,by(simp only[go_sem, ↓reduceIte,Nat.reduceEqDiff,Nat.reduceAdd,Nat.reduceSub,Nat.reduceLeDiff,reduceCtorEq,Vt]);congr 1;omega,ho,bL,fun x _ _=>rfl⟩ ?_
 rintro m env_b st_b ⟨i,rfl,vU,qp,b2,b3,bg,bn,fA⟩ bkp
 have b0:=bkp 0 (by kernel_rfl)
 simp only[go_sem, ↓reduceIte,Nat.reduceEqDiff,Nat.reduceAdd,Nat.reduceSub,Nat.reduceLeDiff,reduceCtorEq]at b0
 clear bkp
 have tl:=js (lH l i) l.length
 have qW:=dE (i:=o) (n:=st_b.next) ab
 by_cases hi:(i:Int)<(l.length:Int)-1-i
 ·have iO:i<l.length:=ab
  obtain⟨j,hj⟩:∃j,j=l.length-1-i:=⟨_,rfl⟩
  have vV:j<l.length:=ab
  have Tb:(l.length:Int)-1-i=(j:Int):=ab
  rw[Tb]at b3 hi
  have g1:=iP (f:=lH l i) iO
  have g2:=iP (f:=lH l i) vV
  have e1:lH l i i=l.getD i 0:=by unfold lH;rw[if_neg ab]
  have e2:lH l i j=l.getD j 0:=by unfold lH;rw[if_neg ab]
  have Ou:(fX (lH l i) l.length).set i (eN (l.getD j 0))=fX (fun x=>if x=i then l.getD j 0 else lH l i x) l.length:=uB iO (if_pos rfl) fun x _ hx=>if_neg hx
  have JV:(fX (fun x=>if x=i then l.getD j 0 else lH l i x) l.length).set j (eN (l.getD i 0))=fX (lH l (i+1)) l.length:=uB vV (by unfold lH;rw[if_pos ab];congr 1;omega) fun x hx RL=>by
   by_cases Ox:x=i
   ·rw[if_pos Ox];unfold lH;rw[if_pos ab];congr 1;omega
   ·rw[if_neg Ox];unfold lH
    by_cases hc:x<i∨l.length-i<=x
    ·rw[if_pos hc,if_pos ab]
    ·rw[if_neg hc,if_neg ab]
  have tl2:=js (fun x=>if x=i then l.getD j 0 else lH l i x) l.length
  have g3:=iP (f:=fun x=>if x=i then l.getD j 0 else lH l i x) vV
  rw[e1]at g1
  rw[e2]at g2
  rw[if_neg ab,e2]at g3
  rw[eN]at g1 g2 g3 Ou JV
  have hii:(i:Int)<(l.length:Int):=ab
  have mj:(j:Int)<(l.length:Int):=ab
  have B6:IntKind.i64.wrap ((i:Int)+1)=((i+1:Nat):Int):=cI ab
  have tX:IntKind.i64.wrap ((j:Int)-1)=(l.length:Int)-1-((i+1:Nat):Int):=by rw[dy ab];omega
  (try((repeat(revert hN;revert N;apply Pn.out));refine wk (tw @b0 (tw @b2 (tw @b3 (tw @bg (tw @hi (tw @hii (tw @mj (tw @g1 (tw @g2 (tw @g3 (tw @Ou (tw @JV (tw @tl (tw @tl2 (tw @qW (tw @B6 @tX)))))))))))))))) ?_;(repeat(refine Pn.mk ?_;intro N hN))))
  refine⟨_,?_,i+1,rfl,ab,ab,sd @B6,sd @tX,sd @JV,bL,fun x hx Il=>?_⟩
  ·omega
  ·have:=fA x hx Il
   simp only[go_sem, ↓reduceIte,Nat.reduceEqDiff,Nat.reduceAdd,Nat.reduceSub,Nat.reduceLeDiff,reduceCtorEq,Il,this]
 ·rw[KP l ab qp]at bg
  (try((repeat(revert hN;revert N;apply Pn.out));refine wk (tw @b0 (tw @b2 (tw @b3 (tw @bg @hi)))) ?_;(repeat(refine Pn.mk ?_;intro N hN))))
  exact eK (.inr rfl) (vs:=[]) (by simp only[gR,go_sem, ↓reduceIte,Nat.reduceEqDiff,Nat.reduceAdd,Nat.reduceSub,Nat.reduceLeDiff,reduceCtorEq]) ⟨bg,bL,fA⟩
theorem Uw (cnt:Nat) (qq:1<=cnt) (hn:cnt<=1048576) (c f:Nat->Nat->Int) (x y:Nat) (hx:x<cnt) (hy:y<cnt):
  pA Tryz.prog 198 [.eT (kZ cnt c f),.int .i64 x,.int .i64 y] fun r=>(r=.bB/\∃S:Nat->Bool,S x=true/\S y=false/\∀u v,u<cnt->v<cnt->S u=true->S v=false->¬f u v<c u v)∨∃p:List Nat,r=.sl (p.map eN)/\R4 cnt c f x y p:=by
 refine pA.body fH rfl fun hl n0=>?_
 clear hl
 have lM:=xg c cnt
 have jA:(0:Int)<=(cnt:Int):=ab
 have Ox:(x:Int)<(cnt:Int):=ab
 have hyi:(y:Int)<(cnt:Int):=ab
 (try((repeat(revert hN;revert N;apply Pn.out));refine wk (tw @kZ.eq_1 @lM) ?_;(repeat(refine Pn.mk ?_;intro N hN))))
 refine .inr (aS _ _ _ _ _ (fun r σ1 hq=>?_) (KN cnt qq hn (-1) ⟨198002000,n0+1+1⟩ _ (sd @Nat.zero_add) bL))
 obtain⟨o,rfl,ho,ME,MF,jP⟩:=hq
 (try dsimp only at ho ME MF jP)
 refine hN _ _ ?_
 clear hN N
 have qW:=dE MF
 have pF:(cnt:Int)<=1048576:=ab
 have SR:qH<qH+cnt:=ab
 have hZ:List.replicate cnt [AV.int .i64 (-1)]=gQ (fun _=>-1) cnt:=by
  refine List.ext_getElem? fun i=>?_
  by_cases h:i<cnt
  ·rw[fJ h,List.getElem?_replicate,if_pos h];rfl
  ·rw[List.getElem?_eq_none (by simp;omega),List.getElem?_eq_none (by rw[fy];omega)]
 rw[hZ]at ho
 have Ot:(gQ (fun _=>-1) cnt).set x (bE (x:Int))=gQ (fun v=>if v=x then(x:Int)else -1) cnt:=xh hx (if_pos rfl) fun v _ hv=>if_neg hv
 have SZ:=fJ (f:=fun _=>-1) hx
 have tl0:=fy (fun _=>-1) cnt
 rw[bE]at Ot SZ
 (try((repeat(revert hN;revert N;apply Pn.out));refine wk (tw @kZ.eq_1 (tw @lM (tw @jA (tw @pF @qW)))) ?_;(repeat(refine Pn.mk ?_;intro N hN))))
 refine Lj ?_
 simp only[go_sem, ↓reduceIte,Nat.reduceEqDiff,Nat.reduceAdd,Nat.reduceSub,Nat.reduceLeDiff,reduceCtorEq,SR]
 refine hN _ _ ?_
 clear hN N
 (try((repeat(revert hN;revert N;apply Pn.out));refine wk (tw @ho (tw @qW (tw @Ot (tw @SZ (tw @tl0 @Ox))))) ?_;(repeat(refine Pn.mk ?_;intro N hN))))
 obtain⟨C,hC⟩:∃C:Id,C=⟨198003001,σ1.next+1⟩:=⟨_,rfl⟩
 have Tn:=dD (a:=o) (b:=C) (by rw[hC];(try dsimp only);omega)
 have hCv:C.cW=σ1.next+1:=by rw[hC]
 refine cU (fun m env st=>∃(par:Nat->Int) (Q:List Nat) (i:Nat),m=cnt-i/\Bq cnt c f x par Q i/\st.get o=some ⟨true,1,gQ par cnt⟩/\st.get C=some ⟨true,qH+cnt,(Q.drop i).map eN⟩/\σ1.next+1<st.next) cnt ⟨_,[x],0,rfl,Bq.start hx,sd @qW,by rw[hC];simp only[go_sem, ↓reduceIte,Nat.reduceEqDiff,Nat.reduceAdd,Nat.reduceSub,Nat.reduceLeDiff,reduceCtorEq,qW];rfl,bL⟩ ?_
 rintro m env_b st_b ⟨par,Q,i,rfl,hB,bgo,bgC,bn⟩ bkp
 have b0:=bkp 0 (by kernel_rfl)
 have b1:=bkp 1 (by kernel_rfl)
 have b2:=bkp 2 (by kernel_rfl)
 have b7:=bkp 7 (by kernel_rfl)
 have b8:=bkp 8 (by kernel_rfl)
 have b9:=bkp 9 (by kernel_rfl)
 rw[<-hC]at b9
 simp only[go_sem, ↓reduceIte,Nat.reduceEqDiff,Nat.reduceAdd,Nat.reduceSub,Nat.reduceLeDiff,reduceCtorEq]at b0 b1 b2 b7 b8 b9
 clear bkp
 have hQn:=hB.len
 have qp:=hB.ile
 have Qa:((Q.drop i).map eN).length=Q.length-i:=by simp
 by_cases hi:i<Q.length
 ·have kq:(0:Int)<((Q.length-i:Nat):Int):=ab
  have rX:Q.drop i=Q[i]::Q.drop (i+1):=List.drop_eq_getElem_cons hi
  obtain⟨u,hu⟩:∃u,u=Q[i]:=⟨_,rfl⟩
  have hun:u<cnt:=by rw[hu];exact hB.lt _ (List.getElem_mem hi)
  rw[<-hu]at rX
  (try((repeat(revert hN;revert N;apply Pn.out));refine wk (tw @b0 (tw @b1 (tw @b2 (tw @b7 (tw @b8 (tw @b9 (tw @bgC (tw @Qa @kq)))))))) ?_;(repeat(refine Pn.mk ?_;intro N hN))))
  refine Lj ?_
  rw[rX,List.map_cons,show eN u=[.int .i64 (u:Int)]from rfl]at bgC
  simp only[go_sem, ↓reduceIte,Nat.reduceEqDiff,Nat.reduceAdd,Nat.reduceSub,Nat.reduceLeDiff,reduceCtorEq,b9,bgC]
  refine hN _ _ ?_
  clear hN N
  (try((repeat(revert hN;revert N;apply Pn.out));refine wk @b7 ?_;(repeat(refine Pn.mk ?_;intro N hN))))
  refine cU (fun m env st=>∃(v:Nat) (par':Nat->Int) (Q':List Nat),m=cnt-v/\v<=cnt/\env 36=.int .i64 (v:Int)/\Bq cnt c f x par' Q' i/\(∃h:i<Q'.length,Q'[i]=u)/\st.get o=some ⟨true,1,gQ par' cnt⟩/\st.get C=some ⟨true,qH+cnt,(Q'.drop (i+1)).map eN⟩/\σ1.next+1<st.next/\∀w,w<v->f u w<c u w->0<=par' w) cnt ⟨0,par,Q,rfl,Nat.zero_le _,by(simp only[go_sem, ↓reduceIte,Nat.reduceEqDiff,Nat.reduceAdd,Nat.reduceSub,Nat.reduceLeDiff,reduceCtorEq])<;>rfl,hB,⟨hi,hu.symm⟩,sd (tw @Tn @bgo),sd @Tn,bL,fun w hw=>absurd hw (Nat.not_lt_zero w)⟩ ?_
  rintro m env_c st_c ⟨v,par',Q',rfl,hvn,c36,ei,⟨pG,C1⟩,cgo,cgC,cn,eJ⟩ ckp
  have c0:=ckp 0 (by kernel_rfl)
  have c1:=ckp 1 (by kernel_rfl)
  have c2:=ckp 2 (by kernel_rfl)
  have c7:=ckp 7 (by kernel_rfl)
  have c8:=ckp 8 (by kernel_rfl)
  have c9:=ckp 9 (by kernel_rfl)
  have Lv:=ckp 10 (by kernel_rfl)
  have Po:=ckp 35 (by kernel_rfl)
  simp only[go_sem, ↓reduceIte,Nat.reduceEqDiff,Nat.reduceAdd,Nat.reduceSub,Nat.reduceLeDiff,reduceCtorEq,b0,b1,b2,b7,b8,b9]at c0 c1 c2 c7 c8 c9 Lv Po
  clear ckp
  have tl:=fy par' cnt
  by_cases hv:(v:Int)<(cnt:Int)
  ·have DY:v<cnt:=ab
   have RA:=fJ (f:=par') DY
   have jP:=PG cnt c f u v hun DY
   have hw:IntKind.i64.wrap ((v:Int)+1)=((v+1:Nat):Int):=cI ab
   rw[bE]at RA
   rw[kZ]at jP
   by_cases xO:par' v<0
   ·by_cases hr:f u v<c u v
    ·rw[decide_eq_true hr]at jP
     have jc:(gQ par' cnt).set v (bE (u:Int))=gQ (fun w=>if w=v then(u:Int)else par' w) cnt:=xh DY (if_pos rfl) fun w _ hw=>if_neg hw
     rw[bE]at jc
     have pv:=ei.visit pG DY xO (by rw[C1];exact hr)
     rw[C1]at pv
     have hQ2:=pv.len
     rw[List.length_append]at hQ2
     simp only[List.length_singleton]at hQ2
     have gM:qH+(Q'.drop (i+1)).length<qH+cnt:=by rw[List.length_drop];omega
     (repeat(first|((repeat(revert hN;revert N;apply Pn.out));refine wk (tw @kZ.eq_1 (tw @c0 (tw @c7 (tw @c8 (tw @c9 (tw @Lv (tw @c36 (tw @Po (tw @hv (tw @cgo (tw @RA (tw @tl (tw @xO @jc))))))))))))) ?_;(repeat(refine Pn.mk ?_;intro N hN)))|((try apply Or.inl);refine⟨_,aP.x (jP) (sd (tw @kZ.eq_1 (tw @c0 (tw @c7 (tw @c8 (tw @c9 (tw @Lv (tw @c36 (tw @Po (tw @hv (tw @cgo (tw @RA (tw @tl (tw @xO @jc)))))))))))))),?_⟩;refine hN _ _ ?_;clear hN N)))
     refine Lj ?_
     have hq:(Q'.drop (i+1)).map eN++[[.int .i64 (v:Int)]]=((Q'++[v]).drop (i+1)).map eN:=by rw[List.drop_append_of_le_length ab,List.map_append];rfl
     simp only[go_sem, ↓reduceIte,Nat.reduceEqDiff,Nat.reduceAdd,Nat.reduceSub,Nat.reduceLeDiff,reduceCtorEq,c9,cgC,gM,Tn,hq]
     refine hN _ _ ?_
     clear hN N
     (try((repeat(revert hN;revert N;apply Pn.out));refine wk (tw @c36 @hw) ?_;(repeat(refine Pn.mk ?_;intro N hN))))
     refine⟨_,?_,v+1,_,_,rfl,DY,sd @hw,pv,⟨by rw[List.length_append];omega,by rw[List.getElem_append_left pG];exact C1⟩,sd @Tn,sd @Tn,bL,fun w hw JU=>?_⟩
     ·omega
     ·by_cases FJ:w=v
      ·rw[if_pos FJ];omega
      ·rw[if_neg FJ];exact eJ w ab JU
    ·rw[decide_eq_false hr]at jP
     (repeat(first|((repeat(revert hN;revert N;apply Pn.out));refine wk (tw @kZ.eq_1 (tw @c0 (tw @c7 (tw @c8 (tw @c9 (tw @Lv (tw @c36 (tw @Po (tw @hv (tw @cgo (tw @RA (tw @tl (tw @xO @hw))))))))))))) ?_;(repeat(refine Pn.mk ?_;intro N hN)))|((try apply Or.inl);refine⟨_,aP.x (jP) (sd (tw @kZ.eq_1 (tw @c0 (tw @c7 (tw @c8 (tw @c9 (tw @Lv (tw @c36 (tw @Po (tw @hv (tw @cgo (tw @RA (tw @tl (tw @xO @hw)))))))))))))),?_⟩;refine hN _ _ ?_;clear hN N)))
     refine⟨_,?_,v+1,par',Q',rfl,DY,sd @hw,ei,⟨pG,C1⟩,sd @cgo,sd @cgC,bL,fun w hw JU=>?_⟩
     ·omega
     ·by_cases FJ:w=v
      ·subst FJ;exact absurd JU hr
      ·exact eJ w ab JU
   ·(try((repeat(revert hN;revert N;apply Pn.out));refine wk (tw @kZ.eq_1 (tw @c0 (tw @c7 (tw @c8 (tw @c9 (tw @Lv (tw @c36 (tw @Po (tw @hv (tw @cgo (tw @RA (tw @tl (tw @xO @hw))))))))))))) ?_;(repeat(refine Pn.mk ?_;intro N hN))))
    refine⟨_,?_,v+1,par',Q',rfl,DY,sd @hw,ei,⟨pG,C1⟩,sd @cgo,sd @cgC,bL,fun w hw JU=>?_⟩
    ·omega
    ·by_cases FJ:w=v
     ·subst FJ;omega
     ·exact eJ w ab JU
  ·have Xp:v=cnt:=ab
   subst Xp
   (try((repeat(revert hN;revert N;apply Pn.out));refine wk (tw @c36 (tw @Po @hv)) ?_;(repeat(refine Pn.mk ?_;intro N hN))))
   refine⟨_,?_,par',Q',i+1,rfl,ei.next pG fun w hw hr=>eJ w hw (by rw[<-C1];exact hr),sd @cgo,sd @cgC,bL⟩
   omega
 ·have hiQ:i=Q.length:=ab
  subst hiQ
  have kq:¬(0:Int)<((Q.length-Q.length:Nat):Int):=ab
  have WN:=fJ (f:=par) hy
  have tl:=fy par cnt
  rw[bE]at WN
  by_cases xO:par y<0
  ·(try((repeat(revert hN;revert N;apply Pn.out));refine wk (tw @b0 (tw @b1 (tw @b2 (tw @b7 (tw @b8 (tw @b9 (tw @bgC (tw @Qa (tw @kq (tw @bgo (tw @WN (tw @tl (tw @hyi @xO))))))))))))) ?_;(repeat(refine Pn.mk ?_;intro N hN))))
   exact⟨[.bB],sd @Nat.zero_add,.bB,lQ _ _,.inl ⟨rfl,hB.cut hy xO⟩⟩
  ·(try((repeat(revert hN;revert N;apply Pn.out));refine wk (tw @b0 (tw @b1 (tw @b2 (tw @b7 (tw @b8 (tw @b9 (tw @bgC (tw @Qa (tw @kq (tw @bgo (tw @WN (tw @tl (tw @hyi @xO))))))))))))) ?_;(repeat(refine Pn.mk ?_;intro N hN))))
   refine cU (fun m env st=>∃(k:Nat) (out:List Nat) (p:Id),m=Q.idxOf k/\env 13=.int .i64 (k:Int)/\env 12=.own p 0 out.length/\st.get p=some ⟨true,1,out.map eN⟩/\p.cW<st.next/\st_b.next<=p.cW/\k∈Q/\uD c f Q y k out/\st.get o=some ⟨true,1,gQ par cnt⟩) (Q.idxOf y) ⟨y,[y],⟨198017001,st_b.next+1+1⟩,rfl,by(simp only[go_sem, ↓reduceIte,Nat.reduceEqDiff,Nat.reduceAdd,Nat.reduceSub,Nat.reduceLeDiff,reduceCtorEq]),by(simp only[go_sem, ↓reduceIte,Nat.reduceEqDiff,Nat.reduceAdd,Nat.reduceSub,Nat.reduceLeDiff,reduceCtorEq])<;>rfl,by(simp only[go_sem, ↓reduceIte,Nat.reduceEqDiff,Nat.reduceAdd,Nat.reduceSub,Nat.reduceLeDiff,reduceCtorEq])<;>rfl,bL,bL,(hB.iff y hy).1 ab,uD.start ((hB.iff y hy).1 ab),by(have hvb:=dE (i:=o) (n:=st_b.next) ab);simp only[go_sem, ↓reduceIte,Nat.reduceEqDiff,Nat.reduceAdd,Nat.reduceSub,Nat.reduceLeDiff,reduceCtorEq,hvb,bgo]⟩ ?_
   rintro m env_d st_d ⟨k,out,p,rfl,d13,d12,dgp,dpn,dpo,hkQ,uq,dgo⟩ dkp
   have d1:=dkp 1 (by kernel_rfl)
   have d8:=dkp 8 (by kernel_rfl)
   simp only[go_sem, ↓reduceIte,Nat.reduceEqDiff,Nat.reduceAdd,Nat.reduceSub,Nat.reduceLeDiff,reduceCtorEq,b1,b8]at d1 d8
   clear dkp
   have TA:=dE dpn
   have Tz:=dE (i:=o) (n:=st_d.next) ab
   have eu:=dD (a:=o) (b:=p) ab
   have hol:=uq.len hB.lt
   have jB:=hB.lt k hkQ
   have fw:(out.map eN).length=out.length:=by simp
   by_cases Ve:k=x
   ·have hd:decide ((k:Int)=(x:Int))=true:=decide_eq_true (by rw[Ve])
    have Xc:0<out.length:=by
     obtain⟨rest,h1,_⟩:=uq
     rw[<-List.length_reverse,h1];simp
    (try((repeat(revert hN;revert N;apply Pn.out));refine wk (tw @d1 (tw @d8 (tw @d12 (tw @d13 (tw @hd @Bool.not_true))))) ?_;(repeat(refine Pn.mk ?_;intro N hN))))
    refine .inr (aS _ _ _ _ _ (fun r σ2 hq=>?_) (HC out Xc ab p _ dgp bL))
    obtain⟨My,p7,SY⟩:=hq
    refine hN _ _ ?_
    clear hN N
    (try((repeat(revert hN;revert N;apply Pn.out));refine wk @d12 ?_;(repeat(refine Pn.mk ?_;intro N hN))))
    refine⟨[.own p 0 out.length],sd @d12,.sl (out.reverse.map eN),?_,.inr ⟨out.reverse,rfl,by subst Ve;exact uq.way hB.lt⟩⟩
    exact fN (sz:=1) My (by simp) fun a=>Su _ 4 a
   ·have hd:decide ((k:Int)=(x:Int))=false:=decide_eq_false fun h=>Ve ab
    obtain⟨u,huQ,Vl,Aa,hr⟩:=hB.up k hkQ Ve
    have gV:=fJ (f:=par) jB
    rw[bE,Vl]at gV
    have Td:(k:Int)<(cnt:Int):=ab
    have e1:out.length+1<=16777216:=ab
    (try((repeat(revert hN;revert N;apply Pn.out));refine wk (tw @d1 (tw @d8 (tw @d12 (tw @d13 (tw @hd (tw @Bool.not_false (tw @dgo (tw @dgp (tw @gV (tw @tl (tw @Td (tw @TA (tw @Tz (tw @eu (tw @fw @e1))))))))))))))) ?_;(repeat(refine Pn.mk ?_;intro N hN))))
    refine⟨_,Aa,u,out++[u],⟨198021003,st_d.next+1+1⟩,rfl,sd @Nat.zero_add,by rw[List.length_append];simp only[go_sem, ↓reduceIte,Nat.reduceEqDiff,Nat.reduceAdd,Nat.reduceSub,Nat.reduceLeDiff,reduceCtorEq,List.length_cons,List.length_nil],by rw[List.map_append,List.map_cons,List.map_nil];simp only[go_sem, ↓reduceIte,Nat.reduceEqDiff,Nat.reduceAdd,Nat.reduceSub,Nat.reduceLeDiff,reduceCtorEq,eN],bL,bL,huQ,uq.step huQ Aa hr,sd (tw @Tz (tw @eu @dgo))⟩
theorem A8 (b:Nat):∀(l:List Nat) (a:Nat) (f:Nat->Nat->Int),lK f ((a::l)++[b])=j8 (lK f (a::l)) ((a::l).getLast (by simp)) b
 |[],a,f=>rfl
 |c::l,a,f=>by
  rw[List.cons_append,List.cons_append,lK,<-List.cons_append,A8 b l c (j8 f a c),lK,List.getLast_cons_cons]
theorem Gk {p:List Nat} {f:Nat->Nat->Int} {i:Nat} (h1:1<=i) (hi:i<p.length):lK f (p.take (i+1))=j8 (lK f (p.take i)) (p[i-1]'ab) p[i]:=by
 rw[List.take_succ_eq_append_getElem hi]
 have ig:p.take i≠[]:=by
  intro h
  have:(p.take i).length=0:=by rw[h];rfl
  rw[List.length_take]at this;omega
 obtain⟨a,l,U6⟩:∃a l,p.take i=a::l:=by
  cases h:p.take i with
  |nil=>exact absurd h ig
  |cons a l=>exact⟨a,l,rfl⟩
 have vW:(p.take i).getLast ig=p[i-1]'ab:=by
  rw[List.getLast_eq_getElem,List.getElem_take]
  congr 1
  rw[List.length_take];omega
 simp only[U6]at vW ⊢
 rw[A8,vW]
theorem Hz (f:Nat->Nat->Int) (a b u v:Nat):j8 f a b u v<=f u v+1/\f u v-1<=j8 f a b u v:=by
 unfold j8 bump
 split<;>split<;>constructor<;>omega
theorem lL:∀(p:List Nat) (f:Nat->Nat->Int) (u v:Nat),lK f p u v<=f u v+p.length/\f u v-p.length<=lK f p u v
 |[],f,u,v=>by simp[lK]
 |[_],f,u,v=>by simp[lK];omega
 |a::b::r,f,u,v=>by
  rw[lK]
  have h1:=lL (b::r) (j8 f a b) u v
  have h2:=Hz f a b u v
  simp only[List.length_cons]at h1 ⊢
  omega
theorem nR.push {g g':Rows} {X o1 o2:Id} {R1 R2:Nat->Id} {n nb:Nat} {c f:Nat->Nat->Int} (I:Gh X o1 o2 R1 R2 n nb) (h:nR g X o1 o2 R1 R2 n c f) {a b:Nat} (ha:a<n) (hb:b<n) (qQ:a≠b) (hA:g' (R2 a)=some ⟨true,1,gQ (bump f a b 1 a) n⟩) (hB:g' (R2 b)=some ⟨true,1,gQ (bump (bump f a b 1) b a (-1) b) n⟩) (hf:∀i:Id,i.cW<nb->(i=R2 a)=False->(i=R2 b)=False->g' i=g i):nR g' X o1 o2 R1 R2 n c (j8 f a b):=by
 have ne:∀{i:Id} {s:Nat},i.site=s->(s==169005006)=false->∀a,a<n->(i=R2 a)=False:=fun {i s} hi hs a ha=>by
  simp only[eq_iff_iff,iff_false]
  rintro rfl
  rw[I.OI a ha]at hi
  subst hi
  simp at hs
 refine⟨(hf _ I.vx (ne I.sx (by decide) _ ha) (ne I.sx (by decide) _ hb)).trans h.x,(hf _ I.v1 (ne I.s1 (by decide) _ ha) (ne I.s1 (by decide) _ hb)).trans h.t1,(hf _ I.v2 (ne I.s2 (by decide) _ ha) (ne I.s2 (by decide) _ hb)).trans h.t2,fun i hi=>(hf _ (I.XO i hi) (ne (I.VG i hi) (by decide) _ ha) (ne (I.VG i hi) (by decide) _ hb)).trans (h.r1 i hi),fun i hi=>?_⟩
 by_cases LA:i=b
 ·subst LA;exact hB
 ·by_cases Qd:i=a
  ·subst Qd
   rw[hA,j8,jN LA]
  ·rw[j8,jN LA,jN Qd,hf _ (I.Ur i hi) (by simp only[eq_iff_iff,iff_false];exact fun he=>Qd (I.i2 i _ hi ha he)) (by simp only[eq_iff_iff,iff_false];exact fun he=>LA (I.i2 i _ hi hb he))]
   exact h.r2 i hi
theorem QZ (cnt:Nat) (qq:1<=cnt) (hn:cnt<=1048576) (c:Nat->Nat->Int) (hc:∀u v,u<cnt->v<cnt->0<=c u v/\c u v<=16777216) (x y:Nat) (hx:x<cnt) (hy:y<cnt) (QD:x≠y) (t:Int) (ht:t<=1099511627776)
  (X o1 o2:Id) (R1 R2:Nat->Id) (nb:Nat) (I:Gh X o1 o2 R1 R2 cnt nb) (σ:aq) (hM:nR σ.get X o1 o2 R1 R2 cnt c (fun _ _=>0)) (tt:nb<=σ.next):
  Call Tryz.prog 170 [.ptr X 0 0,.int .i64 x,.int .i64 y,.int .i64 t] σ fun r σ'=>∃(k:Nat) (f:Nat->Nat->Int),r=.int .i64 k/\mU cnt c f x y k/\nR σ'.get X o1 o2 R1 R2 cnt c f/\((∃S:Nat->Bool,S x=true/\S y=false/\∀u v,u<cnt->v<cnt->S u=true->S v=false->¬f u v<c u v)∨t<=k)/\σ.next<=σ'.next:=by
 refine eU fH rfl fun hl=>?_
 clear hl
 have hxS:(fun v=>decide (v=x)) x=true:=by simp
 have hyS:(fun v=>decide (v=x)) y=false:=by simp;exact fun h=>QD h.symm
 obtain⟨top,Xm⟩:∃top,top=lO cnt (fun v=>decide (v=x)) c:=⟨_,rfl⟩
 (try((repeat(revert hN;revert N;apply Pn.out));refine wk @Nat.zero_add ?_;(repeat(refine Pn.mk ?_;intro N hN))))
 refine cU (fun m env st=>∃(k:Nat) (f:Nat->Nat->Int),m=(top-k).toNat/\env 9=.int .i64 (k:Int)/\mU cnt c f x y k/\nR st.get X o1 o2 R1 R2 cnt c f/\σ.next<=st.next/\(0<k->(k:Int)<=t)/\∀u v,-((k:Int)*(cnt:Int))<=f u v) (top-0).toNat ⟨0,fun _ _=>0,rfl,by(simp only[go_sem, ↓reduceIte,Nat.reduceEqDiff,Nat.reduceAdd,Nat.reduceSub,Nat.reduceLeDiff,reduceCtorEq])<;>rfl,mU.zero fun u v hu hv=>(hc u v hu hv).1,hM,bL,fun h=>absurd h (Nat.lt_irrefl 0),fun u v=>by simp⟩ ?_
 rintro m env_b st_b ⟨k,f,rfl,b9,hF,bM,bn,bk,blo⟩ bkp
 have b0:=bkp 0 (by kernel_rfl)
 have b1:=bkp 1 (by kernel_rfl)
 have b2:=bkp 2 (by kernel_rfl)
 have b3:=bkp 3 (by kernel_rfl)
 simp only[go_sem, ↓reduceIte,Nat.reduceEqDiff,Nat.reduceAdd,Nat.reduceSub,Nat.reduceLeDiff,reduceCtorEq]at b0 b1 b2 b3
 clear bkp
 have hz:er (dW st_b.get) 6 [.ptr X 0 0,.int .i64 (x:Int),.int .i64 (y:Int)]=some [.eT (kZ cnt c f),.int .i64 x,.int .i64 y]:=by simp only[ad,ae,bM.fz,aL,Option.map_some]
 (try((repeat(revert hN;revert N;apply Pn.out));refine wk (tw @b0 (tw @b1 (tw @b2 (tw @b3 @b9)))) ?_;(repeat(refine Pn.mk ?_;intro N hN))))
 refine .inr (aS _ _ _ _ _ (fun r σ1 hq=>?_) ((Uw cnt qq hn c f x y hx hy).x mixed hz))
 obtain⟨Qr,rfl⟩:=hq
 refine hN _ _ ?_
 clear hN N
 rcases Qr with⟨rfl,S,P0,Ju,Wx⟩|⟨p,rfl,hW⟩
 ·(try((repeat(revert hN;revert N;apply Pn.out));refine wk (tw @b0 (tw @b1 (tw @b2 (tw @b3 (tw @b9 (tw @Bool.not_true @Bool.not_false)))))) ?_;(repeat(refine Pn.mk ?_;intro N hN))))
  refine eK (.inl rfl) (vs:=[.int .i64 (k:Int)]) (sd @Nat.zero_add) ⟨k,f,rfl,hF,by(try dsimp only);exact bM,.inl ⟨S,P0,Ju,Wx⟩,bL⟩
 ·obtain⟨⟨rs,rfl,vW⟩,pI,gM,hplt⟩:=hW
  by_cases LG:t<=(k:Int)
  ·(try((repeat(revert hN;revert N;apply Pn.out));refine wk (tw @b0 (tw @b1 (tw @b2 (tw @b3 (tw @b9 (tw @LG (tw @Bool.not_true @Bool.not_false))))))) ?_;(repeat(refine Pn.mk ?_;intro N hN))))
   refine eK (.inl rfl) (vs:=[.int .i64 (k:Int)]) (sd @Nat.zero_add) ⟨k,f,rfl,hF,by(try dsimp only);exact bM,.inr LG,bL⟩
  ·(try((repeat(revert hN;revert N;apply Pn.out));refine wk (tw @b0 (tw @b1 (tw @b2 (tw @b3 (tw @b9 (tw @LG (tw @Bool.not_true @Bool.not_false))))))) ?_;(repeat(refine Pn.mk ?_;intro N hN))))
   have la:=rn cnt _ pI hplt
   have hkc:(k:Int)*(cnt:Int)<=1099511627776*1048576:=Int.mul_le_mul ab ab ab ab
   have hfb:=hF.bound (S:=fun v=>decide (v=x)) hxS hyS
   have hnear:=lL
   obtain⟨p,hp⟩:∃p,p=x::rs:=⟨_,rfl⟩
   have Tk:eN x::List.map eN rs=p.map eN:=by rw[hp];rfl
   rw[Tk]
   have MH:1<=p.length:=by rw[hp];simp
   have SA:=hF.aug vW pI gM hplt
   rw[<-hp]at SA pI gM hplt la
   have Qx:p.take 1=[x]:=by rw[hp];rfl
   clear Tk vW
   refine cU (fun m env st=>∃i:Nat,m=p.length-i/\1<=i/\i<=p.length/\env 11=.int .i64 (i:Int)/\nR st.get X o1 o2 R1 R2 cnt c (lK f (p.take i))/\st_b.next<=st.next) (p.length-1) ⟨1,rfl,Nat.le_refl _,MH,by(simp only[go_sem, ↓reduceIte,Nat.reduceEqDiff,Nat.reduceAdd,Nat.reduceSub,Nat.reduceLeDiff,reduceCtorEq])<;>rfl,by rw[Qx];exact bM,bL⟩ ?_
   rintro m env_c st_c ⟨i,rfl,tU,qp,H7,cM,cn⟩ ckp
   have c0:=ckp 0 (by kernel_rfl)
   have c1:=ckp 1 (by kernel_rfl)
   have c2:=ckp 2 (by kernel_rfl)
   have c3:=ckp 3 (by kernel_rfl)
   have c9:=ckp 9 (by kernel_rfl)
   have Lv:=ckp 10 (by kernel_rfl)
   simp only[go_sem, ↓reduceIte,Nat.reduceEqDiff,Nat.reduceAdd,Nat.reduceSub,Nat.reduceLeDiff,reduceCtorEq,b0,b1,b2,b3,b9]at c0 c1 c2 c3 c9 Lv
   clear ckp
   have fw:(p.map eN).length=p.length:=by simp
   by_cases hi:(i:Int)<(p.length:Int)
   ·have iO:i<p.length:=ab
    have tx:=Gk (f:=f) tU iO
    obtain⟨a,ha⟩:∃a,a=p[i-1]'ab:=⟨_,rfl⟩
    obtain⟨b,hb⟩:∃b,b=p[i]:=⟨_,rfl⟩
    have FB:a<cnt:=by rw[ha];exact hplt _ (List.getElem_mem _)
    have FD:b<cnt:=by rw[hb];exact hplt _ (List.getElem_mem _)
    have qQ:a≠b:=by
     rw[ha,hb]
     exact List.pairwise_iff_getElem.1 pI (i-1) i ab iO ab
    have JG:(p.map eN)[i-1]? =some [.int .i64 (a:Int)]:=by rw[List.getElem?_map,List.getElem?_eq_getElem ab,ha];rfl
    have S5:(p.map eN)[i]? =some [.int .i64 (b:Int)]:=by rw[List.getElem?_map,List.getElem?_eq_getElem iO,hb];rfl
    rw[<-ha,<-hb]at tx
    have W6:=lL (p.take i) f a b
    have W7:=lL (p.take i) f b a
    rw[List.length_take]at W6 W7
    have hl1:=blo b a
    have qS:=blo a b
    have JX:=hF.le a b FB FD
    have Qz:=hF.le b a FD FB
    have hca:=hc a b FB FD
    have FE:=hc b a FD FB
    generalize lK f (p.take i)=fl at *
    have gA:=rL (R:=R2) (n:=cnt) FB
    have gB:=rL (R:=R2) (n:=cnt) FD
    have rA:=cM.r2 _ FB
    have rB:=cM.r2 _ FD
    have cA:=fJ (f:=fl a) FD
    have cB:=fJ (f:=fl b) FB
    have sA:=nY (f:=fl) (a:=a) (d:=1) FD
    have Qo:bump fl a b 1 b=fl b:=jN fun h=>qQ h.symm
    have sB:=nY (f:=bump fl a b 1) (a:=b) (b:=a) (d:=-1) (n:=cnt) FB
    rw[Qo]at sB
    have gX:=cM.x
    have g2:=cM.t2
    have DO:(a:Int)<(cnt:Int):=ab
    have rW:(b:Int)<(cnt:Int):=ab
    have Vt:IntKind.i64.wrap ((i:Int)-1)=((i-1:Nat):Int):=by rw[dy ab];omega
    have vU:((i-1:Nat):Int)<(p.length:Int):=ab
    have wA:IntKind.i64.wrap (fl a b+1)=fl a b+1:=dy ab
    have wB:IntKind.i64.wrap (fl b a-1)=fl b a+-1:=by rw[dy ab];omega
    have TC:IntKind.i64.wrap ((i:Int)+1)=((i+1:Nat):Int):=cI ab
    have l2:=jT R2 cnt cnt
    have lA:=fy (fl a) cnt
    have lB:=fy (fl b) cnt
    have ig:(R2 a=R2 b)=False:=by simp only[eq_iff_iff,iff_false];exact fun h=>qQ (I.i2 _ _ FB FD h)
    have JN:(R2 b=R2 a)=False:=by simp only[eq_iff_iff,iff_false];exact fun h=>qQ (I.i2 _ _ FB FD h.symm)
    have xA:=qu I.sx (I.OI a FB) (by decide)
    have xB:=qu I.sx (I.OI b FD) (by decide)
    have yA:=qu I.s2 (I.OI a FB) (by decide)
    have yB:=qu I.s2 (I.OI b FD) (by decide)
    have qX:=dE (i:=X) (n:=st_c.next) (by have:=I.vx;omega)
    have q2:=dE (i:=o2) (n:=st_c.next) (by have:=I.v2;omega)
    have qA:=dE (i:=R2 a) (n:=st_c.next) (by have:=I.Ur a FB;omega)
    have qB:=dE (i:=R2 b) (n:=st_c.next) (by have:=I.Ur b FD;omega)
    rw[bE]at cA cB sA sB
    (try((repeat(revert hN;revert N;apply Pn.out));refine wk (tw @c0 (tw @c9 (tw @Lv (tw @H7 (tw @fw (tw @hi (tw @vU (tw @JG (tw @S5 (tw @gA (tw @gB (tw @rA (tw @rB (tw @cA (tw @cB (tw @sA (tw @sB (tw @gX (tw @g2 (tw @DO (tw @rW (tw @Vt (tw @wA (tw @wB (tw @TC (tw @l2 (tw @lA (tw @lB (tw @ig (tw @JN (tw @xA (tw @xB (tw @yA (tw @yB (tw @qX (tw @q2 (tw @qA @qB))))))))))))))))))))))))))))))))))))) ?_;(repeat(refine Pn.mk ?_;intro N hN))))
    refine⟨_,?_,i+1,rfl,ab,ab,sd @TC,?_,bL⟩
    ·omega
    ·rw[tx]
     refine cM.push I FB FD qQ ?_ ?_ fun j hj h1 h2=>?_
     ·simp only[go_sem, ↓reduceIte,Nat.reduceEqDiff,Nat.reduceAdd,Nat.reduceSub,Nat.reduceLeDiff,reduceCtorEq,ig]
     ·simp only[go_sem, ↓reduceIte,Nat.reduceEqDiff,Nat.reduceAdd,Nat.reduceSub,Nat.reduceLeDiff,reduceCtorEq,ig]
     ·simp only[go_sem, ↓reduceIte,Nat.reduceEqDiff,Nat.reduceAdd,Nat.reduceSub,Nat.reduceLeDiff,reduceCtorEq,h1,h2]
   ·have LB:i=p.length:=ab
    subst LB
    rw[List.take_length]at cM
    have Vv:IntKind.i64.wrap ((k:Int)+1)=((k+1:Nat):Int):=cI ab
    have WK:=SA.bound (S:=fun v=>decide (v=x)) hxS hyS
    (try((repeat(revert hN;revert N;apply Pn.out));refine wk (tw @c0 (tw @c9 (tw @Lv (tw @H7 (tw @fw (tw @hi @Vv)))))) ?_;(repeat(refine Pn.mk ?_;intro N hN))))
    refine⟨_,?_,k+1,_,rfl,sd @Vv,by rw[Int.natCast_add];exact SA,cM,bL,fun _=>ab,fun u v=>?_⟩
    ·rw[<-Xm]at WK;omega
    ·have h1:=(lL p f u v).2
     have h2:=blo u v
     rw[Int.natCast_add,Int.add_mul]
     omega
theorem QY (cnt:Nat) (qq:1<=cnt) (hn:cnt<=1048576) (c:Nat->Nat->Int) (hc:∀u v,u<cnt->v<cnt->0<=c u v/\c u v<=16777216) (x y:Nat) (hx:x<cnt) (hy:y<cnt) (QD:x≠y) (t:Int) (ht:t<=1099511627776)
  (X o1 o2:Id) (R1 R2:Nat->Id) (nb:Nat) (I:Gh X o1 o2 R1 R2 cnt nb) (σ:aq) (hM:nR σ.get X o1 o2 R1 R2 cnt c (fun _ _=>0)) (tt:nb<=σ.next):
  Call Tryz.prog 170 [.ptr X 0 0,.int .i64 x,.int .i64 y,.int .i64 t] σ fun r σ'=>∃val:Int,r=.int .i64 val/\(val<t↔∃S:Nat->Bool,S x=true/\S y=false/\lO cnt S c<t)/\σ.next<=σ'.next:=by
 refine aS _ _ _ _ _ (fun r σ1 hq=>?_) (QZ cnt qq hn c hc x y hx hy QD t ht X o1 o2 R1 R2 nb I σ hM tt)
 obtain⟨k,f,rfl,hF,_,hS,hle⟩:=hq
 refine⟨(k:Int),rfl,⟨fun h=>?_,fun⟨S',h1,h2,h3⟩=>by have:=hF.bound h1 h2;omega⟩,hle⟩
 rcases hS with⟨S,P0,Ju,Wx⟩|h2
 ·exact⟨S,P0,Ju,by rw[<-hF.full P0 Ju Wx];exact h⟩
 ·omega
noncomputable def tu (n:Nat) (bs:List PB) (t:Int):Bool:=@decide (r5 n bs t) (Classical.propDecidable _)
theorem yI {n:Nat} {bs:List PB} {t:Int} (h:r5 n bs t):true=tu n bs t:=by simp[tu,h]
theorem BV {n:Nat} {bs:List PB} {t:Int} (h:¬r5 n bs t):false=tu n bs t:=by simp[tu,h]
theorem MD (cnt:Nat) (hn:cnt<=1048576) (bs:List PB) (hb:∀b∈bs,b.a<cnt/\b.b<cnt) (ee:∀b∈bs,0<=b.s/\b.s<=4) (nA:bs.length<=1048576) (t:Int) (ht:t<=1099511627776):
  aP Tryz.prog 127 [.int .i64 cnt,.sl (bs.map dB),.int .i64 t] (.bool (tu cnt bs t)):=by
 refine aP.body fH rfl fun hl n0=>?_
 clear hl
 have xN:=AA bs (fun _ _=>0) (fun b h=>(ee b h).1) (fun _ _=>Int.le_refl _)
 have hle:=room_le bs (fun _ _=>0) 0 (fun b h=>(ee b h).2) (fun _ _=>Int.le_refl _) (Int.le_refl _)
 have gM:bs.foldl nu (fun _ _=>0)=kK bs:=rfl
 rw[gM]at xN hle
 (try((repeat(revert hN;revert N;apply Pn.out));refine wk @Nat.zero_add ?_;(repeat(refine Pn.mk ?_;intro N hN))))
 refine cU (fun m env st=>∃y:Nat,m=cnt+1-y/\1<=y/\env 7=.int .i64 (y:Int)/\y<=cnt+1/\∀z,1<=z->z<y->z<cnt->∀S:Nat->Bool,S 0=true->S z=false->t<=Dq S bs) (cnt+1-1) ⟨1,rfl,Nat.le_refl _,by(simp only[go_sem, ↓reduceIte,Nat.reduceEqDiff,Nat.reduceAdd,Nat.reduceSub,Nat.reduceLeDiff,reduceCtorEq])<;>rfl,ab,fun z h1 h2=>ab⟩ ?_
 rintro m env_b st_b ⟨y,rfl,VA,b7,hyl,eJ⟩ bkp
 have b0:=bkp 0 (by kernel_rfl)
 have b1:=bkp 1 (by kernel_rfl)
 have b2:=bkp 2 (by kernel_rfl)
 simp only[go_sem, ↓reduceIte,Nat.reduceEqDiff,Nat.reduceAdd,Nat.reduceSub,Nat.reduceLeDiff,reduceCtorEq]at b0 b1 b2
 clear bkp
 by_cases hy:(y:Int)<(cnt:Int)
 ·have hyn:y<cnt:=ab
  (try((repeat(revert hN;revert N;apply Pn.out));refine wk (tw @b0 (tw @b1 (tw @b2 (tw @b7 @hy)))) ?_;(repeat(refine Pn.mk ?_;intro N hN))))
  refine .inr (aS _ _ _ _ _ (fun r σ1 hq=>?_) (Cq cnt ab hn bs hb ee nA _))
  obtain⟨X,o1,o2,R1,R2,rfl,I,GZ,hM,_⟩:=hq
  refine hN _ _ ?_
  clear hN N
  (try((repeat(revert hN;revert N;apply Pn.out));refine wk (tw @b0 (tw @b1 (tw @b2 @b7))) ?_;(repeat(refine Pn.mk ?_;intro N hN))))
  have yK:=QY cnt ab hn (kK bs) (fun u v _ _=>⟨xN u v,by have:=hle u v;omega⟩) 0 y ab hyn ab t ht X o1 o2 R1 R2 σ1.next I
  refine .inr (aS _ _ _ _ _ (fun r σ2 hq=>?_) (yK _ hM bL))
  obtain⟨val,rfl,wa,p7⟩:=hq
  refine hN _ _ ?_
  clear hN N
  by_cases eR:val<t
  ·(try((repeat(revert hN;revert N;apply Pn.out));refine wk (tw @b0 (tw @b1 (tw @b2 (tw @b7 @eR)))) ?_;(repeat(refine Pn.mk ?_;intro N hN))))
   obtain⟨S,h1,h2,h3⟩:=wa.1 eR
   rw[Br hb]at h3
   exact dU (b:=false) (.inl rfl) (sd @Nat.zero_add) (BV fun h=>by have:=h S h1 ⟨y,hyn,h2⟩;omega)
  ·have hw:IntKind.i64.wrap ((y:Int)+1)=((y+1:Nat):Int):=cI ab
   (try((repeat(revert hN;revert N;apply Pn.out));refine wk (tw @b0 (tw @b1 (tw @b2 (tw @b7 (tw @eR @hw))))) ?_;(repeat(refine Pn.mk ?_;intro N hN))))
   refine⟨_,?_,y+1,rfl,ab,sd (tw @b7 @hw),ab,fun z h1 h2 h3 S P0 Ju=>?_⟩
   ·omega
   ·by_cases hzy:z=y
    ·subst hzy
     rcases Int.lt_or_le (Dq S bs) t with h|h
     ·exact absurd (wa.2 ⟨S,P0,Ju,by rw[Br hb];exact h⟩) eR
     ·exact h
    ·exact eJ z h1 ab h3 S P0 Ju
 ·(try((repeat(revert hN;revert N;apply Pn.out));refine wk (tw @b0 (tw @b1 (tw @b2 (tw @b7 @hy)))) ?_;(repeat(refine Pn.mk ?_;intro N hN))))
  exact dU (b:=true) (.inl rfl) (sd @Nat.zero_add) (yI fun S h0 ⟨z,hz,hzf⟩=>by
   have:z≠0:=by rintro rfl;rw[h0]at hzf;cases hzf
   exact eJ z ab ab hz S h0 hzf)
theorem JO (cnt:Nat) (hn:cnt<=1048576) (bs:List PB) (hb:∀b∈bs,b.a<cnt/\b.b<cnt) (ee:∀b∈bs,0<=b.s/\b.s<=4) (nA:bs.length<=1048576) (t:Int) (ht:t<=1099511627776):
  aP Tryz.prog 127 [.int .i64 cnt,AE bs,.int .i64 t] (.bool (tu cnt bs t)):=by
 have h:=MD cnt hn bs hb ee nA t ht
 cases bs with
 |nil=>exact h.cut mixed (.same _ (.bB (.same _ .nil)))
 |cons b r=>rw[AF (by simp)];exact h
def C5:Prop:=∀(s:aH) (l:List aa),gj s->ju s l->aP Tryz.prog 126 [.agg (ao s),.agg [.sl (l.map ai)]] (AE (dP s l))
noncomputable def ur (s:aH) (l:List aa) (t:Int):Bool:=if 64<mz s l t then false else tu (mz s l t) (eh (fI (cH t (dP s l))) (dP s l)) t
theorem D6 (s:aH) (l:List aa) (t:Int):ur s l t=tJ s l t:=by
 letI:=Classical.propDecidable (mu l.length (dP s l) t)
 unfold ur
 by_cases h:64<mz s l t
 ·rw[if_pos h]
  exact(xd (p:=False) ⟨False.elim,fun k=>by have:=k.1;unfold mz at h;omega⟩).symm.trans (by simp) |>.symm
 ·rw[if_neg h]
  by_cases hp:r5 (mz s l t) (eh (fI (cH t (dP s l))) (dP s l)) t
  ·rw[<-yI hp]
   exact((xd (p:=True) ⟨fun _=>⟨by unfold mz at h;omega,hp⟩,fun _=>trivial⟩).symm.trans (by simp)).symm
  ·rw[<-BV hp]
   exact((xd (p:=False) ⟨False.elim,fun k=>hp k.2⟩).symm.trans (by simp)).symm
theorem K5 (Wa:C5) (s:aH) (l:List aa) (t:Int) (ht:t<=1099511627776) (h1:1<=l.length) (hS:gj s) (hA:ju s l):aP Tryz.prog 95 [.agg (ao s),.agg [.sl (l.map ai)],.int .i64 t] (.fK [.bool (tJ s l t),.bool (decide ¬64<mz s l t)]):=by
 rw[<-D6]
 refine aP.body fH rfl fun hl n0=>?_
 clear hl
 have hb:=Gp (l:=l) hS
 have nA:=uW (s:=s) hA.1
 have JC:=hA.1.CX
 have Ie:=Wa s l hS hA
 have SR:=zN l.length h1 ab (dP s l) (fun b h=>⟨(hb b h).1,(hb b h).2.1⟩) ab t
 have hL:=Cd (cH t (dP s l))
 have iO:=EE hL (fun b h=>⟨(hb b h).1,(hb b h).2.1⟩)
 have hlen:=(xb (fI (cH t (dP s l))) (dP s l)).1
 have mH:=lR l.length (fI (cH t (dP s l)))
 have hho:=JO (mz s l t) (by unfold mz;omega) (eh (fI (cH t (dP s l))) (dP s l)) (fun b h=>⟨(iO b h).1,(iO b h).2.1⟩) (fun b h=>by
  obtain⟨_,_,_,c,hc,eb⟩:=iO b h
  rw[eb];have:=hb c hc;omega) ab t ht
 have fS:(l.map ai).length=l.length:=by simp
 have hzB:∀(g:Rows) (n:Nat) (bs:List PB),V.fz g (n+1) (AE bs)=some (AE bs):=fun g n bs=>by
  unfold AE;split
  ·exact az _ _
  ·exact bR _ _ _
 rw[ao]at Ie
 rw[<-mz]at SR
 have xu:∀(g:Rows) (x:Int),er (dW g) 6 [.int .i64 l.length,AE (dP s l),.int .i64 x]=some [.int .i64 l.length,AE (dP s l),.int .i64 x]:=fun g x=>by simp only[ad,ae,aL,hzB,Option.map_some]
 have hzh:∀(g:Rows) (x y:Int),er (dW g) 6 [.int .i64 x,AE (eh (fI (cH t (dP s l))) (dP s l)),.int .i64 y]=some [.int .i64 x,AE (eh (fI (cH t (dP s l))) (dP s l)),.int .i64 y]:=fun g x y=>by simp only[ad,ae,aL,hzB,Option.map_some]
 generalize AE (dP s l)=B1 at *
 generalize AE (eh (fI (cH t (dP s l))) (dP s l))=B2 at *
 by_cases Ia:(64:Int)<(mz s l t:Int)
 ·have Js:64<mz s l t:=ab
  (repeat(first|((repeat(revert hN;revert N;apply Pn.out));refine wk (tw @ao.eq_1 (tw @Ia @fS)) ?_;(repeat(refine Pn.mk ?_;intro N hN)))|((try apply Or.inl);refine⟨_,aP.x (Ie) (sd (tw @ao.eq_1 (tw @Ia @fS))),?_⟩;refine hN _ _ ?_;clear hN N)))
  refine⟨_,aP.x SR (xu _ _),?_⟩
  refine hN _ _ ?_
  clear hN N
  (try((repeat(revert hN;revert N;apply Pn.out));refine wk @Ia ?_;(repeat(refine Pn.mk ?_;intro N hN))))
  exact l8 (.inl rfl) (r1:=.bool false) (r2:=.bool false) (sd @Nat.zero_add) (sd @Nat.zero_add) (by rw[ur,if_pos Js,decide_eq_false fun h=>h Js];simp only[gp,cV,dH,iI,Option.map_some])
 ·have Js:¬64<mz s l t:=ab
  (repeat(first|((repeat(revert hN;revert N;apply Pn.out));refine wk (tw @ao.eq_1 (tw @Ia @fS)) ?_;(repeat(refine Pn.mk ?_;intro N hN)))|((try apply Or.inl);refine⟨_,aP.x (Ie) (sd (tw @ao.eq_1 (tw @Ia @fS))),?_⟩;refine hN _ _ ?_;clear hN N)))
  refine⟨_,aP.x SR (xu _ _),?_⟩
  refine hN _ _ ?_
  clear hN N
  (try((repeat(revert hN;revert N;apply Pn.out));refine wk @Ia ?_;(repeat(refine Pn.mk ?_;intro N hN))))
  refine .inl ⟨_,aP.x hho (hzh _ _ _),?_⟩
  refine hN _ _ ?_
  clear hN N
  (try((repeat(revert hN;revert N;apply Pn.out));refine wk @Nat.zero_add ?_;(repeat(refine Pn.mk ?_;intro N hN))))
  exact l8 (.inl rfl) (r1:=.bool (tu (mz s l t) (eh (fI (cH t (dP s l))) (dP s l)) t)) (r2:=.bool true) (sd @Nat.zero_add) (sd @Nat.zero_add) (by rw[ur,if_neg Js,decide_eq_true Js];simp only[gp,cV,dH,iI,Option.map_some])
theorem tY (t:Int):aP Tryz.prog 94 [.int .i64 t] (.bool (je t 1 16)):=by
 refine aP.body fH rfl fun hl n0=>?_
 clear hl
 have h:=gS t 1 16
 (repeat(first|((repeat(revert hN;revert N;apply Pn.out));refine wk @Nat.zero_add ?_;(repeat(refine Pn.mk ?_;intro N hN)))|((try apply Or.inl);refine⟨_,aP.x (h) (sd @Nat.zero_add),?_⟩;refine hN _ _ ?_;clear hN N)))
 exact dU (b:=je t 1 16) (.inl rfl) (sd @Nat.zero_add) rfl
theorem xD (Wa:C5) (s:ax) (hn:mm s.ar) (hg:s.ar.bU.length<=1048576) (ht:s.ar.ah.length<=1048576) (hs:∀t∈s.ar.ah,t.dM.length<=1048576) (hl:s.dI.ah.length<=1048576):aP Tryz.prog 33 [.agg (ej s)] (.bool (nJ s)):=by
 refine aP.body fH rfl fun fR n0=>?_
 clear fR
 by_cases h0:(s.dI.ah.length:Int)=0
 ·have hd:decide ((s.dI.ah.length:Int)=0)=true:=decide_eq_true h0
  (try((repeat(revert hN;revert N;apply Pn.out));refine wk (tw @ej.eq_1 @hd) ?_;(repeat(refine Pn.mk ?_;intro N hN))))
  exact dU (b:=false) (.inl rfl) (sd @Nat.zero_add) (rK fun h=>by have:=h.some;omega)
 have hd:decide ((s.dI.ah.length:Int)=0)=false:=decide_eq_false h0
 have P4:=tO s.ar s.dI.ah hn hg ht hs hl
 have SH:=tY s.bD
 have key:aP Tryz.prog 59 [.agg (ao s.ar),.agg [.sl (s.dI.ah.map ai)],.int .i64 s.bD] (.fK [.bool (nJ s),.int .i64 (if uc s.ar&&A6 s.ar s.dI.ah then(if je s.bD 1 16 then(if 64<mz s.ar s.dI.ah s.bD then 4 else 0)else 2)else 1)]):=by
  refine aP.body fH rfl fun fR n0=>?_
  clear fR
  rw[ao]at P4
  cases hA:uc s.ar&&A6 s.ar s.dI.ah
  ·rw[hA]at P4
   have qT:nJ s=false:=(rK fun h=>by rw[rH.2 h.set,uT.2 h.nI]at hA;cases hA).symm
   (repeat(first|((repeat(revert hN;revert N;apply Pn.out));refine wk @ao.eq_1 ?_;(repeat(refine Pn.mk ?_;intro N hN)))|((try apply Or.inl);refine⟨_,aP.x (P4) (sd @ao.eq_1),?_⟩;refine hN _ _ ?_;clear hN N)))
   exact l8 (.inl rfl) (r1:=.bool false) (r2:=.int .i64 1) (sd @Nat.zero_add) (sd @Nat.zero_add) (by rw[qT];simp only[gp,cV,dH,iI,eW,Option.map_some];rfl)
  rw[hA]at P4
  simp only[Bool.and_eq_true]at hA
  have hS:=rH.1 hA.1
  have hP:=uT.1 hA.2
  cases hT:je s.bD 1 16
  ·rw[hT]at SH
   have qT:nJ s=false:=(rK fun h=>by have:=h.pz;rw[hT]at this;cases this).symm
   (repeat(first|((repeat(revert hN;revert N;apply Pn.out));refine wk @ao.eq_1 ?_;(repeat(refine Pn.mk ?_;intro N hN)))|((try apply Or.inl);refine⟨_,aP.x (P4) (sd @ao.eq_1),?_⟩;refine hN _ _ ?_;clear hN N)|((try apply Or.inl);refine⟨_,aP.x (SH) (sd @ao.eq_1),?_⟩;refine hN _ _ ?_;clear hN N)))
   exact l8 (.inl rfl) (r1:=.bool false) (r2:=.int .i64 2) (sd @Nat.zero_add) (sd @Nat.zero_add) (by rw[qT];simp only[gp,cV,dH,iI,eW,Option.map_some];rfl)
  have hti:=eH hT
  rw[hT]at SH
  have ee:=K5 Wa s.ar s.dI.ah s.bD ab ab hS hP
  rw[ao]at ee
  have hsy:nJ s=tJ s.ar s.dI.ah s.bD:=by
   cases hB:tJ s.ar s.dI.ah s.bD
   ·exact(rK fun h=>by have:=zm.2 h.holds;rw[hB]at this;cases this).symm
   ·exact(K7 ⟨hS,hP,ab,hT,zm.1 hB⟩).symm
  by_cases Ia:64<mz s.ar s.dI.ah s.bD
  ·rw[decide_eq_false fun h=>h Ia]at ee
   have qT:nJ s=false:=(rK fun h=>by have:=h.holds.1;unfold mz at Ia;omega).symm
   (repeat(first|((repeat(revert hN;revert N;apply Pn.out));refine wk @ao.eq_1 ?_;(repeat(refine Pn.mk ?_;intro N hN)))|((try apply Or.inl);refine⟨_,aP.x (P4) (sd @ao.eq_1),?_⟩;refine hN _ _ ?_;clear hN N)|((try apply Or.inl);refine⟨_,aP.x (SH) (sd @ao.eq_1),?_⟩;refine hN _ _ ?_;clear hN N)|((try apply Or.inl);refine⟨_,aP.x (ee) (sd @ao.eq_1),?_⟩;refine hN _ _ ?_;clear hN N)))
   exact l8 (.inl rfl) (r1:=.bool false) (r2:=.int .i64 4) (sd @Nat.zero_add) (sd @Nat.zero_add) (by rw[qT,if_pos Ia];simp only[gp,cV,dH,iI,eW,Option.map_some])
  ·rw[decide_eq_true Ia,<-hsy]at ee
   (repeat(first|((repeat(revert hN;revert N;apply Pn.out));refine wk @ao.eq_1 ?_;(repeat(refine Pn.mk ?_;intro N hN)))|((try apply Or.inl);refine⟨_,aP.x (P4) (sd @ao.eq_1),?_⟩;refine hN _ _ ?_;clear hN N)|((try apply Or.inl);refine⟨_,aP.x (SH) (sd @ao.eq_1),?_⟩;refine hN _ _ ?_;clear hN N)|((try apply Or.inl);refine⟨_,aP.x (ee) (sd @ao.eq_1),?_⟩;refine hN _ _ ?_;clear hN N)))
   exact l8 (.inl rfl) (r1:=.bool (nJ s)) (r2:=.int .i64 0) (sd @Nat.zero_add) (sd @Nat.zero_add) (by rw[if_neg Ia];simp only[gp,cV,dH,iI,eW,Option.map_some])
 generalize hcode:(if uc s.ar&&A6 s.ar s.dI.ah then(if je s.bD 1 16 then(if 64<mz s.ar s.dI.ah s.bD then(4:Int)else 0)else 2)else 1)=code at key
 rw[ao]at key
 cases hB:nJ s
 ·rw[hB]at key
  (repeat(first|((repeat(revert hN;revert N;apply Pn.out));refine wk (tw @ej.eq_1 @hd) ?_;(repeat(refine Pn.mk ?_;intro N hN)))|((try apply Or.inl);refine⟨_,aP.x (key) (sd (tw @ej.eq_1 @hd)),?_⟩;refine hN _ _ ?_;clear hN N)))
  exact dU (b:=false) (.inl rfl) (sd @Nat.zero_add) rfl
 ·rw[hB]at key
  have hP:=rJ.1 hB
  have hc:code=0:=by
   rw[<-hcode,rH.2 hP.set,uT.2 hP.nI,hP.pz]
   have:=hP.holds.1
   simp only[Bool.and_self,if_true]
   rw[if_neg (by unfold mz;omega)]
  rw[hc]at key
  (repeat(first|((repeat(revert hN;revert N;apply Pn.out));refine wk (tw @ej.eq_1 @hd) ?_;(repeat(refine Pn.mk ?_;intro N hN)))|((try apply Or.inl);refine⟨_,aP.x (key) (sd (tw @ej.eq_1 @hd)),?_⟩;refine hN _ _ ?_;clear hN N)))
  exact dU (b:=true) (.inl rfl) (sd @Nat.zero_add) rfl
end Go.Proofs.YtakkdjfmiffbfaaGreatDoor.V

namespace Go.Proofs.YtakkdjfmiffbfaaGreatDoor.V
open Go.RowKit
variable {P:Program} {hs:Nat}
theorem H3 {q n i:Nat} {ops:Array Oper} {Q:Exit->Act->World->Prop} {K K':Act->World->Prop} {a:Act} {w:World} (pI:∀(j:Nat) (o:Oper),ops[j]? =some o->∀c,o.op≠.defer c) (qT:¬LetsOut Q) (hK:∀a w,K a w->K' a w) (h:wpOp P ops Q i K a w):wpOpIn (Fence.wide.inRound q) n P ops Q i K' a w:=by
 unfold wpOp at h
 unfold wpOpIn
 split at h
 ·rename_i ho;simp only[ho];exact hK _ _ h
 ·rename_i o ho
  simp only[ho]
  split at h
  ·rename_i hw
   rw[if_pos hw]
   replace h:=h.resolve_right fun hc=>qT hc.2
   refine⟨fun _ _=>trivial,?_⟩
   rw[Oper.semAt_eq _ _ _ (pI i o ho)]
   unfold Oper.wp at h
   generalize (execOp a.eval o).run P w=r at *
   cases r with
   |ok m w'=>
    cases m<;>simp only[Oper.upon,Oper.uponIn]at h ⊢
    case value=>exact hK _ _ h
    case skip=>exact hK _ _ h
    case defer=>exact hK _ _ h
    case enter f args=>
     refine⟨fun h=>by simp[Fence.wide]at h,CallsIn.inRound q (callsIn_wide.2 (h.mono fun e LM he=>?_))⟩
     cases e with
     |returned v=>exact hK _ _ he
     |panicked c=>exact he
     |outgrown=>exact he
    case row r args=>exact⟨fun h=>by simp[Fence.wide]at h,fun c cs _=>let ⟨v,LM,h1,s⟩:=h c cs;⟨v,LM,hK _ _ h1,stepsIn_wide.2 s⟩⟩
   |halt x w'=>cases x<;>simp only[Oper.upon,Oper.uponIn]at h ⊢;exact h
  ·rename_i hw
   rw[if_neg hw]
   exact⟨fun _ _=>trivial,hK _ _ h⟩
theorem xr {q n:Nat} {md:Region.Mode} {ops:Array Oper} {Q:Exit->Act->World->Prop} (pI:∀(j:Nat) (o:Oper),ops[j]? =some o->∀c,o.op≠.defer c) (qT:¬LetsOut Q):∀(fuel:Nat) (listed:Array Bool) (a:Act) (w:World),wpAny P md ops Q fuel listed a w->wpAnyIn (Fence.wide.inRound q) n P md ops Q fuel listed a w
 |0,_,_,_,h=>h
 |fuel+1,listed,_,_,h=>⟨h.1,fun i hi=>H3 pI qT (fun a w=>xr pI qT fuel _ a w) (h.2 i hi)⟩
def FN:Op->Bool
 | .defer _=>true
 |_=>false
theorem Kr {ops:Array Oper} (h:(ops.all fun o=> !FN o.op)=true):∀(j:Nat) (o:Oper),ops[j]? =some o->∀c,o.op≠.defer c:=fun j o hj c hc=>by
 have:=Array.all_eq_true_iff_forall_mem.1 h o (Array.mem_of_getElem? hj)
 rw[hc]at this
 simp[FN]at this
theorem Ay (hm:P.follows .mixedOrders=true) {nt site0 id q n:Nat} {ops:Array Oper} {vl:List cK} (h:qE P nt site0 ops true false=some vl) (pI:∀(j:Nat) (o:Oper),ops[j]? =some o->∀c,o.op≠.defer c)
  {K:Env->aq->Prop} {env:Env} {σ:aq} {a:Act} {w:World} {D:Nat->Prop} {ι:Names} {Q:Exit->Act->World->Prop} (hv:wpOps (Sound P) true vl K env σ) (ee:St P hs nt D ι env σ a w)
  (hK:∀iD σ' a' w' D' ι',K iD σ'->Step hs D ι w D' ι' w'->St P hs nt D' ι' iD σ' a' w'->a'.defers=a.defers->Q .normal a' w'):(Code.region id ops true).wpIn (Fence.wide.inRound q) n P Q a w:=by
 have eJ:∃hidden sY,allM (kh P ops nt site0 true false (jb ops) hidden) ops.toList 0=some sY/\vl=sY/\oc ops sY (jb ops)=true:=by
  unfold qE at h
  simp only[if_true,Bool.not_true,Bool.false_or]at h
  split at h
  ·rename_i sY h'
   split at h
   ·rename_i Ac;simp at h;exact⟨_,sY,h',h.symm,Ac⟩
   ·cases h
  ·cases h
 obtain⟨hidden,sY,eJ,rfl,Ac⟩:=eJ
 obtain⟨qV,T0⟩:=ee.drew
 obtain⟨hlen,_⟩:=nT eJ
 have vY:vl.length=ops.size:=by rw[hlen];simp
 have DL:=xp (X:=Sound P) (K:=K) (n:=σ.next) Ac vY vl 0 (Array.replicate ops.size false) env σ.get (by simp) (by simp) (fun i hi=>by simp[hi]) (by simp[vY]) (fun k i h=>by
  exfalso
  rcases Nat.lt_or_ge k ops.size with hk|hk
  ·simp[hk]at h
  ·simp[Nat.not_lt.2 hk]at h) hv
 rw[vY]at DL
 have hw:=ya (Q:=fun e a w=>e=.normal/\Q .normal a w) eJ ops.size _ env σ.get a w.drew D ι (fun _=>False) DL qV.sO qV.used (fun _ h=>h.elim) qV.env qV.size fun iH g1 a1 w1 D1 ι1 U1 hk T S1 VU E1 pM hd=>⟨rfl,hK iH ⟨g1,σ.next+1⟩ a1 w1 D1 ι1 hk (T0.trans T) ⟨S1,VU.next,E1,pM⟩ hd⟩
 have iO:=xr (q:=q) (n:=n) (Q:=fun e a w=>e=.normal/\Q .normal a w) pI (by rintro⟨_,_,hc,_⟩;cases hc) ops.size _ a w.drew hw
 refine wpIn_mono (wpIn_region_any (id:=id) hm iO) ?_
 rintro e a w ⟨rfl,h⟩
 exact h
end Go.Proofs.YtakkdjfmiffbfaaGreatDoor.V

namespace Go.Proofs.YtakkdjfmiffbfaaGreatDoor.V
open Go.RowKit Go.Shelf
attribute [local go_sem] Oper.semAt_some
def ij (n₀:Nat) (W W':World):Prop:=W.heap.size<=W'.heap.size/\(∀(b:Nat) (cells:Array Value) (T:TypeId) (fr:Nat×Nat),W.heap[b]? =some (Obj.cells cells T fr)->T≠184->T≠225->W'.heap[b]? =W.heap[b]?)/\∀k,k<n₀->k<W.heap.size->W'.heap[k]? =W.heap[k]?
theorem ij.trans {n₀:Nat} {A B C:World} (h:ij n₀ A B) (k:ij n₀ B C):ij n₀ A C:=⟨Nat.le_trans h.1 k.1,fun b cells T fr hb h1 h2=>by
 have e:=h.2.1 b cells T fr hb h1 h2
 rw[<-e]at hb ⊢
 exact k.2.1 b cells T fr hb h1 h2,fun b hb hs=>(k.2.2 b hb (Nat.lt_of_lt_of_le hs h.1)).trans (h.2.2 b hb hs)⟩
theorem ij.of {n₀:Nat} {W W':World} (h:Below W.heap.size W W'):ij n₀ W W':=⟨h.size,fun b cells T fr hb _ _=>h.block b (Array.getElem?_eq_some_iff.1 hb).1,fun k _ hs=>h.block k hs⟩
theorem ij.refl (n₀:Nat) (W:World):ij n₀ W W:=⟨Nat.le_refl _,fun _ _ _ _ _ _ _=>rfl,fun _ _ _=>rfl⟩
theorem ij.b {n₀ m:Nat} (hm:n₀<=m) (W:World) (l:Nat) (o o':Obj) (hl:m<=l) (h:W.heap[l]? =some o) (hc:o.isCells=false) (_:o.isWalk=false):ij n₀ W (W.putObj l o'):=by
 refine⟨by simp,fun b cells T fr hb _ _=>?_,fun k hk _=>World.putObj_heap_other ab⟩
 by_cases nA:b=l
 ·subst nA;rw[h]at hb;cases hb;cases hc
 ·exact World.putObj_heap_other nA
def L0 (bs:List PB):List Value:=bs.flatMap fun b=>[.int .i64 b.a,.int .i64 b.b,.int .i64 b.s]
theorem IQ (bs:List PB) (b:PB):L0 (bs++[b])=L0 bs++[.int .i64 b.a,.int .i64 b.b,.int .i64 b.s]:=by simp[L0]
def nv (s:aH) (l:List aa) (pre:List (O2 l)):List PB:=(pre.map (·.1)).flatMap (zF s l)
theorem ye (s:aH) (l:List aa) (pre:List (O2 l)) (x:O2 l):nv s l (pre++[x])=nv s l pre++zF s l x.1:=by simp[nv]
theorem IP (s:aH) (l:List aa) (x:Nat×Nat×Int):(zF s l x).length<=1:=by
 unfold zF;split<;>simp
theorem IS (s:aH) (l:List aa) (pre:List (O2 l)):(nv s l pre).length<=pre.length:=by
 unfold nv
 induction pre with
 |nil=>simp
 |cons x r ih=>
  have:=IP s l x.1
  simp only[List.map_cons,List.flatMap_cons,List.length_append,List.length_cons]at ih ⊢
  omega
theorem y6 (l:List aa) (i:Nat):∀m,(kD l i m).length<=m
 |0=>by simp[kD]
 |m+1=>by
  rw[mK,List.length_append]
  have:=y6 l i m
  have:(Co l i (1-(m:Int))).length<=1:=by unfold Co;split<;>simp
  omega
theorem Cp (l:List aa):∀n,(kV l n).length<=n*2
 |0=>by simp[kV]
 |n+1=>by
  rw[lX,List.length_append]
  have:=Cp l n
  have:=y6 l n 2
  omega
theorem BR {β:Type} (B:Nat) (c:Array Value) (t:TypeId) (fr:Nat×Nat):Own (fun(_:β) W=>W.heap[B]? =some (.cells c t fr)):=fun _ X _ row h hg hr=>(hg.block B (Array.getElem?_eq_some_iff.1 h).1 (fun e=>by
 obtain⟨o,ho,hc⟩:=hr B e.symm
 rw[h]at ho;cases ho;cases hc)).trans h
theorem ij.app {n₀:Nat} {W w1:World} {B k:Nat} {v v':Value} {xs:List Value} {tmp:Obj} (hv:Boxed W B 184 v) (fS:W.ownsRow n₀ 225 3 v k xs) (yE:(W.alloc tmp).grownBy w1 v.ownBlock) (hb:Below n₀ W (w1.setCell ⟨B,0,none⟩ v')):ij n₀ W (w1.setCell ⟨B,0,none⟩ v'):=by
 refine⟨hb.size,fun b cells T fr h h1 h2=>?_,fun k hk _=>hb.block k hk⟩
 have eR:=(Array.getElem?_eq_some_iff.1 h).1
 have hbB:b≠B:=by
  rintro rfl
  rw[show W.heap[b]? = _ from hv]at h
  cases h
  exact h1 rfl
 have U8:some b≠v.ownBlock:=by
  rcases fS.2 with⟨rfl,_⟩|⟨g,cap,cur,rfl,_,hg,_⟩
  ·simp[Value.ownBlock]
  ·intro e
   obtain rfl:b=g:=by simpa[Value.ownBlock]using e
   rw[hg]at h;cases h
   exact h2 rfl
 refine(Below.heap_setCell w1 ⟨B,0,none⟩ v' b hbB).trans ?_
 exact(yE.block b (by simp;omega) U8).trans (Below.heap_alloc W tmp b eR)
theorem TH {w:World} {vS:Value} {l:List aa} (hP:po w vS l):Ix (ij w.heap.size) vS l where
 refl:=ij.refl _
 trans:=ij.trans
 of:=ij.of
 size h:=h.1
 typed h:=h.2.1
 pl {W W'} h hp:=by
  obtain⟨A,c,rfl,hm,hc⟩:=hp.sl
  refine⟨A,c,rfl,hm,?_⟩
  by_cases hl:l=[]
  ·exact .inl hl
  have kq:0<l.length:=List.length_pos_iff.2 hl
  rcases hc with h0|⟨b,o,rfl,kn⟩
  ·exact absurd h0 hl
  obtain⟨A',c',e,_,j3⟩:=hP.sl
  cases e
  rcases j3 with h0|⟨b',o',e,hcell'⟩
  ·exact absurd h0 hl
  cases e
  have hb:=ui (hcell' 0 kq).1
  have hk:=h.2.2 b hb (ui (kn 0 kq).1)
  refine .inr ⟨b,o,rfl,fun i hi=>?_⟩
  have SO:∀x,W'.cell? ⟨b,x,none⟩=W.cell? ⟨b,x,none⟩:=fun x=>World.cell?_of_block hk
  rw[SO,SO,SO]
  exact kn i hi
theorem rrE {P:Program} {nt site0:Nat} {ops:Array Oper} {vl:List cK} (_:uZ P ops site0 false (jb ops) (pa P false ops.toList 0) ops.toList 0=some vl:=by(conv=>lhs;cbv)<;>exact rfl) (h:qE P nt site0 ops true false=some vl:=by kernel_rfl):qE P nt site0 ops true false=some vl:=h
theorem Kc (l:List Value) (d:Value):l=(List.range l.length).map fun i=>(⟨l⟩:Array Value).getD i d:=by
 refine List.ext_getElem (by simp) fun i h1 h2=>?_
 simp[h1]
theorem Em {X:fU} {d:Bool} {ops:List cK} {K:Env->aq->Prop} {env:Env} {σ:aq} (h:dL X (.jo d ops) (fun _=>K) env σ):wpOps X d ops K env σ:=h
theorem ve (W:World) (T:TypeId) (x y z:Value):∀(j:Nat) (u:Value),[x,y,z][j]? =some u->(W.alloc (.cells #[x,y,z] T)).cell? ((⟨W.heap.size,0,none⟩:Addr).add j)=some u:=fun j u h=>by
 have hb:(W.alloc (.cells #[x,y,z] T)).heap[W.heap.size]? =some (.cells #[x,y,z] T (0,0)):=World.alloc_heap_new _ _
 have e:∀k,(W.alloc (.cells #[x,y,z] T)).cell? ⟨W.heap.size,k,none⟩=(#[x,y,z]:Array Value)[k]? :=fun k=>by
  unfold World.cell?
  rw[show(W.alloc (.cells #[x,y,z] T)).heap[(⟨W.heap.size,k,none⟩:Addr).block]? = _ from hb]
  rfl
 rw[show(⟨W.heap.size,0,none⟩:Addr).add j=⟨W.heap.size,j,none⟩ by simp[Addr.add];exact fun h=>h.symm,e]
 simpa using h
def I0 (n b:Nat):Names:=fun id=>if id=⟨1,0⟩then some ⟨n,2,2,none⟩else if id=⟨2,0⟩then some ⟨n+1,1,1,none⟩else if id=⟨3,0⟩then some ⟨n+1+1,1,1,none⟩else if id=⟨4,0⟩then some ⟨b,2,2,none⟩else if id=⟨5,0⟩then some ⟨n+1+1+1,1,1,none⟩else none
def N6 (s:aH) (l:List aa) (i k:Nat):Rows:=fun id=>if id=⟨1,0⟩then some ⟨false,2,[ao s]⟩else if id=⟨2,0⟩then some ⟨false,1,[[.sl (l.map ai)]]⟩else if id=⟨4,0⟩then some ⟨false,2,[[.int .i64 (i:Int),.int .i64 (k:Int)]]⟩else none
def Pm (s:aH) (l:List aa) (i k:Nat) (d:Int):Env:=bJ [.agg (ao s),.agg [.sl (l.map ai)],.ptr ⟨1,0⟩ 0 0,.ptr ⟨2,0⟩ 0 0,.bB,.ptr ⟨3,0⟩ 0 0,.ptr ⟨4,0⟩ 0 0,.int .i64 d,.undef,.agg [.sl (l.map ai)],.fn 194 [.ptr ⟨5,0⟩ 0 0],.agg [.int .i64 (i:Int),.int .i64 (k:Int)],.int .i64 d]
theorem EA {P:Program} {W:World} {D:Nat->Prop} {ι:Names} {B:rZ} {cells:Array Value} {T:TypeId} {cs:List AV} (hk:B.k=none) (hb:W.heap[B.b]? =some (.cells cells T (0,0))) (hC:cells.size=B.C) (hz:B.sz=cs.length) (hl:cs.length=cells.size) (hf:∀a∈cs,a.cell=true) (hr:∀(j:Nat) (a:AV),cs[j]? =some a->∃v,cells[j]? =some v/\dF P W D ι a v):gD P W D ι B ⟨false,cs.length,[cs]⟩:=
 j6.obj ⟨hz,⟨cells,T,hb,hC⟩,by simp;omega,fun c hc=>by simp at hc;rw[hc],fun c hc=>by simp at hc;rw[hc];exact hf,fun i j c a hi hj=>by
  match i,hi with
  |0,hi=>
   simp at hi;subst hi
   obtain⟨v,h1,h2⟩:=hr j a hj
   exact⟨v,by simp[World.cell?,hb,h1],h2⟩
  |i+1,hi=>simp at hi⟩ hk
theorem J1:(Tryz.prog.info? 225).map (fun i=>(i.zero,i.size,i.bytes))=some (some (.agg #[.int .i64 0,.int .i64 0,.int .i64 0]),3,24):=by kernel_rfl
end Go.Proofs.YtakkdjfmiffbfaaGreatDoor.V

namespace Go.Proofs.YtakkdjfmiffbfaaGreatDoor.V
open Go.RowKit Go.Shelf
attribute [local go_sem] Oper.semAt_some
attribute [local irreducible] dL wpOps ez Call
attribute [local go_sem] ay ew dZ eE eC cY upd bJ K.av bZ AV.cells AV.cell rowOf rowsOf part ld rowAt eO bH bI cX dj eQ bq cF dx eA ed cQ dq cD cC dc de bu aE cm bt cr cq dn dr dp ck bz cE dm br aw cw bQ eP aZ bW bx aD cR aQ cZ AV.undef bd bj dh di c6 da bV dw dz bP du dt cu cz List.getD_cons_zero List.getD_cons_succ List.getD_nil List.all_cons List.all_nil Bool.and_true Bool.true_and Bool.and_self Bool.not_true Bool.not_false Option.map_some Option.map_none Option.bind_some Option.bind_none List.length_cons List.length_nil List.take_succ_cons List.take_zero List.take_nil List.drop_succ_cons List.drop_zero List.drop_nil List.head?_cons List.map_cons List.map_nil List.getElem?_cons_zero List.getElem?_cons_succ List.cons_append List.nil_append List.append_nil List.length_map List.set_cons_zero List.set_cons_succ Nat.reduceMul eq_self Int.toNat_natCast Int.natCast_nonneg and_self true_and and_true decide_true decide_false Bool.false_eq_true Nat.zero_add Nat.add_zero List.contains_cons List.contains_nil Bool.or_false Bool.false_or beq_self_eq_true Nat.reduceBEq ne_eq not_true_eq_false not_false_eq_true Id.mk.injEq false_and and_false Nat.reduceLT Int.reduceLE Int.reduceLT Int.reduceToNat Int.reduceNeg Int.reduceAdd Nat.le_refl List.length_append beq_true beq_false Bool.not_eq_eq_eq_not or_false false_or dW ad ae aL aI bf bR az bc aA aJ cj bh
theorem IX (s:aH) (l:List aa) (hF:oW s) (hA:ju s l) (w:World) (Ag At:Option Addr) (ng cg nt ct:Nat) (vS:Value) (hT:jK Tryz.prog w (fun b=>b<w.heap.size) (.agg (ao s)) (.agg #[.slice Ag ng cg,.slice At nt ct])) (hP:po w vS l):
  CallsIn Fence.wide 5 Tryz.prog 126 #[.agg #[.slice Ag ng cg,.slice At nt ct],.agg #[vS]] w fun e W'=>∃v,e=.returned v/\W'.ownsRow w.heap.size 225 3 v (dP s l).length (L0 (dP s l))/\(v=.slice none 0 0↔dP s l=[])/\Below w.heap.size w W':=by
 obtain⟨A,cp,rfl,_,_⟩:=hP.sl
 obtain⟨i0,hi,MP,pM,nH⟩:=info_parts J1
 refine callsIn_of_wp_marks Tryz.func126 rfl trivial ?_ rfl
 simp only[Tryz.ntmps126,List.size_toArray,List.length_cons,List.length_nil,Nat.reduceAdd,Nat.reduceSub,Array.replicate_succ,Array.replicate_zero,List.push_toArray,List.append_toArray,List.nil_append,List.cons_append]
 gi_wp2_with (refine⟨trivial,?_⟩;gi_at_call 167;refine(As _ _ _).mono ?_;rintro e w' ⟨rfl,rfl⟩)
 have bT:((w.alloc (.cells #[.slice Ag ng cg,.slice At nt ct] 28)).heap[w.heap.size]?)=some (.cells #[.slice Ag ng cg,.slice At nt ct] 28 (0,0)):=World.alloc_heap_new _ _
 obtain⟨w1,B6⟩:∃w1,w.alloc (.cells #[.slice Ag ng cg,.slice At nt ct] 28)=w1:=⟨_,rfl⟩
 have RM:w1.heap.size=w.heap.size+1:=by rw[<-B6];simp
 have AN:Below w.heap.size w w1:=by rw[<-B6];exact(Below.refl _ w).alloc (Nat.le_refl _) _
 rw[B6]at bT ⊢
 clear B6
 have bA:=Boxed.new w1 31 (.slice A l.length cp)
 have bO:=Boxed.new (w1.alloc (.cells #[.slice A l.length cp] 31)) 184 (.slice none 0 0)
 have bN:=Boxed.new ((w1.alloc (.cells #[.slice A l.length cp] 31)).alloc (.cells #[.slice none 0 0] 184)) 31 (.slice A l.length cp)
 replace bA:=(bA.alloc (.cells #[.slice none 0 0] 184)).alloc (.cells #[.slice A l.length cp] 31)
 replace bO:=bO.alloc (.cells #[.slice A l.length cp] 31)
 simp only[World.size_alloc,RM]at bA bO bN
 have pv:Below w1.heap.size w1 (((w1.alloc (.cells #[.slice A l.length cp] 31)).alloc (.cells #[.slice none 0 0] 184)).alloc (.cells #[.slice A l.length cp] 31)):=(((Below.refl _ w1).alloc (Nat.le_refl _) _).alloc (by simp) _).alloc (by simp;omega) _
 have e8:(((w1.alloc (.cells #[.slice A l.length cp] 31)).alloc (.cells #[.slice none 0 0] 184)).alloc (.cells #[.slice A l.length cp] 31)).heap.size=w.heap.size+4:=by simp;omega
 obtain⟨W0,SI⟩:∃W0,((w1.alloc (.cells #[.slice A l.length cp] 31)).alloc (.cells #[.slice none 0 0] 184)).alloc (.cells #[.slice A l.length cp] 31)=W0:=⟨_,rfl⟩
 rw[SI]at bA bO bN pv e8 ⊢
 clear SI
 have BJ:Below w.heap.size w W0:=AN.trans (pv.mono ab)
 replace bT:=(pv.block w.heap.size ab).trans bT
 have hP0:po W0 (.slice A l.length cp) l:=hP.below BJ
 have kl:=TH hP
 have nA:=uW (s:=s) hA.1
 refine wpIn_rangeFunc_ownH (n:=5) rfl ab (gf:=194) (lb:= #[.pointer (some ⟨w.heap.size+1+1+1,0,none⟩)]) rfl trivial (enters_of Tryz.func194 (by kernel_rfl) rfl)
  (Kl l hA.1 (w.heap.size+1+1+1) (5-1) ab (.slice A l.length cp) (ij w.heap.size) kl W0 bN hP0) ij.trans (ij.b ab) (Below.refl _ _) (fun _=>rfl)
  (fun pre W=>((∃v,Boxed W (w.heap.size+1+1) 184 v/\W.ownsRow w.heap.size 225 3 v (nv s l pre).length (L0 (nv s l pre))/\(v=.slice none 0 0↔nv s l pre=[]))/\(Boxed W (w.heap.size+1) 31 (.slice A l.length cp)/\W.heap[w.heap.size]? =some (.cells #[.slice Ag ng cg,.slice At nt ct] 28 (0,0))))/\Below w.heap.size w W)
  (fun _ _ _=>False)
  (OwnFrom.and (OwnFrom.and (Own.from (holdsRow_own w.heap.size (w.heap.size+1+1) 184 225 3 (fun pre=>(nv s l pre).length) (fun pre=>L0 (nv s l pre)) (fun pre v=>v=.slice none 0 0↔nv s l pre=[])) _) (OwnFrom.and (Own.from (boxed_own _ _ _) _) (Own.from (BR _ _ _ _) _))) (ownFrom_below (Nat.le_refl _) ab))
  (fun _ _ _ _ _ hs _ _=>hs)
  ⟨⟨⟨_,bO,World.ownsRow_nil _ _ _ _,by simp[nv]⟩,bA,bT⟩,BJ⟩
  (fun x a' W=>∃Bx,w.heap.size+1+1<Bx/\W.heap[Bx]? =some (.cells #[.int .i64 (x.1.1:Int),.int .i64 (x.1.2.1:Int)] 253 (0,0))/\a'={tmps:= #[.agg #[.slice Ag ng cg,.slice At nt ct],.agg #[.slice A l.length cp],.pointer (some ⟨w.heap.size,0,none⟩),.pointer (some ⟨w.heap.size+1,0,none⟩),.slice none 0 0,.pointer (some ⟨w.heap.size+1+1,0,none⟩),.pointer (some ⟨Bx,0,none⟩),.int .i64 x.1.2.2,undef,.agg #[.slice A l.length cp],.func (.func 194) #[] #[.pointer (some ⟨w.heap.size+1+1+1,0,none⟩)],.agg #[.int .i64 (x.1.1:Int),.int .i64 (x.1.2.1:Int)],.int .i64 x.1.2.2,undef,undef,undef,undef,undef,undef,undef,undef,undef,undef,undef,undef,undef,undef,undef,undef,undef,undef,undef,undef,undef,undef,undef,undef,undef,undef,undef,undef,undef],defers:=[]})
  (fun x a' _ X Y row hs hg hr=>by obtain⟨Bx,h1,h2,h3⟩:=hs;exact⟨Bx,h1,BR Bx _ _ _ () X Y row h2 hg (fun r e=>(hr r e).2),h3⟩)
  ?assign ?body ?done ?stop
 case assign=>
  rintro q pre ⟨⟨x0,x1,x2⟩,hx⟩ W K ⟨⟨⟨v,hv,fS,hnil⟩,bA1,bT1⟩,hB⟩ hK
  simp only[Fi]
  gi_wp2
  exact hK _ _ ((KeepsOthers.alloc _ _).from _) (ij.of ((Below.refl _ W).alloc (Nat.le_refl _) _)) ⟨⟨⟨v,hv.alloc _,fS.alloc _,hnil⟩,bA1.alloc _,(Below.heap_alloc _ _ _ (Array.getElem?_eq_some_iff.1 bT1).1).trans bT1⟩,hB.alloc hB.size _⟩ ⟨W.heap.size,hv.lt,World.alloc_heap_new _ _,rfl⟩
 case body=>
  rintro q pre ⟨⟨x0,x1,x2⟩,hx⟩ a' W hq hqr ⟨⟨⟨v,hv,fS,hnil⟩,bA1,bT1⟩,hB⟩ ⟨Bx,hBx,bX,rfl⟩ eR
  obtain⟨DZ,MO,AS,-⟩:=id hx
  simp only at DZ MO AS bX
  obtain⟨A',c',e',_,hc⟩:=(hP.below hB).sl
  cases e'
  have eb:∃b o,A=some ⟨b,o,none⟩/\W.cell? ⟨b,o+x0*3+2,none⟩=some (.int .i64 (cP l x0).cL)/\W.cell? ⟨b,o+x1*3+2,none⟩=some (.int .i64 (cP l x1).cL):=by
   rcases hc with rfl|⟨b,o,rfl,kn⟩
   ·simp at DZ
   ·exact⟨b,o,rfl,by rw[Nat.add_assoc];exact(kn x0 DZ).2.2,by rw[Nat.add_assoc];exact(kn x1 MO).2.2⟩
  obtain⟨b,o,rfl,cP0,cP1⟩:=eb
  have cT0:W.cell? ⟨w.heap.size,0,none⟩=some (.slice Ag ng cg):=by simp[World.cell?,bT1]
  have cT1:W.cell? ⟨w.heap.size,1,none⟩=some (.slice At nt ct):=by simp[World.cell?,bT1]
  have V2:W.cell? ⟨Bx,0,none⟩=some (.int .i64 (x0:Int)):=by simp[World.cell?,bX]
  have V3:W.cell? ⟨Bx,1,none⟩=some (.int .i64 (x1:Int)):=by simp[World.cell?,bX]
  have cA:=bA1.cell
  have dP0:W.drew.cell? ⟨b,o+x0*3+2,none⟩=some (.int .i64 (cP l x0).cL):=cP0
  have dP1:W.drew.cell? ⟨b,o+x1*3+2,none⟩=some (.int .i64 (cP l x1).cL):=cP1
  have dT0:W.drew.cell? ⟨w.heap.size,0,none⟩=some (.slice Ag ng cg):=cT0
  have dT1:W.drew.cell? ⟨w.heap.size,1,none⟩=some (.slice At nt ct):=cT1
  have dX0:W.drew.cell? ⟨Bx,0,none⟩=some (.int .i64 (x0:Int)):=V2
  have dX1:W.drew.cell? ⟨Bx,1,none⟩=some (.int .i64 (x1:Int)):=V3
  have dA:W.drew.cell? ⟨w.heap.size+1,0,none⟩=some (.slice (some ⟨b,o,none⟩) l.length cp):=cA
  have vZ:∀i,i<l.length->cP l i∈l:=fun i hi=>by
   unfold cP
   rw[List.getD_eq_getElem?_getD,List.getElem?_eq_getElem hi]
   exact List.getElem_mem hi
  have W4:=mixed
  have hfw:=hA.1.CX
  have hbv:=IW s hF (cP l x0).cL x2 (cP l x1).cL (hA.2 _ (vZ x0 DZ)) (hA.2 _ (vZ x1 MO)) (ly ab)
  have hTW:jK Tryz.prog W (fun b=>b<w.heap.size) (.agg (ao s)) (.agg #[.slice Ag ng cg,.slice At nt ct]):=hT.frame (fun b hb=>hB.block b hb) (fun _ h=>h)
  have hAW:jK Tryz.prog W (fun b=>b<w.heap.size) (.sl (l.map ai)) (.slice (some ⟨b,o,none⟩) l.length cp):=hP.eG.frame (fun b hb=>hB.block b hb) (fun _ h=>h)
  obtain⟨fT,Lw,Wy⟩:∃f:Nat->Value,(∀j,j<(ao s).length->(#[Value.slice Ag ng cg,.slice At nt ct])[j]? =some (f j))/\∀j a,(ao s)[j]? =some a->jK Tryz.prog W (fun b=>b<w.heap.size) a (f j):=by
   cases hTW with
   |agg _ _ f _ _ h3 h4=>exact⟨f,h3,h4⟩
  have ee:St Tryz.prog W.heap.size 42 (fun b=>b<w.heap.size) (I0 w.heap.size Bx) (Pm s l x0 x1 x2) ⟨N6 s l x0 x1,1⟩ {tmps:= #[.agg #[.slice Ag ng cg,.slice At nt ct],.agg #[.slice (some ⟨b,o,none⟩) l.length cp],.pointer (some ⟨w.heap.size,0,none⟩),.pointer (some ⟨w.heap.size+1,0,none⟩),.slice none 0 0,.pointer (some ⟨w.heap.size+1+1,0,none⟩),.pointer (some ⟨Bx,0,none⟩),.int .i64 x2,undef,.agg #[.slice (some ⟨b,o,none⟩) l.length cp],.func (.func 194) #[] #[.pointer (some ⟨w.heap.size+1+1+1,0,none⟩)],.agg #[.int .i64 (x0:Int),.int .i64 (x1:Int)],.int .i64 x2,undef,undef,undef,undef,undef,undef,undef,undef,undef,undef,undef,undef,undef,undef,undef,undef,undef,undef,undef,undef,undef,undef,undef,undef,undef,undef,undef,undef,undef],defers:=[]} W:=by
   have n1:(I0 w.heap.size Bx) ⟨1,0⟩=some ⟨w.heap.size,2,2,none⟩:=rfl
   have n2:(I0 w.heap.size Bx) ⟨2,0⟩=some ⟨w.heap.size+1,1,1,none⟩:=rfl
   have n3:(I0 w.heap.size Bx) ⟨3,0⟩=some ⟨w.heap.size+1+1,1,1,none⟩:=rfl
   have n4:(I0 w.heap.size Bx) ⟨4,0⟩=some ⟨Bx,2,2,none⟩:=rfl
   have n5:(I0 w.heap.size Bx) ⟨5,0⟩=some ⟨w.heap.size+1+1+1,1,1,none⟩:=rfl
   have rp:∀(id:Id) (B:rZ),(I0 w.heap.size Bx) id=some B->B.k=none->dF Tryz.prog W (fun b=>b<w.heap.size) (I0 w.heap.size Bx) (.ptr id 0 0) (.pointer (some ⟨B.b,0,none⟩)):=fun id B h hk=>by
    have:=dF.ptr (P:=Tryz.prog) (w:=W) (D:=fun b=>b<w.heap.size) id 0 0 B h hk
    simpa using this
   have ri:∀n:Int,dF Tryz.prog W (fun b=>b<w.heap.size) (I0 w.heap.size Bx) (.int .i64 n) (.int .i64 n):=fun n=>.eG _ _ (.int _ _)
   have hA1:jK Tryz.prog W (fun b=>b<w.heap.size) (.agg [.sl (l.map ai)]) (.agg #[.slice (some ⟨b,o,none⟩) l.length cp]):=.agg _ _ (fun _=>.slice (some ⟨b,o,none⟩) l.length cp) rfl (fun a ha=>by simp at ha;rw[ha];rfl) (fun j hj=>by match j,hj with|0,_=>rfl|j+1,hj=>simp at hj) (fun j a ha=>by match j,ha with|0,ha=>simp at ha;subst ha;exact hAW|j+1,ha=>simp at ha)
   refine⟨⟨Nat.le_refl _,fun b hb=>Nat.lt_of_lt_of_le hb hB.size,fun id r hg=>?_,fun id jQ r r' B B' h _ hw=>?_⟩,fun id hid=>?_,fun t=>?_,rfl⟩
   ·replace hg:N6 s l x0 x1 id=some r:=hg
    unfold N6 at hg
    split at hg
    ·rename_i e;subst e;injection hg with hg;subst hg
     exact⟨_,n1,EA (cs:=ao s) rfl bT1 rfl rfl rfl (fun a ha=>by simp[ao]at ha;rcases ha with rfl|rfl<;>rfl) (fun j a ha=>⟨_,Lw j (List.getElem?_eq_some_iff.1 ha).1,.eG _ _ (Wy j a ha)⟩),fun h=>(by cases h),fun h=>(by cases h)⟩
    ·split at hg
     ·rename_i e;subst e;injection hg with hg;subst hg
      exact⟨_,n2,EA (cs:=[.sl (l.map ai)]) rfl bA1 rfl rfl rfl (fun a ha=>by simp at ha;rw[ha];rfl) (fun j a ha=>by match j,ha with|0,ha=>simp at ha;subst ha;exact⟨_,rfl,.eG _ _ hAW⟩|j+1,ha=>simp at ha),fun h=>(by cases h),fun h=>(by cases h)⟩
     ·split at hg
      ·rename_i e;subst e;injection hg with hg;subst hg
       exact⟨_,n4,EA (cs:=[.int .i64 (x0:Int),.int .i64 (x1:Int)]) rfl bX rfl rfl rfl (fun a ha=>by simp at ha;rcases ha with rfl|rfl<;>rfl) (fun j a ha=>by match j,ha with|0,ha=>simp at ha;subst ha;exact⟨_,rfl,ri _⟩|1,ha=>simp at ha;subst ha;exact⟨_,rfl,ri _⟩|j+2,ha=>simp at ha),fun h=>(by cases h),fun h=>(by cases h)⟩
      ·cases hg
   ·exfalso
    replace h:N6 s l x0 x1 id=some r:=h
    unfold N6 at h
    split at h
    ·injection h with h;subst h;cases hw
    ·split at h
     ·injection h with h;subst h;cases hw
     ·split at h
      ·injection h with h;subst h;cases hw
      ·cases h
   ·left
    unfold I0 at hid
    repeat' (split at hid)
    all_goals first|(rename_i e;subst e;exact Nat.zero_lt_one)|exact absurd rfl hid
   ·match t with
    |0=>exact .eG _ _ hTW
    |1=>exact .eG _ _ hA1
    |2=>exact rp _ _ n1 rfl
    |3=>exact rp _ _ n2 rfl
    |4=>exact .eG _ _ .bB
    |5=>exact rp _ _ n3 rfl
    |6=>exact rp _ _ n4 rfl
    |7=>exact ri _
    |8=>exact dF.undef
    |9=>exact .eG _ _ hA1
    |10=>exact .fn _ _ _ (fun _=>.pointer (some ⟨w.heap.size+1+1+1,0,none⟩)) (by kernel_rfl) rfl (fun j hj=>by match j,hj with|0,_=>rfl|j+1,hj=>simp at hj) (fun j a ha=>by match j,ha with|0,ha=>simp at ha;subst ha;exact rp _ _ n5 rfl|j+1,ha=>simp at ha)
    |11=>exact .agg _ _ (fun j=>if j=0 then .int .i64 (x0:Int)else .int .i64 (x1:Int)) rfl (fun a ha=>by simp at ha;rcases ha with rfl|rfl<;>rfl) (fun j hj=>by match j,hj with|0,_=>rfl|1,_=>rfl|j+2,hj=>simp at hj;omega) (fun j a ha=>by match j,ha with|0,ha=>simp at ha;subst ha;exact ri _|1,ha=>simp at ha;subst ha;exact ri _|j+2,ha=>simp at ha)
    |12=>exact ri _
    |13=>exact dF.undef
    |14=>exact dF.undef
    |15=>exact dF.undef
    |16=>exact dF.undef
    |17=>exact dF.undef
    |18=>exact dF.undef
    |19=>exact dF.undef
    |20=>exact dF.undef
    |21=>exact dF.undef
    |22=>exact dF.undef
    |23=>exact dF.undef
    |24=>exact dF.undef
    |25=>exact dF.undef
    |26=>exact dF.undef
    |27=>exact dF.undef
    |28=>exact dF.undef
    |29=>exact dF.undef
    |30=>exact dF.undef
    |31=>exact dF.undef
    |32=>exact dF.undef
    |33=>exact dF.undef
    |34=>exact dF.undef
    |35=>exact dF.undef
    |36=>exact dF.undef
    |37=>exact dF.undef
    |38=>exact dF.undef
    |39=>exact dF.undef
    |40=>exact dF.undef
    |41=>exact dF.undef
    |t+42=>exact dF.undef
  have hV:wpOps (Call Tryz.prog) true ?vl (fun e _=>e 5=.ptr ⟨3,0⟩ 0 0/\e 6=.ptr ⟨4,0⟩ 0 0/\e 8=.int .i64 (fV s (cP l x0).cL x2 (cP l x1).cL)) (Pm s l x0 x1 x2) ⟨N6 s l x0 x1,1⟩:= ?hv
  gi_wp2
  refine Ay mixed (rrE (nt:=42) (site0:=126005000)) (Kr (by kernel_rfl)) (kP (fun _ _ _ _ h=>gG mixed h) kg (fun _ _ h=>h) _ _ _ hV) ee ?_
  rintro e1 σ1 ⟨tm,df⟩ w3 D1 ι1 ⟨h5,h6,h8⟩ T1 qx DQ
  case hv=>
   refine Em ?_
   have e0:=jn DZ
   have e1:=jn MO
   (repeat(first|((repeat(revert hN;revert N;apply Pn.out));refine wk (tw @e0 (tw @e1 (tw @Pm.eq_1 (tw @N6.eq_1 (tw @ai.eq_1 @ao.eq_1))))) ?_;(repeat(refine Pn.mk ?_;intro N hN)))|((try apply Or.inl);refine⟨_,aP.x (hbv) (sd (tw @e0 (tw @e1 (tw @Pm.eq_1 (tw @N6.eq_1 (tw @ai.eq_1 @ao.eq_1)))))),?_⟩;refine hN _ _ ?_;clear hN N)))
   exact⟨sd @Pm.eq_1,sd @Pm.eq_1,sd @Pm.eq_1⟩
  ·have BL:Below W.heap.size W w3:=T1.below
   have qt:∀id B,I0 w.heap.size Bx id=some B->ι1 id=some B:=T1.names
   have p5:tm.getD 5 undef=.pointer (some ⟨w.heap.size+1+1,0,none⟩):=by
    have g:=qx.env 5
    rw[h5]at g
    obtain⟨B,e,hB,_⟩:=gZ g
    have h:=qt ⟨3,0⟩ ⟨w.heap.size+1+1,1,1,none⟩ rfl
    rw[h]at hB;injection hB with hB;subst hB
    simpa using e
   have p6:tm.getD 6 undef=.pointer (some ⟨Bx,0,none⟩):=by
    have g:=qx.env 6
    rw[h6]at g
    obtain⟨B,e,hB,_⟩:=gZ g
    have h:=qt ⟨4,0⟩ ⟨Bx,2,2,none⟩ rfl
    rw[h]at hB;injection hB with hB;subst hB
    simpa using e
   have p8:tm.getD 8 undef=.int .i64 (fV s (cP l x0).cL x2 (cP l x1).cL):=by
    have g:=qx.env 8
    rw[h8]at g
    exact dO g
   have e8:=qx.size
   obtain⟨tl⟩:=tm
   obtain⟨f,G6,hf⟩:∃f:Nat->Value,tl=[f 0,f 1,f 2,f 3,f 4,f 5,f 6,f 7,f 8,f 9,f 10,f 11,f 12,f 13,f 14,f 15,f 16,f 17,f 18,f 19,f 20,f 21,f 22,f 23,f 24,f 25,f 26,f 27,f 28,f 29,f 30,f 31,f 32,f 33,f 34,f 35,f 36,f 37,f 38,f 39,f 40,f 41]/\∀i,f i=(⟨tl⟩:Array Value).getD i undef:=by
    refine⟨fun i=>(⟨tl⟩:Array Value).getD i undef,?_,fun _=>rfl⟩
    have h:=Kc tl undef
    rw[show tl.length=42 from e8]at h
    exact h
   rw[<-hf]at p5 p6 p8
   have WH:df=[]:=DQ
   subst WH
   clear hf qx ee hV
   subst G6
   rw[p5,p6,p8]
   have Vs:=hv.kept (grown_of BL) (by simp)
   have FH:=fS.kept (grown_of BL) (by rcases fS.2 with⟨e,_⟩|⟨_,_,_,e,_⟩<;>rw[e]<;>simp[Value.ownBlock])
   have hc3:=Vs.cell
   have Ql:w.heap.size<=w3.heap.size:=Nat.le_trans hB.size BL.size
   have eX0:w3.cell? ⟨Bx,0,none⟩=some (.int .i64 (x0:Int)):=(BL.cell (p:=⟨Bx,0,none⟩) (Array.getElem?_eq_some_iff.1 bX).1).trans V2
   have eX1:w3.cell? ⟨Bx,1,none⟩=some (.int .i64 (x1:Int)):=(BL.cell (p:=⟨Bx,1,none⟩) (Array.getElem?_eq_some_iff.1 bX).1).trans V3
   have la:(nv s l pre).length<=2097152:=by
    have h1:=IS s l pre
    have h2:=Cp l l.length
    omega
   have hKF:KeepsFrom (w.heap.size+4) W w3:=⟨BL.size,fun k o _ hk _=>(BL.block k (Array.getElem?_eq_some_iff.1 hk).1).trans hk⟩
   have hKT:ij w.heap.size W w3:=ij.of BL
   have VZ:w3.heap[w.heap.size+1]? = _:=(BL.block _ bA1.lt).trans bA1
   have V0:=(BL.block _ (Array.getElem?_eq_some_iff.1 bT1).1).trans bT1
   by_cases kq:0<fV s (cP l x0).cL x2 (cP l x1).cL
   ·have Ie:nv s l (pre++[⟨(x0,x1,x2),hx⟩])=nv s l pre++[⟨x0,x1,fV s (cP l x0).cL x2 (cP l x1).cL⟩]:=by
     rw[ye];simp only[zF,if_pos kq]
    gi_wp2_with (gi_at_builtin;refine wpListIn_append_own _ rfl _ _ 184 rfl w.heap.size 225 i0 (.agg #[.int .i64 0,.int .i64 0,.int .i64 0]) 3 24 (by kernel_rfl) hi MP pM nH rfl (by decide) _ _ _ rfl (FH.alloc _) ⟨w3.heap.size,0,none⟩ 1 1 [.int .i64 (x0:Int),.int .i64 (x1:Int),.int .i64 (fV s (cP l x0).cL x2 (cP l x1).cL)] rfl rfl (ve _ _ _ _ _) (by simp[Value.oneCell']) (by unfold maxLen;omega) ab (by simp;omega) ?_;intro v' w4 BW yE _;obtain⟨g',V4,rfl⟩:=ownsRow_succ BW;obtain⟨qb,MM,AQ,tr,DP⟩:=Vs.appended (by decide) FH Ql ab BW yE;have LG:=ij.app Vs FH yE DP;have pF:=qb.cell;have Qc:=qb.frozen)
    exact⟨hKF.trans (tr.from _),hKT.trans LG,⟨⟨_,MM,by rw[Ie,IQ,List.length_append];exact AQ,by rw[Ie];simp⟩,(LG.2.1 _ _ _ _ VZ (by decide) (by decide)).trans VZ,(LG.2.1 _ _ _ _ V0 (by decide) (by decide)).trans V0⟩,hB.trans ((BL.mono hB.size).trans DP)⟩
   ·have Ie:nv s l (pre++[⟨(x0,x1,x2),hx⟩])=nv s l pre:=by
     rw[ye];simp only[zF,if_neg kq,List.append_nil]
    gi_wp2
    exact⟨hKF,hKT,⟨⟨v,Vs,by rw[Ie];exact FH,by rw[Ie];exact hnil⟩,VZ,V0⟩,hB.trans (BL.mono hB.size)⟩
 case done=>
  rintro D ys W hD C2 ⟨⟨⟨v,hv,fS,hnil⟩,_⟩,hB⟩ hK
  have hc:=hv.cell
  have Lx:nv s l ys=dP s l:=by rw[IY,<-C2];rfl
  rw[Lx]at fS hnil
  gi_wp2
  refine⟨by simp,.inl ⟨_,_,rfl,run_takeDeferred hK,?_⟩⟩
  exact⟨_,results_tmp rfl _ _ _,v,rfl,ownsRow_putObj fS _ hK rfl,hnil,hB.trans (belowK_b (w:=w) (Nat.le_refl _) W D _ _ ab hK rfl rfl)⟩
 case stop=>
  rintro D c pre W _ _ h _
  exact h.elim
end Go.Proofs.YtakkdjfmiffbfaaGreatDoor.V

namespace Go.Proofs.YtakkdjfmiffbfaaGreatDoor.V
open Go.RowKit Go.Shelf
theorem Fb:∀{bs:List PB} {i j:Nat} {b:PB},bs[i]? =some b->j<3->(L0 bs)[i*3+j]? =([.int .i64 b.a,.int .i64 b.b,.int .i64 b.s]:List Value)[j]?
 |c::bs,0,j,b,h,hj=>by
  simp at h;subst h
  simp only[L0,List.flatMap_cons,Nat.zero_mul,Nat.zero_add]
  rw[List.getElem?_append_left (by simpa using hj)]
 |c::bs,i+1,j,b,h,hj=>by
  simp only[List.getElem?_cons_succ]at h
  have:=Fb (bs:=bs) (i:=i) (j:=j) h hj
  simp only[L0,List.flatMap_cons]at this ⊢
  rw[List.getElem?_append_right (by simp;omega),<-this]
  congr 1
  simp;omega
theorem qY {P:Program} {w:World} {D:Nat->Prop} {rows:List (List AV)} {v:Value} (h:jK P w D (.sl rows) v):∃A n c,v=.slice A n c:=by
 cases h with
 |AU a c _=>exact⟨_,_,_,rfl⟩
 |sl=>exact⟨_,_,_,rfl⟩
theorem qk {P:Program} {w:World} {D:Nat->Prop} {ι:Names} {rows:List (List AV)} {v:Value} (h:dF P w D ι (.sl rows) v):jK P w D (.sl rows) v:=by
 cases h with
 |eG _ _ h=>exact h
theorem Nl {P:Program} {w:World} {D:Nat->Prop} {l:List aa} {v:Value} (h:jK P w D (.sl (l.map ai)) v):po w v l:=by
 generalize hr:l.map ai=rows at h
 cases h with
 |AU a c hc=>
  have:l=[]:=by simpa using hr
  subst this
  exact⟨a,c,rfl,⟨Nat.zero_le _,hc⟩,.inl rfl⟩
 |sl _ b o n c sz vs h1 h2 h3 h4 h5 h5' h6 h7=>
  have hn:n=l.length:=by rw[<-h1,<-hr];simp
  subst hn
  refine⟨some ⟨b,o,none⟩,c,rfl,⟨h2,h3⟩,?_⟩
  by_cases hl:l=[]
  ·exact .inl hl
  refine .inr ⟨b,o,rfl,fun i hi=>?_⟩
  have hg:rows[i]? =some (ai (cP l i)):=by rw[<-hr];exact jn hi
  have e8:sz=3:=by rw[<-h5 _ (List.mem_of_getElem? hg)];rfl
  subst e8
  have k:∀(j:Nat) (x:Int),(ai (cP l i))[j]? =some (.int .i64 x)->j<3->w.cell? ⟨b,o+(i*3+j),none⟩=some (.int .i64 x):=fun j x hj h3=>by
   have:=h7 i j _ _ hg hj
   rw[h6 i j hi h3,dO (.eG (ι:=fun _=>none) _ _ this)]
  exact⟨k 0 _ rfl ab,k 1 _ rfl ab,k 2 _ rfl ab⟩
theorem Pk:C5:=by
 intro s l hS hA n
 refine eV ?_
 intro hs D ι w vs S U A
 obtain⟨u0,Vr,r0⟩:=A.2 0 _ rfl
 obtain⟨u1,JX,r1⟩:=A.2 1 _ rfl
 have eR:∀b,D b->b<w.heap.size:=S.dead
 obtain⟨v0,f0,rfl,MP,_,U9,Xf⟩:=iw r0
 obtain⟨v1,f1,rfl,pM,_,Qc,Qq⟩:=iw r1
 have g0:=qk (Xf 0 _ rfl)
 have g1:=qk (Xf 1 _ rfl)
 have a0:=qk (Qq 0 _ rfl)
 obtain⟨Ag,ng,cg,eg⟩:=qY g0
 obtain⟨At,nt,ct,et⟩:=qY g1
 have e0:v0= #[.slice Ag ng cg,.slice At nt ct]:=by
  obtain⟨vl⟩:=v0
  have q0:=U9 0 (by simp[ao])
  have q1:=U9 1 (by simp[ao])
  rw[eg]at q0;rw[et]at q1
  match vl,MP with
  |[a,b],_=>simp at q0 q1;rw[q0,q1]
 have e1:v1= #[f1 0]:=by
  obtain⟨vl⟩:=v1
  have q0:=Qc 0 (by simp)
  match vl,pM with
  |[a],_=>simp at q0;rw[q0]
 subst e0 e1
 have evs:vs= #[.agg #[.slice Ag ng cg,.slice At nt ct],.agg #[f1 0]]:=by
  obtain⟨vl⟩:=vs
  have hz:=A.1
  match vl,hz with
  |[a,b],_=>simp at Vr JX;rw[Vr,JX]
 subst evs
 have up:∀{a v},jK Tryz.prog w D a v->jK Tryz.prog w (fun b=>b<w.heap.size) a v:=fun h=>h.frame (fun _ _=>rfl) eR
 have hT:jK Tryz.prog w (fun b=>b<w.heap.size) (.agg (ao s)) (.agg #[.slice Ag ng cg,.slice At nt ct]):=
  .agg _ _ f0 MP (fun a ha=>by simp[ao]at ha;rcases ha with rfl|rfl<;>rfl) U9 (fun j a ha=>by
   match j,ha with
   |0,ha=>simp[ao]at ha;subst ha;exact up g0
   |1,ha=>simp[ao]at ha;subst ha;exact up g1
   |j+2,ha=>simp[ao]at ha)
 refine(callsIn_wide.1 (IX s l hS.form hA w Ag At ng cg nt ct (f1 0) hT (Nl a0))).mono ?_
 rintro e W' ⟨v,rfl,⟨hl,hown⟩,hnil,hB⟩
 have S':fY Tryz.prog hs D ι (fun _=>none) W':=S.stay (fun b hb=>hB.block b hb) hB.size (fun _ h=>h) (fun b hb=>Nat.lt_of_lt_of_le (eR b hb) hB.size) (fun _ h=>.inl h) (fun _ _ h=>h)
 have T:Step hs D ι w D ι W':=Step.stay S (fun b hb=>hB.block b hb) hB.size hB.os hB.tape hB.output (fun _ h=>h) (fun _ h=>.inl h) (fun _ _ h=>h)
 rcases hown with⟨rfl,h0⟩|⟨gb,cap,cur,rfl,S5,hblk,hle,BQ,eb,pL⟩
 ·have yC:dP s l=[]:=hnil.1 rfl
  exact⟨.bB,_,n,D,ι,_,rfl,⟨.bB,lQ _ _,by rw[yC];rfl⟩,T,S',U,Nat.le_refl _,.eG _ _ .bB⟩
 ·have yC:dP s l≠[]:=fun h=>by have:=hnil.2 h;cases this
  have jP:ι ⟨0,n⟩=none:=fresh U (fun h=>h)
  have hZ:∀{a v},dF Tryz.prog W' D ι a v->dF Tryz.prog W' D (jU ι ⟨0,n⟩ ⟨gb,3,cap*3,none⟩) a v:=fun h=>h.frame (fun _ _=>rfl) (fun _ h=>h) (fe jP)
  have hR:gD Tryz.prog W' D (jU ι ⟨0,n⟩ ⟨gb,3,cap*3,none⟩) ⟨gb,3,cap*3,none⟩ ⟨true,3,(dP s l).map dB⟩:=by
   refine j6.obj ⟨rfl,⟨cur,_,hblk,eb⟩,?_,fun cs hc=>?_,fun cs hc a ha=>?_,fun i j cs a hi hj=>?_⟩ rfl
   ·simp only[List.length_map];exact Nat.mul_le_mul_right 3 hle
   ·obtain⟨b,_,rfl⟩:=List.mem_map.1 hc;rfl
   ·obtain⟨b,_,rfl⟩:=List.mem_map.1 hc
    simp[dB]at ha
    rcases ha with rfl|rfl|rfl<;>rfl
   ·rw[List.getElem?_map]at hi
    simp only[Option.map_eq_some_iff]at hi
    obtain⟨b,hb,rfl⟩:=hi
    have WT:j<3:=by have:=(List.getElem?_eq_some_iff.1 hj).1;simpa[dB]using this
    have qp:=(List.getElem?_eq_some_iff.1 hb).1
    have hg:=Fb hb WT
    rw[<-pL,List.getElem?_take,if_pos ab]at hg
    have key:∀x:Value,([.int .i64 b.a,.int .i64 b.b,.int .i64 b.s]:List Value)[j]? =some x->W'.cell? ⟨gb,i*3+j,none⟩=some x:=fun x hx=>by
     rw[hx]at hg
     have e:W'.cell? ⟨gb,i*3+j,none⟩=cur[i*3+j]? :=by
      unfold World.cell?
      rw[show W'.heap[(⟨gb,i*3+j,none⟩:Addr).block]? = _ from hblk]
      rfl
     rw[e,<-Array.getElem?_toList];exact hg
    match j,hj with
    |0,hj=>simp[dB]at hj;subst hj;exact⟨_,key _ rfl,.eG _ _ (.int _ _)⟩
    |1,hj=>simp[dB]at hj;subst hj;exact⟨_,key _ rfl,.eG _ _ (.int _ _)⟩
    |2,hj=>simp[dB]at hj;subst hj;exact⟨_,key _ rfl,.eG _ _ (.int _ _)⟩
    |j+3,hj=>simp[dB]at hj
  have S2:=fY.add (r:=⟨true,3,(dP s l).map dB⟩) S S' jP S5 hR
  refine⟨.own ⟨0,n⟩ 0 (dP s l).length,bH (fun _=>none) ⟨0,n⟩ ⟨true,3,(dP s l).map dB⟩,n+1,D,jU ι ⟨0,n⟩ ⟨gb,3,cap*3,none⟩,_,rfl,⟨AE (dP s l),?_,rfl⟩,T.trans (Step.stay S' (fun _ _=>rfl) (Nat.le_refl _) rfl rfl rfl (fun _ h=>h) (fun _ h=>.inl h) (fe jP)),S2,U.upd.next,Nat.le_succ _,.own _ _ _ _ _ _ (eo _ _ _) rfl hle (.inr (by simp)) (by simp) BQ⟩
  unfold AE
  rw[if_neg yC]
  have hg:(bH (fun _=>none) (⟨0,n⟩:Id) ⟨true,3,(dP s l).map dB⟩:Rows) ⟨0,n⟩=some ⟨true,3,(dP s l).map dB⟩:=by simp[bH]
  have:=fN (n:=5) hg rfl fun b=>Fw _ 4 b
  simpa using this
end Go.Proofs.YtakkdjfmiffbfaaGreatDoor.V

namespace Go.Proofs.YtakkdjfmiffbfaaGreatDoor.V
open Go.RowKit
attribute [local irreducible] dL wpOps ez Call
attribute [local go_sem] ay ew dZ eE eC cY upd bJ K.av bZ AV.cells AV.cell rowOf rowsOf part ld rowAt eO bH bI cX dj eQ bq cF dx eA ed cQ dq cD cC dc de bu aE cm bt cr cq dn dr dp ck bz cE dm br aw cw bQ eP aZ bW bx aD cR aQ cZ AV.undef bd bj dh di c6 da bV dw dz bP du dt cu cz List.getD_cons_zero List.getD_cons_succ List.getD_nil List.all_cons List.all_nil Bool.and_true Bool.true_and Bool.and_self Bool.not_true Bool.not_false Option.map_some Option.map_none Option.bind_some Option.bind_none List.length_cons List.length_nil List.take_succ_cons List.take_zero List.take_nil List.drop_succ_cons List.drop_zero List.drop_nil List.head?_cons List.map_cons List.map_nil List.getElem?_cons_zero List.getElem?_cons_succ List.cons_append List.nil_append List.append_nil List.length_map List.set_cons_zero List.set_cons_succ Nat.reduceMul eq_self Int.toNat_natCast Int.natCast_nonneg and_self true_and and_true decide_true decide_false Bool.false_eq_true Nat.zero_add Nat.add_zero List.contains_cons List.contains_nil Bool.or_false Bool.false_or beq_self_eq_true Nat.reduceBEq ne_eq not_true_eq_false not_false_eq_true Id.mk.injEq false_and and_false Nat.reduceLT Int.reduceLE Int.reduceLT Int.reduceToNat Int.reduceNeg Int.reduceAdd Nat.le_refl List.length_append beq_true beq_false Bool.not_eq_eq_eq_not or_false false_or dW ad ae aL aI bf bR az bc aA aJ cj bh
def ek (s:ax) (es:List aa) (i:Nat):List aa:=(es.take i).foldl (fun n x=>l6 n x) s.dI.ah
noncomputable def OC (s:ax) (es:List aa) (i:Nat):Bool:=ef s.ar (cP es i).cL&&eI s (ek s es i) (cP es i).cG (cP es i).cL
noncomputable def iW (s:ax) (es:List aa) (i:Nat):Bool:=OC s es i&&decide ((ek s es i).length<500)
theorem Hx (s:ax) (es:List aa):ek s es 0=s.dI.ah:=rfl
theorem ke (s:ax) (es:List aa) {i:Nat} (hi:i<es.length):ek s es (i+1)=l6 (ek s es i) (cP es i):=by
 unfold ek
 rw[rN hi,List.foldl_append];rfl
theorem E5 {s:ax} {l:List aa} (hA:ju s.ar l) {x:aa} (hlen:l.length<500) (ht:ef s.ar x.cL=true) (hf:eI s l x.cG x.cL=true) (hs:s.ar.ah.length<=160):ju s.ar (l6 l x):=by
 have iO:je x.cL 0 159=true:=ly (by have h:=ht;unfold ef at h;have:=eH h;omega)
 have hp:za x.cG=true:=by simp[eI]at hf;exact hf.1.1
 have h0:eF l x.cG<0:=(De hA x.cG).1 (by simp[eI]at hf;exact hf.1.2)
 have hR:=KF hA.1.OG h0
 refine⟨⟨by rw[wR];omega,fun i vU=>?_⟩,fun t Vq=>?_⟩
 ·rcases lW.1 (gP vU)with h|h
  ·rw[LR,h]
   exact⟨hp,iO,fun h1=>by have z:=hR (i-1) i ab vU;rw[h]at z;exact z⟩
  ·obtain⟨j,hj,iZ⟩:=List.getElem_of_mem h
   have h1:=hA.1.ok j hj
   rw[LR,fj hj,iZ]at h1
   exact⟨h1.1,h1.2.1,fun h0=>hR _ _ ab vU⟩
 ·rcases lW.1 Vq with rfl|h
  ·exact ht
  ·exact hA.2 t h
theorem jS {s:ax} (hP:kU s) {es:List aa}:∀i,i<=es.length->(∀j,j<i->iW s es j=true)->ju s.ar (ek s es i)
 |0,_,_=>hP.nI
 |i+1,hi,h=>by
  have ih:=jS hP (es:=es) i ab fun j hj=>h j ab
  have hg:=h i ab
  rw[iW,Bool.and_eq_true,OC,Bool.and_eq_true]at hg
  rw[ke s es ab]
  exact E5 ih (of_decide_eq_true hg.2) hg.1.1 hg.1.2 hP.set.rO
end Go.Proofs.YtakkdjfmiffbfaaGreatDoor.V

namespace Go.Proofs.YtakkdjfmiffbfaaGreatDoor.V
open Go.RowKit
attribute [local irreducible] dL wpOps ez Call
attribute [local go_sem] ay ew dZ eE eC cY upd bJ K.av bZ AV.cells AV.cell rowOf rowsOf part ld rowAt eO bH bI cX dj eQ bq cF dx eA ed cQ dq cD cC dc de bu aE cm bt cr cq dn dr dp ck bz cE dm br aw cw bQ eP aZ bW bx aD cR aQ cZ AV.undef bd bj dh di c6 da bV dw dz bP du dt cu cz List.getD_cons_zero List.getD_cons_succ List.getD_nil List.all_cons List.all_nil Bool.and_true Bool.true_and Bool.and_self Bool.not_true Bool.not_false Option.map_some Option.map_none Option.bind_some Option.bind_none List.length_cons List.length_nil List.take_succ_cons List.take_zero List.take_nil List.drop_succ_cons List.drop_zero List.drop_nil List.head?_cons List.map_cons List.map_nil List.getElem?_cons_zero List.getElem?_cons_succ List.cons_append List.nil_append List.append_nil List.length_map List.set_cons_zero List.set_cons_succ eq_self Int.toNat_natCast Int.natCast_nonneg and_self true_and and_true decide_true decide_false Bool.false_eq_true Nat.zero_add Nat.add_zero List.contains_cons List.contains_nil Bool.or_false Bool.false_or beq_self_eq_true ne_eq not_true_eq_false not_false_eq_true Id.mk.injEq false_and and_false Nat.le_refl List.length_append beq_true beq_false Bool.not_eq_eq_eq_not or_false false_or dW ad ae aL aI bf bR az bc aA aJ cj bh
theorem uk (g:Rows) (s:ax):fz g 6 (.agg (ej s))=some (.agg (ej s)):=by simp[ej,bc,ad,ae,bR,aL]
theorem qm {g:Rows} {v w v' w':AV} (h1:fz g 6 v=some v') (h2:fz g 6 w=some w'):er g 6 [v,w]=some [v',w']:=by
 simp only[ad,ae,h1,h2,Option.map_some]
end Go.Proofs.YtakkdjfmiffbfaaGreatDoor.V

namespace Go.Proofs.YtakkdjfmiffbfaaGreatDoor.V
open Go.RowKit
attribute [local irreducible] dL wpOps ez Call
attribute [local go_sem] ay ew dZ eE eC cY upd bJ K.av bZ AV.cells AV.cell rowOf rowsOf part ld rowAt eO bH bI cX dj eQ bq cF dx eA ed cQ dq cD cC dc de bu aE cm bt cr cq dn dr dp ck bz cE dm br aw cw bQ eP aZ bW bx aD cR aQ cZ AV.undef bd bj dh di c6 da bV dw dz bP du dt cu cz List.getD_cons_zero List.getD_cons_succ List.getD_nil List.all_cons List.all_nil Bool.and_true Bool.true_and Bool.and_self Bool.not_true Bool.not_false Option.map_some Option.map_none Option.bind_some Option.bind_none List.length_cons List.length_nil List.take_succ_cons List.take_zero List.take_nil List.drop_succ_cons List.drop_zero List.drop_nil List.head?_cons List.map_cons List.map_nil List.getElem?_cons_zero List.getElem?_cons_succ List.cons_append List.nil_append List.append_nil List.length_map List.set_cons_zero List.set_cons_succ Nat.reduceMul eq_self Int.toNat_natCast Int.natCast_nonneg and_self true_and and_true decide_true decide_false Bool.false_eq_true Nat.zero_add Nat.add_zero List.contains_cons List.contains_nil Bool.or_false Bool.false_or beq_self_eq_true Nat.reduceBEq ne_eq not_true_eq_false not_false_eq_true Id.mk.injEq false_and and_false Nat.reduceLT Int.reduceLE Int.reduceLT Int.reduceToNat Int.reduceNeg Int.reduceAdd Nat.le_refl List.length_append beq_true beq_false Bool.not_eq_eq_eq_not or_false false_or dW ad ae aL aI bf bR az bc aA aJ cj bh
end Go.Proofs.YtakkdjfmiffbfaaGreatDoor.V

namespace Go.Proofs.YtakkdjfmiffbfaaGreatDoor.V
open Go.RowKit
theorem QF {a:List aa} (h:nq a) {i:Nat} (hi:i<a.length):eF a a[i].cG=i:=by
 have h0:0<=eF a a[i].cG:=by
  rcases Int.lt_or_le (eF a a[i].cG) 0 with h0|h0
  ·exact absurd rfl (wc.1 h0 a[i] (List.getElem_mem hi))
  ·exact h0
 obtain⟨h1,h2⟩:=jL h0
 have h3:(eF a a[i].cG).toNat=i:=by
  rcases Nat.lt_trichotomy (eF a a[i].cG).toNat i with h4|h4|h4
  ·have:=h _ _ h4 hi
   rw[h2,fj hi,gq]at this;cases this
  ·exact h4
  ·have:=h _ _ h4 h1
   rw[h2,fj hi,gq]at this;cases this
 omega
theorem at_mem {l:List aa} (hR:nq l) {x:aa} (hx:x∈l):gJ l x.cG=x.cL:=by
 obtain⟨j,hj,rfl⟩:=List.getElem_of_mem hx
 have:=QF hR hj
 unfold gJ
 rw[this,if_pos ab,Int.toNat_natCast,fj hj]
theorem wi {l:List aa} {p:af} (h:0<=gJ l p):∃x∈l,x.cG=p/\x.cL=gJ l p:=by
 unfold gJ at h ⊢
 split at h
 ·rename_i h0
  obtain⟨h1,h2⟩:=jL h0
  exact⟨_,gP h1,h2,by rw[if_pos h0]⟩
 ·omega
theorem KQ {l l':List aa} (h:nq l) (h':nq l') (hm:∀x,x∈l↔x∈l'):l=l':=by
 rw[ma]at h h'
 induction l generalizing l' with
 |nil=>
  cases l' with
  |nil=>rfl
  |cons y r=>exact absurd ((hm y).2 (by simp)) (by simp)
 |cons x l ih=>
  cases l' with
  |nil=>exact absurd ((hm x).1 (by simp)) (by simp)
  |cons y r=>
   have h1:=List.pairwise_cons.1 h
   have h2:=List.pairwise_cons.1 h'
   have QD:x=y:=by
    rcases List.mem_cons.1 ((hm x).1 (by simp))with e|e
    ·exact e
    ·rcases List.mem_cons.1 ((hm y).2 (by simp))with e2|e2
     ·exact e2.symm
     ·have a1:=h1.1 y e2
      have a2:=h2.1 x e
      have:=iu a1 a2
      rw[gq]at this;cases this
   subst QD
   rw[ih h1.2 h2.2 fun z=>?_]
   constructor
   ·intro hz
    rcases List.mem_cons.1 ((hm z).1 (by simp[hz]))with e|e
    ·subst e;have:=h1.1 z hz;rw[gq]at this;cases this
    ·exact e
   ·intro hz
    rcases List.mem_cons.1 ((hm z).2 (by simp[hz]))with e|e
    ·subst e;have:=h2.1 z hz;rw[gq]at this;cases this
    ·exact e
theorem Cf {x:aa}:∀(es l:List aa),x∈es.foldl (fun n x=>l6 n x) l↔x∈l∨x∈es
 |[],l=>by simp
 |e::es,l=>by
  rw[List.foldl_cons,Cf es,lW,List.mem_cons]
  constructor
  ·rintro((h|h)|h)<;>simp[h]
  ·rintro(h|h|h)<;>simp[h]
theorem Kh {s:ax} {es:List aa} {i:Nat} {x:aa}:x∈ek s es i↔x∈s.dI.ah∨x∈es.take i:=Cf _ _
end Go.Proofs.YtakkdjfmiffbfaaGreatDoor.V

namespace Go.Proofs.YtakkdjfmiffbfaaGreatDoor.V
open Go.RowKit
attribute [local irreducible] dL wpOps ez Call
attribute [local go_sem] ay ew dZ eE eC cY upd bJ K.av bZ AV.cells AV.cell rowOf rowsOf part ld rowAt eO bH bI cX dj eQ bq cF dx eA ed cQ dq cD cC dc de bu aE cm bt cr cq dn dr dp ck bz cE dm br aw cw bQ eP aZ bW bx aD cR aQ cZ AV.undef bd bj dh di c6 da bV dw dz bP du dt cu cz List.getD_cons_zero List.getD_cons_succ List.getD_nil List.all_cons List.all_nil Bool.and_true Bool.true_and Bool.and_self Bool.not_true Bool.not_false Option.map_some Option.map_none Option.bind_some Option.bind_none List.length_cons List.length_nil List.take_succ_cons List.take_zero List.take_nil List.drop_succ_cons List.drop_zero List.drop_nil List.head?_cons List.map_cons List.map_nil List.getElem?_cons_zero List.getElem?_cons_succ List.cons_append List.nil_append List.append_nil List.length_map List.set_cons_zero List.set_cons_succ Nat.reduceMul eq_self Int.toNat_natCast Int.natCast_nonneg and_self true_and and_true decide_true decide_false Bool.false_eq_true Nat.zero_add Nat.add_zero List.contains_cons List.contains_nil Bool.or_false Bool.false_or beq_self_eq_true Nat.reduceBEq ne_eq not_true_eq_false not_false_eq_true Id.mk.injEq false_and and_false Nat.reduceLT Int.reduceLE Int.reduceLT Int.reduceToNat Int.reduceNeg Int.reduceAdd Nat.le_refl List.length_append beq_true beq_false Bool.not_eq_eq_eq_not or_false false_or dW ad ae aL aI bf bR az bc aA aJ cj bh
def Dh (B:af->Int->Bool) (p:af):Nat->List aa
 |0=>[]
 |t+1=>if B p (t:Nat)=true then Dh B p t++[⟨p,(t:Nat)⟩]else Dh B p t
def AM (B:af->Int->Bool) (m:Nat) (ps:List af):List aa:=ps.flatMap fun p=>Dh B p m
theorem Fa (B:af->Int->Bool) (p:af):∀t,(Dh B p t).length<=t
 |0=>by simp[Dh]
 |t+1=>by
  have:=Fa B p t
  rw[Dh]
  split
  ·rw[List.length_append,List.length_singleton];omega
  ·omega
theorem zE (B:af->Int->Bool) (m:Nat):∀ps:List af,(AM B m ps).length<=ps.length*m
 |[]=>by simp[AM]
 |p::ps=>by
  have h:=zE B m ps
  have h2:=Fa B p m
  unfold AM at *
  rw[List.flatMap_cons,List.length_append,List.length_cons,Nat.add_mul,Nat.one_mul]
  omega
theorem IL {B:af->Int->Bool} {m:Nat} {ps:List af} {k:Nat} (hk:k<ps.length):AM B m (ps.take (k+1))=AM B m (ps.take k)++Dh B (nQ ps k) m:=by
 unfold AM
 rw[List.take_succ_eq_append_getElem hk,List.flatMap_append,j4 hk]
 simp
end Go.Proofs.YtakkdjfmiffbfaaGreatDoor.V

namespace Go.Proofs.YtakkdjfmiffbfaaGreatDoor.V
open Go.RowKit
def oj (B:af->Int->Bool) (p:af):Nat->List Int
 |0=>[]
 |t+1=>if B p (t:Nat)=true then oj B p t++[(t:Int)]else oj B p t
theorem zV (B:af->Int->Bool) (p:af):∀t,(oj B p t).length<=t
 |0=>by simp[oj]
 |t+1=>by
  have:=zV B p t
  rw[oj]
  split
  ·rw[List.length_append,List.length_singleton];omega
  ·omega
theorem Di (B:af->Int->Bool) (p:af):∀t,Dh B p t=(oj B p t).map fun k=>(⟨p,k⟩:aa)
 |0=>rfl
 |t+1=>by
  rw[Dh,oj,Di B p t]
  split<;>simp
theorem zW {B:af->Int->Bool} {p:af} (h:∀t:Nat,B p t=false):∀t,oj B p t=[]
 |0=>rfl
 |t+1=>by rw[oj,if_neg (by rw[h t];simp),zW h t]
theorem BE {B:af->Int->Bool} {p:af}:∀{t:Nat},oj B p t≠[]->∃k:Nat,k<t/\B p k=true
 |0,h=>absurd rfl h
 |t+1,h=>by
  rw[oj]at h
  split at h
  ·rename_i hb;exact⟨t,Nat.lt_succ_self t,hb⟩
  ·obtain⟨k,hk,hb⟩:=BE h
   exact⟨k,Nat.lt_succ_of_lt hk,hb⟩
theorem si {B C:af->Int->Bool} {p:af} (h:∀t:Nat,B p t=C p t):∀t,oj B p t=oj C p t
 |0=>rfl
 |t+1=>by rw[oj,oj,h t,si h t]
abbrev En:=af×AV
def nz (e:En):List AV:=[.int .i64 e.1.fu,.int .i64 e.1.eZ,e.2]
def mL:List En->af->AV->List En
 |[],q,v=>[(q,v)]
 |e::es,q,v=>if e.1=q then(q,v)::es else e::mL es q v
def nw:List En->af->List En
 |[],_=>[]
 |e::es,q=>if e.1=q then es else e::nw es q
theorem wD {q:af} {v:AV} {x:En}:∀{es:List En},x.1≠q->(x∈mL es q v↔x∈es)
 |[],h=>by
  rw[mL,List.mem_singleton]
  exact⟨fun e=>absurd (by rw[e]) h,fun e=>by cases e⟩
 |e::es,h=>by
  have ih:=@wD q v x es h
  rw[mL]
  split
  ·rename_i he
   rw[List.mem_cons,List.mem_cons]
   exact⟨fun h1=>h1.elim (fun e=>absurd (by rw[e]) h) .inr,fun h1=>h1.elim (fun e'=>absurd (by rw[e'];exact he) h) .inr⟩
  ·rw[List.mem_cons,List.mem_cons,ih]
theorem zf (q:af) (v:AV):∀es:List En,(q,v)∈mL es q v
 |[]=>by simp[mL]
 |e::es=>by
  have ih:=zf q v es
  rw[mL]
  split
  ·simp
  ·exact List.mem_cons_of_mem _ ih
theorem Cc {q:af} {v:AV} {p:af}:∀{es:List En},p∈(mL es q v).map (·.1)->p=q∨p∈es.map (·.1)
 |[],h=>by simp[mL]at h;exact .inl h
 |e::es,h=>by
  rw[mL]at h
  split at h
  ·simp only[List.map_cons,List.mem_cons]at h ⊢
   exact h.imp_right .inr
  ·simp only[List.map_cons,List.mem_cons]at h ⊢
   rcases h with h|h
   ·exact .inr (.inl h)
   ·exact(Cc h).imp_right .inr
theorem wS (q:af) (v:AV):∀{es:List En},(es.map (·.1)).Nodup->((mL es q v).map (·.1)).Nodup
 |[],_=>by simp[mL]
 |e::es,h=>by
  obtain⟨h1,h2⟩:=List.nodup_cons.1 (show(e.1::es.map (·.1)).Nodup from h)
  rw[mL]
  split
  ·rename_i he
   refine List.nodup_cons.2 ⟨?_,h2⟩
   show q∉_
   rw[<-he];exact h1
  ·rename_i he
   refine List.nodup_cons.2 ⟨fun hc=>?_,wS q v h2⟩
   rcases Cc hc with h3|h3
   ·exact he h3
   ·exact h1 h3
theorem wj {q:af} {x:En}:∀{es:List En},x.1≠q->(x∈nw es q↔x∈es)
 |[],_=>Iff.rfl
 |e::es,h=>by
  have ih:=@wj q x es h
  rw[nw]
  split
  ·rename_i he
   rw[List.mem_cons]
   exact⟨.inr,fun h1=>h1.elim (fun e'=>absurd (by rw[e'];exact he) h) id⟩
  ·rw[List.mem_cons,List.mem_cons,ih]
theorem qI {q:af}:∀{es:List En},(nw es q).Sublist es
 |[]=>List.Sublist.slnil
 |e::es=>by
  rw[nw]
  split
  ·exact List.sublist_cons_self _ _
  ·exact(qI (es:=es)).cons_cons _
theorem vk (q:af) {es:List En} (h:(es.map (·.1)).Nodup):((nw es q).map (·.1)).Nodup:=((qI (q:=q) (es:=es)).map _).nodup h
theorem zP {q:af}:∀{es:List En},(es.map (·.1)).Nodup->∀e∈nw es q,e.1≠q
 |[],_,e,h=>by cases h
 |x::es,hn,e,h=>by
  obtain⟨h1,h2⟩:=List.nodup_cons.1 (show(x.1::es.map (·.1)).Nodup from hn)
  rw[nw]at h
  split at h
  ·rename_i hx
   intro he
   exact h1 (by rw[hx,<-he];exact List.mem_map_of_mem h)
  ·rename_i hx
   rcases List.mem_cons.1 h with rfl|h
   ·exact hx
   ·exact zP h2 e h
theorem M3 {es:List En} (hn:(es.map (·.1)).Nodup) {q:af} {u v:AV} (h1:(q,u)∈es) (h2:(q,v)∈es):u=v:=by
 induction es with
 |nil=>cases h1
 |cons e es ih=>
  obtain⟨n1,n2⟩:=List.nodup_cons.1 (show(e.1::es.map (·.1)).Nodup from hn)
  rcases List.mem_cons.1 h1 with a|a<;>rcases List.mem_cons.1 h2 with b|b
  ·rw[<-a]at b;injection b with _ b;exact b.symm
  ·exact absurd (by rw[<-a];exact List.mem_map_of_mem (f:=(·.1)) b) n1
  ·exact absurd (by rw[<-b];exact List.mem_map_of_mem (f:=(·.1)) a) n1
  ·exact ih n2 a b
structure uM (g:Rows) (n:Nat) (es:List En) (fs:af->List Int) (A:af->Prop):Prop where
 nodup:(es.map (·.1)).Nodup
 at_:∀q,A q->(fs q=[]/\∀e∈es,e.1≠q)∨(fs q≠[]/\∃o:Id,(q,AV.own o 0 (fs q).length)∈es/\o.cW<n/\g o=some ⟨true,1,(fs q).map bE⟩)
theorem uM.mono {g:Rows} {n:Nat} {es:List En} {fs:af->List Int} {A A':af->Prop} (h:uM g n es fs A) (hA:∀q,A' q->A q):uM g n es fs A':=⟨h.nodup,fun q hq=>h.at_ q (hA q hq)⟩
theorem uM.frame {g g':Rows} {n n':Nat} {es:List En} {fs:af->List Int} {A:af->Prop} (h:uM g n es fs A) (hn:n<=n') (hf:∀x:Id,x.cW<n->(∃k r,g x=some ⟨k,1,r⟩)->g' x=g x):uM g' n' es fs A:=⟨h.nodup,fun q hq=>by
 rcases h.at_ q hq with h1|⟨h1,o,h2,h3,h4⟩
 ·exact .inl h1
 ·exact .inr ⟨h1,o,h2,ab,(hf o h3 ⟨_,_,h4⟩).trans h4⟩⟩
theorem uM.put {g:Rows} {n:Nat} {es:List En} {fs:af->List Int} {A:af->Prop} (h:uM g n es fs A) {q:af} {o:Id} (h0:fs q≠[]) (ho:o.cW<n) (hg:g o=some ⟨true,1,(fs q).map bE⟩):uM g n (mL es q (.own o 0 (fs q).length)) fs (fun p=>A p∨p=q):=⟨wS _ _ h.nodup,fun p hp=>by
 by_cases e:p=q
 ·subst e
  exact .inr ⟨h0,o,zf _ _ _,ho,hg⟩
 ·rcases hp with hp|hp
  ·rcases h.at_ p hp with⟨h1,h2⟩|⟨h1,o',h2,h3⟩
   ·refine .inl ⟨h1,fun x hx Vy=>?_⟩
    have hxq:x.1≠q:=fun e'=>e (Vy.symm.trans e')
    exact h2 x ((wD hxq).1 hx) Vy
   ·exact .inr ⟨h1,o',(wD e).2 h2,h3⟩
  ·exact absurd hp e⟩
theorem uM.cut {g:Rows} {n:Nat} {es:List En} {fs:af->List Int} {A:af->Prop} (h:uM g n es fs A) {q:af} (h0:fs q=[]):uM g n (nw es q) fs (fun p=>A p∨p=q):=⟨vk _ h.nodup,fun p hp=>by
 by_cases e:p=q
 ·subst e
  exact .inl ⟨h0,zP h.nodup⟩
 ·rcases hp with hp|hp
  ·rcases h.at_ p hp with⟨h1,h2⟩|⟨h1,o',h2,h3⟩
   ·exact .inl ⟨h1,fun x hx=>h2 x (qI.subset hx)⟩
   ·exact .inr ⟨h1,o',(wj e).2 h2,h3⟩
  ·exact absurd hp e⟩
theorem Ch (p:af):∀(es:List En) (i:Nat),∃fi,fB ⟨true,[.tI,.tI]⟩ (aj p) (es.map nz) i=some fi/\
  (∀v,(match fi with|some j=>(es.map nz).set (j-i) [.int .i64 p.fu,.int .i64 p.eZ,v]|none=>es.map nz++[[.int .i64 p.fu,.int .i64 p.eZ,v]])=(mL es p v).map nz)/\
  ((match fi with|some j=>(es.map nz).eraseIdx (j-i)|none=>es.map nz)=(nw es p).map nz)/\
  (∀j,fi=some j->i<=j/\j-i<es.length/\∃v,es[j-i]? =some (p,v))/\(fi=none->∀e∈es,e.1≠p)
 |[],i=>⟨none,by simp[fB],fun v=>rfl,rfl,fun _ h=>(by cases h),fun _ _ he=>(by cases he)⟩
 |e::es,i=>by
  have hq:ed [TS.tI,TS.tI] (aj p) ((nz e).take 2)=some (decide (p=e.1)):=by
   have h:(p=e.1)↔(p.fu=e.1.fu/\p.eZ=e.1.eZ):=⟨fun h=>by rw[h];exact⟨rfl,rfl⟩,fun h=>Es h.1 h.2⟩
   simp[aj,nz,ed,eA,h]
  by_cases h:p=e.1
  ·refine⟨some i,?_,fun v=>?_,?_,fun j hj=>?_,fun hc=>by cases hc⟩
   ·rw[List.map_cons]
    unfold fB
    rw[show(⟨true,[.tI,.tI]⟩:MK).ts=[.tI,.tI]from rfl,show(⟨true,[.tI,.tI]⟩:MK).ks=2 from rfl,hq,decide_eq_true h]
   ·simp[mL,h,nz]
   ·simp[nw,h]
   ·cases hj
    exact⟨Nat.le_refl _,by simp,e.2,by simp[h]⟩
  ·obtain⟨fi,h1,h2,h3,h4,h5⟩:=Ch p es (i+1)
   have he:¬e.1=p:=fun hc=>h hc.symm
   refine⟨fi,?_,fun v=>?_,?_,fun j hj=>?_,fun hc x hx=>?_⟩
   ·rw[List.map_cons]
    unfold fB
    rw[show(⟨true,[.tI,.tI]⟩:MK).ts=[.tI,.tI]from rfl,show(⟨true,[.tI,.tI]⟩:MK).ks=2 from rfl,hq,decide_eq_false h]
    exact h1
   ·have US:=h2 v
    rw[mL,if_neg he]
    cases fi with
    |none=>
     simp only[List.map_cons,List.cons_append]at US ⊢
     rw[US]
    |some j=>
     obtain⟨h6,_⟩:=h4 j rfl
     obtain⟨k,hk⟩:∃k,j=i+1+k:=⟨j-(i+1),ab⟩
     subst hk
     simp only[show i+1+k-i=k+1 by omega,show i+1+k-(i+1)=k by omega,List.map_cons,List.set_cons_succ]at US ⊢
     rw[US]
   ·rw[nw,if_neg he]
    cases fi with
    |none=>
     simp only[List.map_cons]at h3 ⊢
     rw[h3]
    |some j=>
     obtain⟨h6,_⟩:=h4 j rfl
     obtain⟨k,hk⟩:∃k,j=i+1+k:=⟨j-(i+1),ab⟩
     subst hk
     simp only[show i+1+k-i=k+1 by omega,show i+1+k-(i+1)=k by omega,List.map_cons,List.eraseIdx_cons_succ]at h3 ⊢
     rw[h3]
   ·obtain⟨h6,h7,v,h8⟩:=h4 j hj
    refine⟨ab,by simp only[List.length_cons];omega,v,?_⟩
    rw[show j-i=(j-(i+1))+1 by omega,List.getElem?_cons_succ];exact h8
   ·rcases List.mem_cons.1 hx with rfl|hx
    ·exact he
    ·exact h5 hc x hx
theorem sF (p:af) (es:List En):∃fi,fb ⟨true,[.tI,.tI]⟩ (.agg [.int .i64 p.fu,.int .i64 p.eZ]) (es.map nz)=some fi/\(∀v,c6 (es.map nz) [.int .i64 p.fu,.int .i64 p.eZ,v] fi=(mL es p v).map nz)/\da (es.map nz) fi=(nw es p).map nz/\
  (∀j,fi=some j->∃v,es[j]? =some (p,v))/\(fi=none->∀e∈es,e.1≠p):=by
 obtain⟨fi,h1,h2,h3,h4,h5⟩:=Ch p es 0
 refine⟨fi,?_,fun v=>?_,?_,fun j hj=>?_,h5⟩
 ·unfold fb
  rw[if_pos ⟨rfl,rfl,rfl⟩]
  exact h1
 ·rw[<-h2 v];cases fi<;>rfl
 ·rw[<-h3];cases fi<;>rfl
 ·obtain⟨_,_,v,h6⟩:=h4 j hj
  exact⟨v,by simpa using h6⟩
theorem sQ (p:af) (k:Nat) (hk:k<4):cN (cN p k) (jR k)=p:=by
 have:k=0∨k=1∨k=2∨k=3:=ab
 rcases this with rfl|rfl|rfl|rfl<;>(cases p;simp[cN,jR,je];try omega)
theorem bind_some {s:aH} {F:af->Int} {p:af} {t:Int}:∀d:Nat,0<eD s F p t d->∃k:Nat,k<d/\0<=F (cN p k)
 |0,h=>by simp[eD]at h
 |d+1,h=>by
  by_cases h0:0<=F (cN p d)
  ·exact⟨d,Nat.lt_succ_self d,h0⟩
  ·rw[eD,if_neg h0,Int.add_zero]at h
   obtain⟨k,hk,h1⟩:=bind_some d h
   exact⟨k,Nat.lt_succ_of_lt hk,h1⟩
theorem BA {s:ax} (hT:1<=s.bD) {l:List aa} (hA:ju s.ar l) {p:af} {t:Int} (h:eI s l p t=true):Iy l p:=by
 simp[eI]at h
 obtain⟨⟨h1,h2⟩,h3⟩:=h
 obtain⟨k,hk,h4⟩:=bind_some (s:=s.ar) (F:=gJ l) (p:=p) (t:=t) 4 (by have:mW s.ar (gJ l) p t=eD s.ar (gJ l) p t 4:=rfl;omega)
 have h5:0<=eF l (cN p k):=by
  unfold gJ at h4
  split at h4
  ·assumption
  ·omega
 obtain⟨h6,h7⟩:=jL h5
 refine⟨h1,(De hA p).1 h2,(eF l (cN p k)).toNat,(jR k).toNat,h6,?_,?_⟩
 ·have:k=0∨k=1∨k=2∨k=3:=ab
  rcases this with rfl|rfl|rfl|rfl<;>decide
 ·rw[h7]
  have:((jR k).toNat:Int)=jR k:=by
   have:k=0∨k=1∨k=2∨k=3:=ab
   rcases this with rfl|rfl|rfl|rfl<;>decide
  rw[this,sQ p k hk]
noncomputable def lv (s:ax) (l:List aa):List af:=(lY l).filter fun p=>decide (oj (eI s l) p s.ar.ah.length≠[])
theorem wq {s:ax} (hT:1<=s.bD) {l:List aa} (hA:ju s.ar l) (p:af):p∈lv s l↔oj (eI s l) p s.ar.ah.length≠[]:=by
 unfold lv
 rw[List.mem_filter,yX,decide_eq_true_eq]
 refine⟨fun h=>h.2,fun h=>⟨?_,h⟩⟩
 obtain⟨k,_,hk⟩:=BE h
 exact BA hT hA hk
theorem Dx (s:ax) (l:List aa):nr (lv s l):=List.Pairwise.sublist List.filter_sublist (wI l _)
theorem Dj (s:ax) (l:List aa):AM (eI s l) s.ar.ah.length (lY l)=AM (eI s l) s.ar.ah.length (lv s l):=by
 unfold lv
 generalize lY l=ps
 induction ps with
 |nil=>rfl
 |cons p ps ih=>
  unfold AM at *
  rw[List.flatMap_cons,List.filter_cons,ih]
  split
  ·rw[List.flatMap_cons]
  ·rename_i h
   simp only[decide_eq_true_eq,ne_eq,Classical.not_not]at h
   rw[Di,h];rfl
end Go.Proofs.YtakkdjfmiffbfaaGreatDoor.V

namespace Go.Proofs.YtakkdjfmiffbfaaGreatDoor.V
open Go.RowKit
attribute [local irreducible] dL wpOps ez Call
attribute [local go_sem] ay ew dZ eE eC cY upd bJ K.av bZ AV.cells AV.cell rowOf rowsOf part ld rowAt eO bH bI cX dj eQ bq cF dx eA ed cQ dq cD cC dc de bu aE cm bt cr cq dn dr dp ck bz cE dm br aw cw bQ eP aZ bW bx aD cR aQ cZ AV.undef bd bj dh di c6 da bV dw dz bP du dt cu cz List.getD_cons_zero List.getD_cons_succ List.getD_nil List.all_cons List.all_nil Bool.and_true Bool.true_and Bool.and_self Bool.not_true Bool.not_false Option.map_some Option.map_none Option.bind_some Option.bind_none List.length_cons List.length_nil List.take_succ_cons List.take_zero List.take_nil List.drop_succ_cons List.drop_zero List.drop_nil List.head?_cons List.map_cons List.map_nil List.getElem?_cons_zero List.getElem?_cons_succ List.cons_append List.nil_append List.append_nil List.length_map List.set_cons_zero List.set_cons_succ Nat.reduceMul eq_self Int.toNat_natCast Int.natCast_nonneg and_self true_and and_true decide_true decide_false Bool.false_eq_true Nat.zero_add Nat.add_zero List.contains_cons List.contains_nil Bool.or_false Bool.false_or beq_self_eq_true Nat.reduceBEq ne_eq not_true_eq_false not_false_eq_true Id.mk.injEq false_and and_false Nat.reduceLT Int.reduceLE Int.reduceLT Int.reduceToNat Int.reduceNeg Int.reduceAdd Nat.le_refl List.length_append beq_true beq_false Bool.not_eq_eq_eq_not or_false false_or dW ad ae aL aI bf bR az bc aA aJ cj bh
noncomputable def gL (s:ax) (ts:List aa) (q:af):List Int:=oj (eI s ts) q s.ar.ah.length
def iz (σ:aq) (O:Id) (s:ax) (ts:List aa) (A:af->Prop) (g:Rows) (n:Nat):Prop:=σ.next<=n/\(∀x:Id,x.cW<σ.next->x≠O->g x=σ.get x)/\∃es:List En,g O=some ⟨true,mP.j5,es.map nz⟩/\uM g n es (gL s ts) A
theorem iz.Se {σ:aq} {g:Rows} {n:Nat} {c T O:Id} {s s':ax} {ts LL:List aa} {A:af->Prop} (h:CW σ.get σ.next c T O s ts) (hc:c≠O) (hT:T≠O) (k:iz σ O s' LL A g n):CW g n c T O s ts:=
 h.frame k.1 (k.2.1 _ h.cv hc) (k.2.1 _ h.tv hT)
theorem iz.frame {a:aq} {O:Id} {s:ax} {ts:List aa} {A:af->Prop} {g g':Rows} {n n' m:Nat} (h:iz a O s ts A g n) (ha:n<=m) (ho:O.cW<m) (hn:n<=n') (hf:∀x:Id,x.cW<m->g' x=g x):iz a O s ts A g' n':=by
 refine⟨Nat.le_trans h.1 hn,fun x hx hO=>(hf x (Nat.lt_of_lt_of_le hx (Nat.le_trans h.1 ha))).trans (h.2.1 x hx hO),?_⟩
 obtain⟨es,h1,h2⟩:=h.2.2
 exact⟨es,(hf O ho).trans h1,h2.frame hn fun x hx _=>hf x (Nat.lt_of_lt_of_le hx ha)⟩
theorem w5:¬mP.j5=1:=by decide
theorem iz.put {a:aq} {O:Id} {s:ax} {ts:List aa} {A A':af->Prop} {g g':Rows} {n n':Nat} {es:List En} (h:iz a O s ts A g n) (hg:g O=some ⟨true,mP.j5,es.map nz⟩) (hw:uM g n es (gL s ts) A) (hn:n<=n') (hf:∀x:Id,x.cW<n->x≠O->g' x=g x) {q:af} {o:Id} (h0:gL s ts q≠[]) (ho:o.cW<n') (AO:g' o=some ⟨true,1,(gL s ts q).map bE⟩) (hO:g' O=some ⟨true,mP.j5,(mL es q (.own o 0 (gL s ts q).length)).map nz⟩) (hA:∀p,A' p->A p∨p=q):iz a O s ts A' g' n':=
 ⟨Nat.le_trans h.1 hn,fun x hx FK=>(hf x (Nat.lt_of_lt_of_le hx h.1) FK).trans (h.2.1 x hx FK),_,hO,((hw.frame hn fun x hx hr=>hf x hx (by
  rintro rfl
  obtain⟨k,r,hr⟩:=hr
  rw[hg]at hr
  injection hr with hr
  injection hr with _ hr _
  exact w5 hr)).put h0 ho AO).mono hA⟩
theorem iz.cut {a:aq} {O:Id} {s:ax} {ts:List aa} {A A':af->Prop} {g g':Rows} {n n':Nat} {es:List En} (h:iz a O s ts A g n) (hg:g O=some ⟨true,mP.j5,es.map nz⟩) (hw:uM g n es (gL s ts) A) (hn:n<=n') (hf:∀x:Id,x.cW<n->x≠O->g' x=g x) {q:af} (h0:gL s ts q=[]) (hO:g' O=some ⟨true,mP.j5,(nw es q).map nz⟩) (hA:∀p,A' p->A p∨p=q):iz a O s ts A' g' n':=
 ⟨Nat.le_trans h.1 hn,fun x hx FK=>(hf x (Nat.lt_of_lt_of_le hx h.1) FK).trans (h.2.1 x hx FK),_,hO,((hw.frame hn fun x hx hr=>hf x hx (by
  rintro rfl
  obtain⟨k,r,hr⟩:=hr
  rw[hg]at hr
  injection hr with hr
  injection hr with _ hr _
  exact w5 hr)).cut h0).mono hA⟩
theorem iz.ow {a:aq} {O:Id} {s:ax} {ts:List aa} {A:af->Prop} {g:Rows} {n:Nat} (h:iz a O s ts A g n):NY a O g n:=by
 obtain⟨h1,h2,es,h3,_⟩:=h
 refine⟨h1,h2,_,h3,fun r hr=>?_⟩
 obtain⟨e,_,rfl⟩:=List.mem_map.1 hr
 exact⟨_,_,_,rfl⟩
theorem re {σ:aq} {c T O:Id} {s:ax} {ts:List aa} (h:CW σ.get σ.next c T O s ts) (hc:c≠O) (hT:T≠O) (A:af->Prop) (hO:∃es:List En,σ.get O=some ⟨true,mP.j5,es.map nz⟩/\uM σ.get σ.next es (gL s ts) A) (hS:gj s.ar) (hF:∀q,0<=gJ ts q->ef s.ar (gJ ts q)=true) (p:af) (hx:iB p.fu) (hy:iB p.eZ):
  Call Tryz.prog 97 [.ptr c 0 0,.agg (aj p)] σ (fun r σ'=>r=.fK []/\iz σ O s ts (fun q=>A q∨∃k:Nat,k<4/\q=cN p k) σ'.get σ'.next):=by
 refine eU fH rfl fun fR=>?_
 clear fR
 have G6:=hS.rO
 have h0:iz σ O s ts (fun q=>A q∨∃k:Nat,k<0/\q=cN p k) σ.get σ.next:=⟨Nat.le_refl _,fun _ _ _=>rfl,by
  obtain⟨es,h1,h2⟩:=hO
  exact⟨es,h1,h2.mono fun q hq=>hq.elim id fun⟨k,hk,_⟩=>absurd hk (Nat.not_lt_zero k)⟩⟩
 (try((repeat(revert hN;revert N;apply Pn.out));refine wk @aj.eq_1 ?_;(repeat(refine Pn.mk ?_;intro N hN))))
 refine cU (fun n env st=>∃k:Nat,n=(4)-k/\k<=(4)/\env 8=.int .i64 (k:Int)/\st.get ⟨97000000,σ.next⟩=some ⟨true,2,[aj p]⟩/\(σ.next<st.next/\iz σ O s ts (fun q=>A q∨∃j:Nat,j<k/\q=cN p j) st.get st.next)) (4) ⟨0,ab,ab,sl @aj.eq_1,sl @aj.eq_1,⟨bL,h0.frame (Nat.le_refl _) h.ov bL (fun x hx=>by
  have:=dE hx
  simp only[go_sem, ↓reduceIte,Nat.reduceEqDiff,Nat.reduceAdd,Nat.reduceSub,Nat.reduceLeDiff,reduceCtorEq,this])⟩⟩ ?_
 rintro n_a env_a st_a ⟨k,rfl,ale,a8,ag0,qn⟩ eL
 have a0:=eL 0 (by kernel_rfl);have a3:=eL 3 (by kernel_rfl)
 simp only[go_sem, ↓reduceIte,Nat.reduceEqDiff,Nat.reduceAdd,Nat.reduceSub,Nat.reduceLeDiff,reduceCtorEq,aj]at a0 a3
 clear eL
 obtain⟨an,ak⟩:=qn
 have ha:=ak.Se h hc hT
 by_cases hk:(k:Int)<4
 ·have eB:∀{e:Env} {gg:Rows} {nx:Nat},(e 8=.int .i64 (IntKind.i64.wrap ((k:Int)+1)))->(gg ⟨97000000,σ.next⟩=some ⟨true,2,[aj p]⟩)->(σ.next<nx/\iz σ O s ts (fun q=>A q∨∃j:Nat,j<(k+1)/\q=cN p j) gg nx)->∃m0,m0<(4)-k/\∃k:Nat,m0=(4)-k/\k<=(4)/\e 8=.int .i64 (k:Int)/\gg ⟨97000000,σ.next⟩=some ⟨true,2,[aj p]⟩/\(σ.next<nx/\iz σ O s ts (fun q=>A q∨∃j:Nat,j<k/\q=cN p j) gg nx):=fun x1 x2 x3=>⟨_,ab,k+1,rfl,ab,(by rw[x1,cI ab]),x2,x3⟩
  have ee:=EK p k (ly ab) hx hy
  obtain⟨b,h1⟩:=ha.row
  have v1:=dE ha.cv
  (repeat(first|((repeat(revert hN;revert N;apply Pn.out));refine wk (tw @a8 (tw @ag0 (tw @a0 (tw @a3 (tw @hk (tw @h1 (tw @v1 @aj.eq_1))))))) ?_;(repeat(refine Pn.mk ?_;intro N hN)))|((try apply Or.inl);refine⟨_,aP.x (ee) (sd (tw @a8 (tw @ag0 (tw @a0 (tw @a3 (tw @hk (tw @h1 (tw @v1 @aj.eq_1)))))))),?_⟩;refine hN _ _ ?_;clear hN N)))
  refine cU (fun n env st=>∃t:Nat,n=(s.ar.ah.length)-t/\t<=(s.ar.ah.length)/\env 21=.int .i64 (t:Int)/\st.get ⟨97000000,σ.next⟩=some ⟨true,2,[aj p]⟩/\st.get ⟨97004003,st_a.next+1+1⟩=some ⟨true,2,[aj (cN p k)]⟩/\(st_a.next+3<=st.next/\iz σ O s ts (fun q=>A q∨∃j:Nat,j<k/\q=cN p j) st.get st_a.next/\((oj (eI s ts) (cN p k) t=[]/\env 6=.bB)∨∃o:Id,env 6=.own o 0 (oj (eI s ts) (cN p k) t).length/\st.get o=some ⟨true,1,(oj (eI s ts) (cN p k) t).map bE⟩/\0<(oj (eI s ts) (cN p k) t).length/\st_a.next+3<=o.cW/\o.cW<st.next))) (s.ar.ah.length) ⟨0,ab,ab,sl (tw @a8 (tw @ag0 (tw @a0 (tw @a3 @aj.eq_1)))),sl (tw @a8 (tw @ag0 (tw @a0 (tw @a3 @aj.eq_1)))),sl (tw @a8 (tw @ag0 (tw @a0 (tw @a3 @aj.eq_1)))),⟨bL,ak.frame (Nat.le_refl _) ha.ov (Nat.le_refl _) (fun x hx=>(by
   have:=dE hx
   simp only[go_sem, ↓reduceIte,Nat.reduceEqDiff,Nat.reduceAdd,Nat.reduceSub,Nat.reduceLeDiff,reduceCtorEq,this])),.inl ⟨rfl,sd @Nat.zero_add⟩⟩⟩ ?_
  rintro n_b env_b st_b ⟨t,rfl,ble,b21,bg0,bg1,bI0⟩ fA
  have b0:=fA 0 (by kernel_rfl);have b3:=fA 3 (by kernel_rfl);have b5:=fA 5 (by kernel_rfl);have b8:=fA 8 (by kernel_rfl);have H6:=fA 20 (by kernel_rfl)
  simp only[go_sem, ↓reduceIte,Nat.reduceEqDiff,Nat.reduceAdd,Nat.reduceSub,Nat.reduceLeDiff,reduceCtorEq,a8,ag0,a0,a3,aj]at b0 b3 b5 b8 H6
  clear fA
  obtain⟨bn,bk,b6⟩:=bI0
  have SK:CW st_b.get st_b.next c T O s ts:=(bk.Se h hc hT).frame ab rfl rfl
  obtain⟨b2,h2⟩:=SK.row
  have v2:=dE SK.cv
  have vt:=dE (i:=⟨97000000,σ.next⟩) (n:=st_b.next) bL
  have vq:=dE (i:=⟨97004003,st_a.next+1+1⟩) (n:=st_b.next) bL
  by_cases ht:(t:Int)<(s.ar.ah.length:Int)
  ·have fP:∀{e:Env} {gg:Rows} {nx:Nat},(e 21=.int .i64 (IntKind.i64.wrap ((t:Int)+1)))->(gg ⟨97000000,σ.next⟩=some ⟨true,2,[aj p]⟩)->(gg ⟨97004003,st_a.next+1+1⟩=some ⟨true,2,[aj (cN p k)]⟩)->(st_a.next+3<=nx/\iz σ O s ts (fun q=>A q∨∃j:Nat,j<k/\q=cN p j) gg st_a.next/\((oj (eI s ts) (cN p k) (t+1)=[]/\e 6=.bB)∨∃o:Id,e 6=.own o 0 (oj (eI s ts) (cN p k) (t+1)).length/\gg o=some ⟨true,1,(oj (eI s ts) (cN p k) (t+1)).map bE⟩/\0<(oj (eI s ts) (cN p k) (t+1)).length/\st_a.next+3<=o.cW/\o.cW<nx))->∃m0,m0<(s.ar.ah.length)-t/\∃t:Nat,m0=(s.ar.ah.length)-t/\t<=(s.ar.ah.length)/\e 21=.int .i64 (t:Int)/\gg ⟨97000000,σ.next⟩=some ⟨true,2,[aj p]⟩/\gg ⟨97004003,st_a.next+1+1⟩=some ⟨true,2,[aj (cN p k)]⟩/\(st_a.next+3<=nx/\iz σ O s ts (fun q=>A q∨∃j:Nat,j<k/\q=cN p j) gg st_a.next/\((oj (eI s ts) (cN p k) t=[]/\e 6=.bB)∨∃o:Id,e 6=.own o 0 (oj (eI s ts) (cN p k) t).length/\gg o=some ⟨true,1,(oj (eI s ts) (cN p k) t).map bE⟩/\0<(oj (eI s ts) (cN p k) t).length/\st_a.next+3<=o.cW/\o.cW<nx)):=fun x1 x2 x3 x4=>⟨_,ab,t+1,rfl,ab,(by rw[x1,cI ab]),x2,x3,x4⟩
   have Ik:t<s.ar.ah.length:=ab
   have JD:=zV (eI s ts) (cN p k) t
   have v7:oj (eI s ts) (cN p k) (t+1)=if eI s ts (cN p k) t=true then oj (eI s ts) (cN p k) t++[(t:Int)]else oj (eI s ts) (cN p k) t:=rfl
   generalize oj (eI s ts) (cN p k) t=L at b6 JD v7
   (try((repeat(revert hN;revert N;apply Pn.out));refine wk (tw @b21 (tw @bg0 (tw @bg1 (tw @b0 (tw @b3 (tw @b5 (tw @b8 (tw @H6 (tw @ht (tw @h2 (tw @v2 (tw @vt (tw @vq @aj.eq_1))))))))))))) ?_;(repeat(refine Pn.mk ?_;intro N hN))))
   refine .inl ⟨_,PE (SK.frame bL (sd @v2) (by(have:=dE SK.tv;simp only[go_sem, ↓reduceIte,Nat.reduceEqDiff,Nat.reduceAdd,Nat.reduceSub,Nat.reduceLeDiff,reduceCtorEq,this]))) hS hF (cN p k) t (Lc Ik),?_⟩
   refine hN _ _ ?_
   clear hN N
   cases hb:eI s ts (cN p k) t
   ·rw[hb,if_neg (by simp)]at v7
    (try((repeat(revert hN;revert N;apply Pn.out));refine wk (tw @b21 (tw @bg0 (tw @bg1 (tw @b0 (tw @b3 (tw @b5 (tw @b8 (tw @H6 @hb)))))))) ?_;(repeat(refine Pn.mk ?_;intro N hN))))
    refine fP ?_ ?_ ?_ (by(try dsimp only);exact⟨ab,bk.frame (Nat.le_refl _) ha.ov (Nat.le_refl _) (fun x hx=>by
      have h1:=dE (i:=x) (n:=st_b.next) ab
      simp only[go_sem, ↓reduceIte,Nat.reduceEqDiff,Nat.reduceAdd,Nat.reduceSub,Nat.reduceLeDiff,reduceCtorEq,h1]),by
     rw[v7]
     rcases b6 with⟨hL,h⟩|⟨o,h1,h2,h3,h4,h5⟩
     ·exact .inl ⟨hL,sd @h⟩
     ·have h8:=dE h5
      exact .inr ⟨o,sd @h1,sd (tw @h2 @h8),h3,h4,ab⟩⟩)
    all_goals simp only[go_sem, ↓reduceIte,Nat.reduceEqDiff,Nat.reduceAdd,Nat.reduceSub,Nat.reduceLeDiff,reduceCtorEq,b21,bg0,bg1,b0,b3,b5,b8,H6,aj,vt,vq]
   ·rw[hb,if_pos rfl]at v7
    have G2:(L++[(t:Int)]).length=L.length+1:=by simp
    have qt:(L++[(t:Int)]).map bE=L.map bE++[[.int .i64 t]]:=by rw[List.map_append];rfl
    rcases b6 with⟨hL,b6⟩|⟨o,b6,bo,o4,o6,o7⟩
    ·subst hL
     (try((repeat(revert hN;revert N;apply Pn.out));refine wk (tw @b21 (tw @bg0 (tw @bg1 (tw @b0 (tw @b3 (tw @b5 (tw @b8 (tw @H6 (tw @b6 @hb))))))))) ?_;(repeat(refine Pn.mk ?_;intro N hN))))
     refine fP ?_ ?_ ?_ (by(try dsimp only);exact⟨ab,bk.frame (Nat.le_refl _) ha.ov (Nat.le_refl _) (fun x hx=>by
      have h1:=dE (i:=x) (n:=st_b.next) ab
      simp only[go_sem, ↓reduceIte,Nat.reduceEqDiff,Nat.reduceAdd,Nat.reduceSub,Nat.reduceLeDiff,reduceCtorEq,h1]),.inr ⟨⟨97010003,st_b.next+1+1+1⟩,by rw[v7,G2];simp only[go_sem, ↓reduceIte,Nat.reduceEqDiff,Nat.reduceAdd,Nat.reduceSub,Nat.reduceLeDiff,reduceCtorEq]<;>rfl,by rw[v7,qt];simp only[go_sem, ↓reduceIte,Nat.reduceEqDiff,Nat.reduceAdd,Nat.reduceSub,Nat.reduceLeDiff,reduceCtorEq]<;>rfl,by rw[v7,G2];omega,bL,bL⟩⟩)
     all_goals simp only[go_sem, ↓reduceIte,Nat.reduceEqDiff,Nat.reduceAdd,Nat.reduceSub,Nat.reduceLeDiff,reduceCtorEq,b21,bg0,bg1,b0,b3,b5,b8,H6,aj,vt,vq]
    ·have e1:L.length<=16777215:=ab
     have Tf:(L.map bE).length=L.length:=by simp
     have vo:=dE o7
     have vto:=dD (a:=⟨97000000,σ.next⟩) (b:=o) bL
     have vqo:=dD (a:=⟨97004003,st_a.next+1+1⟩) (b:=o) bL
     (try((repeat(revert hN;revert N;apply Pn.out));refine wk (tw @b21 (tw @bg0 (tw @bg1 (tw @b0 (tw @b3 (tw @b5 (tw @b8 (tw @H6 (tw @b6 (tw @bo (tw @hb (tw @e1 (tw @Tf @vo))))))))))))) ?_;(repeat(refine Pn.mk ?_;intro N hN))))
     refine fP ?_ ?_ ?_ (by(try dsimp only);exact⟨ab,bk.frame (Nat.le_refl _) ha.ov (Nat.le_refl _) (fun x hx=>by
      have h1:=dE (i:=x) (n:=st_b.next) ab
      have h2:=dD (a:=x) (b:=o) ab
      simp only[go_sem, ↓reduceIte,Nat.reduceEqDiff,Nat.reduceAdd,Nat.reduceSub,Nat.reduceLeDiff,reduceCtorEq,h1,h2]),.inr ⟨⟨97010003,st_b.next+1+1+1⟩,by rw[v7,G2];simp only[go_sem, ↓reduceIte,Nat.reduceEqDiff,Nat.reduceAdd,Nat.reduceSub,Nat.reduceLeDiff,reduceCtorEq]<;>rfl,by rw[v7,qt];simp only[go_sem, ↓reduceIte,Nat.reduceEqDiff,Nat.reduceAdd,Nat.reduceSub,Nat.reduceLeDiff,reduceCtorEq]<;>rfl,by rw[v7,G2];omega,bL,bL⟩⟩)
     all_goals simp only[go_sem, ↓reduceIte,Nat.reduceEqDiff,Nat.reduceAdd,Nat.reduceSub,Nat.reduceLeDiff,reduceCtorEq,b21,bg0,bg1,b0,b3,b5,b8,H6,aj,vt,vq,vto,vqo]
  ·obtain⟨es,hg,how⟩:=bk.2.2
   have vo:=dE SK.ov
   obtain⟨fi,xL,qU,GU,_,_⟩:=sF (cN p k) es
   unfold c6 at qU
   unfold da at GU
   have hq:((⟨97000000,σ.next⟩:Id)=O)=False:=(dD (a:=O) (b:=⟨97000000,σ.next⟩) (by have:=h.ov;(try dsimp only);omega)).2
   have htt:t=s.ar.ah.length:=ab
   subst htt
   have su:oj (eI s ts) (cN p k) s.ar.ah.length=gL s ts (cN p k):=rfl
   rw[su]at b6
   have hAk:∀q,(A q∨∃j:Nat,j<k+1/\q=cN p j)->(A q∨∃j:Nat,j<k/\q=cN p j)∨q=cN p k:=fun q hq=>by
    rcases hq with hq|⟨j,hj,hq⟩
    ·exact .inl (.inl hq)
    ·rcases Nat.lt_or_ge j k with h|h
     ·exact .inl (.inr ⟨j,h,hq⟩)
     ·exact .inr (by rw[hq,show j=k by omega])
   rcases b6 with⟨hL,b6⟩|⟨o,b6,bo,o4,o6,o7⟩
   ·have d0:decide ((0:Int)<((0:Nat):Int))=false:=rfl
    (try((repeat(revert hN;revert N;apply Pn.out));refine wk (tw @b21 (tw @bg0 (tw @bg1 (tw @b0 (tw @b3 (tw @b5 (tw @b8 (tw @H6 (tw @b6 (tw @ht (tw @h2 (tw @v2 (tw @vt (tw @vq (tw @vo (tw @hg (tw @xL (tw @GU (tw @aj.eq_1 @d0))))))))))))))))))) ?_;(repeat(refine Pn.mk ?_;intro N hN))))
    refine eB ?_ ?_ (by(try dsimp only);exact⟨ab,bk.cut hg how ab (fun x hx FK=>by
     have h1:=dE (i:=x) (n:=st_b.next) ab
     have h2:(x=O)=False:=eq_false FK
     simp only[go_sem, ↓reduceIte,Nat.reduceEqDiff,Nat.reduceAdd,Nat.reduceSub,Nat.reduceLeDiff,reduceCtorEq,h1,h2]) hL (sl @GU) hAk⟩)
    all_goals simp only[go_sem, ↓reduceIte,Nat.reduceEqDiff,Nat.reduceAdd,Nat.reduceSub,Nat.reduceLeDiff,reduceCtorEq,a8,ag0,a0,a3,b21,bg0,bg1,b0,b3,b5,b8,H6,aj,vt,vo,hq]
   ·have ig:gL s ts (cN p k)≠[]:=fun e=>by rw[e]at o4;cases o4
    have d1:decide ((0:Int)<((gL s ts (cN p k)).length:Int))=true:=decide_eq_true ab
    have DW:=qU (.own o 0 (gL s ts (cN p k)).length)
    have v8:=dE o7
    have oO:(o=O)=False:=eq_false (by
     rintro rfl
     rw[hg]at bo
     injection bo with bo
     injection bo with _ bo _
     exact w5 bo)
    (try((repeat(revert hN;revert N;apply Pn.out));refine wk (tw @b21 (tw @bg0 (tw @bg1 (tw @b0 (tw @b3 (tw @b5 (tw @b8 (tw @H6 (tw @b6 (tw @ht (tw @h2 (tw @v2 (tw @vt (tw @vq (tw @vo (tw @hg (tw @xL (tw @DW (tw @aj.eq_1 @d1))))))))))))))))))) ?_;(repeat(refine Pn.mk ?_;intro N hN))))
    refine eB ?_ ?_ (by(try dsimp only);exact⟨ab,bk.put hg how ab (fun x hx FK=>by
     have h1:=dE (i:=x) (n:=st_b.next) ab
     have h2:(x=O)=False:=eq_false FK
     simp only[go_sem, ↓reduceIte,Nat.reduceEqDiff,Nat.reduceAdd,Nat.reduceSub,Nat.reduceLeDiff,reduceCtorEq,h1,h2]) (o:=o) ig ab (sd (tw @oO (tw @v8 @bo))) (sl @DW) hAk⟩)
    all_goals simp only[go_sem, ↓reduceIte,Nat.reduceEqDiff,Nat.reduceAdd,Nat.reduceSub,Nat.reduceLeDiff,reduceCtorEq,a8,ag0,a0,a3,b21,bg0,bg1,b0,b3,b5,b8,H6,aj,vt,vo,hq]
 ·have WU:k=4:=ab
  subst WU
  (try((repeat(revert hN;revert N;apply Pn.out));refine wk (tw @a8 (tw @ag0 (tw @a0 (tw @a3 @hk)))) ?_;(repeat(refine Pn.mk ?_;intro N hN))))
  exact eK (.inr rfl) (vs:=[]) rfl ⟨rfl,ak.frame (Nat.le_refl _) ha.ov bL (fun x hx=>rfl)⟩
end Go.Proofs.YtakkdjfmiffbfaaGreatDoor.V
