/- Bonds that are too weak are taken out. -/
import Derived.Test.YtgoljkjaameagaaGreatRkD
import Derived.Test.YtgoljkjaameagaaGreatRkB
import Derived.Test.YtgoljkjaameagaaGreatRkC
import Derived.Test.YtgoljkjaameagaaGreatChecked
import Derived.RangeFuncNested
import Derived.RangeFuncBound
import Derived.RangeFuncCalls
import Derived.RangeFuncLeaves
import Derived.Shelf.Abstract
import Derived.Shelf.RegionOpen
import Derived.WalkKit
import Derived.OwnWalkIn
import Derived.TacticsInMore
import Derived.LoopNIn
import Derived.LoopIn
import Derived.BigQuiet
import Derived.RangeFuncBox
import Derived.RangeFuncWrites
import Derived.Maps.AppendAt
set_option linter.unusedVariables false
set_option linter.unusedSimpArgs false
set_option maxRecDepth 100000
set_option maxHeartbeats 16000000
namespace Go.Proofs.YtgoljkjaameagaaGreat.V
open Go.RowKit
attribute [local irreducible] dE wpOps fS Call
attribute [local go_sem] aH fq eG fH fG cX upd bZ K.av cD AV.cells AV.cell rowOf rowsOf part ld rowAt br bP dn dR gK bx cQ eb fD eS di dW cN cL dH dI bD aW cF bB cH cG dU dX dV cE bG cP dS bz aI cJ cq gJ bj cz bE aT de aX dp AV.undef bq bt dL dQ dB dz cw ea ee cj dZ dY cI cK List.getD_cons_zero List.getD_cons_succ List.getD_nil List.all_cons List.all_nil Bool.and_true Bool.true_and Bool.and_self Bool.not_true Bool.not_false Option.map_some Option.map_none Option.bind_some Option.bind_none List.length_cons List.length_nil List.take_succ_cons List.take_zero List.take_nil List.drop_succ_cons List.drop_zero List.drop_nil List.head?_cons List.map_cons List.map_nil List.getElem?_cons_zero List.getElem?_cons_succ List.cons_append List.nil_append List.append_nil List.length_map List.set_cons_zero List.set_cons_succ Nat.reduceMul eq_self Int.toNat_natCast Int.natCast_nonneg and_self true_and and_true decide_true decide_false Bool.false_eq_true Nat.zero_add Nat.add_zero List.contains_cons List.contains_nil Bool.or_false Bool.false_or beq_self_eq_true Nat.reduceBEq ne_eq not_true_eq_false not_false_eq_true Id.mk.injEq false_and and_false Nat.reduceLT Int.reduceLE Int.reduceLT Int.reduceToNat Int.reduceNeg Int.reduceAdd Nat.le_refl List.length_append beq_true beq_false Bool.not_eq_eq_eq_not or_false false_or dD ah aq aF aY bp bK aP bc aN aV cC bF
theorem Ks (b:PB) (t:Int):aj Tryz.prog 323 [.agg (aA b),.cR [.int .i64 t]] (.bool (decide (b.s<t))):=by
 refine aj.body eH rfl fun hl n0=>?_
 clear hl
 (try((repeat(revert hN;revert N;apply Pn.out));refine wk @aA.eq_1 ?_;(repeat(refine Pn.mk ?_;intro N hN))))
 exact aM (b:=decide (b.s<t)) (.inl rfl) (sd @Nat.zero_add) rfl
theorem yu (bs:List PB) (t:Int) (hl:bs.length<=1048576):aj Tryz.prog 335 [.sl (bs.map aA),.fn 323 [.cR [.int .i64 t]]] (.int .i64 (iE (fun b:PB=>decide (b.s<t)) bs)):=
 oM Ij (show mU Tryz.prog 335=some (qE 335 3 true) by kernel_rfl) bs hl 323 _ _ (fun x _=>Ks x t) fun g=>by simp only[ah,aq,aN,Option.map_some]
theorem Ig (bs:List PB) (hp:0<bs.length) (hl:bs.length<=1048576) (σ:aw):
  Call Tryz.prog 322 [.sl (bs.map aA)] σ fun r σ'=>∃o:Id,r=.own o 0 bs.length/\σ'.get o=some ⟨true,3,bs.map aA⟩/\σ.next<=o.bY/\o.bY<σ'.next/\∀i:Id,i.bY<σ.next->σ'.get i=σ.get i:=by
 refine gY eH rfl fun hl=>?_
 clear hl
 have hz:=all_map (l:=bs) Nr
 obtain⟨b,r,rfl⟩:∃b r,bs=b::r:=by
  cases bs with
  |nil=>simp at hp
  |cons b r=>exact⟨b,r,rfl⟩
 have eF:(List.map aA (b::r)).length=(b::r).length:=by simp
 have e1:r.length<=16777215:=by simp at hl;omega
 rw[List.map_cons]at hz eF ⊢
 (try((repeat(revert hN;revert N;apply Pn.out));refine wk (tw @hz (tw @eF @e1)) ?_;(repeat(refine Pn.mk ?_;intro N hN))))
 refine gV (.inl rfl) (vs:=[.own ⟨322003002,σ.next+1+1⟩ 0 (b::r).length]) (by simp only[fe,ig,go_sem, ↓reduceIte,Nat.reduceEqDiff,Nat.reduceAdd,Nat.reduceSub,Nat.reduceLeDiff,reduceCtorEq,List.length_cons]) ⟨⟨322003002,σ.next+1+1⟩,rfl,sd @Nat.zero_add,by(try dsimp only);omega,by(try dsimp only);omega,fun i hi=>?_⟩
 have hv:=dP hi
 simp only[go_sem, ↓reduceIte,Nat.reduceEqDiff,Nat.reduceAdd,Nat.reduceSub,Nat.reduceLeDiff,reduceCtorEq,hv]
theorem pa {t:Int} {bs:List PB} {j:Nat} (hj:j<bs.length):aO t (bs.take (j+1))=aO t (bs.take j)++if decide (bs[j].s<t)=true then[]else[bs[j]]:=by
 rw[tU t bs j hj]
 congr 1
 by_cases h:bs[j].s<t
 ·rw[if_neg (by omega),if_pos (decide_eq_true h)]
 ·rw[if_pos (by omega),if_neg (by simp only[decide_eq_true_eq];exact h)]
theorem tT {t:Int} {bs:List PB} (h:∀b∈bs,¬b.s<t):aO t bs=bs:=by
 unfold aO
 rw[List.filter_eq_self]
 intro b hb
 have:=h b hb
 exact decide_eq_true (by omega)
structure tV (t:Int) (bs:List PB) (j:Nat) (R:List PB):Prop where
 len:R.length=bs.length
 pre:R.take (aO t (bs.take j)).length=aO t (bs.take j)
 post:∀x,j<=x->R[x]? =bs[x]?
 lt:(aO t (bs.take j)).length<j
theorem tV.start {t:Int} {bs:List PB} {i:Nat} (hi:i<bs.length) (hw:bs[i].s<t) (hp:∀x (h:x<i),¬bs[x].s<t):tV t bs (i+1) bs/\(aO t (bs.take (i+1))).length=i:=by
 have h1:aO t (bs.take i)=bs.take i:=tT fun b hb=>by
  obtain⟨x,hx,rfl⟩:=List.getElem_of_mem hb
  rw[List.length_take]at hx
  rw[List.getElem_take]
  exact hp x (by omega)
 have h2:aO t (bs.take (i+1))=bs.take i:=by rw[pa hi,if_pos (decide_eq_true hw),List.append_nil,h1]
 have h3:(bs.take i).length=i:=by rw[List.length_take];omega
 exact⟨⟨rfl,by rw[h2,h3],fun _ _=>rfl,by rw[h2,h3];omega⟩,by rw[h2,h3]⟩
theorem tV.Mv {t:Int} {bs R:List PB} {j:Nat} (h:tV t bs j R) (hj:j<bs.length) (hw:bs[j].s<t):tV t bs (j+1) R/\(aO t (bs.take (j+1))).length=(aO t (bs.take j)).length:=by
 have h2:aO t (bs.take (j+1))=aO t (bs.take j):=by rw[pa hj,if_pos (decide_eq_true hw),List.append_nil]
 exact⟨⟨h.len,by rw[h2];exact h.pre,fun x hx=>h.post x (by omega),by rw[h2];have:=h.lt;omega⟩,by rw[h2]⟩
theorem tV.oO {t:Int} {bs R:List PB} {j:Nat} (h:tV t bs j R) (hj:j<bs.length) (hw:¬bs[j].s<t):tV t bs (j+1) (R.set (aO t (bs.take j)).length bs[j])/\(aO t (bs.take (j+1))).length=(aO t (bs.take j)).length+1:=by
 have h2:aO t (bs.take (j+1))=aO t (bs.take j)++[bs[j]]:=by rw[pa hj,if_neg (by simp only[decide_eq_true_eq];exact hw)]
 have dJ:=h.lt
 have hlen:=h.len
 have nT:=h.pre
 generalize hc:(aO t (bs.take j)).length=c at *
 refine⟨⟨by rw[List.length_set];exact hlen,?_,fun x hx=>?_,by rw[h2,List.length_append,hc];simp;omega⟩,by rw[h2,List.length_append,hc];rfl⟩
 ·rw[h2,List.length_append,hc,List.length_singleton,List.take_succ_eq_append_getElem (by rw[List.length_set];omega),List.getElem_set_self,List.take_set_of_le (Nat.le_refl _),nT]
 ·rw[List.getElem?_set_ne (by omega)];exact h.post x (by omega)
theorem tV.at_ {t:Int} {bs R:List PB} {j:Nat} (h:tV t bs j R) (hj:j<bs.length):(R.map aA)[j]? =some (aA bs[j]):=by
 rw[List.getElem?_map,h.post j (Nat.le_refl j),List.getElem?_eq_getElem hj];rfl
theorem Db {p:PB->Bool} {bs:List PB} (h:¬0<=iE p bs):∀b∈bs,p b=false:=by
 intro b hb
 unfold iE at h
 split at h
 ·omega
 ·rename_i h1
  rw[List.findIdx_lt_length]at h1
  cases hp:p b
  ·rfl
  ·exact absurd ⟨b,hb,hp⟩ h1
theorem Dc {p:PB->Bool} {bs:List PB} (h:0<=iE p bs):∃i,∃hi:i<bs.length,iE p bs=(i:Int)/\p bs[i]=true/\∀x (hx:x<i),p (bs[x]'(by omega))=false:=by
 unfold iE at h ⊢
 split
 ·rename_i h1
  exact⟨bs.findIdx p,h1,rfl,List.findIdx_getElem,fun x hx=>by simpa using List.not_of_lt_findIdx hx⟩
 ·rename_i h1;rw[if_neg h1]at h;omega
theorem F3 (bs:List PB) (t:Int) (hl:bs.length<=1048576) (o T:Id) (σ:aw) (ho:σ.get o=some ⟨true,3,bs.map aA⟩) (hT:σ.get T=some ⟨true,1,[[.int .i64 t]]⟩) (yl:o.bY<σ.next) (Sy:T.bY<σ.next) (P5:o≠T):
  Call Tryz.prog 321 [.own o 0 bs.length,.fn 323 [.ptr T 0 0]] σ fun r σ'=>∃rows,r=.own o 0 (aO t bs).length/\σ'.get o=some ⟨true,3,rows⟩/\rows.take (aO t bs).length=(aO t bs).map aA/\(aO t bs).length<=rows.length/\σ.next<=σ'.next/\∀i:Id,i.bY<σ.next->i≠o->σ'.get i=σ.get i:=by
 refine gY eH rfl fun j8=>?_
 clear j8
 have Dx:=yu bs t hl
 have hzT:∀(g:Rows),g T=some ⟨true,1,[[.int .i64 t]]⟩->V.fz (dD g) 5 (.ptr T 0 0)=some (.cR [.int .i64 t]):=fun g hg=>sH (sz:=1) (rows:=[[.int .i64 t]]) (by simp[dD,hg]) rfl (by simp only[List.drop_zero,ah,aq,aF,Option.map_some])
 have yp:∀(g:Rows),g T=some ⟨true,1,[[.int .i64 t]]⟩->g o=some ⟨true,3,bs.map aA⟩->dc (dD g) 6 [.own o 0 bs.length,.fn 323 [.ptr T 0 0]]=some [.sl (bs.map aA),.fn 323 [.cR [.int .i64 t]]]:=fun g h1 h2=>by
  have q1:=gr (g:=dD g) (n:=5) (e:=aA) (sz:=3) (len:=bs.length) (l:=bs) (id:=o) (by simp[dD,h2]) rfl fun b=>zu _ 4 b
  have q2:=hzT g h1
  simp only[ah,aq,q1,cC,List.all_cons,List.all_nil,AV.cell,Bool.and_true,if_true,q2,Option.map_some]
 have lR:∀(g:Rows),g T=some ⟨true,1,[[.int .i64 t]]⟩->∀b:PB,dc (dD g) 6 [.agg (aA b),.ptr T 0 0]=some [.agg (aA b),.cR [.int .i64 t]]:=fun g h1 b=>by
  have q3:V.fz (dD g) 6 (.ptr T 0 0)=some (.cR [.int .i64 t]):=sH (sz:=1) (rows:=[[.int .i64 t]]) (by simp[dD,h1]) rfl (by simp only[List.drop_zero,ah,aq,aF,Option.map_some])
  simp only[ah,aq,bc,zu,q3,Option.map_some]
 (try((repeat(revert hN;revert N;apply Pn.out));refine wk @Nat.zero_add ?_;(repeat(refine Pn.mk ?_;intro N hN))))
 refine .inl ⟨_,aj.x Dx (yp _ hT ho),?_⟩
 refine hN _ _ ?_
 clear hN N
 by_cases h0:0<=iE (fun b:PB=>decide (b.s<t)) bs
 ·obtain⟨i,hi,CG,UI,IW⟩:=Dc h0
  rw[CG]at *
  have Gi:decide ((i:Int)= -1)=false:=decide_eq_false (by omega)
  have Fh:IntKind.i64.wrap ((i:Int)+1)=((i+1:Nat):Int):=az (by omega)
  obtain⟨dK,uC⟩:=tV.start (t:=t) hi (by simpa using UI) (fun x hx=>by simpa using IW x hx)
  (try((repeat(revert hN;revert N;apply Pn.out));refine wk (tw @Gi @Fh) ?_;(repeat(refine Pn.mk ?_;intro N hN))))
  refine aZ (fun m env st=>∃(j:Nat) (R:List PB),m=bs.length-j/\env 6=.int .i64 (j:Int)/\env 5=.int .i64 ((aO t (bs.take j)).length:Int)/\st.get o=some ⟨true,3,R.map aA⟩/\tV t bs j R/\j<=bs.length/\σ.next<=st.next/\∀x:Id,x.bY<σ.next->(x=o)=False->st.get x=σ.get x) (bs.length-(i+1)) ⟨i+1,bs,rfl,sd @Fh,sd @uC,sd @ho,dK,by omega,by(try dsimp only);omega,fun x _ _=>sd @Nat.zero_add⟩ ?_
  rintro m env_b st_b ⟨j,R,rfl,b6,b5,bg,hD,gP,hle,jm⟩ fM
  have b0:=fM 0 (by kernel_rfl)
  have b1:=fM 1 (by kernel_rfl)
  simp only[go_sem, ↓reduceIte,Nat.reduceEqDiff,Nat.reduceAdd,Nat.reduceSub,Nat.reduceLeDiff,reduceCtorEq]at b0 b1
  clear fM
  have bT:=(jm T Sy (by simp only[eq_iff_iff,iff_false];exact fun h=>P5 h.symm)).trans hT
  have nI:=dP (i:=o) (n:=st_b.next) (by omega)
  have UW:=dP (i:=T) (n:=st_b.next) (by omega)
  have QM:=hD.len
  have Of:(R.map aA).length=bs.length:=by rw[List.length_map,QM]
  have dJ:=hD.lt
  by_cases hj:(j:Int)<(bs.length:Int)
  ·have nR:j<bs.length:=by omega
   have E9:=hD.at_ nR
   have LG:=Ks bs[j] t
   have LF:IntKind.i64.wrap ((j:Int)+1)=((j+1:Nat):Int):=az (by omega)
   have QH:=hD.Mv nR
   have QI:=hD.oO nR
   generalize bs[j]=b at *
   (try((repeat(revert hN;revert N;apply Pn.out));refine wk (tw @b0 (tw @b1 (tw @b5 (tw @b6 (tw @bg (tw @hj (tw @E9 (tw @aA.eq_1 (tw @nI (tw @UW @Of)))))))))) ?_;(repeat(refine Pn.mk ?_;intro N hN))))
   refine .inl ⟨_,aj.x LG (lR _ (sd (tw @UW @bT)) b),?_⟩
   refine hN _ _ ?_
   clear hN N
   by_cases hw:b.s<t
   ·obtain⟨N6,N5⟩:=QH hw
    have hd:decide (b.s<t)=true:=decide_eq_true hw
    (try((repeat(revert hN;revert N;apply Pn.out));refine wk (tw @b0 (tw @b1 (tw @b5 (tw @b6 (tw @hd @LF))))) ?_;(repeat(refine Pn.mk ?_;intro N hN))))
    refine⟨_,?_,j+1,R,rfl,sd @LF,sd (tw @b5 @N5),sd (tw @bg @nI),N6,by omega,by(try dsimp only);omega,fun x hx zJ=>?_⟩
    ·omega
    ·have KT:=dP (i:=x) (n:=st_b.next) (by omega)
     have:=jm x hx zJ
     simp only[go_sem, ↓reduceIte,Nat.reduceEqDiff,Nat.reduceAdd,Nat.reduceSub,Nat.reduceLeDiff,reduceCtorEq,KT,this]
   ·obtain⟨N6,N5⟩:=QI hw
    have hd:decide (b.s<t)=false:=decide_eq_false hw
    have Om:((aO t (bs.take j)).length:Int)<(bs.length:Int):=by omega
    have Rw:IntKind.i64.wrap (((aO t (bs.take j)).length:Int)+1)=(((aO t (bs.take j)).length+1:Nat):Int):=az (by omega)
    have fh:(R.map aA).set (aO t (bs.take j)).length [.int .i64 (b.a:Int),.int .i64 (b.b:Int),.int .i64 b.s]=(R.set (aO t (bs.take j)).length b).map aA:=by rw[List.map_set];rfl
    have Lp:∃y,(R.map aA)[(aO t (bs.take j)).length]? =some (aA y):=⟨R[(aO t (bs.take j)).length]'(by omega),by rw[List.getElem?_map,List.getElem?_eq_getElem (by omega)];rfl⟩
    obtain⟨y,Lp⟩:=Lp
    rw[aA]at Lp
    (try((repeat(revert hN;revert N;apply Pn.out));refine wk (tw @b0 (tw @b1 (tw @b5 (tw @b6 (tw @bg (tw @hd (tw @LF (tw @Rw (tw @Om (tw @fh (tw @Lp (tw @nI (tw @UW @Of))))))))))))) ?_;(repeat(refine Pn.mk ?_;intro N hN))))
    refine⟨_,?_,j+1,_,rfl,sd @LF,sd (tw @Rw @N5),sd @fh,N6,by omega,by(try dsimp only);omega,fun x hx zJ=>?_⟩
    ·omega
    ·have KT:=dP (i:=x) (n:=st_b.next) (by omega)
     have:=jm x hx zJ
     simp only[go_sem, ↓reduceIte,Nat.reduceEqDiff,Nat.reduceAdd,Nat.reduceSub,Nat.reduceLeDiff,reduceCtorEq,KT,this,zJ]
  ·have gP:j=bs.length:=by omega
   subst gP
   have nT:=hD.pre
   rw[List.take_length]at b5 dJ nT
   have Om:((aO t bs).length:Int)<=(bs.length:Int):=by omega
   have PZ:(aO t bs).length<=bs.length:=by omega
   have oK:(aO t bs).length+(bs.length-(aO t bs).length)=bs.length:=by omega
   have uC:=nu t bs
   (try((repeat(revert hN;revert N;apply Pn.out));refine wk (tw @b0 (tw @b1 (tw @b5 (tw @b6 (tw @bg (tw @hj (tw @Of (tw @Om (tw @PZ (tw @oK (tw @Nat.le_refl (tw @Nat.sub_zero (tw @Int.le_refl @nI))))))))))))) ?_;(repeat(refine Pn.mk ?_;intro N hN))))
   refine gV (.inl rfl) (vs:=[.own o 0 (aO t bs).length]) (sd @Nat.zero_add) ⟨_,rfl,by simp only[go_sem, ↓reduceIte,Nat.reduceEqDiff,Nat.reduceAdd,Nat.reduceSub,Nat.reduceLeDiff,reduceCtorEq];rfl,?_,?_,by(try dsimp only);omega,fun x hx zJ=>?_⟩
   ·have hm:List.take (aO t bs).length (List.map aA R)=(aO t bs).map aA:=by rw[<-List.map_take,nT]
    rw[hm,List.append_assoc,List.take_append_of_le_length (by simp),List.take_of_length_le (by simp)]
   ·have hm:List.take (aO t bs).length (List.map aA R)=(aO t bs).map aA:=by rw[<-List.map_take,nT]
    rw[hm]
    simp only[List.length_append,List.length_map]
    omega
   ·have Jc:(x=o)=False:=by simp only[eq_iff_iff,iff_false];exact zJ
    have:=jm x hx Jc
    simp only[go_sem, ↓reduceIte,Nat.reduceEqDiff,Nat.reduceAdd,Nat.reduceSub,Nat.reduceLeDiff,reduceCtorEq,Jc,this]
 ·have hn:=Db h0
  have dK:=tT (t:=t) (bs:=bs) fun b hb=>by simpa using hn b hb
  have hd:decide (iE (fun b:PB=>decide (b.s<t)) bs= -1)=true:=decide_eq_true (by
   unfold iE at h0 ⊢
   split
   ·rename_i h;rw[if_pos h]at h0;omega
   ·rfl)
  (try((repeat(revert hN;revert N;apply Pn.out));refine wk @hd ?_;(repeat(refine Pn.mk ?_;intro N hN))))
  refine gV (.inl rfl) (vs:=[.own o 0 bs.length]) (sd @Nat.zero_add) ⟨bs.map aA,by rw[dK];rfl,sd @ho,by rw[dK,List.take_of_length_le (by simp)],by rw[dK];simp,by(try dsimp only);omega,fun x _ _=>rfl⟩
def iT (p:au->Bool) (l:List au):List au:=l.filter fun x=> !p x
theorem qH {p:au->Bool} {l:List au} {j:Nat} (hj:j<l.length):iT p (l.take (j+1))=iT p (l.take j)++if p l[j]=true then[]else[l[j]]:=by
 unfold iT
 rw[List.take_succ_eq_append_getElem hj,List.filter_append]
 congr 1
 cases h:p l[j]<;>simp[h]
theorem DN {p:au->Bool} {l:List au} (h:∀b∈l,p b=false):iT p l=l:=by
 unfold iT
 rw[List.filter_eq_self]
 intro b hb
 rw[h b hb];rfl
structure Kz (p:au->Bool) (bs:List au) (j:Nat) (R:List au):Prop where
 len:R.length=bs.length
 pre:R.take (iT p (bs.take j)).length=iT p (bs.take j)
 post:∀x,j<=x->R[x]? =bs[x]?
 lt:(iT p (bs.take j)).length<j
theorem Kz.start {p:au->Bool} {bs:List au} {i:Nat} (hi:i<bs.length) (hw:p bs[i]=true) (hp:∀x (h:x<i),p bs[x]=false):Kz p bs (i+1) bs/\(iT p (bs.take (i+1))).length=i:=by
 have h1:iT p (bs.take i)=bs.take i:=DN fun b hb=>by
  obtain⟨x,hx,rfl⟩:=List.getElem_of_mem hb
  rw[List.length_take]at hx
  rw[List.getElem_take]
  exact hp x (by omega)
 have h2:iT p (bs.take (i+1))=bs.take i:=by rw[qH hi,if_pos hw,List.append_nil,h1]
 have h3:(bs.take i).length=i:=by rw[List.length_take];omega
 exact⟨⟨rfl,by rw[h2,h3],fun _ _=>rfl,by rw[h2,h3];omega⟩,by rw[h2,h3]⟩
theorem Kz.Mv {p:au->Bool} {bs R:List au} {j:Nat} (h:Kz p bs j R) (hj:j<bs.length) (hw:p bs[j]=true):Kz p bs (j+1) R/\(iT p (bs.take (j+1))).length=(iT p (bs.take j)).length:=by
 have h2:iT p (bs.take (j+1))=iT p (bs.take j):=by rw[qH hj,if_pos hw,List.append_nil]
 exact⟨⟨h.len,by rw[h2];exact h.pre,fun x hx=>h.post x (by omega),by rw[h2];have:=h.lt;omega⟩,by rw[h2]⟩
theorem Kz.oO {p:au->Bool} {bs R:List au} {j:Nat} (h:Kz p bs j R) (hj:j<bs.length) (hw:p bs[j]=false):Kz p bs (j+1) (R.set (iT p (bs.take j)).length bs[j])/\(iT p (bs.take (j+1))).length=(iT p (bs.take j)).length+1:=by
 have h2:iT p (bs.take (j+1))=iT p (bs.take j)++[bs[j]]:=by rw[qH hj,hw];rfl
 have dJ:=h.lt
 have hlen:=h.len
 have nT:=h.pre
 generalize hc:(iT p (bs.take j)).length=c at *
 refine⟨⟨by rw[List.length_set];exact hlen,?_,fun x hx=>?_,by rw[h2,List.length_append,hc];simp;omega⟩,by rw[h2,List.length_append,hc];rfl⟩
 ·rw[h2,List.length_append,hc,List.length_singleton,List.take_succ_eq_append_getElem (by rw[List.length_set];omega),List.getElem_set_self,List.take_set_of_le (Nat.le_refl _),nT]
 ·rw[List.getElem?_set_ne (by omega)];exact h.post x (by omega)
theorem Kz.at_ {p:au->Bool} {bs R:List au} {j:Nat} (h:Kz p bs j R) (hj:j<bs.length):(R.map ae)[j]? =some (ae bs[j]):=by
 rw[List.getElem?_map,h.post j (Nat.le_refl j),List.getElem?_eq_getElem hj];rfl
theorem Nh (a b:au):(decide (a.eT=b.eT)&&decide (a.eO=b.eO))=decide (a=b):=by
 obtain⟨x,y⟩:=a
 obtain⟨x',y'⟩:=b
 rw[Bool.eq_iff_iff]
 simp
theorem Gt (L:List au) (p:au) (hlen:L.length<=1048576):∃z:Int,(0<=z↔p∈L)/\aj Tryz.prog 248 [.sl (L.map ae),.agg (ae p)] (.int .i64 z):=by
 have key:∀m:Nat,m<=L.length->(∀j (hj:j<L.length),j<m->¬p=L[j])->(∀hm:m<L.length,p=L[m])->aj Tryz.prog 248 [.sl (L.map ae),.agg (ae p)] (.int .i64 (if m<L.length then(m:Int)else -1)):=by
  intro m hm hb ha
  refine aj.body eH rfl fun hl n0=>?_
  clear hl
  have eF:(L.map ae).length=L.length:=by simp
  (try((repeat(revert hN;revert N;apply Pn.out));refine wk (tw @ae.eq_1 @eF) ?_;(repeat(refine Pn.mk ?_;intro N hN))))
  refine aZ (fun n env st=>∃k:Nat,n=(L.length)-k/\k<=(L.length)/\env 8=.int .i64 (k:Int)/\st.get ⟨248000000,n0⟩=some ⟨true,2,[ae p]⟩/\(k<=m)) (L.length) ⟨0,by omega,by omega,sl (tw @ae.eq_1 @eF),sl (tw @ae.eq_1 @eF),Nat.zero_le _⟩ ?_
  rintro n_a env_a st_a ⟨k,rfl,ale,a8,ag0,qQ⟩ ez
  have a0:=ez 0 (by kernel_rfl);have a3:=ez 3 (by kernel_rfl);have a7:=ez 7 (by kernel_rfl)
  simp only[go_sem, ↓reduceIte,Nat.reduceEqDiff,Nat.reduceAdd,Nat.reduceSub,Nat.reduceLeDiff,reduceCtorEq,ae,eF]at a0 a3 a7
  clear ez
  by_cases hk:(k:Int)<(L.length:Int)
  ·have dd:∀{e:Env} {gg:Rows},(e 8=.int .i64 (IntKind.i64.wrap ((k:Int)+1)))->(gg ⟨248000000,n0⟩=some ⟨true,2,[ae p]⟩)->((k+1)<=m)->∃m0,m0<(L.length)-k/\∃k:Nat,m0=(L.length)-k/\k<=(L.length)/\e 8=.int .i64 (k:Int)/\gg ⟨248000000,n0⟩=some ⟨true,2,[ae p]⟩/\(k<=m):=fun x1 x2 x3=>⟨_,by omega,k+1,rfl,by omega,(by rw[x1,az (by omega)]),x2,x3⟩
   have hi:k<L.length:=by omega
   have jM:(L.map ae)[k]? =some (ae L[k]):=by simp[hi]
   by_cases Oy:k=m
   ·have he:=ha (by omega)
    have hq:(decide (p.eT=L[k].eT)&&decide (p.eO=L[k].eO))=true:=by
     rw[Nh];subst Oy;exact decide_eq_true he
    generalize L[k]=c at *
    (try((repeat(revert hN;revert N;apply Pn.out));refine wk (tw @a8 (tw @ag0 (tw @a0 (tw @a3 (tw @a7 (tw @hk (tw @jM (tw @hq (tw @eF @ae.eq_1))))))))) ?_;(repeat(refine Pn.mk ?_;intro N hN))))
    exact bQ (b:=(k:Int)) (.inl rfl) (sd @Nat.zero_add) (by rw[if_pos (by omega),Oy])
   ·have hq:(decide (p.eT=L[k].eT)&&decide (p.eO=L[k].eO))=false:=by
     rw[Nh];exact decide_eq_false (hb k hi (by omega))
    generalize L[k]=c at *
    (try((repeat(revert hN;revert N;apply Pn.out));refine wk (tw @a8 (tw @ag0 (tw @a0 (tw @a3 (tw @a7 (tw @hk (tw @jM (tw @hq (tw @eF @ae.eq_1))))))))) ?_;(repeat(refine Pn.mk ?_;intro N hN))))
    refine dd ?_ ?_ (by omega)
    all_goals simp only[go_sem, ↓reduceIte,Nat.reduceEqDiff,Nat.reduceAdd,Nat.reduceSub,Nat.reduceLeDiff,reduceCtorEq,a8,ag0,a0,a3,a7,eF,ae]
  ·(try((repeat(revert hN;revert N;apply Pn.out));refine wk (tw @a8 (tw @ag0 (tw @a0 (tw @a3 (tw @a7 @hk))))) ?_;(repeat(refine Pn.mk ?_;intro N hN))))
   exact bQ (b:=-1) (.inl rfl) (sd @Nat.zero_add) (by rw[if_neg (by omega)])
 by_cases h:p∈L
 ·refine⟨_,?_,key (L.findIdx fun x=>decide (p=x)) List.findIdx_le_length (fun j hj dJ=>?_) fun hm=>?_⟩
  ·have dJ:(L.findIdx fun x=>decide (p=x))<L.length:=List.findIdx_lt_length.2 ⟨p,h,by simp⟩
   rw[if_pos dJ]
   exact⟨fun _=>h,fun _=>by omega⟩
  ·have:=List.not_of_lt_findIdx dJ
   simpa using this
  ·have:=List.findIdx_getElem (w:=hm)
   simpa using this
 ·refine⟨_,?_,key L.length (Nat.le_refl _) (fun j hj _ he=>h (he▸List.getElem_mem hj)) fun hm=>absurd hm (Nat.lt_irrefl _)⟩
  rw[if_neg (Nat.lt_irrefl _)]
  exact⟨fun h=>by omega,fun h'=>absurd h' h⟩
theorem zp (L:List au) (p:au) (hlen:L.length<=1048576):aj Tryz.prog 182 [.sl (L.map ae),.agg (ae p)] (.bool (decide (p∈L))):=by
 refine aj.body eH rfl fun hl n0=>?_
 clear hl
 obtain⟨z,hz,hi⟩:=Gt L p hlen
 (repeat(first|((repeat(revert hN;revert N;apply Pn.out));refine wk @ae.eq_1 ?_;(repeat(refine Pn.mk ?_;intro N hN)))|((try apply Or.inl);refine⟨_,aj.x (hi) (sd @ae.eq_1),?_⟩;refine hN _ _ ?_;clear hN N)))
 exact aM (.inl rfl) (by simp only[go_sem, ↓reduceIte,Nat.reduceEqDiff,Nat.reduceAdd,Nat.reduceSub,Nat.reduceLeDiff,reduceCtorEq];rfl) (by rw[Bool.eq_iff_iff];simp[hz])
def iS (qs:List au) (x:ab):Bool:=decide (x.aC∈qs)
theorem w9 (qs:List au) (hq:qs.length<=1048576) (x:ab):aj Tryz.prog 181 [.agg (aa x),.cR [.sl (qs.map ae)]] (.bool (iS qs x)):=by
 refine aj.body eH rfl fun hl n0=>?_
 clear hl
 have h:=zp qs x.aC hq
 rw[ae]at h
 (repeat(first|((repeat(revert hN;revert N;apply Pn.out));refine wk @aa.eq_1 ?_;(repeat(refine Pn.mk ?_;intro N hN)))|((try apply Or.inl);refine⟨_,aj.x (h) (sd @aa.eq_1),?_⟩;refine hN _ _ ?_;clear hN N)))
 exact aM (b:=decide (x.aC∈qs)) (.inl rfl) (sd @Nat.zero_add) rfl
theorem LK (qs:List au) (hq:qs.length<=1048576) (ps:List ab) (hl:ps.length<=1048576):aj Tryz.prog 247 [.sl (ps.map aa),.fn 181 [.cR [.sl (qs.map ae)]]] (.int .i64 (iE (iS qs) ps)):=
 oM qp (show mU Tryz.prog 247=some (qE 247 3 true) by kernel_rfl) ps hl 181 _ _ (fun x _=>w9 qs hq x) fun g=>by simp only[ah,aq,aN,Option.map_some]
def cV (p:ab->Bool) (l:List ab):List ab:=l.filter fun x=> !p x
theorem yC (p:ab->Bool) (l:List ab):(cV p l).length<=l.length:=List.length_filter_le _ _
theorem qG {p:ab->Bool} {l:List ab} {j:Nat} (hj:j<l.length):cV p (l.take (j+1))=cV p (l.take j)++if p l[j]=true then[]else[l[j]]:=by
 unfold cV
 rw[List.take_succ_eq_append_getElem hj,List.filter_append]
 congr 1
 cases h:p l[j]<;>simp[h]
theorem wc {p:ab->Bool} {l:List ab} (h:∀b∈l,p b=false):cV p l=l:=by
 unfold cV
 rw[List.filter_eq_self]
 intro b hb
 rw[h b hb];rfl
structure Hu (p:ab->Bool) (bs:List ab) (j:Nat) (R:List ab):Prop where
 len:R.length=bs.length
 pre:R.take (cV p (bs.take j)).length=cV p (bs.take j)
 post:∀x,j<=x->R[x]? =bs[x]?
 lt:(cV p (bs.take j)).length<j
theorem Hu.start {p:ab->Bool} {bs:List ab} {i:Nat} (hi:i<bs.length) (hw:p bs[i]=true) (hp:∀x (h:x<i),p bs[x]=false):Hu p bs (i+1) bs/\(cV p (bs.take (i+1))).length=i:=by
 have h1:cV p (bs.take i)=bs.take i:=wc fun b hb=>by
  obtain⟨x,hx,rfl⟩:=List.getElem_of_mem hb
  rw[List.length_take]at hx
  rw[List.getElem_take]
  exact hp x (by omega)
 have h2:cV p (bs.take (i+1))=bs.take i:=by rw[qG hi,if_pos hw,List.append_nil,h1]
 have h3:(bs.take i).length=i:=by rw[List.length_take];omega
 exact⟨⟨rfl,by rw[h2,h3],fun _ _=>rfl,by rw[h2,h3];omega⟩,by rw[h2,h3]⟩
theorem Hu.Mv {p:ab->Bool} {bs R:List ab} {j:Nat} (h:Hu p bs j R) (hj:j<bs.length) (hw:p bs[j]=true):Hu p bs (j+1) R/\(cV p (bs.take (j+1))).length=(cV p (bs.take j)).length:=by
 have h2:cV p (bs.take (j+1))=cV p (bs.take j):=by rw[qG hj,if_pos hw,List.append_nil]
 exact⟨⟨h.len,by rw[h2];exact h.pre,fun x hx=>h.post x (by omega),by rw[h2];have:=h.lt;omega⟩,by rw[h2]⟩
theorem Hu.oO {p:ab->Bool} {bs R:List ab} {j:Nat} (h:Hu p bs j R) (hj:j<bs.length) (hw:p bs[j]=false):Hu p bs (j+1) (R.set (cV p (bs.take j)).length bs[j])/\(cV p (bs.take (j+1))).length=(cV p (bs.take j)).length+1:=by
 have h2:cV p (bs.take (j+1))=cV p (bs.take j)++[bs[j]]:=by rw[qG hj,hw];rfl
 have dJ:=h.lt
 have hlen:=h.len
 have nT:=h.pre
 generalize hc:(cV p (bs.take j)).length=c at *
 refine⟨⟨by rw[List.length_set];exact hlen,?_,fun x hx=>?_,by rw[h2,List.length_append,hc];simp;omega⟩,by rw[h2,List.length_append,hc];rfl⟩
 ·rw[h2,List.length_append,hc,List.length_singleton,List.take_succ_eq_append_getElem (by rw[List.length_set];omega),List.getElem_set_self,List.take_set_of_le (Nat.le_refl _),nT]
 ·rw[List.getElem?_set_ne (by omega)];exact h.post x (by omega)
theorem Hu.at_ {p:ab->Bool} {bs R:List ab} {j:Nat} (h:Hu p bs j R) (hj:j<bs.length):(R.map aa)[j]? =some (aa bs[j]):=by
 rw[List.getElem?_map,h.post j (Nat.le_refl j),List.getElem?_eq_getElem hj];rfl
theorem Dd {p:ab->Bool} {bs:List ab} (h:¬0<=iE p bs):∀b∈bs,p b=false:=by
 intro b hb
 unfold iE at h
 split at h
 ·omega
 ·rename_i h1
  rw[List.findIdx_lt_length]at h1
  cases hp:p b
  ·rfl
  ·exact absurd ⟨b,hb,hp⟩ h1
theorem De {p:ab->Bool} {bs:List ab} (h:0<=iE p bs):∃i,∃hi:i<bs.length,iE p bs=(i:Int)/\p bs[i]=true/\∀x (hx:x<i),p (bs[x]'(by omega))=false:=by
 unfold iE at h ⊢
 split
 ·rename_i h1
  exact⟨bs.findIdx p,h1,rfl,List.findIdx_getElem,fun x hx=>by simpa using List.not_of_lt_findIdx hx⟩
 ·rename_i h1;rw[if_neg h1]at h;omega
theorem F4 (qs:List au) (Rl:qs.length<=1048576) (ps X:List ab) (hl:ps.length<=1048576) (o A:Id) (σ:aw) (ho:σ.get o=some ⟨true,3,(ps++X).map aa⟩) (SH:σ.get A=some ⟨true,1,[[.sl (qs.map ae)]]⟩) (yl:o.bY<σ.next) (hAv:A.bY<σ.next) (hoA:o≠A):
  Call Tryz.prog 180 [.own o 0 ps.length,.fn 181 [.ptr A 0 0]] σ fun r σ'=>∃J:List ab,r=.own o 0 (cV (iS qs) ps).length/\σ'.get o=some ⟨true,3,(cV (iS qs) ps++J).map aa⟩/\σ.next<=σ'.next/\∀i:Id,i.bY<σ.next->i≠o->σ'.get i=σ.get i:=by
 refine gY eH rfl fun j8=>?_
 clear j8
 have Dx:=LK qs Rl ps hl
 have hzA:∀(g:Rows) (n:Nat),g A=some ⟨true,1,[[.sl (qs.map ae)]]⟩->V.fz (dD g) (n+1+1) (.ptr A 0 0)=some (.cR [.sl (qs.map ae)]):=fun g n hg=>sH (sz:=1) (rows:=[[.sl (qs.map ae)]]) (by simp[dD,hg]) rfl (by simp only[List.drop_zero,ah,aq,bK,Option.map_some])
 have yp:∀(g:Rows),g A=some ⟨true,1,[[.sl (qs.map ae)]]⟩->g o=some ⟨true,3,(ps++X).map aa⟩->dc (dD g) 6 [.own o 0 ps.length,.fn 181 [.ptr A 0 0]]=some [.sl (ps.map aa),.fn 181 [.cR [.sl (qs.map ae)]]]:=fun g h1 h3=>by
  have q1:V.fz (dD g) 6 (.own o 0 ps.length)=some (.sl (ps.map aa)):=by
   rw[iv]
   have:dD g o=some ⟨true,3,(ps++X).map aa⟩:=by simp[dD,h3]
   simp only[this,if_true]
   have h4:((ps++X).map aa).take ps.length=ps.map aa:=by rw[<-List.map_take,List.take_append_of_le_length (Nat.le_refl _),List.take_length]
   rw[if_pos (by simp),List.drop_zero,h4,ni fun x=>by simp only[aa,ah,aq,aF,Option.map_some]];rfl
  have q2:=hzA g 3 h1
  simp only[ah,aq,q1,cC,List.all_cons,List.all_nil,AV.cell,Bool.and_true,if_true,q2,Option.map_some]
 have lR:∀(g:Rows),g A=some ⟨true,1,[[.sl (qs.map ae)]]⟩->∀b:ab,dc (dD g) 6 [.agg (aa b),.ptr A 0 0]=some [.agg (aa b),.cR [.sl (qs.map ae)]]:=fun g h1 b=>by
  have q2:=hzA g 4 h1
  simp only[ah,aq,bc,aa,aF,q2,Option.map_some]
 have nX:(ps++X).length=ps.length+X.length:=List.length_append
 have mm:∀j,j<=ps.length->(ps++X).take j=ps.take j:=fun j hj=>List.take_append_of_le_length hj
 have pq:∀j (hj:j<ps.length),(ps++X)[j]'(by rw[nX];omega)=ps[j]:=fun j hj=>List.getElem_append_left hj
 (try((repeat(revert hN;revert N;apply Pn.out));refine wk @Nat.zero_add ?_;(repeat(refine Pn.mk ?_;intro N hN))))
 refine .inl ⟨_,aj.x Dx (yp _ SH ho),?_⟩
 refine hN _ _ ?_
 clear hN N
 by_cases h0:0<=iE (iS qs) ps
 ·obtain⟨i,hi,CG,UI,IW⟩:=De h0
  rw[CG]at *
  have Gi:decide ((i:Int)= -1)=false:=decide_eq_false (by omega)
  have Fh:IntKind.i64.wrap ((i:Int)+1)=((i+1:Nat):Int):=az (by omega)
  obtain⟨dK,uC⟩:=Hu.start (p:=iS qs) (bs:=ps++X) (i:=i) (by rw[nX];omega) (by rw[pq i hi];exact UI) (fun x hx=>by rw[pq x (by omega)];exact IW x hx)
  (try((repeat(revert hN;revert N;apply Pn.out));refine wk (tw @Gi @Fh) ?_;(repeat(refine Pn.mk ?_;intro N hN))))
  refine aZ (fun m env st=>∃(j:Nat) (R:List ab),m=ps.length-j/\env 6=.int .i64 (j:Int)/\env 5=.int .i64 ((cV (iS qs) (ps.take j)).length:Int)/\st.get o=some ⟨true,3,R.map aa⟩/\Hu (iS qs) (ps++X) j R/\j<=ps.length/\σ.next<=st.next/\∀x:Id,x.bY<σ.next->(x=o)=False->st.get x=σ.get x) (ps.length-(i+1)) ⟨i+1,ps++X,rfl,sd @Fh,by rw[<-mm (i+1) (by omega)];simp only[go_sem, ↓reduceIte,Nat.reduceEqDiff,Nat.reduceAdd,Nat.reduceSub,Nat.reduceLeDiff,reduceCtorEq,uC],sd @ho,dK,by omega,by(try dsimp only);omega,fun x _ _=>sd @Nat.zero_add⟩ ?_
  rintro m env_b st_b ⟨j,R,rfl,b6,b5,bg,hD,gP,hle,jm⟩ fM
  have b0:=fM 0 (by kernel_rfl)
  have b1:=fM 1 (by kernel_rfl)
  simp only[go_sem, ↓reduceIte,Nat.reduceEqDiff,Nat.reduceAdd,Nat.reduceSub,Nat.reduceLeDiff,reduceCtorEq]at b0 b1
  clear fM
  have bA:=(jm A hAv (by simp only[eq_iff_iff,iff_false];exact fun h=>hoA h.symm)).trans SH
  have nI:=dP (i:=o) (n:=st_b.next) (by omega)
  have hvA:=dP (i:=A) (n:=st_b.next) (by omega)
  have QM:=hD.len
  rw[nX]at QM
  have Of:(R.map aa).length=ps.length+X.length:=by rw[List.length_map,QM]
  have dJ:=hD.lt
  by_cases hj:(j:Int)<(ps.length:Int)
  ·have nR:j<ps.length:=by omega
   have Uj:j<(ps++X).length:=by omega
   have E9:=hD.at_ Uj
   have LG:=w9 qs Rl (ps++X)[j]
   have LF:IntKind.i64.wrap ((j:Int)+1)=((j+1:Nat):Int):=az (by omega)
   have QH:=hD.Mv Uj
   have QI:=hD.oO Uj
   rw[mm j (by omega)]at QH QI dJ
   rw[mm (j+1) (by omega)]at QH QI
   generalize (ps++X)[j]=b at *
   (try((repeat(revert hN;revert N;apply Pn.out));refine wk (tw @b0 (tw @b1 (tw @b5 (tw @b6 (tw @bg (tw @hj (tw @E9 (tw @aa.eq_1 (tw @nI (tw @hvA @Of)))))))))) ?_;(repeat(refine Pn.mk ?_;intro N hN))))
   refine .inl ⟨_,aj.x LG (lR _ (sd (tw @hvA @bA)) b),?_⟩
   refine hN _ _ ?_
   clear hN N
   cases hw:iS qs b
   ·obtain⟨N6,N5⟩:=QI hw
    have Om:((cV (iS qs) (ps.take j)).length:Int)<(ps.length:Int):=by omega
    have Rw:IntKind.i64.wrap (((cV (iS qs) (ps.take j)).length:Int)+1)=(((cV (iS qs) (ps.take j)).length+1:Nat):Int):=az (by omega)
    have fh:(R.map aa).set (cV (iS qs) (ps.take j)).length [.int .i64 b.aC.eT,.int .i64 b.aC.eO,.int .i64 b.aQ]=(R.set (cV (iS qs) (ps.take j)).length b).map aa:=by rw[List.map_set];rfl
    have Lp:∃y,(R.map aa)[(cV (iS qs) (ps.take j)).length]? =some (aa y):=⟨R[(cV (iS qs) (ps.take j)).length]'(by omega),by rw[List.getElem?_map,List.getElem?_eq_getElem (by omega)];rfl⟩
    obtain⟨y,Lp⟩:=Lp
    rw[aa]at Lp
    (try((repeat(revert hN;revert N;apply Pn.out));refine wk (tw @b0 (tw @b1 (tw @b5 (tw @b6 (tw @bg (tw @hw (tw @LF (tw @Rw (tw @Om (tw @fh (tw @Lp (tw @nI @Of)))))))))))) ?_;(repeat(refine Pn.mk ?_;intro N hN))))
    refine⟨_,?_,j+1,_,rfl,sd @LF,sd (tw @Rw @N5),sd @fh,N6,by omega,by(try dsimp only);omega,fun x hx zJ=>?_⟩
    ·omega
    ·have KT:=dP (i:=x) (n:=st_b.next) (by omega)
     have:=jm x hx zJ
     simp only[go_sem, ↓reduceIte,Nat.reduceEqDiff,Nat.reduceAdd,Nat.reduceSub,Nat.reduceLeDiff,reduceCtorEq,KT,this,zJ]
   ·obtain⟨N6,N5⟩:=QH hw
    (try((repeat(revert hN;revert N;apply Pn.out));refine wk (tw @b0 (tw @b1 (tw @b5 (tw @b6 (tw @hw @LF))))) ?_;(repeat(refine Pn.mk ?_;intro N hN))))
    refine⟨_,?_,j+1,R,rfl,sd @LF,sd (tw @b5 @N5),sd (tw @bg @nI),N6,by omega,by(try dsimp only);omega,fun x hx zJ=>?_⟩
    ·omega
    ·have KT:=dP (i:=x) (n:=st_b.next) (by omega)
     have:=jm x hx zJ
     simp only[go_sem, ↓reduceIte,Nat.reduceEqDiff,Nat.reduceAdd,Nat.reduceSub,Nat.reduceLeDiff,reduceCtorEq,KT,this]
  ·have gP:j=ps.length:=by omega
   subst gP
   have nT:=hD.pre
   rw[mm _ (Nat.le_refl _)]at dJ nT
   rw[List.take_length]at b5 dJ nT
   have Om:((cV (iS qs) ps).length:Int)<=(ps.length:Int):=by omega
   have PZ:(cV (iS qs) ps).length<=ps.length:=by omega
   have oK:(cV (iS qs) ps).length+(ps.length-(cV (iS qs) ps).length)=ps.length:=by omega
   have l9:ps.length<=ps.length+X.length:=by omega
   (try((repeat(revert hN;revert N;apply Pn.out));refine wk (tw @b0 (tw @b1 (tw @b5 (tw @b6 (tw @bg (tw @hj (tw @Of (tw @Om (tw @PZ (tw @oK (tw @l9 (tw @Nat.le_refl (tw @Nat.sub_zero (tw @Int.le_refl @nI)))))))))))))) ?_;(repeat(refine Pn.mk ?_;intro N hN))))
   have hm:List.take (cV (iS qs) ps).length (List.map aa R)=(cV (iS qs) ps).map aa:=by rw[<-List.map_take,nT]
   have hz9:∀n:Nat,List.replicate n [AV.int .i64 0,AV.int .i64 0,AV.int .i64 0]=(List.replicate n (⟨⟨0,0⟩,0⟩:ab)).map aa:=fun n=>by rw[List.map_replicate];rfl
   refine gV (.inl rfl) (vs:=[.own o 0 (cV (iS qs) ps).length]) (sd @Nat.zero_add) ⟨List.replicate (ps.length-(cV (iS qs) ps).length) ⟨⟨0,0⟩,0⟩++R.drop ps.length,rfl,?_,by(try dsimp only);omega,fun x hx zJ=>?_⟩
   ·simp only[go_sem, ↓reduceIte,Nat.reduceEqDiff,Nat.reduceAdd,Nat.reduceSub,Nat.reduceLeDiff,reduceCtorEq]
    rw[hm,hz9,<-List.map_drop,<-List.map_append,<-List.map_append,List.append_assoc]
   ·have Jc:(x=o)=False:=by simp only[eq_iff_iff,iff_false];exact zJ
    have:=jm x hx Jc
    simp only[go_sem, ↓reduceIte,Nat.reduceEqDiff,Nat.reduceAdd,Nat.reduceSub,Nat.reduceLeDiff,reduceCtorEq,Jc,this]
 ·have hn:=Dd h0
  have dK:=wc (p:=iS qs) hn
  have hd:decide (iE (iS qs) ps= -1)=true:=decide_eq_true (by
   unfold iE at h0 ⊢
   split
   ·rename_i h;rw[if_pos h]at h0;omega
   ·rfl)
  (try((repeat(revert hN;revert N;apply Pn.out));refine wk @hd ?_;(repeat(refine Pn.mk ?_;intro N hN))))
  refine gV (.inl rfl) (vs:=[.own o 0 ps.length]) (sd @Nat.zero_add) ⟨X,by rw[dK];rfl,by rw[dK];simp only[go_sem, ↓reduceIte,Nat.reduceEqDiff,Nat.reduceAdd,Nat.reduceSub,Nat.reduceLeDiff,reduceCtorEq,ho],by(try dsimp only);omega,fun x _ _=>rfl⟩
theorem Mb (x:iq) (g:Rows):dc g 5 (cU x)=some (cU x):=by simp[cU,ah,aq,bp,aF]
theorem Mc (x:fy) (g:Rows):dc g 5 (bI x)=some (bI x):=by simp[bI,ah,aq,bp,bK]
theorem GX (x:ab) (g:Rows):dc g 5 (aa x)=some (aa x):=by simp[aa,ah,aq,aF]
theorem y4 (p:au):l8 Tryz.prog 109 [.agg (ae p)] (.agg (ae p)):=by
 refine l8.body eH rfl fun hl σ=>?_
 clear hl
 (try((repeat(revert hN;revert N;apply Pn.out));refine wk @ae.eq_1 ?_;(repeat(refine Pn.mk ?_;intro N hN))))
 exact Ee (.inl rfl) (vs:=[.agg (ae p)]) (by simp only[go_sem, ↓reduceIte,Nat.reduceEqDiff,Nat.reduceAdd,Nat.reduceSub,Nat.reduceLeDiff,reduceCtorEq,fe,ig,ae]) (by simp[eL,ae,bc,ah,aq,aF])
theorem EB (p:ab):l8 Tryz.prog 149 [.agg (aa p)] (.agg (aa p)):=by
 refine l8.body eH rfl fun hl σ=>?_
 clear hl
 have h:=y4 p.aC
 rw[ae]at h
 (repeat(first|((repeat(revert hN;revert N;apply Pn.out));refine wk @aa.eq_1 ?_;(repeat(refine Pn.mk ?_;intro N hN)))|((try apply Or.inl);refine⟨_,l8.x (h) _,?_⟩;refine hN _ _ ?_;clear hN N)))
 exact Ee (.inl rfl) (vs:=[.agg (aa p)]) (by simp only[go_sem, ↓reduceIte,Nat.reduceEqDiff,Nat.reduceAdd,Nat.reduceSub,Nat.reduceLeDiff,reduceCtorEq,fe,ig,aa]) (by simp[eL,aa,bc,ah,aq,aF])
theorem Ki (p:iq):l8 Tryz.prog 197 [.agg (cU p)] (.agg (cU p)):=by
 refine l8.body eH rfl fun hl σ=>?_
 clear hl
 (try((repeat(revert hN;revert N;apply Pn.out));refine wk @cU.eq_1 ?_;(repeat(refine Pn.mk ?_;intro N hN))))
 exact Ee (.inl rfl) (vs:=[.agg (cU p)]) (by simp only[go_sem, ↓reduceIte,Nat.reduceEqDiff,Nat.reduceAdd,Nat.reduceSub,Nat.reduceLeDiff,reduceCtorEq,fe,ig,cU]) (by simp[eL,cU,bc,ah,aq,aF,bp])
theorem Kj (xs:List Int) (h:xs.length<=1048576):l8 Tryz.prog 17 [.sl (xs.map bJ)] (.sl (xs.map bJ)):=
 RX (show mU Tryz.prog 17=some (Nl 17 (.int .i64 0)) by kernel_rfl) xs h
def zb (t:fy):Prop:=t.cu.length<=1048576
theorem Kk (p:fy) (hs:zb p):l8 Tryz.prog 198 [.agg (bI p)] (.agg (bI p)):=by
 refine l8.body eH rfl fun hl σ=>?_
 clear hl
 have h:=Kj p.cu hs
 (repeat(first|((repeat(revert hN;revert N;apply Pn.out));refine wk @bI.eq_1 ?_;(repeat(refine Pn.mk ?_;intro N hN)))|((try apply Or.inl);refine⟨_,l8.x (h) _,?_⟩;refine hN _ _ ?_;clear hN N)))
 exact Ee (.inl rfl) (vs:=[.agg (bI p)]) (by simp only[go_sem, ↓reduceIte,Nat.reduceEqDiff,Nat.reduceAdd,Nat.reduceSub,Nat.reduceLeDiff,reduceCtorEq,fe,ig,bI]) (by simp[eL,bI,bc,ah,aq,bK,bp])
theorem Ip (xs ys:List Int):aj Tryz.prog 20 [.sl (xs.map bJ),.sl (ys.map bJ)] (.bool (decide (xs=ys))):=
 QC (show mU Tryz.prog 20=some (ML 20 .tI) by kernel_rfl) xs ys
theorem Iq (a b:fy):aj Tryz.prog 212 [.agg (bI a),.agg (bI b)] (.bool (decide (a=b))):=by
 refine aj.body eH rfl fun hl n0=>?_
 clear hl
 have h:=Ip a.cu b.cu
 by_cases h1:a.aL=b.aL
 ·have e1:decide (a.aL=b.aL)=true:=decide_eq_true h1
  by_cases h2:a.cu=b.cu
  ·rw[decide_eq_true h2]at h
   (repeat(first|((repeat(revert hN;revert N;apply Pn.out));refine wk (tw @bI.eq_1 @e1) ?_;(repeat(refine Pn.mk ?_;intro N hN)))|((try apply Or.inl);refine⟨_,aj.x (h) (sd (tw @bI.eq_1 @e1)),?_⟩;refine hN _ _ ?_;clear hN N)))
   exact aM (b:=true) (.inl rfl) (sd @Nat.zero_add) (decide_eq_true (by cases a;cases b;simp_all)).symm
  ·rw[decide_eq_false h2]at h
   (repeat(first|((repeat(revert hN;revert N;apply Pn.out));refine wk (tw @bI.eq_1 @e1) ?_;(repeat(refine Pn.mk ?_;intro N hN)))|((try apply Or.inl);refine⟨_,aj.x (h) (sd (tw @bI.eq_1 @e1)),?_⟩;refine hN _ _ ?_;clear hN N)))
   exact aM (b:=false) (.inl rfl) (sd @Nat.zero_add) (decide_eq_false (by rintro rfl;exact h2 rfl)).symm
 ·have e1:decide (a.aL=b.aL)=false:=decide_eq_false h1
  (try((repeat(revert hN;revert N;apply Pn.out));refine wk (tw @bI.eq_1 @e1) ?_;(repeat(refine Pn.mk ?_;intro N hN))))
  exact aM (b:=false) (.inl rfl) (sd @Nat.zero_add) (decide_eq_false (by rintro rfl;exact h1 rfl)).symm
theorem Hk (xs:List iq) (h:xs.length<=1048576):l8 Tryz.prog 129 [.sl (xs.map cU)] (.sl (xs.map cU)):=
 Aq (show mU Tryz.prog 129=some (Cs 129 197 2 [.str [],.int .i64 0]) by kernel_rfl) rfl (fun _=>rfl) (fun _=>rfl) Mb xs h fun x _=>Ki x
theorem Hl (xs:List fy) (h:xs.length<=1048576) (hs:∀t∈xs,zb t):l8 Tryz.prog 130 [.sl (xs.map bI)] (.sl (xs.map bI)):=
 Aq (show mU Tryz.prog 130=some (Cs 130 198 2 [.str [],.cm]) by kernel_rfl) rfl (fun _=>rfl) (fun _=>rfl) Mc xs h fun x hx=>Kk x (hs x hx)
theorem Cr (xs:List ab) (h:xs.length<=1048576):l8 Tryz.prog 80 [.sl (xs.map aa)] (.sl (xs.map aa)):=
 Aq (show mU Tryz.prog 80=some (Cs 80 149 3 [.int .i64 0,.int .i64 0,.int .i64 0]) by kernel_rfl) rfl (fun _=>rfl) (fun _=>rfl) GX xs h fun x _=>EB x
structure MG (s:ay):Prop where
 g:s.aE.length<=1048576
 t:s.ai.length<=1048576
 s:∀t∈s.ai,zb t
structure uV (y:ax):Prop where
 s:MG y.aJ
 a:y.aU.ai.length<=1048576
theorem Ct (p:ay) (hs:MG p):l8 Tryz.prog 63 [.agg (ad p)] (.agg (ad p)):=by
 refine l8.body eH rfl fun hl σ=>?_
 clear hl
 have h1:=Hk p.aE hs.g
 have h2:=Hl p.ai hs.t hs.s
 (repeat(first|((repeat(revert hN;revert N;apply Pn.out));refine wk @ad.eq_1 ?_;(repeat(refine Pn.mk ?_;intro N hN)))|((try apply Or.inl);refine⟨_,l8.x (h1) _,?_⟩;refine hN _ _ ?_;clear hN N)|((try apply Or.inl);refine⟨_,l8.x (h2) _,?_⟩;refine hN _ _ ?_;clear hN N)))
 exact Ee (.inl rfl) (vs:=[.agg (ad p)]) (by simp only[go_sem, ↓reduceIte,Nat.reduceEqDiff,Nat.reduceAdd,Nat.reduceSub,Nat.reduceLeDiff,reduceCtorEq,fe,ig,ad]) (by simp[eL,ad,bc,ah,aq,bK])
theorem ny (p:eI) (hs:p.ai.length<=1048576):l8 Tryz.prog 18 [.agg (aK p)] (.agg (aK p)):=by
 refine l8.body eH rfl fun hl σ=>?_
 clear hl
 have h1:=Cr p.ai hs
 (repeat(first|((repeat(revert hN;revert N;apply Pn.out));refine wk @aK.eq_1 ?_;(repeat(refine Pn.mk ?_;intro N hN)))|((try apply Or.inl);refine⟨_,l8.x (h1) _,?_⟩;refine hN _ _ ?_;clear hN N)))
 exact Ee (.inl rfl) (vs:=[.agg (aK p)]) (by simp only[go_sem, ↓reduceIte,Nat.reduceEqDiff,Nat.reduceAdd,Nat.reduceSub,Nat.reduceLeDiff,reduceCtorEq,fe,ig,aK]) (by simp[eL,aK,bc,ah,aq,bK])
theorem EC (p:ax) (hs:uV p):l8 Tryz.prog 16 [.agg (ar p)] (.agg (ar p)):=by
 refine l8.body eH rfl fun hl σ=>?_
 clear hl
 have h1:=Ct p.aJ hs.s
 have h2:=ny p.aU hs.a
 rw[ad]at h1
 rw[aK]at h2
 (repeat(first|((repeat(revert hN;revert N;apply Pn.out));refine wk @ar.eq_1 ?_;(repeat(refine Pn.mk ?_;intro N hN)))|((try apply Or.inl);refine⟨_,l8.x (h1) _,?_⟩;refine hN _ _ ?_;clear hN N)|((try apply Or.inl);refine⟨_,l8.x (h2) _,?_⟩;refine hN _ _ ?_;clear hN N)))
 exact Ee (.inl rfl) (vs:=[.agg (ar p)]) (by simp only[go_sem, ↓reduceIte,Nat.reduceEqDiff,Nat.reduceAdd,Nat.reduceSub,Nat.reduceLeDiff,reduceCtorEq,fe,ig,ar]) (by simp[eL,ar,bc,ah,aq,bK,aF])
theorem Io (a b:iq):aj Tryz.prog 211 [.agg (cU a),.agg (cU b)] (.bool (decide (a=b))):=by
 refine aj.body eH rfl fun hl n0=>?_
 clear hl
 by_cases h1:a.aL=b.aL
 ·have e1:decide (a.aL=b.aL)=true:=decide_eq_true h1
  by_cases h2:a.eK=b.eK
  ·have e2:decide (a.eK=b.eK)=true:=decide_eq_true h2
   (try((repeat(revert hN;revert N;apply Pn.out));refine wk (tw @cU.eq_1 (tw @e1 @e2)) ?_;(repeat(refine Pn.mk ?_;intro N hN))))
   exact aM (b:=true) (.inl rfl) (sd @Nat.zero_add) (decide_eq_true (by cases a;cases b;simp_all)).symm
  ·have e2:decide (a.eK=b.eK)=false:=decide_eq_false h2
   (try((repeat(revert hN;revert N;apply Pn.out));refine wk (tw @cU.eq_1 (tw @e1 @e2)) ?_;(repeat(refine Pn.mk ?_;intro N hN))))
   exact aM (b:=false) (.inl rfl) (sd @Nat.zero_add) (decide_eq_false (by rintro rfl;exact h2 rfl)).symm
 ·have e1:decide (a.aL=b.aL)=false:=decide_eq_false h1
  (try((repeat(revert hN;revert N;apply Pn.out));refine wk (tw @cU.eq_1 @e1) ?_;(repeat(refine Pn.mk ?_;intro N hN))))
  exact aM (b:=false) (.inl rfl) (sd @Nat.zero_add) (decide_eq_false (by rintro rfl;exact h1 rfl)).symm
theorem x9 (a b:au):aj Tryz.prog 112 [.agg (ae a),.agg (ae b)] (.bool (decide (a=b))):=by
 refine aj.body eH rfl fun hl n0=>?_
 clear hl
 by_cases h1:a.eT=b.eT
 ·have e1:decide (a.eT=b.eT)=true:=decide_eq_true h1
  by_cases h2:a.eO=b.eO
  ·have e2:decide (a.eO=b.eO)=true:=decide_eq_true h2
   (try((repeat(revert hN;revert N;apply Pn.out));refine wk (tw @ae.eq_1 (tw @e1 @e2)) ?_;(repeat(refine Pn.mk ?_;intro N hN))))
   exact aM (b:=true) (.inl rfl) (sd @Nat.zero_add) (decide_eq_true (by cases a;cases b;simp_all)).symm
  ·have e2:decide (a.eO=b.eO)=false:=decide_eq_false h2
   (try((repeat(revert hN;revert N;apply Pn.out));refine wk (tw @ae.eq_1 (tw @e1 @e2)) ?_;(repeat(refine Pn.mk ?_;intro N hN))))
   exact aM (b:=false) (.inl rfl) (sd @Nat.zero_add) (decide_eq_false (by rintro rfl;exact h2 rfl)).symm
 ·have e1:decide (a.eT=b.eT)=false:=decide_eq_false h1
  (try((repeat(revert hN;revert N;apply Pn.out));refine wk (tw @ae.eq_1 @e1) ?_;(repeat(refine Pn.mk ?_;intro N hN))))
  exact aM (b:=false) (.inl rfl) (sd @Nat.zero_add) (decide_eq_false (by rintro rfl;exact h1 rfl)).symm
theorem C9 (a b:ab):aj Tryz.prog 119 [.agg (aa a),.agg (aa b)] (.bool (decide (a=b))):=by
 refine aj.body eH rfl fun hl n0=>?_
 clear hl
 have h:=x9 a.aC b.aC
 rw[ae,ae]at h
 by_cases h1:a.aC=b.aC
 ·rw[decide_eq_true h1]at h
  by_cases h2:a.aQ=b.aQ
  ·have e2:decide (a.aQ=b.aQ)=true:=decide_eq_true h2
   (repeat(first|((repeat(revert hN;revert N;apply Pn.out));refine wk (tw @aa.eq_1 @e2) ?_;(repeat(refine Pn.mk ?_;intro N hN)))|((try apply Or.inl);refine⟨_,aj.x (h) (sd (tw @aa.eq_1 @e2)),?_⟩;refine hN _ _ ?_;clear hN N)))
   exact aM (b:=true) (.inl rfl) (sd @Nat.zero_add) (decide_eq_true (by cases a;cases b;simp_all)).symm
  ·have e2:decide (a.aQ=b.aQ)=false:=decide_eq_false h2
   (repeat(first|((repeat(revert hN;revert N;apply Pn.out));refine wk (tw @aa.eq_1 @e2) ?_;(repeat(refine Pn.mk ?_;intro N hN)))|((try apply Or.inl);refine⟨_,aj.x (h) (sd (tw @aa.eq_1 @e2)),?_⟩;refine hN _ _ ?_;clear hN N)))
   exact aM (b:=false) (.inl rfl) (sd @Nat.zero_add) (decide_eq_false (by rintro rfl;exact h2 rfl)).symm
 ·rw[decide_eq_false h1]at h
  (repeat(first|((repeat(revert hN;revert N;apply Pn.out));refine wk @aa.eq_1 ?_;(repeat(refine Pn.mk ?_;intro N hN)))|((try apply Or.inl);refine⟨_,aj.x (h) (sd @aa.eq_1),?_⟩;refine hN _ _ ?_;clear hN N)))
  exact aM (b:=false) (.inl rfl) (sd @Nat.zero_add) (decide_eq_false (by rintro rfl;exact h1 rfl)).symm
theorem F8 (xs ys:List iq):aj Tryz.prog 136 [.sl (xs.map cU),.sl (ys.map cU)] (.bool (decide (xs=ys))):=
 zr (show mU Tryz.prog 136=some (Bj 136 211 2) by kernel_rfl) (fun _=>rfl) Bp xs ys Io
theorem F9 (xs ys:List fy):aj Tryz.prog 137 [.sl (xs.map bI),.sl (ys.map bI)] (.bool (decide (xs=ys))):=
 zr (show mU Tryz.prog 137=some (Bj 137 212 2) by kernel_rfl) (fun _=>rfl) Br xs ys Iq
theorem tz (xs ys:List ab):aj Tryz.prog 58 [.sl (xs.map aa),.sl (ys.map aa)] (.bool (decide (xs=ys))):=
 zr (show mU Tryz.prog 58=some (Bj 58 119 3) by kernel_rfl) (fun _=>rfl) Dl xs ys C9
theorem Da (a:ax):aj Tryz.prog 21 [.agg (ar a),.agg (ar a)] (.bool true):=by
 have q1:aj Tryz.prog 66 [.agg (ad a.aJ),.agg (ad a.aJ)] (.bool true):=by
  refine aj.body eH rfl fun hl n0=>?_
  clear hl
  have h1:=F8 a.aJ.aE a.aJ.aE
  have h2:=F9 a.aJ.ai a.aJ.ai
  rw[decide_eq_true rfl]at h1 h2
  (repeat(first|((repeat(revert hN;revert N;apply Pn.out));refine wk @ad.eq_1 ?_;(repeat(refine Pn.mk ?_;intro N hN)))|((try apply Or.inl);refine⟨_,aj.x (h1) (sd @ad.eq_1),?_⟩;refine hN _ _ ?_;clear hN N)|((try apply Or.inl);refine⟨_,aj.x (h2) (sd @ad.eq_1),?_⟩;refine hN _ _ ?_;clear hN N)))
  exact aM (b:=true) (.inl rfl) (sd @Nat.zero_add) rfl
 have q2:aj Tryz.prog 22 [.agg (aK a.aU),.agg (aK a.aU)] (.bool true):=by
  refine aj.body eH rfl fun hl n0=>?_
  clear hl
  have h1:=tz a.aU.ai a.aU.ai
  rw[decide_eq_true rfl]at h1
  (repeat(first|((repeat(revert hN;revert N;apply Pn.out));refine wk @aK.eq_1 ?_;(repeat(refine Pn.mk ?_;intro N hN)))|((try apply Or.inl);refine⟨_,aj.x (h1) (sd @aK.eq_1),?_⟩;refine hN _ _ ?_;clear hN N)))
  exact aM (b:=true) (.inl rfl) (sd @Nat.zero_add) rfl
 rw[ad]at q1
 rw[aK]at q2
 refine aj.body eH rfl fun hl n0=>?_
 clear hl
 have e:decide (a.aB=a.aB)=true:=decide_eq_true rfl
 (repeat(first|((repeat(revert hN;revert N;apply Pn.out));refine wk (tw @ar.eq_1 @e) ?_;(repeat(refine Pn.mk ?_;intro N hN)))|((try apply Or.inl);refine⟨_,aj.x (q1) (sd (tw @ar.eq_1 @e)),?_⟩;refine hN _ _ ?_;clear hN N)|((try apply Or.inl);refine⟨_,aj.x (q2) (sd (tw @ar.eq_1 @e)),?_⟩;refine hN _ _ ?_;clear hN N)))
 exact aM (b:=true) (.inl rfl) (sd @Nat.zero_add) rfl
variable {P:Program}
def od {α:Type} (R:Hv α) (z:Nat) (g:Rows) (a:AV) (xs:List α) (ids:List Id):Prop:=∃o rows is,a=.own o 0 xs.length/\g o=some ⟨true,z,rows⟩/\eU R g rows xs is/\ids=o::is
theorem od.frame {α:Type} {R:Hv α} {z:Nat} {g g':Rows} {a:AV} {xs:List α} {ids:List Id} (ok:y7 R z) (h:od R z g a xs ids) (hf:∀i∈ids,g' i=g i):od R z g' a xs ids:=by
 obtain⟨o,rows,is,h1,h2,h3,rfl⟩:=h
 exact⟨o,rows,is,h1,(hf o (by simp)).trans h2,h3.frame ok fun i hi=>hf i (by simp[hi]),rfl⟩
theorem od.fz {α:Type} {R:Hv α} {z n:Nat} {e:α->List AV} {g:Rows} {a:AV} {xs:List α} {ids:List Id} (h:od R z g a xs ids) (hz:∀{cs x ids},R g cs x ids->dc (dD g) n cs=some (e x)):V.fz (dD g) (n+1) a=some (.sl (xs.map e)):=by
 obtain⟨o,rows,is,rfl,h2,h3,rfl⟩:=h
 rw[iv]
 simp only[dD,h2,Option.map_some,if_true]
 rw[if_pos (by rw[h3.len];omega),List.drop_zero,List.take_of_length_le (by rw[h3.len];exact Nat.le_refl _),h3.fz hz];rfl
def tk {α:Type} (e:α->List AV):Hv α:=fun _ cs x ids=>cs=e x/\ids=[]
theorem Iu {α:Type} {e:α->List AV} {z:Nat} (hz:∀x,(e x).length=z) (hc:∀x,(e x).all AV.cell=true) (hs:z<rS):y7 (tk e) z where
 frame:=fun h _=>h
 len:=fun h=>by rw[h.1];exact hz _
 cell:=fun h=>by rw[h.1];exact hc _
 live:=fun h i hi=>by rw[h.2]at hi;cases hi
 small:=hs
def HU:Hv fy:=fun g cs t ids=>∃i,cs=[.str t.aL,.own i 0 t.cu.length]/\g i=some ⟨true,1,t.cu.map bJ⟩/\ids=[i]
theorem Pk:y7 HU 2 where
 frame:=fun⟨i,h1,h2,h3⟩ hf=>⟨i,h1,(hf i (by rw[h3];simp)).trans h2,h3⟩
 len:=fun⟨i,h1,_⟩=>by rw[h1];rfl
 cell:=fun⟨i,h1,_⟩=>by rw[h1];rfl
 live:=fun⟨i,h1,h2,h3⟩ j hj=>by
  rw[h3]at hj
  have:j=i:=by simpa using hj
  subst this
  exact⟨_,h2,rfl,by simp[rS]⟩
 small:=by simp[rS]
theorem Mq {g:Rows} {cs:List AV} {t:fy} {ids:List Id} (n:Nat) (h:HU g cs t ids):dc (dD g) (n+2) cs=some (bI t):=by
 obtain⟨i,rfl,h2,_⟩:=h
 have h3:V.fz (dD g) (n+2) (.own i 0 t.cu.length)=some (.sl (t.cu.map bJ)):=gr (e:=bJ) (sz:=1) (by simp[dD,h2]) rfl fun x=>by simp[bJ,ah,aq,aF]
 simp only[ah,aq,bp,h3,Option.map_some,bI]
end Go.Proofs.YtgoljkjaameagaaGreat.V

namespace Go.Proofs.YtgoljkjaameagaaGreat.V
open Go.RowKit
attribute [local irreducible] dE wpOps fS Call
attribute [local go_sem] aH fq eG fH fG cX upd bZ K.av cD AV.cells AV.cell rowOf rowsOf part ld rowAt br bP dn dR gK bx cQ eb fD eS di dW cN cL dH dI bD aW cF bB cH cG dU dX dV cE bG cP dS bz aI cJ cq gJ bj cz bE aT de aX dp AV.undef bq bt dL dQ dB dz cw ea ee cj dZ dY cI cK List.getD_cons_zero List.getD_cons_succ List.getD_nil List.all_cons List.all_nil Bool.and_true Bool.true_and Bool.and_self Bool.not_true Bool.not_false Option.map_some Option.map_none Option.bind_some Option.bind_none List.length_cons List.length_nil List.take_succ_cons List.take_zero List.take_nil List.drop_succ_cons List.drop_zero List.drop_nil List.head?_cons List.map_cons List.map_nil List.getElem?_cons_zero List.getElem?_cons_succ List.cons_append List.nil_append List.append_nil List.length_map List.set_cons_zero List.set_cons_succ Nat.reduceMul eq_self Int.toNat_natCast Int.natCast_nonneg and_self true_and and_true decide_true decide_false Bool.false_eq_true Nat.zero_add Nat.add_zero List.contains_cons List.contains_nil Bool.or_false Bool.false_or beq_self_eq_true Nat.reduceBEq ne_eq not_true_eq_false not_false_eq_true Id.mk.injEq false_and and_false Nat.reduceLT Int.reduceLE Int.reduceLT Int.reduceToNat Int.reduceNeg Int.reduceAdd Nat.le_refl List.length_append beq_true beq_false Bool.not_eq_eq_eq_not or_false false_or dD ah aq aF aY bp bK aP bc aN aV cC bF
theorem QE:y7 (tk cU) 2:=Iu (fun _=>rfl) (fun _=>rfl) (by simp[rS])
theorem MN:y7 (tk aa) 3:=Iu (fun _=>rfl) (fun _=>rfl) (by simp[rS])
def HH (g:Rows) (v:AV) (a:eI) (ids:List Id):Prop:=∃x,v=.agg [x]/\od (tk aa) 3 g x a.ai ids
structure HT (g:Rows) (v:AV) (s:ax) (ids:List Id):Prop where
 ex:∃a b c i1 i2 i3,v=.agg [a,b,c,.int .i64 s.aB]/\od (tk cU) 2 g a s.aJ.aE i1/\od HU 2 g b s.aJ.ai i2/\od (tk aa) 3 g c s.aU.ai i3/\ids=i1++(i2++i3)
theorem HH.frame {g g':Rows} {v:AV} {a:eI} {ids:List Id} (h:HH g v a ids) (hf:∀i∈ids,g' i=g i):HH g' v a ids:=by
 obtain⟨x,h1,h2⟩:=h
 exact⟨x,h1,h2.frame MN hf⟩
theorem HT.frame {g g':Rows} {v:AV} {s:ax} {ids:List Id} (h:HT g v s ids) (hf:∀i∈ids,g' i=g i):HT g' v s ids:=by
 obtain⟨a,b,c,i1,i2,i3,h1,h2,h3,h4,rfl⟩:=h.ex
 exact⟨a,b,c,i1,i2,i3,h1,h2.frame QE fun i hi=>hf i (by simp[hi]),h3.frame Pk fun i hi=>hf i (by simp[hi]),h4.frame MN fun i hi=>hf i (by simp[hi]),rfl⟩
theorem HH.fz {g:Rows} {v:AV} {a:eI} {ids:List Id} (n:Nat) (h:HH g v a ids):V.fz (dD g) (n+4) v=some (.agg (aK a)):=by
 obtain⟨x,rfl,h2⟩:=h
 have h3:=h2.fz (n:=n+2) (e:=aa) fun hc=>by rw[hc.1];simp[aa,ah,aq,aF]
 simp only[bc,ah,aq,h3,Option.map_some,aK]
theorem HT.fz {g:Rows} {v:AV} {s:ax} {ids:List Id} (n:Nat) (h:HT g v s ids):V.fz (dD g) (n+5) v=some (.agg (ar s)):=by
 obtain⟨a,b,c,i1,i2,i3,rfl,h2,h3,h4,rfl⟩:=h.ex
 have q1:=h2.fz (n:=n+3) (e:=cU) fun hc=>by rw[hc.1];simp[cU,ah,aq,aF,bp]
 have q2:=h3.fz (n:=n+3) (e:=bI) fun hc=>Mq (n+1) hc
 have q3:=h4.fz (n:=n+3) (e:=aa) fun hc=>by rw[hc.1];simp[aa,ah,aq,aF]
 simp only[bc,ah,aq,q1,q2,q3,aF,Option.map_some,ar]
end Go.Proofs.YtgoljkjaameagaaGreat.V

namespace Go.Proofs.YtgoljkjaameagaaGreat
open Go.RowKit
end Go.Proofs.YtgoljkjaameagaaGreat

namespace Go.Proofs.YtgoljkjaameagaaGreat.V
open Go.RowKit
attribute [local irreducible] dE wpOps fS Call
attribute [local go_sem] aH fq eG fH fG cX upd bZ K.av cD AV.cells AV.cell rowOf rowsOf part ld rowAt br bP dn dR gK bx cQ eb fD eS di dW cN cL dH dI bD aW cF bB cH cG dU dX dV cE bG cP dS bz aI cJ cq gJ bj cz bE aT de aX dp AV.undef bq bt dL dQ dB dz cw ea ee cj dZ dY cI cK List.getD_cons_zero List.getD_cons_succ List.getD_nil List.all_cons List.all_nil Bool.and_true Bool.true_and Bool.and_self Bool.not_true Bool.not_false Option.map_some Option.map_none Option.bind_some Option.bind_none List.length_cons List.length_nil List.take_succ_cons List.take_zero List.take_nil List.drop_succ_cons List.drop_zero List.drop_nil List.head?_cons List.map_cons List.map_nil List.getElem?_cons_zero List.getElem?_cons_succ List.cons_append List.nil_append List.append_nil List.length_map List.set_cons_zero List.set_cons_succ Nat.reduceMul eq_self Int.toNat_natCast Int.natCast_nonneg and_self true_and and_true decide_true decide_false Bool.false_eq_true Nat.zero_add Nat.add_zero List.contains_cons List.contains_nil Bool.or_false Bool.false_or beq_self_eq_true Nat.reduceBEq ne_eq not_true_eq_false not_false_eq_true Id.mk.injEq false_and and_false Nat.reduceLT Int.reduceLE Int.reduceLT Int.reduceToNat Int.reduceNeg Int.reduceAdd Nat.le_refl List.length_append beq_true beq_false Bool.not_eq_eq_eq_not or_false false_or dD ah aq aF aY bp bK aP bc aN aV cC bF
def Nt (σ:aw) (ids:List Id) (g:Rows) (n:Nat):Prop:=σ.next<=n/\∀x:Id,x.bY<σ.next->x∉ids->g x=σ.get x
theorem Nt.trans {a b:aw} {i j:List Id} {g:Rows} {n:Nat} (h:Nt a i b.get b.next) (k:Nt b j g n):Nt a (i++j) g n:=
 ⟨Nat.le_trans h.1 k.1,fun x hx hi=>(k.2 x (Nat.lt_of_lt_of_le hx h.1) fun hc=>hi (by simp[hc])).trans (h.2 x hx fun hc=>hi (by simp[hc]))⟩
theorem Nt.sub {a:aw} {i j:List Id} {g:Rows} {n:Nat} (h:Nt a i g n) (hs:∀x∈i,x∈j):Nt a j g n:=⟨h.1,fun x hx hj=>h.2 x hx fun hi=>hj (hs x hi)⟩
theorem od.flat {α:Type} {e:α->List AV} {z:Nat} {g:Rows} {a:AV} {xs:List α} {ids:List Id} (h:od (tk e) z g a xs ids):∃o,a=.own o 0 xs.length/\g o=some ⟨true,z,xs.map e⟩/\ids=[o]:=by
 obtain⟨o,rows,is,h1,h2,h3,rfl⟩:=h
 have:∀{rows:List (List AV)} {xs:List α} {is:List Id},eU (tk e) g rows xs is->rows=xs.map e/\is=[]:=fun h=>by
  induction h with
  |nil=>exact⟨rfl,rfl⟩
  |cons h1 _ ih=>obtain⟨rfl,rfl⟩:=h1;obtain⟨rfl,rfl⟩:=ih;exact⟨rfl,rfl⟩
 obtain⟨rfl,rfl⟩:=this h3
 exact⟨o,h1,h2,rfl⟩
end Go.Proofs.YtgoljkjaameagaaGreat.V

namespace Go.Proofs.YtgoljkjaameagaaGreat.V
open Go.RowKit
attribute [local irreducible] dE wpOps fS Call
attribute [local go_sem] aH fq eG fH fG cX upd bZ K.av cD AV.cells AV.cell rowOf rowsOf part ld rowAt br bP dn dR gK bx cQ eb fD eS di dW cN cL dH dI bD aW cF bB cH cG dU dX dV cE bG cP dS bz aI cJ cq gJ bj cz bE aT de aX dp AV.undef bq bt dL dQ dB dz cw ea ee cj dZ dY cI cK List.getD_cons_zero List.getD_cons_succ List.getD_nil List.all_cons List.all_nil Bool.and_true Bool.true_and Bool.and_self Bool.not_true Bool.not_false Option.map_some Option.map_none Option.bind_some Option.bind_none List.length_cons List.length_nil List.take_succ_cons List.take_zero List.take_nil List.drop_succ_cons List.drop_zero List.drop_nil List.head?_cons List.map_cons List.map_nil List.getElem?_cons_zero List.getElem?_cons_succ List.cons_append List.nil_append List.append_nil List.length_map List.set_cons_zero List.set_cons_succ eq_self Int.toNat_natCast Int.natCast_nonneg and_self true_and and_true decide_true decide_false Bool.false_eq_true Nat.zero_add Nat.add_zero List.contains_cons List.contains_nil Bool.or_false Bool.false_or beq_self_eq_true ne_eq not_true_eq_false not_false_eq_true Id.mk.injEq false_and and_false Nat.le_refl List.length_append beq_true beq_false Bool.not_eq_eq_eq_not or_false false_or dD ah aq aF aY bp bK aP bc aN aV cC bF
section
variable {P:Program} {α:Type} {e:α->List AV} {z:Nat} {g g':Rows} {v:AV} {L:List α} {ids:List Id}
def xk (e:α->List AV) (z:Nat) (g:Rows) (v:AV) (L:List α) (ids:List Id):Prop:=(L=[]/\v=.cm/\ids=[])∨∃o,v=.own o 0 L.length/\g o=some ⟨true,z,L.map e⟩/\ids=[o]/\0<L.length
def OX (e:α->List AV) (L:List α):AV:=if L.length=0 then .cm else .sl (L.map e)
theorem xk.frame (h:xk e z g v L ids) (hf:∀i∈ids,g' i=g i):xk e z g' v L ids:=by
 rcases h with h|⟨o,h1,h2,rfl,hp⟩
 ·exact .inl h
 ·exact .inr ⟨o,h1,(hf o (by simp)).trans h2,rfl,hp⟩
def mv (e:α->List AV) (L:List α) (w:AV):Prop:=(w=.cm/\L=[])∨w=.sl (L.map e)
theorem xk.fz (h:xk e z g v L ids) (he:∀x g,dc g 5 (e x)=some (e x)):∃w,V.fz (dD g) 6 v=some w/\mv e L w:=by
 rcases h with⟨rfl,rfl,_⟩|⟨o,rfl,h2,_⟩
 ·exact⟨.cm,aP _ _,.inl ⟨rfl,rfl⟩⟩
 ·exact⟨_,gr (e:=e) (sz:=z) (by simp[dD,h2]) rfl fun x=>he x _,.inr rfl⟩
def HM (P:Program) (f:Nat) (args:List AV) (e:α->List AV) (z:Nat) (L:List α) (c:Int):Prop:=
 ∀n:Nat,Call P f args ⟨fun _=>none,n⟩ (fun r σ'=>∃v ids,r=.gy [v,.int .i64 c]/\xk e z σ'.get v L ids/\l7 n σ'.next ids)
theorem xM (hm:P.follows .mixedOrders=true) {f:Nat} {args:List AV} {σ:aw} {K:AV->aw->Prop} (h:Call P f args σ K):Call P f args σ (fun r σ'=>K r σ'/\σ.next<=σ'.next):=
 gQ fun hs D ι w vs S U A=>(gq hm h hs D ι w vs S U A).mono (by
  rintro e w' ⟨r,g',n',D2,ι1,u,rfl,hK,T,S1,U1,hn,hR⟩
  exact⟨r,g',n',D2,ι1,u,rfl,⟨hK,hn⟩,T,S1,U1,hn,hR⟩)
theorem HM.s {f:Nat} {args:List AV} {c:Int} (he:∀x g,eA g 4 (e x)=some (e x)) (h:HM P f args e z L c):aj P f args (.gy [OX e L,.int .i64 c]):=fun n=>
 bf _ _ _ _ _ (fun r σ' hq=>by
  obtain⟨v,ids,rfl,ho,hi⟩:=hq
  rcases ho with⟨rfl,rfl,_⟩|⟨o,rfl,h2,_,hp⟩
  ·exact⟨_,by simp only[dt,aS,bd,jt,dr,Option.map_some];rfl,rfl⟩
  ·have:=eY (e:=e) (n:=4) h2 rfl fun x=>he x _
   exact⟨_,by simp only[dt,aS,bd,this,dr,Option.map_some];rfl,by rw[OX,if_neg (by omega)]⟩) (h n)
theorem Jw:mv e L (OX e L):=by
 unfold OX
 split
 ·rename_i h;exact .inl ⟨rfl,List.eq_nil_of_length_eq_zero h⟩
 ·exact .inr rfl
end
theorem mv.two {α:Type} {e:α->List AV} {L:List α} {w:AV} (h:mv e L w):n9 [w] [.sl (L.map e)]:=by
 rcases h with⟨rfl,rfl⟩|rfl
 ·exact .cm .nil
 ·exact .same _ .nil
theorem mv.cut {α:Type} {e:α->List AV} {L:List α} {w:AV} (h:mv e L w) {l l':List AV} (hl:n9 l l'):n9 (w::l) (.sl (L.map e)::l'):=by
 rcases h with⟨rfl,rfl⟩|rfl
 ·exact .cm hl
 ·exact .same _ hl
end Go.Proofs.YtgoljkjaameagaaGreat.V

namespace Go.Proofs.YtgoljkjaameagaaGreat.V
open Go.RowKit
attribute [local irreducible] dE wpOps fS Call
attribute [local go_sem] aH fq eG fH fG cX upd bZ K.av cD AV.cells AV.cell rowOf rowsOf part ld rowAt br bP dn dR gK bx cQ eb fD eS di dW cN cL dH dI bD aW cF bB cH cG dU dX dV cE bG cP dS bz aI cJ cq gJ bj cz bE aT de aX dp AV.undef bq bt dL dQ dB dz cw ea ee cj dZ dY cI cK List.getD_cons_zero List.getD_cons_succ List.getD_nil List.all_cons List.all_nil Bool.and_true Bool.true_and Bool.and_self Bool.not_true Bool.not_false Option.map_some Option.map_none Option.bind_some Option.bind_none List.length_cons List.length_nil List.take_succ_cons List.take_zero List.take_nil List.drop_succ_cons List.drop_zero List.drop_nil List.head?_cons List.map_cons List.map_nil List.getElem?_cons_zero List.getElem?_cons_succ List.cons_append List.nil_append List.append_nil List.length_map List.set_cons_zero List.set_cons_succ Nat.reduceMul eq_self Int.toNat_natCast Int.natCast_nonneg and_self true_and and_true decide_true decide_false Bool.false_eq_true Nat.zero_add Nat.add_zero List.contains_cons List.contains_nil Bool.or_false Bool.false_or beq_self_eq_true Nat.reduceBEq ne_eq not_true_eq_false not_false_eq_true Id.mk.injEq false_and and_false Nat.reduceLT Int.reduceLE Int.reduceLT Int.reduceToNat Int.reduceNeg Int.reduceAdd Nat.le_refl List.length_append beq_true beq_false Bool.not_eq_eq_eq_not or_false false_or dD ah aq aF aY bp bK aP bc aN aV cC bF
theorem E4 (g:Rows) (n:Nat) (x:ab):eA g (n+1) (aa x)=some (aa x):=by simp[aa,aS,bd,dr]
def Hw (n:Nat) (L:List ab) (r:AV) (σ':aw):Prop:=∃o:Id,r=.agg [.own o 0 L.length]/\σ'.get o=some ⟨true,3,L.map aa⟩/\n<=o.bY/\o.bY<σ'.next
theorem Hw.val {f:Nat} {args eC:List AV} {L:List ab} {σ:aw} (h:∀n,Call Tryz.prog f eC ⟨fun _=>none,n⟩ (Hw n L)) (hv:dc (dD σ.get) 6 args=some eC):Call Tryz.prog f args σ (fun r σ'=>Hw σ.next L r σ'/\Kept σ σ'):=by
 refine AM mixed hv (bf _ _ _ _ _ (fun r σ' hq=>?_) (xM mixed (h σ.next)))
 obtain⟨⟨o,rfl,h2,h3,h4⟩,hn⟩:=hq
 refine⟨[o],rfl,fun i hi=>?_,⟨o,rfl,(r8 (by simp)).trans h2,h3,h4⟩,hn,fun j hj=>pP fun hc=>?_⟩
 ·rw[List.mem_singleton.1 hi]
  exact⟨_,h2,rfl,fun cs dq a ha=>by
   obtain⟨x,_,rfl⟩:=List.mem_map.1 dq
   simp[aa]at ha
   rcases ha with rfl|rfl|rfl<;>rfl⟩
 ·rw[List.mem_singleton.1 hc]at hj;omega
theorem BS (l:List ab) (hl:l.length<=1048576) (n0:Nat):Call Tryz.prog 96 [.cR [.sl (l.map aa)]] ⟨fun _=>none,n0⟩ (Hw n0 l):=by
 refine gY eH rfl fun j8=>?_
 clear j8
 have SM:(l.map aa).length<=16777216:=by simp;omega
 have dG:(l.map aa).all (fun c=>c.length==3&&c.all AV.cell)=true:=all_map fun x=>⟨rfl,rfl⟩
 have yj:(l.map aa).length=l.length:=by simp
 generalize oJ:l.map aa=rows at SM dG yj
 (try((repeat(revert hN;revert N;apply Pn.out));refine wk (tw @SM @dG) ?_;(repeat(refine Pn.mk ?_;intro N hN))))
 exact gV (.inl rfl) (vs:=[.agg [.own ⟨96001005,n0+1⟩ 0 rows.length]]) (sd @Nat.zero_add) ⟨⟨96001005,n0+1⟩,by rw[yj];rfl,by rw[oJ];simp only[go_sem, ↓reduceIte,Nat.reduceEqDiff,Nat.reduceAdd,Nat.reduceSub,Nat.reduceLeDiff,reduceCtorEq],by(try dsimp only);omega,by(try dsimp only);omega⟩
def ua (q:ab) (l:List ab):Bool:=l.any fun x=>iI q.aC x.aC
theorem Cc {q:ab}:∀{l:List ab},ua q l=false->iG l q=l++[q]
 |[],_=>rfl
 |x::l,h=>by
  unfold ua at h
  rw[List.any_cons,Bool.or_eq_false_iff]at h
  rw[iG,if_neg (by rw[h.1];simp),Cc h.2];rfl
theorem yQ {q y:ab}:∀{l:List ab},ua q l=true->iG (l++[y]) q=iG l q++[y]
 |x::l,h=>by
  unfold ua at h
  rw[List.any_cons]at h
  rw[List.cons_append,iG,iG]
  cases hx:iI q.aC x.aC
  ·rw[hx,Bool.false_or]at h
   rw[if_neg (by simp),if_neg (by simp),yQ h];rfl
  ·simp
theorem yO {q y:ab}:∀{l:List ab},ua q l=false->iI q.aC y.aC=true->iG (l++[y]) q=l++[q]++[y]
 |[],_,hy=>by simp[iG,hy]
 |x::l,h,hy=>by
  unfold ua at h
  rw[List.any_cons,Bool.or_eq_false_iff]at h
  rw[List.cons_append,iG,if_neg (by rw[h.1];simp),yO h.2 hy];rfl
def jf (q:ab) (l:List ab):List ab:=if ua q l=true then iG l q else l
theorem vz (q:ab) (l:List ab) (y:ab):ua q (l++[y])=(ua q l||iI q.aC y.aC):=by simp[ua]
theorem GU (q:ab) (l:List ab):(jf q l).length<=l.length+1:=by
 unfold jf
 split
 ·rw[oX];omega
 ·omega
theorem JH {q y:ab} {l:List ab} (h:ua q l=true∨iI q.aC y.aC=false):jf q (l++[y])=jf q l++[y]:=by
 unfold jf
 rw[vz]
 cases hd:ua q l
 ·rw[hd]at h
  have h2:iI q.aC y.aC=false:=by rcases h with h|h;cases h;exact h
  simp[h2]
 ·simp[yQ hd]
theorem JG {q y:ab} {l:List ab} (h:ua q l=false) (hy:iI q.aC y.aC=true):jf q (l++[y])=jf q l++[q]++[y]:=by
 unfold jf
 rw[vz,h,hy]
 simp[yO h hy]
def Tj (m:Nat) (L:List ab) (v:AV) (g:Rows) (n:Nat):Prop:=(L=[]/\v=.cm)∨∃o:Id,v=.own o 0 L.length/\g o=some ⟨true,3,L.map aa⟩/\m<=o.bY/\o.bY<n
theorem Kf {l:List ab} {k:Nat} (hk:k<l.length):l.take (k+1)=l.take k++[aD l k]:=by rw[List.take_succ_eq_append_getElem hk,ei hk]
theorem rR (L:List ab) (q:ab):(L++[q]).map aa=L.map aa++[[.int .i64 q.aC.eT,.int .i64 q.aC.eO,.int .i64 q.aQ]]:=by rw[List.map_append];rfl
theorem iU (L:List ab) (q:ab):(L++[q]).length=L.length+1:=by rw[List.length_append];rfl
theorem Ji (l:List ab) (hl:l.length<=1048576) (p:au) (t:Int) (n0:Nat):Call Tryz.prog 162 [.cR [.sl (l.map aa)],.agg (ae p),.int .i64 t] ⟨fun _=>none,n0⟩ (Hw n0 (iG l ⟨p,t⟩)):=by
 refine gY eH rfl fun j8=>?_
 clear j8
 obtain⟨q,hq⟩:∃q:ab,q=⟨p,t⟩:=⟨_,rfl⟩
 (try((repeat(revert hN;revert N;apply Pn.out));refine wk @ae.eq_1 ?_;(repeat(refine Pn.mk ?_;intro N hN))))
 refine aZ (fun n env st=>∃i:Nat,n=(l.length)-i/\i<=(l.length)/\env 9=.int .i64 (i:Int)/\env 8=.bool (ua q (l.take i))/\st.get ⟨162000000,n0⟩=some ⟨true,2,[ae p]⟩/\st.get ⟨162000001,n0⟩=some ⟨true,1,[[.cm]]⟩/\(n0+2<=st.next/\∃v,st.get ⟨162001001,n0+1⟩=some ⟨true,1,[[v]]⟩/\Tj (n0+2) (jf q (l.take i)) v st.get st.next)) (l.length) ⟨0,by omega,by omega,sl @ae.eq_1,sl @ae.eq_1,sl @ae.eq_1,sl @ae.eq_1,by(try dsimp only);exact⟨by omega,.cm,sd @Nat.zero_add,.inl ⟨rfl,rfl⟩⟩⟩ ?_
 rintro n_a env_a st_a ⟨i,rfl,ale,a9,a8,ag0,ag1,qQ⟩ ez
 have a0:=ez 0 (by kernel_rfl);have a2:=ez 2 (by kernel_rfl);have a4:=ez 4 (by kernel_rfl);have a6:=ez 6 (by kernel_rfl);have a7:=ez 7 (by kernel_rfl)
 simp only[go_sem, ↓reduceIte,Nat.reduceEqDiff,Nat.reduceAdd,Nat.reduceSub,Nat.reduceLeDiff,reduceCtorEq,ae]at a0 a2 a4 a6 a7
 clear ez
 obtain⟨an,v,av,aG⟩:=qQ
 have vA:=dP (i:=⟨162000000,n0⟩) (n:=st_a.next) (by(try dsimp only);omega)
 have vB:=dP (i:=⟨162000001,n0⟩) (n:=st_a.next) (by(try dsimp only);omega)
 have vC:=dP (i:=⟨162001001,n0+1⟩) (n:=st_a.next) (by(try dsimp only);omega)
 have Lv:=GU q (l.take i)
 rw[List.length_take]at Lv
 by_cases hi:(i:Int)<(l.length:Int)
 ·have dd:∀{e:Env} {gg:Rows} {nx:Nat},(e 9=.int .i64 (IntKind.i64.wrap ((i:Int)+1)))->(e 8=.bool (ua q (l.take (i+1))))->(gg ⟨162000000,n0⟩=some ⟨true,2,[ae p]⟩)->(gg ⟨162000001,n0⟩=some ⟨true,1,[[.cm]]⟩)->(n0+2<=nx/\∃v,gg ⟨162001001,n0+1⟩=some ⟨true,1,[[v]]⟩/\Tj (n0+2) (jf q (l.take (i+1))) v gg nx)->∃m0,m0<(l.length)-i/\∃i:Nat,m0=(l.length)-i/\i<=(l.length)/\e 9=.int .i64 (i:Int)/\e 8=.bool (ua q (l.take i))/\gg ⟨162000000,n0⟩=some ⟨true,2,[ae p]⟩/\gg ⟨162000001,n0⟩=some ⟨true,1,[[.cm]]⟩/\(n0+2<=nx/\∃v,gg ⟨162001001,n0+1⟩=some ⟨true,1,[[v]]⟩/\Tj (n0+2) (jf q (l.take i)) v gg nx):=fun x1 x2 x3 x4 x5=>⟨_,by omega,i+1,rfl,by omega,(by rw[x1,az (by omega)]),x2,x3,x4,x5⟩
  have fc:i<l.length:=by omega
  have jM:=fa fc
  have dJ:=lH p (aD l i).aC
  have mm:=Kf fc
  have Rk:iI q.aC (aD l i).aC=iI p (aD l i).aC:=by rw[hq]
  have eF:(l.map aa).length=l.length:=by simp
  have KH:=vz q (l.take i) (aD l i)
  rw[<-mm,Rk]at KH
  rw[ae,ae]at dJ
  by_cases hc:ua q (l.take i)=true∨iI p (aD l i).aC=false
  ·have kr:=JH (q:=q) (y:=aD l i) (l:=l.take i) (by rw[Rk];exact hc)
   rw[<-mm]at kr
   generalize jf q (l.take i)=L at aG kr Lv
   have xz:=iU L (aD l i)
   have rI:=rR L (aD l i)
   have nQ:ua q (l.take (i+1))=ua q (l.take i):=by
    rw[KH]
    rcases hc with h|h<;>rw[h]<;>simp
   rcases aG with⟨hL,rfl⟩|⟨o,rfl,ao,aon,aov⟩
   ·subst hL
    cases hd:ua q (l.take i)
    ·have h2:iI p (aD l i).aC=false:=by rcases hc with h|h;rw[hd]at h;cases h;exact h
     rw[h2]at dJ
     rw[hd]at a8 nQ
     (repeat(first|((repeat(revert hN;revert N;apply Pn.out));refine wk (tw @a9 (tw @a8 (tw @ag0 (tw @ag1 (tw @a0 (tw @a2 (tw @a4 (tw @a6 (tw @a7 (tw @hi (tw @jM (tw @vA (tw @vB (tw @vC (tw @av (tw @eF (tw @ae.eq_1 @aa.eq_1))))))))))))))))) ?_;(repeat(refine Pn.mk ?_;intro N hN)))|((try apply Or.inl);refine⟨_,aj.x (dJ) (sd (tw @a9 (tw @a8 (tw @ag0 (tw @ag1 (tw @a0 (tw @a2 (tw @a4 (tw @a6 (tw @a7 (tw @hi (tw @jM (tw @vA (tw @vB (tw @vC (tw @av (tw @eF (tw @ae.eq_1 @aa.eq_1)))))))))))))))))),?_⟩;refine hN _ _ ?_;clear hN N)))
     refine dd ?_ ?_ ?_ ?_ (by(try dsimp only);exact⟨by omega,_,sl @Nat.zero_add,.inr ⟨⟨162009010,st_a.next+1+1⟩,by rw[kr,xz]<;>(simp only[go_sem, ↓reduceIte,Nat.reduceEqDiff,Nat.reduceAdd,Nat.reduceSub,Nat.reduceLeDiff,reduceCtorEq]<;>rfl),by rw[kr,rI]<;>(simp only[go_sem, ↓reduceIte,Nat.reduceEqDiff,Nat.reduceAdd,Nat.reduceSub,Nat.reduceLeDiff,reduceCtorEq]<;>rfl),by(try dsimp only);omega,by(try dsimp only);omega⟩⟩)
     all_goals simp only[go_sem, ↓reduceIte,Nat.reduceEqDiff,Nat.reduceAdd,Nat.reduceSub,Nat.reduceLeDiff,reduceCtorEq,a9,a8,ag0,ag1,a0,a2,a4,a6,a7,nQ,vA,vB,vC,ae]
    ·rw[hd]at a8 nQ
     (try((repeat(revert hN;revert N;apply Pn.out));refine wk (tw @a9 (tw @a8 (tw @ag0 (tw @ag1 (tw @a0 (tw @a2 (tw @a4 (tw @a6 (tw @a7 (tw @hi (tw @jM (tw @vA (tw @vB (tw @vC (tw @av (tw @eF (tw @ae.eq_1 @aa.eq_1))))))))))))))))) ?_;(repeat(refine Pn.mk ?_;intro N hN))))
     refine dd ?_ ?_ ?_ ?_ (by(try dsimp only);exact⟨by omega,_,sl @Nat.zero_add,.inr ⟨⟨162009010,st_a.next+1+1⟩,by rw[kr,xz]<;>(simp only[go_sem, ↓reduceIte,Nat.reduceEqDiff,Nat.reduceAdd,Nat.reduceSub,Nat.reduceLeDiff,reduceCtorEq]<;>rfl),by rw[kr,rI]<;>(simp only[go_sem, ↓reduceIte,Nat.reduceEqDiff,Nat.reduceAdd,Nat.reduceSub,Nat.reduceLeDiff,reduceCtorEq]<;>rfl),by(try dsimp only);omega,by(try dsimp only);omega⟩⟩)
     all_goals simp only[go_sem, ↓reduceIte,Nat.reduceEqDiff,Nat.reduceAdd,Nat.reduceSub,Nat.reduceLeDiff,reduceCtorEq,a9,a8,ag0,ag1,a0,a2,a4,a6,a7,nQ,vA,vB,vC,ae]
   ·have vo:=dP aov
    have oA:=cZ (a:=⟨162000000,n0⟩) (b:=o) (by(try dsimp only);omega)
    have oB:=cZ (a:=⟨162000001,n0⟩) (b:=o) (by(try dsimp only);omega)
    have oC:=cZ (a:=⟨162001001,n0+1⟩) (b:=o) (by(try dsimp only);omega)
    have MR:(L.map aa).length=L.length:=by simp
    have MP:L.length<=16777215:=by omega
    cases hd:ua q (l.take i)
    ·have h2:iI p (aD l i).aC=false:=by rcases hc with h|h;rw[hd]at h;cases h;exact h
     rw[h2]at dJ
     rw[hd]at a8 nQ
     (repeat(first|((repeat(revert hN;revert N;apply Pn.out));refine wk (tw @a9 (tw @a8 (tw @ag0 (tw @ag1 (tw @a0 (tw @a2 (tw @a4 (tw @a6 (tw @a7 (tw @hi (tw @jM (tw @vA (tw @vB (tw @vC (tw @vo (tw @oA (tw @oB (tw @oC (tw @ao (tw @av (tw @eF (tw @MR (tw @MP (tw @ae.eq_1 @aa.eq_1)))))))))))))))))))))))) ?_;(repeat(refine Pn.mk ?_;intro N hN)))|((try apply Or.inl);refine⟨_,aj.x (dJ) (sd (tw @a9 (tw @a8 (tw @ag0 (tw @ag1 (tw @a0 (tw @a2 (tw @a4 (tw @a6 (tw @a7 (tw @hi (tw @jM (tw @vA (tw @vB (tw @vC (tw @vo (tw @oA (tw @oB (tw @oC (tw @ao (tw @av (tw @eF (tw @MR (tw @MP (tw @ae.eq_1 @aa.eq_1))))))))))))))))))))))))),?_⟩;refine hN _ _ ?_;clear hN N)))
     refine dd ?_ ?_ ?_ ?_ (by(try dsimp only);exact⟨by omega,_,sl @Nat.zero_add,.inr ⟨⟨162009010,st_a.next+1+1⟩,by rw[kr,xz]<;>(simp only[go_sem, ↓reduceIte,Nat.reduceEqDiff,Nat.reduceAdd,Nat.reduceSub,Nat.reduceLeDiff,reduceCtorEq]<;>rfl),by rw[kr,rI]<;>(simp only[go_sem, ↓reduceIte,Nat.reduceEqDiff,Nat.reduceAdd,Nat.reduceSub,Nat.reduceLeDiff,reduceCtorEq]<;>rfl),by(try dsimp only);omega,by(try dsimp only);omega⟩⟩)
     all_goals simp only[go_sem, ↓reduceIte,Nat.reduceEqDiff,Nat.reduceAdd,Nat.reduceSub,Nat.reduceLeDiff,reduceCtorEq,a9,a8,ag0,ag1,a0,a2,a4,a6,a7,nQ,vA,vB,vC,oA,oB,oC,ae]
    ·rw[hd]at a8 nQ
     (try((repeat(revert hN;revert N;apply Pn.out));refine wk (tw @a9 (tw @a8 (tw @ag0 (tw @ag1 (tw @a0 (tw @a2 (tw @a4 (tw @a6 (tw @a7 (tw @hi (tw @jM (tw @vA (tw @vB (tw @vC (tw @vo (tw @oA (tw @oB (tw @oC (tw @ao (tw @av (tw @eF (tw @MR (tw @MP (tw @ae.eq_1 @aa.eq_1)))))))))))))))))))))))) ?_;(repeat(refine Pn.mk ?_;intro N hN))))
     refine dd ?_ ?_ ?_ ?_ (by(try dsimp only);exact⟨by omega,_,sl @Nat.zero_add,.inr ⟨⟨162009010,st_a.next+1+1⟩,by rw[kr,xz]<;>(simp only[go_sem, ↓reduceIte,Nat.reduceEqDiff,Nat.reduceAdd,Nat.reduceSub,Nat.reduceLeDiff,reduceCtorEq]<;>rfl),by rw[kr,rI]<;>(simp only[go_sem, ↓reduceIte,Nat.reduceEqDiff,Nat.reduceAdd,Nat.reduceSub,Nat.reduceLeDiff,reduceCtorEq]<;>rfl),by(try dsimp only);omega,by(try dsimp only);omega⟩⟩)
     all_goals simp only[go_sem, ↓reduceIte,Nat.reduceEqDiff,Nat.reduceAdd,Nat.reduceSub,Nat.reduceLeDiff,reduceCtorEq,a9,a8,ag0,ag1,a0,a2,a4,a6,a7,nQ,vA,vB,vC,oA,oB,oC,ae]
  ·have hd:ua q (l.take i)=false:=by
    cases h:ua q (l.take i)
    ·rfl
    ·exact absurd (.inl h) hc
   have h2:iI p (aD l i).aC=true:=by
    cases h:iI p (aD l i).aC
    ·exact absurd (.inr h) hc
    ·rfl
   have kr:=JG (q:=q) (y:=aD l i) hd (by rw[Rk];exact h2)
   rw[<-mm]at kr
   have nQ:ua q (l.take (i+1))=true:=by rw[KH,h2];simp
   rw[hd]at a8
   rw[h2]at dJ
   have SV:aa q=[.int .i64 p.eT,.int .i64 p.eO,.int .i64 t]:=by rw[hq];rfl
   generalize jf q (l.take i)=L at aG kr Lv
   have xz:=iU (L++[q]) (aD l i)
   have rI:=rR (L++[q]) (aD l i)
   have Uz:=iU L q
   have UA:(L++[q]).map aa=L.map aa++[[.int .i64 p.eT,.int .i64 p.eO,.int .i64 t]]:=by rw[List.map_append,List.map_singleton,SV]
   rw[Uz]at xz
   rw[UA]at rI
   rcases aG with⟨hL,rfl⟩|⟨o,rfl,ao,aon,aov⟩
   ·subst hL
    (repeat(first|((repeat(revert hN;revert N;apply Pn.out));refine wk (tw @a9 (tw @a8 (tw @ag0 (tw @ag1 (tw @a0 (tw @a2 (tw @a4 (tw @a6 (tw @a7 (tw @hi (tw @jM (tw @vA (tw @vB (tw @vC (tw @av (tw @eF (tw @ae.eq_1 @aa.eq_1))))))))))))))))) ?_;(repeat(refine Pn.mk ?_;intro N hN)))|((try apply Or.inl);refine⟨_,aj.x (dJ) (sd (tw @a9 (tw @a8 (tw @ag0 (tw @ag1 (tw @a0 (tw @a2 (tw @a4 (tw @a6 (tw @a7 (tw @hi (tw @jM (tw @vA (tw @vB (tw @vC (tw @av (tw @eF (tw @ae.eq_1 @aa.eq_1)))))))))))))))))),?_⟩;refine hN _ _ ?_;clear hN N)))
    refine dd ?_ ?_ ?_ ?_ (by(try dsimp only);exact⟨by omega,_,sl @Nat.zero_add,.inr ⟨⟨162009010,st_a.next+1+1+1+1⟩,by rw[kr,xz]<;>(simp only[go_sem, ↓reduceIte,Nat.reduceEqDiff,Nat.reduceAdd,Nat.reduceSub,Nat.reduceLeDiff,reduceCtorEq]<;>rfl),by rw[kr,rI]<;>(simp only[go_sem, ↓reduceIte,Nat.reduceEqDiff,Nat.reduceAdd,Nat.reduceSub,Nat.reduceLeDiff,reduceCtorEq]<;>rfl),by(try dsimp only);omega,by(try dsimp only);omega⟩⟩)
    all_goals simp only[go_sem, ↓reduceIte,Nat.reduceEqDiff,Nat.reduceAdd,Nat.reduceSub,Nat.reduceLeDiff,reduceCtorEq,a9,a8,ag0,ag1,a0,a2,a4,a6,a7,nQ,vA,vB,vC,ae]
   ·have vo:=dP aov
    have oA:=cZ (a:=⟨162000000,n0⟩) (b:=o) (by(try dsimp only);omega)
    have oB:=cZ (a:=⟨162000001,n0⟩) (b:=o) (by(try dsimp only);omega)
    have oC:=cZ (a:=⟨162001001,n0+1⟩) (b:=o) (by(try dsimp only);omega)
    have MR:(L.map aa).length=L.length:=by simp
    have MP:L.length<=16777214:=by omega
    have QL:L.length<=16777215:=by omega
    (repeat(first|((repeat(revert hN;revert N;apply Pn.out));refine wk (tw @a9 (tw @a8 (tw @ag0 (tw @ag1 (tw @a0 (tw @a2 (tw @a4 (tw @a6 (tw @a7 (tw @hi (tw @jM (tw @vA (tw @vB (tw @vC (tw @vo (tw @oA (tw @oB (tw @oC (tw @ao (tw @av (tw @eF (tw @MR (tw @MP (tw @QL (tw @ae.eq_1 @aa.eq_1))))))))))))))))))))))))) ?_;(repeat(refine Pn.mk ?_;intro N hN)))|((try apply Or.inl);refine⟨_,aj.x (dJ) (sd (tw @a9 (tw @a8 (tw @ag0 (tw @ag1 (tw @a0 (tw @a2 (tw @a4 (tw @a6 (tw @a7 (tw @hi (tw @jM (tw @vA (tw @vB (tw @vC (tw @vo (tw @oA (tw @oB (tw @oC (tw @ao (tw @av (tw @eF (tw @MR (tw @MP (tw @QL (tw @ae.eq_1 @aa.eq_1)))))))))))))))))))))))))),?_⟩;refine hN _ _ ?_;clear hN N)))
    refine dd ?_ ?_ ?_ ?_ (by(try dsimp only);exact⟨by omega,_,sl @Nat.zero_add,.inr ⟨⟨162009010,st_a.next+1+1+1+1⟩,by rw[kr,xz]<;>(simp only[go_sem, ↓reduceIte,Nat.reduceEqDiff,Nat.reduceAdd,Nat.reduceSub,Nat.reduceLeDiff,reduceCtorEq]<;>rfl),by rw[kr,rI]<;>(simp only[go_sem, ↓reduceIte,Nat.reduceEqDiff,Nat.reduceAdd,Nat.reduceSub,Nat.reduceLeDiff,reduceCtorEq]<;>rfl),by(try dsimp only);omega,by(try dsimp only);omega⟩⟩)
    all_goals simp only[go_sem, ↓reduceIte,Nat.reduceEqDiff,Nat.reduceAdd,Nat.reduceSub,Nat.reduceLeDiff,reduceCtorEq,a9,a8,ag0,ag1,a0,a2,a4,a6,a7,nQ,vA,vB,vC,oA,oB,oC,ae]
 ·have lO:i=l.length:=by omega
  subst lO
  rw[List.take_length]at a8 aG Lv
  cases hd:ua q l
  ·rw[hd]at a8
   have kr:iG l ⟨p,t⟩=jf q l++[q]:=by rw[<-hq,Cc hd,jf,hd];simp
   have SV:aa q=[.int .i64 p.eT,.int .i64 p.eO,.int .i64 t]:=by rw[hq];rfl
   generalize jf q l=L at aG Lv kr
   have xz:=iU L q
   have rI:(L++[q]).map aa=L.map aa++[[.int .i64 p.eT,.int .i64 p.eO,.int .i64 t]]:=by rw[List.map_append,List.map_singleton,SV]
   rcases aG with⟨hL,rfl⟩|⟨o,rfl,ao,aon,aov⟩
   ·subst hL
    (try((repeat(revert hN;revert N;apply Pn.out));refine wk (tw @a9 (tw @a8 (tw @ag0 (tw @ag1 (tw @a0 (tw @a2 (tw @a4 (tw @a6 (tw @a7 (tw @hi (tw @vA (tw @vB (tw @vC (tw @av (tw @ae.eq_1 @aa.eq_1))))))))))))))) ?_;(repeat(refine Pn.mk ?_;intro N hN))))
    exact gV (.inl rfl) (vs:=[.agg [.own ⟨162011006,st_a.next+1+1⟩ 0 1]]) (sd (tw @a9 (tw @a8 (tw @ag0 (tw @ag1 (tw @a0 (tw @a2 (tw @a4 (tw @a6 (tw @a7 @vB)))))))))) ⟨⟨162011006,st_a.next+1+1⟩,by rw[kr];rfl,by rw[kr];simp only[go_sem, ↓reduceIte,Nat.reduceEqDiff,Nat.reduceAdd,Nat.reduceSub,Nat.reduceLeDiff,reduceCtorEq,vB];rw[SV],by(try dsimp only);omega,by(try dsimp only);omega⟩
   ·have vo:=dP aov
    have oA:=cZ (a:=⟨162000000,n0⟩) (b:=o) (by(try dsimp only);omega)
    have oB:=cZ (a:=⟨162000001,n0⟩) (b:=o) (by(try dsimp only);omega)
    have oC:=cZ (a:=⟨162001001,n0+1⟩) (b:=o) (by(try dsimp only);omega)
    have MR:(L.map aa).length=L.length:=by simp
    have MP:L.length<=16777215:=by omega
    (try((repeat(revert hN;revert N;apply Pn.out));refine wk (tw @a9 (tw @a8 (tw @ag0 (tw @ag1 (tw @a0 (tw @a2 (tw @a4 (tw @a6 (tw @a7 (tw @hi (tw @vA (tw @vB (tw @vC (tw @vo (tw @oA (tw @oB (tw @oC (tw @ao (tw @av (tw @MR (tw @MP (tw @ae.eq_1 @aa.eq_1)))))))))))))))))))))) ?_;(repeat(refine Pn.mk ?_;intro N hN))))
    exact gV (.inl rfl) (vs:=[.agg [.own ⟨162011006,st_a.next+1+1⟩ 0 (L.length+1)]]) (sd (tw @a9 (tw @a8 (tw @ag0 (tw @ag1 (tw @a0 (tw @a2 (tw @a4 (tw @a6 (tw @a7 @vB)))))))))) ⟨⟨162011006,st_a.next+1+1⟩,by rw[kr,xz];rfl,by rw[kr,rI];simp only[go_sem, ↓reduceIte,Nat.reduceEqDiff,Nat.reduceAdd,Nat.reduceSub,Nat.reduceLeDiff,reduceCtorEq,vB],by(try dsimp only);omega,by(try dsimp only);omega⟩
  ·rw[hd]at a8
   have kr:iG l ⟨p,t⟩=jf q l:=by rw[<-hq,jf,hd];simp
   have kn:0<(jf q l).length:=by rw[<-kr,oX];omega
   generalize jf q l=L at aG Lv kn kr
   rcases aG with⟨hL,rfl⟩|⟨o,rfl,ao,aon,aov⟩
   ·subst hL;cases kn
   ·have vo:=dP aov
    have oB:=cZ (a:=⟨162000001,n0⟩) (b:=o) (by(try dsimp only);omega)
    (try((repeat(revert hN;revert N;apply Pn.out));refine wk (tw @a9 (tw @a8 (tw @ag0 (tw @ag1 (tw @a0 (tw @a2 (tw @a4 (tw @a6 (tw @a7 (tw @hi (tw @vA (tw @vB (tw @vC (tw @vo (tw @ao (tw @av (tw @ae.eq_1 @aa.eq_1))))))))))))))))) ?_;(repeat(refine Pn.mk ?_;intro N hN))))
    exact gV (.inl rfl) (vs:=[.agg [.own o 0 L.length]]) (sd (tw @a9 (tw @a8 (tw @ag0 (tw @ag1 (tw @a0 (tw @a2 (tw @a4 (tw @a6 (tw @a7 @vB)))))))))) ⟨o,by rw[kr];rfl,by rw[kr];simp only[go_sem, ↓reduceIte,Nat.reduceEqDiff,Nat.reduceAdd,Nat.reduceSub,Nat.reduceLeDiff,reduceCtorEq,vB,oB,ao],by(try dsimp only);omega,by(try dsimp only);omega⟩
theorem Jk (s:ax) (hP:AQ s) (l:List ab) (hA:gL s.aJ l) (p:au) (t:Int) (ht:eP s.aJ t=true):aj Tryz.prog 171 [.cR (ar s),.cR [.sl (l.map aa)],.agg [.int .i64 p.eT,.int .i64 p.eO,.int .i64 t]] (.bool (jF s l p t)):=by
 refine aj.body eH rfl fun j8 n0=>?_
 clear j8
 have h1:=we p
 have h2:=(wg s.aJ t).cut mixed (.ptr _ [.sl (s.aU.ai.map aa),.int .i64 s.aB] (.same _ .nil))
 have h3:=kV l p hA.1.uh (by have:=hA.1.lL;omega)
 rw[ht]at h2
 by_cases h0:Cb p=true
 ·rw[h0]at h1
  obtain⟨hx,hy⟩:=s6 h0
  by_cases hi:dm l p<0
  ·have h4:=(zO s.aJ hP.set l hA p hx hy t ht).cut mixed (.ptr _ [.sl (s.aU.ai.map aa),.int .i64 s.aB] (.same _ (.same _ (.same _ .nil))))
   have e:jF s l p t=decide (s.aB<=tr s.aJ (fK l) p t):=by simp[jF,h0,(HX hA p).2 hi]
   rw[e]
   (repeat(first|((repeat(revert hN;revert N;apply Pn.out));refine wk (tw @ar.eq_1 (tw @ad.eq_1 (tw @ae.eq_1 @hi))) ?_;(repeat(refine Pn.mk ?_;intro N hN)))|((try apply Or.inl);refine⟨_,aj.x (h1) (sd (tw @ar.eq_1 (tw @ad.eq_1 (tw @ae.eq_1 @hi)))),?_⟩;refine hN _ _ ?_;clear hN N)|((try apply Or.inl);refine⟨_,aj.x (h2) (sd (tw @ar.eq_1 (tw @ad.eq_1 (tw @ae.eq_1 @hi)))),?_⟩;refine hN _ _ ?_;clear hN N)|((try apply Or.inl);refine⟨_,aj.x (h3) (sd (tw @ar.eq_1 (tw @ad.eq_1 (tw @ae.eq_1 @hi)))),?_⟩;refine hN _ _ ?_;clear hN N)|((try apply Or.inl);refine⟨_,aj.x (h4) (sd (tw @ar.eq_1 (tw @ad.eq_1 (tw @ae.eq_1 @hi)))),?_⟩;refine hN _ _ ?_;clear hN N)))
   exact aM (b:=decide (s.aB<=tr s.aJ (fK l) p t)) (.inl rfl) (sd @Nat.zero_add) rfl
  ·have e:jF s l p t=false:=by
    have:¬fK l p<0:=fun h=>hi ((HX hA p).1 h)
    simp[jF,this]
   rw[e]
   (repeat(first|((repeat(revert hN;revert N;apply Pn.out));refine wk (tw @ar.eq_1 (tw @ad.eq_1 (tw @ae.eq_1 @hi))) ?_;(repeat(refine Pn.mk ?_;intro N hN)))|((try apply Or.inl);refine⟨_,aj.x (h1) (sd (tw @ar.eq_1 (tw @ad.eq_1 (tw @ae.eq_1 @hi)))),?_⟩;refine hN _ _ ?_;clear hN N)|((try apply Or.inl);refine⟨_,aj.x (h2) (sd (tw @ar.eq_1 (tw @ad.eq_1 (tw @ae.eq_1 @hi)))),?_⟩;refine hN _ _ ?_;clear hN N)|((try apply Or.inl);refine⟨_,aj.x (h3) (sd (tw @ar.eq_1 (tw @ad.eq_1 (tw @ae.eq_1 @hi)))),?_⟩;refine hN _ _ ?_;clear hN N)))
   exact aM (b:=false) (.inl rfl) (sd @Nat.zero_add) rfl
 ·rw[Bool.not_eq_true]at h0
  rw[h0]at h1
  have e:jF s l p t=false:=by simp[jF,h0]
  rw[e]
  (repeat(first|((repeat(revert hN;revert N;apply Pn.out));refine wk (tw @ar.eq_1 (tw @ad.eq_1 @ae.eq_1)) ?_;(repeat(refine Pn.mk ?_;intro N hN)))|((try apply Or.inl);refine⟨_,aj.x (h1) (sd (tw @ar.eq_1 (tw @ad.eq_1 @ae.eq_1))),?_⟩;refine hN _ _ ?_;clear hN N)))
  exact aM (b:=false) (.inl rfl) (sd @Nat.zero_add) rfl
theorem FW (ps:List ab) (hp:0<ps.length) (hl:ps.length<=1048576) (σ:aw):
  Call Tryz.prog 166 [.sl (ps.map aa)] σ fun r σ'=>∃o:Id,r=.own o 0 ps.length/\σ'.get o=some ⟨true,3,ps.map aa⟩/\σ.next<=o.bY/\o.bY<σ'.next/\∀i:Id,i.bY<σ.next->σ'.get i=σ.get i:=by
 refine gY eH rfl fun hl=>?_
 clear hl
 have hz:(ps.map aa).all (fun c=>c.length==3&&c.all AV.cell)=true:=all_map fun x=>by simp[aa,AV.cell]
 obtain⟨b,r,rfl⟩:∃b r,ps=b::r:=by
  cases ps with
  |nil=>simp at hp
  |cons b r=>exact⟨b,r,rfl⟩
 have eF:(List.map aa (b::r)).length=(b::r).length:=by simp
 have e1:r.length<=16777215:=by simp at hl;omega
 rw[List.map_cons]at hz eF ⊢
 (try((repeat(revert hN;revert N;apply Pn.out));refine wk (tw @hz (tw @eF @e1)) ?_;(repeat(refine Pn.mk ?_;intro N hN))))
 refine gV (.inl rfl) (vs:=[.own ⟨166003002,σ.next+1+1⟩ 0 (b::r).length]) (by simp only[fe,ig,go_sem, ↓reduceIte,Nat.reduceEqDiff,Nat.reduceAdd,Nat.reduceSub,Nat.reduceLeDiff,reduceCtorEq,List.length_cons]) ⟨⟨166003002,σ.next+1+1⟩,rfl,sd @Nat.zero_add,by(try dsimp only);omega,by(try dsimp only);omega,fun i hi=>?_⟩
 have hv:=dP hi
 simp only[go_sem, ↓reduceIte,Nat.reduceEqDiff,Nat.reduceAdd,Nat.reduceSub,Nat.reduceLeDiff,reduceCtorEq,hv]
def Sh (n:Nat) (L:List ab) (r:AV) (σ':aw):Prop:=∃(o:Id) (J:List ab),r=.agg [.own o 0 L.length]/\σ'.get o=some ⟨true,3,(L++J).map aa⟩/\n<=o.bY/\o.bY<σ'.next
theorem Sh.val {f:Nat} {args eC:List AV} {L:List ab} {σ:aw} (h:∀n,Call Tryz.prog f eC ⟨fun _=>none,n⟩ (Sh n L)) (hv:dc (dD σ.get) 6 args=some eC):Call Tryz.prog f args σ (fun r σ'=>Sh σ.next L r σ'/\Kept σ σ'):=by
 refine AM mixed hv (bf _ _ _ _ _ (fun r σ' hq=>?_) (xM mixed (h σ.next)))
 obtain⟨⟨o,J,rfl,h2,h3,h4⟩,hn⟩:=hq
 refine⟨[o],rfl,fun i hi=>?_,⟨o,J,rfl,(r8 (by simp)).trans h2,h3,h4⟩,hn,fun j hj=>pP fun hc=>?_⟩
 ·rw[List.mem_singleton.1 hi]
  exact⟨_,h2,rfl,fun cs dq a ha=>by
   obtain⟨x,_,rfl⟩:=List.mem_map.1 dq
   simp[aa]at ha
   rcases ha with rfl|rfl|rfl<;>rfl⟩
 ·rw[List.mem_singleton.1 hc]at hj;omega
theorem Hq (a:List ab) (qs:List au) (h0:0<a.length) (ha:a.length<=1048576) (hq:qs.length<=1048576) (n0:Nat):Call Tryz.prog 111 [.agg [.sl (a.map aa)],.sl (qs.map ae)] ⟨fun _=>none,n0⟩ (Sh n0 (cV (iS qs) a)):=by
 refine gY eH rfl fun hl=>?_
 clear hl
 have hc:=fun σ=>FW a h0 ha σ
 (try((repeat(revert hN;revert N;apply Pn.out));refine wk @Nat.zero_add ?_;(repeat(refine Pn.mk ?_;intro N hN))))
 refine .inr (bf _ _ _ _ _ (fun r σ1 M3=>?_) (hc _))
 obtain⟨g1,x1⟩:=σ1
 obtain⟨o,rfl,q1,q2,q3,q4⟩:=M3
 (try dsimp only at q1 q2 q3 q4)
 have kA:=q4 ⟨111000001,n0⟩ (by(try dsimp only);omega)
 have kC:=q4 ⟨111000002,n0⟩ (by(try dsimp only);omega)
 simp only[go_sem, ↓reduceIte,Nat.reduceEqDiff,Nat.reduceAdd,Nat.reduceSub,Nat.reduceLeDiff,reduceCtorEq]at kA kC
 refine hN _ _ ?_
 clear hN N
 (try((repeat(revert hN;revert N;apply Pn.out));refine wk @Nat.zero_add ?_;(repeat(refine Pn.mk ?_;intro N hN))))
 refine .inr (bf _ _ _ _ _ (fun r σ2 Gk=>?_) (F4 qs hq a [] ha o ⟨111000001,n0⟩ _ (by rw[List.append_nil];exact q1) kA (by(try dsimp only);omega) (by(try dsimp only);omega) (fun e=>by first|(rw[e]at q2;(try dsimp only at q2);omega)|(rw[<-e]at q2;(try dsimp only at q2);omega))))
 obtain⟨g2,x2⟩:=σ2
 obtain⟨J,rfl,u1,u4,u5⟩:=Gk
 (try dsimp only at u1 u4 u5)
 have kC2:=(u5 ⟨111000002,n0⟩ (by(try dsimp only);omega) (fun e=>by first|(rw[e]at q2;(try dsimp only at q2);omega)|(rw[<-e]at q2;(try dsimp only at q2);omega))).trans kC
 refine hN _ _ ?_
 clear hN N
 (try((repeat(revert hN;revert N;apply Pn.out));refine wk @kC2 ?_;(repeat(refine Pn.mk ?_;intro N hN))))
 have oc:(o=(⟨111000002,n0⟩:Id))=False:=eq_false fun e=>by rw[e]at q2;(try dsimp only at q2);omega
 exact gV (.inl rfl) (vs:=[.agg [.own o 0 (cV (iS qs) a).length]]) (sd @Nat.zero_add) ⟨o,J,rfl,sd (tw @oc @u1),by omega,by(try dsimp only);omega⟩
theorem Hr (a:List ab) (qs:List au) (h0:0<a.length) (ha:a.length<=1048576) (hq:qs.length<=1048576):aj Tryz.prog 111 [.agg [.sl (a.map aa)],.sl (qs.map ae)] (.agg [.sl ((cV (iS qs) a).map aa)]):=fun n=>
 bf _ _ _ _ _ (fun r σ' hq=>by
  obtain⟨o,J,rfl,h2,_⟩:=hq
  refine⟨.agg [.sl ((cV (iS qs) a).map aa)],?_,rfl⟩
  simp only[E5,aS,bd]
  rw[rC (sz:=3) (rows:=(cV (iS qs) a++J).map aa) (rows':=(cV (iS qs) a).map aa) (n:=4) h2 (by simp) (by rw[List.drop_zero,<-List.map_take,List.take_append_of_le_length (Nat.le_refl _),List.take_length,oH fun x=>E4 _ 3 x])];rfl) (Hq a qs h0 ha hq n)
theorem rV {g:Rows} {X o:Id} {L:List ab} (hX:g X=some ⟨true,1,[[.own o 0 L.length]]⟩) (ho:g o=some ⟨true,3,L.map aa⟩):fz (dD g) 6 (.ptr X 0 0)=some (.cR [.sl (L.map aa)]):=by
 have h1:fz (dD g) 5 (.own o 0 L.length)=some (.sl (L.map aa)):=gr (e:=aa) (sz:=3) (by simp[dD,ho]) rfl fun x=>by simp[aa,ah,aq,aF]
 exact sH (n:=5) (sz:=1) (rows:=[[.own o 0 L.length]]) (cs:=[.own o 0 L.length]) (by simp[dD,hX]) rfl (by simp[ah,aq,h1])
def Tk (X:Id) (st:iL) (e7:AV) (g:Rows) (n:Nat):Prop:=∃o u:Id,g X=some ⟨true,1,[[.own o 0 st.2.length]]⟩/\g o=some ⟨true,3,st.2.map aa⟩/\e7=.own u 0 st.1.length/\g u=some ⟨true,3,st.1.map aa⟩/\o.bY<u.bY/\X.bY<u.bY/\u.bY<n/\o≠X
theorem Tk.frame {X:Id} {st:iL} {e7 MJ:AV} {g g':Rows} {n n':Nat} (h:Tk X st e7 g n) (he:MJ=e7) (hn:n<=n') (hf:∀x:Id,x.bY<n->g' x=g x):Tk X st MJ g' n':=by
 obtain⟨o,u,h1,h2,h3,h4,h5,h6,h7,h8⟩:=h
 exact⟨o,u,(hf X (by omega)).trans h1,(hf o (by omega)).trans h2,he.trans h3,(hf u h7).trans h4,h5,h6,by omega,h8⟩
theorem tK {s:ax} {st:iL} {x:ab} (h:jF s st.2 x.aC x.aQ=true):jx s st x=(st.1++[x],iG st.2 x):=if_pos h
theorem wb {s:ax} {st:iL} {x:ab} (h:jF s st.2 x.aC x.aQ=false):jx s st x=st:=if_neg (by rw[h];simp)
def AsI (σ:aw) (T:Id) (ts:List ab) (pre:List (List AV)) (e0:Env) (s0:aw):Prop:=
 ∃l':List ab,pre=l'.map aa/\((l'=[]/\e0 3=.cm)∨∃o:Id,e0 3=.own o 0 l'.length/\s0.get o=some ⟨true,3,l'.map aa⟩/\σ.next<o.bY/\o.bY<s0.next)/\σ.next<s0.next/\(∀x:Id,x.bY<σ.next->x≠T->s0.get x=σ.get x)/\s0.get T=some ⟨false,mP.pE,ts.map aa⟩/\s0.get ⟨101000000,σ.next⟩=some ⟨true,1,[[.cm]]⟩/\e0 2=.ptr ⟨101000000,σ.next⟩ 0 0
theorem GL (L:List ab) (x:ab):(L++[x]).length=L.length+1:=by rw[List.length_append];rfl
theorem CY {σ:aw} {c T O:Id} {s:ax} {ts L:List ab} (h:l6 σ.get σ.next c T O s ts) (hlen:ts.length<=100000) (h0:ts≠[]) (hR:iM L) (hp:ts.Perm L):
  Call Tryz.prog 101 [.ptr c 0 0] σ (fun r σ'=>∃o:Id,r=.agg [.own o 0 L.length]/\σ'.get o=some ⟨true,3,L.map aa⟩/\σ.next<=o.bY/\o.bY<σ'.next/\σ.next<=σ'.next/\∀x:Id,x.bY<σ.next->x≠T->σ'.get x=σ.get x):=by
 refine O7 rfl mP ?_
 have gh:=h.row
 have OK:=h.tl
 have v1:=dP h.cv
 have v2:=dP h.tv
 unfold O9
 rw[EE]
 (try((repeat(revert hN;revert N;apply Pn.out));refine wk (tw @gh @v1) ?_;(repeat(refine Pn.mk ?_;intro N hN))))
 refine Cx (R0 (id:=T) (r:=⟨true,mP.pE,ts.map aa⟩) (AsI σ T ts) (sd @EA.eq_1) (sd (tw @OK @v2)) rfl (by decide) ?_ ?_ ?_)
 ·have vT:(T=(⟨101000000,σ.next⟩:Id))=False:=eq_false fun e=>by have:=h.tv;rw[e]at this;(try dsimp only at this);omega
  have vT2:((⟨101000000,σ.next⟩:Id)=T)=False:=eq_false fun e=>by have:=h.tv;rw[<-e]at this;(try dsimp only at this);omega
  exact⟨[],rfl,.inl ⟨rfl,sd @Nat.zero_add⟩,by(try dsimp only);omega,fun x hx hT=>by
   have h1:=dP hx
   have h2:=eq_false hT
   simp only[go_sem, ↓reduceIte,Nat.reduceEqDiff,Nat.reduceAdd,Nat.reduceSub,Nat.reduceLeDiff,reduceCtorEq,h1,h2],sd @Nat.zero_add,sd @vT2,sd @Nat.zero_add⟩
 ·rintro pre cs rest e0 s0 kv vv hpp ⟨l',rfl,hout,HB,jm,hT,h5,e2⟩ hK hpart hvv
  have sO:cs∈ts.map aa:=hpp.subset (by simp)
  obtain⟨tl,hx,rfl⟩:=List.mem_map.1 sO
  have yj:=hpp.length_eq
  simp only[List.length_append,List.length_map,List.length_cons]at yj
  simp[part,aa,MK.ks]at hpart hvv
  subst hpart hvv
  rw[Ar,As]
  have Sy:=h.tv
  have vT:=dP (i:=T) (n:=s0.next) (by omega)
  have v5:=dP (i:=⟨101000000,σ.next⟩) (n:=s0.next) (by(try dsimp only);omega)
  clear hpp sO hK
  have hm1:l'.map aa++[aa tl]=(l'++[tl]).map aa:=by simp
  have xz:=GL l' tl
  have rI:(l'++[tl]).map aa=l'.map aa++[[.int .i64 tl.aC.eT,.int .i64 tl.aC.eO,.int .i64 tl.aQ]]:=by rw[List.map_append];rfl
  rcases hout with⟨MZ,e3⟩|⟨o,e3,og,on,ov⟩
  ·subst MZ
   (try((repeat(revert hN;revert N;apply Pn.out));refine wk (tw @e3 @e2) ?_;(repeat(refine Pn.mk ?_;intro N hN))))
   exact⟨[]++[tl],hm1,.inr ⟨⟨101005005,s0.next+1+1⟩,sl @Nat.zero_add,sl @Nat.zero_add,by(try dsimp only);omega,by(try dsimp only);omega⟩,by(try dsimp only);omega,fun y hy Ry=>by
    have h1:=dP (i:=y) (n:=s0.next) (by omega)
    have h2:=jm y hy Ry
    simp only[go_sem, ↓reduceIte,Nat.reduceEqDiff,Nat.reduceAdd,Nat.reduceSub,Nat.reduceLeDiff,reduceCtorEq,h1,h2],sd (tw @vT @hT),sd (tw @v5 @h5),sd @e2⟩
  ·have vo:=dP ov
   have oT:=cZ (a:=T) (b:=o) (by omega)
   have o5:=cZ (a:=⟨101000000,σ.next⟩) (b:=o) (by(try dsimp only);omega)
   have eF:(l'.map aa).length=l'.length:=by simp
   have e1:l'.length<=16777215:=by omega
   (try((repeat(revert hN;revert N;apply Pn.out));refine wk (tw @e3 (tw @e2 (tw @og (tw @vo (tw @eF @e1))))) ?_;(repeat(refine Pn.mk ?_;intro N hN))))
   exact⟨l'++[tl],hm1,.inr ⟨⟨101005005,s0.next+1+1⟩,by rw[xz];simp only[go_sem, ↓reduceIte,Nat.reduceEqDiff,Nat.reduceAdd,Nat.reduceSub,Nat.reduceLeDiff,reduceCtorEq]<;>rfl,by rw[rI];simp only[go_sem, ↓reduceIte,Nat.reduceEqDiff,Nat.reduceAdd,Nat.reduceSub,Nat.reduceLeDiff,reduceCtorEq]<;>rfl,by(try dsimp only);omega,by(try dsimp only);omega⟩,by(try dsimp only);omega,fun y hy Ry=>by
    have h1:=dP (i:=y) (n:=s0.next) (by omega)
    have h2:=jm y hy Ry
    have h3:=cZ (a:=y) (b:=o) (by omega)
    simp only[go_sem, ↓reduceIte,Nat.reduceEqDiff,Nat.reduceAdd,Nat.reduceSub,Nat.reduceLeDiff,reduceCtorEq,h1,h2,h3],sd (tw @vT (tw @oT @hT)),sd (tw @v5 (tw @o5 @h5)),sd @e2⟩
 ·rintro pre e0 s0 hpp ⟨l',rfl,hout,HB,jm,hT,h5,e2⟩ hK
  clear hK
  have ml:l'.Perm ts:=by
   have:∀{a b:List ab},(a.map aa).Perm (b.map aa)->a.Perm b:=fun {a b} po=>by
    have h2:=po.map (fun cs:List AV=>match cs with|[.int _ x,.int _ y,.int _ t]=>(⟨⟨x,y⟩,t⟩:ab)|_=>default)
    simpa[List.map_map,Function.comp_def,aa]using h2
   exact this hpp
  have Um:=ml.length_eq
  rcases hout with⟨MZ,e3⟩|⟨o,e3,og,on,ov⟩
  ·exfalso
   subst MZ
   exact h0 (List.eq_nil_of_length_eq_zero Um.symm)
  have ik:l'≠[]:=fun e=>h0 (List.eq_nil_of_length_eq_zero (by rw[<-Um,e];rfl))
  (try((repeat(revert hN;revert N;apply Pn.out));refine wk (tw @Au.eq_1 (tw @Aw.eq_1 (tw @e3 @e2))) ?_;(repeat(refine Pn.mk ?_;intro N hN))))
  refine .inr (bf _ _ _ _ _ (fun r σ1 hq=>?_) (zf l' L (by omega) ik hR (ml.trans hp) ⟨s0.get,_⟩ o (by(try dsimp only);omega) og))
  obtain⟨g1,x1⟩:=σ1
  obtain⟨o2,rfl,q1,q2,q3,q4⟩:=hq
  (try dsimp only at q1 q2 q3 q4)
  have k5:=(q4 ⟨101000000,σ.next⟩ (by(try dsimp only);omega)).trans h5
  have o25:=cZ (a:=⟨101000000,σ.next⟩) (b:=o2) (by(try dsimp only);omega)
  refine hN _ _ ?_
  clear hN N
  (try((repeat(revert hN;revert N;apply Pn.out));refine wk (tw @Au.eq_1 (tw @Aw.eq_1 (tw @e2 @k5))) ?_;(repeat(refine Pn.mk ?_;intro N hN))))
  exact gV (.inl rfl) (vs:=[.agg [.own o2 0 L.length]]) (by rw[Aw];simp only[fe,ig,go_sem, ↓reduceIte,Nat.reduceEqDiff,Nat.reduceAdd,Nat.reduceSub,Nat.reduceLeDiff,reduceCtorEq,e2]) ⟨o2,rfl,sd (tw @o25 @q1),by omega,by(try dsimp only);omega,by(try dsimp only);omega,fun y hy Ry=>by
   have h1:=dP (i:=y) (n:=σ.next) hy
   simp only[go_sem, ↓reduceIte,Nat.reduceEqDiff,Nat.reduceAdd,Nat.reduceSub,Nat.reduceLeDiff,reduceCtorEq,h1]
   exact(q4 y (by omega)).trans (jm y hy Ry)⟩
theorem l6.three {g g':Rows} {n n':Nat} {c T O:Id} {s:ax} {ts:List ab} (h:l6 g n c T O s ts) (hn:n<=n') (hc:g' c=g c) (hT:g' T=g T) (hO:g' O=g O):l6 g' n' c T O s ts:=
 ⟨hc.trans h.row,hT.trans h.tl,by rw[hO];exact h.op,Nat.lt_of_lt_of_le h.cv hn,Nat.lt_of_lt_of_le h.tv hn,Nat.lt_of_lt_of_le h.ov hn,h.cT,h.cO,h.TO⟩
theorem yP (q:ab):∀l:List ab,(l++[q]).Perm (iG l q)
 |[]=>List.Perm.refl _
 |x::l=>by
  have ih:=yP q l
  rw[iG]
  split
  ·exact List.perm_append_comm (l₁:=x::l) (l₂:=[q])
  ·exact ih.cons x
structure oi (s:ax) (S:iL):Prop where
 at_:∀q,fK (s.aU.ai++S.1) q=fK S.2 q
 perm:(s.aU.ai++S.1).Perm S.2
theorem oi.fit {s:ax} {S:iL} (h:oi s S) (p:au) (t:Int):jF s (s.aU.ai++S.1) p t=jF s S.2 p t:=by
 have e:fK (s.aU.ai++S.1)=fK S.2:=funext h.at_
 unfold jF
 rw[e]
theorem oi.no {s:ax} {S:iL} (h:oi s S) {p:au} (h0:dm S.2 p<0):dm (s.aU.ai++S.1) p<0:=lS.2 fun t ht=>lS.1 h0 t (h.perm.subset ht)
theorem oi.put {s:ax} {S:iL} (h:oi s S) {x:ab} (h0:dm S.2 x.aC<0):oi s (S.1++[x],iG S.2 x) where
 at_ q:=by
  show fK (s.aU.ai++(S.1++[x])) q=fK (iG S.2 x) q
  rw[<-List.append_assoc,zg q (lS.1 (h.no h0)),AW q (lS.1 h0),h.at_]
 perm:=by
  show(s.aU.ai++(S.1++[x])).Perm (iG S.2 x)
  rw[<-List.append_assoc]
  exact(h.perm.append_right [x]).trans (yP x S.2)
structure Nv (σ:aw) (m:Nat) (c T O:Id) (s:ax) (l:List ab) (S:iL) (e7:AV) (g:Rows) (n:Nat):Prop where
 xe:l6 g n c T O s (s.aU.ai++S.1)
 u:(S.1=[]/\e7=.cm)∨∃u:Id,e7=.own u 0 S.1.length/\g u=some ⟨true,3,S.1.map aa⟩/\m<=u.bY/\u.bY<n/\0<S.1.length
 lo:m<=n
 fr:∀x:Id,x.bY<m->x≠T->x≠O->x≠c->g x=σ.get x
theorem Nv.frame {σ:aw} {m:Nat} {c T O:Id} {s:ax} {l:List ab} {S:iL} {e7 MJ:AV} {g g':Rows} {n n':Nat} (h:Nv σ m c T O s l S e7 g n) (he:MJ=e7) (hn:n<=n') (hf:∀x:Id,x.bY<n->g' x=g x):Nv σ m c T O s l S MJ g' n' where
 xe:=h.xe.frame hn hf
 u:=by
  subst he
  rcases h.u with h1|⟨u,h1,h2,h3,h4,h5⟩
  ·exact .inl h1
  ·exact .inr ⟨u,h1,(hf u h4).trans h2,h3,by omega,h5⟩
 lo:=Nat.le_trans h.lo hn
 fr x hx h1 h2 h3:=(hf x (Nat.lt_of_lt_of_le hx h.lo)).trans (h.fr x hx h1 h2 h3)
theorem Je (s:ax) (hP:AQ s) (l:List ab) (hA:gL s.aJ l) (hW:eX s.aU.ai l=true) (σ:aw):Call Tryz.prog 161 [.agg (ar s),.agg [.sl (l.map aa)]] σ (fun r σ'=>∃v o,r=.gy [v,.agg [.own o 0 (kF s l).2.length]]/\(((kF s l).1=[]/\v=.cm)∨∃u:Id,v=.own u 0 (kF s l).1.length/\σ'.get u=some ⟨true,3,(kF s l).1.map aa⟩/\σ.next<=u.bY/\u.bY<σ'.next/\u.bY<o.bY/\0<(kF s l).1.length)/\σ'.get o=some ⟨true,3,(kF s l).2.map aa⟩/\σ.next<=o.bY/\o.bY<σ'.next/\∀x:Id,x.bY<σ.next->σ'.get x=σ.get x):=by
 refine gY eH rfl fun j8=>?_
 clear j8
 have IH:=hA.1.lL
 have KD:=sR hP hA hW
 have uB:=KD.lL
 (try dsimp only at uB)
 have hsf:=hP.nr
 (try((repeat(revert hN;revert N;apply Pn.out));refine wk @ar.eq_1 ?_;(repeat(refine Pn.mk ?_;intro N hN))))
 have hc:=fun σ=>zX s hP.set s.aU.ai hP.nr σ
 rw[ar]at hc
 refine .inr (bf _ _ _ _ _ (fun r σ1 hq=>?_) (hc _))
 obtain⟨g1,x1⟩:=σ1
 obtain⟨c,T,O,rfl,hC,T5,Sy,hOv,qz,jm⟩:=hq
 (try dsimp only at hC T5 Sy hOv qz jm)
 have k3:=jm ⟨161000001,σ.next⟩ (by(try dsimp only);omega)
 have k5:=jm ⟨161000003,σ.next⟩ (by(try dsimp only);omega)
 simp only[go_sem, ↓reduceIte,Nat.reduceEqDiff,Nat.reduceAdd,Nat.reduceSub,Nat.reduceLeDiff,reduceCtorEq]at k3 k5
 have hcx:=hC.cv
 have hTx:=hC.tv
 have hOx:=hC.ov
 refine hN _ _ ?_
 clear hN N
 (try((repeat(revert hN;revert N;apply Pn.out));refine wk (tw @k3 (tw @k5 @ar.eq_1)) ?_;(repeat(refine Pn.mk ?_;intro N hN))))
 refine aZ (fun n env st=>∃(S:iL) (m:Nat) (go:Bool),n=(if go then m else 0)/\env 8=.bool go/\(go=true->v8 s l m S=kF s l/\oF l S.2<m)/\(go=false->S=kF s l)/\oa s l S/\oi s S/\Nv ⟨g1,x1⟩ x1 c T O s l S (env 7) st.get st.next) (l.length+1) ⟨([],s.aU.ai),l.length+1,true,rfl,sd @Nat.zero_add,fun _=>⟨rfl,by have:=E0 l s.aU.ai;(try dsimp only);omega⟩,fun h=>(by cases h),KD,⟨fun q=>by simp,by simp⟩,?_⟩ ?_
 ·refine⟨?_,.inl ⟨rfl,sd @Nat.zero_add⟩,by(try dsimp only);omega,fun x hx h1 h2 h3=>sd @Nat.zero_add⟩
  have:=hC.frame (g':=g1) (n':=x1+1+1+1) (by omega) fun x hx=>rfl
  simpa using this
 rintro n1 e1 st1 ⟨S,m,go,rfl,e8,rG,hend,hI,hSm,hR⟩ hk
 have c3:=hk 3 (by kernel_rfl)
 have c5:=hk 5 (by kernel_rfl)
 have c6:=hk 6 (by kernel_rfl)
 simp only[go_sem, ↓reduceIte,Nat.reduceEqDiff,Nat.reduceAdd,Nat.reduceSub,Nat.reduceLeDiff,reduceCtorEq]at c3 c5 c6
 clear hk hc
 have nv:∀{x y:Id},x.bY<y.bY->x≠y:=fun h e=>by rw[e]at h;omega
 have b3:=(hR.fr ⟨161000001,σ.next⟩ (by(try dsimp only);omega) (nv (by(try dsimp only);omega)) (nv (by(try dsimp only);omega)) (nv (by(try dsimp only);omega))).trans k3
 have b5:=(hR.fr ⟨161000003,σ.next⟩ (by(try dsimp only);omega) (nv (by(try dsimp only);omega)) (nv (by(try dsimp only);omega)) (nv (by(try dsimp only);omega))).trans k5
 have QM:=hR.lo
 cases go
 ·have hS:=hend rfl
  subst hS
  clear hend rG
  (try((repeat(revert hN;revert N;apply Pn.out));refine wk (tw @e8 @c6) ?_;(repeat(refine Pn.mk ?_;intro N hN))))
  have uC:=hI.len
  have hsf2:=hI.lL
  refine .inr (bf _ _ _ _ _ (fun r σ2 hq=>?_) (CY (σ:=⟨st1.get,_⟩) (L:=(kF s l).2) (hR.xe.frame (by(try dsimp only);omega) fun x _=>rfl) (by rw[List.length_append];omega) (fun e=>by have:=congrArg List.length e;rw[List.length_append,List.length_nil]at this;have:=hP.some;omega) hI.uh hSm.perm))
  obtain⟨g2,x2⟩:=σ2
  obtain⟨o,rfl,q1,q2,q3,q4,q5⟩:=hq
  (try dsimp only at q1 q2 q3 q4 q5)
  have d5:=(q5 ⟨161000003,σ.next⟩ (by(try dsimp only);omega) (nv (by(try dsimp only);omega))).trans b5
  refine hN _ _ ?_
  clear hN N
  (try((repeat(revert hN;revert N;apply Pn.out));refine wk (tw @c5 (tw @d5 @c6)) ?_;(repeat(refine Pn.mk ?_;intro N hN))))
  have vv:∀x:Id,σ.next<x.bY->(x=(⟨161000003,σ.next⟩:Id))=False:=fun x hx=>eq_false fun e=>by rw[e]at hx;(try dsimp only at hx);omega
  have vo:=vv o (by omega)
  refine gV (.inl rfl) (vs:=[e1 7,.agg [.own o 0 (kF s l).2.length]]) (sd @c5) ⟨_,o,rfl,?_,sd (tw @vo @q1),by omega,by(try dsimp only);omega,fun x hx=>?_⟩
  ·rcases hR.u with h1|⟨u,h1,h2,h3,h4,h40⟩
   ·exact .inl h1
   ·have vu:=vv u (by omega)
    have h5:=(q5 u (by(try dsimp only);omega) (fun e=>by rw[e]at h3;omega)).trans h2
    exact .inr ⟨u,h1,sd (tw @vu @h5),by omega,by(try dsimp only);omega,by(try dsimp only at q2);omega,h40⟩
  ·have h1:=dP hx
   have h2:=q5 x (by omega) (nv (by omega))
   have h3:=hR.fr x (by omega) (nv (by omega)) (nv (by omega)) (nv (by omega))
   have h4:=jm x (by(try dsimp only);omega)
   simp only[go_sem, ↓reduceIte,Nat.reduceEqDiff,Nat.reduceAdd,Nat.reduceSub,Nat.reduceLeDiff,reduceCtorEq,h1]at h4
   (try dsimp only at h3)
   simp only[go_sem, ↓reduceIte,Nat.reduceEqDiff,Nat.reduceAdd,Nat.reduceSub,Nat.reduceLeDiff,reduceCtorEq,h1]
   exact h2.trans (h3.trans h4)
 ·obtain⟨hF,hm⟩:=rG rfl
  clear hend rG
  have I4:fQ s l S 0=S:=by simp[fQ]
  (try((repeat(revert hN;revert N;apply Pn.out));refine wk (tw @e8 (tw @c3 @b3)) ?_;(repeat(refine Pn.mk ?_;intro N hN))))
  refine aZ (fun n env st=>∃i:Nat,n=(l.length)-i/\i<=(l.length)/\env 19=.int .i64 (i:Int)/\(env 8=.bool (decide ((fQ s l S i).1.length≠S.1.length))/\oi s (fQ s l S i)/\Nv ⟨g1,x1⟩ x1 c T O s l (fQ s l S i) (env 7) st.get st.next)) (l.length) ⟨0,by omega,by omega,sl (tw @c3 (tw @c5 @c6)),by(try dsimp only);exact⟨by rw[I4];simp only[go_sem, ↓reduceIte,Nat.reduceEqDiff,Nat.reduceAdd,Nat.reduceSub,Nat.reduceLeDiff,reduceCtorEq]<;>simp,by rw[I4];exact hSm,by rw[I4];exact hR.frame (sd @Nat.zero_add) (by(try dsimp only);omega) fun x _=>rfl⟩⟩ ?_
  rintro n_b env_b st_b ⟨i,rfl,ble,b19,bI0⟩ fM
  have b3:=fM 3 (by kernel_rfl);have b5:=fM 5 (by kernel_rfl);have b6:=fM 6 (by kernel_rfl);have KA:=fM 17 (by kernel_rfl);have KB:=fM 18 (by kernel_rfl)
  simp only[go_sem, ↓reduceIte,Nat.reduceEqDiff,Nat.reduceAdd,Nat.reduceSub,Nat.reduceLeDiff,reduceCtorEq,c3,c5,c6]at b3 b5 b6 KA KB
  clear fM
  obtain⟨b8,bS,bR⟩:=bI0
  obtain⟨AI,IK,CE⟩:=wZ hI hA i (by omega)
  by_cases hi:(i:Int)<(l.length:Int)
  ·have fC:∀{e:Env} {gg:Rows} {nx:Nat},(e 19=.int .i64 (IntKind.i64.wrap ((i:Int)+1)))->(e 8=.bool (decide ((fQ s l S (i+1)).1.length≠S.1.length))/\oi s (fQ s l S (i+1))/\Nv ⟨g1,x1⟩ x1 c T O s l (fQ s l S (i+1)) (e 7) gg nx)->∃m0,m0<(l.length)-i/\∃i:Nat,m0=(l.length)-i/\i<=(l.length)/\e 19=.int .i64 (i:Int)/\(e 8=.bool (decide ((fQ s l S i).1.length≠S.1.length))/\oi s (fQ s l S i)/\Nv ⟨g1,x1⟩ x1 c T O s l (fQ s l S i) (e 7) gg nx):=fun x1 x2=>⟨_,by omega,i+1,rfl,by omega,(by rw[x1,az (by omega)]),x2⟩
   have fc:i<l.length:=by omega
   have qS:=qF s l S fc
   have hx:=fj fc
   have ht:=hA.2 _ hx
   have jM:=fa fc
   have QN:=AI.AF hA
   have eF:(l.map aa).length=l.length:=by simp
   have TR:=AI.lL
   have TU:=AI.len
   have IW:Cb (aD l i).aC=true:=hA.1.pt fc
   generalize fQ s l S i=U at AI QN qS TR TU CE b8 bS bR
   have hFU:∀q,0<=fK (s.aU.ai++U.1) q->eP s.aJ (fK (s.aU.ai++U.1) q)=true:=fun q hq=>by
    rw[bS.at_]at hq ⊢
    exact iA.MH QN q hq
   (try((repeat(revert hN;revert N;apply Pn.out));refine wk (tw @b19 (tw @b3 (tw @b5 (tw @b6 (tw @KA (tw @KB (tw @hi (tw @jM (tw @eF @aa.eq_1))))))))) ?_;(repeat(refine Pn.mk ?_;intro N hN))))
   have sM:=bS.fit (aD l i).aC (aD l i).aQ
   refine .inl ⟨_,It (bR.xe.xe.frame (by(try dsimp only);omega) (by(have:=dP bR.xe.cv);simp only[go_sem, ↓reduceIte,Nat.reduceEqDiff,Nat.reduceAdd,Nat.reduceSub,Nat.reduceLeDiff,reduceCtorEq,this]) (by(have:=dP bR.xe.tv);simp only[go_sem, ↓reduceIte,Nat.reduceEqDiff,Nat.reduceAdd,Nat.reduceSub,Nat.reduceLeDiff,reduceCtorEq,this])) hP.set hFU (aD l i).aC (aD l i).aQ ht,?_⟩
   refine hN _ _ ?_
   clear hN N
   cases hf:jF s U.2 (aD l i).aC (aD l i).aQ
   ·rw[wb hf]at qS
    rw[hf]at sM
    (try((repeat(revert hN;revert N;apply Pn.out));refine wk (tw @b19 (tw @b3 (tw @b5 (tw @b6 (tw @KA (tw @KB (tw @sM @jM))))))) ?_;(repeat(refine Pn.mk ?_;intro N hN))))
    exact fC (sd (tw @b19 (tw @b3 (tw @b5 (tw @b6 (tw @KA @KB)))))) (by(try dsimp only);exact⟨by rw[qS];simp only[go_sem, ↓reduceIte,Nat.reduceEqDiff,Nat.reduceAdd,Nat.reduceSub,Nat.reduceLeDiff,reduceCtorEq,b8],by rw[qS];exact bS,by rw[qS];exact bR.frame (sd @Nat.zero_add) (by(try dsimp only);omega) (fun y hy=>by
     have h9:=dP hy
     simp only[go_sem, ↓reduceIte,Nat.reduceEqDiff,Nat.reduceAdd,Nat.reduceSub,Nat.reduceLeDiff,reduceCtorEq,h9])⟩)
   ·rw[tK hf]at qS
    rw[hf]at sM
    (try((repeat(revert hN;revert N;apply Pn.out));refine wk (tw @b19 (tw @b3 (tw @b5 (tw @b6 (tw @KA (tw @KB (tw @sM @jM))))))) ?_;(repeat(refine Pn.mk ?_;intro N hN))))
    have h0:=bS.no (oD hA AI.sub hf)
    have vQ:=bR.lo
    have cx:=bR.xe.cv
    have Tx:=bR.xe.tv
    have Ox:=bR.xe.ov
    refine .inr (bf _ _ _ _ _ (fun r σ2 hq=>?_) (RP (σ:=⟨br (br st_b.get ⟨161008002,st_b.next+1⟩ ⟨true,3,[[.int .i64 0,.int .i64 0,.int .i64 0]]⟩) ⟨161008002,st_b.next+1⟩ ⟨true,3,[[.int .i64 (aD l i).aC.eT,.int .i64 (aD l i).aC.eO,.int .i64 (aD l i).aQ]]⟩,st_b.next+1+1+1+1⟩) (bR.xe.frame (by(try dsimp only);omega) fun x hx=>by
     have h9:=dP hx
     simp only[go_sem, ↓reduceIte,Nat.reduceEqDiff,Nat.reduceAdd,Nat.reduceSub,Nat.reduceLeDiff,reduceCtorEq,h9]) hP.set hFU (aD l i).aC IW (aD l i).aQ ht h0))
    obtain⟨g2,x2⟩:=σ2
    obtain⟨rfl,Iz,Dy,KI⟩:=hq
    (try dsimp only at Iz Dy KI)
    have kt:=KI ⟨161008002,st_b.next+1⟩ (by(try dsimp only);omega) (fun e=>by rw[<-e]at Tx;(try dsimp only at Tx);omega) (fun e=>by rw[<-e]at Ox;(try dsimp only at Ox);omega)
    simp only[go_sem, ↓reduceIte,Nat.reduceEqDiff,Nat.reduceAdd,Nat.reduceSub,Nat.reduceLeDiff,reduceCtorEq]at kt
    have yn:(⟨(aD l i).aC,(aD l i).aQ⟩:ab)=aD l i:=rfl
    rw[yn,List.append_assoc]at Iz
    have hd:decide ((U.1++[aD l i]).length≠S.1.length)=true:=decide_eq_true (by rw[iU];omega)
    have xz:=iU U.1 (aD l i)
    have rI:=rR U.1 (aD l i)
    have Te:=dP (i:=⟨161008002,st_b.next+1⟩) (n:=x2) (by(try dsimp only);omega)
    have c2:=dP Iz.cv
    have T2:=dP Iz.tv
    have O2:=dP Iz.ov
    have II:∀y:Id,y.bY<x1->y≠T->y≠O->g2 y=st_b.get y:=fun y hy h1 h2=>by
     have h3:=KI y (by omega) h1 h2
     have h4:=dP (i:=y) (n:=st_b.next) (by omega)
     simp only[go_sem, ↓reduceIte,Nat.reduceEqDiff,Nat.reduceAdd,Nat.reduceSub,Nat.reduceLeDiff,reduceCtorEq,h4]at h3
     exact h3
    refine hN _ _ ?_
    clear hN N
    rcases bR.u with⟨hU,b7⟩|⟨u,b7,bu,hu3,hu4,_⟩
    ·(try((repeat(revert hN;revert N;apply Pn.out));refine wk (tw @b19 (tw @b3 (tw @b5 (tw @b6 (tw @KA (tw @KB (tw @b7 (tw @kt @Te)))))))) ?_;(repeat(refine Pn.mk ?_;intro N hN))))
     exact fC (sd (tw @b19 (tw @b3 (tw @b5 (tw @b6 (tw @KA @KB)))))) (by(try dsimp only);exact⟨by rw[qS,hd]<;>simp only[go_sem, ↓reduceIte,Nat.reduceEqDiff,Nat.reduceAdd,Nat.reduceSub,Nat.reduceLeDiff,reduceCtorEq],by rw[qS];exact bS.put (oD hA AI.sub hf),by
      rw[qS]
      refine⟨Iz.three (by(try dsimp only);omega) (sd @c2) (sd @T2) (sd @O2),.inr ⟨⟨161011003,x2+1⟩,by rw[xz,hU];simp only[go_sem, ↓reduceIte,Nat.reduceEqDiff,Nat.reduceAdd,Nat.reduceSub,Nat.reduceLeDiff,reduceCtorEq]<;>rfl,by rw[rI,hU];simp only[go_sem, ↓reduceIte,Nat.reduceEqDiff,Nat.reduceAdd,Nat.reduceSub,Nat.reduceLeDiff,reduceCtorEq]<;>rfl,by(try dsimp only);omega,by(try dsimp only);omega,by(try dsimp only);rw[iU];omega⟩,by(try dsimp only);omega,fun y hy h1 h2 h3=>?_⟩
      have h4:=dP (i:=y) (n:=x2) (by omega)
      have h5:=II y hy h1 h2
      have h6:=bR.fr y hy h1 h2 h3
      (try dsimp only at h6)
      simp only[go_sem, ↓reduceIte,Nat.reduceEqDiff,Nat.reduceAdd,Nat.reduceSub,Nat.reduceLeDiff,reduceCtorEq,h4,h5,h6]⟩)
    ·have ku:=KI u (by(try dsimp only);omega) (fun e=>by rw[e]at hu3;omega) (fun e=>by rw[e]at hu3;omega)
     have vu:=dP hu4
     simp only[go_sem, ↓reduceIte,Nat.reduceEqDiff,Nat.reduceAdd,Nat.reduceSub,Nat.reduceLeDiff,reduceCtorEq,vu,bu]at ku
     have Vd:=dP (i:=u) (n:=x2) (by omega)
     have ut:=cZ (a:=u) (b:=⟨161008002,st_b.next+1⟩) (by(try dsimp only);omega)
     have UT:(U.1.map aa).length=U.1.length:=by simp
     have S4:U.1.length<=16777215:=by omega
     have uc:=cZ (a:=c) (b:=u) (by omega)
     have uT:=cZ (a:=T) (b:=u) (by omega)
     have uO:=cZ (a:=O) (b:=u) (by omega)
     (try((repeat(revert hN;revert N;apply Pn.out));refine wk (tw @b19 (tw @b3 (tw @b5 (tw @b6 (tw @KA (tw @KB (tw @b7 (tw @kt (tw @Te (tw @ku (tw @Vd (tw @ut (tw @UT @S4))))))))))))) ?_;(repeat(refine Pn.mk ?_;intro N hN))))
     exact fC (sd (tw @b19 (tw @b3 (tw @b5 (tw @b6 (tw @KA @KB)))))) (by(try dsimp only);exact⟨by rw[qS,hd]<;>simp only[go_sem, ↓reduceIte,Nat.reduceEqDiff,Nat.reduceAdd,Nat.reduceSub,Nat.reduceLeDiff,reduceCtorEq],by rw[qS];exact bS.put (oD hA AI.sub hf),by
      rw[qS]
      refine⟨Iz.three (by(try dsimp only);omega) (sd (tw @c2 @uc)) (sd (tw @T2 @uT)) (sd (tw @O2 @uO)),.inr ⟨⟨161011003,x2+1⟩,by rw[xz];simp only[go_sem, ↓reduceIte,Nat.reduceEqDiff,Nat.reduceAdd,Nat.reduceSub,Nat.reduceLeDiff,reduceCtorEq]<;>rfl,by rw[rI];simp only[go_sem, ↓reduceIte,Nat.reduceEqDiff,Nat.reduceAdd,Nat.reduceSub,Nat.reduceLeDiff,reduceCtorEq]<;>rfl,by(try dsimp only);omega,by(try dsimp only);omega,by(try dsimp only);rw[iU];omega⟩,by(try dsimp only);omega,fun y hy h1 h2 h3=>?_⟩
      have h4:=dP (i:=y) (n:=x2) (by omega)
      have h5:=II y hy h1 h2
      have h6:=bR.fr y hy h1 h2 h3
      have h7:=cZ (a:=y) (b:=u) (by omega)
      (try dsimp only at h6)
      simp only[go_sem, ↓reduceIte,Nat.reduceEqDiff,Nat.reduceAdd,Nat.reduceSub,Nat.reduceLeDiff,reduceCtorEq,h4,h5,h6,h7]⟩)
  ·have lO:i=l.length:=by omega
   subst lO
   rw[pw]at AI b8 IK bS bR
   have qz:=yw hI hA hm
   (try((repeat(revert hN;revert N;apply Pn.out));refine wk (tw @b19 (tw @b3 (tw @b5 (tw @b6 (tw @KA (tw @KB @hi)))))) ?_;(repeat(refine Pn.mk ?_;intro N hN))))
   by_cases he:(gE s l S).1.length=S.1.length
   ·refine⟨0,by show 0<m;omega,gE s l S,0,false,rfl,?_,fun h=>(by cases h),fun _=>(qz.1 he).symm.trans hF,AI,bS,bR.frame (sd @Nat.zero_add) (by(try dsimp only);omega) fun x _=>rfl⟩
    simp only[go_sem, ↓reduceIte,Nat.reduceEqDiff,Nat.reduceAdd,Nat.reduceSub,Nat.reduceLeDiff,reduceCtorEq,b8,he]<;>simp
   ·obtain⟨m',rfl,Lj,KN⟩:=qz.2 he
    refine⟨m',Nat.lt_succ_self _,gE s l S,m',true,rfl,?_,fun _=>⟨Lj.symm.trans hF,KN⟩,fun h=>(by cases h),AI,bS,bR.frame (sd @Nat.zero_add) (by(try dsimp only);omega) fun x _=>rfl⟩
    have hd:=decide_eq_true he
    simp only[go_sem, ↓reduceIte,Nat.reduceEqDiff,Nat.reduceAdd,Nat.reduceSub,Nat.reduceLeDiff,reduceCtorEq,b8]
    rw[hd]
structure PR (g:Rows) (n:Nat) (A S C c T O:Id) (s:ax) (l:List ab):Prop where
 a:∃b,g A=some ⟨b,1,[[.sl (l.map aa)]]⟩
 sy:∃b,g S=some ⟨b,4,[ar s]⟩
 p:∃b,g C=some ⟨b,1,[[.ptr c 0 0]]⟩
 xe:Cy g n c T O s l
 av:A.bY<n
 sv:S.bY<n
 pv:C.bY<n
theorem PR.ro {g:Rows} {n:Nat} {A S C c T O:Id} {s:ax} {l:List ab} (h:PR g n A S C c T O s l):PR (V.ro g) n A S C c T O s l:=by
 obtain⟨b,h1⟩:=h.a
 obtain⟨b2,h2⟩:=h.sy
 obtain⟨b3,h3⟩:=h.p
 exact⟨⟨false,by simp[V.ro,h1]⟩,⟨false,by simp[V.ro,h2]⟩,⟨false,by simp[V.ro,h3]⟩,h.xe.ro,h.av,h.sv,h.pv⟩
theorem PR.frame {g g':Rows} {n n':Nat} {A S C c T O:Id} {s:ax} {l:List ab} (h:PR g n A S C c T O s l) (hn:n<=n') (hf:∀x:Id,x.bY<n->g' x=g x):PR g' n' A S C c T O s l:=
 ⟨by rw[hf _ h.av];exact h.a,by rw[hf _ h.sv];exact h.sy,by rw[hf _ h.pv];exact h.p,h.xe.frame hn (hf _ h.xe.cv) (hf _ h.xe.tv),Nat.lt_of_lt_of_le h.av hn,Nat.lt_of_lt_of_le h.sv hn,Nat.lt_of_lt_of_le h.pv hn⟩
end Go.Proofs.YtgoljkjaameagaaGreat.V

namespace Go.Proofs.YtgoljkjaameagaaGreat.V
open Go.RowKit
variable {P:Program}
theorem OP (hm:P.follows .mixedOrders=true) {f:Nat} {args:List AV} {vs:Array Value} {w:World} (h:aj P f args (.bool true)) (hA:fA P w (fun b=>b<w.heap.size) (fun _=>none) args vs):
  Calls P f vs w fun e w'=>e=.returned (.bool true)/\Below w.heap.size w w':=by
 have hs:=gq hm (h 0) w.heap.size (fun b=>b<w.heap.size) (fun _=>none) w vs ⟨Nat.le_refl _,fun _ h=>h,fun id r h=>(by cases h),fun id j0 r r' B B' h=>(by cases h)⟩ (fun id h=>absurd rfl h) hA
 refine hs.mono ?_
 rintro e w' ⟨r,g',n',D',ι',u,rfl,⟨r',hz,rfl⟩,dK,hsim,_,_,gN⟩
 have hr:r=.bool true:=by
  cases r<;>rw[gD]at hz<;>simp_all
  all_goals (repeat' (split at hz))<;>simp_all
 subst hr
 exact⟨by rw[e5 gN],dK.below⟩
theorem ke {xs:List AV} {w:World} {D:Nat->Prop} {ι:Names} {a:AV} {v:Value} {vs:Array Value} (h:jD P w D a v) (k:fA P w D ι xs vs):fA P w D ι (a::xs) (#[v]++vs):=
 oY (xs:=[a]) ⟨rfl,fun j b hj=>by
  cases j with
  |zero=>simp at hj;subst hj;exact⟨v,rfl,.eQ _ _ h⟩
  |succ j=>simp at hj⟩ k
end Go.Proofs.YtgoljkjaameagaaGreat.V

namespace Go.Proofs.YtgoljkjaameagaaGreat.V
open Go.RowKit Go.Shelf
attribute [local go_sem] Oper.semAt_some
structure pQ (W:World) (v:Value) (l:List ab):Prop where
 sl:∃A c,v=.slice A l.length c/\(l.length<=c/\c<=maxLen)/\(l=[]∨∃b o,A=some ⟨b,o,none⟩/\∀i,i<l.length->W.cell? ⟨b,o+(i*3+0),none⟩=some (.int .i64 (aD l i).aC.eT)/\W.cell? ⟨b,o+(i*3+1),none⟩=some (.int .i64 (aD l i).aC.eO)/\W.cell? ⟨b,o+(i*3+2),none⟩=some (.int .i64 (aD l i).aQ))
structure HL (K:World->World->Prop) (v:Value) (l:List ab):Prop where
 refl:∀W,K W W
 trans:∀{A B C:World},K A B->K B C->K A C
 of:∀{W W':World},Below W.heap.size W W'->K W W'
 size:∀{W W':World},K W W'->W.heap.size<=W'.heap.size
 typed:∀{W W':World},K W W'->∀(b:Nat) (cells:Array Value) (T:TypeId) (fr:Nat×Nat),W.heap[b]? =some (Obj.cells cells T fr)->T≠179->T≠254->W'.heap[b]? =W.heap[b]?
 pl:∀{W W':World},K W W'->pQ W v l->pQ W' v l
theorem um {W:World} {b x:Nat} {v:Value} (h:W.cell? ⟨b,x,none⟩=some v):b<W.heap.size:=by
 rcases Nat.lt_or_ge b W.heap.size with h1|h1
 ·exact h1
 ·simp[World.cell?,Array.getElem?_eq_none h1]at h
theorem pQ.below {W W':World} {v:Value} {l:List ab} (h:pQ W v l) (k:Below W.heap.size W W'):pQ W' v l:=by
 obtain⟨A,c,rfl,hm,hc⟩:=h.sl
 refine⟨A,c,rfl,hm,?_⟩
 rcases hc with h0|⟨b,o,rfl,kp⟩
 ·exact .inl h0
 ·refine .inr ⟨b,o,rfl,fun i hi=>?_⟩
  obtain⟨h1,h2,h3⟩:=kp i hi
  have hb:=um h1
  exact⟨(k.cell (p:=⟨b,_,none⟩) hb).trans h1,(k.cell (p:=⟨b,_,none⟩) hb).trans h2,(k.cell (p:=⟨b,_,none⟩) hb).trans h3⟩
theorem pQ.eQ {P:Program} {W:World} {v:Value} {l:List ab} (h:pQ W v l):jD P W (fun b=>b<W.heap.size) (.sl (l.map aa)) v:=by
 obtain⟨A,c,rfl,hm,hc⟩:=h.sl
 rcases hc with rfl|⟨b,o,rfl,kp⟩
 ·exact .AL A c (by simpa using hm.2)
 by_cases MZ:l=[]
 ·subst MZ;exact .AL _ c (by simpa using hm.2)
 ·have kn:0<l.length:=List.length_pos_iff.2 MZ
  have hb:=um (kp 0 kn).1
  refine .sl (l.map aa) b o l.length c 3 (fun i j=>if j=0 then .int .i64 (aD l i).aC.eT else if j=1 then .int .i64 (aD l i).aC.eO else .int .i64 (aD l i).aQ) (by simp) hm.1 hm.2 hb (fun cs dq=>?_) (fun cs dq a ha=>?_) (fun i j hi hj=>?_) (fun i j cs a hi hj=>?_)
  ·obtain⟨x,_,rfl⟩:=List.mem_map.1 dq;rfl
  ·obtain⟨x,_,rfl⟩:=List.mem_map.1 dq
   simp[aa]at ha
   rcases ha with rfl|rfl|rfl<;>rfl
  ·obtain⟨h1,h2,h3⟩:=kp i hi
   match j,hj with
   |0,_=>exact h1
   |1,_=>exact h2
   |2,_=>exact h3
   |j+3,hj=>omega
  ·have lO:i<l.length:=by have:=(List.getElem?_eq_some_iff.1 hi).1;simpa using this
   rw[fa lO]at hi
   injection hi with hi
   subst hi
   match j,hj with
   |0,hj=>simp[aa]at hj;subst hj;exact .int _ _
   |1,hj=>simp[aa]at hj;subst hj;exact .int _ _
   |2,hj=>simp[aa]at hj;subst hj;exact .int _ _
   |j+3,hj=>simp[aa]at hj
theorem Bb {P:Program} (hm:P.follows .mixedOrders=true) {f:Nat} {args:List AV} {vs:Array Value} {w:World} {r:AV} (h:aj P f args r) (hr:∀g r0,gD g 6 r0=some r->r0=r) (hA:fA P w (fun b=>b<w.heap.size) (fun _=>none) args vs):
  Calls P f vs w fun e w'=>∃D ι u,e=.returned u/\cW P w' D ι r u/\Below w.heap.size w w':=by
 have hs:=gq hm (h 0) w.heap.size (fun b=>b<w.heap.size) (fun _=>none) w vs ⟨Nat.le_refl _,fun _ h=>h,fun id r h=>(by cases h),fun id j0 r r' B B' h=>(by cases h)⟩ (fun id h=>absurd rfl h) hA
 refine hs.mono ?_
 rintro e w' ⟨r0,g',n',D',ι',u,rfl,⟨r',hz,rfl⟩,dK,hsim,_,_,gN⟩
 have:=hr _ _ hz
 subst this
 exact⟨D',ι',u,rfl,gN,dK.below⟩
theorem oI {g:Rows} {n:Nat} {a:AV} {k:IntKind} {m:Int} (h:gD g (n+1) a=some (.int k m)):a=.int k m:=by
 cases a<;>rw[gD]at h<;>simp_all
 all_goals (repeat' (split at h))<;>simp_all
theorem Dk {g:Rows} {a:AV} {x y:Int} (h:gD g 6 a=some (.agg [.int .i64 x,.int .i64 y])):a=.agg [.int .i64 x,.int .i64 y]:=by
 cases a with
 |agg cs=>
  rw[E5]at h
  simp only[Option.map_eq_some_iff,AV.agg.injEq,exists_eq_right]at h
  match cs,h with
  |[],h=>rw[bd]at h;simp at h
  |[a],h=>
   rw[aS,bd]at h
   cases ha:gD g 5 a<;>simp[ha]at h
  |[a,b],h=>
   rw[aS,aS,bd]at h
   cases ha:gD g 5 a<;>cases hb:gD g 5 b<;>simp[ha,hb]at h
   obtain⟨rfl,rfl⟩:=h
   rw[oI ha,oI hb]
  |a::b::c::r,h=>
   rw[aS,aS,aS]at h
   cases ha:gD g 5 a<;>cases hb:gD g 5 b<;>cases hc:gD g 5 c<;>cases hd:eA g 5 r<;>simp[ha,hb,hc,hd]at h
 |_=>rw[gD]at h<;>simp_all<;>(repeat' (split at h))<;>simp_all
theorem Eo (W:World) (p:au) (d:Int) (hd:jb d 0 3=true) (hx:iB p.eT) (hy:iB p.eO):Calls Tryz.prog 228 #[.agg #[.int .i64 p.eT,.int .i64 p.eO],.int .i64 d] W fun e W'=>e=.returned (.agg #[.int .i64 (dy p d).eT,.int .i64 (dy p d).eO])/\Below W.heap.size W W':=by
 refine(Bb mixed (Er p d hd hx hy) (fun g r0 h=>Dk h) ?_:Calls _ _ _ _ _).mono ?_
 ·exact ke (vs:= #[.int .i64 d]) (.agg _ _ (fun j=>if j=0 then .int .i64 p.eT else .int .i64 p.eO) rfl (fun a ha=>by simp[ae]at ha;rcases ha with rfl|rfl<;>rfl) (fun j hj=>by match j,hj with|0,_=>rfl|1,_=>rfl|j+2,hj=>simp[ae]at hj;omega) (fun j a ha=>by match j,ha with|0,ha=>simp[ae]at ha;subst ha;exact .int _ _|1,ha=>simp[ae]at ha;subst ha;exact .int _ _|j+2,ha=>simp[ae]at ha)) (ke (vs:= #[]) (.int _ _) wH)
 ·rintro e W' ⟨D,ι,u,rfl,hr,hB⟩
  refine⟨?_,hB⟩
  obtain⟨vs,f,rfl,ft,_,h1,h2⟩:=iX hr
  have v0:=h1 0 (by simp[ae])
  have v1:=h1 1 (by simp[ae])
  rw[du (h2 0 _ rfl)]at v0
  rw[du (h2 1 _ rfl)]at v1
  obtain⟨vl⟩:=vs
  match vl,ft with
  |[a,b],_=>
   simp at v0 v1
   rw[v0,v1]
theorem xI (W:World) (l:List ab) (v:Value) (hP:pQ W v l) (p:au) (hR:iM l) (CA:l.length<=1048576):Calls Tryz.prog 303 #[.agg #[v],.agg #[.int .i64 p.eT,.int .i64 p.eO]] W fun e W'=>e=.returned (.int .i64 (dm l p))/\Below W.heap.size W W':=by
 refine(Bb mixed (GV l p hR CA) (fun g r0 h=>oI h) ?_:Calls _ _ _ _ _).mono ?_
 ·exact ke (vs:= #[.agg #[.int .i64 p.eT,.int .i64 p.eO]]) (.agg _ _ (fun _=>v) rfl (fun a ha=>by simp at ha;rw[ha];rfl) (fun j hj=>by match j,hj with|0,_=>rfl|j+1,hj=>simp at hj) (fun j a ha=>by match j,ha with|0,ha=>simp at ha;subst ha;exact hP.eQ|j+1,ha=>simp at ha)) (ke (vs:= #[]) (.agg _ _ (fun j=>if j=0 then .int .i64 p.eT else .int .i64 p.eO) rfl (fun a ha=>by simp[ae]at ha;rcases ha with rfl|rfl<;>rfl) (fun j hj=>by match j,hj with|0,_=>rfl|1,_=>rfl|j+2,hj=>simp[ae]at hj;omega) (fun j a ha=>by match j,ha with|0,ha=>simp[ae]at ha;subst ha;exact .int _ _|1,ha=>simp[ae]at ha;subst ha;exact .int _ _|j+2,ha=>simp[ae]at ha)) wH)
 ·rintro e W' ⟨D,ι,u,rfl,hr,hB⟩
  exact⟨by rw[du hr],hB⟩
theorem grown_of {W W':World} (h:Below W.heap.size W W'):W.grownBy W' none:=⟨h.os,h.tape,h.output,h.size,fun k hk _=>h.block k hk⟩
def B5 (l:List ab) (i:Nat) (d:Int):List (Nat×Nat×Int):=if 0<=dm l (dy (aD l i).aC d)then[(i,(dm l (dy (aD l i).aC d)).toNat,d)]else[]
def kZ (l:List ab) (i m:Nat):List (Nat×Nat×Int):=(List.range m).flatMap fun j:Nat=>B5 l i (1-(j:Int))
def lE (l:List ab) (n:Nat):List (Nat×Nat×Int):=(List.range n).flatMap fun i=>kZ l i 2
theorem mH (l:List ab) (n:Nat):lE l (n+1)=lE l n++kZ l n 2:=by simp[lE,List.range_succ]
theorem np (l:List ab) (i m:Nat):kZ l i (m+1)=kZ l i m++B5 l i (1-(m:Int)):=by simp[kZ,List.range_succ]
theorem OV (l:List ab) {k m:Nat} (hk:k<l.length) (hm:m<=2):lE l k++kZ l k m <+:lE l l.length:=by
 have h1:∀d,lE l k <+:lE l (k+d):=fun d=>by
  induction d with
  |zero=>exact List.prefix_refl _
  |succ d ih=>rw[<-Nat.add_assoc,mH l (k+d)];exact ih.trans (List.prefix_append _ _)
 have h2:∀d,lE l (k+1) <+:lE l (k+1+d):=fun d=>by
  induction d with
  |zero=>exact List.prefix_refl _
  |succ d ih=>rw[<-Nat.add_assoc,mH l (k+1+d)];exact ih.trans (List.prefix_append _ _)
 have h3:=h2 (l.length-(k+1))
 rw[show k+1+(l.length-(k+1))=l.length by omega,mH]at h3
 refine List.IsPrefix.trans ?_ h3
 have h4:kZ l k m <+:kZ l k 2:=by
  have:m=0∨m=1∨m=2:=by omega
  rcases this with rfl|rfl|rfl
  ·exact List.nil_prefix
  ·rw[np l k 1];exact List.prefix_append _ _
  ·exact List.prefix_refl _
 exact(List.prefix_append_right_inj _).2 h4
def Qo (l:List ab) (x:Nat×Nat×Int):Prop:=x.1<l.length/\x.2.1<l.length/\(0<=x.2.2/\x.2.2<=1)
def EU (x:Nat×Nat×Int):Array Value:= #[.agg #[.int .i64 (x.1:Int),.int .i64 (x.2.1:Int)],.int .i64 x.2.2]
theorem LJ (l:List ab) (p:au) (h:0<l.length:=by omega):dm l p<(l.length:Int):=by
 unfold dm
 split<;>omega
theorem RL (l:List ab) (hA:jI l) (q Ba:Nat) (vS:Value) (K:World->World->Prop) (kl:HL K vS l) (J Jx:List (Nat×Nat×Int)->World->Prop) (n:Nat) (hn:1<=n)
  (hY:∀pre x W,J pre W->pre.length<(lE l l.length).length->Qo l x->YieldAt Fence.wide (n-1) Tryz.prog q (EU x) W fun e W'=>
   (e=.returned (.bool true)/\J (pre++[x]) W'/\K W W')∨(e=.returned (.bool false)/\Jx (pre++[x]) W'))
  (W:World) (hJ:AbidesFrom W.heap.size J) (N3:W.heap[Ba]? =some (.cells #[vS] 42 (0,0))) (hP:pQ W vS l) (h0:J [] W):
  CallsIn Fence.wide n Tryz.prog 302 #[.func (.yield q) #[] #[],.pointer (some ⟨Ba,0,none⟩)] W fun e W'=>(∃v,e=.returned v)/\
   ((∃ys,ys=lE l l.length/\J ys W')∨(∃pre,pre <+:lE l l.length/\Jx pre W')):=by
 obtain⟨A,cp,rfl,_,_⟩:=hP.sl
 refine callsIn_of_wp Tryz.func302 rfl trivial ?_ rfl
 simp only[Tryz.ntmps302,List.size_toArray,List.length_cons,List.length_nil,Nat.reduceAdd,Nat.reduceSub,Array.replicate_succ,Array.replicate_zero,List.push_toArray,List.append_toArray,List.nil_append,List.cons_append]
 have jL:W.cell? ⟨Ba,0,none⟩=some (.slice A l.length cp):=by simp[World.cell?,N3]
 gi_wp2
 gi_loopw [11] (fun i wr=>∃k:Nat,k<=l.length/\i=.int .i64 k/\J (lE l k) wr/\K W wr)
  (fun i _=>l.length-(intOf i).toNat)
 case atStart=>exact⟨0,Nat.zero_le _,rfl,h0,kl.refl _⟩
 case round=>
  obtain⟨k,hk,rfl,hJs,hKt⟩:=hrel
  by_cases dJ:k<l.length
  ·have dq:∃b o,A=some ⟨b,o,none⟩/\wr.cell? ⟨b,o+k*3,none⟩=some (.int .i64 (aD l k).aC.eT)/\wr.cell? ⟨b,o+k*3+1,none⟩=some (.int .i64 (aD l k).aC.eO)/\wr.cell? ⟨b,o+k*3+2,none⟩=some (.int .i64 (aD l k).aQ):=by
    obtain⟨A',c',hv,_,hc⟩:=(kl.pl hKt hP).sl
    cases hv
    rcases hc with rfl|⟨b,o,rfl,kp⟩
    ·simp at dJ
    ·obtain⟨h1,h2,h3⟩:=kp k dJ
     exact⟨b,o,rfl,by simpa using h1,by rw[Nat.add_assoc];exact h2,by rw[Nat.add_assoc];exact h3⟩
   obtain⟨b,o,rfl,hx,hy',ht⟩:=dq
   gi_wp2
   obtain⟨W2,QP⟩:∃W2,(wr.alloc (.cells #[.int .i64 (aD l k).aC.eT,.int .i64 (aD l k).aC.eO,.int .i64 (aD l k).aQ] 171)).alloc (.cells #[.int .i64 1,.int .i64 0] 2)=W2:=⟨_,rfl⟩
   have pU:Below wr.heap.size wr W2:=by rw[<-QP];exact((Below.refl _ wr).alloc (Nat.le_refl _) _).alloc (by simp) _
   have TK:W2.heap[wr.heap.size]? =some (.cells #[.int .i64 (aD l k).aC.eT,.int .i64 (aD l k).aC.eO,.int .i64 (aD l k).aQ] 171 (0,0)):=by
    rw[<-QP,Below.heap_alloc _ _ _ (by simp)];exact World.alloc_heap_new _ _
   have TJ:W2.heap[wr.heap.size+1]? =some (.cells #[.int .i64 1,.int .i64 0] 2 (0,0)):=by
    have:=World.alloc_heap_new (wr.alloc (.cells #[.int .i64 (aD l k).aC.eT,.int .i64 (aD l k).aC.eO,.int .i64 (aD l k).aQ] 171)) (.cells #[.int .i64 1,.int .i64 0] 2)
    rw[World.size_alloc]at this
    rw[<-QP];exact this
   have Hy:K W W2:=kl.trans hKt (kl.of pU)
   have hJ2:J (lE l k++kZ l k 0) W2:=by
    have:=hJ _ _ _ none hJs (grown_of pU) (fun r h=>by cases h)
    simpa[kZ]using this
   rw[QP]
   clear QP
   generalize wr=w1 at *
   gi_loopw [18] (fun j wr=>∃m:Nat,m<=2/\j=.int .i64 m/\J (lE l k++kZ l k m) wr/\K W2 wr)
    (fun j _=>2-(intOf j).toNat)
   case atStart=>exact⟨0,by omega,rfl,hJ2,kl.refl _⟩
   case round=>
    obtain⟨m,hm,rfl,hJm,MO⟩:=hrel
    have hm0:m=0∨m=1∨m=2:=by omega
    by_cases KN:m<2
    ·have hkd:=kl.typed MO _ _ _ _ TJ (by decide) (by decide)
     have Lu:=kl.typed MO _ _ _ _ TK (by decide) (by decide)
     have hka:=kl.typed (kl.trans Hy MO) _ _ _ _ N3 (by decide) (by decide)
     have cd:wr.cell? ⟨w1.heap.size+1,m,none⟩=some (.int .i64 (1-(m:Int))):=by
      rw[World.cell?_of_block hkd]
      rcases hm0 with rfl|rfl|rfl
      ·simp[World.cell?,TJ]
      ·simp[World.cell?,TJ]
      ·omega
     have ct0:wr.cell? ⟨w1.heap.size,0,none⟩=some (.int .i64 (aD l k).aC.eT):=by rw[World.cell?_of_block Lu];simp[World.cell?,TK]
     have ct1:wr.cell? ⟨w1.heap.size,1,none⟩=some (.int .i64 (aD l k).aC.eO):=by rw[World.cell?_of_block Lu];simp[World.cell?,TK]
     have ca:wr.cell? ⟨Ba,0,none⟩=some (.slice (some ⟨b,o,none⟩) l.length cp):=by rw[World.cell?_of_block hka];simp[World.cell?,N3]
     have hPw:pQ wr (.slice (some ⟨b,o,none⟩) l.length cp) l:=kl.pl (kl.trans Hy MO) hP
     have hba:Ba<wr.heap.size:=by
      have h1:=(Array.getElem?_eq_some_iff.1 N3).1
      have h2:=kl.size (kl.trans Hy MO)
      omega
     have hdm:jb (1-(m:Int)) 0 3=true:=kU (by omega)
     have Ri:=s6 (hA.pt dJ)
     have Qb:=fun w0=>Eo w0 (aD l k).aC (1-(m:Int)) hdm Ri.1 Ri.2
     have hPd:pQ wr.drew (.slice (some ⟨b,o,none⟩) l.length cp) l:=hPw.below ⟨rfl,rfl,rfl,Nat.le_refl _,fun _ _=>rfl⟩
     have cad:wr.drew.cell? ⟨Ba,0,none⟩=some (.slice (some ⟨b,o,none⟩) l.length cp):=ca
     have ctd0:wr.drew.cell? ⟨w1.heap.size,0,none⟩=some (.int .i64 (aD l k).aC.eT):=ct0
     have ctd1:wr.drew.cell? ⟨w1.heap.size,1,none⟩=some (.int .i64 (aD l k).aC.eO):=ct1
     have hfw:=hA.lL
     have Rb:=hA.uh
     have Ut:=mixed
     gi_wp2
     gi_region_with_o (first|(refine⟨trivial,?_⟩;gi_at_call 228;refine(callsIn_wide.2 (Qb _)).mono ?_;rintro e w3 ⟨rfl,Bu⟩;have ca3:=(Bu.cell (p:=⟨Ba,0,none⟩) hba).trans cad)|(refine⟨trivial,?_⟩;gi_at_call 303;refine(callsIn_wide.2 (xI _ l _ (hPd.below Bu) (dy (aD l k).aC (1-(m:Int))) Rb (by omega))).mono ?_;rintro e w4 ⟨rfl,hB4⟩))
     all_goals
      have N2:Below wr.heap.size wr w4:=(show Below wr.heap.size wr wr.drew from⟨rfl,rfl,rfl,Nat.le_refl _,fun _ _=>rfl⟩).trans (Bu.trans (hB4.mono Bu.size))
      have hJ4:J (lE l k++kZ l k m) w4:=hJ _ _ _ none hJm (grown_of N2) (fun r h=>by cases h)
      have nT:=OV l dJ (m:=m+1) (by omega)
      rw[np,<-List.append_assoc]at nT
      have qz:=np l k m
      have hw:wrap64 ((m:Int)+1)=((m+1:Nat):Int):=by unfold wrap64;omega
      by_cases zE:0<=dm l (dy (aD l k).aC (1-(m:Int)))
      ·have fc:((dm l (dy (aD l k).aC (1-(m:Int)))).toNat:Int)=dm l (dy (aD l k).aC (1-(m:Int))):=by omega
       rw[B5,if_pos zE]at nT qz
       obtain⟨fn,tmps,assign,body,hy,hR⟩:=hY _ (k,(dm l (dy (aD l k).aC (1-(m:Int)))).toNat,1-(m:Int)) w4 hJ4 (by
        have:=nT.length_le
        simp only[List.length_append,List.length_cons,List.length_nil]at this ⊢
        omega) ⟨dJ,by
        have:dm l (dy (aD l k).aC (1-(m:Int)))<(l.length:Int):=LJ _ _
        show(dm l (dy (aD l k).aC (1-(m:Int)))).toNat<l.length
        omega,by show 0<=1-(m:Int);omega,by show 1-(m:Int)<=1;omega⟩
       simp only[EU,fc]at hy
       gi_wp2
       refine hR.mono ?_
       rintro e W3 (⟨rfl,hJ3,Uk⟩|⟨rfl,hJx3⟩)
       ·gi_wp2
        go_roundw
        case rel=>exact⟨m+1,by omega,by simp,by rw[qz,<-List.append_assoc];exact hJ3,kl.trans (kl.trans MO (kl.of N2)) Uk⟩
        case measure=>simp[intOf];omega
       ·gi_wp2
        refine bodyPost_ret (results_none rfl _ _ _) rfl ?_
        exact⟨⟨_,rfl⟩,.inr ⟨_,nT,hJx3⟩⟩
      ·rw[B5,if_neg zE,List.append_nil]at qz
       gi_wp2
       refine⟨fun _ h=>(by cases h),?_⟩
       gi_wp2
       go_roundw
       case rel=>exact⟨m+1,by omega,by simp,by rw[qz];exact hJ4,kl.trans MO (kl.of N2)⟩
       case measure=>simp[intOf];omega
    ·obtain rfl:m=2:=by omega
     have hfw:=hA.lL
     gi_wp2
     go_roundw
     case rel=>exact⟨k+1,by omega,by simp,by rw[mH];exact hJm,kl.trans Hy MO⟩
     case measure=>simp[intOf];omega
  ·obtain rfl:k=l.length:=by omega
   gi_wp2
   go_end0
   exact⟨⟨_,rfl⟩,.inl ⟨_,rfl,hJs⟩⟩
theorem zW (n:Nat) (vS:Value) (w:World):CallsIn Fence.wide n Tryz.prog 260 #[.agg #[vS]] w fun e w'=>e=.returned (.func (.func 302) #[] #[.pointer (some ⟨w.heap.size,0,none⟩)])/\w'=w.alloc (.cells #[vS] 42):=by
 refine callsIn_of_wp Tryz.func260 rfl trivial ?_ rfl
 simp only[Tryz.ntmps260,List.size_toArray,List.length_cons,List.length_nil,Nat.reduceAdd,Nat.reduceSub,Array.replicate_succ,Array.replicate_zero,List.push_toArray,List.append_toArray,List.nil_append,List.cons_append]
 gi_wp2
 go_ret
 exact⟨rfl,rfl⟩
abbrev Nw (l:List ab):Type:={x:Nat×Nat×Int // Qo l x}
theorem Jv (l:List ab) (hA:jI l) (Ba n:Nat) (hn:1<=n) (vS:Value) (K:World->World->Prop) (kl:HL K vS l) (w:World) (N3:w.heap[Ba]? =some (.cells #[vS] 42 (0,0))) (hP:pQ w vS l):
  SeqStopsK Fence.wide n Tryz.prog 302 #[.pointer (some ⟨Ba,0,none⟩)] (fun x:Nw l=>EU x.1) K (fun ys=>ys.map (·.1)=lE l l.length) (fun _=>True) (lE l l.length).length w:=fun q J Jx W hW hJ _ hY h0=>by
 refine(RL l hA q Ba vS K kl (fun ys W=>∃zs:List (Nw l),zs.map (·.1)=ys/\J zs W) (fun ys W=>∃zs:List (Nw l),zs.map (·.1)=ys/\Jx zs W) n hn (fun pre x W1 hJ1 dJ vU=>?_) W (fun s A B row ⟨zs,e,h⟩ hg hr=>⟨zs,e,hJ zs A B row h hg hr⟩) ((hW.block Ba (Array.getElem?_eq_some_iff.1 N3).1).trans N3) (hP.below hW) ⟨[],rfl,h0⟩).mono ?_
 ·obtain⟨zs,rfl,h1⟩:=hJ1
  refine YieldAt.mono (hY zs ⟨x,vU⟩ W1 h1 (by simpa using dJ)) ?_
  rintro e W' (⟨h2,h3,h4⟩|⟨h2,h3⟩)
  ·exact .inl ⟨h2,⟨zs++[⟨x,vU⟩],by simp,h3⟩,h4⟩
  ·exact .inr ⟨h2,⟨zs++[⟨x,vU⟩],by simp,h3⟩⟩
 ·rintro e W' ⟨h1,⟨ys,rfl,zs,h2,h3⟩|⟨pre,_,zs,h2,h3⟩⟩
  ·exact⟨h1,.inl ⟨zs,h2,h3⟩⟩
  ·exact⟨h1,.inr ⟨zs,trivial,h3⟩⟩
def zi (s:ay) (l:List ab) (x:Nat×Nat×Int):List PB:=if 0<gZ s (aD l x.1).aQ x.2.2 (aD l x.2.1).aQ then[⟨x.1,x.2.1,gZ s (aD l x.1).aQ x.2.2 (aD l x.2.1).aQ⟩]else[]
theorem Ib (s:ay) (l:List ab):cY s l=(lE l l.length).flatMap (zi s l):=by
 have h1:∀i d,nh s l i d=(B5 l i d).flatMap (zi s l):=fun i d=>by
  unfold nh B5
  by_cases h:0<=dm l (dy (aD l i).aC d)
  ·rw[if_pos h]
   simp only[List.flatMap_cons,List.flatMap_nil,List.append_nil,zi]
   by_cases h2:0<gZ s (aD l i).aQ d (aD l (dm l (dy (aD l i).aC d)).toNat).aQ
   ·rw[if_pos ⟨h,h2⟩,if_pos h2]
   ·rw[if_neg fun hc=>h2 hc.2,if_neg h2]
  ·rw[if_neg h,if_neg fun hc=>h hc.1];rfl
 unfold cY gR lE
 rw[List.flatMap_assoc]
 congr 1
 funext i
 unfold ga kZ
 rw[List.flatMap_assoc]
 congr 1
 funext j
 exact h1 i _
end Go.Proofs.YtgoljkjaameagaaGreat.V

namespace Go.Proofs.YtgoljkjaameagaaGreat.V
open Go.RowKit
attribute [local irreducible] dE wpOps fS Call
attribute [local go_sem] aH fq eG fH fG cX upd bZ K.av cD AV.cells AV.cell rowOf rowsOf part ld rowAt br bP dn dR gK bx cQ eb fD eS di dW cN cL dH dI bD aW cF bB cH cG dU dX dV cE bG cP dS bz aI cJ cq gJ bj cz bE aT de aX dp AV.undef bq bt dL dQ dB dz cw ea ee cj dZ dY cI cK List.getD_cons_zero List.getD_cons_succ List.getD_nil List.all_cons List.all_nil Bool.and_true Bool.true_and Bool.and_self Bool.not_true Bool.not_false Option.map_some Option.map_none Option.bind_some Option.bind_none List.length_cons List.length_nil List.take_succ_cons List.take_zero List.take_nil List.drop_succ_cons List.drop_zero List.drop_nil List.head?_cons List.map_cons List.map_nil List.getElem?_cons_zero List.getElem?_cons_succ List.cons_append List.nil_append List.append_nil List.length_map List.set_cons_zero List.set_cons_succ Nat.reduceMul eq_self Int.toNat_natCast Int.natCast_nonneg and_self true_and and_true decide_true decide_false Bool.false_eq_true Nat.zero_add Nat.add_zero List.contains_cons List.contains_nil Bool.or_false Bool.false_or beq_self_eq_true Nat.reduceBEq ne_eq not_true_eq_false not_false_eq_true Id.mk.injEq false_and and_false Nat.reduceLT Int.reduceLE Int.reduceLT Int.reduceToNat Int.reduceNeg Int.reduceAdd Nat.le_refl List.length_append beq_true beq_false Bool.not_eq_eq_eq_not or_false false_or dD ah aq aF aY bp bK aP bc aN aV cC bF
def Ai (bs:List PB):AV:=if bs=[]then .cm else .sl (bs.map aA)
theorem Ml:Ai []=.cm:=rfl
theorem Aj {bs:List PB} (h:0<bs.length):Ai bs=.sl (bs.map aA):=by
 unfold Ai
 rw[if_neg (by rintro rfl;simp at h)]
theorem xt (cnt:Nat) (qb:1<=cnt) (hn:cnt<=1048576) (bs:List PB) (hb:∀b∈bs,b.a<cnt/\b.b<cnt) (hp:0<bs.length) (nX:bs.length<=1048576) (t:Int):aj Tryz.prog 287 [.int .i64 cnt,.sl (bs.map aA),.int .i64 t] (.gy [.int .i64 (leads cnt (eB (aO t bs))).length,Ai (dv (eB (aO t bs)) bs)]):=by
 refine aj.body eH rfl fun hl n0=>?_
 clear hl
 (try((repeat(revert hN;revert N;apply Pn.out));refine wk @Nat.zero_add ?_;(repeat(refine Pn.mk ?_;intro N hN))))
 refine .inr (bf _ _ _ _ _ (fun r σ1 hq=>?_) (Ig bs hp nX _))
 obtain⟨o,rfl,ho,Lx,Ly,Q5⟩:=hq
 (try dsimp only at ho Lx Ly Q5)
 refine hN _ _ ?_
 clear hN N
 (try((repeat(revert hN;revert N;apply Pn.out));refine wk @Nat.zero_add ?_;(repeat(refine Pn.mk ?_;intro N hN))))
 refine .inr (bf _ _ _ _ _ (fun r σ2 hq=>?_) (F3 bs t nX o ⟨287000000,n0⟩ _ ho (by rw[Q5 _ (by(try dsimp only);omega)];simp only[go_sem, ↓reduceIte,Nat.reduceEqDiff,Nat.reduceAdd,Nat.reduceSub,Nat.reduceLeDiff,reduceCtorEq]) (by(try dsimp only);omega) (by(try dsimp only);omega) (by rintro rfl;simp only at Lx;omega)))
 obtain⟨rows,rfl,gh,hrt,tH,l9,IJ⟩:=hq
 (try dsimp only at l9 IJ)
 refine hN _ _ ?_
 clear hN N
 have CE:=vM cnt qb hn (aO t bs) (fun b h=>hb b (wT h)) (by have:=nu t bs;omega)
 have hL:=tL (aO t bs)
 have hz:∀x,dc (dD σ2.get) 6 [.int .i64 x,.own o 0 (aO t bs).length]=some [.int .i64 x,.sl ((aO t bs).map aA)]:=fun x=>by
  have:V.fz (dD σ2.get) 6 (.own o 0 (aO t bs).length)=some (.sl ((aO t bs).map aA)):=by
   rw[iv];simp only[dD,gh,Option.map_some,if_true]
   rw[if_pos (by omega),List.drop_zero,hrt,ni fun b=>zu _ 4 b];rfl
  simp only[ah,aq,aF,this,Option.map_some]
 (try((repeat(revert hN;revert N;apply Pn.out));refine wk @Nat.zero_add ?_;(repeat(refine Pn.mk ?_;intro N hN))))
 refine .inl ⟨_,aj.x CE (hz _),?_⟩
 refine hN _ _ ?_
 clear hN N
 generalize eB (aO t bs)=L at *
 have sN:((fB cnt L).map AG).length=(leads cnt L).length:=by simp[fB]
 have SL:=jR cnt L
 have jL:(0:Int)<=(cnt:Int):=by omega
 have qa:(cnt:Int)<=((16777216:Nat):Int):=by omega
 have gN:List.replicate cnt [AV.int .i64 0]=dO (db cnt L 0 0) cnt:=by rw[wW,oQ]
 (try((repeat(revert hN;revert N;apply Pn.out));refine wk (tw @jL (tw @qa (tw @Int.le_refl (tw @sN @gN)))) ?_;(repeat(refine Pn.mk ?_;intro N hN))))
 refine aZ (fun n env st=>∃i:Nat,n=((leads cnt L).length)-i/\i<=((leads cnt L).length)/\env 27=.int .i64 (i:Int)/\st.get ⟨287002001,σ2.next+1⟩=some ⟨true,1,dO (db cnt L i 0) cnt⟩/\(σ2.next+1<st.next)) ((leads cnt L).length) ⟨0,by omega,by omega,sl (tw @gN @sN),sl (tw @gN @sN),(by(try dsimp only);omega)⟩ ?_
 rintro n_c env_c st_c ⟨i,rfl,cle,c27,cg0,cI0⟩ cfr
 have c1:=cfr 1 (by kernel_rfl);have c8:=cfr 8 (by kernel_rfl);have c9:=cfr 9 (by kernel_rfl);have xp:=cfr 25 (by kernel_rfl);have xq:=cfr 26 (by kernel_rfl)
 simp only[go_sem, ↓reduceIte,Nat.reduceEqDiff,Nat.reduceAdd,Nat.reduceSub,Nat.reduceLeDiff,reduceCtorEq,gN,sN]at c1 c8 c9 xp xq
 clear cfr
 by_cases hi:(i:Int)<((leads cnt L).length:Int)
 ·have iw:∀{e:Env} {gg:Rows} {nx:Nat},(e 27=.int .i64 (IntKind.i64.wrap ((i:Int)+1)))->(gg ⟨287002001,σ2.next+1⟩=some ⟨true,1,dO (db cnt L (i+1) 0) cnt⟩)->(σ2.next+1<nx)->∃m0,m0<((leads cnt L).length)-i/\∃i:Nat,m0=((leads cnt L).length)-i/\i<=((leads cnt L).length)/\e 27=.int .i64 (i:Int)/\gg ⟨287002001,σ2.next+1⟩=some ⟨true,1,dO (db cnt L i 0) cnt⟩/\(σ2.next+1<nx):=fun x1 x2 x3=>⟨_,by omega,i+1,rfl,by omega,(by rw[x1,az (by omega)]),x2,x3⟩
  have fc:i<(leads cnt L).length:=by omega
  have jM:((fB cnt L).map AG)[i]? =some (AG (members cnt L (leads cnt L)[i])):=by simp[fB,fc]
  have uA:(leads cnt L).getD i 0=(leads cnt L)[i]:=by simp[List.getD_eq_getElem?_getD,fc]
  have kr:∀m,db cnt L i m=fun x=>if bV L x<i then bV L x else if x∈(members cnt L (leads cnt L)[i]).take m then i else 0:=fun m=>by unfold db;rw[uA]
  have rH:=fun x (hx:x<cnt)=>sV hL (n:=cnt) (k:=x) (i:=i) hx fc
  have pr:(members cnt L (leads cnt L)[i]).Nodup:=List.nodup_range.filter _
  have KO:∀x∈members cnt L (leads cnt L)[i],x<cnt:=fun x hx=>(lV.1 hx).1
  have hMc:(members cnt L (leads cnt L)[i]).length<=cnt:=by
   have:=List.length_filter_le (fun k=>L k==(leads cnt L)[i]) (List.range cnt)
   simpa[members]using this
  generalize members cnt L (leads cnt L)[i]=M at *
  have CB:(M.map eN).length=M.length:=by simp
  (try((repeat(revert hN;revert N;apply Pn.out));refine wk (tw @c27 (tw @cg0 (tw @c1 (tw @c8 (tw @c9 (tw @xp (tw @xq (tw @hi (tw @sN (tw @jM (tw @AG.eq_1 @CB))))))))))) ?_;(repeat(refine Pn.mk ?_;intro N hN))))
  refine aZ (fun n env st=>∃m:Nat,n=(M.length)-m/\m<=(M.length)/\env 34=.int .i64 (m:Int)/\st.get ⟨287002001,σ2.next+1⟩=some ⟨true,1,dO (db cnt L i m) cnt⟩/\(σ2.next+1<st.next)) (M.length) ⟨0,by omega,by omega,sl (tw @c27 (tw @cg0 (tw @c1 (tw @c8 (tw @c9 (tw @xp (tw @xq @CB))))))),sl (tw @c27 (tw @cg0 (tw @c1 (tw @c8 (tw @c9 (tw @xp (tw @xq @CB))))))),(by(try dsimp only);omega)⟩ ?_
  rintro n_d env_d st_d ⟨m,rfl,dle,d34,dg0,dI0⟩ dfr
  have d1:=dfr 1 (by kernel_rfl);have d8:=dfr 8 (by kernel_rfl);have d9:=dfr 9 (by kernel_rfl);have d10:=dfr 10 (by kernel_rfl);have d25:=dfr 25 (by kernel_rfl);have d26:=dfr 26 (by kernel_rfl);have d27:=dfr 27 (by kernel_rfl);have d32:=dfr 32 (by kernel_rfl);have d33:=dfr 33 (by kernel_rfl)
  simp only[go_sem, ↓reduceIte,Nat.reduceEqDiff,Nat.reduceAdd,Nat.reduceSub,Nat.reduceLeDiff,reduceCtorEq,c27,cg0,c1,c8,c9,xp,xq,CB]at d1 d8 d9 d10 d25 d26 d27 d32 d33
  clear dfr
  have tl:=gn (db cnt L i m) cnt
  by_cases hm:(m:Int)<(M.length:Int)
  ·have tO:∀{e:Env} {gg:Rows} {nx:Nat},(e 34=.int .i64 (IntKind.i64.wrap ((m:Int)+1)))->(gg ⟨287002001,σ2.next+1⟩=some ⟨true,1,dO (db cnt L i (m+1)) cnt⟩)->(σ2.next+1<nx)->∃m0,m0<(M.length)-m/\∃m:Nat,m0=(M.length)-m/\m<=(M.length)/\e 34=.int .i64 (m:Int)/\gg ⟨287002001,σ2.next+1⟩=some ⟨true,1,dO (db cnt L i m) cnt⟩/\(σ2.next+1<nx):=fun x1 x2 x3=>⟨_,by omega,m+1,rfl,by omega,(by rw[x1,az (by omega)]),x2,x3⟩
   have zG:m<M.length:=by omega
   have vO:(M.map eN)[m]? =some (eN M[m]):=by simp[zG]
   have vZ:=KO _ (List.getElem_mem zG)
   have CK:(M[m]:Int)<(cnt:Int):=by omega
   have CJ:=fw (f:=db cnt L i m) vZ
   have fh:(dO (db cnt L i m) cnt).set M[m] (eN i)=dO (db cnt L i (m+1)) cnt:=pO vZ (by
    have h1:=(rH _ vZ).1 (List.getElem_mem zG)
    rw[kr]
    simp only[]
    rw[if_neg (by omega),if_pos (by rw[List.take_succ_eq_append_getElem zG];exact List.mem_append_right _ (List.mem_singleton.2 rfl))]) fun x hx ik=>by
    rw[kr,kr]
    simp only[]
    rw[List.take_succ_eq_append_getElem zG]
    simp only[List.mem_append,List.mem_singleton,ik,or_false]
   rw[eN]at fh CJ
   generalize M[m]=xm at *
   (try((repeat(revert hN;revert N;apply Pn.out));refine wk (tw @d34 (tw @dg0 (tw @d1 (tw @d8 (tw @d9 (tw @d10 (tw @d25 (tw @d26 (tw @d27 (tw @d32 (tw @d33 (tw @hm (tw @hi (tw @vO (tw @CB (tw @CK (tw @CJ (tw @tl (tw @fh @eN.eq_1))))))))))))))))))) ?_;(repeat(refine Pn.mk ?_;intro N hN))))
   refine tO ?_ ?_ (by(try dsimp only);omega)
   all_goals simp only[go_sem, ↓reduceIte,Nat.reduceEqDiff,Nat.reduceAdd,Nat.reduceSub,Nat.reduceLeDiff,reduceCtorEq,d34,dg0,d1,d8,d9,d10,d25,d26,d27,d32,d33,fh]
  ·have eF:m=M.length:=by omega
   subst eF
   have qz:dO (db cnt L i M.length) cnt=dO (db cnt L (i+1) 0) cnt:=im fun x hx=>by
    rw[kr,List.take_length]
    simp only[db,List.take_zero,List.not_mem_nil,if_false]
    have h1:=rH x hx
    by_cases h2:bV L x<i
    ·rw[if_pos h2,if_pos (by omega)]
    ·rw[if_neg h2]
     by_cases h3:x∈M
     ·rw[if_pos h3,if_pos (by have:=h1.1 h3;omega),h1.1 h3]
     ·rw[if_neg h3,if_neg fun h4=>h3 (h1.2 (by omega))]
   (try((repeat(revert hN;revert N;apply Pn.out));refine wk (tw @d34 (tw @dg0 (tw @d1 (tw @d8 (tw @d9 (tw @d10 (tw @d25 (tw @d26 (tw @d27 (tw @d32 (tw @d33 (tw @hm (tw @hi (tw @sN @CB)))))))))))))) ?_;(repeat(refine Pn.mk ?_;intro N hN))))
   refine iw ?_ ?_ (by(try dsimp only);omega)
   all_goals simp only[go_sem, ↓reduceIte,Nat.reduceEqDiff,Nat.reduceAdd,Nat.reduceSub,Nat.reduceLeDiff,reduceCtorEq,c27,cg0,c1,c8,c9,xp,xq,d34,dg0,d1,d8,d9,d10,d25,d26,d27,d32,d33,qz]
 have lO:i=(leads cnt L).length:=by omega
 subst lO
 have rI:dO (db cnt L (leads cnt L).length 0) cnt=dO (bV L) cnt:=im fun x hx=>by rw[db,if_pos (kc hL hx)]
 rw[rI]at cg0
 have tl:=gn (bV L) cnt
 have SA:(bs.map aA).length=bs.length:=by simp
 (try((repeat(revert hN;revert N;apply Pn.out));refine wk (tw @c27 (tw @cg0 (tw @c1 (tw @c8 (tw @c9 (tw @xp (tw @xq (tw @hi (tw @sN @SA))))))))) ?_;(repeat(refine Pn.mk ?_;intro N hN))))
 have PZ:σ2.next+1<st_c.next:=cI0
 refine aZ (fun n env st=>∃j:Nat,n=(bs.length)-j/\j<=(bs.length)/\env 46=.int .i64 (j:Int)/\st.get ⟨287002001,σ2.next+1⟩=some ⟨true,1,dO (bV L) cnt⟩/\(st_c.next<=st.next/\((dv L (bs.take j)=[]/\env 14=.cm)∨∃p:Id,env 14=.own p 0 (dv L (bs.take j)).length/\st.get p=some ⟨true,3,(dv L (bs.take j)).map aA⟩/\st_c.next<=p.bY/\p.bY<st.next/\0<(dv L (bs.take j)).length))) (bs.length) ⟨0,by omega,by omega,sl (tw @c27 (tw @cg0 (tw @c1 (tw @c8 (tw @c9 (tw @xp (tw @xq @SA))))))),sl (tw @c27 (tw @cg0 (tw @c1 (tw @c8 (tw @c9 (tw @xp (tw @xq @SA))))))),⟨by(try dsimp only);omega,.inl ⟨rfl,by(simp only[go_sem, ↓reduceIte,Nat.reduceEqDiff,Nat.reduceAdd,Nat.reduceSub,Nat.reduceLeDiff,reduceCtorEq])⟩⟩⟩ ?_
 rintro n_f env_f st_f ⟨j,rfl,fle,f46,fg0,fI0⟩ ffr
 have f1:=ffr 1 (by kernel_rfl);have f8:=ffr 8 (by kernel_rfl);have f9:=ffr 9 (by kernel_rfl);have f44:=ffr 44 (by kernel_rfl);have f45:=ffr 45 (by kernel_rfl)
 simp only[go_sem, ↓reduceIte,Nat.reduceEqDiff,Nat.reduceAdd,Nat.reduceSub,Nat.reduceLeDiff,reduceCtorEq,c27,cg0,c1,c8,c9,xp,xq,SA]at f1 f8 f9 f44 f45
 clear ffr
 obtain⟨P0,fO⟩:=fI0
 have I9:=dP (i:=⟨287002001,σ2.next+1⟩) (n:=st_f.next) (by(try dsimp only);omega)
 have uC:=(ns L (bs.take j)).1
 rw[List.length_take]at uC
 by_cases hj:(j:Int)<(bs.length:Int)
 ·have kd:∀{e:Env} {gg:Rows} {nx:Nat},(e 46=.int .i64 (IntKind.i64.wrap ((j:Int)+1)))->(gg ⟨287002001,σ2.next+1⟩=some ⟨true,1,dO (bV L) cnt⟩)->(st_c.next<=nx/\((dv L (bs.take (j+1))=[]/\e 14=.cm)∨∃p:Id,e 14=.own p 0 (dv L (bs.take (j+1))).length/\gg p=some ⟨true,3,(dv L (bs.take (j+1))).map aA⟩/\st_c.next<=p.bY/\p.bY<nx/\0<(dv L (bs.take (j+1))).length))->∃m0,m0<(bs.length)-j/\∃j:Nat,m0=(bs.length)-j/\j<=(bs.length)/\e 46=.int .i64 (j:Int)/\gg ⟨287002001,σ2.next+1⟩=some ⟨true,1,dO (bV L) cnt⟩/\(st_c.next<=nx/\((dv L (bs.take j)=[]/\e 14=.cm)∨∃p:Id,e 14=.own p 0 (dv L (bs.take j)).length/\gg p=some ⟨true,3,(dv L (bs.take j)).map aA⟩/\st_c.next<=p.bY/\p.bY<nx/\0<(dv L (bs.take j)).length)):=fun x1 x2 x3=>⟨_,by omega,j+1,rfl,by omega,(by rw[x1,az (by omega)]),x2,x3⟩
  have nR:j<bs.length:=by omega
  have E9:(bs.map aA)[j]? =some (aA bs[j]):=by simp[nR]
  have MT:=hb _ (List.getElem_mem nR)
  have hs:=Ae L (bs.take j) bs[j]
  rw[<-List.take_succ_eq_append_getElem nR]at hs
  generalize bs[j]=b at *
  have hA:=fw (f:=bV L) MT.1
  have hB:=fw (f:=bV L) MT.2
  have gM:(b.a:Int)<(cnt:Int):=by omega
  have fV:(b.b:Int)<(cnt:Int):=by omega
  rw[eN]at hA hB
  have e1:(dv L (bs.take j)).length+1<=16777216:=by omega
  have eF:((dv L (bs.take j)).map aA).length=(dv L (bs.take j)).length:=by simp
  by_cases he:bV L b.a=bV L b.b
  ·rw[if_pos he,List.append_nil]at hs
   have uz:decide ((bV L b.a:Int)=(bV L b.b:Int))=true:=decide_eq_true (by rw[he])
   (try((repeat(revert hN;revert N;apply Pn.out));refine wk (tw @f46 (tw @fg0 (tw @f1 (tw @f8 (tw @f9 (tw @f44 (tw @f45 (tw @hj (tw @E9 (tw @hA (tw @hB (tw @gM (tw @fV (tw @tl (tw @uz (tw @I9 (tw @aA.eq_1 (tw @Bool.not_true @Bool.not_false)))))))))))))))))) ?_;(repeat(refine Pn.mk ?_;intro N hN))))
   refine kd ?_ ?_ (by(try dsimp only);exact⟨by omega,by
    rw[hs]
    rcases fO with⟨h1,h2⟩|⟨p,h1,h2,h3,h4,h5⟩
    ·exact .inl ⟨h1,sd @h2⟩
    ·have AK:=dP h4
     exact .inr ⟨p,sd @h1,sd (tw @h2 @AK),h3,by omega,h5⟩⟩)
   all_goals simp only[go_sem, ↓reduceIte,Nat.reduceEqDiff,Nat.reduceAdd,Nat.reduceSub,Nat.reduceLeDiff,reduceCtorEq,f46,fg0,f1,f8,f9,f44,f45,I9]
  ·rw[if_neg he]at hs
   have uz:decide ((bV L b.a:Int)=(bV L b.b:Int))=false:=decide_eq_false fun h=>he (by omega)
   rcases fO with⟨h1,f14⟩|⟨p,f14,fg,OC,IT,hp3⟩
   ·rw[h1]at hs
    (try((repeat(revert hN;revert N;apply Pn.out));refine wk (tw @f46 (tw @fg0 (tw @f1 (tw @f8 (tw @f9 (tw @f44 (tw @f45 (tw @f14 (tw @hj (tw @E9 (tw @hA (tw @hB (tw @gM (tw @fV (tw @tl (tw @uz (tw @I9 (tw @aA.eq_1 (tw @Bool.not_true @Bool.not_false))))))))))))))))))) ?_;(repeat(refine Pn.mk ?_;intro N hN))))
    refine kd ?_ ?_ (by(try dsimp only);exact⟨by omega,.inr ⟨⟨287017015,st_f.next+1+1+1⟩,by rw[hs];simp only[go_sem, ↓reduceIte,Nat.reduceEqDiff,Nat.reduceAdd,Nat.reduceSub,Nat.reduceLeDiff,reduceCtorEq,List.nil_append,List.length_cons,List.length_nil],by rw[hs];simp only[go_sem, ↓reduceIte,Nat.reduceEqDiff,Nat.reduceAdd,Nat.reduceSub,Nat.reduceLeDiff,reduceCtorEq,aA,List.nil_append,List.map_cons,List.map_nil],by(try dsimp only);omega,by(try dsimp only);omega,by rw[hs];simp⟩⟩)
    all_goals simp only[go_sem, ↓reduceIte,Nat.reduceEqDiff,Nat.reduceAdd,Nat.reduceSub,Nat.reduceLeDiff,reduceCtorEq,f46,fg0,f1,f8,f9,f44,f45,I9]
   ·have x1:=cZ (a:=⟨287002001,σ2.next+1⟩) (b:=p) (by(try dsimp only);omega)
    have AK:=dP IT
    (try((repeat(revert hN;revert N;apply Pn.out));refine wk (tw @f46 (tw @fg0 (tw @f1 (tw @f8 (tw @f9 (tw @f44 (tw @f45 (tw @f14 (tw @fg (tw @hj (tw @E9 (tw @hA (tw @hB (tw @gM (tw @fV (tw @tl (tw @uz (tw @x1 (tw @AK (tw @I9 (tw @e1 (tw @eF (tw @aA.eq_1 (tw @Bool.not_true @Bool.not_false)))))))))))))))))))))))) ?_;(repeat(refine Pn.mk ?_;intro N hN))))
    refine kd ?_ ?_ (by(try dsimp only);exact⟨by omega,.inr ⟨⟨287017015,st_f.next+1+1+1⟩,by rw[hs,List.length_append];simp only[go_sem, ↓reduceIte,Nat.reduceEqDiff,Nat.reduceAdd,Nat.reduceSub,Nat.reduceLeDiff,reduceCtorEq,List.length_cons,List.length_nil],by rw[hs,List.map_append,List.map_cons,List.map_nil];simp only[go_sem, ↓reduceIte,Nat.reduceEqDiff,Nat.reduceAdd,Nat.reduceSub,Nat.reduceLeDiff,reduceCtorEq,aA],by(try dsimp only);omega,by(try dsimp only);omega,by rw[hs];simp⟩⟩)
    all_goals simp only[go_sem, ↓reduceIte,Nat.reduceEqDiff,Nat.reduceAdd,Nat.reduceSub,Nat.reduceLeDiff,reduceCtorEq,f46,fg0,f1,f8,f9,f44,f45,x1,I9]
 ·have gP:j=bs.length:=by omega
  subst gP
  rw[List.take_length]at fO
  rcases fO with⟨h1,f14⟩|⟨p,f14,fg,OC,IT,hp3⟩
  ·(try((repeat(revert hN;revert N;apply Pn.out));refine wk (tw @f46 (tw @fg0 (tw @f1 (tw @f8 (tw @f9 (tw @f44 (tw @f45 (tw @f14 (tw @hj @sN))))))))) ?_;(repeat(refine Pn.mk ?_;intro N hN))))
   refine iW (.inl rfl) (r1:=.int .i64 ((leads cnt L).length:Int)) (sd @Nat.zero_add) (by simp only[go_sem, ↓reduceIte,Nat.reduceEqDiff,Nat.reduceAdd,Nat.reduceSub,Nat.reduceLeDiff,reduceCtorEq];rfl) ?_
   simp only[dt,aS,bd,dr,jt,h1,Ml,Option.map_some]
  ·(try((repeat(revert hN;revert N;apply Pn.out));refine wk (tw @f46 (tw @fg0 (tw @f1 (tw @f8 (tw @f9 (tw @f44 (tw @f45 (tw @f14 (tw @hj @sN))))))))) ?_;(repeat(refine Pn.mk ?_;intro N hN))))
   refine iW (.inl rfl) (r1:=.int .i64 ((leads cnt L).length:Int)) (sd @Nat.zero_add) (by simp only[go_sem, ↓reduceIte,Nat.reduceEqDiff,Nat.reduceAdd,Nat.reduceSub,Nat.reduceLeDiff,reduceCtorEq];rfl) ?_
   have h1:gD st_f.get 5 (.own p 0 (dv L bs).length)=some (.sl ((dv L bs).map aA)):=eY (sz:=3) fg rfl fun b=>ur _ 3 b
   simp only[dt,aS,bd,dr,h1,Aj hp3,Option.map_some]
theorem xr (cnt:Nat) (qb:1<=cnt) (hn:cnt<=1048576) (t:Int):aj Tryz.prog 287 [.int .i64 cnt,.cm,.int .i64 t] (.gy [.int .i64 cnt,.cm]):=by
 refine aj.body eH rfl fun hl n0=>?_
 clear hl
 have h1:aj Tryz.prog 322 [.cm] .cm:=by
  refine aj.body eH rfl fun hl n0=>?_
  clear hl
  (try((repeat(revert hN;revert N;apply Pn.out));refine wk @Nat.zero_add ?_;(repeat(refine Pn.mk ?_;intro N hN))))
  exact wM (.inl rfl) (r0:=.cm) (sd @Nat.zero_add) (jt _ _)
 have h2:aj Tryz.prog 321 [.cm,.fn 323 [.cR [.int .i64 t]]] .cm:=by
  have Dx:=(yu [] t (by simp)).cut mixed (.cm (.same _ .nil))
  refine aj.body eH rfl fun hl n0=>?_
  clear hl
  (try((repeat(revert hN;revert N;apply Pn.out));refine wk @Nat.zero_add ?_;(repeat(refine Pn.mk ?_;intro N hN))))
  refine .inl ⟨_,aj.x Dx (by simp only[ah,aq,aP,cC,aN,List.all_cons,List.all_nil,AV.cell,Bool.and_true,if_true,Option.map_some]),?_⟩
  refine hN _ _ ?_
  clear hN N
  have hd:decide (iE (fun b:PB=>decide (b.s<t)) []= -1)=true:=rfl
  (try((repeat(revert hN;revert N;apply Pn.out));refine wk @hd ?_;(repeat(refine Pn.mk ?_;intro N hN))))
  exact wM (.inl rfl) (r0:=.cm) (sd @Nat.zero_add) (jt _ _)
 have CE:=(vM cnt qb hn [] (fun b h=>by cases h) (by simp)).cut mixed (.same _ (.cm .nil))
 (repeat(first|((repeat(revert hN;revert N;apply Pn.out));refine wk @Nat.zero_add ?_;(repeat(refine Pn.mk ?_;intro N hN)))|((try apply Or.inl);refine⟨_,aj.x (h1) (sd @Nat.zero_add),?_⟩;refine hN _ _ ?_;clear hN N)))
 refine .inl ⟨_,aj.x h2 ?_,?_⟩
 ·have:V.fz (dD (br (fun _=>none) ⟨287000000,n0⟩ ⟨true,1,[[.int .i64 t]]⟩)) 5 (.ptr ⟨287000000,n0⟩ 0 0)=some (.cR [.int .i64 t]):=sH (sz:=1) (rows:=[[.int .i64 t]]) (by simp[dD,br]) rfl (by simp only[List.drop_zero,ah,aq,aF,Option.map_some])
  simp only[ah,aq,aP,cC,this,List.all_cons,List.all_nil,AV.cell,Bool.and_true,if_true,Option.map_some]
 refine hN _ _ ?_
 clear hN N
 have fV:eB ([]:List PB)=id:=rfl
 rw[fV]at CE
 have hL:jJ id:=fV▸tL ([]:List PB)
 have P3:(leads cnt id).length=cnt:=by rw[leads,List.filter_eq_self.2 (fun a _=>by simp)];simp
 generalize (id:Nat->Nat)=L at *
 have sN:((fB cnt L).map AG).length=(leads cnt L).length:=by simp[fB]
 have SL:=jR cnt L
 have jL:(0:Int)<=(cnt:Int):=by omega
 have qa:(cnt:Int)<=((16777216:Nat):Int):=by omega
 have gN:List.replicate cnt [AV.int .i64 0]=dO (db cnt L 0 0) cnt:=by rw[wW,oQ]
 (repeat(first|((repeat(revert hN;revert N;apply Pn.out));refine wk (tw @jL (tw @qa (tw @Int.le_refl (tw @sN @gN)))) ?_;(repeat(refine Pn.mk ?_;intro N hN)))|((try apply Or.inl);refine⟨_,aj.x (CE) (sd (tw @jL (tw @qa (tw @Int.le_refl (tw @sN @gN))))),?_⟩;refine hN _ _ ?_;clear hN N)))
 refine aZ (fun n env st=>∃i:Nat,n=((leads cnt L).length)-i/\i<=((leads cnt L).length)/\env 27=.int .i64 (i:Int)/\st.get ⟨287002001,n0+1+1⟩=some ⟨true,1,dO (db cnt L i 0) cnt⟩/\(n0+1+1<st.next)) ((leads cnt L).length) ⟨0,by omega,by omega,sl (tw @gN @sN),sl (tw @gN @sN),(by(try dsimp only);omega)⟩ ?_
 rintro n_c env_c st_c ⟨i,rfl,cle,c27,cg0,cI0⟩ cfr
 have c1:=cfr 1 (by kernel_rfl);have c8:=cfr 8 (by kernel_rfl);have c9:=cfr 9 (by kernel_rfl);have xp:=cfr 25 (by kernel_rfl);have xq:=cfr 26 (by kernel_rfl)
 simp only[go_sem, ↓reduceIte,Nat.reduceEqDiff,Nat.reduceAdd,Nat.reduceSub,Nat.reduceLeDiff,reduceCtorEq,gN,sN]at c1 c8 c9 xp xq
 clear cfr
 by_cases hi:(i:Int)<((leads cnt L).length:Int)
 ·have iw:∀{e:Env} {gg:Rows} {nx:Nat},(e 27=.int .i64 (IntKind.i64.wrap ((i:Int)+1)))->(gg ⟨287002001,n0+1+1⟩=some ⟨true,1,dO (db cnt L (i+1) 0) cnt⟩)->(n0+1+1<nx)->∃m0,m0<((leads cnt L).length)-i/\∃i:Nat,m0=((leads cnt L).length)-i/\i<=((leads cnt L).length)/\e 27=.int .i64 (i:Int)/\gg ⟨287002001,n0+1+1⟩=some ⟨true,1,dO (db cnt L i 0) cnt⟩/\(n0+1+1<nx):=fun x1 x2 x3=>⟨_,by omega,i+1,rfl,by omega,(by rw[x1,az (by omega)]),x2,x3⟩
  have fc:i<(leads cnt L).length:=by omega
  have jM:((fB cnt L).map AG)[i]? =some (AG (members cnt L (leads cnt L)[i])):=by simp[fB,fc]
  have uA:(leads cnt L).getD i 0=(leads cnt L)[i]:=by simp[List.getD_eq_getElem?_getD,fc]
  have kr:∀m,db cnt L i m=fun x=>if bV L x<i then bV L x else if x∈(members cnt L (leads cnt L)[i]).take m then i else 0:=fun m=>by unfold db;rw[uA]
  have rH:=fun x (hx:x<cnt)=>sV hL (n:=cnt) (k:=x) (i:=i) hx fc
  have pr:(members cnt L (leads cnt L)[i]).Nodup:=List.nodup_range.filter _
  have KO:∀x∈members cnt L (leads cnt L)[i],x<cnt:=fun x hx=>(lV.1 hx).1
  have hMc:(members cnt L (leads cnt L)[i]).length<=cnt:=by
   have:=List.length_filter_le (fun k=>L k==(leads cnt L)[i]) (List.range cnt)
   simpa[members]using this
  generalize members cnt L (leads cnt L)[i]=M at *
  have CB:(M.map eN).length=M.length:=by simp
  (try((repeat(revert hN;revert N;apply Pn.out));refine wk (tw @c27 (tw @cg0 (tw @c1 (tw @c8 (tw @c9 (tw @xp (tw @xq (tw @hi (tw @sN (tw @jM (tw @AG.eq_1 @CB))))))))))) ?_;(repeat(refine Pn.mk ?_;intro N hN))))
  refine aZ (fun n env st=>∃m:Nat,n=(M.length)-m/\m<=(M.length)/\env 34=.int .i64 (m:Int)/\st.get ⟨287002001,n0+1+1⟩=some ⟨true,1,dO (db cnt L i m) cnt⟩/\(n0+1+1<st.next)) (M.length) ⟨0,by omega,by omega,sl (tw @c27 (tw @cg0 (tw @c1 (tw @c8 (tw @c9 (tw @xp (tw @xq @CB))))))),sl (tw @c27 (tw @cg0 (tw @c1 (tw @c8 (tw @c9 (tw @xp (tw @xq @CB))))))),(by(try dsimp only);omega)⟩ ?_
  rintro n_d env_d st_d ⟨m,rfl,dle,d34,dg0,dI0⟩ dfr
  have d1:=dfr 1 (by kernel_rfl);have d8:=dfr 8 (by kernel_rfl);have d9:=dfr 9 (by kernel_rfl);have d10:=dfr 10 (by kernel_rfl);have d25:=dfr 25 (by kernel_rfl);have d26:=dfr 26 (by kernel_rfl);have d27:=dfr 27 (by kernel_rfl);have d32:=dfr 32 (by kernel_rfl);have d33:=dfr 33 (by kernel_rfl)
  simp only[go_sem, ↓reduceIte,Nat.reduceEqDiff,Nat.reduceAdd,Nat.reduceSub,Nat.reduceLeDiff,reduceCtorEq,c27,cg0,c1,c8,c9,xp,xq,CB]at d1 d8 d9 d10 d25 d26 d27 d32 d33
  clear dfr
  have tl:=gn (db cnt L i m) cnt
  by_cases hm:(m:Int)<(M.length:Int)
  ·have tO:∀{e:Env} {gg:Rows} {nx:Nat},(e 34=.int .i64 (IntKind.i64.wrap ((m:Int)+1)))->(gg ⟨287002001,n0+1+1⟩=some ⟨true,1,dO (db cnt L i (m+1)) cnt⟩)->(n0+1+1<nx)->∃m0,m0<(M.length)-m/\∃m:Nat,m0=(M.length)-m/\m<=(M.length)/\e 34=.int .i64 (m:Int)/\gg ⟨287002001,n0+1+1⟩=some ⟨true,1,dO (db cnt L i m) cnt⟩/\(n0+1+1<nx):=fun x1 x2 x3=>⟨_,by omega,m+1,rfl,by omega,(by rw[x1,az (by omega)]),x2,x3⟩
   have zG:m<M.length:=by omega
   have vO:(M.map eN)[m]? =some (eN M[m]):=by simp[zG]
   have vZ:=KO _ (List.getElem_mem zG)
   have CK:(M[m]:Int)<(cnt:Int):=by omega
   have CJ:=fw (f:=db cnt L i m) vZ
   have fh:(dO (db cnt L i m) cnt).set M[m] (eN i)=dO (db cnt L i (m+1)) cnt:=pO vZ (by
    have h1:=(rH _ vZ).1 (List.getElem_mem zG)
    rw[kr]
    simp only[]
    rw[if_neg (by omega),if_pos (by rw[List.take_succ_eq_append_getElem zG];exact List.mem_append_right _ (List.mem_singleton.2 rfl))]) fun x hx ik=>by
    rw[kr,kr]
    simp only[]
    rw[List.take_succ_eq_append_getElem zG]
    simp only[List.mem_append,List.mem_singleton,ik,or_false]
   rw[eN]at fh CJ
   generalize M[m]=xm at *
   (try((repeat(revert hN;revert N;apply Pn.out));refine wk (tw @d34 (tw @dg0 (tw @d1 (tw @d8 (tw @d9 (tw @d10 (tw @d25 (tw @d26 (tw @d27 (tw @d32 (tw @d33 (tw @hm (tw @hi (tw @vO (tw @CB (tw @CK (tw @CJ (tw @tl (tw @fh @eN.eq_1))))))))))))))))))) ?_;(repeat(refine Pn.mk ?_;intro N hN))))
   refine tO ?_ ?_ (by(try dsimp only);omega)
   all_goals simp only[go_sem, ↓reduceIte,Nat.reduceEqDiff,Nat.reduceAdd,Nat.reduceSub,Nat.reduceLeDiff,reduceCtorEq,d34,dg0,d1,d8,d9,d10,d25,d26,d27,d32,d33,fh]
  ·have eF:m=M.length:=by omega
   subst eF
   have qz:dO (db cnt L i M.length) cnt=dO (db cnt L (i+1) 0) cnt:=im fun x hx=>by
    rw[kr,List.take_length]
    simp only[db,List.take_zero,List.not_mem_nil,if_false]
    have h1:=rH x hx
    by_cases h2:bV L x<i
    ·rw[if_pos h2,if_pos (by omega)]
    ·rw[if_neg h2]
     by_cases h3:x∈M
     ·rw[if_pos h3,if_pos (by have:=h1.1 h3;omega),h1.1 h3]
     ·rw[if_neg h3,if_neg fun h4=>h3 (h1.2 (by omega))]
   (try((repeat(revert hN;revert N;apply Pn.out));refine wk (tw @d34 (tw @dg0 (tw @d1 (tw @d8 (tw @d9 (tw @d10 (tw @d25 (tw @d26 (tw @d27 (tw @d32 (tw @d33 (tw @hm (tw @hi (tw @sN @CB)))))))))))))) ?_;(repeat(refine Pn.mk ?_;intro N hN))))
   refine iw ?_ ?_ (by(try dsimp only);omega)
   all_goals simp only[go_sem, ↓reduceIte,Nat.reduceEqDiff,Nat.reduceAdd,Nat.reduceSub,Nat.reduceLeDiff,reduceCtorEq,c27,cg0,c1,c8,c9,xp,xq,d34,dg0,d1,d8,d9,d10,d25,d26,d27,d32,d33,qz]
 have lO:i=(leads cnt L).length:=by omega
 subst lO
 have rI:dO (db cnt L (leads cnt L).length 0) cnt=dO (bV L) cnt:=im fun x hx=>by rw[db,if_pos (kc hL hx)]
 rw[rI]at cg0
 have tl:=gn (bV L) cnt
 (try((repeat(revert hN;revert N;apply Pn.out));refine wk (tw @c27 (tw @cg0 (tw @c1 (tw @c8 (tw @c9 (tw @xp (tw @xq (tw @hi @sN)))))))) ?_;(repeat(refine Pn.mk ?_;intro N hN))))
 refine aZ (fun n env st=>∃j:Nat,n=(0)-j/\j<=(0)/\env 46=.int .i64 (j:Int)/\env 14=.cm) (0) ⟨0,by omega,by omega,sl (tw @c27 (tw @cg0 (tw @c1 (tw @c8 (tw @c9 (tw @xp @xq)))))),sl (tw @c27 (tw @cg0 (tw @c1 (tw @c8 (tw @c9 (tw @xp @xq))))))⟩ ?_
 rintro n_f env_f st_f ⟨j,rfl,fle,f46,f14⟩ ffr
 have f8:=ffr 8 (by kernel_rfl);have f44:=ffr 44 (by kernel_rfl);have f45:=ffr 45 (by kernel_rfl)
 simp only[go_sem, ↓reduceIte,Nat.reduceEqDiff,Nat.reduceAdd,Nat.reduceSub,Nat.reduceLeDiff,reduceCtorEq,c27,cg0,c1,c8,c9,xp,xq]at f8 f44 f45
 clear ffr
 have hj:¬(j:Int)<((0:Nat):Int):=by omega
 (try((repeat(revert hN;revert N;apply Pn.out));refine wk (tw @f46 (tw @f14 (tw @f8 (tw @f44 (tw @f45 (tw @hj @sN)))))) ?_;(repeat(refine Pn.mk ?_;intro N hN))))
 refine iW (.inl rfl) (r1:=.int .i64 ((leads cnt L).length:Int)) (r2:=.cm) (sd @Nat.zero_add) (sd @Nat.zero_add) ?_
 simp only[dt,aS,bd,dr,jt,P3,Option.map_some]
theorem zq (cnt:Nat) (qb:1<=cnt) (hn:cnt<=1048576) (bs:List PB) (hb:∀b∈bs,b.a<cnt/\b.b<cnt) (nX:bs.length<=1048576) (t:Int):aj Tryz.prog 287 [.int .i64 cnt,Ai bs,.int .i64 t] (.gy [.int .i64 (leads cnt (eB (aO t bs))).length,Ai (dv (eB (aO t bs)) bs)]):=by
 cases bs with
 |nil=>
  have h:=xr cnt qb hn t
  have P3:(leads cnt (eB (aO t []))).length=cnt:=by
   show(leads cnt id).length=cnt
   rw[leads,List.filter_eq_self.2 (fun a _=>by simp)];simp
  rw[P3]
  exact h
 |cons b r=>
  rw[Aj (by simp)]
  exact xt cnt qb hn (b::r) hb (by simp) nX t
end Go.Proofs.YtgoljkjaameagaaGreat.V

namespace Go.Proofs.YtgoljkjaameagaaGreat.V
open Go.RowKit
attribute [local irreducible] dE wpOps fS Call
attribute [local go_sem] aH fq eG fH fG cX upd bZ K.av cD AV.cells AV.cell rowOf rowsOf part ld rowAt br bP dn dR gK bx cQ eb fD eS di dW cN cL dH dI bD aW cF bB cH cG dU dX dV cE bG cP dS bz aI cJ cq gJ bj cz bE aT de aX dp AV.undef bq bt dL dQ dB dz cw ea ee cj dZ dY cI cK List.getD_cons_zero List.getD_cons_succ List.getD_nil List.all_cons List.all_nil Bool.and_true Bool.true_and Bool.and_self Bool.not_true Bool.not_false Option.map_some Option.map_none Option.bind_some Option.bind_none List.length_cons List.length_nil List.take_succ_cons List.take_zero List.take_nil List.drop_succ_cons List.drop_zero List.drop_nil List.head?_cons List.map_cons List.map_nil List.getElem?_cons_zero List.getElem?_cons_succ List.cons_append List.nil_append List.append_nil List.length_map List.set_cons_zero List.set_cons_succ Nat.reduceMul eq_self Int.toNat_natCast Int.natCast_nonneg and_self true_and and_true decide_true decide_false Bool.false_eq_true Nat.zero_add Nat.add_zero List.contains_cons List.contains_nil Bool.or_false Bool.false_or beq_self_eq_true Nat.reduceBEq ne_eq not_true_eq_false not_false_eq_true Id.mk.injEq false_and and_false Nat.reduceLT Int.reduceLE Int.reduceLT Int.reduceToNat Int.reduceNeg Int.reduceAdd Nat.le_refl List.length_append beq_true beq_false Bool.not_eq_eq_eq_not or_false false_or dD ah aq aF aY bp bK aP bc aN aV cC bF
attribute [local go_sem] FE
section
attribute [-go_sem] dn
theorem LZ (n:Nat) (hn:n<=1048576):aj Tryz.prog 340 [.int .u64 1,.int .u64 n] (.gy [.int .u64 0,.int .u64 n]):=by
 refine aj.body eH rfl fun hl n0=>?_
 clear hl
 have b1:(BitVec.ofInt 64 (n:Int)&&& BitVec.ofInt 64 4294967295).toNat=n:=by
  rw[BitVec.toNat_and]
  have e1:(BitVec.ofInt 64 (n:Int)).toNat=n:=by rw[BitVec.toNat_ofInt];omega
  have e2:(BitVec.ofInt 64 4294967295).toNat=2 ^ 32-1:=by decide
  rw[e1,e2]
  exact Nat.and_two_pow_sub_one_of_lt_two_pow (by omega)
 have zn:IntKind.u64.wrap (n:Int)=n:=by rw[IntKind.wrap_u64];omega
 have i1:dn .and .u64 (n:Int) 4294967295=some (.int .u64 n):=by
  show some (AV.int .u64 (IntKind.u64.wrap (((BitVec.ofInt 64 (n:Int)&&& BitVec.ofInt 64 4294967295).toNat:Nat):Int)))= _
  rw[b1,zn]
 have i2:dn .and .u64 1 4294967295=some (.int .u64 1):=rfl
 have i3:dn .and .u64 0 4294967295=some (.int .u64 0):=rfl
 have i4:dn .mul .u64 1 (n:Int)=some (.int .u64 n):=by simp only[dn,Int.one_mul,zn]
 have i5:dn .mul .u64 0 (n:Int)=some (.int .u64 0):=by simp only[dn,Int.zero_mul];rfl
 have i6:dn .mul .u64 1 0=some (.int .u64 0):=rfl
 have i7:dn .mul .u64 0 0=some (.int .u64 0):=rfl
 have i8:dn .add .u64 0 0=some (.int .u64 0):=rfl
 have a3:Int.fdiv 1 (2 ^ min 32 64)=0:=by decide
 have a4:Int.fdiv (n:Int) (2 ^ min 32 64)=0:=by
  rw[Int.fdiv_eq_ediv_of_nonneg _ (by decide)]
  have h32:(2:Int) ^ min 32 64=4294967296:=by decide
  exact Int.ediv_eq_zero_of_lt (by omega) (by omega)
 have z1:Int.fdiv 0 (2 ^ min 32 64)=0:=by decide
 (try((repeat(revert hN;revert N;apply Pn.out));refine wk (tw @i1 (tw @i2 (tw @i3 (tw @i4 (tw @i5 (tw @i6 (tw @i7 (tw @i8 (tw @a3 (tw @a4 @z1)))))))))) ?_;(repeat(refine Pn.mk ?_;intro N hN))))
 refine iW (.inl rfl) (r1:=.int .u64 0) (r2:=.int .u64 n) (sd @Nat.zero_add) (sd @Nat.zero_add) ?_
 simp only[dt,aS,bd,dr,Option.map_some]
end
theorem RK (n:Nat) (hn:n<=1048576):aj Tryz.prog 337 [.int .u64 1,.int .u64 n] (.gy [.int .u64 0,.int .u64 n]):=by
 refine aj.body eH rfl fun hl n0=>?_
 clear hl
 have h:=LZ n hn
 (repeat(first|((repeat(revert hN;revert N;apply Pn.out));refine wk @Nat.zero_add ?_;(repeat(refine Pn.mk ?_;intro N hN)))|((try apply Or.inl);refine⟨_,aj.x (h) (sd @Nat.zero_add),?_⟩;refine hN _ _ ?_;clear hN N)))
 refine iW (.inl rfl) (r1:=.int .u64 0) (r2:=.int .u64 n) (sd @Nat.zero_add) (sd @Nat.zero_add) ?_
 simp only[dt,aS,bd,dr,Option.map_some]
theorem JT (cnt:Nat) (qb:1<=cnt) (hn:cnt<=1048576) (v:Int) (x:Id) (σ:aw) (hx:σ.get x=some ⟨true,1,[[.int .i64 v]]⟩) (OM:x.bY<σ.next):
  Call Tryz.prog 327 [.own x 0 1,.int .i64 cnt] σ fun r σ'=>∃o:Id,r=.own o 0 cnt/\σ'.get o=some ⟨true,1,List.replicate cnt [.int .i64 v]⟩/\σ.next<=o.bY/\o.bY<σ'.next/\∀i:Id,i.bY<σ.next->σ'.get i=σ.get i:=by
 refine gY eH rfl fun hl=>?_
 clear hl
 have h:=RK cnt hn
 have w1:IntKind.u64.wrap (cnt:Int)=cnt:=by rw[IntKind.wrap_u64];omega
 have w2:IntKind.i64.wrap (cnt:Int)=cnt:=Kv (by omega)
 have w0:IntKind.u64.wrap ((1:Nat):Int)=1:=by decide
 have g1:¬(cnt:Int)<0:=by omega
 have g2:¬(9223372036854775807:Int)<cnt:=by omega
 have jL:(0:Int)<=(cnt:Int):=by omega
 have qa:(cnt:Int)<=((16777216:Nat):Int):=by omega
 have KT:=dP OM
 have tH:(List.replicate cnt [AV.int .i64 0]).length=cnt:=List.length_replicate
 have m1:min 1 cnt=1:=by omega
 (repeat(first|((repeat(revert hN;revert N;apply Pn.out));refine wk (tw @w0 (tw @w1 (tw @w2 (tw @g1 (tw @g2 (tw @jL (tw @qa (tw @Int.le_refl (tw @Nat.le_refl (tw @hx (tw @KT (tw @tH @m1)))))))))))) ?_;(repeat(refine Pn.mk ?_;intro N hN)))|((try apply Or.inl);refine⟨_,aj.x (h) (sd (tw @w0 (tw @w1 (tw @w2 (tw @g1 (tw @g2 (tw @jL (tw @qa (tw @Int.le_refl (tw @Nat.le_refl (tw @hx (tw @KT (tw @tH @m1))))))))))))),?_⟩;refine hN _ _ ?_;clear hN N)))
 refine aZ (fun m env st=>∃k:Nat,m=cnt-k/\1<=k/\k<=cnt/\env 8=.int .i64 (k:Int)/\st.get ⟨327006002,σ.next+1+1+1+1⟩=some ⟨true,1,List.replicate k [.int .i64 v]++List.replicate (cnt-k) [.int .i64 0]⟩/\σ.next+4<st.next/\∀i:Id,i.bY<σ.next->st.get i=σ.get i) (cnt-1) ⟨1,rfl,Nat.le_refl _,qb,by(simp only[go_sem, ↓reduceIte,Nat.reduceEqDiff,Nat.reduceAdd,Nat.reduceSub,Nat.reduceLeDiff,reduceCtorEq,m1])<;>rfl,?_,by(try dsimp only);omega,fun i hi=>?_⟩ ?_
 ·simp only[go_sem, ↓reduceIte,Nat.reduceEqDiff,Nat.reduceAdd,Nat.reduceSub,Nat.reduceLeDiff,reduceCtorEq]
  rw[List.drop_replicate];rfl
 ·have DF:=dP hi
  simp only[go_sem, ↓reduceIte,Nat.reduceEqDiff,Nat.reduceAdd,Nat.reduceSub,Nat.reduceLeDiff,reduceCtorEq,DF]
 rintro m env_b st_b ⟨k,rfl,sk,mC,b8,bg,bn,fM⟩ bkp
 have b7:=bkp 7 (by kernel_rfl)
 simp only[go_sem, ↓reduceIte,Nat.reduceEqDiff,Nat.reduceAdd,Nat.reduceSub,Nat.reduceLeDiff,reduceCtorEq]at b7
 clear bkp
 have Rm:(List.replicate k [AV.int .i64 v]++List.replicate (cnt-k) [AV.int .i64 0]).length=cnt:=by simp;omega
 by_cases hk:(k:Int)<(cnt:Int)
 ·have fm:k<cnt:=by omega
  have lz:(k:Int)<=(cnt:Int):=by omega
  have hw:IntKind.i64.wrap ((k:Int)+((min k (cnt-k):Nat):Int))=((k+min k (cnt-k):Nat):Int):=by rw[bU (by omega)];omega
  have mm:List.take k (List.replicate k [AV.int .i64 v]++List.replicate (cnt-k) [AV.int .i64 0])=List.replicate k [AV.int .i64 v]:=List.take_left' (by simp)
  have dG:(List.replicate k [AV.int .i64 v]).all (fun c=>c.length==1&&c.all AV.cell)=true:=List.all_eq_true.2 fun c hc=>by rw[List.eq_of_mem_replicate hc];rfl
  have hlr:(List.replicate k [AV.int .i64 v]).length=k:=List.length_replicate
  have UR:k+(cnt-k)=cnt:=by omega
  have vV:List.replicate k [AV.int .i64 v]++List.take (min k (cnt-k)) (List.replicate k [AV.int .i64 v])++List.drop (k+min k (cnt-k)) (List.replicate k [AV.int .i64 v]++List.replicate (cnt-k) [AV.int .i64 0])=List.replicate (k+min k (cnt-k)) [AV.int .i64 v]++List.replicate (cnt-(k+min k (cnt-k))) [AV.int .i64 0]:=by
   rw[List.take_replicate,List.drop_append,List.drop_of_length_le (by simp),List.nil_append,hlr,List.drop_replicate,List.replicate_append_replicate]
   congr 2
   ·omega
   ·omega
  (try((repeat(revert hN;revert N;apply Pn.out));refine wk (tw @b7 (tw @b8 (tw @bg (tw @Rm (tw @hk (tw @lz (tw @mC (tw @hw (tw @fm (tw @Nat.sub_zero (tw @mm (tw @dG (tw @hlr (tw @UR (tw @Nat.le_refl @vV))))))))))))))) ?_;(repeat(refine Pn.mk ?_;intro N hN))))
  refine⟨_,?_,k+min k (cnt-k),rfl,by omega,by omega,sd @hw,sd @vV,by(try dsimp only);omega,fun i hi=>?_⟩
  ·omega
  ·have DF:=dP hi
   have:=fM i hi
   simp only[go_sem, ↓reduceIte,Nat.reduceEqDiff,Nat.reduceAdd,Nat.reduceSub,Nat.reduceLeDiff,reduceCtorEq,DF,this]
 ·have kq:k=cnt:=by omega
  subst kq
  (try((repeat(revert hN;revert N;apply Pn.out));refine wk (tw @b7 (tw @b8 (tw @bg (tw @Rm @hk)))) ?_;(repeat(refine Pn.mk ?_;intro N hN))))
  refine gV (.inl rfl) (vs:=[.own ⟨327006002,σ.next+1+1+1+1⟩ 0 k]) (sd @Nat.zero_add) ⟨⟨327006002,σ.next+1+1+1+1⟩,rfl,by simp only[go_sem, ↓reduceIte,Nat.reduceEqDiff,Nat.reduceAdd,Nat.reduceSub,Nat.reduceLeDiff,reduceCtorEq,bg];simp,by(try dsimp only);omega,by(try dsimp only);omega,fun i hi=>fM i hi⟩
end Go.Proofs.YtgoljkjaameagaaGreat.V

namespace Go.Proofs.YtgoljkjaameagaaGreat.V
open Go.RowKit
attribute [local irreducible] dE wpOps fS Call
attribute [local go_sem] aH fq eG fH fG cX upd bZ K.av cD AV.cells AV.cell rowOf rowsOf part ld rowAt br bP dn dR gK bx cQ eb fD eS di dW cN cL dH dI bD aW cF bB cH cG dU dX dV cE bG cP dS bz aI cJ cq gJ bj cz bE aT de aX dp AV.undef bq bt dL dQ dB dz cw ea ee cj dZ dY cI cK List.getD_cons_zero List.getD_cons_succ List.getD_nil List.all_cons List.all_nil Bool.and_true Bool.true_and Bool.and_self Bool.not_true Bool.not_false Option.map_some Option.map_none Option.bind_some Option.bind_none List.length_cons List.length_nil List.take_succ_cons List.take_zero List.take_nil List.drop_succ_cons List.drop_zero List.drop_nil List.head?_cons List.map_cons List.map_nil List.getElem?_cons_zero List.getElem?_cons_succ List.cons_append List.nil_append List.append_nil List.length_map List.set_cons_zero List.set_cons_succ Nat.reduceMul eq_self Int.toNat_natCast Int.natCast_nonneg and_self true_and and_true decide_true decide_false Bool.false_eq_true Nat.zero_add Nat.add_zero List.contains_cons List.contains_nil Bool.or_false Bool.false_or beq_self_eq_true Nat.reduceBEq ne_eq not_true_eq_false not_false_eq_true Id.mk.injEq false_and and_false Nat.reduceLT Int.reduceLE Int.reduceLT Int.reduceToNat Int.reduceNeg Int.reduceAdd Nat.le_refl List.length_append beq_true beq_false Bool.not_eq_eq_eq_not or_false false_or dD ah aq aF aY bp bK aP bc aN aV cC bF
def lk (R:Nat->Id) (n k:Nat):List (List AV):=(List.range k).map fun i=>[.own (R i) 0 n]
theorem kh (R:Nat->Id) (n k:Nat):(lk R n k).length=k:=by simp[lk]
theorem r7 {R:Nat->Id} {n k i:Nat} (h:i<k):(lk R n k)[i]? =some [.own (R i) 0 n]:=by simp[lk,h]
theorem te (R:Nat->Id) (n k:Nat):lk R n (k+1)=lk R n k++[[.own (R k) 0 n]]:=by simp[lk,List.range_succ]
def xL (c:Nat->Nat->Int) (n:Nat):List (List AV):=(List.range n).map fun i=>[.sl (eo (c i) n)]
theorem Cq {c:Nat->Nat->Int} {n i:Nat} (h:i<n):(xL c n)[i]? =some [.sl (eo (c i) n)]:=by simp[xL,h]
theorem wV (c:Nat->Nat->Int) (n:Nat):(xL c n).length=n:=by simp[xL]
structure FN (X o1 o2:Id) (R1 R2:Nat->Id) (n nb:Nat):Prop where
 sx:X.site=299001001
 s1:o1.site=299004008
 s2:o2.site=299005008
 Ta:∀i,i<n->(R1 i).site=299004006
 Ni:∀i,i<n->(R2 i).site=299005006
 i1:∀i j,i<n->j<n->R1 i=R1 j->i=j
 i2:∀i j,i<n->j<n->R2 i=R2 j->i=j
 vx:X.bY<nb
 v1:o1.bY<nb
 v2:o2.bY<nb
 Td:∀i,i<n->(R1 i).bY<nb
 Qm:∀i,i<n->(R2 i).bY<nb
structure nK (g:Rows) (X o1 o2:Id) (R1 R2:Nat->Id) (n:Nat) (c f:Nat->Nat->Int):Prop where
 x:g X=some ⟨true,2,[[.own o1 0 n,.own o2 0 n]]⟩
 t1:g o1=some ⟨true,1,lk R1 n n⟩
 t2:g o2=some ⟨true,1,lk R2 n n⟩
 r1:∀i,i<n->g (R1 i)=some ⟨true,1,eo (c i) n⟩
 r2:∀i,i<n->g (R2 i)=some ⟨true,1,eo (f i) n⟩
theorem nK.frame {g g':Rows} {X o1 o2:Id} {R1 R2:Nat->Id} {n nb:Nat} {c f:Nat->Nat->Int} (I:FN X o1 o2 R1 R2 n nb) (h:nK g X o1 o2 R1 R2 n c f) (hf:∀i:Id,i.bY<nb->g' i=g i):nK g' X o1 o2 R1 R2 n c f:=
 ⟨(hf _ I.vx).trans h.x,(hf _ I.v1).trans h.t1,(hf _ I.v2).trans h.t2,fun i hi=>(hf _ (I.Td i hi)).trans (h.r1 i hi),fun i hi=>(hf _ (I.Qm i hi)).trans (h.r2 i hi)⟩
theorem ot {f:Nat->Nat->Int} {a b:Nat} {d:Int} {n:Nat} (hb:b<n):(eo (f a) n).set b (bJ (f a b+d))=eo (bump f a b d a) n:=ll hb (by simp[bump]) fun i _ hi=>by simp[bump,hi]
theorem j6 {f:Nat->Nat->Int} {a b i:Nat} {d:Int} (h:i≠a):bump f a b d i=f i:=by funext v;simp[bump,h]
theorem nK.add {g g':Rows} {X o1 o2:Id} {R1 R2:Nat->Id} {n nb:Nat} {c f:Nat->Nat->Int} (I:FN X o1 o2 R1 R2 n nb) (h:nK g X o1 o2 R1 R2 n c f) (b:PB) (ha:b.a<n) (hb:b.b<n) (hA:b.a≠b.b->g' (R1 b.a)=some ⟨true,1,eo (bump c b.a b.b b.s b.a) n⟩) (hB:g' (R1 b.b)=some ⟨true,1,eo (nM c b b.b) n⟩) (hf:∀i:Id,i.bY<nb->(i=R1 b.a)=False->(i=R1 b.b)=False->g' i=g i):nK g' X o1 o2 R1 R2 n (nM c b) f:=by
 have ne:∀{i:Id} {s:Nat},i.site=s->(s==299004006)=false->∀a,a<n->(i=R1 a)=False:=fun {i s} hi hs a ha=>by
  simp only[eq_iff_iff,iff_false]
  rintro rfl
  rw[I.Ta a ha]at hi
  subst hi
  simp at hs
 refine⟨(hf _ I.vx (ne I.sx (by decide) _ ha) (ne I.sx (by decide) _ hb)).trans h.x,(hf _ I.v1 (ne I.s1 (by decide) _ ha) (ne I.s1 (by decide) _ hb)).trans h.t1,(hf _ I.v2 (ne I.s2 (by decide) _ ha) (ne I.s2 (by decide) _ hb)).trans h.t2,fun i hi=>?_,fun i hi=>(hf _ (I.Qm i hi) (ne (I.Ni i hi) (by decide) _ ha) (ne (I.Ni i hi) (by decide) _ hb)).trans (h.r2 i hi)⟩
 by_cases KJ:i=b.b
 ·subst KJ;exact hB
 ·by_cases Ov:i=b.a
  ·subst Ov
   rw[hA KJ,nM,j6 KJ]
  ·rw[nM,j6 KJ,j6 Ov,hf _ (I.Td i hi) (by simp only[eq_iff_iff,iff_false];exact fun he=>Ov (I.i1 i _ hi ha he)) (by simp only[eq_iff_iff,iff_false];exact fun he=>KJ (I.i1 i _ hi hb he))]
   exact h.r1 i hi
def lK (n:Nat) (c f:Nat->Nat->Int):List AV:=[.sl (xL c n),.sl (xL f n)]
theorem FD {g:Rows} {R:Nat->Id} {n k:Nat} {c:Nat->Nat->Int} (h:∀i,i<k->g (R i)=some ⟨true,1,eo (c i) n⟩) (m:Nat):ev (dD g) (m+3) (lk R n k)=some ((List.range k).map fun i=>[.sl (eo (c i) n)]):=by
 induction k with
 |zero=>rw[show lk R n 0=[]from rfl,ev];rfl
 |succ k ih=>
  have e1:V.fz (dD g) (m+3) (.own (R k) 0 n)=some (.sl (eo (c k) n)):=by
   rw[iv];simp only[dD,h k (by omega),Option.map_some,if_true]
   rw[if_pos (by rw[dM];omega),List.drop_zero,List.take_of_length_le (by rw[dM];omega),Ap];rfl
  have app:∀(xs ys:List (List AV)) (Tf Se:List (List AV)),ev (dD g) (m+3) xs=some Tf->ev (dD g) (m+3) ys=some Se->ev (dD g) (m+3) (xs++ys)=some (Tf++Se):=by
   intro xs
   induction xs with
   |nil=>intro ys Tf Se h1 h2;rw[ev]at h1;cases h1;exact h2
   |cons a xs ih2=>
    intro ys Tf Se h1 h2
    rw[ev]at h1
    rw[List.cons_append,ev]
    cases ha:dc (dD g) (m+3) a with
    |none=>simp[ha]at h1
    |some a'=>
     cases hb:ev (dD g) (m+3) xs with
     |none=>simp[ha,hb]at h1
     |some b'=>
      simp[ha,hb]at h1
      subst h1
      rw[ih2 ys b' Se hb h2];rfl
  rw[te,List.range_succ,List.map_append]
  refine app _ _ _ _ (ih fun i hi=>h i (by omega)) ?_
  rw[ev,ah,aq,e1,ev];rfl
theorem nK.fz {g:Rows} {X o1 o2:Id} {R1 R2:Nat->Id} {n:Nat} {c f:Nat->Nat->Int} (h:nK g X o1 o2 R1 R2 n c f):V.fz (dD g) 6 (.ptr X 0 0)=some (.cR (lK n c f)):=by
 refine sH (sz:=2) (rows:=[[.own o1 0 n,.own o2 0 n]]) (by simp[dD,h.x]) rfl ?_
 have e1:V.fz (dD g) 5 (.own o1 0 n)=some (.sl (xL c n)):=by
  rw[iv];simp only[dD,h.t1,Option.map_some,if_true]
  rw[if_pos (by rw[kh];omega),List.drop_zero,List.take_of_length_le (by rw[kh];omega)]
  rw[show ev _ 4 _=some (xL c n)from FD h.r1 1];rfl
 have e2:V.fz (dD g) 5 (.own o2 0 n)=some (.sl (xL f n)):=by
  rw[iv];simp only[dD,h.t2,Option.map_some,if_true]
  rw[if_pos (by rw[kh];omega),List.drop_zero,List.take_of_length_le (by rw[kh];omega)]
  rw[show ev _ 4 _=some (xL f n)from FD h.r2 1];rfl
 simp only[List.drop_zero,ah,aq,e1,e2,lK,Option.map_some]
theorem NV (n:Nat) (c f:Nat->Nat->Int) (u v:Nat) (hu:u<n) (hv:v<n):aj Tryz.prog 328 [.cR (lK n c f),.int .i64 u,.int .i64 v] (.bool (decide (f u v<c u v))):=by
 refine aj.body eH rfl fun hl n0=>?_
 clear hl
 have h1:=Cq (c:=c) hu
 have h2:=Cq (c:=f) hu
 have h3:=ef (f:=c u) hv
 have h4:=ef (f:=f u) hv
 have hui:(u:Int)<(n:Int):=by omega
 have DF:(v:Int)<(n:Int):=by omega
 have l1:=wV c n
 have l2:=wV f n
 have l3:=dM (c u) n
 have l4:=dM (f u) n
 rw[bJ]at h3 h4
 (try((repeat(revert hN;revert N;apply Pn.out));refine wk (tw @lK.eq_1 (tw @h1 (tw @h2 (tw @h3 (tw @h4 (tw @hui (tw @DF (tw @l1 (tw @l2 (tw @l3 @l4)))))))))) ?_;(repeat(refine Pn.mk ?_;intro N hN))))
 exact aM (b:=decide (f u v<c u v)) (.inl rfl) (sd @Nat.zero_add) rfl
theorem Hi (n:Nat):List.replicate n [AV.int .i64 0]=eo (fun _=>0) n:=by
 refine List.ext_getElem? fun i=>?_
 by_cases h:i<n
 ·rw[ef h,List.getElem?_replicate,if_pos h];rfl
 ·rw[List.getElem?_eq_none (by simp;omega),List.getElem?_eq_none (by rw[dM];omega)]
theorem Al {i j:Id} {s t:Nat} (hi:i.site=s) (hj:j.site=t) (h:(s==t)=false):(i=j)=False/\(j=i)=False:=by
 constructor<;>(simp only[eq_iff_iff,iff_false];rintro rfl;rw[hi]at hj;subst hj;simp at h)
theorem B7 (cnt:Nat) (qb:1<=cnt) (hn:cnt<=1048576) (bs:List PB) (hb:∀b∈bs,b.a<cnt/\b.b<cnt) (dK:∀b∈bs,0<=b.s/\b.s<=4) (nX:bs.length<=1048576) (σ:aw):
  Call Tryz.prog 299 [.int .i64 cnt,.sl (bs.map aA)] σ fun r σ'=>∃X o1 o2 R1 R2,r=.ptr X 0 0/\FN X o1 o2 R1 R2 cnt σ'.next/\σ.next<=σ'.next/\nK σ'.get X o1 o2 R1 R2 cnt (lf bs) (fun _ _=>0)/\∀i:Id,i.bY<σ.next->σ'.get i=σ.get i:=by
 refine gY eH rfl fun hl=>?_
 clear hl
 (try((repeat(revert hN;revert N;apply Pn.out));refine wk @Nat.zero_add ?_;(repeat(refine Pn.mk ?_;intro N hN))))
 obtain⟨X,hX⟩:∃X:Id,X=⟨299001001,σ.next+1⟩:=⟨_,rfl⟩
 obtain⟨R1,TP⟩:∃R:Nat->Id,R=fun k=>⟨299004006,σ.next+3+4*k+1⟩:=⟨_,rfl⟩
 obtain⟨R2,TQ⟩:∃R:Nat->Id,R=fun k=>⟨299005006,σ.next+3+4*k+2⟩:=⟨_,rfl⟩
 have sX:X.site=299001001:=by rw[hX]
 have vX:X.bY=σ.next+1:=by rw[hX]
 have s1:∀k,(R1 k).site=299004006:=fun k=>by rw[TP]
 have s2:∀k,(R2 k).site=299005006:=fun k=>by rw[TQ]
 have v1:∀k,(R1 k).bY=σ.next+3+4*k+1:=fun k=>by rw[TP]
 have v2:∀k,(R2 k).bY=σ.next+3+4*k+2:=fun k=>by rw[TQ]
 have jL:(0:Int)<=(cnt:Int):=by omega
 have qa:(cnt:Int)<=((16777216:Nat):Int):=by omega
 have hz:=Hi cnt
 have t1:lk R1 cnt 0=[]:=rfl
 have t2:lk R2 cnt 0=[]:=rfl
 refine aZ (fun n env st=>∃k:Nat,n=(cnt)-k/\k<=(cnt)/\env 11=.int .i64 (k:Int)/\env 5=(.ptr X 0 0)/\(st.next=σ.next+3+4*k/\(∀i:Id,i.bY<σ.next->st.get i=σ.get i)/\∀j,j<k->st.get (R1 j)=some ⟨true,1,eo (fun _=>0) cnt⟩/\st.get (R2 j)=some ⟨true,1,eo (fun _=>0) cnt⟩)/\((k=0/\st.get X=some ⟨true,2,[[.cm,.cm]]⟩)∨∃o1 o2:Id,o1.site=299004008/\o2.site=299005008/\o1.bY<st.next/\o2.bY<st.next/\σ.next<=o1.bY/\σ.next<=o2.bY/\st.get X=some ⟨true,2,[[.own o1 0 k,.own o2 0 k]]⟩/\st.get o1=some ⟨true,1,lk R1 cnt k⟩/\st.get o2=some ⟨true,1,lk R2 cnt k⟩)) (cnt) ⟨0,by omega,by omega,sl @hX,sl @hX,⟨rfl,fun i hi=>by(have DF:=dP hi);simp only[go_sem, ↓reduceIte,Nat.reduceEqDiff,Nat.reduceAdd,Nat.reduceSub,Nat.reduceLeDiff,reduceCtorEq,DF],fun j hj=>absurd hj (Nat.not_lt_zero j)⟩,.inl ⟨rfl,by rw[hX];simp only[go_sem, ↓reduceIte,Nat.reduceEqDiff,Nat.reduceAdd,Nat.reduceSub,Nat.reduceLeDiff,reduceCtorEq]⟩⟩ ?_
 rintro n_a env_a st_a ⟨k,rfl,ale,a11,a5,qQ,aI1⟩ ez
 have a0:=ez 0 (by kernel_rfl);have a1:=ez 1 (by kernel_rfl);have xP:=ez 10 (by kernel_rfl)
 simp only[go_sem, ↓reduceIte,Nat.reduceEqDiff,Nat.reduceAdd,Nat.reduceSub,Nat.reduceLeDiff,reduceCtorEq,hX]at a0 a1 xP
 clear ez
 obtain⟨anx,ez,aR⟩:=qQ
 have wX:=dP (i:=X) (n:=st_a.next) (by omega)
 by_cases hk:(k:Int)<(cnt:Int)
 ·have dd:∀{e:Env} {gg:Rows} {nx:Nat},(e 11=.int .i64 (IntKind.i64.wrap ((k:Int)+1)))->(e 5=(.ptr X 0 0))->(nx=σ.next+3+4*(k+1)/\(∀i:Id,i.bY<σ.next->gg i=σ.get i)/\∀j,j<(k+1)->gg (R1 j)=some ⟨true,1,eo (fun _=>0) cnt⟩/\gg (R2 j)=some ⟨true,1,eo (fun _=>0) cnt⟩)->(((k+1)=0/\gg X=some ⟨true,2,[[.cm,.cm]]⟩)∨∃o1 o2:Id,o1.site=299004008/\o2.site=299005008/\o1.bY<nx/\o2.bY<nx/\σ.next<=o1.bY/\σ.next<=o2.bY/\gg X=some ⟨true,2,[[.own o1 0 (k+1),.own o2 0 (k+1)]]⟩/\gg o1=some ⟨true,1,lk R1 cnt (k+1)⟩/\gg o2=some ⟨true,1,lk R2 cnt (k+1)⟩)->∃m0,m0<(cnt)-k/\∃k:Nat,m0=(cnt)-k/\k<=(cnt)/\e 11=.int .i64 (k:Int)/\e 5=(.ptr X 0 0)/\(nx=σ.next+3+4*k/\(∀i:Id,i.bY<σ.next->gg i=σ.get i)/\∀j,j<k->gg (R1 j)=some ⟨true,1,eo (fun _=>0) cnt⟩/\gg (R2 j)=some ⟨true,1,eo (fun _=>0) cnt⟩)/\((k=0/\gg X=some ⟨true,2,[[.cm,.cm]]⟩)∨∃o1 o2:Id,o1.site=299004008/\o2.site=299005008/\o1.bY<nx/\o2.bY<nx/\σ.next<=o1.bY/\σ.next<=o2.bY/\gg X=some ⟨true,2,[[.own o1 0 k,.own o2 0 k]]⟩/\gg o1=some ⟨true,1,lk R1 cnt k⟩/\gg o2=some ⟨true,1,lk R2 cnt k⟩):=fun x1 x2 x3 x4=>⟨_,by omega,k+1,rfl,by omega,(by rw[x1,az (by omega)]),x2,x3,x4⟩
  have fm:k<cnt:=by omega
  have sk:R1 k=⟨299004006,st_a.next+1⟩:=by rw[TP,anx]
  have mC:R2 k=⟨299005006,st_a.next+1+1⟩:=by rw[TQ,anx]
  have Ff:lk R1 cnt (k+1)=lk R1 cnt k++[[.own ⟨299004006,st_a.next+1⟩ 0 cnt]]:=by rw[te,sk]
  have Qa:lk R2 cnt (k+1)=lk R2 cnt k++[[.own ⟨299005006,st_a.next+1+1⟩ 0 cnt]]:=by rw[te,mC]
  rcases aI1 with⟨rfl,Qr⟩|⟨o1,o2,so1,so2,vo1,RZ,vn1,vn2,Qr,ag1,ag2⟩
  ·(try((repeat(revert hN;revert N;apply Pn.out));refine wk (tw @a11 (tw @a5 (tw @a0 (tw @a1 (tw @xP (tw @hk (tw @wX (tw @Qr (tw @jL (tw @qa (tw @Int.le_refl @hz))))))))))) ?_;(repeat(refine Pn.mk ?_;intro N hN))))
   refine dd ?_ ?_ (by
    (try dsimp only)
    refine⟨by omega,fun i hi=>?_,fun j hj=>?_⟩
    ·have q1:=dP (i:=i) (n:=st_a.next) (by omega)
     have q2:=cZ (a:=i) (b:=X) (by omega)
     have:=ez i hi
     simp only[go_sem, ↓reduceIte,Nat.reduceEqDiff,Nat.reduceAdd,Nat.reduceSub,Nat.reduceLeDiff,reduceCtorEq,q1,q2,this]
    ·by_cases yi:j=0
     ·subst yi
      rw[sk,mC]
      have q1:=gH sX (b:=299004006) (v:=st_a.next+1) (by decide)
      have q2:=gH sX (b:=299005006) (v:=st_a.next+1+1) (by decide)
      simp only[go_sem, ↓reduceIte,Nat.reduceEqDiff,Nat.reduceAdd,Nat.reduceSub,Nat.reduceLeDiff,reduceCtorEq,q1,q2]
     ·obtain⟨r1,r2⟩:=aR j (by omega)
      have q1:=dP (i:=R1 j) (n:=st_a.next) (by rw[v1];omega)
      have q2:=dP (i:=R2 j) (n:=st_a.next) (by rw[v2];omega)
      have q3:=Al (s1 j) sX (by decide)
      have q4:=Al (s2 j) sX (by decide)
      constructor
      ·simp only[go_sem, ↓reduceIte,Nat.reduceEqDiff,Nat.reduceAdd,Nat.reduceSub,Nat.reduceLeDiff,reduceCtorEq,q1,q3,r1]
      ·simp only[go_sem, ↓reduceIte,Nat.reduceEqDiff,Nat.reduceAdd,Nat.reduceSub,Nat.reduceLeDiff,reduceCtorEq,q2,q4,r2]) (.inr ⟨⟨299004008,st_a.next+1⟩,⟨299005008,st_a.next+1+1⟩,rfl,rfl,by(try dsimp only);omega,by(try dsimp only);omega,by(try dsimp only);omega,by(try dsimp only);omega,sd @wX,by rw[Ff,t1];simp only[go_sem, ↓reduceIte,Nat.reduceEqDiff,Nat.reduceAdd,Nat.reduceSub,Nat.reduceLeDiff,reduceCtorEq,wX,List.nil_append],by rw[Qa,t2];simp only[go_sem, ↓reduceIte,Nat.reduceEqDiff,Nat.reduceAdd,Nat.reduceSub,Nat.reduceLeDiff,reduceCtorEq,wX,List.nil_append]⟩)
   all_goals simp only[go_sem, ↓reduceIte,Nat.reduceEqDiff,Nat.reduceAdd,Nat.reduceSub,Nat.reduceLeDiff,reduceCtorEq,a11,a5,a0,a1,xP,wX]
  ·have l1:=kh R1 cnt k
   have l2:=kh R2 cnt k
   have e1:k+1<=16777216:=by omega
   have w1:=dP vo1
   have w2:=dP RZ
   have x1:=Al sX so1 (by decide)
   have x2:=Al sX so2 (by decide)
   have x3:=Al so1 so2 (by decide)
   (try((repeat(revert hN;revert N;apply Pn.out));refine wk (tw @a11 (tw @a5 (tw @a0 (tw @a1 (tw @xP (tw @hk (tw @wX (tw @Qr (tw @ag1 (tw @ag2 (tw @l1 (tw @l2 (tw @e1 (tw @w1 (tw @w2 (tw @x1 (tw @x2 (tw @x3 (tw @jL (tw @qa (tw @Int.le_refl @hz))))))))))))))))))))) ?_;(repeat(refine Pn.mk ?_;intro N hN))))
   refine dd ?_ ?_ (by
    (try dsimp only)
    refine⟨by omega,fun i hi=>?_,fun j hj=>?_⟩
    ·have q1:=dP (i:=i) (n:=st_a.next) (by omega)
     have q2:=cZ (a:=i) (b:=X) (by omega)
     have q3:=cZ (a:=i) (b:=o1) (by omega)
     have q4:=cZ (a:=i) (b:=o2) (by omega)
     have:=ez i hi
     simp only[go_sem, ↓reduceIte,Nat.reduceEqDiff,Nat.reduceAdd,Nat.reduceSub,Nat.reduceLeDiff,reduceCtorEq,q1,q2,this,q3,q4]
    ·by_cases yi:j=k
     ·subst yi
      rw[sk,mC]
      have q1:=gH sX (b:=299004006) (v:=st_a.next+1) (by decide)
      have q2:=gH sX (b:=299005006) (v:=st_a.next+1+1) (by decide)
      simp only[go_sem, ↓reduceIte,Nat.reduceEqDiff,Nat.reduceAdd,Nat.reduceSub,Nat.reduceLeDiff,reduceCtorEq,q1,q2,w1,w2]
     ·obtain⟨r1,r2⟩:=aR j (by omega)
      have q1:=dP (i:=R1 j) (n:=st_a.next) (by rw[v1];omega)
      have q2:=dP (i:=R2 j) (n:=st_a.next) (by rw[v2];omega)
      have q3:=Al (s1 j) sX (by decide)
      have q4:=Al (s2 j) sX (by decide)
      have q5:=Al (s1 j) so1 (by decide)
      have q6:=Al (s1 j) so2 (by decide)
      have q7:=Al (s2 j) so1 (by decide)
      have q8:=Al (s2 j) so2 (by decide)
      constructor
      ·simp only[go_sem, ↓reduceIte,Nat.reduceEqDiff,Nat.reduceAdd,Nat.reduceSub,Nat.reduceLeDiff,reduceCtorEq,q1,q3,r1,q5,q6]
      ·simp only[go_sem, ↓reduceIte,Nat.reduceEqDiff,Nat.reduceAdd,Nat.reduceSub,Nat.reduceLeDiff,reduceCtorEq,q2,q4,r2,q7,q8]) (.inr ⟨⟨299004008,st_a.next+1⟩,⟨299005008,st_a.next+1+1⟩,rfl,rfl,by(try dsimp only);omega,by(try dsimp only);omega,by(try dsimp only);omega,by(try dsimp only);omega,sd @wX,by rw[Ff];simp only[go_sem, ↓reduceIte,Nat.reduceEqDiff,Nat.reduceAdd,Nat.reduceSub,Nat.reduceLeDiff,reduceCtorEq,wX,w1,w2],by rw[Qa];simp only[go_sem, ↓reduceIte,Nat.reduceEqDiff,Nat.reduceAdd,Nat.reduceSub,Nat.reduceLeDiff,reduceCtorEq,wX,w1,w2]⟩)
   all_goals simp only[go_sem, ↓reduceIte,Nat.reduceEqDiff,Nat.reduceAdd,Nat.reduceSub,Nat.reduceLeDiff,reduceCtorEq,a11,a5,a0,a1,xP,wX,w1,w2,x1,x2,x3]
 have kq:cnt=k:=by omega
 subst kq
 rcases aI1 with⟨h0,_⟩|⟨o1,o2,so1,so2,vo1,RZ,vn1,vn2,Qr,ag1,ag2⟩
 ·omega
 (try((repeat(revert hN;revert N;apply Pn.out));refine wk (tw @a11 (tw @a5 (tw @a0 (tw @a1 (tw @xP @hk))))) ?_;(repeat(refine Pn.mk ?_;intro N hN))))
 have I:FN X o1 o2 R1 R2 cnt st_a.next:=⟨sX,so1,so2,fun i _=>s1 i,fun i _=>s2 i,fun i j _ _ h=>by have:=v1 i;rw[h,v1]at this;omega,fun i j _ _ h=>by have:=v2 i;rw[h,v2]at this;omega,by omega,vo1,RZ,fun i hi=>by rw[v1];omega,fun i hi=>by rw[v2];omega⟩
 refine aZ (fun n env st=>∃i:Nat,n=(bs.length)-i/\i<=(bs.length)/\env 38=.int .i64 (i:Int)/\(st_a.next<=st.next/\(∀x:Id,x.bY<σ.next->st.get x=σ.get x)/\nK st.get X o1 o2 R1 R2 cnt (lf (bs.take i)) (fun _ _=>0))) (bs.length) ⟨0,by omega,by omega,sl (tw @a11 (tw @a5 (tw @a0 (tw @a1 @xP)))),⟨by(try dsimp only);omega,ez,Qr,ag1,ag2,fun j hj=>(aR j hj).1,fun j hj=>(aR j hj).2⟩⟩ ?_
 rintro n_b env_b st_b ⟨i,rfl,ble,b38,bI0⟩ fM
 have b0:=fM 0 (by kernel_rfl);have b1:=fM 1 (by kernel_rfl);have b5:=fM 5 (by kernel_rfl);have PT:=fM 36 (by kernel_rfl);have PU:=fM 37 (by kernel_rfl)
 simp only[go_sem, ↓reduceIte,Nat.reduceEqDiff,Nat.reduceAdd,Nat.reduceSub,Nat.reduceLeDiff,reduceCtorEq,a11,a5,a0,a1,xP]at b0 b1 b5 PT PU
 clear fM
 obtain⟨bn,NG,bM⟩:=bI0
 by_cases hi:(i:Int)<(bs.length:Int)
 ·have fC:∀{e:Env} {gg:Rows} {nx:Nat},(e 38=.int .i64 (IntKind.i64.wrap ((i:Int)+1)))->(st_a.next<=nx/\(∀x:Id,x.bY<σ.next->gg x=σ.get x)/\nK gg X o1 o2 R1 R2 cnt (lf (bs.take (i+1))) (fun _ _=>0))->∃m0,m0<(bs.length)-i/\∃i:Nat,m0=(bs.length)-i/\i<=(bs.length)/\e 38=.int .i64 (i:Int)/\(st_a.next<=nx/\(∀x:Id,x.bY<σ.next->gg x=σ.get x)/\nK gg X o1 o2 R1 R2 cnt (lf (bs.take i)) (fun _ _=>0)):=fun x1 x2=>⟨_,by omega,i+1,rfl,by omega,(by rw[x1,az (by omega)]),x2⟩
  have fc:i<bs.length:=by omega
  have jM:(bs.map aA)[i]? =some (aA bs[i]):=by simp[fc]
  have fV:=hb _ (List.getElem_mem fc)
  have hsi:=dK _ (List.getElem_mem fc)
  have sP:lf (bs.take (i+1))=nM (lf (bs.take i)) bs[i]:=by rw[List.take_succ_eq_append_getElem fc,Eg]
  have pq:=Ad (bs.take i) (fun _ _=>0) (fun b hb=>(dK b (List.mem_of_mem_take hb)).1) (fun _ _=>Int.le_refl _)
  have hle:=room_le (bs.take i) (fun _ _=>0) 0 (fun b hb=>(dK b (List.mem_of_mem_take hb)).2) (fun _ _=>Int.le_refl _) (Int.le_refl _)
  rw[List.length_take]at hle
  have gx:(bs.take i).foldl nM (fun _ _=>0)=lf (bs.take i):=rfl
  rw[gx]at pq hle
  generalize lf (bs.take i)=c at *
  generalize bs[i]=b at *
  obtain⟨ha,sK⟩:=fV
  have gA:=r7 (R:=R1) (n:=cnt) ha
  have gB:=r7 (R:=R1) (n:=cnt) sK
  have rA:=bM.r1 _ ha
  have rB:=bM.r1 _ sK
  have cA:=ef (f:=c b.a) sK
  have cB:=ef (f:=c b.b) ha
  have sA:=ot (f:=c) (a:=b.a) (d:=b.s) sK
  have gX:=bM.x
  have g1:=bM.t1
  have gM:(b.a:Int)<(cnt:Int):=by omega
  have fV:(b.b:Int)<(cnt:Int):=by omega
  have qX:=dP (i:=X) (n:=st_b.next) (by omega)
  have q1:=dP (i:=o1) (n:=st_b.next) (by omega)
  have qA:=dP (i:=R1 b.a) (n:=st_b.next) (by rw[v1];omega)
  have qB:=dP (i:=R1 b.b) (n:=st_b.next) (by rw[v1];omega)
  have xA:=Al sX (s1 b.a) (by decide)
  have xB:=Al sX (s1 b.b) (by decide)
  have yA:=Al so1 (s1 b.a) (by decide)
  have yB:=Al so1 (s1 b.b) (by decide)
  have l1:=kh R1 cnt cnt
  have lA:=dM (c b.a) cnt
  have lB:=dM (c b.b) cnt
  have hAB:=hle b.a b.b
  have hBA:=hle b.b b.a
  have gAB:=pq b.a b.b
  have gBA:=pq b.b b.a
  have wA:IntKind.i64.wrap (c b.a b.b+b.s)=c b.a b.b+b.s:=bU (by omega)
  by_cases po:b.a=b.b
  ·obtain⟨ba,bb,s⟩:=b
   dsimp only at *
   subst po
   have OG:=ot (f:=bump c ba ba s) (a:=ba) (b:=ba) (d:=s) (n:=cnt) ha
   have TY:=ef (f:=bump c ba ba s ba) ha
   have hv:bump c ba ba s ba ba=c ba ba+s:=by simp[bump]
   have lC:=dM (bump c ba ba s ba) cnt
   have wB:IntKind.i64.wrap (c ba ba+s+s)=c ba ba+s+s:=bU (by omega)
   rw[hv]at OG TY
   have sL:nM c ⟨ba,ba,s⟩ ba=bump (bump c ba ba s) ba ba s ba:=rfl
   rw[bJ]at cA sA OG TY
   (try((repeat(revert hN;revert N;apply Pn.out));refine wk (tw @b38 (tw @b0 (tw @b1 (tw @b5 (tw @PT (tw @PU (tw @hi (tw @jM (tw @aA.eq_1 (tw @gA (tw @rA (tw @cA (tw @sA (tw @gX (tw @g1 (tw @gM (tw @qX (tw @q1 (tw @qA (tw @xA (tw @yA (tw @l1 (tw @lA (tw @wA (tw @OG (tw @TY (tw @lC @wB))))))))))))))))))))))))))) ?_;(repeat(refine Pn.mk ?_;intro N hN))))
   exact fC (sd (tw @b38 (tw @b0 (tw @b1 (tw @b5 (tw @PT @PU)))))) (by
    (try dsimp only)
    refine⟨by omega,fun x hx=>?_,?_⟩
    ·have p1:=dP (i:=x) (n:=st_b.next) (by omega)
     have p2:=cZ (a:=x) (b:=R1 ba) (by rw[v1];omega)
     have:=NG x hx
     simp only[go_sem, ↓reduceIte,Nat.reduceEqDiff,Nat.reduceAdd,Nat.reduceSub,Nat.reduceLeDiff,reduceCtorEq,p1,p2,this]
    ·rw[sP]
     refine bM.add I ⟨ba,ba,s⟩ ha ha (fun h=>absurd rfl h) ?_ fun x hx h1 h2=>?_
     ·rw[sL]
      simp only[go_sem, ↓reduceIte,Nat.reduceEqDiff,Nat.reduceAdd,Nat.reduceSub,Nat.reduceLeDiff,reduceCtorEq]
     ·have p1:=dP (i:=x) (n:=st_b.next) (by omega)
      (try dsimp only at h2)
      simp only[go_sem, ↓reduceIte,Nat.reduceEqDiff,Nat.reduceAdd,Nat.reduceSub,Nat.reduceLeDiff,reduceCtorEq,p1,h2])
  ·have ik:(R1 b.a=R1 b.b)=False:=by simp only[eq_iff_iff,iff_false];exact fun h=>po (I.i1 _ _ ha sK h)
   have IQ:(R1 b.b=R1 b.a)=False:=by simp only[eq_iff_iff,iff_false];exact fun h=>po (I.i1 _ _ ha sK h.symm)
   have OA:bump c b.a b.b b.s b.b=c b.b:=j6 fun h=>po h.symm
   have OG:=ot (f:=bump c b.a b.b b.s) (a:=b.b) (b:=b.a) (d:=b.s) (n:=cnt) ha
   rw[OA]at OG
   have wB:IntKind.i64.wrap (c b.b b.a+b.s)=c b.b b.a+b.s:=bU (by omega)
   have sL:nM c b b.b=bump (bump c b.a b.b b.s) b.b b.a b.s b.b:=rfl
   rw[bJ]at cA cB sA OG
   (try((repeat(revert hN;revert N;apply Pn.out));refine wk (tw @b38 (tw @b0 (tw @b1 (tw @b5 (tw @PT (tw @PU (tw @hi (tw @jM (tw @aA.eq_1 (tw @gA (tw @gB (tw @rA (tw @rB (tw @cA (tw @cB (tw @sA (tw @gX (tw @g1 (tw @gM (tw @fV (tw @qX (tw @q1 (tw @qA (tw @qB (tw @xA (tw @xB (tw @yA (tw @yB (tw @l1 (tw @lA (tw @lB (tw @wA (tw @OG (tw @wB (tw @ik @IQ))))))))))))))))))))))))))))))))))) ?_;(repeat(refine Pn.mk ?_;intro N hN))))
   exact fC (sd (tw @b38 (tw @b0 (tw @b1 (tw @b5 (tw @PT @PU)))))) (by
    (try dsimp only)
    refine⟨by omega,fun x hx=>?_,?_⟩
    ·have p1:=dP (i:=x) (n:=st_b.next) (by omega)
     have p2:=cZ (a:=x) (b:=R1 b.b) (by rw[v1];omega)
     have p3:=cZ (a:=x) (b:=R1 b.a) (by rw[v1];omega)
     have:=NG x hx
     simp only[go_sem, ↓reduceIte,Nat.reduceEqDiff,Nat.reduceAdd,Nat.reduceSub,Nat.reduceLeDiff,reduceCtorEq,p1,p2,p3,this]
    ·rw[sP]
     refine bM.add I b ha sK (fun h=>?_) ?_ fun x hx h1 h2=>?_
     ·simp only[go_sem, ↓reduceIte,Nat.reduceEqDiff,Nat.reduceAdd,Nat.reduceSub,Nat.reduceLeDiff,reduceCtorEq,ik]
     ·rw[sL]
      simp only[go_sem, ↓reduceIte,Nat.reduceEqDiff,Nat.reduceAdd,Nat.reduceSub,Nat.reduceLeDiff,reduceCtorEq,ik]
     ·have p1:=dP (i:=x) (n:=st_b.next) (by omega)
      simp only[go_sem, ↓reduceIte,Nat.reduceEqDiff,Nat.reduceAdd,Nat.reduceSub,Nat.reduceLeDiff,reduceCtorEq,p1,h1,h2])
 ·have lO:i=bs.length:=by omega
  subst lO
  rw[List.take_length]at bM
  (try((repeat(revert hN;revert N;apply Pn.out));refine wk (tw @b38 (tw @b0 (tw @b1 (tw @b5 (tw @PT (tw @PU @hi)))))) ?_;(repeat(refine Pn.mk ?_;intro N hN))))
  exact gV (.inl rfl) (vs:=[.ptr X 0 0]) (sd @Nat.zero_add) ⟨X,o1,o2,R1,R2,rfl,⟨I.sx,I.s1,I.s2,I.Ta,I.Ni,I.i1,I.i2,by have:=I.vx;(try dsimp only);omega,by have:=I.v1;(try dsimp only);omega,by have:=I.v2;(try dsimp only);omega,fun j hj=>by have:=I.Td j hj;(try dsimp only);omega,fun j hj=>by have:=I.Qm j hj;(try dsimp only);omega⟩,by(try dsimp only);omega,bM,NG⟩
end Go.Proofs.YtgoljkjaameagaaGreat.V

namespace Go.Proofs.YtgoljkjaameagaaGreat.V
structure Bq (n:Nat) (c f:Nat->Nat->Int) (x:Nat) (par:Nat->Int) (Q:List Nat) (i:Nat):Prop where
 nodup:Q.Nodup
 lt:∀v∈Q,v<n
 root:par x=(x:Int)
 mem:x∈Q
 iff:∀v,v<n->(0<=par v↔v∈Q)
 up:∀v∈Q,v≠x->∃u,u∈Q/\par v=(u:Int)/\Q.idxOf u<Q.idxOf v/\f u v<c u v
 done:∀j (_:j<i) (hl:j<Q.length) (v:Nat),v<n->f Q[j] v<c Q[j] v->v∈Q
 ile:i<=Q.length
section
variable {n:Nat} {c f:Nat->Nat->Int} {x:Nat} {par:Nat->Int} {Q:List Nat} {i:Nat}
theorem Bq.len (h:Bq n c f x par Q i):Q.length<=n:=oR n Q h.nodup h.lt
theorem Bq.start (hx:x<n):Bq n c f x (fun v=>if v=x then(x:Int)else -1) [x] 0:=by
 refine⟨by simp,fun v hv=>by simp at hv;omega,by simp,by simp,fun v hv=>?_,fun v hv ik=>absurd (by simpa using hv) ik,fun j hj=>by omega,by simp⟩
 by_cases h:v=x
 ·simp[h]
 ·simp[h]
theorem Bq.visit (h:Bq n c f x par Q i) (hi:i<Q.length) {v:Nat} (hv:v<n) (hp:par v<0) (hr:f Q[i] v<c Q[i] v):Bq n c f x (fun w=>if w=v then(Q[i]:Int)else par w) (Q++[v]) i:=by
 have UU:v∉Q:=fun hm=>by have:=(h.iff v hv).2 hm;omega
 have OM:x≠v:=fun e=>UU (e▸h.mem)
 have zE:∀u∈Q,(Q++[v]).idxOf u=Q.idxOf u:=fun u hu=>by rw[List.idxOf_append,if_pos hu]
 have vP:(Q++[v]).idxOf v=Q.length:=by rw[List.idxOf_append,if_neg UU];simp
 refine⟨?_,fun w hw=>?_,by simp only[if_neg OM];exact h.root,by simp[h.mem],fun w hw=>?_,fun w hw ik=>?_,fun j hj hl w hw I3=>?_,by simp;omega⟩
 ·refine List.nodup_append.2 ⟨h.nodup,by simp,fun a ha b hb=>?_⟩
  rw[List.mem_singleton.1 hb]
  rintro rfl;exact UU ha
 ·rcases List.mem_append.1 hw with hw|hw
  ·exact h.lt w hw
  ·rw[List.mem_singleton.1 hw];exact hv
 ·by_cases Fi:w=v
  ·subst Fi;simp
  ·rw[if_neg Fi,h.iff w hw];simp[Fi]
 ·by_cases Fi:w=v
  ·subst Fi
   refine⟨Q[i],by simp,by simp,?_,hr⟩
   rw[zE _ (List.getElem_mem hi),vP]
   exact List.idxOf_lt_length_of_mem (List.getElem_mem hi)
  ·have hwQ:w∈Q:=by
    rcases List.mem_append.1 hw with hw|hw
    ·exact hw
    ·exact absurd (List.mem_singleton.1 hw) Fi
   obtain⟨u,h1,h2,h3,h4⟩:=h.up w hwQ ik
   exact⟨u,by simp[h1],by rw[if_neg Fi];exact h2,by rw[zE u h1,zE w hwQ];exact h3,h4⟩
 ·have gP:j<Q.length:=by have:=h.ile;omega
  rw[List.getElem_append_left gP]at I3
  exact List.mem_append_left _ (h.done j hj gP w hw I3)
theorem Bq.next (h:Bq n c f x par Q i) (hi:i<Q.length) (dG:∀v,v<n->f Q[i] v<c Q[i] v->0<=par v):Bq n c f x par Q (i+1):=by
 refine⟨h.nodup,h.lt,h.root,h.mem,h.iff,h.up,fun j hj hl v hv hr=>?_,by omega⟩
 by_cases mV:j=i
 ·subst mV;exact(h.iff v hv).1 (dG v hv hr)
 ·exact h.done j (by omega) hl v hv hr
theorem Bq.cut (h:Bq n c f x par Q Q.length) {y:Nat} (hy:y<n) (hp:par y<0):∃S:Nat->Bool,S x=true/\S y=false/\∀u v,u<n->v<n->S u=true->S v=false->¬f u v<c u v:=by
 refine⟨fun v=>decide (v∈Q),by simp[h.mem],?_,fun u v hu hv h1 h2 hr=>?_⟩
 ·have:y∉Q:=fun hm=>by have:=(h.iff y hy).2 hm;omega
  simp[this]
 ·simp only[decide_eq_true_eq,decide_eq_false_iff_not]at h1 h2
  obtain⟨j,hj,rfl⟩:=List.getElem_of_mem h1
  exact h2 (h.done j hj hj v hv hr)
def uL (c f:Nat->Nat->Int) (Q:List Nat) (y k:Nat) (out:List Nat):Prop:=∃rest,out.reverse=k::rest/\(k::rest).getLast (by simp)=y/\qV f c (k::rest)/\(k::rest).Pairwise (fun a b=>Q.idxOf a<Q.idxOf b)/\∀v∈k::rest,v∈Q
theorem uL.start {y:Nat} (hy:y∈Q):uL c f Q y y [y]:=⟨[],rfl,rfl,trivial,by simp,by simpa using hy⟩
theorem uL.step {y k u:Nat} {out:List Nat} (h:uL c f Q y k out) (hu:u∈Q) (hi:Q.idxOf u<Q.idxOf k) (hr:f u k<c u k):uL c f Q y u (out++[u]):=by
 obtain⟨rest,h1,h2,h3,h4,h5⟩:=h
 refine⟨k::rest,by rw[List.reverse_append,h1];rfl,by rw[List.getLast_cons (by simp)];exact h2,⟨hr,h3⟩,?_,?_⟩
 ·refine List.pairwise_cons.2 ⟨fun b hb=>?_,h4⟩
  rcases List.mem_cons.1 hb with rfl|hb
  ·exact hi
  ·have:=(List.pairwise_cons.1 h4).1 b hb;omega
 ·intro v hv
  rcases List.mem_cons.1 hv with rfl|hv
  ·exact hu
  ·exact h5 v hv
theorem uL.len {y k:Nat} {out:List Nat} (h:uL c f Q y k out) (hq:∀v∈Q,v<n):out.length<=n:=by
 obtain⟨rest,h1,_,_,h4,h5⟩:=h
 rw[<-List.length_reverse,h1]
 refine oR n _ (h4.imp fun dJ he=>?_) fun v hv=>hq v (h5 v hv)
 subst he;omega
structure Qq (n:Nat) (c f:Nat->Nat->Int) (x y:Nat) (p:List Nat):Prop where
 way:∃r,p=x::r/\(x::r).getLast (by simp)=y
 nodup:p.Nodup
 room:qV f c p
 lt:∀v∈p,v<n
theorem uL.way {y:Nat} {out:List Nat} (h:uL c f Q y x out) (hq:∀v∈Q,v<n):Qq n c f x y out.reverse:=by
 obtain⟨rest,h1,h2,h3,h4,h5⟩:=h
 rw[h1]
 exact⟨⟨rest,rfl,h2⟩,h4.imp fun dJ he=>by subst he;omega,h3,fun v hv=>hq v (h5 v hv)⟩
end
end Go.Proofs.YtgoljkjaameagaaGreat.V

namespace Go.Proofs.YtgoljkjaameagaaGreat.V
open Go.RowKit
attribute [local irreducible] dE wpOps fS Call
attribute [local go_sem] aH fq eG fH fG cX upd bZ K.av cD AV.cells AV.cell rowOf rowsOf part ld rowAt br bP dn dR gK bx cQ eb fD eS di dW cN cL dH dI bD aW cF bB cH cG dU dX dV cE bG cP dS bz aI cJ cq gJ bj cz bE aT de aX dp AV.undef bq bt dL dQ dB dz cw ea ee cj dZ dY cI cK List.getD_cons_zero List.getD_cons_succ List.getD_nil List.all_cons List.all_nil Bool.and_true Bool.true_and Bool.and_self Bool.not_true Bool.not_false Option.map_some Option.map_none Option.bind_some Option.bind_none List.length_cons List.length_nil List.take_succ_cons List.take_zero List.take_nil List.drop_succ_cons List.drop_zero List.drop_nil List.head?_cons List.map_cons List.map_nil List.getElem?_cons_zero List.getElem?_cons_succ List.cons_append List.nil_append List.append_nil List.length_map List.set_cons_zero List.set_cons_succ Nat.reduceMul eq_self Int.toNat_natCast Int.natCast_nonneg and_self true_and and_true decide_true decide_false Bool.false_eq_true Nat.zero_add Nat.add_zero List.contains_cons List.contains_nil Bool.or_false Bool.false_or beq_self_eq_true Nat.reduceBEq ne_eq not_true_eq_false not_false_eq_true Id.mk.injEq false_and and_false Nat.reduceLT Int.reduceLE Int.reduceLT Int.reduceToNat Int.reduceNeg Int.reduceAdd Nat.le_refl List.length_append beq_true beq_false Bool.not_eq_eq_eq_not or_false false_or dD ah aq aF aY bp bK aP bc aN aV cC bF
def mc (l:List Nat) (i x:Nat):Nat:=if x<i∨l.length-i<=x then l.getD (l.length-1-x) 0 else l.getD x 0
theorem yY (l:List Nat):l.map eN=dO (fun x=>l.getD x 0) l.length:=by
 refine List.ext_getElem? fun i=>?_
 by_cases h:i<l.length
 ·rw[fw h,List.getElem?_map,List.getElem?_eq_getElem h];simp[List.getD_eq_getElem?_getD,h]
 ·rw[List.getElem?_eq_none (by simp;omega),List.getElem?_eq_none (by rw[gn];omega)]
theorem G1 (l:List Nat):dO (mc l 0) l.length=l.map eN:=by
 rw[yY]
 exact im fun x hx=>by unfold mc;rw[if_neg (by omega)]
theorem JV (l:List Nat) {i:Nat} (h:l.length<=2*i+1) (hi:i<=l.length):dO (mc l i) l.length=l.reverse.map eN:=by
 rw[yY l.reverse,List.length_reverse]
 refine im fun x hx=>?_
 have hr:l.reverse.getD x 0=l.getD (l.length-1-x) 0:=by
  rw[List.getD_eq_getElem?_getD,List.getElem?_reverse hx,List.getD_eq_getElem?_getD]
 rw[hr]
 unfold mc
 by_cases hc:x<i∨l.length-i<=x
 ·rw[if_pos hc]
 ·rw[if_neg hc]
  have:x=l.length-1-x:=by omega
  rw[<-this]
theorem G2 (l:List Nat) (hp:0<l.length) (hl:l.length<=1048576) (o:Id) (σ:aw) (ho:σ.get o=some ⟨true,1,l.map eN⟩) (yl:o.bY<σ.next):
  Call Tryz.prog 329 [.own o 0 l.length] σ fun r σ'=>σ'.get o=some ⟨true,1,l.reverse.map eN⟩/\σ.next<=σ'.next/\∀i:Id,i.bY<σ.next->(i=o)=False->σ'.get i=σ.get i:=by
 refine gY eH rfl fun j8=>?_
 clear j8
 rw[<-G1]at ho
 have Ja:IntKind.i64.wrap ((l.length:Int)-1)=((l.length-1:Nat):Int):=by rw[bU (by omega)];omega
 (try((repeat(revert hN;revert N;apply Pn.out));refine wk @Ja ?_;(repeat(refine Pn.mk ?_;intro N hN))))
 refine aZ (fun m env st=>∃i:Nat,m=l.length-i/\2*i<=l.length+1/\i<=l.length/\env 2=.int .i64 (i:Int)/\env 3=.int .i64 ((l.length:Int)-1-i)/\st.get o=some ⟨true,1,dO (mc l i) l.length⟩/\σ.next<=st.next/\∀x:Id,x.bY<σ.next->(x=o)=False->st.get x=σ.get x) l.length ⟨0,rfl,by omega,by omega,by(simp only[go_sem, ↓reduceIte,Nat.reduceEqDiff,Nat.reduceAdd,Nat.reduceSub,Nat.reduceLeDiff,reduceCtorEq])<;>rfl,by(simp only[go_sem, ↓reduceIte,Nat.reduceEqDiff,Nat.reduceAdd,Nat.reduceSub,Nat.reduceLeDiff,reduceCtorEq,Ja]);congr 1;omega,ho,by(try dsimp only);omega,fun x _ _=>rfl⟩ ?_
 rintro m env_b st_b ⟨i,rfl,yg,lO,b2,b3,bg,bn,fM⟩ bkp
 have b0:=bkp 0 (by kernel_rfl)
 simp only[go_sem, ↓reduceIte,Nat.reduceEqDiff,Nat.reduceAdd,Nat.reduceSub,Nat.reduceLeDiff,reduceCtorEq]at b0
 clear bkp
 have tl:=gn (mc l i) l.length
 have nI:=dP (i:=o) (n:=st_b.next) (by omega)
 by_cases hi:(i:Int)<(l.length:Int)-1-i
 ·have fc:i<l.length:=by omega
  obtain⟨j,hj⟩:∃j,j=l.length-1-i:=⟨_,rfl⟩
  have nR:j<l.length:=by omega
  have HA:(l.length:Int)-1-i=(j:Int):=by omega
  rw[HA]at b3 hi
  have g1:=fw (f:=mc l i) fc
  have g2:=fw (f:=mc l i) nR
  have e1:mc l i i=l.getD i 0:=by unfold mc;rw[if_neg (by omega)]
  have e2:mc l i j=l.getD j 0:=by unfold mc;rw[if_neg (by omega)]
  have M5:(dO (mc l i) l.length).set i (eN (l.getD j 0))=dO (fun x=>if x=i then l.getD j 0 else mc l i x) l.length:=pO fc (if_pos rfl) fun x _ hx=>if_neg hx
  have I5:(dO (fun x=>if x=i then l.getD j 0 else mc l i x) l.length).set j (eN (l.getD i 0))=dO (mc l (i+1)) l.length:=pO nR (by unfold mc;rw[if_pos (by omega)];congr 1;omega) fun x hx Qe=>by
   by_cases CK:x=i
   ·rw[if_pos CK];unfold mc;rw[if_pos (by omega)];congr 1;omega
   ·rw[if_neg CK];unfold mc
    by_cases hc:x<i∨l.length-i<=x
    ·rw[if_pos hc,if_pos (by omega)]
    ·rw[if_neg hc,if_neg (by omega)]
  have Tb:=gn (fun x=>if x=i then l.getD j 0 else mc l i x) l.length
  have g3:=fw (f:=fun x=>if x=i then l.getD j 0 else mc l i x) nR
  rw[e1]at g1
  rw[e2]at g2
  rw[if_neg (by omega),e2]at g3
  rw[eN]at g1 g2 g3 M5 I5
  have hii:(i:Int)<(l.length:Int):=by omega
  have mV:(j:Int)<(l.length:Int):=by omega
  have mW:IntKind.i64.wrap ((i:Int)+1)=((i+1:Nat):Int):=az (by omega)
  have vY:IntKind.i64.wrap ((j:Int)-1)=(l.length:Int)-1-((i+1:Nat):Int):=by rw[bU (by omega)];omega
  (try((repeat(revert hN;revert N;apply Pn.out));refine wk (tw @b0 (tw @b2 (tw @b3 (tw @bg (tw @hi (tw @hii (tw @mV (tw @g1 (tw @g2 (tw @g3 (tw @M5 (tw @I5 (tw @tl (tw @Tb (tw @nI (tw @mW @vY)))))))))))))))) ?_;(repeat(refine Pn.mk ?_;intro N hN))))
  refine⟨_,?_,i+1,rfl,by omega,by omega,sd @mW,sd @vY,sd @I5,by(try dsimp only);omega,fun x hx zJ=>?_⟩
  ·omega
  ·have:=fM x hx zJ
   simp only[go_sem, ↓reduceIte,Nat.reduceEqDiff,Nat.reduceAdd,Nat.reduceSub,Nat.reduceLeDiff,reduceCtorEq,zJ,this]
 ·rw[JV l (by omega) lO]at bg
  (try((repeat(revert hN;revert N;apply Pn.out));refine wk (tw @b0 (tw @b2 (tw @b3 (tw @bg @hi)))) ?_;(repeat(refine Pn.mk ?_;intro N hN))))
  exact gV (.inr rfl) (vs:=[]) (by simp only[fe,go_sem, ↓reduceIte,Nat.reduceEqDiff,Nat.reduceAdd,Nat.reduceSub,Nat.reduceLeDiff,reduceCtorEq]) ⟨bg,by(try dsimp only);omega,fM⟩
theorem R3 (cnt:Nat) (qb:1<=cnt) (hn:cnt<=1048576) (c f:Nat->Nat->Int) (x y:Nat) (hx:x<cnt) (hy:y<cnt):
  mo Tryz.prog 301 [.cR (lK cnt c f),.int .i64 x,.int .i64 y] fun r=>(r=.cm/\∃S:Nat->Bool,S x=true/\S y=false/\∀u v,u<cnt->v<cnt->S u=true->S v=false->¬f u v<c u v)∨∃p:List Nat,r=.sl (p.map eN)/\Qq cnt c f x y p:=by
 refine mo.body eH rfl fun hl n0=>?_
 clear hl
 have lM:=wV c cnt
 have jL:(0:Int)<=(cnt:Int):=by omega
 have CK:(x:Int)<(cnt:Int):=by omega
 have S7:(y:Int)<(cnt:Int):=by omega
 (try((repeat(revert hN;revert N;apply Pn.out));refine wk (tw @lK.eq_1 @lM) ?_;(repeat(refine Pn.mk ?_;intro N hN))))
 refine .inr (bf _ _ _ _ _ (fun r σ1 hq=>?_) (JT cnt qb hn (-1) ⟨301002000,n0+1+1⟩ _ (sd @Nat.zero_add) (by(try dsimp only);omega)))
 obtain⟨o,rfl,ho,Lx,Ly,jm⟩:=hq
 (try dsimp only at ho Lx Ly jm)
 refine hN _ _ ?_
 clear hN N
 have nI:=dP Ly
 have qa:(cnt:Int)<=1048576:=by omega
 have QW:qo<qo+cnt:=by omega
 have gN:List.replicate cnt [AV.int .i64 (-1)]=eo (fun _=>-1) cnt:=by
  refine List.ext_getElem? fun i=>?_
  by_cases h:i<cnt
  ·rw[ef h,List.getElem?_replicate,if_pos h];rfl
  ·rw[List.getElem?_eq_none (by simp;omega),List.getElem?_eq_none (by rw[dM];omega)]
 rw[gN]at ho
 have BE:(eo (fun _=>-1) cnt).set x (bJ (x:Int))=eo (fun v=>if v=x then(x:Int)else -1) cnt:=ll hx (if_pos rfl) fun v _ hv=>if_neg hv
 have hg0:=ef (f:=fun _=>-1) hx
 have tl0:=dM (fun _=>-1) cnt
 rw[bJ]at BE hg0
 (try((repeat(revert hN;revert N;apply Pn.out));refine wk (tw @lK.eq_1 (tw @lM (tw @jL (tw @qa @nI)))) ?_;(repeat(refine Pn.mk ?_;intro N hN))))
 refine Kp ?_
 simp only[go_sem, ↓reduceIte,Nat.reduceEqDiff,Nat.reduceAdd,Nat.reduceSub,Nat.reduceLeDiff,reduceCtorEq,QW]
 refine hN _ _ ?_
 clear hN N
 (try((repeat(revert hN;revert N;apply Pn.out));refine wk (tw @ho (tw @nI (tw @BE (tw @hg0 (tw @tl0 @CK))))) ?_;(repeat(refine Pn.mk ?_;intro N hN))))
 obtain⟨C,hC⟩:∃C:Id,C=⟨301003001,σ1.next+1⟩:=⟨_,rfl⟩
 have Rg:=cZ (a:=o) (b:=C) (by rw[hC];(try dsimp only);omega)
 have hCv:C.bY=σ1.next+1:=by rw[hC]
 refine aZ (fun m env st=>∃(par:Nat->Int) (Q:List Nat) (i:Nat),m=cnt-i/\Bq cnt c f x par Q i/\st.get o=some ⟨true,1,eo par cnt⟩/\st.get C=some ⟨true,qo+cnt,(Q.drop i).map eN⟩/\σ1.next+1<st.next) cnt ⟨_,[x],0,rfl,Bq.start hx,sd @nI,by rw[hC];simp only[go_sem, ↓reduceIte,Nat.reduceEqDiff,Nat.reduceAdd,Nat.reduceSub,Nat.reduceLeDiff,reduceCtorEq,nI];rfl,by(try dsimp only);omega⟩ ?_
 rintro m env_b st_b ⟨par,Q,i,rfl,hB,bgo,bgC,bn⟩ bkp
 have b0:=bkp 0 (by kernel_rfl)
 have b1:=bkp 1 (by kernel_rfl)
 have b2:=bkp 2 (by kernel_rfl)
 have b7:=bkp 7 (by kernel_rfl)
 have b8:=bkp 8 (by kernel_rfl)
 have b9:=bkp 9 (by kernel_rfl)
 rw[<-hC]at b9
 simp only[go_sem, ↓reduceIte,Nat.reduceEqDiff,Nat.reduceAdd,Nat.reduceSub,Nat.reduceLeDiff,reduceCtorEq]at b0 b1 b2 b7 b8 b9
 clear bkp
 have hQn:=hB.len
 have lO:=hB.ile
 have SE:((Q.drop i).map eN).length=Q.length-i:=by simp
 by_cases hi:i<Q.length
 ·have kn:(0:Int)<((Q.length-i:Nat):Int):=by omega
  have sj:Q.drop i=Q[i]::Q.drop (i+1):=List.drop_eq_getElem_cons hi
  obtain⟨u,hu⟩:∃u,u=Q[i]:=⟨_,rfl⟩
  have hun:u<cnt:=by rw[hu];exact hB.lt _ (List.getElem_mem hi)
  rw[<-hu]at sj
  (try((repeat(revert hN;revert N;apply Pn.out));refine wk (tw @b0 (tw @b1 (tw @b2 (tw @b7 (tw @b8 (tw @b9 (tw @bgC (tw @SE @kn)))))))) ?_;(repeat(refine Pn.mk ?_;intro N hN))))
  refine Kp ?_
  rw[sj,List.map_cons,show eN u=[.int .i64 (u:Int)]from rfl]at bgC
  simp only[go_sem, ↓reduceIte,Nat.reduceEqDiff,Nat.reduceAdd,Nat.reduceSub,Nat.reduceLeDiff,reduceCtorEq,b9,bgC]
  refine hN _ _ ?_
  clear hN N
  (try((repeat(revert hN;revert N;apply Pn.out));refine wk @b7 ?_;(repeat(refine Pn.mk ?_;intro N hN))))
  refine aZ (fun m env st=>∃(v:Nat) (par':Nat->Int) (Q':List Nat),m=cnt-v/\v<=cnt/\env 36=.int .i64 (v:Int)/\Bq cnt c f x par' Q' i/\(∃h:i<Q'.length,Q'[i]=u)/\st.get o=some ⟨true,1,eo par' cnt⟩/\st.get C=some ⟨true,qo+cnt,(Q'.drop (i+1)).map eN⟩/\σ1.next+1<st.next/\∀w,w<v->f u w<c u w->0<=par' w) cnt ⟨0,par,Q,rfl,Nat.zero_le _,by(simp only[go_sem, ↓reduceIte,Nat.reduceEqDiff,Nat.reduceAdd,Nat.reduceSub,Nat.reduceLeDiff,reduceCtorEq])<;>rfl,hB,⟨hi,hu.symm⟩,sd (tw @Rg @bgo),sd @Rg,by(try dsimp only);omega,fun w hw=>absurd hw (Nat.not_lt_zero w)⟩ ?_
  rintro m env_c st_c ⟨v,par',Q',rfl,hvn,c36,dF,⟨mj,Fg⟩,xY,cgC,cn,dG⟩ ckp
  have c0:=ckp 0 (by kernel_rfl)
  have c1:=ckp 1 (by kernel_rfl)
  have c2:=ckp 2 (by kernel_rfl)
  have c7:=ckp 7 (by kernel_rfl)
  have c8:=ckp 8 (by kernel_rfl)
  have c9:=ckp 9 (by kernel_rfl)
  have jC:=ckp 10 (by kernel_rfl)
  have NJ:=ckp 35 (by kernel_rfl)
  simp only[go_sem, ↓reduceIte,Nat.reduceEqDiff,Nat.reduceAdd,Nat.reduceSub,Nat.reduceLeDiff,reduceCtorEq,b0,b1,b2,b7,b8,b9]at c0 c1 c2 c7 c8 c9 jC NJ
  clear ckp
  have tl:=dM par' cnt
  by_cases hv:(v:Int)<(cnt:Int)
  ·have DG:v<cnt:=by omega
   have Ot:=ef (f:=par') DG
   have jm:=NV cnt c f u v hun DG
   have hw:IntKind.i64.wrap ((v:Int)+1)=((v+1:Nat):Int):=az (by omega)
   rw[bJ]at Ot
   rw[lK]at jm
   by_cases j9:par' v<0
   ·by_cases hr:f u v<c u v
    ·rw[decide_eq_true hr]at jm
     have fh:(eo par' cnt).set v (bJ (u:Int))=eo (fun w=>if w=v then(u:Int)else par' w) cnt:=ll DG (if_pos rfl) fun w _ hw=>if_neg hw
     rw[bJ]at fh
     have pU:=dF.visit mj DG j9 (by rw[Fg];exact hr)
     rw[Fg]at pU
     have hQ2:=pU.len
     rw[List.length_append]at hQ2
     simp only[List.length_singleton]at hQ2
     have gx:qo+(Q'.drop (i+1)).length<qo+cnt:=by rw[List.length_drop];omega
     (repeat(first|((repeat(revert hN;revert N;apply Pn.out));refine wk (tw @lK.eq_1 (tw @c0 (tw @c7 (tw @c8 (tw @c9 (tw @jC (tw @c36 (tw @NJ (tw @hv (tw @xY (tw @Ot (tw @tl (tw @j9 @fh))))))))))))) ?_;(repeat(refine Pn.mk ?_;intro N hN)))|((try apply Or.inl);refine⟨_,aj.x (jm) (sd (tw @lK.eq_1 (tw @c0 (tw @c7 (tw @c8 (tw @c9 (tw @jC (tw @c36 (tw @NJ (tw @hv (tw @xY (tw @Ot (tw @tl (tw @j9 @fh)))))))))))))),?_⟩;refine hN _ _ ?_;clear hN N)))
     refine Kp ?_
     have hq:(Q'.drop (i+1)).map eN++[[.int .i64 (v:Int)]]=((Q'++[v]).drop (i+1)).map eN:=by rw[List.drop_append_of_le_length (by omega),List.map_append];rfl
     simp only[go_sem, ↓reduceIte,Nat.reduceEqDiff,Nat.reduceAdd,Nat.reduceSub,Nat.reduceLeDiff,reduceCtorEq,c9,cgC,gx,Rg,hq]
     refine hN _ _ ?_
     clear hN N
     (try((repeat(revert hN;revert N;apply Pn.out));refine wk (tw @c36 @hw) ?_;(repeat(refine Pn.mk ?_;intro N hN))))
     refine⟨_,?_,v+1,_,_,rfl,DG,sd @hw,pU,⟨by rw[List.length_append];omega,by rw[List.getElem_append_left mj];exact Fg⟩,sd @Rg,sd @Rg,by(try dsimp only);omega,fun w hw I3=>?_⟩
     ·omega
     ·by_cases Fi:w=v
      ·rw[if_pos Fi];omega
      ·rw[if_neg Fi];exact dG w (by omega) I3
    ·rw[decide_eq_false hr]at jm
     (repeat(first|((repeat(revert hN;revert N;apply Pn.out));refine wk (tw @lK.eq_1 (tw @c0 (tw @c7 (tw @c8 (tw @c9 (tw @jC (tw @c36 (tw @NJ (tw @hv (tw @xY (tw @Ot (tw @tl (tw @j9 @hw))))))))))))) ?_;(repeat(refine Pn.mk ?_;intro N hN)))|((try apply Or.inl);refine⟨_,aj.x (jm) (sd (tw @lK.eq_1 (tw @c0 (tw @c7 (tw @c8 (tw @c9 (tw @jC (tw @c36 (tw @NJ (tw @hv (tw @xY (tw @Ot (tw @tl (tw @j9 @hw)))))))))))))),?_⟩;refine hN _ _ ?_;clear hN N)))
     refine⟨_,?_,v+1,par',Q',rfl,DG,sd @hw,dF,⟨mj,Fg⟩,sd @xY,sd @cgC,by(try dsimp only);omega,fun w hw I3=>?_⟩
     ·omega
     ·by_cases Fi:w=v
      ·subst Fi;exact absurd I3 hr
      ·exact dG w (by omega) I3
   ·(try((repeat(revert hN;revert N;apply Pn.out));refine wk (tw @lK.eq_1 (tw @c0 (tw @c7 (tw @c8 (tw @c9 (tw @jC (tw @c36 (tw @NJ (tw @hv (tw @xY (tw @Ot (tw @tl (tw @j9 @hw))))))))))))) ?_;(repeat(refine Pn.mk ?_;intro N hN))))
    refine⟨_,?_,v+1,par',Q',rfl,DG,sd @hw,dF,⟨mj,Fg⟩,sd @xY,sd @cgC,by(try dsimp only);omega,fun w hw I3=>?_⟩
    ·omega
    ·by_cases Fi:w=v
     ·subst Fi;omega
     ·exact dG w (by omega) I3
  ·have hvc:v=cnt:=by omega
   subst hvc
   (try((repeat(revert hN;revert N;apply Pn.out));refine wk (tw @c36 (tw @NJ @hv)) ?_;(repeat(refine Pn.mk ?_;intro N hN))))
   refine⟨_,?_,par',Q',i+1,rfl,dF.next mj fun w hw hr=>dG w hw (by rw[<-Fg];exact hr),sd @xY,sd @cgC,by(try dsimp only);omega⟩
   omega
 ·have hiQ:i=Q.length:=by omega
  subst hiQ
  have kn:¬(0:Int)<((Q.length-Q.length:Nat):Int):=by omega
  have Ui:=ef (f:=par) hy
  have tl:=dM par cnt
  rw[bJ]at Ui
  by_cases j9:par y<0
  ·(try((repeat(revert hN;revert N;apply Pn.out));refine wk (tw @b0 (tw @b1 (tw @b2 (tw @b7 (tw @b8 (tw @b9 (tw @bgC (tw @SE (tw @kn (tw @bgo (tw @Ui (tw @tl (tw @S7 @j9))))))))))))) ?_;(repeat(refine Pn.mk ?_;intro N hN))))
   exact⟨[.cm],sd @Nat.zero_add,.cm,jt _ _,.inl ⟨rfl,hB.cut hy j9⟩⟩
  ·(try((repeat(revert hN;revert N;apply Pn.out));refine wk (tw @b0 (tw @b1 (tw @b2 (tw @b7 (tw @b8 (tw @b9 (tw @bgC (tw @SE (tw @kn (tw @bgo (tw @Ui (tw @tl (tw @S7 @j9))))))))))))) ?_;(repeat(refine Pn.mk ?_;intro N hN))))
   refine aZ (fun m env st=>∃(k:Nat) (out:List Nat) (p:Id),m=Q.idxOf k/\env 13=.int .i64 (k:Int)/\env 12=.own p 0 out.length/\st.get p=some ⟨true,1,out.map eN⟩/\p.bY<st.next/\st_b.next<=p.bY/\k∈Q/\uL c f Q y k out/\st.get o=some ⟨true,1,eo par cnt⟩) (Q.idxOf y) ⟨y,[y],⟨301017001,st_b.next+1+1⟩,rfl,by(simp only[go_sem, ↓reduceIte,Nat.reduceEqDiff,Nat.reduceAdd,Nat.reduceSub,Nat.reduceLeDiff,reduceCtorEq]),by(simp only[go_sem, ↓reduceIte,Nat.reduceEqDiff,Nat.reduceAdd,Nat.reduceSub,Nat.reduceLeDiff,reduceCtorEq])<;>rfl,by(simp only[go_sem, ↓reduceIte,Nat.reduceEqDiff,Nat.reduceAdd,Nat.reduceSub,Nat.reduceLeDiff,reduceCtorEq])<;>rfl,by(try dsimp only);omega,by(try dsimp only);omega,(hB.iff y hy).1 (by omega),uL.start ((hB.iff y hy).1 (by omega)),by(have UX:=dP (i:=o) (n:=st_b.next) (by omega));simp only[go_sem, ↓reduceIte,Nat.reduceEqDiff,Nat.reduceAdd,Nat.reduceSub,Nat.reduceLeDiff,reduceCtorEq,UX,bgo]⟩ ?_
   rintro m env_d st_d ⟨k,out,p,rfl,d13,d12,dgp,dpn,dpo,hkQ,uw,dgo⟩ dkp
   have d1:=dkp 1 (by kernel_rfl)
   have d8:=dkp 8 (by kernel_rfl)
   simp only[go_sem, ↓reduceIte,Nat.reduceEqDiff,Nat.reduceAdd,Nat.reduceSub,Nat.reduceLeDiff,reduceCtorEq,b1,b8]at d1 d8
   clear dkp
   have AK:=dP dpn
   have BG:=dP (i:=o) (n:=st_d.next) (by omega)
   have ew:=cZ (a:=o) (b:=p) (by omega)
   have Lv:=uw.len hB.lt
   have fm:=hB.lt k hkQ
   have eF:(out.map eN).length=out.length:=by simp
   by_cases SJ:k=x
   ·have hd:decide ((k:Int)=(x:Int))=true:=decide_eq_true (by rw[SJ])
    have UG:0<out.length:=by
     obtain⟨rest,h1,_⟩:=uw
     rw[<-List.length_reverse,h1];simp
    (try((repeat(revert hN;revert N;apply Pn.out));refine wk (tw @d1 (tw @d8 (tw @d12 (tw @d13 (tw @hd @Bool.not_true))))) ?_;(repeat(refine Pn.mk ?_;intro N hN))))
    refine .inr (bf _ _ _ _ _ (fun r σ2 hq=>?_) (G2 out UG (by omega) p _ dgp (by(try dsimp only);omega)))
    obtain⟨Uf,l9,IJ⟩:=hq
    refine hN _ _ ?_
    clear hN N
    (try((repeat(revert hN;revert N;apply Pn.out));refine wk @d12 ?_;(repeat(refine Pn.mk ?_;intro N hN))))
    refine⟨[.own p 0 out.length],sd @d12,.sl (out.reverse.map eN),?_,.inr ⟨out.reverse,rfl,by subst SJ;exact uw.way hB.lt⟩⟩
    exact eY (sz:=1) Uf (by simp) fun a=>NW _ 4 a
   ·have hd:decide ((k:Int)=(x:Int))=false:=decide_eq_false fun h=>SJ (by omega)
    obtain⟨u,huQ,hpu,zE,hr⟩:=hB.up k hkQ SJ
    have eh:=ef (f:=par) fm
    rw[bJ,hpu]at eh
    have hki:(k:Int)<(cnt:Int):=by omega
    have e1:out.length+1<=16777216:=by omega
    (try((repeat(revert hN;revert N;apply Pn.out));refine wk (tw @d1 (tw @d8 (tw @d12 (tw @d13 (tw @hd (tw @Bool.not_false (tw @dgo (tw @dgp (tw @eh (tw @tl (tw @hki (tw @AK (tw @BG (tw @ew (tw @eF @e1))))))))))))))) ?_;(repeat(refine Pn.mk ?_;intro N hN))))
    refine⟨_,zE,u,out++[u],⟨301021003,st_d.next+1+1⟩,rfl,sd @Nat.zero_add,by rw[List.length_append];simp only[go_sem, ↓reduceIte,Nat.reduceEqDiff,Nat.reduceAdd,Nat.reduceSub,Nat.reduceLeDiff,reduceCtorEq,List.length_cons,List.length_nil],by rw[List.map_append,List.map_cons,List.map_nil];simp only[go_sem, ↓reduceIte,Nat.reduceEqDiff,Nat.reduceAdd,Nat.reduceSub,Nat.reduceLeDiff,reduceCtorEq,eN],by(try dsimp only);omega,by(try dsimp only);omega,huQ,uw.step huQ zE hr,sd (tw @BG (tw @ew @dgo))⟩
theorem AY (b:Nat):∀(l:List Nat) (a:Nat) (f:Nat->Nat->Int),mz f ((a::l)++[b])=kz (mz f (a::l)) ((a::l).getLast (by simp)) b
 |[],a,f=>rfl
 |c::l,a,f=>by
  rw[List.cons_append,List.cons_append,mz,<-List.cons_append,AY b l c (kz f a c),mz,List.getLast_cons_cons]
theorem FR {p:List Nat} {f:Nat->Nat->Int} {i:Nat} (h1:1<=i) (hi:i<p.length):mz f (p.take (i+1))=kz (mz f (p.take i)) (p[i-1]'(by omega)) p[i]:=by
 rw[List.take_succ_eq_append_getElem hi]
 have ik:p.take i≠[]:=by
  intro h
  have:(p.take i).length=0:=by rw[h];rfl
  rw[List.length_take]at this;omega
 obtain⟨a,l,PY⟩:∃a l,p.take i=a::l:=by
  cases h:p.take i with
  |nil=>exact absurd h ik
  |cons a l=>exact⟨a,l,rfl⟩
 have vP:(p.take i).getLast ik=p[i-1]'(by omega):=by
  rw[List.getLast_eq_getElem,List.getElem_take]
  congr 1
  rw[List.length_take];omega
 simp only[PY]at vP ⊢
 rw[AY,vP]
theorem GW (f:Nat->Nat->Int) (a b u v:Nat):kz f a b u v<=f u v+1/\f u v-1<=kz f a b u v:=by
 unfold kz bump
 split<;>split<;>constructor<;>omega
theorem mA:∀(p:List Nat) (f:Nat->Nat->Int) (u v:Nat),mz f p u v<=f u v+p.length/\f u v-p.length<=mz f p u v
 |[],f,u,v=>by simp[mz]
 |[_],f,u,v=>by simp[mz];omega
 |a::b::r,f,u,v=>by
  rw[mz]
  have h1:=mA (b::r) (kz f a b) u v
  have h2:=GW f a b u v
  simp only[List.length_cons]at h1 ⊢
  omega
theorem nK.push {g g':Rows} {X o1 o2:Id} {R1 R2:Nat->Id} {n nb:Nat} {c f:Nat->Nat->Int} (I:FN X o1 o2 R1 R2 n nb) (h:nK g X o1 o2 R1 R2 n c f) {a b:Nat} (ha:a<n) (hb:b<n) (po:a≠b) (hA:g' (R2 a)=some ⟨true,1,eo (bump f a b 1 a) n⟩) (hB:g' (R2 b)=some ⟨true,1,eo (bump (bump f a b 1) b a (-1) b) n⟩) (hf:∀i:Id,i.bY<nb->(i=R2 a)=False->(i=R2 b)=False->g' i=g i):nK g' X o1 o2 R1 R2 n c (kz f a b):=by
 have ne:∀{i:Id} {s:Nat},i.site=s->(s==299005006)=false->∀a,a<n->(i=R2 a)=False:=fun {i s} hi hs a ha=>by
  simp only[eq_iff_iff,iff_false]
  rintro rfl
  rw[I.Ni a ha]at hi
  subst hi
  simp at hs
 refine⟨(hf _ I.vx (ne I.sx (by decide) _ ha) (ne I.sx (by decide) _ hb)).trans h.x,(hf _ I.v1 (ne I.s1 (by decide) _ ha) (ne I.s1 (by decide) _ hb)).trans h.t1,(hf _ I.v2 (ne I.s2 (by decide) _ ha) (ne I.s2 (by decide) _ hb)).trans h.t2,fun i hi=>(hf _ (I.Td i hi) (ne (I.Ta i hi) (by decide) _ ha) (ne (I.Ta i hi) (by decide) _ hb)).trans (h.r1 i hi),fun i hi=>?_⟩
 by_cases KJ:i=b
 ·subst KJ;exact hB
 ·by_cases Ov:i=a
  ·subst Ov
   rw[hA,kz,j6 KJ]
  ·rw[kz,j6 KJ,j6 Ov,hf _ (I.Qm i hi) (by simp only[eq_iff_iff,iff_false];exact fun he=>Ov (I.i2 i _ hi ha he)) (by simp only[eq_iff_iff,iff_false];exact fun he=>KJ (I.i2 i _ hi hb he))]
   exact h.r2 i hi
theorem Pa (cnt:Nat) (qb:1<=cnt) (hn:cnt<=1048576) (c:Nat->Nat->Int) (hc:∀u v,u<cnt->v<cnt->0<=c u v/\c u v<=16777216) (x y:Nat) (hx:x<cnt) (hy:y<cnt) (Rx:x≠y) (t:Int) (ht:t<=1099511627776)
  (X o1 o2:Id) (R1 R2:Nat->Id) (nb:Nat) (I:FN X o1 o2 R1 R2 cnt nb) (σ:aw) (hM:nK σ.get X o1 o2 R1 R2 cnt c (fun _ _=>0)) (SQ:nb<=σ.next):
  Call Tryz.prog 300 [.ptr X 0 0,.int .i64 x,.int .i64 y,.int .i64 t] σ fun r σ'=>∃val:Int,r=.int .i64 val/\(val<t↔∃S:Nat->Bool,S x=true/\S y=false/\mB cnt S c<t)/\σ.next<=σ'.next:=by
 refine gY eH rfl fun hl=>?_
 clear hl
 have hxS:(fun v=>decide (v=x)) x=true:=by simp
 have hyS:(fun v=>decide (v=x)) y=false:=by simp;exact fun h=>Rx h.symm
 obtain⟨top,US⟩:∃top,top=mB cnt (fun v=>decide (v=x)) c:=⟨_,rfl⟩
 (try((repeat(revert hN;revert N;apply Pn.out));refine wk @Nat.zero_add ?_;(repeat(refine Pn.mk ?_;intro N hN))))
 refine aZ (fun m env st=>∃(k:Nat) (f:Nat->Nat->Int),m=(top-k).toNat/\env 9=.int .i64 (k:Int)/\lG cnt c f x y k/\nK st.get X o1 o2 R1 R2 cnt c f/\σ.next<=st.next/\(0<k->(k:Int)<=t)/\∀u v,-((k:Int)*(cnt:Int))<=f u v) (top-0).toNat ⟨0,fun _ _=>0,rfl,by(simp only[go_sem, ↓reduceIte,Nat.reduceEqDiff,Nat.reduceAdd,Nat.reduceSub,Nat.reduceLeDiff,reduceCtorEq])<;>rfl,lG.zero fun u v hu hv=>(hc u v hu hv).1,hM,by(try dsimp only);omega,fun h=>absurd h (Nat.lt_irrefl 0),fun u v=>by simp⟩ ?_
 rintro m env_b st_b ⟨k,f,rfl,b9,hF,bM,bn,bk,blo⟩ bkp
 have b0:=bkp 0 (by kernel_rfl)
 have b1:=bkp 1 (by kernel_rfl)
 have b2:=bkp 2 (by kernel_rfl)
 have b3:=bkp 3 (by kernel_rfl)
 simp only[go_sem, ↓reduceIte,Nat.reduceEqDiff,Nat.reduceAdd,Nat.reduceSub,Nat.reduceLeDiff,reduceCtorEq]at b0 b1 b2 b3
 clear bkp
 have hz:dc (dD st_b.get) 6 [.ptr X 0 0,.int .i64 (x:Int),.int .i64 (y:Int)]=some [.cR (lK cnt c f),.int .i64 x,.int .i64 y]:=by simp only[ah,aq,bM.fz,aF,Option.map_some]
 (try((repeat(revert hN;revert N;apply Pn.out));refine wk (tw @b0 (tw @b1 (tw @b2 (tw @b3 @b9)))) ?_;(repeat(refine Pn.mk ?_;intro N hN))))
 refine .inr (bf _ _ _ _ _ (fun r σ1 hq=>?_) ((R3 cnt qb hn c f x y hx hy).x mixed hz))
 obtain⟨OF,rfl⟩:=hq
 refine hN _ _ ?_
 clear hN N
 rcases OF with⟨rfl,S,Og,Oh,Sx⟩|⟨p,rfl,hW⟩
 ·(try((repeat(revert hN;revert N;apply Pn.out));refine wk (tw @b0 (tw @b1 (tw @b2 (tw @b3 (tw @b9 (tw @Bool.not_true @Bool.not_false)))))) ?_;(repeat(refine Pn.mk ?_;intro N hN))))
  refine gV (.inl rfl) (vs:=[.int .i64 (k:Int)]) (sd @Nat.zero_add) ⟨(k:Int),rfl,⟨fun h=>⟨S,Og,Oh,by rw[<-hF.full Og Oh Sx];exact h⟩,fun⟨S',h1,h2,h3⟩=>by have:=hF.bound h1 h2;omega⟩,by(try dsimp only);omega⟩
 ·obtain⟨⟨rs,rfl,vP⟩,pr,gx,hplt⟩:=hW
  by_cases Lu:t<=(k:Int)
  ·(try((repeat(revert hN;revert N;apply Pn.out));refine wk (tw @b0 (tw @b1 (tw @b2 (tw @b3 (tw @b9 (tw @Lu (tw @Bool.not_true @Bool.not_false))))))) ?_;(repeat(refine Pn.mk ?_;intro N hN))))
   refine gV (.inl rfl) (vs:=[.int .i64 (k:Int)]) (sd @Nat.zero_add) ⟨(k:Int),rfl,⟨fun h=>by omega,fun⟨S',h1,h2,h3⟩=>by have:=hF.bound h1 h2;omega⟩,by(try dsimp only);omega⟩
  ·(try((repeat(revert hN;revert N;apply Pn.out));refine wk (tw @b0 (tw @b1 (tw @b2 (tw @b3 (tw @b9 (tw @Lu (tw @Bool.not_true @Bool.not_false))))))) ?_;(repeat(refine Pn.mk ?_;intro N hN))))
   have ml:=oR cnt _ pr hplt
   have hkc:(k:Int)*(cnt:Int)<=1099511627776*1048576:=Int.mul_le_mul (by omega) (by omega) (by omega) (by omega)
   have Ub:=hF.bound (S:=fun v=>decide (v=x)) hxS hyS
   have hnear:=mA
   obtain⟨p,hp⟩:∃p,p=x::rs:=⟨_,rfl⟩
   have hmp:eN x::List.map eN rs=p.map eN:=by rw[hp];rfl
   rw[hmp]
   have OC:1<=p.length:=by rw[hp];simp
   have Lj:=hF.aug vP pr gx hplt
   rw[<-hp]at Lj pr gx hplt ml
   have OJ:p.take 1=[x]:=by rw[hp];rfl
   clear hmp vP
   refine aZ (fun m env st=>∃i:Nat,m=p.length-i/\1<=i/\i<=p.length/\env 11=.int .i64 (i:Int)/\nK st.get X o1 o2 R1 R2 cnt c (mz f (p.take i))/\st_b.next<=st.next) (p.length-1) ⟨1,rfl,Nat.le_refl _,OC,by(simp only[go_sem, ↓reduceIte,Nat.reduceEqDiff,Nat.reduceAdd,Nat.reduceSub,Nat.reduceLeDiff,reduceCtorEq])<;>rfl,by rw[OJ];exact bM,by(try dsimp only);omega⟩ ?_
   rintro m env_c st_c ⟨i,rfl,Lr,lO,nO,cM,cn⟩ ckp
   have c0:=ckp 0 (by kernel_rfl)
   have c1:=ckp 1 (by kernel_rfl)
   have c2:=ckp 2 (by kernel_rfl)
   have c3:=ckp 3 (by kernel_rfl)
   have c9:=ckp 9 (by kernel_rfl)
   have jC:=ckp 10 (by kernel_rfl)
   simp only[go_sem, ↓reduceIte,Nat.reduceEqDiff,Nat.reduceAdd,Nat.reduceSub,Nat.reduceLeDiff,reduceCtorEq,b0,b1,b2,b3,b9]at c0 c1 c2 c3 c9 jC
   clear ckp
   have eF:(p.map eN).length=p.length:=by simp
   by_cases hi:(i:Int)<(p.length:Int)
   ·have fc:i<p.length:=by omega
    have xE:=FR (f:=f) Lr fc
    obtain⟨a,ha⟩:∃a,a=p[i-1]'(by omega):=⟨_,rfl⟩
    obtain⟨b,hb⟩:∃b,b=p[i]:=⟨_,rfl⟩
    have E6:a<cnt:=by rw[ha];exact hplt _ (List.getElem_mem _)
    have E7:b<cnt:=by rw[hb];exact hplt _ (List.getElem_mem _)
    have po:a≠b:=by
     rw[ha,hb]
     exact List.pairwise_iff_getElem.1 pr (i-1) i (by omega) fc (by omega)
    have xg:(p.map eN)[i-1]? =some [.int .i64 (a:Int)]:=by rw[List.getElem?_map,List.getElem?_eq_getElem (by omega),ha];rfl
    have Q6:(p.map eN)[i]? =some [.int .i64 (b:Int)]:=by rw[List.getElem?_map,List.getElem?_eq_getElem fc,hb];rfl
    rw[<-ha,<-hb]at xE
    have Uw:=mA (p.take i) f a b
    have Ux:=mA (p.take i) f b a
    rw[List.length_take]at Uw Ux
    have hl1:=blo b a
    have Um:=blo a b
    have Rs:=hF.le a b E6 E7
    have hu2:=hF.le b a E7 E6
    have hca:=hc a b E6 E7
    have E8:=hc b a E7 E6
    generalize mz f (p.take i)=fl at *
    have gA:=r7 (R:=R2) (n:=cnt) E6
    have gB:=r7 (R:=R2) (n:=cnt) E7
    have rA:=cM.r2 _ E6
    have rB:=cM.r2 _ E7
    have cA:=ef (f:=fl a) E7
    have cB:=ef (f:=fl b) E6
    have sA:=ot (f:=fl) (a:=a) (d:=1) E7
    have OA:bump fl a b 1 b=fl b:=j6 fun h=>po h.symm
    have sB:=ot (f:=bump fl a b 1) (a:=b) (b:=a) (d:=-1) (n:=cnt) E6
    rw[OA]at sB
    have gX:=cM.x
    have g2:=cM.t2
    have gM:(a:Int)<(cnt:Int):=by omega
    have fV:(b:Int)<(cnt:Int):=by omega
    have Ja:IntKind.i64.wrap ((i:Int)-1)=((i-1:Nat):Int):=by rw[bU (by omega)];omega
    have yg:((i-1:Nat):Int)<(p.length:Int):=by omega
    have wA:IntKind.i64.wrap (fl a b+1)=fl a b+1:=bU (by omega)
    have wB:IntKind.i64.wrap (fl b a-1)=fl b a+-1:=by rw[bU (by omega)];omega
    have Fh:IntKind.i64.wrap ((i:Int)+1)=((i+1:Nat):Int):=az (by omega)
    have l2:=kh R2 cnt cnt
    have lA:=dM (fl a) cnt
    have lB:=dM (fl b) cnt
    have ik:(R2 a=R2 b)=False:=by simp only[eq_iff_iff,iff_false];exact fun h=>po (I.i2 _ _ E6 E7 h)
    have IQ:(R2 b=R2 a)=False:=by simp only[eq_iff_iff,iff_false];exact fun h=>po (I.i2 _ _ E6 E7 h.symm)
    have xA:=Al I.sx (I.Ni a E6) (by decide)
    have xB:=Al I.sx (I.Ni b E7) (by decide)
    have yA:=Al I.s2 (I.Ni a E6) (by decide)
    have yB:=Al I.s2 (I.Ni b E7) (by decide)
    have qX:=dP (i:=X) (n:=st_c.next) (by have:=I.vx;omega)
    have q2:=dP (i:=o2) (n:=st_c.next) (by have:=I.v2;omega)
    have qA:=dP (i:=R2 a) (n:=st_c.next) (by have:=I.Qm a E6;omega)
    have qB:=dP (i:=R2 b) (n:=st_c.next) (by have:=I.Qm b E7;omega)
    rw[bJ]at cA cB sA sB
    (try((repeat(revert hN;revert N;apply Pn.out));refine wk (tw @c0 (tw @c9 (tw @jC (tw @nO (tw @eF (tw @hi (tw @yg (tw @xg (tw @Q6 (tw @gA (tw @gB (tw @rA (tw @rB (tw @cA (tw @cB (tw @sA (tw @sB (tw @gX (tw @g2 (tw @gM (tw @fV (tw @Ja (tw @wA (tw @wB (tw @Fh (tw @l2 (tw @lA (tw @lB (tw @ik (tw @IQ (tw @xA (tw @xB (tw @yA (tw @yB (tw @qX (tw @q2 (tw @qA @qB))))))))))))))))))))))))))))))))))))) ?_;(repeat(refine Pn.mk ?_;intro N hN))))
    refine⟨_,?_,i+1,rfl,by omega,by omega,sd @Fh,?_,by(try dsimp only);omega⟩
    ·omega
    ·rw[xE]
     refine cM.push I E6 E7 po ?_ ?_ fun j hj h1 h2=>?_
     ·simp only[go_sem, ↓reduceIte,Nat.reduceEqDiff,Nat.reduceAdd,Nat.reduceSub,Nat.reduceLeDiff,reduceCtorEq,ik]
     ·simp only[go_sem, ↓reduceIte,Nat.reduceEqDiff,Nat.reduceAdd,Nat.reduceSub,Nat.reduceLeDiff,reduceCtorEq,ik]
     ·simp only[go_sem, ↓reduceIte,Nat.reduceEqDiff,Nat.reduceAdd,Nat.reduceSub,Nat.reduceLeDiff,reduceCtorEq,h1,h2]
   ·have CG:i=p.length:=by omega
    subst CG
    rw[List.take_length]at cM
    have LG:IntKind.i64.wrap ((k:Int)+1)=((k+1:Nat):Int):=az (by omega)
    have Uc:=Lj.bound (S:=fun v=>decide (v=x)) hxS hyS
    (try((repeat(revert hN;revert N;apply Pn.out));refine wk (tw @c0 (tw @c9 (tw @jC (tw @nO (tw @eF (tw @hi @LG)))))) ?_;(repeat(refine Pn.mk ?_;intro N hN))))
    refine⟨_,?_,k+1,_,rfl,sd @LG,by rw[Int.natCast_add];exact Lj,cM,by(try dsimp only);omega,fun _=>by omega,fun u v=>?_⟩
    ·rw[<-US]at Uc;omega
    ·have h1:=(mA p f u v).2
     have h2:=blo u v
     rw[Int.natCast_add,Int.add_mul]
     omega
end Go.Proofs.YtgoljkjaameagaaGreat.V
