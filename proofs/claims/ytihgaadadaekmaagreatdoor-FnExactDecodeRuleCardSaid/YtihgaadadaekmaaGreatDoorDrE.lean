/- Bonds that are too weak are taken out. -/
import Derived.Test.YtihgaadadaekmaaGreatDoorDrD
import Derived.Test.YtihgaadadaekmaaGreatDoorDrB
import Derived.Test.YtihgaadadaekmaaGreatDoorDrC
import Derived.Lib.ItoaWalk
import Derived.Lib.ItoaNum
import Derived.Lib.Strings
import Derived.RangeFuncNested
import Derived.RangeFuncBound
import Derived.RangeFuncCalls
import Derived.RangeFuncLeaves
import Derived.Shelf.Abstract
import Derived.Shelf.RegionOpen
import Derived.WalkKit
import Derived.OwnWalkIn
import Derived.TacticsInMore
import Derived.LoopNIn
import Derived.LoopIn
import Derived.BigQuiet
import Derived.RangeFuncBox
import Derived.RangeFuncWrites
import Derived.Maps.AppendAt
import Derived.OrdersIn
import Derived.Test.YtihgaadadaekmaaGreatDoorChecked
import Derived.ProofKit
import Derived.Deep.Slices
import Derived.ChangeSame
import Derived.Test.YtihgaadadaekmaaGreatDoorRows
import Derived.OpenShut
import Derived.ShutString
import Derived.ChangeOld
import Derived.Below
import Derived.Lay
import Derived.Handed
import Derived.MakeChecks
import Derived.Test.YtihgaadadaekmaaGreatDoorCards
import Derived.Test.YtihgaadadaekmaaGreatDoorTie
import Derived.SevenTiedAt
set_option linter.unusedVariables false
set_option linter.unusedSimpArgs false
set_option maxRecDepth 100000
set_option maxHeartbeats 16000000
namespace Go.Proofs.YtihgaadadaekmaaGreatDoor.V
open Go.RowKit
attribute [local irreducible] dP wpOps gN Call
attribute [local go_sem] aI fI eE fW fV cv upd cq K.av cL AV.cells AV.cell rowOf rowsOf part ld rowAt bK bY dH eh ij bL da eA fZ eX dr eo cY cX dR dS bR bf cQ bQ cT cR ej ep ek cP bU cZ ei bP aM cV cz ig br cI bS aZ dD bp dJ AV.undef bB bH dX ef dO ea cF ez eC cu eu er cU cW List.getD_cons_zero List.getD_cons_succ List.getD_nil List.all_cons List.all_nil Bool.and_true Bool.true_and Bool.and_self Bool.not_true Bool.not_false Option.map_some Option.map_none Option.bind_some Option.bind_none List.length_cons List.length_nil List.take_succ_cons List.take_zero List.take_nil List.drop_succ_cons List.drop_zero List.drop_nil List.head?_cons List.map_cons List.map_nil List.getElem?_cons_zero List.getElem?_cons_succ List.cons_append List.nil_append List.append_nil List.length_map List.set_cons_zero List.set_cons_succ Nat.reduceMul eq_self Int.toNat_natCast Int.natCast_nonneg and_self true_and and_true decide_true decide_false Bool.false_eq_true Nat.zero_add Nat.add_zero List.contains_cons List.contains_nil Bool.or_false Bool.false_or beq_self_eq_true Nat.reduceBEq ne_eq not_true_eq_false not_false_eq_true Id.mk.injEq false_and and_false Nat.reduceLT Int.reduceLE Int.reduceLT Int.reduceToNat Int.reduceNeg Int.reduceAdd Nat.le_refl List.length_append beq_true beq_false Bool.not_eq_eq_eq_not or_false false_or dz ad aj aH bx cl aQ bj aW bh cN bz
theorem Hn (b:PB) (t:Int):ai Tryz.prog 171 [.agg (au b),.cK [.int .i64 t]] (.bool (decide (b.s<t))):=by
 refine ai.body dN rfl fun hl n0=>?_
 clear hl
 (try((repeat(revert hN;revert N;apply Pn.out));refine wk @au.eq_1 ?_;(repeat(refine Pn.mk ?_;intro N hN))))
 exact aJ (b:=decide (b.s<t)) (.inl rfl) (sd @Nat.zero_add) rfl
theorem vk (bs:List PB) (t:Int) (hl:bs.length<=1048576):ai Tryz.prog 185 [.sl (bs.map au),.fn 171 [.cK [.int .i64 t]]] (.int .i64 (jy (fun b:PB=>decide (b.s<t)) bs)):=
 rn Fx (show lE Tryz.prog 185=some (s4 185 3 true) by kernel_rfl) bs hl 171 _ _ (fun x _=>Hn x t) fun g=>by simp only[ad,aj,aW,Option.map_some]
theorem Ft (bs:List PB) (hp:0<bs.length) (hl:bs.length<=1048576) (σ:aw):
  Call Tryz.prog 170 [.sl (bs.map au)] σ fun r σ'=>∃o:Id,r=.own o 0 bs.length/\σ'.get o=some ⟨true,3,bs.map au⟩/\σ.next<=o.bV/\o.bV<σ'.next/\∀i:Id,i.bV<σ.next->σ'.get i=σ.get i:=by
 refine eZ dN rfl fun hl=>?_
 clear hl
 have hz:=all_map (l:=bs) Kj
 obtain⟨b,r,rfl⟩:∃b r,bs=b::r:=by
  cases bs with
  |nil=>simp at hp
  |cons b r=>exact⟨b,r,rfl⟩
 have kD:(List.map au (b::r)).length=(b::r).length:=by simp
 have e1:r.length<=16777215:=by simp at hl;omega
 rw[List.map_cons]at hz kD ⊢
 (try((repeat(revert hN;revert N;apply Pn.out));refine wk (tw @hz (tw @kD @e1)) ?_;(repeat(refine Pn.mk ?_;intro N hN))))
 refine gn (.inl rfl) (vs:=[.own ⟨170003002,σ.next+1+1⟩ 0 (b::r).length]) (by simp only[eQ,gI,go_sem, ↓reduceIte,Nat.reduceEqDiff,Nat.reduceAdd,Nat.reduceSub,Nat.reduceLeDiff,reduceCtorEq,List.length_cons]) ⟨⟨170003002,σ.next+1+1⟩,rfl,sd @Nat.zero_add,bt,bt,fun i hi=>?_⟩
 have hv:=eD hi
 simp only[go_sem, ↓reduceIte,Nat.reduceEqDiff,Nat.reduceAdd,Nat.reduceSub,Nat.reduceLeDiff,reduceCtorEq,hv]
theorem nz {t:Int} {bs:List PB} {j:Nat} (hj:j<bs.length):aD t (bs.take (j+1))=aD t (bs.take j)++if decide (bs[j].s<t)=true then[]else[bs[j]]:=by
 rw[rG t bs j hj]
 congr 1
 by_cases h:bs[j].s<t
 ·rw[if_neg ab,if_pos (decide_eq_true h)]
 ·rw[if_pos ab,if_neg (by simp only[decide_eq_true_eq];exact h)]
theorem rF {t:Int} {bs:List PB} (h:∀b∈bs,¬b.s<t):aD t bs=bs:=by
 unfold aD
 rw[List.filter_eq_self]
 intro b hb
 have:=h b hb
 exact decide_eq_true ab
structure rJ (t:Int) (bs:List PB) (j:Nat) (R:List PB):Prop where
 len:R.length=bs.length
 pre:R.take (aD t (bs.take j)).length=aD t (bs.take j)
 post:∀x,j<=x->R[x]? =bs[x]?
 lt:(aD t (bs.take j)).length<j
theorem rJ.start {t:Int} {bs:List PB} {i:Nat} (hi:i<bs.length) (hw:bs[i].s<t) (hp:∀x (h:x<i),¬bs[x].s<t):rJ t bs (i+1) bs/\(aD t (bs.take (i+1))).length=i:=by
 have h1:aD t (bs.take i)=bs.take i:=rF fun b hb=>by
  obtain⟨x,hx,rfl⟩:=List.getElem_of_mem hb
  rw[List.length_take]at hx
  rw[List.getElem_take]
  exact hp x ab
 have h2:aD t (bs.take (i+1))=bs.take i:=by rw[nz hi,if_pos (decide_eq_true hw),List.append_nil,h1]
 have h3:(bs.take i).length=i:=by rw[List.length_take];omega
 exact⟨⟨rfl,by rw[h2,h3],fun _ _=>rfl,by rw[h2,h3];omega⟩,by rw[h2,h3]⟩
theorem rJ.Q7 {t:Int} {bs R:List PB} {j:Nat} (h:rJ t bs j R) (hj:j<bs.length) (hw:bs[j].s<t):rJ t bs (j+1) R/\(aD t (bs.take (j+1))).length=(aD t (bs.take j)).length:=by
 have h2:aD t (bs.take (j+1))=aD t (bs.take j):=by rw[nz hj,if_pos (decide_eq_true hw),List.append_nil]
 exact⟨⟨h.len,by rw[h2];exact h.pre,fun x hx=>h.post x ab,by rw[h2];have:=h.lt;omega⟩,by rw[h2]⟩
theorem rJ.s5 {t:Int} {bs R:List PB} {j:Nat} (h:rJ t bs j R) (hj:j<bs.length) (hw:¬bs[j].s<t):rJ t bs (j+1) (R.set (aD t (bs.take j)).length bs[j])/\(aD t (bs.take (j+1))).length=(aD t (bs.take j)).length+1:=by
 have h2:aD t (bs.take (j+1))=aD t (bs.take j)++[bs[j]]:=by rw[nz hj,if_neg (by simp only[decide_eq_true_eq];exact hw)]
 have dF:=h.lt
 have hlen:=h.len
 have ur:=h.pre
 generalize hc:(aD t (bs.take j)).length=c at *
 refine⟨⟨by rw[List.length_set];exact hlen,?_,fun x hx=>?_,by rw[h2,List.length_append,hc];simp;omega⟩,by rw[h2,List.length_append,hc];rfl⟩
 ·rw[h2,List.length_append,hc,List.length_singleton,List.take_succ_eq_append_getElem (by rw[List.length_set];omega),List.getElem_set_self,List.take_set_of_le (Nat.le_refl _),ur]
 ·rw[List.getElem?_set_ne ab];exact h.post x ab
theorem rJ.at_ {t:Int} {bs R:List PB} {j:Nat} (h:rJ t bs j R) (hj:j<bs.length):(R.map au)[j]? =some (au bs[j]):=by
 rw[List.getElem?_map,h.post j (Nat.le_refl j),List.getElem?_eq_getElem hj];rfl
theorem Ad {p:PB->Bool} {bs:List PB} (h:¬0<=jy p bs):∀b∈bs,p b=false:=by
 intro b hb
 unfold jy at h
 split at h
 ·omega
 ·rename_i h1
  rw[List.findIdx_lt_length]at h1
  cases hp:p b
  ·rfl
  ·exact absurd ⟨b,hb,hp⟩ h1
theorem Ae {p:PB->Bool} {bs:List PB} (h:0<=jy p bs):∃i,∃hi:i<bs.length,jy p bs=(i:Int)/\p bs[i]=true/\∀x (hx:x<i),p (bs[x]'ab)=false:=by
 unfold jy at h ⊢
 split
 ·rename_i h1
  exact⟨bs.findIdx p,h1,rfl,List.findIdx_getElem,fun x hx=>by simpa using List.not_of_lt_findIdx hx⟩
 ·rename_i h1;rw[if_neg h1]at h;omega
theorem C5 (bs:List PB) (t:Int) (hl:bs.length<=1048576) (o T:Id) (σ:aw) (ho:σ.get o=some ⟨true,3,bs.map au⟩) (hT:σ.get T=some ⟨true,1,[[.int .i64 t]]⟩) (rS:o.bV<σ.next) (hTv:T.bV<σ.next) (MD:o≠T):
  Call Tryz.prog 169 [.own o 0 bs.length,.fn 171 [.ptr T 0 0]] σ fun r σ'=>∃rows,r=.own o 0 (aD t bs).length/\σ'.get o=some ⟨true,3,rows⟩/\rows.take (aD t bs).length=(aD t bs).map au/\(aD t bs).length<=rows.length/\σ.next<=σ'.next/\∀i:Id,i.bV<σ.next->i≠o->σ'.get i=σ.get i:=by
 refine eZ dN rfl fun rR=>?_
 clear rR
 have Dp:=vk bs t hl
 have hzT:∀(g:Rows),g T=some ⟨true,1,[[.int .i64 t]]⟩->V.fz (dz g) 5 (.ptr T 0 0)=some (.cK [.int .i64 t]):=fun g hg=>wv (sz:=1) (rows:=[[.int .i64 t]]) (by simp[dz,hg]) rfl (by simp only[List.drop_zero,ad,aj,aH,Option.map_some])
 have xJ:∀(g:Rows),g T=some ⟨true,1,[[.int .i64 t]]⟩->g o=some ⟨true,3,bs.map au⟩->bW (dz g) 6 [.own o 0 bs.length,.fn 171 [.ptr T 0 0]]=some [.sl (bs.map au),.fn 171 [.cK [.int .i64 t]]]:=fun g h1 h2=>by
  have q1:=fA (g:=dz g) (n:=5) (e:=au) (sz:=3) (len:=bs.length) (l:=bs) (id:=o) (by simp[dz,h2]) rfl fun b=>wq _ 4 b
  have q2:=hzT g h1
  simp only[ad,aj,q1,cN,List.all_cons,List.all_nil,AV.cell,Bool.and_true,if_true,q2,Option.map_some]
 have kF:∀(g:Rows),g T=some ⟨true,1,[[.int .i64 t]]⟩->∀b:PB,bW (dz g) 6 [.agg (au b),.ptr T 0 0]=some [.agg (au b),.cK [.int .i64 t]]:=fun g h1 b=>by
  have q3:V.fz (dz g) 6 (.ptr T 0 0)=some (.cK [.int .i64 t]):=wv (sz:=1) (rows:=[[.int .i64 t]]) (by simp[dz,h1]) rfl (by simp only[List.drop_zero,ad,aj,aH,Option.map_some])
  simp only[ad,aj,bj,wq,q3,Option.map_some]
 (try((repeat(revert hN;revert N;apply Pn.out));refine wk @Nat.zero_add ?_;(repeat(refine Pn.mk ?_;intro N hN))))
 refine .inl ⟨_,ai.x Dp (xJ _ hT ho),?_⟩
 refine hN _ _ ?_
 clear hN N
 by_cases h0:0<=jy (fun b:PB=>decide (b.s<t)) bs
 ·obtain⟨i,hi,HC,hpi,Lj⟩:=Ae h0
  rw[HC]at *
  have Iv:decide ((i:Int)= -1)=false:=decide_eq_false ab
  have Oc:IntKind.i64.wrap ((i:Int)+1)=((i+1:Nat):Int):=ax ab
  obtain⟨dQ,tW⟩:=rJ.start (t:=t) hi (by simpa using hpi) (fun x hx=>by simpa using Lj x hx)
  (try((repeat(revert hN;revert N;apply Pn.out));refine wk (tw @Iv @Oc) ?_;(repeat(refine Pn.mk ?_;intro N hN))))
  refine aL (fun m env st=>∃(j:Nat) (R:List PB),m=bs.length-j/\env 6=.int .i64 (j:Int)/\env 5=.int .i64 ((aD t (bs.take j)).length:Int)/\st.get o=some ⟨true,3,R.map au⟩/\rJ t bs j R/\j<=bs.length/\σ.next<=st.next/\∀x:Id,x.bV<σ.next->(x=o)=False->st.get x=σ.get x) (bs.length-(i+1)) ⟨i+1,bs,rfl,sd @Oc,sd @tW,sd @ho,dQ,ab,bt,fun x _ _=>sd @Nat.zero_add⟩ ?_
  rintro m env_b st_b ⟨j,R,rfl,b6,b5,bg,hD,gq,hle,mc⟩ bfr
  have b0:=bfr 0 (by kernel_rfl)
  have b1:=bfr 1 (by kernel_rfl)
  simp only[go_sem, ↓reduceIte,Nat.reduceEqDiff,Nat.reduceAdd,Nat.reduceSub,Nat.reduceLeDiff,reduceCtorEq]at b0 b1
  clear bfr
  have bT:=(mc T hTv (by simp only[eq_iff_iff,iff_false];exact fun h=>MD h.symm)).trans hT
  have n8:=eD (i:=o) (n:=st_b.next) ab
  have QU:=eD (i:=T) (n:=st_b.next) ab
  have hRl:=hD.len
  have Qc:(R.map au).length=bs.length:=by rw[List.length_map,hRl]
  have dF:=hD.lt
  by_cases hj:(j:Int)<(bs.length:Int)
  ·have gh:j<bs.length:=ab
   have EJ:=hD.at_ gh
   have ve:=Hn bs[j] t
   have Pp:IntKind.i64.wrap ((j:Int)+1)=((j+1:Nat):Int):=ax ab
   have hD1:=hD.Q7 gh
   have hD2:=hD.s5 gh
   generalize bs[j]=b at *
   (try((repeat(revert hN;revert N;apply Pn.out));refine wk (tw @b0 (tw @b1 (tw @b5 (tw @b6 (tw @bg (tw @hj (tw @EJ (tw @au.eq_1 (tw @n8 (tw @QU @Qc)))))))))) ?_;(repeat(refine Pn.mk ?_;intro N hN))))
   refine .inl ⟨_,ai.x ve (kF _ (sd (tw @QU @bT)) b),?_⟩
   refine hN _ _ ?_
   clear hN N
   by_cases hw:b.s<t
   ·obtain⟨PY,PX⟩:=hD1 hw
    have hd:decide (b.s<t)=true:=decide_eq_true hw
    (try((repeat(revert hN;revert N;apply Pn.out));refine wk (tw @b0 (tw @b1 (tw @b5 (tw @b6 (tw @hd @Pp))))) ?_;(repeat(refine Pn.mk ?_;intro N hN))))
    refine⟨_,?_,j+1,R,rfl,sd @Pp,sd (tw @b5 @PX),sd (tw @bg @n8),PY,ab,bt,fun x hx EU=>?_⟩
    ·omega
    ·have ML:=eD (i:=x) (n:=st_b.next) ab
     have:=mc x hx EU
     simp only[go_sem, ↓reduceIte,Nat.reduceEqDiff,Nat.reduceAdd,Nat.reduceSub,Nat.reduceLeDiff,reduceCtorEq,ML,this]
   ·obtain⟨PY,PX⟩:=hD2 hw
    have hd:decide (b.s<t)=false:=decide_eq_false hw
    have Qg:((aD t (bs.take j)).length:Int)<(bs.length:Int):=ab
    have hwc:IntKind.i64.wrap (((aD t (bs.take j)).length:Int)+1)=(((aD t (bs.take j)).length+1:Nat):Int):=ax ab
    have dK:(R.map au).set (aD t (bs.take j)).length [.int .i64 (b.a:Int),.int .i64 (b.b:Int),.int .i64 b.s]=(R.set (aD t (bs.take j)).length b).map au:=by rw[List.map_set];rfl
    have My:∃y,(R.map au)[(aD t (bs.take j)).length]? =some (au y):=⟨R[(aD t (bs.take j)).length]'ab,by rw[List.getElem?_map,List.getElem?_eq_getElem ab];rfl⟩
    obtain⟨y,My⟩:=My
    rw[au]at My
    (try((repeat(revert hN;revert N;apply Pn.out));refine wk (tw @b0 (tw @b1 (tw @b5 (tw @b6 (tw @bg (tw @hd (tw @Pp (tw @hwc (tw @Qg (tw @dK (tw @My (tw @n8 (tw @QU @Qc))))))))))))) ?_;(repeat(refine Pn.mk ?_;intro N hN))))
    refine⟨_,?_,j+1,_,rfl,sd @Pp,sd (tw @hwc @PX),sd @dK,PY,ab,bt,fun x hx EU=>?_⟩
    ·omega
    ·have ML:=eD (i:=x) (n:=st_b.next) ab
     have:=mc x hx EU
     simp only[go_sem, ↓reduceIte,Nat.reduceEqDiff,Nat.reduceAdd,Nat.reduceSub,Nat.reduceLeDiff,reduceCtorEq,ML,this,EU]
  ·have gq:j=bs.length:=ab
   subst gq
   have ur:=hD.pre
   rw[List.take_length]at b5 dF ur
   have Qg:((aD t bs).length:Int)<=(bs.length:Int):=ab
   have O4:(aD t bs).length<=bs.length:=ab
   have oI:(aD t bs).length+(bs.length-(aD t bs).length)=bs.length:=ab
   have tW:=lR t bs
   (try((repeat(revert hN;revert N;apply Pn.out));refine wk (tw @b0 (tw @b1 (tw @b5 (tw @b6 (tw @bg (tw @hj (tw @Qc (tw @Qg (tw @O4 (tw @oI (tw @Nat.le_refl (tw @Nat.sub_zero (tw @Int.le_refl @n8))))))))))))) ?_;(repeat(refine Pn.mk ?_;intro N hN))))
   refine gn (.inl rfl) (vs:=[.own o 0 (aD t bs).length]) (sd @Nat.zero_add) ⟨_,rfl,by simp only[go_sem, ↓reduceIte,Nat.reduceEqDiff,Nat.reduceAdd,Nat.reduceSub,Nat.reduceLeDiff,reduceCtorEq];rfl,?_,?_,bt,fun x hx EU=>?_⟩
   ·have hm:List.take (aD t bs).length (List.map au R)=(aD t bs).map au:=by rw[<-List.map_take,ur]
    rw[hm,List.append_assoc,List.take_append_of_le_length (by simp),List.take_of_length_le (by simp)]
   ·have hm:List.take (aD t bs).length (List.map au R)=(aD t bs).map au:=by rw[<-List.map_take,ur]
    rw[hm]
    simp only[List.length_append,List.length_map]
    omega
   ·have Od:(x=o)=False:=by simp only[eq_iff_iff,iff_false];exact EU
    have:=mc x hx Od
    simp only[go_sem, ↓reduceIte,Nat.reduceEqDiff,Nat.reduceAdd,Nat.reduceSub,Nat.reduceLeDiff,reduceCtorEq,Od,this]
 ·have hn:=Ad h0
  have dQ:=rF (t:=t) (bs:=bs) fun b hb=>by simpa using hn b hb
  have hd:decide (jy (fun b:PB=>decide (b.s<t)) bs= -1)=true:=decide_eq_true (by
   unfold jy at h0 ⊢
   split
   ·rename_i h;rw[if_pos h]at h0;omega
   ·rfl)
  (try((repeat(revert hN;revert N;apply Pn.out));refine wk @hd ?_;(repeat(refine Pn.mk ?_;intro N hN))))
  refine gn (.inl rfl) (vs:=[.own o 0 bs.length]) (sd @Nat.zero_add) ⟨bs.map au,by rw[dQ];rfl,sd @ho,by rw[dQ,List.take_of_length_le (by simp)],by rw[dQ];simp,bt,fun x _ _=>rfl⟩
def xd (bs:List PB):AV:=if bs=[]then .bC else .sl (bs.map au)
theorem Jn:xd []=.bC:=rfl
theorem xe {bs:List PB} (h:0<bs.length):xd bs=.sl (bs.map au):=by
 unfold xd
 rw[if_neg (by rintro rfl;simp at h)]
theorem ug (cnt:Nat) (uq:1<=cnt) (hn:cnt<=1048576) (bs:List PB) (hb:∀b∈bs,b.a<cnt/\b.b<cnt) (hp:0<bs.length) (oY:bs.length<=1048576) (t:Int):ai Tryz.prog 153 [.int .i64 cnt,.sl (bs.map au),.int .i64 t] (.ib [.int .i64 (leads cnt (dI (aD t bs))).length,xd (dc (dI (aD t bs)) bs)]):=by
 refine ai.body dN rfl fun hl n0=>?_
 clear hl
 (try((repeat(revert hN;revert N;apply Pn.out));refine wk @Nat.zero_add ?_;(repeat(refine Pn.mk ?_;intro N hN))))
 refine .inr (aO _ _ _ _ _ (fun r σ1 hq=>?_) (Ft bs hp oY _))
 obtain⟨o,rfl,ho,Iz,IA,NL⟩:=hq
 (try dsimp only at ho Iz IA NL)
 refine hN _ _ ?_
 clear hN N
 (try((repeat(revert hN;revert N;apply Pn.out));refine wk @Nat.zero_add ?_;(repeat(refine Pn.mk ?_;intro N hN))))
 refine .inr (aO _ _ _ _ _ (fun r σ2 hq=>?_) (C5 bs t oY o ⟨153000000,n0⟩ _ ho (by rw[NL _ bt];simp only[go_sem, ↓reduceIte,Nat.reduceEqDiff,Nat.reduceAdd,Nat.reduceSub,Nat.reduceLeDiff,reduceCtorEq]) bt bt (by rintro rfl;simp only at Iz;omega)))
 obtain⟨rows,rfl,fu,hrt,mz,lJ,FT⟩:=hq
 (try dsimp only at lJ FT)
 refine hN _ _ ?_
 clear hN N
 have EK:=sP cnt uq hn (aD t bs) (fun b h=>hb b (tF h)) (by have:=lR t bs;omega)
 have hL:=rq (aD t bs)
 have hz:∀x,bW (dz σ2.get) 6 [.int .i64 x,.own o 0 (aD t bs).length]=some [.int .i64 x,.sl ((aD t bs).map au)]:=fun x=>by
  have:V.fz (dz σ2.get) 6 (.own o 0 (aD t bs).length)=some (.sl ((aD t bs).map au)):=by
   rw[fP];simp only[dz,fu,Option.map_some,if_true]
   rw[if_pos ab,List.drop_zero,hrt,lH fun b=>wq _ 4 b];rfl
  simp only[ad,aj,aH,this,Option.map_some]
 (try((repeat(revert hN;revert N;apply Pn.out));refine wk @Nat.zero_add ?_;(repeat(refine Pn.mk ?_;intro N hN))))
 refine .inl ⟨_,ai.x EK (hz _),?_⟩
 refine hN _ _ ?_
 clear hN N
 generalize dI (aD t bs)=L at *
 have oZ:((eP cnt L).map xw).length=(leads cnt L).length:=by simp[eP]
 have Pe:=iX cnt L
 have iS:(0:Int)<=(cnt:Int):=ab
 have oi:(cnt:Int)<=((16777216:Nat):Int):=ab
 have gi:List.replicate cnt [AV.int .i64 0]=dm (cm cnt L 0 0) cnt:=by rw[tK,nj]
 (try((repeat(revert hN;revert N;apply Pn.out));refine wk (tw @iS (tw @oi (tw @Int.le_refl (tw @oZ @gi)))) ?_;(repeat(refine Pn.mk ?_;intro N hN))))
 refine aL (fun n env st=>∃i:Nat,n=((leads cnt L).length)-i/\i<=((leads cnt L).length)/\env 27=.int .i64 (i:Int)/\st.get ⟨153002001,σ2.next+1⟩=some ⟨true,1,dm (cm cnt L i 0) cnt⟩/\(σ2.next+1<st.next)) ((leads cnt L).length) ⟨0,ab,ab,sl (tw @gi @oZ),sl (tw @gi @oZ),bt⟩ ?_
 rintro n_c env_c st_c ⟨i,rfl,cle,c27,cg0,cI0⟩ cfr
 have c1:=cfr 1 (by kernel_rfl);have c8:=cfr 8 (by kernel_rfl);have c9:=cfr 9 (by kernel_rfl);have ub:=cfr 25 (by kernel_rfl);have uc:=cfr 26 (by kernel_rfl)
 simp only[go_sem, ↓reduceIte,Nat.reduceEqDiff,Nat.reduceAdd,Nat.reduceSub,Nat.reduceLeDiff,reduceCtorEq,gi,oZ]at c1 c8 c9 ub uc
 clear cfr
 by_cases hi:(i:Int)<((leads cnt L).length:Int)
 ·have gp:∀{e:Env} {gg:Rows} {nx:Nat},(e 27=.int .i64 (IntKind.i64.wrap ((i:Int)+1)))->(gg ⟨153002001,σ2.next+1⟩=some ⟨true,1,dm (cm cnt L (i+1) 0) cnt⟩)->(σ2.next+1<nx)->∃m0,m0<((leads cnt L).length)-i/\∃i:Nat,m0=((leads cnt L).length)-i/\i<=((leads cnt L).length)/\e 27=.int .i64 (i:Int)/\gg ⟨153002001,σ2.next+1⟩=some ⟨true,1,dm (cm cnt L i 0) cnt⟩/\(σ2.next+1<nx):=fun x1 x2 x3=>⟨_,ab,i+1,rfl,ab,(by rw[x1,ax ab]),x2,x3⟩
  have fy:i<(leads cnt L).length:=ab
  have nH:((eP cnt L).map xw)[i]? =some (xw (members cnt L (leads cnt L)[i])):=by simp[eP,fy]
  have r9:(leads cnt L).getD i 0=(leads cnt L)[i]:=by simp[List.getD_eq_getElem?_getD,fy]
  have wK:∀m,cm cnt L i m=fun x=>if bl L x<i then bl L x else if x∈(members cnt L (leads cnt L)[i]).take m then i else 0:=fun m=>by unfold cm;rw[r9]
  have nX:=fun x (hx:x<cnt)=>qz hL (n:=cnt) (k:=x) (i:=i) hx fy
  have km:(members cnt L (leads cnt L)[i]).Nodup:=List.nodup_range.filter _
  have FZ:∀x∈members cnt L (leads cnt L)[i],x<cnt:=fun x hx=>(kG.1 hx).1
  have hMc:(members cnt L (leads cnt L)[i]).length<=cnt:=by
   have:=List.length_filter_le (fun k=>L k==(leads cnt L)[i]) (List.range cnt)
   simpa[members]using this
  generalize members cnt L (leads cnt L)[i]=M at *
  have zE:(M.map eN).length=M.length:=by simp
  (try((repeat(revert hN;revert N;apply Pn.out));refine wk (tw @c27 (tw @cg0 (tw @c1 (tw @c8 (tw @c9 (tw @ub (tw @uc (tw @hi (tw @oZ (tw @nH (tw @xw.eq_1 @zE))))))))))) ?_;(repeat(refine Pn.mk ?_;intro N hN))))
  refine aL (fun n env st=>∃m:Nat,n=(M.length)-m/\m<=(M.length)/\env 34=.int .i64 (m:Int)/\st.get ⟨153002001,σ2.next+1⟩=some ⟨true,1,dm (cm cnt L i m) cnt⟩/\(σ2.next+1<st.next)) (M.length) ⟨0,ab,ab,sl (tw @c27 (tw @cg0 (tw @c1 (tw @c8 (tw @c9 (tw @ub (tw @uc @zE))))))),sl (tw @c27 (tw @cg0 (tw @c1 (tw @c8 (tw @c9 (tw @ub (tw @uc @zE))))))),bt⟩ ?_
  rintro n_d env_d st_d ⟨m,rfl,dle,d34,dg0,dI0⟩ dfr
  have d1:=dfr 1 (by kernel_rfl);have d8:=dfr 8 (by kernel_rfl);have d9:=dfr 9 (by kernel_rfl);have d10:=dfr 10 (by kernel_rfl);have d25:=dfr 25 (by kernel_rfl);have d26:=dfr 26 (by kernel_rfl);have d27:=dfr 27 (by kernel_rfl);have d32:=dfr 32 (by kernel_rfl);have d33:=dfr 33 (by kernel_rfl)
  simp only[go_sem, ↓reduceIte,Nat.reduceEqDiff,Nat.reduceAdd,Nat.reduceSub,Nat.reduceLeDiff,reduceCtorEq,c27,cg0,c1,c8,c9,ub,uc,zE]at d1 d8 d9 d10 d25 d26 d27 d32 d33
  clear dfr
  have tl:=fv (cm cnt L i m) cnt
  by_cases hm:(m:Int)<(M.length:Int)
  ·have rz:∀{e:Env} {gg:Rows} {nx:Nat},(e 34=.int .i64 (IntKind.i64.wrap ((m:Int)+1)))->(gg ⟨153002001,σ2.next+1⟩=some ⟨true,1,dm (cm cnt L i (m+1)) cnt⟩)->(σ2.next+1<nx)->∃m0,m0<(M.length)-m/\∃m:Nat,m0=(M.length)-m/\m<=(M.length)/\e 34=.int .i64 (m:Int)/\gg ⟨153002001,σ2.next+1⟩=some ⟨true,1,dm (cm cnt L i m) cnt⟩/\(σ2.next+1<nx):=fun x1 x2 x3=>⟨_,ab,m+1,rfl,ab,(by rw[x1,ax ab]),x2,x3⟩
   have wJ:m<M.length:=ab
   have sR:(M.map eN)[m]? =some (eN M[m]):=by simp[wJ]
   have sY:=FZ _ (List.getElem_mem wJ)
   have xI:(M[m]:Int)<(cnt:Int):=ab
   have zH:=eL (f:=cm cnt L i m) sY
   have dK:(dm (cm cnt L i m) cnt).set M[m] (eN i)=dm (cm cnt L i (m+1)) cnt:=nR sY (by
    have h1:=(nX _ sY).1 (List.getElem_mem wJ)
    rw[wK]
    simp only[]
    rw[if_neg ab,if_pos (by rw[List.take_succ_eq_append_getElem wJ];exact List.mem_append_right _ (List.mem_singleton.2 rfl))]) fun x hx gF=>by
    rw[wK,wK]
    simp only[]
    rw[List.take_succ_eq_append_getElem wJ]
    simp only[List.mem_append,List.mem_singleton,gF,or_false]
   rw[eN]at dK zH
   generalize M[m]=xm at *
   (try((repeat(revert hN;revert N;apply Pn.out));refine wk (tw @d34 (tw @dg0 (tw @d1 (tw @d8 (tw @d9 (tw @d10 (tw @d25 (tw @d26 (tw @d27 (tw @d32 (tw @d33 (tw @hm (tw @hi (tw @sR (tw @zE (tw @xI (tw @zH (tw @tl (tw @dK @eN.eq_1))))))))))))))))))) ?_;(repeat(refine Pn.mk ?_;intro N hN))))
   refine rz ?_ ?_ bt
   all_goals simp only[go_sem, ↓reduceIte,Nat.reduceEqDiff,Nat.reduceAdd,Nat.reduceSub,Nat.reduceLeDiff,reduceCtorEq,d34,dg0,d1,d8,d9,d10,d25,d26,d27,d32,d33,dK]
  ·have kD:m=M.length:=ab
   subst kD
   have sa:dm (cm cnt L i M.length) cnt=dm (cm cnt L (i+1) 0) cnt:=fY fun x hx=>by
    rw[wK,List.take_length]
    simp only[cm,List.take_zero,List.not_mem_nil,if_false]
    have h1:=nX x hx
    by_cases h2:bl L x<i
    ·rw[if_pos h2,if_pos ab]
    ·rw[if_neg h2]
     by_cases h3:x∈M
     ·rw[if_pos h3,if_pos (by have:=h1.1 h3;omega),h1.1 h3]
     ·rw[if_neg h3,if_neg fun h4=>h3 (h1.2 ab)]
   (try((repeat(revert hN;revert N;apply Pn.out));refine wk (tw @d34 (tw @dg0 (tw @d1 (tw @d8 (tw @d9 (tw @d10 (tw @d25 (tw @d26 (tw @d27 (tw @d32 (tw @d33 (tw @hm (tw @hi (tw @oZ @zE)))))))))))))) ?_;(repeat(refine Pn.mk ?_;intro N hN))))
   refine gp ?_ ?_ bt
   all_goals simp only[go_sem, ↓reduceIte,Nat.reduceEqDiff,Nat.reduceAdd,Nat.reduceSub,Nat.reduceLeDiff,reduceCtorEq,c27,cg0,c1,c8,c9,ub,uc,d34,dg0,d1,d8,d9,d10,d25,d26,d27,d32,d33,sa]
 have oj:i=(leads cnt L).length:=ab
 subst oj
 have F1:dm (cm cnt L (leads cnt L).length 0) cnt=dm (bl L) cnt:=fY fun x hx=>by rw[cm,if_pos (js hL hx)]
 rw[F1]at cg0
 have tl:=fv (bl L) cnt
 have O1:(bs.map au).length=bs.length:=by simp
 (try((repeat(revert hN;revert N;apply Pn.out));refine wk (tw @c27 (tw @cg0 (tw @c1 (tw @c8 (tw @c9 (tw @ub (tw @uc (tw @hi (tw @oZ @O1))))))))) ?_;(repeat(refine Pn.mk ?_;intro N hN))))
 have O4:σ2.next+1<st_c.next:=cI0
 refine aL (fun n env st=>∃j:Nat,n=(bs.length)-j/\j<=(bs.length)/\env 46=.int .i64 (j:Int)/\st.get ⟨153002001,σ2.next+1⟩=some ⟨true,1,dm (bl L) cnt⟩/\(st_c.next<=st.next/\((dc L (bs.take j)=[]/\env 14=.bC)∨∃p:Id,env 14=.own p 0 (dc L (bs.take j)).length/\st.get p=some ⟨true,3,(dc L (bs.take j)).map au⟩/\st_c.next<=p.bV/\p.bV<st.next/\0<(dc L (bs.take j)).length))) (bs.length) ⟨0,ab,ab,sl (tw @c27 (tw @cg0 (tw @c1 (tw @c8 (tw @c9 (tw @ub (tw @uc @O1))))))),sl (tw @c27 (tw @cg0 (tw @c1 (tw @c8 (tw @c9 (tw @ub (tw @uc @O1))))))),⟨bt,.inl ⟨rfl,by(simp only[go_sem, ↓reduceIte,Nat.reduceEqDiff,Nat.reduceAdd,Nat.reduceSub,Nat.reduceLeDiff,reduceCtorEq])⟩⟩⟩ ?_
 rintro n_f env_f st_f ⟨j,rfl,fle,f46,fg0,fI0⟩ ffr
 have f1:=ffr 1 (by kernel_rfl);have f8:=ffr 8 (by kernel_rfl);have f9:=ffr 9 (by kernel_rfl);have f44:=ffr 44 (by kernel_rfl);have f45:=ffr 45 (by kernel_rfl)
 simp only[go_sem, ↓reduceIte,Nat.reduceEqDiff,Nat.reduceAdd,Nat.reduceSub,Nat.reduceLeDiff,reduceCtorEq,c27,cg0,c1,c8,c9,ub,uc,O1]at f1 f8 f9 f44 f45
 clear ffr
 obtain⟨Mx,fO⟩:=fI0
 have Gb:=eD (i:=⟨153002001,σ2.next+1⟩) (n:=st_f.next) bt
 have tW:=(lQ L (bs.take j)).1
 rw[List.length_take]at tW
 by_cases hj:(j:Int)<(bs.length:Int)
 ·have pI:∀{e:Env} {gg:Rows} {nx:Nat},(e 46=.int .i64 (IntKind.i64.wrap ((j:Int)+1)))->(gg ⟨153002001,σ2.next+1⟩=some ⟨true,1,dm (bl L) cnt⟩)->(st_c.next<=nx/\((dc L (bs.take (j+1))=[]/\e 14=.bC)∨∃p:Id,e 14=.own p 0 (dc L (bs.take (j+1))).length/\gg p=some ⟨true,3,(dc L (bs.take (j+1))).map au⟩/\st_c.next<=p.bV/\p.bV<nx/\0<(dc L (bs.take (j+1))).length))->∃m0,m0<(bs.length)-j/\∃j:Nat,m0=(bs.length)-j/\j<=(bs.length)/\e 46=.int .i64 (j:Int)/\gg ⟨153002001,σ2.next+1⟩=some ⟨true,1,dm (bl L) cnt⟩/\(st_c.next<=nx/\((dc L (bs.take j)=[]/\e 14=.bC)∨∃p:Id,e 14=.own p 0 (dc L (bs.take j)).length/\gg p=some ⟨true,3,(dc L (bs.take j)).map au⟩/\st_c.next<=p.bV/\p.bV<nx/\0<(dc L (bs.take j)).length)):=fun x1 x2 x3=>⟨_,ab,j+1,rfl,ab,(by rw[x1,ax ab]),x2,x3⟩
  have gh:j<bs.length:=ab
  have EJ:(bs.map au)[j]? =some (au bs[j]):=by simp[gh]
  have JL:=hb _ (List.getElem_mem gh)
  have hs:=w9 L (bs.take j) bs[j]
  rw[<-List.take_succ_eq_append_getElem gh]at hs
  generalize bs[j]=b at *
  have hA:=eL (f:=bl L) JL.1
  have hB:=eL (f:=bl L) JL.2
  have fK:(b.a:Int)<(cnt:Int):=ab
  have fc:(b.b:Int)<(cnt:Int):=ab
  rw[eN]at hA hB
  have e1:(dc L (bs.take j)).length+1<=16777216:=ab
  have kD:((dc L (bs.take j)).map au).length=(dc L (bs.take j)).length:=by simp
  by_cases he:bl L b.a=bl L b.b
  ·rw[if_pos he,List.append_nil]at hs
   have tU:decide ((bl L b.a:Int)=(bl L b.b:Int))=true:=decide_eq_true (by rw[he])
   (try((repeat(revert hN;revert N;apply Pn.out));refine wk (tw @f46 (tw @fg0 (tw @f1 (tw @f8 (tw @f9 (tw @f44 (tw @f45 (tw @hj (tw @EJ (tw @hA (tw @hB (tw @fK (tw @fc (tw @tl (tw @tU (tw @Gb (tw @au.eq_1 (tw @Bool.not_true @Bool.not_false)))))))))))))))))) ?_;(repeat(refine Pn.mk ?_;intro N hN))))
   refine pI ?_ ?_ (by(try dsimp only);exact⟨ab,by
    rw[hs]
    rcases fO with⟨h1,h2⟩|⟨p,h1,h2,h3,h4,h5⟩
    ·exact .inl ⟨h1,sd @h2⟩
    ·have xF:=eD h4
     exact .inr ⟨p,sd @h1,sd (tw @h2 @xF),h3,ab,h5⟩⟩)
   all_goals simp only[go_sem, ↓reduceIte,Nat.reduceEqDiff,Nat.reduceAdd,Nat.reduceSub,Nat.reduceLeDiff,reduceCtorEq,f46,fg0,f1,f8,f9,f44,f45,Gb]
  ·rw[if_neg he]at hs
   have tU:decide ((bl L b.a:Int)=(bl L b.b:Int))=false:=decide_eq_false fun h=>he ab
   rcases fO with⟨h1,f14⟩|⟨p,f14,fg,Lh,JZ,hp3⟩
   ·rw[h1]at hs
    (try((repeat(revert hN;revert N;apply Pn.out));refine wk (tw @f46 (tw @fg0 (tw @f1 (tw @f8 (tw @f9 (tw @f44 (tw @f45 (tw @f14 (tw @hj (tw @EJ (tw @hA (tw @hB (tw @fK (tw @fc (tw @tl (tw @tU (tw @Gb (tw @au.eq_1 (tw @Bool.not_true @Bool.not_false))))))))))))))))))) ?_;(repeat(refine Pn.mk ?_;intro N hN))))
    refine pI ?_ ?_ (by(try dsimp only);exact⟨ab,.inr ⟨⟨153017015,st_f.next+1+1+1⟩,by rw[hs];simp only[go_sem, ↓reduceIte,Nat.reduceEqDiff,Nat.reduceAdd,Nat.reduceSub,Nat.reduceLeDiff,reduceCtorEq,List.nil_append,List.length_cons,List.length_nil],by rw[hs];simp only[go_sem, ↓reduceIte,Nat.reduceEqDiff,Nat.reduceAdd,Nat.reduceSub,Nat.reduceLeDiff,reduceCtorEq,au,List.nil_append,List.map_cons,List.map_nil],bt,bt,by rw[hs];simp⟩⟩)
    all_goals simp only[go_sem, ↓reduceIte,Nat.reduceEqDiff,Nat.reduceAdd,Nat.reduceSub,Nat.reduceLeDiff,reduceCtorEq,f46,fg0,f1,f8,f9,f44,f45,Gb]
   ·have x1:=dj (a:=⟨153002001,σ2.next+1⟩) (b:=p) bt
    have xF:=eD JZ
    (try((repeat(revert hN;revert N;apply Pn.out));refine wk (tw @f46 (tw @fg0 (tw @f1 (tw @f8 (tw @f9 (tw @f44 (tw @f45 (tw @f14 (tw @fg (tw @hj (tw @EJ (tw @hA (tw @hB (tw @fK (tw @fc (tw @tl (tw @tU (tw @x1 (tw @xF (tw @Gb (tw @e1 (tw @kD (tw @au.eq_1 (tw @Bool.not_true @Bool.not_false)))))))))))))))))))))))) ?_;(repeat(refine Pn.mk ?_;intro N hN))))
    refine pI ?_ ?_ (by(try dsimp only);exact⟨ab,.inr ⟨⟨153017015,st_f.next+1+1+1⟩,by rw[hs,List.length_append];simp only[go_sem, ↓reduceIte,Nat.reduceEqDiff,Nat.reduceAdd,Nat.reduceSub,Nat.reduceLeDiff,reduceCtorEq,List.length_cons,List.length_nil],by rw[hs,List.map_append,List.map_cons,List.map_nil];simp only[go_sem, ↓reduceIte,Nat.reduceEqDiff,Nat.reduceAdd,Nat.reduceSub,Nat.reduceLeDiff,reduceCtorEq,au],bt,bt,by rw[hs];simp⟩⟩)
    all_goals simp only[go_sem, ↓reduceIte,Nat.reduceEqDiff,Nat.reduceAdd,Nat.reduceSub,Nat.reduceLeDiff,reduceCtorEq,f46,fg0,f1,f8,f9,f44,f45,x1,Gb]
 ·have gq:j=bs.length:=ab
  subst gq
  rw[List.take_length]at fO
  rcases fO with⟨h1,f14⟩|⟨p,f14,fg,Lh,JZ,hp3⟩
  ·(try((repeat(revert hN;revert N;apply Pn.out));refine wk (tw @f46 (tw @fg0 (tw @f1 (tw @f8 (tw @f9 (tw @f44 (tw @f45 (tw @f14 (tw @hj @oZ))))))))) ?_;(repeat(refine Pn.mk ?_;intro N hN))))
   refine iJ (.inl rfl) (r1:=.int .i64 ((leads cnt L).length:Int)) (sd @Nat.zero_add) (by simp only[go_sem, ↓reduceIte,Nat.reduceEqDiff,Nat.reduceAdd,Nat.reduceSub,Nat.reduceLeDiff,reduceCtorEq];rfl) ?_
   simp only[eJ,bd,bE,dV,jO,h1,Jn,Option.map_some]
  ·(try((repeat(revert hN;revert N;apply Pn.out));refine wk (tw @f46 (tw @fg0 (tw @f1 (tw @f8 (tw @f9 (tw @f44 (tw @f45 (tw @f14 (tw @hj @oZ))))))))) ?_;(repeat(refine Pn.mk ?_;intro N hN))))
   refine iJ (.inl rfl) (r1:=.int .i64 ((leads cnt L).length:Int)) (sd @Nat.zero_add) (by simp only[go_sem, ↓reduceIte,Nat.reduceEqDiff,Nat.reduceAdd,Nat.reduceSub,Nat.reduceLeDiff,reduceCtorEq];rfl) ?_
   have h1:fa st_f.get 5 (.own p 0 (dc L bs).length)=some (.sl ((dc L bs).map au)):=ft (sz:=3) fg rfl fun b=>r4 _ 3 b
   simp only[eJ,bd,bE,dV,h1,xe hp3,Option.map_some]
theorem uf (cnt:Nat) (uq:1<=cnt) (hn:cnt<=1048576) (t:Int):ai Tryz.prog 153 [.int .i64 cnt,.bC,.int .i64 t] (.ib [.int .i64 cnt,.bC]):=by
 refine ai.body dN rfl fun hl n0=>?_
 clear hl
 have h1:ai Tryz.prog 170 [.bC] .bC:=by
  refine ai.body dN rfl fun hl n0=>?_
  clear hl
  (try((repeat(revert hN;revert N;apply Pn.out));refine wk @Nat.zero_add ?_;(repeat(refine Pn.mk ?_;intro N hN))))
  exact tv (.inl rfl) (r0:=.bC) (sd @Nat.zero_add) (jO _ _)
 have h2:ai Tryz.prog 169 [.bC,.fn 171 [.cK [.int .i64 t]]] .bC:=by
  have Dp:=(vk [] t (by simp)).cut mixed (.bC (.same _ .nil))
  refine ai.body dN rfl fun hl n0=>?_
  clear hl
  (try((repeat(revert hN;revert N;apply Pn.out));refine wk @Nat.zero_add ?_;(repeat(refine Pn.mk ?_;intro N hN))))
  refine .inl ⟨_,ai.x Dp (by simp only[ad,aj,aQ,cN,aW,List.all_cons,List.all_nil,AV.cell,Bool.and_true,if_true,Option.map_some]),?_⟩
  refine hN _ _ ?_
  clear hN N
  have hd:decide (jy (fun b:PB=>decide (b.s<t)) []= -1)=true:=rfl
  (try((repeat(revert hN;revert N;apply Pn.out));refine wk @hd ?_;(repeat(refine Pn.mk ?_;intro N hN))))
  exact tv (.inl rfl) (r0:=.bC) (sd @Nat.zero_add) (jO _ _)
 have EK:=(sP cnt uq hn [] (fun b h=>by cases h) (by simp)).cut mixed (.same _ (.bC .nil))
 (repeat(first|((repeat(revert hN;revert N;apply Pn.out));refine wk @Nat.zero_add ?_;(repeat(refine Pn.mk ?_;intro N hN)))|((try apply Or.inl);refine⟨_,ai.x (h1) (sd @Nat.zero_add),?_⟩;refine hN _ _ ?_;clear hN N)))
 refine .inl ⟨_,ai.x h2 ?_,?_⟩
 ·have:V.fz (dz (bK (fun _=>none) ⟨153000000,n0⟩ ⟨true,1,[[.int .i64 t]]⟩)) 5 (.ptr ⟨153000000,n0⟩ 0 0)=some (.cK [.int .i64 t]):=wv (sz:=1) (rows:=[[.int .i64 t]]) (by simp[dz,bK]) rfl (by simp only[List.drop_zero,ad,aj,aH,Option.map_some])
  simp only[ad,aj,aQ,cN,this,List.all_cons,List.all_nil,AV.cell,Bool.and_true,if_true,Option.map_some]
 refine hN _ _ ?_
 clear hN N
 have fc:dI ([]:List PB)=id:=rfl
 rw[fc]at EK
 have hL:iQ id:=fc▸rq ([]:List PB)
 have MA:(leads cnt id).length=cnt:=by rw[leads,List.filter_eq_self.2 (fun a _=>by simp)];simp
 generalize (id:Nat->Nat)=L at *
 have oZ:((eP cnt L).map xw).length=(leads cnt L).length:=by simp[eP]
 have Pe:=iX cnt L
 have iS:(0:Int)<=(cnt:Int):=ab
 have oi:(cnt:Int)<=((16777216:Nat):Int):=ab
 have gi:List.replicate cnt [AV.int .i64 0]=dm (cm cnt L 0 0) cnt:=by rw[tK,nj]
 (repeat(first|((repeat(revert hN;revert N;apply Pn.out));refine wk (tw @iS (tw @oi (tw @Int.le_refl (tw @oZ @gi)))) ?_;(repeat(refine Pn.mk ?_;intro N hN)))|((try apply Or.inl);refine⟨_,ai.x (EK) (sd (tw @iS (tw @oi (tw @Int.le_refl (tw @oZ @gi))))),?_⟩;refine hN _ _ ?_;clear hN N)))
 refine aL (fun n env st=>∃i:Nat,n=((leads cnt L).length)-i/\i<=((leads cnt L).length)/\env 27=.int .i64 (i:Int)/\st.get ⟨153002001,n0+1+1⟩=some ⟨true,1,dm (cm cnt L i 0) cnt⟩/\(n0+1+1<st.next)) ((leads cnt L).length) ⟨0,ab,ab,sl (tw @gi @oZ),sl (tw @gi @oZ),bt⟩ ?_
 rintro n_c env_c st_c ⟨i,rfl,cle,c27,cg0,cI0⟩ cfr
 have c1:=cfr 1 (by kernel_rfl);have c8:=cfr 8 (by kernel_rfl);have c9:=cfr 9 (by kernel_rfl);have ub:=cfr 25 (by kernel_rfl);have uc:=cfr 26 (by kernel_rfl)
 simp only[go_sem, ↓reduceIte,Nat.reduceEqDiff,Nat.reduceAdd,Nat.reduceSub,Nat.reduceLeDiff,reduceCtorEq,gi,oZ]at c1 c8 c9 ub uc
 clear cfr
 by_cases hi:(i:Int)<((leads cnt L).length:Int)
 ·have gp:∀{e:Env} {gg:Rows} {nx:Nat},(e 27=.int .i64 (IntKind.i64.wrap ((i:Int)+1)))->(gg ⟨153002001,n0+1+1⟩=some ⟨true,1,dm (cm cnt L (i+1) 0) cnt⟩)->(n0+1+1<nx)->∃m0,m0<((leads cnt L).length)-i/\∃i:Nat,m0=((leads cnt L).length)-i/\i<=((leads cnt L).length)/\e 27=.int .i64 (i:Int)/\gg ⟨153002001,n0+1+1⟩=some ⟨true,1,dm (cm cnt L i 0) cnt⟩/\(n0+1+1<nx):=fun x1 x2 x3=>⟨_,ab,i+1,rfl,ab,(by rw[x1,ax ab]),x2,x3⟩
  have fy:i<(leads cnt L).length:=ab
  have nH:((eP cnt L).map xw)[i]? =some (xw (members cnt L (leads cnt L)[i])):=by simp[eP,fy]
  have r9:(leads cnt L).getD i 0=(leads cnt L)[i]:=by simp[List.getD_eq_getElem?_getD,fy]
  have wK:∀m,cm cnt L i m=fun x=>if bl L x<i then bl L x else if x∈(members cnt L (leads cnt L)[i]).take m then i else 0:=fun m=>by unfold cm;rw[r9]
  have nX:=fun x (hx:x<cnt)=>qz hL (n:=cnt) (k:=x) (i:=i) hx fy
  have km:(members cnt L (leads cnt L)[i]).Nodup:=List.nodup_range.filter _
  have FZ:∀x∈members cnt L (leads cnt L)[i],x<cnt:=fun x hx=>(kG.1 hx).1
  have hMc:(members cnt L (leads cnt L)[i]).length<=cnt:=by
   have:=List.length_filter_le (fun k=>L k==(leads cnt L)[i]) (List.range cnt)
   simpa[members]using this
  generalize members cnt L (leads cnt L)[i]=M at *
  have zE:(M.map eN).length=M.length:=by simp
  (try((repeat(revert hN;revert N;apply Pn.out));refine wk (tw @c27 (tw @cg0 (tw @c1 (tw @c8 (tw @c9 (tw @ub (tw @uc (tw @hi (tw @oZ (tw @nH (tw @xw.eq_1 @zE))))))))))) ?_;(repeat(refine Pn.mk ?_;intro N hN))))
  refine aL (fun n env st=>∃m:Nat,n=(M.length)-m/\m<=(M.length)/\env 34=.int .i64 (m:Int)/\st.get ⟨153002001,n0+1+1⟩=some ⟨true,1,dm (cm cnt L i m) cnt⟩/\(n0+1+1<st.next)) (M.length) ⟨0,ab,ab,sl (tw @c27 (tw @cg0 (tw @c1 (tw @c8 (tw @c9 (tw @ub (tw @uc @zE))))))),sl (tw @c27 (tw @cg0 (tw @c1 (tw @c8 (tw @c9 (tw @ub (tw @uc @zE))))))),bt⟩ ?_
  rintro n_d env_d st_d ⟨m,rfl,dle,d34,dg0,dI0⟩ dfr
  have d1:=dfr 1 (by kernel_rfl);have d8:=dfr 8 (by kernel_rfl);have d9:=dfr 9 (by kernel_rfl);have d10:=dfr 10 (by kernel_rfl);have d25:=dfr 25 (by kernel_rfl);have d26:=dfr 26 (by kernel_rfl);have d27:=dfr 27 (by kernel_rfl);have d32:=dfr 32 (by kernel_rfl);have d33:=dfr 33 (by kernel_rfl)
  simp only[go_sem, ↓reduceIte,Nat.reduceEqDiff,Nat.reduceAdd,Nat.reduceSub,Nat.reduceLeDiff,reduceCtorEq,c27,cg0,c1,c8,c9,ub,uc,zE]at d1 d8 d9 d10 d25 d26 d27 d32 d33
  clear dfr
  have tl:=fv (cm cnt L i m) cnt
  by_cases hm:(m:Int)<(M.length:Int)
  ·have rz:∀{e:Env} {gg:Rows} {nx:Nat},(e 34=.int .i64 (IntKind.i64.wrap ((m:Int)+1)))->(gg ⟨153002001,n0+1+1⟩=some ⟨true,1,dm (cm cnt L i (m+1)) cnt⟩)->(n0+1+1<nx)->∃m0,m0<(M.length)-m/\∃m:Nat,m0=(M.length)-m/\m<=(M.length)/\e 34=.int .i64 (m:Int)/\gg ⟨153002001,n0+1+1⟩=some ⟨true,1,dm (cm cnt L i m) cnt⟩/\(n0+1+1<nx):=fun x1 x2 x3=>⟨_,ab,m+1,rfl,ab,(by rw[x1,ax ab]),x2,x3⟩
   have wJ:m<M.length:=ab
   have sR:(M.map eN)[m]? =some (eN M[m]):=by simp[wJ]
   have sY:=FZ _ (List.getElem_mem wJ)
   have xI:(M[m]:Int)<(cnt:Int):=ab
   have zH:=eL (f:=cm cnt L i m) sY
   have dK:(dm (cm cnt L i m) cnt).set M[m] (eN i)=dm (cm cnt L i (m+1)) cnt:=nR sY (by
    have h1:=(nX _ sY).1 (List.getElem_mem wJ)
    rw[wK]
    simp only[]
    rw[if_neg ab,if_pos (by rw[List.take_succ_eq_append_getElem wJ];exact List.mem_append_right _ (List.mem_singleton.2 rfl))]) fun x hx gF=>by
    rw[wK,wK]
    simp only[]
    rw[List.take_succ_eq_append_getElem wJ]
    simp only[List.mem_append,List.mem_singleton,gF,or_false]
   rw[eN]at dK zH
   generalize M[m]=xm at *
   (try((repeat(revert hN;revert N;apply Pn.out));refine wk (tw @d34 (tw @dg0 (tw @d1 (tw @d8 (tw @d9 (tw @d10 (tw @d25 (tw @d26 (tw @d27 (tw @d32 (tw @d33 (tw @hm (tw @hi (tw @sR (tw @zE (tw @xI (tw @zH (tw @tl (tw @dK @eN.eq_1))))))))))))))))))) ?_;(repeat(refine Pn.mk ?_;intro N hN))))
   refine rz ?_ ?_ bt
   all_goals simp only[go_sem, ↓reduceIte,Nat.reduceEqDiff,Nat.reduceAdd,Nat.reduceSub,Nat.reduceLeDiff,reduceCtorEq,d34,dg0,d1,d8,d9,d10,d25,d26,d27,d32,d33,dK]
  ·have kD:m=M.length:=ab
   subst kD
   have sa:dm (cm cnt L i M.length) cnt=dm (cm cnt L (i+1) 0) cnt:=fY fun x hx=>by
    rw[wK,List.take_length]
    simp only[cm,List.take_zero,List.not_mem_nil,if_false]
    have h1:=nX x hx
    by_cases h2:bl L x<i
    ·rw[if_pos h2,if_pos ab]
    ·rw[if_neg h2]
     by_cases h3:x∈M
     ·rw[if_pos h3,if_pos (by have:=h1.1 h3;omega),h1.1 h3]
     ·rw[if_neg h3,if_neg fun h4=>h3 (h1.2 ab)]
   (try((repeat(revert hN;revert N;apply Pn.out));refine wk (tw @d34 (tw @dg0 (tw @d1 (tw @d8 (tw @d9 (tw @d10 (tw @d25 (tw @d26 (tw @d27 (tw @d32 (tw @d33 (tw @hm (tw @hi (tw @oZ @zE)))))))))))))) ?_;(repeat(refine Pn.mk ?_;intro N hN))))
   refine gp ?_ ?_ bt
   all_goals simp only[go_sem, ↓reduceIte,Nat.reduceEqDiff,Nat.reduceAdd,Nat.reduceSub,Nat.reduceLeDiff,reduceCtorEq,c27,cg0,c1,c8,c9,ub,uc,d34,dg0,d1,d8,d9,d10,d25,d26,d27,d32,d33,sa]
 have oj:i=(leads cnt L).length:=ab
 subst oj
 have F1:dm (cm cnt L (leads cnt L).length 0) cnt=dm (bl L) cnt:=fY fun x hx=>by rw[cm,if_pos (js hL hx)]
 rw[F1]at cg0
 have tl:=fv (bl L) cnt
 (try((repeat(revert hN;revert N;apply Pn.out));refine wk (tw @c27 (tw @cg0 (tw @c1 (tw @c8 (tw @c9 (tw @ub (tw @uc (tw @hi @oZ)))))))) ?_;(repeat(refine Pn.mk ?_;intro N hN))))
 refine aL (fun n env st=>∃j:Nat,n=(0)-j/\j<=(0)/\env 46=.int .i64 (j:Int)/\env 14=.bC) (0) ⟨0,ab,ab,sl (tw @c27 (tw @cg0 (tw @c1 (tw @c8 (tw @c9 (tw @ub @uc)))))),sl (tw @c27 (tw @cg0 (tw @c1 (tw @c8 (tw @c9 (tw @ub @uc))))))⟩ ?_
 rintro n_f env_f st_f ⟨j,rfl,fle,f46,f14⟩ ffr
 have f8:=ffr 8 (by kernel_rfl);have f44:=ffr 44 (by kernel_rfl);have f45:=ffr 45 (by kernel_rfl)
 simp only[go_sem, ↓reduceIte,Nat.reduceEqDiff,Nat.reduceAdd,Nat.reduceSub,Nat.reduceLeDiff,reduceCtorEq,c27,cg0,c1,c8,c9,ub,uc]at f8 f44 f45
 clear ffr
 have hj:¬(j:Int)<((0:Nat):Int):=ab
 (try((repeat(revert hN;revert N;apply Pn.out));refine wk (tw @f46 (tw @f14 (tw @f8 (tw @f44 (tw @f45 (tw @hj @oZ)))))) ?_;(repeat(refine Pn.mk ?_;intro N hN))))
 refine iJ (.inl rfl) (r1:=.int .i64 ((leads cnt L).length:Int)) (r2:=.bC) (sd @Nat.zero_add) (sd @Nat.zero_add) ?_
 simp only[eJ,bd,bE,dV,jO,MA,Option.map_some]
theorem wg (cnt:Nat) (uq:1<=cnt) (hn:cnt<=1048576) (bs:List PB) (hb:∀b∈bs,b.a<cnt/\b.b<cnt) (oY:bs.length<=1048576) (t:Int):ai Tryz.prog 153 [.int .i64 cnt,xd bs,.int .i64 t] (.ib [.int .i64 (leads cnt (dI (aD t bs))).length,xd (dc (dI (aD t bs)) bs)]):=by
 cases bs with
 |nil=>
  have h:=uf cnt uq hn t
  have MA:(leads cnt (dI (aD t []))).length=cnt:=by
   show(leads cnt id).length=cnt
   rw[leads,List.filter_eq_self.2 (fun a _=>by simp)];simp
  rw[MA]
  exact h
 |cons b r=>
  rw[xe (by simp)]
  exact ug cnt uq hn (b::r) hb (by simp) oY t
end Go.Proofs.YtihgaadadaekmaaGreatDoor.V

namespace Go.Proofs.YtihgaadadaekmaaGreatDoor.V
open Go.RowKit
attribute [local irreducible] dP wpOps gN Call
attribute [local go_sem] aI fI eE fW fV cv upd cq K.av cL AV.cells AV.cell rowOf rowsOf part ld rowAt bK bY dH eh ij bL da eA fZ eX dr eo cY cX dR dS bR bf cQ bQ cT cR ej ep ek cP bU cZ ei bP aM cV cz ig br cI bS aZ dD bp dJ AV.undef bB bH dX ef dO ea cF ez eC cu eu er cU cW List.getD_cons_zero List.getD_cons_succ List.getD_nil List.all_cons List.all_nil Bool.and_true Bool.true_and Bool.and_self Bool.not_true Bool.not_false Option.map_some Option.map_none Option.bind_some Option.bind_none List.length_cons List.length_nil List.take_succ_cons List.take_zero List.take_nil List.drop_succ_cons List.drop_zero List.drop_nil List.head?_cons List.map_cons List.map_nil List.getElem?_cons_zero List.getElem?_cons_succ List.cons_append List.nil_append List.append_nil List.length_map List.set_cons_zero List.set_cons_succ Nat.reduceMul eq_self Int.toNat_natCast Int.natCast_nonneg and_self true_and and_true decide_true decide_false Bool.false_eq_true Nat.zero_add Nat.add_zero List.contains_cons List.contains_nil Bool.or_false Bool.false_or beq_self_eq_true Nat.reduceBEq ne_eq not_true_eq_false not_false_eq_true Id.mk.injEq false_and and_false Nat.reduceLT Int.reduceLE Int.reduceLT Int.reduceToNat Int.reduceNeg Int.reduceAdd Nat.le_refl List.length_append beq_true beq_false Bool.not_eq_eq_eq_not or_false false_or dz ad aj aH bx cl aQ bj aW bh cN bz
attribute [local go_sem] CD
section
attribute [-go_sem] dH
theorem I3 (n:Nat) (hn:n<=1048576):ai Tryz.prog 200 [.int .u64 1,.int .u64 n] (.ib [.int .u64 0,.int .u64 n]):=by
 refine ai.body dN rfl fun hl n0=>?_
 clear hl
 have b1:(BitVec.ofInt 64 (n:Int)&&& BitVec.ofInt 64 4294967295).toNat=n:=by
  rw[BitVec.toNat_and]
  have e1:(BitVec.ofInt 64 (n:Int)).toNat=n:=by rw[BitVec.toNat_ofInt];omega
  have e2:(BitVec.ofInt 64 4294967295).toNat=2 ^ 32-1:=by decide
  rw[e1,e2]
  exact Nat.and_two_pow_sub_one_of_lt_two_pow ab
 have zn:IntKind.u64.wrap (n:Int)=n:=by rw[IntKind.wrap_u64];omega
 have i1:dH .and .u64 (n:Int) 4294967295=some (.int .u64 n):=by
  show some (AV.int .u64 (IntKind.u64.wrap (((BitVec.ofInt 64 (n:Int)&&& BitVec.ofInt 64 4294967295).toNat:Nat):Int)))= _
  rw[b1,zn]
 have i2:dH .and .u64 1 4294967295=some (.int .u64 1):=rfl
 have i3:dH .and .u64 0 4294967295=some (.int .u64 0):=rfl
 have i4:dH .mul .u64 1 (n:Int)=some (.int .u64 n):=by simp only[dH,Int.one_mul,zn]
 have i5:dH .mul .u64 0 (n:Int)=some (.int .u64 0):=by simp only[dH,Int.zero_mul];rfl
 have i6:dH .mul .u64 1 0=some (.int .u64 0):=rfl
 have i7:dH .mul .u64 0 0=some (.int .u64 0):=rfl
 have i8:dH .add .u64 0 0=some (.int .u64 0):=rfl
 have a3:Int.fdiv 1 (2 ^ min 32 64)=0:=by decide
 have a4:Int.fdiv (n:Int) (2 ^ min 32 64)=0:=by
  rw[Int.fdiv_eq_ediv_of_nonneg _ (by decide)]
  have h32:(2:Int) ^ min 32 64=4294967296:=by decide
  exact Int.ediv_eq_zero_of_lt ab ab
 have z1:Int.fdiv 0 (2 ^ min 32 64)=0:=by decide
 (try((repeat(revert hN;revert N;apply Pn.out));refine wk (tw @i1 (tw @i2 (tw @i3 (tw @i4 (tw @i5 (tw @i6 (tw @i7 (tw @i8 (tw @a3 (tw @a4 @z1)))))))))) ?_;(repeat(refine Pn.mk ?_;intro N hN))))
 refine iJ (.inl rfl) (r1:=.int .u64 0) (r2:=.int .u64 n) (sd @Nat.zero_add) (sd @Nat.zero_add) ?_
 simp only[eJ,bd,bE,dV,Option.map_some]
end
theorem Oo (n:Nat) (hn:n<=1048576):ai Tryz.prog 198 [.int .u64 1,.int .u64 n] (.ib [.int .u64 0,.int .u64 n]):=by
 refine ai.body dN rfl fun hl n0=>?_
 clear hl
 have h:=I3 n hn
 (repeat(first|((repeat(revert hN;revert N;apply Pn.out));refine wk @Nat.zero_add ?_;(repeat(refine Pn.mk ?_;intro N hN)))|((try apply Or.inl);refine⟨_,ai.x (h) (sd @Nat.zero_add),?_⟩;refine hN _ _ ?_;clear hN N)))
 refine iJ (.inl rfl) (r1:=.int .u64 0) (r2:=.int .u64 n) (sd @Nat.zero_add) (sd @Nat.zero_add) ?_
 simp only[eJ,bd,bE,dV,Option.map_some]
theorem GQ (cnt:Nat) (uq:1<=cnt) (hn:cnt<=1048576) (v:Int) (x:Id) (σ:aw) (hx:σ.get x=some ⟨true,1,[[.int .i64 v]]⟩) (QY:x.bV<σ.next):
  Call Tryz.prog 195 [.own x 0 1,.int .i64 cnt] σ fun r σ'=>∃o:Id,r=.own o 0 cnt/\σ'.get o=some ⟨true,1,List.replicate cnt [.int .i64 v]⟩/\σ.next<=o.bV/\o.bV<σ'.next/\∀i:Id,i.bV<σ.next->σ'.get i=σ.get i:=by
 refine eZ dN rfl fun hl=>?_
 clear hl
 have h:=Oo cnt hn
 have w1:IntKind.u64.wrap (cnt:Int)=cnt:=by rw[IntKind.wrap_u64];omega
 have w2:IntKind.i64.wrap (cnt:Int)=cnt:=Ho ab
 have w0:IntKind.u64.wrap ((1:Nat):Int)=1:=by decide
 have g1:¬(cnt:Int)<0:=ab
 have g2:¬(9223372036854775807:Int)<cnt:=ab
 have iS:(0:Int)<=(cnt:Int):=ab
 have oi:(cnt:Int)<=((16777216:Nat):Int):=ab
 have ML:=eD QY
 have mz:(List.replicate cnt [AV.int .i64 0]).length=cnt:=List.length_replicate
 have m1:min 1 cnt=1:=ab
 (repeat(first|((repeat(revert hN;revert N;apply Pn.out));refine wk (tw @w0 (tw @w1 (tw @w2 (tw @g1 (tw @g2 (tw @iS (tw @oi (tw @Int.le_refl (tw @Nat.le_refl (tw @hx (tw @ML (tw @mz @m1)))))))))))) ?_;(repeat(refine Pn.mk ?_;intro N hN)))|((try apply Or.inl);refine⟨_,ai.x (h) (sd (tw @w0 (tw @w1 (tw @w2 (tw @g1 (tw @g2 (tw @iS (tw @oi (tw @Int.le_refl (tw @Nat.le_refl (tw @hx (tw @ML (tw @mz @m1))))))))))))),?_⟩;refine hN _ _ ?_;clear hN N)))
 refine aL (fun m env st=>∃k:Nat,m=cnt-k/\1<=k/\k<=cnt/\env 8=.int .i64 (k:Int)/\st.get ⟨195006002,σ.next+1+1+1+1⟩=some ⟨true,1,List.replicate k [.int .i64 v]++List.replicate (cnt-k) [.int .i64 0]⟩/\σ.next+4<st.next/\∀i:Id,i.bV<σ.next->st.get i=σ.get i) (cnt-1) ⟨1,rfl,Nat.le_refl _,uq,by(simp only[go_sem, ↓reduceIte,Nat.reduceEqDiff,Nat.reduceAdd,Nat.reduceSub,Nat.reduceLeDiff,reduceCtorEq,m1])<;>rfl,?_,bt,fun i hi=>?_⟩ ?_
 ·simp only[go_sem, ↓reduceIte,Nat.reduceEqDiff,Nat.reduceAdd,Nat.reduceSub,Nat.reduceLeDiff,reduceCtorEq]
  rw[List.drop_replicate];rfl
 ·have AM:=eD hi
  simp only[go_sem, ↓reduceIte,Nat.reduceEqDiff,Nat.reduceAdd,Nat.reduceSub,Nat.reduceLeDiff,reduceCtorEq,AM]
 rintro m env_b st_b ⟨k,rfl,rj,sS,b8,bg,bn,bfr⟩ bkp
 have b7:=bkp 7 (by kernel_rfl)
 simp only[go_sem, ↓reduceIte,Nat.reduceEqDiff,Nat.reduceAdd,Nat.reduceSub,Nat.reduceLeDiff,reduceCtorEq]at b7
 clear bkp
 have IC:(List.replicate k [AV.int .i64 v]++List.replicate (cnt-k) [AV.int .i64 0]).length=cnt:=by simp;omega
 by_cases hk:(k:Int)<(cnt:Int)
 ·have eY:k<cnt:=ab
  have tV:(k:Int)<=(cnt:Int):=ab
  have hw:IntKind.i64.wrap ((k:Int)+((min k (cnt-k):Nat):Int))=((k+min k (cnt-k):Nat):Int):=by rw[aY ab];omega
  have oJ:List.take k (List.replicate k [AV.int .i64 v]++List.replicate (cnt-k) [AV.int .i64 0])=List.replicate k [AV.int .i64 v]:=List.take_left' (by simp)
  have di:(List.replicate k [AV.int .i64 v]).all (fun c=>c.length==1&&c.all AV.cell)=true:=List.all_eq_true.2 fun c hc=>by rw[List.eq_of_mem_replicate hc];rfl
  have hlr:(List.replicate k [AV.int .i64 v]).length=k:=List.length_replicate
  have Du:k+(cnt-k)=cnt:=ab
  have sW:List.replicate k [AV.int .i64 v]++List.take (min k (cnt-k)) (List.replicate k [AV.int .i64 v])++List.drop (k+min k (cnt-k)) (List.replicate k [AV.int .i64 v]++List.replicate (cnt-k) [AV.int .i64 0])=List.replicate (k+min k (cnt-k)) [AV.int .i64 v]++List.replicate (cnt-(k+min k (cnt-k))) [AV.int .i64 0]:=by
   rw[List.take_replicate,List.drop_append,List.drop_of_length_le (by simp),List.nil_append,hlr,List.drop_replicate,List.replicate_append_replicate]
   congr 2
   ·omega
   ·omega
  (try((repeat(revert hN;revert N;apply Pn.out));refine wk (tw @b7 (tw @b8 (tw @bg (tw @IC (tw @hk (tw @tV (tw @sS (tw @hw (tw @eY (tw @Nat.sub_zero (tw @oJ (tw @di (tw @hlr (tw @Du (tw @Nat.le_refl @sW))))))))))))))) ?_;(repeat(refine Pn.mk ?_;intro N hN))))
  refine⟨_,?_,k+min k (cnt-k),rfl,ab,ab,sd @hw,sd @sW,bt,fun i hi=>?_⟩
  ·omega
  ·have AM:=eD hi
   have:=bfr i hi
   simp only[go_sem, ↓reduceIte,Nat.reduceEqDiff,Nat.reduceAdd,Nat.reduceSub,Nat.reduceLeDiff,reduceCtorEq,AM,this]
 ·have ki:k=cnt:=ab
  subst ki
  (try((repeat(revert hN;revert N;apply Pn.out));refine wk (tw @b7 (tw @b8 (tw @bg (tw @IC @hk)))) ?_;(repeat(refine Pn.mk ?_;intro N hN))))
  refine gn (.inl rfl) (vs:=[.own ⟨195006002,σ.next+1+1+1+1⟩ 0 k]) (sd @Nat.zero_add) ⟨⟨195006002,σ.next+1+1+1+1⟩,rfl,by simp only[go_sem, ↓reduceIte,Nat.reduceEqDiff,Nat.reduceAdd,Nat.reduceSub,Nat.reduceLeDiff,reduceCtorEq,bg];simp,bt,bt,fun i hi=>bfr i hi⟩
end Go.Proofs.YtihgaadadaekmaaGreatDoor.V

namespace Go.Proofs.YtihgaadadaekmaaGreatDoor.V
open Go.RowKit
attribute [local irreducible] dP wpOps gN Call
attribute [local go_sem] aI fI eE fW fV cv upd cq K.av cL AV.cells AV.cell rowOf rowsOf part ld rowAt bK bY dH eh ij bL da eA fZ eX dr eo cY cX dR dS bR bf cQ bQ cT cR ej ep ek cP bU cZ ei bP aM cV cz ig br cI bS aZ dD bp dJ AV.undef bB bH dX ef dO ea cF ez eC cu eu er cU cW List.getD_cons_zero List.getD_cons_succ List.getD_nil List.all_cons List.all_nil Bool.and_true Bool.true_and Bool.and_self Bool.not_true Bool.not_false Option.map_some Option.map_none Option.bind_some Option.bind_none List.length_cons List.length_nil List.take_succ_cons List.take_zero List.take_nil List.drop_succ_cons List.drop_zero List.drop_nil List.head?_cons List.map_cons List.map_nil List.getElem?_cons_zero List.getElem?_cons_succ List.cons_append List.nil_append List.append_nil List.length_map List.set_cons_zero List.set_cons_succ Nat.reduceMul eq_self Int.toNat_natCast Int.natCast_nonneg and_self true_and and_true decide_true decide_false Bool.false_eq_true Nat.zero_add Nat.add_zero List.contains_cons List.contains_nil Bool.or_false Bool.false_or beq_self_eq_true Nat.reduceBEq ne_eq not_true_eq_false not_false_eq_true Id.mk.injEq false_and and_false Nat.reduceLT Int.reduceLE Int.reduceLT Int.reduceToNat Int.reduceNeg Int.reduceAdd Nat.le_refl List.length_append beq_true beq_false Bool.not_eq_eq_eq_not or_false false_or dz ad aj aH bx cl aQ bj aW bh cN bz
def j9 (R:Nat->Id) (n k:Nat):List (List AV):=(List.range k).map fun i=>[.own (R i) 0 n]
theorem jv (R:Nat->Id) (n k:Nat):(j9 R n k).length=k:=by simp[j9]
theorem pW {R:Nat->Id} {n k i:Nat} (h:i<k):(j9 R n k)[i]? =some [.own (R i) 0 n]:=by simp[j9,h]
theorem qI (R:Nat->Id) (n k:Nat):j9 R n (k+1)=j9 R n k++[[.own (R k) 0 n]]:=by simp[j9,List.range_succ]
def uD (c:Nat->Nat->Int) (n:Nat):List (List AV):=(List.range n).map fun i=>[.sl (dw (c i) n)]
theorem zr {c:Nat->Nat->Int} {n i:Nat} (h:i<n):(uD c n)[i]? =some [.sl (dw (c i) n)]:=by simp[uD,h]
theorem tJ (c:Nat->Nat->Int) (n:Nat):(uD c n).length=n:=by simp[uD]
structure CO (X o1 o2:Id) (R1 R2:Nat->Id) (n nb:Nat):Prop where
 sx:X.site=174001001
 s1:o1.site=174004008
 s2:o2.site=174005008
 Pt:∀i,i<n->(R1 i).site=174004006
 Kc:∀i,i<n->(R2 i).site=174005006
 i1:∀i j,i<n->j<n->R1 i=R1 j->i=j
 i2:∀i j,i<n->j<n->R2 i=R2 j->i=j
 vx:X.bV<nb
 v1:o1.bV<nb
 v2:o2.bV<nb
 Q6:∀i,i<n->(R1 i).bV<nb
 OC:∀i,i<n->(R2 i).bV<nb
structure mH (g:Rows) (X o1 o2:Id) (R1 R2:Nat->Id) (n:Nat) (c f:Nat->Nat->Int):Prop where
 x:g X=some ⟨true,2,[[.own o1 0 n,.own o2 0 n]]⟩
 t1:g o1=some ⟨true,1,j9 R1 n n⟩
 t2:g o2=some ⟨true,1,j9 R2 n n⟩
 r1:∀i,i<n->g (R1 i)=some ⟨true,1,dw (c i) n⟩
 r2:∀i,i<n->g (R2 i)=some ⟨true,1,dw (f i) n⟩
theorem mP {f:Nat->Nat->Int} {a b:Nat} {d:Int} {n:Nat} (hb:b<n):(dw (f a) n).set b (az (f a b+d))=dw (bump f a b d a) n:=kc hb (by simp[bump]) fun i _ hi=>by simp[bump,hi]
theorem jn {f:Nat->Nat->Int} {a b i:Nat} {d:Int} (h:i≠a):bump f a b d i=f i:=by funext v;simp[bump,h]
theorem mH.add {g g':Rows} {X o1 o2:Id} {R1 R2:Nat->Id} {n nb:Nat} {c f:Nat->Nat->Int} (I:CO X o1 o2 R1 R2 n nb) (h:mH g X o1 o2 R1 R2 n c f) (b:PB) (ha:b.a<n) (hb:b.b<n) (hA:b.a≠b.b->g' (R1 b.a)=some ⟨true,1,dw (bump c b.a b.b b.s b.a) n⟩) (hB:g' (R1 b.b)=some ⟨true,1,dw (mh c b b.b) n⟩) (hf:∀i:Id,i.bV<nb->(i=R1 b.a)=False->(i=R1 b.b)=False->g' i=g i):mH g' X o1 o2 R1 R2 n (mh c b) f:=by
 have ne:∀{i:Id} {s:Nat},i.site=s->(s==174004006)=false->∀a,a<n->(i=R1 a)=False:=fun {i s} hi hs a ha=>by
  simp only[eq_iff_iff,iff_false]
  rintro rfl
  rw[I.Pt a ha]at hi
  subst hi
  simp at hs
 refine⟨(hf _ I.vx (ne I.sx (by decide) _ ha) (ne I.sx (by decide) _ hb)).trans h.x,(hf _ I.v1 (ne I.s1 (by decide) _ ha) (ne I.s1 (by decide) _ hb)).trans h.t1,(hf _ I.v2 (ne I.s2 (by decide) _ ha) (ne I.s2 (by decide) _ hb)).trans h.t2,fun i hi=>?_,fun i hi=>(hf _ (I.OC i hi) (ne (I.Kc i hi) (by decide) _ ha) (ne (I.Kc i hi) (by decide) _ hb)).trans (h.r2 i hi)⟩
 by_cases HB:i=b.b
 ·subst HB;exact hB
 ·by_cases K8:i=b.a
  ·subst K8
   rw[hA HB,mh,jn HB]
  ·rw[mh,jn HB,jn K8,hf _ (I.Q6 i hi) (by simp only[eq_iff_iff,iff_false];exact fun he=>K8 (I.i1 i _ hi ha he)) (by simp only[eq_iff_iff,iff_false];exact fun he=>HB (I.i1 i _ hi hb he))]
   exact h.r1 i hi
def kA (n:Nat) (c f:Nat->Nat->Int):List AV:=[.sl (uD c n),.sl (uD f n)]
theorem CC {g:Rows} {R:Nat->Id} {n k:Nat} {c:Nat->Nat->Int} (h:∀i,i<k->g (R i)=some ⟨true,1,dw (c i) n⟩) (m:Nat):dq (dz g) (m+3) (j9 R n k)=some ((List.range k).map fun i=>[.sl (dw (c i) n)]):=by
 induction k with
 |zero=>rw[show j9 R n 0=[]from rfl,dq];rfl
 |succ k ih=>
  have e1:V.fz (dz g) (m+3) (.own (R k) 0 n)=some (.sl (dw (c k) n)):=by
   rw[fP];simp only[dz,h k ab,Option.map_some,if_true]
   rw[if_pos (by rw[dk];omega),List.drop_zero,List.take_of_length_le (by rw[dk];omega),xj];rfl
  have app:∀(xs ys:List (List AV)) (Pv OO:List (List AV)),dq (dz g) (m+3) xs=some Pv->dq (dz g) (m+3) ys=some OO->dq (dz g) (m+3) (xs++ys)=some (Pv++OO):=by
   intro xs
   induction xs with
   |nil=>intro ys Pv OO h1 h2;rw[dq]at h1;cases h1;exact h2
   |cons a xs ih2=>
    intro ys Pv OO h1 h2
    rw[dq]at h1
    rw[List.cons_append,dq]
    cases ha:bW (dz g) (m+3) a with
    |none=>simp[ha]at h1
    |some a'=>
     cases hb:dq (dz g) (m+3) xs with
     |none=>simp[ha,hb]at h1
     |some b'=>
      simp[ha,hb]at h1
      subst h1
      rw[ih2 ys b' OO hb h2];rfl
  rw[qI,List.range_succ,List.map_append]
  refine app _ _ _ _ (ih fun i hi=>h i ab) ?_
  rw[dq,ad,aj,e1,dq];rfl
theorem mH.fz {g:Rows} {X o1 o2:Id} {R1 R2:Nat->Id} {n:Nat} {c f:Nat->Nat->Int} (h:mH g X o1 o2 R1 R2 n c f):V.fz (dz g) 6 (.ptr X 0 0)=some (.cK (kA n c f)):=by
 refine wv (sz:=2) (rows:=[[.own o1 0 n,.own o2 0 n]]) (by simp[dz,h.x]) rfl ?_
 have e1:V.fz (dz g) 5 (.own o1 0 n)=some (.sl (uD c n)):=by
  rw[fP];simp only[dz,h.t1,Option.map_some,if_true]
  rw[if_pos (by rw[jv];omega),List.drop_zero,List.take_of_length_le (by rw[jv];omega)]
  rw[show dq _ 4 _=some (uD c n)from CC h.r1 1];rfl
 have e2:V.fz (dz g) 5 (.own o2 0 n)=some (.sl (uD f n)):=by
  rw[fP];simp only[dz,h.t2,Option.map_some,if_true]
  rw[if_pos (by rw[jv];omega),List.drop_zero,List.take_of_length_le (by rw[jv];omega)]
  rw[show dq _ 4 _=some (uD f n)from CC h.r2 1];rfl
 simp only[List.drop_zero,ad,aj,e1,e2,kA,Option.map_some]
theorem KL (n:Nat) (c f:Nat->Nat->Int) (u v:Nat) (hu:u<n) (hv:v<n):ai Tryz.prog 196 [.cK (kA n c f),.int .i64 u,.int .i64 v] (.bool (decide (f u v<c u v))):=by
 refine ai.body dN rfl fun hl n0=>?_
 clear hl
 have h1:=zr (c:=c) hu
 have h2:=zr (c:=f) hu
 have h3:=du (f:=c u) hv
 have h4:=du (f:=f u) hv
 have hui:(u:Int)<(n:Int):=ab
 have AM:(v:Int)<(n:Int):=ab
 have l1:=tJ c n
 have l2:=tJ f n
 have l3:=dk (c u) n
 have l4:=dk (f u) n
 rw[az]at h3 h4
 (try((repeat(revert hN;revert N;apply Pn.out));refine wk (tw @kA.eq_1 (tw @h1 (tw @h2 (tw @h3 (tw @h4 (tw @hui (tw @AM (tw @l1 (tw @l2 (tw @l3 @l4)))))))))) ?_;(repeat(refine Pn.mk ?_;intro N hN))))
 exact aJ (b:=decide (f u v<c u v)) (.inl rfl) (sd @Nat.zero_add) rfl
theorem Et (n:Nat):List.replicate n [AV.int .i64 0]=dw (fun _=>0) n:=by
 refine List.ext_getElem? fun i=>?_
 by_cases h:i<n
 ·rw[du h,List.getElem?_replicate,if_pos h];rfl
 ·rw[List.getElem?_eq_none (by simp;omega),List.getElem?_eq_none (by rw[dk];omega)]
theorem xg {i j:Id} {s t:Nat} (hi:i.site=s) (hj:j.site=t) (h:(s==t)=false):(i=j)=False/\(j=i)=False:=by
 constructor<;>(simp only[eq_iff_iff,iff_false];rintro rfl;rw[hi]at hj;subst hj;simp at h)
theorem ze (cnt:Nat) (uq:1<=cnt) (hn:cnt<=1048576) (bs:List PB) (hb:∀b∈bs,b.a<cnt/\b.b<cnt) (dQ:∀b∈bs,0<=b.s/\b.s<=4) (oY:bs.length<=1048576) (σ:aw):
  Call Tryz.prog 174 [.int .i64 cnt,.sl (bs.map au)] σ fun r σ'=>∃X o1 o2 R1 R2,r=.ptr X 0 0/\CO X o1 o2 R1 R2 cnt σ'.next/\σ.next<=σ'.next/\mH σ'.get X o1 o2 R1 R2 cnt (j6 bs) (fun _ _=>0)/\∀i:Id,i.bV<σ.next->σ'.get i=σ.get i:=by
 refine eZ dN rfl fun hl=>?_
 clear hl
 (try((repeat(revert hN;revert N;apply Pn.out));refine wk @Nat.zero_add ?_;(repeat(refine Pn.mk ?_;intro N hN))))
 obtain⟨X,hX⟩:∃X:Id,X=⟨174001001,σ.next+1⟩:=⟨_,rfl⟩
 obtain⟨R1,Nv⟩:∃R:Nat->Id,R=fun k=>⟨174004006,σ.next+3+4*k+1⟩:=⟨_,rfl⟩
 obtain⟨R2,K0⟩:∃R:Nat->Id,R=fun k=>⟨174005006,σ.next+3+4*k+2⟩:=⟨_,rfl⟩
 have sX:X.site=174001001:=by rw[hX]
 have vX:X.bV=σ.next+1:=by rw[hX]
 have s1:∀k,(R1 k).site=174004006:=fun k=>by rw[Nv]
 have s2:∀k,(R2 k).site=174005006:=fun k=>by rw[K0]
 have v1:∀k,(R1 k).bV=σ.next+3+4*k+1:=fun k=>by rw[Nv]
 have v2:∀k,(R2 k).bV=σ.next+3+4*k+2:=fun k=>by rw[K0]
 have iS:(0:Int)<=(cnt:Int):=ab
 have oi:(cnt:Int)<=((16777216:Nat):Int):=ab
 have hz:=Et cnt
 have t1:j9 R1 cnt 0=[]:=rfl
 have t2:j9 R2 cnt 0=[]:=rfl
 refine aL (fun n env st=>∃k:Nat,n=(cnt)-k/\k<=(cnt)/\env 11=.int .i64 (k:Int)/\env 5=(.ptr X 0 0)/\(st.next=σ.next+3+4*k/\(∀i:Id,i.bV<σ.next->st.get i=σ.get i)/\∀j,j<k->st.get (R1 j)=some ⟨true,1,dw (fun _=>0) cnt⟩/\st.get (R2 j)=some ⟨true,1,dw (fun _=>0) cnt⟩)/\((k=0/\st.get X=some ⟨true,2,[[.bC,.bC]]⟩)∨∃o1 o2:Id,o1.site=174004008/\o2.site=174005008/\o1.bV<st.next/\o2.bV<st.next/\σ.next<=o1.bV/\σ.next<=o2.bV/\st.get X=some ⟨true,2,[[.own o1 0 k,.own o2 0 k]]⟩/\st.get o1=some ⟨true,1,j9 R1 cnt k⟩/\st.get o2=some ⟨true,1,j9 R2 cnt k⟩)) (cnt) ⟨0,ab,ab,sl @hX,sl @hX,⟨rfl,fun i hi=>by(have AM:=eD hi);simp only[go_sem, ↓reduceIte,Nat.reduceEqDiff,Nat.reduceAdd,Nat.reduceSub,Nat.reduceLeDiff,reduceCtorEq,AM],fun j hj=>absurd hj (Nat.not_lt_zero j)⟩,.inl ⟨rfl,by rw[hX];simp only[go_sem, ↓reduceIte,Nat.reduceEqDiff,Nat.reduceAdd,Nat.reduceSub,Nat.reduceLeDiff,reduceCtorEq]⟩⟩ ?_
 rintro n_a env_a st_a ⟨k,rfl,ale,a11,a5,lx,aI1⟩ dC
 have a0:=dC 0 (by kernel_rfl);have a1:=dC 1 (by kernel_rfl);have EG:=dC 10 (by kernel_rfl)
 simp only[go_sem, ↓reduceIte,Nat.reduceEqDiff,Nat.reduceAdd,Nat.reduceSub,Nat.reduceLeDiff,reduceCtorEq,hX]at a0 a1 EG
 clear dC
 obtain⟨anx,dC,aR⟩:=lx
 have wX:=eD (i:=X) (n:=st_a.next) ab
 by_cases hk:(k:Int)<(cnt:Int)
 ·have bZ:∀{e:Env} {gg:Rows} {nx:Nat},(e 11=.int .i64 (IntKind.i64.wrap ((k:Int)+1)))->(e 5=(.ptr X 0 0))->(nx=σ.next+3+4*(k+1)/\(∀i:Id,i.bV<σ.next->gg i=σ.get i)/\∀j,j<(k+1)->gg (R1 j)=some ⟨true,1,dw (fun _=>0) cnt⟩/\gg (R2 j)=some ⟨true,1,dw (fun _=>0) cnt⟩)->(((k+1)=0/\gg X=some ⟨true,2,[[.bC,.bC]]⟩)∨∃o1 o2:Id,o1.site=174004008/\o2.site=174005008/\o1.bV<nx/\o2.bV<nx/\σ.next<=o1.bV/\σ.next<=o2.bV/\gg X=some ⟨true,2,[[.own o1 0 (k+1),.own o2 0 (k+1)]]⟩/\gg o1=some ⟨true,1,j9 R1 cnt (k+1)⟩/\gg o2=some ⟨true,1,j9 R2 cnt (k+1)⟩)->∃m0,m0<(cnt)-k/\∃k:Nat,m0=(cnt)-k/\k<=(cnt)/\e 11=.int .i64 (k:Int)/\e 5=(.ptr X 0 0)/\(nx=σ.next+3+4*k/\(∀i:Id,i.bV<σ.next->gg i=σ.get i)/\∀j,j<k->gg (R1 j)=some ⟨true,1,dw (fun _=>0) cnt⟩/\gg (R2 j)=some ⟨true,1,dw (fun _=>0) cnt⟩)/\((k=0/\gg X=some ⟨true,2,[[.bC,.bC]]⟩)∨∃o1 o2:Id,o1.site=174004008/\o2.site=174005008/\o1.bV<nx/\o2.bV<nx/\σ.next<=o1.bV/\σ.next<=o2.bV/\gg X=some ⟨true,2,[[.own o1 0 k,.own o2 0 k]]⟩/\gg o1=some ⟨true,1,j9 R1 cnt k⟩/\gg o2=some ⟨true,1,j9 R2 cnt k⟩):=fun x1 x2 x3 x4=>⟨_,ab,k+1,rfl,ab,(by rw[x1,ax ab]),x2,x3,x4⟩
  have eY:k<cnt:=ab
  have rj:R1 k=⟨174004006,st_a.next+1⟩:=by rw[Nv,anx]
  have sS:R2 k=⟨174005006,st_a.next+1+1⟩:=by rw[K0,anx]
  have J1:j9 R1 cnt (k+1)=j9 R1 cnt k++[[.own ⟨174004006,st_a.next+1⟩ 0 cnt]]:=by rw[qI,rj]
  have MH:j9 R2 cnt (k+1)=j9 R2 cnt k++[[.own ⟨174005006,st_a.next+1+1⟩ 0 cnt]]:=by rw[qI,sS]
  rcases aI1 with⟨rfl,M3⟩|⟨o1,o2,so1,so2,vo1,vo2,vn1,vn2,M3,ag1,ag2⟩
  ·(try((repeat(revert hN;revert N;apply Pn.out));refine wk (tw @a11 (tw @a5 (tw @a0 (tw @a1 (tw @EG (tw @hk (tw @wX (tw @M3 (tw @iS (tw @oi (tw @Int.le_refl @hz))))))))))) ?_;(repeat(refine Pn.mk ?_;intro N hN))))
   refine bZ ?_ ?_ (by
    (try dsimp only)
    refine⟨ab,fun i hi=>?_,fun j hj=>?_⟩
    ·have q1:=eD (i:=i) (n:=st_a.next) ab
     have q2:=dj (a:=i) (b:=X) ab
     have:=dC i hi
     simp only[go_sem, ↓reduceIte,Nat.reduceEqDiff,Nat.reduceAdd,Nat.reduceSub,Nat.reduceLeDiff,reduceCtorEq,q1,q2,this]
    ·by_cases u6:j=0
     ·subst u6
      rw[rj,sS]
      have q1:=fS sX (b:=174004006) (v:=st_a.next+1) (by decide)
      have q2:=fS sX (b:=174005006) (v:=st_a.next+1+1) (by decide)
      simp only[go_sem, ↓reduceIte,Nat.reduceEqDiff,Nat.reduceAdd,Nat.reduceSub,Nat.reduceLeDiff,reduceCtorEq,q1,q2]
     ·obtain⟨r1,r2⟩:=aR j ab
      have q1:=eD (i:=R1 j) (n:=st_a.next) (by rw[v1];omega)
      have q2:=eD (i:=R2 j) (n:=st_a.next) (by rw[v2];omega)
      have q3:=xg (s1 j) sX (by decide)
      have q4:=xg (s2 j) sX (by decide)
      constructor
      ·simp only[go_sem, ↓reduceIte,Nat.reduceEqDiff,Nat.reduceAdd,Nat.reduceSub,Nat.reduceLeDiff,reduceCtorEq,q1,q3,r1]
      ·simp only[go_sem, ↓reduceIte,Nat.reduceEqDiff,Nat.reduceAdd,Nat.reduceSub,Nat.reduceLeDiff,reduceCtorEq,q2,q4,r2]) (.inr ⟨⟨174004008,st_a.next+1⟩,⟨174005008,st_a.next+1+1⟩,rfl,rfl,bt,bt,bt,bt,sd @wX,by rw[J1,t1];simp only[go_sem, ↓reduceIte,Nat.reduceEqDiff,Nat.reduceAdd,Nat.reduceSub,Nat.reduceLeDiff,reduceCtorEq,wX,List.nil_append],by rw[MH,t2];simp only[go_sem, ↓reduceIte,Nat.reduceEqDiff,Nat.reduceAdd,Nat.reduceSub,Nat.reduceLeDiff,reduceCtorEq,wX,List.nil_append]⟩)
   all_goals simp only[go_sem, ↓reduceIte,Nat.reduceEqDiff,Nat.reduceAdd,Nat.reduceSub,Nat.reduceLeDiff,reduceCtorEq,a11,a5,a0,a1,EG,wX]
  ·have l1:=jv R1 cnt k
   have l2:=jv R2 cnt k
   have e1:k+1<=16777216:=ab
   have w1:=eD vo1
   have w2:=eD vo2
   have x1:=xg sX so1 (by decide)
   have x2:=xg sX so2 (by decide)
   have x3:=xg so1 so2 (by decide)
   (try((repeat(revert hN;revert N;apply Pn.out));refine wk (tw @a11 (tw @a5 (tw @a0 (tw @a1 (tw @EG (tw @hk (tw @wX (tw @M3 (tw @ag1 (tw @ag2 (tw @l1 (tw @l2 (tw @e1 (tw @w1 (tw @w2 (tw @x1 (tw @x2 (tw @x3 (tw @iS (tw @oi (tw @Int.le_refl @hz))))))))))))))))))))) ?_;(repeat(refine Pn.mk ?_;intro N hN))))
   refine bZ ?_ ?_ (by
    (try dsimp only)
    refine⟨ab,fun i hi=>?_,fun j hj=>?_⟩
    ·have q1:=eD (i:=i) (n:=st_a.next) ab
     have q2:=dj (a:=i) (b:=X) ab
     have q3:=dj (a:=i) (b:=o1) ab
     have q4:=dj (a:=i) (b:=o2) ab
     have:=dC i hi
     simp only[go_sem, ↓reduceIte,Nat.reduceEqDiff,Nat.reduceAdd,Nat.reduceSub,Nat.reduceLeDiff,reduceCtorEq,q1,q2,this,q3,q4]
    ·by_cases u6:j=k
     ·subst u6
      rw[rj,sS]
      have q1:=fS sX (b:=174004006) (v:=st_a.next+1) (by decide)
      have q2:=fS sX (b:=174005006) (v:=st_a.next+1+1) (by decide)
      simp only[go_sem, ↓reduceIte,Nat.reduceEqDiff,Nat.reduceAdd,Nat.reduceSub,Nat.reduceLeDiff,reduceCtorEq,q1,q2,w1,w2]
     ·obtain⟨r1,r2⟩:=aR j ab
      have q1:=eD (i:=R1 j) (n:=st_a.next) (by rw[v1];omega)
      have q2:=eD (i:=R2 j) (n:=st_a.next) (by rw[v2];omega)
      have q3:=xg (s1 j) sX (by decide)
      have q4:=xg (s2 j) sX (by decide)
      have q5:=xg (s1 j) so1 (by decide)
      have q6:=xg (s1 j) so2 (by decide)
      have q7:=xg (s2 j) so1 (by decide)
      have q8:=xg (s2 j) so2 (by decide)
      constructor
      ·simp only[go_sem, ↓reduceIte,Nat.reduceEqDiff,Nat.reduceAdd,Nat.reduceSub,Nat.reduceLeDiff,reduceCtorEq,q1,q3,r1,q5,q6]
      ·simp only[go_sem, ↓reduceIte,Nat.reduceEqDiff,Nat.reduceAdd,Nat.reduceSub,Nat.reduceLeDiff,reduceCtorEq,q2,q4,r2,q7,q8]) (.inr ⟨⟨174004008,st_a.next+1⟩,⟨174005008,st_a.next+1+1⟩,rfl,rfl,bt,bt,bt,bt,sd @wX,by rw[J1];simp only[go_sem, ↓reduceIte,Nat.reduceEqDiff,Nat.reduceAdd,Nat.reduceSub,Nat.reduceLeDiff,reduceCtorEq,wX,w1,w2],by rw[MH];simp only[go_sem, ↓reduceIte,Nat.reduceEqDiff,Nat.reduceAdd,Nat.reduceSub,Nat.reduceLeDiff,reduceCtorEq,wX,w1,w2]⟩)
   all_goals simp only[go_sem, ↓reduceIte,Nat.reduceEqDiff,Nat.reduceAdd,Nat.reduceSub,Nat.reduceLeDiff,reduceCtorEq,a11,a5,a0,a1,EG,wX,w1,w2,x1,x2,x3]
 have ki:cnt=k:=ab
 subst ki
 rcases aI1 with⟨h0,_⟩|⟨o1,o2,so1,so2,vo1,vo2,vn1,vn2,M3,ag1,ag2⟩
 ·omega
 (try((repeat(revert hN;revert N;apply Pn.out));refine wk (tw @a11 (tw @a5 (tw @a0 (tw @a1 (tw @EG @hk))))) ?_;(repeat(refine Pn.mk ?_;intro N hN))))
 have I:CO X o1 o2 R1 R2 cnt st_a.next:=⟨sX,so1,so2,fun i _=>s1 i,fun i _=>s2 i,fun i j _ _ h=>by have:=v1 i;rw[h,v1]at this;omega,fun i j _ _ h=>by have:=v2 i;rw[h,v2]at this;omega,ab,vo1,vo2,fun i hi=>by rw[v1];omega,fun i hi=>by rw[v2];omega⟩
 refine aL (fun n env st=>∃i:Nat,n=(bs.length)-i/\i<=(bs.length)/\env 38=.int .i64 (i:Int)/\(st_a.next<=st.next/\(∀x:Id,x.bV<σ.next->st.get x=σ.get x)/\mH st.get X o1 o2 R1 R2 cnt (j6 (bs.take i)) (fun _ _=>0))) (bs.length) ⟨0,ab,ab,sl (tw @a11 (tw @a5 (tw @a0 (tw @a1 @EG)))),⟨bt,dC,M3,ag1,ag2,fun j hj=>(aR j hj).1,fun j hj=>(aR j hj).2⟩⟩ ?_
 rintro n_b env_b st_b ⟨i,rfl,ble,b38,bI0⟩ bfr
 have b0:=bfr 0 (by kernel_rfl);have b1:=bfr 1 (by kernel_rfl);have b5:=bfr 5 (by kernel_rfl);have Mo:=bfr 36 (by kernel_rfl);have Mp:=bfr 37 (by kernel_rfl)
 simp only[go_sem, ↓reduceIte,Nat.reduceEqDiff,Nat.reduceAdd,Nat.reduceSub,Nat.reduceLeDiff,reduceCtorEq,a11,a5,a0,a1,EG]at b0 b1 b5 Mo Mp
 clear bfr
 obtain⟨bn,Kr,bM⟩:=bI0
 by_cases hi:(i:Int)<(bs.length:Int)
 ·have iF:∀{e:Env} {gg:Rows} {nx:Nat},(e 38=.int .i64 (IntKind.i64.wrap ((i:Int)+1)))->(st_a.next<=nx/\(∀x:Id,x.bV<σ.next->gg x=σ.get x)/\mH gg X o1 o2 R1 R2 cnt (j6 (bs.take (i+1))) (fun _ _=>0))->∃m0,m0<(bs.length)-i/\∃i:Nat,m0=(bs.length)-i/\i<=(bs.length)/\e 38=.int .i64 (i:Int)/\(st_a.next<=nx/\(∀x:Id,x.bV<σ.next->gg x=σ.get x)/\mH gg X o1 o2 R1 R2 cnt (j6 (bs.take i)) (fun _ _=>0)):=fun x1 x2=>⟨_,ab,i+1,rfl,ab,(by rw[x1,ax ab]),x2⟩
  have fy:i<bs.length:=ab
  have nH:(bs.map au)[i]? =some (au bs[i]):=by simp[fy]
  have fc:=hb _ (List.getElem_mem fy)
  have hsi:=dQ _ (List.getElem_mem fy)
  have qt:j6 (bs.take (i+1))=mh (j6 (bs.take i)) bs[i]:=by rw[List.take_succ_eq_append_getElem fy,Bn]
  have kK:=w8 (bs.take i) (fun _ _=>0) (fun b hb=>(dQ b (List.mem_of_mem_take hb)).1) (fun _ _=>Int.le_refl _)
  have hle:=room_le (bs.take i) (fun _ _=>0) 0 (fun b hb=>(dQ b (List.mem_of_mem_take hb)).2) (fun _ _=>Int.le_refl _) (Int.le_refl _)
  rw[List.length_take]at hle
  have fb:(bs.take i).foldl mh (fun _ _=>0)=j6 (bs.take i):=rfl
  rw[fb]at kK hle
  generalize j6 (bs.take i)=c at *
  generalize bs[i]=b at *
  obtain⟨ha,qp⟩:=fc
  have gA:=pW (R:=R1) (n:=cnt) ha
  have gB:=pW (R:=R1) (n:=cnt) qp
  have rA:=bM.r1 _ ha
  have rB:=bM.r1 _ qp
  have cA:=du (f:=c b.a) qp
  have cB:=du (f:=c b.b) ha
  have sA:=mP (f:=c) (a:=b.a) (d:=b.s) qp
  have gX:=bM.x
  have g1:=bM.t1
  have fK:(b.a:Int)<(cnt:Int):=ab
  have fc:(b.b:Int)<(cnt:Int):=ab
  have qX:=eD (i:=X) (n:=st_b.next) ab
  have q1:=eD (i:=o1) (n:=st_b.next) ab
  have qA:=eD (i:=R1 b.a) (n:=st_b.next) (by rw[v1];omega)
  have qB:=eD (i:=R1 b.b) (n:=st_b.next) (by rw[v1];omega)
  have xA:=xg sX (s1 b.a) (by decide)
  have xB:=xg sX (s1 b.b) (by decide)
  have yA:=xg so1 (s1 b.a) (by decide)
  have yB:=xg so1 (s1 b.b) (by decide)
  have l1:=jv R1 cnt cnt
  have lA:=dk (c b.a) cnt
  have lB:=dk (c b.b) cnt
  have hAB:=hle b.a b.b
  have hBA:=hle b.b b.a
  have gAB:=kK b.a b.b
  have gBA:=kK b.b b.a
  have wA:IntKind.i64.wrap (c b.a b.b+b.s)=c b.a b.b+b.s:=aY ab
  by_cases rh:b.a=b.b
  ·obtain⟨ba,bb,s⟩:=b
   dsimp only at *
   subst rh
   have Ln:=mP (f:=bump c ba ba s) (a:=ba) (b:=ba) (d:=s) (n:=cnt) ha
   have Qf:=du (f:=bump c ba ba s ba) ha
   have hv:bump c ba ba s ba ba=c ba ba+s:=by simp[bump]
   have lC:=dk (bump c ba ba s ba) cnt
   have wB:IntKind.i64.wrap (c ba ba+s+s)=c ba ba+s+s:=aY ab
   rw[hv]at Ln Qf
   have qq:mh c ⟨ba,ba,s⟩ ba=bump (bump c ba ba s) ba ba s ba:=rfl
   rw[az]at cA sA Ln Qf
   (try((repeat(revert hN;revert N;apply Pn.out));refine wk (tw @b38 (tw @b0 (tw @b1 (tw @b5 (tw @Mo (tw @Mp (tw @hi (tw @nH (tw @au.eq_1 (tw @gA (tw @rA (tw @cA (tw @sA (tw @gX (tw @g1 (tw @fK (tw @qX (tw @q1 (tw @qA (tw @xA (tw @yA (tw @l1 (tw @lA (tw @wA (tw @Ln (tw @Qf (tw @lC @wB))))))))))))))))))))))))))) ?_;(repeat(refine Pn.mk ?_;intro N hN))))
   exact iF (sd (tw @b38 (tw @b0 (tw @b1 (tw @b5 (tw @Mo @Mp)))))) (by
    (try dsimp only)
    refine⟨ab,fun x hx=>?_,?_⟩
    ·have p1:=eD (i:=x) (n:=st_b.next) ab
     have p2:=dj (a:=x) (b:=R1 ba) (by rw[v1];omega)
     have:=Kr x hx
     simp only[go_sem, ↓reduceIte,Nat.reduceEqDiff,Nat.reduceAdd,Nat.reduceSub,Nat.reduceLeDiff,reduceCtorEq,p1,p2,this]
    ·rw[qt]
     refine bM.add I ⟨ba,ba,s⟩ ha ha (fun h=>absurd rfl h) ?_ fun x hx h1 h2=>?_
     ·rw[qq]
      simp only[go_sem, ↓reduceIte,Nat.reduceEqDiff,Nat.reduceAdd,Nat.reduceSub,Nat.reduceLeDiff,reduceCtorEq]
     ·have p1:=eD (i:=x) (n:=st_b.next) ab
      (try dsimp only at h2)
      simp only[go_sem, ↓reduceIte,Nat.reduceEqDiff,Nat.reduceAdd,Nat.reduceSub,Nat.reduceLeDiff,reduceCtorEq,p1,h2])
  ·have gF:(R1 b.a=R1 b.b)=False:=by simp only[eq_iff_iff,iff_false];exact fun h=>rh (I.i1 _ _ ha qp h)
   have F0:(R1 b.b=R1 b.a)=False:=by simp only[eq_iff_iff,iff_false];exact fun h=>rh (I.i1 _ _ ha qp h.symm)
   have Lf:bump c b.a b.b b.s b.b=c b.b:=jn fun h=>rh h.symm
   have Ln:=mP (f:=bump c b.a b.b b.s) (a:=b.b) (b:=b.a) (d:=b.s) (n:=cnt) ha
   rw[Lf]at Ln
   have wB:IntKind.i64.wrap (c b.b b.a+b.s)=c b.b b.a+b.s:=aY ab
   have qq:mh c b b.b=bump (bump c b.a b.b b.s) b.b b.a b.s b.b:=rfl
   rw[az]at cA cB sA Ln
   (try((repeat(revert hN;revert N;apply Pn.out));refine wk (tw @b38 (tw @b0 (tw @b1 (tw @b5 (tw @Mo (tw @Mp (tw @hi (tw @nH (tw @au.eq_1 (tw @gA (tw @gB (tw @rA (tw @rB (tw @cA (tw @cB (tw @sA (tw @gX (tw @g1 (tw @fK (tw @fc (tw @qX (tw @q1 (tw @qA (tw @qB (tw @xA (tw @xB (tw @yA (tw @yB (tw @l1 (tw @lA (tw @lB (tw @wA (tw @Ln (tw @wB (tw @gF @F0))))))))))))))))))))))))))))))))))) ?_;(repeat(refine Pn.mk ?_;intro N hN))))
   exact iF (sd (tw @b38 (tw @b0 (tw @b1 (tw @b5 (tw @Mo @Mp)))))) (by
    (try dsimp only)
    refine⟨ab,fun x hx=>?_,?_⟩
    ·have p1:=eD (i:=x) (n:=st_b.next) ab
     have p2:=dj (a:=x) (b:=R1 b.b) (by rw[v1];omega)
     have p3:=dj (a:=x) (b:=R1 b.a) (by rw[v1];omega)
     have:=Kr x hx
     simp only[go_sem, ↓reduceIte,Nat.reduceEqDiff,Nat.reduceAdd,Nat.reduceSub,Nat.reduceLeDiff,reduceCtorEq,p1,p2,p3,this]
    ·rw[qt]
     refine bM.add I b ha qp (fun h=>?_) ?_ fun x hx h1 h2=>?_
     ·simp only[go_sem, ↓reduceIte,Nat.reduceEqDiff,Nat.reduceAdd,Nat.reduceSub,Nat.reduceLeDiff,reduceCtorEq,gF]
     ·rw[qq]
      simp only[go_sem, ↓reduceIte,Nat.reduceEqDiff,Nat.reduceAdd,Nat.reduceSub,Nat.reduceLeDiff,reduceCtorEq,gF]
     ·have p1:=eD (i:=x) (n:=st_b.next) ab
      simp only[go_sem, ↓reduceIte,Nat.reduceEqDiff,Nat.reduceAdd,Nat.reduceSub,Nat.reduceLeDiff,reduceCtorEq,p1,h1,h2])
 ·have oj:i=bs.length:=ab
  subst oj
  rw[List.take_length]at bM
  (try((repeat(revert hN;revert N;apply Pn.out));refine wk (tw @b38 (tw @b0 (tw @b1 (tw @b5 (tw @Mo (tw @Mp @hi)))))) ?_;(repeat(refine Pn.mk ?_;intro N hN))))
  exact gn (.inl rfl) (vs:=[.ptr X 0 0]) (sd @Nat.zero_add) ⟨X,o1,o2,R1,R2,rfl,⟨I.sx,I.s1,I.s2,I.Pt,I.Kc,I.i1,I.i2,by have:=I.vx;(try dsimp only);omega,by have:=I.v1;(try dsimp only);omega,by have:=I.v2;(try dsimp only);omega,fun j hj=>by have:=I.Q6 j hj;(try dsimp only);omega,fun j hj=>by have:=I.OC j hj;(try dsimp only);omega⟩,bt,bM,Kr⟩
end Go.Proofs.YtihgaadadaekmaaGreatDoor.V

namespace Go.Proofs.YtihgaadadaekmaaGreatDoor.V
structure Bq (n:Nat) (c f:Nat->Nat->Int) (x:Nat) (par:Nat->Int) (Q:List Nat) (i:Nat):Prop where
 nodup:Q.Nodup
 lt:∀v∈Q,v<n
 root:par x=(x:Int)
 mem:x∈Q
 iff:∀v,v<n->(0<=par v↔v∈Q)
 up:∀v∈Q,v≠x->∃u,u∈Q/\par v=(u:Int)/\Q.idxOf u<Q.idxOf v/\f u v<c u v
 done:∀j (_:j<i) (hl:j<Q.length) (v:Nat),v<n->f Q[j] v<c Q[j] v->v∈Q
 ile:i<=Q.length
section
variable {n:Nat} {c f:Nat->Nat->Int} {x:Nat} {par:Nat->Int} {Q:List Nat} {i:Nat}
theorem Bq.len (h:Bq n c f x par Q i):Q.length<=n:=nk n Q h.nodup h.lt
theorem Bq.start (hx:x<n):Bq n c f x (fun v=>if v=x then(x:Int)else -1) [x] 0:=by
 refine⟨by simp,fun v hv=>by simp at hv;omega,by simp,by simp,fun v hv=>?_,fun v hv gF=>absurd (by simpa using hv) gF,fun j hj=>ab,by simp⟩
 by_cases h:v=x
 ·simp[h]
 ·simp[h]
theorem Bq.visit (h:Bq n c f x par Q i) (hi:i<Q.length) {v:Nat} (hv:v<n) (hp:par v<0) (hr:f Q[i] v<c Q[i] v):Bq n c f x (fun w=>if w=v then(Q[i]:Int)else par w) (Q++[v]) i:=by
 have QT:v∉Q:=fun hm=>by have:=(h.iff v hv).2 hm;omega
 have QY:x≠v:=fun e=>QT (e▸h.mem)
 have wI:∀u∈Q,(Q++[v]).idxOf u=Q.idxOf u:=fun u hu=>by rw[List.idxOf_append,if_pos hu]
 have sU:(Q++[v]).idxOf v=Q.length:=by rw[List.idxOf_append,if_neg QT];simp
 refine⟨?_,fun w hw=>?_,by simp only[if_neg QY];exact h.root,by simp[h.mem],fun w hw=>?_,fun w hw gF=>?_,fun j hj hl w hw Dt=>?_,by simp;omega⟩
 ·refine List.nodup_append.2 ⟨h.nodup,by simp,fun a ha b hb=>?_⟩
  rw[List.mem_singleton.1 hb]
  rintro rfl;exact QT ha
 ·rcases List.mem_append.1 hw with hw|hw
  ·exact h.lt w hw
  ·rw[List.mem_singleton.1 hw];exact hv
 ·by_cases Ck:w=v
  ·subst Ck;simp
  ·rw[if_neg Ck,h.iff w hw];simp[Ck]
 ·by_cases Ck:w=v
  ·subst Ck
   refine⟨Q[i],by simp,by simp,?_,hr⟩
   rw[wI _ (List.getElem_mem hi),sU]
   exact List.idxOf_lt_length_of_mem (List.getElem_mem hi)
  ·have hwQ:w∈Q:=by
    rcases List.mem_append.1 hw with hw|hw
    ·exact hw
    ·exact absurd (List.mem_singleton.1 hw) Ck
   obtain⟨u,h1,h2,h3,h4⟩:=h.up w hwQ gF
   exact⟨u,by simp[h1],by rw[if_neg Ck];exact h2,by rw[wI u h1,wI w hwQ];exact h3,h4⟩
 ·have gq:j<Q.length:=by have:=h.ile;omega
  rw[List.getElem_append_left gq]at Dt
  exact List.mem_append_left _ (h.done j hj gq w hw Dt)
theorem Bq.next (h:Bq n c f x par Q i) (hi:i<Q.length) (di:∀v,v<n->f Q[i] v<c Q[i] v->0<=par v):Bq n c f x par Q (i+1):=by
 refine⟨h.nodup,h.lt,h.root,h.mem,h.iff,h.up,fun j hj hl v hv hr=>?_,ab⟩
 by_cases lq:j=i
 ·subst lq;exact(h.iff v hv).1 (di v hv hr)
 ·exact h.done j ab hl v hv hr
theorem Bq.cut (h:Bq n c f x par Q Q.length) {y:Nat} (hy:y<n) (hp:par y<0):∃S:Nat->Bool,S x=true/\S y=false/\∀u v,u<n->v<n->S u=true->S v=false->¬f u v<c u v:=by
 refine⟨fun v=>decide (v∈Q),by simp[h.mem],?_,fun u v hu hv h1 h2 hr=>?_⟩
 ·have:y∉Q:=fun hm=>by have:=(h.iff y hy).2 hm;omega
  simp[this]
 ·simp only[decide_eq_true_eq,decide_eq_false_iff_not]at h1 h2
  obtain⟨j,hj,rfl⟩:=List.getElem_of_mem h1
  exact h2 (h.done j hj hj v hv hr)
def sk (c f:Nat->Nat->Int) (Q:List Nat) (y k:Nat) (out:List Nat):Prop:=∃rest,out.reverse=k::rest/\(k::rest).getLast (by simp)=y/\o9 f c (k::rest)/\(k::rest).Pairwise (fun a b=>Q.idxOf a<Q.idxOf b)/\∀v∈k::rest,v∈Q
theorem sk.start {y:Nat} (hy:y∈Q):sk c f Q y y [y]:=⟨[],rfl,rfl,trivial,by simp,by simpa using hy⟩
theorem sk.step {y k u:Nat} {out:List Nat} (h:sk c f Q y k out) (hu:u∈Q) (hi:Q.idxOf u<Q.idxOf k) (hr:f u k<c u k):sk c f Q y u (out++[u]):=by
 obtain⟨rest,h1,h2,h3,h4,h5⟩:=h
 refine⟨k::rest,by rw[List.reverse_append,h1];rfl,by rw[List.getLast_cons (by simp)];exact h2,⟨hr,h3⟩,?_,?_⟩
 ·refine List.pairwise_cons.2 ⟨fun b hb=>?_,h4⟩
  rcases List.mem_cons.1 hb with rfl|hb
  ·exact hi
  ·have:=(List.pairwise_cons.1 h4).1 b hb;omega
 ·intro v hv
  rcases List.mem_cons.1 hv with rfl|hv
  ·exact hu
  ·exact h5 v hv
theorem sk.len {y k:Nat} {out:List Nat} (h:sk c f Q y k out) (hq:∀v∈Q,v<n):out.length<=n:=by
 obtain⟨rest,h1,_,_,h4,h5⟩:=h
 rw[<-List.length_reverse,h1]
 refine nk n _ (h4.imp fun dF he=>?_) fun v hv=>hq v (h5 v hv)
 subst he;omega
structure M0 (n:Nat) (c f:Nat->Nat->Int) (x y:Nat) (p:List Nat):Prop where
 way:∃r,p=x::r/\(x::r).getLast (by simp)=y
 nodup:p.Nodup
 room:o9 f c p
 lt:∀v∈p,v<n
theorem sk.way {y:Nat} {out:List Nat} (h:sk c f Q y x out) (hq:∀v∈Q,v<n):M0 n c f x y out.reverse:=by
 obtain⟨rest,h1,h2,h3,h4,h5⟩:=h
 rw[h1]
 exact⟨⟨rest,rfl,h2⟩,h4.imp fun dF he=>by subst he;omega,h3,fun v hv=>hq v (h5 v hv)⟩
end
end Go.Proofs.YtihgaadadaekmaaGreatDoor.V

namespace Go.Proofs.YtihgaadadaekmaaGreatDoor.V
open Go.RowKit
attribute [local irreducible] dP wpOps gN Call
attribute [local go_sem] aI fI eE fW fV cv upd cq K.av cL AV.cells AV.cell rowOf rowsOf part ld rowAt bK bY dH eh ij bL da eA fZ eX dr eo cY cX dR dS bR bf cQ bQ cT cR ej ep ek cP bU cZ ei bP aM cV cz ig br cI bS aZ dD bp dJ AV.undef bB bH dX ef dO ea cF ez eC cu eu er cU cW List.getD_cons_zero List.getD_cons_succ List.getD_nil List.all_cons List.all_nil Bool.and_true Bool.true_and Bool.and_self Bool.not_true Bool.not_false Option.map_some Option.map_none Option.bind_some Option.bind_none List.length_cons List.length_nil List.take_succ_cons List.take_zero List.take_nil List.drop_succ_cons List.drop_zero List.drop_nil List.head?_cons List.map_cons List.map_nil List.getElem?_cons_zero List.getElem?_cons_succ List.cons_append List.nil_append List.append_nil List.length_map List.set_cons_zero List.set_cons_succ Nat.reduceMul eq_self Int.toNat_natCast Int.natCast_nonneg and_self true_and and_true decide_true decide_false Bool.false_eq_true Nat.zero_add Nat.add_zero List.contains_cons List.contains_nil Bool.or_false Bool.false_or beq_self_eq_true Nat.reduceBEq ne_eq not_true_eq_false not_false_eq_true Id.mk.injEq false_and and_false Nat.reduceLT Int.reduceLE Int.reduceLT Int.reduceToNat Int.reduceNeg Int.reduceAdd Nat.le_refl List.length_append beq_true beq_false Bool.not_eq_eq_eq_not or_false false_or dz ad aj aH bx cl aQ bj aW bh cN bz
def kR (l:List Nat) (i x:Nat):Nat:=if x<i∨l.length-i<=x then l.getD (l.length-1-x) 0 else l.getD x 0
theorem vM (l:List Nat):l.map eN=dm (fun x=>l.getD x 0) l.length:=by
 refine List.ext_getElem? fun i=>?_
 by_cases h:i<l.length
 ·rw[eL h,List.getElem?_map,List.getElem?_eq_getElem h];simp[List.getD_eq_getElem?_getD,h]
 ·rw[List.getElem?_eq_none (by simp;omega),List.getElem?_eq_none (by rw[fv];omega)]
theorem Eg (l:List Nat):dm (kR l 0) l.length=l.map eN:=by
 rw[vM]
 exact fY fun x hx=>by unfold kR;rw[if_neg ab]
theorem GU (l:List Nat) {i:Nat} (h:l.length<=2*i+1) (hi:i<=l.length):dm (kR l i) l.length=l.reverse.map eN:=by
 rw[vM l.reverse,List.length_reverse]
 refine fY fun x hx=>?_
 have hr:l.reverse.getD x 0=l.getD (l.length-1-x) 0:=by
  rw[List.getD_eq_getElem?_getD,List.getElem?_reverse hx,List.getD_eq_getElem?_getD]
 rw[hr]
 unfold kR
 by_cases hc:x<i∨l.length-i<=x
 ·rw[if_pos hc]
 ·rw[if_neg hc]
  have:x=l.length-1-x:=ab
  rw[<-this]
theorem Eh (l:List Nat) (hp:0<l.length) (hl:l.length<=1048576) (o:Id) (σ:aw) (ho:σ.get o=some ⟨true,1,l.map eN⟩) (rS:o.bV<σ.next):
  Call Tryz.prog 197 [.own o 0 l.length] σ fun r σ'=>σ'.get o=some ⟨true,1,l.reverse.map eN⟩/\σ.next<=σ'.next/\∀i:Id,i.bV<σ.next->(i=o)=False->σ'.get i=σ.get i:=by
 refine eZ dN rfl fun rR=>?_
 clear rR
 rw[<-Eg]at ho
 have ET:IntKind.i64.wrap ((l.length:Int)-1)=((l.length-1:Nat):Int):=by rw[aY ab];omega
 (try((repeat(revert hN;revert N;apply Pn.out));refine wk @ET ?_;(repeat(refine Pn.mk ?_;intro N hN))))
 refine aL (fun m env st=>∃i:Nat,m=l.length-i/\2*i<=l.length+1/\i<=l.length/\env 2=.int .i64 (i:Int)/\env 3=.int .i64 ((l.length:Int)-1-i)/\st.get o=some ⟨true,1,dm (kR l i) l.length⟩/\σ.next<=st.next/\∀x:Id,x.bV<σ.next->(x=o)=False->st.get x=σ.get x) l.length ⟨0,rfl,ab,ab,by(simp only[go_sem, ↓reduceIte,Nat.reduceEqDiff,Nat.reduceAdd,Nat.reduceSub,Nat.reduceLeDiff,reduceCtorEq])<;>rfl,by(simp only[go_sem, ↓reduceIte,Nat.reduceEqDiff,Nat.reduceAdd,Nat.reduceSub,Nat.reduceLeDiff,reduceCtorEq,ET]);congr 1;omega,ho,bt,fun x _ _=>rfl⟩ ?_
 rintro m env_b st_b ⟨i,rfl,u4,oj,b2,b3,bg,bn,bfr⟩ bkp
 have b0:=bkp 0 (by kernel_rfl)
 simp only[go_sem, ↓reduceIte,Nat.reduceEqDiff,Nat.reduceAdd,Nat.reduceSub,Nat.reduceLeDiff,reduceCtorEq]at b0
 clear bkp
 have tl:=fv (kR l i) l.length
 have n8:=eD (i:=o) (n:=st_b.next) ab
 by_cases hi:(i:Int)<(l.length:Int)-1-i
 ·have fy:i<l.length:=ab
  obtain⟨j,hj⟩:∃j,j=l.length-1-i:=⟨_,rfl⟩
  have gh:j<l.length:=ab
  have Ir:(l.length:Int)-1-i=(j:Int):=ab
  rw[Ir]at b3 hi
  have g1:=eL (f:=kR l i) fy
  have g2:=eL (f:=kR l i) gh
  have e1:kR l i i=l.getD i 0:=by unfold kR;rw[if_neg ab]
  have e2:kR l i j=l.getD j 0:=by unfold kR;rw[if_neg ab]
  have J2:(dm (kR l i) l.length).set i (eN (l.getD j 0))=dm (fun x=>if x=i then l.getD j 0 else kR l i x) l.length:=nR fy (if_pos rfl) fun x _ hx=>if_neg hx
  have F7:(dm (fun x=>if x=i then l.getD j 0 else kR l i x) l.length).set j (eN (l.getD i 0))=dm (kR l (i+1)) l.length:=nR gh (by unfold kR;rw[if_pos ab];congr 1;omega) fun x hx MM=>by
   by_cases xI:x=i
   ·rw[if_pos xI];unfold kR;rw[if_pos ab];congr 1;omega
   ·rw[if_neg xI];unfold kR
    by_cases hc:x<i∨l.length-i<=x
    ·rw[if_pos hc,if_pos ab]
    ·rw[if_neg hc,if_neg ab]
  have Pu:=fv (fun x=>if x=i then l.getD j 0 else kR l i x) l.length
  have g3:=eL (f:=fun x=>if x=i then l.getD j 0 else kR l i x) gh
  rw[e1]at g1
  rw[e2]at g2
  rw[if_neg ab,e2]at g3
  rw[eN]at g1 g2 g3 J2 F7
  have NQ:(i:Int)<(l.length:Int):=ab
  have lq:(j:Int)<(l.length:Int):=ab
  have qu:IntKind.i64.wrap ((i:Int)+1)=((i+1:Nat):Int):=ax ab
  have AO:IntKind.i64.wrap ((j:Int)-1)=(l.length:Int)-1-((i+1:Nat):Int):=by rw[aY ab];omega
  (try((repeat(revert hN;revert N;apply Pn.out));refine wk (tw @b0 (tw @b2 (tw @b3 (tw @bg (tw @hi (tw @NQ (tw @lq (tw @g1 (tw @g2 (tw @g3 (tw @J2 (tw @F7 (tw @tl (tw @Pu (tw @n8 (tw @qu @AO)))))))))))))))) ?_;(repeat(refine Pn.mk ?_;intro N hN))))
  refine⟨_,?_,i+1,rfl,ab,ab,sd @qu,sd @AO,sd @F7,bt,fun x hx EU=>?_⟩
  ·omega
  ·have:=bfr x hx EU
   simp only[go_sem, ↓reduceIte,Nat.reduceEqDiff,Nat.reduceAdd,Nat.reduceSub,Nat.reduceLeDiff,reduceCtorEq,EU,this]
 ·rw[GU l ab oj]at bg
  (try((repeat(revert hN;revert N;apply Pn.out));refine wk (tw @b0 (tw @b2 (tw @b3 (tw @bg @hi)))) ?_;(repeat(refine Pn.mk ?_;intro N hN))))
  exact gn (.inr rfl) (vs:=[]) (by simp only[eQ,go_sem, ↓reduceIte,Nat.reduceEqDiff,Nat.reduceAdd,Nat.reduceSub,Nat.reduceLeDiff,reduceCtorEq]) ⟨bg,bt,bfr⟩
theorem OD (cnt:Nat) (uq:1<=cnt) (hn:cnt<=1048576) (c f:Nat->Nat->Int) (x y:Nat) (hx:x<cnt) (hy:y<cnt):
  lX Tryz.prog 191 [.cK (kA cnt c f),.int .i64 x,.int .i64 y] fun r=>(r=.bC/\∃S:Nat->Bool,S x=true/\S y=false/\∀u v,u<cnt->v<cnt->S u=true->S v=false->¬f u v<c u v)∨∃p:List Nat,r=.sl (p.map eN)/\M0 cnt c f x y p:=by
 refine lX.body dN rfl fun hl n0=>?_
 clear hl
 have lM:=tJ c cnt
 have iS:(0:Int)<=(cnt:Int):=ab
 have xI:(x:Int)<(cnt:Int):=ab
 have Pq:(y:Int)<(cnt:Int):=ab
 (try((repeat(revert hN;revert N;apply Pn.out));refine wk (tw @kA.eq_1 @lM) ?_;(repeat(refine Pn.mk ?_;intro N hN))))
 refine .inr (aO _ _ _ _ _ (fun r σ1 hq=>?_) (GQ cnt uq hn (-1) ⟨191002000,n0+1+1⟩ _ (sd @Nat.zero_add) bt))
 obtain⟨o,rfl,ho,Iz,IA,mc⟩:=hq
 (try dsimp only at ho Iz IA mc)
 refine hN _ _ ?_
 clear hN N
 have n8:=eD IA
 have oi:(cnt:Int)<=1048576:=ab
 have NF:ph<ph+cnt:=ab
 have gi:List.replicate cnt [AV.int .i64 (-1)]=dw (fun _=>-1) cnt:=by
  refine List.ext_getElem? fun i=>?_
  by_cases h:i<cnt
  ·rw[du h,List.getElem?_replicate,if_pos h];rfl
  ·rw[List.getElem?_eq_none (by simp;omega),List.getElem?_eq_none (by rw[dk];omega)]
 rw[gi]at ho
 have yO:(dw (fun _=>-1) cnt).set x (az (x:Int))=dw (fun v=>if v=x then(x:Int)else -1) cnt:=kc hx (if_pos rfl) fun v _ hv=>if_neg hv
 have K4:=du (f:=fun _=>-1) hx
 have tl0:=dk (fun _=>-1) cnt
 rw[az]at yO K4
 (try((repeat(revert hN;revert N;apply Pn.out));refine wk (tw @kA.eq_1 (tw @lM (tw @iS (tw @oi @n8)))) ?_;(repeat(refine Pn.mk ?_;intro N hN))))
 refine Hk ?_
 simp only[go_sem, ↓reduceIte,Nat.reduceEqDiff,Nat.reduceAdd,Nat.reduceSub,Nat.reduceLeDiff,reduceCtorEq,NF]
 refine hN _ _ ?_
 clear hN N
 (try((repeat(revert hN;revert N;apply Pn.out));refine wk (tw @ho (tw @n8 (tw @yO (tw @K4 (tw @tl0 @xI))))) ?_;(repeat(refine Pn.mk ?_;intro N hN))))
 obtain⟨C,hC⟩:∃C:Id,C=⟨191003001,σ1.next+1⟩:=⟨_,rfl⟩
 have N1:=dj (a:=o) (b:=C) (by rw[hC];(try dsimp only);omega)
 have hCv:C.bV=σ1.next+1:=by rw[hC]
 refine aL (fun m env st=>∃(par:Nat->Int) (Q:List Nat) (i:Nat),m=cnt-i/\Bq cnt c f x par Q i/\st.get o=some ⟨true,1,dw par cnt⟩/\st.get C=some ⟨true,ph+cnt,(Q.drop i).map eN⟩/\σ1.next+1<st.next) cnt ⟨_,[x],0,rfl,Bq.start hx,sd @n8,by rw[hC];simp only[go_sem, ↓reduceIte,Nat.reduceEqDiff,Nat.reduceAdd,Nat.reduceSub,Nat.reduceLeDiff,reduceCtorEq,n8];rfl,bt⟩ ?_
 rintro m env_b st_b ⟨par,Q,i,rfl,hB,bgo,bgC,bn⟩ bkp
 have b0:=bkp 0 (by kernel_rfl)
 have b1:=bkp 1 (by kernel_rfl)
 have b2:=bkp 2 (by kernel_rfl)
 have b7:=bkp 7 (by kernel_rfl)
 have b8:=bkp 8 (by kernel_rfl)
 have b9:=bkp 9 (by kernel_rfl)
 rw[<-hC]at b9
 simp only[go_sem, ↓reduceIte,Nat.reduceEqDiff,Nat.reduceAdd,Nat.reduceSub,Nat.reduceLeDiff,reduceCtorEq]at b0 b1 b2 b7 b8 b9
 clear bkp
 have hQn:=hB.len
 have oj:=hB.ile
 have O6:((Q.drop i).map eN).length=Q.length-i:=by simp
 by_cases hi:i<Q.length
 ·have kM:(0:Int)<((Q.length-i:Nat):Int):=ab
  have qa:Q.drop i=Q[i]::Q.drop (i+1):=List.drop_eq_getElem_cons hi
  obtain⟨u,hu⟩:∃u,u=Q[i]:=⟨_,rfl⟩
  have hun:u<cnt:=by rw[hu];exact hB.lt _ (List.getElem_mem hi)
  rw[<-hu]at qa
  (try((repeat(revert hN;revert N;apply Pn.out));refine wk (tw @b0 (tw @b1 (tw @b2 (tw @b7 (tw @b8 (tw @b9 (tw @bgC (tw @O6 @kM)))))))) ?_;(repeat(refine Pn.mk ?_;intro N hN))))
  refine Hk ?_
  rw[qa,List.map_cons,show eN u=[.int .i64 (u:Int)]from rfl]at bgC
  simp only[go_sem, ↓reduceIte,Nat.reduceEqDiff,Nat.reduceAdd,Nat.reduceSub,Nat.reduceLeDiff,reduceCtorEq,b9,bgC]
  refine hN _ _ ?_
  clear hN N
  (try((repeat(revert hN;revert N;apply Pn.out));refine wk @b7 ?_;(repeat(refine Pn.mk ?_;intro N hN))))
  refine aL (fun m env st=>∃(v:Nat) (par':Nat->Int) (Q':List Nat),m=cnt-v/\v<=cnt/\env 36=.int .i64 (v:Int)/\Bq cnt c f x par' Q' i/\(∃h:i<Q'.length,Q'[i]=u)/\st.get o=some ⟨true,1,dw par' cnt⟩/\st.get C=some ⟨true,ph+cnt,(Q'.drop (i+1)).map eN⟩/\σ1.next+1<st.next/\∀w,w<v->f u w<c u w->0<=par' w) cnt ⟨0,par,Q,rfl,Nat.zero_le _,by(simp only[go_sem, ↓reduceIte,Nat.reduceEqDiff,Nat.reduceAdd,Nat.reduceSub,Nat.reduceLeDiff,reduceCtorEq])<;>rfl,hB,⟨hi,hu.symm⟩,sd (tw @N1 @bgo),sd @N1,bt,fun w hw=>absurd hw (Nat.not_lt_zero w)⟩ ?_
  rintro m env_c st_c ⟨v,par',Q',rfl,hvn,c36,dn,⟨o3,Cj⟩,uQ,cgC,cn,di⟩ ckp
  have c0:=ckp 0 (by kernel_rfl)
  have c1:=ckp 1 (by kernel_rfl)
  have c2:=ckp 2 (by kernel_rfl)
  have c7:=ckp 7 (by kernel_rfl)
  have c8:=ckp 8 (by kernel_rfl)
  have c9:=ckp 9 (by kernel_rfl)
  have iM:=ckp 10 (by kernel_rfl)
  have Kw:=ckp 35 (by kernel_rfl)
  simp only[go_sem, ↓reduceIte,Nat.reduceEqDiff,Nat.reduceAdd,Nat.reduceSub,Nat.reduceLeDiff,reduceCtorEq,b0,b1,b2,b7,b8,b9]at c0 c1 c2 c7 c8 c9 iM Kw
  clear ckp
  have tl:=dk par' cnt
  by_cases hv:(v:Int)<(cnt:Int)
  ·have AN:v<cnt:=ab
   have K6:=du (f:=par') AN
   have mc:=KL cnt c f u v hun AN
   have hw:IntKind.i64.wrap ((v:Int)+1)=((v+1:Nat):Int):=ax ab
   rw[az]at K6
   rw[kA]at mc
   by_cases jr:par' v<0
   ·by_cases hr:f u v<c u v
    ·rw[decide_eq_true hr]at mc
     have dK:(dw par' cnt).set v (az (u:Int))=dw (fun w=>if w=v then(u:Int)else par' w) cnt:=kc AN (if_pos rfl) fun w _ hw=>if_neg hw
     rw[az]at dK
     have nW:=dn.visit o3 AN jr (by rw[Cj];exact hr)
     rw[Cj]at nW
     have hQ2:=nW.len
     rw[List.length_append]at hQ2
     simp only[List.length_singleton]at hQ2
     have fb:ph+(Q'.drop (i+1)).length<ph+cnt:=by rw[List.length_drop];omega
     (repeat(first|((repeat(revert hN;revert N;apply Pn.out));refine wk (tw @kA.eq_1 (tw @c0 (tw @c7 (tw @c8 (tw @c9 (tw @iM (tw @c36 (tw @Kw (tw @hv (tw @uQ (tw @K6 (tw @tl (tw @jr @dK))))))))))))) ?_;(repeat(refine Pn.mk ?_;intro N hN)))|((try apply Or.inl);refine⟨_,ai.x (mc) (sd (tw @kA.eq_1 (tw @c0 (tw @c7 (tw @c8 (tw @c9 (tw @iM (tw @c36 (tw @Kw (tw @hv (tw @uQ (tw @K6 (tw @tl (tw @jr @dK)))))))))))))),?_⟩;refine hN _ _ ?_;clear hN N)))
     refine Hk ?_
     have hq:(Q'.drop (i+1)).map eN++[[.int .i64 (v:Int)]]=((Q'++[v]).drop (i+1)).map eN:=by rw[List.drop_append_of_le_length ab,List.map_append];rfl
     simp only[go_sem, ↓reduceIte,Nat.reduceEqDiff,Nat.reduceAdd,Nat.reduceSub,Nat.reduceLeDiff,reduceCtorEq,c9,cgC,fb,N1,hq]
     refine hN _ _ ?_
     clear hN N
     (try((repeat(revert hN;revert N;apply Pn.out));refine wk (tw @c36 @hw) ?_;(repeat(refine Pn.mk ?_;intro N hN))))
     refine⟨_,?_,v+1,_,_,rfl,AN,sd @hw,nW,⟨by rw[List.length_append];omega,by rw[List.getElem_append_left o3];exact Cj⟩,sd @N1,sd @N1,bt,fun w hw Dt=>?_⟩
     ·omega
     ·by_cases Ck:w=v
      ·rw[if_pos Ck];omega
      ·rw[if_neg Ck];exact di w ab Dt
    ·rw[decide_eq_false hr]at mc
     (repeat(first|((repeat(revert hN;revert N;apply Pn.out));refine wk (tw @kA.eq_1 (tw @c0 (tw @c7 (tw @c8 (tw @c9 (tw @iM (tw @c36 (tw @Kw (tw @hv (tw @uQ (tw @K6 (tw @tl (tw @jr @hw))))))))))))) ?_;(repeat(refine Pn.mk ?_;intro N hN)))|((try apply Or.inl);refine⟨_,ai.x (mc) (sd (tw @kA.eq_1 (tw @c0 (tw @c7 (tw @c8 (tw @c9 (tw @iM (tw @c36 (tw @Kw (tw @hv (tw @uQ (tw @K6 (tw @tl (tw @jr @hw)))))))))))))),?_⟩;refine hN _ _ ?_;clear hN N)))
     refine⟨_,?_,v+1,par',Q',rfl,AN,sd @hw,dn,⟨o3,Cj⟩,sd @uQ,sd @cgC,bt,fun w hw Dt=>?_⟩
     ·omega
     ·by_cases Ck:w=v
      ·subst Ck;exact absurd Dt hr
      ·exact di w ab Dt
   ·(try((repeat(revert hN;revert N;apply Pn.out));refine wk (tw @kA.eq_1 (tw @c0 (tw @c7 (tw @c8 (tw @c9 (tw @iM (tw @c36 (tw @Kw (tw @hv (tw @uQ (tw @K6 (tw @tl (tw @jr @hw))))))))))))) ?_;(repeat(refine Pn.mk ?_;intro N hN))))
    refine⟨_,?_,v+1,par',Q',rfl,AN,sd @hw,dn,⟨o3,Cj⟩,sd @uQ,sd @cgC,bt,fun w hw Dt=>?_⟩
    ·omega
    ·by_cases Ck:w=v
     ·subst Ck;omega
     ·exact di w ab Dt
  ·have hvc:v=cnt:=ab
   subst hvc
   (try((repeat(revert hN;revert N;apply Pn.out));refine wk (tw @c36 (tw @Kw @hv)) ?_;(repeat(refine Pn.mk ?_;intro N hN))))
   refine⟨_,?_,par',Q',i+1,rfl,dn.next o3 fun w hw hr=>di w hw (by rw[<-Cj];exact hr),sd @uQ,sd @cgC,bt⟩
   omega
 ·have hiQ:i=Q.length:=ab
  subst hiQ
  have kM:¬(0:Int)<((Q.length-Q.length:Nat):Int):=ab
  have Qv:=du (f:=par) hy
  have tl:=dk par cnt
  rw[az]at Qv
  by_cases jr:par y<0
  ·(try((repeat(revert hN;revert N;apply Pn.out));refine wk (tw @b0 (tw @b1 (tw @b2 (tw @b7 (tw @b8 (tw @b9 (tw @bgC (tw @O6 (tw @kM (tw @bgo (tw @Qv (tw @tl (tw @Pq @jr))))))))))))) ?_;(repeat(refine Pn.mk ?_;intro N hN))))
   exact⟨[.bC],sd @Nat.zero_add,.bC,jO _ _,.inl ⟨rfl,hB.cut hy jr⟩⟩
  ·(try((repeat(revert hN;revert N;apply Pn.out));refine wk (tw @b0 (tw @b1 (tw @b2 (tw @b7 (tw @b8 (tw @b9 (tw @bgC (tw @O6 (tw @kM (tw @bgo (tw @Qv (tw @tl (tw @Pq @jr))))))))))))) ?_;(repeat(refine Pn.mk ?_;intro N hN))))
   refine aL (fun m env st=>∃(k:Nat) (out:List Nat) (p:Id),m=Q.idxOf k/\env 13=.int .i64 (k:Int)/\env 12=.own p 0 out.length/\st.get p=some ⟨true,1,out.map eN⟩/\p.bV<st.next/\st_b.next<=p.bV/\k∈Q/\sk c f Q y k out/\st.get o=some ⟨true,1,dw par cnt⟩) (Q.idxOf y) ⟨y,[y],⟨191017001,st_b.next+1+1⟩,rfl,by(simp only[go_sem, ↓reduceIte,Nat.reduceEqDiff,Nat.reduceAdd,Nat.reduceSub,Nat.reduceLeDiff,reduceCtorEq]),by(simp only[go_sem, ↓reduceIte,Nat.reduceEqDiff,Nat.reduceAdd,Nat.reduceSub,Nat.reduceLeDiff,reduceCtorEq])<;>rfl,by(simp only[go_sem, ↓reduceIte,Nat.reduceEqDiff,Nat.reduceAdd,Nat.reduceSub,Nat.reduceLeDiff,reduceCtorEq])<;>rfl,bt,bt,(hB.iff y hy).1 ab,sk.start ((hB.iff y hy).1 ab),by(have QV:=eD (i:=o) (n:=st_b.next) ab);simp only[go_sem, ↓reduceIte,Nat.reduceEqDiff,Nat.reduceAdd,Nat.reduceSub,Nat.reduceLeDiff,reduceCtorEq,QV,bgo]⟩ ?_
   rintro m env_d st_d ⟨k,out,p,rfl,d13,d12,dgp,dpn,dpo,hkQ,r6,dgo⟩ dkp
   have d1:=dkp 1 (by kernel_rfl)
   have d8:=dkp 8 (by kernel_rfl)
   simp only[go_sem, ↓reduceIte,Nat.reduceEqDiff,Nat.reduceAdd,Nat.reduceSub,Nat.reduceLeDiff,reduceCtorEq,b1,b8]at d1 d8
   clear dkp
   have xF:=eD dpn
   have yQ:=eD (i:=o) (n:=st_d.next) ab
   have dB:=dj (a:=o) (b:=p) ab
   have hol:=r6.len hB.lt
   have eY:=hB.lt k hkQ
   have kD:(out.map eN).length=out.length:=by simp
   by_cases Pb:k=x
   ·have hd:decide ((k:Int)=(x:Int))=true:=decide_eq_true (by rw[Pb])
    have QL:0<out.length:=by
     obtain⟨rest,h1,_⟩:=r6
     rw[<-List.length_reverse,h1];simp
    (try((repeat(revert hN;revert N;apply Pn.out));refine wk (tw @d1 (tw @d8 (tw @d12 (tw @d13 (tw @hd @Bool.not_true))))) ?_;(repeat(refine Pn.mk ?_;intro N hN))))
    refine .inr (aO _ _ _ _ _ (fun r σ2 hq=>?_) (Eh out QL ab p _ dgp bt))
    obtain⟨NM,lJ,FT⟩:=hq
    refine hN _ _ ?_
    clear hN N
    (try((repeat(revert hN;revert N;apply Pn.out));refine wk @d12 ?_;(repeat(refine Pn.mk ?_;intro N hN))))
    refine⟨[.own p 0 out.length],sd @d12,.sl (out.reverse.map eN),?_,.inr ⟨out.reverse,rfl,by subst Pb;exact r6.way hB.lt⟩⟩
    exact ft (sz:=1) NM (by simp) fun a=>KM _ 4 a
   ·have hd:decide ((k:Int)=(x:Int))=false:=decide_eq_false fun h=>Pb ab
    obtain⟨u,huQ,hpu,wI,hr⟩:=hB.up k hkQ Pb
    have eB:=du (f:=par) eY
    rw[az,hpu]at eB
    have hki:(k:Int)<(cnt:Int):=ab
    have e1:out.length+1<=16777216:=ab
    (try((repeat(revert hN;revert N;apply Pn.out));refine wk (tw @d1 (tw @d8 (tw @d12 (tw @d13 (tw @hd (tw @Bool.not_false (tw @dgo (tw @dgp (tw @eB (tw @tl (tw @hki (tw @xF (tw @yQ (tw @dB (tw @kD @e1))))))))))))))) ?_;(repeat(refine Pn.mk ?_;intro N hN))))
    refine⟨_,wI,u,out++[u],⟨191021003,st_d.next+1+1⟩,rfl,sd @Nat.zero_add,by rw[List.length_append];simp only[go_sem, ↓reduceIte,Nat.reduceEqDiff,Nat.reduceAdd,Nat.reduceSub,Nat.reduceLeDiff,reduceCtorEq,List.length_cons,List.length_nil],by rw[List.map_append,List.map_cons,List.map_nil];simp only[go_sem, ↓reduceIte,Nat.reduceEqDiff,Nat.reduceAdd,Nat.reduceSub,Nat.reduceLeDiff,reduceCtorEq,eN],bt,bt,huQ,r6.step huQ wI hr,sd (tw @yQ (tw @dB @dgo))⟩
theorem xU (b:Nat):∀(l:List Nat) (a:Nat) (f:Nat->Nat->Int),kY f ((a::l)++[b])=jF (kY f (a::l)) ((a::l).getLast (by simp)) b
 |[],a,f=>rfl
 |c::l,a,f=>by
  rw[List.cons_append,List.cons_append,kY,<-List.cons_append,xU b l c (jF f a c),kY,List.getLast_cons_cons]
theorem CT {p:List Nat} {f:Nat->Nat->Int} {i:Nat} (h1:1<=i) (hi:i<p.length):kY f (p.take (i+1))=jF (kY f (p.take i)) (p[i-1]'ab) p[i]:=by
 rw[List.take_succ_eq_append_getElem hi]
 have gF:p.take i≠[]:=by
  intro h
  have:(p.take i).length=0:=by rw[h];rfl
  rw[List.length_take]at this;omega
 obtain⟨a,l,O0⟩:∃a l,p.take i=a::l:=by
  cases h:p.take i with
  |nil=>exact absurd h gF
  |cons a l=>exact⟨a,l,rfl⟩
 have sU:(p.take i).getLast gF=p[i-1]'ab:=by
  rw[List.getLast_eq_getElem,List.getElem_take]
  congr 1
  rw[List.length_take];omega
 simp only[O0]at sU ⊢
 rw[xU,sU]
theorem Ed (f:Nat->Nat->Int) (a b u v:Nat):jF f a b u v<=f u v+1/\f u v-1<=jF f a b u v:=by
 unfold jF bump
 split<;>split<;>constructor<;>omega
theorem kZ:∀(p:List Nat) (f:Nat->Nat->Int) (u v:Nat),kY f p u v<=f u v+p.length/\f u v-p.length<=kY f p u v
 |[],f,u,v=>by simp[kY]
 |[_],f,u,v=>by simp[kY];omega
 |a::b::r,f,u,v=>by
  rw[kY]
  have h1:=kZ (b::r) (jF f a b) u v
  have h2:=Ed f a b u v
  simp only[List.length_cons]at h1 ⊢
  omega
theorem mH.push {g g':Rows} {X o1 o2:Id} {R1 R2:Nat->Id} {n nb:Nat} {c f:Nat->Nat->Int} (I:CO X o1 o2 R1 R2 n nb) (h:mH g X o1 o2 R1 R2 n c f) {a b:Nat} (ha:a<n) (hb:b<n) (rh:a≠b) (hA:g' (R2 a)=some ⟨true,1,dw (bump f a b 1 a) n⟩) (hB:g' (R2 b)=some ⟨true,1,dw (bump (bump f a b 1) b a (-1) b) n⟩) (hf:∀i:Id,i.bV<nb->(i=R2 a)=False->(i=R2 b)=False->g' i=g i):mH g' X o1 o2 R1 R2 n c (jF f a b):=by
 have ne:∀{i:Id} {s:Nat},i.site=s->(s==174005006)=false->∀a,a<n->(i=R2 a)=False:=fun {i s} hi hs a ha=>by
  simp only[eq_iff_iff,iff_false]
  rintro rfl
  rw[I.Kc a ha]at hi
  subst hi
  simp at hs
 refine⟨(hf _ I.vx (ne I.sx (by decide) _ ha) (ne I.sx (by decide) _ hb)).trans h.x,(hf _ I.v1 (ne I.s1 (by decide) _ ha) (ne I.s1 (by decide) _ hb)).trans h.t1,(hf _ I.v2 (ne I.s2 (by decide) _ ha) (ne I.s2 (by decide) _ hb)).trans h.t2,fun i hi=>(hf _ (I.Q6 i hi) (ne (I.Pt i hi) (by decide) _ ha) (ne (I.Pt i hi) (by decide) _ hb)).trans (h.r1 i hi),fun i hi=>?_⟩
 by_cases HB:i=b
 ·subst HB;exact hB
 ·by_cases K8:i=a
  ·subst K8
   rw[hA,jF,jn HB]
  ·rw[jF,jn HB,jn K8,hf _ (I.OC i hi) (by simp only[eq_iff_iff,iff_false];exact fun he=>K8 (I.i2 i _ hi ha he)) (by simp only[eq_iff_iff,iff_false];exact fun he=>HB (I.i2 i _ hi hb he))]
   exact h.r2 i hi
theorem LQ (cnt:Nat) (uq:1<=cnt) (hn:cnt<=1048576) (c:Nat->Nat->Int) (hc:∀u v,u<cnt->v<cnt->0<=c u v/\c u v<=16777216) (x y:Nat) (hx:x<cnt) (hy:y<cnt) (Lv:x≠y) (t:Int) (ht:t<=1099511627776)
  (X o1 o2:Id) (R1 R2:Nat->Id) (nb:Nat) (I:CO X o1 o2 R1 R2 cnt nb) (σ:aw) (hM:mH σ.get X o1 o2 R1 R2 cnt c (fun _ _=>0)) (Iu:nb<=σ.next):
  Call Tryz.prog 175 [.ptr X 0 0,.int .i64 x,.int .i64 y,.int .i64 t] σ fun r σ'=>∃(k:Nat) (f:Nat->Nat->Int),r=.int .i64 k/\lY cnt c f x y k/\mH σ'.get X o1 o2 R1 R2 cnt c f/\((∃S:Nat->Bool,S x=true/\S y=false/\∀u v,u<cnt->v<cnt->S u=true->S v=false->¬f u v<c u v)∨t<=k)/\σ.next<=σ'.next:=by
 refine eZ dN rfl fun hl=>?_
 clear hl
 have hxS:(fun v=>decide (v=x)) x=true:=by simp
 have hyS:(fun v=>decide (v=x)) y=false:=by simp;exact fun h=>Lv h.symm
 obtain⟨top,QR⟩:∃top,top=k6 cnt (fun v=>decide (v=x)) c:=⟨_,rfl⟩
 (try((repeat(revert hN;revert N;apply Pn.out));refine wk @Nat.zero_add ?_;(repeat(refine Pn.mk ?_;intro N hN))))
 refine aL (fun m env st=>∃(k:Nat) (f:Nat->Nat->Int),m=(top-k).toNat/\env 9=.int .i64 (k:Int)/\lY cnt c f x y k/\mH st.get X o1 o2 R1 R2 cnt c f/\σ.next<=st.next/\(0<k->(k:Int)<=t)/\∀u v,-((k:Int)*(cnt:Int))<=f u v) (top-0).toNat ⟨0,fun _ _=>0,rfl,by(simp only[go_sem, ↓reduceIte,Nat.reduceEqDiff,Nat.reduceAdd,Nat.reduceSub,Nat.reduceLeDiff,reduceCtorEq])<;>rfl,lY.zero fun u v hu hv=>(hc u v hu hv).1,hM,bt,fun h=>absurd h (Nat.lt_irrefl 0),fun u v=>by simp⟩ ?_
 rintro m env_b st_b ⟨k,f,rfl,b9,hF,bM,bn,bk,blo⟩ bkp
 have b0:=bkp 0 (by kernel_rfl)
 have b1:=bkp 1 (by kernel_rfl)
 have b2:=bkp 2 (by kernel_rfl)
 have b3:=bkp 3 (by kernel_rfl)
 simp only[go_sem, ↓reduceIte,Nat.reduceEqDiff,Nat.reduceAdd,Nat.reduceSub,Nat.reduceLeDiff,reduceCtorEq]at b0 b1 b2 b3
 clear bkp
 have hz:bW (dz st_b.get) 6 [.ptr X 0 0,.int .i64 (x:Int),.int .i64 (y:Int)]=some [.cK (kA cnt c f),.int .i64 x,.int .i64 y]:=by simp only[ad,aj,bM.fz,aH,Option.map_some]
 (try((repeat(revert hN;revert N;apply Pn.out));refine wk (tw @b0 (tw @b1 (tw @b2 (tw @b3 @b9)))) ?_;(repeat(refine Pn.mk ?_;intro N hN))))
 refine .inr (aO _ _ _ _ _ (fun r σ1 hq=>?_) ((OD cnt uq hn c f x y hx hy).x mixed hz))
 obtain⟨Ll,rfl⟩:=hq
 refine hN _ _ ?_
 clear hN N
 rcases Ll with⟨rfl,S,Ih,Ii,Mv⟩|⟨p,rfl,hW⟩
 ·(try((repeat(revert hN;revert N;apply Pn.out));refine wk (tw @b0 (tw @b1 (tw @b2 (tw @b3 (tw @b9 (tw @Bool.not_true @Bool.not_false)))))) ?_;(repeat(refine Pn.mk ?_;intro N hN))))
  refine gn (.inl rfl) (vs:=[.int .i64 (k:Int)]) (sd @Nat.zero_add) ⟨k,f,rfl,hF,by(try dsimp only);exact bM,.inl ⟨S,Ih,Ii,Mv⟩,bt⟩
 ·obtain⟨⟨rs,rfl,sU⟩,km,fb,hplt⟩:=hW
  by_cases HE:t<=(k:Int)
  ·(try((repeat(revert hN;revert N;apply Pn.out));refine wk (tw @b0 (tw @b1 (tw @b2 (tw @b3 (tw @b9 (tw @HE (tw @Bool.not_true @Bool.not_false))))))) ?_;(repeat(refine Pn.mk ?_;intro N hN))))
   refine gn (.inl rfl) (vs:=[.int .i64 (k:Int)]) (sd @Nat.zero_add) ⟨k,f,rfl,hF,by(try dsimp only);exact bM,.inr HE,bt⟩
  ·(try((repeat(revert hN;revert N;apply Pn.out));refine wk (tw @b0 (tw @b1 (tw @b2 (tw @b3 (tw @b9 (tw @HE (tw @Bool.not_true @Bool.not_false))))))) ?_;(repeat(refine Pn.mk ?_;intro N hN))))
   have mv:=nk cnt _ km hplt
   have hkc:(k:Int)*(cnt:Int)<=1099511627776*1048576:=Int.mul_le_mul ab ab ab ab
   have hfb:=hF.bound (S:=fun v=>decide (v=x)) hxS hyS
   have hnear:=kZ
   obtain⟨p,hp⟩:∃p,p=x::rs:=⟨_,rfl⟩
   have hmp:eN x::List.map eN rs=p.map eN:=by rw[hp];rfl
   rw[hmp]
   have Lh:1<=p.length:=by rw[hp];simp
   have P0:=hF.aug sU km fb hplt
   rw[<-hp]at P0 km fb hplt mv
   have Lq:p.take 1=[x]:=by rw[hp];rfl
   clear hmp sU
   refine aL (fun m env st=>∃i:Nat,m=p.length-i/\1<=i/\i<=p.length/\env 11=.int .i64 (i:Int)/\mH st.get X o1 o2 R1 R2 cnt c (kY f (p.take i))/\st_b.next<=st.next) (p.length-1) ⟨1,rfl,Nat.le_refl _,Lh,by(simp only[go_sem, ↓reduceIte,Nat.reduceEqDiff,Nat.reduceAdd,Nat.reduceSub,Nat.reduceLeDiff,reduceCtorEq])<;>rfl,by rw[Lq];exact bM,bt⟩ ?_
   rintro m env_c st_c ⟨i,rfl,Iq,oj,mj,cM,cn⟩ ckp
   have c0:=ckp 0 (by kernel_rfl)
   have c1:=ckp 1 (by kernel_rfl)
   have c2:=ckp 2 (by kernel_rfl)
   have c3:=ckp 3 (by kernel_rfl)
   have c9:=ckp 9 (by kernel_rfl)
   have iM:=ckp 10 (by kernel_rfl)
   simp only[go_sem, ↓reduceIte,Nat.reduceEqDiff,Nat.reduceAdd,Nat.reduceSub,Nat.reduceLeDiff,reduceCtorEq,b0,b1,b2,b3,b9]at c0 c1 c2 c3 c9 iM
   clear ckp
   have kD:(p.map eN).length=p.length:=by simp
   by_cases hi:(i:Int)<(p.length:Int)
   ·have fy:i<p.length:=ab
    have uv:=CT (f:=f) Iq fy
    obtain⟨a,ha⟩:∃a,a=p[i-1]'ab:=⟨_,rfl⟩
    obtain⟨b,hb⟩:∃b,b=p[i]:=⟨_,rfl⟩
    have Cd:a<cnt:=by rw[ha];exact hplt _ (List.getElem_mem _)
    have Aw:b<cnt:=by rw[hb];exact hplt _ (List.getElem_mem _)
    have rh:a≠b:=by
     rw[ha,hb]
     exact List.pairwise_iff_getElem.1 km (i-1) i ab fy ab
    have NN:(p.map eN)[i-1]? =some [.int .i64 (a:Int)]:=by rw[List.getElem?_map,List.getElem?_eq_getElem ab,ha];rfl
    have NO:(p.map eN)[i]? =some [.int .i64 (b:Int)]:=by rw[List.getElem?_map,List.getElem?_eq_getElem fy,hb];rfl
    rw[<-ha,<-hb]at uv
    have QB:=kZ (p.take i) f a b
    have QC:=kZ (p.take i) f b a
    rw[List.length_take]at QB QC
    have hl1:=blo b a
    have hl2:=blo a b
    have N6:=hF.le a b Cd Aw
    have MJ:=hF.le b a Aw Cd
    have hca:=hc a b Cd Aw
    have Ce:=hc b a Aw Cd
    generalize kY f (p.take i)=fl at *
    have gA:=pW (R:=R2) (n:=cnt) Cd
    have gB:=pW (R:=R2) (n:=cnt) Aw
    have rA:=cM.r2 _ Cd
    have rB:=cM.r2 _ Aw
    have cA:=du (f:=fl a) Aw
    have cB:=du (f:=fl b) Cd
    have sA:=mP (f:=fl) (a:=a) (d:=1) Aw
    have Lf:bump fl a b 1 b=fl b:=jn fun h=>rh h.symm
    have sB:=mP (f:=bump fl a b 1) (a:=b) (b:=a) (d:=-1) (n:=cnt) Cd
    rw[Lf]at sB
    have gX:=cM.x
    have g2:=cM.t2
    have fK:(a:Int)<(cnt:Int):=ab
    have fc:(b:Int)<(cnt:Int):=ab
    have ET:IntKind.i64.wrap ((i:Int)-1)=((i-1:Nat):Int):=by rw[aY ab];omega
    have u4:((i-1:Nat):Int)<(p.length:Int):=ab
    have wA:IntKind.i64.wrap (fl a b+1)=fl a b+1:=aY ab
    have wB:IntKind.i64.wrap (fl b a-1)=fl b a+-1:=by rw[aY ab];omega
    have Oc:IntKind.i64.wrap ((i:Int)+1)=((i+1:Nat):Int):=ax ab
    have l2:=jv R2 cnt cnt
    have lA:=dk (fl a) cnt
    have lB:=dk (fl b) cnt
    have gF:(R2 a=R2 b)=False:=by simp only[eq_iff_iff,iff_false];exact fun h=>rh (I.i2 _ _ Cd Aw h)
    have F0:(R2 b=R2 a)=False:=by simp only[eq_iff_iff,iff_false];exact fun h=>rh (I.i2 _ _ Cd Aw h.symm)
    have xA:=xg I.sx (I.Kc a Cd) (by decide)
    have xB:=xg I.sx (I.Kc b Aw) (by decide)
    have yA:=xg I.s2 (I.Kc a Cd) (by decide)
    have yB:=xg I.s2 (I.Kc b Aw) (by decide)
    have qX:=eD (i:=X) (n:=st_c.next) (by have:=I.vx;omega)
    have q2:=eD (i:=o2) (n:=st_c.next) (by have:=I.v2;omega)
    have qA:=eD (i:=R2 a) (n:=st_c.next) (by have:=I.OC a Cd;omega)
    have qB:=eD (i:=R2 b) (n:=st_c.next) (by have:=I.OC b Aw;omega)
    rw[az]at cA cB sA sB
    (try((repeat(revert hN;revert N;apply Pn.out));refine wk (tw @c0 (tw @c9 (tw @iM (tw @mj (tw @kD (tw @hi (tw @u4 (tw @NN (tw @NO (tw @gA (tw @gB (tw @rA (tw @rB (tw @cA (tw @cB (tw @sA (tw @sB (tw @gX (tw @g2 (tw @fK (tw @fc (tw @ET (tw @wA (tw @wB (tw @Oc (tw @l2 (tw @lA (tw @lB (tw @gF (tw @F0 (tw @xA (tw @xB (tw @yA (tw @yB (tw @qX (tw @q2 (tw @qA @qB))))))))))))))))))))))))))))))))))))) ?_;(repeat(refine Pn.mk ?_;intro N hN))))
    refine⟨_,?_,i+1,rfl,ab,ab,sd @Oc,?_,bt⟩
    ·omega
    ·rw[uv]
     refine cM.push I Cd Aw rh ?_ ?_ fun j hj h1 h2=>?_
     ·simp only[go_sem, ↓reduceIte,Nat.reduceEqDiff,Nat.reduceAdd,Nat.reduceSub,Nat.reduceLeDiff,reduceCtorEq,gF]
     ·simp only[go_sem, ↓reduceIte,Nat.reduceEqDiff,Nat.reduceAdd,Nat.reduceSub,Nat.reduceLeDiff,reduceCtorEq,gF]
     ·simp only[go_sem, ↓reduceIte,Nat.reduceEqDiff,Nat.reduceAdd,Nat.reduceSub,Nat.reduceLeDiff,reduceCtorEq,h1,h2]
   ·have HC:i=p.length:=ab
    subst HC
    rw[List.take_length]at cM
    have ve:IntKind.i64.wrap ((k:Int)+1)=((k+1:Nat):Int):=ax ab
    have Qp:=P0.bound (S:=fun v=>decide (v=x)) hxS hyS
    (try((repeat(revert hN;revert N;apply Pn.out));refine wk (tw @c0 (tw @c9 (tw @iM (tw @mj (tw @kD (tw @hi @ve)))))) ?_;(repeat(refine Pn.mk ?_;intro N hN))))
    refine⟨_,?_,k+1,_,rfl,sd @ve,by rw[Int.natCast_add];exact P0,cM,bt,fun _=>ab,fun u v=>?_⟩
    ·rw[<-QR]at Qp;omega
    ·have h1:=(kZ p f u v).2
     have h2:=blo u v
     rw[Int.natCast_add,Int.add_mul]
     omega
theorem LP (cnt:Nat) (uq:1<=cnt) (hn:cnt<=1048576) (c:Nat->Nat->Int) (hc:∀u v,u<cnt->v<cnt->0<=c u v/\c u v<=16777216) (x y:Nat) (hx:x<cnt) (hy:y<cnt) (Lv:x≠y) (t:Int) (ht:t<=1099511627776)
  (X o1 o2:Id) (R1 R2:Nat->Id) (nb:Nat) (I:CO X o1 o2 R1 R2 cnt nb) (σ:aw) (hM:mH σ.get X o1 o2 R1 R2 cnt c (fun _ _=>0)) (Iu:nb<=σ.next):
  Call Tryz.prog 175 [.ptr X 0 0,.int .i64 x,.int .i64 y,.int .i64 t] σ fun r σ'=>∃val:Int,r=.int .i64 val/\(val<t↔∃S:Nat->Bool,S x=true/\S y=false/\k6 cnt S c<t)/\σ.next<=σ'.next:=by
 refine aO _ _ _ _ _ (fun r σ1 hq=>?_) (LQ cnt uq hn c hc x y hx hy Lv t ht X o1 o2 R1 R2 nb I σ hM Iu)
 obtain⟨k,f,rfl,hF,_,hS,hle⟩:=hq
 refine⟨(k:Int),rfl,⟨fun h=>?_,fun⟨S',h1,h2,h3⟩=>by have:=hF.bound h1 h2;omega⟩,hle⟩
 rcases hS with⟨S,Ih,Ii,Mv⟩|h2
 ·exact⟨S,Ih,Ii,by rw[<-hF.full Ih Ii Mv];exact h⟩
 ·omega
noncomputable def rl (n:Nat) (bs:List PB) (t:Int):Bool:=@decide (jN n bs t) (Classical.propDecidable _)
theorem u7 {n:Nat} {bs:List PB} {t:Int} (h:jN n bs t):true=rl n bs t:=by simp[rl,h]
theorem yK {n:Nat} {bs:List PB} {t:Int} (h:¬jN n bs t):false=rl n bs t:=by simp[rl,h]
theorem Iw (cnt:Nat) (hn:cnt<=1048576) (bs:List PB) (hb:∀b∈bs,b.a<cnt/\b.b<cnt) (dQ:∀b∈bs,0<=b.s/\b.s<=4) (oY:bs.length<=1048576) (t:Int) (ht:t<=1099511627776):
  ai Tryz.prog 155 [.int .i64 cnt,.sl (bs.map au),.int .i64 t] (.bool (rl cnt bs t)):=by
 refine ai.body dN rfl fun hl n0=>?_
 clear hl
 have kK:=w8 bs (fun _ _=>0) (fun b h=>(dQ b h).1) (fun _ _=>Int.le_refl _)
 have hle:=room_le bs (fun _ _=>0) 0 (fun b h=>(dQ b h).2) (fun _ _=>Int.le_refl _) (Int.le_refl _)
 have fb:bs.foldl mh (fun _ _=>0)=j6 bs:=rfl
 rw[fb]at kK hle
 (try((repeat(revert hN;revert N;apply Pn.out));refine wk @Nat.zero_add ?_;(repeat(refine Pn.mk ?_;intro N hN))))
 refine aL (fun m env st=>∃y:Nat,m=cnt+1-y/\1<=y/\env 7=.int .i64 (y:Int)/\y<=cnt+1/\∀z,1<=z->z<y->z<cnt->∀S:Nat->Bool,S 0=true->S z=false->t<=g8 S bs) (cnt+1-1) ⟨1,rfl,Nat.le_refl _,by(simp only[go_sem, ↓reduceIte,Nat.reduceEqDiff,Nat.reduceAdd,Nat.reduceSub,Nat.reduceLeDiff,reduceCtorEq])<;>rfl,ab,fun z h1 h2=>ab⟩ ?_
 rintro m env_b st_b ⟨y,rfl,hy1,b7,hyl,di⟩ bkp
 have b0:=bkp 0 (by kernel_rfl)
 have b1:=bkp 1 (by kernel_rfl)
 have b2:=bkp 2 (by kernel_rfl)
 simp only[go_sem, ↓reduceIte,Nat.reduceEqDiff,Nat.reduceAdd,Nat.reduceSub,Nat.reduceLeDiff,reduceCtorEq]at b0 b1 b2
 clear bkp
 by_cases hy:(y:Int)<(cnt:Int)
 ·have hyn:y<cnt:=ab
  (try((repeat(revert hN;revert N;apply Pn.out));refine wk (tw @b0 (tw @b1 (tw @b2 (tw @b7 @hy)))) ?_;(repeat(refine Pn.mk ?_;intro N hN))))
  refine .inr (aO _ _ _ _ _ (fun r σ1 hq=>?_) (ze cnt ab hn bs hb dQ oY _))
  obtain⟨X,o1,o2,R1,R2,rfl,I,It,hM,_⟩:=hq
  refine hN _ _ ?_
  clear hN N
  (try((repeat(revert hN;revert N;apply Pn.out));refine wk (tw @b0 (tw @b1 (tw @b2 @b7))) ?_;(repeat(refine Pn.mk ?_;intro N hN))))
  have hsd:=LP cnt ab hn (j6 bs) (fun u v _ _=>⟨kK u v,by have:=hle u v;omega⟩) 0 y ab hyn ab t ht X o1 o2 R1 R2 σ1.next I
  refine .inr (aO _ _ _ _ _ (fun r σ2 hq=>?_) (hsd _ hM bt))
  obtain⟨val,rfl,oL,lJ⟩:=hq
  refine hN _ _ ?_
  clear hN N
  by_cases dF:val<t
  ·(try((repeat(revert hN;revert N;apply Pn.out));refine wk (tw @b0 (tw @b1 (tw @b2 (tw @b7 @dF)))) ?_;(repeat(refine Pn.mk ?_;intro N hN))))
   obtain⟨S,h1,h2,h3⟩:=oL.1 dF
   rw[yd hb]at h3
   exact aJ (b:=false) (.inl rfl) (sd @Nat.zero_add) (yK fun h=>by have:=h S h1 ⟨y,hyn,h2⟩;omega)
  ·have hw:IntKind.i64.wrap ((y:Int)+1)=((y+1:Nat):Int):=ax ab
   (try((repeat(revert hN;revert N;apply Pn.out));refine wk (tw @b0 (tw @b1 (tw @b2 (tw @b7 (tw @dF @hw))))) ?_;(repeat(refine Pn.mk ?_;intro N hN))))
   refine⟨_,?_,y+1,rfl,ab,sd (tw @b7 @hw),ab,fun z h1 h2 h3 S Ih Ii=>?_⟩
   ·omega
   ·by_cases hzy:z=y
    ·subst hzy
     rcases Int.lt_or_le (g8 S bs) t with h|h
     ·exact absurd (oL.2 ⟨S,Ih,Ii,by rw[yd hb];exact h⟩) dF
     ·exact h
    ·exact di z h1 ab h3 S Ih Ii
 ·(try((repeat(revert hN;revert N;apply Pn.out));refine wk (tw @b0 (tw @b1 (tw @b2 (tw @b7 @hy)))) ?_;(repeat(refine Pn.mk ?_;intro N hN))))
  exact aJ (b:=true) (.inl rfl) (sd @Nat.zero_add) (u7 fun S h0 ⟨z,hz,hzf⟩=>by
   have:z≠0:=by rintro rfl;rw[h0]at hzf;cases hzf
   exact di z ab ab hz S h0 hzf)
theorem F2 (cnt:Nat) (hn:cnt<=1048576) (bs:List PB) (hb:∀b∈bs,b.a<cnt/\b.b<cnt) (dQ:∀b∈bs,0<=b.s/\b.s<=4) (oY:bs.length<=1048576) (t:Int) (ht:t<=1099511627776):
  ai Tryz.prog 155 [.int .i64 cnt,xd bs,.int .i64 t] (.bool (rl cnt bs t)):=by
 have h:=Iw cnt hn bs hb dQ oY t ht
 cases bs with
 |nil=>exact h.cut mixed (.same _ (.bC (.same _ .nil)))
 |cons b r=>rw[xe (by simp)];exact h
def zJ:Prop:=∀(s:aq) (l:List ak),lu s->rI s l->ai Tryz.prog 154 [.agg (aa s),.agg [.sl (l.map ah)]] (xd (cj s l))
noncomputable def se (s:aq) (l:List ak) (t:Int):Bool:=if 64<gz s l t then false else rl (gz s l t) (dc (dI (aD t (cj s l))) (cj s l)) t
theorem AR (s:aq) (l:List ak) (t:Int):se s l t=me s l t:=by
 letI:=Classical.propDecidable (nE l.length (cj s l) t)
 unfold se
 by_cases h:64<gz s l t
 ·rw[if_pos h]
  exact(lk (p:=False) ⟨False.elim,fun k=>by have:=k.1;unfold gz at h;omega⟩).symm.trans (by simp) |>.symm
 ·rw[if_neg h]
  by_cases hp:jN (gz s l t) (dc (dI (aD t (cj s l))) (cj s l)) t
  ·rw[<-u7 hp]
   exact((lk (p:=True) ⟨fun _=>⟨by unfold gz at h;omega,hp⟩,fun _=>trivial⟩).symm.trans (by simp)).symm
  ·rw[<-yK hp]
   exact((lk (p:=False) ⟨False.elim,fun k=>hp k.2⟩).symm.trans (by simp)).symm
theorem GZ (PV:zJ) (s:aq) (l:List ak) (t:Int) (ht:t<=1099511627776) (h1:1<=l.length) (hS:lu s) (hA:rI s l):ai Tryz.prog 131 [.agg (aa s),.agg [.sl (l.map ah)],.int .i64 t] (.ib [.bool (me s l t),.bool (decide ¬64<gz s l t)]):=by
 rw[<-AR]
 refine ai.body dN rfl fun hl n0=>?_
 clear hl
 have hb:=uM (l:=l) hS
 have oY:=ox (s:=s) hA.1
 have NJ:=hA.1.EH
 have yG:=PV s l hS hA
 have NF:=wg l.length h1 ab (cj s l) (fun b h=>⟨(hb b h).1,(hb b h).2.1⟩) ab t
 have hL:=rq (aD t (cj s l))
 have fy:=Bu hL (fun b h=>⟨(hb b h).1,(hb b h).2.1⟩)
 have hlen:=(lQ (dI (aD t (cj s l))) (cj s l)).1
 have mm:=iX l.length (dI (aD t (cj s l)))
 have hho:=F2 (gz s l t) (by unfold gz;omega) (dc (dI (aD t (cj s l))) (cj s l)) (fun b h=>⟨(fy b h).1,(fy b h).2.1⟩) (fun b h=>by
  obtain⟨_,_,_,c,hc,dh⟩:=fy b h
  rw[dh];have:=hb c hc;omega) ab t ht
 have fu:(l.map ah).length=l.length:=by simp
 have hzB:∀(g:Rows) (n:Nat) (bs:List PB),V.fz g (n+1) (xd bs)=some (xd bs):=fun g n bs=>by
  unfold xd;split
  ·exact aQ _ _
  ·exact cl _ _ _
 rw[aa]at yG
 rw[<-gz]at NF
 have vh:∀(g:Rows) (x:Int),bW (dz g) 6 [.int .i64 l.length,xd (cj s l),.int .i64 x]=some [.int .i64 l.length,xd (cj s l),.int .i64 x]:=fun g x=>by simp only[ad,aj,aH,hzB,Option.map_some]
 have hzh:∀(g:Rows) (x y:Int),bW (dz g) 6 [.int .i64 x,xd (dc (dI (aD t (cj s l))) (cj s l)),.int .i64 y]=some [.int .i64 x,xd (dc (dI (aD t (cj s l))) (cj s l)),.int .i64 y]:=fun g x y=>by simp only[ad,aj,aH,hzB,Option.map_some]
 generalize xd (cj s l)=B1 at *
 generalize xd (dc (dI (aD t (cj s l))) (cj s l))=B2 at *
 by_cases rP:(64:Int)<(gz s l t:Int)
 ·have rQ:64<gz s l t:=ab
  (repeat(first|((repeat(revert hN;revert N;apply Pn.out));refine wk (tw @aa.eq_1 (tw @rP @fu)) ?_;(repeat(refine Pn.mk ?_;intro N hN)))|((try apply Or.inl);refine⟨_,ai.x (yG) (sd (tw @aa.eq_1 (tw @rP @fu))),?_⟩;refine hN _ _ ?_;clear hN N)))
  refine⟨_,ai.x NF (vh _ _),?_⟩
  refine hN _ _ ?_
  clear hN N
  (try((repeat(revert hN;revert N;apply Pn.out));refine wk @rP ?_;(repeat(refine Pn.mk ?_;intro N hN))))
  exact iJ (.inl rfl) (r1:=.bool false) (r2:=.bool false) (sd @Nat.zero_add) (sd @Nat.zero_add) (by rw[se,if_pos rQ,decide_eq_false fun h=>h rQ];simp only[eJ,bd,bE,eO,Option.map_some])
 ·have rQ:¬64<gz s l t:=ab
  (repeat(first|((repeat(revert hN;revert N;apply Pn.out));refine wk (tw @aa.eq_1 (tw @rP @fu)) ?_;(repeat(refine Pn.mk ?_;intro N hN)))|((try apply Or.inl);refine⟨_,ai.x (yG) (sd (tw @aa.eq_1 (tw @rP @fu))),?_⟩;refine hN _ _ ?_;clear hN N)))
  refine⟨_,ai.x NF (vh _ _),?_⟩
  refine hN _ _ ?_
  clear hN N
  (try((repeat(revert hN;revert N;apply Pn.out));refine wk @rP ?_;(repeat(refine Pn.mk ?_;intro N hN))))
  refine .inl ⟨_,ai.x hho (hzh _ _ _),?_⟩
  refine hN _ _ ?_
  clear hN N
  (try((repeat(revert hN;revert N;apply Pn.out));refine wk @Nat.zero_add ?_;(repeat(refine Pn.mk ?_;intro N hN))))
  exact iJ (.inl rfl) (r1:=.bool (rl (gz s l t) (dc (dI (aD t (cj s l))) (cj s l)) t)) (r2:=.bool true) (sd @Nat.zero_add) (sd @Nat.zero_add) (by rw[se,if_neg rQ,decide_eq_true rQ];simp only[eJ,bd,bE,eO,Option.map_some])
theorem rT (t:Int):ai Tryz.prog 130 [.int .i64 t] (.bool (gD t 1 16)):=by
 refine ai.body dN rfl fun hl n0=>?_
 clear hl
 have h:=iL t 1 16
 (repeat(first|((repeat(revert hN;revert N;apply Pn.out));refine wk @Nat.zero_add ?_;(repeat(refine Pn.mk ?_;intro N hN)))|((try apply Or.inl);refine⟨_,ai.x (h) (sd @Nat.zero_add),?_⟩;refine hN _ _ ?_;clear hN N)))
 exact aJ (b:=gD t 1 16) (.inl rfl) (sd @Nat.zero_add) rfl
theorem tZ (PV:zJ) (s:ck) (hn:fC s.aA) (hg:s.aA.ar.length<=1048576) (ht:s.aA.ae.length<=1048576) (hs:∀t∈s.aA.ae,t.aX.length<=1048576) (hl:s.bJ.ae.length<=1048576):ai Tryz.prog 72 [.agg (ay s)] (.bool (lT s)):=by
 refine ai.body dN rfl fun rR n0=>?_
 clear rR
 by_cases h0:(s.bJ.ae.length:Int)=0
 ·have hd:decide ((s.bJ.ae.length:Int)=0)=true:=decide_eq_true h0
  (try((repeat(revert hN;revert N;apply Pn.out));refine wk (tw @ay.eq_1 @hd) ?_;(repeat(refine Pn.mk ?_;intro N hN))))
  exact aJ (b:=false) (.inl rfl) (sd @Nat.zero_add) (jj fun h=>by have:=h.some;omega)
 have hd:decide ((s.bJ.ae.length:Int)=0)=false:=decide_eq_false h0
 have K1:=l7 s.aA s.bJ.ae hn hg ht hs hl
 have Nw:=rT s.aE
 have key:ai Tryz.prog 101 [.agg (aa s.aA),.agg [.sl (s.bJ.ae.map ah)],.int .i64 s.aE] (.ib [.bool (lT s),.int .i64 (if oU s.aA&&nV s.aA s.bJ.ae then(if gD s.aE 1 16 then(if 64<gz s.aA s.bJ.ae s.aE then 4 else 0)else 2)else 1)]):=by
  refine ai.body dN rfl fun rR n0=>?_
  clear rR
  rw[aa]at K1
  cases hA:oU s.aA&&nV s.aA s.bJ.ae
  ·rw[hA]at K1
   have jI:lT s=false:=(jj fun h=>by rw[lj.2 h.set,kX.2 h.LO]at hA;cases hA).symm
   (repeat(first|((repeat(revert hN;revert N;apply Pn.out));refine wk @aa.eq_1 ?_;(repeat(refine Pn.mk ?_;intro N hN)))|((try apply Or.inl);refine⟨_,ai.x (K1) (sd @aa.eq_1),?_⟩;refine hN _ _ ?_;clear hN N)))
   exact iJ (.inl rfl) (r1:=.bool false) (r2:=.int .i64 1) (sd @Nat.zero_add) (sd @Nat.zero_add) (by rw[jI];simp only[eJ,bd,bE,eO,dV,Option.map_some];rfl)
  rw[hA]at K1
  simp only[Bool.and_eq_true]at hA
  have hS:=lj.1 hA.1
  have hP:=kX.1 hA.2
  cases hT:gD s.aE 1 16
  ·rw[hT]at Nw
   have jI:lT s=false:=(jj fun h=>by have:=h.LX;rw[hT]at this;cases this).symm
   (repeat(first|((repeat(revert hN;revert N;apply Pn.out));refine wk @aa.eq_1 ?_;(repeat(refine Pn.mk ?_;intro N hN)))|((try apply Or.inl);refine⟨_,ai.x (K1) (sd @aa.eq_1),?_⟩;refine hN _ _ ?_;clear hN N)|((try apply Or.inl);refine⟨_,ai.x (Nw) (sd @aa.eq_1),?_⟩;refine hN _ _ ?_;clear hN N)))
   exact iJ (.inl rfl) (r1:=.bool false) (r2:=.int .i64 2) (sd @Nat.zero_add) (sd @Nat.zero_add) (by rw[jI];simp only[eJ,bd,bE,eO,dV,Option.map_some];rfl)
  have EP:=dt hT
  rw[hT]at Nw
  have dQ:=GZ PV s.aA s.bJ.ae s.aE ab ab hS hP
  rw[aa]at dQ
  have hsy:lT s=me s.aA s.bJ.ae s.aE:=by
   cases hB:me s.aA s.bJ.ae s.aE
   ·exact(jj fun h=>by have:=nP.2 h.holds;rw[hB]at this;cases this).symm
   ·exact(zp ⟨hS,hP,ab,hT,nP.1 hB⟩).symm
  by_cases rP:64<gz s.aA s.bJ.ae s.aE
  ·rw[decide_eq_false fun h=>h rP]at dQ
   have jI:lT s=false:=(jj fun h=>by have:=h.holds.1;unfold gz at rP;omega).symm
   (repeat(first|((repeat(revert hN;revert N;apply Pn.out));refine wk @aa.eq_1 ?_;(repeat(refine Pn.mk ?_;intro N hN)))|((try apply Or.inl);refine⟨_,ai.x (K1) (sd @aa.eq_1),?_⟩;refine hN _ _ ?_;clear hN N)|((try apply Or.inl);refine⟨_,ai.x (Nw) (sd @aa.eq_1),?_⟩;refine hN _ _ ?_;clear hN N)|((try apply Or.inl);refine⟨_,ai.x (dQ) (sd @aa.eq_1),?_⟩;refine hN _ _ ?_;clear hN N)))
   exact iJ (.inl rfl) (r1:=.bool false) (r2:=.int .i64 4) (sd @Nat.zero_add) (sd @Nat.zero_add) (by rw[jI,if_pos rP];simp only[eJ,bd,bE,eO,dV,Option.map_some])
  ·rw[decide_eq_true rP,<-hsy]at dQ
   (repeat(first|((repeat(revert hN;revert N;apply Pn.out));refine wk @aa.eq_1 ?_;(repeat(refine Pn.mk ?_;intro N hN)))|((try apply Or.inl);refine⟨_,ai.x (K1) (sd @aa.eq_1),?_⟩;refine hN _ _ ?_;clear hN N)|((try apply Or.inl);refine⟨_,ai.x (Nw) (sd @aa.eq_1),?_⟩;refine hN _ _ ?_;clear hN N)|((try apply Or.inl);refine⟨_,ai.x (dQ) (sd @aa.eq_1),?_⟩;refine hN _ _ ?_;clear hN N)))
   exact iJ (.inl rfl) (r1:=.bool (lT s)) (r2:=.int .i64 0) (sd @Nat.zero_add) (sd @Nat.zero_add) (by rw[if_neg rP];simp only[eJ,bd,bE,eO,dV,Option.map_some])
 generalize hcode:(if oU s.aA&&nV s.aA s.bJ.ae then(if gD s.aE 1 16 then(if 64<gz s.aA s.bJ.ae s.aE then(4:Int)else 0)else 2)else 1)=code at key
 rw[aa]at key
 cases hB:lT s
 ·rw[hB]at key
  (repeat(first|((repeat(revert hN;revert N;apply Pn.out));refine wk (tw @ay.eq_1 @hd) ?_;(repeat(refine Pn.mk ?_;intro N hN)))|((try apply Or.inl);refine⟨_,ai.x (key) (sd (tw @ay.eq_1 @hd)),?_⟩;refine hN _ _ ?_;clear hN N)))
  exact aJ (b:=false) (.inl rfl) (sd @Nat.zero_add) rfl
 ·rw[hB]at key
  have hP:=tG.1 hB
  have hc:code=0:=by
   rw[<-hcode,lj.2 hP.set,kX.2 hP.LO,hP.LX]
   have:=hP.holds.1
   simp only[Bool.and_self,if_true]
   rw[if_neg (by unfold gz;omega)]
  rw[hc]at key
  (repeat(first|((repeat(revert hN;revert N;apply Pn.out));refine wk (tw @ay.eq_1 @hd) ?_;(repeat(refine Pn.mk ?_;intro N hN)))|((try apply Or.inl);refine⟨_,ai.x (key) (sd (tw @ay.eq_1 @hd)),?_⟩;refine hN _ _ ?_;clear hN N)))
  exact aJ (b:=true) (.inl rfl) (sd @Nat.zero_add) rfl
end Go.Proofs.YtihgaadadaekmaaGreatDoor.V

namespace Go.Proofs.YtihgaadadaekmaaGreatDoor
open Go.RowKit
theorem zm (x:ByteArray) (l:List UInt8) (h:x.data.toList=l):x=⟨l.toArray⟩:=by
 subst h
 cases x
 simp
theorem Ek (i:Nat) (h:i<100) (w:World):
  Calls Tryz.prog 158 #[.int .i64 i] w fun e w'=>e=.returned (.string ⟨(Lib.decDigits i).toArray⟩)/\w'=w:=by
 go_enter Tryz.func158,Tryz.ntmps158
 go_name_bytes_deep 45 SM hSM
 have eSM:SM=Lib.smalls:=by rw[<-hSM];decide+kernel
 subst eSM
 clear hSM
 go_name_bytes_deep 30 DG hDG
 have eDG:DG=Lib.digits36:=by rw[<-hDG];decide+kernel
 subst eDG
 clear hDG
 by_cases FI:i<10
 ·have tW:∀w,(Instr.slice 9 (.string Lib.digits36) (some (.int .i64 (i:Int))) (some (.int .i64 ((i:Int)+1))) none).run Tryz.prog w=.ok (.string (Lib.digits36.extract i (i+1))) w:=fun w=>by
   rw[run_slice_string w 9 Lib.digits36 .i64 .i64 _ _ Tryz.underlying9 (by omega) (by omega) (by rw[Lib.digits36_size];omega),show((i:Int)).toNat=i by omega,show((i:Int)+1).toNat=i+1 by omega]
  go_wp2
  go_ret
  refine⟨?_,rfl⟩
  show Ending.returned (Value.string (Lib.digits36.extract i (i+1)))= _
  rw[zm (Lib.digits36.extract i (i+1)) (Lib.decDigits i) (by rw[Lib.extract_data];exact Lib.digits36_piece FI)]
 ·have tW:∀w,(Instr.slice 9 (.string Lib.smalls) (some (.int .i64 ((i:Int)*2))) (some (.int .i64 ((i:Int)*2+2))) none).run Tryz.prog w=.ok (.string (Lib.smalls.extract (i*2) (i*2+2))) w:=fun w=>by
   rw[run_slice_string w 9 Lib.smalls .i64 .i64 _ _ Tryz.underlying9 (by omega) (by omega) (by rw[Lib.smalls_size];omega),show((i:Int)*2).toNat=i*2 by omega,show((i:Int)*2+2).toNat=i*2+2 by omega]
  go_wp2
  go_ret
  refine⟨?_,rfl⟩
  show Ending.returned (Value.string (Lib.smalls.extract (i*2) (i*2+2)))= _
  rw[zm (Lib.smalls.extract (i*2) (i*2+2)) (Lib.decDigits i) (by rw[Lib.extract_data];exact Lib.smalls_piece FI h)]
theorem Aj (i:Nat) (hi:i<100) (w:World):
  Calls Tryz.prog 143 #[.int .i64 i,.int .i64 10] w fun e w'=>e=.returned (.string ⟨(Lib.decDigits i).toArray⟩)/\w'=w:=by
 go_enter Tryz.func143,Tryz.ntmps143
 go_wp2_with (go_at_call 158;refine(Ek i hi _).mono ?_;rintro e w' ⟨rfl,rfl⟩)
 go_ret
 exact⟨rfl,rfl⟩
theorem wh:∀n:Fin 100,(⟨(Lib.decDigits n.1).toArray⟩:ByteArray)=V.gO n.1:=by decide+kernel
namespace V
attribute [local irreducible] dP wpOps gN Call
attribute [local go_sem] aI fI eE fW fV cv upd cq K.av cL AV.cells AV.cell rowOf rowsOf part ld rowAt bK bY dH eh ij bL da eA fZ eX dr eo cY cX dR dS bR bf cQ bQ cT cR ej ep ek cP bU cZ ei bP aM cV cz ig br cI bS aZ dD bp dJ AV.undef bB bH dX ef dO ea cF ez eC cu eu er cU cW List.getD_cons_zero List.getD_cons_succ List.getD_nil List.all_cons List.all_nil Bool.and_true Bool.true_and Bool.and_self Bool.not_true Bool.not_false Option.map_some Option.map_none Option.bind_some Option.bind_none List.length_cons List.length_nil List.take_succ_cons List.take_zero List.take_nil List.drop_succ_cons List.drop_zero List.drop_nil List.head?_cons List.map_cons List.map_nil List.getElem?_cons_zero List.getElem?_cons_succ List.cons_append List.nil_append List.append_nil List.length_map List.set_cons_zero List.set_cons_succ Nat.reduceMul eq_self Int.toNat_natCast Int.natCast_nonneg and_self true_and and_true decide_true decide_false Bool.false_eq_true Nat.zero_add Nat.add_zero List.contains_cons List.contains_nil Bool.or_false Bool.false_or beq_self_eq_true Nat.reduceBEq ne_eq not_true_eq_false not_false_eq_true Id.mk.injEq false_and and_false Nat.reduceLT Int.reduceLE Int.reduceLT Int.reduceToNat Int.reduceNeg Int.reduceAdd Nat.le_refl List.length_append beq_true beq_false Bool.not_eq_eq_eq_not or_false false_or dz ad aj aH bx cl aQ bj aW bh cN bz
theorem Jf {P:Program} {w:World} {D:Nat->Prop} {ι:Names} {k m:Int} {vs:Array Value} (h:eM P w D ι [.int .i64 k,.int .i64 m] vs):vs= #[.int .i64 k,.int .i64 m]:=by
 obtain⟨h1,h2⟩:=h
 obtain⟨u,hu,hr⟩:=h2 0 _ rfl
 rw[db hr]at hu
 obtain⟨u2,MJ,AK⟩:=h2 1 _ rfl
 rw[db AK]at MJ
 obtain⟨l⟩:=vs
 match l,h1 with
 |[a,b],_=>
  simp at hu MJ
  rw[hu,MJ]
theorem FH (n:Nat) (h:n<100):ai Tryz.prog 143 [.int .i64 (n:Int),.int .i64 10] (.str (gO n)):=
 jh (vs0:= #[.int .i64 (n:Int),.int .i64 10]) (u0:=.string (gO n)) (fun _ _ _ _=>Jf) (fun _ _ _=>.ev _ _ (.str _)) (fun g=>kB g 5 _) fun w=>(Aj n h w).mono (by
  rintro e w' ⟨rfl,rfl⟩
  exact⟨by rw[wh ⟨n,h⟩],Below.refl _ _⟩)
theorem yv (n:Nat) (h:n<100):ai Tryz.prog 122 [.int .i64 (n:Int),.int .i64 10] (.str (gO n)):=by
 refine ai.body dN rfl fun hl n0=>?_
 clear hl
 have h1:=FH n h
 (repeat(first|((repeat(revert hN;revert N;apply Pn.out));refine wk @Nat.zero_add ?_;(repeat(refine Pn.mk ?_;intro N hN)))|((try apply Or.inl);refine⟨_,ai.x (h1) (sd @Nat.zero_add),?_⟩;refine hN _ _ ?_;clear hN N)))
 exact j5 (.inl rfl) (vs:=[.str (gO n)]) (sd @Nat.zero_add) (by simp only[dU,kB])
theorem CL (n:Nat) (h:n<100):ai Tryz.prog 89 [.int .i64 (n:Int)] (.str (gO n)):=by
 refine ai.body dN rfl fun hl n0=>?_
 clear hl
 have h1:=yv n h
 (repeat(first|((repeat(revert hN;revert N;apply Pn.out));refine wk @Nat.zero_add ?_;(repeat(refine Pn.mk ?_;intro N hN)))|((try apply Or.inl);refine⟨_,ai.x (h1) (sd @Nat.zero_add),?_⟩;refine hN _ _ ?_;clear hN N)))
 exact j5 (.inl rfl) (vs:=[.str (gO n)]) (sd @Nat.zero_add) (by simp only[dU,kB])
theorem Bc (u:ByteArray) (hu:u.size<=1000) (n:Nat) (h:n<100):ai Tryz.prog 74 [.str u,.int .i64 (n:Int)] (.str (u++gO n)):=by
 refine ai.body dN rfl fun hl n0=>?_
 clear hl
 have h1:=CL n h
 have h2:u.size+(gO n).size<=9223372036854775807:=by have:=Fu n;omega
 generalize gO n=d at h1 h2 ⊢
 (repeat(first|((repeat(revert hN;revert N;apply Pn.out));refine wk @h2 ?_;(repeat(refine Pn.mk ?_;intro N hN)))|((try apply Or.inl);refine⟨_,ai.x (h1) (sd @h2),?_⟩;refine hN _ _ ?_;clear hN N)))
 exact j5 (.inl rfl) (vs:=[.str (u++d)]) (sd @Nat.zero_add) (by simp only[dU,kB])
theorem Bb (nm u:ByteArray) (hu:u.size<=1000) (nJ:Nat) (NS:nJ<=10):ai Tryz.prog 43 [.str nm,.str u,.int .i64 (nJ:Int)] (.int .i64 (lF nm u nJ)):=by
 refine ai.body dN rfl fun hl n0=>?_
 clear hl
 (try((repeat(revert hN;revert N;apply Pn.out));refine wk @Nat.zero_add ?_;(repeat(refine Pn.mk ?_;intro N hN))))
 refine aL (fun n env st=>∃k:Nat,n=(nJ)-k/\k<=(nJ)/\env 9=.int .i64 (k:Int)/\(∀j:Nat,j<k->nm≠u++gO j)) (nJ) ⟨0,by omega,by omega,sl @Nat.zero_add,fun _ h=>absurd h (Nat.not_lt_zero _)⟩ ?_
 rintro n_a env_a st_a ⟨k,rfl,ale,a9,kj⟩ dC
 have a0:=dC 0 (by kernel_rfl);have a1:=dC 1 (by kernel_rfl);have a8:=dC 8 (by kernel_rfl)
 simp only[go_sem, ↓reduceIte,Nat.reduceEqDiff,Nat.reduceAdd,Nat.reduceSub,Nat.reduceLeDiff,reduceCtorEq]at a0 a1 a8
 clear dC
 by_cases hk:(k:Int)<(nJ:Int)
 ·have bZ:∀{e:Env},(e 9=.int .i64 (IntKind.i64.wrap ((k:Int)+1)))->(nm≠u++gO k)->∃m0,m0<(nJ)-k/\∃k:Nat,m0=(nJ)-k/\k<=(nJ)/\e 9=.int .i64 (k:Int)/\(∀j:Nat,j<k->nm≠u++gO j):=fun x1 x2=>⟨_,by omega,k+1,rfl,by omega,(by rw[x1,ax (by omega)]),(all_succ kj x2)⟩
  have eY:k<nJ:=by omega
  have Iu:=Bc u hu k (by omega)
  have nX:=yh (nm:=nm) (pre:=u) eY NS
  by_cases he:nm=u++gO k
  ·have hd:=decide_eq_true he
   have hv:=nX.1 he
   (repeat(first|((repeat(revert hN;revert N;apply Pn.out));refine wk (tw @a9 (tw @a0 (tw @a1 (tw @a8 (tw @hk @hd))))) ?_;(repeat(refine Pn.mk ?_;intro N hN)))|((try apply Or.inl);refine⟨_,ai.x (Iu) (sd (tw @a9 (tw @a0 (tw @a1 (tw @a8 (tw @hk @hd)))))),?_⟩;refine hN _ _ ?_;clear hN N)))
   exact bq (b:=(k:Int)) (.inl rfl) (sd @Nat.zero_add) hv.symm
  ·have hd:=decide_eq_false he
   (repeat(first|((repeat(revert hN;revert N;apply Pn.out));refine wk (tw @a9 (tw @a0 (tw @a1 (tw @a8 (tw @hk @hd))))) ?_;(repeat(refine Pn.mk ?_;intro N hN)))|((try apply Or.inl);refine⟨_,ai.x (Iu) (sd (tw @a9 (tw @a0 (tw @a1 (tw @a8 (tw @hk @hd)))))),?_⟩;refine hN _ _ ?_;clear hN N)))
   exact bZ (sd (tw @a9 (tw @a0 (tw @a1 @a8)))) (he)
 ·have ki:k=nJ:=by omega
  subst ki
  (try((repeat(revert hN;revert N;apply Pn.out));refine wk (tw @a9 (tw @a0 (tw @a1 (tw @a8 @hk)))) ?_;(repeat(refine Pn.mk ?_;intro N hN))))
  exact bq (b:=-1) (.inl rfl) (sd @Nat.zero_add) (Dc NS fun n hn=>kj n hn).symm
theorem yC (s:aq) (hF:iU s) (l:List ak) (hA:rI s l) (p:bI) (d:Int) (hd:gD d 0 3=true):ai Tryz.prog 44 [.agg (aa s),.agg [.sl (l.map ah)],.agg (ao p),.int .i64 d] (.str (EI s l p d)):=by
 refine ai.body dN rfl fun hl n0=>?_
 have hn:s.ar.length<=9223372036854775807:=by
  have h1:=(hl (.agg (aa s)) (by simp)).HR (a:=.sl (s.ar.map aT)) (by simp[aa])
  simpa using h1.len
 clear hl
 have xC:=PF l p hA.1.Pr (by have:=hA.1.EH;omega)
 rw[ao]at xC ⊢
 by_cases h0:xu l p<0
 ·(repeat(first|((repeat(revert hN;revert N;apply Pn.out));refine wk (tw @aa.eq_1 @h0) ?_;(repeat(refine Pn.mk ?_;intro N hN)))|((try apply Or.inl);refine⟨_,ai.x (xC) (sd (tw @aa.eq_1 @h0)),?_⟩;refine hN _ _ ?_;clear hN N)))
  exact j5 (.inl rfl) (vs:=[.str ⟨#[]⟩]) (sd @Nat.zero_add) (by rw[EI,if_pos h0];simp only[dU,kB])
 ·have ht:=xT hA (p:=p) (by omega)
  have hg:EI s l p d=if cJ (cH s (xu l p)) d=0 then⟨#[]⟩else(iV s (cJ (cH s (xu l p)) d-1)).aB:=by rw[EI,if_neg h0]
  rw[hg]
  generalize xu l p=t at xC h0 ht
  obtain⟨a0,a1,a2⟩:=ke ht
  have s1:=j8 (hF.ny _ a2) hd
  have gl:=hF.re _ a2 _ (pQ (hF.ny _ a2) hd)
  have d0:=(dt hd).1
  generalize cJ (cH s t) d=g at s1 gl ⊢
  by_cases K4:g=0
  ·have e:=decide_eq_true K4
   (repeat(first|((repeat(revert hN;revert N;apply Pn.out));refine wk (tw @aa.eq_1 (tw @aU.eq_1 (tw @h0 (tw @a0 (tw @a1 (tw @s1 (tw @d0 @e))))))) ?_;(repeat(refine Pn.mk ?_;intro N hN)))|((try apply Or.inl);refine⟨_,ai.x (xC) (sd (tw @aa.eq_1 (tw @aU.eq_1 (tw @h0 (tw @a0 (tw @a1 (tw @s1 (tw @d0 @e)))))))),?_⟩;refine hN _ _ ?_;clear hN N)))
   exact j5 (.inl rfl) (vs:=[.str ⟨#[]⟩]) (sd @Nat.zero_add) (by rw[if_pos K4];simp only[dU,kB])
  ·have e:=decide_eq_false K4
   have hw:IntKind.i64.wrap (g-1)=g-1:=aY (by omega)
   have kK:0<=g-1:=by omega
   have dE:(s.ar.map aT)[(g-1).toNat]? =some (aT (iV s (g-1))):=getD_map aT (by omega)
   (repeat(first|((repeat(revert hN;revert N;apply Pn.out));refine wk (tw @aa.eq_1 (tw @aU.eq_1 (tw @h0 (tw @a0 (tw @a1 (tw @s1 (tw @d0 (tw @e (tw @hw (tw @kK (tw @dE @aT.eq_1))))))))))) ?_;(repeat(refine Pn.mk ?_;intro N hN)))|((try apply Or.inl);refine⟨_,ai.x (xC) (sd (tw @aa.eq_1 (tw @aU.eq_1 (tw @h0 (tw @a0 (tw @a1 (tw @s1 (tw @d0 (tw @e (tw @hw (tw @kK (tw @dE @aT.eq_1)))))))))))),?_⟩;refine hN _ _ ?_;clear hN N)))
   exact j5 (.inl rfl) (vs:=[.str (iV s (g-1)).aB]) (sd @Nat.zero_add) (by rw[if_neg K4];simp only[dU,kB])
end V
end Go.Proofs.YtihgaadadaekmaaGreatDoor

namespace Go.Proofs.YtihgaadadaekmaaGreatDoor.V
open Go.RowKit
variable {g g':Rows} {v:AV} {L:List Int} {ids:List Id}
theorem fz5I (x:Int) (g:Rows):bW g 5 (az x)=some (az x):=by simp[az,ad,aj,aH]
theorem fzS4I (x:Int) (g:Rows):dv g 4 (az x)=some (az x):=by simp[az,bd,bE,dV]
def OutI (g:Rows) (v:AV) (L:List Int) (ids:List Id):Prop:=MY az 1 g v L ids
def Py (z m:Nat) (L:List Int) (v:AV) (g:Rows) (n:Nat):Prop:=(L=[]/\v=.bC)∨∃u:Id,v=.own u 0 L.length/\g u=some ⟨true,1,L.map az⟩/\m<=u.bV/\u.bV<n/\0<L.length/\u.site=z
end Go.Proofs.YtihgaadadaekmaaGreatDoor.V

namespace Go.Proofs.YtihgaadadaekmaaGreatDoor.V
open Go.RowKit Go.Shelf
attribute [local go_sem] Oper.semAt_some
structure nT (W:World) (v:Value) (l:List ak):Prop where
 sl:∃A c,v=.slice A l.length c/\(l.length<=c/\c<=maxLen)/\(l=[]∨∃b o,A=some ⟨b,o,none⟩/\∀i,i<l.length->W.cell? ⟨b,o+(i*3+0),none⟩=some (.int .i64 (bo l i).cC.ga)/\W.cell? ⟨b,o+(i*3+1),none⟩=some (.int .i64 (bo l i).cC.fB)/\W.cell? ⟨b,o+(i*3+2),none⟩=some (.int .i64 (bo l i).bw))
structure E6 (K:World->World->Prop) (v:Value) (l:List ak):Prop where
 refl:∀W,K W W
 trans:∀{A B C:World},K A B->K B C->K A C
 of:∀{W W':World},Below W.heap.size W W'->K W W'
 size:∀{W W':World},K W W'->W.heap.size<=W'.heap.size
 typed:∀{W W':World},K W W'->∀(b:Nat) (cells:Array Value) (T:TypeId) (fr:Nat×Nat),W.heap[b]? =some (Obj.cells cells T fr)->T≠177->T≠196->W'.heap[b]? =W.heap[b]?
 pl:∀{W W':World},K W W'->nT W v l->nT W' v l
theorem rY {W:World} {b x:Nat} {v:Value} (h:W.cell? ⟨b,x,none⟩=some v):b<W.heap.size:=by
 rcases Nat.lt_or_ge b W.heap.size with h1|h1
 ·exact h1
 ·simp[World.cell?,Array.getElem?_eq_none h1]at h
theorem nT.below {W W':World} {v:Value} {l:List ak} (h:nT W v l) (k:Below W.heap.size W W'):nT W' v l:=by
 obtain⟨A,c,rfl,hm,hc⟩:=h.sl
 refine⟨A,c,rfl,hm,?_⟩
 rcases hc with h0|⟨b,o,rfl,jD⟩
 ·exact .inl h0
 ·refine .inr ⟨b,o,rfl,fun i hi=>?_⟩
  obtain⟨h1,h2,h3⟩:=jD i hi
  have hb:=rY h1
  exact⟨(k.cell (p:=⟨b,_,none⟩) hb).trans h1,(k.cell (p:=⟨b,_,none⟩) hb).trans h2,(k.cell (p:=⟨b,_,none⟩) hb).trans h3⟩
theorem nT.ev {P:Program} {W:World} {v:Value} {l:List ak} (h:nT W v l):jl P W (fun b=>b<W.heap.size) (.sl (l.map ah)) v:=by
 obtain⟨A,c,rfl,hm,hc⟩:=h.sl
 rcases hc with rfl|⟨b,o,rfl,jD⟩
 ·exact .zI A c (by simpa using hm.2)
 by_cases Pd:l=[]
 ·subst Pd;exact .zI _ c (by simpa using hm.2)
 ·have kM:0<l.length:=List.length_pos_iff.2 Pd
  have hb:=rY (jD 0 kM).1
  refine .sl (l.map ah) b o l.length c 3 (fun i j=>if j=0 then .int .i64 (bo l i).cC.ga else if j=1 then .int .i64 (bo l i).cC.fB else .int .i64 (bo l i).bw) (by simp) hm.1 hm.2 hb (fun cs dh=>?_) (fun cs dh a ha=>?_) (fun i j hi hj=>?_) (fun i j cs a hi hj=>?_)
  ·obtain⟨x,_,rfl⟩:=List.mem_map.1 dh;rfl
  ·obtain⟨x,_,rfl⟩:=List.mem_map.1 dh
   simp[ah]at ha
   rcases ha with rfl|rfl|rfl<;>rfl
  ·obtain⟨h1,h2,h3⟩:=jD i hi
   match j,hj with
   |0,_=>exact h1
   |1,_=>exact h2
   |2,_=>exact h3
   |j+3,hj=>omega
  ·have oj:i<l.length:=by have:=(List.getElem?_eq_some_iff.1 hi).1;simpa using this
   rw[gm oj]at hi
   injection hi with hi
   subst hi
   match j,hj with
   |0,hj=>simp[ah]at hj;subst hj;exact .int _ _
   |1,hj=>simp[ah]at hj;subst hj;exact .int _ _
   |2,hj=>simp[ah]at hj;subst hj;exact .int _ _
   |j+3,hj=>simp[ah]at hj
theorem xZ {P:Program} (hm:P.follows .mixedOrders=true) {f:Nat} {args:List AV} {vs:Array Value} {w:World} {r:AV} (h:ai P f args r) (hr:∀g r0,fa g 6 r0=some r->r0=r) (hA:eM P w (fun b=>b<w.heap.size) (fun _=>none) args vs):
  Calls P f vs w fun e w'=>∃D ι u,e=.returned u/\cw P w' D ι r u/\Below w.heap.size w w':=by
 have hs:=gu hm (h 0) w.heap.size (fun b=>b<w.heap.size) (fun _=>none) w vs ⟨Nat.le_refl _,fun _ h=>h,fun id r h=>(by cases h),fun id jU r r' B B' h=>(by cases h)⟩ (fun id h=>absurd rfl h) hA
 refine hs.mono ?_
 rintro e w' ⟨r0,g',n',D',ι',u,rfl,⟨r',hz,rfl⟩,dQ,hsim,_,_,gi⟩
 have:=hr _ _ hz
 subst this
 exact⟨D',ι',u,rfl,gi,dQ.below⟩
theorem nf {g:Rows} {n:Nat} {a:AV} {k:IntKind} {m:Int} (h:fa g (n+1) a=some (.int k m)):a=.int k m:=by
 cases a<;>rw[fa]at h<;>simp_all
 all_goals (repeat' (split at h))<;>simp_all
theorem Al {g:Rows} {a:AV} {x y:Int} (h:fa g 6 a=some (.agg [.int .i64 x,.int .i64 y])):a=.agg [.int .i64 x,.int .i64 y]:=by
 cases a with
 |agg cs=>
  rw[Cb]at h
  simp only[Option.map_eq_some_iff,AV.agg.injEq,exists_eq_right]at h
  match cs,h with
  |[],h=>rw[bE]at h;simp at h
  |[a],h=>
   rw[bd,bE]at h
   cases ha:fa g 5 a<;>simp[ha]at h
  |[a,b],h=>
   rw[bd,bd,bE]at h
   cases ha:fa g 5 a<;>cases hb:fa g 5 b<;>simp[ha,hb]at h
   obtain⟨rfl,rfl⟩:=h
   rw[nf ha,nf hb]
  |a::b::c::r,h=>
   rw[bd,bd,bd]at h
   cases ha:fa g 5 a<;>cases hb:fa g 5 b<;>cases hc:fa g 5 c<;>cases hd:dv g 5 r<;>simp[ha,hb,hc,hd]at h
 |_=>rw[fa]at h<;>simp_all<;>(repeat' (split at h))<;>simp_all
theorem Bw (W:World) (p:bI) (d:Int) (hd:gD d 0 3=true) (hx:iB p.ga) (hy:iB p.fB):Calls Tryz.prog 188 #[.agg #[.int .i64 p.ga,.int .i64 p.fB],.int .i64 d] W fun e W'=>e=.returned (.agg #[.int .i64 (ew p d).ga,.int .i64 (ew p d).fB])/\Below W.heap.size W W':=by
 refine(xZ mixed (LU p d hd hx hy) (fun g r0 h=>Al h) ?_:Calls _ _ _ _ _).mono ?_
 ·exact jt (vs:= #[.int .i64 d]) (.agg _ _ (fun j=>if j=0 then .int .i64 p.ga else .int .i64 p.fB) rfl (fun a ha=>by simp[ao]at ha;rcases ha with rfl|rfl<;>rfl) (fun j hj=>by match j,hj with|0,_=>rfl|1,_=>rfl|j+2,hj=>simp[ao]at hj;omega) (fun j a ha=>by match j,ha with|0,ha=>simp[ao]at ha;subst ha;exact .int _ _|1,ha=>simp[ao]at ha;subst ha;exact .int _ _|j+2,ha=>simp[ao]at ha)) (jt (vs:= #[]) (.int _ _) tq)
 ·rintro e W' ⟨D,ι,u,rfl,hr,hB⟩
  refine⟨?_,hB⟩
  obtain⟨vs,f,rfl,eS,_,h1,h2⟩:=gS hr
  have v0:=h1 0 (by simp[ao])
  have v1:=h1 1 (by simp[ao])
  rw[db (h2 0 _ rfl)]at v0
  rw[db (h2 1 _ rfl)]at v1
  obtain⟨vl⟩:=vs
  match vl,eS with
  |[a,b],_=>
   simp at v0 v1
   rw[v0,v1]
theorem uA (W:World) (l:List ak) (v:Value) (hP:nT W v l) (p:bI) (hR:xM l) (Ie:l.length<=1048576):Calls Tryz.prog 187 #[.agg #[v],.agg #[.int .i64 p.ga,.int .i64 p.fB]] W fun e W'=>e=.returned (.int .i64 (fF l p))/\Below W.heap.size W W':=by
 refine(xZ mixed (Ec l p hR Ie) (fun g r0 h=>nf h) ?_:Calls _ _ _ _ _).mono ?_
 ·exact jt (vs:= #[.agg #[.int .i64 p.ga,.int .i64 p.fB]]) (.agg _ _ (fun _=>v) rfl (fun a ha=>by simp at ha;rw[ha];rfl) (fun j hj=>by match j,hj with|0,_=>rfl|j+1,hj=>simp at hj) (fun j a ha=>by match j,ha with|0,ha=>simp at ha;subst ha;exact hP.ev|j+1,ha=>simp at ha)) (jt (vs:= #[]) (.agg _ _ (fun j=>if j=0 then .int .i64 p.ga else .int .i64 p.fB) rfl (fun a ha=>by simp[ao]at ha;rcases ha with rfl|rfl<;>rfl) (fun j hj=>by match j,hj with|0,_=>rfl|1,_=>rfl|j+2,hj=>simp[ao]at hj;omega) (fun j a ha=>by match j,ha with|0,ha=>simp[ao]at ha;subst ha;exact .int _ _|1,ha=>simp[ao]at ha;subst ha;exact .int _ _|j+2,ha=>simp[ao]at ha)) tq)
 ·rintro e W' ⟨D,ι,u,rfl,hr,hB⟩
  exact⟨by rw[db hr],hB⟩
theorem pq {W W':World} (h:Below W.heap.size W W'):W.grownBy W' none:=⟨h.os,h.tape,h.output,h.size,fun k hk _=>h.block k hk⟩
def zb (l:List ak) (i:Nat) (d:Int):List (Nat×Nat×Int):=if 0<=fF l (ew (bo l i).cC d)then[(i,(fF l (ew (bo l i).cC d)).toNat,d)]else[]
def jY (l:List ak) (i m:Nat):List (Nat×Nat×Int):=(List.range m).flatMap fun j:Nat=>zb l i (1-(j:Int))
def ko (l:List ak) (n:Nat):List (Nat×Nat×Int):=(List.range n).flatMap fun i=>jY l i 2
theorem lf (l:List ak) (n:Nat):ko l (n+1)=ko l n++jY l n 2:=by simp[ko,List.range_succ]
theorem lN (l:List ak) (i m:Nat):jY l i (m+1)=jY l i m++zb l i (1-(m:Int)):=by simp[jY,List.range_succ]
theorem LF (l:List ak) {k m:Nat} (hk:k<l.length) (hm:m<=2):ko l k++jY l k m <+:ko l l.length:=by
 have h1:∀d,ko l k <+:ko l (k+d):=fun d=>by
  induction d with
  |zero=>exact List.prefix_refl _
  |succ d ih=>rw[<-Nat.add_assoc,lf l (k+d)];exact ih.trans (List.prefix_append _ _)
 have h2:∀d,ko l (k+1) <+:ko l (k+1+d):=fun d=>by
  induction d with
  |zero=>exact List.prefix_refl _
  |succ d ih=>rw[<-Nat.add_assoc,lf l (k+1+d)];exact ih.trans (List.prefix_append _ _)
 have h3:=h2 (l.length-(k+1))
 rw[show k+1+(l.length-(k+1))=l.length by omega,lf]at h3
 refine List.IsPrefix.trans ?_ h3
 have h4:jY l k m <+:jY l k 2:=by
  have:m=0∨m=1∨m=2:=ab
  rcases this with rfl|rfl|rfl
  ·exact List.nil_prefix
  ·rw[lN l k 1];exact List.prefix_append _ _
  ·exact List.prefix_refl _
 exact(List.prefix_append_right_inj _).2 h4
def MX (l:List ak) (x:Nat×Nat×Int):Prop:=x.1<l.length/\x.2.1<l.length/\(0<=x.2.2/\x.2.2<=1)
def B4 (x:Nat×Nat×Int):Array Value:= #[.agg #[.int .i64 (x.1:Int),.int .i64 (x.2.1:Int)],.int .i64 x.2.2]
theorem IH (l:List ak) (p:bI) (h:0<l.length:=by omega):fF l p<(l.length:Int):=by
 unfold fF
 split<;>omega
theorem Oq (l:List ak) (hA:jM l) (q Ba:Nat) (vS:Value) (K:World->World->Prop) (kl:E6 K vS l) (J Jx:List (Nat×Nat×Int)->World->Prop) (n:Nat) (hn:1<=n)
  (hY:∀pre x W,J pre W->pre.length<(ko l l.length).length->MX l x->YieldAt Fence.wide (n-1) Tryz.prog q (B4 x) W fun e W'=>
   (e=.returned (.bool true)/\J (pre++[x]) W'/\K W W')∨(e=.returned (.bool false)/\Jx (pre++[x]) W'))
  (W:World) (hJ:AbidesFrom W.heap.size J) (KR:W.heap[Ba]? =some (.cells #[vS] 42 (0,0))) (hP:nT W vS l) (h0:J [] W):
  CallsIn Fence.wide n Tryz.prog 186 #[.func (.yield q) #[] #[],.pointer (some ⟨Ba,0,none⟩)] W fun e W'=>(∃v,e=.returned v)/\
   ((∃ys,ys=ko l l.length/\J ys W')∨(∃pre,pre <+:ko l l.length/\Jx pre W')):=by
 obtain⟨A,cp,rfl,_,_⟩:=hP.sl
 refine callsIn_of_wp Tryz.func186 rfl trivial ?_ rfl
 simp only[Tryz.ntmps186,List.size_toArray,List.length_cons,List.length_nil,Nat.reduceAdd,Nat.reduceSub,Array.replicate_succ,Array.replicate_zero,List.push_toArray,List.append_toArray,List.nil_append,List.cons_append]
 have iS:W.cell? ⟨Ba,0,none⟩=some (.slice A l.length cp):=by simp[World.cell?,KR]
 gi_wp2
 gi_loopw [11] (fun i wr=>∃k:Nat,k<=l.length/\i=.int .i64 k/\J (ko l k) wr/\K W wr)
  (fun i _=>l.length-(intOf i).toNat)
 case atStart=>exact⟨0,Nat.zero_le _,rfl,h0,kl.refl _⟩
 case round=>
  obtain⟨k,hk,rfl,hJs,hKt⟩:=hrel
  by_cases dF:k<l.length
  ·have dh:∃b o,A=some ⟨b,o,none⟩/\wr.cell? ⟨b,o+k*3,none⟩=some (.int .i64 (bo l k).cC.ga)/\wr.cell? ⟨b,o+k*3+1,none⟩=some (.int .i64 (bo l k).cC.fB)/\wr.cell? ⟨b,o+k*3+2,none⟩=some (.int .i64 (bo l k).bw):=by
    obtain⟨A',c',hv,_,hc⟩:=(kl.pl hKt hP).sl
    cases hv
    rcases hc with rfl|⟨b,o,rfl,jD⟩
    ·simp at dF
    ·obtain⟨h1,h2,h3⟩:=jD k dF
     exact⟨b,o,rfl,by simpa using h1,by rw[Nat.add_assoc];exact h2,by rw[Nat.add_assoc];exact h3⟩
   obtain⟨b,o,rfl,hx,hy',ht⟩:=dh
   gi_wp2
   obtain⟨W2,Nx⟩:∃W2,(wr.alloc (.cells #[.int .i64 (bo l k).cC.ga,.int .i64 (bo l k).cC.fB,.int .i64 (bo l k).bw] 114)).alloc (.cells #[.int .i64 1,.int .i64 0] 2)=W2:=⟨_,rfl⟩
   have nW:Below wr.heap.size wr W2:=by rw[<-Nx];exact((Below.refl _ wr).alloc (Nat.le_refl _) _).alloc (by simp) _
   have P7:W2.heap[wr.heap.size]? =some (.cells #[.int .i64 (bo l k).cC.ga,.int .i64 (bo l k).cC.fB,.int .i64 (bo l k).bw] 114 (0,0)):=by
    rw[<-Nx,Below.heap_alloc _ _ _ (by simp)];exact World.alloc_heap_new _ _
   have P6:W2.heap[wr.heap.size+1]? =some (.cells #[.int .i64 1,.int .i64 0] 2 (0,0)):=by
    have:=World.alloc_heap_new (wr.alloc (.cells #[.int .i64 (bo l k).cC.ga,.int .i64 (bo l k).cC.fB,.int .i64 (bo l k).bw] 114)) (.cells #[.int .i64 1,.int .i64 0] 2)
    rw[World.size_alloc]at this
    rw[<-Nx];exact this
   have Nt:K W W2:=kl.trans hKt (kl.of nW)
   have hJ2:J (ko l k++jY l k 0) W2:=by
    have:=hJ _ _ _ none hJs (pq nW) (fun r h=>by cases h)
    simpa[jY]using this
   rw[Nx]
   clear Nx
   generalize wr=w1 at *
   gi_loopw [18] (fun j wr=>∃m:Nat,m<=2/\j=.int .i64 m/\J (ko l k++jY l k m) wr/\K W2 wr)
    (fun j _=>2-(intOf j).toNat)
   case atStart=>exact⟨0,ab,rfl,hJ2,kl.refl _⟩
   case round=>
    obtain⟨m,hm,rfl,hJm,JI⟩:=hrel
    have hm0:m=0∨m=1∨m=2:=ab
    by_cases JW:m<2
    ·have hkd:=kl.typed JI _ _ _ _ P6 (by decide) (by decide)
     have HE:=kl.typed JI _ _ _ _ P7 (by decide) (by decide)
     have hka:=kl.typed (kl.trans Nt JI) _ _ _ _ KR (by decide) (by decide)
     have cd:wr.cell? ⟨w1.heap.size+1,m,none⟩=some (.int .i64 (1-(m:Int))):=by
      rw[World.cell?_of_block hkd]
      rcases hm0 with rfl|rfl|rfl
      ·simp[World.cell?,P6]
      ·simp[World.cell?,P6]
      ·omega
     have ct0:wr.cell? ⟨w1.heap.size,0,none⟩=some (.int .i64 (bo l k).cC.ga):=by rw[World.cell?_of_block HE];simp[World.cell?,P7]
     have ct1:wr.cell? ⟨w1.heap.size,1,none⟩=some (.int .i64 (bo l k).cC.fB):=by rw[World.cell?_of_block HE];simp[World.cell?,P7]
     have ca:wr.cell? ⟨Ba,0,none⟩=some (.slice (some ⟨b,o,none⟩) l.length cp):=by rw[World.cell?_of_block hka];simp[World.cell?,KR]
     have hPw:nT wr (.slice (some ⟨b,o,none⟩) l.length cp) l:=kl.pl (kl.trans Nt JI) hP
     have hba:Ba<wr.heap.size:=by
      have h1:=(Array.getElem?_eq_some_iff.1 KR).1
      have h2:=kl.size (kl.trans Nt JI)
      omega
     have hdm:gD (1-(m:Int)) 0 3=true:=nh ab
     have hpb:=GM (hA.pt dF)
     have MI:=fun w0=>Bw w0 (bo l k).cC (1-(m:Int)) hdm hpb.1 hpb.2
     have hPd:nT wr.drew (.slice (some ⟨b,o,none⟩) l.length cp) l:=hPw.below ⟨rfl,rfl,rfl,Nat.le_refl _,fun _ _=>rfl⟩
     have cad:wr.drew.cell? ⟨Ba,0,none⟩=some (.slice (some ⟨b,o,none⟩) l.length cp):=ca
     have ctd0:wr.drew.cell? ⟨w1.heap.size,0,none⟩=some (.int .i64 (bo l k).cC.ga):=ct0
     have ctd1:wr.drew.cell? ⟨w1.heap.size,1,none⟩=some (.int .i64 (bo l k).cC.fB):=ct1
     have hfw:=hA.EH
     have NT:=hA.Pr
     have Qy:=mixed
     gi_wp2
     gi_region_with_o (first|(refine⟨trivial,?_⟩;gi_at_call 188;refine(callsIn_wide.2 (MI _)).mono ?_;rintro e w3 ⟨rfl,yF⟩;have ca3:=(yF.cell (p:=⟨Ba,0,none⟩) hba).trans cad)|(refine⟨trivial,?_⟩;gi_at_call 187;refine(callsIn_wide.2 (uA _ l _ (hPd.below yF) (ew (bo l k).cC (1-(m:Int))) NT ab)).mono ?_;rintro e w4 ⟨rfl,hB4⟩))
     all_goals
      have KQ:Below wr.heap.size wr w4:=(show Below wr.heap.size wr wr.drew from⟨rfl,rfl,rfl,Nat.le_refl _,fun _ _=>rfl⟩).trans (yF.trans (hB4.mono yF.size))
      have hJ4:J (ko l k++jY l k m) w4:=hJ _ _ _ none hJm (pq KQ) (fun r h=>by cases h)
      have ur:=LF l dF (m:=m+1) ab
      rw[lN,<-List.append_assoc]at ur
      have sa:=lN l k m
      have hw:wrap64 ((m:Int)+1)=((m+1:Nat):Int):=by unfold wrap64;omega
      by_cases wI:0<=fF l (ew (bo l k).cC (1-(m:Int)))
      ·have fy:((fF l (ew (bo l k).cC (1-(m:Int)))).toNat:Int)=fF l (ew (bo l k).cC (1-(m:Int))):=ab
       rw[zb,if_pos wI]at ur sa
       obtain⟨fn,tmps,assign,body,hy,hR⟩:=hY _ (k,(fF l (ew (bo l k).cC (1-(m:Int)))).toNat,1-(m:Int)) w4 hJ4 (by
        have:=ur.length_le
        simp only[List.length_append,List.length_cons,List.length_nil]at this ⊢
        omega) ⟨dF,by
        have:fF l (ew (bo l k).cC (1-(m:Int)))<(l.length:Int):=IH _ _
        show(fF l (ew (bo l k).cC (1-(m:Int)))).toNat<l.length
        omega,by show 0<=1-(m:Int);omega,by show 1-(m:Int)<=1;omega⟩
       simp only[B4,fy]at hy
       gi_wp2
       refine hR.mono ?_
       rintro e W3 (⟨rfl,hJ3,hk3⟩|⟨rfl,hJx3⟩)
       ·gi_wp2
        go_roundw
        case rel=>exact⟨m+1,ab,by simp,by rw[sa,<-List.append_assoc];exact hJ3,kl.trans (kl.trans JI (kl.of KQ)) hk3⟩
        case measure=>simp[intOf];omega
       ·gi_wp2
        refine bodyPost_ret (results_none rfl _ _ _) rfl ?_
        exact⟨⟨_,rfl⟩,.inr ⟨_,ur,hJx3⟩⟩
      ·rw[zb,if_neg wI,List.append_nil]at sa
       gi_wp2
       refine⟨fun _ h=>(by cases h),?_⟩
       gi_wp2
       go_roundw
       case rel=>exact⟨m+1,ab,by simp,by rw[sa];exact hJ4,kl.trans JI (kl.of KQ)⟩
       case measure=>simp[intOf];omega
    ·obtain rfl:m=2:=ab
     have hfw:=hA.EH
     gi_wp2
     go_roundw
     case rel=>exact⟨k+1,ab,by simp,by rw[lf];exact hJm,kl.trans Nt JI⟩
     case measure=>simp[intOf];omega
  ·obtain rfl:k=l.length:=ab
   gi_wp2
   go_end0
   exact⟨⟨_,rfl⟩,.inl ⟨_,rfl,hJs⟩⟩
theorem wY (n:Nat) (vS:Value) (w:World):CallsIn Fence.wide n Tryz.prog 172 #[.agg #[vS]] w fun e w'=>e=.returned (.func (.func 186) #[] #[.pointer (some ⟨w.heap.size,0,none⟩)])/\w'=w.alloc (.cells #[vS] 42):=by
 refine callsIn_of_wp Tryz.func172 rfl trivial ?_ rfl
 simp only[Tryz.ntmps172,List.size_toArray,List.length_cons,List.length_nil,Nat.reduceAdd,Nat.reduceSub,Array.replicate_succ,Array.replicate_zero,List.push_toArray,List.append_toArray,List.nil_append,List.cons_append]
 gi_wp2
 go_ret
 exact⟨rfl,rfl⟩
abbrev Kk (l:List ak):Type:={x:Nat×Nat×Int // MX l x}
theorem Gz (l:List ak) (hA:jM l) (Ba n:Nat) (hn:1<=n) (vS:Value) (K:World->World->Prop) (kl:E6 K vS l) (w:World) (KR:w.heap[Ba]? =some (.cells #[vS] 42 (0,0))) (hP:nT w vS l):
  SeqStopsK Fence.wide n Tryz.prog 186 #[.pointer (some ⟨Ba,0,none⟩)] (fun x:Kk l=>B4 x.1) K (fun ys=>ys.map (·.1)=ko l l.length) (fun _=>True) (ko l l.length).length w:=fun q J Jx W hW hJ _ hY h0=>by
 refine(Oq l hA q Ba vS K kl (fun ys W=>∃zs:List (Kk l),zs.map (·.1)=ys/\J zs W) (fun ys W=>∃zs:List (Kk l),zs.map (·.1)=ys/\Jx zs W) n hn (fun pre x W1 hJ1 dF sV=>?_) W (fun s A B row ⟨zs,e,h⟩ hg hr=>⟨zs,e,hJ zs A B row h hg hr⟩) ((hW.block Ba (Array.getElem?_eq_some_iff.1 KR).1).trans KR) (hP.below hW) ⟨[],rfl,h0⟩).mono ?_
 ·obtain⟨zs,rfl,h1⟩:=hJ1
  refine YieldAt.mono (hY zs ⟨x,sV⟩ W1 h1 (by simpa using dF)) ?_
  rintro e W' (⟨h2,h3,h4⟩|⟨h2,h3⟩)
  ·exact .inl ⟨h2,⟨zs++[⟨x,sV⟩],by simp,h3⟩,h4⟩
  ·exact .inr ⟨h2,⟨zs++[⟨x,sV⟩],by simp,h3⟩⟩
 ·rintro e W' ⟨h1,⟨ys,rfl,zs,h2,h3⟩|⟨pre,_,zs,h2,h3⟩⟩
  ·exact⟨h1,.inl ⟨zs,h2,h3⟩⟩
  ·exact⟨h1,.inr ⟨zs,trivial,h3⟩⟩
def v5 (s:aq) (l:List ak) (x:Nat×Nat×Int):List PB:=if 0<iu s (bo l x.1).bw x.2.2 (bo l x.2.1).bw then[⟨x.1,x.2.1,iu s (bo l x.1).bw x.2.2 (bo l x.2.1).bw⟩]else[]
theorem Fp (s:aq) (l:List ak):cj s l=(ko l l.length).flatMap (v5 s l):=by
 have h1:∀i d,lz s l i d=(zb l i d).flatMap (v5 s l):=fun i d=>by
  unfold lz zb
  by_cases h:0<=fF l (ew (bo l i).cC d)
  ·rw[if_pos h]
   simp only[List.flatMap_cons,List.flatMap_nil,List.append_nil,v5]
   by_cases h2:0<iu s (bo l i).bw d (bo l (fF l (ew (bo l i).cC d)).toNat).bw
   ·rw[if_pos ⟨h,h2⟩,if_pos h2]
   ·rw[if_neg fun hc=>h2 hc.2,if_neg h2]
  ·rw[if_neg h,if_neg fun hc=>h hc.1];rfl
 unfold cj fM ko
 rw[List.flatMap_assoc]
 congr 1
 funext i
 unfold fj jY
 rw[List.flatMap_assoc]
 congr 1
 funext j
 exact h1 i _
end Go.Proofs.YtihgaadadaekmaaGreatDoor.V

namespace Go.Proofs.YtihgaadadaekmaaGreatDoor.V
open Go.RowKit
variable {P:Program} {hs:Nat}
theorem ED {q n i:Nat} {ops:Array Oper} {Q:Exit->Act->World->Prop} {K K':Act->World->Prop} {a:Act} {w:World} (km:∀(j:Nat) (o:Oper),ops[j]? =some o->∀c,o.op≠.defer c) (jI:¬LetsOut Q) (hK:∀a w,K a w->K' a w) (h:wpOp P ops Q i K a w):wpOpIn (Fence.wide.inRound q) n P ops Q i K' a w:=by
 unfold wpOp at h
 unfold wpOpIn
 split at h
 ·rename_i ho;simp only[ho];exact hK _ _ h
 ·rename_i o ho
  simp only[ho]
  split at h
  ·rename_i hw
   rw[if_pos hw]
   replace h:=h.resolve_right fun hc=>jI hc.2
   refine⟨fun _ _=>trivial,?_⟩
   rw[Oper.semAt_eq _ _ _ (km i o ho)]
   unfold Oper.wp at h
   generalize (execOp a.eval o).run P w=r at *
   cases r with
   |ok m w'=>
    cases m<;>simp only[Oper.upon,Oper.uponIn]at h ⊢
    case value=>exact hK _ _ h
    case skip=>exact hK _ _ h
    case defer=>exact hK _ _ h
    case enter f args=>
     refine⟨fun h=>by simp[Fence.wide]at h,CallsIn.inRound q (callsIn_wide.2 (h.mono fun e HM he=>?_))⟩
     cases e with
     |returned v=>exact hK _ _ he
     |panicked c=>exact he
     |outgrown=>exact he
    case row r args=>exact⟨fun h=>by simp[Fence.wide]at h,fun c cs _=>let ⟨v,HM,h1,s⟩:=h c cs;⟨v,HM,hK _ _ h1,stepsIn_wide.2 s⟩⟩
   |halt x w'=>cases x<;>simp only[Oper.upon,Oper.uponIn]at h ⊢;exact h
  ·rename_i hw
   rw[if_neg hw]
   exact⟨fun _ _=>trivial,hK _ _ h⟩
theorem tR {q n:Nat} {md:Region.Mode} {ops:Array Oper} {Q:Exit->Act->World->Prop} (km:∀(j:Nat) (o:Oper),ops[j]? =some o->∀c,o.op≠.defer c) (jI:¬LetsOut Q):∀(fuel:Nat) (listed:Array Bool) (a:Act) (w:World),wpAny P md ops Q fuel listed a w->wpAnyIn (Fence.wide.inRound q) n P md ops Q fuel listed a w
 |0,_,_,_,h=>h
 |fuel+1,listed,_,_,h=>⟨h.1,fun i hi=>ED km jI (fun a w=>tR km jI fuel _ a w) (h.2 i hi)⟩
def Co:Op->Bool
 | .defer _=>true
 |_=>false
theorem GC {ops:Array Oper} (h:(ops.all fun o=> !Co o.op)=true):∀(j:Nat) (o:Oper),ops[j]? =some o->∀c,o.op≠.defer c:=fun j o hj c hc=>by
 have:=Array.all_eq_true_iff_forall_mem.1 h o (Array.mem_of_getElem? hj)
 rw[hc]at this
 simp[Co]at this
theorem w7 (hm:P.follows .mixedOrders=true) {nt site0 id q n:Nat} {ops:Array Oper} {vl:List aV} (h:pg P nt site0 ops true false=some vl) (km:∀(j:Nat) (o:Oper),ops[j]? =some o->∀c,o.op≠.defer c)
  {K:Env->aw->Prop} {env:Env} {σ:aw} {a:Act} {w:World} {D:Nat->Prop} {ι:Names} {Q:Exit->Act->World->Prop} (hv:wpOps (Sound P) true vl K env σ) (dQ:St P hs nt D ι env σ a w)
  (hK:∀gJ σ' a' w' D' ι',K gJ σ'->Step hs D ι w D' ι' w'->St P hs nt D' ι' gJ σ' a' w'->a'.defers=a.defers->Q .normal a' w'):(Code.region id ops true).wpIn (Fence.wide.inRound q) n P Q a w:=by
 have di:∃hidden qL,allM (k5 P ops nt site0 true false (iN ops) hidden) ops.toList 0=some qL/\vl=qL/\mZ ops qL (iN ops)=true:=by
  unfold pg at h
  simp only[if_true,Bool.not_true,Bool.false_or]at h
  split at h
  ·rename_i qL h'
   split at h
   ·rename_i sV;simp at h;exact⟨_,qL,h',h.symm,sV⟩
   ·cases h
  ·cases h
 obtain⟨hidden,qL,di,rfl,sV⟩:=di
 obtain⟨pw,T0⟩:=dQ.drew
 obtain⟨hlen,_⟩:=mN di
 have jR:vl.length=ops.size:=by rw[hlen];simp
 have Aq:=tP (X:=Sound P) (K:=K) (n:=σ.next) sV jR vl 0 (Array.replicate ops.size false) env σ.get (by simp) (by simp) (fun i hi=>by simp[hi]) (by simp[jR]) (fun k i h=>by
  exfalso
  rcases Nat.lt_or_ge k ops.size with hk|hk
  ·simp[hk]at h
  ·simp[Nat.not_lt.2 hk]at h) hv
 rw[jR]at Aq
 have hw:=uH (Q:=fun e a w=>e=.normal/\Q .normal a w) di ops.size _ env σ.get a w.drew D ι (fun _=>False) Aq pw.HL pw.used (fun _ h=>h.elim) pw.env pw.size fun jo g1 a1 w1 D1 ι1 U1 hk T S1 PA E1 xJ hd=>⟨rfl,hK jo ⟨g1,σ.next+1⟩ a1 w1 D1 ι1 hk (T0.trans T) ⟨S1,PA.next,E1,xJ⟩ hd⟩
 have fy:=tR (q:=q) (n:=n) (Q:=fun e a w=>e=.normal/\Q .normal a w) km (by rintro⟨_,_,hc,_⟩;cases hc) ops.size _ a w.drew hw
 refine wpIn_mono (wpIn_region_any (id:=id) hm fy) ?_
 rintro e a w ⟨rfl,h⟩
 exact h
end Go.Proofs.YtihgaadadaekmaaGreatDoor.V

namespace Go.Proofs.YtihgaadadaekmaaGreatDoor.V
open Go.RowKit Go.Shelf
attribute [local go_sem] Oper.semAt_some
def gr (n₀:Nat) (W W':World):Prop:=W.heap.size<=W'.heap.size/\(∀(b:Nat) (cells:Array Value) (T:TypeId) (fr:Nat×Nat),W.heap[b]? =some (Obj.cells cells T fr)->T≠177->T≠196->W'.heap[b]? =W.heap[b]?)/\∀k,k<n₀->k<W.heap.size->W'.heap[k]? =W.heap[k]?
theorem gr.trans {n₀:Nat} {A B C:World} (h:gr n₀ A B) (k:gr n₀ B C):gr n₀ A C:=⟨Nat.le_trans h.1 k.1,fun b cells T fr hb h1 h2=>by
 have e:=h.2.1 b cells T fr hb h1 h2
 rw[<-e]at hb ⊢
 exact k.2.1 b cells T fr hb h1 h2,fun b hb hs=>(k.2.2 b hb (Nat.lt_of_lt_of_le hs h.1)).trans (h.2.2 b hb hs)⟩
theorem gr.of {n₀:Nat} {W W':World} (h:Below W.heap.size W W'):gr n₀ W W':=⟨h.size,fun b cells T fr hb _ _=>h.block b (Array.getElem?_eq_some_iff.1 hb).1,fun k _ hs=>h.block k hs⟩
theorem gr.refl (n₀:Nat) (W:World):gr n₀ W W:=⟨Nat.le_refl _,fun _ _ _ _ _ _ _=>rfl,fun _ _ _=>rfl⟩
theorem gr.b {n₀ m:Nat} (hm:n₀<=m) (W:World) (l:Nat) (o o':Obj) (hl:m<=l) (h:W.heap[l]? =some o) (hc:o.isCells=false) (_:o.isWalk=false):gr n₀ W (W.putObj l o'):=by
 refine⟨by simp,fun b cells T fr hb _ _=>?_,fun k hk _=>World.putObj_heap_other ab⟩
 by_cases oY:b=l
 ·subst oY;rw[h]at hb;cases hb;cases hc
 ·exact World.putObj_heap_other oY
def HV (bs:List PB):List Value:=bs.flatMap fun b=>[.int .i64 b.a,.int .i64 b.b,.int .i64 b.s]
theorem Fj (bs:List PB) (b:PB):HV (bs++[b])=HV bs++[.int .i64 b.a,.int .i64 b.b,.int .i64 b.s]:=by simp[HV]
def mi (s:aq) (l:List ak) (pre:List (Kk l)):List PB:=(pre.map (·.1)).flatMap (v5 s l)
theorem uL (s:aq) (l:List ak) (pre:List (Kk l)) (x:Kk l):mi s l (pre++[x])=mi s l pre++v5 s l x.1:=by simp[mi]
theorem Fi (s:aq) (l:List ak) (x:Nat×Nat×Int):(v5 s l x).length<=1:=by
 unfold v5;split<;>simp
theorem Fk (s:aq) (l:List ak) (pre:List (Kk l)):(mi s l pre).length<=pre.length:=by
 unfold mi
 induction pre with
 |nil=>simp
 |cons x r ih=>
  have:=Fi s l x.1
  simp only[List.map_cons,List.flatMap_cons,List.length_append,List.length_cons]at ih ⊢
  omega
theorem vE (l:List ak) (i:Nat):∀m,(jY l i m).length<=m
 |0=>by simp[jY]
 |m+1=>by
  rw[lN,List.length_append]
  have:=vE l i m
  have:(zb l i (1-(m:Int))).length<=1:=by unfold zb;split<;>simp
  omega
theorem zd (l:List ak):∀n,(ko l n).length<=n*2
 |0=>by simp[ko]
 |n+1=>by
  rw[lf,List.length_append]
  have:=zd l n
  have:=vE l n 2
  omega
theorem yH {β:Type} (B:Nat) (c:Array Value) (t:TypeId) (fr:Nat×Nat):Own (fun(_:β) W=>W.heap[B]? =some (.cells c t fr)):=fun _ X _ row h hg hr=>(hg.block B (Array.getElem?_eq_some_iff.1 h).1 (fun e=>by
 obtain⟨o,ho,hc⟩:=hr B e.symm
 rw[h]at ho;cases ho;cases hc)).trans h
theorem gr.app {n₀:Nat} {W w1:World} {B k:Nat} {v v':Value} {xs:List Value} {tmp:Obj} (hv:Boxed W B 177 v) (fu:W.ownsRow n₀ 196 3 v k xs) (Cg:(W.alloc tmp).grownBy w1 v.ownBlock) (hb:Below n₀ W (w1.setCell ⟨B,0,none⟩ v')):gr n₀ W (w1.setCell ⟨B,0,none⟩ v'):=by
 refine⟨hb.size,fun b cells T fr h h1 h2=>?_,fun k hk _=>hb.block k hk⟩
 have dF:=(Array.getElem?_eq_some_iff.1 h).1
 have hbB:b≠B:=by
  rintro rfl
  rw[show W.heap[b]? = _ from hv]at h
  cases h
  exact h1 rfl
 have O2:some b≠v.ownBlock:=by
  rcases fu.2 with⟨rfl,_⟩|⟨g,cap,cur,rfl,_,hg,_⟩
  ·simp[Value.ownBlock]
  ·intro e
   obtain rfl:b=g:=by simpa[Value.ownBlock]using e
   rw[hg]at h;cases h
   exact h2 rfl
 refine(Below.heap_setCell w1 ⟨B,0,none⟩ v' b hbB).trans ?_
 exact(Cg.block b (by simp;omega) O2).trans (Below.heap_alloc W tmp b dF)
theorem Oi {w:World} {vS:Value} {l:List ak} (hP:nT w vS l):E6 (gr w.heap.size) vS l where
 refl:=gr.refl _
 trans:=gr.trans
 of:=gr.of
 size h:=h.1
 typed h:=h.2.1
 pl {W W'} h hp:=by
  obtain⟨A,c,rfl,hm,hc⟩:=hp.sl
  refine⟨A,c,rfl,hm,?_⟩
  by_cases hl:l=[]
  ·exact .inl hl
  have kM:0<l.length:=List.length_pos_iff.2 hl
  rcases hc with h0|⟨b,o,rfl,jD⟩
  ·exact absurd h0 hl
  obtain⟨A',c',e,_,jQ⟩:=hP.sl
  cases e
  rcases jQ with h0|⟨b',o',e,hcell'⟩
  ·exact absurd h0 hl
  cases e
  have hb:=rY (hcell' 0 kM).1
  have hk:=h.2.2 b hb (rY (jD 0 kM).1)
  refine .inr ⟨b,o,rfl,fun i hi=>?_⟩
  have wH:∀x,W'.cell? ⟨b,x,none⟩=W.cell? ⟨b,x,none⟩:=fun x=>World.cell?_of_block hk
  rw[wH,wH,wH]
  exact jD i hi
theorem rrE {P:Program} {nt site0:Nat} {ops:Array Oper} {vl:List aV} (_:v8 P ops site0 false (iN ops) (pD P false ops.toList 0) ops.toList 0=some vl:=by(conv=>lhs;cbv)<;>exact rfl) (h:pg P nt site0 ops true false=some vl:=by kernel_rfl):pg P nt site0 ops true false=some vl:=h
theorem Gn (l:List Value) (d:Value):l=(List.range l.length).map fun i=>(⟨l⟩:Array Value).getD i d:=by
 refine List.ext_getElem (by simp) fun i h1 h2=>?_
 simp[h1]
theorem Bf {X:e6} {d:Bool} {ops:List aV} {K:Env->aw->Prop} {env:Env} {σ:aw} (h:dP X (.eb d ops) (fun _=>K) env σ):wpOps X d ops K env σ:=h
theorem sG (W:World) (T:TypeId) (x y z:Value):∀(j:Nat) (u:Value),[x,y,z][j]? =some u->(W.alloc (.cells #[x,y,z] T)).cell? ((⟨W.heap.size,0,none⟩:Addr).add j)=some u:=fun j u h=>by
 have hb:(W.alloc (.cells #[x,y,z] T)).heap[W.heap.size]? =some (.cells #[x,y,z] T (0,0)):=World.alloc_heap_new _ _
 have e:∀k,(W.alloc (.cells #[x,y,z] T)).cell? ⟨W.heap.size,k,none⟩=(#[x,y,z]:Array Value)[k]? :=fun k=>by
  unfold World.cell?
  rw[show(W.alloc (.cells #[x,y,z] T)).heap[(⟨W.heap.size,k,none⟩:Addr).block]? = _ from hb]
  rfl
 rw[show(⟨W.heap.size,0,none⟩:Addr).add j=⟨W.heap.size,j,none⟩ by simp[Addr.add];exact fun h=>h.symm,e]
 simpa using h
def Fq (n b:Nat):Names:=fun id=>if id=⟨1,0⟩then some ⟨n,2,2,none⟩else if id=⟨2,0⟩then some ⟨n+1,1,1,none⟩else if id=⟨3,0⟩then some ⟨n+1+1,1,1,none⟩else if id=⟨4,0⟩then some ⟨b,2,2,none⟩else if id=⟨5,0⟩then some ⟨n+1+1+1,1,1,none⟩else none
def JE (s:aq) (l:List ak) (i k:Nat):Rows:=fun id=>if id=⟨1,0⟩then some ⟨false,2,[aa s]⟩else if id=⟨2,0⟩then some ⟨false,1,[[.sl (l.map ah)]]⟩else if id=⟨4,0⟩then some ⟨false,2,[[.int .i64 (i:Int),.int .i64 (k:Int)]]⟩else none
def Kv (s:aq) (l:List ak) (i k:Nat) (d:Int):Env:=cq [.agg (aa s),.agg [.sl (l.map ah)],.ptr ⟨1,0⟩ 0 0,.ptr ⟨2,0⟩ 0 0,.bC,.ptr ⟨3,0⟩ 0 0,.ptr ⟨4,0⟩ 0 0,.int .i64 d,.undef,.agg [.sl (l.map ah)],.fn 186 [.ptr ⟨5,0⟩ 0 0],.agg [.int .i64 (i:Int),.int .i64 (k:Int)],.int .i64 d]
theorem Bo {P:Program} {W:World} {D:Nat->Prop} {ι:Names} {B:qN} {cells:Array Value} {T:TypeId} {cs:List AV} (hk:B.k=none) (hb:W.heap[B.b]? =some (.cells cells T (0,0))) (hC:cells.size=B.C) (hz:B.sz=cs.length) (hl:cs.length=cells.size) (hf:∀a∈cs,a.cell=true) (hr:∀(j:Nat) (a:AV),cs[j]? =some a->∃v,cells[j]? =some v/\cw P W D ι a v):gM P W D ι B ⟨false,cs.length,[cs]⟩:=
 kz.obj ⟨hz,⟨cells,T,hb,hC⟩,by simp;omega,fun c hc=>by simp at hc;rw[hc],fun c hc=>by simp at hc;rw[hc];exact hf,fun i j c a hi hj=>by
  match i,hi with
  |0,hi=>
   simp at hi;subst hi
   obtain⟨v,h1,h2⟩:=hr j a hj
   exact⟨v,by simp[World.cell?,hb,h1],h2⟩
  |i+1,hi=>simp at hi⟩ hk
theorem Gd:(Tryz.prog.info? 196).map (fun i=>(i.zero,i.size,i.bytes))=some (some (.agg #[.int .i64 0,.int .i64 0,.int .i64 0]),3,24):=by kernel_rfl
end Go.Proofs.YtihgaadadaekmaaGreatDoor.V

namespace Go.Proofs.YtihgaadadaekmaaGreatDoor.V
open Go.RowKit Go.Shelf
attribute [local go_sem] Oper.semAt_some
attribute [local irreducible] dP wpOps gN Call
attribute [local go_sem] aI fI eE fW fV cv upd cq K.av cL AV.cells AV.cell rowOf rowsOf part ld rowAt bK bY dH eh ij bL da eA fZ eX dr eo cY cX dR dS bR bf cQ bQ cT cR ej ep ek cP bU cZ ei bP aM cV cz ig br cI bS aZ dD bp dJ AV.undef bB bH dX ef dO ea cF ez eC cu eu er cU cW List.getD_cons_zero List.getD_cons_succ List.getD_nil List.all_cons List.all_nil Bool.and_true Bool.true_and Bool.and_self Bool.not_true Bool.not_false Option.map_some Option.map_none Option.bind_some Option.bind_none List.length_cons List.length_nil List.take_succ_cons List.take_zero List.take_nil List.drop_succ_cons List.drop_zero List.drop_nil List.head?_cons List.map_cons List.map_nil List.getElem?_cons_zero List.getElem?_cons_succ List.cons_append List.nil_append List.append_nil List.length_map List.set_cons_zero List.set_cons_succ Nat.reduceMul eq_self Int.toNat_natCast Int.natCast_nonneg and_self true_and and_true decide_true decide_false Bool.false_eq_true Nat.zero_add Nat.add_zero List.contains_cons List.contains_nil Bool.or_false Bool.false_or beq_self_eq_true Nat.reduceBEq ne_eq not_true_eq_false not_false_eq_true Id.mk.injEq false_and and_false Nat.reduceLT Int.reduceLE Int.reduceLT Int.reduceToNat Int.reduceNeg Int.reduceAdd Nat.le_refl List.length_append beq_true beq_false Bool.not_eq_eq_eq_not or_false false_or dz ad aj aH bx cl aQ bj aW bh cN bz
theorem Fo (s:aq) (l:List ak) (hF:iU s) (hA:rI s l) (w:World) (Ag At:Option Addr) (ng cg nt ct:Nat) (vS:Value) (hT:jl Tryz.prog w (fun b=>b<w.heap.size) (.agg (aa s)) (.agg #[.slice Ag ng cg,.slice At nt ct])) (hP:nT w vS l):
  CallsIn Fence.wide 5 Tryz.prog 154 #[.agg #[.slice Ag ng cg,.slice At nt ct],.agg #[vS]] w fun e W'=>∃v,e=.returned v/\W'.ownsRow w.heap.size 196 3 v (cj s l).length (HV (cj s l))/\(v=.slice none 0 0↔cj s l=[])/\Below w.heap.size w W':=by
 obtain⟨A,cp,rfl,_,_⟩:=hP.sl
 obtain⟨i0,hi,EV,xJ,kF⟩:=info_parts Gd
 refine callsIn_of_wp_marks Tryz.func154 rfl trivial ?_ rfl
 simp only[Tryz.ntmps154,List.size_toArray,List.length_cons,List.length_nil,Nat.reduceAdd,Nat.reduceSub,Array.replicate_succ,Array.replicate_zero,List.push_toArray,List.append_toArray,List.nil_append,List.cons_append]
 gi_wp2_with (refine⟨trivial,?_⟩;gi_at_call 172;refine(wY _ _ _).mono ?_;rintro e w' ⟨rfl,rfl⟩)
 have bT:((w.alloc (.cells #[.slice Ag ng cg,.slice At nt ct] 39)).heap[w.heap.size]?)=some (.cells #[.slice Ag ng cg,.slice At nt ct] 39 (0,0)):=World.alloc_heap_new _ _
 obtain⟨w1,qu⟩:∃w1,w.alloc (.cells #[.slice Ag ng cg,.slice At nt ct] 39)=w1:=⟨_,rfl⟩
 have MO:w1.heap.size=w.heap.size+1:=by rw[<-qu];simp
 have xz:Below w.heap.size w w1:=by rw[<-qu];exact(Below.refl _ w).alloc (Nat.le_refl _) _
 rw[qu]at bT ⊢
 clear qu
 have bA:=Boxed.new w1 42 (.slice A l.length cp)
 have bO:=Boxed.new (w1.alloc (.cells #[.slice A l.length cp] 42)) 177 (.slice none 0 0)
 have bN:=Boxed.new ((w1.alloc (.cells #[.slice A l.length cp] 42)).alloc (.cells #[.slice none 0 0] 177)) 42 (.slice A l.length cp)
 replace bA:=(bA.alloc (.cells #[.slice none 0 0] 177)).alloc (.cells #[.slice A l.length cp] 42)
 replace bO:=bO.alloc (.cells #[.slice A l.length cp] 42)
 simp only[World.size_alloc,MO]at bA bO bN
 have nW:Below w1.heap.size w1 (((w1.alloc (.cells #[.slice A l.length cp] 42)).alloc (.cells #[.slice none 0 0] 177)).alloc (.cells #[.slice A l.length cp] 42)):=(((Below.refl _ w1).alloc (Nat.le_refl _) _).alloc (by simp) _).alloc (by simp;omega) _
 have eS:(((w1.alloc (.cells #[.slice A l.length cp] 42)).alloc (.cells #[.slice none 0 0] 177)).alloc (.cells #[.slice A l.length cp] 42)).heap.size=w.heap.size+4:=by simp;omega
 obtain⟨W0,hW0⟩:∃W0,((w1.alloc (.cells #[.slice A l.length cp] 42)).alloc (.cells #[.slice none 0 0] 177)).alloc (.cells #[.slice A l.length cp] 42)=W0:=⟨_,rfl⟩
 rw[hW0]at bA bO bN nW eS ⊢
 clear hW0
 have yE:Below w.heap.size w W0:=xz.trans (nW.mono ab)
 replace bT:=(nW.block w.heap.size ab).trans bT
 have hP0:nT W0 (.slice A l.length cp) l:=hP.below yE
 have kl:=Oi hP
 have oY:=ox (s:=s) hA.1
 refine wpIn_rangeFunc_ownH (n:=5) rfl ab (gf:=186) (lb:= #[.pointer (some ⟨w.heap.size+1+1+1,0,none⟩)]) rfl trivial (enters_of Tryz.func186 (by kernel_rfl) rfl)
  (Gz l hA.1 (w.heap.size+1+1+1) (5-1) ab (.slice A l.length cp) (gr w.heap.size) kl W0 bN hP0) gr.trans (gr.b ab) (Below.refl _ _) (fun _=>rfl)
  (fun pre W=>((∃v,Boxed W (w.heap.size+1+1) 177 v/\W.ownsRow w.heap.size 196 3 v (mi s l pre).length (HV (mi s l pre))/\(v=.slice none 0 0↔mi s l pre=[]))/\(Boxed W (w.heap.size+1) 42 (.slice A l.length cp)/\W.heap[w.heap.size]? =some (.cells #[.slice Ag ng cg,.slice At nt ct] 39 (0,0))))/\Below w.heap.size w W)
  (fun _ _ _=>False)
  (OwnFrom.and (OwnFrom.and (Own.from (holdsRow_own w.heap.size (w.heap.size+1+1) 177 196 3 (fun pre=>(mi s l pre).length) (fun pre=>HV (mi s l pre)) (fun pre v=>v=.slice none 0 0↔mi s l pre=[])) _) (OwnFrom.and (Own.from (boxed_own _ _ _) _) (Own.from (yH _ _ _ _) _))) (ownFrom_below (Nat.le_refl _) ab))
  (fun _ _ _ _ _ hs _ _=>hs)
  ⟨⟨⟨_,bO,World.ownsRow_nil _ _ _ _,by simp[mi]⟩,bA,bT⟩,yE⟩
  (fun x a' W=>∃Bx,w.heap.size+1+1<Bx/\W.heap[Bx]? =some (.cells #[.int .i64 (x.1.1:Int),.int .i64 (x.1.2.1:Int)] 230 (0,0))/\a'={tmps:= #[.agg #[.slice Ag ng cg,.slice At nt ct],.agg #[.slice A l.length cp],.pointer (some ⟨w.heap.size,0,none⟩),.pointer (some ⟨w.heap.size+1,0,none⟩),.slice none 0 0,.pointer (some ⟨w.heap.size+1+1,0,none⟩),.pointer (some ⟨Bx,0,none⟩),.int .i64 x.1.2.2,undef,.agg #[.slice A l.length cp],.func (.func 186) #[] #[.pointer (some ⟨w.heap.size+1+1+1,0,none⟩)],.agg #[.int .i64 (x.1.1:Int),.int .i64 (x.1.2.1:Int)],.int .i64 x.1.2.2,undef,undef,undef,undef,undef,undef,undef,undef,undef,undef,undef,undef,undef,undef,undef,undef,undef,undef,undef,undef,undef,undef,undef,undef,undef,undef,undef,undef,undef],defers:=[]})
  (fun x a' _ X Y row hs hg hr=>by obtain⟨Bx,h1,h2,h3⟩:=hs;exact⟨Bx,h1,yH Bx _ _ _ () X Y row h2 hg (fun r e=>(hr r e).2),h3⟩)
  ?assign ?body ?done ?stop
 case assign=>
  rintro q pre ⟨⟨x0,x1,x2⟩,hx⟩ W K ⟨⟨⟨v,hv,fu,hnil⟩,bA1,bT1⟩,hB⟩ hK
  simp only[B4]
  gi_wp2
  exact hK _ _ ((KeepsOthers.alloc _ _).from _) (gr.of ((Below.refl _ W).alloc (Nat.le_refl _) _)) ⟨⟨⟨v,hv.alloc _,fu.alloc _,hnil⟩,bA1.alloc _,(Below.heap_alloc _ _ _ (Array.getElem?_eq_some_iff.1 bT1).1).trans bT1⟩,hB.alloc hB.size _⟩ ⟨W.heap.size,hv.lt,World.alloc_heap_new _ _,rfl⟩
 case body=>
  rintro q pre ⟨⟨x0,x1,x2⟩,hx⟩ a' W hq hqr ⟨⟨⟨v,hv,fu,hnil⟩,bA1,bT1⟩,hB⟩ ⟨Bx,hBx,bX,rfl⟩ dF
  obtain⟨zH,vg,xH⟩:=hx
  simp only at zH vg xH bX
  obtain⟨A',c',e',_,hc⟩:=(hP.below hB).sl
  cases e'
  have dh:∃b o,A=some ⟨b,o,none⟩/\W.cell? ⟨b,o+x0*3+2,none⟩=some (.int .i64 (bo l x0).bw)/\W.cell? ⟨b,o+x1*3+2,none⟩=some (.int .i64 (bo l x1).bw):=by
   rcases hc with rfl|⟨b,o,rfl,jD⟩
   ·simp at zH
   ·exact⟨b,o,rfl,by rw[Nat.add_assoc];exact(jD x0 zH).2.2,by rw[Nat.add_assoc];exact(jD x1 vg).2.2⟩
  obtain⟨b,o,rfl,cP0,cP1⟩:=dh
  have cT0:W.cell? ⟨w.heap.size,0,none⟩=some (.slice Ag ng cg):=by simp[World.cell?,bT1]
  have cT1:W.cell? ⟨w.heap.size,1,none⟩=some (.slice At nt ct):=by simp[World.cell?,bT1]
  have cX0:W.cell? ⟨Bx,0,none⟩=some (.int .i64 (x0:Int)):=by simp[World.cell?,bX]
  have cX1:W.cell? ⟨Bx,1,none⟩=some (.int .i64 (x1:Int)):=by simp[World.cell?,bX]
  have cA:=bA1.cell
  have dP0:W.drew.cell? ⟨b,o+x0*3+2,none⟩=some (.int .i64 (bo l x0).bw):=cP0
  have dP1:W.drew.cell? ⟨b,o+x1*3+2,none⟩=some (.int .i64 (bo l x1).bw):=cP1
  have dT0:W.drew.cell? ⟨w.heap.size,0,none⟩=some (.slice Ag ng cg):=cT0
  have dT1:W.drew.cell? ⟨w.heap.size,1,none⟩=some (.slice At nt ct):=cT1
  have dX0:W.drew.cell? ⟨Bx,0,none⟩=some (.int .i64 (x0:Int)):=cX0
  have dX1:W.drew.cell? ⟨Bx,1,none⟩=some (.int .i64 (x1:Int)):=cX1
  have dA:W.drew.cell? ⟨w.heap.size+1,0,none⟩=some (.slice (some ⟨b,o,none⟩) l.length cp):=cA
  have um:∀i,i<l.length->bo l i∈l:=fun i hi=>by
   unfold bo
   rw[List.getD_eq_getElem?_getD,List.getElem?_eq_getElem hi]
   exact List.getElem_mem hi
  have Qy:=mixed
  have hfw:=hA.1.EH
  have O3:=Kt s hF (bo l x0).bw x2 (bo l x1).bw (hA.2 _ (um x0 zH)) (hA.2 _ (um x1 vg)) (nh ab)
  have hTW:jl Tryz.prog W (fun b=>b<w.heap.size) (.agg (aa s)) (.agg #[.slice Ag ng cg,.slice At nt ct]):=hT.frame (fun b hb=>hB.block b hb) (fun _ h=>h)
  have hAW:jl Tryz.prog W (fun b=>b<w.heap.size) (.sl (l.map ah)) (.slice (some ⟨b,o,none⟩) l.length cp):=hP.ev.frame (fun b hb=>hB.block b hb) (fun _ h=>h)
  obtain⟨fT,hT0,hT1⟩:∃f:Nat->Value,(∀j,j<(aa s).length->(#[Value.slice Ag ng cg,.slice At nt ct])[j]? =some (f j))/\∀j a,(aa s)[j]? =some a->jl Tryz.prog W (fun b=>b<w.heap.size) a (f j):=by
   cases hTW with
   |agg _ _ f _ _ h3 h4=>exact⟨f,h3,h4⟩
  have dQ:St Tryz.prog W.heap.size 42 (fun b=>b<w.heap.size) (Fq w.heap.size Bx) (Kv s l x0 x1 x2) ⟨JE s l x0 x1,1⟩ {tmps:= #[.agg #[.slice Ag ng cg,.slice At nt ct],.agg #[.slice (some ⟨b,o,none⟩) l.length cp],.pointer (some ⟨w.heap.size,0,none⟩),.pointer (some ⟨w.heap.size+1,0,none⟩),.slice none 0 0,.pointer (some ⟨w.heap.size+1+1,0,none⟩),.pointer (some ⟨Bx,0,none⟩),.int .i64 x2,undef,.agg #[.slice (some ⟨b,o,none⟩) l.length cp],.func (.func 186) #[] #[.pointer (some ⟨w.heap.size+1+1+1,0,none⟩)],.agg #[.int .i64 (x0:Int),.int .i64 (x1:Int)],.int .i64 x2,undef,undef,undef,undef,undef,undef,undef,undef,undef,undef,undef,undef,undef,undef,undef,undef,undef,undef,undef,undef,undef,undef,undef,undef,undef,undef,undef,undef,undef],defers:=[]} W:=by
   have n1:(Fq w.heap.size Bx) ⟨1,0⟩=some ⟨w.heap.size,2,2,none⟩:=rfl
   have n2:(Fq w.heap.size Bx) ⟨2,0⟩=some ⟨w.heap.size+1,1,1,none⟩:=rfl
   have n3:(Fq w.heap.size Bx) ⟨3,0⟩=some ⟨w.heap.size+1+1,1,1,none⟩:=rfl
   have n4:(Fq w.heap.size Bx) ⟨4,0⟩=some ⟨Bx,2,2,none⟩:=rfl
   have n5:(Fq w.heap.size Bx) ⟨5,0⟩=some ⟨w.heap.size+1+1+1,1,1,none⟩:=rfl
   have rp:∀(id:Id) (B:qN),(Fq w.heap.size Bx) id=some B->B.k=none->cw Tryz.prog W (fun b=>b<w.heap.size) (Fq w.heap.size Bx) (.ptr id 0 0) (.pointer (some ⟨B.b,0,none⟩)):=fun id B h hk=>by
    have:=cw.ptr (P:=Tryz.prog) (w:=W) (D:=fun b=>b<w.heap.size) id 0 0 B h hk
    simpa using this
   have ri:∀n:Int,cw Tryz.prog W (fun b=>b<w.heap.size) (Fq w.heap.size Bx) (.int .i64 n) (.int .i64 n):=fun n=>.ev _ _ (.int _ _)
   have hA1:jl Tryz.prog W (fun b=>b<w.heap.size) (.agg [.sl (l.map ah)]) (.agg #[.slice (some ⟨b,o,none⟩) l.length cp]):=.agg _ _ (fun _=>.slice (some ⟨b,o,none⟩) l.length cp) rfl (fun a ha=>by simp at ha;rw[ha];rfl) (fun j hj=>by match j,hj with|0,_=>rfl|j+1,hj=>simp at hj) (fun j a ha=>by match j,ha with|0,ha=>simp at ha;subst ha;exact hAW|j+1,ha=>simp at ha)
   refine⟨⟨Nat.le_refl _,fun b hb=>Nat.lt_of_lt_of_le hb hB.size,fun id r hg=>?_,fun id jU r r' B B' h _ hw=>?_⟩,fun id hid=>?_,fun t=>?_,rfl⟩
   ·replace hg:JE s l x0 x1 id=some r:=hg
    unfold JE at hg
    split at hg
    ·rename_i e;subst e;injection hg with hg;subst hg
     exact⟨_,n1,Bo (cs:=aa s) rfl bT1 rfl rfl rfl (fun a ha=>by simp[aa]at ha;rcases ha with rfl|rfl<;>rfl) (fun j a ha=>⟨_,hT0 j (List.getElem?_eq_some_iff.1 ha).1,.ev _ _ (hT1 j a ha)⟩),fun h=>(by cases h),fun h=>(by cases h)⟩
    ·split at hg
     ·rename_i e;subst e;injection hg with hg;subst hg
      exact⟨_,n2,Bo (cs:=[.sl (l.map ah)]) rfl bA1 rfl rfl rfl (fun a ha=>by simp at ha;rw[ha];rfl) (fun j a ha=>by match j,ha with|0,ha=>simp at ha;subst ha;exact⟨_,rfl,.ev _ _ hAW⟩|j+1,ha=>simp at ha),fun h=>(by cases h),fun h=>(by cases h)⟩
     ·split at hg
      ·rename_i e;subst e;injection hg with hg;subst hg
       exact⟨_,n4,Bo (cs:=[.int .i64 (x0:Int),.int .i64 (x1:Int)]) rfl bX rfl rfl rfl (fun a ha=>by simp at ha;rcases ha with rfl|rfl<;>rfl) (fun j a ha=>by match j,ha with|0,ha=>simp at ha;subst ha;exact⟨_,rfl,ri _⟩|1,ha=>simp at ha;subst ha;exact⟨_,rfl,ri _⟩|j+2,ha=>simp at ha),fun h=>(by cases h),fun h=>(by cases h)⟩
      ·cases hg
   ·exfalso
    replace h:JE s l x0 x1 id=some r:=h
    unfold JE at h
    split at h
    ·injection h with h;subst h;cases hw
    ·split at h
     ·injection h with h;subst h;cases hw
     ·split at h
      ·injection h with h;subst h;cases hw
      ·cases h
   ·left
    unfold Fq at hid
    repeat' (split at hid)
    all_goals first|(rename_i e;subst e;exact Nat.zero_lt_one)|exact absurd rfl hid
   ·match t with
    |0=>exact .ev _ _ hTW
    |1=>exact .ev _ _ hA1
    |2=>exact rp _ _ n1 rfl
    |3=>exact rp _ _ n2 rfl
    |4=>exact .ev _ _ .bC
    |5=>exact rp _ _ n3 rfl
    |6=>exact rp _ _ n4 rfl
    |7=>exact ri _
    |8=>exact cw.undef
    |9=>exact .ev _ _ hA1
    |10=>exact .fn _ _ _ (fun _=>.pointer (some ⟨w.heap.size+1+1+1,0,none⟩)) (by kernel_rfl) rfl (fun j hj=>by match j,hj with|0,_=>rfl|j+1,hj=>simp at hj) (fun j a ha=>by match j,ha with|0,ha=>simp at ha;subst ha;exact rp _ _ n5 rfl|j+1,ha=>simp at ha)
    |11=>exact .agg _ _ (fun j=>if j=0 then .int .i64 (x0:Int)else .int .i64 (x1:Int)) rfl (fun a ha=>by simp at ha;rcases ha with rfl|rfl<;>rfl) (fun j hj=>by match j,hj with|0,_=>rfl|1,_=>rfl|j+2,hj=>simp at hj;omega) (fun j a ha=>by match j,ha with|0,ha=>simp at ha;subst ha;exact ri _|1,ha=>simp at ha;subst ha;exact ri _|j+2,ha=>simp at ha)
    |12=>exact ri _
    |13=>exact cw.undef
    |14=>exact cw.undef
    |15=>exact cw.undef
    |16=>exact cw.undef
    |17=>exact cw.undef
    |18=>exact cw.undef
    |19=>exact cw.undef
    |20=>exact cw.undef
    |21=>exact cw.undef
    |22=>exact cw.undef
    |23=>exact cw.undef
    |24=>exact cw.undef
    |25=>exact cw.undef
    |26=>exact cw.undef
    |27=>exact cw.undef
    |28=>exact cw.undef
    |29=>exact cw.undef
    |30=>exact cw.undef
    |31=>exact cw.undef
    |32=>exact cw.undef
    |33=>exact cw.undef
    |34=>exact cw.undef
    |35=>exact cw.undef
    |36=>exact cw.undef
    |37=>exact cw.undef
    |38=>exact cw.undef
    |39=>exact cw.undef
    |40=>exact cw.undef
    |41=>exact cw.undef
    |t+42=>exact cw.undef
  have hV:wpOps (Call Tryz.prog) true ?vl (fun e _=>e 5=.ptr ⟨3,0⟩ 0 0/\e 6=.ptr ⟨4,0⟩ 0 0/\e 8=.int .i64 (iu s (bo l x0).bw x2 (bo l x1).bw)) (Kv s l x0 x1 x2) ⟨JE s l x0 x1,1⟩:= ?hv
  gi_wp2
  refine w7 mixed (rrE (nt:=42) (site0:=154005000)) (GC (by kernel_rfl)) (lW (fun _ _ _ _ h=>gu mixed h) ov (fun _ _ h=>h) _ _ _ hV) dQ ?_
  rintro e1 σ1 ⟨tm,df⟩ w3 D1 ι1 ⟨h5,h6,h8⟩ T1 St1 Ay
  case hv=>
   refine Bf ?_
   have e0:=gm zH
   have e1:=gm vg
   (repeat(first|((repeat(revert hN;revert N;apply Pn.out));refine wk (tw @e0 (tw @e1 (tw @Kv.eq_1 (tw @JE.eq_1 (tw @ah.eq_1 @aa.eq_1))))) ?_;(repeat(refine Pn.mk ?_;intro N hN)))|((try apply Or.inl);refine⟨_,ai.x (O3) (sd (tw @e0 (tw @e1 (tw @Kv.eq_1 (tw @JE.eq_1 (tw @ah.eq_1 @aa.eq_1)))))),?_⟩;refine hN _ _ ?_;clear hN N)))
   exact⟨sd @Kv.eq_1,sd @Kv.eq_1,sd @Kv.eq_1⟩
  ·have yF:Below W.heap.size W w3:=T1.below
   have F1:∀id B,Fq w.heap.size Bx id=some B->ι1 id=some B:=T1.names
   have p5:tm.getD 5 undef=.pointer (some ⟨w.heap.size+1+1,0,none⟩):=by
    have g:=St1.env 5
    rw[h5]at g
    obtain⟨B,e,hB,_⟩:=iI g
    have h:=F1 ⟨3,0⟩ ⟨w.heap.size+1+1,1,1,none⟩ rfl
    rw[h]at hB;injection hB with hB;subst hB
    simpa using e
   have p6:tm.getD 6 undef=.pointer (some ⟨Bx,0,none⟩):=by
    have g:=St1.env 6
    rw[h6]at g
    obtain⟨B,e,hB,_⟩:=iI g
    have h:=F1 ⟨4,0⟩ ⟨Bx,2,2,none⟩ rfl
    rw[h]at hB;injection hB with hB;subst hB
    simpa using e
   have p8:tm.getD 8 undef=.int .i64 (iu s (bo l x0).bw x2 (bo l x1).bw):=by
    have g:=St1.env 8
    rw[h8]at g
    exact db g
   have eS:=St1.size
   obtain⟨tl⟩:=tm
   obtain⟨f,htl,hf⟩:∃f:Nat->Value,tl=[f 0,f 1,f 2,f 3,f 4,f 5,f 6,f 7,f 8,f 9,f 10,f 11,f 12,f 13,f 14,f 15,f 16,f 17,f 18,f 19,f 20,f 21,f 22,f 23,f 24,f 25,f 26,f 27,f 28,f 29,f 30,f 31,f 32,f 33,f 34,f 35,f 36,f 37,f 38,f 39,f 40,f 41]/\∀i,f i=(⟨tl⟩:Array Value).getD i undef:=by
    refine⟨fun i=>(⟨tl⟩:Array Value).getD i undef,?_,fun _=>rfl⟩
    have h:=Gn tl undef
    rw[show tl.length=42 from eS]at h
    exact h
   rw[<-hf]at p5 p6 p8
   have Ql:df=[]:=Ay
   subst Ql
   clear hf St1 dQ hV
   subst htl
   rw[p5,p6,p8]
   have Pm:=hv.kept (pq yF) (by simp)
   have Ci:=fu.kept (pq yF) (by rcases fu.2 with⟨e,_⟩|⟨_,_,_,e,_⟩<;>rw[e]<;>simp[Value.ownBlock])
   have hc3:=Pm.cell
   have hn3:w.heap.size<=w3.heap.size:=Nat.le_trans hB.size yF.size
   have eX0:w3.cell? ⟨Bx,0,none⟩=some (.int .i64 (x0:Int)):=(yF.cell (p:=⟨Bx,0,none⟩) (Array.getElem?_eq_some_iff.1 bX).1).trans cX0
   have eX1:w3.cell? ⟨Bx,1,none⟩=some (.int .i64 (x1:Int)):=(yF.cell (p:=⟨Bx,1,none⟩) (Array.getElem?_eq_some_iff.1 bX).1).trans cX1
   have mv:(mi s l pre).length<=2097152:=by
    have h1:=Fk s l pre
    have h2:=zd l l.length
    omega
   have hKF:KeepsFrom (w.heap.size+4) W w3:=⟨yF.size,fun k o _ hk _=>(yF.block k (Array.getElem?_eq_some_iff.1 hk).1).trans hk⟩
   have hKT:gr w.heap.size W w3:=gr.of yF
   have PG:w3.heap[w.heap.size+1]? = _:=(yF.block _ bA1.lt).trans bA1
   have PH:=(yF.block _ (Array.getElem?_eq_some_iff.1 bT1).1).trans bT1
   by_cases kM:0<iu s (bo l x0).bw x2 (bo l x1).bw
   ·have yG:mi s l (pre++[⟨(x0,x1,x2),zH,vg,xH⟩])=mi s l pre++[⟨x0,x1,iu s (bo l x0).bw x2 (bo l x1).bw⟩]:=by
     rw[uL];simp only[v5,if_pos kM]
    gi_wp2_with (gi_at_builtin;refine wpListIn_append_own _ rfl _ _ 177 rfl w.heap.size 196 i0 (.agg #[.int .i64 0,.int .i64 0,.int .i64 0]) 3 24 (by kernel_rfl) hi EV xJ kF rfl (by decide) _ _ _ rfl (Ci.alloc _) ⟨w3.heap.size,0,none⟩ 1 1 [.int .i64 (x0:Int),.int .i64 (x1:Int),.int .i64 (iu s (bo l x0).bw x2 (bo l x1).bw)] rfl rfl (sG _ _ _ _ _) (by simp[Value.oneCell']) (by unfold maxLen;omega) ab (by simp;omega) ?_;intro v' w4 JY Cg _;obtain⟨g',cap',rfl⟩:=ownsRow_succ JY;obtain⟨vd,Lt,AK,sS,r8⟩:=Pm.appended (by decide) Ci hn3 ab JY Cg;have HE:=gr.app Pm Ci Cg r8;have oi:=vd.cell;have NI:=vd.frozen)
    exact⟨hKF.trans (sS.from _),hKT.trans HE,⟨⟨_,Lt,by rw[yG,Fj,List.length_append];exact AK,by rw[yG];simp⟩,(HE.2.1 _ _ _ _ PG (by decide) (by decide)).trans PG,(HE.2.1 _ _ _ _ PH (by decide) (by decide)).trans PH⟩,hB.trans ((yF.mono hB.size).trans r8)⟩
   ·have yG:mi s l (pre++[⟨(x0,x1,x2),zH,vg,xH⟩])=mi s l pre:=by
     rw[uL];simp only[v5,if_neg kM,List.append_nil]
    gi_wp2
    exact⟨hKF,hKT,⟨⟨v,Pm,by rw[yG];exact Ci,by rw[yG];exact hnil⟩,PG,PH⟩,hB.trans (yF.mono hB.size)⟩
 case done=>
  rintro D ys W hD Cl ⟨⟨⟨v,hv,fu,hnil⟩,_⟩,hB⟩ hK
  have hc:=hv.cell
  have Hx:mi s l ys=cj s l:=by rw[Fp,<-Cl];rfl
  rw[Hx]at fu hnil
  gi_wp2
  refine⟨by simp,.inl ⟨_,_,rfl,run_takeDeferred hK,?_⟩⟩
  exact⟨_,results_tmp rfl _ _ _,v,rfl,ownsRow_putObj fu _ hK rfl,hnil,hB.trans (belowK_b (w:=w) (Nat.le_refl _) W D _ _ ab hK rfl rfl)⟩
 case stop=>
  rintro D c pre W _ _ h _
  exact h.elim
end Go.Proofs.YtihgaadadaekmaaGreatDoor.V

namespace Go.Proofs.YtihgaadadaekmaaGreatDoor.V
open Go.RowKit Go.Shelf
theorem BU:∀{bs:List PB} {i j:Nat} {b:PB},bs[i]? =some b->j<3->(HV bs)[i*3+j]? =([.int .i64 b.a,.int .i64 b.b,.int .i64 b.s]:List Value)[j]?
 |c::bs,0,j,b,h,hj=>by
  simp at h;subst h
  simp only[HV,List.flatMap_cons,Nat.zero_mul,Nat.zero_add]
  rw[List.getElem?_append_left (by simpa using hj)]
 |c::bs,i+1,j,b,h,hj=>by
  simp only[List.getElem?_cons_succ]at h
  have:=BU (bs:=bs) (i:=i) (j:=j) h hj
  simp only[HV,List.flatMap_cons]at this ⊢
  rw[List.getElem?_append_right (by simp;omega),<-this]
  congr 1
  simp;omega
theorem pz {P:Program} {w:World} {D:Nat->Prop} {rows:List (List AV)} {v:Value} (h:jl P w D (.sl rows) v):∃A n c,v=.slice A n c:=by
 cases h with
 |zI a c _=>exact⟨_,_,_,rfl⟩
 |sl=>exact⟨_,_,_,rfl⟩
theorem oR {P:Program} {w:World} {D:Nat->Prop} {ι:Names} {rows:List (List AV)} {v:Value} (h:cw P w D ι (.sl rows) v):jl P w D (.sl rows) v:=by
 cases h with
 |ev _ _ h=>exact h
theorem Jb {P:Program} {w:World} {D:Nat->Prop} {l:List ak} {v:Value} (h:jl P w D (.sl (l.map ah)) v):nT w v l:=by
 generalize hr:l.map ah=rows at h
 cases h with
 |zI a c hc=>
  have:l=[]:=by simpa using hr
  subst this
  exact⟨a,c,rfl,⟨Nat.zero_le _,hc⟩,.inl rfl⟩
 |sl _ b o n c sz vs h1 h2 h3 h4 h5 h5' h6 h7=>
  have hn:n=l.length:=by rw[<-h1,<-hr];simp
  subst hn
  refine⟨some ⟨b,o,none⟩,c,rfl,⟨h2,h3⟩,?_⟩
  by_cases hl:l=[]
  ·exact .inl hl
  refine .inr ⟨b,o,rfl,fun i hi=>?_⟩
  have hg:rows[i]? =some (ah (bo l i)):=by rw[<-hr];exact gm hi
  have eS:sz=3:=by rw[<-h5 _ (List.mem_of_getElem? hg)];rfl
  subst eS
  have k:∀(j:Nat) (x:Int),(ah (bo l i))[j]? =some (.int .i64 x)->j<3->w.cell? ⟨b,o+(i*3+j),none⟩=some (.int .i64 x):=fun j x hj h3=>by
   have:=h7 i j _ _ hg hj
   rw[h6 i j hi h3,db (.ev (ι:=fun _=>none) _ _ this)]
  exact⟨k 0 _ rfl ab,k 1 _ rfl ab,k 2 _ rfl ab⟩
theorem Ku:zJ:=by
 intro s l hS hA n
 refine gT ?_
 intro hs D ι w vs S U A
 obtain⟨u0,Pk,r0⟩:=A.2 0 _ rfl
 obtain⟨u1,N6,r1⟩:=A.2 1 _ rfl
 have dF:∀b,D b->b<w.heap.size:=S.dead
 obtain⟨v0,f0,rfl,EV,_,O8,QO⟩:=gS r0
 obtain⟨v1,f1,rfl,xJ,_,NI,F5⟩:=gS r1
 have g0:=oR (QO 0 _ rfl)
 have g1:=oR (QO 1 _ rfl)
 have a0:=oR (F5 0 _ rfl)
 obtain⟨Ag,ng,cg,eg⟩:=pz g0
 obtain⟨At,nt,ct,et⟩:=pz g1
 have e0:v0= #[.slice Ag ng cg,.slice At nt ct]:=by
  obtain⟨vl⟩:=v0
  have q0:=O8 0 (by simp[aa])
  have q1:=O8 1 (by simp[aa])
  rw[eg]at q0;rw[et]at q1
  match vl,EV with
  |[a,b],_=>simp at q0 q1;rw[q0,q1]
 have e1:v1= #[f1 0]:=by
  obtain⟨vl⟩:=v1
  have q0:=NI 0 (by simp)
  match vl,xJ with
  |[a],_=>simp at q0;rw[q0]
 subst e0 e1
 have evs:vs= #[.agg #[.slice Ag ng cg,.slice At nt ct],.agg #[f1 0]]:=by
  obtain⟨vl⟩:=vs
  have hz:=A.1
  match vl,hz with
  |[a,b],_=>simp at Pk N6;rw[Pk,N6]
 subst evs
 have up:∀{a v},jl Tryz.prog w D a v->jl Tryz.prog w (fun b=>b<w.heap.size) a v:=fun h=>h.frame (fun _ _=>rfl) dF
 have hT:jl Tryz.prog w (fun b=>b<w.heap.size) (.agg (aa s)) (.agg #[.slice Ag ng cg,.slice At nt ct]):=
  .agg _ _ f0 EV (fun a ha=>by simp[aa]at ha;rcases ha with rfl|rfl<;>rfl) O8 (fun j a ha=>by
   match j,ha with
   |0,ha=>simp[aa]at ha;subst ha;exact up g0
   |1,ha=>simp[aa]at ha;subst ha;exact up g1
   |j+2,ha=>simp[aa]at ha)
 refine(callsIn_wide.1 (Fo s l hS.form hA w Ag At ng cg nt ct (f1 0) hT (Jb a0))).mono ?_
 rintro e W' ⟨v,rfl,⟨hl,hown⟩,hnil,hB⟩
 have S':fJ Tryz.prog hs D ι (fun _=>none) W':=S.stay (fun b hb=>hB.block b hb) hB.size (fun _ h=>h) (fun b hb=>Nat.lt_of_lt_of_le (dF b hb) hB.size) (fun _ h=>.inl h) (fun _ _ h=>h)
 have T:Step hs D ι w D ι W':=Step.stay S (fun b hb=>hB.block b hb) hB.size hB.os hB.tape hB.output (fun _ h=>h) (fun _ h=>.inl h) (fun _ _ h=>h)
 rcases hown with⟨rfl,h0⟩|⟨gb,cap,cur,rfl,NO,lI,hle,Ij,dh,oJ⟩
 ·have Ny:cj s l=[]:=hnil.1 rfl
  exact⟨.bC,_,n,D,ι,_,rfl,⟨.bC,jO _ _,by rw[Ny];rfl⟩,T,S',U,Nat.le_refl _,.ev _ _ .bC⟩
 ·have Ny:cj s l≠[]:=fun h=>by have:=hnil.2 h;cases this
  have mc:ι ⟨0,n⟩=none:=fresh U (fun h=>h)
  have gi:∀{a v},cw Tryz.prog W' D ι a v->cw Tryz.prog W' D (kf ι ⟨0,n⟩ ⟨gb,3,cap*3,none⟩) a v:=fun h=>h.frame (fun _ _=>rfl) (fun _ h=>h) (fx mc)
  have hR:gM Tryz.prog W' D (kf ι ⟨0,n⟩ ⟨gb,3,cap*3,none⟩) ⟨gb,3,cap*3,none⟩ ⟨true,3,(cj s l).map au⟩:=by
   refine kz.obj ⟨rfl,⟨cur,_,lI,dh⟩,?_,fun cs hc=>?_,fun cs hc a ha=>?_,fun i j cs a hi hj=>?_⟩ rfl
   ·simp only[List.length_map];exact Nat.mul_le_mul_right 3 hle
   ·obtain⟨b,_,rfl⟩:=List.mem_map.1 hc;rfl
   ·obtain⟨b,_,rfl⟩:=List.mem_map.1 hc
    simp[au]at ha
    rcases ha with rfl|rfl|rfl<;>rfl
   ·rw[List.getElem?_map]at hi
    simp only[Option.map_eq_some_iff]at hi
    obtain⟨b,hb,rfl⟩:=hi
    have hj3:j<3:=by have:=(List.getElem?_eq_some_iff.1 hj).1;simpa[au]using this
    have oj:=(List.getElem?_eq_some_iff.1 hb).1
    have hg:=BU hb hj3
    rw[<-oJ,List.getElem?_take,if_pos ab]at hg
    have key:∀x:Value,([.int .i64 b.a,.int .i64 b.b,.int .i64 b.s]:List Value)[j]? =some x->W'.cell? ⟨gb,i*3+j,none⟩=some x:=fun x hx=>by
     rw[hx]at hg
     have e:W'.cell? ⟨gb,i*3+j,none⟩=cur[i*3+j]? :=by
      unfold World.cell?
      rw[show W'.heap[(⟨gb,i*3+j,none⟩:Addr).block]? = _ from lI]
      rfl
     rw[e,<-Array.getElem?_toList];exact hg
    match j,hj with
    |0,hj=>simp[au]at hj;subst hj;exact⟨_,key _ rfl,.ev _ _ (.int _ _)⟩
    |1,hj=>simp[au]at hj;subst hj;exact⟨_,key _ rfl,.ev _ _ (.int _ _)⟩
    |2,hj=>simp[au]at hj;subst hj;exact⟨_,key _ rfl,.ev _ _ (.int _ _)⟩
    |j+3,hj=>simp[au]at hj
  have S2:=fJ.add (r:=⟨true,3,(cj s l).map au⟩) S S' mc NO hR
  refine⟨.own ⟨0,n⟩ 0 (cj s l).length,bK (fun _=>none) ⟨0,n⟩ ⟨true,3,(cj s l).map au⟩,n+1,D,kf ι ⟨0,n⟩ ⟨gb,3,cap*3,none⟩,_,rfl,⟨xd (cj s l),?_,rfl⟩,T.trans (Step.stay S' (fun _ _=>rfl) (Nat.le_refl _) rfl rfl rfl (fun _ h=>h) (fun _ h=>.inl h) (fx mc)),S2,U.upd.next,Nat.le_succ _,.own _ _ _ _ _ _ (dL _ _ _) rfl hle (.inr (by simp)) (by simp) Ij⟩
  unfold xd
  rw[if_neg Ny]
  have hg:(bK (fun _=>none) (⟨0,n⟩:Id) ⟨true,3,(cj s l).map au⟩:Rows) ⟨0,n⟩=some ⟨true,3,(cj s l).map au⟩:=by simp[bK]
  have:=ft (n:=5) hg rfl fun b=>r4 _ 4 b
  simpa using this
end Go.Proofs.YtihgaadadaekmaaGreatDoor.V

namespace Go.Proofs.YtihgaadadaekmaaGreatDoor.V
open Go.RowKit
attribute [local irreducible] dP wpOps gN Call
attribute [local go_sem] aI fI eE fW fV cv upd cq K.av cL AV.cells AV.cell rowOf rowsOf part ld rowAt bK bY dH eh ij bL da eA fZ eX dr eo cY cX dR dS bR bf cQ bQ cT cR ej ep ek cP bU cZ ei bP aM cV cz ig br cI bS aZ dD bp dJ AV.undef bB bH dX ef dO ea cF ez eC cu eu er cU cW List.getD_cons_zero List.getD_cons_succ List.getD_nil List.all_cons List.all_nil Bool.and_true Bool.true_and Bool.and_self Bool.not_true Bool.not_false Option.map_some Option.map_none Option.bind_some Option.bind_none List.length_cons List.length_nil List.take_succ_cons List.take_zero List.take_nil List.drop_succ_cons List.drop_zero List.drop_nil List.head?_cons List.map_cons List.map_nil List.getElem?_cons_zero List.getElem?_cons_succ List.cons_append List.nil_append List.append_nil List.length_map List.set_cons_zero List.set_cons_succ Nat.reduceMul eq_self Int.toNat_natCast Int.natCast_nonneg and_self true_and and_true decide_true decide_false Bool.false_eq_true Nat.zero_add Nat.add_zero List.contains_cons List.contains_nil Bool.or_false Bool.false_or beq_self_eq_true Nat.reduceBEq ne_eq not_true_eq_false not_false_eq_true Id.mk.injEq false_and and_false Nat.reduceLT Int.reduceLE Int.reduceLT Int.reduceToNat Int.reduceNeg Int.reduceAdd Nat.le_refl List.length_append beq_true beq_false Bool.not_eq_eq_eq_not or_false false_or dz ad aj aH bx cl aQ bj aW bh cN bz
theorem wD (s:ck) (l:List ak) (hn:fC s.aA) (hm:qR s) (hl:l.length<=1048576):ai Tryz.prog 41 [.agg (ay s),.agg [.sl (l.map ah)]] (.int .i64 (if qe s l then 0 else 1)):=by
 refine ai.body dN rfl fun rR n0=>?_
 clear rR
 have h1:=tZ Ku s hn hm.s.g hm.s.t hm.s.s hm.a
 have h2:=l7 s.aA l hn hm.s.g hm.s.t hm.s.s hl
 cases b1:lT s
 ·rw[b1]at h1
  rw[ay]at h1 ⊢
  (repeat(first|((repeat(revert hN;revert N;apply Pn.out));refine wk @Nat.zero_add ?_;(repeat(refine Pn.mk ?_;intro N hN)))|((try apply Or.inl);refine⟨_,ai.x (h1) (sd @Nat.zero_add),?_⟩;refine hN _ _ ?_;clear hN N)))
  exact bq (b:=1) (.inl rfl) (sd @Nat.zero_add) (by simp[qe,b1])
 have dK:oU s.aA=true:=lj.2 (tG.1 b1).set
 rw[b1]at h1
 rw[dK,Bool.true_and]at h2
 rw[ay]at h1 ⊢
 rw[aa]at h2
 cases b2:nV s.aA l
 ·rw[b2]at h2
  (repeat(first|((repeat(revert hN;revert N;apply Pn.out));refine wk @Nat.zero_add ?_;(repeat(refine Pn.mk ?_;intro N hN)))|((try apply Or.inl);refine⟨_,ai.x (h1) (sd @Nat.zero_add),?_⟩;refine hN _ _ ?_;clear hN N)|((try apply Or.inl);refine⟨_,ai.x (h2) (sd @Nat.zero_add),?_⟩;refine hN _ _ ?_;clear hN N)))
  exact bq (b:=1) (.inl rfl) (sd @Nat.zero_add) (by simp[qe,b1,b2])
 ·rw[b2]at h2
  (repeat(first|((repeat(revert hN;revert N;apply Pn.out));refine wk @Nat.zero_add ?_;(repeat(refine Pn.mk ?_;intro N hN)))|((try apply Or.inl);refine⟨_,ai.x (h1) (sd @Nat.zero_add),?_⟩;refine hN _ _ ?_;clear hN N)|((try apply Or.inl);refine⟨_,ai.x (h2) (sd @Nat.zero_add),?_⟩;refine hN _ _ ?_;clear hN N)))
  exact bq (b:=0) (.inl rfl) (sd @Nat.zero_add) (by simp[qe,b1,b2])
def qAt (ps:List bI) (i:Nat):bI:=ps.getD i ⟨0,0⟩
theorem Q4 {ps:List bI} {i:Nat} (h:i<ps.length):qAt ps i=ps[i]:=by simp[qAt,List.getD_eq_getElem?_getD,h]
def RisQ (ps:List bI):Prop:=ps.Pairwise fun a b=>pC a b=true
def E5 (z lo:Nat) (L:List (List Int)) (v:AV) (g:Rows) (n:Nat):Prop:=(L=[]/\v=.bC)∨∃(oo:Id) (rows:List (List AV)) (is:List Id),v=.own oo 0 L.length/\g oo=some ⟨true,1,rows⟩/\cD jm g rows L is/\dZ lo n (oo::is)/\0<L.length/\oo.site=z
theorem E5.out {z lo:Nat} {L:List (List Int)} {v:AV} {g:Rows} {n:Nat} (h:E5 z lo L v g n):∃ids,ik g v L ids/\dZ lo n ids:=by
 rcases h with⟨h1,h2⟩|⟨oo,rows,is,h1,h2,h3,h4,h5,_⟩
 ·exact⟨[],.inl ⟨h1,h2,rfl⟩,⟨List.nodup_nil,fun i hi=>by cases hi⟩⟩
 ·exact⟨oo::is,.inr ⟨⟨oo,rows,is,h1,h2,h3,rfl⟩,h5⟩,h4⟩
theorem E5.one {z lo n:Nat} {R:List Int} {v:AV} {g:Rows} {oo r:Id} (hv:v=.own oo 0 1) (hg:g oo=some ⟨true,1,[[.own r 0 R.length]]⟩) (hr:g r=some ⟨true,1,R.map az⟩) (h1:lo<=r.bV) (h2:r.bV<oo.bV) (h3:oo.bV<n) (hs:oo.site=z):E5 z lo [R] v g n:=
 .inr ⟨oo,_,[r],hv,hg,cD.one ⟨r,rfl,hr,rfl⟩,⟨List.nodup_cons.2 ⟨fun h=>by rw[List.mem_singleton.1 h]at h2;omega,List.nodup_cons.2 ⟨by simp,List.nodup_nil⟩⟩,fun i hi=>by
  rcases List.mem_cons.1 hi with rfl|hi
  ·omega
  ·rw[List.mem_singleton.1 hi];omega⟩,by simp,hs⟩
theorem E5.more {z lo m n:Nat} {L:List (List Int)} {R:List Int} {v:AV} {g g':Rows} {oo o' r:Id} {rows:List (List AV)} {is:List Id} (h3:cD jm g rows L is) (h4:dZ lo m (oo::is)) (jz:lo<=m)
  (hv:v=.own o' 0 (L.length+1)) (hg:g' o'=some ⟨true,1,rows++[[.own r 0 R.length]]⟩) (hr:g' r=some ⟨true,1,R.map az⟩) (hf:∀y:Id,y.bV<m->y≠oo->g' y=g y) (h1:m<=r.bV) (h2:r.bV<o'.bV) (h5:o'.bV<n) (hs:o'.site=z):E5 z lo (L++[R]) v g' n:=by
 obtain⟨ids,⟨o2,rD,J6,q1,q2,q3,rfl⟩,q5⟩:=fh.push (z:=1) (lo:=lo) (m:=m) (n':=n) (x:=R) (cs:=[.own r 0 R.length]) (ic:=[r]) (o':=o') (g':=g') qw h3 h4 (fun y _ y2 y3=>hf y y2 y3) ⟨r,rfl,hr,rfl⟩ ⟨List.nodup_cons.2 ⟨by simp,List.nodup_nil⟩,fun i hi=>by rw[List.mem_singleton.1 hi];omega⟩ ab h5 jz hg
 have e:o2=o':=by
  injection q1 with e1;exact e1.symm
 subst e
 exact .inr ⟨o2,rD,J6,by rw[hv,List.length_append];rfl,q2,q3,q5,by simp,hs⟩
theorem vT (s:ck) (a:dd) (w h:Int) (hn:fC s.aA) (hm:qR s) (hl:a.ae.length<=1048576):
  ∀n0:Nat,Call Tryz.prog 12 [.agg (ay s),.agg (aC a),.int .i64 w,.int .i64 h] ⟨fun _=>none,n0⟩ (fun r σ'=>∃ids,(∃v0 i0,r=.ib [v0,.int .i64 (jB s a w h).2]/\ik σ'.get v0 (jB s a w h).1 i0/\ids=i0)/\dZ n0 σ'.next ids):=by
 obtain⟨l⟩:=a
 intro n0
 have h1:=wD s l hn hm hl
 have i1:=iL w 1 15
 have i2:=iL h 1 15
 rw[aC]
 (try dsimp only)
 cases hask:qe s l
 ·rw[hask]at h1
  have hr:jB s ⟨l⟩ w h=([],1):=by rw[jB,hask];rfl
  rw[hr]
  refine eZ dN rfl fun rR=>?_
  clear rR
  rw[ay]at h1 ⊢
  (repeat(first|((repeat(revert hN;revert N;apply Pn.out));refine wk @Nat.zero_add ?_;(repeat(refine Pn.mk ?_;intro N hN)))|((try apply Or.inl);refine⟨_,ai.x (h1) (sd @Nat.zero_add),?_⟩;refine hN _ _ ?_;clear hN N)))
  exact gn (.inl rfl) (vs:=[.bC,.int .i64 1]) (sd @Nat.zero_add) ⟨[],⟨.bC,[],rfl,.inl ⟨rfl,rfl,rfl⟩,rfl⟩,⟨List.nodup_nil,fun i hi=>by cases hi⟩⟩
 rw[hask]at h1
 obtain⟨hP,hA⟩:=xS.1 hask
 cases r8:gD w 1 15
 ·have hr:jB s ⟨l⟩ w h=([],2):=by rw[jB,hask,if_pos rfl,r8];rfl
  rw[hr]
  refine eZ dN rfl fun rR=>?_
  clear rR
  rw[r8]at i1
  rw[ay]at h1 ⊢
  (repeat(first|((repeat(revert hN;revert N;apply Pn.out));refine wk @Nat.zero_add ?_;(repeat(refine Pn.mk ?_;intro N hN)))|((try apply Or.inl);refine⟨_,ai.x (h1) (sd @Nat.zero_add),?_⟩;refine hN _ _ ?_;clear hN N)|((try apply Or.inl);refine⟨_,ai.x (i1) (sd @Nat.zero_add),?_⟩;refine hN _ _ ?_;clear hN N)))
  exact gn (.inl rfl) (vs:=[.bC,.int .i64 2]) (sd @Nat.zero_add) ⟨[],⟨.bC,[],rfl,.inl ⟨rfl,rfl,rfl⟩,rfl⟩,⟨List.nodup_nil,fun i hi=>by cases hi⟩⟩
 rw[r8]at i1
 cases mo:gD h 1 15
 ·have hr:jB s ⟨l⟩ w h=([],2):=by rw[jB,hask,if_pos rfl,r8,mo];rfl
  rw[hr]
  refine eZ dN rfl fun rR=>?_
  clear rR
  rw[mo]at i2
  rw[ay]at h1 ⊢
  (repeat(first|((repeat(revert hN;revert N;apply Pn.out));refine wk @Nat.zero_add ?_;(repeat(refine Pn.mk ?_;intro N hN)))|((try apply Or.inl);refine⟨_,ai.x (h1) (sd @Nat.zero_add),?_⟩;refine hN _ _ ?_;clear hN N)|((try apply Or.inl);refine⟨_,ai.x (i1) (sd @Nat.zero_add),?_⟩;refine hN _ _ ?_;clear hN N)|((try apply Or.inl);refine⟨_,ai.x (i2) (sd @Nat.zero_add),?_⟩;refine hN _ _ ?_;clear hN N)))
  exact gn (.inl rfl) (vs:=[.bC,.int .i64 2]) (sd @Nat.zero_add) ⟨[],⟨.bC,[],rfl,.inl ⟨rfl,rfl,rfl⟩,rfl⟩,⟨List.nodup_nil,fun i hi=>by cases hi⟩⟩
 rw[mo]at i2
 have kb:=dt r8
 have kd:=dt mo
 obtain⟨wn,rfl⟩:∃n:Nat,w=(n:Int):=⟨w.toNat,ab⟩
 obtain⟨hh,rfl⟩:∃n:Nat,h=(n:Int):=⟨h.toNat,ab⟩
 have hr:jB s ⟨l⟩ wn hh=if GO s.aA l wn hh=true then(rL s.aA l wn hh,0)else([],9):=by rw[jB,hask,if_pos rfl,r8,mo];rfl
 obtain⟨R,hR⟩:∃R:List (List Int)×Int,jB s ⟨l⟩ wn hh=R:=⟨_,rfl⟩
 rw[hR]at hr ⊢
 clear hR
 have oZ:=fun y x:Nat=>yC s.aA hP.set.form l hA ⟨(x:Int)+1,(y:Int)+1⟩ 0 (nh ab)
 have MC:=fun nm:ByteArray=>(show ai Tryz.prog 43 [.str nm,.str ⟨#[113]⟩,.int .i64 10] (.int .i64 (lF nm ⟨#[113]⟩ 10))from Bb nm ⟨#[113]⟩ (by decide) 10 ab)
 rw[aa]at oZ
 refine eZ dN rfl fun rR=>?_
 clear rR
 rw[ay]at h1 ⊢
 (repeat(first|((repeat(revert hN;revert N;apply Pn.out));refine wk @Nat.zero_add ?_;(repeat(refine Pn.mk ?_;intro N hN)))|((try apply Or.inl);refine⟨_,ai.x (h1) (sd @Nat.zero_add),?_⟩;refine hN _ _ ?_;clear hN N)|((try apply Or.inl);refine⟨_,ai.x (i1) (sd @Nat.zero_add),?_⟩;refine hN _ _ ?_;clear hN N)|((try apply Or.inl);refine⟨_,ai.x (i2) (sd @Nat.zero_add),?_⟩;refine hN _ _ ?_;clear hN N)))
 refine aL (fun n env st=>∃k:Nat,n=(hh)-k/\k<=(hh)/\env 30=.int .i64 (k:Int)/\(∀y:Nat,y<k->∀x,x<wn->0<=nu s.aA l y x)/\(E5 12018003 n0 (rL s.aA l wn k) (env 10) st.get st.next/\n0<st.next/\st.get ⟨12000000,n0⟩=some ⟨true,4,[[.sl (s.aA.ar.map aT),.sl (s.aA.ae.map aU),.sl (s.bJ.ae.map ah),.int .i64 s.aE]]⟩/\st.get ⟨12000001,n0⟩=some ⟨true,1,[[.sl (l.map ah)]]⟩)) (hh) ⟨0,ab,ab,sl @Nat.zero_add,fun _ h=>absurd h (Nat.not_lt_zero _),by(try dsimp only);exact⟨.inl ⟨rfl,sd @Nat.zero_add⟩,ab,sd @Nat.zero_add,sd @Nat.zero_add⟩⟩ ?_
 rintro n_a env_a st_a ⟨k,rfl,ale,a30,kj,lx⟩ dC
 have a2:=dC 2 (by kernel_rfl);have a4:=dC 4 (by kernel_rfl);have a5:=dC 5 (by kernel_rfl);have M1:=dC 29 (by kernel_rfl)
 simp only[go_sem, ↓reduceIte,Nat.reduceEqDiff,Nat.reduceAdd,Nat.reduceSub,Nat.reduceLeDiff,reduceCtorEq]at a2 a4 a5 M1
 clear dC
 obtain⟨aG,an,ag4,ag5⟩:=lx
 by_cases hk:(k:Int)<(hh:Int)
 ·have bZ:∀{e:Env} {gg:Rows} {nx:Nat},(e 30=.int .i64 (IntKind.i64.wrap ((k:Int)+1)))->(∀x,x<wn->0<=nu s.aA l k x)->(E5 12018003 n0 (rL s.aA l wn (k+1)) (e 10) gg nx/\n0<nx/\gg ⟨12000000,n0⟩=some ⟨true,4,[[.sl (s.aA.ar.map aT),.sl (s.aA.ae.map aU),.sl (s.bJ.ae.map ah),.int .i64 s.aE]]⟩/\gg ⟨12000001,n0⟩=some ⟨true,1,[[.sl (l.map ah)]]⟩)->∃m0,m0<(hh)-k/\∃k:Nat,m0=(hh)-k/\k<=(hh)/\e 30=.int .i64 (k:Int)/\(∀y:Nat,y<k->∀x,x<wn->0<=nu s.aA l y x)/\(E5 12018003 n0 (rL s.aA l wn k) (e 10) gg nx/\n0<nx/\gg ⟨12000000,n0⟩=some ⟨true,4,[[.sl (s.aA.ar.map aT),.sl (s.aA.ae.map aU),.sl (s.bJ.ae.map ah),.int .i64 s.aE]]⟩/\gg ⟨12000001,n0⟩=some ⟨true,1,[[.sl (l.map ah)]]⟩):=fun x1 x2 x3=>⟨_,ab,k+1,rfl,ab,(by rw[x1,ax ab]),(all_succ kj x2),x3⟩
  have FX:k<hh:=ab
  (try((repeat(revert hN;revert N;apply Pn.out));refine wk (tw @a30 (tw @a2 (tw @a4 (tw @a5 (tw @M1 @hk))))) ?_;(repeat(refine Pn.mk ?_;intro N hN))))
  refine aL (fun n env st=>∃x:Nat,n=(wn)-x/\x<=(wn)/\env 34=.int .i64 (x:Int)/\(∀j:Nat,j<x->0<=nu s.aA l k j)/\(Py 12016003 st_a.next (kO s.aA l k x) (env 12) st.get st.next/\st_a.next<=st.next/\∀i:Id,i.bV<st_a.next->st.get i=st_a.get i)) (wn) ⟨0,ab,ab,sl (tw @a30 (tw @a2 (tw @a4 (tw @a5 @M1)))),fun _ h=>absurd h (Nat.not_lt_zero _),by(try dsimp only);exact⟨.inl ⟨rfl,sd @Nat.zero_add⟩,ab,fun i hi=>rfl⟩⟩ ?_
  rintro n_b env_b st_b ⟨x,rfl,ble,b34,bA0,bI0⟩ bfr
  have b2:=bfr 2 (by kernel_rfl);have b4:=bfr 4 (by kernel_rfl);have b5:=bfr 5 (by kernel_rfl);have ua:=bfr 10 (by kernel_rfl);have uI:=bfr 11 (by kernel_rfl);have zC:=bfr 29 (by kernel_rfl);have zD:=bfr 30 (by kernel_rfl);have mC:=bfr 33 (by kernel_rfl)
  simp only[go_sem, ↓reduceIte,Nat.reduceEqDiff,Nat.reduceAdd,Nat.reduceSub,Nat.reduceLeDiff,reduceCtorEq,a30,a2,a4,a5,M1]at b2 b4 b5 ua uI zC zD mC
  clear bfr
  obtain⟨bG,bn,bF⟩:=bI0
  have g4:=(bF ⟨12000000,n0⟩ an).trans ag4
  have g5:=(bF ⟨12000001,n0⟩ an).trans ag5
  by_cases hx:(x:Int)<(wn:Int)
  ·have iF:∀{e:Env} {gg:Rows} {nx:Nat},(e 34=.int .i64 (IntKind.i64.wrap ((x:Int)+1)))->(0<=nu s.aA l k x)->(Py 12016003 st_a.next (kO s.aA l k (x+1)) (e 12) gg nx/\st_a.next<=nx/\∀i:Id,i.bV<st_a.next->gg i=st_a.get i)->∃m0,m0<(wn)-x/\∃x:Nat,m0=(wn)-x/\x<=(wn)/\e 34=.int .i64 (x:Int)/\(∀j:Nat,j<x->0<=nu s.aA l k j)/\(Py 12016003 st_a.next (kO s.aA l k x) (e 12) gg nx/\st_a.next<=nx/\∀i:Id,i.bV<st_a.next->gg i=st_a.get i):=fun x1 x2 x3=>⟨_,ab,x+1,rfl,ab,(by rw[x1,ax ab]),(all_succ bA0 x2),x3⟩
   have J5:x<wn:=ab
   have xG:IntKind.i64.wrap ((x:Int)+1)=(x:Int)+1:=aY ab
   have ve:IntKind.i64.wrap ((k:Int)+1)=(k:Int)+1:=aY ab
   have FU:=oZ k x
   rw[ao]at FU
   have Dq:=MC (EI s.aA l ⟨(x:Int)+1,(k:Int)+1⟩ 0)
   have NB:lF (EI s.aA l ⟨(x:Int)+1,(k:Int)+1⟩ 0) ⟨#[113]⟩ 10=nu s.aA l k x:=rfl
   rw[NB]at Dq
   generalize EI s.aA l ⟨(x:Int)+1,(k:Int)+1⟩ 0=nm at FU Dq
   obtain⟨v,hv⟩:∃v,nu s.aA l k x=v:=⟨_,rfl⟩
   rw[hv]at Dq
   by_cases jT:v<0
   ·have jI:=Bi (s:=s.aA) (l:=l) (w:=wn) (h:=hh) FX J5 (by rw[hv];exact jT)
    rw[jI,if_neg (by simp)]at hr
    subst hr
    (repeat(first|((repeat(revert hN;revert N;apply Pn.out));refine wk (tw @b34 (tw @b2 (tw @b4 (tw @b5 (tw @ua (tw @uI (tw @zC (tw @zD (tw @mC (tw @hx (tw @g4 (tw @g5 (tw @xG (tw @ve @jT)))))))))))))) ?_;(repeat(refine Pn.mk ?_;intro N hN)))|((try apply Or.inl);refine⟨_,ai.x (FU) (sd (tw @b34 (tw @b2 (tw @b4 (tw @b5 (tw @ua (tw @uI (tw @zC (tw @zD (tw @mC (tw @hx (tw @g4 (tw @g5 (tw @xG (tw @ve @jT))))))))))))))),?_⟩;refine hN _ _ ?_;clear hN N)|((try apply Or.inl);refine⟨_,ai.x (Dq) (sd (tw @b34 (tw @b2 (tw @b4 (tw @b5 (tw @ua (tw @uI (tw @zC (tw @zD (tw @mC (tw @hx (tw @g4 (tw @g5 (tw @xG (tw @ve @jT))))))))))))))),?_⟩;refine hN _ _ ?_;clear hN N)))
    exact gn (.inl rfl) (vs:=[.bC,.int .i64 9]) (sd @Nat.zero_add) ⟨[],⟨.bC,[],rfl,.inl ⟨rfl,rfl,rfl⟩,rfl⟩,⟨List.nodup_nil,fun i hi=>by cases hi⟩⟩
   ·have Ga:(kO s.aA l k (x+1)).map az=(kO s.aA l k x).map az++[[.int .i64 v]]:=by rw[vJ,List.map_append,hv];rfl
    have tW:=lg s.aA l k (x+1)
    have xE:=lg s.aA l k x
    have vg:x<=16777215:=ab
    generalize kO s.aA l k x=M at bG Ga xE
    rcases bG with⟨hM,Ff⟩|⟨u,Ff,hu,hum,ER,wK,QS⟩
    ·subst hM
     (repeat(first|((repeat(revert hN;revert N;apply Pn.out));refine wk (tw @b34 (tw @b2 (tw @b4 (tw @b5 (tw @ua (tw @uI (tw @zC (tw @zD (tw @mC (tw @hx (tw @g4 (tw @g5 (tw @xG (tw @ve (tw @jT @Ff))))))))))))))) ?_;(repeat(refine Pn.mk ?_;intro N hN)))|((try apply Or.inl);refine⟨_,ai.x (FU) (sd (tw @b34 (tw @b2 (tw @b4 (tw @b5 (tw @ua (tw @uI (tw @zC (tw @zD (tw @mC (tw @hx (tw @g4 (tw @g5 (tw @xG (tw @ve (tw @jT @Ff)))))))))))))))),?_⟩;refine hN _ _ ?_;clear hN N)|((try apply Or.inl);refine⟨_,ai.x (Dq) (sd (tw @b34 (tw @b2 (tw @b4 (tw @b5 (tw @ua (tw @uI (tw @zC (tw @zD (tw @mC (tw @hx (tw @g4 (tw @g5 (tw @xG (tw @ve (tw @jT @Ff)))))))))))))))),?_⟩;refine hN _ _ ?_;clear hN N)))
     exact iF (sd (tw @b34 (tw @b2 (tw @b4 (tw @b5 (tw @ua (tw @uI (tw @zC (tw @zD (tw @mC @xG)))))))))) (by rw[hv];omega) (by(try dsimp only);exact⟨.inr ⟨⟨12016003,st_b.next+1+1+1+1⟩,by rw[tW,<-xE];simp only[go_sem, ↓reduceIte,Nat.reduceEqDiff,Nat.reduceAdd,Nat.reduceSub,Nat.reduceLeDiff,reduceCtorEq]<;>rfl,by rw[Ga];simp only[go_sem, ↓reduceIte,Nat.reduceEqDiff,Nat.reduceAdd,Nat.reduceSub,Nat.reduceLeDiff,reduceCtorEq]<;>rfl,bt,bt,by rw[tW];omega,rfl⟩,ab,fun i hi=>by
      have h9:=eD (i:=i) (n:=st_b.next) ab
      have h8:=bF i hi
      simp only[go_sem, ↓reduceIte,Nat.reduceEqDiff,Nat.reduceAdd,Nat.reduceSub,Nat.reduceLeDiff,reduceCtorEq,h9,h8]⟩)
    ·have vu:=eD ER
     have FZ:(M.map az).length=M.length:=by simp
     have P9:M.length<=16777215:=ab
     (repeat(first|((repeat(revert hN;revert N;apply Pn.out));refine wk (tw @b34 (tw @b2 (tw @b4 (tw @b5 (tw @ua (tw @uI (tw @zC (tw @zD (tw @mC (tw @hx (tw @g4 (tw @g5 (tw @xG (tw @ve (tw @jT (tw @Ff (tw @hu (tw @vu (tw @FZ @P9))))))))))))))))))) ?_;(repeat(refine Pn.mk ?_;intro N hN)))|((try apply Or.inl);refine⟨_,ai.x (FU) (sd (tw @b34 (tw @b2 (tw @b4 (tw @b5 (tw @ua (tw @uI (tw @zC (tw @zD (tw @mC (tw @hx (tw @g4 (tw @g5 (tw @xG (tw @ve (tw @jT (tw @Ff (tw @hu (tw @vu (tw @FZ @P9)))))))))))))))))))),?_⟩;refine hN _ _ ?_;clear hN N)|((try apply Or.inl);refine⟨_,ai.x (Dq) (sd (tw @b34 (tw @b2 (tw @b4 (tw @b5 (tw @ua (tw @uI (tw @zC (tw @zD (tw @mC (tw @hx (tw @g4 (tw @g5 (tw @xG (tw @ve (tw @jT (tw @Ff (tw @hu (tw @vu (tw @FZ @P9)))))))))))))))))))),?_⟩;refine hN _ _ ?_;clear hN N)))
     exact iF (sd (tw @b34 (tw @b2 (tw @b4 (tw @b5 (tw @ua (tw @uI (tw @zC (tw @zD (tw @mC @xG)))))))))) (by rw[hv];omega) (by(try dsimp only);exact⟨.inr ⟨⟨12016003,st_b.next+1+1+1+1⟩,by rw[tW,<-xE];simp only[go_sem, ↓reduceIte,Nat.reduceEqDiff,Nat.reduceAdd,Nat.reduceSub,Nat.reduceLeDiff,reduceCtorEq]<;>rfl,by rw[Ga];simp only[go_sem, ↓reduceIte,Nat.reduceEqDiff,Nat.reduceAdd,Nat.reduceSub,Nat.reduceLeDiff,reduceCtorEq]<;>rfl,bt,bt,by rw[tW];omega,rfl⟩,ab,fun i hi=>by
      have h9:=eD (i:=i) (n:=st_b.next) ab
      have h8:=bF i hi
      have h7:=dj (a:=i) (b:=u) ab
      simp only[go_sem, ↓reduceIte,Nat.reduceEqDiff,Nat.reduceAdd,Nat.reduceSub,Nat.reduceLeDiff,reduceCtorEq,h9,h8,h7]⟩)
  ·have J5:x=wn:=ab
   subst J5
   have mz:=lg s.aA l k x
   have JJ:∀y,y=k->∀x',x'<x->0<=nu s.aA l y x':=fun y hy x' oM=>by rw[hy];exact bA0 x' oM
   have Ga:=w6 s.aA l x k
   have hLl:=tp s.aA l x k
   generalize kO s.aA l k x=R1 at bG mz Ga
   rcases bG with⟨hM,Ff⟩|⟨u,Ff,hu,hum,ER,wK,QS⟩
   ·subst hM;simp at mz;omega
   have vu:=eD ER
   generalize rL s.aA l x k=L at aG Ga hLl
   have rj:k<=16777215:=ab
   rcases aG with⟨hL,EG⟩|⟨oo,rows,is,EG,Ix,hRR,hNI,hLp,zG⟩
   ·subst hL
    (try((repeat(revert hN;revert N;apply Pn.out));refine wk (tw @b34 (tw @b2 (tw @b4 (tw @b5 (tw @ua (tw @uI (tw @zC (tw @zD (tw @mC (tw @hx (tw @Ff (tw @EG (tw @hu @vu))))))))))))) ?_;(repeat(refine Pn.mk ?_;intro N hN))))
    exact bZ (sd (tw @b34 (tw @b2 (tw @b4 (tw @b5 (tw @ua (tw @uI (tw @zC (tw @zD @mC))))))))) (fun x' oM=>JJ _ rfl x' oM) (by(try dsimp only);exact⟨by
     rw[Ga]
     exact E5.one (oo:=⟨12018003,st_b.next+1⟩) (r:=u) (sl @Nat.zero_add) (by rw[mz];simp only[go_sem, ↓reduceIte,Nat.reduceEqDiff,Nat.reduceAdd,Nat.reduceSub,Nat.reduceLeDiff,reduceCtorEq]<;>rfl) (sd (tw @vu @hu)) ab bt bt rfl,ab,sd @g4,sd @g5⟩)
   ·have QK:=(bF oo (hNI.2 oo (by simp)).2).trans Ix
    have voo:=eD (i:=oo) (n:=st_b.next) (by have:=(hNI.2 oo (by simp)).2;omega)
    have Qb:cD jm st_b.get rows L is:=hRR.frame qw fun i hi=>bF i (hNI.2 i (by simp[hi])).2
    have Dt:=hRR.len
    have hL1:L.length<=16777215:=ab
    have OW:L.length+1=k+1:=ab
    have uo:(u=oo)=False:=eq_false fun e=>by
     have:=(hNI.2 oo (by simp)).2
     rw[e]at hum;omega
    have o4:((⟨12000000,n0⟩:Id)=oo)=False:=eq_false fun e=>by
     have h:=congrArg Id.site e
     rw[zG]at h
     exact absurd (show(12000000:Nat)=12018003 from h) (by decide)
    have o5:((⟨12000001,n0⟩:Id)=oo)=False:=eq_false fun e=>by
     have h:=congrArg Id.site e
     rw[zG]at h
     exact absurd (show(12000001:Nat)=12018003 from h) (by decide)
    (try((repeat(revert hN;revert N;apply Pn.out));refine wk (tw @b34 (tw @b2 (tw @b4 (tw @b5 (tw @ua (tw @uI (tw @zC (tw @zD (tw @mC (tw @hx (tw @Ff (tw @EG (tw @hu (tw @vu (tw @QK (tw @voo (tw @Dt @hL1))))))))))))))))) ?_;(repeat(refine Pn.mk ?_;intro N hN))))
    exact bZ (sd (tw @b34 (tw @b2 (tw @b4 (tw @b5 (tw @ua (tw @uI (tw @zC (tw @zD @mC))))))))) (fun x' oM=>JJ _ rfl x' oM) (by(try dsimp only);exact⟨by
     rw[Ga]
     exact E5.more (oo:=oo) (o':=⟨12018003,st_b.next+1⟩) (r:=u) (m:=st_a.next) Qb hNI ab (sl @Nat.zero_add) (by rw[mz];simp only[go_sem, ↓reduceIte,Nat.reduceEqDiff,Nat.reduceAdd,Nat.reduceSub,Nat.reduceLeDiff,reduceCtorEq]<;>rfl) (sd (tw @vu (tw @uo @hu))) (fun y y1 y2=>by
      have h9:=eD (i:=y) (n:=st_b.next) ab
      have h8:=eq_false y2
      simp only[go_sem, ↓reduceIte,Nat.reduceEqDiff,Nat.reduceAdd,Nat.reduceSub,Nat.reduceLeDiff,reduceCtorEq,h9,h8]) ab bt bt rfl,ab,sd (tw @o4 @g4),sd (tw @o5 @g5)⟩)
 ·have ki:k=hh:=ab
  subst ki
  have Gc:=Cx (s:=s.aA) (l:=l) (w:=wn) (h:=k) fun y hy=>kj y hy
  rw[Gc,if_pos rfl]at hr
  subst hr
  obtain⟨ids,ho,hi⟩:=aG.out
  obtain⟨v10,Ls⟩:∃v,env_a 10=v:=⟨_,rfl⟩
  rw[Ls]at ho
  (try((repeat(revert hN;revert N;apply Pn.out));refine wk (tw @a30 (tw @a2 (tw @a4 (tw @a5 (tw @M1 (tw @hk @Ls)))))) ?_;(repeat(refine Pn.mk ?_;intro N hN))))
  exact gn (.inl rfl) (vs:=[v10,.int .i64 0]) (sd @Ls) ⟨ids,⟨v10,ids,rfl,ho,rfl⟩,hi.wide (Nat.le_refl _) bt⟩
end Go.Proofs.YtihgaadadaekmaaGreatDoor.V

namespace Go.Proofs.YtihgaadadaekmaaGreatDoor
open Go.ChangeShapes Go.WideShapes Go.ChangeAt Go.RowKit Go.Deep
section
variable {H:Type} {enc:TypeId×Value->H} {P:Program} {w:World}
theorem lv.On {α:Type} {rep:World->List Nat->List Value->α->Prop} {sz:Nat} {w:World} {b o len cap:Nat} (mY:Nat->List Value) (fs:Nat->List Nat) (ds:Nat->α) (hc:len<=cap) (hm:cap<=maxLen)
  (hl:∀i,i<len->(mY i).length=sz) (hr:∀i,i<len->rep w (fs i) (mY i) (ds i)) (xC:∀i,i<len->∀j u,(mY i)[j]? =some u->w.cell? ⟨b,o+(i*sz+j),none⟩=some u):
  lv rep sz w ([b]++((List.range len).map fs).flatten) (.slice (some ⟨b,o,none⟩) len cap) ((List.range len).map ds):=by
 refine⟨(List.range len).map mY,(List.range len).map fs,[b],rfl,⟨some ⟨b,o,none⟩,cap,by simp,by simpa using hc,hm,.inr ⟨b,o,rfl,rfl,fun j u hj=>?_⟩⟩,by simp,by simp,fun i cs f d h1 h2 h3=>?_⟩
 ·have hlen:∀cs∈(List.range len).map mY,cs.length=sz:=fun cs dh=>by
   obtain⟨i,hi,rfl⟩:=List.mem_map.1 dh
   exact hl i (List.mem_range.1 hi)
  have gq:=(List.getElem?_eq_some_iff.1 hj).1
  have Im:((List.range len).map mY).flatten.length=len*sz:=by
   rw[List.length_flatten,List.map_map]
   have:∀(l:List Nat),(∀i∈l,i<len)->(l.map (List.length∘mY)).sum=l.length*sz:=by
    intro l
    induction l with
    |nil=>intro _;simp
    |cons a l ih=>intro h;rw[List.map_cons,List.sum_cons,ih fun i hi=>h i (List.mem_cons_of_mem _ hi)];simp only[Function.comp,hl a (h a (by simp)),List.length_cons,Nat.add_mul];omega
   rw[this _ fun i hi=>List.mem_range.1 hi,List.length_range]
  rw[Im]at gq
  have yM:0<sz:=by
   rcases Nat.eq_zero_or_pos sz with h|h
   ·subst h;simp at gq
   ·exact h
  have hi:j / sz<len:=(Nat.div_lt_iff_lt_mul yM).2 gq
  have JW:j % sz<sz:=Nat.mod_lt _ yM
  have Ir:j=(j / sz)*sz+j % sz:=by rw[Nat.mul_comm];exact(Nat.div_add_mod j sz).symm
  rw[Ir,qW hlen (i:=j / sz) (cs:=mY (j / sz)) (by simp[hi]) JW]at hj
  rw[Ir]
  have:=xC (j / sz) hi (j % sz) u hj
  rw[<-Ir]at this ⊢
  exact this
 ·have hi:i<len:=by
   have:=(List.getElem?_eq_some_iff.1 h1).1
   simpa using this
  simp[hi]at h1 h2 h3
  subst h1 h2 h3
  exact⟨hr i hi,hl i hi⟩
theorem jw (b o k:Nat):(⟨b,o,none⟩:Addr).add k=⟨b,o+k,none⟩:=by
 unfold Addr.add;split
 ·rename_i h;subst h;rfl
 ·rfl
theorem nS {α:Type} {rep:World->List Nat->List Value->α->Prop} {Q:α->Prop} {t e:TypeId} {sz fuel:Nat} {cs:List Value} {x:DataW H×List MemPlace} (ht:P.underlying t=some (.slice e)) (hC:P.cellsOf e=sz) (yM:0<sz)
  (h:DataW.trod enc P w 0 (fun _=>true) true fuel t cs=some x) (hel:∀n og y,og.length=sz->DataW.trod enc P w 0 (fun _=>true) true n e og=some y->∃f d,e7 f 0 w.heap.size/\rep w f og d/\Q d):
  ∃A n c f xs,cs=[.slice A n c]/\e7 f 0 w.heap.size/\lv rep sz w f (.slice A n c) xs/\∀d∈xs,Q d:=by
 rcases open_slice ht h with⟨rfl,_⟩|⟨a,len,cap,m,n,D,Pl,rfl,_,hl,hm,FZ,_,hi⟩
 ·exact⟨none,0,0,[],[],rfl,e7.nil _ _,lv.nil _ _ _,fun d h=>by cases h⟩
 rw[hC]at hi
 simp only[if_true]at FZ
 by_cases h0:len=0
 ·subst h0
  exact⟨some a,0,cap,[],[],rfl,e7.nil _ _,⟨[],[],[],rfl,⟨some a,cap,rfl,Nat.zero_le _,hm,.inl ⟨rfl,rfl⟩⟩,rfl,rfl,fun i cs f d hc=>by simp at hc⟩,fun d h=>by cases h⟩
 obtain⟨b,o,sp⟩:=a
 have cell0:∃v,w.cell? ⟨b,o,sp⟩=some v:=by
  obtain⟨og,hc,_⟩:=hi 0 (by omega)
  obtain⟨_,mm,xC⟩:=World.cells?_some hc
  refine⟨og[0]'(by omega),?_⟩
  have:=xC 0 yM
  rw[List.getElem?_eq_getElem (by omega)]at this
  simpa[Addr.add]using this
 obtain⟨v0,jT⟩:=cell0
 have hb:b<w.heap.size:=World.block_lt_of_cell? w _ jT
 have Lo:sp=none:=by
  unfold World.cell? at jT
  split at jT
  ·split at jT
   ·cases jT
   ·rename_i h;simpa using h
  ·cases jT
 subst Lo
 have key:∀i,i<len->∃og f d,og.length=sz/\e7 f 0 w.heap.size/\rep w f og d/\Q d/\∀j u,og[j]? =some u->w.cell? ⟨b,o+(i*sz+j),none⟩=some u:=fun i oj=>by
  obtain⟨og,hc,htr⟩:=hi i (by omega)
  obtain⟨_,mm,xC⟩:=World.cells?_some hc
  obtain⟨f,d,h1,h2,h3⟩:=hel n og _ mm htr
  refine⟨og,f,d,mm,h1,h2,h3,fun j u hj=>?_⟩
  have gq:=(List.getElem?_eq_some_iff.1 hj).1
  have:=xC j (by omega)
  rw[hj]at this
  rw[<-this,Go.Deep.add_add,jw]
 have:Nonempty α:=by
  obtain⟨_,_,d,_⟩:=key 0 (by omega)
  exact⟨d⟩
 let cf:Nat->List Value:=fun i=>if hi:i<len then(key i hi).choose else[]
 let ff:Nat->List Nat:=fun i=>if hi:i<len then(key i hi).choose_spec.choose else[]
 let df:Nat->α:=fun i=>if hi:i<len then(key i hi).choose_spec.choose_spec.choose else Classical.choice this
 have di:∀i,i<len->(cf i).length=sz/\e7 (ff i) 0 w.heap.size/\rep w (ff i) (cf i) (df i)/\Q (df i)/\∀j u,(cf i)[j]? =some u->w.cell? ⟨b,o+(i*sz+j),none⟩=some u:=fun i hi=>by
  have:=(key i hi).choose_spec.choose_spec.choose_spec
  simp only[cf,ff,df,dif_pos hi]
  exact this
 refine⟨some ⟨b,o,none⟩,len,cap,_,(List.range len).map df,rfl,?_,lv.On cf ff df hl hm (fun i hi=>(di i hi).1) (fun i hi=>(di i hi).2.2.1) (fun i hi=>(di i hi).2.2.2.2),fun d hd=>?_⟩
 ·intro x hx
  rcases List.mem_append.1 hx with hx|hx
  ·simp at hx;subst hx;exact⟨Nat.zero_le _,hb⟩
  ·obtain⟨l,MB,HK⟩:=List.mem_flatten.1 hx
   obtain⟨i,hi,rfl⟩:=List.mem_map.1 MB
   exact(di i (List.mem_range.1 hi)).2.1 x HK
 ·obtain⟨i,hi,rfl⟩:=List.mem_map.1 hd
  exact(di i (List.mem_range.1 hi)).2.2.2.1
end
section
variable {H:Type} {enc:TypeId×Value->H} {w:World} {fuel:Nat} {cs:List Value} {x:DataW H×List MemPlace}
abbrev TT (enc:TypeId×Value->H) (w:World) (fuel t:Nat) (cs:List Value) (x:DataW H×List MemPlace):Prop:=DataW.trod enc Tryz.prog w 0 (fun _=>true) true fuel t cs=some x
theorem LH (h:TT enc w fuel 54 cs x):∃A n c f xs,cs=[.slice A n c]/\e7 f 0 w.heap.size/\su w f (.slice A n c) xs:=by
 obtain⟨A,n,c,f,xs,h1,h2,h3,_⟩:=nS (rep:=BR) (Q:=fun _=>True) Tryz.underlying54 (sz:=1) (by kernel_rfl) (by omega) h fun n og y hl hy=>by
  obtain⟨b,rfl,_⟩:=DataW.trod_int Tryz.underlying2 hy
  exact⟨[],b,e7.nil _ _,⟨rfl,rfl⟩,trivial⟩
 exact⟨A,n,c,f,xs,h1,h2,h3⟩
theorem lO {t:TypeId} {fs:Array Field} (ht:Tryz.prog.underlying t=some (.struct fs)) (h:TT enc w fuel t cs x):cs.length=Tryz.prog.cellsOf t/\∃n,∀(i:Nat) (f:Field),fs[i]? =some f->∃y,TT enc w n f.type ((cs.drop f.offset).take (Tryz.prog.cellsOf f.type)) y:=by
 obtain⟨xs,n,_,_,hl,HK,hf⟩:=DataW.trod_struct ht h
 refine⟨hl,n,fun i f hi=>?_⟩
 have oj:i<xs.length:=by rw[HK];exact(Array.getElem?_eq_some_iff.1 hi).1
 exact⟨xs[i],(hf i f hi).trans (List.getElem?_eq_getElem oj)⟩
theorem Oj {l:List Value} (h:l.length=2):∃a b,l=[a,b]:=by
 match l,h with
 |[a,b],_=>exact⟨a,b,rfl⟩
theorem Q1 {l:List Value} (h:l.length=3):∃a b c,l=[a,b,c]:=by
 match l,h with
 |[a,b,c],_=>exact⟨a,b,c,rfl⟩
theorem Q0 {l:List Value} (h:l.length=1):∃a,l=[a]:=by
 match l,h with
 |[a],_=>exact⟨a,rfl⟩
theorem Q2 {l:List Value} (h:l.length=4):∃a b c d,l=[a,b,c,d]:=by
 match l,h with
 |[a,b,c,d],_=>exact⟨a,b,c,d,rfl⟩
theorem I6 (h:TT enc w fuel 22 cs x):∃A n c f xs,cs=[.slice A n c]/\e7 f 0 w.heap.size/\pa w f (.slice A n c) xs/\∀d∈xs,d.aB.size<=9223372036854775807:=by
 exact nS (rep:=E8) (Q:=fun d=>d.aB.size<=9223372036854775807) Tryz.underlying22 (sz:=2) (by kernel_rfl) (by omega) h fun n og y hl hy=>by
  obtain⟨_,m,hf⟩:=lO Tryz.underlying144 hy
  obtain⟨a,b,rfl⟩:=Oj hl
  ·skip
   obtain⟨y0,h0⟩:=hf 0 _ rfl
   obtain⟨y1,h1⟩:=hf 1 _ rfl
   rw[show Tryz.prog.cellsOf _=1 from by kernel_rfl]at h0 h1
   obtain⟨p,e0,_,ws⟩:=DataW.trod_string Tryz.underlying9 h0
   obtain⟨q,e1,_⟩:=DataW.trod_int Tryz.underlying2 h1
   simp at e0 e1
   subst e0 e1
   exact⟨[],⟨p,q⟩,e7.nil _ _,⟨rfl,rfl⟩,by simpa[maxLen]using ws⟩
theorem I7 (h:TT enc w fuel 23 cs x):∃A n c f xs,cs=[.slice A n c]/\e7 f 0 w.heap.size/\pb w f (.slice A n c) xs/\∀d∈xs,d.aB.size<=9223372036854775807:=by
 exact nS (rep:=E9) (Q:=fun d=>d.aB.size<=9223372036854775807) Tryz.underlying23 (sz:=2) (by kernel_rfl) (by omega) h fun n og y hl hy=>by
  obtain⟨_,m,hf⟩:=lO Tryz.underlying146 hy
  obtain⟨a,b,rfl⟩:=Oj hl
  ·skip
   obtain⟨y0,h0⟩:=hf 0 _ rfl
   obtain⟨y1,h1⟩:=hf 1 _ rfl
   rw[show Tryz.prog.cellsOf _=1 from by kernel_rfl]at h0 h1
   obtain⟨p,e0,_,ws⟩:=DataW.trod_string Tryz.underlying9 h0
   obtain⟨A1,n1,c1,f1,OE,e1,k1,s1⟩:=LH h1
   simp at e0 e1
   subst e0 e1
   exact⟨_,⟨p,OE⟩,k1,⟨_,f1,rfl,rfl,s1⟩,by simpa[maxLen]using ws⟩
theorem Ea (h:TT enc w fuel 26 cs x):∃A n c f xs,cs=[.slice A n c]/\e7 f 0 w.heap.size/\gY w f (.slice A n c) xs:=by
 obtain⟨A,n,c,f,xs,h1,h2,h3,_⟩:=nS (rep:=xL) (Q:=fun _=>True) Tryz.underlying26 (sz:=3) (by kernel_rfl) (by omega) h fun n og y hl hy=>by
  obtain⟨_,m,hf⟩:=lO Tryz.underlying123 hy
  obtain⟨a,b,c,rfl⟩:=Q1 hl
  ·skip
   obtain⟨y0,h0⟩:=hf 0 _ rfl
   obtain⟨y1,h1⟩:=hf 1 _ rfl
   rw[show Tryz.prog.cellsOf _=2 from by kernel_rfl]at h0
   rw[show Tryz.prog.cellsOf _=1 from by kernel_rfl]at h1
   obtain⟨_,m2,JM⟩:=lO Tryz.underlying121 h0
   obtain⟨z0,g0⟩:=JM 0 _ rfl
   obtain⟨z1,g1⟩:=JM 1 _ rfl
   rw[show Tryz.prog.cellsOf _=1 from by kernel_rfl]at g0 g1
   obtain⟨px,e0,_⟩:=DataW.trod_int Tryz.underlying2 g0
   obtain⟨py,e1,_⟩:=DataW.trod_int Tryz.underlying2 g1
   obtain⟨ti,e2,_⟩:=DataW.trod_int Tryz.underlying2 h1
   simp at e0 e1 e2
   subst e0 e1 e2
   exact⟨[],⟨⟨px,py⟩,ti⟩,e7.nil _ _,⟨rfl,rfl⟩,trivial⟩
 exact⟨A,n,c,f,xs,h1,h2,h3⟩
theorem tg (h:TT enc w fuel 28 cs x):∃A n c f,∃d:dd,cs=[.slice A n c]/\e7 f 0 w.heap.size/\gY w f (.slice A n c) d.ae:=by
 obtain⟨hl,m,hf⟩:=lO Tryz.underlying28 h
 rw[show Tryz.prog.cellsOf _=1 from by kernel_rfl]at hl
 obtain⟨a,rfl⟩:=Q0 hl
 ·skip
  obtain⟨y0,h0⟩:=hf 0 _ rfl
  rw[show Tryz.prog.cellsOf _=1 from by kernel_rfl]at h0
  obtain⟨A1,n1,c1,f1,OE,e1,k1,s1⟩:=Ea h0
  simp at e1
  subst e1
  exact⟨A1,n1,c1,f1,⟨OE⟩,rfl,k1,s1⟩
theorem GG (h:TT enc w fuel 30 cs x):∃A0 n0 c0 f0 A1 n1 c1 f1 A2 n2 c2 f2,∃d:ck,cs=[.slice A0 n0 c0,.slice A1 n1 c1,.slice A2 n2 c2,.int .i64 d.aE]/\e7 f0 0 w.heap.size/\pa w f0 (.slice A0 n0 c0) d.aA.ar/\e7 f1 0 w.heap.size/\pb w f1 (.slice A1 n1 c1) d.aA.ae/\e7 f2 0 w.heap.size/\gY w f2 (.slice A2 n2 c2) d.bJ.ae/\(∀g∈d.aA.ar,g.aB.size<=9223372036854775807)/\∀t∈d.aA.ae,t.aB.size<=9223372036854775807:=by
 obtain⟨hl,m,hf⟩:=lO Tryz.underlying30 h
 rw[show Tryz.prog.cellsOf _=4 from by kernel_rfl]at hl
 obtain⟨a,b,c,d,rfl⟩:=Q2 hl
 ·skip
  obtain⟨y0,h0⟩:=hf 0 _ rfl
  obtain⟨y1,h1⟩:=hf 1 _ rfl
  obtain⟨y2,h2⟩:=hf 2 _ rfl
  rw[show Tryz.prog.cellsOf _=2 from by kernel_rfl]at h0
  rw[show Tryz.prog.cellsOf _=1 from by kernel_rfl]at h1 h2
  obtain⟨_,m2,JM⟩:=lO Tryz.underlying25 h0
  obtain⟨z0,g0⟩:=JM 0 _ rfl
  obtain⟨z1,g1⟩:=JM 1 _ rfl
  rw[show Tryz.prog.cellsOf _=1 from by kernel_rfl]at g0 g1
  obtain⟨A0,n0,c0,f0,xs0,e0,k0,s0,o0⟩:=I6 g0
  obtain⟨A1,n1,c1,f1,OE,e1,k1,s1,o1⟩:=I7 g1
  obtain⟨A2,n2,c2,f2,d2,e2,k2,s2⟩:=tg h1
  obtain⟨t,e3,_⟩:=DataW.trod_int Tryz.underlying2 h2
  simp at e0 e1 e2 e3
  subst e0 e1 e2 e3
  exact⟨A0,n0,c0,f0,A1,n1,c1,f1,A2,n2,c2,f2,⟨⟨xs0,OE⟩,d2,t⟩,rfl,k0,s0,k1,s1,k2,s2,o0,o1⟩
end
end Go.Proofs.YtihgaadadaekmaaGreatDoor

namespace Go.Proofs.YtihgaadadaekmaaGreatDoor
open Go.ChangeShapes Go.WideShapes Go.ChangeAt Go.RowKit V
theorem Ov:ownKnob Tryz.prog.godebug=none:=by kernel_rfl
theorem wQ:laidOutB Tryz.prog=true:=by kernel_rfl
theorem GX (s:ck) (a:dd) (w h:Int):((jB s a w h).1.map kq).sum+(jB s a w h).1.length<=1099511627776:=by
 unfold jB
 split
 ·split
  ·rename_i hb
   have h1:=dt (Bool.and_eq_true_iff.1 hb).1
   have h2:=dt (Bool.and_eq_true_iff.1 hb).2
   split
   ·have h3:((rL s.aA a.ae w.toNat h.toNat).map kq).sum=h.toNat*w.toNat:=GN _ _ _ _
    have h4:h.toNat*w.toNat<=15*15:=Nat.mul_le_mul (by omega) (by omega)
    have h5:=tp s.aA a.ae w.toNat h.toNat
    (try dsimp only)
    omega
   ·simp
  ·simp
 ·simp
theorem H6 (s:ck) (a:dd) (w h:Int) (hn:fC s.aA):ai Tryz.prog 3 [.agg (ay s),.agg (aC a),.int .i64 w,.int .i64 h] (.bool true):=
 IS jB (fun s a w h hn hm _=>vU s a w h hn hm.s.g hm.s.t) (fun s a w h hn hm hl=>vT s a w h hn hm hl) (fun s a w h _ _ _=>GX s a w h) s a w h hn
theorem C8 (os:Os) (started:os.Started) (H:Type) (enc:TypeId×Value->H):
  ReturnsInHanded {} Tryz.checked os 3 .any (fun w args=>(Rows.fnExactDecodeRuleSpec.pre enc Tryz.prog Tryz.f3 [] false w args/\laidMetH Tryz.prog Rows.fnExactDecodeRuleRow.laid w)/\sizedMet enc Tryz.prog Tryz.f3 (OpenSpec.ofChange Rows.fnExactDecodeRuleSpec) false w args) (Rows.fnExactDecodeRuleSpec.post enc Tryz.prog Tryz.f3 false true false false):=by
 refine returnsInHanded_of_change_and (C:=Tryz.checked) (X:=fun w _=>laidMetH Tryz.prog Rows.fnExactDecodeRuleRow.laid w) (fun _ _ _ hh h=>h.of_heap hh) Ov started (by kernel_rfl) Tryz.func3
  (ChangeSpec.witness_shaped (enc:=enc) (C:=Tryz.checked) (os:=os) (X:=fun w _=>laidMetH Tryz.prog Rows.fnExactDecodeRuleRow.laid w) false (World.laidAll Tryz.prog os Rows.fnExactDecodeRuleRow.laid) #[.agg #[.slice none 0 0,.slice none 0 0,.slice none 0 0,.int .i64 0],.agg #[.slice none 0 0],.int .i64 0,.int .i64 0] 8 (World.laidAll_os _ _ _)
   (World.shaped_of_ZipB (by kernel_rfl) (by kernel_rfl)) (by kernel_rfl) (by kernel_rfl) (by kernel_rfl)
   (by rw[MakeChecks.laidMetH_plain _ _ _ (by kernel_rfl)];exact laidMet_laidAll _ (by kernel_rfl) (by kernel_rfl))) ?_
 intro W base args ds gs before J4 hW hcnd _ hL _
 have oL:∀(j:Nat) t v,Tryz.f3.params[j]? =some t->args[j]? =some v->Value.okWide Tryz.prog W .any base t v:=J4
 have hW':=hW
 obtain⟨p,q,hA0,hV,rfl,Cf,km⟩:=hW
 have hA:DataW.TrodAll enc Tryz.prog W 0 (fun _=>true) true Tryz.f3.params.toList args.toList ds p:=hA0
 rw[Tryz.params3]at hA oL
 obtain⟨v0,vs0,d0,ds0,p0,q0,mb,rfl,rfl,h0,r0⟩:=trodAll_cons hA
 obtain⟨v1,vs1,d1,ds1,p1,q1,rfl,rfl,rfl,h1,r1⟩:=trodAll_cons r0
 obtain⟨v2,vs2,d2,ds2,p2,q2,rfl,rfl,rfl,h2,r2⟩:=trodAll_cons r1
 obtain⟨v3,vs3,d3,ds3,p3,q3,rfl,rfl,rfl,h3,r3⟩:=trodAll_cons r2
 obtain⟨rfl,rfl,rfl⟩:=trodAll_nil r3
 obtain rfl:args= #[v0,v1,v2,v3]:=by cases args;simp_all
 obtain⟨rfl,rfl⟩:=trodVars_none hV
 obtain⟨Mq,rfl,_⟩:=okWide_struct Tryz.underlying30 (oL 0 30 v0 rfl rfl)
 obtain⟨PK,rfl,_⟩:=okWide_struct Tryz.underlying28 (oL 1 28 v1 rfl rfl)
 have k0:=h0
 have k1:=h1
 have k2:=h2
 have k3:=h3
 have lt0:∀x∈p0,x.block<W.heap.size:=by obtain⟨m,hm⟩:=k0;exact DataW.trod_lt m _ _ _ hm
 have lt1:∀x∈p1,x.block<W.heap.size:=by obtain⟨m,hm⟩:=k1;exact DataW.trod_lt m _ _ _ hm
 have lt2:∀x∈p2,x.block<W.heap.size:=by obtain⟨m,hm⟩:=k2;exact DataW.trod_lt m _ _ _ hm
 have lt3:∀x∈p3,x.block<W.heap.size:=by obtain⟨m,hm⟩:=k3;exact DataW.trod_lt m _ _ _ hm
 obtain⟨A0,n0,c0,f0,A1,n1,c1,f1,A2,n2,c2,f2,s,Ax,w0,s0,w1,s1,w2,s2,o0,o1⟩:∃A0 n0 c0 f0 A1 n1 c1 f1 A2 n2 c2 f2,∃d:ck,(Value.agg Mq).cells.toList=[.slice A0 n0 c0,.slice A1 n1 c1,.slice A2 n2 c2,.int .i64 d.aE]/\e7 f0 0 W.heap.size/\pa W f0 (.slice A0 n0 c0) d.aA.ar/\e7 f1 0 W.heap.size/\pb W f1 (.slice A1 n1 c1) d.aA.ae/\e7 f2 0 W.heap.size/\gY W f2 (.slice A2 n2 c2) d.bJ.ae/\(∀g∈d.aA.ar,g.aB.size<=9223372036854775807)/\∀t∈d.aA.ae,t.aB.size<=9223372036854775807:=by
  obtain⟨fuel,hf⟩:=h0
  exact GG hf
 obtain rfl:Mq= #[.slice A0 n0 c0,.slice A1 n1 c1,.slice A2 n2 c2,.int .i64 s.aE]:=by
  cases Mq;simp[Value.cells]at Ax;subst Ax;rfl
 obtain⟨A3,n3,c3,f3,a,ND,w3,s3⟩:∃A n c f,∃d:dd,(Value.agg PK).cells.toList=[.slice A n c]/\e7 f 0 W.heap.size/\gY W f (.slice A n c) d.ae:=by
  obtain⟨fuel,hf⟩:=h1
  exact tg hf
 obtain rfl:PK= #[.slice A3 n3 c3]:=by
  cases PK;simp[Value.cells]at ND;subst ND;rfl
 obtain⟨w,e2,-,-,-⟩:=open_int Tryz.underlying2 (oL 2 2 v2 rfl rfl) h2
 subst e2
 obtain⟨h,e3,-,-,-⟩:=open_int Tryz.underlying2 (oL 3 2 v3 rfl rfl) h3
 subst e3
 clear hA0 J4
 have gi:eM Tryz.prog W (fun b=>b<W.heap.size) (fun _=>none) [.agg (ay s),.agg (aC a),.int .i64 w,.int .i64 h] #[.agg #[.slice A0 n0 c0,.slice A1 n1 c1,.slice A2 n2 c2,.int .i64 s.aE],.agg #[.slice A3 n3 c3],.int .i64 w,.int .i64 h]:=by
  have h:=jt (zP s0 (fun b hb=>(w0 b hb).2) s1 (fun b hb=>(w1 b hb).2) s2 (fun b hb=>(w2 b hb).2)) (jt (vR s3 (fun b hb=>(w3 b hb).2)) (jt (.int .i64 w) (jt (.int .i64 h) (⟨rfl,fun j b hj=>by cases j<;>cases hj⟩:eM Tryz.prog W (fun b=>b<W.heap.size) (fun _=>none) [] #[]))))
  simpa using h
 have gw:=Lx mixed (H6 s a w h ⟨o0,o1⟩) gi
 clear s0 s1 s2 w0 w1 w2 s3 w3 gi
 refine(gw.mono fun e W' ⟨he,bel⟩=>?_)
 subst he
 exact⟨_,rfl,_,_,_,[],_,[],hW',trodAll_mk1 (shut_bool Tryz.underlying4 _),(trodAll_cons_mk (Below.trod wQ (by kernel_rfl) (of_decide_eq_true (by kernel_rfl)) k0 bel lt0) (trodAll_cons_mk (Below.trod wQ (by kernel_rfl) (of_decide_eq_true (by kernel_rfl)) k1 bel lt1) (trodAll_cons_mk (Below.trod wQ (by kernel_rfl) (of_decide_eq_true (by kernel_rfl)) k2 bel lt2) (trodAll_cons_mk (Below.trod wQ (by kernel_rfl) (of_decide_eq_true (by kernel_rfl)) k3 bel lt3) trodAll_mk0)))),rfl,bel.frame _,fun h=>by cases h⟩
end Go.Proofs.YtihgaadadaekmaaGreatDoor

namespace Go.Proofs.YtihgaadadaekmaaGreatDoor
open Go.ChangeShapes Go.WideShapes Go.ChangeAt Go.RowKit
theorem drN:Tryz.pinned.checked.prog.funcNamed Rows.fnExactDecodeRuleRow.func=some 3:=by kernel_rfl
theorem drJ:joinedFacts Tryz.pinned.checked.prog 3 Tryz.f3 Rows.fnExactDecodeRuleSpec Rows.fnExactDecodeRuleRow=true:=by
 unfold joinedFacts
 repeat(with_reducible refine Bool.and_eq_true_iff.2 ⟨?_,by as_aux_lemma=>kernel_rfl⟩)
 as_aux_lemma=>kernel_rfl
theorem drI:Tryz.f3.isInstance Tryz.pinned.checked.prog Rows.fnExactDecodeRuleRow.origin Rows.fnExactDecodeRuleRow.targs:=of_decide_eq_true (by kernel_rfl)
theorem drW:Tryz.f3.isWrapper Tryz.pinned.checked.prog Rows.fnExactDecodeRuleRow.wrapper Rows.fnExactDecodeRuleRow.mainSum:=by
 unfold Func.isWrapper;first|(rw[if_pos (by decide+kernel)];kernel_rfl)|(rw[if_neg (by decide+kernel)];exact⟨rfl,rfl⟩)
theorem H5:Rows.fnExactDecodeRuleRow.holds Tryz.pinned (OpenSpec.ofChange Rows.fnExactDecodeRuleSpec):=
 OpenClaim.holds_of_wide 3 Tryz.f3 rfl rfl rfl rfl rfl rfl rfl ⟨rfl,rfl,rfl,rfl,rfl⟩ rfl rfl rfl rfl rfl drN Tryz.func3 drJ drI drW
  (fun os started H enc _=>C8 os started H enc)
theorem fnExactDecodeRule_proved:Rows.FnExactDecodeRuleCardSaid:=
 Claim7.holds_tied_plain_at .later [] [.data,.data,.data] true Rows.fnExactDecodeRuleCard.stood.harness false
  H5 (fun _ h=>by cases h) (by kernel_rfl) (fun _ h=>by cases h) fnExactDecodeRule_row_tie rfl ⟨rfl,rfl⟩ (by kernel_rfl) rfl
  (fun f fn hf Mx=>by
   obtain rfl:f=3:=(Option.some.inj (drN.symm.trans hf)).symm
   obtain rfl:fn=Tryz.f3:=(Option.some.inj (Tryz.func3.symm.trans Mx)).symm
   exact⟨by kernel_rfl,fun j t ht=>by
    rw[Tryz.params3]at ht
    have hm:t∈[30,28,2,2]:=by simpa using Array.mem_of_getElem? ht
    have di:([30,28,2,2].all fun u=> !Tryz.prog.wantsStandIn u)=true:=by kernel_rfl
    exact(show Tryz.prog.wantsStandIn t=false by simpa using List.all_eq_true.1 di t hm)⟩)
  (by kernel_rfl)
end Go.Proofs.YtihgaadadaekmaaGreatDoor
