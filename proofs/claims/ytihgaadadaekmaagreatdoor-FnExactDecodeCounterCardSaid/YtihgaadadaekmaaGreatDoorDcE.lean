/- Bonds that are too weak are taken out. -/
import Derived.Test.YtihgaadadaekmaaGreatDoorDcD
import Derived.Test.YtihgaadadaekmaaGreatDoorDcB
import Derived.Test.YtihgaadadaekmaaGreatDoorDcC
import Derived.Lib.ItoaWalk
import Derived.Lib.ItoaNum
import Derived.Lib.Strings
import Derived.RangeFuncNested
import Derived.RangeFuncBound
import Derived.RangeFuncCalls
import Derived.RangeFuncLeaves
import Derived.Shelf.Abstract
import Derived.Shelf.RegionOpen
import Derived.WalkKit
import Derived.OwnWalkIn
import Derived.TacticsInMore
import Derived.LoopNIn
import Derived.LoopIn
import Derived.BigQuiet
import Derived.RangeFuncBox
import Derived.RangeFuncWrites
import Derived.Maps.AppendAt
import Derived.OrdersIn
import Derived.Test.YtihgaadadaekmaaGreatDoorChecked
import Derived.ProofKit
import Derived.Deep.Slices
import Derived.ChangeSame
import Derived.Test.YtihgaadadaekmaaGreatDoorRows
import Derived.OpenShut
import Derived.ShutString
import Derived.ChangeOld
import Derived.Below
import Derived.Lay
import Derived.Handed
import Derived.MakeChecks
import Derived.Test.YtihgaadadaekmaaGreatDoorCards
import Derived.Test.YtihgaadadaekmaaGreatDoorTie
import Derived.SevenTiedAt
set_option linter.unusedVariables false
set_option linter.unusedSimpArgs false
set_option maxRecDepth 100000
set_option maxHeartbeats 16000000
namespace Go.Proofs.YtihgaadadaekmaaGreatDoor.V
open Go.RowKit
attribute [local irreducible] dO wpOps gO Call
attribute [local go_sem] aH fF eF fR fQ cu upd cm K.av cJ AV.cells AV.cell rowOf rowsOf part ld rowAt bI bU dG ei il bJ da eB fW eZ dq ep cY cX dU dV bP bd cQ bL cT cR ek er eo cP bS cZ ej bK aL cV cw ik br cI bQ aZ dz bl dI AV.undef bB bH dY eh dR ea cE eA eE cr ev eu cU cW List.getD_cons_zero List.getD_cons_succ List.getD_nil List.all_cons List.all_nil Bool.and_true Bool.true_and Bool.and_self Bool.not_true Bool.not_false Option.map_some Option.map_none Option.bind_some Option.bind_none List.length_cons List.length_nil List.take_succ_cons List.take_zero List.take_nil List.drop_succ_cons List.drop_zero List.drop_nil List.head?_cons List.map_cons List.map_nil List.getElem?_cons_zero List.getElem?_cons_succ List.cons_append List.nil_append List.append_nil List.length_map List.set_cons_zero List.set_cons_succ Nat.reduceMul eq_self Int.toNat_natCast Int.natCast_nonneg and_self true_and and_true decide_true decide_false Bool.false_eq_true Nat.zero_add Nat.add_zero List.contains_cons List.contains_nil Bool.or_false Bool.false_or beq_self_eq_true Nat.reduceBEq ne_eq not_true_eq_false not_false_eq_true Id.mk.injEq false_and and_false Nat.reduceLT Int.reduceLE Int.reduceLT Int.reduceToNat Int.reduceNeg Int.reduceAdd Nat.le_refl List.length_append beq_true beq_false Bool.not_eq_eq_eq_not or_false false_or dC ad aj aE bz cj aT bj aX bf cK bG
theorem Hd (b:PB) (t:Int):ai Tryz.prog 171 [.agg (ay b),.cH [.int .i64 t]] (.bool (decide (b.s<t))):=by
 refine ai.body dP rfl fun hl n0=>?_
 clear hl
 (try((repeat(revert hN;revert N;apply Pn.out));refine wk @ay.eq_1 ?_;(repeat(refine Pn.mk ?_;intro N hN))))
 exact aI (b:=decide (b.s<t)) (.inl rfl) (sd @Nat.zero_add) rfl
theorem u9 (bs:List PB) (t:Int) (hl:bs.length<=1048576):ai Tryz.prog 185 [.sl (bs.map ay),.fn 171 [.cH [.int .i64 t]]] (.int .i64 (jw (fun b:PB=>decide (b.s<t)) bs)):=
 q9 Fs (show lr Tryz.prog 185=some (sY 185 3 true) by kernel_rfl) bs hl 171 _ _ (fun x _=>Hd x t) fun g=>by simp only[ad,aj,aX,Option.map_some]
theorem Fl (bs:List PB) (hp:0<bs.length) (hl:bs.length<=1048576) (σ:ax):
  Call Tryz.prog 170 [.sl (bs.map ay)] σ fun r σ'=>∃o:Id,r=.own o 0 bs.length/\σ'.get o=some ⟨true,3,bs.map ay⟩/\σ.next<=o.bZ/\o.bZ<σ'.next/\∀i:Id,i.bZ<σ.next->σ'.get i=σ.get i:=by
 refine fm dP rfl fun hl=>?_
 clear hl
 have hz:=all_map (l:=bs) J5
 obtain⟨b,r,rfl⟩:∃b r,bs=b::r:=by
  cases bs with
  |nil=>simp at hp
  |cons b r=>exact⟨b,r,rfl⟩
 have me:(List.map ay (b::r)).length=(b::r).length:=by simp
 have e1:r.length<=16777215:=by simp at hl;omega
 rw[List.map_cons]at hz me ⊢
 (try((repeat(revert hN;revert N;apply Pn.out));refine wk (tw @hz (tw @me @e1)) ?_;(repeat(refine Pn.mk ?_;intro N hN))))
 refine gy (.inl rfl) (vs:=[.own ⟨170003002,σ.next+1+1⟩ 0 (b::r).length]) (by simp only[eR,gI,go_sem, ↓reduceIte,Nat.reduceEqDiff,Nat.reduceAdd,Nat.reduceSub,Nat.reduceLeDiff,reduceCtorEq,List.length_cons]) ⟨⟨170003002,σ.next+1+1⟩,rfl,sd @Nat.zero_add,bD,bD,fun i hi=>?_⟩
 have hv:=eK hi
 simp only[go_sem, ↓reduceIte,Nat.reduceEqDiff,Nat.reduceAdd,Nat.reduceSub,Nat.reduceLeDiff,reduceCtorEq,hv]
theorem np {t:Int} {bs:List PB} {j:Nat} (hj:j<bs.length):aD t (bs.take (j+1))=aD t (bs.take j)++if decide (bs[j].s<t)=true then[]else[bs[j]]:=by
 rw[rn t bs j hj]
 congr 1
 by_cases h:bs[j].s<t
 ·rw[if_neg ab,if_pos (decide_eq_true h)]
 ·rw[if_pos ab,if_neg (by simp only[decide_eq_true_eq];exact h)]
theorem rm {t:Int} {bs:List PB} (h:∀b∈bs,¬b.s<t):aD t bs=bs:=by
 unfold aD
 rw[List.filter_eq_self]
 intro b hb
 have:=h b hb
 exact decide_eq_true ab
structure rC (t:Int) (bs:List PB) (j:Nat) (R:List PB):Prop where
 len:R.length=bs.length
 pre:R.take (aD t (bs.take j)).length=aD t (bs.take j)
 post:∀x,j<=x->R[x]? =bs[x]?
 lt:(aD t (bs.take j)).length<j
theorem rC.start {t:Int} {bs:List PB} {i:Nat} (hi:i<bs.length) (hw:bs[i].s<t) (hp:∀x (h:x<i),¬bs[x].s<t):rC t bs (i+1) bs/\(aD t (bs.take (i+1))).length=i:=by
 have h1:aD t (bs.take i)=bs.take i:=rm fun b hb=>by
  obtain⟨x,hx,rfl⟩:=List.getElem_of_mem hb
  rw[List.length_take]at hx
  rw[List.getElem_take]
  exact hp x ab
 have h2:aD t (bs.take (i+1))=bs.take i:=by rw[np hi,if_pos (decide_eq_true hw),List.append_nil,h1]
 have h3:(bs.take i).length=i:=by rw[List.length_take];omega
 exact⟨⟨rfl,by rw[h2,h3],fun _ _=>rfl,by rw[h2,h3];omega⟩,by rw[h2,h3]⟩
theorem rC.Q9 {t:Int} {bs R:List PB} {j:Nat} (h:rC t bs j R) (hj:j<bs.length) (hw:bs[j].s<t):rC t bs (j+1) R/\(aD t (bs.take (j+1))).length=(aD t (bs.take j)).length:=by
 have h2:aD t (bs.take (j+1))=aD t (bs.take j):=by rw[np hj,if_pos (decide_eq_true hw),List.append_nil]
 exact⟨⟨h.len,by rw[h2];exact h.pre,fun x hx=>h.post x ab,by rw[h2];have:=h.lt;omega⟩,by rw[h2]⟩
theorem rC.sZ {t:Int} {bs R:List PB} {j:Nat} (h:rC t bs j R) (hj:j<bs.length) (hw:¬bs[j].s<t):rC t bs (j+1) (R.set (aD t (bs.take j)).length bs[j])/\(aD t (bs.take (j+1))).length=(aD t (bs.take j)).length+1:=by
 have h2:aD t (bs.take (j+1))=aD t (bs.take j)++[bs[j]]:=by rw[np hj,if_neg (by simp only[decide_eq_true_eq];exact hw)]
 have dD:=h.lt
 have hlen:=h.len
 have um:=h.pre
 generalize hc:(aD t (bs.take j)).length=c at *
 refine⟨⟨by rw[List.length_set];exact hlen,?_,fun x hx=>?_,by rw[h2,List.length_append,hc];simp;omega⟩,by rw[h2,List.length_append,hc];rfl⟩
 ·rw[h2,List.length_append,hc,List.length_singleton,List.take_succ_eq_append_getElem (by rw[List.length_set];omega),List.getElem_set_self,List.take_set_of_le (Nat.le_refl _),um]
 ·rw[List.getElem?_set_ne ab];exact h.post x ab
theorem rC.at_ {t:Int} {bs R:List PB} {j:Nat} (h:rC t bs j R) (hj:j<bs.length):(R.map ay)[j]? =some (ay bs[j]):=by
 rw[List.getElem?_map,h.post j (Nat.le_refl j),List.getElem?_eq_getElem hj];rfl
theorem Ac {p:PB->Bool} {bs:List PB} (h:¬0<=jw p bs):∀b∈bs,p b=false:=by
 intro b hb
 unfold jw at h
 split at h
 ·omega
 ·rename_i h1
  rw[List.findIdx_lt_length]at h1
  cases hp:p b
  ·rfl
  ·exact absurd ⟨b,hb,hp⟩ h1
theorem Ad {p:PB->Bool} {bs:List PB} (h:0<=jw p bs):∃i,∃hi:i<bs.length,jw p bs=(i:Int)/\p bs[i]=true/\∀x (hx:x<i),p (bs[x]'ab)=false:=by
 unfold jw at h ⊢
 split
 ·rename_i h1
  exact⟨bs.findIdx p,h1,rfl,List.findIdx_getElem,fun x hx=>by simpa using List.not_of_lt_findIdx hx⟩
 ·rename_i h1;rw[if_neg h1]at h;omega
theorem C9 (bs:List PB) (t:Int) (hl:bs.length<=1048576) (o T:Id) (σ:ax) (ho:σ.get o=some ⟨true,3,bs.map ay⟩) (hT:σ.get T=some ⟨true,1,[[.int .i64 t]]⟩) (qY:o.bZ<σ.next) (hTv:T.bZ<σ.next) (Mw:o≠T):
  Call Tryz.prog 169 [.own o 0 bs.length,.fn 171 [.ptr T 0 0]] σ fun r σ'=>∃rows,r=.own o 0 (aD t bs).length/\σ'.get o=some ⟨true,3,rows⟩/\rows.take (aD t bs).length=(aD t bs).map ay/\(aD t bs).length<=rows.length/\σ.next<=σ'.next/\∀i:Id,i.bZ<σ.next->i≠o->σ'.get i=σ.get i:=by
 refine fm dP rfl fun sS=>?_
 clear sS
 have Dt:=u9 bs t hl
 have hzT:∀(g:Rows),g T=some ⟨true,1,[[.int .i64 t]]⟩->V.fz (dC g) 5 (.ptr T 0 0)=some (.cH [.int .i64 t]):=fun g hg=>wh (sz:=1) (rows:=[[.int .i64 t]]) (by simp[dC,hg]) rfl (by simp only[List.drop_zero,ad,aj,aE,Option.map_some])
 have xw:∀(g:Rows),g T=some ⟨true,1,[[.int .i64 t]]⟩->g o=some ⟨true,3,bs.map ay⟩->bY (dC g) 6 [.own o 0 bs.length,.fn 171 [.ptr T 0 0]]=some [.sl (bs.map ay),.fn 171 [.cH [.int .i64 t]]]:=fun g h1 h2=>by
  have q1:=fw (g:=dC g) (n:=5) (e:=ay) (sz:=3) (len:=bs.length) (l:=bs) (id:=o) (by simp[dC,h2]) rfl fun b=>we _ 4 b
  have q2:=hzT g h1
  simp only[ad,aj,q1,cK,List.all_cons,List.all_nil,AV.cell,Bool.and_true,if_true,q2,Option.map_some]
 have kN:∀(g:Rows),g T=some ⟨true,1,[[.int .i64 t]]⟩->∀b:PB,bY (dC g) 6 [.agg (ay b),.ptr T 0 0]=some [.agg (ay b),.cH [.int .i64 t]]:=fun g h1 b=>by
  have q3:V.fz (dC g) 6 (.ptr T 0 0)=some (.cH [.int .i64 t]):=wh (sz:=1) (rows:=[[.int .i64 t]]) (by simp[dC,h1]) rfl (by simp only[List.drop_zero,ad,aj,aE,Option.map_some])
  simp only[ad,aj,bj,we,q3,Option.map_some]
 (try((repeat(revert hN;revert N;apply Pn.out));refine wk @Nat.zero_add ?_;(repeat(refine Pn.mk ?_;intro N hN))))
 refine .inl ⟨_,ai.x Dt (xw _ hT ho),?_⟩
 refine hN _ _ ?_
 clear hN N
 by_cases h0:0<=jw (fun b:PB=>decide (b.s<t)) bs
 ·obtain⟨i,hi,Hr,hpi,K8⟩:=Ad h0
  rw[Hr]at *
  have Il:decide ((i:Int)= -1)=false:=decide_eq_false ab
  have Ob:IntKind.i64.wrap ((i:Int)+1)=((i+1:Nat):Int):=aA ab
  obtain⟨dS,tR⟩:=rC.start (t:=t) hi (by simpa using hpi) (fun x hx=>by simpa using K8 x hx)
  (try((repeat(revert hN;revert N;apply Pn.out));refine wk (tw @Il @Ob) ?_;(repeat(refine Pn.mk ?_;intro N hN))))
  refine aJ (fun m env st=>∃(j:Nat) (R:List PB),m=bs.length-j/\env 6=.int .i64 (j:Int)/\env 5=.int .i64 ((aD t (bs.take j)).length:Int)/\st.get o=some ⟨true,3,R.map ay⟩/\rC t bs j R/\j<=bs.length/\σ.next<=st.next/\∀x:Id,x.bZ<σ.next->(x=o)=False->st.get x=σ.get x) (bs.length-(i+1)) ⟨i+1,bs,rfl,sd @Ob,sd @tR,sd @ho,dS,ab,bD,fun x _ _=>sd @Nat.zero_add⟩ ?_
  rintro m env_b st_b ⟨j,R,rfl,b6,b5,bg,hD,gn,hle,lZ⟩ bfr
  have b0:=bfr 0 (by kernel_rfl)
  have b1:=bfr 1 (by kernel_rfl)
  simp only[go_sem, ↓reduceIte,Nat.reduceEqDiff,Nat.reduceAdd,Nat.reduceSub,Nat.reduceLeDiff,reduceCtorEq]at b0 b1
  clear bfr
  have bT:=(lZ T hTv (by simp only[eq_iff_iff,iff_false];exact fun h=>Mw h.symm)).trans hT
  have nV:=eK (i:=o) (n:=st_b.next) ab
  have QX:=eK (i:=T) (n:=st_b.next) ab
  have hRl:=hD.len
  have Qf:(R.map ay).length=bs.length:=by rw[List.length_map,hRl]
  have dD:=hD.lt
  by_cases hj:(j:Int)<(bs.length:Int)
  ·have im:j<bs.length:=ab
   have EG:=hD.at_ im
   have Lm:=Hd bs[j] t
   have Ps:IntKind.i64.wrap ((j:Int)+1)=((j+1:Nat):Int):=aA ab
   have hD1:=hD.Q9 im
   have hD2:=hD.sZ im
   generalize bs[j]=b at *
   (try((repeat(revert hN;revert N;apply Pn.out));refine wk (tw @b0 (tw @b1 (tw @b5 (tw @b6 (tw @bg (tw @hj (tw @EG (tw @ay.eq_1 (tw @nV (tw @QX @Qf)))))))))) ?_;(repeat(refine Pn.mk ?_;intro N hN))))
   refine .inl ⟨_,ai.x Lm (kN _ (sd (tw @QX @bT)) b),?_⟩
   refine hN _ _ ?_
   clear hN N
   by_cases hw:b.s<t
   ·obtain⟨P4,P3⟩:=hD1 hw
    have hd:decide (b.s<t)=true:=decide_eq_true hw
    (try((repeat(revert hN;revert N;apply Pn.out));refine wk (tw @b0 (tw @b1 (tw @b5 (tw @b6 (tw @hd @Ps))))) ?_;(repeat(refine Pn.mk ?_;intro N hN))))
    refine⟨_,?_,j+1,R,rfl,sd @Ps,sd (tw @b5 @P3),sd (tw @bg @nV),P4,ab,bD,fun x hx EO=>?_⟩
    ·omega
    ·have MF:=eK (i:=x) (n:=st_b.next) ab
     have:=lZ x hx EO
     simp only[go_sem, ↓reduceIte,Nat.reduceEqDiff,Nat.reduceAdd,Nat.reduceSub,Nat.reduceLeDiff,reduceCtorEq,MF,this]
   ·obtain⟨P4,P3⟩:=hD2 hw
    have hd:decide (b.s<t)=false:=decide_eq_false hw
    have Qj:((aD t (bs.take j)).length:Int)<(bs.length:Int):=ab
    have hwc:IntKind.i64.wrap (((aD t (bs.take j)).length:Int)+1)=(((aD t (bs.take j)).length+1:Nat):Int):=aA ab
    have dQ:(R.map ay).set (aD t (bs.take j)).length [.int .i64 (b.a:Int),.int .i64 (b.b:Int),.int .i64 b.s]=(R.set (aD t (bs.take j)).length b).map ay:=by rw[List.map_set];rfl
    have Pa:∃y,(R.map ay)[(aD t (bs.take j)).length]? =some (ay y):=⟨R[(aD t (bs.take j)).length]'ab,by rw[List.getElem?_map,List.getElem?_eq_getElem ab];rfl⟩
    obtain⟨y,Pa⟩:=Pa
    rw[ay]at Pa
    (try((repeat(revert hN;revert N;apply Pn.out));refine wk (tw @b0 (tw @b1 (tw @b5 (tw @b6 (tw @bg (tw @hd (tw @Ps (tw @hwc (tw @Qj (tw @dQ (tw @Pa (tw @nV (tw @QX @Qf))))))))))))) ?_;(repeat(refine Pn.mk ?_;intro N hN))))
    refine⟨_,?_,j+1,_,rfl,sd @Ps,sd (tw @hwc @P3),sd @dQ,P4,ab,bD,fun x hx EO=>?_⟩
    ·omega
    ·have MF:=eK (i:=x) (n:=st_b.next) ab
     have:=lZ x hx EO
     simp only[go_sem, ↓reduceIte,Nat.reduceEqDiff,Nat.reduceAdd,Nat.reduceSub,Nat.reduceLeDiff,reduceCtorEq,MF,this,EO]
  ·have gn:j=bs.length:=ab
   subst gn
   have um:=hD.pre
   rw[List.take_length]at b5 dD um
   have Qj:((aD t bs).length:Int)<=(bs.length:Int):=ab
   have O5:(aD t bs).length<=bs.length:=ab
   have oG:(aD t bs).length+(bs.length-(aD t bs).length)=bs.length:=ab
   have tR:=lK t bs
   (try((repeat(revert hN;revert N;apply Pn.out));refine wk (tw @b0 (tw @b1 (tw @b5 (tw @b6 (tw @bg (tw @hj (tw @Qf (tw @Qj (tw @O5 (tw @oG (tw @Nat.le_refl (tw @Nat.sub_zero (tw @Int.le_refl @nV))))))))))))) ?_;(repeat(refine Pn.mk ?_;intro N hN))))
   refine gy (.inl rfl) (vs:=[.own o 0 (aD t bs).length]) (sd @Nat.zero_add) ⟨_,rfl,by simp only[go_sem, ↓reduceIte,Nat.reduceEqDiff,Nat.reduceAdd,Nat.reduceSub,Nat.reduceLeDiff,reduceCtorEq];rfl,?_,?_,bD,fun x hx EO=>?_⟩
   ·have hm:List.take (aD t bs).length (List.map ay R)=(aD t bs).map ay:=by rw[<-List.map_take,um]
    rw[hm,List.append_assoc,List.take_append_of_le_length (by simp),List.take_of_length_le (by simp)]
   ·have hm:List.take (aD t bs).length (List.map ay R)=(aD t bs).map ay:=by rw[<-List.map_take,um]
    rw[hm]
    simp only[List.length_append,List.length_map]
    omega
   ·have Oc:(x=o)=False:=by simp only[eq_iff_iff,iff_false];exact EO
    have:=lZ x hx Oc
    simp only[go_sem, ↓reduceIte,Nat.reduceEqDiff,Nat.reduceAdd,Nat.reduceSub,Nat.reduceLeDiff,reduceCtorEq,Oc,this]
 ·have hn:=Ac h0
  have dS:=rm (t:=t) (bs:=bs) fun b hb=>by simpa using hn b hb
  have hd:decide (jw (fun b:PB=>decide (b.s<t)) bs= -1)=true:=decide_eq_true (by
   unfold jw at h0 ⊢
   split
   ·rename_i h;rw[if_pos h]at h0;omega
   ·rfl)
  (try((repeat(revert hN;revert N;apply Pn.out));refine wk @hd ?_;(repeat(refine Pn.mk ?_;intro N hN))))
  refine gy (.inl rfl) (vs:=[.own o 0 bs.length]) (sd @Nat.zero_add) ⟨bs.map ay,by rw[dS];rfl,sd @ho,by rw[dS,List.take_of_length_le (by simp)],by rw[dS];simp,bD,fun x _ _=>rfl⟩
def wZ (bs:List PB):AV:=if bs=[]then .bE else .sl (bs.map ay)
theorem Ja:wZ []=.bE:=rfl
theorem w5 {bs:List PB} (h:0<bs.length):wZ bs=.sl (bs.map ay):=by
 unfold wZ
 rw[if_neg (by rintro rfl;simp at h)]
theorem ud (cnt:Nat) (uj:1<=cnt) (hn:cnt<=1048576) (bs:List PB) (hb:∀b∈bs,b.a<cnt/\b.b<cnt) (hp:0<bs.length) (oU:bs.length<=1048576) (t:Int):ai Tryz.prog 153 [.int .i64 cnt,.sl (bs.map ay),.int .i64 t] (.gU [.int .i64 (leads cnt (dH (aD t bs))).length,wZ (dc (dH (aD t bs)) bs)]):=by
 refine ai.body dP rfl fun hl n0=>?_
 clear hl
 (try((repeat(revert hN;revert N;apply Pn.out));refine wk @Nat.zero_add ?_;(repeat(refine Pn.mk ?_;intro N hN))))
 refine .inr (aO _ _ _ _ _ (fun r σ1 hq=>?_) (Fl bs hp oU _))
 obtain⟨o,rfl,ho,Iq,AH,NH⟩:=hq
 (try dsimp only at ho Iq AH NH)
 refine hN _ _ ?_
 clear hN N
 (try((repeat(revert hN;revert N;apply Pn.out));refine wk @Nat.zero_add ?_;(repeat(refine Pn.mk ?_;intro N hN))))
 refine .inr (aO _ _ _ _ _ (fun r σ2 hq=>?_) (C9 bs t oU o ⟨153000000,n0⟩ _ ho (by rw[NH _ bD];simp only[go_sem, ↓reduceIte,Nat.reduceEqDiff,Nat.reduceAdd,Nat.reduceSub,Nat.reduceLeDiff,reduceCtorEq]) bD bD (by rintro rfl;simp only at Iq;omega)))
 obtain⟨rows,rfl,e9,hrt,pZ,lz,FN⟩:=hq
 (try dsimp only at lz FN)
 refine hN _ _ ?_
 clear hN N
 have EH:=sN cnt uj hn (aD t bs) (fun b h=>hb b (tA h)) (by have:=lK t bs;omega)
 have hL:=re (aD t bs)
 have hz:∀x,bY (dC σ2.get) 6 [.int .i64 x,.own o 0 (aD t bs).length]=some [.int .i64 x,.sl ((aD t bs).map ay)]:=fun x=>by
  have:V.fz (dC σ2.get) 6 (.own o 0 (aD t bs).length)=some (.sl ((aD t bs).map ay)):=by
   rw[gi];simp only[dC,e9,Option.map_some,if_true]
   rw[if_pos ab,List.drop_zero,hrt,lx fun b=>we _ 4 b];rfl
  simp only[ad,aj,aE,this,Option.map_some]
 (try((repeat(revert hN;revert N;apply Pn.out));refine wk @Nat.zero_add ?_;(repeat(refine Pn.mk ?_;intro N hN))))
 refine .inl ⟨_,ai.x EH (hz _),?_⟩
 refine hN _ _ ?_
 clear hN N
 generalize dH (aD t bs)=L at *
 have oV:((eQ cnt L).map xl).length=(leads cnt L).length:=by simp[eQ]
 have Ph:=ja cnt L
 have iU:(0:Int)<=(cnt:Int):=ab
 have od:(cnt:Int)<=((16777216:Nat):Int):=ab
 have fY:List.replicate cnt [AV.int .i64 0]=dj (ck cnt L 0 0) cnt:=by rw[tG,m3]
 (try((repeat(revert hN;revert N;apply Pn.out));refine wk (tw @iU (tw @od (tw @Int.le_refl (tw @oV @fY)))) ?_;(repeat(refine Pn.mk ?_;intro N hN))))
 refine aJ (fun n env st=>∃i:Nat,n=((leads cnt L).length)-i/\i<=((leads cnt L).length)/\env 27=.int .i64 (i:Int)/\st.get ⟨153002001,σ2.next+1⟩=some ⟨true,1,dj (ck cnt L i 0) cnt⟩/\(σ2.next+1<st.next)) ((leads cnt L).length) ⟨0,ab,ab,sl (tw @fY @oV),sl (tw @fY @oV),bD⟩ ?_
 rintro n_c env_c st_c ⟨i,rfl,cle,c27,cg0,cI0⟩ cfr
 have c1:=cfr 1 (by kernel_rfl);have c8:=cfr 8 (by kernel_rfl);have c9:=cfr 9 (by kernel_rfl);have tY:=cfr 25 (by kernel_rfl);have tZ:=cfr 26 (by kernel_rfl)
 simp only[go_sem, ↓reduceIte,Nat.reduceEqDiff,Nat.reduceAdd,Nat.reduceSub,Nat.reduceLeDiff,reduceCtorEq,fY,oV]at c1 c8 c9 tY tZ
 clear cfr
 by_cases hi:(i:Int)<((leads cnt L).length:Int)
 ·have gm:∀{e:Env} {gg:Rows} {nx:Nat},(e 27=.int .i64 (IntKind.i64.wrap ((i:Int)+1)))->(gg ⟨153002001,σ2.next+1⟩=some ⟨true,1,dj (ck cnt L (i+1) 0) cnt⟩)->(σ2.next+1<nx)->∃m0,m0<((leads cnt L).length)-i/\∃i:Nat,m0=((leads cnt L).length)-i/\i<=((leads cnt L).length)/\e 27=.int .i64 (i:Int)/\gg ⟨153002001,σ2.next+1⟩=some ⟨true,1,dj (ck cnt L i 0) cnt⟩/\(σ2.next+1<nx):=fun x1 x2 x3=>⟨_,ab,i+1,rfl,ab,(by rw[x1,aA ab]),x2,x3⟩
  have fb:i<(leads cnt L).length:=ab
  have nA:((eQ cnt L).map xl)[i]? =some (xl (members cnt L (leads cnt L)[i])):=by simp[eQ,fb]
  have r5:(leads cnt L).getD i 0=(leads cnt L)[i]:=by simp[List.getD_eq_getElem?_getD,fb]
  have u3:∀m,ck cnt L i m=fun x=>if bm L x<i then bm L x else if x∈(members cnt L (leads cnt L)[i]).take m then i else 0:=fun m=>by unfold ck;rw[r5]
  have nT:=fun x (hx:x<cnt)=>qt hL (n:=cnt) (k:=x) (i:=i) hx fb
  have lD:(members cnt L (leads cnt L)[i]).Nodup:=List.nodup_range.filter _
  have Ij:∀x∈members cnt L (leads cnt L)[i],x<cnt:=fun x hx=>(kr.1 hx).1
  have hMc:(members cnt L (leads cnt L)[i]).length<=cnt:=by
   have:=List.length_filter_le (fun k=>L k==(leads cnt L)[i]) (List.range cnt)
   simpa[members]using this
  generalize members cnt L (leads cnt L)[i]=M at *
  have zz:(M.map eN).length=M.length:=by simp
  (try((repeat(revert hN;revert N;apply Pn.out));refine wk (tw @c27 (tw @cg0 (tw @c1 (tw @c8 (tw @c9 (tw @tY (tw @tZ (tw @hi (tw @oV (tw @nA (tw @xl.eq_1 @zz))))))))))) ?_;(repeat(refine Pn.mk ?_;intro N hN))))
  refine aJ (fun n env st=>∃m:Nat,n=(M.length)-m/\m<=(M.length)/\env 34=.int .i64 (m:Int)/\st.get ⟨153002001,σ2.next+1⟩=some ⟨true,1,dj (ck cnt L i m) cnt⟩/\(σ2.next+1<st.next)) (M.length) ⟨0,ab,ab,sl (tw @c27 (tw @cg0 (tw @c1 (tw @c8 (tw @c9 (tw @tY (tw @tZ @zz))))))),sl (tw @c27 (tw @cg0 (tw @c1 (tw @c8 (tw @c9 (tw @tY (tw @tZ @zz))))))),bD⟩ ?_
  rintro n_d env_d st_d ⟨m,rfl,dle,d34,dg0,dI0⟩ dfr
  have d1:=dfr 1 (by kernel_rfl);have d8:=dfr 8 (by kernel_rfl);have d9:=dfr 9 (by kernel_rfl);have d10:=dfr 10 (by kernel_rfl);have d25:=dfr 25 (by kernel_rfl);have d26:=dfr 26 (by kernel_rfl);have d27:=dfr 27 (by kernel_rfl);have d32:=dfr 32 (by kernel_rfl);have d33:=dfr 33 (by kernel_rfl)
  simp only[go_sem, ↓reduceIte,Nat.reduceEqDiff,Nat.reduceAdd,Nat.reduceSub,Nat.reduceLeDiff,reduceCtorEq,c27,cg0,c1,c8,c9,tY,tZ,zz]at d1 d8 d9 d10 d25 d26 d27 d32 d33
  clear dfr
  have tl:=ft (ck cnt L i m) cnt
  by_cases hm:(m:Int)<(M.length:Int)
  ·have rh:∀{e:Env} {gg:Rows} {nx:Nat},(e 34=.int .i64 (IntKind.i64.wrap ((m:Int)+1)))->(gg ⟨153002001,σ2.next+1⟩=some ⟨true,1,dj (ck cnt L i (m+1)) cnt⟩)->(σ2.next+1<nx)->∃m0,m0<(M.length)-m/\∃m:Nat,m0=(M.length)-m/\m<=(M.length)/\e 34=.int .i64 (m:Int)/\gg ⟨153002001,σ2.next+1⟩=some ⟨true,1,dj (ck cnt L i m) cnt⟩/\(σ2.next+1<nx):=fun x1 x2 x3=>⟨_,ab,m+1,rfl,ab,(by rw[x1,aA ab]),x2,x3⟩
   have wz:m<M.length:=ab
   have sP:(M.map eN)[m]? =some (eN M[m]):=by simp[wz]
   have sV:=Ij _ (List.getElem_mem wz)
   have zD:(M[m]:Int)<(cnt:Int):=ab
   have zC:=eM (f:=ck cnt L i m) sV
   have dQ:(dj (ck cnt L i m) cnt).set M[m] (eN i)=dj (ck cnt L i (m+1)) cnt:=nL sV (by
    have h1:=(nT _ sV).1 (List.getElem_mem wz)
    rw[u3]
    simp only[]
    rw[if_neg ab,if_pos (by rw[List.take_succ_eq_append_getElem wz];exact List.mem_append_right _ (List.mem_singleton.2 rfl))]) fun x hx gF=>by
    rw[u3,u3]
    simp only[]
    rw[List.take_succ_eq_append_getElem wz]
    simp only[List.mem_append,List.mem_singleton,gF,or_false]
   rw[eN]at dQ zC
   generalize M[m]=xm at *
   (try((repeat(revert hN;revert N;apply Pn.out));refine wk (tw @d34 (tw @dg0 (tw @d1 (tw @d8 (tw @d9 (tw @d10 (tw @d25 (tw @d26 (tw @d27 (tw @d32 (tw @d33 (tw @hm (tw @hi (tw @sP (tw @zz (tw @zD (tw @zC (tw @tl (tw @dQ @eN.eq_1))))))))))))))))))) ?_;(repeat(refine Pn.mk ?_;intro N hN))))
   refine rh ?_ ?_ bD
   all_goals simp only[go_sem, ↓reduceIte,Nat.reduceEqDiff,Nat.reduceAdd,Nat.reduceSub,Nat.reduceLeDiff,reduceCtorEq,d34,dg0,d1,d8,d9,d10,d25,d26,d27,d32,d33,dQ]
  ·have me:m=M.length:=ab
   subst me
   have uk:dj (ck cnt L i M.length) cnt=dj (ck cnt L (i+1) 0) cnt:=fV fun x hx=>by
    rw[u3,List.take_length]
    simp only[ck,List.take_zero,List.not_mem_nil,if_false]
    have h1:=nT x hx
    by_cases h2:bm L x<i
    ·rw[if_pos h2,if_pos ab]
    ·rw[if_neg h2]
     by_cases h3:x∈M
     ·rw[if_pos h3,if_pos (by have:=h1.1 h3;omega),h1.1 h3]
     ·rw[if_neg h3,if_neg fun h4=>h3 (h1.2 ab)]
   (try((repeat(revert hN;revert N;apply Pn.out));refine wk (tw @d34 (tw @dg0 (tw @d1 (tw @d8 (tw @d9 (tw @d10 (tw @d25 (tw @d26 (tw @d27 (tw @d32 (tw @d33 (tw @hm (tw @hi (tw @oV @zz)))))))))))))) ?_;(repeat(refine Pn.mk ?_;intro N hN))))
   refine gm ?_ ?_ bD
   all_goals simp only[go_sem, ↓reduceIte,Nat.reduceEqDiff,Nat.reduceAdd,Nat.reduceSub,Nat.reduceLeDiff,reduceCtorEq,c27,cg0,c1,c8,c9,tY,tZ,d34,dg0,d1,d8,d9,d10,d25,d26,d27,d32,d33,uk]
 have oe:i=(leads cnt L).length:=ab
 subst oe
 have FU:dj (ck cnt L (leads cnt L).length 0) cnt=dj (bm L) cnt:=fV fun x hx=>by rw[ck,if_pos (jq hL hx)]
 rw[FU]at cg0
 have tl:=ft (bm L) cnt
 have O2:(bs.map ay).length=bs.length:=by simp
 (try((repeat(revert hN;revert N;apply Pn.out));refine wk (tw @c27 (tw @cg0 (tw @c1 (tw @c8 (tw @c9 (tw @tY (tw @tZ (tw @hi (tw @oV @O2))))))))) ?_;(repeat(refine Pn.mk ?_;intro N hN))))
 have O5:σ2.next+1<st_c.next:=cI0
 refine aJ (fun n env st=>∃j:Nat,n=(bs.length)-j/\j<=(bs.length)/\env 46=.int .i64 (j:Int)/\st.get ⟨153002001,σ2.next+1⟩=some ⟨true,1,dj (bm L) cnt⟩/\(st_c.next<=st.next/\((dc L (bs.take j)=[]/\env 14=.bE)∨∃p:Id,env 14=.own p 0 (dc L (bs.take j)).length/\st.get p=some ⟨true,3,(dc L (bs.take j)).map ay⟩/\st_c.next<=p.bZ/\p.bZ<st.next/\0<(dc L (bs.take j)).length))) (bs.length) ⟨0,ab,ab,sl (tw @c27 (tw @cg0 (tw @c1 (tw @c8 (tw @c9 (tw @tY (tw @tZ @O2))))))),sl (tw @c27 (tw @cg0 (tw @c1 (tw @c8 (tw @c9 (tw @tY (tw @tZ @O2))))))),⟨bD,.inl ⟨rfl,by(simp only[go_sem, ↓reduceIte,Nat.reduceEqDiff,Nat.reduceAdd,Nat.reduceSub,Nat.reduceLeDiff,reduceCtorEq])⟩⟩⟩ ?_
 rintro n_f env_f st_f ⟨j,rfl,fle,f46,fg0,fI0⟩ ffr
 have f1:=ffr 1 (by kernel_rfl);have f8:=ffr 8 (by kernel_rfl);have f9:=ffr 9 (by kernel_rfl);have f44:=ffr 44 (by kernel_rfl);have f45:=ffr 45 (by kernel_rfl)
 simp only[go_sem, ↓reduceIte,Nat.reduceEqDiff,Nat.reduceAdd,Nat.reduceSub,Nat.reduceLeDiff,reduceCtorEq,c27,cg0,c1,c8,c9,tY,tZ,O2]at f1 f8 f9 f44 f45
 clear ffr
 obtain⟨Mr,fO⟩:=fI0
 have F4:=eK (i:=⟨153002001,σ2.next+1⟩) (n:=st_f.next) bD
 have tR:=(lJ L (bs.take j)).1
 rw[List.length_take]at tR
 by_cases hj:(j:Int)<(bs.length:Int)
 ·have pD:∀{e:Env} {gg:Rows} {nx:Nat},(e 46=.int .i64 (IntKind.i64.wrap ((j:Int)+1)))->(gg ⟨153002001,σ2.next+1⟩=some ⟨true,1,dj (bm L) cnt⟩)->(st_c.next<=nx/\((dc L (bs.take (j+1))=[]/\e 14=.bE)∨∃p:Id,e 14=.own p 0 (dc L (bs.take (j+1))).length/\gg p=some ⟨true,3,(dc L (bs.take (j+1))).map ay⟩/\st_c.next<=p.bZ/\p.bZ<nx/\0<(dc L (bs.take (j+1))).length))->∃m0,m0<(bs.length)-j/\∃j:Nat,m0=(bs.length)-j/\j<=(bs.length)/\e 46=.int .i64 (j:Int)/\gg ⟨153002001,σ2.next+1⟩=some ⟨true,1,dj (bm L) cnt⟩/\(st_c.next<=nx/\((dc L (bs.take j)=[]/\e 14=.bE)∨∃p:Id,e 14=.own p 0 (dc L (bs.take j)).length/\gg p=some ⟨true,3,(dc L (bs.take j)).map ay⟩/\st_c.next<=p.bZ/\p.bZ<nx/\0<(dc L (bs.take j)).length)):=fun x1 x2 x3=>⟨_,ab,j+1,rfl,ab,(by rw[x1,aA ab]),x2,x3⟩
  have im:j<bs.length:=ab
  have EG:(bs.map ay)[j]? =some (ay bs[j]):=by simp[im]
  have Jz:=hb _ (List.getElem_mem im)
  have hs:=wV L (bs.take j) bs[j]
  rw[<-List.take_succ_eq_append_getElem im]at hs
  generalize bs[j]=b at *
  have hA:=eM (f:=bm L) Jz.1
  have hB:=eM (f:=bm L) Jz.2
  have fH:(b.a:Int)<(cnt:Int):=ab
  have fe:(b.b:Int)<(cnt:Int):=ab
  rw[eN]at hA hB
  have e1:(dc L (bs.take j)).length+1<=16777216:=ab
  have me:((dc L (bs.take j)).map ay).length=(dc L (bs.take j)).length:=by simp
  by_cases he:bm L b.a=bm L b.b
  ·rw[if_pos he,List.append_nil]at hs
   have tQ:decide ((bm L b.a:Int)=(bm L b.b:Int))=true:=decide_eq_true (by rw[he])
   (try((repeat(revert hN;revert N;apply Pn.out));refine wk (tw @f46 (tw @fg0 (tw @f1 (tw @f8 (tw @f9 (tw @f44 (tw @f45 (tw @hj (tw @EG (tw @hA (tw @hB (tw @fH (tw @fe (tw @tl (tw @tQ (tw @F4 (tw @ay.eq_1 (tw @Bool.not_true @Bool.not_false)))))))))))))))))) ?_;(repeat(refine Pn.mk ?_;intro N hN))))
   refine pD ?_ ?_ (by(try dsimp only);exact⟨ab,by
    rw[hs]
    rcases fO with⟨h1,h2⟩|⟨p,h1,h2,h3,h4,h5⟩
    ·exact .inl ⟨h1,sd @h2⟩
    ·have xt:=eK h4
     exact .inr ⟨p,sd @h1,sd (tw @h2 @xt),h3,ab,h5⟩⟩)
   all_goals simp only[go_sem, ↓reduceIte,Nat.reduceEqDiff,Nat.reduceAdd,Nat.reduceSub,Nat.reduceLeDiff,reduceCtorEq,f46,fg0,f1,f8,f9,f44,f45,F4]
  ·rw[if_neg he]at hs
   have tQ:decide ((bm L b.a:Int)=(bm L b.b:Int))=false:=decide_eq_false fun h=>he ab
   rcases fO with⟨h1,f14⟩|⟨p,f14,fg,K6,JK,hp3⟩
   ·rw[h1]at hs
    (try((repeat(revert hN;revert N;apply Pn.out));refine wk (tw @f46 (tw @fg0 (tw @f1 (tw @f8 (tw @f9 (tw @f44 (tw @f45 (tw @f14 (tw @hj (tw @EG (tw @hA (tw @hB (tw @fH (tw @fe (tw @tl (tw @tQ (tw @F4 (tw @ay.eq_1 (tw @Bool.not_true @Bool.not_false))))))))))))))))))) ?_;(repeat(refine Pn.mk ?_;intro N hN))))
    refine pD ?_ ?_ (by(try dsimp only);exact⟨ab,.inr ⟨⟨153017015,st_f.next+1+1+1⟩,by rw[hs];simp only[go_sem, ↓reduceIte,Nat.reduceEqDiff,Nat.reduceAdd,Nat.reduceSub,Nat.reduceLeDiff,reduceCtorEq,List.nil_append,List.length_cons,List.length_nil],by rw[hs];simp only[go_sem, ↓reduceIte,Nat.reduceEqDiff,Nat.reduceAdd,Nat.reduceSub,Nat.reduceLeDiff,reduceCtorEq,ay,List.nil_append,List.map_cons,List.map_nil],bD,bD,by rw[hs];simp⟩⟩)
    all_goals simp only[go_sem, ↓reduceIte,Nat.reduceEqDiff,Nat.reduceAdd,Nat.reduceSub,Nat.reduceLeDiff,reduceCtorEq,f46,fg0,f1,f8,f9,f44,f45,F4]
   ·have x1:=dp (a:=⟨153002001,σ2.next+1⟩) (b:=p) bD
    have xt:=eK JK
    (try((repeat(revert hN;revert N;apply Pn.out));refine wk (tw @f46 (tw @fg0 (tw @f1 (tw @f8 (tw @f9 (tw @f44 (tw @f45 (tw @f14 (tw @fg (tw @hj (tw @EG (tw @hA (tw @hB (tw @fH (tw @fe (tw @tl (tw @tQ (tw @x1 (tw @xt (tw @F4 (tw @e1 (tw @me (tw @ay.eq_1 (tw @Bool.not_true @Bool.not_false)))))))))))))))))))))))) ?_;(repeat(refine Pn.mk ?_;intro N hN))))
    refine pD ?_ ?_ (by(try dsimp only);exact⟨ab,.inr ⟨⟨153017015,st_f.next+1+1+1⟩,by rw[hs,List.length_append];simp only[go_sem, ↓reduceIte,Nat.reduceEqDiff,Nat.reduceAdd,Nat.reduceSub,Nat.reduceLeDiff,reduceCtorEq,List.length_cons,List.length_nil],by rw[hs,List.map_append,List.map_cons,List.map_nil];simp only[go_sem, ↓reduceIte,Nat.reduceEqDiff,Nat.reduceAdd,Nat.reduceSub,Nat.reduceLeDiff,reduceCtorEq,ay],bD,bD,by rw[hs];simp⟩⟩)
    all_goals simp only[go_sem, ↓reduceIte,Nat.reduceEqDiff,Nat.reduceAdd,Nat.reduceSub,Nat.reduceLeDiff,reduceCtorEq,f46,fg0,f1,f8,f9,f44,f45,x1,F4]
 ·have gn:j=bs.length:=ab
  subst gn
  rw[List.take_length]at fO
  rcases fO with⟨h1,f14⟩|⟨p,f14,fg,K6,JK,hp3⟩
  ·(try((repeat(revert hN;revert N;apply Pn.out));refine wk (tw @f46 (tw @fg0 (tw @f1 (tw @f8 (tw @f9 (tw @f44 (tw @f45 (tw @f14 (tw @hj @oV))))))))) ?_;(repeat(refine Pn.mk ?_;intro N hN))))
   refine iK (.inl rfl) (r1:=.int .i64 ((leads cnt L).length:Int)) (sd @Nat.zero_add) (by simp only[go_sem, ↓reduceIte,Nat.reduceEqDiff,Nat.reduceAdd,Nat.reduceSub,Nat.reduceLeDiff,reduceCtorEq];rfl) ?_
   simp only[ee,aM,bh,dK,iA,h1,Ja,Option.map_some]
  ·(try((repeat(revert hN;revert N;apply Pn.out));refine wk (tw @f46 (tw @fg0 (tw @f1 (tw @f8 (tw @f9 (tw @f44 (tw @f45 (tw @f14 (tw @hj @oV))))))))) ?_;(repeat(refine Pn.mk ?_;intro N hN))))
   refine iK (.inl rfl) (r1:=.int .i64 ((leads cnt L).length:Int)) (sd @Nat.zero_add) (by simp only[go_sem, ↓reduceIte,Nat.reduceEqDiff,Nat.reduceAdd,Nat.reduceSub,Nat.reduceLeDiff,reduceCtorEq];rfl) ?_
   have h1:fh st_f.get 5 (.own p 0 (dc L bs).length)=some (.sl ((dc L bs).map ay)):=eX (sz:=3) fg rfl fun b=>rW _ 3 b
   simp only[ee,aM,bh,dK,h1,w5 hp3,Option.map_some]
theorem uc (cnt:Nat) (uj:1<=cnt) (hn:cnt<=1048576) (t:Int):ai Tryz.prog 153 [.int .i64 cnt,.bE,.int .i64 t] (.gU [.int .i64 cnt,.bE]):=by
 refine ai.body dP rfl fun hl n0=>?_
 clear hl
 have h1:ai Tryz.prog 170 [.bE] .bE:=by
  refine ai.body dP rfl fun hl n0=>?_
  clear hl
  (try((repeat(revert hN;revert N;apply Pn.out));refine wk @Nat.zero_add ?_;(repeat(refine Pn.mk ?_;intro N hN))))
  exact tq (.inl rfl) (r0:=.bE) (sd @Nat.zero_add) (iA _ _)
 have h2:ai Tryz.prog 169 [.bE,.fn 171 [.cH [.int .i64 t]]] .bE:=by
  have Dt:=(u9 [] t (by simp)).cut mixed (.bE (.same _ .nil))
  refine ai.body dP rfl fun hl n0=>?_
  clear hl
  (try((repeat(revert hN;revert N;apply Pn.out));refine wk @Nat.zero_add ?_;(repeat(refine Pn.mk ?_;intro N hN))))
  refine .inl ⟨_,ai.x Dt (by simp only[ad,aj,aT,cK,aX,List.all_cons,List.all_nil,AV.cell,Bool.and_true,if_true,Option.map_some]),?_⟩
  refine hN _ _ ?_
  clear hN N
  have hd:decide (jw (fun b:PB=>decide (b.s<t)) []= -1)=true:=rfl
  (try((repeat(revert hN;revert N;apply Pn.out));refine wk @hd ?_;(repeat(refine Pn.mk ?_;intro N hN))))
  exact tq (.inl rfl) (r0:=.bE) (sd @Nat.zero_add) (iA _ _)
 have EH:=(sN cnt uj hn [] (fun b h=>by cases h) (by simp)).cut mixed (.same _ (.bE .nil))
 (repeat(first|((repeat(revert hN;revert N;apply Pn.out));refine wk @Nat.zero_add ?_;(repeat(refine Pn.mk ?_;intro N hN)))|((try apply Or.inl);refine⟨_,ai.x (h1) (sd @Nat.zero_add),?_⟩;refine hN _ _ ?_;clear hN N)))
 refine .inl ⟨_,ai.x h2 ?_,?_⟩
 ·have:V.fz (dC (bI (fun _=>none) ⟨153000000,n0⟩ ⟨true,1,[[.int .i64 t]]⟩)) 5 (.ptr ⟨153000000,n0⟩ 0 0)=some (.cH [.int .i64 t]):=wh (sz:=1) (rows:=[[.int .i64 t]]) (by simp[dC,bI]) rfl (by simp only[List.drop_zero,ad,aj,aE,Option.map_some])
  simp only[ad,aj,aT,cK,this,List.all_cons,List.all_nil,AV.cell,Bool.and_true,if_true,Option.map_some]
 refine hN _ _ ?_
 clear hN N
 have fe:dH ([]:List PB)=id:=rfl
 rw[fe]at EH
 have hL:iS id:=fe▸re ([]:List PB)
 have Mu:(leads cnt id).length=cnt:=by rw[leads,List.filter_eq_self.2 (fun a _=>by simp)];simp
 generalize (id:Nat->Nat)=L at *
 have oV:((eQ cnt L).map xl).length=(leads cnt L).length:=by simp[eQ]
 have Ph:=ja cnt L
 have iU:(0:Int)<=(cnt:Int):=ab
 have od:(cnt:Int)<=((16777216:Nat):Int):=ab
 have fY:List.replicate cnt [AV.int .i64 0]=dj (ck cnt L 0 0) cnt:=by rw[tG,m3]
 (repeat(first|((repeat(revert hN;revert N;apply Pn.out));refine wk (tw @iU (tw @od (tw @Int.le_refl (tw @oV @fY)))) ?_;(repeat(refine Pn.mk ?_;intro N hN)))|((try apply Or.inl);refine⟨_,ai.x (EH) (sd (tw @iU (tw @od (tw @Int.le_refl (tw @oV @fY))))),?_⟩;refine hN _ _ ?_;clear hN N)))
 refine aJ (fun n env st=>∃i:Nat,n=((leads cnt L).length)-i/\i<=((leads cnt L).length)/\env 27=.int .i64 (i:Int)/\st.get ⟨153002001,n0+1+1⟩=some ⟨true,1,dj (ck cnt L i 0) cnt⟩/\(n0+1+1<st.next)) ((leads cnt L).length) ⟨0,ab,ab,sl (tw @fY @oV),sl (tw @fY @oV),bD⟩ ?_
 rintro n_c env_c st_c ⟨i,rfl,cle,c27,cg0,cI0⟩ cfr
 have c1:=cfr 1 (by kernel_rfl);have c8:=cfr 8 (by kernel_rfl);have c9:=cfr 9 (by kernel_rfl);have tY:=cfr 25 (by kernel_rfl);have tZ:=cfr 26 (by kernel_rfl)
 simp only[go_sem, ↓reduceIte,Nat.reduceEqDiff,Nat.reduceAdd,Nat.reduceSub,Nat.reduceLeDiff,reduceCtorEq,fY,oV]at c1 c8 c9 tY tZ
 clear cfr
 by_cases hi:(i:Int)<((leads cnt L).length:Int)
 ·have gm:∀{e:Env} {gg:Rows} {nx:Nat},(e 27=.int .i64 (IntKind.i64.wrap ((i:Int)+1)))->(gg ⟨153002001,n0+1+1⟩=some ⟨true,1,dj (ck cnt L (i+1) 0) cnt⟩)->(n0+1+1<nx)->∃m0,m0<((leads cnt L).length)-i/\∃i:Nat,m0=((leads cnt L).length)-i/\i<=((leads cnt L).length)/\e 27=.int .i64 (i:Int)/\gg ⟨153002001,n0+1+1⟩=some ⟨true,1,dj (ck cnt L i 0) cnt⟩/\(n0+1+1<nx):=fun x1 x2 x3=>⟨_,ab,i+1,rfl,ab,(by rw[x1,aA ab]),x2,x3⟩
  have fb:i<(leads cnt L).length:=ab
  have nA:((eQ cnt L).map xl)[i]? =some (xl (members cnt L (leads cnt L)[i])):=by simp[eQ,fb]
  have r5:(leads cnt L).getD i 0=(leads cnt L)[i]:=by simp[List.getD_eq_getElem?_getD,fb]
  have u3:∀m,ck cnt L i m=fun x=>if bm L x<i then bm L x else if x∈(members cnt L (leads cnt L)[i]).take m then i else 0:=fun m=>by unfold ck;rw[r5]
  have nT:=fun x (hx:x<cnt)=>qt hL (n:=cnt) (k:=x) (i:=i) hx fb
  have lD:(members cnt L (leads cnt L)[i]).Nodup:=List.nodup_range.filter _
  have Ij:∀x∈members cnt L (leads cnt L)[i],x<cnt:=fun x hx=>(kr.1 hx).1
  have hMc:(members cnt L (leads cnt L)[i]).length<=cnt:=by
   have:=List.length_filter_le (fun k=>L k==(leads cnt L)[i]) (List.range cnt)
   simpa[members]using this
  generalize members cnt L (leads cnt L)[i]=M at *
  have zz:(M.map eN).length=M.length:=by simp
  (try((repeat(revert hN;revert N;apply Pn.out));refine wk (tw @c27 (tw @cg0 (tw @c1 (tw @c8 (tw @c9 (tw @tY (tw @tZ (tw @hi (tw @oV (tw @nA (tw @xl.eq_1 @zz))))))))))) ?_;(repeat(refine Pn.mk ?_;intro N hN))))
  refine aJ (fun n env st=>∃m:Nat,n=(M.length)-m/\m<=(M.length)/\env 34=.int .i64 (m:Int)/\st.get ⟨153002001,n0+1+1⟩=some ⟨true,1,dj (ck cnt L i m) cnt⟩/\(n0+1+1<st.next)) (M.length) ⟨0,ab,ab,sl (tw @c27 (tw @cg0 (tw @c1 (tw @c8 (tw @c9 (tw @tY (tw @tZ @zz))))))),sl (tw @c27 (tw @cg0 (tw @c1 (tw @c8 (tw @c9 (tw @tY (tw @tZ @zz))))))),bD⟩ ?_
  rintro n_d env_d st_d ⟨m,rfl,dle,d34,dg0,dI0⟩ dfr
  have d1:=dfr 1 (by kernel_rfl);have d8:=dfr 8 (by kernel_rfl);have d9:=dfr 9 (by kernel_rfl);have d10:=dfr 10 (by kernel_rfl);have d25:=dfr 25 (by kernel_rfl);have d26:=dfr 26 (by kernel_rfl);have d27:=dfr 27 (by kernel_rfl);have d32:=dfr 32 (by kernel_rfl);have d33:=dfr 33 (by kernel_rfl)
  simp only[go_sem, ↓reduceIte,Nat.reduceEqDiff,Nat.reduceAdd,Nat.reduceSub,Nat.reduceLeDiff,reduceCtorEq,c27,cg0,c1,c8,c9,tY,tZ,zz]at d1 d8 d9 d10 d25 d26 d27 d32 d33
  clear dfr
  have tl:=ft (ck cnt L i m) cnt
  by_cases hm:(m:Int)<(M.length:Int)
  ·have rh:∀{e:Env} {gg:Rows} {nx:Nat},(e 34=.int .i64 (IntKind.i64.wrap ((m:Int)+1)))->(gg ⟨153002001,n0+1+1⟩=some ⟨true,1,dj (ck cnt L i (m+1)) cnt⟩)->(n0+1+1<nx)->∃m0,m0<(M.length)-m/\∃m:Nat,m0=(M.length)-m/\m<=(M.length)/\e 34=.int .i64 (m:Int)/\gg ⟨153002001,n0+1+1⟩=some ⟨true,1,dj (ck cnt L i m) cnt⟩/\(n0+1+1<nx):=fun x1 x2 x3=>⟨_,ab,m+1,rfl,ab,(by rw[x1,aA ab]),x2,x3⟩
   have wz:m<M.length:=ab
   have sP:(M.map eN)[m]? =some (eN M[m]):=by simp[wz]
   have sV:=Ij _ (List.getElem_mem wz)
   have zD:(M[m]:Int)<(cnt:Int):=ab
   have zC:=eM (f:=ck cnt L i m) sV
   have dQ:(dj (ck cnt L i m) cnt).set M[m] (eN i)=dj (ck cnt L i (m+1)) cnt:=nL sV (by
    have h1:=(nT _ sV).1 (List.getElem_mem wz)
    rw[u3]
    simp only[]
    rw[if_neg ab,if_pos (by rw[List.take_succ_eq_append_getElem wz];exact List.mem_append_right _ (List.mem_singleton.2 rfl))]) fun x hx gF=>by
    rw[u3,u3]
    simp only[]
    rw[List.take_succ_eq_append_getElem wz]
    simp only[List.mem_append,List.mem_singleton,gF,or_false]
   rw[eN]at dQ zC
   generalize M[m]=xm at *
   (try((repeat(revert hN;revert N;apply Pn.out));refine wk (tw @d34 (tw @dg0 (tw @d1 (tw @d8 (tw @d9 (tw @d10 (tw @d25 (tw @d26 (tw @d27 (tw @d32 (tw @d33 (tw @hm (tw @hi (tw @sP (tw @zz (tw @zD (tw @zC (tw @tl (tw @dQ @eN.eq_1))))))))))))))))))) ?_;(repeat(refine Pn.mk ?_;intro N hN))))
   refine rh ?_ ?_ bD
   all_goals simp only[go_sem, ↓reduceIte,Nat.reduceEqDiff,Nat.reduceAdd,Nat.reduceSub,Nat.reduceLeDiff,reduceCtorEq,d34,dg0,d1,d8,d9,d10,d25,d26,d27,d32,d33,dQ]
  ·have me:m=M.length:=ab
   subst me
   have uk:dj (ck cnt L i M.length) cnt=dj (ck cnt L (i+1) 0) cnt:=fV fun x hx=>by
    rw[u3,List.take_length]
    simp only[ck,List.take_zero,List.not_mem_nil,if_false]
    have h1:=nT x hx
    by_cases h2:bm L x<i
    ·rw[if_pos h2,if_pos ab]
    ·rw[if_neg h2]
     by_cases h3:x∈M
     ·rw[if_pos h3,if_pos (by have:=h1.1 h3;omega),h1.1 h3]
     ·rw[if_neg h3,if_neg fun h4=>h3 (h1.2 ab)]
   (try((repeat(revert hN;revert N;apply Pn.out));refine wk (tw @d34 (tw @dg0 (tw @d1 (tw @d8 (tw @d9 (tw @d10 (tw @d25 (tw @d26 (tw @d27 (tw @d32 (tw @d33 (tw @hm (tw @hi (tw @oV @zz)))))))))))))) ?_;(repeat(refine Pn.mk ?_;intro N hN))))
   refine gm ?_ ?_ bD
   all_goals simp only[go_sem, ↓reduceIte,Nat.reduceEqDiff,Nat.reduceAdd,Nat.reduceSub,Nat.reduceLeDiff,reduceCtorEq,c27,cg0,c1,c8,c9,tY,tZ,d34,dg0,d1,d8,d9,d10,d25,d26,d27,d32,d33,uk]
 have oe:i=(leads cnt L).length:=ab
 subst oe
 have FU:dj (ck cnt L (leads cnt L).length 0) cnt=dj (bm L) cnt:=fV fun x hx=>by rw[ck,if_pos (jq hL hx)]
 rw[FU]at cg0
 have tl:=ft (bm L) cnt
 (try((repeat(revert hN;revert N;apply Pn.out));refine wk (tw @c27 (tw @cg0 (tw @c1 (tw @c8 (tw @c9 (tw @tY (tw @tZ (tw @hi @oV)))))))) ?_;(repeat(refine Pn.mk ?_;intro N hN))))
 refine aJ (fun n env st=>∃j:Nat,n=(0)-j/\j<=(0)/\env 46=.int .i64 (j:Int)/\env 14=.bE) (0) ⟨0,ab,ab,sl (tw @c27 (tw @cg0 (tw @c1 (tw @c8 (tw @c9 (tw @tY @tZ)))))),sl (tw @c27 (tw @cg0 (tw @c1 (tw @c8 (tw @c9 (tw @tY @tZ))))))⟩ ?_
 rintro n_f env_f st_f ⟨j,rfl,fle,f46,f14⟩ ffr
 have f8:=ffr 8 (by kernel_rfl);have f44:=ffr 44 (by kernel_rfl);have f45:=ffr 45 (by kernel_rfl)
 simp only[go_sem, ↓reduceIte,Nat.reduceEqDiff,Nat.reduceAdd,Nat.reduceSub,Nat.reduceLeDiff,reduceCtorEq,c27,cg0,c1,c8,c9,tY,tZ]at f8 f44 f45
 clear ffr
 have hj:¬(j:Int)<((0:Nat):Int):=ab
 (try((repeat(revert hN;revert N;apply Pn.out));refine wk (tw @f46 (tw @f14 (tw @f8 (tw @f44 (tw @f45 (tw @hj @oV)))))) ?_;(repeat(refine Pn.mk ?_;intro N hN))))
 refine iK (.inl rfl) (r1:=.int .i64 ((leads cnt L).length:Int)) (r2:=.bE) (sd @Nat.zero_add) (sd @Nat.zero_add) ?_
 simp only[ee,aM,bh,dK,iA,Mu,Option.map_some]
theorem v7 (cnt:Nat) (uj:1<=cnt) (hn:cnt<=1048576) (bs:List PB) (hb:∀b∈bs,b.a<cnt/\b.b<cnt) (oU:bs.length<=1048576) (t:Int):ai Tryz.prog 153 [.int .i64 cnt,wZ bs,.int .i64 t] (.gU [.int .i64 (leads cnt (dH (aD t bs))).length,wZ (dc (dH (aD t bs)) bs)]):=by
 cases bs with
 |nil=>
  have h:=uc cnt uj hn t
  have Mu:(leads cnt (dH (aD t []))).length=cnt:=by
   show(leads cnt id).length=cnt
   rw[leads,List.filter_eq_self.2 (fun a _=>by simp)];simp
  rw[Mu]
  exact h
 |cons b r=>
  rw[w5 (by simp)]
  exact ud cnt uj hn (b::r) hb (by simp) oU t
end Go.Proofs.YtihgaadadaekmaaGreatDoor.V

namespace Go.Proofs.YtihgaadadaekmaaGreatDoor.V
open Go.RowKit
attribute [local irreducible] dO wpOps gO Call
attribute [local go_sem] aH fF eF fR fQ cu upd cm K.av cJ AV.cells AV.cell rowOf rowsOf part ld rowAt bI bU dG ei il bJ da eB fW eZ dq ep cY cX dU dV bP bd cQ bL cT cR ek er eo cP bS cZ ej bK aL cV cw ik br cI bQ aZ dz bl dI AV.undef bB bH dY eh dR ea cE eA eE cr ev eu cU cW List.getD_cons_zero List.getD_cons_succ List.getD_nil List.all_cons List.all_nil Bool.and_true Bool.true_and Bool.and_self Bool.not_true Bool.not_false Option.map_some Option.map_none Option.bind_some Option.bind_none List.length_cons List.length_nil List.take_succ_cons List.take_zero List.take_nil List.drop_succ_cons List.drop_zero List.drop_nil List.head?_cons List.map_cons List.map_nil List.getElem?_cons_zero List.getElem?_cons_succ List.cons_append List.nil_append List.append_nil List.length_map List.set_cons_zero List.set_cons_succ Nat.reduceMul eq_self Int.toNat_natCast Int.natCast_nonneg and_self true_and and_true decide_true decide_false Bool.false_eq_true Nat.zero_add Nat.add_zero List.contains_cons List.contains_nil Bool.or_false Bool.false_or beq_self_eq_true Nat.reduceBEq ne_eq not_true_eq_false not_false_eq_true Id.mk.injEq false_and and_false Nat.reduceLT Int.reduceLE Int.reduceLT Int.reduceToNat Int.reduceNeg Int.reduceAdd Nat.le_refl List.length_append beq_true beq_false Bool.not_eq_eq_eq_not or_false false_or dC ad aj aE bz cj aT bj aX bf cK bG
attribute [local go_sem] CE
section
attribute [-go_sem] dG
theorem IP (n:Nat) (hn:n<=1048576):ai Tryz.prog 200 [.int .u64 1,.int .u64 n] (.gU [.int .u64 0,.int .u64 n]):=by
 refine ai.body dP rfl fun hl n0=>?_
 clear hl
 have b1:(BitVec.ofInt 64 (n:Int)&&& BitVec.ofInt 64 4294967295).toNat=n:=by
  rw[BitVec.toNat_and]
  have e1:(BitVec.ofInt 64 (n:Int)).toNat=n:=by rw[BitVec.toNat_ofInt];omega
  have e2:(BitVec.ofInt 64 4294967295).toNat=2 ^ 32-1:=by decide
  rw[e1,e2]
  exact Nat.and_two_pow_sub_one_of_lt_two_pow ab
 have zn:IntKind.u64.wrap (n:Int)=n:=by rw[IntKind.wrap_u64];omega
 have i1:dG .and .u64 (n:Int) 4294967295=some (.int .u64 n):=by
  show some (AV.int .u64 (IntKind.u64.wrap (((BitVec.ofInt 64 (n:Int)&&& BitVec.ofInt 64 4294967295).toNat:Nat):Int)))= _
  rw[b1,zn]
 have i2:dG .and .u64 1 4294967295=some (.int .u64 1):=rfl
 have i3:dG .and .u64 0 4294967295=some (.int .u64 0):=rfl
 have i4:dG .mul .u64 1 (n:Int)=some (.int .u64 n):=by simp only[dG,Int.one_mul,zn]
 have i5:dG .mul .u64 0 (n:Int)=some (.int .u64 0):=by simp only[dG,Int.zero_mul];rfl
 have i6:dG .mul .u64 1 0=some (.int .u64 0):=rfl
 have i7:dG .mul .u64 0 0=some (.int .u64 0):=rfl
 have i8:dG .add .u64 0 0=some (.int .u64 0):=rfl
 have a3:Int.fdiv 1 (2 ^ min 32 64)=0:=by decide
 have a4:Int.fdiv (n:Int) (2 ^ min 32 64)=0:=by
  rw[Int.fdiv_eq_ediv_of_nonneg _ (by decide)]
  have h32:(2:Int) ^ min 32 64=4294967296:=by decide
  exact Int.ediv_eq_zero_of_lt ab ab
 have z1:Int.fdiv 0 (2 ^ min 32 64)=0:=by decide
 (try((repeat(revert hN;revert N;apply Pn.out));refine wk (tw @i1 (tw @i2 (tw @i3 (tw @i4 (tw @i5 (tw @i6 (tw @i7 (tw @i8 (tw @a3 (tw @a4 @z1)))))))))) ?_;(repeat(refine Pn.mk ?_;intro N hN))))
 refine iK (.inl rfl) (r1:=.int .u64 0) (r2:=.int .u64 n) (sd @Nat.zero_add) (sd @Nat.zero_add) ?_
 simp only[ee,aM,bh,dK,Option.map_some]
end
theorem Oo (n:Nat) (hn:n<=1048576):ai Tryz.prog 198 [.int .u64 1,.int .u64 n] (.gU [.int .u64 0,.int .u64 n]):=by
 refine ai.body dP rfl fun hl n0=>?_
 clear hl
 have h:=IP n hn
 (repeat(first|((repeat(revert hN;revert N;apply Pn.out));refine wk @Nat.zero_add ?_;(repeat(refine Pn.mk ?_;intro N hN)))|((try apply Or.inl);refine⟨_,ai.x (h) (sd @Nat.zero_add),?_⟩;refine hN _ _ ?_;clear hN N)))
 refine iK (.inl rfl) (r1:=.int .u64 0) (r2:=.int .u64 n) (sd @Nat.zero_add) (sd @Nat.zero_add) ?_
 simp only[ee,aM,bh,dK,Option.map_some]
theorem GH (cnt:Nat) (uj:1<=cnt) (hn:cnt<=1048576) (v:Int) (x:Id) (σ:ax) (hx:σ.get x=some ⟨true,1,[[.int .i64 v]]⟩) (Q0:x.bZ<σ.next):
  Call Tryz.prog 195 [.own x 0 1,.int .i64 cnt] σ fun r σ'=>∃o:Id,r=.own o 0 cnt/\σ'.get o=some ⟨true,1,List.replicate cnt [.int .i64 v]⟩/\σ.next<=o.bZ/\o.bZ<σ'.next/\∀i:Id,i.bZ<σ.next->σ'.get i=σ.get i:=by
 refine fm dP rfl fun hl=>?_
 clear hl
 have h:=Oo cnt hn
 have w1:IntKind.u64.wrap (cnt:Int)=cnt:=by rw[IntKind.wrap_u64];omega
 have w2:IntKind.i64.wrap (cnt:Int)=cnt:=He ab
 have w0:IntKind.u64.wrap ((1:Nat):Int)=1:=by decide
 have g1:¬(cnt:Int)<0:=ab
 have g2:¬(9223372036854775807:Int)<cnt:=ab
 have iU:(0:Int)<=(cnt:Int):=ab
 have od:(cnt:Int)<=((16777216:Nat):Int):=ab
 have MF:=eK Q0
 have pZ:(List.replicate cnt [AV.int .i64 0]).length=cnt:=List.length_replicate
 have m1:min 1 cnt=1:=ab
 (repeat(first|((repeat(revert hN;revert N;apply Pn.out));refine wk (tw @w0 (tw @w1 (tw @w2 (tw @g1 (tw @g2 (tw @iU (tw @od (tw @Int.le_refl (tw @Nat.le_refl (tw @hx (tw @MF (tw @pZ @m1)))))))))))) ?_;(repeat(refine Pn.mk ?_;intro N hN)))|((try apply Or.inl);refine⟨_,ai.x (h) (sd (tw @w0 (tw @w1 (tw @w2 (tw @g1 (tw @g2 (tw @iU (tw @od (tw @Int.le_refl (tw @Nat.le_refl (tw @hx (tw @MF (tw @pZ @m1))))))))))))),?_⟩;refine hN _ _ ?_;clear hN N)))
 refine aJ (fun m env st=>∃k:Nat,m=cnt-k/\1<=k/\k<=cnt/\env 8=.int .i64 (k:Int)/\st.get ⟨195006002,σ.next+1+1+1+1⟩=some ⟨true,1,List.replicate k [.int .i64 v]++List.replicate (cnt-k) [.int .i64 0]⟩/\σ.next+4<st.next/\∀i:Id,i.bZ<σ.next->st.get i=σ.get i) (cnt-1) ⟨1,rfl,Nat.le_refl _,uj,by(simp only[go_sem, ↓reduceIte,Nat.reduceEqDiff,Nat.reduceAdd,Nat.reduceSub,Nat.reduceLeDiff,reduceCtorEq,m1])<;>rfl,?_,bD,fun i hi=>?_⟩ ?_
 ·simp only[go_sem, ↓reduceIte,Nat.reduceEqDiff,Nat.reduceAdd,Nat.reduceSub,Nat.reduceLeDiff,reduceCtorEq]
  rw[List.drop_replicate];rfl
 ·have AJ:=eK hi
  simp only[go_sem, ↓reduceIte,Nat.reduceEqDiff,Nat.reduceAdd,Nat.reduceSub,Nat.reduceLeDiff,reduceCtorEq,AJ]
 rintro m env_b st_b ⟨k,rfl,qm,sQ,b8,bg,bn,bfr⟩ bkp
 have b7:=bkp 7 (by kernel_rfl)
 simp only[go_sem, ↓reduceIte,Nat.reduceEqDiff,Nat.reduceAdd,Nat.reduceSub,Nat.reduceLeDiff,reduceCtorEq]at b7
 clear bkp
 have N1:(List.replicate k [AV.int .i64 v]++List.replicate (cnt-k) [AV.int .i64 0]).length=cnt:=by simp;omega
 by_cases hk:(k:Int)<(cnt:Int)
 ·have eO:k<cnt:=ab
  have pj:(k:Int)<=(cnt:Int):=ab
  have hw:IntKind.i64.wrap ((k:Int)+((min k (cnt-k):Nat):Int))=((k+min k (cnt-k):Nat):Int):=by rw[aQ ab];omega
  have oH:List.take k (List.replicate k [AV.int .i64 v]++List.replicate (cnt-k) [AV.int .i64 0])=List.replicate k [AV.int .i64 v]:=List.take_left' (by simp)
  have cN:(List.replicate k [AV.int .i64 v]).all (fun c=>c.length==1&&c.all AV.cell)=true:=List.all_eq_true.2 fun c hc=>by rw[List.eq_of_mem_replicate hc];rfl
  have hlr:(List.replicate k [AV.int .i64 v]).length=k:=List.length_replicate
  have Li:k+(cnt-k)=cnt:=ab
  have wC:List.replicate k [AV.int .i64 v]++List.take (min k (cnt-k)) (List.replicate k [AV.int .i64 v])++List.drop (k+min k (cnt-k)) (List.replicate k [AV.int .i64 v]++List.replicate (cnt-k) [AV.int .i64 0])=List.replicate (k+min k (cnt-k)) [AV.int .i64 v]++List.replicate (cnt-(k+min k (cnt-k))) [AV.int .i64 0]:=by
   rw[List.take_replicate,List.drop_append,List.drop_of_length_le (by simp),List.nil_append,hlr,List.drop_replicate,List.replicate_append_replicate]
   congr 2
   ·omega
   ·omega
  (try((repeat(revert hN;revert N;apply Pn.out));refine wk (tw @b7 (tw @b8 (tw @bg (tw @N1 (tw @hk (tw @pj (tw @sQ (tw @hw (tw @eO (tw @Nat.sub_zero (tw @oH (tw @cN (tw @hlr (tw @Li (tw @Nat.le_refl @wC))))))))))))))) ?_;(repeat(refine Pn.mk ?_;intro N hN))))
  refine⟨_,?_,k+min k (cnt-k),rfl,ab,ab,sd @hw,sd @wC,bD,fun i hi=>?_⟩
  ·omega
  ·have AJ:=eK hi
   have:=bfr i hi
   simp only[go_sem, ↓reduceIte,Nat.reduceEqDiff,Nat.reduceAdd,Nat.reduceSub,Nat.reduceLeDiff,reduceCtorEq,AJ,this]
 ·have kK:k=cnt:=ab
  subst kK
  (try((repeat(revert hN;revert N;apply Pn.out));refine wk (tw @b7 (tw @b8 (tw @bg (tw @N1 @hk)))) ?_;(repeat(refine Pn.mk ?_;intro N hN))))
  refine gy (.inl rfl) (vs:=[.own ⟨195006002,σ.next+1+1+1+1⟩ 0 k]) (sd @Nat.zero_add) ⟨⟨195006002,σ.next+1+1+1+1⟩,rfl,by simp only[go_sem, ↓reduceIte,Nat.reduceEqDiff,Nat.reduceAdd,Nat.reduceSub,Nat.reduceLeDiff,reduceCtorEq,bg];simp,bD,bD,fun i hi=>bfr i hi⟩
end Go.Proofs.YtihgaadadaekmaaGreatDoor.V

namespace Go.Proofs.YtihgaadadaekmaaGreatDoor.V
open Go.RowKit
attribute [local irreducible] dO wpOps gO Call
attribute [local go_sem] aH fF eF fR fQ cu upd cm K.av cJ AV.cells AV.cell rowOf rowsOf part ld rowAt bI bU dG ei il bJ da eB fW eZ dq ep cY cX dU dV bP bd cQ bL cT cR ek er eo cP bS cZ ej bK aL cV cw ik br cI bQ aZ dz bl dI AV.undef bB bH dY eh dR ea cE eA eE cr ev eu cU cW List.getD_cons_zero List.getD_cons_succ List.getD_nil List.all_cons List.all_nil Bool.and_true Bool.true_and Bool.and_self Bool.not_true Bool.not_false Option.map_some Option.map_none Option.bind_some Option.bind_none List.length_cons List.length_nil List.take_succ_cons List.take_zero List.take_nil List.drop_succ_cons List.drop_zero List.drop_nil List.head?_cons List.map_cons List.map_nil List.getElem?_cons_zero List.getElem?_cons_succ List.cons_append List.nil_append List.append_nil List.length_map List.set_cons_zero List.set_cons_succ Nat.reduceMul eq_self Int.toNat_natCast Int.natCast_nonneg and_self true_and and_true decide_true decide_false Bool.false_eq_true Nat.zero_add Nat.add_zero List.contains_cons List.contains_nil Bool.or_false Bool.false_or beq_self_eq_true Nat.reduceBEq ne_eq not_true_eq_false not_false_eq_true Id.mk.injEq false_and and_false Nat.reduceLT Int.reduceLE Int.reduceLT Int.reduceToNat Int.reduceNeg Int.reduceAdd Nat.le_refl List.length_append beq_true beq_false Bool.not_eq_eq_eq_not or_false false_or dC ad aj aE bz cj aT bj aX bf cK bG
def j3 (R:Nat->Id) (n k:Nat):List (List AV):=(List.range k).map fun i=>[.own (R i) 0 n]
theorem jt (R:Nat->Id) (n k:Nat):(j3 R n k).length=k:=by simp[j3]
theorem pQ {R:Nat->Id} {n k i:Nat} (h:i<k):(j3 R n k)[i]? =some [.own (R i) 0 n]:=by simp[j3,h]
theorem qz (R:Nat->Id) (n k:Nat):j3 R n (k+1)=j3 R n k++[[.own (R k) 0 n]]:=by simp[j3,List.range_succ]
def uA (c:Nat->Nat->Int) (n:Nat):List (List AV):=(List.range n).map fun i=>[.sl (dv (c i) n)]
theorem zo {c:Nat->Nat->Int} {n i:Nat} (h:i<n):(uA c n)[i]? =some [.sl (dv (c i) n)]:=by simp[uA,h]
theorem tF (c:Nat->Nat->Int) (n:Nat):(uA c n).length=n:=by simp[uA]
structure CQ (X o1 o2:Id) (R1 R2:Nat->Id) (n nb:Nat):Prop where
 sx:X.site=174001001
 s1:o1.site=174004008
 s2:o2.site=174005008
 Px:∀i,i<n->(R1 i).site=174004006
 JW:∀i,i<n->(R2 i).site=174005006
 i1:∀i j,i<n->j<n->R1 i=R1 j->i=j
 i2:∀i j,i<n->j<n->R2 i=R2 j->i=j
 vx:X.bZ<nb
 v1:o1.bZ<nb
 v2:o2.bZ<nb
 Q8:∀i,i<n->(R1 i).bZ<nb
 OD:∀i,i<n->(R2 i).bZ<nb
structure mz (g:Rows) (X o1 o2:Id) (R1 R2:Nat->Id) (n:Nat) (c f:Nat->Nat->Int):Prop where
 x:g X=some ⟨true,2,[[.own o1 0 n,.own o2 0 n]]⟩
 t1:g o1=some ⟨true,1,j3 R1 n n⟩
 t2:g o2=some ⟨true,1,j3 R2 n n⟩
 r1:∀i,i<n->g (R1 i)=some ⟨true,1,dv (c i) n⟩
 r2:∀i,i<n->g (R2 i)=some ⟨true,1,dv (f i) n⟩
theorem mJ {f:Nat->Nat->Int} {a b:Nat} {d:Int} {n:Nat} (hb:b<n):(dv (f a) n).set b (au (f a b+d))=dv (bump f a b d a) n:=j4 hb (by simp[bump]) fun i _ hi=>by simp[bump,hi]
theorem jl {f:Nat->Nat->Int} {a b i:Nat} {d:Int} (h:i≠a):bump f a b d i=f i:=by funext v;simp[bump,h]
theorem mz.add {g g':Rows} {X o1 o2:Id} {R1 R2:Nat->Id} {n nb:Nat} {c f:Nat->Nat->Int} (I:CQ X o1 o2 R1 R2 n nb) (h:mz g X o1 o2 R1 R2 n c f) (b:PB) (ha:b.a<n) (hb:b.b<n) (hA:b.a≠b.b->g' (R1 b.a)=some ⟨true,1,dv (bump c b.a b.b b.s b.a) n⟩) (hB:g' (R1 b.b)=some ⟨true,1,dv (l8 c b b.b) n⟩) (hf:∀i:Id,i.bZ<nb->(i=R1 b.a)=False->(i=R1 b.b)=False->g' i=g i):mz g' X o1 o2 R1 R2 n (l8 c b) f:=by
 have ne:∀{i:Id} {s:Nat},i.site=s->(s==174004006)=false->∀a,a<n->(i=R1 a)=False:=fun {i s} hi hs a ha=>by
  simp only[eq_iff_iff,iff_false]
  rintro rfl
  rw[I.Px a ha]at hi
  subst hi
  simp at hs
 refine⟨(hf _ I.vx (ne I.sx (by decide) _ ha) (ne I.sx (by decide) _ hb)).trans h.x,(hf _ I.v1 (ne I.s1 (by decide) _ ha) (ne I.s1 (by decide) _ hb)).trans h.t1,(hf _ I.v2 (ne I.s2 (by decide) _ ha) (ne I.s2 (by decide) _ hb)).trans h.t2,fun i hi=>?_,fun i hi=>(hf _ (I.OD i hi) (ne (I.JW i hi) (by decide) _ ha) (ne (I.JW i hi) (by decide) _ hb)).trans (h.r2 i hi)⟩
 by_cases Hq:i=b.b
 ·subst Hq;exact hB
 ·by_cases KY:i=b.a
  ·subst KY
   rw[hA Hq,l8,jl Hq]
  ·rw[l8,jl Hq,jl KY,hf _ (I.Q8 i hi) (by simp only[eq_iff_iff,iff_false];exact fun he=>KY (I.i1 i _ hi ha he)) (by simp only[eq_iff_iff,iff_false];exact fun he=>Hq (I.i1 i _ hi hb he))]
   exact h.r1 i hi
def kn (n:Nat) (c f:Nat->Nat->Int):List AV:=[.sl (uA c n),.sl (uA f n)]
theorem CD {g:Rows} {R:Nat->Id} {n k:Nat} {c:Nat->Nat->Int} (h:∀i,i<k->g (R i)=some ⟨true,1,dv (c i) n⟩) (m:Nat):dy (dC g) (m+3) (j3 R n k)=some ((List.range k).map fun i=>[.sl (dv (c i) n)]):=by
 induction k with
 |zero=>rw[show j3 R n 0=[]from rfl,dy];rfl
 |succ k ih=>
  have e1:V.fz (dC g) (m+3) (.own (R k) 0 n)=some (.sl (dv (c k) n)):=by
   rw[gi];simp only[dC,h k ab,Option.map_some,if_true]
   rw[if_pos (by rw[di];omega),List.drop_zero,List.take_of_length_le (by rw[di];omega),xb];rfl
  have app:∀(xs ys:List (List AV)) (Pz OP:List (List AV)),dy (dC g) (m+3) xs=some Pz->dy (dC g) (m+3) ys=some OP->dy (dC g) (m+3) (xs++ys)=some (Pz++OP):=by
   intro xs
   induction xs with
   |nil=>intro ys Pz OP h1 h2;rw[dy]at h1;cases h1;exact h2
   |cons a xs ih2=>
    intro ys Pz OP h1 h2
    rw[dy]at h1
    rw[List.cons_append,dy]
    cases ha:bY (dC g) (m+3) a with
    |none=>simp[ha]at h1
    |some a'=>
     cases hb:dy (dC g) (m+3) xs with
     |none=>simp[ha,hb]at h1
     |some b'=>
      simp[ha,hb]at h1
      subst h1
      rw[ih2 ys b' OP hb h2];rfl
  rw[qz,List.range_succ,List.map_append]
  refine app _ _ _ _ (ih fun i hi=>h i ab) ?_
  rw[dy,ad,aj,e1,dy];rfl
theorem mz.fz {g:Rows} {X o1 o2:Id} {R1 R2:Nat->Id} {n:Nat} {c f:Nat->Nat->Int} (h:mz g X o1 o2 R1 R2 n c f):V.fz (dC g) 6 (.ptr X 0 0)=some (.cH (kn n c f)):=by
 refine wh (sz:=2) (rows:=[[.own o1 0 n,.own o2 0 n]]) (by simp[dC,h.x]) rfl ?_
 have e1:V.fz (dC g) 5 (.own o1 0 n)=some (.sl (uA c n)):=by
  rw[gi];simp only[dC,h.t1,Option.map_some,if_true]
  rw[if_pos (by rw[jt];omega),List.drop_zero,List.take_of_length_le (by rw[jt];omega)]
  rw[show dy _ 4 _=some (uA c n)from CD h.r1 1];rfl
 have e2:V.fz (dC g) 5 (.own o2 0 n)=some (.sl (uA f n)):=by
  rw[gi];simp only[dC,h.t2,Option.map_some,if_true]
  rw[if_pos (by rw[jt];omega),List.drop_zero,List.take_of_length_le (by rw[jt];omega)]
  rw[show dy _ 4 _=some (uA f n)from CD h.r2 1];rfl
 simp only[List.drop_zero,ad,aj,e1,e2,kn,Option.map_some]
theorem KB (n:Nat) (c f:Nat->Nat->Int) (u v:Nat) (hu:u<n) (hv:v<n):ai Tryz.prog 196 [.cH (kn n c f),.int .i64 u,.int .i64 v] (.bool (decide (f u v<c u v))):=by
 refine ai.body dP rfl fun hl n0=>?_
 clear hl
 have h1:=zo (c:=c) hu
 have h2:=zo (c:=f) hu
 have h3:=dt (f:=c u) hv
 have h4:=dt (f:=f u) hv
 have hui:(u:Int)<(n:Int):=ab
 have AJ:(v:Int)<(n:Int):=ab
 have l1:=tF c n
 have l2:=tF f n
 have l3:=di (c u) n
 have l4:=di (f u) n
 rw[au]at h3 h4
 (try((repeat(revert hN;revert N;apply Pn.out));refine wk (tw @kn.eq_1 (tw @h1 (tw @h2 (tw @h3 (tw @h4 (tw @hui (tw @AJ (tw @l1 (tw @l2 (tw @l3 @l4)))))))))) ?_;(repeat(refine Pn.mk ?_;intro N hN))))
 exact aI (b:=decide (f u v<c u v)) (.inl rfl) (sd @Nat.zero_add) rfl
theorem Es (n:Nat):List.replicate n [AV.int .i64 0]=dv (fun _=>0) n:=by
 refine List.ext_getElem? fun i=>?_
 by_cases h:i<n
 ·rw[dt h,List.getElem?_replicate,if_pos h];rfl
 ·rw[List.getElem?_eq_none (by simp;omega),List.getElem?_eq_none (by rw[di];omega)]
theorem w7 {i j:Id} {s t:Nat} (hi:i.site=s) (hj:j.site=t) (h:(s==t)=false):(i=j)=False/\(j=i)=False:=by
 constructor<;>(simp only[eq_iff_iff,iff_false];rintro rfl;rw[hi]at hj;subst hj;simp at h)
theorem y9 (cnt:Nat) (uj:1<=cnt) (hn:cnt<=1048576) (bs:List PB) (hb:∀b∈bs,b.a<cnt/\b.b<cnt) (dS:∀b∈bs,0<=b.s/\b.s<=4) (oU:bs.length<=1048576) (σ:ax):
  Call Tryz.prog 174 [.int .i64 cnt,.sl (bs.map ay)] σ fun r σ'=>∃X o1 o2 R1 R2,r=.ptr X 0 0/\CQ X o1 o2 R1 R2 cnt σ'.next/\σ.next<=σ'.next/\mz σ'.get X o1 o2 R1 R2 cnt (jY bs) (fun _ _=>0)/\∀i:Id,i.bZ<σ.next->σ'.get i=σ.get i:=by
 refine fm dP rfl fun hl=>?_
 clear hl
 (try((repeat(revert hN;revert N;apply Pn.out));refine wk @Nat.zero_add ?_;(repeat(refine Pn.mk ?_;intro N hN))))
 obtain⟨X,hX⟩:∃X:Id,X=⟨174001001,σ.next+1⟩:=⟨_,rfl⟩
 obtain⟨R1,Nr⟩:∃R:Nat->Id,R=fun k=>⟨174004006,σ.next+3+4*k+1⟩:=⟨_,rfl⟩
 obtain⟨R2,Nt⟩:∃R:Nat->Id,R=fun k=>⟨174005006,σ.next+3+4*k+2⟩:=⟨_,rfl⟩
 have sX:X.site=174001001:=by rw[hX]
 have vX:X.bZ=σ.next+1:=by rw[hX]
 have s1:∀k,(R1 k).site=174004006:=fun k=>by rw[Nr]
 have s2:∀k,(R2 k).site=174005006:=fun k=>by rw[Nt]
 have v1:∀k,(R1 k).bZ=σ.next+3+4*k+1:=fun k=>by rw[Nr]
 have v2:∀k,(R2 k).bZ=σ.next+3+4*k+2:=fun k=>by rw[Nt]
 have iU:(0:Int)<=(cnt:Int):=ab
 have od:(cnt:Int)<=((16777216:Nat):Int):=ab
 have hz:=Es cnt
 have t1:j3 R1 cnt 0=[]:=rfl
 have t2:j3 R2 cnt 0=[]:=rfl
 refine aJ (fun n env st=>∃k:Nat,n=(cnt)-k/\k<=(cnt)/\env 11=.int .i64 (k:Int)/\env 5=(.ptr X 0 0)/\(st.next=σ.next+3+4*k/\(∀i:Id,i.bZ<σ.next->st.get i=σ.get i)/\∀j,j<k->st.get (R1 j)=some ⟨true,1,dv (fun _=>0) cnt⟩/\st.get (R2 j)=some ⟨true,1,dv (fun _=>0) cnt⟩)/\((k=0/\st.get X=some ⟨true,2,[[.bE,.bE]]⟩)∨∃o1 o2:Id,o1.site=174004008/\o2.site=174005008/\o1.bZ<st.next/\o2.bZ<st.next/\σ.next<=o1.bZ/\σ.next<=o2.bZ/\st.get X=some ⟨true,2,[[.own o1 0 k,.own o2 0 k]]⟩/\st.get o1=some ⟨true,1,j3 R1 cnt k⟩/\st.get o2=some ⟨true,1,j3 R2 cnt k⟩)) (cnt) ⟨0,ab,ab,sl @hX,sl @hX,⟨rfl,fun i hi=>by(have AJ:=eK hi);simp only[go_sem, ↓reduceIte,Nat.reduceEqDiff,Nat.reduceAdd,Nat.reduceSub,Nat.reduceLeDiff,reduceCtorEq,AJ],fun j hj=>absurd hj (Nat.not_lt_zero j)⟩,.inl ⟨rfl,by rw[hX];simp only[go_sem, ↓reduceIte,Nat.reduceEqDiff,Nat.reduceAdd,Nat.reduceSub,Nat.reduceLeDiff,reduceCtorEq]⟩⟩ ?_
 rintro n_a env_a st_a ⟨k,rfl,ale,a11,a5,l7,aI1⟩ dE
 have a0:=dE 0 (by kernel_rfl);have a1:=dE 1 (by kernel_rfl);have Jp:=dE 10 (by kernel_rfl)
 simp only[go_sem, ↓reduceIte,Nat.reduceEqDiff,Nat.reduceAdd,Nat.reduceSub,Nat.reduceLeDiff,reduceCtorEq,hX]at a0 a1 Jp
 clear dE
 obtain⟨anx,dE,aR⟩:=l7
 have wX:=eK (i:=X) (n:=st_a.next) ab
 by_cases hk:(k:Int)<(cnt:Int)
 ·have cl:∀{e:Env} {gg:Rows} {nx:Nat},(e 11=.int .i64 (IntKind.i64.wrap ((k:Int)+1)))->(e 5=(.ptr X 0 0))->(nx=σ.next+3+4*(k+1)/\(∀i:Id,i.bZ<σ.next->gg i=σ.get i)/\∀j,j<(k+1)->gg (R1 j)=some ⟨true,1,dv (fun _=>0) cnt⟩/\gg (R2 j)=some ⟨true,1,dv (fun _=>0) cnt⟩)->(((k+1)=0/\gg X=some ⟨true,2,[[.bE,.bE]]⟩)∨∃o1 o2:Id,o1.site=174004008/\o2.site=174005008/\o1.bZ<nx/\o2.bZ<nx/\σ.next<=o1.bZ/\σ.next<=o2.bZ/\gg X=some ⟨true,2,[[.own o1 0 (k+1),.own o2 0 (k+1)]]⟩/\gg o1=some ⟨true,1,j3 R1 cnt (k+1)⟩/\gg o2=some ⟨true,1,j3 R2 cnt (k+1)⟩)->∃m0,m0<(cnt)-k/\∃k:Nat,m0=(cnt)-k/\k<=(cnt)/\e 11=.int .i64 (k:Int)/\e 5=(.ptr X 0 0)/\(nx=σ.next+3+4*k/\(∀i:Id,i.bZ<σ.next->gg i=σ.get i)/\∀j,j<k->gg (R1 j)=some ⟨true,1,dv (fun _=>0) cnt⟩/\gg (R2 j)=some ⟨true,1,dv (fun _=>0) cnt⟩)/\((k=0/\gg X=some ⟨true,2,[[.bE,.bE]]⟩)∨∃o1 o2:Id,o1.site=174004008/\o2.site=174005008/\o1.bZ<nx/\o2.bZ<nx/\σ.next<=o1.bZ/\σ.next<=o2.bZ/\gg X=some ⟨true,2,[[.own o1 0 k,.own o2 0 k]]⟩/\gg o1=some ⟨true,1,j3 R1 cnt k⟩/\gg o2=some ⟨true,1,j3 R2 cnt k⟩):=fun x1 x2 x3 x4=>⟨_,ab,k+1,rfl,ab,(by rw[x1,aA ab]),x2,x3,x4⟩
  have eO:k<cnt:=ab
  have qm:R1 k=⟨174004006,st_a.next+1⟩:=by rw[Nr,anx]
  have sQ:R2 k=⟨174005006,st_a.next+1+1⟩:=by rw[Nt,anx]
  have JN:j3 R1 cnt (k+1)=j3 R1 cnt k++[[.own ⟨174004006,st_a.next+1⟩ 0 cnt]]:=by rw[qz,qm]
  have MB:j3 R2 cnt (k+1)=j3 R2 cnt k++[[.own ⟨174005006,st_a.next+1+1⟩ 0 cnt]]:=by rw[qz,sQ]
  rcases aI1 with⟨rfl,MY⟩|⟨o1,o2,so1,so2,vo1,vo2,vn1,vn2,MY,ag1,ag2⟩
  ·(try((repeat(revert hN;revert N;apply Pn.out));refine wk (tw @a11 (tw @a5 (tw @a0 (tw @a1 (tw @Jp (tw @hk (tw @wX (tw @MY (tw @iU (tw @od (tw @Int.le_refl @hz))))))))))) ?_;(repeat(refine Pn.mk ?_;intro N hN))))
   refine cl ?_ ?_ (by
    (try dsimp only)
    refine⟨ab,fun i hi=>?_,fun j hj=>?_⟩
    ·have q1:=eK (i:=i) (n:=st_a.next) ab
     have q2:=dp (a:=i) (b:=X) ab
     have:=dE i hi
     simp only[go_sem, ↓reduceIte,Nat.reduceEqDiff,Nat.reduceAdd,Nat.reduceSub,Nat.reduceLeDiff,reduceCtorEq,q1,q2,this]
    ·by_cases uX:j=0
     ·subst uX
      rw[qm,sQ]
      have q1:=fN sX (b:=174004006) (v:=st_a.next+1) (by decide)
      have q2:=fN sX (b:=174005006) (v:=st_a.next+1+1) (by decide)
      simp only[go_sem, ↓reduceIte,Nat.reduceEqDiff,Nat.reduceAdd,Nat.reduceSub,Nat.reduceLeDiff,reduceCtorEq,q1,q2]
     ·obtain⟨r1,r2⟩:=aR j ab
      have q1:=eK (i:=R1 j) (n:=st_a.next) (by rw[v1];omega)
      have q2:=eK (i:=R2 j) (n:=st_a.next) (by rw[v2];omega)
      have q3:=w7 (s1 j) sX (by decide)
      have q4:=w7 (s2 j) sX (by decide)
      constructor
      ·simp only[go_sem, ↓reduceIte,Nat.reduceEqDiff,Nat.reduceAdd,Nat.reduceSub,Nat.reduceLeDiff,reduceCtorEq,q1,q3,r1]
      ·simp only[go_sem, ↓reduceIte,Nat.reduceEqDiff,Nat.reduceAdd,Nat.reduceSub,Nat.reduceLeDiff,reduceCtorEq,q2,q4,r2]) (.inr ⟨⟨174004008,st_a.next+1⟩,⟨174005008,st_a.next+1+1⟩,rfl,rfl,bD,bD,bD,bD,sd @wX,by rw[JN,t1];simp only[go_sem, ↓reduceIte,Nat.reduceEqDiff,Nat.reduceAdd,Nat.reduceSub,Nat.reduceLeDiff,reduceCtorEq,wX,List.nil_append],by rw[MB,t2];simp only[go_sem, ↓reduceIte,Nat.reduceEqDiff,Nat.reduceAdd,Nat.reduceSub,Nat.reduceLeDiff,reduceCtorEq,wX,List.nil_append]⟩)
   all_goals simp only[go_sem, ↓reduceIte,Nat.reduceEqDiff,Nat.reduceAdd,Nat.reduceSub,Nat.reduceLeDiff,reduceCtorEq,a11,a5,a0,a1,Jp,wX]
  ·have l1:=jt R1 cnt k
   have l2:=jt R2 cnt k
   have e1:k+1<=16777216:=ab
   have w1:=eK vo1
   have w2:=eK vo2
   have x1:=w7 sX so1 (by decide)
   have x2:=w7 sX so2 (by decide)
   have x3:=w7 so1 so2 (by decide)
   (try((repeat(revert hN;revert N;apply Pn.out));refine wk (tw @a11 (tw @a5 (tw @a0 (tw @a1 (tw @Jp (tw @hk (tw @wX (tw @MY (tw @ag1 (tw @ag2 (tw @l1 (tw @l2 (tw @e1 (tw @w1 (tw @w2 (tw @x1 (tw @x2 (tw @x3 (tw @iU (tw @od (tw @Int.le_refl @hz))))))))))))))))))))) ?_;(repeat(refine Pn.mk ?_;intro N hN))))
   refine cl ?_ ?_ (by
    (try dsimp only)
    refine⟨ab,fun i hi=>?_,fun j hj=>?_⟩
    ·have q1:=eK (i:=i) (n:=st_a.next) ab
     have q2:=dp (a:=i) (b:=X) ab
     have q3:=dp (a:=i) (b:=o1) ab
     have q4:=dp (a:=i) (b:=o2) ab
     have:=dE i hi
     simp only[go_sem, ↓reduceIte,Nat.reduceEqDiff,Nat.reduceAdd,Nat.reduceSub,Nat.reduceLeDiff,reduceCtorEq,q1,q2,this,q3,q4]
    ·by_cases uX:j=k
     ·subst uX
      rw[qm,sQ]
      have q1:=fN sX (b:=174004006) (v:=st_a.next+1) (by decide)
      have q2:=fN sX (b:=174005006) (v:=st_a.next+1+1) (by decide)
      simp only[go_sem, ↓reduceIte,Nat.reduceEqDiff,Nat.reduceAdd,Nat.reduceSub,Nat.reduceLeDiff,reduceCtorEq,q1,q2,w1,w2]
     ·obtain⟨r1,r2⟩:=aR j ab
      have q1:=eK (i:=R1 j) (n:=st_a.next) (by rw[v1];omega)
      have q2:=eK (i:=R2 j) (n:=st_a.next) (by rw[v2];omega)
      have q3:=w7 (s1 j) sX (by decide)
      have q4:=w7 (s2 j) sX (by decide)
      have q5:=w7 (s1 j) so1 (by decide)
      have q6:=w7 (s1 j) so2 (by decide)
      have q7:=w7 (s2 j) so1 (by decide)
      have q8:=w7 (s2 j) so2 (by decide)
      constructor
      ·simp only[go_sem, ↓reduceIte,Nat.reduceEqDiff,Nat.reduceAdd,Nat.reduceSub,Nat.reduceLeDiff,reduceCtorEq,q1,q3,r1,q5,q6]
      ·simp only[go_sem, ↓reduceIte,Nat.reduceEqDiff,Nat.reduceAdd,Nat.reduceSub,Nat.reduceLeDiff,reduceCtorEq,q2,q4,r2,q7,q8]) (.inr ⟨⟨174004008,st_a.next+1⟩,⟨174005008,st_a.next+1+1⟩,rfl,rfl,bD,bD,bD,bD,sd @wX,by rw[JN];simp only[go_sem, ↓reduceIte,Nat.reduceEqDiff,Nat.reduceAdd,Nat.reduceSub,Nat.reduceLeDiff,reduceCtorEq,wX,w1,w2],by rw[MB];simp only[go_sem, ↓reduceIte,Nat.reduceEqDiff,Nat.reduceAdd,Nat.reduceSub,Nat.reduceLeDiff,reduceCtorEq,wX,w1,w2]⟩)
   all_goals simp only[go_sem, ↓reduceIte,Nat.reduceEqDiff,Nat.reduceAdd,Nat.reduceSub,Nat.reduceLeDiff,reduceCtorEq,a11,a5,a0,a1,Jp,wX,w1,w2,x1,x2,x3]
 have kK:cnt=k:=ab
 subst kK
 rcases aI1 with⟨h0,_⟩|⟨o1,o2,so1,so2,vo1,vo2,vn1,vn2,MY,ag1,ag2⟩
 ·omega
 (try((repeat(revert hN;revert N;apply Pn.out));refine wk (tw @a11 (tw @a5 (tw @a0 (tw @a1 (tw @Jp @hk))))) ?_;(repeat(refine Pn.mk ?_;intro N hN))))
 have I:CQ X o1 o2 R1 R2 cnt st_a.next:=⟨sX,so1,so2,fun i _=>s1 i,fun i _=>s2 i,fun i j _ _ h=>by have:=v1 i;rw[h,v1]at this;omega,fun i j _ _ h=>by have:=v2 i;rw[h,v2]at this;omega,ab,vo1,vo2,fun i hi=>by rw[v1];omega,fun i hi=>by rw[v2];omega⟩
 refine aJ (fun n env st=>∃i:Nat,n=(bs.length)-i/\i<=(bs.length)/\env 38=.int .i64 (i:Int)/\(st_a.next<=st.next/\(∀x:Id,x.bZ<σ.next->st.get x=σ.get x)/\mz st.get X o1 o2 R1 R2 cnt (jY (bs.take i)) (fun _ _=>0))) (bs.length) ⟨0,ab,ab,sl (tw @a11 (tw @a5 (tw @a0 (tw @a1 @Jp)))),⟨bD,dE,MY,ag1,ag2,fun j hj=>(aR j hj).1,fun j hj=>(aR j hj).2⟩⟩ ?_
 rintro n_b env_b st_b ⟨i,rfl,ble,b38,bI0⟩ bfr
 have b0:=bfr 0 (by kernel_rfl);have b1:=bfr 1 (by kernel_rfl);have b5:=bfr 5 (by kernel_rfl);have Mh:=bfr 36 (by kernel_rfl);have Mi:=bfr 37 (by kernel_rfl)
 simp only[go_sem, ↓reduceIte,Nat.reduceEqDiff,Nat.reduceAdd,Nat.reduceSub,Nat.reduceLeDiff,reduceCtorEq,a11,a5,a0,a1,Jp]at b0 b1 b5 Mh Mi
 clear bfr
 obtain⟨bn,Kh,bM⟩:=bI0
 by_cases hi:(i:Int)<(bs.length:Int)
 ·have iW:∀{e:Env} {gg:Rows} {nx:Nat},(e 38=.int .i64 (IntKind.i64.wrap ((i:Int)+1)))->(st_a.next<=nx/\(∀x:Id,x.bZ<σ.next->gg x=σ.get x)/\mz gg X o1 o2 R1 R2 cnt (jY (bs.take (i+1))) (fun _ _=>0))->∃m0,m0<(bs.length)-i/\∃i:Nat,m0=(bs.length)-i/\i<=(bs.length)/\e 38=.int .i64 (i:Int)/\(st_a.next<=nx/\(∀x:Id,x.bZ<σ.next->gg x=σ.get x)/\mz gg X o1 o2 R1 R2 cnt (jY (bs.take i)) (fun _ _=>0)):=fun x1 x2=>⟨_,ab,i+1,rfl,ab,(by rw[x1,aA ab]),x2⟩
  have fb:i<bs.length:=ab
  have nA:(bs.map ay)[i]? =some (ay bs[i]):=by simp[fb]
  have fe:=hb _ (List.getElem_mem fb)
  have hsi:=dS _ (List.getElem_mem fb)
  have qn:jY (bs.take (i+1))=l8 (jY (bs.take i)) bs[i]:=by rw[List.take_succ_eq_append_getElem fb,Bl]
  have kV:=wU (bs.take i) (fun _ _=>0) (fun b hb=>(dS b (List.mem_of_mem_take hb)).1) (fun _ _=>Int.le_refl _)
  have hle:=room_le (bs.take i) (fun _ _=>0) 0 (fun b hb=>(dS b (List.mem_of_mem_take hb)).2) (fun _ _=>Int.le_refl _) (Int.le_refl _)
  rw[List.length_take]at hle
  have fc:(bs.take i).foldl l8 (fun _ _=>0)=jY (bs.take i):=rfl
  rw[fc]at kV hle
  generalize jY (bs.take i)=c at *
  generalize bs[i]=b at *
  obtain⟨ha,qk⟩:=fe
  have gA:=pQ (R:=R1) (n:=cnt) ha
  have gB:=pQ (R:=R1) (n:=cnt) qk
  have rA:=bM.r1 _ ha
  have rB:=bM.r1 _ qk
  have cA:=dt (f:=c b.a) qk
  have cB:=dt (f:=c b.b) ha
  have sA:=mJ (f:=c) (a:=b.a) (d:=b.s) qk
  have gX:=bM.x
  have g1:=bM.t1
  have fH:(b.a:Int)<(cnt:Int):=ab
  have fe:(b.b:Int)<(cnt:Int):=ab
  have qX:=eK (i:=X) (n:=st_b.next) ab
  have q1:=eK (i:=o1) (n:=st_b.next) ab
  have qA:=eK (i:=R1 b.a) (n:=st_b.next) (by rw[v1];omega)
  have qB:=eK (i:=R1 b.b) (n:=st_b.next) (by rw[v1];omega)
  have xA:=w7 sX (s1 b.a) (by decide)
  have xB:=w7 sX (s1 b.b) (by decide)
  have yA:=w7 so1 (s1 b.a) (by decide)
  have yB:=w7 so1 (s1 b.b) (by decide)
  have l1:=jt R1 cnt cnt
  have lA:=di (c b.a) cnt
  have lB:=di (c b.b) cnt
  have hAB:=hle b.a b.b
  have hBA:=hle b.b b.a
  have gAB:=kV b.a b.b
  have gBA:=kV b.b b.a
  have wA:IntKind.i64.wrap (c b.a b.b+b.s)=c b.a b.b+b.s:=aQ ab
  by_cases qV:b.a=b.b
  ·obtain⟨ba,bb,s⟩:=b
   dsimp only at *
   subst qV
   have Lf:=mJ (f:=bump c ba ba s) (a:=ba) (b:=ba) (d:=s) (n:=cnt) ha
   have Qi:=dt (f:=bump c ba ba s ba) ha
   have hv:bump c ba ba s ba ba=c ba ba+s:=by simp[bump]
   have lC:=di (bump c ba ba s ba) cnt
   have wB:IntKind.i64.wrap (c ba ba+s+s)=c ba ba+s+s:=aQ ab
   rw[hv]at Lf Qi
   have ql:l8 c ⟨ba,ba,s⟩ ba=bump (bump c ba ba s) ba ba s ba:=rfl
   rw[au]at cA sA Lf Qi
   (try((repeat(revert hN;revert N;apply Pn.out));refine wk (tw @b38 (tw @b0 (tw @b1 (tw @b5 (tw @Mh (tw @Mi (tw @hi (tw @nA (tw @ay.eq_1 (tw @gA (tw @rA (tw @cA (tw @sA (tw @gX (tw @g1 (tw @fH (tw @qX (tw @q1 (tw @qA (tw @xA (tw @yA (tw @l1 (tw @lA (tw @wA (tw @Lf (tw @Qi (tw @lC @wB))))))))))))))))))))))))))) ?_;(repeat(refine Pn.mk ?_;intro N hN))))
   exact iW (sd (tw @b38 (tw @b0 (tw @b1 (tw @b5 (tw @Mh @Mi)))))) (by
    (try dsimp only)
    refine⟨ab,fun x hx=>?_,?_⟩
    ·have p1:=eK (i:=x) (n:=st_b.next) ab
     have p2:=dp (a:=x) (b:=R1 ba) (by rw[v1];omega)
     have:=Kh x hx
     simp only[go_sem, ↓reduceIte,Nat.reduceEqDiff,Nat.reduceAdd,Nat.reduceSub,Nat.reduceLeDiff,reduceCtorEq,p1,p2,this]
    ·rw[qn]
     refine bM.add I ⟨ba,ba,s⟩ ha ha (fun h=>absurd rfl h) ?_ fun x hx h1 h2=>?_
     ·rw[ql]
      simp only[go_sem, ↓reduceIte,Nat.reduceEqDiff,Nat.reduceAdd,Nat.reduceSub,Nat.reduceLeDiff,reduceCtorEq]
     ·have p1:=eK (i:=x) (n:=st_b.next) ab
      (try dsimp only at h2)
      simp only[go_sem, ↓reduceIte,Nat.reduceEqDiff,Nat.reduceAdd,Nat.reduceSub,Nat.reduceLeDiff,reduceCtorEq,p1,h2])
  ·have gF:(R1 b.a=R1 b.b)=False:=by simp only[eq_iff_iff,iff_false];exact fun h=>qV (I.i1 _ _ ha qk h)
   have FR:(R1 b.b=R1 b.a)=False:=by simp only[eq_iff_iff,iff_false];exact fun h=>qV (I.i1 _ _ ha qk h.symm)
   have K4:bump c b.a b.b b.s b.b=c b.b:=jl fun h=>qV h.symm
   have Lf:=mJ (f:=bump c b.a b.b b.s) (a:=b.b) (b:=b.a) (d:=b.s) (n:=cnt) ha
   rw[K4]at Lf
   have wB:IntKind.i64.wrap (c b.b b.a+b.s)=c b.b b.a+b.s:=aQ ab
   have ql:l8 c b b.b=bump (bump c b.a b.b b.s) b.b b.a b.s b.b:=rfl
   rw[au]at cA cB sA Lf
   (try((repeat(revert hN;revert N;apply Pn.out));refine wk (tw @b38 (tw @b0 (tw @b1 (tw @b5 (tw @Mh (tw @Mi (tw @hi (tw @nA (tw @ay.eq_1 (tw @gA (tw @gB (tw @rA (tw @rB (tw @cA (tw @cB (tw @sA (tw @gX (tw @g1 (tw @fH (tw @fe (tw @qX (tw @q1 (tw @qA (tw @qB (tw @xA (tw @xB (tw @yA (tw @yB (tw @l1 (tw @lA (tw @lB (tw @wA (tw @Lf (tw @wB (tw @gF @FR))))))))))))))))))))))))))))))))))) ?_;(repeat(refine Pn.mk ?_;intro N hN))))
   exact iW (sd (tw @b38 (tw @b0 (tw @b1 (tw @b5 (tw @Mh @Mi)))))) (by
    (try dsimp only)
    refine⟨ab,fun x hx=>?_,?_⟩
    ·have p1:=eK (i:=x) (n:=st_b.next) ab
     have p2:=dp (a:=x) (b:=R1 b.b) (by rw[v1];omega)
     have p3:=dp (a:=x) (b:=R1 b.a) (by rw[v1];omega)
     have:=Kh x hx
     simp only[go_sem, ↓reduceIte,Nat.reduceEqDiff,Nat.reduceAdd,Nat.reduceSub,Nat.reduceLeDiff,reduceCtorEq,p1,p2,p3,this]
    ·rw[qn]
     refine bM.add I b ha qk (fun h=>?_) ?_ fun x hx h1 h2=>?_
     ·simp only[go_sem, ↓reduceIte,Nat.reduceEqDiff,Nat.reduceAdd,Nat.reduceSub,Nat.reduceLeDiff,reduceCtorEq,gF]
     ·rw[ql]
      simp only[go_sem, ↓reduceIte,Nat.reduceEqDiff,Nat.reduceAdd,Nat.reduceSub,Nat.reduceLeDiff,reduceCtorEq,gF]
     ·have p1:=eK (i:=x) (n:=st_b.next) ab
      simp only[go_sem, ↓reduceIte,Nat.reduceEqDiff,Nat.reduceAdd,Nat.reduceSub,Nat.reduceLeDiff,reduceCtorEq,p1,h1,h2])
 ·have oe:i=bs.length:=ab
  subst oe
  rw[List.take_length]at bM
  (try((repeat(revert hN;revert N;apply Pn.out));refine wk (tw @b38 (tw @b0 (tw @b1 (tw @b5 (tw @Mh (tw @Mi @hi)))))) ?_;(repeat(refine Pn.mk ?_;intro N hN))))
  exact gy (.inl rfl) (vs:=[.ptr X 0 0]) (sd @Nat.zero_add) ⟨X,o1,o2,R1,R2,rfl,⟨I.sx,I.s1,I.s2,I.Px,I.JW,I.i1,I.i2,by have:=I.vx;(try dsimp only);omega,by have:=I.v1;(try dsimp only);omega,by have:=I.v2;(try dsimp only);omega,fun j hj=>by have:=I.Q8 j hj;(try dsimp only);omega,fun j hj=>by have:=I.OD j hj;(try dsimp only);omega⟩,bD,bM,Kh⟩
end Go.Proofs.YtihgaadadaekmaaGreatDoor.V

namespace Go.Proofs.YtihgaadadaekmaaGreatDoor.V
structure Bq (n:Nat) (c f:Nat->Nat->Int) (x:Nat) (par:Nat->Int) (Q:List Nat) (i:Nat):Prop where
 nodup:Q.Nodup
 lt:∀v∈Q,v<n
 root:par x=(x:Int)
 mem:x∈Q
 iff:∀v,v<n->(0<=par v↔v∈Q)
 up:∀v∈Q,v≠x->∃u,u∈Q/\par v=(u:Int)/\Q.idxOf u<Q.idxOf v/\f u v<c u v
 done:∀j (_:j<i) (hl:j<Q.length) (v:Nat),v<n->f Q[j] v<c Q[j] v->v∈Q
 ile:i<=Q.length
section
variable {n:Nat} {c f:Nat->Nat->Int} {x:Nat} {par:Nat->Int} {Q:List Nat} {i:Nat}
theorem Bq.len (h:Bq n c f x par Q i):Q.length<=n:=m4 n Q h.nodup h.lt
theorem Bq.start (hx:x<n):Bq n c f x (fun v=>if v=x then(x:Int)else -1) [x] 0:=by
 refine⟨by simp,fun v hv=>by simp at hv;omega,by simp,by simp,fun v hv=>?_,fun v hv gF=>absurd (by simpa using hv) gF,fun j hj=>ab,by simp⟩
 by_cases h:v=x
 ·simp[h]
 ·simp[h]
theorem Bq.visit (h:Bq n c f x par Q i) (hi:i<Q.length) {v:Nat} (hv:v<n) (hp:par v<0) (hr:f Q[i] v<c Q[i] v):Bq n c f x (fun w=>if w=v then(Q[i]:Int)else par w) (Q++[v]) i:=by
 have QW:v∉Q:=fun hm=>by have:=(h.iff v hv).2 hm;omega
 have Q0:x≠v:=fun e=>QW (e▸h.mem)
 have wv:∀u∈Q,(Q++[v]).idxOf u=Q.idxOf u:=fun u hu=>by rw[List.idxOf_append,if_pos hu]
 have sR:(Q++[v]).idxOf v=Q.length:=by rw[List.idxOf_append,if_neg QW];simp
 refine⟨?_,fun w hw=>?_,by simp only[if_neg Q0];exact h.root,by simp[h.mem],fun w hw=>?_,fun w hw gF=>?_,fun j hj hl w hw FZ=>?_,by simp;omega⟩
 ·refine List.nodup_append.2 ⟨h.nodup,by simp,fun a ha b hb=>?_⟩
  rw[List.mem_singleton.1 hb]
  rintro rfl;exact QW ha
 ·rcases List.mem_append.1 hw with hw|hw
  ·exact h.lt w hw
  ·rw[List.mem_singleton.1 hw];exact hv
 ·by_cases Cl:w=v
  ·subst Cl;simp
  ·rw[if_neg Cl,h.iff w hw];simp[Cl]
 ·by_cases Cl:w=v
  ·subst Cl
   refine⟨Q[i],by simp,by simp,?_,hr⟩
   rw[wv _ (List.getElem_mem hi),sR]
   exact List.idxOf_lt_length_of_mem (List.getElem_mem hi)
  ·have hwQ:w∈Q:=by
    rcases List.mem_append.1 hw with hw|hw
    ·exact hw
    ·exact absurd (List.mem_singleton.1 hw) Cl
   obtain⟨u,h1,h2,h3,h4⟩:=h.up w hwQ gF
   exact⟨u,by simp[h1],by rw[if_neg Cl];exact h2,by rw[wv u h1,wv w hwQ];exact h3,h4⟩
 ·have gn:j<Q.length:=by have:=h.ile;omega
  rw[List.getElem_append_left gn]at FZ
  exact List.mem_append_left _ (h.done j hj gn w hw FZ)
theorem Bq.next (h:Bq n c f x par Q i) (hi:i<Q.length) (cN:∀v,v<n->f Q[i] v<c Q[i] v->0<=par v):Bq n c f x par Q (i+1):=by
 refine⟨h.nodup,h.lt,h.root,h.mem,h.iff,h.up,fun j hj hl v hv hr=>?_,ab⟩
 by_cases lg:j=i
 ·subst lg;exact(h.iff v hv).1 (cN v hv hr)
 ·exact h.done j ab hl v hv hr
theorem Bq.cut (h:Bq n c f x par Q Q.length) {y:Nat} (hy:y<n) (hp:par y<0):∃S:Nat->Bool,S x=true/\S y=false/\∀u v,u<n->v<n->S u=true->S v=false->¬f u v<c u v:=by
 refine⟨fun v=>decide (v∈Q),by simp[h.mem],?_,fun u v hu hv h1 h2 hr=>?_⟩
 ·have:y∉Q:=fun hm=>by have:=(h.iff y hy).2 hm;omega
  simp[this]
 ·simp only[decide_eq_true_eq,decide_eq_false_iff_not]at h1 h2
  obtain⟨j,hj,rfl⟩:=List.getElem_of_mem h1
  exact h2 (h.done j hj hj v hv hr)
def se (c f:Nat->Nat->Int) (Q:List Nat) (y k:Nat) (out:List Nat):Prop:=∃rest,out.reverse=k::rest/\(k::rest).getLast (by simp)=y/\oY f c (k::rest)/\(k::rest).Pairwise (fun a b=>Q.idxOf a<Q.idxOf b)/\∀v∈k::rest,v∈Q
theorem se.start {y:Nat} (hy:y∈Q):se c f Q y y [y]:=⟨[],rfl,rfl,trivial,by simp,by simpa using hy⟩
theorem se.step {y k u:Nat} {out:List Nat} (h:se c f Q y k out) (hu:u∈Q) (hi:Q.idxOf u<Q.idxOf k) (hr:f u k<c u k):se c f Q y u (out++[u]):=by
 obtain⟨rest,h1,h2,h3,h4,h5⟩:=h
 refine⟨k::rest,by rw[List.reverse_append,h1];rfl,by rw[List.getLast_cons (by simp)];exact h2,⟨hr,h3⟩,?_,?_⟩
 ·refine List.pairwise_cons.2 ⟨fun b hb=>?_,h4⟩
  rcases List.mem_cons.1 hb with rfl|hb
  ·exact hi
  ·have:=(List.pairwise_cons.1 h4).1 b hb;omega
 ·intro v hv
  rcases List.mem_cons.1 hv with rfl|hv
  ·exact hu
  ·exact h5 v hv
theorem se.len {y k:Nat} {out:List Nat} (h:se c f Q y k out) (hq:∀v∈Q,v<n):out.length<=n:=by
 obtain⟨rest,h1,_,_,h4,h5⟩:=h
 rw[<-List.length_reverse,h1]
 refine m4 n _ (h4.imp fun dD he=>?_) fun v hv=>hq v (h5 v hv)
 subst he;omega
structure MV (n:Nat) (c f:Nat->Nat->Int) (x y:Nat) (p:List Nat):Prop where
 way:∃r,p=x::r/\(x::r).getLast (by simp)=y
 nodup:p.Nodup
 room:oY f c p
 lt:∀v∈p,v<n
theorem se.way {y:Nat} {out:List Nat} (h:se c f Q y x out) (hq:∀v∈Q,v<n):MV n c f x y out.reverse:=by
 obtain⟨rest,h1,h2,h3,h4,h5⟩:=h
 rw[h1]
 exact⟨⟨rest,rfl,h2⟩,h4.imp fun dD he=>by subst he;omega,h3,fun v hv=>hq v (h5 v hv)⟩
end
end Go.Proofs.YtihgaadadaekmaaGreatDoor.V

namespace Go.Proofs.YtihgaadadaekmaaGreatDoor.V
open Go.RowKit
attribute [local irreducible] dO wpOps gO Call
attribute [local go_sem] aH fF eF fR fQ cu upd cm K.av cJ AV.cells AV.cell rowOf rowsOf part ld rowAt bI bU dG ei il bJ da eB fW eZ dq ep cY cX dU dV bP bd cQ bL cT cR ek er eo cP bS cZ ej bK aL cV cw ik br cI bQ aZ dz bl dI AV.undef bB bH dY eh dR ea cE eA eE cr ev eu cU cW List.getD_cons_zero List.getD_cons_succ List.getD_nil List.all_cons List.all_nil Bool.and_true Bool.true_and Bool.and_self Bool.not_true Bool.not_false Option.map_some Option.map_none Option.bind_some Option.bind_none List.length_cons List.length_nil List.take_succ_cons List.take_zero List.take_nil List.drop_succ_cons List.drop_zero List.drop_nil List.head?_cons List.map_cons List.map_nil List.getElem?_cons_zero List.getElem?_cons_succ List.cons_append List.nil_append List.append_nil List.length_map List.set_cons_zero List.set_cons_succ Nat.reduceMul eq_self Int.toNat_natCast Int.natCast_nonneg and_self true_and and_true decide_true decide_false Bool.false_eq_true Nat.zero_add Nat.add_zero List.contains_cons List.contains_nil Bool.or_false Bool.false_or beq_self_eq_true Nat.reduceBEq ne_eq not_true_eq_false not_false_eq_true Id.mk.injEq false_and and_false Nat.reduceLT Int.reduceLE Int.reduceLT Int.reduceToNat Int.reduceNeg Int.reduceAdd Nat.le_refl List.length_append beq_true beq_false Bool.not_eq_eq_eq_not or_false false_or dC ad aj aE bz cj aT bj aX bf cK bG
def kG (l:List Nat) (i x:Nat):Nat:=if x<i∨l.length-i<=x then l.getD (l.length-1-x) 0 else l.getD x 0
theorem vH (l:List Nat):l.map eN=dj (fun x=>l.getD x 0) l.length:=by
 refine List.ext_getElem? fun i=>?_
 by_cases h:i<l.length
 ·rw[eM h,List.getElem?_map,List.getElem?_eq_getElem h];simp[List.getD_eq_getElem?_getD,h]
 ·rw[List.getElem?_eq_none (by simp;omega),List.getElem?_eq_none (by rw[ft];omega)]
theorem Ef (l:List Nat):dj (kG l 0) l.length=l.map eN:=by
 rw[vH]
 exact fV fun x hx=>by unfold kG;rw[if_neg ab]
theorem GJ (l:List Nat) {i:Nat} (h:l.length<=2*i+1) (hi:i<=l.length):dj (kG l i) l.length=l.reverse.map eN:=by
 rw[vH l.reverse,List.length_reverse]
 refine fV fun x hx=>?_
 have hr:l.reverse.getD x 0=l.getD (l.length-1-x) 0:=by
  rw[List.getD_eq_getElem?_getD,List.getElem?_reverse hx,List.getD_eq_getElem?_getD]
 rw[hr]
 unfold kG
 by_cases hc:x<i∨l.length-i<=x
 ·rw[if_pos hc]
 ·rw[if_neg hc]
  have:x=l.length-1-x:=ab
  rw[<-this]
theorem Eg (l:List Nat) (hp:0<l.length) (hl:l.length<=1048576) (o:Id) (σ:ax) (ho:σ.get o=some ⟨true,1,l.map eN⟩) (qY:o.bZ<σ.next):
  Call Tryz.prog 197 [.own o 0 l.length] σ fun r σ'=>σ'.get o=some ⟨true,1,l.reverse.map eN⟩/\σ.next<=σ'.next/\∀i:Id,i.bZ<σ.next->(i=o)=False->σ'.get i=σ.get i:=by
 refine fm dP rfl fun sS=>?_
 clear sS
 rw[<-Ef]at ho
 have EN:IntKind.i64.wrap ((l.length:Int)-1)=((l.length-1:Nat):Int):=by rw[aQ ab];omega
 (try((repeat(revert hN;revert N;apply Pn.out));refine wk @EN ?_;(repeat(refine Pn.mk ?_;intro N hN))))
 refine aJ (fun m env st=>∃i:Nat,m=l.length-i/\2*i<=l.length+1/\i<=l.length/\env 2=.int .i64 (i:Int)/\env 3=.int .i64 ((l.length:Int)-1-i)/\st.get o=some ⟨true,1,dj (kG l i) l.length⟩/\σ.next<=st.next/\∀x:Id,x.bZ<σ.next->(x=o)=False->st.get x=σ.get x) l.length ⟨0,rfl,ab,ab,by(simp only[go_sem, ↓reduceIte,Nat.reduceEqDiff,Nat.reduceAdd,Nat.reduceSub,Nat.reduceLeDiff,reduceCtorEq])<;>rfl,by(simp only[go_sem, ↓reduceIte,Nat.reduceEqDiff,Nat.reduceAdd,Nat.reduceSub,Nat.reduceLeDiff,reduceCtorEq,EN]);congr 1;omega,ho,bD,fun x _ _=>rfl⟩ ?_
 rintro m env_b st_b ⟨i,rfl,yE,oe,b2,b3,bg,bn,bfr⟩ bkp
 have b0:=bkp 0 (by kernel_rfl)
 simp only[go_sem, ↓reduceIte,Nat.reduceEqDiff,Nat.reduceAdd,Nat.reduceSub,Nat.reduceLeDiff,reduceCtorEq]at b0
 clear bkp
 have tl:=ft (kG l i) l.length
 have nV:=eK (i:=o) (n:=st_b.next) ab
 by_cases hi:(i:Int)<(l.length:Int)-1-i
 ·have fb:i<l.length:=ab
  obtain⟨j,hj⟩:∃j,j=l.length-1-i:=⟨_,rfl⟩
  have im:j<l.length:=ab
  have Ig:(l.length:Int)-1-i=(j:Int):=ab
  rw[Ig]at b3 hi
  have g1:=eM (f:=kG l i) fb
  have g2:=eM (f:=kG l i) im
  have e1:kG l i i=l.getD i 0:=by unfold kG;rw[if_neg ab]
  have e2:kG l i j=l.getD j 0:=by unfold kG;rw[if_neg ab]
  have JO:(dj (kG l i) l.length).set i (eN (l.getD j 0))=dj (fun x=>if x=i then l.getD j 0 else kG l i x) l.length:=nL fb (if_pos rfl) fun x _ hx=>if_neg hx
  have F0:(dj (fun x=>if x=i then l.getD j 0 else kG l i x) l.length).set j (eN (l.getD i 0))=dj (kG l (i+1)) l.length:=nL im (by unfold kG;rw[if_pos ab];congr 1;omega) fun x hx MG=>by
   by_cases zD:x=i
   ·rw[if_pos zD];unfold kG;rw[if_pos ab];congr 1;omega
   ·rw[if_neg zD];unfold kG
    by_cases hc:x<i∨l.length-i<=x
    ·rw[if_pos hc,if_pos ab]
    ·rw[if_neg hc,if_neg ab]
  have Py:=ft (fun x=>if x=i then l.getD j 0 else kG l i x) l.length
  have g3:=eM (f:=fun x=>if x=i then l.getD j 0 else kG l i x) im
  rw[e1]at g1
  rw[e2]at g2
  rw[if_neg ab,e2]at g3
  rw[eN]at g1 g2 g3 JO F0
  have hii:(i:Int)<(l.length:Int):=ab
  have lg:(j:Int)<(l.length:Int):=ab
  have mm:IntKind.i64.wrap ((i:Int)+1)=((i+1:Nat):Int):=aA ab
  have AL:IntKind.i64.wrap ((j:Int)-1)=(l.length:Int)-1-((i+1:Nat):Int):=by rw[aQ ab];omega
  (try((repeat(revert hN;revert N;apply Pn.out));refine wk (tw @b0 (tw @b2 (tw @b3 (tw @bg (tw @hi (tw @hii (tw @lg (tw @g1 (tw @g2 (tw @g3 (tw @JO (tw @F0 (tw @tl (tw @Py (tw @nV (tw @mm @AL)))))))))))))))) ?_;(repeat(refine Pn.mk ?_;intro N hN))))
  refine⟨_,?_,i+1,rfl,ab,ab,sd @mm,sd @AL,sd @F0,bD,fun x hx EO=>?_⟩
  ·omega
  ·have:=bfr x hx EO
   simp only[go_sem, ↓reduceIte,Nat.reduceEqDiff,Nat.reduceAdd,Nat.reduceSub,Nat.reduceLeDiff,reduceCtorEq,EO,this]
 ·rw[GJ l ab oe]at bg
  (try((repeat(revert hN;revert N;apply Pn.out));refine wk (tw @b0 (tw @b2 (tw @b3 (tw @bg @hi)))) ?_;(repeat(refine Pn.mk ?_;intro N hN))))
  exact gy (.inr rfl) (vs:=[]) (by simp only[eR,go_sem, ↓reduceIte,Nat.reduceEqDiff,Nat.reduceAdd,Nat.reduceSub,Nat.reduceLeDiff,reduceCtorEq]) ⟨bg,bD,bfr⟩
theorem OE (cnt:Nat) (uj:1<=cnt) (hn:cnt<=1048576) (c f:Nat->Nat->Int) (x y:Nat) (hx:x<cnt) (hy:y<cnt):
  lQ Tryz.prog 191 [.cH (kn cnt c f),.int .i64 x,.int .i64 y] fun r=>(r=.bE/\∃S:Nat->Bool,S x=true/\S y=false/\∀u v,u<cnt->v<cnt->S u=true->S v=false->¬f u v<c u v)∨∃p:List Nat,r=.sl (p.map eN)/\MV cnt c f x y p:=by
 refine lQ.body dP rfl fun hl n0=>?_
 clear hl
 have lM:=tF c cnt
 have iU:(0:Int)<=(cnt:Int):=ab
 have zD:(x:Int)<(cnt:Int):=ab
 have Pt:(y:Int)<(cnt:Int):=ab
 (try((repeat(revert hN;revert N;apply Pn.out));refine wk (tw @kn.eq_1 @lM) ?_;(repeat(refine Pn.mk ?_;intro N hN))))
 refine .inr (aO _ _ _ _ _ (fun r σ1 hq=>?_) (GH cnt uj hn (-1) ⟨191002000,n0+1+1⟩ _ (sd @Nat.zero_add) bD))
 obtain⟨o,rfl,ho,Iq,AH,lZ⟩:=hq
 (try dsimp only at ho Iq AH lZ)
 refine hN _ _ ?_
 clear hN N
 have nV:=eK AH
 have od:(cnt:Int)<=1048576:=ab
 have NB:pc<pc+cnt:=ab
 have fY:List.replicate cnt [AV.int .i64 (-1)]=dv (fun _=>-1) cnt:=by
  refine List.ext_getElem? fun i=>?_
  by_cases h:i<cnt
  ·rw[dt h,List.getElem?_replicate,if_pos h];rfl
  ·rw[List.getElem?_eq_none (by simp;omega),List.getElem?_eq_none (by rw[di];omega)]
 rw[fY]at ho
 have yK:(dv (fun _=>-1) cnt).set x (au (x:Int))=dv (fun v=>if v=x then(x:Int)else -1) cnt:=j4 hx (if_pos rfl) fun v _ hv=>if_neg hv
 have KU:=dt (f:=fun _=>-1) hx
 have tl0:=di (fun _=>-1) cnt
 rw[au]at yK KU
 (try((repeat(revert hN;revert N;apply Pn.out));refine wk (tw @kn.eq_1 (tw @lM (tw @iU (tw @od @nV)))) ?_;(repeat(refine Pn.mk ?_;intro N hN))))
 refine G9 ?_
 simp only[go_sem, ↓reduceIte,Nat.reduceEqDiff,Nat.reduceAdd,Nat.reduceSub,Nat.reduceLeDiff,reduceCtorEq,NB]
 refine hN _ _ ?_
 clear hN N
 (try((repeat(revert hN;revert N;apply Pn.out));refine wk (tw @ho (tw @nV (tw @yK (tw @KU (tw @tl0 @zD))))) ?_;(repeat(refine Pn.mk ?_;intro N hN))))
 obtain⟨C,hC⟩:∃C:Id,C=⟨191003001,σ1.next+1⟩:=⟨_,rfl⟩
 have NV:=dp (a:=o) (b:=C) (by rw[hC];(try dsimp only);omega)
 have hCv:C.bZ=σ1.next+1:=by rw[hC]
 refine aJ (fun m env st=>∃(par:Nat->Int) (Q:List Nat) (i:Nat),m=cnt-i/\Bq cnt c f x par Q i/\st.get o=some ⟨true,1,dv par cnt⟩/\st.get C=some ⟨true,pc+cnt,(Q.drop i).map eN⟩/\σ1.next+1<st.next) cnt ⟨_,[x],0,rfl,Bq.start hx,sd @nV,by rw[hC];simp only[go_sem, ↓reduceIte,Nat.reduceEqDiff,Nat.reduceAdd,Nat.reduceSub,Nat.reduceLeDiff,reduceCtorEq,nV];rfl,bD⟩ ?_
 rintro m env_b st_b ⟨par,Q,i,rfl,hB,bgo,bgC,bn⟩ bkp
 have b0:=bkp 0 (by kernel_rfl)
 have b1:=bkp 1 (by kernel_rfl)
 have b2:=bkp 2 (by kernel_rfl)
 have b7:=bkp 7 (by kernel_rfl)
 have b8:=bkp 8 (by kernel_rfl)
 have b9:=bkp 9 (by kernel_rfl)
 rw[<-hC]at b9
 simp only[go_sem, ↓reduceIte,Nat.reduceEqDiff,Nat.reduceAdd,Nat.reduceSub,Nat.reduceLeDiff,reduceCtorEq]at b0 b1 b2 b7 b8 b9
 clear bkp
 have hQn:=hB.len
 have oe:=hB.ile
 have O7:((Q.drop i).map eN).length=Q.length-i:=by simp
 by_cases hi:i<Q.length
 ·have kC:(0:Int)<((Q.length-i:Nat):Int):=ab
  have pW:Q.drop i=Q[i]::Q.drop (i+1):=List.drop_eq_getElem_cons hi
  obtain⟨u,hu⟩:∃u,u=Q[i]:=⟨_,rfl⟩
  have hun:u<cnt:=by rw[hu];exact hB.lt _ (List.getElem_mem hi)
  rw[<-hu]at pW
  (try((repeat(revert hN;revert N;apply Pn.out));refine wk (tw @b0 (tw @b1 (tw @b2 (tw @b7 (tw @b8 (tw @b9 (tw @bgC (tw @O7 @kC)))))))) ?_;(repeat(refine Pn.mk ?_;intro N hN))))
  refine G9 ?_
  rw[pW,List.map_cons,show eN u=[.int .i64 (u:Int)]from rfl]at bgC
  simp only[go_sem, ↓reduceIte,Nat.reduceEqDiff,Nat.reduceAdd,Nat.reduceSub,Nat.reduceLeDiff,reduceCtorEq,b9,bgC]
  refine hN _ _ ?_
  clear hN N
  (try((repeat(revert hN;revert N;apply Pn.out));refine wk @b7 ?_;(repeat(refine Pn.mk ?_;intro N hN))))
  refine aJ (fun m env st=>∃(v:Nat) (par':Nat->Int) (Q':List Nat),m=cnt-v/\v<=cnt/\env 36=.int .i64 (v:Int)/\Bq cnt c f x par' Q' i/\(∃h:i<Q'.length,Q'[i]=u)/\st.get o=some ⟨true,1,dv par' cnt⟩/\st.get C=some ⟨true,pc+cnt,(Q'.drop (i+1)).map eN⟩/\σ1.next+1<st.next/\∀w,w<v->f u w<c u w->0<=par' w) cnt ⟨0,par,Q,rfl,Nat.zero_le _,by(simp only[go_sem, ↓reduceIte,Nat.reduceEqDiff,Nat.reduceAdd,Nat.reduceSub,Nat.reduceLeDiff,reduceCtorEq])<;>rfl,hB,⟨hi,hu.symm⟩,sd (tw @NV @bgo),sd @NV,bD,fun w hw=>absurd hw (Nat.not_lt_zero w)⟩ ?_
  rintro m env_c st_c ⟨v,par',Q',rfl,hvn,c36,dk,⟨oW,Ck⟩,uN,cgC,cn,cN⟩ ckp
  have c0:=ckp 0 (by kernel_rfl)
  have c1:=ckp 1 (by kernel_rfl)
  have c2:=ckp 2 (by kernel_rfl)
  have c7:=ckp 7 (by kernel_rfl)
  have c8:=ckp 8 (by kernel_rfl)
  have c9:=ckp 9 (by kernel_rfl)
  have iO:=ckp 10 (by kernel_rfl)
  have Kl:=ckp 35 (by kernel_rfl)
  simp only[go_sem, ↓reduceIte,Nat.reduceEqDiff,Nat.reduceAdd,Nat.reduceSub,Nat.reduceLeDiff,reduceCtorEq,b0,b1,b2,b7,b8,b9]at c0 c1 c2 c7 c8 c9 iO Kl
  clear ckp
  have tl:=di par' cnt
  by_cases hv:(v:Int)<(cnt:Int)
  ·have AK:v<cnt:=ab
   have KW:=dt (f:=par') AK
   have lZ:=KB cnt c f u v hun AK
   have hw:IntKind.i64.wrap ((v:Int)+1)=((v+1:Nat):Int):=aA ab
   rw[au]at KW
   rw[kn]at lZ
   by_cases jo:par' v<0
   ·by_cases hr:f u v<c u v
    ·rw[decide_eq_true hr]at lZ
     have dQ:(dv par' cnt).set v (au (u:Int))=dv (fun w=>if w=v then(u:Int)else par' w) cnt:=j4 AK (if_pos rfl) fun w _ hw=>if_neg hw
     rw[au]at dQ
     have nS:=dk.visit oW AK jo (by rw[Ck];exact hr)
     rw[Ck]at nS
     have hQ2:=nS.len
     rw[List.length_append]at hQ2
     simp only[List.length_singleton]at hQ2
     have fc:pc+(Q'.drop (i+1)).length<pc+cnt:=by rw[List.length_drop];omega
     (repeat(first|((repeat(revert hN;revert N;apply Pn.out));refine wk (tw @kn.eq_1 (tw @c0 (tw @c7 (tw @c8 (tw @c9 (tw @iO (tw @c36 (tw @Kl (tw @hv (tw @uN (tw @KW (tw @tl (tw @jo @dQ))))))))))))) ?_;(repeat(refine Pn.mk ?_;intro N hN)))|((try apply Or.inl);refine⟨_,ai.x (lZ) (sd (tw @kn.eq_1 (tw @c0 (tw @c7 (tw @c8 (tw @c9 (tw @iO (tw @c36 (tw @Kl (tw @hv (tw @uN (tw @KW (tw @tl (tw @jo @dQ)))))))))))))),?_⟩;refine hN _ _ ?_;clear hN N)))
     refine G9 ?_
     have hq:(Q'.drop (i+1)).map eN++[[.int .i64 (v:Int)]]=((Q'++[v]).drop (i+1)).map eN:=by rw[List.drop_append_of_le_length ab,List.map_append];rfl
     simp only[go_sem, ↓reduceIte,Nat.reduceEqDiff,Nat.reduceAdd,Nat.reduceSub,Nat.reduceLeDiff,reduceCtorEq,c9,cgC,fc,NV,hq]
     refine hN _ _ ?_
     clear hN N
     (try((repeat(revert hN;revert N;apply Pn.out));refine wk (tw @c36 @hw) ?_;(repeat(refine Pn.mk ?_;intro N hN))))
     refine⟨_,?_,v+1,_,_,rfl,AK,sd @hw,nS,⟨by rw[List.length_append];omega,by rw[List.getElem_append_left oW];exact Ck⟩,sd @NV,sd @NV,bD,fun w hw FZ=>?_⟩
     ·omega
     ·by_cases Cl:w=v
      ·rw[if_pos Cl];omega
      ·rw[if_neg Cl];exact cN w ab FZ
    ·rw[decide_eq_false hr]at lZ
     (repeat(first|((repeat(revert hN;revert N;apply Pn.out));refine wk (tw @kn.eq_1 (tw @c0 (tw @c7 (tw @c8 (tw @c9 (tw @iO (tw @c36 (tw @Kl (tw @hv (tw @uN (tw @KW (tw @tl (tw @jo @hw))))))))))))) ?_;(repeat(refine Pn.mk ?_;intro N hN)))|((try apply Or.inl);refine⟨_,ai.x (lZ) (sd (tw @kn.eq_1 (tw @c0 (tw @c7 (tw @c8 (tw @c9 (tw @iO (tw @c36 (tw @Kl (tw @hv (tw @uN (tw @KW (tw @tl (tw @jo @hw)))))))))))))),?_⟩;refine hN _ _ ?_;clear hN N)))
     refine⟨_,?_,v+1,par',Q',rfl,AK,sd @hw,dk,⟨oW,Ck⟩,sd @uN,sd @cgC,bD,fun w hw FZ=>?_⟩
     ·omega
     ·by_cases Cl:w=v
      ·subst Cl;exact absurd FZ hr
      ·exact cN w ab FZ
   ·(try((repeat(revert hN;revert N;apply Pn.out));refine wk (tw @kn.eq_1 (tw @c0 (tw @c7 (tw @c8 (tw @c9 (tw @iO (tw @c36 (tw @Kl (tw @hv (tw @uN (tw @KW (tw @tl (tw @jo @hw))))))))))))) ?_;(repeat(refine Pn.mk ?_;intro N hN))))
    refine⟨_,?_,v+1,par',Q',rfl,AK,sd @hw,dk,⟨oW,Ck⟩,sd @uN,sd @cgC,bD,fun w hw FZ=>?_⟩
    ·omega
    ·by_cases Cl:w=v
     ·subst Cl;omega
     ·exact cN w ab FZ
  ·have hvc:v=cnt:=ab
   subst hvc
   (try((repeat(revert hN;revert N;apply Pn.out));refine wk (tw @c36 (tw @Kl @hv)) ?_;(repeat(refine Pn.mk ?_;intro N hN))))
   refine⟨_,?_,par',Q',i+1,rfl,dk.next oW fun w hw hr=>cN w hw (by rw[<-Ck];exact hr),sd @uN,sd @cgC,bD⟩
   omega
 ·have hiQ:i=Q.length:=ab
  subst hiQ
  have kC:¬(0:Int)<((Q.length-Q.length:Nat):Int):=ab
  have Qy:=dt (f:=par) hy
  have tl:=di par cnt
  rw[au]at Qy
  by_cases jo:par y<0
  ·(try((repeat(revert hN;revert N;apply Pn.out));refine wk (tw @b0 (tw @b1 (tw @b2 (tw @b7 (tw @b8 (tw @b9 (tw @bgC (tw @O7 (tw @kC (tw @bgo (tw @Qy (tw @tl (tw @Pt @jo))))))))))))) ?_;(repeat(refine Pn.mk ?_;intro N hN))))
   exact⟨[.bE],sd @Nat.zero_add,.bE,iA _ _,.inl ⟨rfl,hB.cut hy jo⟩⟩
  ·(try((repeat(revert hN;revert N;apply Pn.out));refine wk (tw @b0 (tw @b1 (tw @b2 (tw @b7 (tw @b8 (tw @b9 (tw @bgC (tw @O7 (tw @kC (tw @bgo (tw @Qy (tw @tl (tw @Pt @jo))))))))))))) ?_;(repeat(refine Pn.mk ?_;intro N hN))))
   refine aJ (fun m env st=>∃(k:Nat) (out:List Nat) (p:Id),m=Q.idxOf k/\env 13=.int .i64 (k:Int)/\env 12=.own p 0 out.length/\st.get p=some ⟨true,1,out.map eN⟩/\p.bZ<st.next/\st_b.next<=p.bZ/\k∈Q/\se c f Q y k out/\st.get o=some ⟨true,1,dv par cnt⟩) (Q.idxOf y) ⟨y,[y],⟨191017001,st_b.next+1+1⟩,rfl,by(simp only[go_sem, ↓reduceIte,Nat.reduceEqDiff,Nat.reduceAdd,Nat.reduceSub,Nat.reduceLeDiff,reduceCtorEq]),by(simp only[go_sem, ↓reduceIte,Nat.reduceEqDiff,Nat.reduceAdd,Nat.reduceSub,Nat.reduceLeDiff,reduceCtorEq])<;>rfl,by(simp only[go_sem, ↓reduceIte,Nat.reduceEqDiff,Nat.reduceAdd,Nat.reduceSub,Nat.reduceLeDiff,reduceCtorEq])<;>rfl,bD,bD,(hB.iff y hy).1 ab,se.start ((hB.iff y hy).1 ab),by(have ME:=eK (i:=o) (n:=st_b.next) ab);simp only[go_sem, ↓reduceIte,Nat.reduceEqDiff,Nat.reduceAdd,Nat.reduceSub,Nat.reduceLeDiff,reduceCtorEq,ME,bgo]⟩ ?_
   rintro m env_d st_d ⟨k,out,p,rfl,d13,d12,dgp,dpn,dpo,hkQ,rY,dgo⟩ dkp
   have d1:=dkp 1 (by kernel_rfl)
   have d8:=dkp 8 (by kernel_rfl)
   simp only[go_sem, ↓reduceIte,Nat.reduceEqDiff,Nat.reduceAdd,Nat.reduceSub,Nat.reduceLeDiff,reduceCtorEq,b1,b8]at d1 d8
   clear dkp
   have xt:=eK dpn
   have yM:=eK (i:=o) (n:=st_d.next) ab
   have dB:=dp (a:=o) (b:=p) ab
   have hol:=rY.len hB.lt
   have eO:=hB.lt k hkQ
   have me:(out.map eN).length=out.length:=by simp
   by_cases Pe:k=x
   ·have hd:decide ((k:Int)=(x:Int))=true:=decide_eq_true (by rw[Pe])
    have QP:0<out.length:=by
     obtain⟨rest,h1,_⟩:=rY
     rw[<-List.length_reverse,h1];simp
    (try((repeat(revert hN;revert N;apply Pn.out));refine wk (tw @d1 (tw @d8 (tw @d12 (tw @d13 (tw @hd @Bool.not_true))))) ?_;(repeat(refine Pn.mk ?_;intro N hN))))
    refine .inr (aO _ _ _ _ _ (fun r σ2 hq=>?_) (Eg out QP ab p _ dgp bD))
    obtain⟨NI,lz,FN⟩:=hq
    refine hN _ _ ?_
    clear hN N
    (try((repeat(revert hN;revert N;apply Pn.out));refine wk @d12 ?_;(repeat(refine Pn.mk ?_;intro N hN))))
    refine⟨[.own p 0 out.length],sd @d12,.sl (out.reverse.map eN),?_,.inr ⟨out.reverse,rfl,by subst Pe;exact rY.way hB.lt⟩⟩
    exact eX (sz:=1) NI (by simp) fun a=>KC _ 4 a
   ·have hd:decide ((k:Int)=(x:Int))=false:=decide_eq_false fun h=>Pe ab
    obtain⟨u,huQ,hpu,wv,hr⟩:=hB.up k hkQ Pe
    have eC:=dt (f:=par) eO
    rw[au,hpu]at eC
    have hki:(k:Int)<(cnt:Int):=ab
    have e1:out.length+1<=16777216:=ab
    (try((repeat(revert hN;revert N;apply Pn.out));refine wk (tw @d1 (tw @d8 (tw @d12 (tw @d13 (tw @hd (tw @Bool.not_false (tw @dgo (tw @dgp (tw @eC (tw @tl (tw @hki (tw @xt (tw @yM (tw @dB (tw @me @e1))))))))))))))) ?_;(repeat(refine Pn.mk ?_;intro N hN))))
    refine⟨_,wv,u,out++[u],⟨191021003,st_d.next+1+1⟩,rfl,sd @Nat.zero_add,by rw[List.length_append];simp only[go_sem, ↓reduceIte,Nat.reduceEqDiff,Nat.reduceAdd,Nat.reduceSub,Nat.reduceLeDiff,reduceCtorEq,List.length_cons,List.length_nil],by rw[List.map_append,List.map_cons,List.map_nil];simp only[go_sem, ↓reduceIte,Nat.reduceEqDiff,Nat.reduceAdd,Nat.reduceSub,Nat.reduceLeDiff,reduceCtorEq,eN],bD,bD,huQ,rY.step huQ wv hr,sd (tw @yM (tw @dB @dgo))⟩
theorem xL (b:Nat):∀(l:List Nat) (a:Nat) (f:Nat->Nat->Int),kQ f ((a::l)++[b])=jA (kQ f (a::l)) ((a::l).getLast (by simp)) b
 |[],a,f=>rfl
 |c::l,a,f=>by
  rw[List.cons_append,List.cons_append,kQ,<-List.cons_append,xL b l c (jA f a c),kQ,List.getLast_cons_cons]
theorem CV {p:List Nat} {f:Nat->Nat->Int} {i:Nat} (h1:1<=i) (hi:i<p.length):kQ f (p.take (i+1))=jA (kQ f (p.take i)) (p[i-1]'ab) p[i]:=by
 rw[List.take_succ_eq_append_getElem hi]
 have gF:p.take i≠[]:=by
  intro h
  have:(p.take i).length=0:=by rw[h];rfl
  rw[List.length_take]at this;omega
 obtain⟨a,l,O1⟩:∃a l,p.take i=a::l:=by
  cases h:p.take i with
  |nil=>exact absurd h gF
  |cons a l=>exact⟨a,l,rfl⟩
 have sR:(p.take i).getLast gF=p[i-1]'ab:=by
  rw[List.getLast_eq_getElem,List.getElem_take]
  congr 1
  rw[List.length_take];omega
 simp only[O1]at sR ⊢
 rw[xL,sR]
theorem Ec (f:Nat->Nat->Int) (a b u v:Nat):jA f a b u v<=f u v+1/\f u v-1<=jA f a b u v:=by
 unfold jA bump
 split<;>split<;>constructor<;>omega
theorem kR:∀(p:List Nat) (f:Nat->Nat->Int) (u v:Nat),kQ f p u v<=f u v+p.length/\f u v-p.length<=kQ f p u v
 |[],f,u,v=>by simp[kQ]
 |[_],f,u,v=>by simp[kQ];omega
 |a::b::r,f,u,v=>by
  rw[kQ]
  have h1:=kR (b::r) (jA f a b) u v
  have h2:=Ec f a b u v
  simp only[List.length_cons]at h1 ⊢
  omega
theorem mz.push {g g':Rows} {X o1 o2:Id} {R1 R2:Nat->Id} {n nb:Nat} {c f:Nat->Nat->Int} (I:CQ X o1 o2 R1 R2 n nb) (h:mz g X o1 o2 R1 R2 n c f) {a b:Nat} (ha:a<n) (hb:b<n) (qV:a≠b) (hA:g' (R2 a)=some ⟨true,1,dv (bump f a b 1 a) n⟩) (hB:g' (R2 b)=some ⟨true,1,dv (bump (bump f a b 1) b a (-1) b) n⟩) (hf:∀i:Id,i.bZ<nb->(i=R2 a)=False->(i=R2 b)=False->g' i=g i):mz g' X o1 o2 R1 R2 n c (jA f a b):=by
 have ne:∀{i:Id} {s:Nat},i.site=s->(s==174005006)=false->∀a,a<n->(i=R2 a)=False:=fun {i s} hi hs a ha=>by
  simp only[eq_iff_iff,iff_false]
  rintro rfl
  rw[I.JW a ha]at hi
  subst hi
  simp at hs
 refine⟨(hf _ I.vx (ne I.sx (by decide) _ ha) (ne I.sx (by decide) _ hb)).trans h.x,(hf _ I.v1 (ne I.s1 (by decide) _ ha) (ne I.s1 (by decide) _ hb)).trans h.t1,(hf _ I.v2 (ne I.s2 (by decide) _ ha) (ne I.s2 (by decide) _ hb)).trans h.t2,fun i hi=>(hf _ (I.Q8 i hi) (ne (I.Px i hi) (by decide) _ ha) (ne (I.Px i hi) (by decide) _ hb)).trans (h.r1 i hi),fun i hi=>?_⟩
 by_cases Hq:i=b
 ·subst Hq;exact hB
 ·by_cases KY:i=a
  ·subst KY
   rw[hA,jA,jl Hq]
  ·rw[jA,jl Hq,jl KY,hf _ (I.OD i hi) (by simp only[eq_iff_iff,iff_false];exact fun he=>KY (I.i2 i _ hi ha he)) (by simp only[eq_iff_iff,iff_false];exact fun he=>Hq (I.i2 i _ hi hb he))]
   exact h.r2 i hi
theorem LJ (cnt:Nat) (uj:1<=cnt) (hn:cnt<=1048576) (c:Nat->Nat->Int) (hc:∀u v,u<cnt->v<cnt->0<=c u v/\c u v<=16777216) (x y:Nat) (hx:x<cnt) (hy:y<cnt) (Lo:x≠y) (t:Int) (ht:t<=1099511627776)
  (X o1 o2:Id) (R1 R2:Nat->Id) (nb:Nat) (I:CQ X o1 o2 R1 R2 cnt nb) (σ:ax) (hM:mz σ.get X o1 o2 R1 R2 cnt c (fun _ _=>0)) (Ik:nb<=σ.next):
  Call Tryz.prog 175 [.ptr X 0 0,.int .i64 x,.int .i64 y,.int .i64 t] σ fun r σ'=>∃(k:Nat) (f:Nat->Nat->Int),r=.int .i64 k/\lR cnt c f x y k/\mz σ'.get X o1 o2 R1 R2 cnt c f/\((∃S:Nat->Bool,S x=true/\S y=false/\∀u v,u<cnt->v<cnt->S u=true->S v=false->¬f u v<c u v)∨t<=k)/\σ.next<=σ'.next:=by
 refine fm dP rfl fun hl=>?_
 clear hl
 have hxS:(fun v=>decide (v=x)) x=true:=by simp
 have hyS:(fun v=>decide (v=x)) y=false:=by simp;exact fun h=>Lo h.symm
 obtain⟨top,QV⟩:∃top,top=kU cnt (fun v=>decide (v=x)) c:=⟨_,rfl⟩
 (try((repeat(revert hN;revert N;apply Pn.out));refine wk @Nat.zero_add ?_;(repeat(refine Pn.mk ?_;intro N hN))))
 refine aJ (fun m env st=>∃(k:Nat) (f:Nat->Nat->Int),m=(top-k).toNat/\env 9=.int .i64 (k:Int)/\lR cnt c f x y k/\mz st.get X o1 o2 R1 R2 cnt c f/\σ.next<=st.next/\(0<k->(k:Int)<=t)/\∀u v,-((k:Int)*(cnt:Int))<=f u v) (top-0).toNat ⟨0,fun _ _=>0,rfl,by(simp only[go_sem, ↓reduceIte,Nat.reduceEqDiff,Nat.reduceAdd,Nat.reduceSub,Nat.reduceLeDiff,reduceCtorEq])<;>rfl,lR.zero fun u v hu hv=>(hc u v hu hv).1,hM,bD,fun h=>absurd h (Nat.lt_irrefl 0),fun u v=>by simp⟩ ?_
 rintro m env_b st_b ⟨k,f,rfl,b9,hF,bM,bn,bk,blo⟩ bkp
 have b0:=bkp 0 (by kernel_rfl)
 have b1:=bkp 1 (by kernel_rfl)
 have b2:=bkp 2 (by kernel_rfl)
 have b3:=bkp 3 (by kernel_rfl)
 simp only[go_sem, ↓reduceIte,Nat.reduceEqDiff,Nat.reduceAdd,Nat.reduceSub,Nat.reduceLeDiff,reduceCtorEq]at b0 b1 b2 b3
 clear bkp
 have hz:bY (dC st_b.get) 6 [.ptr X 0 0,.int .i64 (x:Int),.int .i64 (y:Int)]=some [.cH (kn cnt c f),.int .i64 x,.int .i64 y]:=by simp only[ad,aj,bM.fz,aE,Option.map_some]
 (try((repeat(revert hN;revert N;apply Pn.out));refine wk (tw @b0 (tw @b1 (tw @b2 (tw @b3 @b9)))) ?_;(repeat(refine Pn.mk ?_;intro N hN))))
 refine .inr (aO _ _ _ _ _ (fun r σ1 hq=>?_) ((OE cnt uj hn c f x y hx hy).x mixed hz))
 obtain⟨Lc,rfl⟩:=hq
 refine hN _ _ ?_
 clear hN N
 rcases Lc with⟨rfl,S,H4,H5,Mp⟩|⟨p,rfl,hW⟩
 ·(try((repeat(revert hN;revert N;apply Pn.out));refine wk (tw @b0 (tw @b1 (tw @b2 (tw @b3 (tw @b9 (tw @Bool.not_true @Bool.not_false)))))) ?_;(repeat(refine Pn.mk ?_;intro N hN))))
  refine gy (.inl rfl) (vs:=[.int .i64 (k:Int)]) (sd @Nat.zero_add) ⟨k,f,rfl,hF,by(try dsimp only);exact bM,.inl ⟨S,H4,H5,Mp⟩,bD⟩
 ·obtain⟨⟨rs,rfl,sR⟩,lD,fc,hplt⟩:=hW
  by_cases Hu:t<=(k:Int)
  ·(try((repeat(revert hN;revert N;apply Pn.out));refine wk (tw @b0 (tw @b1 (tw @b2 (tw @b3 (tw @b9 (tw @Hu (tw @Bool.not_true @Bool.not_false))))))) ?_;(repeat(refine Pn.mk ?_;intro N hN))))
   refine gy (.inl rfl) (vs:=[.int .i64 (k:Int)]) (sd @Nat.zero_add) ⟨k,f,rfl,hF,by(try dsimp only);exact bM,.inr Hu,bD⟩
  ·(try((repeat(revert hN;revert N;apply Pn.out));refine wk (tw @b0 (tw @b1 (tw @b2 (tw @b3 (tw @b9 (tw @Hu (tw @Bool.not_true @Bool.not_false))))))) ?_;(repeat(refine Pn.mk ?_;intro N hN))))
   have mi:=m4 cnt _ lD hplt
   have hkc:(k:Int)*(cnt:Int)<=1099511627776*1048576:=Int.mul_le_mul ab ab ab ab
   have hfb:=hF.bound (S:=fun v=>decide (v=x)) hxS hyS
   have hnear:=kR
   obtain⟨p,hp⟩:∃p,p=x::rs:=⟨_,rfl⟩
   have hmp:eN x::List.map eN rs=p.map eN:=by rw[hp];rfl
   rw[hmp]
   have K6:1<=p.length:=by rw[hp];simp
   have P6:=hF.aug sR lD fc hplt
   rw[<-hp]at P6 lD fc hplt mi
   have Lj:p.take 1=[x]:=by rw[hp];rfl
   clear hmp sR
   refine aJ (fun m env st=>∃i:Nat,m=p.length-i/\1<=i/\i<=p.length/\env 11=.int .i64 (i:Int)/\mz st.get X o1 o2 R1 R2 cnt c (kQ f (p.take i))/\st_b.next<=st.next) (p.length-1) ⟨1,rfl,Nat.le_refl _,K6,by(simp only[go_sem, ↓reduceIte,Nat.reduceEqDiff,Nat.reduceAdd,Nat.reduceSub,Nat.reduceLeDiff,reduceCtorEq])<;>rfl,by rw[Lj];exact bM,bD⟩ ?_
   rintro m env_c st_c ⟨i,rfl,Ie,oe,mb,cM,cn⟩ ckp
   have c0:=ckp 0 (by kernel_rfl)
   have c1:=ckp 1 (by kernel_rfl)
   have c2:=ckp 2 (by kernel_rfl)
   have c3:=ckp 3 (by kernel_rfl)
   have c9:=ckp 9 (by kernel_rfl)
   have iO:=ckp 10 (by kernel_rfl)
   simp only[go_sem, ↓reduceIte,Nat.reduceEqDiff,Nat.reduceAdd,Nat.reduceSub,Nat.reduceLeDiff,reduceCtorEq,b0,b1,b2,b3,b9]at c0 c1 c2 c3 c9 iO
   clear ckp
   have me:(p.map eN).length=p.length:=by simp
   by_cases hi:(i:Int)<(p.length:Int)
   ·have fb:i<p.length:=ab
    have uq:=CV (f:=f) Ie fb
    obtain⟨a,ha⟩:∃a,a=p[i-1]'ab:=⟨_,rfl⟩
    obtain⟨b,hb⟩:∃b,b=p[i]:=⟨_,rfl⟩
    have Cc:a<cnt:=by rw[ha];exact hplt _ (List.getElem_mem _)
    have Cd:b<cnt:=by rw[hb];exact hplt _ (List.getElem_mem _)
    have qV:a≠b:=by
     rw[ha,hb]
     exact List.pairwise_iff_getElem.1 lD (i-1) i ab fb ab
    have NJ:(p.map eN)[i-1]? =some [.int .i64 (a:Int)]:=by rw[List.getElem?_map,List.getElem?_eq_getElem ab,ha];rfl
    have NK:(p.map eN)[i]? =some [.int .i64 (b:Int)]:=by rw[List.getElem?_map,List.getElem?_eq_getElem fb,hb];rfl
    rw[<-ha,<-hb]at uq
    have QG:=kR (p.take i) f a b
    have QH:=kR (p.take i) f b a
    rw[List.length_take]at QG QH
    have hl1:=blo b a
    have hl2:=blo a b
    have N4:=hF.le a b Cc Cd
    have MD:=hF.le b a Cd Cc
    have hca:=hc a b Cc Cd
    have Ce:=hc b a Cd Cc
    generalize kQ f (p.take i)=fl at *
    have gA:=pQ (R:=R2) (n:=cnt) Cc
    have gB:=pQ (R:=R2) (n:=cnt) Cd
    have rA:=cM.r2 _ Cc
    have rB:=cM.r2 _ Cd
    have cA:=dt (f:=fl a) Cd
    have cB:=dt (f:=fl b) Cc
    have sA:=mJ (f:=fl) (a:=a) (d:=1) Cd
    have K4:bump fl a b 1 b=fl b:=jl fun h=>qV h.symm
    have sB:=mJ (f:=bump fl a b 1) (a:=b) (b:=a) (d:=-1) (n:=cnt) Cc
    rw[K4]at sB
    have gX:=cM.x
    have g2:=cM.t2
    have fH:(a:Int)<(cnt:Int):=ab
    have fe:(b:Int)<(cnt:Int):=ab
    have EN:IntKind.i64.wrap ((i:Int)-1)=((i-1:Nat):Int):=by rw[aQ ab];omega
    have yE:((i-1:Nat):Int)<(p.length:Int):=ab
    have wA:IntKind.i64.wrap (fl a b+1)=fl a b+1:=aQ ab
    have wB:IntKind.i64.wrap (fl b a-1)=fl b a+-1:=by rw[aQ ab];omega
    have Ob:IntKind.i64.wrap ((i:Int)+1)=((i+1:Nat):Int):=aA ab
    have l2:=jt R2 cnt cnt
    have lA:=di (fl a) cnt
    have lB:=di (fl b) cnt
    have gF:(R2 a=R2 b)=False:=by simp only[eq_iff_iff,iff_false];exact fun h=>qV (I.i2 _ _ Cc Cd h)
    have FR:(R2 b=R2 a)=False:=by simp only[eq_iff_iff,iff_false];exact fun h=>qV (I.i2 _ _ Cc Cd h.symm)
    have xA:=w7 I.sx (I.JW a Cc) (by decide)
    have xB:=w7 I.sx (I.JW b Cd) (by decide)
    have yA:=w7 I.s2 (I.JW a Cc) (by decide)
    have yB:=w7 I.s2 (I.JW b Cd) (by decide)
    have qX:=eK (i:=X) (n:=st_c.next) (by have:=I.vx;omega)
    have q2:=eK (i:=o2) (n:=st_c.next) (by have:=I.v2;omega)
    have qA:=eK (i:=R2 a) (n:=st_c.next) (by have:=I.OD a Cc;omega)
    have qB:=eK (i:=R2 b) (n:=st_c.next) (by have:=I.OD b Cd;omega)
    rw[au]at cA cB sA sB
    (try((repeat(revert hN;revert N;apply Pn.out));refine wk (tw @c0 (tw @c9 (tw @iO (tw @mb (tw @me (tw @hi (tw @yE (tw @NJ (tw @NK (tw @gA (tw @gB (tw @rA (tw @rB (tw @cA (tw @cB (tw @sA (tw @sB (tw @gX (tw @g2 (tw @fH (tw @fe (tw @EN (tw @wA (tw @wB (tw @Ob (tw @l2 (tw @lA (tw @lB (tw @gF (tw @FR (tw @xA (tw @xB (tw @yA (tw @yB (tw @qX (tw @q2 (tw @qA @qB))))))))))))))))))))))))))))))))))))) ?_;(repeat(refine Pn.mk ?_;intro N hN))))
    refine⟨_,?_,i+1,rfl,ab,ab,sd @Ob,?_,bD⟩
    ·omega
    ·rw[uq]
     refine cM.push I Cc Cd qV ?_ ?_ fun j hj h1 h2=>?_
     ·simp only[go_sem, ↓reduceIte,Nat.reduceEqDiff,Nat.reduceAdd,Nat.reduceSub,Nat.reduceLeDiff,reduceCtorEq,gF]
     ·simp only[go_sem, ↓reduceIte,Nat.reduceEqDiff,Nat.reduceAdd,Nat.reduceSub,Nat.reduceLeDiff,reduceCtorEq,gF]
     ·simp only[go_sem, ↓reduceIte,Nat.reduceEqDiff,Nat.reduceAdd,Nat.reduceSub,Nat.reduceLeDiff,reduceCtorEq,h1,h2]
   ·have Hr:i=p.length:=ab
    subst Hr
    rw[List.take_length]at cM
    have Lm:IntKind.i64.wrap ((k:Int)+1)=((k+1:Nat):Int):=aA ab
    have Qs:=P6.bound (S:=fun v=>decide (v=x)) hxS hyS
    (try((repeat(revert hN;revert N;apply Pn.out));refine wk (tw @c0 (tw @c9 (tw @iO (tw @mb (tw @me (tw @hi @Lm)))))) ?_;(repeat(refine Pn.mk ?_;intro N hN))))
    refine⟨_,?_,k+1,_,rfl,sd @Lm,by rw[Int.natCast_add];exact P6,cM,bD,fun _=>ab,fun u v=>?_⟩
    ·rw[<-QV]at Qs;omega
    ·have h1:=(kR p f u v).2
     have h2:=blo u v
     rw[Int.natCast_add,Int.add_mul]
     omega
theorem LI (cnt:Nat) (uj:1<=cnt) (hn:cnt<=1048576) (c:Nat->Nat->Int) (hc:∀u v,u<cnt->v<cnt->0<=c u v/\c u v<=16777216) (x y:Nat) (hx:x<cnt) (hy:y<cnt) (Lo:x≠y) (t:Int) (ht:t<=1099511627776)
  (X o1 o2:Id) (R1 R2:Nat->Id) (nb:Nat) (I:CQ X o1 o2 R1 R2 cnt nb) (σ:ax) (hM:mz σ.get X o1 o2 R1 R2 cnt c (fun _ _=>0)) (Ik:nb<=σ.next):
  Call Tryz.prog 175 [.ptr X 0 0,.int .i64 x,.int .i64 y,.int .i64 t] σ fun r σ'=>∃val:Int,r=.int .i64 val/\(val<t↔∃S:Nat->Bool,S x=true/\S y=false/\kU cnt S c<t)/\σ.next<=σ'.next:=by
 refine aO _ _ _ _ _ (fun r σ1 hq=>?_) (LJ cnt uj hn c hc x y hx hy Lo t ht X o1 o2 R1 R2 nb I σ hM Ik)
 obtain⟨k,f,rfl,hF,_,hS,hle⟩:=hq
 refine⟨(k:Int),rfl,⟨fun h=>?_,fun⟨S',h1,h2,h3⟩=>by have:=hF.bound h1 h2;omega⟩,hle⟩
 rcases hS with⟨S,H4,H5,Mp⟩|h2
 ·exact⟨S,H4,H5,by rw[<-hF.full H4 H5 Mp];exact h⟩
 ·omega
noncomputable def qW (n:Nat) (bs:List PB) (t:Int):Bool:=@decide (jJ n bs t) (Classical.propDecidable _)
theorem uY {n:Nat} {bs:List PB} {t:Int} (h:jJ n bs t):true=qW n bs t:=by simp[qW,h]
theorem yH {n:Nat} {bs:List PB} {t:Int} (h:¬jJ n bs t):false=qW n bs t:=by simp[qW,h]
theorem Io (cnt:Nat) (hn:cnt<=1048576) (bs:List PB) (hb:∀b∈bs,b.a<cnt/\b.b<cnt) (dS:∀b∈bs,0<=b.s/\b.s<=4) (oU:bs.length<=1048576) (t:Int) (ht:t<=1099511627776):
  ai Tryz.prog 155 [.int .i64 cnt,.sl (bs.map ay),.int .i64 t] (.bool (qW cnt bs t)):=by
 refine ai.body dP rfl fun hl n0=>?_
 clear hl
 have kV:=wU bs (fun _ _=>0) (fun b h=>(dS b h).1) (fun _ _=>Int.le_refl _)
 have hle:=room_le bs (fun _ _=>0) 0 (fun b h=>(dS b h).2) (fun _ _=>Int.le_refl _) (Int.le_refl _)
 have fc:bs.foldl l8 (fun _ _=>0)=jY bs:=rfl
 rw[fc]at kV hle
 (try((repeat(revert hN;revert N;apply Pn.out));refine wk @Nat.zero_add ?_;(repeat(refine Pn.mk ?_;intro N hN))))
 refine aJ (fun m env st=>∃y:Nat,m=cnt+1-y/\1<=y/\env 7=.int .i64 (y:Int)/\y<=cnt+1/\∀z,1<=z->z<y->z<cnt->∀S:Nat->Bool,S 0=true->S z=false->t<=ib S bs) (cnt+1-1) ⟨1,rfl,Nat.le_refl _,by(simp only[go_sem, ↓reduceIte,Nat.reduceEqDiff,Nat.reduceAdd,Nat.reduceSub,Nat.reduceLeDiff,reduceCtorEq])<;>rfl,ab,fun z h1 h2=>ab⟩ ?_
 rintro m env_b st_b ⟨y,rfl,hy1,b7,hyl,cN⟩ bkp
 have b0:=bkp 0 (by kernel_rfl)
 have b1:=bkp 1 (by kernel_rfl)
 have b2:=bkp 2 (by kernel_rfl)
 simp only[go_sem, ↓reduceIte,Nat.reduceEqDiff,Nat.reduceAdd,Nat.reduceSub,Nat.reduceLeDiff,reduceCtorEq]at b0 b1 b2
 clear bkp
 by_cases hy:(y:Int)<(cnt:Int)
 ·have hyn:y<cnt:=ab
  (try((repeat(revert hN;revert N;apply Pn.out));refine wk (tw @b0 (tw @b1 (tw @b2 (tw @b7 @hy)))) ?_;(repeat(refine Pn.mk ?_;intro N hN))))
  refine .inr (aO _ _ _ _ _ (fun r σ1 hq=>?_) (y9 cnt ab hn bs hb dS oU _))
  obtain⟨X,o1,o2,R1,R2,rfl,I,Ii,hM,_⟩:=hq
  refine hN _ _ ?_
  clear hN N
  (try((repeat(revert hN;revert N;apply Pn.out));refine wk (tw @b0 (tw @b1 (tw @b2 @b7))) ?_;(repeat(refine Pn.mk ?_;intro N hN))))
  have hsd:=LI cnt ab hn (jY bs) (fun u v _ _=>⟨kV u v,by have:=hle u v;omega⟩) 0 y ab hyn ab t ht X o1 o2 R1 R2 σ1.next I
  refine .inr (aO _ _ _ _ _ (fun r σ2 hq=>?_) (hsd _ hM bD))
  obtain⟨val,rfl,oJ,lz⟩:=hq
  refine hN _ _ ?_
  clear hN N
  by_cases dD:val<t
  ·(try((repeat(revert hN;revert N;apply Pn.out));refine wk (tw @b0 (tw @b1 (tw @b2 (tw @b7 @dD)))) ?_;(repeat(refine Pn.mk ?_;intro N hN))))
   obtain⟨S,h1,h2,h3⟩:=oJ.1 dD
   rw[x7 hb]at h3
   exact aI (b:=false) (.inl rfl) (sd @Nat.zero_add) (yH fun h=>by have:=h S h1 ⟨y,hyn,h2⟩;omega)
  ·have hw:IntKind.i64.wrap ((y:Int)+1)=((y+1:Nat):Int):=aA ab
   (try((repeat(revert hN;revert N;apply Pn.out));refine wk (tw @b0 (tw @b1 (tw @b2 (tw @b7 (tw @dD @hw))))) ?_;(repeat(refine Pn.mk ?_;intro N hN))))
   refine⟨_,?_,y+1,rfl,ab,sd (tw @b7 @hw),ab,fun z h1 h2 h3 S H4 H5=>?_⟩
   ·omega
   ·by_cases hzy:z=y
    ·subst hzy
     rcases Int.lt_or_le (ib S bs) t with h|h
     ·exact absurd (oJ.2 ⟨S,H4,H5,by rw[x7 hb];exact h⟩) dD
     ·exact h
    ·exact cN z h1 ab h3 S H4 H5
 ·(try((repeat(revert hN;revert N;apply Pn.out));refine wk (tw @b0 (tw @b1 (tw @b2 (tw @b7 @hy)))) ?_;(repeat(refine Pn.mk ?_;intro N hN))))
  exact aI (b:=true) (.inl rfl) (sd @Nat.zero_add) (uY fun S h0 ⟨z,hz,hzf⟩=>by
   have:z≠0:=by rintro rfl;rw[h0]at hzf;cases hzf
   exact cN z ab ab hz S h0 hzf)
theorem FV (cnt:Nat) (hn:cnt<=1048576) (bs:List PB) (hb:∀b∈bs,b.a<cnt/\b.b<cnt) (dS:∀b∈bs,0<=b.s/\b.s<=4) (oU:bs.length<=1048576) (t:Int) (ht:t<=1099511627776):
  ai Tryz.prog 155 [.int .i64 cnt,wZ bs,.int .i64 t] (.bool (qW cnt bs t)):=by
 have h:=Io cnt hn bs hb dS oU t ht
 cases bs with
 |nil=>exact h.cut mixed (.same _ (.bE (.same _ .nil)))
 |cons b r=>rw[w5 (by simp)];exact h
def zF:Prop:=∀(s:aq) (l:List ak),lj s->nN s l->ai Tryz.prog 154 [.agg (aa s),.agg [.sl (l.map ah)]] (wZ (bW s l))
noncomputable def r7 (s:aq) (l:List ak) (t:Int):Bool:=if 64<gC s l t then false else qW (gC s l t) (dc (dH (aD t (bW s l))) (bW s l)) t
theorem AP (s:aq) (l:List ak) (t:Int):r7 s l t=l5 s l t:=by
 letI:=Classical.propDecidable (nw l.length (bW s l) t)
 unfold r7
 by_cases h:64<gC s l t
 ·rw[if_pos h]
  exact(k8 (p:=False) ⟨False.elim,fun k=>by have:=k.1;unfold gC at h;omega⟩).symm.trans (by simp) |>.symm
 ·rw[if_neg h]
  by_cases hp:jJ (gC s l t) (dc (dH (aD t (bW s l))) (bW s l)) t
  ·rw[<-uY hp]
   exact((k8 (p:=True) ⟨fun _=>⟨by unfold gC at h;omega,hp⟩,fun _=>trivial⟩).symm.trans (by simp)).symm
  ·rw[<-yH hp]
   exact((k8 (p:=False) ⟨False.elim,fun k=>hp k.2⟩).symm.trans (by simp)).symm
theorem GN (PZ:zF) (s:aq) (l:List ak) (t:Int) (ht:t<=1099511627776) (h1:1<=l.length) (hS:lj s) (hA:nN s l):ai Tryz.prog 131 [.agg (aa s),.agg [.sl (l.map ah)],.int .i64 t] (.gU [.bool (l5 s l t),.bool (decide ¬64<gC s l t)]):=by
 rw[<-AP]
 refine ai.body dP rfl fun hl n0=>?_
 clear hl
 have hb:=uJ (l:=l) hS
 have oU:=ou (s:=s) hA.1
 have NF:=hA.1.EF
 have r4:=PZ s l hS hA
 have NB:=v7 l.length h1 ab (bW s l) (fun b h=>⟨(hb b h).1,(hb b h).2.1⟩) ab t
 have hL:=re (aD t (bW s l))
 have fb:=Br hL (fun b h=>⟨(hb b h).1,(hb b h).2.1⟩)
 have hlen:=(lJ (dH (aD t (bW s l))) (bW s l)).1
 have kB:=ja l.length (dH (aD t (bW s l)))
 have hho:=FV (gC s l t) (by unfold gC;omega) (dc (dH (aD t (bW s l))) (bW s l)) (fun b h=>⟨(fb b h).1,(fb b h).2.1⟩) (fun b h=>by
  obtain⟨_,_,_,c,hc,dh⟩:=fb b h
  rw[dh];have:=hb c hc;omega) ab t ht
 have e9:(l.map ah).length=l.length:=by simp
 have hzB:∀(g:Rows) (n:Nat) (bs:List PB),V.fz g (n+1) (wZ bs)=some (wZ bs):=fun g n bs=>by
  unfold wZ;split
  ·exact aT _ _
  ·exact cj _ _ _
 rw[aa]at r4
 rw[<-gC]at NB
 have u7:∀(g:Rows) (x:Int),bY (dC g) 6 [.int .i64 l.length,wZ (bW s l),.int .i64 x]=some [.int .i64 l.length,wZ (bW s l),.int .i64 x]:=fun g x=>by simp only[ad,aj,aE,hzB,Option.map_some]
 have hzh:∀(g:Rows) (x y:Int),bY (dC g) 6 [.int .i64 x,wZ (dc (dH (aD t (bW s l))) (bW s l)),.int .i64 y]=some [.int .i64 x,wZ (dc (dH (aD t (bW s l))) (bW s l)),.int .i64 y]:=fun g x y=>by simp only[ad,aj,aE,hzB,Option.map_some]
 generalize wZ (bW s l)=B1 at *
 generalize wZ (dc (dH (aD t (bW s l))) (bW s l))=B2 at *
 by_cases rI:(64:Int)<(gC s l t:Int)
 ·have rJ:64<gC s l t:=ab
  (repeat(first|((repeat(revert hN;revert N;apply Pn.out));refine wk (tw @aa.eq_1 (tw @rI @e9)) ?_;(repeat(refine Pn.mk ?_;intro N hN)))|((try apply Or.inl);refine⟨_,ai.x (r4) (sd (tw @aa.eq_1 (tw @rI @e9))),?_⟩;refine hN _ _ ?_;clear hN N)))
  refine⟨_,ai.x NB (u7 _ _),?_⟩
  refine hN _ _ ?_
  clear hN N
  (try((repeat(revert hN;revert N;apply Pn.out));refine wk @rI ?_;(repeat(refine Pn.mk ?_;intro N hN))))
  exact iK (.inl rfl) (r1:=.bool false) (r2:=.bool false) (sd @Nat.zero_add) (sd @Nat.zero_add) (by rw[r7,if_pos rJ,decide_eq_false fun h=>h rJ];simp only[ee,aM,bh,eD,Option.map_some])
 ·have rJ:¬64<gC s l t:=ab
  (repeat(first|((repeat(revert hN;revert N;apply Pn.out));refine wk (tw @aa.eq_1 (tw @rI @e9)) ?_;(repeat(refine Pn.mk ?_;intro N hN)))|((try apply Or.inl);refine⟨_,ai.x (r4) (sd (tw @aa.eq_1 (tw @rI @e9))),?_⟩;refine hN _ _ ?_;clear hN N)))
  refine⟨_,ai.x NB (u7 _ _),?_⟩
  refine hN _ _ ?_
  clear hN N
  (try((repeat(revert hN;revert N;apply Pn.out));refine wk @rI ?_;(repeat(refine Pn.mk ?_;intro N hN))))
  refine .inl ⟨_,ai.x hho (hzh _ _ _),?_⟩
  refine hN _ _ ?_
  clear hN N
  (try((repeat(revert hN;revert N;apply Pn.out));refine wk @Nat.zero_add ?_;(repeat(refine Pn.mk ?_;intro N hN))))
  exact iK (.inl rfl) (r1:=.bool (qW (gC s l t) (dc (dH (aD t (bW s l))) (bW s l)) t)) (r2:=.bool true) (sd @Nat.zero_add) (sd @Nat.zero_add) (by rw[r7,if_neg rJ,decide_eq_true rJ];simp only[ee,aM,bh,eD,Option.map_some])
theorem rL (t:Int):ai Tryz.prog 130 [.int .i64 t] (.bool (fU t 1 16)):=by
 refine ai.body dP rfl fun hl n0=>?_
 clear hl
 have h:=iN t 1 16
 (repeat(first|((repeat(revert hN;revert N;apply Pn.out));refine wk @Nat.zero_add ?_;(repeat(refine Pn.mk ?_;intro N hN)))|((try apply Or.inl);refine⟨_,ai.x (h) (sd @Nat.zero_add),?_⟩;refine hN _ _ ?_;clear hN N)))
 exact aI (b:=fU t 1 16) (.inl rfl) (sd @Nat.zero_add) rfl
theorem tW (PZ:zF) (s:bV) (hn:fA s.ar) (hg:s.ar.aw.length<=1048576) (ht:s.ar.ae.length<=1048576) (hs:∀t∈s.ar.ae,t.aY.length<=1048576) (hl:s.bR.ae.length<=1048576):ai Tryz.prog 72 [.agg (az s)] (.bool (lL s)):=by
 refine ai.body dP rfl fun sS n0=>?_
 clear sS
 by_cases h0:(s.bR.ae.length:Int)=0
 ·have hd:decide ((s.bR.ae.length:Int)=0)=true:=decide_eq_true h0
  (try((repeat(revert hN;revert N;apply Pn.out));refine wk (tw @az.eq_1 @hd) ?_;(repeat(refine Pn.mk ?_;intro N hN))))
  exact aI (b:=false) (.inl rfl) (sd @Nat.zero_add) (ji fun h=>by have:=h.some;omega)
 have hd:decide ((s.bR.ae.length:Int)=0)=false:=decide_eq_false h0
 have KP:=lV s.ar s.bR.ae hn hg ht hs hl
 have Nu:=rL s.aG
 have key:ai Tryz.prog 101 [.agg (aa s.ar),.agg [.sl (s.bR.ae.map ah)],.int .i64 s.aG] (.gU [.bool (lL s),.int .i64 (if oP s.ar&&nQ s.ar s.bR.ae then(if fU s.aG 1 16 then(if 64<gC s.ar s.bR.ae s.aG then 4 else 0)else 2)else 1)]):=by
  refine ai.body dP rfl fun sS n0=>?_
  clear sS
  rw[aa]at KP
  cases hA:oP s.ar&&nQ s.ar s.bR.ae
  ·rw[hA]at KP
   have jD:lL s=false:=(ji fun h=>by rw[k7.2 h.set,kP.2 h.LH]at hA;cases hA).symm
   (repeat(first|((repeat(revert hN;revert N;apply Pn.out));refine wk @aa.eq_1 ?_;(repeat(refine Pn.mk ?_;intro N hN)))|((try apply Or.inl);refine⟨_,ai.x (KP) (sd @aa.eq_1),?_⟩;refine hN _ _ ?_;clear hN N)))
   exact iK (.inl rfl) (r1:=.bool false) (r2:=.int .i64 1) (sd @Nat.zero_add) (sd @Nat.zero_add) (by rw[jD];simp only[ee,aM,bh,eD,dK,Option.map_some];rfl)
  rw[hA]at KP
  simp only[Bool.and_eq_true]at hA
  have hS:=k7.1 hA.1
  have hP:=kP.1 hA.2
  cases hT:fU s.aG 1 16
  ·rw[hT]at Nu
   have jD:lL s=false:=(ji fun h=>by have:=h.LP;rw[hT]at this;cases this).symm
   (repeat(first|((repeat(revert hN;revert N;apply Pn.out));refine wk @aa.eq_1 ?_;(repeat(refine Pn.mk ?_;intro N hN)))|((try apply Or.inl);refine⟨_,ai.x (KP) (sd @aa.eq_1),?_⟩;refine hN _ _ ?_;clear hN N)|((try apply Or.inl);refine⟨_,ai.x (Nu) (sd @aa.eq_1),?_⟩;refine hN _ _ ?_;clear hN N)))
   exact iK (.inl rfl) (r1:=.bool false) (r2:=.int .i64 2) (sd @Nat.zero_add) (sd @Nat.zero_add) (by rw[jD];simp only[ee,aM,bh,eD,dK,Option.map_some];rfl)
  have EL:=dr hT
  rw[hT]at Nu
  have dS:=GN PZ s.ar s.bR.ae s.aG ab ab hS hP
  rw[aa]at dS
  have hsy:lL s=l5 s.ar s.bR.ae s.aG:=by
   cases hB:l5 s.ar s.bR.ae s.aG
   ·exact(ji fun h=>by have:=nJ.2 h.holds;rw[hB]at this;cases this).symm
   ·exact(zl ⟨hS,hP,ab,hT,nJ.1 hB⟩).symm
  by_cases rI:64<gC s.ar s.bR.ae s.aG
  ·rw[decide_eq_false fun h=>h rI]at dS
   have jD:lL s=false:=(ji fun h=>by have:=h.holds.1;unfold gC at rI;omega).symm
   (repeat(first|((repeat(revert hN;revert N;apply Pn.out));refine wk @aa.eq_1 ?_;(repeat(refine Pn.mk ?_;intro N hN)))|((try apply Or.inl);refine⟨_,ai.x (KP) (sd @aa.eq_1),?_⟩;refine hN _ _ ?_;clear hN N)|((try apply Or.inl);refine⟨_,ai.x (Nu) (sd @aa.eq_1),?_⟩;refine hN _ _ ?_;clear hN N)|((try apply Or.inl);refine⟨_,ai.x (dS) (sd @aa.eq_1),?_⟩;refine hN _ _ ?_;clear hN N)))
   exact iK (.inl rfl) (r1:=.bool false) (r2:=.int .i64 4) (sd @Nat.zero_add) (sd @Nat.zero_add) (by rw[jD,if_pos rI];simp only[ee,aM,bh,eD,dK,Option.map_some])
  ·rw[decide_eq_true rI,<-hsy]at dS
   (repeat(first|((repeat(revert hN;revert N;apply Pn.out));refine wk @aa.eq_1 ?_;(repeat(refine Pn.mk ?_;intro N hN)))|((try apply Or.inl);refine⟨_,ai.x (KP) (sd @aa.eq_1),?_⟩;refine hN _ _ ?_;clear hN N)|((try apply Or.inl);refine⟨_,ai.x (Nu) (sd @aa.eq_1),?_⟩;refine hN _ _ ?_;clear hN N)|((try apply Or.inl);refine⟨_,ai.x (dS) (sd @aa.eq_1),?_⟩;refine hN _ _ ?_;clear hN N)))
   exact iK (.inl rfl) (r1:=.bool (lL s)) (r2:=.int .i64 0) (sd @Nat.zero_add) (sd @Nat.zero_add) (by rw[if_neg rI];simp only[ee,aM,bh,eD,dK,Option.map_some])
 generalize hcode:(if oP s.ar&&nQ s.ar s.bR.ae then(if fU s.aG 1 16 then(if 64<gC s.ar s.bR.ae s.aG then(4:Int)else 0)else 2)else 1)=code at key
 rw[aa]at key
 cases hB:lL s
 ·rw[hB]at key
  (repeat(first|((repeat(revert hN;revert N;apply Pn.out));refine wk (tw @az.eq_1 @hd) ?_;(repeat(refine Pn.mk ?_;intro N hN)))|((try apply Or.inl);refine⟨_,ai.x (key) (sd (tw @az.eq_1 @hd)),?_⟩;refine hN _ _ ?_;clear hN N)))
  exact aI (b:=false) (.inl rfl) (sd @Nat.zero_add) rfl
 ·rw[hB]at key
  have hP:=tD.1 hB
  have hc:code=0:=by
   rw[<-hcode,k7.2 hP.set,kP.2 hP.LH,hP.LP]
   have:=hP.holds.1
   simp only[Bool.and_self,if_true]
   rw[if_neg (by unfold gC;omega)]
  rw[hc]at key
  (repeat(first|((repeat(revert hN;revert N;apply Pn.out));refine wk (tw @az.eq_1 @hd) ?_;(repeat(refine Pn.mk ?_;intro N hN)))|((try apply Or.inl);refine⟨_,ai.x (key) (sd (tw @az.eq_1 @hd)),?_⟩;refine hN _ _ ?_;clear hN N)))
  exact aI (b:=true) (.inl rfl) (sd @Nat.zero_add) rfl
end Go.Proofs.YtihgaadadaekmaaGreatDoor.V

namespace Go.Proofs.YtihgaadadaekmaaGreatDoor
open Go.RowKit
theorem zi (x:ByteArray) (l:List UInt8) (h:x.data.toList=l):x=⟨l.toArray⟩:=by
 subst h
 cases x
 simp
theorem Ej (i:Nat) (h:i<100) (w:World):
  Calls Tryz.prog 158 #[.int .i64 i] w fun e w'=>e=.returned (.string ⟨(Lib.decDigits i).toArray⟩)/\w'=w:=by
 go_enter Tryz.func158,Tryz.ntmps158
 go_name_bytes_deep 45 SM hSM
 have eSM:SM=Lib.smalls:=by rw[<-hSM];decide+kernel
 subst eSM
 clear hSM
 go_name_bytes_deep 30 DG hDG
 have eDG:DG=Lib.digits36:=by rw[<-hDG];decide+kernel
 subst eDG
 clear hDG
 by_cases FE:i<10
 ·have tR:∀w,(Instr.slice 9 (.string Lib.digits36) (some (.int .i64 (i:Int))) (some (.int .i64 ((i:Int)+1))) none).run Tryz.prog w=.ok (.string (Lib.digits36.extract i (i+1))) w:=fun w=>by
   rw[run_slice_string w 9 Lib.digits36 .i64 .i64 _ _ Tryz.underlying9 (by omega) (by omega) (by rw[Lib.digits36_size];omega),show((i:Int)).toNat=i by omega,show((i:Int)+1).toNat=i+1 by omega]
  go_wp2
  go_ret
  refine⟨?_,rfl⟩
  show Ending.returned (Value.string (Lib.digits36.extract i (i+1)))= _
  rw[zi (Lib.digits36.extract i (i+1)) (Lib.decDigits i) (by rw[Lib.extract_data];exact Lib.digits36_piece FE)]
 ·have tR:∀w,(Instr.slice 9 (.string Lib.smalls) (some (.int .i64 ((i:Int)*2))) (some (.int .i64 ((i:Int)*2+2))) none).run Tryz.prog w=.ok (.string (Lib.smalls.extract (i*2) (i*2+2))) w:=fun w=>by
   rw[run_slice_string w 9 Lib.smalls .i64 .i64 _ _ Tryz.underlying9 (by omega) (by omega) (by rw[Lib.smalls_size];omega),show((i:Int)*2).toNat=i*2 by omega,show((i:Int)*2+2).toNat=i*2+2 by omega]
  go_wp2
  go_ret
  refine⟨?_,rfl⟩
  show Ending.returned (Value.string (Lib.smalls.extract (i*2) (i*2+2)))= _
  rw[zi (Lib.smalls.extract (i*2) (i*2+2)) (Lib.decDigits i) (by rw[Lib.extract_data];exact Lib.smalls_piece FE h)]
theorem Ai (i:Nat) (hi:i<100) (w:World):
  Calls Tryz.prog 143 #[.int .i64 i,.int .i64 10] w fun e w'=>e=.returned (.string ⟨(Lib.decDigits i).toArray⟩)/\w'=w:=by
 go_enter Tryz.func143,Tryz.ntmps143
 go_wp2_with (go_at_call 158;refine(Ej i hi _).mono ?_;rintro e w' ⟨rfl,rfl⟩)
 go_ret
 exact⟨rfl,rfl⟩
theorem v8:∀n:Fin 100,(⟨(Lib.decDigits n.1).toArray⟩:ByteArray)=V.gP n.1:=by decide+kernel
namespace V
attribute [local irreducible] dO wpOps gO Call
attribute [local go_sem] aH fF eF fR fQ cu upd cm K.av cJ AV.cells AV.cell rowOf rowsOf part ld rowAt bI bU dG ei il bJ da eB fW eZ dq ep cY cX dU dV bP bd cQ bL cT cR ek er eo cP bS cZ ej bK aL cV cw ik br cI bQ aZ dz bl dI AV.undef bB bH dY eh dR ea cE eA eE cr ev eu cU cW List.getD_cons_zero List.getD_cons_succ List.getD_nil List.all_cons List.all_nil Bool.and_true Bool.true_and Bool.and_self Bool.not_true Bool.not_false Option.map_some Option.map_none Option.bind_some Option.bind_none List.length_cons List.length_nil List.take_succ_cons List.take_zero List.take_nil List.drop_succ_cons List.drop_zero List.drop_nil List.head?_cons List.map_cons List.map_nil List.getElem?_cons_zero List.getElem?_cons_succ List.cons_append List.nil_append List.append_nil List.length_map List.set_cons_zero List.set_cons_succ Nat.reduceMul eq_self Int.toNat_natCast Int.natCast_nonneg and_self true_and and_true decide_true decide_false Bool.false_eq_true Nat.zero_add Nat.add_zero List.contains_cons List.contains_nil Bool.or_false Bool.false_or beq_self_eq_true Nat.reduceBEq ne_eq not_true_eq_false not_false_eq_true Id.mk.injEq false_and and_false Nat.reduceLT Int.reduceLE Int.reduceLT Int.reduceToNat Int.reduceNeg Int.reduceAdd Nat.le_refl List.length_append beq_true beq_false Bool.not_eq_eq_eq_not or_false false_or dC ad aj aE bz cj aT bj aX bf cK bG
theorem I2 {P:Program} {w:World} {D:Nat->Prop} {ι:Names} {k m:Int} {vs:Array Value} (h:eP P w D ι [.int .i64 k,.int .i64 m] vs):vs= #[.int .i64 k,.int .i64 m]:=by
 obtain⟨h1,h2⟩:=h
 obtain⟨u,hu,hr⟩:=h2 0 _ rfl
 rw[db hr]at hu
 obtain⟨u2,MD,Dx⟩:=h2 1 _ rfl
 rw[db Dx]at MD
 obtain⟨l⟩:=vs
 match l,h1 with
 |[a,b],_=>
  simp at hu MD
  rw[hu,MD]
theorem FD (n:Nat) (h:n<100):ai Tryz.prog 143 [.int .i64 (n:Int),.int .i64 10] (.str (gP n)):=
 jh (vs0:= #[.int .i64 (n:Int),.int .i64 10]) (u0:=.string (gP n)) (fun _ _ _ _=>I2) (fun _ _ _=>.ew _ _ (.str _)) (fun g=>ko g 5 _) fun w=>(Ai n h w).mono (by
  rintro e w' ⟨rfl,rfl⟩
  exact⟨by rw[v8 ⟨n,h⟩],Below.refl _ _⟩)
theorem yl (n:Nat) (h:n<100):ai Tryz.prog 122 [.int .i64 (n:Int),.int .i64 10] (.str (gP n)):=by
 refine ai.body dP rfl fun hl n0=>?_
 clear hl
 have h1:=FD n h
 (repeat(first|((repeat(revert hN;revert N;apply Pn.out));refine wk @Nat.zero_add ?_;(repeat(refine Pn.mk ?_;intro N hN)))|((try apply Or.inl);refine⟨_,ai.x (h1) (sd @Nat.zero_add),?_⟩;refine hN _ _ ?_;clear hN N)))
 exact iL (.inl rfl) (vs:=[.str (gP n)]) (sd @Nat.zero_add) (by simp only[dJ,ko])
theorem CO (n:Nat) (h:n<100):ai Tryz.prog 89 [.int .i64 (n:Int)] (.str (gP n)):=by
 refine ai.body dP rfl fun hl n0=>?_
 clear hl
 have h1:=yl n h
 (repeat(first|((repeat(revert hN;revert N;apply Pn.out));refine wk @Nat.zero_add ?_;(repeat(refine Pn.mk ?_;intro N hN)))|((try apply Or.inl);refine⟨_,ai.x (h1) (sd @Nat.zero_add),?_⟩;refine hN _ _ ?_;clear hN N)))
 exact iL (.inl rfl) (vs:=[.str (gP n)]) (sd @Nat.zero_add) (by simp only[dJ,ko])
theorem A9 (u:ByteArray) (hu:u.size<=1000) (n:Nat) (h:n<100):ai Tryz.prog 74 [.str u,.int .i64 (n:Int)] (.str (u++gP n)):=by
 refine ai.body dP rfl fun hl n0=>?_
 clear hl
 have h1:=CO n h
 have h2:u.size+(gP n).size<=9223372036854775807:=by have:=Fo n;omega
 generalize gP n=d at h1 h2 ⊢
 (repeat(first|((repeat(revert hN;revert N;apply Pn.out));refine wk @h2 ?_;(repeat(refine Pn.mk ?_;intro N hN)))|((try apply Or.inl);refine⟨_,ai.x (h1) (sd @h2),?_⟩;refine hN _ _ ?_;clear hN N)))
 exact iL (.inl rfl) (vs:=[.str (u++d)]) (sd @Nat.zero_add) (by simp only[dJ,ko])
theorem A8 (nm u:ByteArray) (hu:u.size<=1000) (nD:Nat) (NO:nD<=10):ai Tryz.prog 43 [.str nm,.str u,.int .i64 (nD:Int)] (.int .i64 (kc nm u nD)):=by
 refine ai.body dP rfl fun hl n0=>?_
 clear hl
 (try((repeat(revert hN;revert N;apply Pn.out));refine wk @Nat.zero_add ?_;(repeat(refine Pn.mk ?_;intro N hN))))
 refine aJ (fun n env st=>∃k:Nat,n=(nD)-k/\k<=(nD)/\env 9=.int .i64 (k:Int)/\(∀j:Nat,j<k->nm≠u++gP j)) (nD) ⟨0,by omega,by omega,sl @Nat.zero_add,fun _ h=>absurd h (Nat.not_lt_zero _)⟩ ?_
 rintro n_a env_a st_a ⟨k,rfl,ale,a9,j9⟩ dE
 have a0:=dE 0 (by kernel_rfl);have a1:=dE 1 (by kernel_rfl);have a8:=dE 8 (by kernel_rfl)
 simp only[go_sem, ↓reduceIte,Nat.reduceEqDiff,Nat.reduceAdd,Nat.reduceSub,Nat.reduceLeDiff,reduceCtorEq]at a0 a1 a8
 clear dE
 by_cases hk:(k:Int)<(nD:Int)
 ·have cl:∀{e:Env},(e 9=.int .i64 (IntKind.i64.wrap ((k:Int)+1)))->(nm≠u++gP k)->∃m0,m0<(nD)-k/\∃k:Nat,m0=(nD)-k/\k<=(nD)/\e 9=.int .i64 (k:Int)/\(∀j:Nat,j<k->nm≠u++gP j):=fun x1 x2=>⟨_,by omega,k+1,rfl,by omega,(by rw[x1,aA (by omega)]),(all_succ j9 x2)⟩
  have eO:k<nD:=by omega
  have Ik:=A9 u hu k (by omega)
  have nT:=yc (nm:=nm) (pre:=u) eO NO
  by_cases he:nm=u++gP k
  ·have hd:=decide_eq_true he
   have hv:=nT.1 he
   (repeat(first|((repeat(revert hN;revert N;apply Pn.out));refine wk (tw @a9 (tw @a0 (tw @a1 (tw @a8 (tw @hk @hd))))) ?_;(repeat(refine Pn.mk ?_;intro N hN)))|((try apply Or.inl);refine⟨_,ai.x (Ik) (sd (tw @a9 (tw @a0 (tw @a1 (tw @a8 (tw @hk @hd)))))),?_⟩;refine hN _ _ ?_;clear hN N)))
   exact bq (b:=(k:Int)) (.inl rfl) (sd @Nat.zero_add) hv.symm
  ·have hd:=decide_eq_false he
   (repeat(first|((repeat(revert hN;revert N;apply Pn.out));refine wk (tw @a9 (tw @a0 (tw @a1 (tw @a8 (tw @hk @hd))))) ?_;(repeat(refine Pn.mk ?_;intro N hN)))|((try apply Or.inl);refine⟨_,ai.x (Ik) (sd (tw @a9 (tw @a0 (tw @a1 (tw @a8 (tw @hk @hd)))))),?_⟩;refine hN _ _ ?_;clear hN N)))
   exact cl (sd (tw @a9 (tw @a0 (tw @a1 @a8)))) (he)
 ·have kK:k=nD:=by omega
  subst kK
  (try((repeat(revert hN;revert N;apply Pn.out));refine wk (tw @a9 (tw @a0 (tw @a1 (tw @a8 @hk)))) ?_;(repeat(refine Pn.mk ?_;intro N hN))))
  exact bq (b:=-1) (.inl rfl) (sd @Nat.zero_add) (Df NO fun n hn=>j9 n hn).symm
theorem yu (s:aq) (hF:g8 s) (l:List ak) (hA:nN s l) (p:bx) (d:Int) (hd:fU d 0 3=true):ai Tryz.prog 44 [.agg (aa s),.agg [.sl (l.map ah)],.agg (ao p),.int .i64 d] (.str (xn s l p d)):=by
 refine ai.body dP rfl fun hl n0=>?_
 have hn:s.aw.length<=9223372036854775807:=by
  have h1:=(hl (.agg (aa s)) (by simp)).HG (a:=.sl (s.aw.map aV)) (by simp[aa])
  simpa using h1.len
 clear hl
 have xq:=PI l p hA.1.Pv (by have:=hA.1.EF;omega)
 rw[ao]at xq ⊢
 by_cases h0:tX l p<0
 ·(repeat(first|((repeat(revert hN;revert N;apply Pn.out));refine wk (tw @aa.eq_1 @h0) ?_;(repeat(refine Pn.mk ?_;intro N hN)))|((try apply Or.inl);refine⟨_,ai.x (xq) (sd (tw @aa.eq_1 @h0)),?_⟩;refine hN _ _ ?_;clear hN N)))
  exact iL (.inl rfl) (vs:=[.str ⟨#[]⟩]) (sd @Nat.zero_add) (by rw[xn,if_pos h0];simp only[dJ,ko])
 ·have ht:=xK hA (p:=p) (by omega)
  have hg:xn s l p d=if cG (cD s (tX l p)) d=0 then⟨#[]⟩else(iX s (cG (cD s (tX l p)) d-1)).aB:=by rw[xn,if_neg h0]
  rw[hg]
  generalize tX l p=t at xq h0 ht
  obtain⟨a0,a1,a2⟩:=j5 ht
  have s1:=j0 (hF.nk _ a2) hd
  have gl:=hF.qT _ a2 _ (pK (hF.nk _ a2) hd)
  have d0:=(dr hd).1
  generalize cG (cD s t) d=g at s1 gl ⊢
  by_cases KU:g=0
  ·have e:=decide_eq_true KU
   (repeat(first|((repeat(revert hN;revert N;apply Pn.out));refine wk (tw @aa.eq_1 (tw @aU.eq_1 (tw @h0 (tw @a0 (tw @a1 (tw @s1 (tw @d0 @e))))))) ?_;(repeat(refine Pn.mk ?_;intro N hN)))|((try apply Or.inl);refine⟨_,ai.x (xq) (sd (tw @aa.eq_1 (tw @aU.eq_1 (tw @h0 (tw @a0 (tw @a1 (tw @s1 (tw @d0 @e)))))))),?_⟩;refine hN _ _ ?_;clear hN N)))
   exact iL (.inl rfl) (vs:=[.str ⟨#[]⟩]) (sd @Nat.zero_add) (by rw[if_pos KU];simp only[dJ,ko])
  ·have e:=decide_eq_false KU
   have hw:IntKind.i64.wrap (g-1)=g-1:=aQ (by omega)
   have kV:0<=g-1:=by omega
   have dW:(s.aw.map aV)[(g-1).toNat]? =some (aV (iX s (g-1))):=getD_map aV (by omega)
   (repeat(first|((repeat(revert hN;revert N;apply Pn.out));refine wk (tw @aa.eq_1 (tw @aU.eq_1 (tw @h0 (tw @a0 (tw @a1 (tw @s1 (tw @d0 (tw @e (tw @hw (tw @kV (tw @dW @aV.eq_1))))))))))) ?_;(repeat(refine Pn.mk ?_;intro N hN)))|((try apply Or.inl);refine⟨_,ai.x (xq) (sd (tw @aa.eq_1 (tw @aU.eq_1 (tw @h0 (tw @a0 (tw @a1 (tw @s1 (tw @d0 (tw @e (tw @hw (tw @kV (tw @dW @aV.eq_1)))))))))))),?_⟩;refine hN _ _ ?_;clear hN N)))
   exact iL (.inl rfl) (vs:=[.str (iX s (g-1)).aB]) (sd @Nat.zero_add) (by rw[if_neg KU];simp only[dJ,ko])
end V
end Go.Proofs.YtihgaadadaekmaaGreatDoor

namespace Go.Proofs.YtihgaadadaekmaaGreatDoor.V
open Go.RowKit Go.Shelf
attribute [local go_sem] Oper.semAt_some
structure nO (W:World) (v:Value) (l:List ak):Prop where
 sl:∃A c,v=.slice A l.length c/\(l.length<=c/\c<=maxLen)/\(l=[]∨∃b o,A=some ⟨b,o,none⟩/\∀i,i<l.length->W.cell? ⟨b,o+(i*3+0),none⟩=some (.int .i64 (bp l i).cz.fX)/\W.cell? ⟨b,o+(i*3+1),none⟩=some (.int .i64 (bp l i).cz.fy)/\W.cell? ⟨b,o+(i*3+2),none⟩=some (.int .i64 (bp l i).bw))
structure EX (K:World->World->Prop) (v:Value) (l:List ak):Prop where
 refl:∀W,K W W
 trans:∀{A B C:World},K A B->K B C->K A C
 of:∀{W W':World},Below W.heap.size W W'->K W W'
 size:∀{W W':World},K W W'->W.heap.size<=W'.heap.size
 typed:∀{W W':World},K W W'->∀(b:Nat) (cells:Array Value) (T:TypeId) (fr:Nat×Nat),W.heap[b]? =some (Obj.cells cells T fr)->T≠177->T≠196->W'.heap[b]? =W.heap[b]?
 pl:∀{W W':World},K W W'->nO W v l->nO W' v l
theorem rT {W:World} {b x:Nat} {v:Value} (h:W.cell? ⟨b,x,none⟩=some v):b<W.heap.size:=by
 rcases Nat.lt_or_ge b W.heap.size with h1|h1
 ·exact h1
 ·simp[World.cell?,Array.getElem?_eq_none h1]at h
theorem nO.below {W W':World} {v:Value} {l:List ak} (h:nO W v l) (k:Below W.heap.size W W'):nO W' v l:=by
 obtain⟨A,c,rfl,hm,hc⟩:=h.sl
 refine⟨A,c,rfl,hm,?_⟩
 rcases hc with h0|⟨b,o,rfl,jz⟩
 ·exact .inl h0
 ·refine .inr ⟨b,o,rfl,fun i hi=>?_⟩
  obtain⟨h1,h2,h3⟩:=jz i hi
  have hb:=rT h1
  exact⟨(k.cell (p:=⟨b,_,none⟩) hb).trans h1,(k.cell (p:=⟨b,_,none⟩) hb).trans h2,(k.cell (p:=⟨b,_,none⟩) hb).trans h3⟩
theorem nO.ew {P:Program} {W:World} {v:Value} {l:List ak} (h:nO W v l):jk P W (fun b=>b<W.heap.size) (.sl (l.map ah)) v:=by
 obtain⟨A,c,rfl,hm,hc⟩:=h.sl
 rcases hc with rfl|⟨b,o,rfl,jz⟩
 ·exact .zE A c (by simpa using hm.2)
 by_cases Pg:l=[]
 ·subst Pg;exact .zE _ c (by simpa using hm.2)
 ·have kC:0<l.length:=List.length_pos_iff.2 Pg
  have hb:=rT (jz 0 kC).1
  refine .sl (l.map ah) b o l.length c 3 (fun i j=>if j=0 then .int .i64 (bp l i).cz.fX else if j=1 then .int .i64 (bp l i).cz.fy else .int .i64 (bp l i).bw) (by simp) hm.1 hm.2 hb (fun cs dh=>?_) (fun cs dh a ha=>?_) (fun i j hi hj=>?_) (fun i j cs a hi hj=>?_)
  ·obtain⟨x,_,rfl⟩:=List.mem_map.1 dh;rfl
  ·obtain⟨x,_,rfl⟩:=List.mem_map.1 dh
   simp[ah]at ha
   rcases ha with rfl|rfl|rfl<;>rfl
  ·obtain⟨h1,h2,h3⟩:=jz i hi
   match j,hj with
   |0,_=>exact h1
   |1,_=>exact h2
   |2,_=>exact h3
   |j+3,hj=>omega
  ·have oe:i<l.length:=by have:=(List.getElem?_eq_some_iff.1 hi).1;simpa using this
   rw[ga oe]at hi
   injection hi with hi
   subst hi
   match j,hj with
   |0,hj=>simp[ah]at hj;subst hj;exact .int _ _
   |1,hj=>simp[ah]at hj;subst hj;exact .int _ _
   |2,hj=>simp[ah]at hj;subst hj;exact .int _ _
   |j+3,hj=>simp[ah]at hj
theorem xU {P:Program} (hm:P.follows .mixedOrders=true) {f:Nat} {args:List AV} {vs:Array Value} {w:World} {r:AV} (h:ai P f args r) (hr:∀g r0,fh g 6 r0=some r->r0=r) (hA:eP P w (fun b=>b<w.heap.size) (fun _=>none) args vs):
  Calls P f vs w fun e w'=>∃D ι u,e=.returned u/\cv P w' D ι r u/\Below w.heap.size w w':=by
 have hs:=gr hm (h 0) w.heap.size (fun b=>b<w.heap.size) (fun _=>none) w vs ⟨Nat.le_refl _,fun _ h=>h,fun id r h=>(by cases h),fun id jP r r' B B' h=>(by cases h)⟩ (fun id h=>absurd rfl h) hA
 refine hs.mono ?_
 rintro e w' ⟨r0,g',n',D',ι',u,rfl,⟨r',hz,rfl⟩,dS,hsim,_,_,fY⟩
 have:=hr _ _ hz
 subst this
 exact⟨D',ι',u,rfl,fY,dS.below⟩
theorem mY {g:Rows} {n:Nat} {a:AV} {k:IntKind} {m:Int} (h:fh g (n+1) a=some (.int k m)):a=.int k m:=by
 cases a<;>rw[fh]at h<;>simp_all
 all_goals (repeat' (split at h))<;>simp_all
theorem Ak {g:Rows} {a:AV} {x y:Int} (h:fh g 6 a=some (.agg [.int .i64 x,.int .i64 y])):a=.agg [.int .i64 x,.int .i64 y]:=by
 cases a with
 |agg cs=>
  rw[Ca]at h
  simp only[Option.map_eq_some_iff,AV.agg.injEq,exists_eq_right]at h
  match cs,h with
  |[],h=>rw[bh]at h;simp at h
  |[a],h=>
   rw[aM,bh]at h
   cases ha:fh g 5 a<;>simp[ha]at h
  |[a,b],h=>
   rw[aM,aM,bh]at h
   cases ha:fh g 5 a<;>cases hb:fh g 5 b<;>simp[ha,hb]at h
   obtain⟨rfl,rfl⟩:=h
   rw[mY ha,mY hb]
  |a::b::c::r,h=>
   rw[aM,aM,aM]at h
   cases ha:fh g 5 a<;>cases hb:fh g 5 b<;>cases hc:fh g 5 c<;>cases hd:du g 5 r<;>simp[ha,hb,hc,hd]at h
 |_=>rw[fh]at h<;>simp_all<;>(repeat' (split at h))<;>simp_all
theorem Bu (W:World) (p:bx) (d:Int) (hd:fU d 0 3=true) (hx:iB p.fX) (hy:iB p.fy):Calls Tryz.prog 188 #[.agg #[.int .i64 p.fX,.int .i64 p.fy],.int .i64 d] W fun e W'=>e=.returned (.agg #[.int .i64 (ez p d).fX,.int .i64 (ez p d).fy])/\Below W.heap.size W W':=by
 refine(xU mixed (LM p d hd hx hy) (fun g r0 h=>Ak h) ?_:Calls _ _ _ _ _).mono ?_
 ·exact jr (vs:= #[.int .i64 d]) (.agg _ _ (fun j=>if j=0 then .int .i64 p.fX else .int .i64 p.fy) rfl (fun a ha=>by simp[ao]at ha;rcases ha with rfl|rfl<;>rfl) (fun j hj=>by match j,hj with|0,_=>rfl|1,_=>rfl|j+2,hj=>simp[ao]at hj;omega) (fun j a ha=>by match j,ha with|0,ha=>simp[ao]at ha;subst ha;exact .int _ _|1,ha=>simp[ao]at ha;subst ha;exact .int _ _|j+2,ha=>simp[ao]at ha)) (jr (vs:= #[]) (.int _ _) tj)
 ·rintro e W' ⟨D,ι,u,rfl,hr,hB⟩
  refine⟨?_,hB⟩
  obtain⟨vs,f,rfl,eT,_,h1,h2⟩:=gT hr
  have v0:=h1 0 (by simp[ao])
  have v1:=h1 1 (by simp[ao])
  rw[db (h2 0 _ rfl)]at v0
  rw[db (h2 1 _ rfl)]at v1
  obtain⟨vl⟩:=vs
  match vl,eT with
  |[a,b],_=>
   simp at v0 v1
   rw[v0,v1]
theorem ux (W:World) (l:List ak) (v:Value) (hP:nO W v l) (p:bx) (hR:xD l) (H0:l.length<=1048576):Calls Tryz.prog 187 #[.agg #[v],.agg #[.int .i64 p.fX,.int .i64 p.fy]] W fun e W'=>e=.returned (.int .i64 (fx l p))/\Below W.heap.size W W':=by
 refine(xU mixed (Eb l p hR H0) (fun g r0 h=>mY h) ?_:Calls _ _ _ _ _).mono ?_
 ·exact jr (vs:= #[.agg #[.int .i64 p.fX,.int .i64 p.fy]]) (.agg _ _ (fun _=>v) rfl (fun a ha=>by simp at ha;rw[ha];rfl) (fun j hj=>by match j,hj with|0,_=>rfl|j+1,hj=>simp at hj) (fun j a ha=>by match j,ha with|0,ha=>simp at ha;subst ha;exact hP.ew|j+1,ha=>simp at ha)) (jr (vs:= #[]) (.agg _ _ (fun j=>if j=0 then .int .i64 p.fX else .int .i64 p.fy) rfl (fun a ha=>by simp[ao]at ha;rcases ha with rfl|rfl<;>rfl) (fun j hj=>by match j,hj with|0,_=>rfl|1,_=>rfl|j+2,hj=>simp[ao]at hj;omega) (fun j a ha=>by match j,ha with|0,ha=>simp[ao]at ha;subst ha;exact .int _ _|1,ha=>simp[ao]at ha;subst ha;exact .int _ _|j+2,ha=>simp[ao]at ha)) tj)
 ·rintro e W' ⟨D,ι,u,rfl,hr,hB⟩
  exact⟨by rw[db hr],hB⟩
theorem pg {W W':World} (h:Below W.heap.size W W'):W.grownBy W' none:=⟨h.os,h.tape,h.output,h.size,fun k hk _=>h.block k hk⟩
def y7 (l:List ak) (i:Nat) (d:Int):List (Nat×Nat×Int):=if 0<=fx l (ez (bp l i).cz d)then[(i,(fx l (ez (bp l i).cz d)).toNat,d)]else[]
def jT (l:List ak) (i m:Nat):List (Nat×Nat×Int):=(List.range m).flatMap fun j:Nat=>y7 l i (1-(j:Int))
def kf (l:List ak) (n:Nat):List (Nat×Nat×Int):=(List.range n).flatMap fun i=>jT l i 2
theorem k5 (l:List ak) (n:Nat):kf l (n+1)=kf l n++jT l n 2:=by simp[kf,List.range_succ]
theorem lG (l:List ak) (i m:Nat):jT l i (m+1)=jT l i m++y7 l i (1-(m:Int)):=by simp[jT,List.range_succ]
theorem Lw (l:List ak) {k m:Nat} (hk:k<l.length) (hm:m<=2):kf l k++jT l k m <+:kf l l.length:=by
 have h1:∀d,kf l k <+:kf l (k+d):=fun d=>by
  induction d with
  |zero=>exact List.prefix_refl _
  |succ d ih=>rw[<-Nat.add_assoc,k5 l (k+d)];exact ih.trans (List.prefix_append _ _)
 have h2:∀d,kf l (k+1) <+:kf l (k+1+d):=fun d=>by
  induction d with
  |zero=>exact List.prefix_refl _
  |succ d ih=>rw[<-Nat.add_assoc,k5 l (k+1+d)];exact ih.trans (List.prefix_append _ _)
 have h3:=h2 (l.length-(k+1))
 rw[show k+1+(l.length-(k+1))=l.length by omega,k5]at h3
 refine List.IsPrefix.trans ?_ h3
 have h4:jT l k m <+:jT l k 2:=by
  have:m=0∨m=1∨m=2:=ab
  rcases this with rfl|rfl|rfl
  ·exact List.nil_prefix
  ·rw[lG l k 1];exact List.prefix_append _ _
  ·exact List.prefix_refl _
 exact(List.prefix_append_right_inj _).2 h4
def MS (l:List ak) (x:Nat×Nat×Int):Prop:=x.1<l.length/\x.2.1<l.length/\(0<=x.2.2/\x.2.2<=1)
def BZ (x:Nat×Nat×Int):Array Value:= #[.agg #[.int .i64 (x.1:Int),.int .i64 (x.2.1:Int)],.int .i64 x.2.2]
theorem Iw (l:List ak) (p:bx) (h:0<l.length:=by omega):fx l p<(l.length:Int):=by
 unfold fx
 split<;>omega
theorem Oq (l:List ak) (hA:jI l) (q Ba:Nat) (vS:Value) (K:World->World->Prop) (kl:EX K vS l) (J Jx:List (Nat×Nat×Int)->World->Prop) (n:Nat) (hn:1<=n)
  (hY:∀pre x W,J pre W->pre.length<(kf l l.length).length->MS l x->YieldAt Fence.wide (n-1) Tryz.prog q (BZ x) W fun e W'=>
   (e=.returned (.bool true)/\J (pre++[x]) W'/\K W W')∨(e=.returned (.bool false)/\Jx (pre++[x]) W'))
  (W:World) (hJ:AbidesFrom W.heap.size J) (KH:W.heap[Ba]? =some (.cells #[vS] 42 (0,0))) (hP:nO W vS l) (h0:J [] W):
  CallsIn Fence.wide n Tryz.prog 186 #[.func (.yield q) #[] #[],.pointer (some ⟨Ba,0,none⟩)] W fun e W'=>(∃v,e=.returned v)/\
   ((∃ys,ys=kf l l.length/\J ys W')∨(∃pre,pre <+:kf l l.length/\Jx pre W')):=by
 obtain⟨A,cp,rfl,_,_⟩:=hP.sl
 refine callsIn_of_wp Tryz.func186 rfl trivial ?_ rfl
 simp only[Tryz.ntmps186,List.size_toArray,List.length_cons,List.length_nil,Nat.reduceAdd,Nat.reduceSub,Array.replicate_succ,Array.replicate_zero,List.push_toArray,List.append_toArray,List.nil_append,List.cons_append]
 have iU:W.cell? ⟨Ba,0,none⟩=some (.slice A l.length cp):=by simp[World.cell?,KH]
 gi_wp2
 gi_loopw [11] (fun i wr=>∃k:Nat,k<=l.length/\i=.int .i64 k/\J (kf l k) wr/\K W wr)
  (fun i _=>l.length-(intOf i).toNat)
 case atStart=>exact⟨0,Nat.zero_le _,rfl,h0,kl.refl _⟩
 case round=>
  obtain⟨k,hk,rfl,hJs,hKt⟩:=hrel
  by_cases dD:k<l.length
  ·have dh:∃b o,A=some ⟨b,o,none⟩/\wr.cell? ⟨b,o+k*3,none⟩=some (.int .i64 (bp l k).cz.fX)/\wr.cell? ⟨b,o+k*3+1,none⟩=some (.int .i64 (bp l k).cz.fy)/\wr.cell? ⟨b,o+k*3+2,none⟩=some (.int .i64 (bp l k).bw):=by
    obtain⟨A',c',hv,_,hc⟩:=(kl.pl hKt hP).sl
    cases hv
    rcases hc with rfl|⟨b,o,rfl,jz⟩
    ·simp at dD
    ·obtain⟨h1,h2,h3⟩:=jz k dD
     exact⟨b,o,rfl,by simpa using h1,by rw[Nat.add_assoc];exact h2,by rw[Nat.add_assoc];exact h3⟩
   obtain⟨b,o,rfl,hx,hy',ht⟩:=dh
   gi_wp2
   obtain⟨W2,Nv⟩:∃W2,(wr.alloc (.cells #[.int .i64 (bp l k).cz.fX,.int .i64 (bp l k).cz.fy,.int .i64 (bp l k).bw] 114)).alloc (.cells #[.int .i64 1,.int .i64 0] 2)=W2:=⟨_,rfl⟩
   have nS:Below wr.heap.size wr W2:=by rw[<-Nv];exact((Below.refl _ wr).alloc (Nat.le_refl _) _).alloc (by simp) _
   have Qb:W2.heap[wr.heap.size]? =some (.cells #[.int .i64 (bp l k).cz.fX,.int .i64 (bp l k).cz.fy,.int .i64 (bp l k).bw] 114 (0,0)):=by
    rw[<-Nv,Below.heap_alloc _ _ _ (by simp)];exact World.alloc_heap_new _ _
   have Qa:W2.heap[wr.heap.size+1]? =some (.cells #[.int .i64 1,.int .i64 0] 2 (0,0)):=by
    have:=World.alloc_heap_new (wr.alloc (.cells #[.int .i64 (bp l k).cz.fX,.int .i64 (bp l k).cz.fy,.int .i64 (bp l k).bw] 114)) (.cells #[.int .i64 1,.int .i64 0] 2)
    rw[World.size_alloc]at this
    rw[<-Nv];exact this
   have Np:K W W2:=kl.trans hKt (kl.of nS)
   have hJ2:J (kf l k++jT l k 0) W2:=by
    have:=hJ _ _ _ none hJs (pg nS) (fun r h=>by cases h)
    simpa[jT]using this
   rw[Nv]
   clear Nv
   generalize wr=w1 at *
   gi_loopw [18] (fun j wr=>∃m:Nat,m<=2/\j=.int .i64 m/\J (kf l k++jT l k m) wr/\K W2 wr)
    (fun j _=>2-(intOf j).toNat)
   case atStart=>exact⟨0,ab,rfl,hJ2,kl.refl _⟩
   case round=>
    obtain⟨m,hm,rfl,hJm,Jv⟩:=hrel
    have hm0:m=0∨m=1∨m=2:=ab
    by_cases JI:m<2
    ·have hkd:=kl.typed Jv _ _ _ _ Qa (by decide) (by decide)
     have Hu:=kl.typed Jv _ _ _ _ Qb (by decide) (by decide)
     have hka:=kl.typed (kl.trans Np Jv) _ _ _ _ KH (by decide) (by decide)
     have cd:wr.cell? ⟨w1.heap.size+1,m,none⟩=some (.int .i64 (1-(m:Int))):=by
      rw[World.cell?_of_block hkd]
      rcases hm0 with rfl|rfl|rfl
      ·simp[World.cell?,Qa]
      ·simp[World.cell?,Qa]
      ·omega
     have ct0:wr.cell? ⟨w1.heap.size,0,none⟩=some (.int .i64 (bp l k).cz.fX):=by rw[World.cell?_of_block Hu];simp[World.cell?,Qb]
     have ct1:wr.cell? ⟨w1.heap.size,1,none⟩=some (.int .i64 (bp l k).cz.fy):=by rw[World.cell?_of_block Hu];simp[World.cell?,Qb]
     have ca:wr.cell? ⟨Ba,0,none⟩=some (.slice (some ⟨b,o,none⟩) l.length cp):=by rw[World.cell?_of_block hka];simp[World.cell?,KH]
     have hPw:nO wr (.slice (some ⟨b,o,none⟩) l.length cp) l:=kl.pl (kl.trans Np Jv) hP
     have hba:Ba<wr.heap.size:=by
      have h1:=(Array.getElem?_eq_some_iff.1 KH).1
      have h2:=kl.size (kl.trans Np Jv)
      omega
     have hdm:fU (1-(m:Int)) 0 3=true:=jx ab
     have hpb:=GF (hA.pt dD)
     have MC:=fun w0=>Bu w0 (bp l k).cz (1-(m:Int)) hdm hpb.1 hpb.2
     have hPd:nO wr.drew (.slice (some ⟨b,o,none⟩) l.length cp) l:=hPw.below ⟨rfl,rfl,rfl,Nat.le_refl _,fun _ _=>rfl⟩
     have cad:wr.drew.cell? ⟨Ba,0,none⟩=some (.slice (some ⟨b,o,none⟩) l.length cp):=ca
     have ctd0:wr.drew.cell? ⟨w1.heap.size,0,none⟩=some (.int .i64 (bp l k).cz.fX):=ct0
     have ctd1:wr.drew.cell? ⟨w1.heap.size,1,none⟩=some (.int .i64 (bp l k).cz.fy):=ct1
     have hfw:=hA.EF
     have NP:=hA.Pv
     have QD:=mixed
     gi_wp2
     gi_region_with_o (first|(refine⟨trivial,?_⟩;gi_at_call 188;refine(callsIn_wide.2 (MC _)).mono ?_;rintro e w3 ⟨rfl,yy⟩;have ca3:=(yy.cell (p:=⟨Ba,0,none⟩) hba).trans cad)|(refine⟨trivial,?_⟩;gi_at_call 187;refine(callsIn_wide.2 (ux _ l _ (hPd.below yy) (ez (bp l k).cz (1-(m:Int))) NP ab)).mono ?_;rintro e w4 ⟨rfl,hB4⟩))
     all_goals
      have KG:Below wr.heap.size wr w4:=(show Below wr.heap.size wr wr.drew from⟨rfl,rfl,rfl,Nat.le_refl _,fun _ _=>rfl⟩).trans (yy.trans (hB4.mono yy.size))
      have hJ4:J (kf l k++jT l k m) w4:=hJ _ _ _ none hJm (pg KG) (fun r h=>by cases h)
      have um:=Lw l dD (m:=m+1) ab
      rw[lG,<-List.append_assoc]at um
      have uk:=lG l k m
      have hw:wrap64 ((m:Int)+1)=((m+1:Nat):Int):=by unfold wrap64;omega
      by_cases wv:0<=fx l (ez (bp l k).cz (1-(m:Int)))
      ·have fb:((fx l (ez (bp l k).cz (1-(m:Int)))).toNat:Int)=fx l (ez (bp l k).cz (1-(m:Int))):=ab
       rw[y7,if_pos wv]at um uk
       obtain⟨fn,tmps,assign,body,hy,hR⟩:=hY _ (k,(fx l (ez (bp l k).cz (1-(m:Int)))).toNat,1-(m:Int)) w4 hJ4 (by
        have:=um.length_le
        simp only[List.length_append,List.length_cons,List.length_nil]at this ⊢
        omega) ⟨dD,by
        have:fx l (ez (bp l k).cz (1-(m:Int)))<(l.length:Int):=Iw _ _
        show(fx l (ez (bp l k).cz (1-(m:Int)))).toNat<l.length
        omega,by show 0<=1-(m:Int);omega,by show 1-(m:Int)<=1;omega⟩
       simp only[BZ,fb]at hy
       gi_wp2
       refine hR.mono ?_
       rintro e W3 (⟨rfl,hJ3,hk3⟩|⟨rfl,hJx3⟩)
       ·gi_wp2
        go_roundw
        case rel=>exact⟨m+1,ab,by simp,by rw[uk,<-List.append_assoc];exact hJ3,kl.trans (kl.trans Jv (kl.of KG)) hk3⟩
        case measure=>simp[intOf];omega
       ·gi_wp2
        refine bodyPost_ret (results_none rfl _ _ _) rfl ?_
        exact⟨⟨_,rfl⟩,.inr ⟨_,um,hJx3⟩⟩
      ·rw[y7,if_neg wv,List.append_nil]at uk
       gi_wp2
       refine⟨fun _ h=>(by cases h),?_⟩
       gi_wp2
       go_roundw
       case rel=>exact⟨m+1,ab,by simp,by rw[uk];exact hJ4,kl.trans Jv (kl.of KG)⟩
       case measure=>simp[intOf];omega
    ·obtain rfl:m=2:=ab
     have hfw:=hA.EF
     gi_wp2
     go_roundw
     case rel=>exact⟨k+1,ab,by simp,by rw[k5];exact hJm,kl.trans Np Jv⟩
     case measure=>simp[intOf];omega
  ·obtain rfl:k=l.length:=ab
   gi_wp2
   go_end0
   exact⟨⟨_,rfl⟩,.inl ⟨_,rfl,hJs⟩⟩
theorem wQ (n:Nat) (vS:Value) (w:World):CallsIn Fence.wide n Tryz.prog 172 #[.agg #[vS]] w fun e w'=>e=.returned (.func (.func 186) #[] #[.pointer (some ⟨w.heap.size,0,none⟩)])/\w'=w.alloc (.cells #[vS] 42):=by
 refine callsIn_of_wp Tryz.func172 rfl trivial ?_ rfl
 simp only[Tryz.ntmps172,List.size_toArray,List.length_cons,List.length_nil,Nat.reduceAdd,Nat.reduceSub,Array.replicate_succ,Array.replicate_zero,List.push_toArray,List.append_toArray,List.nil_append,List.cons_append]
 gi_wp2
 go_ret
 exact⟨rfl,rfl⟩
abbrev J7 (l:List ak):Type:={x:Nat×Nat×Int // MS l x}
theorem Gs (l:List ak) (hA:jI l) (Ba n:Nat) (hn:1<=n) (vS:Value) (K:World->World->Prop) (kl:EX K vS l) (w:World) (KH:w.heap[Ba]? =some (.cells #[vS] 42 (0,0))) (hP:nO w vS l):
  SeqStopsK Fence.wide n Tryz.prog 186 #[.pointer (some ⟨Ba,0,none⟩)] (fun x:J7 l=>BZ x.1) K (fun ys=>ys.map (·.1)=kf l l.length) (fun _=>True) (kf l l.length).length w:=fun q J Jx W hW hJ _ hY h0=>by
 refine(Oq l hA q Ba vS K kl (fun ys W=>∃zs:List (J7 l),zs.map (·.1)=ys/\J zs W) (fun ys W=>∃zs:List (J7 l),zs.map (·.1)=ys/\Jx zs W) n hn (fun pre x W1 hJ1 dD sU=>?_) W (fun s A B row ⟨zs,e,h⟩ hg hr=>⟨zs,e,hJ zs A B row h hg hr⟩) ((hW.block Ba (Array.getElem?_eq_some_iff.1 KH).1).trans KH) (hP.below hW) ⟨[],rfl,h0⟩).mono ?_
 ·obtain⟨zs,rfl,h1⟩:=hJ1
  refine YieldAt.mono (hY zs ⟨x,sU⟩ W1 h1 (by simpa using dD)) ?_
  rintro e W' (⟨h2,h3,h4⟩|⟨h2,h3⟩)
  ·exact .inl ⟨h2,⟨zs++[⟨x,sU⟩],by simp,h3⟩,h4⟩
  ·exact .inr ⟨h2,⟨zs++[⟨x,sU⟩],by simp,h3⟩⟩
 ·rintro e W' ⟨h1,⟨ys,rfl,zs,h2,h3⟩|⟨pre,_,zs,h2,h3⟩⟩
  ·exact⟨h1,.inl ⟨zs,h2,h3⟩⟩
  ·exact⟨h1,.inr ⟨zs,trivial,h3⟩⟩
def vR (s:aq) (l:List ak) (x:Nat×Nat×Int):List PB:=if 0<iw s (bp l x.1).bw x.2.2 (bp l x.2.1).bw then[⟨x.1,x.2.1,iw s (bp l x.1).bw x.2.2 (bp l x.2.1).bw⟩]else[]
theorem Fg (s:aq) (l:List ak):bW s l=(kf l l.length).flatMap (vR s l):=by
 have h1:∀i d,lp s l i d=(y7 l i d).flatMap (vR s l):=fun i d=>by
  unfold lp y7
  by_cases h:0<=fx l (ez (bp l i).cz d)
  ·rw[if_pos h]
   simp only[List.flatMap_cons,List.flatMap_nil,List.append_nil,vR]
   by_cases h2:0<iw s (bp l i).bw d (bp l (fx l (ez (bp l i).cz d)).toNat).bw
   ·rw[if_pos ⟨h,h2⟩,if_pos h2]
   ·rw[if_neg fun hc=>h2 hc.2,if_neg h2]
  ·rw[if_neg h,if_neg fun hc=>h hc.1];rfl
 unfold bW fI kf
 rw[List.flatMap_assoc]
 congr 1
 funext i
 unfold fo jT
 rw[List.flatMap_assoc]
 congr 1
 funext j
 exact h1 i _
end Go.Proofs.YtihgaadadaekmaaGreatDoor.V

namespace Go.Proofs.YtihgaadadaekmaaGreatDoor.V
open Go.RowKit
variable {P:Program} {hs:Nat}
theorem EC {q n i:Nat} {ops:Array Oper} {Q:Exit->Act->World->Prop} {K K':Act->World->Prop} {a:Act} {w:World} (lD:∀(j:Nat) (o:Oper),ops[j]? =some o->∀c,o.op≠.defer c) (jD:¬LetsOut Q) (hK:∀a w,K a w->K' a w) (h:wpOp P ops Q i K a w):wpOpIn (Fence.wide.inRound q) n P ops Q i K' a w:=by
 unfold wpOp at h
 unfold wpOpIn
 split at h
 ·rename_i ho;simp only[ho];exact hK _ _ h
 ·rename_i o ho
  simp only[ho]
  split at h
  ·rename_i hw
   rw[if_pos hw]
   replace h:=h.resolve_right fun hc=>jD hc.2
   refine⟨fun _ _=>trivial,?_⟩
   rw[Oper.semAt_eq _ _ _ (lD i o ho)]
   unfold Oper.wp at h
   generalize (execOp a.eval o).run P w=r at *
   cases r with
   |ok m w'=>
    cases m<;>simp only[Oper.upon,Oper.uponIn]at h ⊢
    case value=>exact hK _ _ h
    case skip=>exact hK _ _ h
    case defer=>exact hK _ _ h
    case enter f args=>
     refine⟨fun h=>by simp[Fence.wide]at h,CallsIn.inRound q (callsIn_wide.2 (h.mono fun e HB he=>?_))⟩
     cases e with
     |returned v=>exact hK _ _ he
     |panicked c=>exact he
     |outgrown=>exact he
    case row r args=>exact⟨fun h=>by simp[Fence.wide]at h,fun c cs _=>let ⟨v,HB,h1,s⟩:=h c cs;⟨v,HB,hK _ _ h1,stepsIn_wide.2 s⟩⟩
   |halt x w'=>cases x<;>simp only[Oper.upon,Oper.uponIn]at h ⊢;exact h
  ·rename_i hw
   rw[if_neg hw]
   exact⟨fun _ _=>trivial,hK _ _ h⟩
theorem tO {q n:Nat} {md:Region.Mode} {ops:Array Oper} {Q:Exit->Act->World->Prop} (lD:∀(j:Nat) (o:Oper),ops[j]? =some o->∀c,o.op≠.defer c) (jD:¬LetsOut Q):∀(fuel:Nat) (listed:Array Bool) (a:Act) (w:World),wpAny P md ops Q fuel listed a w->wpAnyIn (Fence.wide.inRound q) n P md ops Q fuel listed a w
 |0,_,_,_,h=>h
 |fuel+1,listed,_,_,h=>⟨h.1,fun i hi=>EC lD jD (fun a w=>tO lD jD fuel _ a w) (h.2 i hi)⟩
def Cq:Op->Bool
 | .defer _=>true
 |_=>false
theorem Gv {ops:Array Oper} (h:(ops.all fun o=> !Cq o.op)=true):∀(j:Nat) (o:Oper),ops[j]? =some o->∀c,o.op≠.defer c:=fun j o hj c hc=>by
 have:=Array.all_eq_true_iff_forall_mem.1 h o (Array.mem_of_getElem? hj)
 rw[hc]at this
 simp[Cq]at this
theorem wT (hm:P.follows .mixedOrders=true) {nt site0 id q n:Nat} {ops:Array Oper} {vl:List aW} (h:pb P nt site0 ops true false=some vl) (lD:∀(j:Nat) (o:Oper),ops[j]? =some o->∀c,o.op≠.defer c)
  {K:Env->ax->Prop} {env:Env} {σ:ax} {a:Act} {w:World} {D:Nat->Prop} {ι:Names} {Q:Exit->Act->World->Prop} (hv:wpOps (Sound P) true vl K env σ) (dS:St P hs nt D ι env σ a w)
  (hK:∀gJ σ' a' w' D' ι',K gJ σ'->Step hs D ι w D' ι' w'->St P hs nt D' ι' gJ σ' a' w'->a'.defers=a.defers->Q .normal a' w'):(Code.region id ops true).wpIn (Fence.wide.inRound q) n P Q a w:=by
 have cN:∃hidden qE,allM (kS P ops nt site0 true false (iP ops) hidden) ops.toList 0=some qE/\vl=qE/\mP ops qE (iP ops)=true:=by
  unfold pb at h
  simp only[if_true,Bool.not_true,Bool.false_or]at h
  split at h
  ·rename_i qE h'
   split at h
   ·rename_i sU;simp at h;exact⟨_,qE,h',h.symm,sU⟩
   ·cases h
  ·cases h
 obtain⟨hidden,qE,cN,rfl,sU⟩:=cN
 obtain⟨po,T0⟩:=dS.drew
 obtain⟨hlen,_⟩:=mE cN
 have jN:vl.length=ops.size:=by rw[hlen];simp
 have Ao:=tM (X:=Sound P) (K:=K) (n:=σ.next) sU jN vl 0 (Array.replicate ops.size false) env σ.get (by simp) (by simp) (fun i hi=>by simp[hi]) (by simp[jN]) (fun k i h=>by
  exfalso
  rcases Nat.lt_or_ge k ops.size with hk|hk
  ·simp[hk]at h
  ·simp[Nat.not_lt.2 hk]at h) hv
 rw[jN]at Ao
 have hw:=uF (Q:=fun e a w=>e=.normal/\Q .normal a w) cN ops.size _ env σ.get a w.drew D ι (fun _=>False) Ao po.HA po.used (fun _ h=>h.elim) po.env po.size fun jm g1 a1 w1 D1 ι1 U1 hk T S1 PF E1 xw hd=>⟨rfl,hK jm ⟨g1,σ.next+1⟩ a1 w1 D1 ι1 hk (T0.trans T) ⟨S1,PF.next,E1,xw⟩ hd⟩
 have fb:=tO (q:=q) (n:=n) (Q:=fun e a w=>e=.normal/\Q .normal a w) lD (by rintro⟨_,_,hc,_⟩;cases hc) ops.size _ a w.drew hw
 refine wpIn_mono (wpIn_region_any (id:=id) hm fb) ?_
 rintro e a w ⟨rfl,h⟩
 exact h
end Go.Proofs.YtihgaadadaekmaaGreatDoor.V

namespace Go.Proofs.YtihgaadadaekmaaGreatDoor.V
open Go.RowKit Go.Shelf
attribute [local go_sem] Oper.semAt_some
def gp (n₀:Nat) (W W':World):Prop:=W.heap.size<=W'.heap.size/\(∀(b:Nat) (cells:Array Value) (T:TypeId) (fr:Nat×Nat),W.heap[b]? =some (Obj.cells cells T fr)->T≠177->T≠196->W'.heap[b]? =W.heap[b]?)/\∀k,k<n₀->k<W.heap.size->W'.heap[k]? =W.heap[k]?
theorem gp.trans {n₀:Nat} {A B C:World} (h:gp n₀ A B) (k:gp n₀ B C):gp n₀ A C:=⟨Nat.le_trans h.1 k.1,fun b cells T fr hb h1 h2=>by
 have e:=h.2.1 b cells T fr hb h1 h2
 rw[<-e]at hb ⊢
 exact k.2.1 b cells T fr hb h1 h2,fun b hb hs=>(k.2.2 b hb (Nat.lt_of_lt_of_le hs h.1)).trans (h.2.2 b hb hs)⟩
theorem gp.of {n₀:Nat} {W W':World} (h:Below W.heap.size W W'):gp n₀ W W':=⟨h.size,fun b cells T fr hb _ _=>h.block b (Array.getElem?_eq_some_iff.1 hb).1,fun k _ hs=>h.block k hs⟩
theorem gp.refl (n₀:Nat) (W:World):gp n₀ W W:=⟨Nat.le_refl _,fun _ _ _ _ _ _ _=>rfl,fun _ _ _=>rfl⟩
theorem gp.b {n₀ m:Nat} (hm:n₀<=m) (W:World) (l:Nat) (o o':Obj) (hl:m<=l) (h:W.heap[l]? =some o) (hc:o.isCells=false) (_:o.isWalk=false):gp n₀ W (W.putObj l o'):=by
 refine⟨by simp,fun b cells T fr hb _ _=>?_,fun k hk _=>World.putObj_heap_other ab⟩
 by_cases oU:b=l
 ·subst oU;rw[h]at hb;cases hb;cases hc
 ·exact World.putObj_heap_other oU
def HK (bs:List PB):List Value:=bs.flatMap fun b=>[.int .i64 b.a,.int .i64 b.b,.int .i64 b.s]
theorem Fa (bs:List PB) (b:PB):HK (bs++[b])=HK bs++[.int .i64 b.a,.int .i64 b.b,.int .i64 b.s]:=by simp[HK]
def l9 (s:aq) (l:List ak) (pre:List (J7 l)):List PB:=(pre.map (·.1)).flatMap (vR s l)
theorem uI (s:aq) (l:List ak) (pre:List (J7 l)) (x:J7 l):l9 s l (pre++[x])=l9 s l pre++vR s l x.1:=by simp[l9]
theorem E9 (s:aq) (l:List ak) (x:Nat×Nat×Int):(vR s l x).length<=1:=by
 unfold vR;split<;>simp
theorem Fb (s:aq) (l:List ak) (pre:List (J7 l)):(l9 s l pre).length<=pre.length:=by
 unfold l9
 induction pre with
 |nil=>simp
 |cons x r ih=>
  have:=E9 s l x.1
  simp only[List.map_cons,List.flatMap_cons,List.length_append,List.length_cons]at ih ⊢
  omega
theorem vw (l:List ak) (i:Nat):∀m,(jT l i m).length<=m
 |0=>by simp[jT]
 |m+1=>by
  rw[lG,List.length_append]
  have:=vw l i m
  have:(y7 l i (1-(m:Int))).length<=1:=by unfold y7;split<;>simp
  omega
theorem y8 (l:List ak):∀n,(kf l n).length<=n*2
 |0=>by simp[kf]
 |n+1=>by
  rw[k5,List.length_append]
  have:=y8 l n
  have:=vw l n 2
  omega
theorem yC {β:Type} (B:Nat) (c:Array Value) (t:TypeId) (fr:Nat×Nat):Own (fun(_:β) W=>W.heap[B]? =some (.cells c t fr)):=fun _ X _ row h hg hr=>(hg.block B (Array.getElem?_eq_some_iff.1 h).1 (fun e=>by
 obtain⟨o,ho,hc⟩:=hr B e.symm
 rw[h]at ho;cases ho;cases hc)).trans h
theorem gp.app {n₀:Nat} {W w1:World} {B k:Nat} {v v':Value} {xs:List Value} {tmp:Obj} (hv:Boxed W B 177 v) (e9:W.ownsRow n₀ 196 3 v k xs) (Cg:(W.alloc tmp).grownBy w1 v.ownBlock) (hb:Below n₀ W (w1.setCell ⟨B,0,none⟩ v')):gp n₀ W (w1.setCell ⟨B,0,none⟩ v'):=by
 refine⟨hb.size,fun b cells T fr h h1 h2=>?_,fun k hk _=>hb.block k hk⟩
 have dD:=(Array.getElem?_eq_some_iff.1 h).1
 have hbB:b≠B:=by
  rintro rfl
  rw[show W.heap[b]? = _ from hv]at h
  cases h
  exact h1 rfl
 have O3:some b≠v.ownBlock:=by
  rcases e9.2 with⟨rfl,_⟩|⟨g,cap,cur,rfl,_,hg,_⟩
  ·simp[Value.ownBlock]
  ·intro e
   obtain rfl:b=g:=by simpa[Value.ownBlock]using e
   rw[hg]at h;cases h
   exact h2 rfl
 refine(Below.heap_setCell w1 ⟨B,0,none⟩ v' b hbB).trans ?_
 exact(Cg.block b (by simp;omega) O3).trans (Below.heap_alloc W tmp b dD)
theorem Oi {w:World} {vS:Value} {l:List ak} (hP:nO w vS l):EX (gp w.heap.size) vS l where
 refl:=gp.refl _
 trans:=gp.trans
 of:=gp.of
 size h:=h.1
 typed h:=h.2.1
 pl {W W'} h hp:=by
  obtain⟨A,c,rfl,hm,hc⟩:=hp.sl
  refine⟨A,c,rfl,hm,?_⟩
  by_cases hl:l=[]
  ·exact .inl hl
  have kC:0<l.length:=List.length_pos_iff.2 hl
  rcases hc with h0|⟨b,o,rfl,jz⟩
  ·exact absurd h0 hl
  obtain⟨A',c',e,_,jM⟩:=hP.sl
  cases e
  rcases jM with h0|⟨b',o',e,hcell'⟩
  ·exact absurd h0 hl
  cases e
  have hb:=rT (hcell' 0 kC).1
  have hk:=h.2.2 b hb (rT (jz 0 kC).1)
  refine .inr ⟨b,o,rfl,fun i hi=>?_⟩
  have wu:∀x,W'.cell? ⟨b,x,none⟩=W.cell? ⟨b,x,none⟩:=fun x=>World.cell?_of_block hk
  rw[wu,wu,wu]
  exact jz i hi
theorem rrE {P:Program} {nt site0:Nat} {ops:Array Oper} {vl:List aW} (_:vV P ops site0 false (iP ops) (pz P false ops.toList 0) ops.toList 0=some vl:=by(conv=>lhs;cbv)<;>exact rfl) (h:pb P nt site0 ops true false=some vl:=by kernel_rfl):pb P nt site0 ops true false=some vl:=h
theorem Ge (l:List Value) (d:Value):l=(List.range l.length).map fun i=>(⟨l⟩:Array Value).getD i d:=by
 refine List.ext_getElem (by simp) fun i h1 h2=>?_
 simp[h1]
theorem Bd {X:eW} {d:Bool} {ops:List aW} {K:Env->ax->Prop} {env:Env} {σ:ax} (h:dO X (.eb d ops) (fun _=>K) env σ):wpOps X d ops K env σ:=h
theorem sC (W:World) (T:TypeId) (x y z:Value):∀(j:Nat) (u:Value),[x,y,z][j]? =some u->(W.alloc (.cells #[x,y,z] T)).cell? ((⟨W.heap.size,0,none⟩:Addr).add j)=some u:=fun j u h=>by
 have hb:(W.alloc (.cells #[x,y,z] T)).heap[W.heap.size]? =some (.cells #[x,y,z] T (0,0)):=World.alloc_heap_new _ _
 have e:∀k,(W.alloc (.cells #[x,y,z] T)).cell? ⟨W.heap.size,k,none⟩=(#[x,y,z]:Array Value)[k]? :=fun k=>by
  unfold World.cell?
  rw[show(W.alloc (.cells #[x,y,z] T)).heap[(⟨W.heap.size,k,none⟩:Addr).block]? = _ from hb]
  rfl
 rw[show(⟨W.heap.size,0,none⟩:Addr).add j=⟨W.heap.size,j,none⟩ by simp[Addr.add];exact fun h=>h.symm,e]
 simpa using h
def Fh (n b:Nat):Names:=fun id=>if id=⟨1,0⟩then some ⟨n,2,2,none⟩else if id=⟨2,0⟩then some ⟨n+1,1,1,none⟩else if id=⟨3,0⟩then some ⟨n+1+1,1,1,none⟩else if id=⟨4,0⟩then some ⟨b,2,2,none⟩else if id=⟨5,0⟩then some ⟨n+1+1+1,1,1,none⟩else none
def Jq (s:aq) (l:List ak) (i k:Nat):Rows:=fun id=>if id=⟨1,0⟩then some ⟨false,2,[aa s]⟩else if id=⟨2,0⟩then some ⟨false,1,[[.sl (l.map ah)]]⟩else if id=⟨4,0⟩then some ⟨false,2,[[.int .i64 (i:Int),.int .i64 (k:Int)]]⟩else none
def Kk (s:aq) (l:List ak) (i k:Nat) (d:Int):Env:=cm [.agg (aa s),.agg [.sl (l.map ah)],.ptr ⟨1,0⟩ 0 0,.ptr ⟨2,0⟩ 0 0,.bE,.ptr ⟨3,0⟩ 0 0,.ptr ⟨4,0⟩ 0 0,.int .i64 d,.undef,.agg [.sl (l.map ah)],.fn 186 [.ptr ⟨5,0⟩ 0 0],.agg [.int .i64 (i:Int),.int .i64 (k:Int)],.int .i64 d]
theorem Bm {P:Program} {W:World} {D:Nat->Prop} {ι:Names} {B:qG} {cells:Array Value} {T:TypeId} {cs:List AV} (hk:B.k=none) (hb:W.heap[B.b]? =some (.cells cells T (0,0))) (hC:cells.size=B.C) (hz:B.sz=cs.length) (hl:cs.length=cells.size) (hf:∀a∈cs,a.cell=true) (hr:∀(j:Nat) (a:AV),cs[j]? =some a->∃v,cells[j]? =some v/\cv P W D ι a v):gN P W D ι B ⟨false,cs.length,[cs]⟩:=
 kj.obj ⟨hz,⟨cells,T,hb,hC⟩,by simp;omega,fun c hc=>by simp at hc;rw[hc],fun c hc=>by simp at hc;rw[hc];exact hf,fun i j c a hi hj=>by
  match i,hi with
  |0,hi=>
   simp at hi;subst hi
   obtain⟨v,h1,h2⟩:=hr j a hj
   exact⟨v,by simp[World.cell?,hb,h1],h2⟩
  |i+1,hi=>simp at hi⟩ hk
theorem F6:(Tryz.prog.info? 196).map (fun i=>(i.zero,i.size,i.bytes))=some (some (.agg #[.int .i64 0,.int .i64 0,.int .i64 0]),3,24):=by kernel_rfl
end Go.Proofs.YtihgaadadaekmaaGreatDoor.V

namespace Go.Proofs.YtihgaadadaekmaaGreatDoor.V
open Go.RowKit Go.Shelf
attribute [local go_sem] Oper.semAt_some
attribute [local irreducible] dO wpOps gO Call
attribute [local go_sem] aH fF eF fR fQ cu upd cm K.av cJ AV.cells AV.cell rowOf rowsOf part ld rowAt bI bU dG ei il bJ da eB fW eZ dq ep cY cX dU dV bP bd cQ bL cT cR ek er eo cP bS cZ ej bK aL cV cw ik br cI bQ aZ dz bl dI AV.undef bB bH dY eh dR ea cE eA eE cr ev eu cU cW List.getD_cons_zero List.getD_cons_succ List.getD_nil List.all_cons List.all_nil Bool.and_true Bool.true_and Bool.and_self Bool.not_true Bool.not_false Option.map_some Option.map_none Option.bind_some Option.bind_none List.length_cons List.length_nil List.take_succ_cons List.take_zero List.take_nil List.drop_succ_cons List.drop_zero List.drop_nil List.head?_cons List.map_cons List.map_nil List.getElem?_cons_zero List.getElem?_cons_succ List.cons_append List.nil_append List.append_nil List.length_map List.set_cons_zero List.set_cons_succ Nat.reduceMul eq_self Int.toNat_natCast Int.natCast_nonneg and_self true_and and_true decide_true decide_false Bool.false_eq_true Nat.zero_add Nat.add_zero List.contains_cons List.contains_nil Bool.or_false Bool.false_or beq_self_eq_true Nat.reduceBEq ne_eq not_true_eq_false not_false_eq_true Id.mk.injEq false_and and_false Nat.reduceLT Int.reduceLE Int.reduceLT Int.reduceToNat Int.reduceNeg Int.reduceAdd Nat.le_refl List.length_append beq_true beq_false Bool.not_eq_eq_eq_not or_false false_or dC ad aj aE bz cj aT bj aX bf cK bG
theorem Ff (s:aq) (l:List ak) (hF:g8 s) (hA:nN s l) (w:World) (Ag At:Option Addr) (ng cg nt ct:Nat) (vS:Value) (hT:jk Tryz.prog w (fun b=>b<w.heap.size) (.agg (aa s)) (.agg #[.slice Ag ng cg,.slice At nt ct])) (hP:nO w vS l):
  CallsIn Fence.wide 5 Tryz.prog 154 #[.agg #[.slice Ag ng cg,.slice At nt ct],.agg #[vS]] w fun e W'=>∃v,e=.returned v/\W'.ownsRow w.heap.size 196 3 v (bW s l).length (HK (bW s l))/\(v=.slice none 0 0↔bW s l=[])/\Below w.heap.size w W':=by
 obtain⟨A,cp,rfl,_,_⟩:=hP.sl
 obtain⟨i0,hi,EP,xw,kN⟩:=info_parts F6
 refine callsIn_of_wp_marks Tryz.func154 rfl trivial ?_ rfl
 simp only[Tryz.ntmps154,List.size_toArray,List.length_cons,List.length_nil,Nat.reduceAdd,Nat.reduceSub,Array.replicate_succ,Array.replicate_zero,List.push_toArray,List.append_toArray,List.nil_append,List.cons_append]
 gi_wp2_with (refine⟨trivial,?_⟩;gi_at_call 172;refine(wQ _ _ _).mono ?_;rintro e w' ⟨rfl,rfl⟩)
 have bT:((w.alloc (.cells #[.slice Ag ng cg,.slice At nt ct] 39)).heap[w.heap.size]?)=some (.cells #[.slice Ag ng cg,.slice At nt ct] 39 (0,0)):=World.alloc_heap_new _ _
 obtain⟨w1,mm⟩:∃w1,w.alloc (.cells #[.slice Ag ng cg,.slice At nt ct] 39)=w1:=⟨_,rfl⟩
 have MJ:w1.heap.size=w.heap.size+1:=by rw[<-mm];simp
 have xp:Below w.heap.size w w1:=by rw[<-mm];exact(Below.refl _ w).alloc (Nat.le_refl _) _
 rw[mm]at bT ⊢
 clear mm
 have bA:=Boxed.new w1 42 (.slice A l.length cp)
 have bO:=Boxed.new (w1.alloc (.cells #[.slice A l.length cp] 42)) 177 (.slice none 0 0)
 have bN:=Boxed.new ((w1.alloc (.cells #[.slice A l.length cp] 42)).alloc (.cells #[.slice none 0 0] 177)) 42 (.slice A l.length cp)
 replace bA:=(bA.alloc (.cells #[.slice none 0 0] 177)).alloc (.cells #[.slice A l.length cp] 42)
 replace bO:=bO.alloc (.cells #[.slice A l.length cp] 42)
 simp only[World.size_alloc,MJ]at bA bO bN
 have nS:Below w1.heap.size w1 (((w1.alloc (.cells #[.slice A l.length cp] 42)).alloc (.cells #[.slice none 0 0] 177)).alloc (.cells #[.slice A l.length cp] 42)):=(((Below.refl _ w1).alloc (Nat.le_refl _) _).alloc (by simp) _).alloc (by simp;omega) _
 have eT:(((w1.alloc (.cells #[.slice A l.length cp] 42)).alloc (.cells #[.slice none 0 0] 177)).alloc (.cells #[.slice A l.length cp] 42)).heap.size=w.heap.size+4:=by simp;omega
 obtain⟨W0,hW0⟩:∃W0,((w1.alloc (.cells #[.slice A l.length cp] 42)).alloc (.cells #[.slice none 0 0] 177)).alloc (.cells #[.slice A l.length cp] 42)=W0:=⟨_,rfl⟩
 rw[hW0]at bA bO bN nS eT ⊢
 clear hW0
 have yw:Below w.heap.size w W0:=xp.trans (nS.mono ab)
 replace bT:=(nS.block w.heap.size ab).trans bT
 have hP0:nO W0 (.slice A l.length cp) l:=hP.below yw
 have kl:=Oi hP
 have oU:=ou (s:=s) hA.1
 refine wpIn_rangeFunc_ownH (n:=5) rfl ab (gf:=186) (lb:= #[.pointer (some ⟨w.heap.size+1+1+1,0,none⟩)]) rfl trivial (enters_of Tryz.func186 (by kernel_rfl) rfl)
  (Gs l hA.1 (w.heap.size+1+1+1) (5-1) ab (.slice A l.length cp) (gp w.heap.size) kl W0 bN hP0) gp.trans (gp.b ab) (Below.refl _ _) (fun _=>rfl)
  (fun pre W=>((∃v,Boxed W (w.heap.size+1+1) 177 v/\W.ownsRow w.heap.size 196 3 v (l9 s l pre).length (HK (l9 s l pre))/\(v=.slice none 0 0↔l9 s l pre=[]))/\(Boxed W (w.heap.size+1) 42 (.slice A l.length cp)/\W.heap[w.heap.size]? =some (.cells #[.slice Ag ng cg,.slice At nt ct] 39 (0,0))))/\Below w.heap.size w W)
  (fun _ _ _=>False)
  (OwnFrom.and (OwnFrom.and (Own.from (holdsRow_own w.heap.size (w.heap.size+1+1) 177 196 3 (fun pre=>(l9 s l pre).length) (fun pre=>HK (l9 s l pre)) (fun pre v=>v=.slice none 0 0↔l9 s l pre=[])) _) (OwnFrom.and (Own.from (boxed_own _ _ _) _) (Own.from (yC _ _ _ _) _))) (ownFrom_below (Nat.le_refl _) ab))
  (fun _ _ _ _ _ hs _ _=>hs)
  ⟨⟨⟨_,bO,World.ownsRow_nil _ _ _ _,by simp[l9]⟩,bA,bT⟩,yw⟩
  (fun x a' W=>∃Bx,w.heap.size+1+1<Bx/\W.heap[Bx]? =some (.cells #[.int .i64 (x.1.1:Int),.int .i64 (x.1.2.1:Int)] 230 (0,0))/\a'={tmps:= #[.agg #[.slice Ag ng cg,.slice At nt ct],.agg #[.slice A l.length cp],.pointer (some ⟨w.heap.size,0,none⟩),.pointer (some ⟨w.heap.size+1,0,none⟩),.slice none 0 0,.pointer (some ⟨w.heap.size+1+1,0,none⟩),.pointer (some ⟨Bx,0,none⟩),.int .i64 x.1.2.2,undef,.agg #[.slice A l.length cp],.func (.func 186) #[] #[.pointer (some ⟨w.heap.size+1+1+1,0,none⟩)],.agg #[.int .i64 (x.1.1:Int),.int .i64 (x.1.2.1:Int)],.int .i64 x.1.2.2,undef,undef,undef,undef,undef,undef,undef,undef,undef,undef,undef,undef,undef,undef,undef,undef,undef,undef,undef,undef,undef,undef,undef,undef,undef,undef,undef,undef,undef],defers:=[]})
  (fun x a' _ X Y row hs hg hr=>by obtain⟨Bx,h1,h2,h3⟩:=hs;exact⟨Bx,h1,yC Bx _ _ _ () X Y row h2 hg (fun r e=>(hr r e).2),h3⟩)
  ?assign ?body ?done ?stop
 case assign=>
  rintro q pre ⟨⟨x0,x1,x2⟩,hx⟩ W K ⟨⟨⟨v,hv,e9,hnil⟩,bA1,bT1⟩,hB⟩ hK
  simp only[BZ]
  gi_wp2
  exact hK _ _ ((KeepsOthers.alloc _ _).from _) (gp.of ((Below.refl _ W).alloc (Nat.le_refl _) _)) ⟨⟨⟨v,hv.alloc _,e9.alloc _,hnil⟩,bA1.alloc _,(Below.heap_alloc _ _ _ (Array.getElem?_eq_some_iff.1 bT1).1).trans bT1⟩,hB.alloc hB.size _⟩ ⟨W.heap.size,hv.lt,World.alloc_heap_new _ _,rfl⟩
 case body=>
  rintro q pre ⟨⟨x0,x1,x2⟩,hx⟩ a' W hq hqr ⟨⟨⟨v,hv,e9,hnil⟩,bA1,bT1⟩,hB⟩ ⟨Bx,hBx,bX,rfl⟩ dD
  obtain⟨zC,Cm,xu⟩:=hx
  simp only at zC Cm xu bX
  obtain⟨A',c',e',_,hc⟩:=(hP.below hB).sl
  cases e'
  have dh:∃b o,A=some ⟨b,o,none⟩/\W.cell? ⟨b,o+x0*3+2,none⟩=some (.int .i64 (bp l x0).bw)/\W.cell? ⟨b,o+x1*3+2,none⟩=some (.int .i64 (bp l x1).bw):=by
   rcases hc with rfl|⟨b,o,rfl,jz⟩
   ·simp at zC
   ·exact⟨b,o,rfl,by rw[Nat.add_assoc];exact(jz x0 zC).2.2,by rw[Nat.add_assoc];exact(jz x1 Cm).2.2⟩
  obtain⟨b,o,rfl,cP0,cP1⟩:=dh
  have cT0:W.cell? ⟨w.heap.size,0,none⟩=some (.slice Ag ng cg):=by simp[World.cell?,bT1]
  have cT1:W.cell? ⟨w.heap.size,1,none⟩=some (.slice At nt ct):=by simp[World.cell?,bT1]
  have cX0:W.cell? ⟨Bx,0,none⟩=some (.int .i64 (x0:Int)):=by simp[World.cell?,bX]
  have cX1:W.cell? ⟨Bx,1,none⟩=some (.int .i64 (x1:Int)):=by simp[World.cell?,bX]
  have cA:=bA1.cell
  have dP0:W.drew.cell? ⟨b,o+x0*3+2,none⟩=some (.int .i64 (bp l x0).bw):=cP0
  have dP1:W.drew.cell? ⟨b,o+x1*3+2,none⟩=some (.int .i64 (bp l x1).bw):=cP1
  have dT0:W.drew.cell? ⟨w.heap.size,0,none⟩=some (.slice Ag ng cg):=cT0
  have dT1:W.drew.cell? ⟨w.heap.size,1,none⟩=some (.slice At nt ct):=cT1
  have dX0:W.drew.cell? ⟨Bx,0,none⟩=some (.int .i64 (x0:Int)):=cX0
  have dX1:W.drew.cell? ⟨Bx,1,none⟩=some (.int .i64 (x1:Int)):=cX1
  have dA:W.drew.cell? ⟨w.heap.size+1,0,none⟩=some (.slice (some ⟨b,o,none⟩) l.length cp):=cA
  have ui:∀i,i<l.length->bp l i∈l:=fun i hi=>by
   unfold bp
   rw[List.getD_eq_getElem?_getD,List.getElem?_eq_getElem hi]
   exact List.getElem_mem hi
  have QD:=mixed
  have hfw:=hA.1.EF
  have O4:=Ki s hF (bp l x0).bw x2 (bp l x1).bw (hA.2 _ (ui x0 zC)) (hA.2 _ (ui x1 Cm)) (jx ab)
  have hTW:jk Tryz.prog W (fun b=>b<w.heap.size) (.agg (aa s)) (.agg #[.slice Ag ng cg,.slice At nt ct]):=hT.frame (fun b hb=>hB.block b hb) (fun _ h=>h)
  have hAW:jk Tryz.prog W (fun b=>b<w.heap.size) (.sl (l.map ah)) (.slice (some ⟨b,o,none⟩) l.length cp):=hP.ew.frame (fun b hb=>hB.block b hb) (fun _ h=>h)
  obtain⟨fT,hT0,hT1⟩:∃f:Nat->Value,(∀j,j<(aa s).length->(#[Value.slice Ag ng cg,.slice At nt ct])[j]? =some (f j))/\∀j a,(aa s)[j]? =some a->jk Tryz.prog W (fun b=>b<w.heap.size) a (f j):=by
   cases hTW with
   |agg _ _ f _ _ h3 h4=>exact⟨f,h3,h4⟩
  have dS:St Tryz.prog W.heap.size 42 (fun b=>b<w.heap.size) (Fh w.heap.size Bx) (Kk s l x0 x1 x2) ⟨Jq s l x0 x1,1⟩ {tmps:= #[.agg #[.slice Ag ng cg,.slice At nt ct],.agg #[.slice (some ⟨b,o,none⟩) l.length cp],.pointer (some ⟨w.heap.size,0,none⟩),.pointer (some ⟨w.heap.size+1,0,none⟩),.slice none 0 0,.pointer (some ⟨w.heap.size+1+1,0,none⟩),.pointer (some ⟨Bx,0,none⟩),.int .i64 x2,undef,.agg #[.slice (some ⟨b,o,none⟩) l.length cp],.func (.func 186) #[] #[.pointer (some ⟨w.heap.size+1+1+1,0,none⟩)],.agg #[.int .i64 (x0:Int),.int .i64 (x1:Int)],.int .i64 x2,undef,undef,undef,undef,undef,undef,undef,undef,undef,undef,undef,undef,undef,undef,undef,undef,undef,undef,undef,undef,undef,undef,undef,undef,undef,undef,undef,undef,undef],defers:=[]} W:=by
   have n1:(Fh w.heap.size Bx) ⟨1,0⟩=some ⟨w.heap.size,2,2,none⟩:=rfl
   have n2:(Fh w.heap.size Bx) ⟨2,0⟩=some ⟨w.heap.size+1,1,1,none⟩:=rfl
   have n3:(Fh w.heap.size Bx) ⟨3,0⟩=some ⟨w.heap.size+1+1,1,1,none⟩:=rfl
   have n4:(Fh w.heap.size Bx) ⟨4,0⟩=some ⟨Bx,2,2,none⟩:=rfl
   have n5:(Fh w.heap.size Bx) ⟨5,0⟩=some ⟨w.heap.size+1+1+1,1,1,none⟩:=rfl
   have rp:∀(id:Id) (B:qG),(Fh w.heap.size Bx) id=some B->B.k=none->cv Tryz.prog W (fun b=>b<w.heap.size) (Fh w.heap.size Bx) (.ptr id 0 0) (.pointer (some ⟨B.b,0,none⟩)):=fun id B h hk=>by
    have:=cv.ptr (P:=Tryz.prog) (w:=W) (D:=fun b=>b<w.heap.size) id 0 0 B h hk
    simpa using this
   have ri:∀n:Int,cv Tryz.prog W (fun b=>b<w.heap.size) (Fh w.heap.size Bx) (.int .i64 n) (.int .i64 n):=fun n=>.ew _ _ (.int _ _)
   have hA1:jk Tryz.prog W (fun b=>b<w.heap.size) (.agg [.sl (l.map ah)]) (.agg #[.slice (some ⟨b,o,none⟩) l.length cp]):=.agg _ _ (fun _=>.slice (some ⟨b,o,none⟩) l.length cp) rfl (fun a ha=>by simp at ha;rw[ha];rfl) (fun j hj=>by match j,hj with|0,_=>rfl|j+1,hj=>simp at hj) (fun j a ha=>by match j,ha with|0,ha=>simp at ha;subst ha;exact hAW|j+1,ha=>simp at ha)
   refine⟨⟨Nat.le_refl _,fun b hb=>Nat.lt_of_lt_of_le hb hB.size,fun id r hg=>?_,fun id jP r r' B B' h _ hw=>?_⟩,fun id hid=>?_,fun t=>?_,rfl⟩
   ·replace hg:Jq s l x0 x1 id=some r:=hg
    unfold Jq at hg
    split at hg
    ·rename_i e;subst e;injection hg with hg;subst hg
     exact⟨_,n1,Bm (cs:=aa s) rfl bT1 rfl rfl rfl (fun a ha=>by simp[aa]at ha;rcases ha with rfl|rfl<;>rfl) (fun j a ha=>⟨_,hT0 j (List.getElem?_eq_some_iff.1 ha).1,.ew _ _ (hT1 j a ha)⟩),fun h=>(by cases h),fun h=>(by cases h)⟩
    ·split at hg
     ·rename_i e;subst e;injection hg with hg;subst hg
      exact⟨_,n2,Bm (cs:=[.sl (l.map ah)]) rfl bA1 rfl rfl rfl (fun a ha=>by simp at ha;rw[ha];rfl) (fun j a ha=>by match j,ha with|0,ha=>simp at ha;subst ha;exact⟨_,rfl,.ew _ _ hAW⟩|j+1,ha=>simp at ha),fun h=>(by cases h),fun h=>(by cases h)⟩
     ·split at hg
      ·rename_i e;subst e;injection hg with hg;subst hg
       exact⟨_,n4,Bm (cs:=[.int .i64 (x0:Int),.int .i64 (x1:Int)]) rfl bX rfl rfl rfl (fun a ha=>by simp at ha;rcases ha with rfl|rfl<;>rfl) (fun j a ha=>by match j,ha with|0,ha=>simp at ha;subst ha;exact⟨_,rfl,ri _⟩|1,ha=>simp at ha;subst ha;exact⟨_,rfl,ri _⟩|j+2,ha=>simp at ha),fun h=>(by cases h),fun h=>(by cases h)⟩
      ·cases hg
   ·exfalso
    replace h:Jq s l x0 x1 id=some r:=h
    unfold Jq at h
    split at h
    ·injection h with h;subst h;cases hw
    ·split at h
     ·injection h with h;subst h;cases hw
     ·split at h
      ·injection h with h;subst h;cases hw
      ·cases h
   ·left
    unfold Fh at hid
    repeat' (split at hid)
    all_goals first|(rename_i e;subst e;exact Nat.zero_lt_one)|exact absurd rfl hid
   ·match t with
    |0=>exact .ew _ _ hTW
    |1=>exact .ew _ _ hA1
    |2=>exact rp _ _ n1 rfl
    |3=>exact rp _ _ n2 rfl
    |4=>exact .ew _ _ .bE
    |5=>exact rp _ _ n3 rfl
    |6=>exact rp _ _ n4 rfl
    |7=>exact ri _
    |8=>exact cv.undef
    |9=>exact .ew _ _ hA1
    |10=>exact .fn _ _ _ (fun _=>.pointer (some ⟨w.heap.size+1+1+1,0,none⟩)) (by kernel_rfl) rfl (fun j hj=>by match j,hj with|0,_=>rfl|j+1,hj=>simp at hj) (fun j a ha=>by match j,ha with|0,ha=>simp at ha;subst ha;exact rp _ _ n5 rfl|j+1,ha=>simp at ha)
    |11=>exact .agg _ _ (fun j=>if j=0 then .int .i64 (x0:Int)else .int .i64 (x1:Int)) rfl (fun a ha=>by simp at ha;rcases ha with rfl|rfl<;>rfl) (fun j hj=>by match j,hj with|0,_=>rfl|1,_=>rfl|j+2,hj=>simp at hj;omega) (fun j a ha=>by match j,ha with|0,ha=>simp at ha;subst ha;exact ri _|1,ha=>simp at ha;subst ha;exact ri _|j+2,ha=>simp at ha)
    |12=>exact ri _
    |13=>exact cv.undef
    |14=>exact cv.undef
    |15=>exact cv.undef
    |16=>exact cv.undef
    |17=>exact cv.undef
    |18=>exact cv.undef
    |19=>exact cv.undef
    |20=>exact cv.undef
    |21=>exact cv.undef
    |22=>exact cv.undef
    |23=>exact cv.undef
    |24=>exact cv.undef
    |25=>exact cv.undef
    |26=>exact cv.undef
    |27=>exact cv.undef
    |28=>exact cv.undef
    |29=>exact cv.undef
    |30=>exact cv.undef
    |31=>exact cv.undef
    |32=>exact cv.undef
    |33=>exact cv.undef
    |34=>exact cv.undef
    |35=>exact cv.undef
    |36=>exact cv.undef
    |37=>exact cv.undef
    |38=>exact cv.undef
    |39=>exact cv.undef
    |40=>exact cv.undef
    |41=>exact cv.undef
    |t+42=>exact cv.undef
  have hV:wpOps (Call Tryz.prog) true ?vl (fun e _=>e 5=.ptr ⟨3,0⟩ 0 0/\e 6=.ptr ⟨4,0⟩ 0 0/\e 8=.int .i64 (iw s (bp l x0).bw x2 (bp l x1).bw)) (Kk s l x0 x1 x2) ⟨Jq s l x0 x1,1⟩:= ?hv
  gi_wp2
  refine wT mixed (rrE (nt:=42) (site0:=154005000)) (Gv (by kernel_rfl)) (lP (fun _ _ _ _ h=>gr mixed h) oq (fun _ _ h=>h) _ _ _ hV) dS ?_
  rintro e1 σ1 ⟨tm,df⟩ w3 D1 ι1 ⟨h5,h6,h8⟩ T1 St1 Av
  case hv=>
   refine Bd ?_
   have e0:=ga zC
   have e1:=ga Cm
   (repeat(first|((repeat(revert hN;revert N;apply Pn.out));refine wk (tw @e0 (tw @e1 (tw @Kk.eq_1 (tw @Jq.eq_1 (tw @ah.eq_1 @aa.eq_1))))) ?_;(repeat(refine Pn.mk ?_;intro N hN)))|((try apply Or.inl);refine⟨_,ai.x (O4) (sd (tw @e0 (tw @e1 (tw @Kk.eq_1 (tw @Jq.eq_1 (tw @ah.eq_1 @aa.eq_1)))))),?_⟩;refine hN _ _ ?_;clear hN N)))
   exact⟨sd @Kk.eq_1,sd @Kk.eq_1,sd @Kk.eq_1⟩
  ·have yy:Below W.heap.size W w3:=T1.below
   have FU:∀id B,Fh w.heap.size Bx id=some B->ι1 id=some B:=T1.names
   have p5:tm.getD 5 undef=.pointer (some ⟨w.heap.size+1+1,0,none⟩):=by
    have g:=St1.env 5
    rw[h5]at g
    obtain⟨B,e,hB,_⟩:=iJ g
    have h:=FU ⟨3,0⟩ ⟨w.heap.size+1+1,1,1,none⟩ rfl
    rw[h]at hB;injection hB with hB;subst hB
    simpa using e
   have p6:tm.getD 6 undef=.pointer (some ⟨Bx,0,none⟩):=by
    have g:=St1.env 6
    rw[h6]at g
    obtain⟨B,e,hB,_⟩:=iJ g
    have h:=FU ⟨4,0⟩ ⟨Bx,2,2,none⟩ rfl
    rw[h]at hB;injection hB with hB;subst hB
    simpa using e
   have p8:tm.getD 8 undef=.int .i64 (iw s (bp l x0).bw x2 (bp l x1).bw):=by
    have g:=St1.env 8
    rw[h8]at g
    exact db g
   have eT:=St1.size
   obtain⟨tl⟩:=tm
   obtain⟨f,htl,hf⟩:∃f:Nat->Value,tl=[f 0,f 1,f 2,f 3,f 4,f 5,f 6,f 7,f 8,f 9,f 10,f 11,f 12,f 13,f 14,f 15,f 16,f 17,f 18,f 19,f 20,f 21,f 22,f 23,f 24,f 25,f 26,f 27,f 28,f 29,f 30,f 31,f 32,f 33,f 34,f 35,f 36,f 37,f 38,f 39,f 40,f 41]/\∀i,f i=(⟨tl⟩:Array Value).getD i undef:=by
    refine⟨fun i=>(⟨tl⟩:Array Value).getD i undef,?_,fun _=>rfl⟩
    have h:=Ge tl undef
    rw[show tl.length=42 from eT]at h
    exact h
   rw[<-hf]at p5 p6 p8
   have Qo:df=[]:=Av
   subst Qo
   clear hf St1 dS hV
   subst htl
   rw[p5,p6,p8]
   have Pq:=hv.kept (pg yy) (by simp)
   have Cj:=e9.kept (pg yy) (by rcases e9.2 with⟨e,_⟩|⟨_,_,_,e,_⟩<;>rw[e]<;>simp[Value.ownBlock])
   have hc3:=Pq.cell
   have hn3:w.heap.size<=w3.heap.size:=Nat.le_trans hB.size yy.size
   have eX0:w3.cell? ⟨Bx,0,none⟩=some (.int .i64 (x0:Int)):=(yy.cell (p:=⟨Bx,0,none⟩) (Array.getElem?_eq_some_iff.1 bX).1).trans cX0
   have eX1:w3.cell? ⟨Bx,1,none⟩=some (.int .i64 (x1:Int)):=(yy.cell (p:=⟨Bx,1,none⟩) (Array.getElem?_eq_some_iff.1 bX).1).trans cX1
   have mi:(l9 s l pre).length<=2097152:=by
    have h1:=Fb s l pre
    have h2:=y8 l l.length
    omega
   have hKF:KeepsFrom (w.heap.size+4) W w3:=⟨yy.size,fun k o _ hk _=>(yy.block k (Array.getElem?_eq_some_iff.1 hk).1).trans hk⟩
   have hKT:gp w.heap.size W w3:=gp.of yy
   have PJ:w3.heap[w.heap.size+1]? = _:=(yy.block _ bA1.lt).trans bA1
   have PK:=(yy.block _ (Array.getElem?_eq_some_iff.1 bT1).1).trans bT1
   by_cases kC:0<iw s (bp l x0).bw x2 (bp l x1).bw
   ·have r4:l9 s l (pre++[⟨(x0,x1,x2),zC,Cm,xu⟩])=l9 s l pre++[⟨x0,x1,iw s (bp l x0).bw x2 (bp l x1).bw⟩]:=by
     rw[uI];simp only[vR,if_pos kC]
    gi_wp2_with (gi_at_builtin;refine wpListIn_append_own _ rfl _ _ 177 rfl w.heap.size 196 i0 (.agg #[.int .i64 0,.int .i64 0,.int .i64 0]) 3 24 (by kernel_rfl) hi EP xw kN rfl (by decide) _ _ _ rfl (Cj.alloc _) ⟨w3.heap.size,0,none⟩ 1 1 [.int .i64 (x0:Int),.int .i64 (x1:Int),.int .i64 (iw s (bp l x0).bw x2 (bp l x1).bw)] rfl rfl (sC _ _ _ _ _) (by simp[Value.oneCell']) (by unfold maxLen;omega) ab (by simp;omega) ?_;intro v' w4 JJ Cg _;obtain⟨g',cap',rfl⟩:=ownsRow_succ JJ;obtain⟨u6,Ll,Dx,sQ,yz⟩:=Pq.appended (by decide) Cj hn3 ab JJ Cg;have Hu:=gp.app Pq Cj Cg yz;have od:=u6.cell;have ND:=u6.frozen)
    exact⟨hKF.trans (sQ.from _),hKT.trans Hu,⟨⟨_,Ll,by rw[r4,Fa,List.length_append];exact Dx,by rw[r4];simp⟩,(Hu.2.1 _ _ _ _ PJ (by decide) (by decide)).trans PJ,(Hu.2.1 _ _ _ _ PK (by decide) (by decide)).trans PK⟩,hB.trans ((yy.mono hB.size).trans yz)⟩
   ·have r4:l9 s l (pre++[⟨(x0,x1,x2),zC,Cm,xu⟩])=l9 s l pre:=by
     rw[uI];simp only[vR,if_neg kC,List.append_nil]
    gi_wp2
    exact⟨hKF,hKT,⟨⟨v,Pq,by rw[r4];exact Cj,by rw[r4];exact hnil⟩,PJ,PK⟩,hB.trans (yy.mono hB.size)⟩
 case done=>
  rintro D ys W hD Cn ⟨⟨⟨v,hv,e9,hnil⟩,_⟩,hB⟩ hK
  have hc:=hv.cell
  have Hm:l9 s l ys=bW s l:=by rw[Fg,<-Cn];rfl
  rw[Hm]at e9 hnil
  gi_wp2
  refine⟨by simp,.inl ⟨_,_,rfl,run_takeDeferred hK,?_⟩⟩
  exact⟨_,results_tmp rfl _ _ _,v,rfl,ownsRow_putObj e9 _ hK rfl,hnil,hB.trans (belowK_b (w:=w) (Nat.le_refl _) W D _ _ ab hK rfl rfl)⟩
 case stop=>
  rintro D c pre W _ _ h _
  exact h.elim
end Go.Proofs.YtihgaadadaekmaaGreatDoor.V

namespace Go.Proofs.YtihgaadadaekmaaGreatDoor.V
open Go.RowKit Go.Shelf
theorem BS:∀{bs:List PB} {i j:Nat} {b:PB},bs[i]? =some b->j<3->(HK bs)[i*3+j]? =([.int .i64 b.a,.int .i64 b.b,.int .i64 b.s]:List Value)[j]?
 |c::bs,0,j,b,h,hj=>by
  simp at h;subst h
  simp only[HK,List.flatMap_cons,Nat.zero_mul,Nat.zero_add]
  rw[List.getElem?_append_left (by simpa using hj)]
 |c::bs,i+1,j,b,h,hj=>by
  simp only[List.getElem?_cons_succ]at h
  have:=BS (bs:=bs) (i:=i) (j:=j) h hj
  simp only[HK,List.flatMap_cons]at this ⊢
  rw[List.getElem?_append_right (by simp;omega),<-this]
  congr 1
  simp;omega
theorem pq {P:Program} {w:World} {D:Nat->Prop} {rows:List (List AV)} {v:Value} (h:jk P w D (.sl rows) v):∃A n c,v=.slice A n c:=by
 cases h with
 |zE a c _=>exact⟨_,_,_,rfl⟩
 |sl=>exact⟨_,_,_,rfl⟩
theorem oO {P:Program} {w:World} {D:Nat->Prop} {ι:Names} {rows:List (List AV)} {v:Value} (h:cv P w D ι (.sl rows) v):jk P w D (.sl rows) v:=by
 cases h with
 |ew _ _ h=>exact h
theorem IY {P:Program} {w:World} {D:Nat->Prop} {l:List ak} {v:Value} (h:jk P w D (.sl (l.map ah)) v):nO w v l:=by
 generalize hr:l.map ah=rows at h
 cases h with
 |zE a c hc=>
  have:l=[]:=by simpa using hr
  subst this
  exact⟨a,c,rfl,⟨Nat.zero_le _,hc⟩,.inl rfl⟩
 |sl _ b o n c sz vs h1 h2 h3 h4 h5 h5' h6 h7=>
  have hn:n=l.length:=by rw[<-h1,<-hr];simp
  subst hn
  refine⟨some ⟨b,o,none⟩,c,rfl,⟨h2,h3⟩,?_⟩
  by_cases hl:l=[]
  ·exact .inl hl
  refine .inr ⟨b,o,rfl,fun i hi=>?_⟩
  have hg:rows[i]? =some (ah (bp l i)):=by rw[<-hr];exact ga hi
  have eT:sz=3:=by rw[<-h5 _ (List.mem_of_getElem? hg)];rfl
  subst eT
  have k:∀(j:Nat) (x:Int),(ah (bp l i))[j]? =some (.int .i64 x)->j<3->w.cell? ⟨b,o+(i*3+j),none⟩=some (.int .i64 x):=fun j x hj h3=>by
   have:=h7 i j _ _ hg hj
   rw[h6 i j hi h3,db (.ew (ι:=fun _=>none) _ _ this)]
  exact⟨k 0 _ rfl ab,k 1 _ rfl ab,k 2 _ rfl ab⟩
theorem Kj:zF:=by
 intro s l hS hA n
 refine gV ?_
 intro hs D ι w vs S U A
 obtain⟨u0,Pp,r0⟩:=A.2 0 _ rfl
 obtain⟨u1,N4,r1⟩:=A.2 1 _ rfl
 have dD:∀b,D b->b<w.heap.size:=S.dead
 obtain⟨v0,f0,rfl,EP,_,O9,QS⟩:=gT r0
 obtain⟨v1,f1,rfl,xw,_,ND,NY⟩:=gT r1
 have g0:=oO (QS 0 _ rfl)
 have g1:=oO (QS 1 _ rfl)
 have a0:=oO (NY 0 _ rfl)
 obtain⟨Ag,ng,cg,eg⟩:=pq g0
 obtain⟨At,nt,ct,et⟩:=pq g1
 have e0:v0= #[.slice Ag ng cg,.slice At nt ct]:=by
  obtain⟨vl⟩:=v0
  have q0:=O9 0 (by simp[aa])
  have q1:=O9 1 (by simp[aa])
  rw[eg]at q0;rw[et]at q1
  match vl,EP with
  |[a,b],_=>simp at q0 q1;rw[q0,q1]
 have e1:v1= #[f1 0]:=by
  obtain⟨vl⟩:=v1
  have q0:=ND 0 (by simp)
  match vl,xw with
  |[a],_=>simp at q0;rw[q0]
 subst e0 e1
 have evs:vs= #[.agg #[.slice Ag ng cg,.slice At nt ct],.agg #[f1 0]]:=by
  obtain⟨vl⟩:=vs
  have hz:=A.1
  match vl,hz with
  |[a,b],_=>simp at Pp N4;rw[Pp,N4]
 subst evs
 have up:∀{a v},jk Tryz.prog w D a v->jk Tryz.prog w (fun b=>b<w.heap.size) a v:=fun h=>h.frame (fun _ _=>rfl) dD
 have hT:jk Tryz.prog w (fun b=>b<w.heap.size) (.agg (aa s)) (.agg #[.slice Ag ng cg,.slice At nt ct]):=
  .agg _ _ f0 EP (fun a ha=>by simp[aa]at ha;rcases ha with rfl|rfl<;>rfl) O9 (fun j a ha=>by
   match j,ha with
   |0,ha=>simp[aa]at ha;subst ha;exact up g0
   |1,ha=>simp[aa]at ha;subst ha;exact up g1
   |j+2,ha=>simp[aa]at ha)
 refine(callsIn_wide.1 (Ff s l hS.form hA w Ag At ng cg nt ct (f1 0) hT (IY a0))).mono ?_
 rintro e W' ⟨v,rfl,⟨hl,hown⟩,hnil,hB⟩
 have S':fG Tryz.prog hs D ι (fun _=>none) W':=S.stay (fun b hb=>hB.block b hb) hB.size (fun _ h=>h) (fun b hb=>Nat.lt_of_lt_of_le (dD b hb) hB.size) (fun _ h=>.inl h) (fun _ _ h=>h)
 have T:Step hs D ι w D ι W':=Step.stay S (fun b hb=>hB.block b hb) hB.size hB.os hB.tape hB.output (fun _ h=>h) (fun _ h=>.inl h) (fun _ _ h=>h)
 rcases hown with⟨rfl,h0⟩|⟨gb,cap,cur,rfl,NK,ly,hle,H6,dh,oH⟩
 ·have Nw:bW s l=[]:=hnil.1 rfl
  exact⟨.bE,_,n,D,ι,_,rfl,⟨.bE,iA _ _,by rw[Nw];rfl⟩,T,S',U,Nat.le_refl _,.ew _ _ .bE⟩
 ·have Nw:bW s l≠[]:=fun h=>by have:=hnil.2 h;cases this
  have lZ:ι ⟨0,n⟩=none:=fresh U (fun h=>h)
  have fY:∀{a v},cv Tryz.prog W' D ι a v->cv Tryz.prog W' D (j6 ι ⟨0,n⟩ ⟨gb,3,cap*3,none⟩) a v:=fun h=>h.frame (fun _ _=>rfl) (fun _ h=>h) (fv lZ)
  have hR:gN Tryz.prog W' D (j6 ι ⟨0,n⟩ ⟨gb,3,cap*3,none⟩) ⟨gb,3,cap*3,none⟩ ⟨true,3,(bW s l).map ay⟩:=by
   refine kj.obj ⟨rfl,⟨cur,_,ly,dh⟩,?_,fun cs hc=>?_,fun cs hc a ha=>?_,fun i j cs a hi hj=>?_⟩ rfl
   ·simp only[List.length_map];exact Nat.mul_le_mul_right 3 hle
   ·obtain⟨b,_,rfl⟩:=List.mem_map.1 hc;rfl
   ·obtain⟨b,_,rfl⟩:=List.mem_map.1 hc
    simp[ay]at ha
    rcases ha with rfl|rfl|rfl<;>rfl
   ·rw[List.getElem?_map]at hi
    simp only[Option.map_eq_some_iff]at hi
    obtain⟨b,hb,rfl⟩:=hi
    have hj3:j<3:=by have:=(List.getElem?_eq_some_iff.1 hj).1;simpa[ay]using this
    have oe:=(List.getElem?_eq_some_iff.1 hb).1
    have hg:=BS hb hj3
    rw[<-oH,List.getElem?_take,if_pos ab]at hg
    have key:∀x:Value,([.int .i64 b.a,.int .i64 b.b,.int .i64 b.s]:List Value)[j]? =some x->W'.cell? ⟨gb,i*3+j,none⟩=some x:=fun x hx=>by
     rw[hx]at hg
     have e:W'.cell? ⟨gb,i*3+j,none⟩=cur[i*3+j]? :=by
      unfold World.cell?
      rw[show W'.heap[(⟨gb,i*3+j,none⟩:Addr).block]? = _ from ly]
      rfl
     rw[e,<-Array.getElem?_toList];exact hg
    match j,hj with
    |0,hj=>simp[ay]at hj;subst hj;exact⟨_,key _ rfl,.ew _ _ (.int _ _)⟩
    |1,hj=>simp[ay]at hj;subst hj;exact⟨_,key _ rfl,.ew _ _ (.int _ _)⟩
    |2,hj=>simp[ay]at hj;subst hj;exact⟨_,key _ rfl,.ew _ _ (.int _ _)⟩
    |j+3,hj=>simp[ay]at hj
  have S2:=fG.add (r:=⟨true,3,(bW s l).map ay⟩) S S' lZ NK hR
  refine⟨.own ⟨0,n⟩ 0 (bW s l).length,bI (fun _=>none) ⟨0,n⟩ ⟨true,3,(bW s l).map ay⟩,n+1,D,j6 ι ⟨0,n⟩ ⟨gb,3,cap*3,none⟩,_,rfl,⟨wZ (bW s l),?_,rfl⟩,T.trans (Step.stay S' (fun _ _=>rfl) (Nat.le_refl _) rfl rfl rfl (fun _ h=>h) (fun _ h=>.inl h) (fv lZ)),S2,U.upd.next,Nat.le_succ _,.own _ _ _ _ _ _ (dL _ _ _) rfl hle (.inr (by simp)) (by simp) H6⟩
  unfold wZ
  rw[if_neg Nw]
  have hg:(bI (fun _=>none) (⟨0,n⟩:Id) ⟨true,3,(bW s l).map ay⟩:Rows) ⟨0,n⟩=some ⟨true,3,(bW s l).map ay⟩:=by simp[bI]
  have:=eX (n:=5) hg rfl fun b=>rW _ 4 b
  simpa using this
end Go.Proofs.YtihgaadadaekmaaGreatDoor.V

namespace Go.Proofs.YtihgaadadaekmaaGreatDoor.V
open Go.RowKit
attribute [local irreducible] dO wpOps gO Call
attribute [local go_sem] aH fF eF fR fQ cu upd cm K.av cJ AV.cells AV.cell rowOf rowsOf part ld rowAt bI bU dG ei il bJ da eB fW eZ dq ep cY cX dU dV bP bd cQ bL cT cR ek er eo cP bS cZ ej bK aL cV cw ik br cI bQ aZ dz bl dI AV.undef bB bH dY eh dR ea cE eA eE cr ev eu cU cW List.getD_cons_zero List.getD_cons_succ List.getD_nil List.all_cons List.all_nil Bool.and_true Bool.true_and Bool.and_self Bool.not_true Bool.not_false Option.map_some Option.map_none Option.bind_some Option.bind_none List.length_cons List.length_nil List.take_succ_cons List.take_zero List.take_nil List.drop_succ_cons List.drop_zero List.drop_nil List.head?_cons List.map_cons List.map_nil List.getElem?_cons_zero List.getElem?_cons_succ List.cons_append List.nil_append List.append_nil List.length_map List.set_cons_zero List.set_cons_succ Nat.reduceMul eq_self Int.toNat_natCast Int.natCast_nonneg and_self true_and and_true decide_true decide_false Bool.false_eq_true Nat.zero_add Nat.add_zero List.contains_cons List.contains_nil Bool.or_false Bool.false_or beq_self_eq_true Nat.reduceBEq ne_eq not_true_eq_false not_false_eq_true Id.mk.injEq false_and and_false Nat.reduceLT Int.reduceLE Int.reduceLT Int.reduceToNat Int.reduceNeg Int.reduceAdd Nat.le_refl List.length_append beq_true beq_false Bool.not_eq_eq_eq_not or_false false_or dC ad aj aE bz cj aT bj aX bf cK bG
theorem wm (s:bV) (l:List ak) (hn:fA s.ar) (hm:qL s) (hl:l.length<=1048576):ai Tryz.prog 41 [.agg (az s),.agg [.sl (l.map ah)]] (.int .i64 (if p9 s l then 0 else 1)):=by
 refine ai.body dP rfl fun sS n0=>?_
 clear sS
 have h1:=tW Kj s hn hm.s.g hm.s.t hm.s.s hm.a
 have h2:=lV s.ar l hn hm.s.g hm.s.t hm.s.s hl
 cases b1:lL s
 ·rw[b1]at h1
  rw[az]at h1 ⊢
  (repeat(first|((repeat(revert hN;revert N;apply Pn.out));refine wk @Nat.zero_add ?_;(repeat(refine Pn.mk ?_;intro N hN)))|((try apply Or.inl);refine⟨_,ai.x (h1) (sd @Nat.zero_add),?_⟩;refine hN _ _ ?_;clear hN N)))
  exact bq (b:=1) (.inl rfl) (sd @Nat.zero_add) (by simp[p9,b1])
 have dQ:oP s.ar=true:=k7.2 (tD.1 b1).set
 rw[b1]at h1
 rw[dQ,Bool.true_and]at h2
 rw[az]at h1 ⊢
 rw[aa]at h2
 cases b2:nQ s.ar l
 ·rw[b2]at h2
  (repeat(first|((repeat(revert hN;revert N;apply Pn.out));refine wk @Nat.zero_add ?_;(repeat(refine Pn.mk ?_;intro N hN)))|((try apply Or.inl);refine⟨_,ai.x (h1) (sd @Nat.zero_add),?_⟩;refine hN _ _ ?_;clear hN N)|((try apply Or.inl);refine⟨_,ai.x (h2) (sd @Nat.zero_add),?_⟩;refine hN _ _ ?_;clear hN N)))
  exact bq (b:=1) (.inl rfl) (sd @Nat.zero_add) (by simp[p9,b1,b2])
 ·rw[b2]at h2
  (repeat(first|((repeat(revert hN;revert N;apply Pn.out));refine wk @Nat.zero_add ?_;(repeat(refine Pn.mk ?_;intro N hN)))|((try apply Or.inl);refine⟨_,ai.x (h1) (sd @Nat.zero_add),?_⟩;refine hN _ _ ?_;clear hN N)|((try apply Or.inl);refine⟨_,ai.x (h2) (sd @Nat.zero_add),?_⟩;refine hN _ _ ?_;clear hN N)))
  exact bq (b:=0) (.inl rfl) (sd @Nat.zero_add) (by simp[p9,b1,b2])
theorem zZ (b d:Int):ai Tryz.prog 51 [.int .i64 b,.int .i64 d] (.bool (fU b 2 6&&fU d 1 8)):=by
 refine ai.body dP rfl fun hl n0=>?_
 clear hl
 have h1:=iN b 2 6
 have h2:=iN d 1 8
 cases hb:fU b 2 6
 ·rw[hb]at h1
  (repeat(first|((repeat(revert hN;revert N;apply Pn.out));refine wk @Nat.zero_add ?_;(repeat(refine Pn.mk ?_;intro N hN)))|((try apply Or.inl);refine⟨_,ai.x (h1) (sd @Nat.zero_add),?_⟩;refine hN _ _ ?_;clear hN N)))
  exact aI (b:=false) (.inl rfl) (sd @Nat.zero_add) rfl
 ·rw[hb]at h1
  (repeat(first|((repeat(revert hN;revert N;apply Pn.out));refine wk @Nat.zero_add ?_;(repeat(refine Pn.mk ?_;intro N hN)))|((try apply Or.inl);refine⟨_,ai.x (h1) (sd @Nat.zero_add),?_⟩;refine hN _ _ ?_;clear hN N)|((try apply Or.inl);refine⟨_,ai.x (h2) (sd @Nat.zero_add),?_⟩;refine hN _ _ ?_;clear hN N)))
  exact aI (b:=fU d 1 8) (.inl rfl) (sd @Nat.zero_add) (by simp)
theorem rr (s:bV) (a:dd) (b d:Int) (hn:fA s.ar) (hm:qL s) (hl:a.ae.length<=1048576):
  J6 Tryz.prog 21 [.agg (az s),.agg (aC a),.int .i64 b,.int .i64 d] (kT s a b d):=by
 obtain⟨l⟩:=a
 intro n0
 have h1:=wm s l hn hm hl
 have h2:=zZ b d
 rw[aC]
 (try dsimp only)
 cases hask:p9 s l
 ·rw[hask]at h1
  have hr:kT s ⟨l⟩ b d=([],1):=by rw[kT,hask];rfl
  rw[hr]
  refine fm dP rfl fun sS=>?_
  clear sS
  rw[az]at h1 ⊢
  (repeat(first|((repeat(revert hN;revert N;apply Pn.out));refine wk @Nat.zero_add ?_;(repeat(refine Pn.mk ?_;intro N hN)))|((try apply Or.inl);refine⟨_,ai.x (h1) (sd @Nat.zero_add),?_⟩;refine hN _ _ ?_;clear hN N)))
  exact gy (.inl rfl) (vs:=[.bE,.int .i64 1]) (sd @Nat.zero_add) ⟨[],⟨.bE,[],rfl,.inl ⟨rfl,rfl,rfl⟩,rfl⟩,⟨List.nodup_nil,fun i hi=>by cases hi⟩⟩
 rw[hask]at h1
 obtain⟨hP,hA⟩:=xJ.1 hask
 cases r4:fU b 2 6&&fU d 1 8
 ·rw[r4]at h2
  have hr:kT s ⟨l⟩ b d=([],2):=by rw[kT,hask,if_pos rfl,r4];rfl
  rw[hr]
  refine fm dP rfl fun sS=>?_
  clear sS
  rw[az]at h1 ⊢
  (repeat(first|((repeat(revert hN;revert N;apply Pn.out));refine wk @Nat.zero_add ?_;(repeat(refine Pn.mk ?_;intro N hN)))|((try apply Or.inl);refine⟨_,ai.x (h1) (sd @Nat.zero_add),?_⟩;refine hN _ _ ?_;clear hN N)|((try apply Or.inl);refine⟨_,ai.x (h2) (sd @Nat.zero_add),?_⟩;refine hN _ _ ?_;clear hN N)))
  exact gy (.inl rfl) (vs:=[.bE,.int .i64 2]) (sd @Nat.zero_add) ⟨[],⟨.bE,[],rfl,.inl ⟨rfl,rfl,rfl⟩,rfl⟩,⟨List.nodup_nil,fun i hi=>by cases hi⟩⟩
 rw[r4]at h2
 have kb:=dr (Bool.and_eq_true_iff.1 r4).1
 have kd:=dr (Bool.and_eq_true_iff.1 r4).2
 obtain⟨bn,rfl⟩:∃n:Nat,b=(n:Int):=⟨b.toNat,ab⟩
 obtain⟨dn,rfl⟩:∃n:Nat,d=(n:Int):=⟨d.toNat,ab⟩
 have hr:kT s ⟨l⟩ bn dn=if (cL s.ar l bn dn).length=0 then([],9)else(cL s.ar l bn dn,0):=by rw[kT,hask,if_pos rfl,r4];rfl
 rw[hr]
 clear hr
 obtain⟨R,hR⟩:∃R:List Int×Int,(if (cL s.ar l bn dn).length=0 then([],9)else(cL s.ar l bn dn,0))=R:=⟨_,rfl⟩
 rw[hR]
 have oV:=fun y x:Nat=>yu s.ar hP.set.form l hA ⟨(x:Int),(y:Int)⟩ 0 (jx ab)
 have Mv:=fun nm:ByteArray=>A8 nm ⟨#[118]⟩ (by decide) bn ab
 rw[aa]at oV
 refine fm dP rfl fun sS=>?_
 clear sS
 rw[az]at h1 ⊢
 (repeat(first|((repeat(revert hN;revert N;apply Pn.out));refine wk @Nat.zero_add ?_;(repeat(refine Pn.mk ?_;intro N hN)))|((try apply Or.inl);refine⟨_,ai.x (h1) (sd @Nat.zero_add),?_⟩;refine hN _ _ ?_;clear hN N)|((try apply Or.inl);refine⟨_,ai.x (h2) (sd @Nat.zero_add),?_⟩;refine hN _ _ ?_;clear hN N)))
 refine CF (fun e st=>∃k:Nat,k<=61/\(∀j,j<k->kA s.ar l bn dn j=true)/\(k=61∨kA s.ar l bn dn k=false)/\MR 21016003 n0 (tP s.ar l bn dn k) (e 10) st.get st.next) ?_ ?_
 ·rintro e st ⟨k,hk,cN,hend,hG⟩
  have kB:=Jr hk cN hend
  rw[kB,lu]at hR
  refine hN _ _ ?_
  clear hN N
  have hlen:=lu s.ar l bn dn k
  generalize tP s.ar l bn dn k=L at hG hlen hR
  rcases hG with⟨hL,Js⟩|⟨u,Js,hu,hum,F3,u3,N5⟩
  ·subst hL
   have pj:k=0:=by simpa using hlen.symm
   subst pj
   have KR:decide (((0:Nat):Int)=0)=true:=rfl
   rw[if_pos rfl]at hR
   subst hR
   (try((repeat(revert hN;revert N;apply Pn.out));refine wk (tw @Js @KR) ?_;(repeat(refine Pn.mk ?_;intro N hN))))
   exact gy (.inl rfl) (vs:=[.bE,.int .i64 9]) (sd @Nat.zero_add) ⟨[],⟨.bE,[],rfl,.inl ⟨rfl,rfl,rfl⟩,rfl⟩,⟨List.nodup_nil,fun i hi=>by cases hi⟩⟩
  ·have pj:¬k=0:=ab
   have KR:decide ((L.length:Int)=0)=false:=decide_eq_false ab
   rw[if_neg pj]at hR
   subst hR
   (try((repeat(revert hN;revert N;apply Pn.out));refine wk (tw @Js @KR) ?_;(repeat(refine Pn.mk ?_;intro N hN))))
   exact gy (.inl rfl) (vs:=[.own u 0 L.length,.int .i64 0]) (sd @Js) ⟨[u],⟨.own u 0 L.length,[u],rfl,.inr ⟨u,rfl,hu,rfl,u3⟩,rfl⟩,⟨List.nodup_cons.2 ⟨by simp,List.nodup_nil⟩,fun i hi=>by rw[List.mem_singleton.1 hi];exact⟨hum,bD⟩⟩⟩
 intro N hN
 refine aJ (fun n env st=>∃k:Nat,n=61-k/\k<=61/\(∀j,j<k->kA s.ar l bn dn j=true)/\env 11=.int .i64 (k:Int)/\MR 21016003 n0 (tP s.ar l bn dn k) (env 10) st.get st.next/\n0<st.next/\st.get ⟨21000000,n0⟩=some ⟨true,4,[[.sl (s.ar.aw.map aV),.sl (s.ar.ae.map aU),.sl (s.bR.ae.map ah),.int .i64 s.aG]]⟩/\st.get ⟨21000001,n0⟩=some ⟨true,1,[[.sl (l.map ah)]]⟩) 61 ⟨0,rfl,ab,fun j hj=>absurd hj (Nat.not_lt_zero j),by(simp only[go_sem, ↓reduceIte,Nat.reduceEqDiff,Nat.reduceAdd,Nat.reduceSub,Nat.reduceLeDiff,reduceCtorEq])<;>rfl,.inl ⟨rfl,sd @Nat.zero_add⟩,bD,sd @Nat.zero_add,sd @Nat.zero_add⟩ ?_
 rintro n env_a st_a ⟨k,rfl,hk,cN,e11,hG,Du,hg4,hg5⟩ hkp
 have e4:=hkp 4 (by kernel_rfl)
 have e5:=hkp 5 (by kernel_rfl)
 have e2:=hkp 2 (by kernel_rfl)
 have e3:=hkp 3 (by kernel_rfl)
 simp only[go_sem, ↓reduceIte,Nat.reduceEqDiff,Nat.reduceAdd,Nat.reduceSub,Nat.reduceLeDiff,reduceCtorEq]at e2 e3 e4 e5
 clear hkp
 have hz:gx (bn:Int) (nR s.ar l bn k 0)=0:=rfl
 (try((repeat(revert hN;revert N;apply Pn.out));refine wk (tw @e11 @e3) ?_;(repeat(refine Pn.mk ?_;intro N hN))))
 refine aJ (fun n env st=>∃x:Nat,n=(dn)-x/\x<=(dn)/\env 28=.int .i64 (x:Int)/\env 12=.int .i64 (gx bn (nR s.ar l bn k x))/\(∀j:Nat,j<x->0<=jK s.ar l bn k j)/\(st_a.next<=st.next/\(∀i:Id,i.bZ<st_a.next->st.get i=st_a.get i))) (dn) ⟨0,ab,ab,sl (tw @hz (tw @e2 (tw @e3 (tw @e4 (tw @e5 @e11))))),sl (tw @hz (tw @e2 (tw @e3 (tw @e4 (tw @e5 @e11))))),fun _ h=>absurd h (Nat.not_lt_zero _),by(try dsimp only);exact⟨ab,fun i hi=>rfl⟩⟩ ?_
 rintro n_b env_b st_b ⟨x,rfl,ble,b28,b12,bA0,bI0⟩ bfr
 have b2:=bfr 2 (by kernel_rfl);have b4:=bfr 4 (by kernel_rfl);have b5:=bfr 5 (by kernel_rfl);have xk:=bfr 10 (by kernel_rfl);have xN:=bfr 11 (by kernel_rfl);have CW:=bfr 27 (by kernel_rfl)
 simp only[go_sem, ↓reduceIte,Nat.reduceEqDiff,Nat.reduceAdd,Nat.reduceSub,Nat.reduceLeDiff,reduceCtorEq,hz,e2,e3,e4,e5,e11]at b2 b4 b5 xk xN CW
 clear bfr
 obtain⟨bn2,bF⟩:=bI0
 have g4:=(bF ⟨21000000,n0⟩ Du).trans hg4
 have g5:=(bF ⟨21000001,n0⟩ Du).trans hg5
 by_cases hx:(x:Int)<(dn:Int)
 ·have iW:∀{e:Env} {gg:Rows} {nx:Nat},(e 28=.int .i64 (IntKind.i64.wrap ((x:Int)+1)))->(e 12=.int .i64 (gx bn (nR s.ar l bn k (x+1))))->(0<=jK s.ar l bn k x)->(st_a.next<=nx/\(∀i:Id,i.bZ<st_a.next->gg i=st_a.get i))->∃m0,m0<(dn)-x/\∃x:Nat,m0=(dn)-x/\x<=(dn)/\e 28=.int .i64 (x:Int)/\e 12=.int .i64 (gx bn (nR s.ar l bn k x))/\(∀j:Nat,j<x->0<=jK s.ar l bn k j)/\(st_a.next<=nx/\(∀i:Id,i.bZ<st_a.next->gg i=st_a.get i)):=fun x1 x2 x3 x4=>⟨_,ab,x+1,rfl,ab,(by rw[x1,aA ab]),x2,(all_succ bA0 x3),x4⟩
  have JR:x<dn:=ab
  have Ia:=oV k x
  rw[ao]at Ia
  have FT:=Mv (xn s.ar l ⟨(x:Int),(k:Int)⟩ 0)
  have KQ:kc (xn s.ar l ⟨(x:Int),(k:Int)⟩ 0) ⟨#[118]⟩ bn=jK s.ar l bn k x:=rfl
  rw[KQ]at FT
  generalize xn s.ar l ⟨(x:Int),(k:Int)⟩ 0=nm at Ia FT
  have fb:=Fi (s:=s.ar) (l:=l) (b:=bn) (y:=k) (x:=x) fun j hj=>bA0 j hj
  have h3:=Cx (b:=(bn:Int)) ab ab (R:=nR s.ar l bn k x) (by rw[o8];omega) fb
  have zB:gx (bn:Int) (nR s.ar l bn k (x+1))=gx bn (nR s.ar l bn k x)*bn+jK s.ar l bn k x:=by rw[xQ,vz]
  have dD:jK s.ar l bn k x<10:=by
   unfold jK
   rcases rU (xn s.ar l ⟨(x:Int),(k:Int)⟩ 0) ⟨#[118]⟩ bn with h|h<;>omega
  obtain⟨v,hv⟩:∃v,jK s.ar l bn k x=v:=⟨_,rfl⟩
  rw[hv]at FT zB dD
  by_cases mu:v<0
  ·have jD:=rS (s:=s.ar) (l:=l) (b:=bn) (d:=dn) (y:=k) JR (by rw[hv];exact mu)
   (repeat(first|((repeat(revert hN;revert N;apply Pn.out));refine wk (tw @b28 (tw @b12 (tw @b2 (tw @b4 (tw @b5 (tw @xk (tw @xN (tw @CW (tw @hx (tw @g4 (tw @g5 @mu))))))))))) ?_;(repeat(refine Pn.mk ?_;intro N hN)))|((try apply Or.inl);refine⟨_,ai.x (Ia) (sd (tw @b28 (tw @b12 (tw @b2 (tw @b4 (tw @b5 (tw @xk (tw @xN (tw @CW (tw @hx (tw @g4 (tw @g5 @mu)))))))))))),?_⟩;refine hN _ _ ?_;clear hN N)|((try apply Or.inl);refine⟨_,ai.x (FT) (sd (tw @b28 (tw @b12 (tw @b2 (tw @b4 (tw @b5 (tw @xk (tw @xN (tw @CW (tw @hx (tw @g4 (tw @g5 @mu)))))))))))),?_⟩;refine hN _ _ ?_;clear hN N)))
   exact⟨k,hk,cN,.inr jD,hG.frame (sd (tw @b28 (tw @b12 (tw @b2 (tw @b4 (tw @b5 (tw @xk (tw @xN @CW)))))))) bD fun i hi _=>by
    have h9:=eK (i:=i) (n:=st_b.next) ab
    have h8:=bF i hi
    simp only[go_sem, ↓reduceIte,Nat.reduceEqDiff,Nat.reduceAdd,Nat.reduceSub,Nat.reduceLeDiff,reduceCtorEq,h9,h8]⟩
  ·have h5:0<=gx (bn:Int) (nR s.ar l bn k x)*bn:=Int.mul_nonneg h3.1 ab
   have h6:gx (bn:Int) (nR s.ar l bn k x)*bn<=1679615*6:=Int.mul_le_mul h3.2 ab ab ab
   have w1:IntKind.i64.wrap (gx (bn:Int) (nR s.ar l bn k x)*bn)=gx (bn:Int) (nR s.ar l bn k x)*bn:=aQ ab
   have w2:IntKind.i64.wrap (gx (bn:Int) (nR s.ar l bn k x)*bn+v)=gx (bn:Int) (nR s.ar l bn k (x+1)):=by rw[zB,aQ ab]
   (repeat(first|((repeat(revert hN;revert N;apply Pn.out));refine wk (tw @b28 (tw @b12 (tw @b2 (tw @b4 (tw @b5 (tw @xk (tw @xN (tw @CW (tw @hx (tw @g4 (tw @g5 (tw @mu (tw @w1 @w2))))))))))))) ?_;(repeat(refine Pn.mk ?_;intro N hN)))|((try apply Or.inl);refine⟨_,ai.x (Ia) (sd (tw @b28 (tw @b12 (tw @b2 (tw @b4 (tw @b5 (tw @xk (tw @xN (tw @CW (tw @hx (tw @g4 (tw @g5 (tw @mu (tw @w1 @w2)))))))))))))),?_⟩;refine hN _ _ ?_;clear hN N)|((try apply Or.inl);refine⟨_,ai.x (FT) (sd (tw @b28 (tw @b12 (tw @b2 (tw @b4 (tw @b5 (tw @xk (tw @xN (tw @CW (tw @hx (tw @g4 (tw @g5 (tw @mu (tw @w1 @w2)))))))))))))),?_⟩;refine hN _ _ ?_;clear hN N)))
   refine iW ?_ ?_ (by rw[hv];omega) (by(try dsimp only);exact⟨ab,fun i hi=>by
    have h9:=eK (i:=i) (n:=st_b.next) ab
    have h8:=bF i hi
    simp only[go_sem, ↓reduceIte,Nat.reduceEqDiff,Nat.reduceAdd,Nat.reduceSub,Nat.reduceLeDiff,reduceCtorEq,h9,h8]⟩)
   all_goals simp only[go_sem, ↓reduceIte,Nat.reduceEqDiff,Nat.reduceAdd,Nat.reduceSub,Nat.reduceLeDiff,reduceCtorEq,b28,b12,b2,b4,b5,xk,xN,CW,w1,w2]
 ·have JR:x=dn:=ab
  subst JR
  have AM:=xR (s:=s.ar) (l:=l) (b:=bn) (d:=x) (y:=k) fun j hj=>bA0 j hj
  have AD:k<61:=by
   rcases Nat.lt_or_ge 60 k with h|h
   ·rw[Fj hA ab h]at AM;cases AM
   ·omega
  have mm:IntKind.i64.wrap ((k:Int)+1)=((k+1:Nat):Int):=by rw[aQ ab];rfl
  have QK:gx (bn:Int) (nR s.ar l bn k x)=vU s.ar l bn x k:=rfl
  rw[QK]at b12
  have zB:(tP s.ar l bn x (k+1)).map au=(tP s.ar l bn x k).map au++[[.int .i64 (vU s.ar l bn x k)]]:=by rw[xS,List.map_append];rfl
  have tR:(tP s.ar l bn x (k+1)).length=k+1:=lu ..
  have r6:(tP s.ar l bn x k).length=k:=lu ..
  have qm:k<=16777215:=ab
  have Jw:∀j,j<k+1->kA s.ar l bn x j=true:=fun j hj=>by
   rcases Nat.lt_or_ge j k with h|h
   ·exact cN j h
   ·have:j=k:=ab
    rw[this];exact AM
  generalize vU s.ar l bn x k=z at b12 zB
  generalize tP s.ar l bn x k=M at hG zB r6
  rcases hG with⟨hL,Js⟩|⟨u,Js,hu,hum,F3,u3,N5⟩
  ·subst hL
   (try((repeat(revert hN;revert N;apply Pn.out));refine wk (tw @b28 (tw @b12 (tw @b2 (tw @b4 (tw @b5 (tw @xk (tw @xN (tw @CW (tw @hx (tw @Js @mm)))))))))) ?_;(repeat(refine Pn.mk ?_;intro N hN))))
   exact⟨61-(k+1),ab,k+1,rfl,ab,Jw,sd (tw @b28 (tw @b12 (tw @b2 (tw @b4 (tw @b5 (tw @xk (tw @xN (tw @CW @mm)))))))),.inr ⟨⟨21016003,st_b.next+1⟩,by rw[tR,<-r6];simp only[go_sem, ↓reduceIte,Nat.reduceEqDiff,Nat.reduceAdd,Nat.reduceSub,Nat.reduceLeDiff,reduceCtorEq]<;>rfl,by rw[zB];simp only[go_sem, ↓reduceIte,Nat.reduceEqDiff,Nat.reduceAdd,Nat.reduceSub,Nat.reduceLeDiff,reduceCtorEq]<;>rfl,bD,bD,by rw[tR];omega,rfl⟩,bD,sd @g4,sd @g5⟩
  ·have bu:=(bF u F3).trans hu
   have vu:=eK (i:=u) (n:=st_b.next) ab
   have Ij:(M.map au).length=M.length:=by simp
   have hM1:M.length<=16777215:=ab
   have u4:((⟨21000000,n0⟩:Id)=u)=False:=eq_false fun e=>by
    have h:=congrArg Id.site e
    rw[N5]at h
    exact absurd (show(21000000:Nat)=21016003 from h) (by decide)
   have u5:((⟨21000001,n0⟩:Id)=u)=False:=eq_false fun e=>by
    have h:=congrArg Id.site e
    rw[N5]at h
    exact absurd (show(21000001:Nat)=21016003 from h) (by decide)
   (try((repeat(revert hN;revert N;apply Pn.out));refine wk (tw @b28 (tw @b12 (tw @b2 (tw @b4 (tw @b5 (tw @xk (tw @xN (tw @CW (tw @hx (tw @Js (tw @bu (tw @vu (tw @Ij (tw @hM1 @mm)))))))))))))) ?_;(repeat(refine Pn.mk ?_;intro N hN))))
   exact⟨61-(k+1),ab,k+1,rfl,ab,Jw,sd (tw @b28 (tw @b12 (tw @b2 (tw @b4 (tw @b5 (tw @xk (tw @xN (tw @CW @mm)))))))),.inr ⟨⟨21016003,st_b.next+1⟩,by rw[tR,<-r6];simp only[go_sem, ↓reduceIte,Nat.reduceEqDiff,Nat.reduceAdd,Nat.reduceSub,Nat.reduceLeDiff,reduceCtorEq]<;>rfl,by rw[zB];simp only[go_sem, ↓reduceIte,Nat.reduceEqDiff,Nat.reduceAdd,Nat.reduceSub,Nat.reduceLeDiff,reduceCtorEq]<;>rfl,bD,bD,by rw[tR];omega,rfl⟩,bD,sd (tw @u4 @g4),sd (tw @u5 @g5)⟩
end Go.Proofs.YtihgaadadaekmaaGreatDoor.V

namespace Go.Proofs.YtihgaadadaekmaaGreatDoor
open Go.ChangeShapes Go.WideShapes Go.ChangeAt Go.RowKit Go.Deep
section
variable {H:Type} {enc:TypeId×Value->H} {P:Program} {w:World}
theorem lk.On {α:Type} {rep:World->List Nat->List Value->α->Prop} {sz:Nat} {w:World} {b o len cap:Nat} (mO:Nat->List Value) (fs:Nat->List Nat) (ds:Nat->α) (hc:len<=cap) (hm:cap<=maxLen)
  (hl:∀i,i<len->(mO i).length=sz) (hr:∀i,i<len->rep w (fs i) (mO i) (ds i)) (xq:∀i,i<len->∀j u,(mO i)[j]? =some u->w.cell? ⟨b,o+(i*sz+j),none⟩=some u):
  lk rep sz w ([b]++((List.range len).map fs).flatten) (.slice (some ⟨b,o,none⟩) len cap) ((List.range len).map ds):=by
 refine⟨(List.range len).map mO,(List.range len).map fs,[b],rfl,⟨some ⟨b,o,none⟩,cap,by simp,by simpa using hc,hm,.inr ⟨b,o,rfl,rfl,fun j u hj=>?_⟩⟩,by simp,by simp,fun i cs f d h1 h2 h3=>?_⟩
 ·have hlen:∀cs∈(List.range len).map mO,cs.length=sz:=fun cs dh=>by
   obtain⟨i,hi,rfl⟩:=List.mem_map.1 dh
   exact hl i (List.mem_range.1 hi)
  have gn:=(List.getElem?_eq_some_iff.1 hj).1
  have H9:((List.range len).map mO).flatten.length=len*sz:=by
   rw[List.length_flatten,List.map_map]
   have:∀(l:List Nat),(∀i∈l,i<len)->(l.map (List.length∘mO)).sum=l.length*sz:=by
    intro l
    induction l with
    |nil=>intro _;simp
    |cons a l ih=>intro h;rw[List.map_cons,List.sum_cons,ih fun i hi=>h i (List.mem_cons_of_mem _ hi)];simp only[Function.comp,hl a (h a (by simp)),List.length_cons,Nat.add_mul];omega
   rw[this _ fun i hi=>List.mem_range.1 hi,List.length_range]
  rw[H9]at gn
  have JM:0<sz:=by
   rcases Nat.eq_zero_or_pos sz with h|h
   ·subst h;simp at gn
   ·exact h
  have hi:j / sz<len:=(Nat.div_lt_iff_lt_mul JM).2 gn
  have JI:j % sz<sz:=Nat.mod_lt _ JM
  have Ig:j=(j / sz)*sz+j % sz:=by rw[Nat.mul_comm];exact(Nat.div_add_mod j sz).symm
  rw[Ig,qQ hlen (i:=j / sz) (cs:=mO (j / sz)) (by simp[hi]) JI]at hj
  rw[Ig]
  have:=xq (j / sz) hi (j % sz) u hj
  rw[<-Ig]at this ⊢
  exact this
 ·have hi:i<len:=by
   have:=(List.getElem?_eq_some_iff.1 h1).1
   simpa using this
  simp[hi]at h1 h2 h3
  subst h1 h2 h3
  exact⟨hr i hi,hl i hi⟩
theorem ju (b o k:Nat):(⟨b,o,none⟩:Addr).add k=⟨b,o+k,none⟩:=by
 unfold Addr.add;split
 ·rename_i h;subst h;rfl
 ·rfl
theorem nM {α:Type} {rep:World->List Nat->List Value->α->Prop} {Q:α->Prop} {t e:TypeId} {sz fuel:Nat} {cs:List Value} {x:DataW H×List MemPlace} (ht:P.underlying t=some (.slice e)) (hC:P.cellsOf e=sz) (JM:0<sz)
  (h:DataW.trod enc P w 0 (fun _=>true) true fuel t cs=some x) (hel:∀n n8 y,n8.length=sz->DataW.trod enc P w 0 (fun _=>true) true n e n8=some y->∃f d,e7 f 0 w.heap.size/\rep w f n8 d/\Q d):
  ∃A n c f xs,cs=[.slice A n c]/\e7 f 0 w.heap.size/\lk rep sz w f (.slice A n c) xs/\∀d∈xs,Q d:=by
 rcases open_slice ht h with⟨rfl,_⟩|⟨a,len,cap,m,n,D,Pl,rfl,_,hl,hm,Ij,_,hi⟩
 ·exact⟨none,0,0,[],[],rfl,e7.nil _ _,lk.nil _ _ _,fun d h=>by cases h⟩
 rw[hC]at hi
 simp only[if_true]at Ij
 by_cases h0:len=0
 ·subst h0
  exact⟨some a,0,cap,[],[],rfl,e7.nil _ _,⟨[],[],[],rfl,⟨some a,cap,rfl,Nat.zero_le _,hm,.inl ⟨rfl,rfl⟩⟩,rfl,rfl,fun i cs f d hc=>by simp at hc⟩,fun d h=>by cases h⟩
 obtain⟨b,o,sp⟩:=a
 have cell0:∃v,w.cell? ⟨b,o,sp⟩=some v:=by
  obtain⟨n8,hc,_⟩:=hi 0 (by omega)
  obtain⟨_,kB,xq⟩:=World.cells?_some hc
  refine⟨n8[0]'(by omega),?_⟩
  have:=xq 0 JM
  rw[List.getElem?_eq_getElem (by omega)]at this
  simpa[Addr.add]using this
 obtain⟨v0,mu⟩:=cell0
 have hb:b<w.heap.size:=World.block_lt_of_cell? w _ mu
 have Lg:sp=none:=by
  unfold World.cell? at mu
  split at mu
  ·split at mu
   ·cases mu
   ·rename_i h;simpa using h
  ·cases mu
 subst Lg
 have key:∀i,i<len->∃n8 f d,n8.length=sz/\e7 f 0 w.heap.size/\rep w f n8 d/\Q d/\∀j u,n8[j]? =some u->w.cell? ⟨b,o+(i*sz+j),none⟩=some u:=fun i oe=>by
  obtain⟨n8,hc,htr⟩:=hi i (by omega)
  obtain⟨_,kB,xq⟩:=World.cells?_some hc
  obtain⟨f,d,h1,h2,h3⟩:=hel n n8 _ kB htr
  refine⟨n8,f,d,kB,h1,h2,h3,fun j u hj=>?_⟩
  have gn:=(List.getElem?_eq_some_iff.1 hj).1
  have:=xq j (by omega)
  rw[hj]at this
  rw[<-this,Go.Deep.add_add,ju]
 have:Nonempty α:=by
  obtain⟨_,_,d,_⟩:=key 0 (by omega)
  exact⟨d⟩
 let cf:Nat->List Value:=fun i=>if hi:i<len then(key i hi).choose else[]
 let ff:Nat->List Nat:=fun i=>if hi:i<len then(key i hi).choose_spec.choose else[]
 let df:Nat->α:=fun i=>if hi:i<len then(key i hi).choose_spec.choose_spec.choose else Classical.choice this
 have cN:∀i,i<len->(cf i).length=sz/\e7 (ff i) 0 w.heap.size/\rep w (ff i) (cf i) (df i)/\Q (df i)/\∀j u,(cf i)[j]? =some u->w.cell? ⟨b,o+(i*sz+j),none⟩=some u:=fun i hi=>by
  have:=(key i hi).choose_spec.choose_spec.choose_spec
  simp only[cf,ff,df,dif_pos hi]
  exact this
 refine⟨some ⟨b,o,none⟩,len,cap,_,(List.range len).map df,rfl,?_,lk.On cf ff df hl hm (fun i hi=>(cN i hi).1) (fun i hi=>(cN i hi).2.2.1) (fun i hi=>(cN i hi).2.2.2.2),fun d hd=>?_⟩
 ·intro x hx
  rcases List.mem_append.1 hx with hx|hx
  ·simp at hx;subst hx;exact⟨Nat.zero_le _,hb⟩
  ·obtain⟨l,EJ,MH⟩:=List.mem_flatten.1 hx
   obtain⟨i,hi,rfl⟩:=List.mem_map.1 EJ
   exact(cN i (List.mem_range.1 hi)).2.1 x MH
 ·obtain⟨i,hi,rfl⟩:=List.mem_map.1 hd
  exact(cN i (List.mem_range.1 hi)).2.2.2.1
end
section
variable {H:Type} {enc:TypeId×Value->H} {w:World} {fuel:Nat} {cs:List Value} {x:DataW H×List MemPlace}
abbrev TT (enc:TypeId×Value->H) (w:World) (fuel t:Nat) (cs:List Value) (x:DataW H×List MemPlace):Prop:=DataW.trod enc Tryz.prog w 0 (fun _=>true) true fuel t cs=some x
theorem Ly (h:TT enc w fuel 54 cs x):∃A n c f xs,cs=[.slice A n c]/\e7 f 0 w.heap.size/\so w f (.slice A n c) xs:=by
 obtain⟨A,n,c,f,xs,h1,h2,h3,_⟩:=nM (rep:=BP) (Q:=fun _=>True) Tryz.underlying54 (sz:=1) (by kernel_rfl) (by omega) h fun n n8 y hl hy=>by
  obtain⟨b,rfl,_⟩:=DataW.trod_int Tryz.underlying2 hy
  exact⟨[],b,e7.nil _ _,⟨rfl,rfl⟩,trivial⟩
 exact⟨A,n,c,f,xs,h1,h2,h3⟩
theorem lH {t:TypeId} {fs:Array Field} (ht:Tryz.prog.underlying t=some (.struct fs)) (h:TT enc w fuel t cs x):cs.length=Tryz.prog.cellsOf t/\∃n,∀(i:Nat) (f:Field),fs[i]? =some f->∃y,TT enc w n f.type ((cs.drop f.offset).take (Tryz.prog.cellsOf f.type)) y:=by
 obtain⟨xs,n,_,_,hl,MH,hf⟩:=DataW.trod_struct ht h
 refine⟨hl,n,fun i f hi=>?_⟩
 have oe:i<xs.length:=by rw[MH];exact(Array.getElem?_eq_some_iff.1 hi).1
 exact⟨xs[i],(hf i f hi).trans (List.getElem?_eq_getElem oe)⟩
theorem Oj {l:List Value} (h:l.length=2):∃a b,l=[a,b]:=by
 match l,h with
 |[a,b],_=>exact⟨a,b,rfl⟩
theorem Q4 {l:List Value} (h:l.length=3):∃a b c,l=[a,b,c]:=by
 match l,h with
 |[a,b,c],_=>exact⟨a,b,c,rfl⟩
theorem Q3 {l:List Value} (h:l.length=1):∃a,l=[a]:=by
 match l,h with
 |[a],_=>exact⟨a,rfl⟩
theorem Q5 {l:List Value} (h:l.length=4):∃a b c d,l=[a,b,c,d]:=by
 match l,h with
 |[a,b,c,d],_=>exact⟨a,b,c,d,rfl⟩
theorem IT (h:TT enc w fuel 22 cs x):∃A n c f xs,cs=[.slice A n c]/\e7 f 0 w.heap.size/\oZ w f (.slice A n c) xs/\∀d∈xs,d.aB.size<=9223372036854775807:=by
 exact nM (rep:=EZ) (Q:=fun d=>d.aB.size<=9223372036854775807) Tryz.underlying22 (sz:=2) (by kernel_rfl) (by omega) h fun n n8 y hl hy=>by
  obtain⟨_,m,hf⟩:=lH Tryz.underlying144 hy
  obtain⟨a,b,rfl⟩:=Oj hl
  ·skip
   obtain⟨y0,h0⟩:=hf 0 _ rfl
   obtain⟨y1,h1⟩:=hf 1 _ rfl
   rw[show Tryz.prog.cellsOf _=1 from by kernel_rfl]at h0 h1
   obtain⟨p,e0,_,ws⟩:=DataW.trod_string Tryz.underlying9 h0
   obtain⟨q,e1,_⟩:=DataW.trod_int Tryz.underlying2 h1
   simp at e0 e1
   subst e0 e1
   exact⟨[],⟨p,q⟩,e7.nil _ _,⟨rfl,rfl⟩,by simpa[maxLen]using ws⟩
theorem IU (h:TT enc w fuel 23 cs x):∃A n c f xs,cs=[.slice A n c]/\e7 f 0 w.heap.size/\o3 w f (.slice A n c) xs/\∀d∈xs,d.aB.size<=9223372036854775807:=by
 exact nM (rep:=E0) (Q:=fun d=>d.aB.size<=9223372036854775807) Tryz.underlying23 (sz:=2) (by kernel_rfl) (by omega) h fun n n8 y hl hy=>by
  obtain⟨_,m,hf⟩:=lH Tryz.underlying146 hy
  obtain⟨a,b,rfl⟩:=Oj hl
  ·skip
   obtain⟨y0,h0⟩:=hf 0 _ rfl
   obtain⟨y1,h1⟩:=hf 1 _ rfl
   rw[show Tryz.prog.cellsOf _=1 from by kernel_rfl]at h0 h1
   obtain⟨p,e0,_,ws⟩:=DataW.trod_string Tryz.underlying9 h0
   obtain⟨A1,n1,c1,f1,OF,e1,k1,s1⟩:=Ly h1
   simp at e0 e1
   subst e0 e1
   exact⟨_,⟨p,OF⟩,k1,⟨_,f1,rfl,rfl,s1⟩,by simpa[maxLen]using ws⟩
theorem D9 (h:TT enc w fuel 26 cs x):∃A n c f xs,cs=[.slice A n c]/\e7 f 0 w.heap.size/\g7 w f (.slice A n c) xs:=by
 obtain⟨A,n,c,f,xs,h1,h2,h3,_⟩:=nM (rep:=xC) (Q:=fun _=>True) Tryz.underlying26 (sz:=3) (by kernel_rfl) (by omega) h fun n n8 y hl hy=>by
  obtain⟨_,m,hf⟩:=lH Tryz.underlying123 hy
  obtain⟨a,b,c,rfl⟩:=Q4 hl
  ·skip
   obtain⟨y0,h0⟩:=hf 0 _ rfl
   obtain⟨y1,h1⟩:=hf 1 _ rfl
   rw[show Tryz.prog.cellsOf _=2 from by kernel_rfl]at h0
   rw[show Tryz.prog.cellsOf _=1 from by kernel_rfl]at h1
   obtain⟨_,m2,JA⟩:=lH Tryz.underlying121 h0
   obtain⟨z0,g0⟩:=JA 0 _ rfl
   obtain⟨z1,g1⟩:=JA 1 _ rfl
   rw[show Tryz.prog.cellsOf _=1 from by kernel_rfl]at g0 g1
   obtain⟨px,e0,_⟩:=DataW.trod_int Tryz.underlying2 g0
   obtain⟨py,e1,_⟩:=DataW.trod_int Tryz.underlying2 g1
   obtain⟨ti,e2,_⟩:=DataW.trod_int Tryz.underlying2 h1
   simp at e0 e1 e2
   subst e0 e1 e2
   exact⟨[],⟨⟨px,py⟩,ti⟩,e7.nil _ _,⟨rfl,rfl⟩,trivial⟩
 exact⟨A,n,c,f,xs,h1,h2,h3⟩
theorem td (h:TT enc w fuel 28 cs x):∃A n c f,∃d:dd,cs=[.slice A n c]/\e7 f 0 w.heap.size/\g7 w f (.slice A n c) d.ae:=by
 obtain⟨hl,m,hf⟩:=lH Tryz.underlying28 h
 rw[show Tryz.prog.cellsOf _=1 from by kernel_rfl]at hl
 obtain⟨a,rfl⟩:=Q3 hl
 ·skip
  obtain⟨y0,h0⟩:=hf 0 _ rfl
  rw[show Tryz.prog.cellsOf _=1 from by kernel_rfl]at h0
  obtain⟨A1,n1,c1,f1,OF,e1,k1,s1⟩:=D9 h0
  simp at e1
  subst e1
  exact⟨A1,n1,c1,f1,⟨OF⟩,rfl,k1,s1⟩
theorem Gy (h:TT enc w fuel 30 cs x):∃A0 n0 c0 f0 A1 n1 c1 f1 A2 n2 c2 f2,∃d:bV,cs=[.slice A0 n0 c0,.slice A1 n1 c1,.slice A2 n2 c2,.int .i64 d.aG]/\e7 f0 0 w.heap.size/\oZ w f0 (.slice A0 n0 c0) d.ar.aw/\e7 f1 0 w.heap.size/\o3 w f1 (.slice A1 n1 c1) d.ar.ae/\e7 f2 0 w.heap.size/\g7 w f2 (.slice A2 n2 c2) d.bR.ae/\(∀g∈d.ar.aw,g.aB.size<=9223372036854775807)/\∀t∈d.ar.ae,t.aB.size<=9223372036854775807:=by
 obtain⟨hl,m,hf⟩:=lH Tryz.underlying30 h
 rw[show Tryz.prog.cellsOf _=4 from by kernel_rfl]at hl
 obtain⟨a,b,c,d,rfl⟩:=Q5 hl
 ·skip
  obtain⟨y0,h0⟩:=hf 0 _ rfl
  obtain⟨y1,h1⟩:=hf 1 _ rfl
  obtain⟨y2,h2⟩:=hf 2 _ rfl
  rw[show Tryz.prog.cellsOf _=2 from by kernel_rfl]at h0
  rw[show Tryz.prog.cellsOf _=1 from by kernel_rfl]at h1 h2
  obtain⟨_,m2,JA⟩:=lH Tryz.underlying25 h0
  obtain⟨z0,g0⟩:=JA 0 _ rfl
  obtain⟨z1,g1⟩:=JA 1 _ rfl
  rw[show Tryz.prog.cellsOf _=1 from by kernel_rfl]at g0 g1
  obtain⟨A0,n0,c0,f0,xs0,e0,k0,s0,o0⟩:=IT g0
  obtain⟨A1,n1,c1,f1,OF,e1,k1,s1,o1⟩:=IU g1
  obtain⟨A2,n2,c2,f2,d2,e2,k2,s2⟩:=td h1
  obtain⟨t,e3,_⟩:=DataW.trod_int Tryz.underlying2 h2
  simp at e0 e1 e2 e3
  subst e0 e1 e2 e3
  exact⟨A0,n0,c0,f0,A1,n1,c1,f1,A2,n2,c2,f2,⟨⟨xs0,OF⟩,d2,t⟩,rfl,k0,s0,k1,s1,k2,s2,o0,o1⟩
end
end Go.Proofs.YtihgaadadaekmaaGreatDoor

namespace Go.Proofs.YtihgaadadaekmaaGreatDoor
open Go.ChangeShapes Go.WideShapes Go.ChangeAt Go.RowKit V
theorem Ov:ownKnob Tryz.prog.godebug=none:=by kernel_rfl
theorem wJ:laidOutB Tryz.prog=true:=by kernel_rfl
theorem HT (s:bV) (a:dd) (b d:Int) (hn:fA s.ar):ai Tryz.prog 4 [.agg (az s),.agg (aC a),.int .i64 b,.int .i64 d] (.bool true):=
 IE kT (fun s a b d hn hm _=>rz s a b d hn hm.s.g hm.s.t) (fun s a b d hn hm hl=>rr s a b d hn hm hl) (fun s a b d _ _ _=>by have:=Fm s a b d;omega) s a b d hn
theorem C7 (os:Os) (started:os.Started) (H:Type) (enc:TypeId×Value->H):
  ReturnsInHanded {} Tryz.checked os 4 .any (fun w args=>(Rows.fnExactDecodeCounterSpec.pre enc Tryz.prog Tryz.f4 [] false w args/\laidMetH Tryz.prog Rows.fnExactDecodeCounterRow.laid w)/\sizedMet enc Tryz.prog Tryz.f4 (OpenSpec.ofChange Rows.fnExactDecodeCounterSpec) false w args) (Rows.fnExactDecodeCounterSpec.post enc Tryz.prog Tryz.f4 false true false false):=by
 refine returnsInHanded_of_change_and (C:=Tryz.checked) (X:=fun w _=>laidMetH Tryz.prog Rows.fnExactDecodeCounterRow.laid w) (fun _ _ _ hh h=>h.of_heap hh) Ov started (by kernel_rfl) Tryz.func4
  (ChangeSpec.witness_shaped (enc:=enc) (C:=Tryz.checked) (os:=os) (X:=fun w _=>laidMetH Tryz.prog Rows.fnExactDecodeCounterRow.laid w) false (World.laidAll Tryz.prog os Rows.fnExactDecodeCounterRow.laid) #[.agg #[.slice none 0 0,.slice none 0 0,.slice none 0 0,.int .i64 0],.agg #[.slice none 0 0],.int .i64 0,.int .i64 0] 8 (World.laidAll_os _ _ _)
   (World.shaped_of_ZipB (by kernel_rfl) (by kernel_rfl)) (by kernel_rfl) (by kernel_rfl) (by kernel_rfl)
   (by rw[MakeChecks.laidMetH_plain _ _ _ (by kernel_rfl)];exact laidMet_laidAll _ (by kernel_rfl) (by kernel_rfl))) ?_
 intro W base args ds gs before JQ hW hcnd _ hL _
 have oJ:∀(j:Nat) t v,Tryz.f4.params[j]? =some t->args[j]? =some v->Value.okWide Tryz.prog W .any base t v:=JQ
 have hW':=hW
 obtain⟨p,q,hA0,hV,rfl,Cf,lD⟩:=hW
 have hA:DataW.TrodAll enc Tryz.prog W 0 (fun _=>true) true Tryz.f4.params.toList args.toList ds p:=hA0
 rw[Tryz.params4]at hA oJ
 obtain⟨v0,vs0,d0,ds0,p0,q0,lY,rfl,rfl,h0,r0⟩:=trodAll_cons hA
 obtain⟨v1,vs1,d1,ds1,p1,q1,rfl,rfl,rfl,h1,r1⟩:=trodAll_cons r0
 obtain⟨v2,vs2,d2,ds2,p2,q2,rfl,rfl,rfl,h2,r2⟩:=trodAll_cons r1
 obtain⟨v3,vs3,d3,ds3,p3,q3,rfl,rfl,rfl,h3,r3⟩:=trodAll_cons r2
 obtain⟨rfl,rfl,rfl⟩:=trodAll_nil r3
 obtain rfl:args= #[v0,v1,v2,v3]:=by cases args;simp_all
 obtain⟨rfl,rfl⟩:=trodVars_none hV
 obtain⟨Mj,rfl,_⟩:=okWide_struct Tryz.underlying30 (oJ 0 30 v0 rfl rfl)
 obtain⟨PN,rfl,_⟩:=okWide_struct Tryz.underlying28 (oJ 1 28 v1 rfl rfl)
 have k0:=h0
 have k1:=h1
 have k2:=h2
 have k3:=h3
 have lt0:∀x∈p0,x.block<W.heap.size:=by obtain⟨m,hm⟩:=k0;exact DataW.trod_lt m _ _ _ hm
 have lt1:∀x∈p1,x.block<W.heap.size:=by obtain⟨m,hm⟩:=k1;exact DataW.trod_lt m _ _ _ hm
 have lt2:∀x∈p2,x.block<W.heap.size:=by obtain⟨m,hm⟩:=k2;exact DataW.trod_lt m _ _ _ hm
 have lt3:∀x∈p3,x.block<W.heap.size:=by obtain⟨m,hm⟩:=k3;exact DataW.trod_lt m _ _ _ hm
 obtain⟨A0,n0,c0,f0,A1,n1,c1,f1,A2,n2,c2,f2,s,Au,w0,s0,w1,s1,w2,s2,o0,o1⟩:∃A0 n0 c0 f0 A1 n1 c1 f1 A2 n2 c2 f2,∃d:bV,(Value.agg Mj).cells.toList=[.slice A0 n0 c0,.slice A1 n1 c1,.slice A2 n2 c2,.int .i64 d.aG]/\e7 f0 0 W.heap.size/\oZ W f0 (.slice A0 n0 c0) d.ar.aw/\e7 f1 0 W.heap.size/\o3 W f1 (.slice A1 n1 c1) d.ar.ae/\e7 f2 0 W.heap.size/\g7 W f2 (.slice A2 n2 c2) d.bR.ae/\(∀g∈d.ar.aw,g.aB.size<=9223372036854775807)/\∀t∈d.ar.ae,t.aB.size<=9223372036854775807:=by
  obtain⟨fuel,hf⟩:=h0
  exact Gy hf
 obtain rfl:Mj= #[.slice A0 n0 c0,.slice A1 n1 c1,.slice A2 n2 c2,.int .i64 s.aG]:=by
  cases Mj;simp[Value.cells]at Au;subst Au;rfl
 obtain⟨A3,n3,c3,f3,a,NA,w3,s3⟩:∃A n c f,∃d:dd,(Value.agg PN).cells.toList=[.slice A n c]/\e7 f 0 W.heap.size/\g7 W f (.slice A n c) d.ae:=by
  obtain⟨fuel,hf⟩:=h1
  exact td hf
 obtain rfl:PN= #[.slice A3 n3 c3]:=by
  cases PN;simp[Value.cells]at NA;subst NA;rfl
 obtain⟨b,e2,-,-,-⟩:=open_int Tryz.underlying2 (oJ 2 2 v2 rfl rfl) h2
 subst e2
 obtain⟨d,e3,-,-,-⟩:=open_int Tryz.underlying2 (oJ 3 2 v3 rfl rfl) h3
 subst e3
 clear hA0 JQ
 have fY:eP Tryz.prog W (fun b=>b<W.heap.size) (fun _=>none) [.agg (az s),.agg (aC a),.int .i64 b,.int .i64 d] #[.agg #[.slice A0 n0 c0,.slice A1 n1 c1,.slice A2 n2 c2,.int .i64 s.aG],.agg #[.slice A3 n3 c3],.int .i64 b,.int .i64 d]:=by
  have h:=jr (zM s0 (fun b hb=>(w0 b hb).2) s1 (fun b hb=>(w1 b hb).2) s2 (fun b hb=>(w2 b hb).2)) (jr (vM s3 (fun b hb=>(w3 b hb).2)) (jr (.int .i64 b) (jr (.int .i64 d) (⟨rfl,fun j b hj=>by cases j<;>cases hj⟩:eP Tryz.prog W (fun b=>b<W.heap.size) (fun _=>none) [] #[]))))
  simpa using h
 have gu:=Lq mixed (HT s a b d ⟨o0,o1⟩) fY
 clear s0 s1 s2 w0 w1 w2 s3 w3 fY
 refine(gu.mono fun e W' ⟨he,bel⟩=>?_)
 subst he
 exact⟨_,rfl,_,_,_,[],_,[],hW',trodAll_mk1 (shut_bool Tryz.underlying4 _),(trodAll_cons_mk (Below.trod wJ (by kernel_rfl) (of_decide_eq_true (by kernel_rfl)) k0 bel lt0) (trodAll_cons_mk (Below.trod wJ (by kernel_rfl) (of_decide_eq_true (by kernel_rfl)) k1 bel lt1) (trodAll_cons_mk (Below.trod wJ (by kernel_rfl) (of_decide_eq_true (by kernel_rfl)) k2 bel lt2) (trodAll_cons_mk (Below.trod wJ (by kernel_rfl) (of_decide_eq_true (by kernel_rfl)) k3 bel lt3) trodAll_mk0)))),rfl,bel.frame _,fun h=>by cases h⟩
end Go.Proofs.YtihgaadadaekmaaGreatDoor

namespace Go.Proofs.YtihgaadadaekmaaGreatDoor
open Go.ChangeShapes Go.WideShapes Go.ChangeAt Go.RowKit
theorem dcN:Tryz.pinned.checked.prog.funcNamed Rows.fnExactDecodeCounterRow.func=some 4:=by kernel_rfl
theorem dcJ:joinedFacts Tryz.pinned.checked.prog 4 Tryz.f4 Rows.fnExactDecodeCounterSpec Rows.fnExactDecodeCounterRow=true:=by
 unfold joinedFacts
 repeat(with_reducible refine Bool.and_eq_true_iff.2 ⟨?_,by as_aux_lemma=>kernel_rfl⟩)
 as_aux_lemma=>kernel_rfl
theorem dcI:Tryz.f4.isInstance Tryz.pinned.checked.prog Rows.fnExactDecodeCounterRow.origin Rows.fnExactDecodeCounterRow.targs:=of_decide_eq_true (by kernel_rfl)
theorem dcW:Tryz.f4.isWrapper Tryz.pinned.checked.prog Rows.fnExactDecodeCounterRow.wrapper Rows.fnExactDecodeCounterRow.mainSum:=by
 unfold Func.isWrapper;first|(rw[if_pos (by decide+kernel)];kernel_rfl)|(rw[if_neg (by decide+kernel)];exact⟨rfl,rfl⟩)
theorem HS:Rows.fnExactDecodeCounterRow.holds Tryz.pinned (OpenSpec.ofChange Rows.fnExactDecodeCounterSpec):=
 OpenClaim.holds_of_wide 4 Tryz.f4 rfl rfl rfl rfl rfl rfl rfl ⟨rfl,rfl,rfl,rfl,rfl⟩ rfl rfl rfl rfl rfl dcN Tryz.func4 dcJ dcI dcW
  (fun os started H enc _=>C7 os started H enc)
theorem fnExactDecodeCounter_proved:Rows.FnExactDecodeCounterCardSaid:=
 Claim7.holds_tied_plain_at .later [] [.data,.data,.data] true Rows.fnExactDecodeCounterCard.stood.harness false
  HS (fun _ h=>by cases h) (by kernel_rfl) (fun _ h=>by cases h) fnExactDecodeCounter_row_tie rfl ⟨rfl,rfl⟩ (by kernel_rfl) rfl
  (fun f fn hf Mr=>by
   obtain rfl:f=4:=(Option.some.inj (dcN.symm.trans hf)).symm
   obtain rfl:fn=Tryz.f4:=(Option.some.inj (Tryz.func4.symm.trans Mr)).symm
   exact⟨by kernel_rfl,fun j t ht=>by
    rw[Tryz.params4]at ht
    have hm:t∈[30,28,2,2]:=by simpa using Array.mem_of_getElem? ht
    have cN:([30,28,2,2].all fun u=> !Tryz.prog.wantsStandIn u)=true:=by kernel_rfl
    exact(show Tryz.prog.wantsStandIn t=false by simpa using List.all_eq_true.1 cN t hm)⟩)
  (by kernel_rfl)
end Go.Proofs.YtihgaadadaekmaaGreatDoor
