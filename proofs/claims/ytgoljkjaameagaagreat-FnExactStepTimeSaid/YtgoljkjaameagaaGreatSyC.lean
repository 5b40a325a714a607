/- The laws' helpers of lists, which every type shares: sizes, copies, comparisons. The codes of them were printed by gcode.py. -/
import Derived.Test.YtgoljkjaameagaaGreatSyB
import Derived.Test.YtgoljkjaameagaaGreatSyA
set_option linter.unusedVariables false
set_option linter.unusedSimpArgs false
set_option maxRecDepth 100000
set_option maxHeartbeats 16000000
namespace Go.Proofs.YtgoljkjaameagaaGreat.V
open Go.RowKit
attribute [local irreducible] ej wpOps fQ Call
attribute [local go_sem] aH fq eD fH fG cV upd bZ K.av cC AV.cells AV.cell rowOf rowsOf part ld rowAt bK bR du dQ gE bB cR eb fF eL dh dV cP cN dD dE bF aT cG bE cI cH dS dW dU cF bJ cQ dR bD aJ cK cm gD bd cz bG aP dn aX dv AV.undef bj bx dG dO dz dF cu ea ei ck dY dX cJ cL List.getD_cons_zero List.getD_cons_succ List.getD_nil List.all_cons List.all_nil Bool.and_true Bool.true_and Bool.and_self Bool.not_true Bool.not_false Option.map_some Option.map_none Option.bind_some Option.bind_none List.length_cons List.length_nil List.take_succ_cons List.take_zero List.take_nil List.drop_succ_cons List.drop_zero List.drop_nil List.head?_cons List.map_cons List.map_nil List.getElem?_cons_zero List.getElem?_cons_succ List.cons_append List.nil_append List.append_nil List.length_map List.set_cons_zero List.set_cons_succ Nat.reduceMul eq_self Int.toNat_natCast Int.natCast_nonneg and_self true_and and_true decide_true decide_false Bool.false_eq_true Nat.zero_add Nat.add_zero List.contains_cons List.contains_nil Bool.or_false Bool.false_or beq_self_eq_true Nat.reduceBEq ne_eq not_true_eq_false not_false_eq_true Id.mk.injEq false_and and_false Nat.reduceLT Int.reduceLE Int.reduceLT Int.reduceToNat Int.reduceNeg Int.reduceAdd Nat.le_refl List.length_append beq_true beq_false Bool.not_eq_eq_eq_not or_false false_or eo aj ar aK aV bp bW aQ aZ aN aU cD bI
variable {P:Program}
def Iy (f g z:Nat):yU:=let s:=f*1000000
 ⟨27,2,(.seq (.eJ false [q 4 (.de (.k (.int .i64 0))) s]) (.seq (.eJ false [q 6 (.de (.t 1)) (s+1000),q 7 (.de (.t 0)) (s+1001),q 8 (.len (.t 7)) (s+1002),q 9 (.bin .sub .i64 (.t 6) (.t 8)) (s+1003),q 1 (.de (.t 9)) (s+1004)]) (.seq (.seq (.eJ false [q 10 (.de (.t 1)) (s+2000),q 11 (.bin .lss .i64 (.t 10) (.k (.int .i64 0))) (s+2001)]) (.cond (.t 11) (.seq (.eJ false [q 4 (.de (.k (.int .i64 (-1)))) (s+3000)]) .ret) .skip)) (.seq (.seq (.eJ false [q 5 (.de (.k (.int .i64 0))) (s+4000)]) (.block 0 (.loop (.seq (.seq (.eJ false [q 12 (.de (.t 5)) (s+5000),q 13 (.de (.t 0)) (s+5001),q 14 (.len (.t 13)) (s+5002),q 15 (.bin .lss .i64 (.t 12) (.t 14)) (s+5003)]) (.cond (.t 15) .skip (.exit 0))) (.seq (.block 1 (.seq (.eJ false [q 18 (.de (.t 0)) (s+7000),q 19 (.de (.t 5)) (s+7001),q 20 (.dC z (.t 18) (.t 19)) (s+7002),q 21 (.load true z (.t 20)) (s+7003),q 22 (.de (.t 1)) (s+7004),q 23 (.call g [(.t 21),(.t 22)]) (s+7005),q 1 (.de (.t 23)) (s+7006)]) (.seq (.eJ false [q 24 (.de (.t 1)) (s+8000),q 25 (.bin .lss .i64 (.t 24) (.k (.int .i64 0))) (s+8001)]) (.cond (.t 25) (.seq (.eJ false [q 4 (.de (.k (.int .i64 (-1)))) (s+9000)]) .ret) .skip)))) (.eJ false [q 16 (.de (.t 5)) (s+6000),q 17 (.bin .add .i64 (.t 16) (.k (.int .i64 1))) (s+6001),q 5 (.de (.t 17)) (s+6002)])))))) (.seq (.eJ false [q 26 (.de (.t 1)) (s+10000),q 4 (.de (.t 26)) (s+10001)]) .ret))))),[(.tmp 4)]⟩
def Iw (f:Nat):yU:=let s:=f*1000000
 ⟨12,2,(.seq (.eJ false [q 4 (.de (.k (.int .i64 0))) s]) (.seq (.eJ false [q 5 (.de (.t 1)) (s+1000),q 6 (.de (.t 0)) (s+1001),q 7 (.len (.t 6)) (s+1002),q 8 (.bin .sub .i64 (.t 5) (.t 7)) (s+1003),q 1 (.de (.t 8)) (s+1004)]) (.seq (.seq (.eJ false [q 9 (.de (.t 1)) (s+2000),q 10 (.bin .lss .i64 (.t 9) (.k (.int .i64 0))) (s+2001)]) (.cond (.t 10) (.seq (.eJ false [q 4 (.de (.k (.int .i64 (-1)))) (s+3000)]) .ret) .skip)) (.seq (.eJ false [q 11 (.de (.t 1)) (s+4000),q 4 (.de (.t 11)) (s+4001)]) .ret)))),[(.tmp 4)]⟩
def DF (f g z:Nat):yU:=let s:=f*1000000
 ⟨27,2,(.seq (.eJ false [q 4 (.de (.k (.bool false))) s]) (.seq (.seq (.eJ false [q 6 (.de (.t 0)) (s+1000),q 7 (.len (.t 6)) (s+1001),q 8 (.de (.t 1)) (s+1002),q 9 (.len (.t 8)) (s+1003),q 10 (.L1 true .tI (.t 7) (.t 9)) (s+1004)]) (.cond (.t 10) (.seq (.eJ false [q 4 (.de (.k (.bool false))) (s+2000)]) .ret) .skip)) (.seq (.seq (.eJ false [q 5 (.de (.k (.int .i64 0))) (s+3000)]) (.block 0 (.loop (.seq (.seq (.eJ false [q 11 (.de (.t 5)) (s+4000),q 12 (.de (.t 0)) (s+4001),q 13 (.len (.t 12)) (s+4002),q 14 (.bin .lss .i64 (.t 11) (.t 13)) (s+4003)]) (.cond (.t 14) .skip (.exit 0))) (.seq (.block 1 (.seq (.eJ true [q 17 (.de (.t 0)) (s+6000),q 18 (.de (.t 5)) (s+6001),q 19 (.dC z (.t 17) (.t 18)) (s+6002),q 20 (.load true z (.t 19)) (s+6003),q 21 (.de (.t 1)) (s+6004),q 22 (.de (.t 5)) (s+6005),q 23 (.dC z (.t 21) (.t 22)) (s+6006),q 24 (.load true z (.t 23)) (s+6007),q 25 (.call g [(.t 20),(.t 24)]) (s+6008),q 26 (.not (.t 25)) (s+6009)]) (.cond (.t 26) (.seq (.eJ false [q 4 (.de (.k (.bool false))) (s+7000)]) .ret) .skip))) (.eJ false [q 15 (.de (.t 5)) (s+5000),q 16 (.bin .add .i64 (.t 15) (.k (.int .i64 1))) (s+5001),q 5 (.de (.t 16)) (s+5002)])))))) (.seq (.eJ false [q 4 (.de (.k (.bool true))) (s+8000)]) .ret)))),[(.tmp 4)]⟩
def K2 (f:Nat) (t:TS):yU:=let s:=f*1000000
 ⟨26,2,(.seq (.eJ false [q 4 (.de (.k (.bool false))) s]) (.seq (.seq (.eJ false [q 6 (.de (.t 0)) (s+1000),q 7 (.len (.t 6)) (s+1001),q 8 (.de (.t 1)) (s+1002),q 9 (.len (.t 8)) (s+1003),q 10 (.L1 true .tI (.t 7) (.t 9)) (s+1004)]) (.cond (.t 10) (.seq (.eJ false [q 4 (.de (.k (.bool false))) (s+2000)]) .ret) .skip)) (.seq (.seq (.eJ false [q 5 (.de (.k (.int .i64 0))) (s+3000)]) (.block 0 (.loop (.seq (.seq (.eJ false [q 11 (.de (.t 5)) (s+4000),q 12 (.de (.t 0)) (s+4001),q 13 (.len (.t 12)) (s+4002),q 14 (.bin .lss .i64 (.t 11) (.t 13)) (s+4003)]) (.cond (.t 14) .skip (.exit 0))) (.seq (.block 1 (.seq (.eJ true [q 17 (.de (.t 0)) (s+6000),q 18 (.de (.t 5)) (s+6001),q 19 (.dC 1 (.t 17) (.t 18)) (s+6002),q 20 (.load false 1 (.t 19)) (s+6003),q 21 (.de (.t 1)) (s+6004),q 22 (.de (.t 5)) (s+6005),q 23 (.dC 1 (.t 21) (.t 22)) (s+6006),q 24 (.load false 1 (.t 23)) (s+6007),q 25 (.L1 true t (.t 20) (.t 24)) (s+6008)]) (.cond (.t 25) (.seq (.eJ false [q 4 (.de (.k (.bool false))) (s+7000)]) .ret) .skip))) (.eJ false [q 15 (.de (.t 5)) (s+5000),q 16 (.bin .add .i64 (.t 15) (.k (.int .i64 1))) (s+5001),q 5 (.de (.t 16)) (s+5002)])))))) (.seq (.eJ false [q 4 (.de (.k (.bool true))) (s+8000)]) .ret)))),[(.tmp 4)]⟩
def Ei (f g z:Nat) (zero:List K):yU:=let s:=f*1000000
 ⟨23,1,(.seq (.eJ false [q 2 (.de (.k .cq)) s]) (.seq (.eJ false [q 5 (.de (.t 0)) (s+1000),q 6 (.len (.t 5)) (s+1001),q 7 (.jz zero (.t 6) (.t 6)) (s+1002),q 3 (.de (.t 7)) (s+1003)]) (.seq (.seq (.eJ false [q 4 (.de (.k (.int .i64 0))) (s+2000)]) (.block 0 (.loop (.seq (.seq (.eJ false [q 8 (.de (.t 4)) (s+3000),q 9 (.de (.t 0)) (s+3001),q 10 (.len (.t 9)) (s+3002),q 11 (.bin .lss .i64 (.t 8) (.t 10)) (s+3003)]) (.cond (.t 11) .skip (.exit 0))) (.seq (.block 1 (.eJ false [q 14 (.de (.t 3)) (s+5000),q 15 (.de (.t 4)) (s+5001),q 16 (.de (.t 0)) (s+5002),q 17 (.de (.t 4)) (s+5003),q 18 (.dC z (.t 16) (.t 17)) (s+5004),q 19 (.load true z (.t 18)) (s+5005),q 20 (.call g [(.t 19)]) (s+5006),q 21 (.dC z (.t 14) (.t 15)) (s+5007),⟨none,(.store z (.t 21) (.t 20)),none,(s+5008),[]⟩])) (.eJ false [q 12 (.de (.t 4)) (s+4000),q 13 (.bin .add .i64 (.t 12) (.k (.int .i64 1))) (s+4001),q 4 (.de (.t 13)) (s+4002)])))))) (.seq (.eJ false [q 22 (.de (.t 3)) (s+6000),q 2 (.de (.t 22)) (s+6001)]) .ret)))),[(.tmp 2)]⟩
def Lu (f:Nat) (zero:K):yU:=let s:=f*1000000
 ⟨22,1,(.seq (.eJ false [q 2 (.de (.k .cq)) s]) (.seq (.eJ false [q 5 (.de (.t 0)) (s+1000),q 6 (.len (.t 5)) (s+1001),q 7 (.jz [zero] (.t 6) (.t 6)) (s+1002),q 3 (.de (.t 7)) (s+1003)]) (.seq (.seq (.eJ false [q 4 (.de (.k (.int .i64 0))) (s+2000)]) (.block 0 (.loop (.seq (.seq (.eJ false [q 8 (.de (.t 4)) (s+3000),q 9 (.de (.t 0)) (s+3001),q 10 (.len (.t 9)) (s+3002),q 11 (.bin .lss .i64 (.t 8) (.t 10)) (s+3003)]) (.cond (.t 11) .skip (.exit 0))) (.seq (.block 1 (.eJ false [q 14 (.de (.t 3)) (s+5000),q 15 (.de (.t 4)) (s+5001),q 16 (.de (.t 0)) (s+5002),q 17 (.de (.t 4)) (s+5003),q 18 (.dC 1 (.t 16) (.t 17)) (s+5004),q 19 (.load false 1 (.t 18)) (s+5005),q 20 (.dC 1 (.t 14) (.t 15)) (s+5006),⟨none,(.store 1 (.t 20) (.t 19)),none,(s+5007),[]⟩])) (.eJ false [q 12 (.de (.t 4)) (s+4000),q 13 (.bin .add .i64 (.t 12) (.k (.int .i64 1))) (s+4001),q 4 (.de (.t 13)) (s+4002)])))))) (.seq (.eJ false [q 21 (.de (.t 3)) (s+6000),q 2 (.de (.t 21)) (s+6001)]) .ret)))),[(.tmp 2)]⟩
def vU (n:Nat) (l:Int):Int:=if (n:Int)<=l then l-n else -1
theorem Ix {fk:Nat} (hc:mU P fk=some (Iw fk)) (rows:List (List AV)) (left:Int) (h0:0<=left) (h1:left<=1048576):aq P fk [.sl rows,.int .i64 left] (.int .i64 (vU rows.length left)):=by
 refine aq.body hc rfl fun hl n0=>?_
 try simp only[q]
 have hn:rows.length<=9223372036854775807:=(hl (.sl rows) (by simp)).len
 clear hl
 have hw:IntKind.i64.wrap (left-(rows.length:Int))=left-rows.length:=bz (by omega)
 by_cases hf:(rows.length:Int)<=left
 ·have jo:¬left-(rows.length:Int)<0:=by omega
  (try((repeat(revert hN;revert N;apply Pn.out));refine wk (tw @hw @jo) ?_;(repeat(refine Pn.mk ?_;intro N hN))))
  exact bU (b:=left-(rows.length:Int)) (.inl rfl) (sd @Nat.zero_add) (by rw[vU,if_pos hf])
 ·have jo:left-(rows.length:Int)<0:=by omega
  (try((repeat(revert hN;revert N;apply Pn.out));refine wk (tw @hw @jo) ?_;(repeat(refine Pn.mk ?_;intro N hN))))
  exact bU (b:=-1) (.inl rfl) (sd @Nat.zero_add) (by rw[vU,if_neg hf])
def kF {α:Type} (f:α->Nat) (xs:List α) (k:Nat):Nat:=((xs.take k).map f).sum
theorem og {α:Type} (f:α->Nat) (xs:List α):kF f xs 0=0:=by simp[kF]
theorem It {α:Type} (f:α->Nat) (xs:List α):kF f xs xs.length=(xs.map f).sum:=by simp[kF]
theorem C6 {α:Type} (f:α->Nat) {xs:List α} {k:Nat} (hk:k<xs.length):kF f xs (k+1)=kF f xs k+f xs[k]:=by
 unfold kF
 rw[List.take_succ_eq_append_getElem hk,List.map_append,List.sum_append];simp
theorem vT {α:Type} (f:α->Nat) (xs:List α) (k:Nat):kF f xs k<=(xs.map f).sum:=by
 unfold kF
 conv=>rhs;rw[<-List.take_append_drop k xs]
 rw[List.map_append,List.sum_append];omega
theorem Iz {α:Type} {e:α->List AV} {z fk gk:Nat} (wt:α->Nat) (hc:mU P fk=some (Iy fk gk z)) (hz:∀x,(e x).length=z) (A9:∀x g,dj g 6 [.agg (e x)]=some [.agg (e x)]) (xs:List α) (left:Int) (h0:0<=left) (h1:left<=1048576)
  (hg:∀x∈xs,∀l:Int,0<=l->l<=1048576->aq P gk [.agg (e x),.int .i64 l] (.int .i64 (vU (wt x) l))):aq P fk [.sl (xs.map e),.int .i64 left] (.int .i64 (vU (xs.length+(xs.map wt).sum) left)):=by
 refine aq.body hc rfl fun hl n0=>?_
 try simp only[q]
 have hn:xs.length<=9223372036854775807:=by simpa using(hl (.sl (xs.map e)) (by simp)).len
 clear hl
 have hw:IntKind.i64.wrap (left-(xs.length:Int))=left-xs.length:=bz (by omega)
 by_cases hf:(xs.length:Int)<=left
 ·have jo:¬left-(xs.length:Int)<0:=by omega
  (try((repeat(revert hN;revert N;apply Pn.out));refine wk (tw @hw @jo) ?_;(repeat(refine Pn.mk ?_;intro N hN))))
  refine aM (fun n env st=>∃k:Nat,n=(xs.length)-k/\k<=(xs.length)/\env 5=.int .i64 (k:Int)/\env 1=(.int .i64 (left-xs.length-(kF wt xs k:Nat)))/\(0<=left-xs.length-(kF wt xs k:Nat))) (xs.length) ⟨0,by omega,by omega,sl (tw @og (tw @Int.natCast_zero @Int.sub_zero)),sl (tw @og (tw @Int.natCast_zero @Int.sub_zero)),(by rw[og];omega)⟩ ?_
  rintro n_a env_a st_a ⟨k,rfl,ale,a5,a1,mE⟩ dq
  have a0:=dq 0 (by kernel_rfl)
  simp only[go_sem, ↓reduceIte,Nat.reduceEqDiff,Nat.reduceAdd,Nat.reduceSub,Nat.reduceLeDiff,reduceCtorEq,og,Int.natCast_zero,Int.sub_zero]at a0
  clear dq
  by_cases hk:(k:Int)<(xs.length:Int)
  ·have cE:∀{e:Env},(e 5=.int .i64 (IntKind.i64.wrap ((k:Int)+1)))->(e 1=(.int .i64 (left-xs.length-(kF wt xs (k+1):Nat))))->(0<=left-xs.length-(kF wt xs (k+1):Nat))->∃m0,m0<(xs.length)-k/\∃k:Nat,m0=(xs.length)-k/\k<=(xs.length)/\e 5=.int .i64 (k:Int)/\e 1=(.int .i64 (left-xs.length-(kF wt xs k:Nat)))/\(0<=left-xs.length-(kF wt xs k:Nat)):=fun x1 x2 x3=>⟨_,by omega,k+1,rfl,by omega,(by rw[x1,aB (by omega)]),x2,x3⟩
   have eV:k<xs.length:=by omega
   have ev:(xs.map e)[k]? =some (e xs[k]):=by simp[eV]
   have ve:=hz xs[k]
   have ht:(e xs[k]).take z=e xs[k]:=by rw[<-ve,List.take_length]
   have hs:=C6 wt eV
   have u9:=vT wt xs (k+1)
   have iI:=hg _ (List.getElem_mem eV) (left-xs.length-(kF wt xs k:Nat)) mE (by omega)
   have kQ:dj (eo st_a.get) 6 [.agg (e xs[k]),.int .i64 (left-xs.length-(kF wt xs k:Nat))]=some [.agg (e xs[k]),.int .i64 (left-xs.length-(kF wt xs k:Nat))]:=by
    have q1:=A9 xs[k] (eo st_a.get)
    rw[aj,ar]at q1
    rw[aj,aj,ar,aK]
    revert q1
    cases V.fz (eo st_a.get) 6 (.agg (e xs[k]))<;>simp
   by_cases rj:(wt xs[k]:Int)<=left-xs.length-(kF wt xs k:Nat)
   ·rw[vU,if_pos rj]at iI
    have wL:¬left-xs.length-(kF wt xs k:Nat)-(wt xs[k]:Int)<0:=by omega
    have nV:left-xs.length-(kF wt xs k:Nat)-(wt xs[k]:Int)=left-xs.length-(kF wt xs (k+1):Nat):=by rw[hs];omega
    generalize hex:e xs[k]=c at iI kQ ev ve ht
    (try((repeat(revert hN;revert N;apply Pn.out));refine wk (tw @a5 (tw @a1 (tw @a0 (tw @hk (tw @ev (tw @ve (tw @ht @Nat.le_refl))))))) ?_;(repeat(refine Pn.mk ?_;intro N hN))))
    refine .inl ⟨_,aq.x iI kQ,?_⟩
    refine hN _ _ ?_
    clear hN N
    (try((repeat(revert hN;revert N;apply Pn.out));refine wk (tw @a5 (tw @a1 (tw @a0 @wL))) ?_;(repeat(refine Pn.mk ?_;intro N hN))))
    refine cE ?_ ?_ ((by rw[hs];omega))
    all_goals simp only[go_sem, ↓reduceIte,Nat.reduceEqDiff,Nat.reduceAdd,Nat.reduceSub,Nat.reduceLeDiff,reduceCtorEq,a5,a1,a0,nV]
   ·rw[vU,if_neg rj]at iI
    generalize hex:e xs[k]=c at iI kQ ev ve ht
    (try((repeat(revert hN;revert N;apply Pn.out));refine wk (tw @a5 (tw @a1 (tw @a0 (tw @hk (tw @ev (tw @ve (tw @ht @Nat.le_refl))))))) ?_;(repeat(refine Pn.mk ?_;intro N hN))))
    refine .inl ⟨_,aq.x iI kQ,?_⟩
    refine hN _ _ ?_
    clear hN N
    (try((repeat(revert hN;revert N;apply Pn.out));refine wk (tw @a5 (tw @a1 @a0)) ?_;(repeat(refine Pn.mk ?_;intro N hN))))
    exact bU (b:=-1) (.inl rfl) (sd @Nat.zero_add) (by rw[vU,if_neg (by omega)])
  ·(try((repeat(revert hN;revert N;apply Pn.out));refine wk (tw @a5 (tw @a1 (tw @a0 @hk))) ?_;(repeat(refine Pn.mk ?_;intro N hN))))
   have eV:k=xs.length:=by omega
   subst eV
   have DL:=It wt xs
   exact bU (b:=left-xs.length-(kF wt xs xs.length:Nat)) (.inl rfl) (sd (tw @a5 (tw @a1 @a0))) (by rw[vU,if_pos (by omega)];omega)
 ·have jo:left-(xs.length:Int)<0:=by omega
  (try((repeat(revert hN;revert N;apply Pn.out));refine wk (tw @hw @jo) ?_;(repeat(refine Pn.mk ?_;intro N hN))))
  exact bU (b:=-1) (.inl rfl) (sd @Nat.zero_add) (by rw[vU,if_neg (by omega)])
theorem G7 {α:Type} {xs ys:List α} (hl:xs.length=ys.length) (h:∀j:Nat,j<xs.length->∀(h1:j<xs.length) (h2:j<ys.length),xs[j]=ys[j]):xs=ys:=List.ext_getElem hl fun j h1 h2=>h j h1 h1 h2
theorem BL {α:Type} [DecidableEq α] {e:α->List AV} {z fk gk:Nat} (hc:mU P fk=some (DF fk gk z)) (hz:∀x,(e x).length=z) (A9:∀x g,dj g 6 [.agg (e x)]=some [.agg (e x)]) (xs ys:List α)
  (hg:∀x y,aq P gk [.agg (e x),.agg (e y)] (.bool (decide (x=y)))):aq P fk [.sl (xs.map e),.sl (ys.map e)] (.bool (decide (xs=ys))):=by
 refine aq.body hc rfl fun hl n0=>?_
 try simp only[q]
 have hn:xs.length<=9223372036854775807:=by simpa using(hl (.sl (xs.map e)) (by simp)).len
 clear hl
 by_cases hlen:xs.length=ys.length
 ·have kh:decide ((xs.length:Int)=(ys.length:Int))=true:=by simp[hlen]
  (try((repeat(revert hN;revert N;apply Pn.out));refine wk @kh ?_;(repeat(refine Pn.mk ?_;intro N hN))))
  refine aM (fun n env st=>∃k:Nat,n=(xs.length)-k/\k<=(xs.length)/\env 5=.int .i64 (k:Int)/\(∀j:Nat,j<k->∀(h1:j<xs.length) (h2:j<ys.length),xs[j]=ys[j])) (xs.length) ⟨0,by omega,by omega,sl @Nat.zero_add,fun _ h=>absurd h (Nat.not_lt_zero _)⟩ ?_
  rintro n_a env_a st_a ⟨k,rfl,ale,a5,lk⟩ dq
  have a0:=dq 0 (by kernel_rfl);have a1:=dq 1 (by kernel_rfl)
  simp only[go_sem, ↓reduceIte,Nat.reduceEqDiff,Nat.reduceAdd,Nat.reduceSub,Nat.reduceLeDiff,reduceCtorEq]at a0 a1
  clear dq
  by_cases hk:(k:Int)<(xs.length:Int)
  ·have cE:∀{e:Env},(e 5=.int .i64 (IntKind.i64.wrap ((k:Int)+1)))->(∀(h1:k<xs.length) (h2:k<ys.length),xs[k]=ys[k])->∃m0,m0<(xs.length)-k/\∃k:Nat,m0=(xs.length)-k/\k<=(xs.length)/\e 5=.int .i64 (k:Int)/\(∀j:Nat,j<k->∀(h1:j<xs.length) (h2:j<ys.length),xs[j]=ys[j]):=fun x1 x2=>⟨_,by omega,k+1,rfl,by omega,(by rw[x1,aB (by omega)]),(all_succ lk x2)⟩
   have eV:k<xs.length:=by omega
   have QS:k<ys.length:=by omega
   have ev:(xs.map e)[k]? =some (e xs[k]):=by simp[eV]
   have Ce:(ys.map e)[k]? =some (e ys[k]):=by simp[QS]
   have ve:=hz xs[k]
   have Cp:=hz ys[k]
   have ht:(e xs[k]).take z=e xs[k]:=by rw[<-ve,List.take_length]
   have Gm:(e ys[k]).take z=e ys[k]:=by rw[<-Cp,List.take_length]
   have iI:=hg xs[k] ys[k]
   have kQ:∀g,dj g 6 [.agg (e xs[k]),.agg (e ys[k])]=some [.agg (e xs[k]),.agg (e ys[k])]:=fun g=>by
    have q1:=A9 xs[k] g
    have q2:=A9 ys[k] g
    rw[aj,ar]at q1
    rw[aj,q2]
    revert q1
    cases V.fz g 6 (.agg (e xs[k]))<;>simp
   by_cases heq:xs[k]=ys[k]
   ·rw[decide_eq_true heq]at iI
    generalize hex:e xs[k]=c at iI kQ ev ve ht
    generalize hey:e ys[k]=d at iI kQ Ce Cp Gm
    (try((repeat(revert hN;revert N;apply Pn.out));refine wk (tw @a5 (tw @a0 (tw @a1 (tw @hk (tw @ev (tw @Ce (tw @ve (tw @Cp (tw @ht (tw @Gm @Nat.le_refl)))))))))) ?_;(repeat(refine Pn.mk ?_;intro N hN))))
    refine⟨_,aq.x iI (kQ _),?_⟩
    refine hN _ _ ?_
    clear hN N
    (try((repeat(revert hN;revert N;apply Pn.out));refine wk (tw @a5 (tw @a0 @a1)) ?_;(repeat(refine Pn.mk ?_;intro N hN))))
    exact cE (sd (tw @a5 (tw @a0 @a1))) (fun _ _=>heq)
   ·rw[decide_eq_false heq]at iI
    generalize hex:e xs[k]=c at iI kQ ev ve ht
    generalize hey:e ys[k]=d at iI kQ Ce Cp Gm
    (try((repeat(revert hN;revert N;apply Pn.out));refine wk (tw @a5 (tw @a0 (tw @a1 (tw @hk (tw @ev (tw @Ce (tw @ve (tw @Cp (tw @ht (tw @Gm @Nat.le_refl)))))))))) ?_;(repeat(refine Pn.mk ?_;intro N hN))))
    refine⟨_,aq.x iI (kQ _),?_⟩
    refine hN _ _ ?_
    clear hN N
    (try((repeat(revert hN;revert N;apply Pn.out));refine wk (tw @a5 (tw @a0 @a1)) ?_;(repeat(refine Pn.mk ?_;intro N hN))))
    exact aL (b:=false) (.inl rfl) (sd @Nat.zero_add) (decide_eq_false fun h=>heq (List.getElem_of_eq h _)).symm
  ·(try((repeat(revert hN;revert N;apply Pn.out));refine wk (tw @a5 (tw @a0 (tw @a1 @hk))) ?_;(repeat(refine Pn.mk ?_;intro N hN))))
   exact aL (b:=true) (.inl rfl) (sd @Nat.zero_add) (decide_eq_true (G7 hlen fun j hj h1 h2=>lk j (by omega) h1 h2)).symm
 ·have kh:decide ((xs.length:Int)=(ys.length:Int))=false:=decide_eq_false fun h=>hlen (by omega)
  (try((repeat(revert hN;revert N;apply Pn.out));refine wk @kh ?_;(repeat(refine Pn.mk ?_;intro N hN))))
  exact aL (b:=false) (.inl rfl) (sd @Nat.zero_add) (decide_eq_false fun h=>hlen (by subst h;rfl)).symm
theorem OH {fk:Nat} (hc:mU P fk=some (K2 fk .tI)) (xs ys:List Int):
  aq P fk [.sl (xs.map fun x=>[AV.int .i64 x]),.sl (ys.map fun x=>[AV.int .i64 x])] (.bool (decide (xs=ys))):=by
 refine aq.body hc rfl fun hl n0=>?_
 try simp only[q]
 have hn:xs.length<=9223372036854775807:=by simpa using(hl (.sl (xs.map fun x=>[AV.int .i64 x])) (by simp)).len
 clear hl
 by_cases hlen:xs.length=ys.length
 ·have kh:decide ((xs.length:Int)=(ys.length:Int))=true:=by simp[hlen]
  (try((repeat(revert hN;revert N;apply Pn.out));refine wk @kh ?_;(repeat(refine Pn.mk ?_;intro N hN))))
  refine aM (fun n env st=>∃k:Nat,n=(xs.length)-k/\k<=(xs.length)/\env 5=.int .i64 (k:Int)/\(∀j:Nat,j<k->∀(h1:j<xs.length) (h2:j<ys.length),xs[j]=ys[j])) (xs.length) ⟨0,by omega,by omega,sl @Nat.zero_add,fun _ h=>absurd h (Nat.not_lt_zero _)⟩ ?_
  rintro n_a env_a st_a ⟨k,rfl,ale,a5,lk⟩ dq
  have a0:=dq 0 (by kernel_rfl);have a1:=dq 1 (by kernel_rfl)
  simp only[go_sem, ↓reduceIte,Nat.reduceEqDiff,Nat.reduceAdd,Nat.reduceSub,Nat.reduceLeDiff,reduceCtorEq]at a0 a1
  clear dq
  by_cases hk:(k:Int)<(xs.length:Int)
  ·have cE:∀{e:Env},(e 5=.int .i64 (IntKind.i64.wrap ((k:Int)+1)))->(∀(h1:k<xs.length) (h2:k<ys.length),xs[k]=ys[k])->∃m0,m0<(xs.length)-k/\∃k:Nat,m0=(xs.length)-k/\k<=(xs.length)/\e 5=.int .i64 (k:Int)/\(∀j:Nat,j<k->∀(h1:j<xs.length) (h2:j<ys.length),xs[j]=ys[j]):=fun x1 x2=>⟨_,by omega,k+1,rfl,by omega,(by rw[x1,aB (by omega)]),(all_succ lk x2)⟩
   have eV:k<xs.length:=by omega
   have QS:k<ys.length:=by omega
   have ev:(xs.map fun x=>[AV.int .i64 x])[k]? =some [.int .i64 xs[k]]:=by simp[eV]
   have Ce:(ys.map fun x=>[AV.int .i64 x])[k]? =some [.int .i64 ys[k]]:=by simp[QS]
   by_cases heq:xs[k]=ys[k]
   ·have hq:=decide_eq_true heq
    (try((repeat(revert hN;revert N;apply Pn.out));refine wk (tw @a5 (tw @a0 (tw @a1 (tw @hk (tw @ev (tw @Ce @hq)))))) ?_;(repeat(refine Pn.mk ?_;intro N hN))))
    exact cE (sd (tw @a5 (tw @a0 @a1))) (fun _ _=>heq)
   ·have hq:=decide_eq_false heq
    (try((repeat(revert hN;revert N;apply Pn.out));refine wk (tw @a5 (tw @a0 (tw @a1 (tw @hk (tw @ev (tw @Ce @hq)))))) ?_;(repeat(refine Pn.mk ?_;intro N hN))))
    exact aL (b:=false) (.inl rfl) (sd @Nat.zero_add) (decide_eq_false fun h=>heq (List.getElem_of_eq h _)).symm
  ·(try((repeat(revert hN;revert N;apply Pn.out));refine wk (tw @a5 (tw @a0 (tw @a1 @hk))) ?_;(repeat(refine Pn.mk ?_;intro N hN))))
   exact aL (b:=true) (.inl rfl) (sd @Nat.zero_add) (decide_eq_true (G7 hlen fun j hj h1 h2=>lk j (by omega) h1 h2)).symm
 ·have kh:decide ((xs.length:Int)=(ys.length:Int))=false:=decide_eq_false fun h=>hlen (by omega)
  (try((repeat(revert hN;revert N;apply Pn.out));refine wk @kh ?_;(repeat(refine Pn.mk ?_;intro N hN))))
  exact aL (b:=false) (.inl rfl) (sd @Nat.zero_add) (decide_eq_false fun h=>hlen (by subst h;rfl)).symm
theorem Bv (l:List AV):l++[]=l:=List.append_nil l
def ib {α:Type} (e:α->List AV) (zc:List AV) (xs:List α) (k:Nat):List (List AV):=(xs.take k).map e++List.replicate (xs.length-k) zc
theorem rW {α:Type} (e:α->List AV) (zc:List AV) (xs:List α):List.replicate xs.length zc=ib e zc xs 0:=by simp[ib]
theorem tE {α:Type} (e:α->List AV) (zc:List AV) (xs:List α):ib e zc xs xs.length=xs.map e:=by simp[ib]
theorem tF {α:Type} (e:α->List AV) (zc:List AV) (xs:List α) {k:Nat} (hk:k<xs.length):(ib e zc xs k)[k]? =some zc:=by
 have h1:((xs.take k).map e).length=k:=by simp;omega
 rw[ib,List.getElem?_append_right (by omega),h1,Nat.sub_self,List.getElem?_replicate,if_pos (by omega)]
theorem tG {α:Type} (e:α->List AV) (zc:List AV) (xs:List α) {k:Nat} (hk:k<xs.length):(ib e zc xs k).set k (e xs[k])=ib e zc xs (k+1):=by
 have h1:((xs.take k).map e).length=k:=by simp;omega
 rw[ib,List.set_append_right _ _ (by omega),h1,Nat.sub_self,ib,List.take_succ_eq_append_getElem hk,List.map_append,List.append_assoc]
 congr 1
 obtain⟨m,hm⟩:∃m,xs.length-k=m+1:=⟨xs.length-k-1,by omega⟩
 rw[hm,show xs.length-(k+1)=m by omega,List.replicate_succ]
 rfl
theorem Da {α:Type} {en:α->List AV} {z fk gk:Nat} {zero:List K} (hc:mU P fk=some (Ei fk gk z zero)) (Ja:zero.length=z) (hz:∀x,(en x).length=z) (jV:∀x,(en x).all AV.cell=true) (A9:∀x g,dj g 5 (en x)=some (en x)) (xs:List α) (hlen:xs.length<=1048576)
  (hg:∀x∈xs,lJ P gk [.agg (en x)] (.agg (en x))):lJ P fk [.sl (xs.map en)] (.sl (xs.map en)):=by
 refine lJ.body hc rfl fun hl σ=>?_
 try simp only[q]
 clear hl
 have hm:(xs.length:Int)<=((16777216:Nat):Int):=by omega
 have h0:(0:Int)<=(xs.length:Int):=by omega
 (try((repeat(revert hN;revert N;apply Pn.out));refine wk (tw @hm (tw @h0 (tw @Int.le_refl (tw (rW en (zero.map K.av) xs) @Ja)))) ?_;(repeat(refine Pn.mk ?_;intro N hN))))
 refine aM (fun n env st=>∃k:Nat,n=(xs.length)-k/\k<=(xs.length)/\env 4=.int .i64 (k:Int)/\st.get ⟨fk*1000000+1002,σ.next+1⟩=some ⟨true,z,ib en (zero.map K.av) xs k⟩) (xs.length) ⟨0,by omega,by omega,sl @Nat.zero_add,sl @Nat.zero_add⟩ ?_
 rintro n_a env_a st_a ⟨k,rfl,ale,a4,ag0⟩ dq
 have a0:=dq 0 (by kernel_rfl);have a3:=dq 3 (by kernel_rfl)
 simp only[go_sem, ↓reduceIte,Nat.reduceEqDiff,Nat.reduceAdd,Nat.reduceSub,Nat.reduceLeDiff,reduceCtorEq]at a0 a3
 clear dq
 by_cases hk:(k:Int)<(xs.length:Int)
 ·have cE:∀{e:Env} {gg:Rows},(e 4=.int .i64 (IntKind.i64.wrap ((k:Int)+1)))->(gg ⟨fk*1000000+1002,σ.next+1⟩=some ⟨true,z,ib en (zero.map K.av) xs (k+1)⟩)->∃m0,m0<(xs.length)-k/\∃k:Nat,m0=(xs.length)-k/\k<=(xs.length)/\e 4=.int .i64 (k:Int)/\gg ⟨fk*1000000+1002,σ.next+1⟩=some ⟨true,z,ib en (zero.map K.av) xs k⟩:=fun x1 x2=>⟨_,by omega,k+1,rfl,by omega,(by rw[x1,aB (by omega)]),x2⟩
  have eV:k<xs.length:=by omega
  have ev:(xs.map en)[k]? =some (en xs[k]):=by simp[eV]
  have ve:=hz xs[k]
  have I1:=jV xs[k]
  have ht:(en xs[k]).take z=en xs[k]:=by rw[<-ve,List.take_length]
  have iI:=hg _ (List.getElem_mem eV)
  have eX:=tF en (zero.map K.av) xs eV
  have eQ:=tG en (zero.map K.av) xs eV
  have O8:(zero.map K.av).drop z=[]:=List.drop_of_length_le (by simp[Ja])
  generalize hex:en xs[k]=c at iI ev ve ht I1 eQ
  (repeat(first|((repeat(revert hN;revert N;apply Pn.out));refine wk (tw @a4 (tw @ag0 (tw @a0 (tw @a3 (tw @hk (tw @ev (tw @ve (tw @ht (tw @Nat.le_refl (tw @eX (tw @eQ (tw @O8 (tw @Bv (tw @I1 @Ja)))))))))))))) ?_;(repeat(refine Pn.mk ?_;intro N hN)))|((try apply Or.inl);refine⟨_,lJ.x (iI) _,?_⟩;refine hN _ _ ?_;clear hN N)))
  refine cE ?_ ?_
  all_goals simp only[go_sem, ↓reduceIte,Nat.reduceEqDiff,Nat.reduceAdd,Nat.reduceSub,Nat.reduceLeDiff,reduceCtorEq,a4,ag0,a0,a3]
 ·(try((repeat(revert hN;revert N;apply Pn.out));refine wk (tw @a4 (tw @ag0 (tw @a0 (tw @a3 @hk)))) ?_;(repeat(refine Pn.mk ?_;intro N hN))))
  have eV:k=xs.length:=by omega
  subst eV
  refine P7 (.inl rfl) (r0:=.own ⟨fk*1000000+1002,σ.next+1⟩ 0 xs.length) (sd (tw @a4 (tw @ag0 (tw @a0 @a3)))) ?_
  rw[tE]at ag0
  exact gO ag0 (by simp) fun x=>A9 x _
theorem P9 {fk:Nat} (hc:mU P fk=some (Lu fk (.int .i64 0))) (xs:List Int) (hlen:xs.length<=1048576):lJ P fk [.sl (xs.map fun x=>[AV.int .i64 x])] (.sl (xs.map fun x=>[AV.int .i64 x])):=by
 refine lJ.body hc rfl fun hl σ=>?_
 try simp only[q]
 clear hl
 obtain⟨en,Ho⟩:∃en:Int->List AV,en=fun x=>[AV.int .i64 x]:=⟨_,rfl⟩
 rw[<-Ho]
 have hm:(xs.length:Int)<=((16777216:Nat):Int):=by omega
 have h0:(0:Int)<=(xs.length:Int):=by omega
 (try((repeat(revert hN;revert N;apply Pn.out));refine wk (tw @hm (tw @h0 (tw @Int.le_refl (rW en [AV.int .i64 0] xs)))) ?_;(repeat(refine Pn.mk ?_;intro N hN))))
 refine aM (fun n env st=>∃k:Nat,n=(xs.length)-k/\k<=(xs.length)/\env 4=.int .i64 (k:Int)/\st.get ⟨fk*1000000+1002,σ.next+1⟩=some ⟨true,1,ib en [AV.int .i64 0] xs k⟩) (xs.length) ⟨0,by omega,by omega,sl @Nat.zero_add,sl @Nat.zero_add⟩ ?_
 rintro n_a env_a st_a ⟨k,rfl,ale,a4,ag0⟩ dq
 have a0:=dq 0 (by kernel_rfl);have a3:=dq 3 (by kernel_rfl)
 simp only[go_sem, ↓reduceIte,Nat.reduceEqDiff,Nat.reduceAdd,Nat.reduceSub,Nat.reduceLeDiff,reduceCtorEq]at a0 a3
 clear dq
 by_cases hk:(k:Int)<(xs.length:Int)
 ·have cE:∀{e:Env} {gg:Rows},(e 4=.int .i64 (IntKind.i64.wrap ((k:Int)+1)))->(gg ⟨fk*1000000+1002,σ.next+1⟩=some ⟨true,1,ib en [AV.int .i64 0] xs (k+1)⟩)->∃m0,m0<(xs.length)-k/\∃k:Nat,m0=(xs.length)-k/\k<=(xs.length)/\e 4=.int .i64 (k:Int)/\gg ⟨fk*1000000+1002,σ.next+1⟩=some ⟨true,1,ib en [AV.int .i64 0] xs k⟩:=fun x1 x2=>⟨_,by omega,k+1,rfl,by omega,(by rw[x1,aB (by omega)]),x2⟩
  have eV:k<xs.length:=by omega
  have ev:(xs.map en)[k]? =some [AV.int .i64 xs[k]]:=by simp[eV,Ho]
  have eX:=tF en [AV.int .i64 0] xs eV
  have eQ:=tG en [AV.int .i64 0] xs eV
  rw[show en xs[k]=[AV.int .i64 xs[k]] by rw[Ho]]at eQ
  (try((repeat(revert hN;revert N;apply Pn.out));refine wk (tw @a4 (tw @ag0 (tw @a0 (tw @a3 (tw @hk (tw @ev (tw @eX @eQ))))))) ?_;(repeat(refine Pn.mk ?_;intro N hN))))
  refine cE ?_ ?_
  all_goals simp only[go_sem, ↓reduceIte,Nat.reduceEqDiff,Nat.reduceAdd,Nat.reduceSub,Nat.reduceLeDiff,reduceCtorEq,a4,ag0,a0,a3]
 ·(try((repeat(revert hN;revert N;apply Pn.out));refine wk (tw @a4 (tw @ag0 (tw @a0 (tw @a3 @hk)))) ?_;(repeat(refine Pn.mk ?_;intro N hN))))
  have eV:k=xs.length:=by omega
  subst eV
  refine P7 (.inl rfl) (r0:=.own ⟨fk*1000000+1002,σ.next+1⟩ 0 xs.length) (sd (tw @a4 (tw @ag0 (tw @a0 @a3)))) ?_
  rw[tE]at ag0
  exact gO ag0 (by simp) fun x=>by simp[Ho,aj,ar,aK]
end Go.Proofs.YtgoljkjaameagaaGreat.V

namespace Go.Proofs.YtgoljkjaameagaaGreat.V
open Go.RowKit
attribute [local irreducible] ej wpOps fQ Call
attribute [local go_sem] aH fq eD fH fG cV upd bZ K.av cC AV.cells AV.cell rowOf rowsOf part ld rowAt bK bR du dQ gE bB cR eb fF eL dh dV cP cN dD dE bF aT cG bE cI cH dS dW dU cF bJ cQ dR bD aJ cK cm gD bd cz bG aP dn aX dv AV.undef bj bx dG dO dz dF cu ea ei ck dY dX cJ cL List.getD_cons_zero List.getD_cons_succ List.getD_nil List.all_cons List.all_nil Bool.and_true Bool.true_and Bool.and_self Bool.not_true Bool.not_false Option.map_some Option.map_none Option.bind_some Option.bind_none List.length_cons List.length_nil List.take_succ_cons List.take_zero List.take_nil List.drop_succ_cons List.drop_zero List.drop_nil List.head?_cons List.map_cons List.map_nil List.getElem?_cons_zero List.getElem?_cons_succ List.cons_append List.nil_append List.append_nil List.length_map List.set_cons_zero List.set_cons_succ Nat.reduceMul eq_self Int.toNat_natCast Int.natCast_nonneg and_self true_and and_true decide_true decide_false Bool.false_eq_true Nat.zero_add Nat.add_zero List.contains_cons List.contains_nil Bool.or_false Bool.false_or beq_self_eq_true Nat.reduceBEq ne_eq not_true_eq_false not_false_eq_true Id.mk.injEq false_and and_false Nat.reduceLT Int.reduceLE Int.reduceLT Int.reduceToNat Int.reduceNeg Int.reduceAdd Nat.le_refl List.length_append beq_true beq_false Bool.not_eq_eq_eq_not or_false false_or eo aj ar aK aV bp bW aQ aZ aN aU cD bI
theorem zH (x:gI) (g:Rows):dj g 6 [.agg (cw x)]=some [.agg (cw x)]:=by simp[cw,aj,ar,aZ,bp,aK]
theorem zI (x:e8) (g:Rows):dj g 6 [.agg (bh x)]=some [.agg (bh x)]:=by simp[bh,aj,ar,aZ,bp,bW]
theorem BW (x:ad) (g:Rows):dj g 6 [.agg (ai x)]=some [.agg (ai x)]:=by simp[ai,aj,ar,aZ,aK]
theorem gY {n:Nat} {l:Int} (h:(n:Int)<=l):vU n l=l-n:=if_pos h
theorem ik {n:Nat} {l:Int} (h:¬(n:Int)<=l):vU n l= -1:=if_neg h
def k7 (t:e8):Nat:=t.aE.size+t.bY.length
def uW (s:au):Nat:=(s.aC.length+(s.aC.map fun g=>g.aE.size).sum)+(s.ae.length+(s.ae.map k7).sum)
def yP (s:aG):Nat:=uW s.az+s.cr.ae.length
def fe (s:au):Prop:=(∀g∈s.aC,g.aE.size<=9223372036854775807)/\∀t∈s.ae,t.aE.size<=9223372036854775807
theorem Iu (g:gI) (l:Int) (h0:0<=l) (h1:l<=1048576) (hs:g.aE.size<=9223372036854775807):aq Tryz.prog 187 [.agg (cw g),.int .i64 l] (.int .i64 (vU g.aE.size l)):=by
 refine aq.body eE rfl fun hl n0=>?_
 clear hl
 have hw:IntKind.i64.wrap (l-(g.aE.size:Int))=l-g.aE.size:=bz (by omega)
 by_cases hf:(g.aE.size:Int)<=l
 ·have jo:¬l-(g.aE.size:Int)<0:=by omega
  (try((repeat(revert hN;revert N;apply Pn.out));refine wk (tw @cw.eq_1 (tw @hw @jo)) ?_;(repeat(refine Pn.mk ?_;intro N hN))))
  exact bU (b:=l-(g.aE.size:Int)) (.inl rfl) (sd @Nat.zero_add) (gY hf).symm
 ·have jo:l-(g.aE.size:Int)<0:=by omega
  (try((repeat(revert hN;revert N;apply Pn.out));refine wk (tw @cw.eq_1 (tw @hw @jo)) ?_;(repeat(refine Pn.mk ?_;intro N hN))))
  exact bU (b:=-1) (.inl rfl) (sd @Nat.zero_add) (ik hf).symm
theorem Iv (xs:List Int) (l:Int) (h0:0<=l) (h1:l<=1048576):aq Tryz.prog 140 [.sl (xs.map aA),.int .i64 l] (.int .i64 (vU xs.length l)):=by
 have h:=Ix (show mU Tryz.prog 140=some (Iw 140) by kernel_rfl) (xs.map aA) l h0 h1
 rwa [List.length_map]at h
theorem IA (t:e8) (l:Int) (h0:0<=l) (h1:l<=1048576) (hs:t.aE.size<=9223372036854775807):aq Tryz.prog 188 [.agg (bh t),.int .i64 l] (.int .i64 (vU (k7 t) l)):=by
 refine aq.body eE rfl fun hl n0=>?_
 clear hl
 have hw:IntKind.i64.wrap (l-(t.aE.size:Int))=l-t.aE.size:=bz (by omega)
 by_cases hf:(t.aE.size:Int)<=l
 ·have jo:¬l-(t.aE.size:Int)<0:=by omega
  have hc:=Iv t.bY (l-t.aE.size) (by omega) (by omega)
  by_cases hg:(t.bY.length:Int)<=l-t.aE.size
  ·rw[gY hg]at hc
   have wG:¬l-(t.aE.size:Int)-(t.bY.length:Int)<0:=by omega
   (repeat(first|((repeat(revert hN;revert N;apply Pn.out));refine wk (tw @bh.eq_1 (tw @hw (tw @jo @wG))) ?_;(repeat(refine Pn.mk ?_;intro N hN)))|((try apply Or.inl);refine⟨_,aq.x (hc) (sd (tw @bh.eq_1 (tw @hw (tw @jo @wG)))),?_⟩;refine hN _ _ ?_;clear hN N)))
   exact bU (b:=l-(t.aE.size:Int)-(t.bY.length:Int)) (.inl rfl) (sd @Nat.zero_add) (by rw[gY (by unfold k7;omega)];unfold k7;omega)
  ·rw[ik hg]at hc
   (repeat(first|((repeat(revert hN;revert N;apply Pn.out));refine wk (tw @bh.eq_1 (tw @hw @jo)) ?_;(repeat(refine Pn.mk ?_;intro N hN)))|((try apply Or.inl);refine⟨_,aq.x (hc) (sd (tw @bh.eq_1 (tw @hw @jo))),?_⟩;refine hN _ _ ?_;clear hN N)))
   exact bU (b:=-1) (.inl rfl) (sd @Nat.zero_add) (ik (by unfold k7;omega)).symm
 ·have jo:l-(t.aE.size:Int)<0:=by omega
  (try((repeat(revert hN;revert N;apply Pn.out));refine wk (tw @bh.eq_1 (tw @hw @jo)) ?_;(repeat(refine Pn.mk ?_;intro N hN))))
  exact bU (b:=-1) (.inl rfl) (sd @Nat.zero_add) (ik (by unfold k7;omega)).symm
theorem FW (xs:List gI) (l:Int) (h0:0<=l) (h1:l<=1048576) (hs:∀g∈xs,g.aE.size<=9223372036854775807):aq Tryz.prog 120 [.sl (xs.map cw),.int .i64 l] (.int .i64 (vU (xs.length+(xs.map fun g=>g.aE.size).sum) l)):=
 Iz (fun g:gI=>g.aE.size) (show mU Tryz.prog 120=some (Iy 120 187 2) by kernel_rfl) (fun _=>rfl) zH xs l h0 h1 fun x hx l a b=>Iu x l a b (hs x hx)
theorem FX (xs:List e8) (l:Int) (h0:0<=l) (h1:l<=1048576) (hs:∀t∈xs,t.aE.size<=9223372036854775807):aq Tryz.prog 121 [.sl (xs.map bh),.int .i64 l] (.int .i64 (vU (xs.length+(xs.map k7).sum) l)):=
 Iz k7 (show mU Tryz.prog 121=some (Iy 121 188 2) by kernel_rfl) (fun _=>rfl) zI xs l h0 h1 fun x hx l a b=>IA x l a b (hs x hx)
theorem C7 (xs:List ad) (l:Int) (h0:0<=l) (h1:l<=1048576):aq Tryz.prog 76 [.sl (xs.map ai),.int .i64 l] (.int .i64 (vU xs.length l)):=by
 have h:=Ix (show mU Tryz.prog 76=some (Iw 76) by kernel_rfl) (xs.map ai) l h0 h1
 rwa [List.length_map]at h
theorem AN (s:au) (l:Int) (h0:0<=l) (h1:l<=1048576) (hs:fe s):aq Tryz.prog 61 [.agg (aa s),.int .i64 l] (.int .i64 (vU (uW s) l)):=by
 refine aq.body eE rfl fun hl n0=>?_
 clear hl
 have ha:=FW s.aC l h0 h1 hs.1
 have he:uW s=(s.aC.length+(s.aC.map fun g=>g.aE.size).sum)+(s.ae.length+(s.ae.map k7).sum):=rfl
 by_cases hf:((s.aC.length+(s.aC.map fun g=>g.aE.size).sum:Nat):Int)<=l
 ·rw[gY hf]at ha
  obtain⟨A,hA⟩:∃A:Int,A=l-((s.aC.length+(s.aC.map fun g=>g.aE.size).sum:Nat):Int):=⟨_,rfl⟩
  rw[<-hA]at ha
  have jo:¬A<0:=by omega
  have hb:=FX s.ae A (by omega) (by omega) hs.2
  by_cases hg:((s.ae.length+(s.ae.map k7).sum:Nat):Int)<=A
  ·rw[gY hg]at hb
   obtain⟨B,hB⟩:∃B:Int,B=A-((s.ae.length+(s.ae.map k7).sum:Nat):Int):=⟨_,rfl⟩
   rw[<-hB]at hb
   have wG:¬B<0:=by omega
   (repeat(first|((repeat(revert hN;revert N;apply Pn.out));refine wk (tw @aa.eq_1 (tw @jo @wG)) ?_;(repeat(refine Pn.mk ?_;intro N hN)))|((try apply Or.inl);refine⟨_,aq.x (ha) (sd (tw @aa.eq_1 (tw @jo @wG))),?_⟩;refine hN _ _ ?_;clear hN N)|((try apply Or.inl);refine⟨_,aq.x (hb) (sd (tw @aa.eq_1 (tw @jo @wG))),?_⟩;refine hN _ _ ?_;clear hN N)))
   exact bU (b:=B) (.inl rfl) (sd @Nat.zero_add) (by rw[gY (by omega)];omega)
  ·rw[ik hg]at hb
   (repeat(first|((repeat(revert hN;revert N;apply Pn.out));refine wk (tw @aa.eq_1 @jo) ?_;(repeat(refine Pn.mk ?_;intro N hN)))|((try apply Or.inl);refine⟨_,aq.x (ha) (sd (tw @aa.eq_1 @jo)),?_⟩;refine hN _ _ ?_;clear hN N)|((try apply Or.inl);refine⟨_,aq.x (hb) (sd (tw @aa.eq_1 @jo)),?_⟩;refine hN _ _ ?_;clear hN N)))
   exact bU (b:=-1) (.inl rfl) (sd @Nat.zero_add) (ik (by omega)).symm
 ·rw[ik hf]at ha
  (repeat(first|((repeat(revert hN;revert N;apply Pn.out));refine wk @aa.eq_1 ?_;(repeat(refine Pn.mk ?_;intro N hN)))|((try apply Or.inl);refine⟨_,aq.x (ha) (sd @aa.eq_1),?_⟩;refine hN _ _ ?_;clear hN N)))
  exact bU (b:=-1) (.inl rfl) (sd @Nat.zero_add) (ik (by omega)).symm
theorem qE (a:e7) (l:Int) (h0:0<=l) (h1:l<=1048576):aq Tryz.prog 14 [.agg (bc a),.int .i64 l] (.int .i64 (vU a.ae.length l)):=by
 refine aq.body eE rfl fun hl n0=>?_
 clear hl
 have ha:=C7 a.ae l h0 h1
 by_cases hf:(a.ae.length:Int)<=l
 ·rw[gY hf]at ha
  have jo:¬l-(a.ae.length:Int)<0:=by omega
  (repeat(first|((repeat(revert hN;revert N;apply Pn.out));refine wk (tw @bc.eq_1 @jo) ?_;(repeat(refine Pn.mk ?_;intro N hN)))|((try apply Or.inl);refine⟨_,aq.x (ha) (sd (tw @bc.eq_1 @jo)),?_⟩;refine hN _ _ ?_;clear hN N)))
  exact bU (b:=l-(a.ae.length:Int)) (.inl rfl) (sd @Nat.zero_add) (gY hf).symm
 ·rw[ik hf]at ha
  (repeat(first|((repeat(revert hN;revert N;apply Pn.out));refine wk @bc.eq_1 ?_;(repeat(refine Pn.mk ?_;intro N hN)))|((try apply Or.inl);refine⟨_,aq.x (ha) (sd @bc.eq_1),?_⟩;refine hN _ _ ?_;clear hN N)))
  exact bU (b:=-1) (.inl rfl) (sd @Nat.zero_add) (ik hf).symm
theorem C8 (s:aG) (l:Int) (h0:0<=l) (h1:l<=1048576) (hs:fe s.az):aq Tryz.prog 13 [.agg (aD s),.int .i64 l] (.int .i64 (vU (yP s) l)):=by
 refine aq.body eE rfl fun hl n0=>?_
 clear hl
 have ha:=AN s.az l h0 h1 hs
 rw[aa]at ha
 have he:yP s=uW s.az+s.cr.ae.length:=rfl
 by_cases hf:(uW s.az:Int)<=l
 ·rw[gY hf]at ha
  have jo:¬l-(uW s.az:Int)<0:=by omega
  have hb:=qE s.cr (l-uW s.az) (by omega) (by omega)
  rw[bc]at hb
  by_cases hg:(s.cr.ae.length:Int)<=l-uW s.az
  ·rw[gY hg]at hb
   have wG:¬l-(uW s.az:Int)-(s.cr.ae.length:Int)<0:=by omega
   (repeat(first|((repeat(revert hN;revert N;apply Pn.out));refine wk (tw @aD.eq_1 (tw @jo @wG)) ?_;(repeat(refine Pn.mk ?_;intro N hN)))|((try apply Or.inl);refine⟨_,aq.x (ha) (sd (tw @aD.eq_1 (tw @jo @wG))),?_⟩;refine hN _ _ ?_;clear hN N)|((try apply Or.inl);refine⟨_,aq.x (hb) (sd (tw @aD.eq_1 (tw @jo @wG))),?_⟩;refine hN _ _ ?_;clear hN N)))
   exact bU (b:=l-(uW s.az:Int)-(s.cr.ae.length:Int)) (.inl rfl) (sd @Nat.zero_add) (by rw[gY (by omega)];omega)
  ·rw[ik hg]at hb
   (repeat(first|((repeat(revert hN;revert N;apply Pn.out));refine wk (tw @aD.eq_1 @jo) ?_;(repeat(refine Pn.mk ?_;intro N hN)))|((try apply Or.inl);refine⟨_,aq.x (ha) (sd (tw @aD.eq_1 @jo)),?_⟩;refine hN _ _ ?_;clear hN N)|((try apply Or.inl);refine⟨_,aq.x (hb) (sd (tw @aD.eq_1 @jo)),?_⟩;refine hN _ _ ?_;clear hN N)))
   exact bU (b:=-1) (.inl rfl) (sd @Nat.zero_add) (ik (by omega)).symm
 ·rw[ik hf]at ha
  (repeat(first|((repeat(revert hN;revert N;apply Pn.out));refine wk @aD.eq_1 ?_;(repeat(refine Pn.mk ?_;intro N hN)))|((try apply Or.inl);refine⟨_,aq.x (ha) (sd @aD.eq_1),?_⟩;refine hN _ _ ?_;clear hN N)))
  exact bU (b:=-1) (.inl rfl) (sd @Nat.zero_add) (ik (by omega)).symm
def oz (s:au) (i:Nat):gI:=s.aC.getD i ⟨⟨#[]⟩,0⟩
def nN (s:au) (i:Nat):e8:=s.ae.getD i yk
def Bk (s:au) (i:Nat):Prop:=jl (oz s i).aE=true/\gn (oz s i).ez 1 4=true/\∀j,j<i->(oz s j).aE≠(oz s i).aE
def zd (s:au) (i:Nat):Prop:=jl (nN s i).aE=true/\(nN s i).bY.length=4/\(∀j,j<i->(nN s j).aE≠(nN s i).aE)/\∀g∈(nN s i).bY,gn g 0 s.aC.length=true
structure gJ (s:au):Prop where
 r7:s.aC.length<=200
 some:1<=s.ae.length
 uS:s.ae.length<=160
 Qv:∀i,i<s.aC.length->Bk s i
 tok:∀i,i<s.ae.length->zd s i
noncomputable def mT (s:au):Bool:=@decide (gJ s) (Classical.propDecidable _)
theorem kD {s:au}:mT s=true↔gJ s:=by simp[mT]
theorem fo {s:au} (h:¬gJ s):false=mT s:=by simp[mT,h]
theorem AK {s:au} (h:gJ s):true=mT s:=by simp[mT,h]
theorem yJ {s:au} {i:Nat} (h:i<s.ae.length):(s.ae.map bh)[i]? =some (bh (nN s i)):=getD_map bh h
theorem xK {s:au} {i:Nat} (h:i<s.aC.length):(s.aC.map cw)[i]? =some (cw (oz s i)):=getD_map cw h
theorem gJ.form {s:au} (h:gJ s):iH s:=by
 have key:∀t∈s.ae,∃i,i<s.ae.length/\t=nN s i:=fun t ht=>by
  obtain⟨i,hi,rfl⟩:=List.getElem_of_mem ht
  exact⟨i,hi,by simp[nN,List.getD_eq_getElem?_getD,hi]⟩
 refine⟨fun t ht=>?_,fun t ht g hg=>?_⟩
 ·obtain⟨i,hi,rfl⟩:=key t ht
  exact(h.tok i hi).2.1
 ·obtain⟨i,hi,rfl⟩:=key t ht
  exact dM ((h.tok i hi).2.2.2 g hg)
def dt (l:List ByteArray):List (List AV):=l.map fun n=>[.str n,.bool true]
abbrev mS:MK:=⟨false,[.tS]⟩
theorem xf (n:ByteArray):∀(l:List ByteArray) (i:Nat),∃r,fI mS [.str n] (dt l) i=some r/\((r=none/\n∉l)∨∃j,r=some (i+j)/\n∈l/\(dt l)[j]? =some [.str n,.bool true])
 |[],i=>⟨none,rfl,.inl ⟨rfl,by simp⟩⟩
 |m::l,i=>by
  obtain⟨r,h1,h2⟩:=xf n l (i+1)
  by_cases h:n=m
  ·subst h
   exact⟨some i,by simp[dt,fI,eL,fF,MK.ks],.inr ⟨0,rfl,by simp,rfl⟩⟩
  ·refine⟨r,?_,?_⟩
   ·unfold dt at h1 ⊢
    simp only[List.map_cons,fI,MK.ks,List.length_cons,List.length_nil,Nat.zero_add,List.take_succ_cons,List.take_zero,eL,fF,h,decide_false,Bool.and_true]
    exact h1
   ·rcases h2 with⟨rfl,h2⟩|⟨j,rfl,h2,h3⟩
    ·exact .inl ⟨rfl,by simp[h,h2]⟩
    ·exact .inr ⟨j+1,by congr 1;omega,by simp[h2],by simpa[dt]using h3⟩
theorem uL (n:ByteArray) (l:List ByteArray):(n∉l/\fC mS (.str n) (dt l)=some none)∨∃j,n∈l/\fC mS (.str n) (dt l)=some (some j)/\(dt l)[j]? =some [.str n,.bool true]:=by
 obtain⟨r,h1,h2⟩:=xf n l 0
 have e:fC mS (.str n) (dt l)=some r:=by
  unfold fC
  rw[if_pos ⟨rfl,rfl,rfl⟩];exact h1
 rcases h2 with⟨rfl,h2⟩|⟨j,rfl,h2,h3⟩
 ·exact .inl ⟨h2,e⟩
 ·exact .inr ⟨j,h2,by rw[e,Nat.zero_add],h3⟩
theorem Ng (s:au) (g:Int):aq Tryz.prog 255 [.int .i64 g,.dd (aa s)] (.bool (!gn g 0 s.aC.length)):=by
 refine aq.body eE rfl fun hl n0=>?_
 clear hl
 have h:=gT g 0 s.aC.length
 (repeat(first|((repeat(revert hN;revert N;apply Pn.out));refine wk @aa.eq_1 ?_;(repeat(refine Pn.mk ?_;intro N hN)))|((try apply Or.inl);refine⟨_,aq.x (h) (sd @aa.eq_1),?_⟩;refine hN _ _ ?_;clear hN N)))
 exact aL (b:= !gn g 0 s.aC.length) (.inl rfl) (sd @Nat.zero_add) rfl
theorem Dy:Ol aA (fun c=>.int .i64 c) 1 false:=⟨fun _=>rfl,fun _=>rfl,fun x g=>by rw[aj,aK,ar];rfl⟩
theorem Kz (s:au) (l:List Int) (hl:l.length<=1048576):aq Tryz.prog 226 [.sl (l.map aA),.fn 255 [.dd (aa s)]] (.bool (l.any fun g=> !gn g 0 s.aC.length)):=
 ke Dy (show mU Tryz.prog 226=some (xP 226 279) by kernel_rfl)
  (show mU Tryz.prog 279=some (rq 279 1 false) by kernel_rfl) l hl _ _ _ rfl (fun g=>by rw[aj,aN,ar];rfl) (fun x _=>Ng s x) fun g=>by rw[aj,aN,ar];rfl
theorem uo {α:Type} (f:Nat->α) (n k:Nat) (x:α):x∉(List.range k).map f↔∀j,j<k->f j≠x:=by
 constructor
 ·intro h j hj he
  exact h (List.mem_map.2 ⟨j,List.mem_range.2 hj,he⟩)
 ·intro h hm
  obtain⟨j,hj,he⟩:=List.mem_map.1 hm
  exact h j (List.mem_range.1 hj) he
theorem tp (s:au) (hn:fe s) (hg:s.aC.length<=1048576) (ht:s.ae.length<=1048576) (hs:∀t∈s.ae,t.bY.length<=1048576):aq Tryz.prog 199 [.agg (aa s)] (.bool (mT s)):=by
 refine aq.body eE rfl fun hl n0=>?_
 clear hl
 have Pg:∀i,i<s.aC.length->(oz s i).aE.size<=9223372036854775807:=fun i hi=>hn.1 _ (by simp[oz,List.getD_eq_getElem?_getD,hi])
 have PE:∀i,i<s.ae.length->(nN s i).aE.size<=9223372036854775807:=fun i hi=>hn.2 _ (by simp[nN,List.getD_eq_getElem?_getD,hi])
 have vK:∀i,i<s.ae.length->(nN s i).bY.length<=1048576:=fun i hi=>hs _ (by simp[nN,List.getD_eq_getElem?_getD,hi])
 have hw:=gT (s.ae.length:Int) 1 160
 by_cases h1:(200:Int)<(s.aC.length:Int)
 ·(try((repeat(revert hN;revert N;apply Pn.out));refine wk (tw @aa.eq_1 @h1) ?_;(repeat(refine Pn.mk ?_;intro N hN))))
  exact aL (b:=false) (.inl rfl) (sd @Nat.zero_add) (fo fun h=>by have:=h.r7;omega)
 by_cases h2:gn (s.ae.length:Int) 1 160=true
 ·have A7:=dM h2
  rw[h2]at hw
  (repeat(first|((repeat(revert hN;revert N;apply Pn.out));refine wk (tw @aa.eq_1 @h1) ?_;(repeat(refine Pn.mk ?_;intro N hN)))|((try apply Or.inl);refine⟨_,aq.x (hw) (sd (tw @aa.eq_1 @h1)),?_⟩;refine hN _ _ ?_;clear hN N)))
  refine aM (fun n env st=>∃k:Nat,n=(s.aC.length)-k/\k<=(s.aC.length)/\env 24=.int .i64 (k:Int)/\st.get ⟨199000000,n0⟩=some ⟨true,2,[aa s]⟩/\st.get ⟨199003000,n0+1+1⟩=some ⟨true,mS.lp,dt ((List.range k).map fun i=>(oz s i).aE)⟩/\(∀j:Nat,j<k->Bk s j)) (s.aC.length) ⟨0,by omega,by omega,by(try simp only[go_sem, ↓reduceIte,Nat.reduceEqDiff,Nat.reduceAdd,Nat.reduceSub,Nat.reduceLeDiff,reduceCtorEq,aa,List.range_zero,List.map_nil,dt]);try rfl,by(try simp only[go_sem, ↓reduceIte,Nat.reduceEqDiff,Nat.reduceAdd,Nat.reduceSub,Nat.reduceLeDiff,reduceCtorEq,aa,List.range_zero,List.map_nil,dt]);try rfl,by(try simp only[go_sem, ↓reduceIte,Nat.reduceEqDiff,Nat.reduceAdd,Nat.reduceSub,Nat.reduceLeDiff,reduceCtorEq,aa,List.range_zero,List.map_nil,dt]);try rfl,fun _ h=>absurd h (Nat.not_lt_zero _)⟩ ?_
  rintro n_a env_a st_a ⟨k,rfl,ale,a24,ag0,ag1,lk⟩ dq
  have a1:=dq 1 (by kernel_rfl);have a3:=dq 3 (by kernel_rfl);have a22:=dq 22 (by kernel_rfl);have a23:=dq 23 (by kernel_rfl)
  simp only[go_sem, ↓reduceIte,Nat.reduceEqDiff,Nat.reduceAdd,Nat.reduceSub,Nat.reduceLeDiff,reduceCtorEq,aa,List.range_zero,List.map_nil,dt]at a1 a3 a22 a23
  clear dq
  by_cases hk:(k:Int)<(s.aC.length:Int)
  ·have cE:∀{e:Env} {gg:Rows},(e 24=.int .i64 (IntKind.i64.wrap ((k:Int)+1)))->(gg ⟨199000000,n0⟩=some ⟨true,2,[aa s]⟩)->(gg ⟨199003000,n0+1+1⟩=some ⟨true,mS.lp,dt ((List.range (k+1)).map fun i=>(oz s i).aE)⟩)->(Bk s k)->∃m0,m0<(s.aC.length)-k/\∃k:Nat,m0=(s.aC.length)-k/\k<=(s.aC.length)/\e 24=.int .i64 (k:Int)/\gg ⟨199000000,n0⟩=some ⟨true,2,[aa s]⟩/\gg ⟨199003000,n0+1+1⟩=some ⟨true,mS.lp,dt ((List.range k).map fun i=>(oz s i).aE)⟩/\(∀j:Nat,j<k->Bk s j):=fun x1 x2 x3 x4=>⟨_,by omega,k+1,rfl,by omega,(by rw[x1,aB (by omega)]),x2,x3,(all_succ lk x4)⟩
   have eV:k<s.aC.length:=by omega
   have ev:=xK eV
   have pj:=DW (oz s k).aE (Pg k eV)
   have I8:=gT (oz s k).ez 1 4
   have zW:=uL (oz s k).aE ((List.range k).map fun i=>(oz s i).aE)
   rw[uo _ k]at zW
   have kN:(¬Bk s k)->¬gJ s:=fun h hp=>h (hp.Qv k eV)
   generalize qM:oz s k=gl at *
   cases hb:jl gl.aE
   ·rw[hb]at pj
    (repeat(first|((repeat(revert hN;revert N;apply Pn.out));refine wk (tw @a24 (tw @ag0 (tw @ag1 (tw @a1 (tw @a3 (tw @a22 (tw @a23 (tw @hk (tw @ev (tw @cw.eq_1 @aa.eq_1)))))))))) ?_;(repeat(refine Pn.mk ?_;intro N hN)))|((try apply Or.inl);refine⟨_,aq.x (pj) (sd (tw @a24 (tw @ag0 (tw @ag1 (tw @a1 (tw @a3 (tw @a22 (tw @a23 (tw @hk (tw @ev (tw @cw.eq_1 @aa.eq_1))))))))))),?_⟩;refine hN _ _ ?_;clear hN N)))
    exact aL (b:=false) (.inl rfl) (sd @Nat.zero_add) (fo (kN fun h=>by rw[Bk,qM,hb]at h;cases h.1))
   ·rw[hb]at pj
    rcases zW with⟨Ca,lL⟩|⟨j,e9,lL,eX⟩
    ·cases dL:gn gl.ez 1 4
     ·rw[dL]at I8
      (repeat(first|((repeat(revert hN;revert N;apply Pn.out));refine wk (tw @a24 (tw @ag0 (tw @ag1 (tw @a1 (tw @a3 (tw @a22 (tw @a23 (tw @hk (tw @ev (tw @lL (tw @cw.eq_1 @aa.eq_1))))))))))) ?_;(repeat(refine Pn.mk ?_;intro N hN)))|((try apply Or.inl);refine⟨_,aq.x (pj) (sd (tw @a24 (tw @ag0 (tw @ag1 (tw @a1 (tw @a3 (tw @a22 (tw @a23 (tw @hk (tw @ev (tw @lL (tw @cw.eq_1 @aa.eq_1)))))))))))),?_⟩;refine hN _ _ ?_;clear hN N)|((try apply Or.inl);refine⟨_,aq.x (I8) (sd (tw @a24 (tw @ag0 (tw @ag1 (tw @a1 (tw @a3 (tw @a22 (tw @a23 (tw @hk (tw @ev (tw @lL (tw @cw.eq_1 @aa.eq_1)))))))))))),?_⟩;refine hN _ _ ?_;clear hN N)))
      exact aL (b:=false) (.inl rfl) (sd @Nat.zero_add) (fo (kN fun h=>by rw[Bk,qM,dL]at h;cases h.2.1))
     ·rw[dL]at I8
      have nV:dt ((List.range k).map fun i=>(oz s i).aE)++[[.str gl.aE,.bool true]]=dt (List.map (fun i=>(oz s i).aE) (List.range k++[k])):=by simp[dt,qM]
      (repeat(first|((repeat(revert hN;revert N;apply Pn.out));refine wk (tw @a24 (tw @ag0 (tw @ag1 (tw @a1 (tw @a3 (tw @a22 (tw @a23 (tw @hk (tw @ev (tw @lL (tw @cw.eq_1 @aa.eq_1))))))))))) ?_;(repeat(refine Pn.mk ?_;intro N hN)))|((try apply Or.inl);refine⟨_,aq.x (pj) (sd (tw @a24 (tw @ag0 (tw @ag1 (tw @a1 (tw @a3 (tw @a22 (tw @a23 (tw @hk (tw @ev (tw @lL (tw @cw.eq_1 @aa.eq_1)))))))))))),?_⟩;refine hN _ _ ?_;clear hN N)|((try apply Or.inl);refine⟨_,aq.x (I8) (sd (tw @a24 (tw @ag0 (tw @ag1 (tw @a1 (tw @a3 (tw @a22 (tw @a23 (tw @hk (tw @ev (tw @lL (tw @cw.eq_1 @aa.eq_1)))))))))))),?_⟩;refine hN _ _ ?_;clear hN N)))
      refine cE ?_ ?_ ?_ (⟨by rw[qM];exact hb,by rw[qM];exact dL,fun j hj=>by rw[qM];exact Ca j hj⟩)
      all_goals simp only[go_sem, ↓reduceIte,Nat.reduceEqDiff,Nat.reduceAdd,Nat.reduceSub,Nat.reduceLeDiff,reduceCtorEq,a24,ag0,ag1,a1,a3,a22,a23,lL,nV]
    ·(repeat(first|((repeat(revert hN;revert N;apply Pn.out));refine wk (tw @a24 (tw @ag0 (tw @ag1 (tw @a1 (tw @a3 (tw @a22 (tw @a23 (tw @hk (tw @ev (tw @lL (tw @eX (tw @cw.eq_1 @aa.eq_1)))))))))))) ?_;(repeat(refine Pn.mk ?_;intro N hN)))|((try apply Or.inl);refine⟨_,aq.x (pj) (sd (tw @a24 (tw @ag0 (tw @ag1 (tw @a1 (tw @a3 (tw @a22 (tw @a23 (tw @hk (tw @ev (tw @lL (tw @eX (tw @cw.eq_1 @aa.eq_1))))))))))))),?_⟩;refine hN _ _ ?_;clear hN N)))
     exact aL (b:=false) (.inl rfl) (sd @Nat.zero_add) (fo (kN fun h=>by
      rw[Bk,qM]at h
      obtain⟨i,hi,he⟩:=List.mem_map.1 e9
      exact h.2.2 i (List.mem_range.1 hi) he))
  ·have jy:k=s.aC.length:=by omega
   (try((repeat(revert hN;revert N;apply Pn.out));refine wk (tw @a24 (tw @ag0 (tw @ag1 (tw @a1 (tw @a3 (tw @a22 (tw @a23 (tw @hk @aa.eq_1)))))))) ?_;(repeat(refine Pn.mk ?_;intro N hN))))
   refine aM (fun n env st=>∃j:Nat,n=(s.ae.length)-j/\j<=(s.ae.length)/\env 52=.int .i64 (j:Int)/\st.get ⟨199000000,n0⟩=some ⟨true,2,[aa s]⟩/\st.get ⟨199011000,st_a.next+1⟩=some ⟨true,mS.lp,dt ((List.range j).map fun i=>(nN s i).aE)⟩/\(∀i:Nat,i<j->zd s i)/\(st_a.next<st.next)) (s.ae.length) ⟨0,by omega,by omega,by(try simp only[go_sem, ↓reduceIte,Nat.reduceEqDiff,Nat.reduceAdd,Nat.reduceSub,Nat.reduceLeDiff,reduceCtorEq,a24,ag0,ag1,a1,a3,a22,a23,aa,List.range_zero,List.map_nil,dt]);try rfl,by(try simp only[go_sem, ↓reduceIte,Nat.reduceEqDiff,Nat.reduceAdd,Nat.reduceSub,Nat.reduceLeDiff,reduceCtorEq,a24,ag0,ag1,a1,a3,a22,a23,aa,List.range_zero,List.map_nil,dt]);try rfl,by(try simp only[go_sem, ↓reduceIte,Nat.reduceEqDiff,Nat.reduceAdd,Nat.reduceSub,Nat.reduceLeDiff,reduceCtorEq,a24,ag0,ag1,a1,a3,a22,a23,aa,List.range_zero,List.map_nil,dt]);try rfl,fun _ h=>absurd h (Nat.not_lt_zero _),(by(try dsimp only);omega)⟩ ?_
   rintro n_b env_b st_b ⟨j,rfl,ble,b52,bg0,bg1,bA0,bI0⟩ eP
   have b1:=eP 1 (by kernel_rfl);have b6:=eP 6 (by kernel_rfl);have By:=eP 50 (by kernel_rfl);have Bz:=eP 51 (by kernel_rfl)
   simp only[go_sem, ↓reduceIte,Nat.reduceEqDiff,Nat.reduceAdd,Nat.reduceSub,Nat.reduceLeDiff,reduceCtorEq,a24,ag0,ag1,a1,a3,a22,a23,aa,List.range_zero,List.map_nil,dt]at b1 b6 By Bz
   clear eP
   by_cases hj:(j:Int)<(s.ae.length:Int)
   ·have eY:∀{e:Env} {gg:Rows} {nx:Nat},(e 52=.int .i64 (IntKind.i64.wrap ((j:Int)+1)))->(gg ⟨199000000,n0⟩=some ⟨true,2,[aa s]⟩)->(gg ⟨199011000,st_a.next+1⟩=some ⟨true,mS.lp,dt ((List.range (j+1)).map fun i=>(nN s i).aE)⟩)->(zd s j)->(st_a.next<nx)->∃m0,m0<(s.ae.length)-j/\∃j:Nat,m0=(s.ae.length)-j/\j<=(s.ae.length)/\e 52=.int .i64 (j:Int)/\gg ⟨199000000,n0⟩=some ⟨true,2,[aa s]⟩/\gg ⟨199011000,st_a.next+1⟩=some ⟨true,mS.lp,dt ((List.range j).map fun i=>(nN s i).aE)⟩/\(∀i:Nat,i<j->zd s i)/\(st_a.next<nx):=fun x1 x2 x3 x4 x5=>⟨_,by omega,j+1,rfl,by omega,(by rw[x1,aB (by omega)]),x2,x3,(all_succ bA0 x4),x5⟩
    have ll:j<s.ae.length:=by omega
    have nC:=yJ ll
    have pj:=DW (nN s j).aE (PE j ll)
    have Q5:=Kz s (nN s j).bY (vK j ll)
    have zW:=uL (nN s j).aE ((List.range j).map fun i=>(nN s i).aE)
    rw[uo _ j]at zW
    have kN:(¬zd s j)->¬gJ s:=fun h hp=>h (hp.tok j ll)
    have gM:(⟨199011000,st_a.next+1⟩:Id)≠⟨199000000,n0⟩:=by simp
    generalize htd:nN s j=tl at *
    cases hb:jl tl.aE
    ·rw[hb]at pj
     (repeat(first|((repeat(revert hN;revert N;apply Pn.out));refine wk (tw @b52 (tw @bg0 (tw @bg1 (tw @b1 (tw @b6 (tw @By (tw @Bz (tw @hj (tw @nC (tw @bh.eq_1 @aa.eq_1)))))))))) ?_;(repeat(refine Pn.mk ?_;intro N hN)))|((try apply Or.inl);refine⟨_,aq.x (pj) (sd (tw @b52 (tw @bg0 (tw @bg1 (tw @b1 (tw @b6 (tw @By (tw @Bz (tw @hj (tw @nC (tw @bh.eq_1 @aa.eq_1))))))))))),?_⟩;refine hN _ _ ?_;clear hN N)))
     exact aL (b:=false) (.inl rfl) (sd @Nat.zero_add) (fo (kN fun h=>by rw[zd,htd,hb]at h;cases h.1))
    ·rw[hb]at pj
     rcases zW with⟨Ca,lL⟩|⟨i,e9,lL,eX⟩
     ·by_cases h4:(tl.bY.length:Int)=4
      ·have xN:decide ((tl.bY.length:Int)=4)=true:=decide_eq_true h4
       cases hany:tl.bY.any fun g=> !gn g 0 s.aC.length
       ·rw[hany]at Q5
        have nV:dt ((List.range j).map fun i=>(nN s i).aE)++[[.str tl.aE,.bool true]]=dt (List.map (fun i=>(nN s i).aE) (List.range j++[j])):=by simp[dt,htd]
        (repeat(first|((repeat(revert hN;revert N;apply Pn.out));refine wk (tw @b52 (tw @bg0 (tw @bg1 (tw @b1 (tw @b6 (tw @By (tw @Bz (tw @hj (tw @nC (tw @lL (tw @xN (tw @bh.eq_1 @aa.eq_1)))))))))))) ?_;(repeat(refine Pn.mk ?_;intro N hN)))|((try apply Or.inl);refine⟨_,aq.x (pj) (sd (tw @b52 (tw @bg0 (tw @bg1 (tw @b1 (tw @b6 (tw @By (tw @Bz (tw @hj (tw @nC (tw @lL (tw @xN (tw @bh.eq_1 @aa.eq_1))))))))))))),?_⟩;refine hN _ _ ?_;clear hN N)|((try apply Or.inl);refine⟨_,aq.x (Q5) (sd (tw @b52 (tw @bg0 (tw @bg1 (tw @b1 (tw @b6 (tw @By (tw @Bz (tw @hj (tw @nC (tw @lL (tw @xN (tw @bh.eq_1 @aa.eq_1))))))))))))),?_⟩;refine hN _ _ ?_;clear hN N)))
        refine eY ?_ ?_ ?_ (⟨by rw[htd];exact hb,by rw[htd];omega,fun i hi=>(by rw[htd];exact Ca i hi),fun g hg=>by rw[htd]at hg;have:=List.any_eq_false.1 hany g hg;simpa using this⟩) (by(try dsimp only);omega)
        all_goals simp only[go_sem, ↓reduceIte,Nat.reduceEqDiff,Nat.reduceAdd,Nat.reduceSub,Nat.reduceLeDiff,reduceCtorEq,b52,bg0,bg1,b1,b6,By,Bz,lL,nV]
       ·rw[hany]at Q5
        (repeat(first|((repeat(revert hN;revert N;apply Pn.out));refine wk (tw @b52 (tw @bg0 (tw @bg1 (tw @b1 (tw @b6 (tw @By (tw @Bz (tw @hj (tw @nC (tw @lL (tw @xN (tw @bh.eq_1 @aa.eq_1)))))))))))) ?_;(repeat(refine Pn.mk ?_;intro N hN)))|((try apply Or.inl);refine⟨_,aq.x (pj) (sd (tw @b52 (tw @bg0 (tw @bg1 (tw @b1 (tw @b6 (tw @By (tw @Bz (tw @hj (tw @nC (tw @lL (tw @xN (tw @bh.eq_1 @aa.eq_1))))))))))))),?_⟩;refine hN _ _ ?_;clear hN N)|((try apply Or.inl);refine⟨_,aq.x (Q5) (sd (tw @b52 (tw @bg0 (tw @bg1 (tw @b1 (tw @b6 (tw @By (tw @Bz (tw @hj (tw @nC (tw @lL (tw @xN (tw @bh.eq_1 @aa.eq_1))))))))))))),?_⟩;refine hN _ _ ?_;clear hN N)))
        exact aL (b:=false) (.inl rfl) (sd @Nat.zero_add) (fo (kN fun h=>by
         rw[zd,htd]at h
         obtain⟨g,hg,hq⟩:=List.any_eq_true.1 hany
         have:=h.2.2.2 g hg
         rw[this]at hq;cases hq))
      ·have xN:decide ((tl.bY.length:Int)=4)=false:=decide_eq_false h4
       (repeat(first|((repeat(revert hN;revert N;apply Pn.out));refine wk (tw @b52 (tw @bg0 (tw @bg1 (tw @b1 (tw @b6 (tw @By (tw @Bz (tw @hj (tw @nC (tw @lL (tw @xN (tw @bh.eq_1 @aa.eq_1)))))))))))) ?_;(repeat(refine Pn.mk ?_;intro N hN)))|((try apply Or.inl);refine⟨_,aq.x (pj) (sd (tw @b52 (tw @bg0 (tw @bg1 (tw @b1 (tw @b6 (tw @By (tw @Bz (tw @hj (tw @nC (tw @lL (tw @xN (tw @bh.eq_1 @aa.eq_1))))))))))))),?_⟩;refine hN _ _ ?_;clear hN N)))
       exact aL (b:=false) (.inl rfl) (sd @Nat.zero_add) (fo (kN fun h=>by rw[zd,htd]at h;have:=h.2.1;omega))
     ·(repeat(first|((repeat(revert hN;revert N;apply Pn.out));refine wk (tw @b52 (tw @bg0 (tw @bg1 (tw @b1 (tw @b6 (tw @By (tw @Bz (tw @hj (tw @nC (tw @lL (tw @eX (tw @bh.eq_1 @aa.eq_1)))))))))))) ?_;(repeat(refine Pn.mk ?_;intro N hN)))|((try apply Or.inl);refine⟨_,aq.x (pj) (sd (tw @b52 (tw @bg0 (tw @bg1 (tw @b1 (tw @b6 (tw @By (tw @Bz (tw @hj (tw @nC (tw @lL (tw @eX (tw @bh.eq_1 @aa.eq_1))))))))))))),?_⟩;refine hN _ _ ?_;clear hN N)))
      exact aL (b:=false) (.inl rfl) (sd @Nat.zero_add) (fo (kN fun h=>by
       rw[zd,htd]at h
       obtain⟨i,hi,he⟩:=List.mem_map.1 e9
       exact h.2.2.1 i (List.mem_range.1 hi) he))
   ·(try((repeat(revert hN;revert N;apply Pn.out));refine wk (tw @b52 (tw @bg0 (tw @bg1 (tw @b1 (tw @b6 (tw @By (tw @Bz (tw @hj @aa.eq_1)))))))) ?_;(repeat(refine Pn.mk ?_;intro N hN))))
    exact aL (b:=true) (.inl rfl) (sd @Nat.zero_add) (AK ⟨by omega,by omega,by omega,fun i hi=>lk i (by omega),fun i hi=>bA0 i (by omega)⟩)
 ·rw[Bool.not_eq_true]at h2
  rw[h2]at hw
  (repeat(first|((repeat(revert hN;revert N;apply Pn.out));refine wk (tw @aa.eq_1 @h1) ?_;(repeat(refine Pn.mk ?_;intro N hN)))|((try apply Or.inl);refine⟨_,aq.x (hw) (sd (tw @aa.eq_1 @h1)),?_⟩;refine hN _ _ ?_;clear hN N)))
  exact aL (b:=false) (.inl rfl) (sd @Nat.zero_add) (fo fun h=>by
   have h3:=h.some
   have h4:=h.uS
   rw[gr ⟨by omega,by omega⟩]at h2;cases h2)
theorem sQ {α:Type} {p:α->Bool} {xs:List α} {k:Nat} (hk:k<xs.length) (h1:p xs[k]=true) (h2:∀j (h:j<xs.length),j<k->p xs[j]=false):jP p xs=k:=by
 have:xs.findIdx p=k:=by rw[List.findIdx_eq hk];exact⟨h1,fun j hj=>h2 j (by omega) hj⟩
 rw[jP,this,if_pos hk]
theorem wo {α:Type} {p:α->Bool} {xs:List α} (h:∀j (h:j<xs.length),p xs[j]=false):jP p xs= -1:=by
 rw[jP,if_neg]
 rw[List.findIdx_lt_length]
 rintro⟨x,hx,MG⟩
 obtain⟨j,hj,rfl⟩:=List.getElem_of_mem hx
 rw[h j hj]at MG;cases MG
theorem xJ {s:au} {i:Nat} (h:i<s.aC.length):oz s i=s.aC[i]:=by simp[oz,List.getD_eq_getElem?_getD,h]
theorem yI {s:au} {i:Nat} (h:i<s.ae.length):nN s i=s.ae[i]:=by simp[nN,List.getD_eq_getElem?_getD,h]
def IY (s:au) (n:ByteArray):Int:=jP (fun g:gI=>decide (g.aE=n)) s.aC
def Lt (s:au) (n:ByteArray):Int:=jP (fun t:e8=>decide (t.aE=n)) s.ae
theorem Fo (s:au) (nm:ByteArray):aq Tryz.prog 238 [.dd (aa s),.str nm] (.int .i64 (IY s nm+1)):=by
 refine aq.body eE rfl fun hl n0=>?_
 have hlen:s.aC.length<=9223372036854775807:=by
  have h1:=(hl (.dd (aa s)) (by simp)).Af (a:=.sl (s.aC.map cw)) (by simp[aa])
  simpa using h1.len
 clear hl
 (try((repeat(revert hN;revert N;apply Pn.out));refine wk @aa.eq_1 ?_;(repeat(refine Pn.mk ?_;intro N hN))))
 refine aM (fun n env st=>∃k:Nat,n=(s.aC.length)-k/\k<=(s.aC.length)/\env 5=.int .i64 (k:Int)/\(∀j:Nat,j<k->∀h:j<s.aC.length,decide (s.aC[j].aE=nm)=false)) (s.aC.length) ⟨0,by omega,by omega,sl @aa.eq_1,fun _ h=>absurd h (Nat.not_lt_zero _)⟩ ?_
 rintro n_a env_a st_a ⟨k,rfl,ale,a5,lk⟩ dq
 have a0:=dq 0 (by kernel_rfl);have a1:=dq 1 (by kernel_rfl)
 simp only[go_sem, ↓reduceIte,Nat.reduceEqDiff,Nat.reduceAdd,Nat.reduceSub,Nat.reduceLeDiff,reduceCtorEq,aa]at a0 a1
 clear dq
 by_cases hk:(k:Int)<(s.aC.length:Int)
 ·have cE:∀{e:Env},(e 5=.int .i64 (IntKind.i64.wrap ((k:Int)+1)))->(∀h:k<s.aC.length,decide (s.aC[k].aE=nm)=false)->∃m0,m0<(s.aC.length)-k/\∃k:Nat,m0=(s.aC.length)-k/\k<=(s.aC.length)/\e 5=.int .i64 (k:Int)/\(∀j:Nat,j<k->∀h:j<s.aC.length,decide (s.aC[j].aE=nm)=false):=fun x1 x2=>⟨_,by omega,k+1,rfl,by omega,(by rw[x1,aB (by omega)]),(all_succ lk x2)⟩
  have eV:k<s.aC.length:=by omega
  have ev:=xK eV
  have e:=xJ eV
  cases hd:decide ((oz s k).aE=nm)
  ·have QM:=of_decide_eq_false hd
   (try((repeat(revert hN;revert N;apply Pn.out));refine wk (tw @a5 (tw @a0 (tw @a1 (tw @hk (tw @ev (tw @QM (tw @hd (tw @cw.eq_1 @aa.eq_1)))))))) ?_;(repeat(refine Pn.mk ?_;intro N hN))))
   exact cE (sd (tw @a5 (tw @a0 @a1))) (fun _=>by rw[e]at hd;exact hd)
  ·have QM:=of_decide_eq_true hd
   have hw:IntKind.i64.wrap ((k:Int)+1)=(k:Int)+1:=bz (by omega)
   (try((repeat(revert hN;revert N;apply Pn.out));refine wk (tw @a5 (tw @a0 (tw @a1 (tw @hk (tw @ev (tw @hd (tw @hw (tw @cw.eq_1 @aa.eq_1)))))))) ?_;(repeat(refine Pn.mk ?_;intro N hN))))
   exact bU (b:=(k:Int)+1) (.inl rfl) (sd @Nat.zero_add) (by rw[IY,sQ eV (by rw[e]at hd;exact hd) fun j h hj=>lk j hj h])
 ·(try((repeat(revert hN;revert N;apply Pn.out));refine wk (tw @a5 (tw @a0 (tw @a1 (tw @hk @aa.eq_1)))) ?_;(repeat(refine Pn.mk ?_;intro N hN))))
  exact bU (b:=0) (.inl rfl) (sd @Nat.zero_add) (by rw[IY,wo fun j h=>lk j (by omega) h];rfl)
theorem Fp (s:au) (nm:ByteArray):aq Tryz.prog 239 [.dd (aa s),.str nm] (.int .i64 (Lt s nm)):=by
 refine aq.body eE rfl fun hl n0=>?_
 have hlen:s.ae.length<=9223372036854775807:=by
  have h1:=(hl (.dd (aa s)) (by simp)).Af (a:=.sl (s.ae.map bh)) (by simp[aa])
  simpa using h1.len
 clear hl
 (try((repeat(revert hN;revert N;apply Pn.out));refine wk @aa.eq_1 ?_;(repeat(refine Pn.mk ?_;intro N hN))))
 refine aM (fun n env st=>∃k:Nat,n=(s.ae.length)-k/\k<=(s.ae.length)/\env 5=.int .i64 (k:Int)/\(∀j:Nat,j<k->∀h:j<s.ae.length,decide (s.ae[j].aE=nm)=false)) (s.ae.length) ⟨0,by omega,by omega,sl @aa.eq_1,fun _ h=>absurd h (Nat.not_lt_zero _)⟩ ?_
 rintro n_a env_a st_a ⟨k,rfl,ale,a5,lk⟩ dq
 have a0:=dq 0 (by kernel_rfl);have a1:=dq 1 (by kernel_rfl)
 simp only[go_sem, ↓reduceIte,Nat.reduceEqDiff,Nat.reduceAdd,Nat.reduceSub,Nat.reduceLeDiff,reduceCtorEq,aa]at a0 a1
 clear dq
 by_cases hk:(k:Int)<(s.ae.length:Int)
 ·have cE:∀{e:Env},(e 5=.int .i64 (IntKind.i64.wrap ((k:Int)+1)))->(∀h:k<s.ae.length,decide (s.ae[k].aE=nm)=false)->∃m0,m0<(s.ae.length)-k/\∃k:Nat,m0=(s.ae.length)-k/\k<=(s.ae.length)/\e 5=.int .i64 (k:Int)/\(∀j:Nat,j<k->∀h:j<s.ae.length,decide (s.ae[j].aE=nm)=false):=fun x1 x2=>⟨_,by omega,k+1,rfl,by omega,(by rw[x1,aB (by omega)]),(all_succ lk x2)⟩
  have eV:k<s.ae.length:=by omega
  have ev:=yJ eV
  have e:=yI eV
  cases hd:decide ((nN s k).aE=nm)
  ·(try((repeat(revert hN;revert N;apply Pn.out));refine wk (tw @a5 (tw @a0 (tw @a1 (tw @hk (tw @ev (tw @hd (tw @bh.eq_1 @aa.eq_1))))))) ?_;(repeat(refine Pn.mk ?_;intro N hN))))
   exact cE (sd (tw @a5 (tw @a0 @a1))) (fun _=>by rw[e]at hd;exact hd)
  ·(try((repeat(revert hN;revert N;apply Pn.out));refine wk (tw @a5 (tw @a0 (tw @a1 (tw @hk (tw @ev (tw @hd (tw @bh.eq_1 @aa.eq_1))))))) ?_;(repeat(refine Pn.mk ?_;intro N hN))))
   exact bU (b:=(k:Int)) (.inl rfl) (sd @Nat.zero_add) (by rw[Lt,sQ eV (by rw[e]at hd;exact hd) fun j h hj=>lk j hj h])
 ·(try((repeat(revert hN;revert N;apply Pn.out));refine wk (tw @a5 (tw @a0 (tw @a1 (tw @hk @aa.eq_1)))) ?_;(repeat(refine Pn.mk ?_;intro N hN))))
  exact bU (b:=-1) (.inl rfl) (sd @Nat.zero_add) (by rw[Lt,wo fun j h=>lk j (by omega) h])
theorem L6 {s:au} {i:Nat} (h:i<s.aC.length):IY s (oz s i).aE=i↔∀j,j<i->(oz s j).aE≠(oz s i).aE:=by
 constructor
 ·intro he j hj hc
  have gq:j<s.aC.length:=by omega
  have:s.aC.findIdx (fun g:gI=>decide (g.aE=(oz s i).aE))<=j:=by
   rcases Nat.lt_or_ge j (s.aC.findIdx fun g:gI=>decide (g.aE=(oz s i).aE))with dJ|pg
   ·have:=List.not_of_lt_findIdx dJ
    rw[<-xJ gq]at this
    simp[hc]at this
   ·exact pg
  unfold IY jP at he
  split at he<;>omega
 ·intro hd
  exact sQ h (by rw[<-xJ h];simp) fun j gq hj=>by rw[<-xJ gq];simpa using hd j hj
theorem Nj {s:au} {i:Nat} (h:i<s.ae.length):Lt s (nN s i).aE=i↔∀j,j<i->(nN s j).aE≠(nN s i).aE:=by
 constructor
 ·intro he j hj hc
  have gq:j<s.ae.length:=by omega
  have:s.ae.findIdx (fun g:e8=>decide (g.aE=(nN s i).aE))<=j:=by
   rcases Nat.lt_or_ge j (s.ae.findIdx fun g:e8=>decide (g.aE=(nN s i).aE))with dJ|pg
   ·have:=List.not_of_lt_findIdx dJ
    rw[<-yI gq]at this
    simp[hc]at this
   ·exact pg
  unfold Lt jP at he
  split at he<;>omega
 ·intro hd
  exact sQ h (by rw[<-yI h];simp) fun j gq hj=>by rw[<-yI gq];simpa using hd j hj
theorem DZ (s:au) (hn:fe s) (hg:s.aC.length<=1048576) (ht:s.ae.length<=1048576):aq Tryz.prog 167 [.dd (aa s)] (.bool (mT s)):=by
 refine aq.body eE rfl fun hl n0=>?_
 clear hl
 have Pg:∀i,i<s.aC.length->(oz s i).aE.size<=9223372036854775807:=fun i hi=>hn.1 _ (by simp[oz,List.getD_eq_getElem?_getD,hi])
 have PE:∀i,i<s.ae.length->(nN s i).aE.size<=9223372036854775807:=fun i hi=>hn.2 _ (by simp[nN,List.getD_eq_getElem?_getD,hi])
 by_cases h1:(200:Int)<(s.aC.length:Int)
 ·(try((repeat(revert hN;revert N;apply Pn.out));refine wk (tw @aa.eq_1 @h1) ?_;(repeat(refine Pn.mk ?_;intro N hN))))
  exact aL (b:=false) (.inl rfl) (sd @Nat.zero_add) (fo fun h=>by have:=h.r7;omega)
 by_cases h2:(s.ae.length:Int)<1
 ·(try((repeat(revert hN;revert N;apply Pn.out));refine wk (tw @aa.eq_1 (tw @h1 @h2)) ?_;(repeat(refine Pn.mk ?_;intro N hN))))
  exact aL (b:=false) (.inl rfl) (sd @Nat.zero_add) (fo fun h=>by have:=h.some;omega)
 by_cases h3:(160:Int)<(s.ae.length:Int)
 ·(try((repeat(revert hN;revert N;apply Pn.out));refine wk (tw @aa.eq_1 (tw @h1 (tw @h2 @h3))) ?_;(repeat(refine Pn.mk ?_;intro N hN))))
  exact aL (b:=false) (.inl rfl) (sd @Nat.zero_add) (fo fun h=>by have:=h.uS;omega)
 (try((repeat(revert hN;revert N;apply Pn.out));refine wk (tw @aa.eq_1 (tw @h1 (tw @h2 @h3))) ?_;(repeat(refine Pn.mk ?_;intro N hN))))
 refine aM (fun n env st=>∃k:Nat,n=(s.aC.length)-k/\k<=(s.aC.length)/\env 3=.int .i64 (k:Int)/\(∀j:Nat,j<k->Bk s j)) (s.aC.length) ⟨0,by omega,by omega,sl @aa.eq_1,fun _ h=>absurd h (Nat.not_lt_zero _)⟩ ?_
 rintro n_a env_a st_a ⟨k,rfl,ale,a3,lk⟩ dq
 have a0:=dq 0 (by kernel_rfl)
 simp only[go_sem, ↓reduceIte,Nat.reduceEqDiff,Nat.reduceAdd,Nat.reduceSub,Nat.reduceLeDiff,reduceCtorEq,aa]at a0
 clear dq
 by_cases hk:(k:Int)<(s.aC.length:Int)
 ·have cE:∀{e:Env},(e 3=.int .i64 (IntKind.i64.wrap ((k:Int)+1)))->(Bk s k)->∃m0,m0<(s.aC.length)-k/\∃k:Nat,m0=(s.aC.length)-k/\k<=(s.aC.length)/\e 3=.int .i64 (k:Int)/\(∀j:Nat,j<k->Bk s j):=fun x1 x2=>⟨_,by omega,k+1,rfl,by omega,(by rw[x1,aB (by omega)]),(all_succ lk x2)⟩
  have eV:k<s.aC.length:=by omega
  have ev:=xK eV
  have pj:=Ee (oz s k).aE (Pg k eV)
  have I8:=iY (oz s k).ez 1 4
  have Bc:=Fo s (oz s k).aE
  have qc:=L6 eV
  have kN:(¬Bk s k)->¬gJ s:=fun h hp=>h (hp.Qv k eV)
  have hw:IntKind.i64.wrap ((k:Int)+1)=(k:Int)+1:=bz (by omega)
  generalize qM:oz s k=gl at *
  cases hb:jl gl.aE
  ·rw[hb]at pj
   (repeat(first|((repeat(revert hN;revert N;apply Pn.out));refine wk (tw @a3 (tw @a0 (tw @hk (tw @ev (tw @cw.eq_1 @aa.eq_1))))) ?_;(repeat(refine Pn.mk ?_;intro N hN)))|((try apply Or.inl);refine⟨_,aq.x (pj) (sd (tw @a3 (tw @a0 (tw @hk (tw @ev (tw @cw.eq_1 @aa.eq_1)))))),?_⟩;refine hN _ _ ?_;clear hN N)))
   exact aL (b:=false) (.inl rfl) (sd @Nat.zero_add) (fo (kN fun h=>by rw[Bk,qM,hb]at h;cases h.1))
  rw[hb]at pj
  cases dL:gn gl.ez 1 4
  ·rw[dL]at I8
   (repeat(first|((repeat(revert hN;revert N;apply Pn.out));refine wk (tw @a3 (tw @a0 (tw @hk (tw @ev (tw @cw.eq_1 @aa.eq_1))))) ?_;(repeat(refine Pn.mk ?_;intro N hN)))|((try apply Or.inl);refine⟨_,aq.x (pj) (sd (tw @a3 (tw @a0 (tw @hk (tw @ev (tw @cw.eq_1 @aa.eq_1)))))),?_⟩;refine hN _ _ ?_;clear hN N)|((try apply Or.inl);refine⟨_,aq.x (I8) (sd (tw @a3 (tw @a0 (tw @hk (tw @ev (tw @cw.eq_1 @aa.eq_1)))))),?_⟩;refine hN _ _ ?_;clear hN N)))
   exact aL (b:=false) (.inl rfl) (sd @Nat.zero_add) (fo (kN fun h=>by rw[Bk,qM,dL]at h;cases h.2.1))
  rw[dL]at I8
  rw[aa]at Bc
  by_cases hq:IY s gl.aE=(k:Int)
  ·have hd:decide (IY s gl.aE+1=(k:Int)+1)=true:=decide_eq_true (by omega)
   have oM:decide (IY s gl.aE=(k:Int))=true:=decide_eq_true hq
   (repeat(first|((repeat(revert hN;revert N;apply Pn.out));refine wk (tw @a3 (tw @a0 (tw @hk (tw @ev (tw @hw (tw @hd (tw @oM (tw @cw.eq_1 @aa.eq_1)))))))) ?_;(repeat(refine Pn.mk ?_;intro N hN)))|((try apply Or.inl);refine⟨_,aq.x (pj) (sd (tw @a3 (tw @a0 (tw @hk (tw @ev (tw @hw (tw @hd (tw @oM (tw @cw.eq_1 @aa.eq_1))))))))),?_⟩;refine hN _ _ ?_;clear hN N)|((try apply Or.inl);refine⟨_,aq.x (I8) (sd (tw @a3 (tw @a0 (tw @hk (tw @ev (tw @hw (tw @hd (tw @oM (tw @cw.eq_1 @aa.eq_1))))))))),?_⟩;refine hN _ _ ?_;clear hN N)|((try apply Or.inl);refine⟨_,aq.x (Bc) (sd (tw @a3 (tw @a0 (tw @hk (tw @ev (tw @hw (tw @hd (tw @oM (tw @cw.eq_1 @aa.eq_1))))))))),?_⟩;refine hN _ _ ?_;clear hN N)))
   exact cE (sd (tw @a3 (tw @a0 @hw))) (⟨by rw[qM];exact hb,by rw[qM];exact dL,fun j hj=>by rw[qM];exact qc.1 hq j hj⟩)
  ·have hd:decide (IY s gl.aE+1=(k:Int)+1)=false:=decide_eq_false (by omega)
   have oM:decide (IY s gl.aE=(k:Int))=false:=decide_eq_false hq
   (repeat(first|((repeat(revert hN;revert N;apply Pn.out));refine wk (tw @a3 (tw @a0 (tw @hk (tw @ev (tw @hw (tw @hd (tw @oM (tw @cw.eq_1 @aa.eq_1)))))))) ?_;(repeat(refine Pn.mk ?_;intro N hN)))|((try apply Or.inl);refine⟨_,aq.x (pj) (sd (tw @a3 (tw @a0 (tw @hk (tw @ev (tw @hw (tw @hd (tw @oM (tw @cw.eq_1 @aa.eq_1))))))))),?_⟩;refine hN _ _ ?_;clear hN N)|((try apply Or.inl);refine⟨_,aq.x (I8) (sd (tw @a3 (tw @a0 (tw @hk (tw @ev (tw @hw (tw @hd (tw @oM (tw @cw.eq_1 @aa.eq_1))))))))),?_⟩;refine hN _ _ ?_;clear hN N)|((try apply Or.inl);refine⟨_,aq.x (Bc) (sd (tw @a3 (tw @a0 (tw @hk (tw @ev (tw @hw (tw @hd (tw @oM (tw @cw.eq_1 @aa.eq_1))))))))),?_⟩;refine hN _ _ ?_;clear hN N)))
   exact aL (b:=false) (.inl rfl) (sd @Nat.zero_add) (fo (kN fun h=>by
    rw[Bk,qM]at h
    exact hq (qc.2 h.2.2)))
 ·have jy:k=s.aC.length:=by omega
  (try((repeat(revert hN;revert N;apply Pn.out));refine wk (tw @a3 (tw @a0 (tw @hk @aa.eq_1))) ?_;(repeat(refine Pn.mk ?_;intro N hN))))
  refine aM (fun n env st=>∃j:Nat,n=(s.ae.length)-j/\j<=(s.ae.length)/\env 5=.int .i64 (j:Int)/\(∀i:Nat,i<j->zd s i)) (s.ae.length) ⟨0,by omega,by omega,sl (tw @a3 (tw @a0 @aa.eq_1)),fun _ h=>absurd h (Nat.not_lt_zero _)⟩ ?_
  rintro n_b env_b st_b ⟨j,rfl,ble,b5,bA0⟩ eP
  have b0:=eP 0 (by kernel_rfl)
  simp only[go_sem, ↓reduceIte,Nat.reduceEqDiff,Nat.reduceAdd,Nat.reduceSub,Nat.reduceLeDiff,reduceCtorEq,a3,a0,aa]at b0
  clear eP
  by_cases hj:(j:Int)<(s.ae.length:Int)
  ·have eY:∀{e:Env},(e 5=.int .i64 (IntKind.i64.wrap ((j:Int)+1)))->(zd s j)->∃m0,m0<(s.ae.length)-j/\∃j:Nat,m0=(s.ae.length)-j/\j<=(s.ae.length)/\e 5=.int .i64 (j:Int)/\(∀i:Nat,i<j->zd s i):=fun x1 x2=>⟨_,by omega,j+1,rfl,by omega,(by rw[x1,aB (by omega)]),(all_succ bA0 x2)⟩
   have ll:j<s.ae.length:=by omega
   have nC:=yJ ll
   have pj:=Ee (nN s j).aE (PE j ll)
   have Bc:=Fp s (nN s j).aE
   have qc:=Nj ll
   have kN:(¬zd s j)->¬gJ s:=fun h hp=>h (hp.tok j ll)
   generalize htd:nN s j=tl at *
   cases hb:jl tl.aE
   ·rw[hb]at pj
    (repeat(first|((repeat(revert hN;revert N;apply Pn.out));refine wk (tw @b5 (tw @b0 (tw @hj (tw @nC (tw @bh.eq_1 @aa.eq_1))))) ?_;(repeat(refine Pn.mk ?_;intro N hN)))|((try apply Or.inl);refine⟨_,aq.x (pj) (sd (tw @b5 (tw @b0 (tw @hj (tw @nC (tw @bh.eq_1 @aa.eq_1)))))),?_⟩;refine hN _ _ ?_;clear hN N)))
    exact aL (b:=false) (.inl rfl) (sd @Nat.zero_add) (fo (kN fun h=>by rw[zd,htd,hb]at h;cases h.1))
   rw[hb]at pj
   by_cases h4:(tl.bY.length:Int)=4
   ·have xN:decide ((tl.bY.length:Int)=4)=true:=decide_eq_true h4
    rw[aa]at Bc
    by_cases hq:Lt s tl.aE=(j:Int)
    ·have hd:decide (Lt s tl.aE=(j:Int))=true:=decide_eq_true hq
     (repeat(first|((repeat(revert hN;revert N;apply Pn.out));refine wk (tw @b5 (tw @b0 (tw @hj (tw @nC (tw @xN (tw @hd (tw @bh.eq_1 @aa.eq_1))))))) ?_;(repeat(refine Pn.mk ?_;intro N hN)))|((try apply Or.inl);refine⟨_,aq.x (pj) (sd (tw @b5 (tw @b0 (tw @hj (tw @nC (tw @xN (tw @hd (tw @bh.eq_1 @aa.eq_1)))))))),?_⟩;refine hN _ _ ?_;clear hN N)|((try apply Or.inl);refine⟨_,aq.x (Bc) (sd (tw @b5 (tw @b0 (tw @hj (tw @nC (tw @xN (tw @hd (tw @bh.eq_1 @aa.eq_1)))))))),?_⟩;refine hN _ _ ?_;clear hN N)))
     refine aM (fun n env st=>∃i:Nat,n=(4)-i/\i<=(4)/\env 7=.int .i64 (i:Int)/\st.get ⟨167012007,st_b.next+1⟩=some ⟨true,2,[bh tl]⟩/\(∀x:Nat,x<i->gn (tl.bY.getD x 0) 0 s.aC.length=true)) (4) ⟨0,by omega,by omega,sl (tw @b5 (tw @b0 (tw @bh.eq_1 @aa.eq_1))),sl (tw @b5 (tw @b0 (tw @bh.eq_1 @aa.eq_1))),fun _ h=>absurd h (Nat.not_lt_zero _)⟩ ?_
     rintro n_c env_c st_c ⟨i,rfl,cle,c7,cg0,cA0⟩ il
     have c0:=il 0 (by kernel_rfl);have c5:=il 5 (by kernel_rfl);have c6:=il 6 (by kernel_rfl)
     simp only[go_sem, ↓reduceIte,Nat.reduceEqDiff,Nat.reduceAdd,Nat.reduceSub,Nat.reduceLeDiff,reduceCtorEq,b5,b0,bh,aa]at c0 c5 c6
     clear il
     by_cases hi:(i:Int)<4
     ·have fY:∀{e:Env} {gg:Rows},(e 7=.int .i64 (IntKind.i64.wrap ((i:Int)+1)))->(gg ⟨167012007,st_b.next+1⟩=some ⟨true,2,[bh tl]⟩)->(gn (tl.bY.getD i 0) 0 s.aC.length=true)->∃m0,m0<(4)-i/\∃i:Nat,m0=(4)-i/\i<=(4)/\e 7=.int .i64 (i:Int)/\gg ⟨167012007,st_b.next+1⟩=some ⟨true,2,[bh tl]⟩/\(∀x:Nat,x<i->gn (tl.bY.getD x 0) 0 s.aC.length=true):=fun x1 x2 x3=>⟨_,by omega,i+1,rfl,by omega,(by rw[x1,aB (by omega)]),x2,(all_succ cA0 x3)⟩
      have e9:i<tl.bY.length:=by omega
      have j3:(tl.bY.map aA)[i]? =some (aA (tl.bY.getD i 0)):=getD_map aA e9
      have oD:tl.bY.getD i 0∈tl.bY:=by rw[List.getD_eq_getElem?_getD,List.getElem?_eq_getElem e9];exact List.getElem_mem e9
      have Hu:=iY (tl.bY.getD i 0) 0 s.aC.length
      generalize Mq:tl.bY.getD i 0=gv at *
      cases hv:gn gv 0 s.aC.length
      ·rw[hv]at Hu
       (repeat(first|((repeat(revert hN;revert N;apply Pn.out));refine wk (tw @c7 (tw @cg0 (tw @c0 (tw @c5 (tw @c6 (tw @hi (tw @j3 (tw @aA.eq_1 (tw @bh.eq_1 @aa.eq_1))))))))) ?_;(repeat(refine Pn.mk ?_;intro N hN)))|((try apply Or.inl);refine⟨_,aq.x (Hu) (sd (tw @c7 (tw @cg0 (tw @c0 (tw @c5 (tw @c6 (tw @hi (tw @j3 (tw @aA.eq_1 (tw @bh.eq_1 @aa.eq_1)))))))))),?_⟩;refine hN _ _ ?_;clear hN N)))
       exact aL (b:=false) (.inl rfl) (sd @Nat.zero_add) (fo (kN fun h=>by
        rw[zd,htd]at h
        have:=h.2.2.2 gv oD
        rw[hv]at this;cases this))
      ·rw[hv]at Hu
       (repeat(first|((repeat(revert hN;revert N;apply Pn.out));refine wk (tw @c7 (tw @cg0 (tw @c0 (tw @c5 (tw @c6 (tw @hi (tw @j3 (tw @aA.eq_1 (tw @bh.eq_1 @aa.eq_1))))))))) ?_;(repeat(refine Pn.mk ?_;intro N hN)))|((try apply Or.inl);refine⟨_,aq.x (Hu) (sd (tw @c7 (tw @cg0 (tw @c0 (tw @c5 (tw @c6 (tw @hi (tw @j3 (tw @aA.eq_1 (tw @bh.eq_1 @aa.eq_1)))))))))),?_⟩;refine hN _ _ ?_;clear hN N)))
       refine fY ?_ ?_ (hv)
       all_goals simp only[go_sem, ↓reduceIte,Nat.reduceEqDiff,Nat.reduceAdd,Nat.reduceSub,Nat.reduceLeDiff,reduceCtorEq,c7,cg0,c0,c5,c6]
     ·have hi4:i=4:=by omega
      (try((repeat(revert hN;revert N;apply Pn.out));refine wk (tw @c7 (tw @cg0 (tw @c0 (tw @c5 (tw @c6 (tw @hi (tw @bh.eq_1 @aa.eq_1))))))) ?_;(repeat(refine Pn.mk ?_;intro N hN))))
      exact eY (sd (tw @b5 (tw @b0 (tw @c7 (tw @cg0 (tw @c0 (tw @c5 @c6))))))) (⟨by rw[htd];exact hb,by rw[htd];omega,fun x hx=>(by rw[htd];exact qc.1 hq x hx),fun g hg=>by
       rw[htd]at hg
       obtain⟨x,hx,rfl⟩:=List.getElem_of_mem hg
       have:=cA0 x (by omega)
       rwa [List.getD_eq_getElem?_getD,List.getElem?_eq_getElem hx]at this⟩)
    ·have hd:decide (Lt s tl.aE=(j:Int))=false:=decide_eq_false hq
     (repeat(first|((repeat(revert hN;revert N;apply Pn.out));refine wk (tw @b5 (tw @b0 (tw @hj (tw @nC (tw @xN (tw @hd (tw @bh.eq_1 @aa.eq_1))))))) ?_;(repeat(refine Pn.mk ?_;intro N hN)))|((try apply Or.inl);refine⟨_,aq.x (pj) (sd (tw @b5 (tw @b0 (tw @hj (tw @nC (tw @xN (tw @hd (tw @bh.eq_1 @aa.eq_1)))))))),?_⟩;refine hN _ _ ?_;clear hN N)|((try apply Or.inl);refine⟨_,aq.x (Bc) (sd (tw @b5 (tw @b0 (tw @hj (tw @nC (tw @xN (tw @hd (tw @bh.eq_1 @aa.eq_1)))))))),?_⟩;refine hN _ _ ?_;clear hN N)))
     exact aL (b:=false) (.inl rfl) (sd @Nat.zero_add) (fo (kN fun h=>by
      rw[zd,htd]at h
      exact hq (qc.2 h.2.2.1)))
   ·have xN:decide ((tl.bY.length:Int)=4)=false:=decide_eq_false h4
    (repeat(first|((repeat(revert hN;revert N;apply Pn.out));refine wk (tw @b5 (tw @b0 (tw @hj (tw @nC (tw @xN (tw @bh.eq_1 @aa.eq_1)))))) ?_;(repeat(refine Pn.mk ?_;intro N hN)))|((try apply Or.inl);refine⟨_,aq.x (pj) (sd (tw @b5 (tw @b0 (tw @hj (tw @nC (tw @xN (tw @bh.eq_1 @aa.eq_1))))))),?_⟩;refine hN _ _ ?_;clear hN N)))
    exact aL (b:=false) (.inl rfl) (sd @Nat.zero_add) (fo (kN fun h=>by rw[zd,htd]at h;have:=h.2.1;omega))
  ·(try((repeat(revert hN;revert N;apply Pn.out));refine wk (tw @b5 (tw @b0 (tw @hj @aa.eq_1))) ?_;(repeat(refine Pn.mk ?_;intro N hN))))
   exact aL (b:=true) (.inl rfl) (sd @Nat.zero_add) (AK ⟨by omega,by omega,by omega,fun i hi=>lk i (by omega),fun i hi=>bA0 i (by omega)⟩)
end Go.Proofs.YtgoljkjaameagaaGreat.V

namespace Go.Proofs.YtgoljkjaameagaaGreat.V
def j5 (a b:ah):Bool:=decide (a.eB<b.eB)||(decide (a.eB=b.eB)&&decide (a.eI<b.eI))
theorem s6 {a b:ah}:j5 a b=true↔a.eB<b.eB∨(a.eB=b.eB/\a.eI<b.eI):=by simp[j5]
theorem nX {a b:ah}:j5 a b=false↔¬(a.eB<b.eB∨(a.eB=b.eB/\a.eI<b.eI)):=by rw[<-s6,Bool.not_eq_true]
theorem uv {a b:ah} (h1:a.eI=b.eI) (h2:a.eB=b.eB):a=b:=by cases a;cases b;simp_all
theorem gV {a b c:ah} (h:j5 a b=true) (k:j5 b c=true):j5 a c=true:=by rw[s6]at *;omega
theorem lX {a:ah}:j5 a a=false:=by rw[nX];omega
theorem HR {a b:ah} (h:j5 a b=true):j5 b a=false:=by rw[s6]at h;rw[nX];omega
theorem ye {a b:ah} (h:j5 a b=false) (gM:a≠b):j5 b a=true:=by
 rw[nX]at h;rw[s6]
 by_cases hy:a.eB=b.eB
 ·by_cases hx:a.eI=b.eI
  ·exact absurd (uv hx hy) gM
  ·omega
 ·omega
def pY (a b:Int):Int:=if a<b then -1 else if b<a then 1 else 0
def Km (a b:Int):Int:=if a=0 then b else a
def oy (a b:ah):Int:=Km (pY a.eB b.eB) (pY a.eI b.eI)
theorem lU (a b:ah):decide (oy a b<0)=j5 a b:=by
 unfold oy Km pY j5
 by_cases h1:a.eB<b.eB
 ·simp[h1]
 ·by_cases h2:b.eB<a.eB
  ·have:¬a.eB=b.eB:=by omega
   simp[h1,h2,this]
  ·have:a.eB=b.eB:=by omega
   by_cases h3:a.eI<b.eI
   ·simp[h1,h2,this,h3]
   ·by_cases h4:b.eI<a.eI<;>simp[h1,h2,this,h3,h4]
theorem EF (a b:ah):(oy a b=0)↔a=b:=by
 cases a;cases b
 unfold oy Km pY
 simp only[ah.mk.injEq]
 split<;>(try split)<;>(try split)<;>(try split)<;>omega
def HW:ad:=⟨⟨0,0⟩,0⟩
def aO (l:List ad) (i:Nat):ad:=l.getD i HW
theorem gy {l:List ad} {i:Nat} (h:i<l.length):aO l i=l[i]:=by simp[aO,List.getD_eq_getElem?_getD,h]
theorem gP {l:List ad} {i:Nat} (h:i<l.length):aO l i∈l:=by rw[gy h];exact List.getElem_mem h
def qS (l:List ad):Prop:=∀i j:Nat,i<j->j<l.length->j5 (aO l i).bH (aO l j).bH=true
def pr (l:List ad) (p:ah):Nat:=l.findIdx fun c=>decide (c.bH=p)
def eC (l:List ad) (p:ah):Int:=if pr l p<l.length then(pr l p:Int)else -1
def qk (l:List ad) (p:ah):Nat:=l.findIdx fun c=> !j5 c.bH p
theorem ya {l:List ad} {p:ah} {i:Nat} (hi:i<=l.length) (h1:∀x,x<i->j5 (aO l x).bH p=true) (h2:i<l.length->j5 (aO l i).bH p=false):qk l p=i:=by
 unfold qk
 by_cases h:i<l.length
 ·rw[List.findIdx_eq h]
  refine⟨by have:=h2 h;rw[gy h]at this;simp[this],fun j hj=>?_⟩
  have:=h1 j hj
  rw[gy (by omega)]at this
  simp[this]
 ·have:i=l.length:=by omega
  subst this
  refine List.findIdx_eq_length_of_false fun x hx=>?_
  obtain⟨j,hj,rfl⟩:=List.getElem_of_mem hx
  have:=h1 j hj
  rw[gy hj]at this
  simp[this]
theorem D7 {l:List ad} {p:ah} (hR:qS l):eC l p=if qk l p<l.length/\(aO l (qk l p)).bH=p then(qk l p:Int)else -1:=by
 by_cases h:∃i,i<l.length/\(aO l i).bH=p
 ·obtain⟨i,hi,hp⟩:=h
  have h1:qk l p=i:=ya (by omega) (fun x hx=>by rw[<-hp];exact hR x i hx hi) fun _=>by rw[hp];exact lX
  have h2:pr l p=i:=by
   rw[pr,List.findIdx_eq hi]
   refine⟨by rw[gy hi]at hp;simpa using hp,fun j hj=>?_⟩
   have:=hR j i hj hi
   rw[hp,gy (by omega)]at this
   simp only[decide_eq_false_iff_not]
   intro hc
   rw[hc,lX]at this
   cases this
  rw[eC,h1,h2,if_pos hi,if_pos ⟨hi,hp⟩]
 ·have h2:¬pr l p<l.length:=by
   rw[pr,List.findIdx_lt_length]
   rintro⟨c,hc,he⟩
   obtain⟨j,hj,rfl⟩:=List.getElem_of_mem hc
   exact h ⟨j,hj,by rw[gy hj];simpa using he⟩
  rw[eC,if_neg h2,if_neg]
  rintro⟨h3,h4⟩
  exact h ⟨_,h3,h4⟩
theorem j4 {l:List ad} {p:ah} (h:0<=eC l p):(eC l p).toNat<l.length/\(aO l (eC l p).toNat).bH=p:=by
 unfold eC at h ⊢
 split at h
 ·rename_i hc
  rw[if_pos hc]
  refine⟨by omega,?_⟩
  have:=of_decide_eq_true (List.findIdx_getElem (p:=fun c:ad=>decide (c.bH=p)) (xs:=l) (w:=hc))
  rw[Int.toNat_natCast,gy hc]
  exact this
 ·omega
def gz (l:List ad) (p:ah):Int:=if 0<=eC l p then(aO l (eC l p).toNat).bq else -1
end Go.Proofs.YtgoljkjaameagaaGreat.V

namespace Go.Proofs.YtgoljkjaameagaaGreat.V
open Go.RowKit
attribute [local irreducible] ej wpOps fQ Call
attribute [local go_sem] aH fq eD fH fG cV upd bZ K.av cC AV.cells AV.cell rowOf rowsOf part ld rowAt bK bR du dQ gE bB cR eb fF eL dh dV cP cN dD dE bF aT cG bE cI cH dS dW dU cF bJ cQ dR bD aJ cK cm gD bd cz bG aP dn aX dv AV.undef bj bx dG dO dz dF cu ea ei ck dY dX cJ cL List.getD_cons_zero List.getD_cons_succ List.getD_nil List.all_cons List.all_nil Bool.and_true Bool.true_and Bool.and_self Bool.not_true Bool.not_false Option.map_some Option.map_none Option.bind_some Option.bind_none List.length_cons List.length_nil List.take_succ_cons List.take_zero List.take_nil List.drop_succ_cons List.drop_zero List.drop_nil List.head?_cons List.map_cons List.map_nil List.getElem?_cons_zero List.getElem?_cons_succ List.cons_append List.nil_append List.append_nil List.length_map List.set_cons_zero List.set_cons_succ Nat.reduceMul eq_self Int.toNat_natCast Int.natCast_nonneg and_self true_and and_true decide_true decide_false Bool.false_eq_true Nat.zero_add Nat.add_zero List.contains_cons List.contains_nil Bool.or_false Bool.false_or beq_self_eq_true Nat.reduceBEq ne_eq not_true_eq_false not_false_eq_true Id.mk.injEq false_and and_false Nat.reduceLT Int.reduceLE Int.reduceLT Int.reduceToNat Int.reduceNeg Int.reduceAdd Nat.le_refl List.length_append beq_true beq_false Bool.not_eq_eq_eq_not or_false false_or eo aj ar aK aV bp bW aQ aZ aN aU cD bI
theorem mZ (a b:ah):aq Tryz.prog 175 [.agg (ab a),.agg (ab b)] (.bool (j5 a b)):=by
 refine aq.body eE rfl fun hl n0=>?_
 clear hl
 by_cases h0:a.eB<b.eB
 ·(try((repeat(revert hN;revert N;apply Pn.out));refine wk (tw @ab.eq_1 @h0) ?_;(repeat(refine Pn.mk ?_;intro N hN))))
  exact aL (b:=true) (.inl rfl) (sd @Nat.zero_add) (by simp[j5,h0])
 ·by_cases h1:a.eB=b.eB
  ·have h2:¬b.eB<b.eB:=by omega
   (try((repeat(revert hN;revert N;apply Pn.out));refine wk (tw @ab.eq_1 (tw @h1 @h2)) ?_;(repeat(refine Pn.mk ?_;intro N hN))))
   exact aL (b:=decide (a.eI<b.eI)) (.inl rfl) (sd @Nat.zero_add) (by simp[j5,h1])
  ·(try((repeat(revert hN;revert N;apply Pn.out));refine wk (tw @ab.eq_1 (tw @h0 @h1)) ?_;(repeat(refine Pn.mk ?_;intro N hN))))
   exact aL (b:=false) (.inl rfl) (sd @Nat.zero_add) (by simp[j5,h0,h1])
theorem fj {l:List ad} {i:Nat} (h:i<l.length):(l.map ai)[i]? =some (ai (aO l i)):=getD_map ai h
def Es (l:List ad) (i:Nat):Prop:=yp (aO l i).bH=true/\gn (aO l i).bq 0 159=true/\(0<i->j5 (aO l (i-1)).bH (aO l i).bH=true)
structure jU (l:List ad):Prop where
 A6:l.length<=500
 ok:∀i,i<l.length->Es l i
noncomputable def nv (l:List ad):Bool:=@decide (jU l) (Classical.propDecidable _)
theorem EV {l:List ad}:nv l=true↔jU l:=by simp[nv]
theorem jG {l:List ad} (h:¬jU l):false=nv l:=by simp[nv,h]
theorem wu {l:List ad} (h:jU l):true=nv l:=by simp[nv,h]
theorem jU.Oi {l:List ad} (h:jU l):qS l:=by
 intro i j Cg hj
 induction j with
 |zero=>omega
 |succ j ih=>
  have h1:=(h.ok (j+1) hj).2.2 (by omega)
  rw[Nat.add_sub_cancel]at h1
  by_cases he:i=j
  ·subst he;exact h1
  ·exact gV (ih (by omega) (by omega)) h1
theorem jU.pt {l:List ad} (h:jU l) {i:Nat} (hi:i<l.length):yp (aO l i).bH=true:=(h.ok i hi).1
theorem rH {p:ah} (h:yp p=true):iB p.eI/\iB p.eB:=by
 unfold yp at h
 simp only[Bool.and_eq_true]at h
 have:=dM h.1;have:=dM h.2
 unfold iB;omega
theorem Fq (l:List ad):aq Tryz.prog 219 [.dd [.sl (l.map ai)]] (.bool (nv l)):=by
 refine aq.body eE rfl fun hl n0=>?_
 clear hl
 by_cases h1:(500:Int)<(l.length:Int)
 ·(try((repeat(revert hN;revert N;apply Pn.out));refine wk @h1 ?_;(repeat(refine Pn.mk ?_;intro N hN))))
  exact aL (b:=false) (.inl rfl) (sd @Nat.zero_add) (jG fun h=>by have:=h.A6;omega)
 (try((repeat(revert hN;revert N;apply Pn.out));refine wk @h1 ?_;(repeat(refine Pn.mk ?_;intro N hN))))
 refine aM (fun n env st=>∃k:Nat,n=(l.length)-k/\k<=(l.length)/\env 3=.int .i64 (k:Int)/\(∀j:Nat,j<k->Es l j)) (l.length) ⟨0,by omega,by omega,sl @Nat.zero_add,fun _ h=>absurd h (Nat.not_lt_zero _)⟩ ?_
 rintro n_a env_a st_a ⟨k,rfl,ale,a3,lk⟩ dq
 have a0:=dq 0 (by kernel_rfl)
 simp only[go_sem, ↓reduceIte,Nat.reduceEqDiff,Nat.reduceAdd,Nat.reduceSub,Nat.reduceLeDiff,reduceCtorEq]at a0
 clear dq
 by_cases hk:(k:Int)<(l.length:Int)
 ·have cE:∀{e:Env},(e 3=.int .i64 (IntKind.i64.wrap ((k:Int)+1)))->(Es l k)->∃m0,m0<(l.length)-k/\∃k:Nat,m0=(l.length)-k/\k<=(l.length)/\e 3=.int .i64 (k:Int)/\(∀j:Nat,j<k->Es l j):=fun x1 x2=>⟨_,by omega,k+1,rfl,by omega,(by rw[x1,aB (by omega)]),(all_succ lk x2)⟩
  have eV:k<l.length:=by omega
  have ev:=fj eV
  have kN:(¬Es l k)->¬jU l:=fun h hp=>h (hp.ok k eV)
  have hp:=ua (aO l k).bH
  have ht:=iY (aO l k).bq 0 159
  cases b1:yp (aO l k).bH
  ·rw[b1]at hp
   (repeat(first|((repeat(revert hN;revert N;apply Pn.out));refine wk (tw @a3 (tw @a0 (tw @hk (tw @ev (tw @ai.eq_1 @ab.eq_1))))) ?_;(repeat(refine Pn.mk ?_;intro N hN)))|((try apply Or.inl);refine⟨_,aq.x (hp) (sd (tw @a3 (tw @a0 (tw @hk (tw @ev (tw @ai.eq_1 @ab.eq_1)))))),?_⟩;refine hN _ _ ?_;clear hN N)))
   exact aL (b:=false) (.inl rfl) (sd @Nat.zero_add) (jG (kN fun h=>by rw[Es,b1]at h;cases h.1))
  rw[b1]at hp
  cases b2:gn (aO l k).bq 0 159
  ·rw[b2]at ht
   (repeat(first|((repeat(revert hN;revert N;apply Pn.out));refine wk (tw @a3 (tw @a0 (tw @hk (tw @ev (tw @ai.eq_1 @ab.eq_1))))) ?_;(repeat(refine Pn.mk ?_;intro N hN)))|((try apply Or.inl);refine⟨_,aq.x (hp) (sd (tw @a3 (tw @a0 (tw @hk (tw @ev (tw @ai.eq_1 @ab.eq_1)))))),?_⟩;refine hN _ _ ?_;clear hN N)|((try apply Or.inl);refine⟨_,aq.x (ht) (sd (tw @a3 (tw @a0 (tw @hk (tw @ev (tw @ai.eq_1 @ab.eq_1)))))),?_⟩;refine hN _ _ ?_;clear hN N)))
   exact aL (b:=false) (.inl rfl) (sd @Nat.zero_add) (jG (kN fun h=>by rw[Es,b2]at h;cases h.2.1))
  rw[b2]at ht
  by_cases h0:(0:Int)<(k:Int)
  ·have qO:=fj (l:=l) (i:=k-1) (by omega)
   have hw:IntKind.i64.wrap ((k:Int)-1)=((k-1:Nat):Int):=by rw[bz (by have:=eV;omega)];omega
   have hq:=mZ (aO l (k-1)).bH (aO l k).bH
   cases b3:j5 (aO l (k-1)).bH (aO l k).bH
   ·rw[b3]at hq
    (repeat(first|((repeat(revert hN;revert N;apply Pn.out));refine wk (tw @a3 (tw @a0 (tw @hk (tw @ev (tw @qO (tw @h0 (tw @hw (tw @ai.eq_1 @ab.eq_1)))))))) ?_;(repeat(refine Pn.mk ?_;intro N hN)))|((try apply Or.inl);refine⟨_,aq.x (hp) (sd (tw @a3 (tw @a0 (tw @hk (tw @ev (tw @qO (tw @h0 (tw @hw (tw @ai.eq_1 @ab.eq_1))))))))),?_⟩;refine hN _ _ ?_;clear hN N)|((try apply Or.inl);refine⟨_,aq.x (ht) (sd (tw @a3 (tw @a0 (tw @hk (tw @ev (tw @qO (tw @h0 (tw @hw (tw @ai.eq_1 @ab.eq_1))))))))),?_⟩;refine hN _ _ ?_;clear hN N)|((try apply Or.inl);refine⟨_,aq.x (hq) (sd (tw @a3 (tw @a0 (tw @hk (tw @ev (tw @qO (tw @h0 (tw @hw (tw @ai.eq_1 @ab.eq_1))))))))),?_⟩;refine hN _ _ ?_;clear hN N)))
    exact aL (b:=false) (.inl rfl) (sd @Nat.zero_add) (jG (kN fun h=>by have:=h.2.2 (by omega);rw[b3]at this;cases this))
   ·rw[b3]at hq
    (repeat(first|((repeat(revert hN;revert N;apply Pn.out));refine wk (tw @a3 (tw @a0 (tw @hk (tw @ev (tw @qO (tw @h0 (tw @hw (tw @ai.eq_1 @ab.eq_1)))))))) ?_;(repeat(refine Pn.mk ?_;intro N hN)))|((try apply Or.inl);refine⟨_,aq.x (hp) (sd (tw @a3 (tw @a0 (tw @hk (tw @ev (tw @qO (tw @h0 (tw @hw (tw @ai.eq_1 @ab.eq_1))))))))),?_⟩;refine hN _ _ ?_;clear hN N)|((try apply Or.inl);refine⟨_,aq.x (ht) (sd (tw @a3 (tw @a0 (tw @hk (tw @ev (tw @qO (tw @h0 (tw @hw (tw @ai.eq_1 @ab.eq_1))))))))),?_⟩;refine hN _ _ ?_;clear hN N)|((try apply Or.inl);refine⟨_,aq.x (hq) (sd (tw @a3 (tw @a0 (tw @hk (tw @ev (tw @qO (tw @h0 (tw @hw (tw @ai.eq_1 @ab.eq_1))))))))),?_⟩;refine hN _ _ ?_;clear hN N)))
    exact cE (sd (tw @a3 @a0)) (⟨b1,b2,fun _=>b3⟩)
  ·have u7:k=0:=by omega
   (repeat(first|((repeat(revert hN;revert N;apply Pn.out));refine wk (tw @a3 (tw @a0 (tw @hk (tw @ev (tw @h0 (tw @ai.eq_1 @ab.eq_1)))))) ?_;(repeat(refine Pn.mk ?_;intro N hN)))|((try apply Or.inl);refine⟨_,aq.x (hp) (sd (tw @a3 (tw @a0 (tw @hk (tw @ev (tw @h0 (tw @ai.eq_1 @ab.eq_1))))))),?_⟩;refine hN _ _ ?_;clear hN N)|((try apply Or.inl);refine⟨_,aq.x (ht) (sd (tw @a3 (tw @a0 (tw @hk (tw @ev (tw @h0 (tw @ai.eq_1 @ab.eq_1))))))),?_⟩;refine hN _ _ ?_;clear hN N)))
   exact cE (sd (tw @a3 @a0)) (⟨b1,b2,fun h=>by omega⟩)
 ·(try((repeat(revert hN;revert N;apply Pn.out));refine wk (tw @a3 (tw @a0 @hk)) ?_;(repeat(refine Pn.mk ?_;intro N hN))))
  exact aL (b:=true) (.inl rfl) (sd @Nat.zero_add) (wu ⟨by omega,fun i hi=>lk i (by omega)⟩)
theorem wj (a b:Int):aq Tryz.prog 210 [.int .i64 a,.int .i64 b] (.int .i64 (pY a b)):=by
 have nan:∀x:Int,aq Tryz.prog 273 [.int .i64 x] (.bool false):=fun x=>by
  refine aq.body eE rfl fun hl n0=>?_
  clear hl
  have e:decide (x=x)=true:=decide_eq_true rfl
  (try((repeat(revert hN;revert N;apply Pn.out));refine wk @e ?_;(repeat(refine Pn.mk ?_;intro N hN))))
  exact aL (b:=false) (.inl rfl) (sd @Nat.zero_add) rfl
 refine aq.body eE rfl fun hl n0=>?_
 clear hl
 have ha:=nan a
 have hb:=nan b
 by_cases h1:a<b
 ·(repeat(first|((repeat(revert hN;revert N;apply Pn.out));refine wk @h1 ?_;(repeat(refine Pn.mk ?_;intro N hN)))|((try apply Or.inl);refine⟨_,aq.x (ha) (sd @h1),?_⟩;refine hN _ _ ?_;clear hN N)|((try apply Or.inl);refine⟨_,aq.x (hb) (sd @h1),?_⟩;refine hN _ _ ?_;clear hN N)))
  exact bU (b:=-1) (.inl rfl) (sd @Nat.zero_add) (by rw[pY,if_pos h1])
 by_cases h2:b<a
 ·(repeat(first|((repeat(revert hN;revert N;apply Pn.out));refine wk (tw @h1 @h2) ?_;(repeat(refine Pn.mk ?_;intro N hN)))|((try apply Or.inl);refine⟨_,aq.x (ha) (sd (tw @h1 @h2)),?_⟩;refine hN _ _ ?_;clear hN N)|((try apply Or.inl);refine⟨_,aq.x (hb) (sd (tw @h1 @h2)),?_⟩;refine hN _ _ ?_;clear hN N)))
  exact bU (b:=1) (.inl rfl) (sd @Nat.zero_add) (by rw[pY,if_neg h1,if_pos h2])
 ·(repeat(first|((repeat(revert hN;revert N;apply Pn.out));refine wk (tw @h1 @h2) ?_;(repeat(refine Pn.mk ?_;intro N hN)))|((try apply Or.inl);refine⟨_,aq.x (ha) (sd (tw @h1 @h2)),?_⟩;refine hN _ _ ?_;clear hN N)|((try apply Or.inl);refine⟨_,aq.x (hb) (sd (tw @h1 @h2)),?_⟩;refine hN _ _ ?_;clear hN N)))
  exact bU (b:=0) (.inl rfl) (sd @Nat.zero_add) (by rw[pY,if_neg h1,if_neg h2])
def Gq:List Int->Int
 |[]=>0
 |a::r=>if a=0 then Gq r else a
theorem H5:∀{l:List Int} {k:Nat} (hk:k<l.length),l[k]≠0->(∀j (h:j<l.length),j<k->l[j]=0)->Gq l=l[k]
 |a::r,0,_,h,_=>by
  have h':a≠0:=h
  rw[Gq,if_neg h'];rfl
 |a::r,k+1,hk,h,h0=>by
  have h':a=0:=h0 0 (by simp) (by omega)
  rw[Gq,if_pos h',H5 (k:=k) (by simpa using hk) h fun j hj wK=>h0 (j+1) (by simpa using hj) (by omega)];rfl
theorem AE:∀{l:List Int},(∀j (h:j<l.length),l[j]=0)->Gq l=0
 |[],_=>rfl
 |a::r,h=>by
  have h':a=0:=h 0 (by simp)
  rw[Gq,if_pos h',AE fun j hj=>h (j+1) (by simpa using hj)]
theorem Kn (a b:Int):Gq [a,b]=Km a b:=by
 unfold Km
 by_cases h:a=0
 ·rw[Gq,if_pos h,if_pos h,Gq,Gq];split<;>simp_all
 ·rw[Gq,if_neg h,if_neg h]
theorem Jo (l:List Int):aq Tryz.prog 233 [.sl (l.map aA)] (.int .i64 (Gq l)):=by
 refine aq.body eE rfl fun hl n0=>?_
 have hlen:l.length<=9223372036854775807:=by simpa using(hl (.sl (l.map aA)) (by simp)).len
 clear hl
 (try((repeat(revert hN;revert N;apply Pn.out));refine wk @Nat.zero_add ?_;(repeat(refine Pn.mk ?_;intro N hN))))
 refine aM (fun n env st=>∃k:Nat,n=(l.length)-k/\k<=(l.length)/\env 8=.int .i64 (k:Int)/\(∀j:Nat,j<k->∀h:j<l.length,l[j]=0)) (l.length) ⟨0,by omega,by omega,sl @Nat.zero_add,fun _ h=>absurd h (Nat.not_lt_zero _)⟩ ?_
 rintro n_a env_a st_a ⟨k,rfl,ale,a8,lk⟩ dq
 have a3:=dq 3 (by kernel_rfl);have a6:=dq 6 (by kernel_rfl);have a7:=dq 7 (by kernel_rfl)
 simp only[go_sem, ↓reduceIte,Nat.reduceEqDiff,Nat.reduceAdd,Nat.reduceSub,Nat.reduceLeDiff,reduceCtorEq]at a3 a6 a7
 clear dq
 by_cases hk:(k:Int)<(l.length:Int)
 ·have cE:∀{e:Env},(e 8=.int .i64 (IntKind.i64.wrap ((k:Int)+1)))->(∀h:k<l.length,l[k]=0)->∃m0,m0<(l.length)-k/\∃k:Nat,m0=(l.length)-k/\k<=(l.length)/\e 8=.int .i64 (k:Int)/\(∀j:Nat,j<k->∀h:j<l.length,l[j]=0):=fun x1 x2=>⟨_,by omega,k+1,rfl,by omega,(by rw[x1,aB (by omega)]),(all_succ lk x2)⟩
  have eV:k<l.length:=by omega
  have ev:(l.map aA)[k]? =some (aA l[k]):=by simp[eV]
  generalize hv:l[k]=v at ev
  by_cases h0:v=0
  ·have e:decide (v=0)=true:=decide_eq_true h0
   (try((repeat(revert hN;revert N;apply Pn.out));refine wk (tw @a8 (tw @a3 (tw @a6 (tw @a7 (tw @e (tw @hk (tw @ev @aA.eq_1))))))) ?_;(repeat(refine Pn.mk ?_;intro N hN))))
   exact cE (sd (tw @a8 (tw @a3 (tw @a6 @a7)))) (fun _=>hv.trans h0)
  ·have e:decide (v=0)=false:=decide_eq_false h0
   (try((repeat(revert hN;revert N;apply Pn.out));refine wk (tw @a8 (tw @a3 (tw @a6 (tw @a7 (tw @e (tw @hk (tw @ev @aA.eq_1))))))) ?_;(repeat(refine Pn.mk ?_;intro N hN))))
   exact bU (b:=v) (.inl rfl) (sd @Nat.zero_add) (by rw[H5 eV (by rw[hv];exact h0) fun j h hj=>lk j hj h,hv])
 ·(try((repeat(revert hN;revert N;apply Pn.out));refine wk (tw @a8 (tw @a3 (tw @a6 (tw @a7 @hk)))) ?_;(repeat(refine Pn.mk ?_;intro N hN))))
  exact bU (b:=0) (.inl rfl) (sd @Nat.zero_add) (by rw[AE fun j h=>lk j (by omega) h])
section
attribute [local go_sem] List.drop_zero List.take_succ_cons List.take_zero List.length_cons List.length_nil iv xH nw
theorem mz (a b:ah):aq Tryz.prog 154 [.agg (ab a),.agg (ab b)] (.int .i64 (oy a b)):=by
 refine aq.body eE rfl fun hl n0=>?_
 clear hl
 have h1:=wj a.eB b.eB
 have h2:=wj a.eI b.eI
 have h3:=Jo [pY a.eB b.eB,pY a.eI b.eI]
 rw[Kn,List.map_cons,List.map_cons,List.map_nil,aA,aA]at h3
 (repeat(first|((repeat(revert hN;revert N;apply Pn.out));refine wk @ab.eq_1 ?_;(repeat(refine Pn.mk ?_;intro N hN)))|((try apply Or.inl);refine⟨_,aq.x (h1) (sd @ab.eq_1),?_⟩;refine hN _ _ ?_;clear hN N)|((try apply Or.inl);refine⟨_,aq.x (h2) (sd @ab.eq_1),?_⟩;refine hN _ _ ?_;clear hN N)|((try apply Or.inl);refine⟨_,aq.x (h3) (sd @ab.eq_1),?_⟩;refine hN _ _ ?_;clear hN N)))
 exact bU (b:=oy a b) (.inl rfl) (by simp only[go_sem, ↓reduceIte,Nat.reduceEqDiff,Nat.reduceAdd,Nat.reduceSub,Nat.reduceLeDiff,reduceCtorEq,oy]) rfl
end
theorem JY (a b:ah):aq Tryz.prog 179 [.agg (ab a),.agg (ab b)] (.bool (j5 a b)):=by
 refine aq.body eE rfl fun hl n0=>?_
 clear hl
 have h1:=mz a b
 rw[ab,ab]at h1
 (repeat(first|((repeat(revert hN;revert N;apply Pn.out));refine wk @ab.eq_1 ?_;(repeat(refine Pn.mk ?_;intro N hN)))|((try apply Or.inl);refine⟨_,aq.x (h1) (sd @ab.eq_1),?_⟩;refine hN _ _ ?_;clear hN N)))
 exact aL (b:=decide (oy a b<0)) (.inl rfl) (sd @Nat.zero_add) (lU a b)
theorem jO (t:ad) (p:ah):aq Tryz.prog 164 [.agg (ai t),.agg (ab p)] (.int .i64 (oy t.bH p)):=by
 refine aq.body eE rfl fun hl n0=>?_
 clear hl
 have h1:=mz t.bH p
 rw[ab,ab]at h1
 (repeat(first|((repeat(revert hN;revert N;apply Pn.out));refine wk (tw @ai.eq_1 @ab.eq_1) ?_;(repeat(refine Pn.mk ?_;intro N hN)))|((try apply Or.inl);refine⟨_,aq.x (h1) (sd (tw @ai.eq_1 @ab.eq_1)),?_⟩;refine hN _ _ ?_;clear hN N)))
 exact bU (b:=oy t.bH p) (.inl rfl) (sd @Nat.zero_add) rfl
theorem E0 (l:List ad):aq Tryz.prog 200 [.agg [.sl (l.map ai)]] (.bool (nv l)):=by
 refine aq.body eE rfl fun hl n0=>?_
 have hlen:l.length<=9223372036854775807:=by
  have h1:=(hl (.agg [.sl (l.map ai)]) (by simp)).LJ (a:=.sl (l.map ai)) (by simp)
  simpa using h1.len
 clear hl
 (try((repeat(revert hN;revert N;apply Pn.out));refine wk @Nat.zero_add ?_;(repeat(refine Pn.mk ?_;intro N hN))))
 refine aM (fun n env st=>∃k:Nat,n=(l.length)-k/\k<=(l.length)/\env 8=.int .i64 (k:Int)/\st.get ⟨200000000,n0⟩=some ⟨true,1,[[.sl (l.map ai)]]⟩/\(∀j:Nat,j<k->Es l j)) (l.length) ⟨0,by omega,by omega,sl @Nat.zero_add,sl @Nat.zero_add,fun _ h=>absurd h (Nat.not_lt_zero _)⟩ ?_
 rintro n_a env_a st_a ⟨k,rfl,ale,a8,ag0,lk⟩ dq
 have a1:=dq 1 (by kernel_rfl);have a6:=dq 6 (by kernel_rfl);have a7:=dq 7 (by kernel_rfl)
 simp only[go_sem, ↓reduceIte,Nat.reduceEqDiff,Nat.reduceAdd,Nat.reduceSub,Nat.reduceLeDiff,reduceCtorEq]at a1 a6 a7
 clear dq
 by_cases hk:(k:Int)<(l.length:Int)
 ·have cE:∀{e:Env} {gg:Rows},(e 8=.int .i64 (IntKind.i64.wrap ((k:Int)+1)))->(gg ⟨200000000,n0⟩=some ⟨true,1,[[.sl (l.map ai)]]⟩)->(Es l k)->∃m0,m0<(l.length)-k/\∃k:Nat,m0=(l.length)-k/\k<=(l.length)/\e 8=.int .i64 (k:Int)/\gg ⟨200000000,n0⟩=some ⟨true,1,[[.sl (l.map ai)]]⟩/\(∀j:Nat,j<k->Es l j):=fun x1 x2 x3=>⟨_,by omega,k+1,rfl,by omega,(by rw[x1,aB (by omega)]),x2,(all_succ lk x3)⟩
  have eV:k<l.length:=by omega
  have ev:=fj eV
  have kN:(¬Es l k)->¬jU l:=fun h hp=>h (hp.ok k eV)
  have hp:=pR (aO l k).bH
  have ht:=wS (aO l k).bq 160 (by omega) (by omega)
  rw[show(160:Int)-1=159 from rfl]at ht
  cases b1:yp (aO l k).bH
  ·rw[b1]at hp
   (repeat(first|((repeat(revert hN;revert N;apply Pn.out));refine wk (tw @a8 (tw @ag0 (tw @a1 (tw @a6 (tw @a7 (tw @hk (tw @ev (tw @ai.eq_1 @ab.eq_1)))))))) ?_;(repeat(refine Pn.mk ?_;intro N hN)))|((try apply Or.inl);refine⟨_,aq.x (hp) (sd (tw @a8 (tw @ag0 (tw @a1 (tw @a6 (tw @a7 (tw @hk (tw @ev (tw @ai.eq_1 @ab.eq_1))))))))),?_⟩;refine hN _ _ ?_;clear hN N)))
   exact aL (b:=false) (.inl rfl) (sd @Nat.zero_add) (jG (kN fun h=>by rw[Es,b1]at h;cases h.1))
  rw[b1]at hp
  cases b2:gn (aO l k).bq 0 159
  ·rw[b2]at ht
   (repeat(first|((repeat(revert hN;revert N;apply Pn.out));refine wk (tw @a8 (tw @ag0 (tw @a1 (tw @a6 (tw @a7 (tw @hk (tw @ev (tw @ai.eq_1 @ab.eq_1)))))))) ?_;(repeat(refine Pn.mk ?_;intro N hN)))|((try apply Or.inl);refine⟨_,aq.x (hp) (sd (tw @a8 (tw @ag0 (tw @a1 (tw @a6 (tw @a7 (tw @hk (tw @ev (tw @ai.eq_1 @ab.eq_1))))))))),?_⟩;refine hN _ _ ?_;clear hN N)|((try apply Or.inl);refine⟨_,aq.x (ht) (sd (tw @a8 (tw @ag0 (tw @a1 (tw @a6 (tw @a7 (tw @hk (tw @ev (tw @ai.eq_1 @ab.eq_1))))))))),?_⟩;refine hN _ _ ?_;clear hN N)))
   exact aL (b:=false) (.inl rfl) (sd @Nat.zero_add) (jG (kN fun h=>by rw[Es,b2]at h;cases h.2.1))
  rw[b2]at ht
  by_cases h0:(0:Int)<(k:Int)
  ·have qO:=fj (l:=l) (i:=k-1) (by omega)
   have hw:IntKind.i64.wrap ((k:Int)-1)=((k-1:Nat):Int):=by rw[bz (by omega)];omega
   have hq:=JY (aO l (k-1)).bH (aO l k).bH
   cases b3:j5 (aO l (k-1)).bH (aO l k).bH
   ·rw[b3]at hq
    (repeat(first|((repeat(revert hN;revert N;apply Pn.out));refine wk (tw @a8 (tw @ag0 (tw @a1 (tw @a6 (tw @a7 (tw @hk (tw @ev (tw @qO (tw @h0 (tw @hw (tw @ai.eq_1 @ab.eq_1))))))))))) ?_;(repeat(refine Pn.mk ?_;intro N hN)))|((try apply Or.inl);refine⟨_,aq.x (hp) (sd (tw @a8 (tw @ag0 (tw @a1 (tw @a6 (tw @a7 (tw @hk (tw @ev (tw @qO (tw @h0 (tw @hw (tw @ai.eq_1 @ab.eq_1)))))))))))),?_⟩;refine hN _ _ ?_;clear hN N)|((try apply Or.inl);refine⟨_,aq.x (ht) (sd (tw @a8 (tw @ag0 (tw @a1 (tw @a6 (tw @a7 (tw @hk (tw @ev (tw @qO (tw @h0 (tw @hw (tw @ai.eq_1 @ab.eq_1)))))))))))),?_⟩;refine hN _ _ ?_;clear hN N)|((try apply Or.inl);refine⟨_,aq.x (hq) (sd (tw @a8 (tw @ag0 (tw @a1 (tw @a6 (tw @a7 (tw @hk (tw @ev (tw @qO (tw @h0 (tw @hw (tw @ai.eq_1 @ab.eq_1)))))))))))),?_⟩;refine hN _ _ ?_;clear hN N)))
    exact aL (b:=false) (.inl rfl) (sd @Nat.zero_add) (jG (kN fun h=>by have:=h.2.2 (by omega);rw[b3]at this;cases this))
   ·rw[b3]at hq
    (repeat(first|((repeat(revert hN;revert N;apply Pn.out));refine wk (tw @a8 (tw @ag0 (tw @a1 (tw @a6 (tw @a7 (tw @hk (tw @ev (tw @qO (tw @h0 (tw @hw (tw @ai.eq_1 @ab.eq_1))))))))))) ?_;(repeat(refine Pn.mk ?_;intro N hN)))|((try apply Or.inl);refine⟨_,aq.x (hp) (sd (tw @a8 (tw @ag0 (tw @a1 (tw @a6 (tw @a7 (tw @hk (tw @ev (tw @qO (tw @h0 (tw @hw (tw @ai.eq_1 @ab.eq_1)))))))))))),?_⟩;refine hN _ _ ?_;clear hN N)|((try apply Or.inl);refine⟨_,aq.x (ht) (sd (tw @a8 (tw @ag0 (tw @a1 (tw @a6 (tw @a7 (tw @hk (tw @ev (tw @qO (tw @h0 (tw @hw (tw @ai.eq_1 @ab.eq_1)))))))))))),?_⟩;refine hN _ _ ?_;clear hN N)|((try apply Or.inl);refine⟨_,aq.x (hq) (sd (tw @a8 (tw @ag0 (tw @a1 (tw @a6 (tw @a7 (tw @hk (tw @ev (tw @qO (tw @h0 (tw @hw (tw @ai.eq_1 @ab.eq_1)))))))))))),?_⟩;refine hN _ _ ?_;clear hN N)))
    refine cE ?_ ?_ (⟨b1,b2,fun _=>b3⟩)
    all_goals simp only[go_sem, ↓reduceIte,Nat.reduceEqDiff,Nat.reduceAdd,Nat.reduceSub,Nat.reduceLeDiff,reduceCtorEq,a8,ag0,a1,a6,a7]
  ·have u7:k=0:=by omega
   (repeat(first|((repeat(revert hN;revert N;apply Pn.out));refine wk (tw @a8 (tw @ag0 (tw @a1 (tw @a6 (tw @a7 (tw @hk (tw @ev (tw @h0 (tw @ai.eq_1 @ab.eq_1))))))))) ?_;(repeat(refine Pn.mk ?_;intro N hN)))|((try apply Or.inl);refine⟨_,aq.x (hp) (sd (tw @a8 (tw @ag0 (tw @a1 (tw @a6 (tw @a7 (tw @hk (tw @ev (tw @h0 (tw @ai.eq_1 @ab.eq_1)))))))))),?_⟩;refine hN _ _ ?_;clear hN N)|((try apply Or.inl);refine⟨_,aq.x (ht) (sd (tw @a8 (tw @ag0 (tw @a1 (tw @a6 (tw @a7 (tw @hk (tw @ev (tw @h0 (tw @ai.eq_1 @ab.eq_1)))))))))),?_⟩;refine hN _ _ ?_;clear hN N)))
   refine cE ?_ ?_ (⟨b1,b2,fun h=>by omega⟩)
   all_goals simp only[go_sem, ↓reduceIte,Nat.reduceEqDiff,Nat.reduceAdd,Nat.reduceSub,Nat.reduceLeDiff,reduceCtorEq,a8,ag0,a1,a6,a7]
 ·(try((repeat(revert hN;revert N;apply Pn.out));refine wk (tw @a8 (tw @ag0 (tw @a1 (tw @a6 (tw @a7 @hk))))) ?_;(repeat(refine Pn.mk ?_;intro N hN))))
  refine aL (b:=decide ((l.length:Int)<=500)) (.inl rfl) (sd @Nat.zero_add) ?_
  by_cases h5:(l.length:Int)<=500
  ·rw[decide_eq_true h5];exact wu ⟨by omega,fun i hi=>lk i (by omega)⟩
  ·rw[decide_eq_false h5];exact jG fun h=>by have:=h.A6;omega
theorem ED (cells:List ad) (p:ah) (hR:qS cells) (L8:cells.length<=1048576):
  aq Tryz.prog 163 [.sl (cells.map ai),.agg (ab p),.fn 164 []] (.im [.int .i64 (qk cells p),.bool (decide (qk cells p<cells.length)&&decide ((aO cells (qk cells p)).bH=p))]):=by
 refine aq.body eE rfl fun hl n0=>?_
 clear hl
 (try((repeat(revert hN;revert N;apply Pn.out));refine wk @ab.eq_1 ?_;(repeat(refine Pn.mk ?_;intro N hN))))
 refine aM (fun n env st=>∃i j:Nat,n=j-i/\i<=j/\j<=cells.length/\(∀x,x<i->j5 (aO cells x).bH p=true)/\(∀x,j<=x->x<cells.length->j5 (aO cells x).bH p=false)/\env 9=.int .i64 i/\env 10=.int .i64 j/\st.get ⟨163000000,n0⟩=some ⟨true,2,[ab p]⟩) cells.length ⟨0,cells.length,by omega,by omega,by omega,fun x h=>by omega,fun x h1 h2=>by omega,by(simp only[go_sem, ↓reduceIte,Nat.reduceEqDiff,Nat.reduceAdd,Nat.reduceSub,Nat.reduceLeDiff,reduceCtorEq])<;>rfl,sd @Nat.zero_add,sd @ab.eq_1⟩ ?_
 rintro n env st ⟨i,j,rfl,Cg,hj,jW,Bb,h9,h10,hg⟩ fr
 have h0:=fr 0 (by kernel_rfl)
 have h2:=fr 2 (by kernel_rfl)
 have h4:=fr 4 (by kernel_rfl)
 have h8:=fr 8 (by kernel_rfl)
 simp only[go_sem, ↓reduceIte,Nat.reduceEqDiff,Nat.reduceAdd,Nat.reduceSub,Nat.reduceLeDiff,reduceCtorEq]at h0 h2 h4 h8
 clear fr
 by_cases dJ:(i:Int)<(j:Int)
 ·have e1:IntKind.i64.wrap ((i:Int)+j)=((i+j:Nat):Int):=by rw[bz (by omega)];rfl
  have hm:(i+j) / 2<cells.length:=by omega
  have gi:(cells.map ai)[(i+j) / 2]? =some (ai (aO cells ((i+j) / 2))):=fj (l:=cells) hm
  have e2:IntKind.i64.wrap ((IntKind.u64.wrap ((i+j:Nat):Int)).fdiv (2 ^ min 1 IntKind.u64.bits))=(((i+j) / 2:Nat):Int):=by
   have h:IntKind.u64.wrap ((i+j:Nat):Int)=((i+j:Nat):Int):=by rw[IntKind.wrap_u64];omega
   rw[h,show min 1 IntKind.u64.bits=1 from rfl,show((2:Int) ^ 1)=2 from rfl,Int.fdiv_eq_ediv_of_nonneg _ (by omega)]
   rw[bz (by omega)];omega
  have OF:IntKind.i64.wrap ((IntKind.u64.wrap ((i+j:Nat):Int)).fdiv (2 ^ min 1 64))=(((i+j) / 2:Nat):Int):=e2
  have e3:=aB (k:=(i+j) / 2) (by omega)
  by_cases hc:oy (aO cells ((i+j) / 2)).bH p<0
  ·have hl:j5 (aO cells ((i+j) / 2)).bH p=true:=by rw[<-lU];simpa using hc
   (repeat(first|((repeat(revert hN;revert N;apply Pn.out));refine wk (tw @h0 (tw @h2 (tw @h4 (tw @h8 (tw @h9 (tw @h10 (tw @hg (tw @dJ (tw @e1 (tw @e2 (tw @OF (tw @gi (tw @hc (tw @ai.eq_1 @ab.eq_1)))))))))))))) ?_;(repeat(refine Pn.mk ?_;intro N hN)))|((try apply Or.inl);refine⟨_,aq.x (jO (aO cells ((i+j) / 2)) p) (sd (tw @h0 (tw @h2 (tw @h4 (tw @h8 (tw @h9 (tw @h10 (tw @hg (tw @dJ (tw @e1 (tw @e2 (tw @OF (tw @gi (tw @hc (tw @ai.eq_1 @ab.eq_1))))))))))))))),?_⟩;refine hN _ _ ?_;clear hN N)))
   refine⟨_,?_,(i+j) / 2+1,j,rfl,by omega,hj,fun x hx=>?_,Bb,sd @e3,sd @h10,sd (tw @hg @ab.eq_1)⟩
   ·omega
   ·by_cases MT:x=(i+j) / 2
    ·subst MT;exact hl
    ·exact gV (hR x _ (by omega) hm) hl
  ·have hl:j5 (aO cells ((i+j) / 2)).bH p=false:=by rw[<-lU];simpa using hc
   (repeat(first|((repeat(revert hN;revert N;apply Pn.out));refine wk (tw @h0 (tw @h2 (tw @h4 (tw @h8 (tw @h9 (tw @h10 (tw @hg (tw @dJ (tw @e1 (tw @e2 (tw @OF (tw @gi (tw @hc (tw @ai.eq_1 @ab.eq_1)))))))))))))) ?_;(repeat(refine Pn.mk ?_;intro N hN)))|((try apply Or.inl);refine⟨_,aq.x (jO (aO cells ((i+j) / 2)) p) (sd (tw @h0 (tw @h2 (tw @h4 (tw @h8 (tw @h9 (tw @h10 (tw @hg (tw @dJ (tw @e1 (tw @e2 (tw @OF (tw @gi (tw @hc (tw @ai.eq_1 @ab.eq_1))))))))))))))),?_⟩;refine hN _ _ ?_;clear hN N)))
   refine⟨_,?_,i,(i+j) / 2,rfl,by omega,by omega,jW,fun x h1 h2=>?_,sd @h9,sd (tw @e2 @OF),sd (tw @hg @ab.eq_1)⟩
   ·omega
   ·by_cases MT:x=(i+j) / 2
    ·subst MT;exact hl
    ·rw[Bool.eq_false_iff]
     intro hc
     have h3:=gV (hR ((i+j) / 2) x (by omega) h2) hc
     rw[hl]at h3;cases h3
 ·have Ms:i=j:=by omega
  subst Ms
  have Ci:qk cells p=i:=ya hj jW fun h=>Bb i (Nat.le_refl _) h
  by_cases hn:(i:Int)<(cells.length:Int)
  ·have e9:i<cells.length:=by omega
   have gi:(cells.map ai)[i]? =some (ai (aO cells i)):=fj (l:=cells) e9
   have hd:decide (oy (aO cells i).bH p=0)=decide ((aO cells i).bH=p):=by simp only[EF]
   (repeat(first|((repeat(revert hN;revert N;apply Pn.out));refine wk (tw @h0 (tw @h2 (tw @h4 (tw @h8 (tw @h9 (tw @h10 (tw @hg (tw @dJ (tw @hn (tw @gi (tw @ai.eq_1 @ab.eq_1))))))))))) ?_;(repeat(refine Pn.mk ?_;intro N hN)))|((try apply Or.inl);refine⟨_,aq.x (jO (aO cells i) p) (sd (tw @h0 (tw @h2 (tw @h4 (tw @h8 (tw @h9 (tw @h10 (tw @hg (tw @dJ (tw @hn (tw @gi (tw @ai.eq_1 @ab.eq_1)))))))))))),?_⟩;refine hN _ _ ?_;clear hN N)))
   refine jc (.inl rfl) (r1:=.int .i64 i) (r2:=.bool (decide ((aO cells i).bH=p))) ?_ ?_ ?_
   ·simp only[go_sem, ↓reduceIte,Nat.reduceEqDiff,Nat.reduceAdd,Nat.reduceSub,Nat.reduceLeDiff,reduceCtorEq]
   ·simp only[go_sem, ↓reduceIte,Nat.reduceEqDiff,Nat.reduceAdd,Nat.reduceSub,Nat.reduceLeDiff,reduceCtorEq,hd]
   ·simp only[dZ,aS,bm,dr,fB,Option.map_some,Ci,e9,decide_true,Bool.true_and]
  ·have e9:¬i<cells.length:=by omega
   (try((repeat(revert hN;revert N;apply Pn.out));refine wk (tw @h0 (tw @h2 (tw @h4 (tw @h8 (tw @h9 (tw @h10 (tw @hg (tw @dJ (tw @hn (tw @ai.eq_1 @ab.eq_1)))))))))) ?_;(repeat(refine Pn.mk ?_;intro N hN))))
   refine jc (.inl rfl) (r1:=.int .i64 i) (r2:=.bool false) ?_ ?_ ?_
   ·simp only[go_sem, ↓reduceIte,Nat.reduceEqDiff,Nat.reduceAdd,Nat.reduceSub,Nat.reduceLeDiff,reduceCtorEq]
   ·simp only[go_sem, ↓reduceIte,Nat.reduceEqDiff,Nat.reduceAdd,Nat.reduceSub,Nat.reduceLeDiff,reduceCtorEq]
   ·simp only[dZ,aS,bm,dr,fB,Option.map_some,Ci,e9,decide_false,Bool.false_and]
theorem FG (l:List ad) (p:ah) (hR:qS l) (L8:l.length<=1048576):aq Tryz.prog 303 [.agg [.sl (l.map ai)],.agg (ab p)] (.int .i64 (eC l p)):=by
 refine aq.body eE rfl fun hl n0=>?_
 clear hl
 rw[D7 hR]
 have hb:=ED l p hR L8
 rw[ab]at hb
 cases hf:(decide (qk l p<l.length)&&decide ((aO l (qk l p)).bH=p))
 ·rw[hf]at hb
  (repeat(first|((repeat(revert hN;revert N;apply Pn.out));refine wk @ab.eq_1 ?_;(repeat(refine Pn.mk ?_;intro N hN)))|((try apply Or.inl);refine⟨_,aq.x (hb) (sd @ab.eq_1),?_⟩;refine hN _ _ ?_;clear hN N)))
  exact bU (b:=-1) (.inl rfl) (sd @Nat.zero_add) (by rw[if_neg];intro h;simp[h.1,h.2]at hf)
 ·rw[hf]at hb
  (repeat(first|((repeat(revert hN;revert N;apply Pn.out));refine wk @ab.eq_1 ?_;(repeat(refine Pn.mk ?_;intro N hN)))|((try apply Or.inl);refine⟨_,aq.x (hb) (sd @ab.eq_1),?_⟩;refine hN _ _ ?_;clear hN N)))
  exact bU (b:=(qk l p:Int)) (.inl rfl) (sd @Nat.zero_add) (by rw[if_pos];simpa using hf)
theorem pw (l:List ad) (p:ah) (hR:qS l) (L8:l.length<=1048576):aq Tryz.prog 173 [.dd [.sl (l.map ai)],.agg (ab p)] (.int .i64 (eC l p)):=by
 refine aq.body eE rfl fun hl n0=>?_
 clear hl
 rw[D7 hR]
 (try((repeat(revert hN;revert N;apply Pn.out));refine wk @ab.eq_1 ?_;(repeat(refine Pn.mk ?_;intro N hN))))
 refine aM (fun n env st=>∃i j:Nat,n=j-i/\i<=j/\j<=l.length/\(∀x,x<i->j5 (aO l x).bH p=true)/\(∀x,j<=x->x<l.length->j5 (aO l x).bH p=false)/\env 5=.int .i64 i/\env 6=.int .i64 j/\st.get ⟨173000000,n0⟩=some ⟨true,2,[ab p]⟩) l.length ⟨0,l.length,by omega,by omega,by omega,fun x h=>by omega,fun x h1 h2=>by omega,by(simp only[go_sem, ↓reduceIte,Nat.reduceEqDiff,Nat.reduceAdd,Nat.reduceSub,Nat.reduceLeDiff,reduceCtorEq])<;>rfl,sd @Nat.zero_add,sd @ab.eq_1⟩ ?_
 rintro n env st ⟨i,j,rfl,Cg,hj,jW,Bb,h5,h6,hg⟩ fr
 have h0:=fr 0 (by kernel_rfl)
 have h3:=fr 3 (by kernel_rfl)
 simp only[go_sem, ↓reduceIte,Nat.reduceEqDiff,Nat.reduceAdd,Nat.reduceSub,Nat.reduceLeDiff,reduceCtorEq]at h0 h3
 clear fr
 by_cases dJ:(i:Int)<(j:Int)
 ·have e1:IntKind.i64.wrap ((i:Int)+j)=((i+j:Nat):Int):=by rw[bz (by omega)];rfl
  have hm:(i+j) / 2<l.length:=by omega
  have gi:=fj hm
  have e2:IntKind.i64.wrap (((i+j:Nat):Int).tdiv 2)=(((i+j) / 2:Nat):Int):=by
   rw[Int.tdiv_eq_ediv_of_nonneg (by omega),bz (by omega)];omega
  have e3:=aB (k:=(i+j) / 2) (by omega)
  have hq:=mZ (aO l ((i+j) / 2)).bH p
  cases hl:j5 (aO l ((i+j) / 2)).bH p
  ·rw[hl]at hq
   (repeat(first|((repeat(revert hN;revert N;apply Pn.out));refine wk (tw @h0 (tw @h3 (tw @h5 (tw @h6 (tw @hg (tw @dJ (tw @e1 (tw @e2 (tw @gi (tw @ai.eq_1 @ab.eq_1)))))))))) ?_;(repeat(refine Pn.mk ?_;intro N hN)))|((try apply Or.inl);refine⟨_,aq.x (hq) (sd (tw @h0 (tw @h3 (tw @h5 (tw @h6 (tw @hg (tw @dJ (tw @e1 (tw @e2 (tw @gi (tw @ai.eq_1 @ab.eq_1))))))))))),?_⟩;refine hN _ _ ?_;clear hN N)))
   refine⟨_,?_,i,(i+j) / 2,rfl,by omega,by omega,jW,fun x h1 h2=>?_,sd @h5,sd @e2,sd (tw @hg @ab.eq_1)⟩
   ·omega
   ·by_cases MT:x=(i+j) / 2
    ·subst MT;exact hl
    ·rw[Bool.eq_false_iff]
     intro hc
     have h3:=gV (hR ((i+j) / 2) x (by omega) h2) hc
     rw[hl]at h3;cases h3
  ·rw[hl]at hq
   (repeat(first|((repeat(revert hN;revert N;apply Pn.out));refine wk (tw @h0 (tw @h3 (tw @h5 (tw @h6 (tw @hg (tw @dJ (tw @e1 (tw @e2 (tw @gi (tw @ai.eq_1 @ab.eq_1)))))))))) ?_;(repeat(refine Pn.mk ?_;intro N hN)))|((try apply Or.inl);refine⟨_,aq.x (hq) (sd (tw @h0 (tw @h3 (tw @h5 (tw @h6 (tw @hg (tw @dJ (tw @e1 (tw @e2 (tw @gi (tw @ai.eq_1 @ab.eq_1))))))))))),?_⟩;refine hN _ _ ?_;clear hN N)))
   refine⟨_,?_,(i+j) / 2+1,j,rfl,by omega,hj,fun x hx=>?_,Bb,sd @e3,sd @h6,sd (tw @hg @ab.eq_1)⟩
   ·omega
   ·by_cases MT:x=(i+j) / 2
    ·subst MT;exact hl
    ·exact gV (hR x _ (by omega) hm) hl
 ·have Ms:i=j:=by omega
  subst Ms
  have Ci:qk l p=i:=ya hj jW fun h=>Bb i (Nat.le_refl _) h
  by_cases hn:(i:Int)<(l.length:Int)
  ·have e9:i<l.length:=by omega
   have gi:=fj e9
   by_cases hp:(aO l i).bH=p
   ·have hx:decide ((aO l i).bH.eI=p.eI)=true:=decide_eq_true (by rw[hp])
    have hy:decide ((aO l i).bH.eB=p.eB)=true:=decide_eq_true (by rw[hp])
    (try((repeat(revert hN;revert N;apply Pn.out));refine wk (tw @h0 (tw @h3 (tw @h5 (tw @h6 (tw @hg (tw @dJ (tw @hn (tw @gi (tw @hx (tw @hy (tw @ai.eq_1 @ab.eq_1))))))))))) ?_;(repeat(refine Pn.mk ?_;intro N hN))))
    exact bU (b:=(i:Int)) (.inl rfl) (sd @Nat.zero_add) (by rw[Ci,if_pos ⟨e9,hp⟩])
   ·by_cases hx:(aO l i).bH.eI=p.eI
    ·have sa:decide ((aO l i).bH.eI=p.eI)=true:=decide_eq_true hx
     have Rc:decide ((aO l i).bH.eB=p.eB)=false:=decide_eq_false fun h=>hp (uv hx h)
     (try((repeat(revert hN;revert N;apply Pn.out));refine wk (tw @h0 (tw @h3 (tw @h5 (tw @h6 (tw @hg (tw @dJ (tw @hn (tw @gi (tw @sa (tw @Rc (tw @ai.eq_1 @ab.eq_1))))))))))) ?_;(repeat(refine Pn.mk ?_;intro N hN))))
     exact bU (b:=-1) (.inl rfl) (sd @Nat.zero_add) (by rw[Ci,if_neg fun h=>hp h.2])
    ·have sa:decide ((aO l i).bH.eI=p.eI)=false:=decide_eq_false hx
     (try((repeat(revert hN;revert N;apply Pn.out));refine wk (tw @h0 (tw @h3 (tw @h5 (tw @h6 (tw @hg (tw @dJ (tw @hn (tw @gi (tw @sa (tw @Bool.false_and (tw @ai.eq_1 @ab.eq_1))))))))))) ?_;(repeat(refine Pn.mk ?_;intro N hN))))
     exact bU (b:=-1) (.inl rfl) (sd @Nat.zero_add) (by rw[Ci,if_neg fun h=>hp h.2])
  ·have e9:¬i<l.length:=by omega
   (try((repeat(revert hN;revert N;apply Pn.out));refine wk (tw @h0 (tw @h3 (tw @h5 (tw @h6 (tw @hg (tw @dJ (tw @hn (tw @ai.eq_1 @ab.eq_1)))))))) ?_;(repeat(refine Pn.mk ?_;intro N hN))))
   exact bU (b:=-1) (.inl rfl) (sd @Nat.zero_add) (by rw[Ci,if_neg fun h=>e9 h.1])
theorem J7 (l:List ad) (p:ah) (hR:qS l) (L8:l.length<=1048576):aq Tryz.prog 216 [.dd [.sl (l.map ai)],.agg (ab p)] (.int .i64 (gz l p)):=by
 refine aq.body eE rfl fun hl n0=>?_
 clear hl
 have hb:=pw l p hR L8
 by_cases hi:eC l p<0
 ·rw[ab]at hb
  (repeat(first|((repeat(revert hN;revert N;apply Pn.out));refine wk (tw @ab.eq_1 @hi) ?_;(repeat(refine Pn.mk ?_;intro N hN)))|((try apply Or.inl);refine⟨_,aq.x (hb) (sd (tw @ab.eq_1 @hi)),?_⟩;refine hN _ _ ?_;clear hN N)))
  exact bU (b:=-1) (.inl rfl) (sd @Nat.zero_add) (by rw[gz,if_neg (by omega)])
 ·have h0:0<=eC l p:=by omega
  have hg:=fj (j4 h0).1
  rw[ab]at hb
  (repeat(first|((repeat(revert hN;revert N;apply Pn.out));refine wk (tw @ab.eq_1 (tw @hi (tw @h0 (tw @hg @ai.eq_1)))) ?_;(repeat(refine Pn.mk ?_;intro N hN)))|((try apply Or.inl);refine⟨_,aq.x (hb) (sd (tw @ab.eq_1 (tw @hi (tw @h0 (tw @hg @ai.eq_1))))),?_⟩;refine hN _ _ ?_;clear hN N)))
  exact bU (b:=(aO l (eC l p).toNat).bq) (.inl rfl) (sd @Nat.zero_add) (by rw[gz,if_pos h0])
def jM (s:au) (l:List ad):Prop:=jU l/\∀t∈l,eK s t.bq=true
noncomputable def lQ (s:au) (l:List ad):Bool:=nv l&&l.all fun t=>eK s t.bq
theorem kd {s:au} {l:List ad}:lQ s l=true↔jM s l:=by simp[lQ,jM,EV]
theorem BH:Ol ai (fun c=>.agg (ai c)) 3 true:=⟨fun _=>rfl,fun _=>rfl,fun x g=>by simp only[ai,aj,ar,aZ,aK,Option.map_some]⟩
theorem FB (s:au) (t:ad) (hs:s.ae.length<=1048576):aq Tryz.prog 202 [.agg (ai t),.dd (aa s)] (.bool (!eK s t.bq)):=by
 refine aq.body eE rfl fun hl n0=>?_
 clear hl
 have h:=HG s t.bq
 rw[aa]at h
 (repeat(first|((repeat(revert hN;revert N;apply Pn.out));refine wk (tw @ai.eq_1 @aa.eq_1) ?_;(repeat(refine Pn.mk ?_;intro N hN)))|((try apply Or.inl);refine⟨_,aq.x (h) (sd (tw @ai.eq_1 @aa.eq_1)),?_⟩;refine hN _ _ ?_;clear hN N)))
 exact aL (b:= !eK s t.bq) (.inl rfl) (sd @Nat.zero_add) rfl
theorem KG (s:au) (l:List ad) (hs:s.ae.length<=1048576) (hl:l.length<=1048576):aq Tryz.prog 201 [.sl (l.map ai),.fn 202 [.dd (aa s)]] (.bool (l.any fun t=> !eK s t.bq)):=
 ke BH (show mU Tryz.prog 201=some (xP 201 247) by kernel_rfl)
  (show mU Tryz.prog 247=some (rq 247 3 true) by kernel_rfl) l hl _ _ _ rfl (fun g=>by rw[aj,aN,ar];rfl) (fun x _=>FB s x hs) fun g=>by rw[aj,aN,ar];rfl
theorem Jh {α:Type} (p:α->Bool) (l:List α):(!l.any fun t=> !p t)=l.all p:=by
 induction l with
 |nil=>rfl
 |cons x l ih=>simp only[List.any_cons,List.all_cons,<-ih];cases p x<;>simp
theorem mo (s:au) (l:List ad) (hn:fe s) (hg:s.aC.length<=1048576) (ht:s.ae.length<=1048576) (hs:∀t∈s.ae,t.bY.length<=1048576) (hl:l.length<=1048576):aq Tryz.prog 131 [.agg (aa s),.agg [.sl (l.map ai)]] (.bool (mT s&&lQ s l)):=by
 refine aq.body eE rfl fun hl n0=>?_
 clear hl
 have h1:=tp s hn hg ht hs
 have h2:=E0 l
 have h3:=KG s l ht hl
 rw[aa]at h1 h3
 cases b1:mT s
 ·rw[b1]at h1
  (repeat(first|((repeat(revert hN;revert N;apply Pn.out));refine wk @aa.eq_1 ?_;(repeat(refine Pn.mk ?_;intro N hN)))|((try apply Or.inl);refine⟨_,aq.x (h1) (sd @aa.eq_1),?_⟩;refine hN _ _ ?_;clear hN N)))
  exact aL (b:=false) (.inl rfl) (sd @Nat.zero_add) rfl
 rw[b1]at h1
 cases b2:nv l
 ·rw[b2]at h2
  (repeat(first|((repeat(revert hN;revert N;apply Pn.out));refine wk @aa.eq_1 ?_;(repeat(refine Pn.mk ?_;intro N hN)))|((try apply Or.inl);refine⟨_,aq.x (h1) (sd @aa.eq_1),?_⟩;refine hN _ _ ?_;clear hN N)|((try apply Or.inl);refine⟨_,aq.x (h2) (sd @aa.eq_1),?_⟩;refine hN _ _ ?_;clear hN N)))
  exact aL (b:=false) (.inl rfl) (sd @Nat.zero_add) (by rw[lQ,b2];rfl)
 rw[b2]at h2
 (repeat(first|((repeat(revert hN;revert N;apply Pn.out));refine wk @aa.eq_1 ?_;(repeat(refine Pn.mk ?_;intro N hN)))|((try apply Or.inl);refine⟨_,aq.x (h1) (sd @aa.eq_1),?_⟩;refine hN _ _ ?_;clear hN N)|((try apply Or.inl);refine⟨_,aq.x (h2) (sd @aa.eq_1),?_⟩;refine hN _ _ ?_;clear hN N)|((try apply Or.inl);refine⟨_,aq.x (h3) (sd @aa.eq_1),?_⟩;refine hN _ _ ?_;clear hN N)))
 exact aL (b:= !(l.any fun t=> !eK s t.bq)) (.inl rfl) (sd @Nat.zero_add) (by rw[Jh,lQ,b2];rfl)
theorem D4 (s:au) (l:List ad):aq Tryz.prog 146 [.dd (aa s),.dd [.sl (l.map ai)]] (.bool (lQ s l)):=by
 refine aq.body eE rfl fun hl n0=>?_
 have hlen:l.length<=9223372036854775807:=by
  have h1:=(hl (.dd [.sl (l.map ai)]) (by simp)).Af (a:=.sl (l.map ai)) (by simp)
  simpa using h1.len
 clear hl
 have h2:=Fq l
 cases b2:nv l
 ·rw[b2]at h2
  (repeat(first|((repeat(revert hN;revert N;apply Pn.out));refine wk @Nat.zero_add ?_;(repeat(refine Pn.mk ?_;intro N hN)))|((try apply Or.inl);refine⟨_,aq.x (h2) (sd @Nat.zero_add),?_⟩;refine hN _ _ ?_;clear hN N)))
  exact aL (b:=false) (.inl rfl) (sd @Nat.zero_add) (by rw[lQ,b2];rfl)
 rw[b2]at h2
 (repeat(first|((repeat(revert hN;revert N;apply Pn.out));refine wk @Nat.zero_add ?_;(repeat(refine Pn.mk ?_;intro N hN)))|((try apply Or.inl);refine⟨_,aq.x (h2) (sd @Nat.zero_add),?_⟩;refine hN _ _ ?_;clear hN N)))
 refine aM (fun n env st=>∃k:Nat,n=(l.length)-k/\k<=(l.length)/\env 5=.int .i64 (k:Int)/\(∀j:Nat,j<k->eK s (aO l j).bq=true)) (l.length) ⟨0,by omega,by omega,sl @Nat.zero_add,fun _ h=>absurd h (Nat.not_lt_zero _)⟩ ?_
 rintro n_a env_a st_a ⟨k,rfl,ale,a5,lk⟩ dq
 have a0:=dq 0 (by kernel_rfl);have a1:=dq 1 (by kernel_rfl)
 simp only[go_sem, ↓reduceIte,Nat.reduceEqDiff,Nat.reduceAdd,Nat.reduceSub,Nat.reduceLeDiff,reduceCtorEq]at a0 a1
 clear dq
 by_cases hk:(k:Int)<(l.length:Int)
 ·have cE:∀{e:Env},(e 5=.int .i64 (IntKind.i64.wrap ((k:Int)+1)))->(eK s (aO l k).bq=true)->∃m0,m0<(l.length)-k/\∃k:Nat,m0=(l.length)-k/\k<=(l.length)/\e 5=.int .i64 (k:Int)/\(∀j:Nat,j<k->eK s (aO l j).bq=true):=fun x1 x2=>⟨_,by omega,k+1,rfl,by omega,(by rw[x1,aB (by omega)]),(all_succ lk x2)⟩
  have eV:k<l.length:=by omega
  have ev:=fj eV
  have ht:=Cw s (aO l k).bq
  cases b3:eK s (aO l k).bq
  ·rw[b3]at ht
   (repeat(first|((repeat(revert hN;revert N;apply Pn.out));refine wk (tw @a5 (tw @a0 (tw @a1 (tw @hk (tw @ev @ai.eq_1))))) ?_;(repeat(refine Pn.mk ?_;intro N hN)))|((try apply Or.inl);refine⟨_,aq.x (ht) (sd (tw @a5 (tw @a0 (tw @a1 (tw @hk (tw @ev @ai.eq_1)))))),?_⟩;refine hN _ _ ?_;clear hN N)))
   exact aL (b:=false) (.inl rfl) (sd @Nat.zero_add) (by
    have:l.all (fun t=>eK s t.bq)=false:=List.all_eq_false.2 ⟨_,gP eV,by rw[b3];simp⟩
    rw[lQ,this,Bool.and_false])
  ·rw[b3]at ht
   (repeat(first|((repeat(revert hN;revert N;apply Pn.out));refine wk (tw @a5 (tw @a0 (tw @a1 (tw @hk (tw @ev @ai.eq_1))))) ?_;(repeat(refine Pn.mk ?_;intro N hN)))|((try apply Or.inl);refine⟨_,aq.x (ht) (sd (tw @a5 (tw @a0 (tw @a1 (tw @hk (tw @ev @ai.eq_1)))))),?_⟩;refine hN _ _ ?_;clear hN N)))
   exact cE (sd (tw @a5 (tw @a0 @a1))) (b3)
 ·(try((repeat(revert hN;revert N;apply Pn.out));refine wk (tw @a5 (tw @a0 (tw @a1 @hk))) ?_;(repeat(refine Pn.mk ?_;intro N hN))))
  exact aL (b:=true) (.inl rfl) (sd @Nat.zero_add) (by
   have:l.all (fun t=>eK s t.bq)=true:=List.all_eq_true.2 fun t ht=>by
    obtain⟨j,hj,rfl⟩:=List.getElem_of_mem ht
    have:=lk j (by omega)
    rwa [gy hj]at this
   rw[lQ,b2,this];rfl)
theorem vN (l:List ad) (hF:jU l) (i:Nat) (d:Int) (hi:i<l.length) (hd:gn d 0 3=true):aq Tryz.prog 189 [.dd [.sl (l.map ai)],.int .i64 i,.int .i64 d] (.int .i64 (eC l (aW (aO l i).bH d))):=by
 refine aq.body eE rfl fun hl n0=>?_
 clear hl
 have hg:=fj hi
 have hp:=rH (hF.pt hi)
 have h1:=rD (aO l i).bH d hd hp.1 hp.2
 have h2:=pw l (aW (aO l i).bH d) hF.Oi (by have:=hF.A6;omega)
 rw[ab]at h1 h2
 (repeat(first|((repeat(revert hN;revert N;apply Pn.out));refine wk (tw @ai.eq_1 (tw @hg @ab.eq_1)) ?_;(repeat(refine Pn.mk ?_;intro N hN)))|((try apply Or.inl);refine⟨_,aq.x (h1) (sd (tw @ai.eq_1 (tw @hg @ab.eq_1))),?_⟩;refine hN _ _ ?_;clear hN N)|((try apply Or.inl);refine⟨_,aq.x (h2) (sd (tw @ai.eq_1 (tw @hg @ab.eq_1))),?_⟩;refine hN _ _ ?_;clear hN N)))
 exact bU (b:=eC l (aW (aO l i).bH d)) (.inl rfl) (sd @Nat.zero_add) rfl
end Go.Proofs.YtgoljkjaameagaaGreat.V

namespace Go.Proofs.YtgoljkjaameagaaGreat.V
open Go.RowKit
def isApp:fU->Bool
 | .append .. =>true
 |_=>false
variable {P:Program} {X:ft} {K:Env->ax->Prop} {env:Env} {σ:ax}
theorem Lv {draw:Bool} {o:bf} {r:List bf} (_:isApp o.op=false) (h:∀N:AV->ax->Prop,(∀v s,wpOps X draw r K (upd env o.dst v) s->N v s)->if aH o.guard env then fq X draw o env σ N else N .undef σ):wpOps X draw (o::r) K env σ:=Nu h
end Go.Proofs.YtgoljkjaameagaaGreat.V

namespace Go.Proofs.YtgoljkjaameagaaGreat.V
open Go.RowKit
section
variable {α:Type} {enc:α->List AV} {sz:Nat} {g g':Rows} {a:AV} {xs:List α} {ids:List Id}
end
abbrev IW (α:Type):=Rows->List AV->α->List Id->Prop
structure y7 {α:Type} (R:IW α) (sz:Nat):Prop where
 frame:∀{g g':Rows} {cs x ids},R g cs x ids->(∀i∈ids,g' i=g i)->R g' cs x ids
 len:∀{g cs x ids},R g cs x ids->cs.length=sz
 cell:∀{g cs x ids},R g cs x ids->cs.all AV.cell=true
 live:∀{g cs x ids},R g cs x ids->∀i∈ids,∃r,g i=some r/\r.w=true/\r.sz<sJ
 small:sz<sJ
inductive eM {α:Type} (R:IW α) (g:Rows):List (List AV)->List α->List Id->Prop
 |nil:eM R g [] [] []
 |cons {cs x i1 rs xs i2}:R g cs x i1->eM R g rs xs i2->eM R g (cs::rs) (x::xs) (i1++i2)
section
variable {α:Type} {R:IW α} {sz:Nat} {g g':Rows} {rows r1 r2:List (List AV)} {xs x1 x2:List α} {ids i1 i2:List Id}
theorem eM.len (h:eM R g rows xs ids):rows.length=xs.length:=by
 induction h with
 |nil=>rfl
 |cons _ _ ih=>simp[ih]
theorem eM.frame (ok:y7 R sz) (h:eM R g rows xs ids) (hf:∀i∈ids,g' i=g i):eM R g' rows xs ids:=by
 induction h with
 |nil=>exact .nil
 |cons h1 _ ih=>exact .cons (ok.frame h1 fun i hi=>hf i (List.mem_append_left _ hi)) (ih fun i hi=>hf i (List.mem_append_right _ hi))
theorem eM.app (h1:eM R g r1 x1 i1) (h2:eM R g r2 x2 i2):eM R g (r1++r2) (x1++x2) (i1++i2):=by
 induction h1 with
 |nil=>exact h2
 |cons h _ ih=>rw[List.append_assoc];exact .cons h ih
theorem eM.one {cs:List AV} {x:α} (h:R g cs x ids):eM R g [cs] [x] ids:=by
 have:=eM.cons h eM.nil
 rwa [List.append_nil]at this
theorem eM.split (h:eM R g rows xs ids):∀k (hk:k<xs.length),∃r1 cs r2 i1 ic i2,rows=r1++cs::r2/\r1.length=k/\ids=i1++(ic++i2)/\eM R g r1 (xs.take k) i1/\R g cs xs[k] ic/\eM R g r2 (xs.drop (k+1)) i2:=by
 induction h with
 |nil=>intro k hk;simp at hk
 |cons h1 h2 ih=>
  rename_i cs x j1 rs xs j2
  intro k hk
  cases k with
  |zero=>exact⟨[],cs,rs,[],j1,j2,rfl,rfl,rfl,.nil,h1,h2⟩
  |succ k=>
   obtain⟨r1,oL,r2,i1,ic,i2,rfl,hl,rfl,h3,h4,h5⟩:=ih k (by simpa using hk)
   exact⟨cs::r1,oL,r2,j1++i1,ic,i2,rfl,by simp[hl],by rw[List.append_assoc],.cons h1 h3,h4,h5⟩
theorem eM.at_ (h:eM R g rows xs ids) (k:Nat) (hk:k<xs.length):∃cs ic,rows[k]? =some cs/\R g cs xs[k] ic/\∀i∈ic,i∈ids:=by
 obtain⟨r1,cs,r2,i1,ic,i2,rfl,hl,rfl,h3,h4,h5⟩:=h.split k hk
 refine⟨cs,ic,by rw[List.getElem?_append_right (by omega)];simp[hl],h4,fun i hi=>by simp[hi]⟩
theorem eM.fz {n:Nat} {e:α->List AV} (h:eM R g rows xs ids) (hz:∀{cs x ids},R g cs x ids->dj (eo g) n cs=some (e x)):eh (eo g) n rows=some (xs.map e):=by
 induction h with
 |nil=>rw[eh];rfl
 |cons h1 _ ih=>rw[eh,hz h1,ih];rfl
end
section
variable {α:Type} {R:IW α} {sz:Nat} {g g':Rows} {a:AV} {xs:List α} {ids:List Id}
end
variable {P:Program} {X:ft} {K:Env->ax->Prop} {env:Env} {σ:ax}
def lN {α:Type} (enc:α->List AV) (sz:Nat) (x:AV) (g:Rows) (S:Id->Prop) (L:List α):Prop:=∃o:Id,S o/\x=.own o 0 L.length/\g o=some ⟨true,sz,L.map enc⟩
section
variable {α:Type} {enc:α->List AV} {sz:Nat} {x:AV} {g g':Rows} {S:Id->Prop} {L L':List α}
theorem lN.cast (h:lN enc sz x g S L) (hL:L'=L):lN enc sz x g S L':=by subst hL;exact h
theorem lN.frame (h:lN enc sz x g S L) (hg:∀o:Id,S o->g' o=g o):lN enc sz x g' S L:=by
 obtain⟨o,h1,h2,h3⟩:=h
 exact⟨o,h1,h2,(hg o h1).trans h3⟩
theorem lN.app (hz:∀a,(enc a).length=sz/\(enc a).all AV.cell=true) (h:lN enc sz x g S L) (id:Id) (hid:S id) (M:List α) (hlen:L.length+M.length<=dv):
  ∃v g',aP g id sz x (M.map enc)=some (v,g')/\lN enc sz v g' S (L++M)/\∀j:Id,¬S j->g' j=g j:=by
 obtain⟨o,h1,rfl,h4⟩:=h
 refine⟨.own id 0 (L.length+(M.map enc).length),bK (bR g o) id ⟨true,sz,L.map enc++M.map enc⟩,?_,⟨id,hid,by simp,by simp[bK]⟩,fun j hj=>?_⟩
 ·have ha:=all_map (l:=M) hz
  simp only[aP,h4,Option.bind_some]
  rw[if_pos ⟨trivial,trivial,by simp,by simpa using hlen,ha⟩]
 ·have e1:¬j=id:=fun h=>hj (h▸hid)
  have e2:¬j=o:=fun h=>hj (h▸h1)
  simp[bK,bR,e1,e2]
theorem Ns {draw:Bool} {o:bf} {r:List bf} {x' y:O} {xv:AV} (M:List α) (ho:o.op=.append sz x' y) (hw:aH o.guard env=true) (hx:cV env x'=xv) (hO:lN enc sz xv σ.get S L)
  (hy:bd σ.get (cV env y)=some (M.map enc)) (hz:∀a,(enc a).length=sz/\(enc a).all AV.cell=true) (hid:S ⟨o.site,σ.next⟩) (hlen:L.length+M.length<=dv)
  (next:∀v g',lN enc sz v g' S (L++M)->(∀j:Id,¬S j->g' j=σ.get j)->wpOps X draw r K (upd env o.dst v) ⟨g',σ.next⟩):wpOps X draw (o::r) K env σ:=by
 obtain⟨v,g',h1,h2,h3⟩:=hO.app hz ⟨o.site,σ.next⟩ hid M hlen
 unfold wpOps
 rw[if_pos hw]
 unfold fq
 simp only[ho,fH,hy,hx,Option.bind_some,h1]
 exact next v g' h2 h3
theorem lN.fV {n:Nat} (h:lN enc sz x g S L) (he:∀a,ep g n (enc a)=some (enc a)):fV g (n+1) x=some (.sl (L.map enc)):=by
 obtain⟨o,_,rfl,h3⟩:=h
 exact fw h3 rfl he
end
theorem dI {a b:Id} (h:a.bt<b.bt):(a=b)=False/\(b=a)=False:=by
 constructor<;>(simp only[eq_iff_iff,iff_false];rintro rfl;omega)
theorem yD {o:Id} {a:Nat} (h:o.site=a) {b v:Nat} (mV:(a==b)=false):(o=⟨b,v⟩)=False:=by
 simp only[eq_iff_iff,iff_false]
 rintro rfl
 simp only at h
 subst h
 simp at mV
def eN (n:Nat):List AV:=[.int .i64 n]
theorem fzN (g:Rows) (n:Nat) (a:Nat):dj g (n+1) (eN a)=some (eN a):=by simp[eN,aj,ar,aK]
theorem L5 (g:Rows) (n:Nat) (a:Nat):ep g (n+1) (eN a)=some (eN a):=by simp[eN,aS,bm,dr]
def NN:IW (List Nat):=fun g cs x ids=>∃id,cs=[.own id 0 x.length]/\g id=some ⟨true,1,x.map eN⟩/\ids=[id]
theorem M4:y7 NN 1 where
 frame:=fun⟨id,h1,h2,h3⟩ hf=>by subst h3;exact⟨id,h1,(hf id (by simp)).trans h2,rfl⟩
 len:=fun⟨id,h1,_⟩=>by subst h1;rfl
 cell:=fun⟨id,h1,_⟩=>by subst h1;rfl
 live:=fun⟨id,h1,h2,h3⟩ i hi=>by
  subst h3
  have:i=id:=by simpa using hi
  subst this
  exact⟨_,h2,rfl,by simp[sJ]⟩
 small:=by simp[sJ]
def yV (l:List Nat):List AV:=[.sl (l.map eN)]
theorem HQ {g:Rows} {rows:List (List AV)} {xs:List (List Nat)} {ids:List Id} (n:Nat) (h:eM NN g rows xs ids):gL g (n+2) rows=some (xs.map yV):=by
 induction h with
 |nil=>rw[gL];rfl
 |cons h1 _ ih=>
  obtain⟨id,rfl,h2,_⟩:=h1
  rw[gL,ih,aS,bm,fw (e:=eN) (sz:=1) h2 rfl fun a=>L5 g n a];rfl
end Go.Proofs.YtgoljkjaameagaaGreat.V

namespace Go.Proofs.YtgoljkjaameagaaGreat.V
def bi (b:Bool):Int:=if b then 1 else 0
def lh (f:Nat->Int):Nat->Int
 |0=>0
 |n+1=>lh f n+f n
theorem gR {f g:Nat->Int}:∀{n:Nat},(∀i,i<n->f i=g i)->lh f n=lh g n
 |0,_=>rfl
 |n+1,h=>by
  simp only[lh]
  rw[gR fun i hi=>h i (by omega),h n (by omega)]
theorem qC {f g:Nat->Int}:∀{n:Nat},(∀i,i<n->f i<=g i)->lh f n<=lh g n
 |0,_=>Int.le_refl _
 |n+1,h=>by
  simp only[lh]
  have:=qC (n:=n) fun i hi=>h i (by omega)
  have:=h n (by omega)
  omega
theorem jv:∀{n:Nat} {f:Nat->Int},(∀i,i<n->f i=0)->lh f n=0
 |0,_,_=>rfl
 |n+1,f,h=>by
  simp only[lh]
  rw[jv fun i hi=>h i (by omega),h n (by omega)];rfl
theorem oh {f:Nat->Int} {a:Nat} {d:Int}:∀n,lh (fun i=>f i+if i=a then d else 0) n=lh f n+if a<n then d else 0
 |0=>by simp[lh]
 |n+1=>by
  simp only[lh]
  rw[oh n]
  by_cases h:n=a
  ·subst h;simp;omega
  ·rw[if_neg h]
   by_cases h2:a<n
   ·rw[if_pos h2,if_pos (by omega)];omega
   ·rw[if_neg h2,if_neg (by omega)];omega
def lx (n:Nat) (S:Nat->Bool) (f:Nat->Nat->Int):Int:=lh (fun u=>lh (fun v=>if S u&& !S v then f u v else 0) n) n
def bump (f:Nat->Nat->Int) (a b:Nat) (d:Int):Nat->Nat->Int:=fun u v=>f u v+if u=a/\v=b then d else 0
theorem nT {n:Nat} {S:Nat->Bool} {f:Nat->Nat->Int} {a b:Nat} {d:Int} (ha:a<n) (hb:b<n):lx n S (bump f a b d)=lx n S f+if S a&& !S b then d else 0:=by
 unfold lx
 have h1:∀u,u<n->lh (fun v=>if S u&& !S v then bump f a b d u v else 0) n=lh (fun v=>if S u&& !S v then f u v else 0) n+if u=a then(if S a&& !S b then d else 0)else 0:=by
  intro u hu
  by_cases h:u=a
  ·subst h
   have h2:∀v,v<n->(if S u&& !S v then bump f u b d u v else 0)=(fun v=>if S u&& !S v then f u v else 0) v+if v=b then(if S u&& !S b then d else 0)else 0:=by
    intro v hv
    unfold bump
    by_cases h3:v=b
    ·subst h3;simp only[and_self,if_true];split<;>omega
    ·simp only[h3,and_false,if_false];split<;>omega
   rw[gR h2,oh,if_pos hb,if_pos rfl]
  ·rw[if_neg h,Int.add_zero]
   refine gR fun v hv=>?_
   unfold bump
   simp[h]
 rw[gR h1,oh,if_pos ha]
theorem Jr {n:Nat} {S:Nat->Bool} {f c:Nat->Nat->Int} (h:∀u v,u<n->v<n->f u v<=c u v):lx n S f<=lx n S c:=
 qC fun u hu=>qC fun v hv=>by split;exact h u v hu hv;exact Int.le_refl _
theorem Jq {n:Nat} {S:Nat->Bool} {f c:Nat->Nat->Int} (h:∀u v,u<n->v<n->S u=true->S v=false->f u v=c u v):lx n S f=lx n S c:=
 gR fun u hu=>gR fun v hv=>by
  split
  ·rename_i hc
   simp only[Bool.and_eq_true,Bool.not_eq_true']at hc
   exact h u v hu hv hc.1 hc.2
  ·rfl
def jX (f:Nat->Nat->Int) (a b:Nat):Nat->Nat->Int:=bump (bump f a b 1) b a (-1)
theorem EK {n:Nat} {S:Nat->Bool} {f:Nat->Nat->Int} {a b:Nat} (ha:a<n) (hb:b<n):lx n S (jX f a b)=lx n S f+bi (S a)-bi (S b):=by
 unfold jX
 rw[nT hb ha,nT ha hb]
 cases S a<;>cases S b<;>simp[bi]<;>omega
def lr (f:Nat->Nat->Int):List Nat->Nat->Nat->Int
 |a::b::r=>lr (jX f a b) (b::r)
 |_=>f
def pN (f c:Nat->Nat->Int):List Nat->Prop
 |a::b::r=>f a b<c a b/\pN f c (b::r)
 |_=>True
theorem zh {n:Nat} {S:Nat->Bool}:∀(r:List Nat) (a:Nat) (f:Nat->Nat->Int),(∀x∈a::r,x<n)->lx n S (lr f (a::r))=lx n S f+bi (S a)-bi (S ((a::r).getLast (by simp)))
 |[],a,f,_=>by simp[lr]
 |b::r,a,f,h=>by
  rw[lr,zh r b (jX f a b) fun x hx=>h x (List.mem_cons_of_mem _ hx),EK (h a (by simp)) (h b (by simp)),List.getLast_cons_cons]
  generalize bi (S b)=q
  omega
theorem pN.less {f g c:Nat->Nat->Int}:∀{p:List Nat},pN f c p->(∀u,u∈p->∀v,g u v<=f u v)->pN g c p
 |[],_,_=>trivial
 |[_],_,_=>trivial
 |a::b::r,h,hl=>⟨Int.lt_of_le_of_lt (hl a (by simp) b) h.1,pN.less (p:=b::r) h.2 fun u hu=>hl u (List.mem_cons_of_mem _ hu)⟩
theorem Dq {n:Nat} {c:Nat->Nat->Int}:∀(p:List Nat) (f:Nat->Nat->Int),p.Nodup->pN f c p->(∀u v,u<n->v<n->f u v<=c u v)->∀u v,u<n->v<n->lr f p u v<=c u v
 |[],f,_,_,h=>h
 |[_],f,_,_,h=>h
 |a::b::r,f,hn,hr,h=>by
  rw[lr]
  have mV:a∉b::r:=(List.nodup_cons.1 hn).1
  refine Dq (b::r) _ (List.nodup_cons.1 hn).2 (hr.2.less fun u hu v=>?_) fun u v hu hv=>?_
  ·unfold jX bump
   have:u≠a:=by rintro rfl;exact mV hu
   simp only[this,false_and,if_false]
   split<;>omega
  ·have h0:=h u v hu hv
   have h1:=hr.1
   unfold jX bump
   by_cases e:u=a/\v=b
   ·obtain⟨rfl,rfl⟩:=e
    rw[if_pos ⟨rfl,rfl⟩];split<;>omega
   ·rw[if_neg e];split<;>omega
structure mY (n:Nat) (c f:Nat->Nat->Int) (x y:Nat) (val:Int):Prop where
 le:∀u v,u<n->v<n->f u v<=c u v
 cut:∀S:Nat->Bool,S x=true->S y=false->lx n S f=val
theorem mY.zero {n:Nat} {c:Nat->Nat->Int} {x y:Nat} (h:∀u v,u<n->v<n->0<=c u v):mY n c (fun _ _=>0) x y 0:=
 ⟨h,fun S _ _=>jv fun u hu=>jv fun v hv=>by split<;>rfl⟩
theorem mY.aug {n:Nat} {c f:Nat->Nat->Int} {x y:Nat} {val:Int} (h:mY n c f x y val) {r:List Nat} (hl:(x::r).getLast (by simp)=y) (hn:(x::r).Nodup) (hr:pN f c (x::r)) (hb:∀v∈x::r,v<n):mY n c (lr f (x::r)) x y (val+1):=
 ⟨Dq _ _ hn hr h.le,fun S hx hy=>by rw[zh r x f hb,hl,h.cut S hx hy,hx,hy];simp[bi]⟩
theorem mY.bound {n:Nat} {c f:Nat->Nat->Int} {x y:Nat} {val:Int} (h:mY n c f x y val) {S:Nat->Bool} (hx:S x=true) (hy:S y=false):val<=lx n S c:=by
 rw[<-h.cut S hx hy];exact Jr h.le
theorem mY.full {n:Nat} {c f:Nat->Nat->Int} {x y:Nat} {val:Int} (h:mY n c f x y val) {S:Nat->Bool} (hx:S x=true) (hy:S y=false) (hS:∀u v,u<n->v<n->S u=true->S v=false->¬f u v<c u v):val=lx n S c:=by
 rw[<-h.cut S hx hy]
 exact Jq fun u v hu hv h1 h2=>by have:=hS u v hu hv h1 h2;have:=h.le u v hu hv;omega
structure PB where
 a:Nat
 b:Nat
 s:Int
 deriving Inhabited
def cj (bs:List PB) (i:Nat):PB:=bs.getD i default
def iN (S:Nat->Bool) (bs:List PB):Int:=(bs.map fun b=>if S b.a=S b.b then 0 else b.s).sum
def mH (c:Nat->Nat->Int) (b:PB):Nat->Nat->Int:=bump (bump c b.a b.b b.s) b.b b.a b.s
def kB (bs:List PB):Nat->Nat->Int:=bs.foldl mH fun _ _=>0
theorem CQ (bs:List PB) (b:PB):kB (bs++[b])=mH (kB bs) b:=by simp[kB]
theorem zw {n:Nat} {S:Nat->Bool}:∀(bs:List PB) (c:Nat->Nat->Int),(∀b∈bs,b.a<n/\b.b<n)->lx n S (bs.foldl mH c)=lx n S c+iN S bs
 |[],c,_=>by simp[iN]
 |b::bs,c,h=>by
  have hb:=h b (by simp)
  rw[List.foldl_cons,zw bs _ fun x hx=>h x (List.mem_cons_of_mem _ hx)]
  unfold mH iN
  rw[nT hb.2 hb.1,nT hb.1 hb.2,List.map_cons,List.sum_cons]
  cases S b.a<;>cases S b.b<;>simp<;>omega
theorem zx {n:Nat} {S:Nat->Bool} {bs:List PB} (h:∀b∈bs,b.a<n/\b.b<n):lx n S (kB bs)=iN S bs:=by
 rw[kB,zw bs _ h]
 have:lx n S (fun _ _=>0)=0:=jv fun u hu=>jv fun v hv=>by split<;>rfl
 omega
theorem yy:∀(bs:List PB) (c:Nat->Nat->Int),(∀b∈bs,0<=b.s)->(∀u v,0<=c u v)->∀u v,0<=bs.foldl mH c u v
 |[],c,_,h=>h
 |b::bs,c,hb,h=>by
  rw[List.foldl_cons]
  refine yy bs _ (fun x hx=>hb x (List.mem_cons_of_mem _ hx)) fun u v=>?_
  have:=hb b (by simp);have:=h u v
  unfold mH bump
  split<;>split<;>omega
theorem room_le:∀(bs:List PB) (c:Nat->Nat->Int) (m:Int),(∀b∈bs,b.s<=4)->(∀u v,c u v<=m)->0<=m->∀u v,bs.foldl mH c u v<=m+8*bs.length
 |[],c,m,_,h,_=>fun u v=>by have:=h u v;simp;omega
 |b::bs,c,m,hb,h,h0=>fun u v=>by
  rw[List.foldl_cons]
  have:=room_le bs (mH c b) (m+8) (fun x hx=>hb x (List.mem_cons_of_mem _ hx)) (fun u v=>by
   have:=hb b (by simp);have:=h u v
   unfold mH bump
   split<;>split<;>omega) (by omega) u v
  simp only[List.length_cons];omega
def kb (n:Nat) (bs:List PB) (t:Int):Prop:=∀S:Nat->Bool,S 0=true->(∃y,y<n/\S y=false)->t<=iN S bs
def EI (S:Nat->Bool) (bs:List PB) (f:Nat->Int):Int:=lh (fun i=>f i*(bi (S (cj bs i).a)-bi (S (cj bs i).b))) bs.length
structure jB (bs:List PB) (f:Nat->Int) (x y:Nat) (val:Int):Prop where
 le:∀i,i<bs.length->f i<=(cj bs i).s/\-(cj bs i).s<=f i
 cut:∀S:Nat->Bool,S x=true->S y=false->EI S bs f=val
theorem tA (S:Nat->Bool):∀bs:List PB,iN S bs=lh (fun i=>if S (cj bs i).a=S (cj bs i).b then 0 else(cj bs i).s) bs.length:=by
 intro bs
 have key:∀n,n<=bs.length->iN S (bs.take n)=lh (fun i=>if S (cj bs i).a=S (cj bs i).b then 0 else(cj bs i).s) n:=by
  intro n
  induction n with
  |zero=>intro _;rfl
  |succ n ih=>
   intro h
   have e:cj bs n=bs[n]:=by simp[cj,List.getD_eq_getElem?_getD,List.getElem?_eq_getElem (show n<bs.length by omega)]
   rw[List.take_succ_eq_append_getElem (by omega),lh,<-ih (by omega),e]
   unfold iN
   rw[List.map_append,List.sum_append]
   simp only[List.map_cons,List.map_nil,List.sum_cons,List.sum_nil,Int.add_zero]
 have:=key bs.length (Nat.le_refl _)
 rwa [List.take_length]at this
theorem jB.bound {bs:List PB} {f:Nat->Int} {x y:Nat} {val:Int} (h:jB bs f x y val) {S:Nat->Bool} (hx:S x=true) (hy:S y=false):val<=iN S bs:=by
 rw[<-h.cut S hx hy,tA]
 refine qC fun i hi=>?_
 have:=h.le i hi
 cases S (cj bs i).a<;>cases S (cj bs i).b<;>simp[bi]<;>omega
def fx (bs:List PB) (f:Nat->Int) (i u:Nat):Int:=if (cj bs i).a=u then(cj bs i).s-f i else(cj bs i).s+f i
def bQ (bs:List PB) (i u:Nat):Nat:=if (cj bs i).a=u then(cj bs i).b else(cj bs i).a
theorem jB.full {bs:List PB} {f:Nat->Int} {x y:Nat} {val:Int} (h:jB bs f x y val) {S:Nat->Bool} (hx:S x=true) (hy:S y=false)
  (hS:∀i,i<bs.length->((cj bs i).a≠(cj bs i).b->(S (cj bs i).a=true->S (cj bs i).b=false->¬0<fx bs f i (cj bs i).a)/\(S (cj bs i).b=true->S (cj bs i).a=false->¬0<fx bs f i (cj bs i).b))):val=iN S bs:=by
 rw[<-h.cut S hx hy,tA]
 refine gR fun i hi=>?_
 have h1:=h.le i hi
 by_cases mV:(cj bs i).a=(cj bs i).b
 ·rw[mV];simp
 ·have h2:=hS i hi mV
  unfold fx at h2
  rw[if_pos rfl,if_neg mV]at h2
  cases ha:S (cj bs i).a<;>cases hb:S (cj bs i).b<;>rw[ha,hb]at h2<;>simp[bi]at h2 ⊢ <;>omega
def sj (bs:List PB) (f:Nat->Int) (i u:Nat):Nat->Int:=fun j=>f j+if j=i then(if (cj bs i).a=u then 1 else -1)else 0
theorem EJ {S:Nat->Bool} {bs:List PB} {f:Nat->Int} {i u:Nat} (hi:i<bs.length) (hu:(cj bs i).a=u∨(cj bs i).b=u):EI S bs (sj bs f i u)=EI S bs f+bi (S u)-bi (S (bQ bs i u)):=by
 unfold EI sj
 have e:∀j,j<bs.length->(f j+if j=i then(if (cj bs i).a=u then 1 else -1)else 0)*(bi (S (cj bs j).a)-bi (S (cj bs j).b))=(fun j=>f j*(bi (S (cj bs j).a)-bi (S (cj bs j).b))) j+if j=i then(if (cj bs i).a=u then 1 else -1)*(bi (S (cj bs i).a)-bi (S (cj bs i).b))else 0:=by
  intro j hj
  by_cases h:j=i
  ·subst h;simp only[if_true];rw[Int.add_mul]
  ·simp only[h,if_false];simp
 rw[gR e,oh,if_pos hi]
 unfold bQ
 by_cases ha:(cj bs i).a=u
 ·rw[if_pos ha,if_pos ha,ha];omega
 ·rw[if_neg ha,if_neg ha]
  rcases hu with hu|hu
  ·exact absurd hu ha
  ·rw[hu];omega
theorem nE:∀(n:Nat) (l:List Nat),l.Nodup->(∀x∈l,x<n)->l.length<=n
 |0,l,_,h=>by
  cases l with
  |nil=>simp
  |cons x l=>exact absurd (h x (by simp)) (by omega)
 |n+1,l,hn,h=>by
  have h1:=nE n (l.erase n) (hn.erase _) fun x hx=>by
   have h2:=(hn.mem_erase_iff).1 hx
   have h3:=h x h2.2
   have h4:=h2.1
   omega
  rw[List.length_erase]at h1
  split at h1<;>omega
def eF (L:Nat->Nat) (b:PB):Nat->Nat:=fun k=>if L k=max (L b.a) (L b.b)then min (L b.a) (L b.b)else L k
def er (bs:List PB):Nat->Nat:=bs.foldl eF id
theorem ub (bs:List PB) (b:PB):er (bs++[b])=eF (er bs) b:=by simp[er]
structure ji (L:Nat->Nat):Prop where
 le:∀k,L k<=k
 idem:∀k,L (L k)=L k
theorem ji.step {L:Nat->Nat} (h:ji L) (b:PB):ji (eF L b):=by
 have ha:=h.idem b.a
 have hb:=h.idem b.b
 refine⟨fun k=>?_,fun k=>?_⟩
 ·have:=h.le k
  unfold eF
  split<;>omega
 ·have hk:=h.idem k
  have hm:L (min (L b.a) (L b.b))=min (L b.a) (L b.b):=by
   rcases Nat.le_total (L b.a) (L b.b)with h1|h1
   ·rw[Nat.min_eq_left h1,ha]
   ·rw[Nat.min_eq_right h1,hb]
  unfold eF
  by_cases h1:L k=max (L b.a) (L b.b)
  ·rw[if_pos h1,hm];split<;>rfl
  ·rw[if_neg h1,hk,if_neg h1]
theorem uc:∀(bs:List PB) (L:Nat->Nat),ji L->ji (bs.foldl eF L)
 |[],_,h=>h
 |b::bs,L,h=>uc bs _ (h.step b)
theorem sf (bs:List PB):ji (er bs):=uc bs id ⟨fun _=>Nat.le_refl _,fun _=>rfl⟩
def leads (n:Nat) (L:Nat->Nat):List Nat:=(List.range n).filter fun i=>L i==i
def members (n:Nat) (L:Nat->Nat) (i:Nat):List Nat:=(List.range n).filter fun k=>L k==i
def fc (n:Nat) (L:Nat->Nat):List (List Nat):=(leads n L).map (members n L)
def bP (L:Nat->Nat) (k:Nat):Nat:=(leads (L k) L).length
theorem gw (n:Nat) (L:Nat->Nat):leads (n+1) L=leads n L++if L n=n then[n]else[]:=by
 unfold leads
 rw[List.range_succ,List.filter_append]
 congr 1
 by_cases h:L n=n<;>simp[h]
theorem iZ (n:Nat) (L:Nat->Nat) (i:Nat):members (n+1) L i=members n L i++if L n=i then[n]else[]:=by
 unfold members
 rw[List.range_succ,List.filter_append]
 congr 1
 by_cases h:L n=i<;>simp[h]
theorem lY {L:Nat->Nat} (h:ji L) {n i:Nat} (hn:n<=i):members n L i=[]:=by
 unfold members
 rw[List.filter_eq_nil_iff]
 intro k hk
 have:=h.le k
 have:=List.mem_range.1 hk
 simp;omega
theorem sg (n:Nat) (L:Nat->Nat):(leads n L).Nodup:=List.nodup_range.filter _
theorem wV {n:Nat} {L:Nat->Nat} {i:Nat}:i∈leads n L↔i<n/\L i=i:=by simp[leads]
theorem k5 {n:Nat} {L:Nat->Nat} {i k:Nat}:k∈members n L i↔k<n/\L k=i:=by simp[members]
theorem Fw {L:Nat->Nat} {m n:Nat} (h:m<=n):∃r,leads n L=leads m L++r:=by
 obtain⟨d,rfl⟩:=Nat.le.dest h
 clear h
 induction d with
 |zero=>exact⟨[],by simp⟩
 |succ d ih=>
  obtain⟨r,hr⟩:=ih
  exact⟨r++if L (m+d)=m+d then[m+d]else[],by rw[<-Nat.add_assoc,gw,hr,List.append_assoc]⟩
theorem nW {L:Nat->Nat} (h:ji L) {n k:Nat} (hk:k<n):(leads n L)[bP L k]? =some (L k):=by
 have h1:=h.le k
 obtain⟨r,hr⟩:=Fw (L:=L) (show L k+1<=n by omega)
 rw[hr,gw,if_pos (h.idem k),List.append_assoc]
 unfold bP
 rw[List.getElem?_append_right (Nat.le_refl _),Nat.sub_self];rfl
theorem jI {L:Nat->Nat} (h:ji L) {n k:Nat} (hk:k<n):bP L k<(leads n L).length:=(List.getElem?_eq_some_iff.1 (nW h hk)).1
theorem rF {L:Nat->Nat} (h:ji L) {n k i:Nat} (hk:k<n) (hi:i<(leads n L).length):k∈members n L (leads n L)[i]↔bP L k=i:=by
 rw[k5]
 have h1:=nW h hk
 rw[List.getElem?_eq_getElem (jI h hk)]at h1
 injection h1 with h1
 constructor
 ·rintro⟨_,h2⟩
  rw[<-h1]at h2
  exact(List.getElem_inj (sg n L)).1 h2
 ·rintro rfl
  exact⟨hk,h1.symm⟩
def dm (L:Nat->Nat) (bs:List PB):List PB:=bs.filterMap fun b=>if bP L b.a=bP L b.b then none else some ⟨bP L b.a,bP L b.b,b.s⟩
def eS (L:Nat->Nat) (bs:List PB):List PB:=bs.filterMap fun b=>if bP L b.a=bP L b.b then none else some ⟨min (bP L b.a) (bP L b.b),max (bP L b.a) (bP L b.b),b.s⟩
theorem yz (L:Nat->Nat) (bs:List PB) (b:PB):dm L (bs++[b])=dm L bs++if bP L b.a=bP L b.b then[]else[⟨bP L b.a,bP L b.b,b.s⟩]:=by
 unfold dm
 rw[List.filterMap_append]
 congr 1
 by_cases h:bP L b.a=bP L b.b<;>simp[h]
theorem yC (L:Nat->Nat) (bs:List PB) (b:PB):eS L (bs++[b])=eS L bs++if bP L b.a=bP L b.b then[]else[⟨min (bP L b.a) (bP L b.b),max (bP L b.a) (bP L b.b),b.s⟩]:=by
 unfold eS
 rw[List.filterMap_append]
 congr 1
 by_cases h:bP L b.a=bP L b.b<;>simp[h]
theorem qY (S:Nat->Bool) (b:PB) (bs:List PB):iN S (b::bs)=(if S b.a=S b.b then 0 else b.s)+iN S bs:=by simp[iN]
theorem wh (S:Nat->Bool) (L:Nat->Nat):∀bs:List PB,iN S (eS L bs)=iN S (dm L bs)
 |[]=>rfl
 |b::bs=>by
  have ih:=wh S L bs
  unfold eS dm at ih ⊢
  rw[List.filterMap_cons,List.filterMap_cons]
  by_cases h:bP L b.a=bP L b.b
  ·simp only[h,if_true];exact ih
  ·simp only[h,if_false]
   rw[qY,qY,ih]
   congr 1
   simp only
   rcases Nat.le_total (bP L b.a) (bP L b.b)with h1|h1
   ·rw[Nat.min_eq_left h1,Nat.max_eq_right h1]
   ·rw[Nat.min_eq_right h1,Nat.max_eq_left h1]
    cases S (bP L b.a)<;>cases S (bP L b.b)<;>rfl
theorem CW {L:Nat->Nat} (h:ji L) {n:Nat} {bs:List PB} (hb:∀b∈bs,b.a<n/\b.b<n):∀b∈dm L bs,b.a<(leads n L).length/\b.b<(leads n L).length/\b.a≠b.b/\∃c∈bs,b.s=c.s:=by
 intro b hm
 unfold dm at hm
 obtain⟨c,hc,he⟩:=List.mem_filterMap.1 hm
 split at he
 ·cases he
 ·rename_i gM
  simp only[Option.some.injEq]at he
  subst he
  exact⟨jI h (hb c hc).1,jI h (hb c hc).2,gM,c,hc,rfl⟩
theorem CX {L:Nat->Nat} (h:ji L) {n:Nat} {bs:List PB} (hb:∀b∈bs,b.a<n/\b.b<n):∀b∈eS L bs,b.a<(leads n L).length/\b.b<(leads n L).length/\b.a≠b.b/\∃c∈bs,b.s=c.s:=by
 intro b hm
 unfold eS at hm
 obtain⟨c,hc,he⟩:=List.mem_filterMap.1 hm
 split at he
 ·cases he
 ·rename_i gM
  simp only[Option.some.injEq]at he
  subst he
  have h1:=jI h (hb c hc).1
  have h2:=jI h (hb c hc).2
  refine⟨by simp only;omega,by simp only;omega,by simp only;omega,c,hc,rfl⟩
theorem ma (L:Nat->Nat) (bs:List PB):(dm L bs).length<=bs.length/\(eS L bs).length<=bs.length:=⟨List.length_filterMap_le ..,List.length_filterMap_le ..⟩
theorem jq (n:Nat) (L:Nat->Nat):(leads n L).length<=n:=by
 have:=List.length_filter_le (fun i=>L i==i) (List.range n)
 simpa[leads]using this
def aI (t:Int) (bs:List PB):List PB:=bs.filter fun b=>decide (t<=b.s)
def nR (n:Nat) (bs:List PB) (t:Int):Prop:=
 (leads n (er (aI t bs))).length<=64/\kb (leads n (er (aI t bs))).length (dm (er (aI t bs)) bs) t
theorem Ck {n:Nat} {L:Nat->Nat} {bs:List PB} {t:Int}:kb n (eS L bs) t↔kb n (dm L bs) t:=by
 unfold kb
 constructor<;>intro h S h0 hy<;>have:=h S h0 hy<;>rw[wh]at *<;>exact this
end Go.Proofs.YtgoljkjaameagaaGreat.V

namespace Go.Proofs.YtgoljkjaameagaaGreat.V
open Go.RowKit
attribute [local irreducible] ej wpOps fQ Call
attribute [local go_sem] aH fq eD fH fG cV upd bZ K.av cC AV.cells AV.cell rowOf rowsOf part ld rowAt bK bR du dQ gE bB cR eb fF eL dh dV cP cN dD dE bF aT cG bE cI cH dS dW dU cF bJ cQ dR bD aJ cK cm gD bd cz bG aP dn aX dv AV.undef bj bx dG dO dz dF cu ea ei ck dY dX cJ cL List.getD_cons_zero List.getD_cons_succ List.getD_nil List.all_cons List.all_nil Bool.and_true Bool.true_and Bool.and_self Bool.not_true Bool.not_false Option.map_some Option.map_none Option.bind_some Option.bind_none List.length_cons List.length_nil List.take_succ_cons List.take_zero List.take_nil List.drop_succ_cons List.drop_zero List.drop_nil List.head?_cons List.map_cons List.map_nil List.getElem?_cons_zero List.getElem?_cons_succ List.cons_append List.nil_append List.append_nil List.length_map List.set_cons_zero List.set_cons_succ Nat.reduceMul eq_self Int.toNat_natCast Int.natCast_nonneg and_self true_and and_true decide_true decide_false Bool.false_eq_true Nat.zero_add Nat.add_zero List.contains_cons List.contains_nil Bool.or_false Bool.false_or beq_self_eq_true Nat.reduceBEq ne_eq not_true_eq_false not_false_eq_true Id.mk.injEq false_and and_false Nat.reduceLT Int.reduceLE Int.reduceLT Int.reduceToNat Int.reduceNeg Int.reduceAdd Nat.le_refl List.length_append beq_true beq_false Bool.not_eq_eq_eq_not or_false false_or eo aj ar aK aV bp bW aQ aZ aN aU cD bI
def ay (b:PB):List AV:=[.int .i64 b.a,.int .i64 b.b,.int .i64 b.s]
theorem Lx:∀b:PB,(ay b).length=3/\(ay b).all AV.cell=true:=fun _=>⟨rfl,rfl⟩
theorem xG (g:Rows) (n:Nat) (b:PB):dj g (n+1) (ay b)=some (ay b):=by simp[ay,aj,ar,aK]
theorem sR (g:Rows) (n:Nat) (b:PB):ep g (n+1) (ay b)=some (ay b):=by simp[ay,aS,bm,dr]
theorem G2:Ol ay (fun c=>.agg (ay c)) 3 true:=⟨fun _=>rfl,fun _=>rfl,fun x g=>by simp only[ay,aj,ar,aZ,aK,Option.map_some]⟩
def lS (s:au) (l:List ad) (i:Nat) (d:Int):List PB:=
 if 0<=eC l (aW (aO l i).bH d)/\0<gC s (aO l i).bq d (aO l (eC l (aW (aO l i).bH d)).toNat).bq then
  [⟨i,(eC l (aW (aO l i).bH d)).toNat,gC s (aO l i).bq d (aO l (eC l (aW (aO l i).bH d)).toNat).bq⟩]else[]
def fK (s:au) (l:List ad) (i m:Nat):List PB:=(List.range m).flatMap fun j:Nat=>lS s l i (1-(j:Int))
def gp (s:au) (l:List ad) (n:Nat):List PB:=(List.range n).flatMap fun i=>fK s l i 2
def cU (s:au) (l:List ad):List PB:=gp s l l.length
theorem oK (s:au) (l:List ad) (i m:Nat):fK s l i (m+1)=fK s l i m++lS s l i (1-(m:Int)):=by simp[fK,List.range_succ]
theorem pT (s:au) (l:List ad) (n:Nat):gp s l (n+1)=gp s l n++fK s l n 2:=by simp[gp,List.range_succ]
theorem BC (s:au) (l:List ad) (i:Nat) (d:Int):(lS s l i d).length<=1:=by unfold lS;split<;>simp
theorem pS (s:au) (l:List ad) (i m:Nat):(fK s l i m).length<=m:=by
 induction m with
 |zero=>simp[fK]
 |succ m ih=>rw[oK,List.length_append];have:=BC s l i (1-(m:Int));omega
theorem rU (s:au) (l:List ad) (n:Nat):(gp s l n).length<=2*n:=by
 induction n with
 |zero=>simp[gp]
 |succ n ih=>rw[pT,List.length_append];have:=pS s l n 2;omega
def sB:Id->Prop:=fun o=>o.site=124001000∨o.site=124012006
theorem Cx (s:au) (l:List ad) (hS:iH s) (hA:jM s l):aq Tryz.prog 124 [.dd (aa s),.dd [.sl (l.map ai)]] (.sl ((cU s l).map ay)):=by
 refine aq.body eE rfl fun hl n0=>?_
 clear hl
 have hF:=hA.1
 have E6:=hF.A6
 (try((repeat(revert hN;revert N;apply Pn.out));refine wk @Nat.zero_add ?_;(repeat(refine Pn.mk ?_;intro N hN))))
 refine aM (fun n env st=>∃k:Nat,n=(l.length)-k/\k<=(l.length)/\env 6=.int .i64 (k:Int)/\(lN ay 3 (env 5) st.get sB (gp s l k))) (l.length) ⟨0,by omega,by omega,sl @Nat.zero_add,⟨⟨124001000,n0+1⟩,.inl rfl,by simp only[go_sem, ↓reduceIte,Nat.reduceEqDiff,Nat.reduceAdd,Nat.reduceSub,Nat.reduceLeDiff,reduceCtorEq];rfl,by simp only[go_sem, ↓reduceIte,Nat.reduceEqDiff,Nat.reduceAdd,Nat.reduceSub,Nat.reduceLeDiff,reduceCtorEq];rfl⟩⟩ ?_
 rintro n_a env_a st_a ⟨k,rfl,ale,a6,mE⟩ dq
 have a0:=dq 0 (by kernel_rfl);have a1:=dq 1 (by kernel_rfl)
 simp only[go_sem, ↓reduceIte,Nat.reduceEqDiff,Nat.reduceAdd,Nat.reduceSub,Nat.reduceLeDiff,reduceCtorEq]at a0 a1
 clear dq
 by_cases hk:(k:Int)<(l.length:Int)
 ·have cE:∀{e:Env} {gg:Rows},(e 6=.int .i64 (IntKind.i64.wrap ((k:Int)+1)))->(lN ay 3 (e 5) gg sB (gp s l (k+1)))->∃m0,m0<(l.length)-k/\∃k:Nat,m0=(l.length)-k/\k<=(l.length)/\e 6=.int .i64 (k:Int)/\(lN ay 3 (e 5) gg sB (gp s l k)):=fun x1 x2=>⟨_,by omega,k+1,rfl,by omega,(by rw[x1,aB (by omega)]),x2⟩
  have eV:k<l.length:=by omega
  have ev:=fj eV
  have JT:=rU s l k
  (try((repeat(revert hN;revert N;apply Pn.out));refine wk (tw @a6 (tw @a0 (tw @a1 @hk))) ?_;(repeat(refine Pn.mk ?_;intro N hN))))
  refine aM (fun n env st=>∃m:Nat,n=(2)-m/\m<=(2)/\env 7=(.int .i64 (1-(m:Int)))/\(lN ay 3 (env 5) st.get sB (gp s l k++fK s l k m))) (2) ⟨0,by omega,by omega,sl (tw @a6 (tw @a0 @a1)),by(simp only[go_sem, ↓reduceIte,Nat.reduceEqDiff,Nat.reduceAdd,Nat.reduceSub,Nat.reduceLeDiff,reduceCtorEq];exact mE.cast (by simp[fK]))⟩ ?_
  rintro n_b env_b st_b ⟨m,rfl,ble,b7,bI0⟩ eP
  have b0:=eP 0 (by kernel_rfl);have b1:=eP 1 (by kernel_rfl);have b6:=eP 6 (by kernel_rfl)
  simp only[go_sem, ↓reduceIte,Nat.reduceEqDiff,Nat.reduceAdd,Nat.reduceSub,Nat.reduceLeDiff,reduceCtorEq,a6,a0,a1]at b0 b1 b6
  clear eP
  have QN:=pS s l k m
  have kZ:=oK s l k m
  by_cases hm:(m:Int)<2
  ·have eY:∀{e:Env} {gg:Rows},(e 7=(.int .i64 (1-((m+1):Int))))->(lN ay 3 (e 5) gg sB (gp s l k++fK s l k (m+1)))->∃m0,m0<(2)-m/\∃m:Nat,m0=(2)-m/\m<=(2)/\e 7=(.int .i64 (1-(m:Int)))/\(lN ay 3 (e 5) gg sB (gp s l k++fK s l k m)):=fun x1 x2=>⟨_,by omega,m+1,rfl,by omega,x1,x2⟩
   have pg:(0:Int)<=1-(m:Int):=by omega
   have hd:gn (1-(m:Int)) 0 3=true:=gr (by omega)
   have hw:IntKind.i64.wrap (1-(m:Int)-1)=1-((m:Int)+1):=by rw[bz (by omega)];omega
   have QY:=vN l hF k (1-(m:Int)) eV hd
   unfold lS at kZ
   have hT:=hA.2 _ (gP eV)
   generalize Bc:eC l (aW (aO l k).bH (1-(m:Int)))=ix at *
   by_cases hi:ix<0
   ·rw[if_neg (by omega),List.append_nil]at kZ
    (repeat(first|((repeat(revert hN;revert N;apply Pn.out));refine wk (tw @b7 (tw @b0 (tw @b1 (tw @b6 (tw @pg (tw @hw @hi)))))) ?_;(repeat(refine Pn.mk ?_;intro N hN)))|((try apply Or.inl);refine⟨_,aq.x (QY) (sd (tw @b7 (tw @b0 (tw @b1 (tw @b6 (tw @pg (tw @hw @hi))))))),?_⟩;refine hN _ _ ?_;clear hN N)))
    exact eY (sd (tw @b7 (tw @b0 (tw @b1 (tw @b6 @hw))))) (by(simp only[go_sem, ↓reduceIte,Nat.reduceEqDiff,Nat.reduceAdd,Nat.reduceSub,Nat.reduceLeDiff,reduceCtorEq];exact bI0.cast (by rw[kZ])))
   ·have Gg:0<=ix:=by omega
    have Mt:=j4 (l:=l) (p:=aW (aO l k).bH (1-(m:Int))) (by omega)
    rw[Bc]at Mt
    have j3:=fj Mt.1
    have wE:=Fm s hS (aO l k).bq (1-(m:Int)) (aO l ix.toNat).bq hT (hA.2 _ (gP Mt.1)) hd
    generalize QJ:gC s (aO l k).bq (1-(m:Int)) (aO l ix.toNat).bq=bv at *
    by_cases hb:0<bv
    ·rw[if_pos ⟨Gg,hb⟩]at kZ
     (repeat(first|((repeat(revert hN;revert N;apply Pn.out));refine wa (tw @b7 (tw @b0 (tw @b1 (tw @b6 (tw @pg (tw @hw (tw @hi (tw @Gg (tw @ev (tw @j3 (tw @hb @ai.eq_1))))))))))) ?_;(repeat(refine Pn.mk ?_;intro N hN)))|((try apply Or.inl);refine⟨_,aq.x (QY) (sd (tw @b7 (tw @b0 (tw @b1 (tw @b6 (tw @pg (tw @hw (tw @hi (tw @Gg (tw @ev (tw @j3 (tw @hb @ai.eq_1)))))))))))),?_⟩;refine hN _ _ ?_;clear hN N)|((try apply Or.inl);refine⟨_,aq.x (wE) (sd (tw @b7 (tw @b0 (tw @b1 (tw @b6 (tw @pg (tw @hw (tw @hi (tw @Gg (tw @ev (tw @j3 (tw @hb @ai.eq_1)))))))))))),?_⟩;refine hN _ _ ?_;clear hN N)))
     refine Ns (enc:=ay) (S:=sB) (L:=gp s l k++fK s l k m) (xv:=env_b 5) [⟨k,ix.toNat,bv⟩] rfl rfl (sd @Nat.zero_add) (bI0.frame fun o ho=>by rcases ho with ho|ho<;>simp only[go_sem, ↓reduceIte,Nat.reduceEqDiff,Nat.reduceAdd,Nat.reduceSub,Nat.reduceLeDiff,reduceCtorEq,yD ho]) (sd (tw @ay.eq_1 (Int.toNat_of_nonneg Gg))) Lx (.inr rfl) (by simp only[dv,List.length_append,List.length_cons,List.length_nil];omega) fun v g' hO ly=>?_
     rw[List.append_assoc,<-kZ]at hO
     clear ly
     (try((repeat(revert hN;revert N;apply Pn.out));refine wk (tw @b7 (tw @b0 (tw @b1 (tw @b6 @hw)))) ?_;(repeat(refine Pn.mk ?_;intro N hN))))
     exact eY (sd (tw @b7 (tw @b0 (tw @b1 (tw @b6 @hw))))) (by(simp only[go_sem, ↓reduceIte,Nat.reduceEqDiff,Nat.reduceAdd,Nat.reduceSub,Nat.reduceLeDiff,reduceCtorEq];exact hO))
    ·rw[if_neg fun h=>hb h.2,List.append_nil]at kZ
     (repeat(first|((repeat(revert hN;revert N;apply Pn.out));refine wk (tw @b7 (tw @b0 (tw @b1 (tw @b6 (tw @pg (tw @hw (tw @hi (tw @Gg (tw @ev (tw @j3 (tw @hb @ai.eq_1))))))))))) ?_;(repeat(refine Pn.mk ?_;intro N hN)))|((try apply Or.inl);refine⟨_,aq.x (QY) (sd (tw @b7 (tw @b0 (tw @b1 (tw @b6 (tw @pg (tw @hw (tw @hi (tw @Gg (tw @ev (tw @j3 (tw @hb @ai.eq_1)))))))))))),?_⟩;refine hN _ _ ?_;clear hN N)|((try apply Or.inl);refine⟨_,aq.x (wE) (sd (tw @b7 (tw @b0 (tw @b1 (tw @b6 (tw @pg (tw @hw (tw @hi (tw @Gg (tw @ev (tw @j3 (tw @hb @ai.eq_1)))))))))))),?_⟩;refine hN _ _ ?_;clear hN N)))
     exact eY (sd (tw @b7 (tw @b0 (tw @b1 (tw @b6 @hw))))) (by(simp only[go_sem, ↓reduceIte,Nat.reduceEqDiff,Nat.reduceAdd,Nat.reduceSub,Nat.reduceLeDiff,reduceCtorEq];exact bI0.cast (by rw[kZ])))
  ·have N1:m=2:=by omega
   subst N1
   have dJ:¬(0:Int)<=1-((2:Nat):Int):=by omega
   (try((repeat(revert hN;revert N;apply Pn.out));refine wk (tw @b7 (tw @b0 (tw @b1 (tw @b6 @dJ)))) ?_;(repeat(refine Pn.mk ?_;intro N hN))))
   exact cE (sd (tw @a6 (tw @a0 (tw @a1 (tw @b7 (tw @b0 (tw @b1 @b6))))))) (by(simp only[go_sem, ↓reduceIte,Nat.reduceEqDiff,Nat.reduceAdd,Nat.reduceSub,Nat.reduceLeDiff,reduceCtorEq];exact bI0.cast (by rw[pT])))
 ·have jy:k=l.length:=by omega
  (try((repeat(revert hN;revert N;apply Pn.out));refine wk (tw @a6 (tw @a0 (tw @a1 @hk))) ?_;(repeat(refine Pn.mk ?_;intro N hN))))
  exact uH (.inl rfl) (by simp only[go_sem, ↓reduceIte,Nat.reduceEqDiff,Nat.reduceAdd,Nat.reduceSub,Nat.reduceLeDiff,reduceCtorEq];rfl) (by rw[jy]at mE;exact mE.fV fun b=>sR _ _ b)
theorem Aj (a b:Nat):aq Tryz.prog 192 [.int .i64 a,.int .i64 b] (.int .i64 (min a b:Nat)):=by
 refine aq.body eE rfl fun hl n0=>?_
 clear hl
 by_cases h:(a:Int)<(b:Int)
 ·(try((repeat(revert hN;revert N;apply Pn.out));refine wk @h ?_;(repeat(refine Pn.mk ?_;intro N hN))))
  exact bU (b:=(a:Int)) (.inl rfl) (sd @Nat.zero_add) (by omega)
 ·(try((repeat(revert hN;revert N;apply Pn.out));refine wk @h ?_;(repeat(refine Pn.mk ?_;intro N hN))))
  exact bU (b:=(b:Int)) (.inl rfl) (sd @Nat.zero_add) (by omega)
theorem Ai (a b:Nat):aq Tryz.prog 191 [.int .i64 a,.int .i64 b] (.int .i64 (max a b:Nat)):=by
 refine aq.body eE rfl fun hl n0=>?_
 clear hl
 by_cases h:(b:Int)<(a:Int)
 ·(try((repeat(revert hN;revert N;apply Pn.out));refine wk @h ?_;(repeat(refine Pn.mk ?_;intro N hN))))
  exact bU (b:=(a:Int)) (.inl rfl) (sd @Nat.zero_add) (by omega)
 ·(try((repeat(revert hN;revert N;apply Pn.out));refine wk @h ?_;(repeat(refine Pn.mk ?_;intro N hN))))
  exact bU (b:=(b:Int)) (.inl rfl) (sd @Nat.zero_add) (by omega)
def dx (f:Nat->Nat) (n:Nat):List (List AV):=(List.range n).map fun i=>eN (f i)
theorem fN (f:Nat->Nat) (n:Nat):(dx f n).length=n:=by simp[dx]
theorem e5 {f:Nat->Nat} {n i:Nat} (h:i<n):(dx f n)[i]? =some (eN (f i)):=by simp[dx,h]
theorem gH {f g:Nat->Nat} {n:Nat} (h:∀i,i<n->f i=g i):dx f n=dx g n:=List.map_congr_left fun i hi=>by rw[h i (List.mem_range.1 hi)]
theorem oi {f g:Nat->Nat} {n k v:Nat} (hk:k<n) (hv:g k=v) (h:∀i,i<n->i≠k->g i=f i):(dx f n).set k (eN v)=dx g n:=by
 refine List.ext_getElem? fun i=>?_
 rw[List.getElem?_set]
 by_cases hi:k=i
 ·subst hi
  rw[if_pos rfl,fN,if_pos hk,e5 hk,hv]
 ·rw[if_neg hi]
  by_cases e9:i<n
  ·rw[e5 e9,e5 e9,h i e9 (fun h=>hi h.symm)]
  ·rw[List.getElem?_eq_none (by rw[fN];omega),List.getElem?_eq_none (by rw[fN];omega)]
theorem Am (cnt:Nat) (hn:cnt<=1048576) (bs:List PB) (hb:∀b∈bs,b.a<cnt/\b.b<cnt) (mM:bs.length<=1048576):aq Tryz.prog 125 [.int .i64 cnt,.sl (bs.map ay)] (.sl ((fc cnt (er bs)).map yV)):=by
 refine aq.body eE rfl fun hl n0=>?_
 clear hl
 (try((repeat(revert hN;revert N;apply Pn.out));refine wk @Nat.zero_add ?_;(repeat(refine Pn.mk ?_;intro N hN))))
 refine aM (fun n env st=>∃k:Nat,n=(cnt)-k/\k<=(cnt)/\env 6=.int .i64 (k:Int)/\(∃o:Id,env 5=.own o 0 k/\st.get o=some ⟨true,1,dx id k⟩/\o.bt<st.next)) (cnt) ⟨0,by omega,by omega,sl @Nat.zero_add,⟨⟨125001000,n0+1⟩,sd @Nat.zero_add,by simp only[go_sem, ↓reduceIte,Nat.reduceEqDiff,Nat.reduceAdd,Nat.reduceSub,Nat.reduceLeDiff,reduceCtorEq];rfl,by(try dsimp only);omega⟩⟩ ?_
 rintro n_a env_a st_a ⟨k,rfl,ale,a6,mE⟩ dq
 have a0:=dq 0 (by kernel_rfl);have a1:=dq 1 (by kernel_rfl)
 simp only[go_sem, ↓reduceIte,Nat.reduceEqDiff,Nat.reduceAdd,Nat.reduceSub,Nat.reduceLeDiff,reduceCtorEq]at a0 a1
 clear dq
 obtain⟨o,a5,ag,sY⟩:=mE
 have tl:=fN id k
 have pq:=ef sY
 by_cases hk:(k:Int)<(cnt:Int)
 ·have cE:∀{e:Env} {gg:Rows} {nx:Nat},(e 6=.int .i64 (IntKind.i64.wrap ((k:Int)+1)))->(∃o:Id,e 5=.own o 0 (k+1)/\gg o=some ⟨true,1,dx id (k+1)⟩/\o.bt<nx)->∃m0,m0<(cnt)-k/\∃k:Nat,m0=(cnt)-k/\k<=(cnt)/\e 6=.int .i64 (k:Int)/\(∃o:Id,e 5=.own o 0 k/\gg o=some ⟨true,1,dx id k⟩/\o.bt<nx):=fun x1 x2=>⟨_,by omega,k+1,rfl,by omega,(by rw[x1,aB (by omega)]),x2⟩
  have eV:k<cnt:=by omega
  have e1:k+1<=16777216:=by omega
  have oE:dx id k++[[.int .i64 (k:Int)]]=dx id (k+1):=by simp[dx,List.range_succ,eN]
  (try((repeat(revert hN;revert N;apply Pn.out));refine wk (tw @a6 (tw @a0 (tw @a1 (tw @a5 (tw @ag (tw @pq (tw @hk (tw @tl (tw @e1 @oE))))))))) ?_;(repeat(refine Pn.mk ?_;intro N hN))))
  exact cE (sd (tw @a6 (tw @a0 @a1))) (⟨⟨125005003,st_a.next+1⟩,sd @Nat.zero_add,sd @oE,by(try dsimp only);omega⟩)
 have jy:k=cnt:=by omega
 subst jy
 have SQ:st_a.get o=some ⟨true,1,dx (er (bs.take 0)) k⟩:=ag
 clear ag
 (try((repeat(revert hN;revert N;apply Pn.out));refine wk (tw @a6 (tw @a0 (tw @a1 @hk))) ?_;(repeat(refine Pn.mk ?_;intro N hN))))
 refine aM (fun n env st=>∃j:Nat,n=(bs.length)-j/\j<=(bs.length)/\env 7=.int .i64 (j:Int)/\st.get o=some ⟨true,1,dx (er (bs.take j)) k⟩/\(o.bt<st.next)) (bs.length) ⟨0,by omega,by omega,sl (tw @a6 (tw @a0 (tw @a1 (tw @a5 @SQ)))),sl (tw @a6 (tw @a0 (tw @a1 (tw @a5 @SQ)))),(by(try dsimp only);omega)⟩ ?_
 rintro n_b env_b st_b ⟨j,rfl,ble,b7,bg0,bI0⟩ eP
 have b0:=eP 0 (by kernel_rfl);have b1:=eP 1 (by kernel_rfl);have b5:=eP 5 (by kernel_rfl)
 simp only[go_sem, ↓reduceIte,Nat.reduceEqDiff,Nat.reduceAdd,Nat.reduceSub,Nat.reduceLeDiff,reduceCtorEq,a6,a0,a1,a5,SQ]at b0 b1 b5
 clear eP
 by_cases hj:(j:Int)<(bs.length:Int)
 ·have eY:∀{e:Env} {gg:Rows} {nx:Nat},(e 7=.int .i64 (IntKind.i64.wrap ((j:Int)+1)))->(gg o=some ⟨true,1,dx (er (bs.take (j+1))) k⟩)->(o.bt<nx)->∃m0,m0<(bs.length)-j/\∃j:Nat,m0=(bs.length)-j/\j<=(bs.length)/\e 7=.int .i64 (j:Int)/\gg o=some ⟨true,1,dx (er (bs.take j)) k⟩/\(o.bt<nx):=fun x1 x2 x3=>⟨_,by omega,j+1,rfl,by omega,(by rw[x1,aB (by omega)]),x2,x3⟩
  have ll:j<bs.length:=by omega
  have xR:(bs.map ay)[j]? =some (ay bs[j]):=by simp[ll]
  have JE:=hb _ (List.getElem_mem ll)
  have nC:bs.take (j+1)=bs.take j++[bs[j]]:=List.take_succ_eq_append_getElem ll
  have kZ:er (bs.take (j+1))=eF (er (bs.take j)) bs[j]:=by rw[nC,ub]
  generalize er (bs.take j)=L at *
  generalize bs[j]=b at *
  have hA:=e5 (f:=L) JE.1
  have hB:=e5 (f:=L) JE.2
  have QC:=Aj (L b.a) (L b.b)
  have QD:=Ai (L b.a) (L b.b)
  have tl:=fN L k
  have gh:(b.a:Int)<(k:Int):=by omega
  have fa:(b.b:Int)<(k:Int):=by omega
  (try((repeat(revert hN;revert N;apply Pn.out));refine wk (tw @b7 (tw @bg0 (tw @b0 (tw @b1 (tw @b5 (tw @hj (tw @xR (tw @ay.eq_1 (tw @hA (tw @hB (tw @gh (tw @fa (tw @tl @eN.eq_1))))))))))))) ?_;(repeat(refine Pn.mk ?_;intro N hN))))
  refine aM (fun n env st=>∃i:Nat,n=(k)-i/\i<=(k)/\env 10=.int .i64 (i:Int)/\st.get o=some ⟨true,1,dx (fun x=>if x<i then eF L b x else L x) k⟩/\(o.bt<st.next)) (k) ⟨0,by omega,by omega,sl (tw @b7 (tw @bg0 (tw @b0 (tw @b1 (tw @b5 @Nat.not_lt_zero))))),sl (tw @b7 (tw @bg0 (tw @b0 (tw @b1 (tw @b5 @Nat.not_lt_zero))))),(by(try dsimp only);omega)⟩ ?_
  rintro n_c env_c st_c ⟨i,rfl,cle,je,cg0,cI0⟩ il
  have c0:=il 0 (by kernel_rfl);have c1:=il 1 (by kernel_rfl);have c5:=il 5 (by kernel_rfl);have c7:=il 7 (by kernel_rfl);have c8:=il 8 (by kernel_rfl);have c9:=il 9 (by kernel_rfl)
  simp only[go_sem, ↓reduceIte,Nat.reduceEqDiff,Nat.reduceAdd,Nat.reduceSub,Nat.reduceLeDiff,reduceCtorEq,b7,bg0,b0,b1,b5,Nat.not_lt_zero]at c0 c1 c5 c7 c8 c9
  clear il
  have hC:=e5 (f:=fun x=>if x<i then eF L b x else L x) (n:=k) (i:=i)
  have tc:=fN (fun x=>if x<i then eF L b x else L x) k
  by_cases hi:(i:Int)<(k:Int)
  ·have fY:∀{e:Env} {gg:Rows} {nx:Nat},(e 10=.int .i64 (IntKind.i64.wrap ((i:Int)+1)))->(gg o=some ⟨true,1,dx (fun x=>if x<(i+1)then eF L b x else L x) k⟩)->(o.bt<nx)->∃m0,m0<(k)-i/\∃i:Nat,m0=(k)-i/\i<=(k)/\e 10=.int .i64 (i:Int)/\gg o=some ⟨true,1,dx (fun x=>if x<i then eF L b x else L x) k⟩/\(o.bt<nx):=fun x1 x2 x3=>⟨_,by omega,i+1,rfl,by omega,(by rw[x1,aB (by omega)]),x2,x3⟩
   have e9:i<k:=by omega
   replace hC:=hC e9
   rw[if_neg (Nat.lt_irrefl i)]at hC
   by_cases he:L i=max (L b.a) (L b.b)
   ·have uZ:decide ((L i:Int)=((max (L b.a) (L b.b):Nat):Int))=true:=decide_eq_true (by rw[he])
    have eQ:(dx (fun x=>if x<i then eF L b x else L x) k).set i (eN (min (L b.a) (L b.b)))=dx (fun x=>if x<i+1 then eF L b x else L x) k:=oi e9 (by rw[if_pos (by omega),eF,if_pos he]) fun x hx Bf=>by
     by_cases h:x<i
     ·rw[if_pos h,if_pos (by omega)]
     ·rw[if_neg h,if_neg (by omega)]
    rw[eN]at eQ hC
    (repeat(first|((repeat(revert hN;revert N;apply Pn.out));refine wk (tw @je (tw @cg0 (tw @c0 (tw @c1 (tw @c5 (tw @c7 (tw @c8 (tw @c9 (tw @hi (tw @hC (tw @tc (tw @uZ @eQ)))))))))))) ?_;(repeat(refine Pn.mk ?_;intro N hN)))|((try apply Or.inl);refine⟨_,aq.x (QC) (sd (tw @je (tw @cg0 (tw @c0 (tw @c1 (tw @c5 (tw @c7 (tw @c8 (tw @c9 (tw @hi (tw @hC (tw @tc (tw @uZ @eQ))))))))))))),?_⟩;refine hN _ _ ?_;clear hN N)|((try apply Or.inl);refine⟨_,aq.x (QD) (sd (tw @je (tw @cg0 (tw @c0 (tw @c1 (tw @c5 (tw @c7 (tw @c8 (tw @c9 (tw @hi (tw @hC (tw @tc (tw @uZ @eQ))))))))))))),?_⟩;refine hN _ _ ?_;clear hN N)))
    refine fY ?_ ?_ (by(try dsimp only);omega)
    all_goals simp only[go_sem, ↓reduceIte,Nat.reduceEqDiff,Nat.reduceAdd,Nat.reduceSub,Nat.reduceLeDiff,reduceCtorEq,je,cg0,c0,c1,c5,c7,c8,c9]
   ·have uZ:decide ((L i:Int)=((max (L b.a) (L b.b):Nat):Int))=false:=decide_eq_false fun h=>he (by omega)
    have lz:dx (fun x=>if x<i then eF L b x else L x) k=dx (fun x=>if x<i+1 then eF L b x else L x) k:=gH fun x hx=>by
     by_cases h:x<i
     ·rw[if_pos h,if_pos (by omega)]
     ·by_cases Bf:x=i
      ·subst Bf;rw[if_neg h,if_pos (by omega),eF,if_neg he]
      ·rw[if_neg h,if_neg (by omega)]
    rw[eN]at hC
    (repeat(first|((repeat(revert hN;revert N;apply Pn.out));refine wk (tw @je (tw @cg0 (tw @c0 (tw @c1 (tw @c5 (tw @c7 (tw @c8 (tw @c9 (tw @hi (tw @hC (tw @tc @uZ))))))))))) ?_;(repeat(refine Pn.mk ?_;intro N hN)))|((try apply Or.inl);refine⟨_,aq.x (QC) (sd (tw @je (tw @cg0 (tw @c0 (tw @c1 (tw @c5 (tw @c7 (tw @c8 (tw @c9 (tw @hi (tw @hC (tw @tc @uZ)))))))))))),?_⟩;refine hN _ _ ?_;clear hN N)|((try apply Or.inl);refine⟨_,aq.x (QD) (sd (tw @je (tw @cg0 (tw @c0 (tw @c1 (tw @c5 (tw @c7 (tw @c8 (tw @c9 (tw @hi (tw @hC (tw @tc @uZ)))))))))))),?_⟩;refine hN _ _ ?_;clear hN N)))
    rw[lz]at cg0
    refine fY ?_ ?_ (by(try dsimp only);omega)
    all_goals simp only[go_sem, ↓reduceIte,Nat.reduceEqDiff,Nat.reduceAdd,Nat.reduceSub,Nat.reduceLeDiff,reduceCtorEq,je,cg0,c0,c1,c5,c7,c8,c9]
  ·have wJ:i=k:=by omega
   subst wJ
   have dy:dx (fun x=>if x<i then eF L b x else L x) i=dx (eF L b) i:=gH fun x hx=>if_pos hx
   rw[dy]at cg0
   rw[<-kZ]at cg0
   (try((repeat(revert hN;revert N;apply Pn.out));refine wk (tw @je (tw @cg0 (tw @c0 (tw @c1 (tw @c5 (tw @c7 (tw @c8 (tw @c9 (tw @hi @tc))))))))) ?_;(repeat(refine Pn.mk ?_;intro N hN))))
   refine eY ?_ ?_ (by(try dsimp only);omega)
   all_goals simp only[go_sem, ↓reduceIte,Nat.reduceEqDiff,Nat.reduceAdd,Nat.reduceSub,Nat.reduceLeDiff,reduceCtorEq,b7,bg0,b0,b1,b5,je,cg0,c0,c1,c5,c7,c8,c9]
 have gq:j=bs.length:=by omega
 subst gq
 rw[List.take_length]at bg0
 have hL:=sf bs
 generalize er bs=L at *
 have tl:=fN L k
 (try((repeat(revert hN;revert N;apply Pn.out));refine wk (tw @b7 (tw @bg0 (tw @b0 (tw @b1 (tw @b5 @hj))))) ?_;(repeat(refine Pn.mk ?_;intro N hN))))
 have Mz:o.bt<st_b.next:=bI0
 refine aM (fun n env st=>∃i:Nat,n=(k)-i/\i<=(k)/\env 12=.int .i64 (i:Int)/\st.get o=some ⟨true,1,dx L k⟩/\(∃oo rows ids,env 11=.own oo 0 rows.length/\st.get oo=some ⟨true,1,rows⟩/\eM NN st.get rows ((leads i L).map (members k L)) ids/\(∀x∈oo::ids,st_b.next<=x.bt/\x.bt<st.next)/\st_b.next<=st.next/\oo∉ids)) (k) ⟨0,by omega,by omega,sl (tw @b7 (tw @bg0 (tw @b0 (tw @b1 (tw @b5 (ef Mz)))))),sl (tw @b7 (tw @bg0 (tw @b0 (tw @b1 (tw @b5 (ef Mz)))))),⟨⟨125016000,st_b.next+1⟩,[],[],by(simp only[go_sem, ↓reduceIte,Nat.reduceEqDiff,Nat.reduceAdd,Nat.reduceSub,Nat.reduceLeDiff,reduceCtorEq])<;>rfl,sd @Nat.zero_add,.nil,fun x hx=>by rw[List.mem_singleton.1 hx];(try dsimp only);omega,by(try dsimp only);omega,by simp⟩⟩ ?_
 rintro n_d env_d st_d ⟨i,rfl,dle,d12,dg0,dI0⟩ dfr
 have d0:=dfr 0 (by kernel_rfl);have d5:=dfr 5 (by kernel_rfl)
 simp only[go_sem, ↓reduceIte,Nat.reduceEqDiff,Nat.reduceAdd,Nat.reduceSub,Nat.reduceLeDiff,reduceCtorEq,b7,bg0,b0,b1,b5,ef Mz]at d0 d5
 clear dfr
 obtain⟨oo,rows,ids,d11,dg,hR,mQ,hle,vG⟩:=dI0
 have oE:=gw i L
 have sZ:=hR.len
 by_cases hi:(i:Int)<(k:Int)
 ·have si:∀{e:Env} {gg:Rows} {nx:Nat},(e 12=.int .i64 (IntKind.i64.wrap ((i:Int)+1)))->(gg o=some ⟨true,1,dx L k⟩)->(∃oo rows ids,e 11=.own oo 0 rows.length/\gg oo=some ⟨true,1,rows⟩/\eM NN gg rows ((leads (i+1) L).map (members k L)) ids/\(∀x∈oo::ids,st_b.next<=x.bt/\x.bt<nx)/\st_b.next<=nx/\oo∉ids)->∃m0,m0<(k)-i/\∃i:Nat,m0=(k)-i/\i<=(k)/\e 12=.int .i64 (i:Int)/\gg o=some ⟨true,1,dx L k⟩/\(∃oo rows ids,e 11=.own oo 0 rows.length/\gg oo=some ⟨true,1,rows⟩/\eM NN gg rows ((leads i L).map (members k L)) ids/\(∀x∈oo::ids,st_b.next<=x.bt/\x.bt<nx)/\st_b.next<=nx/\oo∉ids):=fun x1 x2 x3=>⟨_,by omega,i+1,rfl,by omega,(by rw[x1,aB (by omega)]),x2,x3⟩
  have e9:i<k:=by omega
  have hC:=e5 (f:=L) e9
  have j9:=ef (i:=o) (n:=st_d.next) (by omega)
  have PG:=ef (i:=oo) (n:=st_d.next) (mQ oo (by simp)).2
  by_cases he:L i=i
  ·rw[if_pos he]at oE
   have uZ:decide ((L i:Int)=(i:Int))=true:=decide_eq_true (by rw[he])
   rw[eN]at hC
   (try((repeat(revert hN;revert N;apply Pn.out));refine wk (tw @d12 (tw @dg0 (tw @d0 (tw @d5 (tw @d11 (tw @dg (tw @hi (tw @hC (tw @tl (tw @uZ (tw @j9 @PG))))))))))) ?_;(repeat(refine Pn.mk ?_;intro N hN))))
   refine aM (fun n env st=>∃m:Nat,n=((k-i))-m/\m<=((k-i))/\env 14=(.int .i64 ((i+m:Nat):Int))/\(∃pp:Id,env 13=.own pp 0 (members (i+m) L i).length/\st.get pp=some ⟨true,1,(members (i+m) L i).map eN⟩/\st_d.next<=pp.bt/\pp.bt<st.next/\(∀x:Id,x.bt<st_d.next->st.get x=st_d.get x)/\st_d.next<=st.next)) ((k-i)) ⟨0,by omega,by omega,sl (tw @d12 (tw @dg0 (tw @d0 (tw @d5 @d11)))),⟨⟨125021000,st_d.next+1+1⟩,by rw[show members (i+0) L i=[]from lY hL (Nat.le_refl i)];(simp only[go_sem, ↓reduceIte,Nat.reduceEqDiff,Nat.reduceAdd,Nat.reduceSub,Nat.reduceLeDiff,reduceCtorEq])<;>rfl,by rw[show members (i+0) L i=[]from lY hL (Nat.le_refl i)];(simp only[go_sem, ↓reduceIte,Nat.reduceEqDiff,Nat.reduceAdd,Nat.reduceSub,Nat.reduceLeDiff,reduceCtorEq])<;>rfl,by(try dsimp only);omega,by(try dsimp only);omega,fun x hx=>sd (ef hx),by(try dsimp only);omega⟩⟩ ?_
   rintro n_f env_f st_f ⟨m,rfl,fle,f14,fI0⟩ ffr
   have f0:=ffr 0 (by kernel_rfl);have f5:=ffr 5 (by kernel_rfl);have f11:=ffr 11 (by kernel_rfl);have f12:=ffr 12 (by kernel_rfl)
   simp only[go_sem, ↓reduceIte,Nat.reduceEqDiff,Nat.reduceAdd,Nat.reduceSub,Nat.reduceLeDiff,reduceCtorEq,d12,dg0,d0,d5,d11]at f0 f5 f11 f12
   clear ffr
   obtain⟨pp,f13,fg,ME,Hx,ly,nV⟩:=fI0
   have sH:st_f.get o=some ⟨true,1,dx L k⟩:=(ly o (by omega)).trans dg0
   have Sz:st_f.get oo=some ⟨true,1,rows⟩:=(ly oo (mQ oo (by simp)).2).trans dg
   have yZ:=ef Hx
   have z7:=ef (i:=o) (n:=st_f.next) (by omega)
   have PH:=ef (i:=oo) (n:=st_f.next) (by have:=(mQ oo (by simp)).2;omega)
   have N2:members (i+(m+1)) L i=members (i+m) L i++if L (i+m)=i then[i+m]else[]:=iZ (i+m) L i
   have SJ:(members (i+m) L i).length<=i+m:=by
    have:=List.length_filter_le (fun k=>L k==i) (List.range (i+m))
    simpa[members]using this
   have x1:=dI (a:=o) (b:=pp) (by omega)
   have x2:=dI (a:=oo) (b:=pp) (by have:=(mQ oo (by simp)).2;omega)
   have x3:=dI (a:=o) (b:=oo) (by have:=(mQ oo (by simp)).1;omega)
   by_cases hm:m<k-i
   ·have qo:∀{e:Env} {gg:Rows} {nx:Nat},(e 14=(.int .i64 ((i+(m+1):Nat):Int)))->(∃pp:Id,e 13=.own pp 0 (members (i+(m+1)) L i).length/\gg pp=some ⟨true,1,(members (i+(m+1)) L i).map eN⟩/\st_d.next<=pp.bt/\pp.bt<nx/\(∀x:Id,x.bt<st_d.next->gg x=st_d.get x)/\st_d.next<=nx)->∃m0,m0<((k-i))-m/\∃m:Nat,m0=((k-i))-m/\m<=((k-i))/\e 14=(.int .i64 ((i+m:Nat):Int))/\(∃pp:Id,e 13=.own pp 0 (members (i+m) L i).length/\gg pp=some ⟨true,1,(members (i+m) L i).map eN⟩/\st_d.next<=pp.bt/\pp.bt<nx/\(∀x:Id,x.bt<st_d.next->gg x=st_d.get x)/\st_d.next<=nx):=fun x1 x2=>⟨_,by omega,m+1,rfl,by omega,x1,x2⟩
    have Cj:((i+m:Nat):Int)<(k:Int):=by omega
    have RQ:=e5 (f:=L) (show i+m<k by omega)
    have hw:IntKind.i64.wrap (((i+m:Nat):Int)+1)=((i+(m+1):Nat):Int):=by rw[bz (by omega)];omega
    rw[eN]at RQ
    by_cases hq:L (i+m)=i
    ·have oM:decide ((L (i+m):Int)=(i:Int))=true:=decide_eq_true (by rw[hq])
     rw[if_pos hq]at N2
     have e1:(members (i+m) L i).length+1<=16777216:=by omega
     have gm:((members (i+m) L i).map eN).length=(members (i+m) L i).length:=by simp
     (try((repeat(revert hN;revert N;apply Pn.out));refine wk (tw @f14 (tw @f0 (tw @f5 (tw @f11 (tw @f12 (tw @f13 (tw @fg (tw @sH (tw @Cj (tw @RQ (tw @tl (tw @oM (tw @yZ (tw @z7 (tw @x1 (tw @e1 @gm)))))))))))))))) ?_;(repeat(refine Pn.mk ?_;intro N hN))))
     exact qo (sd (tw @f14 (tw @f0 (tw @f5 (tw @f11 (tw @f12 (tw @sH (tw @hw (tw @z7 @x1))))))))) (⟨⟨125026003,st_f.next+1+1⟩,by rw[N2,List.length_append];simp only[go_sem, ↓reduceIte,Nat.reduceEqDiff,Nat.reduceAdd,Nat.reduceSub,Nat.reduceLeDiff,reduceCtorEq,List.length_cons,List.length_nil],by rw[N2,List.map_append,List.map_cons,List.map_nil];simp only[go_sem, ↓reduceIte,Nat.reduceEqDiff,Nat.reduceAdd,Nat.reduceSub,Nat.reduceLeDiff,reduceCtorEq,eN],by(try dsimp only);omega,by(try dsimp only);omega,fun x hx=>by
      have y1:=ly x hx
      have y2:=dI (a:=x) (b:=pp) (by omega)
      simp only[go_sem, ↓reduceIte,Nat.reduceEqDiff,Nat.reduceAdd,Nat.reduceSub,Nat.reduceLeDiff,reduceCtorEq,ef (show x.bt<st_f.next by omega),y1,y2],by(try dsimp only);omega⟩)
    ·have oM:decide ((L (i+m):Int)=(i:Int))=false:=decide_eq_false fun h=>hq (by omega)
     rw[if_neg hq,List.append_nil]at N2
     (try((repeat(revert hN;revert N;apply Pn.out));refine wk (tw @f14 (tw @f0 (tw @f5 (tw @f11 (tw @f12 (tw @f13 (tw @fg (tw @sH (tw @Cj (tw @RQ (tw @tl (tw @oM (tw @yZ (tw @z7 @x1)))))))))))))) ?_;(repeat(refine Pn.mk ?_;intro N hN))))
     exact qo (sd (tw @f14 (tw @f0 (tw @f5 (tw @f11 (tw @f12 (tw @sH @hw))))))) (⟨pp,by rw[N2];simp only[go_sem, ↓reduceIte,Nat.reduceEqDiff,Nat.reduceAdd,Nat.reduceSub,Nat.reduceLeDiff,reduceCtorEq,f13],by rw[N2];simp only[go_sem, ↓reduceIte,Nat.reduceEqDiff,Nat.reduceAdd,Nat.reduceSub,Nat.reduceLeDiff,reduceCtorEq,fg],ME,by(try dsimp only);omega,ly,by(try dsimp only);omega⟩)
   ·have hmk:i+m=k:=by omega
    have Cj:¬((i+m:Nat):Int)<(k:Int):=by omega
    rw[hmk]at f13 fg SJ
    have e1:rows.length+1<=16777216:=by
     have:=jq i L
     rw[sZ,List.length_map];omega
    (try((repeat(revert hN;revert N;apply Pn.out));refine wk (tw @f14 (tw @f0 (tw @f5 (tw @f11 (tw @f12 (tw @f13 (tw @fg (tw @sH (tw @Sz (tw @Cj (tw @yZ (tw @z7 (tw @PH (tw @x1 (tw @x2 @e1))))))))))))))) ?_;(repeat(refine Pn.mk ?_;intro N hN))))
    refine si ?_ ?_ (⟨⟨125027003,st_f.next+1⟩,rows++[[.own pp 0 (members k L i).length]],ids++[pp],by rw[List.length_append];simp only[go_sem, ↓reduceIte,Nat.reduceEqDiff,Nat.reduceAdd,Nat.reduceSub,Nat.reduceLeDiff,reduceCtorEq,List.length_cons,List.length_nil],sd @Nat.zero_add,by
      rw[oE,List.map_append]
      refine(hR.frame M4 fun x hx=>?_).app (.one ⟨pp,rfl,?_,rfl⟩)
      ·have h1:=mQ x (by simp[hx])
       have y1:=ly x h1.2
       have y2:=dI (a:=x) (b:=pp) (by omega)
       have y3:(x=oo)=False:=by
        simp only[eq_iff_iff,iff_false]
        rintro rfl
        exact vG hx
       simp only[go_sem, ↓reduceIte,Nat.reduceEqDiff,Nat.reduceAdd,Nat.reduceSub,Nat.reduceLeDiff,reduceCtorEq,ef (show x.bt<st_f.next by omega),y1,y2,y3]
      ·simp only[go_sem, ↓reduceIte,Nat.reduceEqDiff,Nat.reduceAdd,Nat.reduceSub,Nat.reduceLeDiff,reduceCtorEq,yZ,x2,fg],fun x hx=>by
      rcases List.mem_cons.1 hx with rfl|hx
      ·(try dsimp only);omega
      ·rcases List.mem_append.1 hx with hx|hx
       ·have:=mQ x (by simp[hx]);(try dsimp only);omega
       ·rw[List.mem_singleton.1 hx];(try dsimp only);omega,by(try dsimp only);omega,fun hc=>by
      rcases List.mem_append.1 hc with hc|hc
      ·have:=(mQ _ (List.mem_cons_of_mem _ hc)).2;(try dsimp only at this);omega
      ·have:=List.mem_singleton.1 hc;rw[<-this]at Hx;(try dsimp only at Hx);omega⟩)
    all_goals simp only[go_sem, ↓reduceIte,Nat.reduceEqDiff,Nat.reduceAdd,Nat.reduceSub,Nat.reduceLeDiff,reduceCtorEq,f14,f0,f5,f11,f12,sH,z7,x3]
  ·rw[if_neg he,List.append_nil]at oE
   have uZ:decide ((L i:Int)=(i:Int))=false:=decide_eq_false fun h=>he (by omega)
   rw[eN]at hC
   (try((repeat(revert hN;revert N;apply Pn.out));refine wk (tw @d12 (tw @dg0 (tw @d0 (tw @d5 (tw @d11 (tw @dg (tw @hi (tw @hC (tw @tl (tw @uZ (tw @j9 @PG))))))))))) ?_;(repeat(refine Pn.mk ?_;intro N hN))))
   refine si ?_ ?_ (⟨oo,rows,ids,sd @d11,sd @dg,by rw[oE];exact hR,fun x hx=>by have:=mQ x hx;(try dsimp only);omega,by(try dsimp only);omega,vG⟩)
   all_goals simp only[go_sem, ↓reduceIte,Nat.reduceEqDiff,Nat.reduceAdd,Nat.reduceSub,Nat.reduceLeDiff,reduceCtorEq,d12,dg0,d0,d5]
 ·have wJ:i=k:=by omega
  (try((repeat(revert hN;revert N;apply Pn.out));refine wk (tw @d12 (tw @dg0 (tw @d0 (tw @d5 (tw @d11 (tw @dg @hi)))))) ?_;(repeat(refine Pn.mk ?_;intro N hN))))
  refine uH (.inl rfl) (by simp only[go_sem, ↓reduceIte,Nat.reduceEqDiff,Nat.reduceAdd,Nat.reduceSub,Nat.reduceLeDiff,reduceCtorEq];rfl) ?_
  rw[sS dg (by simp) (rows':=(fc k L).map yV) (by rw[List.drop_zero,List.take_of_length_le (Nat.le_refl _)];rw[wJ]at hR;exact HQ 3 hR)]
theorem uR (n:Nat):List.replicate n [AV.int .i64 0]=dx (fun _=>0) n:=by
 refine List.ext_getElem? fun i=>?_
 by_cases h:i<n
 ·rw[e5 h,List.getElem?_replicate,if_pos h];rfl
 ·rw[List.getElem?_eq_none (by simp;omega),List.getElem?_eq_none (by rw[fN];omega)]
def cW (cnt:Nat) (L:Nat->Nat) (i m:Nat):Nat->Nat:=fun x=>if bP L x<i then bP L x else if x∈(members cnt L ((leads cnt L).getD i 0)).take m then i else 0
theorem nD (cnt:Nat) (L:Nat->Nat):cW cnt L 0 0=fun _=>0:=by funext x;simp[cW]
theorem sq (t:Int) (bs:List PB) (k:Nat) (h:k<bs.length):aI t (bs.take (k+1))=aI t (bs.take k)++if t<=(bs[k]).s then[bs[k]]else[]:=by
 unfold aI
 rw[List.take_succ_eq_append_getElem h,List.filter_append]
 congr 1
 by_cases h:t<=bs[k].s<;>simp[h]
theorem uO {t:Int} {bs:List PB} {b:PB} (h:b∈aI t bs):b∈bs:=(List.mem_filter.1 h).1
theorem mb (t:Int) (bs:List PB):(aI t bs).length<=bs.length:=List.length_filter_le _ _
theorem Ao (cnt:Nat) (hn:cnt<=1048576) (bs:List PB) (hb:∀b∈bs,b.a<cnt/\b.b<cnt) (mM:bs.length<=1048576) (t:Int):aq Tryz.prog 240 [.int .i64 cnt,.sl (bs.map ay),.int .i64 t] (.im [.int .i64 (leads cnt (er (aI t bs))).length,.sl ((eS (er (aI t bs)) bs).map ay)]):=by
 refine aq.body eE rfl fun hl n0=>?_
 clear hl
 (try((repeat(revert hN;revert N;apply Pn.out));refine wk @Nat.zero_add ?_;(repeat(refine Pn.mk ?_;intro N hN))))
 refine aM (fun n env st=>∃k:Nat,n=(bs.length)-k/\k<=(bs.length)/\env 9=.int .i64 (k:Int)/\(∃o:Id,env 8=.own o 0 (aI t (bs.take k)).length/\st.get o=some ⟨true,3,(aI t (bs.take k)).map ay⟩/\o.bt<st.next)) (bs.length) ⟨0,by omega,by omega,sl @Nat.zero_add,⟨⟨240001000,n0+1⟩,by(simp only[go_sem, ↓reduceIte,Nat.reduceEqDiff,Nat.reduceAdd,Nat.reduceSub,Nat.reduceLeDiff,reduceCtorEq])<;>rfl,by(simp only[go_sem, ↓reduceIte,Nat.reduceEqDiff,Nat.reduceAdd,Nat.reduceSub,Nat.reduceLeDiff,reduceCtorEq])<;>rfl,by(try dsimp only);omega⟩⟩ ?_
 rintro n_a env_a st_a ⟨k,rfl,ale,a9,mE⟩ dq
 have a0:=dq 0 (by kernel_rfl);have a1:=dq 1 (by kernel_rfl);have a2:=dq 2 (by kernel_rfl)
 simp only[go_sem, ↓reduceIte,Nat.reduceEqDiff,Nat.reduceAdd,Nat.reduceSub,Nat.reduceLeDiff,reduceCtorEq]at a0 a1 a2
 clear dq
 obtain⟨o,a8,ag,sY⟩:=mE
 have pq:=ef sY
 by_cases hk:(k:Int)<(bs.length:Int)
 ·have cE:∀{e:Env} {gg:Rows} {nx:Nat},(e 9=.int .i64 (IntKind.i64.wrap ((k:Int)+1)))->(∃o:Id,e 8=.own o 0 (aI t (bs.take (k+1))).length/\gg o=some ⟨true,3,(aI t (bs.take (k+1))).map ay⟩/\o.bt<nx)->∃m0,m0<(bs.length)-k/\∃k:Nat,m0=(bs.length)-k/\k<=(bs.length)/\e 9=.int .i64 (k:Int)/\(∃o:Id,e 8=.own o 0 (aI t (bs.take k)).length/\gg o=some ⟨true,3,(aI t (bs.take k)).map ay⟩/\o.bt<nx):=fun x1 x2=>⟨_,by omega,k+1,rfl,by omega,(by rw[x1,aB (by omega)]),x2⟩
  have eV:k<bs.length:=by omega
  have ev:(bs.map ay)[k]? =some (ay bs[k]):=by simp[eV]
  have hs:=sq t bs k eV
  have u9:=mb t (bs.take k)
  rw[List.length_take]at u9
  by_cases hc:t<=(bs[k]).s
  ·rw[if_pos hc]at hs
   have e1:(aI t (bs.take k)).length+1<=16777216:=by omega
   have gm:((aI t (bs.take k)).map ay).length=(aI t (bs.take k)).length:=by simp
   generalize bs[k]=b at *
   (try((repeat(revert hN;revert N;apply Pn.out));refine wk (tw @a9 (tw @a0 (tw @a1 (tw @a2 (tw @a8 (tw @ag (tw @pq (tw @hk (tw @ev (tw @hc (tw @e1 (tw @gm @ay.eq_1)))))))))))) ?_;(repeat(refine Pn.mk ?_;intro N hN))))
   exact cE (sd (tw @a9 (tw @a0 (tw @a1 @a2)))) (⟨⟨240006006,st_a.next+1+1⟩,by rw[hs,List.length_append];simp only[go_sem, ↓reduceIte,Nat.reduceEqDiff,Nat.reduceAdd,Nat.reduceSub,Nat.reduceLeDiff,reduceCtorEq,List.length_cons,List.length_nil],by rw[hs,List.map_append,List.map_cons,List.map_nil];simp only[go_sem, ↓reduceIte,Nat.reduceEqDiff,Nat.reduceAdd,Nat.reduceSub,Nat.reduceLeDiff,reduceCtorEq,ay],by(try dsimp only);omega⟩)
  ·rw[if_neg hc,List.append_nil]at hs
   generalize bs[k]=b at *
   (try((repeat(revert hN;revert N;apply Pn.out));refine wk (tw @a9 (tw @a0 (tw @a1 (tw @a2 (tw @a8 (tw @ag (tw @pq (tw @hk (tw @ev (tw @hc @ay.eq_1)))))))))) ?_;(repeat(refine Pn.mk ?_;intro N hN))))
   exact cE (sd (tw @a9 (tw @a0 (tw @a1 @a2)))) (⟨o,by rw[hs];simp only[go_sem, ↓reduceIte,Nat.reduceEqDiff,Nat.reduceAdd,Nat.reduceSub,Nat.reduceLeDiff,reduceCtorEq,a8],by rw[hs];simp only[go_sem, ↓reduceIte,Nat.reduceEqDiff,Nat.reduceAdd,Nat.reduceSub,Nat.reduceLeDiff,reduceCtorEq,ag],by(try dsimp only);omega⟩)
 have jy:k=bs.length:=by omega
 subst jy
 rw[List.take_length]at a8 ag
 have Gf:=Am cnt hn (aI t bs) (fun b h=>hb b (uO h)) (by have:=mb t bs;omega)
 have hL:=sf (aI t bs)
 have A9:fz (eo st_a.get) 6 (.own o 0 (aI t bs).length)=some (.sl ((aI t bs).map ay)):=gO (sz:=3) (by simp[eo,ag]) rfl fun b=>xG _ 4 b
 have Sy:∀x,dj (eo st_a.get) 6 [.int .i64 x,.own o 0 (aI t bs).length]=some [.int .i64 x,.sl ((aI t bs).map ay)]:=fun x=>by simp only[aj,ar,aK,A9,Option.map_some]
 (try((repeat(revert hN;revert N;apply Pn.out));refine wk (tw @a9 (tw @a0 (tw @a1 (tw @a2 (tw @a8 @hk))))) ?_;(repeat(refine Pn.mk ?_;intro N hN))))
 refine .inl ⟨_,aq.x Gf (Sy _),?_⟩
 refine hN _ _ ?_
 clear hN N
 generalize er (aI t bs)=L at *
 have qN:((fc cnt L).map yV).length=(leads cnt L).length:=by simp[fc]
 have QV:=jq cnt L
 have jk:(0:Int)<=(cnt:Int):=by omega
 have oA:(cnt:Int)<=((16777216:Nat):Int):=by omega
 have gK:List.replicate cnt [AV.int .i64 0]=dx (cW cnt L 0 0) cnt:=by rw[uR,nD]
 (try((repeat(revert hN;revert N;apply Pn.out));refine wk (tw @a9 (tw @a0 (tw @a1 (tw @a2 (tw @jk (tw @oA @Int.le_refl)))))) ?_;(repeat(refine Pn.mk ?_;intro N hN))))
 refine aM (fun n env st=>∃i:Nat,n=((leads cnt L).length)-i/\i<=((leads cnt L).length)/\env 12=.int .i64 (i:Int)/\st.get ⟨240008001,st_a.next+1+1⟩=some ⟨true,1,dx (cW cnt L i 0) cnt⟩/\(st_a.next+1+1<st.next)) ((leads cnt L).length) ⟨0,by omega,by omega,sl (tw @a9 (tw @a0 (tw @a1 (tw @a2 @gK)))),sl (tw @a9 (tw @a0 (tw @a1 (tw @a2 @gK)))),(by(try dsimp only);omega)⟩ ?_
 rintro n_c env_c st_c ⟨i,rfl,cle,oZ,cg0,cI0⟩ il
 have c1:=il 1 (by kernel_rfl);have je:=il 10 (by kernel_rfl);have mK:=il 11 (by kernel_rfl)
 simp only[go_sem, ↓reduceIte,Nat.reduceEqDiff,Nat.reduceAdd,Nat.reduceSub,Nat.reduceLeDiff,reduceCtorEq,a9,a0,a1,a2,gK]at c1 je mK
 clear il
 by_cases hi:(i:Int)<((leads cnt L).length:Int)
 ·have fY:∀{e:Env} {gg:Rows} {nx:Nat},(e 12=.int .i64 (IntKind.i64.wrap ((i:Int)+1)))->(gg ⟨240008001,st_a.next+1+1⟩=some ⟨true,1,dx (cW cnt L (i+1) 0) cnt⟩)->(st_a.next+1+1<nx)->∃m0,m0<((leads cnt L).length)-i/\∃i:Nat,m0=((leads cnt L).length)-i/\i<=((leads cnt L).length)/\e 12=.int .i64 (i:Int)/\gg ⟨240008001,st_a.next+1+1⟩=some ⟨true,1,dx (cW cnt L i 0) cnt⟩/\(st_a.next+1+1<nx):=fun x1 x2 x3=>⟨_,by omega,i+1,rfl,by omega,(by rw[x1,aB (by omega)]),x2,x3⟩
  have e9:i<(leads cnt L).length:=by omega
  have j3:((fc cnt L).map yV)[i]? =some (yV (members cnt L (leads cnt L)[i])):=by simp[fc,e9]
  have qM:(leads cnt L).getD i 0=(leads cnt L)[i]:=by simp[List.getD_eq_getElem?_getD,e9]
  have yY:∀m,cW cnt L i m=fun x=>if bP L x<i then bP L x else if x∈(members cnt L (leads cnt L)[i]).take m then i else 0:=fun m=>by unfold cW;rw[qM]
  have qc:=fun x (hx:x<cnt)=>rF hL (n:=cnt) (k:=x) (i:=i) hx e9
  have nB:(members cnt L (leads cnt L)[i]).Nodup:=List.nodup_range.filter _
  have JL:∀x∈members cnt L (leads cnt L)[i],x<cnt:=fun x hx=>(k5.1 hx).1
  have hMc:(members cnt L (leads cnt L)[i]).length<=cnt:=by
   have:=List.length_filter_le (fun k=>L k==(leads cnt L)[i]) (List.range cnt)
   simpa[members]using this
  generalize members cnt L (leads cnt L)[i]=M at *
  have A8:(M.map eN).length=M.length:=by simp
  (try((repeat(revert hN;revert N;apply Pn.out));refine wk (tw @oZ (tw @cg0 (tw @c1 (tw @je (tw @mK (tw @hi @qN)))))) ?_;(repeat(refine Pn.mk ?_;intro N hN))))
  refine aM (fun n env st=>∃m:Nat,n=(M.length)-m/\m<=(M.length)/\env 13=.int .i64 (m:Int)/\st.get ⟨240008001,st_a.next+1+1⟩=some ⟨true,1,dx (cW cnt L i m) cnt⟩/\(st_a.next+1+1<st.next)) (M.length) ⟨0,by omega,by omega,sl (tw @oZ (tw @cg0 (tw @c1 (tw @je @mK)))),sl (tw @oZ (tw @cg0 (tw @c1 (tw @je @mK)))),(by(try dsimp only);omega)⟩ ?_
  rintro n_d env_d st_d ⟨m,rfl,dle,d13,dg0,dI0⟩ dfr
  have d1:=dfr 1 (by kernel_rfl);have d10:=dfr 10 (by kernel_rfl);have d11:=dfr 11 (by kernel_rfl);have d12:=dfr 12 (by kernel_rfl)
  simp only[go_sem, ↓reduceIte,Nat.reduceEqDiff,Nat.reduceAdd,Nat.reduceSub,Nat.reduceLeDiff,reduceCtorEq,oZ,cg0,c1,je,mK]at d1 d10 d11 d12
  clear dfr
  have tl:=fN (cW cnt L i m) cnt
  by_cases hm:(m:Int)<(M.length:Int)
  ·have si:∀{e:Env} {gg:Rows} {nx:Nat},(e 13=.int .i64 (IntKind.i64.wrap ((m:Int)+1)))->(gg ⟨240008001,st_a.next+1+1⟩=some ⟨true,1,dx (cW cnt L i (m+1)) cnt⟩)->(st_a.next+1+1<nx)->∃m0,m0<(M.length)-m/\∃m:Nat,m0=(M.length)-m/\m<=(M.length)/\e 13=.int .i64 (m:Int)/\gg ⟨240008001,st_a.next+1+1⟩=some ⟨true,1,dx (cW cnt L i m) cnt⟩/\(st_a.next+1+1<nx):=fun x1 x2 x3=>⟨_,by omega,m+1,rfl,by omega,(by rw[x1,aB (by omega)]),x2,x3⟩
   have xT:m<M.length:=by omega
   have qO:(M.map eN)[m]? =some (eN M[m]):=by simp[xT]
   have tX:=JL _ (List.getElem_mem xT)
   have Bf:(M[m]:Int)<(cnt:Int):=by omega
   have Be:=e5 (f:=cW cnt L i m) tX
   have eQ:(dx (cW cnt L i m) cnt).set M[m] (eN i)=dx (cW cnt L i (m+1)) cnt:=oi tX (by
    have h1:=(qc _ tX).1 (List.getElem_mem xT)
    rw[yY]
    simp only[]
    rw[if_neg (by omega),if_pos (by rw[List.take_succ_eq_append_getElem xT];exact List.mem_append_right _ (List.mem_singleton.2 rfl))]) fun x hx gM=>by
    rw[yY,yY]
    simp only[]
    rw[List.take_succ_eq_append_getElem xT]
    simp only[List.mem_append,List.mem_singleton,gM,or_false]
   rw[eN]at eQ Be
   generalize M[m]=xm at *
   (try((repeat(revert hN;revert N;apply Pn.out));refine wk (tw @d13 (tw @dg0 (tw @d1 (tw @d10 (tw @d11 (tw @d12 (tw @hm (tw @hi (tw @j3 (tw @qN (tw @qO (tw @A8 (tw @Bf (tw @Be (tw @tl (tw @eQ (tw @yV.eq_1 @eN.eq_1))))))))))))))))) ?_;(repeat(refine Pn.mk ?_;intro N hN))))
   refine si ?_ ?_ (by(try dsimp only);omega)
   all_goals simp only[go_sem, ↓reduceIte,Nat.reduceEqDiff,Nat.reduceAdd,Nat.reduceSub,Nat.reduceLeDiff,reduceCtorEq,d13,dg0,d1,d10,d11,d12,eQ]
  ·have gm:m=M.length:=by omega
   subst gm
   have nV:dx (cW cnt L i M.length) cnt=dx (cW cnt L (i+1) 0) cnt:=gH fun x hx=>by
    rw[yY,List.take_length]
    simp only[cW,List.take_zero,List.not_mem_nil,if_false]
    have h1:=qc x hx
    by_cases h2:bP L x<i
    ·rw[if_pos h2,if_pos (by omega)]
    ·rw[if_neg h2]
     by_cases h3:x∈M
     ·rw[if_pos h3,if_pos (by have:=h1.1 h3;omega),h1.1 h3]
     ·rw[if_neg h3,if_neg fun h4=>h3 (h1.2 (by omega))]
   (try((repeat(revert hN;revert N;apply Pn.out));refine wk (tw @d13 (tw @dg0 (tw @d1 (tw @d10 (tw @d11 (tw @d12 (tw @hm (tw @hi (tw @j3 (tw @qN (tw @A8 @yV.eq_1))))))))))) ?_;(repeat(refine Pn.mk ?_;intro N hN))))
   refine fY ?_ ?_ (by(try dsimp only);omega)
   all_goals simp only[go_sem, ↓reduceIte,Nat.reduceEqDiff,Nat.reduceAdd,Nat.reduceSub,Nat.reduceLeDiff,reduceCtorEq,oZ,cg0,c1,je,mK,d13,dg0,d1,d10,d11,d12,nV]
 have mC:i=(leads cnt L).length:=by omega
 subst mC
 have vG:dx (cW cnt L (leads cnt L).length 0) cnt=dx (bP L) cnt:=gH fun x hx=>by rw[cW,if_pos (jI hL hx)]
 rw[vG]at cg0
 have tl:=fN (bP L) cnt
 (try((repeat(revert hN;revert N;apply Pn.out));refine wk (tw @oZ (tw @cg0 (tw @c1 (tw @je (tw @mK (tw @hi @qN)))))) ?_;(repeat(refine Pn.mk ?_;intro N hN))))
 have QK:st_a.next+1+1<st_c.next:=cI0
 refine aM (fun n env st=>∃j:Nat,n=(bs.length)-j/\j<=(bs.length)/\env 15=.int .i64 (j:Int)/\st.get ⟨240008001,st_a.next+1+1⟩=some ⟨true,1,dx (bP L) cnt⟩/\(∃p:Id,env 14=.own p 0 (eS L (bs.take j)).length/\st.get p=some ⟨true,3,(eS L (bs.take j)).map ay⟩/\st_c.next<=p.bt/\p.bt<st.next)) (bs.length) ⟨0,by omega,by omega,sl (tw @oZ (tw @cg0 (tw @c1 (tw @je @mK)))),sl (tw @oZ (tw @cg0 (tw @c1 (tw @je @mK)))),⟨⟨240016000,st_c.next+1⟩,by(simp only[go_sem, ↓reduceIte,Nat.reduceEqDiff,Nat.reduceAdd,Nat.reduceSub,Nat.reduceLeDiff,reduceCtorEq])<;>rfl,by(simp only[go_sem, ↓reduceIte,Nat.reduceEqDiff,Nat.reduceAdd,Nat.reduceSub,Nat.reduceLeDiff,reduceCtorEq])<;>rfl,by(try dsimp only);omega,by(try dsimp only);omega⟩⟩ ?_
 rintro n_f env_f st_f ⟨j,rfl,fle,f15,fg0,fI0⟩ ffr
 have f1:=ffr 1 (by kernel_rfl);have f10:=ffr 10 (by kernel_rfl);have f11:=ffr 11 (by kernel_rfl)
 simp only[go_sem, ↓reduceIte,Nat.reduceEqDiff,Nat.reduceAdd,Nat.reduceSub,Nat.reduceLeDiff,reduceCtorEq,oZ,cg0,c1,je,mK]at f1 f10 f11
 clear ffr
 obtain⟨p,f14,fg,ME,Hx⟩:=fI0
 have x1:=dI (a:=⟨240008001,st_a.next+1+1⟩) (b:=p) (by(try dsimp only);omega)
 have yZ:=ef Hx
 have hvn:st_a.next+1+1<st_f.next:=by omega
 have Fc:=ef (i:=⟨240008001,st_a.next+1+1⟩) (n:=st_f.next) hvn
 have u9:=(ma L (bs.take j)).2
 rw[List.length_take]at u9
 by_cases hj:(j:Int)<(bs.length:Int)
 ·have qo:∀{e:Env} {gg:Rows} {nx:Nat},(e 15=.int .i64 (IntKind.i64.wrap ((j:Int)+1)))->(gg ⟨240008001,st_a.next+1+1⟩=some ⟨true,1,dx (bP L) cnt⟩)->(∃p:Id,e 14=.own p 0 (eS L (bs.take (j+1))).length/\gg p=some ⟨true,3,(eS L (bs.take (j+1))).map ay⟩/\st_c.next<=p.bt/\p.bt<nx)->∃m0,m0<(bs.length)-j/\∃j:Nat,m0=(bs.length)-j/\j<=(bs.length)/\e 15=.int .i64 (j:Int)/\gg ⟨240008001,st_a.next+1+1⟩=some ⟨true,1,dx (bP L) cnt⟩/\(∃p:Id,e 14=.own p 0 (eS L (bs.take j)).length/\gg p=some ⟨true,3,(eS L (bs.take j)).map ay⟩/\st_c.next<=p.bt/\p.bt<nx):=fun x1 x2 x3=>⟨_,by omega,j+1,rfl,by omega,(by rw[x1,aB (by omega)]),x2,x3⟩
  have ll:j<bs.length:=by omega
  have xR:(bs.map ay)[j]? =some (ay bs[j]):=by simp[ll]
  have JE:=hb _ (List.getElem_mem ll)
  have hs:=yC L (bs.take j) bs[j]
  rw[<-List.take_succ_eq_append_getElem ll]at hs
  generalize bs[j]=b at *
  have hA:=e5 (f:=bP L) JE.1
  have hB:=e5 (f:=bP L) JE.2
  have gh:(b.a:Int)<(cnt:Int):=by omega
  have fa:(b.b:Int)<(cnt:Int):=by omega
  have QC:=Aj (bP L b.a) (bP L b.b)
  have QD:=Ai (bP L b.a) (bP L b.b)
  rw[eN]at hA hB
  by_cases he:bP L b.a=bP L b.b
  ·rw[if_pos he,List.append_nil]at hs
   have uZ:decide ((bP L b.a:Int)=(bP L b.b:Int))=true:=decide_eq_true (by rw[he])
   (try((repeat(revert hN;revert N;apply Pn.out));refine wk (tw @f15 (tw @fg0 (tw @f1 (tw @f10 (tw @f11 (tw @f14 (tw @fg (tw @hj (tw @xR (tw @hA (tw @hB (tw @gh (tw @fa (tw @tl (tw @uZ (tw @x1 (tw @yZ @ay.eq_1))))))))))))))))) ?_;(repeat(refine Pn.mk ?_;intro N hN))))
   refine qo ?_ ?_ (⟨p,by rw[hs];simp only[go_sem, ↓reduceIte,Nat.reduceEqDiff,Nat.reduceAdd,Nat.reduceSub,Nat.reduceLeDiff,reduceCtorEq,f14],by rw[hs];simp only[go_sem, ↓reduceIte,Nat.reduceEqDiff,Nat.reduceAdd,Nat.reduceSub,Nat.reduceLeDiff,reduceCtorEq,fg],ME,by(try dsimp only);omega⟩)
   all_goals simp only[go_sem, ↓reduceIte,Nat.reduceEqDiff,Nat.reduceAdd,Nat.reduceSub,Nat.reduceLeDiff,reduceCtorEq,f15,fg0,f1,f10,f11]
  ·rw[if_neg he]at hs
   have uZ:decide ((bP L b.a:Int)=(bP L b.b:Int))=false:=decide_eq_false fun h=>he (by omega)
   have e1:(eS L (bs.take j)).length+1<=16777216:=by omega
   have gm:((eS L (bs.take j)).map ay).length=(eS L (bs.take j)).length:=by simp
   (repeat(first|((repeat(revert hN;revert N;apply Pn.out));refine wk (tw @f15 (tw @fg0 (tw @f1 (tw @f10 (tw @f11 (tw @f14 (tw @fg (tw @hj (tw @xR (tw @hA (tw @hB (tw @gh (tw @fa (tw @tl (tw @uZ (tw @x1 (tw @yZ (tw @Fc (tw @e1 (tw @gm @ay.eq_1)))))))))))))))))))) ?_;(repeat(refine Pn.mk ?_;intro N hN)))|((try apply Or.inl);refine⟨_,aq.x (QC) (sd (tw @f15 (tw @fg0 (tw @f1 (tw @f10 (tw @f11 (tw @f14 (tw @fg (tw @hj (tw @xR (tw @hA (tw @hB (tw @gh (tw @fa (tw @tl (tw @uZ (tw @x1 (tw @yZ (tw @Fc (tw @e1 (tw @gm @ay.eq_1))))))))))))))))))))),?_⟩;refine hN _ _ ?_;clear hN N)|((try apply Or.inl);refine⟨_,aq.x (QD) (sd (tw @f15 (tw @fg0 (tw @f1 (tw @f10 (tw @f11 (tw @f14 (tw @fg (tw @hj (tw @xR (tw @hA (tw @hB (tw @gh (tw @fa (tw @tl (tw @uZ (tw @x1 (tw @yZ (tw @Fc (tw @e1 (tw @gm @ay.eq_1))))))))))))))))))))),?_⟩;refine hN _ _ ?_;clear hN N)))
   refine qo ?_ ?_ (⟨⟨240023014,st_f.next+1+1+1+1⟩,by rw[hs,List.length_append];simp only[go_sem, ↓reduceIte,Nat.reduceEqDiff,Nat.reduceAdd,Nat.reduceSub,Nat.reduceLeDiff,reduceCtorEq,List.length_cons,List.length_nil],by rw[hs,List.map_append,List.map_cons,List.map_nil];simp only[go_sem, ↓reduceIte,Nat.reduceEqDiff,Nat.reduceAdd,Nat.reduceSub,Nat.reduceLeDiff,reduceCtorEq,ay],by(try dsimp only);omega,by(try dsimp only);omega⟩)
   all_goals simp only[go_sem, ↓reduceIte,Nat.reduceEqDiff,Nat.reduceAdd,Nat.reduceSub,Nat.reduceLeDiff,reduceCtorEq,f15,fg0,f1,f10,f11,x1,Fc]
 ·have gq:j=bs.length:=by omega
  subst gq
  rw[List.take_length]at f14 fg
  (try((repeat(revert hN;revert N;apply Pn.out));refine wk (tw @f15 (tw @fg0 (tw @f1 (tw @f10 (tw @f11 (tw @f14 (tw @hj @qN))))))) ?_;(repeat(refine Pn.mk ?_;intro N hN))))
  refine jc (.inl rfl) (r1:=.int .i64 ((leads cnt L).length:Int)) (sd @Nat.zero_add) (by simp only[go_sem, ↓reduceIte,Nat.reduceEqDiff,Nat.reduceAdd,Nat.reduceSub,Nat.reduceLeDiff,reduceCtorEq];rfl) ?_
  have h1:fV st_f.get 5 (.own p 0 (eS L bs).length)=some (.sl ((eS L bs).map ay)):=fw (sz:=3) fg rfl fun b=>sR _ 3 b
  simp only[dZ,aS,bm,dr,h1,Option.map_some]
end Go.Proofs.YtgoljkjaameagaaGreat.V

namespace Go.Proofs.YtgoljkjaameagaaGreat.V
def Dj (bs:List PB) (e v:Nat):Prop:=(cj bs e).a=v∨(cj bs e).b=v
def iE (bs:List PB) (m v:Nat):List Nat:=(List.range m).filter fun i=>(cj bs i).a==v||(cj bs i).b==v
theorem qj {bs:List PB} {m v e:Nat}:e∈iE bs m v↔e<m/\Dj bs e v:=by simp[iE,Dj]
theorem Fh (bs:List PB) (m v:Nat):iE bs (m+1) v=iE bs m v++if (cj bs m).a=v∨(cj bs m).b=v then[m]else[]:=by
 unfold iE
 rw[List.range_succ,List.filter_append]
 congr 1
 by_cases h:(cj bs m).a=v<;>by_cases h2:(cj bs m).b=v<;>simp[h,h2]
theorem qi (bs:List PB) (m v:Nat):(iE bs m v).length<=m:=by
 have:=List.length_filter_le (fun i=>(cj bs i).a==v||(cj bs i).b==v) (List.range m)
 simpa[iE]using this
def ml (cnt:Nat) (bs:List PB):Prop:=∀e,e<bs.length->(cj bs e).a<cnt/\(cj bs e).b<cnt/\(cj bs e).a≠(cj bs e).b
theorem nH {cnt:Nat} {bs:List PB} (h:ml cnt bs) {e v:Nat} (he:e<bs.length):bQ bs e v<cnt:=by
 have:=h e he;unfold bQ;split;exact this.2.1;exact this.1
theorem H6 {cnt:Nat} {bs:List PB} (h:ml cnt bs) {e v:Nat} (he:e<bs.length) (hi:Dj bs e v):bQ bs e v≠v:=by
 have h1:=(h e he).2.2
 unfold bQ
 split
 ·rename_i ha;rw[<-ha];exact fun h=>h1 h.symm
 ·rename_i ha;rcases hi with hi|hi
  ·exact absurd hi ha
  ·rw[<-hi];exact h1
theorem xb {bs:List PB} {e v:Nat}:Dj bs e (bQ bs e v):=by
 unfold bQ Dj;split
 ·exact .inr rfl
 ·exact .inl rfl
theorem nI {cnt:Nat} {bs:List PB} (h:ml cnt bs) {e v:Nat} (he:e<bs.length) (hi:Dj bs e v):bQ bs e (bQ bs e v)=v:=by
 have h1:=(h e he).2.2
 unfold bQ
 by_cases ha:(cj bs e).a=v
 ·rw[if_pos ha,if_neg h1];exact ha
 ·rw[if_neg ha,if_pos rfl]
  rcases hi with hi|hi
  ·exact absurd hi ha
  ·exact hi
structure xl (cnt:Nat) (bs:List PB) (f:Nat->Int) (y:Nat) (out:Nat->Int):Prop where
 lo:∀v,v<cnt->-1<=out v/\out v<=cnt
 first:out y=0
 zero:∀v,v<cnt->out v=0->v=y
 down:∀v,v<cnt->0<out v->∃e,e<bs.length/\Dj bs e v/\0<fx bs f e v/\out (bQ bs e v)=out v-1
 shut:∀e v,e<bs.length->Dj bs e v->0<=out (bQ bs e v)->0<fx bs f e v->0<=out v
structure yT (cnt:Nat) (bs:List PB) (f:Nat->Int) (y:Nat) (out:Nat->Int) (Q:List Nat) (i:Nat):Prop where
 nd:Q.Nodup
 lt:∀x∈Q,x<cnt
 iff:∀v,v<cnt->(0<=out v↔v∈Q)
 lo:∀v,v<cnt->-1<=out v
 first:out y=0
 up:∀j (h:j<Q.length),out Q[j]<=j
 zero:∀v,v<cnt->out v=0->v=y
 down:∀v,v<cnt->0<out v->∃e,e<bs.length/\Dj bs e v/\0<fx bs f e v/\out (bQ bs e v)=out v-1
 shut:∀j (h:j<Q.length),j<i->∀e,e<bs.length->Dj bs e Q[j]->0<fx bs f e (bQ bs e Q[j])->0<=out (bQ bs e Q[j])
section
variable {cnt:Nat} {bs:List PB} {f:Nat->Int} {y:Nat} {out:Nat->Int} {Q:List Nat} {i:Nat}
theorem yT.start (hy:y<cnt):yT cnt bs f y (fun v=>if v=y then 0 else -1) [y] 0 where
 nd:=by simp
 lt:=fun x hx=>by rw[List.mem_singleton.1 hx];exact hy
 iff:=fun v _=>by
  by_cases h:v=y<;>simp[h]
 lo:=fun v _=>by split<;>omega
 first:=if_pos rfl
 up:=fun j h=>by
  have:j=0:=by simp at h;omega
  subst this;simp
 zero:=fun v _ h=>by
  by_cases hv:v=y
  ·exact hv
  ·rw[if_neg hv]at h;omega
 down:=fun v _ h=>by
  by_cases hv:v=y
  ·rw[if_pos hv]at h;omega
  ·rw[if_neg hv]at h;omega
 shut:=fun j h hj=>by omega
theorem yT.len (h:yT cnt bs f y out Q i):Q.length<=cnt:=nE cnt Q h.nd h.lt
theorem yT.visit (h:yT cnt bs f y out Q i) (ok:ml cnt bs) (hi:i<Q.length) {e:Nat} (he:e<bs.length) (oC:Dj bs e Q[i]) (jH:out (bQ bs e Q[i])<0) (fS:0<fx bs f e (bQ bs e Q[i])):
  yT cnt bs f y (fun v=>if v=bQ bs e Q[i]then out Q[i]+1 else out v) (Q++[bQ bs e Q[i]]) i:=by
 have Lg:0<=out Q[i]:=(h.iff _ (h.lt _ (List.getElem_mem hi))).2 (List.getElem_mem hi)
 have hq:=nH ok (v:=Q[i]) he
 have gM:=H6 ok he oC
 have Pu:=nI ok he oC
 have SO:bQ bs e Q[i]∉Q:=fun hm=>by have:=(h.iff _ hq).2 hm;omega
 have yY:=h.up i hi
 generalize hw:bQ bs e Q[i]=w at *
 have tZ:∀v,0<=out v->(if v=w then out Q[i]+1 else out v)=out v:=fun v hv=>by
  rw[if_neg];rintro rfl;omega
 have mono:∀v,0<=out v->0<=(if v=w then out Q[i]+1 else out v):=fun v hv=>by rw[tZ v hv];exact hv
 refine⟨?_,?_,?_,?_,?_,?_,?_,?_,?_⟩
 ·rw[List.nodup_append]
  exact⟨h.nd,by simp,fun a ha b hb=>by rw[List.mem_singleton.1 hb];rintro rfl;exact SO ha⟩
 ·intro x hx
  rcases List.mem_append.1 hx with hx|hx
  ·exact h.lt x hx
  ·rw[List.mem_singleton.1 hx];exact hq
 ·intro v hv
  by_cases Gp:v=w
  ·subst Gp;simp;omega
  ·rw[if_neg Gp,h.iff v hv];simp[Gp]
 ·intro v hv
  by_cases Gp:v=w
  ·rw[if_pos Gp];omega
  ·rw[if_neg Gp];exact h.lo v hv
 ·rw[tZ y (by rw[h.first];exact Int.le_refl _)];exact h.first
 ·intro j hj
  by_cases gq:j<Q.length
  ·rw[List.getElem_append_left gq,tZ _ ((h.iff _ (h.lt _ (List.getElem_mem gq))).2 (List.getElem_mem gq))]
   exact h.up j gq
  ·have JH:j=Q.length:=by simp at hj;omega
   subst JH
   simp
   omega
 ·intro v hv h0
  by_cases Gp:v=w
  ·rw[if_pos Gp]at h0;omega
  ·rw[if_neg Gp]at h0;exact h.zero v hv h0
 ·intro v hv h0
  by_cases Gp:v=w
  ·subst Gp
   rw[if_pos rfl]
   refine⟨e,he,by rw[<-hw];exact xb,fS,?_⟩
   rw[Pu,tZ _ Lg];omega
  ·rw[if_neg Gp]at h0 ⊢
   obtain⟨e',h1,h2,h3,h4⟩:=h.down v hv h0
   exact⟨e',h1,h2,h3,by rw[tZ _ (by omega)];exact h4⟩
 ·intro j hj lK e' xQ Lc hr
  have gq:j<Q.length:=by omega
  rw[List.getElem_append_left gq]at Lc hr ⊢
  exact mono _ (h.shut j gq lK e' xQ Lc hr)
theorem yT.next (h:yT cnt bs f y out Q i) (hi:i<Q.length) (hs:∀e∈iE bs bs.length Q[i],0<fx bs f e (bQ bs e Q[i])->0<=out (bQ bs e Q[i])):yT cnt bs f y out Q (i+1):=
 ⟨h.nd,h.lt,h.iff,h.lo,h.first,h.up,h.zero,h.down,fun j hj lK e he oC hr=>by
  by_cases JH:j=i
  ·subst JH;exact hs e (qj.2 ⟨he,oC⟩) hr
  ·exact h.shut j hj (by omega) e he oC hr⟩
theorem yT.done (h:yT cnt bs f y out Q i) (ok:ml cnt bs) (hi:Q.length<=i):xl cnt bs f y out where
 lo:=fun v hv=>⟨h.lo v hv,by
  by_cases h0:0<=out v
  ·obtain⟨j,hj,rfl⟩:=List.getElem_of_mem ((h.iff v hv).1 h0)
   have:=h.up j hj
   have:=h.len
   omega
  ·omega⟩
 first:=h.first
 zero:=h.zero
 down:=h.down
 shut:=fun e v he oC h0 hr=>by
  obtain⟨j,hj,NY⟩:=List.getElem_of_mem ((h.iff _ (nH ok he)).1 h0)
  have h2:=h.shut j hj (by omega) e he (by rw[NY];exact xb)
  rw[NY,nI ok he oC]at h2
  exact h2 hr
end
end Go.Proofs.YtgoljkjaameagaaGreat.V

namespace Go.Proofs.YtgoljkjaameagaaGreat.V
open Go.RowKit
section
variable {P:Program} {w w':World} {D D' D1 D2:Nat->Prop} {ι ι1 ι2:Names}
end
end Go.Proofs.YtgoljkjaameagaaGreat.V

namespace Go.Proofs.YtgoljkjaameagaaGreat.V
open Go.RowKit
attribute [local irreducible] ej wpOps fQ Call
attribute [local go_sem] aH fq eD fH fG cV upd bZ K.av cC AV.cells AV.cell rowOf rowsOf part ld rowAt bK bR du dQ gE bB cR eb fF eL dh dV cP cN dD dE bF aT cG bE cI cH dS dW dU cF bJ cQ dR bD aJ cK cm gD bd cz bG aP dn aX dv AV.undef bj bx dG dO dz dF cu ea ei ck dY dX cJ cL List.getD_cons_zero List.getD_cons_succ List.getD_nil List.all_cons List.all_nil Bool.and_true Bool.true_and Bool.and_self Bool.not_true Bool.not_false Option.map_some Option.map_none Option.bind_some Option.bind_none List.length_cons List.length_nil List.take_succ_cons List.take_zero List.take_nil List.drop_succ_cons List.drop_zero List.drop_nil List.head?_cons List.map_cons List.map_nil List.getElem?_cons_zero List.getElem?_cons_succ List.cons_append List.nil_append List.append_nil List.length_map List.set_cons_zero List.set_cons_succ Nat.reduceMul eq_self Int.toNat_natCast Int.natCast_nonneg and_self true_and and_true decide_true decide_false Bool.false_eq_true Nat.zero_add Nat.add_zero List.contains_cons List.contains_nil Bool.or_false Bool.false_or beq_self_eq_true Nat.reduceBEq ne_eq not_true_eq_false not_false_eq_true Id.mk.injEq false_and and_false Nat.reduceLT Int.reduceLE Int.reduceLT Int.reduceToNat Int.reduceNeg Int.reduceAdd Nat.le_refl List.length_append beq_true beq_false Bool.not_eq_eq_eq_not or_false false_or eo aj ar aK aV bp bW aQ aZ aN aU cD bI
def mj (P:Program) (f:Nat) (args:List AV) (R:AV->Prop):Prop:=∀n:Nat,Call P f args ⟨fun _=>none,n⟩ fun r0 σ'=>∃r',fV σ'.get 6 r0=some r'/\R r'
theorem EW {P:Program} {f:Nat} {args gj:List AV} {g:Rows} {n:Nat} {R:AV->Prop} (hv:dj (eo g) 6 args=some gj) (h:Sound P f gj ⟨fun _=>none,n⟩ fun r0 σ'=>∃r',fV σ'.get 6 r0=some r'/\R r'):Sound P f args ⟨g,n⟩ fun r σ'=>R r/\σ'=⟨g,n⟩:=by
 intro hs D ι w vs S U A
 refine(vZ (g0:=g) (K:=R) ⟨gj,hv,h⟩ (fun _ _ h=>h) S U A).mono ?_
 rintro e w' ⟨r,D',u,rfl,hR,T,S',hr⟩
 exact⟨r,g,n,D',ι,u,rfl,⟨hR,rfl⟩,T,S',U,Nat.le_refl _,hr⟩
theorem mj.x {P:Program} (hm:P.follows .mixedOrders=true) {f:Nat} {args gj:List AV} {R:AV->Prop} (h:mj P f gj R) {σ:ax} (hv:dj (eo σ.get) 6 args=some gj):Call P f args σ fun r σ'=>R r/\σ'=σ:=
 fR (EW hv (iA hm (h σ.next)))
theorem mj.body {P:Program} {f:Nat} {args:List AV} {R:AV->Prop} {nt na:Nat} {body:VC} {res:List ox} (hf:mU P f=some ⟨nt,na,body,res⟩) (ha:na=args.length) (h:(∀a∈args,eG a)->∀n:Nat,ej (Call P) body (lf res fun r0 σ'=>∃r',fV σ'.get 6 r0=some r'/\R r') (bZ args) ⟨fun _=>none,n⟩):mj P f args R:=fun n=>lq hf ha fun hl=>h hl n
def dP (f:Nat->Int) (n:Nat):List (List AV):=(List.range n).map fun i=>aA (f i)
theorem dw (f:Nat->Int) (n:Nat):(dP f n).length=n:=by simp[dP]
theorem dH {f:Nat->Int} {n i:Nat} (h:i<n):(dP f n)[i]? =some (aA (f i)):=by simp[dP,h]
theorem kH {f g:Nat->Int} {n k:Nat} {v:Int} (hk:k<n) (hv:g k=v) (h:∀i,i<n->i≠k->g i=f i):(dP f n).set k (aA v)=dP g n:=by
 refine List.ext_getElem? fun i=>?_
 rw[List.getElem?_set]
 by_cases hi:k=i
 ·subst hi
  rw[if_pos rfl,dw,if_pos hk,dH hk,hv]
 ·rw[if_neg hi]
  by_cases e9:i<n
  ·rw[dH e9,dH e9,h i e9 (fun h=>hi h.symm)]
  ·rw[List.getElem?_eq_none (by rw[dw];omega),List.getElem?_eq_none (by rw[dw];omega)]
theorem FZ (f:Nat->Int) (n:Nat):dP f (n+1)=dP f n++[aA (f n)]:=by simp[dP,List.range_succ]
theorem fzI (g:Rows) (n:Nat) (a:Int):dj g (n+1) (aA a)=some (aA a):=by simp[aA,aj,ar,aK]
theorem RK (g:Rows) (n:Nat) (a:Int):ep g (n+1) (aA a)=some (aA a):=by simp[aA,aS,bm,dr]
theorem IC {g:Rows} {f:Nat->Int} {n m:Nat}:gL g (m+1) (dP f n)=some (dP f n):=by
 have:dP f n=((List.range n).map f).map aA:=by simp[dP]
 rw[this];exact r6 fun x=>RK g m x
theorem yK {g:Rows} {f:Nat->Int} {n m:Nat}:eh g (m+1) (dP f n)=some (dP f n):=by
 have:dP f n=((List.range n).map f).map aA:=by simp[dP]
 rw[this];exact pc fun x=>fzI g m x
def Nh (l:List Nat):AV:=if l=[]then .cq else .sl (l.map eN)
def oX (cnt:Nat) (bs:List PB) (m:Nat):List (List AV):=(List.range cnt).map fun v=>[Nh (iE bs m v)]
theorem Bu {cnt:Nat} {bs:List PB} {m v:Nat} (h:v<cnt):(oX cnt bs m)[v]? =some [Nh (iE bs m v)]:=by simp[oX,h]
def fE (cnt:Nat) (bs:List PB) (f:Nat->Int):List AV:=[.int .i64 cnt,.sl (bs.map ay),.sl (oX cnt bs bs.length),.sl (dP f bs.length)]
theorem sM {bs:List PB} {e:Nat} (h:e<bs.length):(bs.map ay)[e]? =some (ay (cj bs e)):=getD_map ay h
def Small (bs:List PB) (f:Nat->Int):Prop:=∀e,e<bs.length->(0<=(cj bs e).s/\(cj bs e).s<=4)/\-4<=f e/\f e<=4
theorem Ik (cnt:Nat) (bs:List PB) (f:Nat->Int) (hs:Small bs f) (e v:Nat) (he:e<bs.length):aq Tryz.prog 297 [.dd (fE cnt bs f),.int .i64 v,.int .i64 e] (.im [.int .i64 (fx bs f e v),.int .i64 (bQ bs e v)]):=by
 refine aq.body eE rfl fun hl n0=>?_
 clear hl
 have hb:=sM he
 have hf:=dH (f:=f) he
 obtain⟨⟨s0,s1⟩,s2,s3⟩:=hs e he
 have w1:IntKind.i64.wrap ((cj bs e).s-f e)=(cj bs e).s-f e:=bz (by omega)
 have w2:IntKind.i64.wrap ((cj bs e).s+f e)=(cj bs e).s+f e:=bz (by omega)
 unfold fx bQ
 generalize cj bs e=b at *
 by_cases h:b.a=v
 ·have hd:decide ((b.a:Int)=(v:Int))=true:=decide_eq_true (by rw[h])
  (try((repeat(revert hN;revert N;apply Pn.out));refine wk (tw @fE.eq_1 (tw @hb (tw @hf (tw @ay.eq_1 (tw @aA.eq_1 (tw @hd (tw @w1 @w2))))))) ?_;(repeat(refine Pn.mk ?_;intro N hN))))
  refine jc (.inl rfl) (by simp only[go_sem, ↓reduceIte,Nat.reduceEqDiff,Nat.reduceAdd,Nat.reduceSub,Nat.reduceLeDiff,reduceCtorEq];rfl) (by simp only[go_sem, ↓reduceIte,Nat.reduceEqDiff,Nat.reduceAdd,Nat.reduceSub,Nat.reduceLeDiff,reduceCtorEq];rfl) ?_
  simp only[dZ,aS,bm,dr,Option.map_some,if_pos h]
 ·have hd:decide ((b.a:Int)=(v:Int))=false:=decide_eq_false fun hc=>h (by omega)
  (try((repeat(revert hN;revert N;apply Pn.out));refine wk (tw @fE.eq_1 (tw @hb (tw @hf (tw @ay.eq_1 (tw @aA.eq_1 (tw @hd (tw @w1 @w2))))))) ?_;(repeat(refine Pn.mk ?_;intro N hN))))
  refine jc (.inl rfl) (by simp only[go_sem, ↓reduceIte,Nat.reduceEqDiff,Nat.reduceAdd,Nat.reduceSub,Nat.reduceLeDiff,reduceCtorEq];rfl) (by simp only[go_sem, ↓reduceIte,Nat.reduceEqDiff,Nat.reduceAdd,Nat.reduceSub,Nat.reduceLeDiff,reduceCtorEq];rfl) ?_
  simp only[dZ,aS,bm,dr,Option.map_some,if_neg h]
theorem Ef (cnt:Nat) (hn:cnt<=1048576) (bs:List PB) (ok:ml cnt bs) (mM:bs.length<=1048576) (f:Nat->Int) (hs:Small bs f) (y:Nat) (hy:y<cnt):
  mj Tryz.prog 253 [.dd (fE cnt bs f),.int .i64 y] fun r=>∃out,r=.sl (dP out cnt)/\xl cnt bs f y out:=by
 refine mj.body eE rfl fun hl n0=>?_
 clear hl
 (try((repeat(revert hN;revert N;apply Pn.out));refine wk @fE.eq_1 ?_;(repeat(refine Pn.mk ?_;intro N hN))))
 refine aM (fun n env st=>∃k:Nat,n=(cnt)-k/\k<=(cnt)/\env 6=.int .i64 (k:Int)/\(∃o:Id,env 5=.own o 0 k/\st.get o=some ⟨true,1,dP (fun _=>-1) k⟩/\o.bt<st.next)) (cnt) ⟨0,by omega,by omega,sl @fE.eq_1,⟨⟨253001000,n0+1⟩,by(simp only[go_sem, ↓reduceIte,Nat.reduceEqDiff,Nat.reduceAdd,Nat.reduceSub,Nat.reduceLeDiff,reduceCtorEq])<;>rfl,by(simp only[go_sem, ↓reduceIte,Nat.reduceEqDiff,Nat.reduceAdd,Nat.reduceSub,Nat.reduceLeDiff,reduceCtorEq])<;>rfl,by(try dsimp only);omega⟩⟩ ?_
 rintro n_a env_a st_a ⟨k,rfl,ale,a6,mE⟩ dq
 have a0:=dq 0 (by kernel_rfl);have a1:=dq 1 (by kernel_rfl)
 simp only[go_sem, ↓reduceIte,Nat.reduceEqDiff,Nat.reduceAdd,Nat.reduceSub,Nat.reduceLeDiff,reduceCtorEq,fE]at a0 a1
 clear dq
 obtain⟨o,a5,ag,sY⟩:=mE
 have tl:=dw (fun _=>-1) k
 have pq:=ef sY
 by_cases hk:(k:Int)<(cnt:Int)
 ·have cE:∀{e:Env} {gg:Rows} {nx:Nat},(e 6=.int .i64 (IntKind.i64.wrap ((k:Int)+1)))->(∃o:Id,e 5=.own o 0 (k+1)/\gg o=some ⟨true,1,dP (fun _=>-1) (k+1)⟩/\o.bt<nx)->∃m0,m0<(cnt)-k/\∃k:Nat,m0=(cnt)-k/\k<=(cnt)/\e 6=.int .i64 (k:Int)/\(∃o:Id,e 5=.own o 0 k/\gg o=some ⟨true,1,dP (fun _=>-1) k⟩/\o.bt<nx):=fun x1 x2=>⟨_,by omega,k+1,rfl,by omega,(by rw[x1,aB (by omega)]),x2⟩
  have e1:k+1<=16777216:=by omega
  have oE:dP (fun _=>-1) k++[[.int .i64 (-1)]]=dP (fun _=>-1) (k+1):=(FZ _ _).symm
  (try((repeat(revert hN;revert N;apply Pn.out));refine wk (tw @a6 (tw @a0 (tw @a1 (tw @a5 (tw @ag (tw @pq (tw @hk (tw @tl (tw @e1 (tw @oE @fE.eq_1)))))))))) ?_;(repeat(refine Pn.mk ?_;intro N hN))))
  exact cE (sd (tw @a6 (tw @a0 (tw @a1 @fE.eq_1)))) (⟨⟨253005002,st_a.next+1⟩,sd @Nat.zero_add,sd @oE,by(try dsimp only);omega⟩)
 have jy:k=cnt:=by omega
 subst jy
 have Re:(y:Int)<(k:Int):=by omega
 have hym:=dH (f:=fun _=>-1) hy
 have zX:(dP (fun _=>-1) k).set y (aA 0)=dP (fun v=>if v=y then 0 else -1) k:=kH hy (if_pos rfl) fun i _ hi=>if_neg hi
 rw[aA]at zX hym
 (try((repeat(revert hN;revert N;apply Pn.out));refine wk (tw @a6 (tw @a0 (tw @a1 (tw @a5 (tw @ag (tw @pq (tw @hk (tw @tl (tw @Re (tw @hym (tw @zX @fE.eq_1))))))))))) ?_;(repeat(refine Pn.mk ?_;intro N hN))))
 refine aM (fun m env st=>∃(i:Nat) (out:Nat->Int) (Q:List Nat) (p:Id),m=k-i/\env 8=.int .i64 (i:Int)/\env 7=.own p 0 Q.length/\st.get p=some ⟨true,1,Q.map eN⟩/\st.get o=some ⟨true,1,dP out k⟩/\o.bt<p.bt/\p.bt<st.next/\yT k bs f y out Q i/\i<=Q.length) k ⟨0,_,[y],⟨253007001,st_a.next+1+1⟩,by omega,by(simp only[go_sem, ↓reduceIte,Nat.reduceEqDiff,Nat.reduceAdd,Nat.reduceSub,Nat.reduceLeDiff,reduceCtorEq])<;>rfl,by(simp only[go_sem, ↓reduceIte,Nat.reduceEqDiff,Nat.reduceAdd,Nat.reduceSub,Nat.reduceLeDiff,reduceCtorEq])<;>rfl,by(simp only[go_sem, ↓reduceIte,Nat.reduceEqDiff,Nat.reduceAdd,Nat.reduceSub,Nat.reduceLeDiff,reduceCtorEq])<;>rfl,sd @pq,by(try dsimp only);omega,by(try dsimp only);omega,yT.start hy,by simp⟩ ?_
 rintro n env_b st_b ⟨i,out,Q,p,rfl,b8,b7,bgp,bgo,dB,hpn,hB,hiq⟩ eP
 have b0:=eP 0 (by kernel_rfl)
 have b5:=eP 5 (by kernel_rfl)
 simp only[go_sem, ↓reduceIte,Nat.reduceEqDiff,Nat.reduceAdd,Nat.reduceSub,Nat.reduceLeDiff,reduceCtorEq,a6,a0,a1,a5,fE]at b0 b5
 clear eP
 have Q1:=hB.len
 have Ri:=dw out k
 have hqm:(Q.map eN).length=Q.length:=by simp
 have yZ:=ef hpn
 have j9:=ef (i:=o) (n:=st_b.next) (by omega)
 by_cases hi:(i:Int)<(Q.length:Int)
 ·have e9:i<Q.length:=by omega
  have j3:(Q.map eN)[i]? =some (eN Q[i]):=by simp[e9]
  have Lg:=hB.lt _ (List.getElem_mem e9)
  obtain⟨vt,MO⟩:∃vt,vt=Q[i]:=⟨_,rfl⟩
  rw[<-MO]at j3 Lg
  have hA:=Bu (cnt:=k) (bs:=bs) (m:=bs.length) Lg
  have JS:(vt:Int)<(k:Int):=by omega
  have mC:=qi bs bs.length vt
  have hme:∀x,x<(iE bs bs.length vt).length->(iE bs bs.length vt).getD x 0<bs.length/\Dj bs ((iE bs bs.length vt).getD x 0) vt:=fun x hx=>by
   rw[List.getD_eq_getElem?_getD,List.getElem?_eq_getElem hx]
   exact qj.1 (List.getElem_mem hx)
  have Mx:∀e∈iE bs bs.length vt,∃x,x<(iE bs bs.length vt).length/\(iE bs bs.length vt).getD x 0=e:=fun e he=>by
   obtain⟨x,hx,rfl⟩:=List.getElem_of_mem he
   exact⟨x,hx,by rw[List.getD_eq_getElem?_getD,List.getElem?_eq_getElem hx];rfl⟩
  generalize hIn:iE bs bs.length vt=I at *
  unfold Nh at hA
  by_cases R3:I=[]
  ·rw[if_pos R3]at hA
   have hI1:I.length=0:=by rw[R3];rfl
   (try((repeat(revert hN;revert N;apply Pn.out));refine wk (tw @b0 (tw @b5 (tw @b7 (tw @b8 (tw @bgp (tw @hi (tw @j3 (tw @hqm (tw @eN.eq_1 @fE.eq_1))))))))) ?_;(repeat(refine Pn.mk ?_;intro N hN))))
   refine aM (fun n env st=>∃x:Nat,n=(I.length)-x/\x<=(I.length)/\env 10=.int .i64 (x:Int)/\(∃(ir:Nat->Int) (Q':List Nat) (p':Id),env 7=.own p' 0 Q'.length/\st.get p'=some ⟨true,1,Q'.map eN⟩/\st.get o=some ⟨true,1,dP ir k⟩/\o.bt<p'.bt/\p'.bt<st.next/\yT k bs f y ir Q' i/\(∃h:i<Q'.length,Q'[i]=vt)/\(∀z,z<x->0<fx bs f (I.getD z 0) (bQ bs (I.getD z 0) vt)->0<=ir (bQ bs (I.getD z 0) vt)))) (I.length) ⟨0,by omega,by omega,sl (tw @b0 (tw @b5 (tw @b8 @fE.eq_1))),⟨out,Q,p,sd @b7,sd @bgp,sd @bgo,dB,by(try dsimp only);omega,hB,⟨e9,MO.symm⟩,fun z hz=>by omega⟩⟩ ?_
   rintro n_c env_c st_c ⟨x,rfl,cle,je,cI0⟩ il
   have c0:=il 0 (by kernel_rfl);have c5:=il 5 (by kernel_rfl);have c8:=il 8 (by kernel_rfl);have c9:=il 9 (by kernel_rfl)
   simp only[go_sem, ↓reduceIte,Nat.reduceEqDiff,Nat.reduceAdd,Nat.reduceSub,Nat.reduceLeDiff,reduceCtorEq,b0,b5,b8,fE]at c0 c5 c8 c9
   clear il
   obtain⟨ir,Q',p',c7,GZ,wi,Cl,MF,dK,⟨vE,po⟩,I7⟩:=cI0
   have SV:=dK.len
   have Nk:=dw ir k
   have MH:(Q'.map eN).length=Q'.length:=by simp
   have xW:=ef MF
   have lD:=ef (i:=o) (n:=st_c.next) (by omega)
   have x1:=dI Cl
   have hx:¬(x:Int)<((0:Nat):Int):=by omega
   have hxe:x=I.length:=by omega
   have hw:IntKind.i64.wrap ((i:Int)+1)=((i+1:Nat):Int):=aB (by omega)
   (try((repeat(revert hN;revert N;apply Pn.out));refine wk (tw @je (tw @c0 (tw @c5 (tw @c8 (tw @c9 (tw @c7 (tw @hx (tw @hA (tw @JS @fE.eq_1))))))))) ?_;(repeat(refine Pn.mk ?_;intro N hN))))
   refine⟨_,?_,i+1,ir,Q',p',rfl,sd (tw @je (tw @c0 (tw @c5 (tw @c8 (tw @c9 @hw))))),sd @c7,sd @GZ,sd @wi,Cl,by(try dsimp only);omega,dK.next vE fun e he hr=>?_,by omega⟩
   ·omega
   ·rw[po,hIn]at he
    rw[po]at hr ⊢
    obtain⟨z,hz,rfl⟩:=Mx e he
    exact I7 z (by omega) hr
  ·rw[if_neg R3]at hA
   have pf:(I.map eN).length=I.length:=by simp
   (try((repeat(revert hN;revert N;apply Pn.out));refine wk (tw @b0 (tw @b5 (tw @b7 (tw @b8 (tw @bgp (tw @hi (tw @j3 (tw @hqm (tw @eN.eq_1 @fE.eq_1))))))))) ?_;(repeat(refine Pn.mk ?_;intro N hN))))
   refine aM (fun n env st=>∃x:Nat,n=(I.length)-x/\x<=(I.length)/\env 10=.int .i64 (x:Int)/\(∃(ir:Nat->Int) (Q':List Nat) (p':Id),env 7=.own p' 0 Q'.length/\st.get p'=some ⟨true,1,Q'.map eN⟩/\st.get o=some ⟨true,1,dP ir k⟩/\o.bt<p'.bt/\p'.bt<st.next/\yT k bs f y ir Q' i/\(∃h:i<Q'.length,Q'[i]=vt)/\(∀z,z<x->0<fx bs f (I.getD z 0) (bQ bs (I.getD z 0) vt)->0<=ir (bQ bs (I.getD z 0) vt)))) (I.length) ⟨0,by omega,by omega,sl (tw @b0 (tw @b5 (tw @b8 @fE.eq_1))),⟨out,Q,p,sd @b7,sd @bgp,sd @bgo,dB,by(try dsimp only);omega,hB,⟨e9,MO.symm⟩,fun z hz=>by omega⟩⟩ ?_
   rintro n_c env_c st_c ⟨x,rfl,cle,je,cI0⟩ il
   have c0:=il 0 (by kernel_rfl);have c5:=il 5 (by kernel_rfl);have c8:=il 8 (by kernel_rfl);have c9:=il 9 (by kernel_rfl)
   simp only[go_sem, ↓reduceIte,Nat.reduceEqDiff,Nat.reduceAdd,Nat.reduceSub,Nat.reduceLeDiff,reduceCtorEq,b0,b5,b8,fE]at c0 c5 c8 c9
   clear il
   obtain⟨ir,Q',p',c7,GZ,wi,Cl,MF,dK,⟨vE,po⟩,I7⟩:=cI0
   have SV:=dK.len
   have Nk:=dw ir k
   have MH:(Q'.map eN).length=Q'.length:=by simp
   have xW:=ef MF
   have lD:=ef (i:=o) (n:=st_c.next) (by omega)
   have x1:=dI Cl
   by_cases hx:(x:Int)<(I.length:Int)
   ·have fY:∀{e:Env} {gg:Rows} {nx:Nat},(e 10=.int .i64 (IntKind.i64.wrap ((x:Int)+1)))->(∃(ir:Nat->Int) (Q':List Nat) (p':Id),e 7=.own p' 0 Q'.length/\gg p'=some ⟨true,1,Q'.map eN⟩/\gg o=some ⟨true,1,dP ir k⟩/\o.bt<p'.bt/\p'.bt<nx/\yT k bs f y ir Q' i/\(∃h:i<Q'.length,Q'[i]=vt)/\(∀z,z<(x+1)->0<fx bs f (I.getD z 0) (bQ bs (I.getD z 0) vt)->0<=ir (bQ bs (I.getD z 0) vt)))->∃m0,m0<(I.length)-x/\∃x:Nat,m0=(I.length)-x/\x<=(I.length)/\e 10=.int .i64 (x:Int)/\(∃(ir:Nat->Int) (Q':List Nat) (p':Id),e 7=.own p' 0 Q'.length/\gg p'=some ⟨true,1,Q'.map eN⟩/\gg o=some ⟨true,1,dP ir k⟩/\o.bt<p'.bt/\p'.bt<nx/\yT k bs f y ir Q' i/\(∃h:i<Q'.length,Q'[i]=vt)/\(∀z,z<x->0<fx bs f (I.getD z 0) (bQ bs (I.getD z 0) vt)->0<=ir (bQ bs (I.getD z 0) vt))):=fun x1 x2=>⟨_,by omega,x+1,rfl,by omega,(by rw[x1,aB (by omega)]),x2⟩
    have Oe:x<I.length:=by omega
    have L9:(I.map eN)[x]? =some (eN (I.getD x 0)):=getD_map eN Oe
    obtain⟨he,oC⟩:=hme x Oe
    obtain⟨e,QO⟩:∃e,e=I.getD x 0:=⟨_,rfl⟩
    rw[<-QO]at L9 he oC
    have hZ:=sM he
    have hq:=nH ok (v:=vt) he
    have Pu:=nI ok he oC
    have Gk:=Ik k bs f hs e (bQ bs e vt) he
    have Pa:=ok e he
    have rn:IntKind.i64.wrap (((cj bs e).a:Int)+((cj bs e).b:Int))=((cj bs e).a:Int)+((cj bs e).b:Int):=bz (by omega)
    have z8:IntKind.i64.wrap (((cj bs e).a:Int)+((cj bs e).b:Int)-(vt:Int))=(bQ bs e vt:Int):=by
     rw[bz (by omega)]
     unfold bQ
     rcases oC with h1|h1
     ·rw[if_pos h1];omega
     ·rw[if_neg fun h2=>Pa.2.2 (h2.trans h1.symm)];omega
    have N7:(bQ bs e vt:Int)<(k:Int):=by omega
    have Mp:=dH (f:=ir) hq
    have yX:=dH (f:=ir) Lg
    rw[fE]at Gk
    have yY:=dK.up i vE
    rw[po]at yY
    have jW:=dK.lo vt Lg
    have hw3:IntKind.i64.wrap (ir vt+1)=ir vt+1:=bz (by omega)
    rw[aA]at Mp yX
    generalize wE:cj bs e=b at *
    by_cases jH:ir (bQ bs e vt)<0
    ·by_cases fS:0<fx bs f e (bQ bs e vt)
     ·have hV:=dK.visit ok vE (e:=e) he (by rw[po];exact oC) (by rw[po];exact jH) (by rw[po];exact fS)
      rw[po]at hV
      have eQ:(dP ir k).set (bQ bs e vt) (aA (ir vt+1))=dP (fun v=>if v=bQ bs e vt then ir vt+1 else ir v) k:=kH hq (if_pos rfl) fun v _ hv=>if_neg hv
      rw[aA]at eQ
      have e1:Q'.length+1<=16777216:=by omega
      (repeat(first|((repeat(revert hN;revert N;apply Pn.out));refine wk (tw @je (tw @c0 (tw @c5 (tw @c8 (tw @c9 (tw @c7 (tw @GZ (tw @wi (tw @hx (tw @hA (tw @pf (tw @L9 (tw @JS (tw @hZ (tw @rn (tw @z8 (tw @N7 (tw @Mp (tw @yX (tw @jH (tw @fS (tw @hw3 (tw @eQ (tw @MH (tw @Nk (tw @xW (tw @lD (tw @x1 (tw @e1 (tw @eN.eq_1 (tw @ay.eq_1 @fE.eq_1))))))))))))))))))))))))))))))) ?_;(repeat(refine Pn.mk ?_;intro N hN)))|((try apply Or.inl);refine⟨_,aq.x (Gk) (sd (tw @je (tw @c0 (tw @c5 (tw @c8 (tw @c9 (tw @c7 (tw @GZ (tw @wi (tw @hx (tw @hA (tw @pf (tw @L9 (tw @JS (tw @hZ (tw @rn (tw @z8 (tw @N7 (tw @Mp (tw @yX (tw @jH (tw @fS (tw @hw3 (tw @eQ (tw @MH (tw @Nk (tw @xW (tw @lD (tw @x1 (tw @e1 (tw @eN.eq_1 (tw @ay.eq_1 @fE.eq_1)))))))))))))))))))))))))))))))),?_⟩;refine hN _ _ ?_;clear hN N)))
      exact fY (sd (tw @je (tw @c0 (tw @c5 (tw @c8 @c9))))) (⟨_,Q'++[bQ bs e vt],⟨253020003,st_c.next+1+1+1+1+1+1⟩,by rw[List.length_append];simp only[go_sem, ↓reduceIte,Nat.reduceEqDiff,Nat.reduceAdd,Nat.reduceSub,Nat.reduceLeDiff,reduceCtorEq,List.length_cons,List.length_nil],by rw[List.map_append,List.map_cons,List.map_nil];simp only[go_sem, ↓reduceIte,Nat.reduceEqDiff,Nat.reduceAdd,Nat.reduceSub,Nat.reduceLeDiff,reduceCtorEq,eN],sd (tw @lD @x1),by(try dsimp only);omega,by(try dsimp only);omega,hV,⟨by simp;omega,by rw[List.getElem_append_left vE];exact po⟩,fun z hz hr=>by
       by_cases PN:z=x
       ·subst PN
        rw[<-QO,if_pos rfl]
        have:=(dK.iff vt Lg).2 (by rw[<-po];exact List.getElem_mem vE)
        omega
       ·have:=I7 z (by omega) hr
        split
        ·have:=(dK.iff vt Lg).2 (by rw[<-po];exact List.getElem_mem vE)
         omega
        ·exact this⟩)
     ·(repeat(first|((repeat(revert hN;revert N;apply Pn.out));refine wk (tw @je (tw @c0 (tw @c5 (tw @c8 (tw @c9 (tw @c7 (tw @GZ (tw @wi (tw @hx (tw @hA (tw @pf (tw @L9 (tw @JS (tw @hZ (tw @rn (tw @z8 (tw @N7 (tw @Mp (tw @jH (tw @fS (tw @Nk (tw @xW (tw @lD (tw @x1 (tw @eN.eq_1 (tw @ay.eq_1 @fE.eq_1)))))))))))))))))))))))))) ?_;(repeat(refine Pn.mk ?_;intro N hN)))|((try apply Or.inl);refine⟨_,aq.x (Gk) (sd (tw @je (tw @c0 (tw @c5 (tw @c8 (tw @c9 (tw @c7 (tw @GZ (tw @wi (tw @hx (tw @hA (tw @pf (tw @L9 (tw @JS (tw @hZ (tw @rn (tw @z8 (tw @N7 (tw @Mp (tw @jH (tw @fS (tw @Nk (tw @xW (tw @lD (tw @x1 (tw @eN.eq_1 (tw @ay.eq_1 @fE.eq_1))))))))))))))))))))))))))),?_⟩;refine hN _ _ ?_;clear hN N)))
      exact fY (sd (tw @je (tw @c0 (tw @c5 (tw @c8 @c9))))) (⟨ir,Q',p',sd @c7,sd (tw @GZ @xW),sd (tw @wi @lD),Cl,by(try dsimp only);omega,dK,⟨vE,po⟩,fun z hz hr=>by
       by_cases PN:z=x
       ·subst PN;rw[<-QO]at hr;exact absurd hr fS
       ·exact I7 z (by omega) hr⟩)
    ·(repeat(first|((repeat(revert hN;revert N;apply Pn.out));refine wk (tw @je (tw @c0 (tw @c5 (tw @c8 (tw @c9 (tw @c7 (tw @GZ (tw @wi (tw @hx (tw @hA (tw @pf (tw @L9 (tw @JS (tw @hZ (tw @rn (tw @z8 (tw @N7 (tw @Mp (tw @jH (tw @Nk (tw @xW (tw @lD (tw @x1 (tw @eN.eq_1 (tw @ay.eq_1 @fE.eq_1))))))))))))))))))))))))) ?_;(repeat(refine Pn.mk ?_;intro N hN)))|((try apply Or.inl);refine⟨_,aq.x (Gk) (sd (tw @je (tw @c0 (tw @c5 (tw @c8 (tw @c9 (tw @c7 (tw @GZ (tw @wi (tw @hx (tw @hA (tw @pf (tw @L9 (tw @JS (tw @hZ (tw @rn (tw @z8 (tw @N7 (tw @Mp (tw @jH (tw @Nk (tw @xW (tw @lD (tw @x1 (tw @eN.eq_1 (tw @ay.eq_1 @fE.eq_1)))))))))))))))))))))))))),?_⟩;refine hN _ _ ?_;clear hN N)))
     exact fY (sd (tw @je (tw @c0 (tw @c5 (tw @c8 @c9))))) (⟨ir,Q',p',sd @c7,sd (tw @GZ @xW),sd (tw @wi @lD),Cl,by(try dsimp only);omega,dK,⟨vE,po⟩,fun z hz hr=>by
      by_cases PN:z=x
      ·subst PN;rw[<-QO];omega
      ·exact I7 z (by omega) hr⟩)
   ·have hxe:x=I.length:=by omega
    have hw:IntKind.i64.wrap ((i:Int)+1)=((i+1:Nat):Int):=aB (by omega)
    (try((repeat(revert hN;revert N;apply Pn.out));refine wk (tw @je (tw @c0 (tw @c5 (tw @c8 (tw @c9 (tw @c7 (tw @hx (tw @hA (tw @pf (tw @JS @fE.eq_1)))))))))) ?_;(repeat(refine Pn.mk ?_;intro N hN))))
    refine⟨_,?_,i+1,ir,Q',p',rfl,sd (tw @je (tw @c0 (tw @c5 (tw @c8 (tw @c9 @hw))))),sd @c7,sd @GZ,sd @wi,Cl,by(try dsimp only);omega,dK.next vE fun e he hr=>?_,by omega⟩
    ·omega
    ·rw[po,hIn]at he
     rw[po]at hr ⊢
     obtain⟨z,hz,rfl⟩:=Mx e he
     exact I7 z (by omega) hr
 ·(try((repeat(revert hN;revert N;apply Pn.out));refine wk (tw @b0 (tw @b5 (tw @b7 (tw @b8 (tw @hi @fE.eq_1))))) ?_;(repeat(refine Pn.mk ?_;intro N hN))))
  have rh:fV st_b.get 6 (.own o 0 k)=some (.sl (dP out k)):=sS bgo (by rw[Ri];omega) (by rw[List.drop_zero,List.take_of_length_le (by rw[Ri];omega)];exact IC)
  exact⟨_,rfl,_,by simp only[go_sem, ↓reduceIte,Nat.reduceEqDiff,Nat.reduceAdd,Nat.reduceSub,Nat.reduceLeDiff,reduceCtorEq,eH];exact rh,out,rfl,hB.done ok (by omega)⟩
end Go.Proofs.YtgoljkjaameagaaGreat.V

namespace Go.Proofs.YtgoljkjaameagaaGreat.V
open Go.RowKit
attribute [local irreducible] ej wpOps fQ Call
attribute [local go_sem] aH fq eD fH fG cV upd bZ K.av cC AV.cells AV.cell rowOf rowsOf part ld rowAt bK bR du dQ gE bB cR eb fF eL dh dV cP cN dD dE bF aT cG bE cI cH dS dW dU cF bJ cQ dR bD aJ cK cm gD bd cz bG aP dn aX dv AV.undef bj bx dG dO dz dF cu ea ei ck dY dX cJ cL List.getD_cons_zero List.getD_cons_succ List.getD_nil List.all_cons List.all_nil Bool.and_true Bool.true_and Bool.and_self Bool.not_true Bool.not_false Option.map_some Option.map_none Option.bind_some Option.bind_none List.length_cons List.length_nil List.take_succ_cons List.take_zero List.take_nil List.drop_succ_cons List.drop_zero List.drop_nil List.head?_cons List.map_cons List.map_nil List.getElem?_cons_zero List.getElem?_cons_succ List.cons_append List.nil_append List.append_nil List.length_map List.set_cons_zero List.set_cons_succ eq_self Int.toNat_natCast Int.natCast_nonneg and_self true_and and_true decide_true decide_false Bool.false_eq_true Nat.zero_add Nat.add_zero List.contains_cons List.contains_nil Bool.or_false Bool.false_or beq_self_eq_true ne_eq not_true_eq_false not_false_eq_true Id.mk.injEq false_and and_false Nat.le_refl List.length_append beq_true beq_false Bool.not_eq_eq_eq_not or_false false_or eo aj ar aK aV bp bW aQ aZ aN aU cD bI
def NM:IW (List Nat):=fun g cs x ids=>(x=[]/\cs=[.cq]/\ids=[])∨∃id,cs=[.own id 0 x.length]/\0<x.length/\g id=some ⟨true,1,x.map eN⟩/\ids=[id]
theorem Lm:y7 NM 1 where
 frame:=fun h hf=>by
  rcases h with h|⟨id,h1,h0,h2,h3⟩
  ·exact .inl h
  ·subst h3;exact .inr ⟨id,h1,h0,(hf id (by simp)).trans h2,rfl⟩
 len:=fun h=>by rcases h with⟨_,h,_⟩|⟨id,h,_⟩<;>subst h<;>rfl
 cell:=fun h=>by rcases h with⟨_,h,_⟩|⟨id,h,_⟩<;>subst h<;>rfl
 live:=fun h i hi=>by
  rcases h with⟨_,_,h⟩|⟨id,h1,h0,h2,h3⟩
  ·subst h;cases hi
  ·subst h3
   have:i=id:=by simpa using hi
   subst this
   exact⟨_,h2,rfl,by simp[sJ]⟩
 small:=by simp[sJ]
theorem M5 {g:Rows} {rows:List (List AV)} {xs:List (List Nat)} {ids:List Id} (n:Nat) (h:eM NM g rows xs ids):eh (eo g) (n+2) rows=some (xs.map fun l=>[Nh l]):=
 h.fz (fun {cs x ids} h=>by
  rcases h with⟨h0,h1,_⟩|⟨id,h1,h0,h2,_⟩
  ·subst h0 h1;rw[aj,ar,aQ];rfl
  ·have gM:x≠[]:=by rintro rfl;simp at h0
   subst h1
   rw[aj,ar,gO (e:=eN) (sz:=1) (by simp[eo,h2]) rfl fun a=>fzN _ n a]
   simp[Nh,gM])
theorem eM.P6 {α:Type} {R:IW α} {sz:Nat} {g:Rows} {rows:List (List AV)} {xs:List α} {ids:List Id} (ok:y7 R sz) (h:eM R g rows xs ids) (nB:ids.Nodup) (k:Nat) (hk:k<xs.length):
  ∃cs ic,rows[k]? =some cs/\R g cs xs[k] ic/\(∀i∈ic,i∈ids)/\∀(g':Rows) oL x' Og,R g' oL x' Og->(∀i∈ids,i∉ic->g' i=g i)->Og.Nodup->(∀i∈Og,i∉ids)->∃Cq,eM R g' (rows.set k oL) (xs.set k x') Cq/\Cq.Nodup/\∀i∈Cq,i∈Og∨i∈ids:=by
 obtain⟨r1,cs,r2,i1,ic,i2,rfl,rfl,rfl,h3,h4,h5⟩:=h.split k hk
 obtain⟨n1,n2,n3⟩:=List.nodup_append.1 nB
 obtain⟨nc,n5,n4⟩:=List.nodup_append.1 n2
 refine⟨cs,ic,by simp,h4,fun i hi=>by simp[hi],fun g' oL x' Og hR hf hn' ki=>⟨i1++(Og++i2),?_,?_,fun i hi=>?_⟩⟩
 ·have e:xs.set r1.length x'=xs.take r1.length++x'::xs.drop (r1.length+1):=by rw[List.set_eq_take_append_cons_drop,if_pos hk]
  have e2:(r1++cs::r2).set r1.length oL=r1++oL::r2:=by simp
  rw[e,e2]
  refine(h3.frame ok fun i hi=>hf i (by simp[hi]) fun hc=>n3 i hi i (by simp[hc]) rfl).app (.cons hR (h5.frame ok fun i hi=>hf i (by simp[hi]) fun hc=>n4 i hc i hi rfl))
 ·rw[List.nodup_append,List.nodup_append]
  refine⟨n1,⟨hn',n5,fun x hx y hy he=>?_⟩,fun x hx y hy he=>?_⟩
  ·subst he;exact ki x hx (by simp[hy])
  ·subst he
   rcases List.mem_append.1 hy with hy|hy
   ·exact ki x hy (by simp[hx])
   ·exact n3 x hx x (by simp[hy]) rfl
 ·rcases List.mem_append.1 hi with hi|hi
  ·exact .inr (by simp[hi])
  ·rcases List.mem_append.1 hi with hi|hi
   ·exact .inl hi
   ·exact .inr (by simp[hi])
def pM (A:Id) (lo:Nat) (L:List (List Nat)) (g:Rows) (nx:Nat):Prop:=∃rows ids,g A=some ⟨true,1,rows⟩/\eM NM g rows L ids/\ids.Nodup/\∀i∈ids,lo<i.bt/\i.bt<nx
def br (cnt:Nat) (bs:List PB) (A F:Id):List AV:=[.int .i64 cnt,.sl (bs.map ay),.own A 0 cnt,.own F 0 bs.length]
def kR (cnt:Nat) (bs:List PB) (m:Nat):List (List Nat):=(List.range cnt).map fun v=>iE bs m v
theorem iX (cnt:Nat) (bs:List PB) (m:Nat):(kR cnt bs m).length=cnt:=by simp[kR]
structure nf (cnt:Nat) (bs:List PB) (f:Nat->Int) (X A F:Id) (g:Rows) (nx:Nat):Prop where
 x:g X=some ⟨true,4,[br cnt bs A F]⟩
 a:pM A F.bt (kR cnt bs bs.length) g nx
 f:g F=some ⟨true,1,dP f bs.length⟩
 xa:X.bt<A.bt
 af:A.bt<F.bt
 fn:F.bt<nx
theorem pM.fz {A:Id} {lo cnt:Nat} {bs:List PB} {m nx n:Nat} {g:Rows} (h:pM A lo (kR cnt bs m) g nx):V.fz (eo g) (n+3) (.own A 0 cnt)=some (.sl (oX cnt bs m)):=by
 obtain⟨rows,ids,h1,h2,_,_⟩:=h
 have hl:=h2.len
 rw[iX]at hl
 rw[iv]
 simp only[eo,h1,Option.map_some,if_true]
 rw[if_pos (by omega),List.drop_zero,List.take_of_length_le (by omega)]
 have:=M5 n h2
 rw[this]
 simp[kR,oX]
theorem nf.fz {cnt:Nat} {bs:List PB} {f:Nat->Int} {X A F:Id} {g:Rows} {nx:Nat} (h:nf cnt bs f X A F g nx):V.fz (eo g) 6 (.ptr X 0 0)=some (.dd (fE cnt bs f)):=by
 have hF:eo g F=some ⟨true,1,dP f bs.length⟩:=by simp[eo,h.f]
 have hX:eo g X=some ⟨true,4,[br cnt bs A F]⟩:=by simp[eo,h.x]
 have hf:V.fz (eo g) 5 (.own F 0 bs.length)=some (.sl (dP f bs.length)):=by
  rw[iv]
  simp only[hF,if_true]
  rw[if_pos (by rw[dw];omega),List.drop_zero,List.take_of_length_le (by rw[dw];omega),yK];rfl
 have ha:=h.a.fz (n:=2)
 rw[aU]
 simp only[hX,if_true,List.getElem?_cons_zero,List.drop_zero,br,aj,ar,aK,bW,ha,hf,Option.map_some,fE]
theorem Fg (cnt:Nat) (bs:List PB):kR cnt bs 0=List.replicate cnt []:=by
 refine List.ext_getElem? fun i=>?_
 simp only[kR,List.getElem?_map,List.getElem?_replicate]
 by_cases h:i<cnt
 ·rw[List.getElem?_range h,if_pos h];rfl
 ·rw[List.getElem?_eq_none (by simpa using h),if_neg h];rfl
theorem xe (g:Rows):∀n:Nat,eM NM g (List.replicate n [.cq]) (List.replicate n []) []
 |0=>.nil
 |n+1=>.cons (i1:=[]) (.inl ⟨rfl,rfl,rfl⟩) (xe g n)
def vL (cnt:Nat) (bs:List PB) (m:Nat):List (List Nat):=(kR cnt bs m).set (cj bs m).a (iE bs m (cj bs m).a++[m])
theorem Ad {cnt:Nat} {bs:List PB} {m v:Nat} (hv:v<cnt) (gM:(cj bs m).a≠v):(vL cnt bs m)[v]? =some (iE bs m v):=by
 unfold vL
 rw[List.getElem?_set_ne gM]
 simp[kR,hv]
theorem Ff {cnt:Nat} {bs:List PB} {m:Nat} (ha:(cj bs m).a<cnt) (hb:(cj bs m).b<cnt) (gM:(cj bs m).a≠(cj bs m).b):(vL cnt bs m).set (cj bs m).b (iE bs m (cj bs m).b++[m])=kR cnt bs (m+1):=by
 refine List.ext_getElem? fun i=>?_
 by_cases hi:i<cnt
 ·have hr:(kR cnt bs (m+1))[i]? =some (iE bs (m+1) i):=by simp[kR,hi]
  rw[hr,Fh]
  by_cases h1:(cj bs m).b=i
  ·rw[List.getElem?_set,if_pos h1,if_pos (by simp[vL,iX];omega),if_pos (.inr h1),h1]
  ·rw[List.getElem?_set_ne h1]
   by_cases h2:(cj bs m).a=i
   ·unfold vL
    rw[List.getElem?_set,if_pos h2,if_pos (by rw[iX];omega),if_pos (.inl h2),h2]
   ·rw[Ad hi h2,if_neg (fun h=>h.elim h2 h1),List.append_nil]
 ·rw[List.getElem?_eq_none (by simp[vL,iX];omega),List.getElem?_eq_none (by rw[iX];omega)]
theorem kg {α:Type} {l:List α} {k:Nat} {x:α} (h:l[k]? =some x) (hk:k<l.length):l[k]=x:=by
 rw[List.getElem?_eq_getElem hk]at h;exact Option.some.inj h
theorem D8 {A K:Id} {lo P0 nx k j:Nat} {L:List (List Nat)} {La:List Nat} {g:Rows} {rows:List (List AV)} {ids:List Id} (hR:eM NM g rows L ids) (nB:ids.Nodup) (mQ:∀i∈ids,lo<i.bt/\i.bt<P0) (hA:A.bt<=lo) (hL:L[k]? =some La) (hK1:P0<=K.bt) (OR:K.bt<nx) (jW:lo<P0):
  ∃cs,rows[k]? =some cs/\((La=[]/\cs=[.cq])∨∃id:Id,cs=[.own id 0 La.length]/\0<La.length/\g id=some ⟨true,1,La.map eN⟩/\id.bt<P0/\lo<id.bt)/\
   ∀g':Rows,g' A=some ⟨true,1,rows.set k [.own K 0 (La.length+1)]⟩->g' K=some ⟨true,1,La.map eN++[[.int .i64 j]]⟩->(∀i:Id,i.bt<P0->(i=A)=False->(∀id,cs=[.own id 0 La.length]->(i=id)=False)->g' i=g i)->pM A lo (L.set k (La++[j])) g' nx:=by
 have hk:k<L.length:=(List.getElem?_eq_some_iff.1 hL).1
 have R6:=kg hL hk
 obtain⟨cs,ic,dp,NT,Pj,qd⟩:=hR.P6 Lm nB k hk
 rw[R6]at NT
 refine⟨cs,dp,?_,fun g' h1 h2 h3=>?_⟩
 ·rcases NT with⟨h1,h2,_⟩|⟨id,h1,h2,h3,h4⟩
  ·exact .inl ⟨h1,h2⟩
  ·subst h4
   have:=mQ id (Pj id (by simp))
   exact .inr ⟨id,h1,h2,h3,this.2,this.1⟩
 ·obtain⟨Cq,q1,q2,q3⟩:=qd g' [.own K 0 (La.length+1)] (La++[j]) [K] (.inr ⟨K,by simp,by simp,by rw[h2];simp[eN],rfl⟩) (fun i hi QZ=>by
   refine h3 i (mQ i hi).2 ?_ fun id hid=>?_
   ·simp only[eq_iff_iff,iff_false];rintro rfl;have:=mQ _ hi;omega
   ·simp only[eq_iff_iff,iff_false]
    rintro rfl
    rcases NT with⟨_,h4,_⟩|⟨kJ,h4,_,_,h5⟩
    ·rw[hid]at h4;cases h4
    ·rw[hid]at h4
     simp only[List.cons.injEq,AV.own.injEq,and_true]at h4
     rw[h5,h4]at QZ
     exact QZ (by simp)) (by simp) fun i hi hc=>by
   rw[List.mem_singleton.1 hi]at hc;have:=mQ _ hc;omega
  refine⟨_,Cq,h1,q1,q2,fun i hi=>?_⟩
  rcases q3 i hi with h|h
  ·rw[List.mem_singleton.1 h];omega
  ·have:=mQ i h;omega
theorem KM {P:Program} {Q:Ex->Env->ax->Prop} {c:VC} {env:Env} {σ:ax} (I:Env->ax->Prop) (h2:∀e s,I e s->Q .normal e s) (h1:∀N':Env->ax->Prop,(∀e s,I e s->N' e s)->ej (Call P) c (dn N' Q) env σ):ej (Call P) c Q env σ:=by
 refine kI (fun _ _ _ _ h=>h) bL c _ _ env σ (fun x e s h=>?_) (h1 I fun _ _ h=>h)
 cases x with
 |normal=>exact h2 e s h
 |exit id=>exact h
 |ret=>exact h
end Go.Proofs.YtgoljkjaameagaaGreat.V
