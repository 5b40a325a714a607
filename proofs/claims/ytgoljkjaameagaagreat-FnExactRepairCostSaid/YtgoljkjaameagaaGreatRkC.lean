/- The laws' helpers of lists, which every type shares: sizes, copies, comparisons. The codes of them were printed by gcode.py. -/
import Derived.Test.YtgoljkjaameagaaGreatRkB
import Derived.Test.YtgoljkjaameagaaGreatRkA
set_option linter.unusedVariables false
set_option linter.unusedSimpArgs false
set_option maxRecDepth 100000
set_option maxHeartbeats 16000000
namespace Go.Proofs.YtgoljkjaameagaaGreat.V
open Go.RowKit
attribute [local irreducible] dE wpOps fS Call
attribute [local go_sem] aH fq eG fH fG cX upd bZ K.av cD AV.cells AV.cell rowOf rowsOf part ld rowAt br bP dn dR gK bx cQ eb fD eS di dW cN cL dH dI bD aW cF bB cH cG dU dX dV cE bG cP dS bz aI cJ cq gJ bj cz bE aT de aX dp AV.undef bq bt dL dQ dB dz cw ea ee cj dZ dY cI cK List.getD_cons_zero List.getD_cons_succ List.getD_nil List.all_cons List.all_nil Bool.and_true Bool.true_and Bool.and_self Bool.not_true Bool.not_false Option.map_some Option.map_none Option.bind_some Option.bind_none List.length_cons List.length_nil List.take_succ_cons List.take_zero List.take_nil List.drop_succ_cons List.drop_zero List.drop_nil List.head?_cons List.map_cons List.map_nil List.getElem?_cons_zero List.getElem?_cons_succ List.cons_append List.nil_append List.append_nil List.length_map List.set_cons_zero List.set_cons_succ Nat.reduceMul eq_self Int.toNat_natCast Int.natCast_nonneg and_self true_and and_true decide_true decide_false Bool.false_eq_true Nat.zero_add Nat.add_zero List.contains_cons List.contains_nil Bool.or_false Bool.false_or beq_self_eq_true Nat.reduceBEq ne_eq not_true_eq_false not_false_eq_true Id.mk.injEq false_and and_false Nat.reduceLT Int.reduceLE Int.reduceLT Int.reduceToNat Int.reduceNeg Int.reduceAdd Nat.le_refl List.length_append beq_true beq_false Bool.not_eq_eq_eq_not or_false false_or dD ah aq aF aY bp bK aP bc aN aV cC bF
variable {P:Program}
def J9 (f g z:Nat):zd:=let s:=f*1000000
 ⟨27,2,(.seq (.eD false [q 4 (.dh (.k (.int .i64 0))) s]) (.seq (.eD false [q 6 (.dh (.t 1)) (s+1000),q 7 (.dh (.t 0)) (s+1001),q 8 (.len (.t 7)) (s+1002),q 9 (.bin .sub .i64 (.t 6) (.t 8)) (s+1003),q 1 (.dh (.t 9)) (s+1004)]) (.seq (.seq (.eD false [q 10 (.dh (.t 1)) (s+2000),q 11 (.bin .lss .i64 (.t 10) (.k (.int .i64 0))) (s+2001)]) (.cond (.t 11) (.seq (.eD false [q 4 (.dh (.k (.int .i64 (-1)))) (s+3000)]) .ret) .skip)) (.seq (.seq (.eD false [q 5 (.dh (.k (.int .i64 0))) (s+4000)]) (.block 0 (.loop (.seq (.seq (.eD false [q 12 (.dh (.t 5)) (s+5000),q 13 (.dh (.t 0)) (s+5001),q 14 (.len (.t 13)) (s+5002),q 15 (.bin .lss .i64 (.t 12) (.t 14)) (s+5003)]) (.cond (.t 15) .skip (.exit 0))) (.seq (.block 1 (.seq (.eD false [q 18 (.dh (.t 0)) (s+7000),q 19 (.dh (.t 5)) (s+7001),q 20 (.ec z (.t 18) (.t 19)) (s+7002),q 21 (.load true z (.t 20)) (s+7003),q 22 (.dh (.t 1)) (s+7004),q 23 (.call g [(.t 21),(.t 22)]) (s+7005),q 1 (.dh (.t 23)) (s+7006)]) (.seq (.eD false [q 24 (.dh (.t 1)) (s+8000),q 25 (.bin .lss .i64 (.t 24) (.k (.int .i64 0))) (s+8001)]) (.cond (.t 25) (.seq (.eD false [q 4 (.dh (.k (.int .i64 (-1)))) (s+9000)]) .ret) .skip)))) (.eD false [q 16 (.dh (.t 5)) (s+6000),q 17 (.bin .add .i64 (.t 16) (.k (.int .i64 1))) (s+6001),q 5 (.dh (.t 17)) (s+6002)])))))) (.seq (.eD false [q 26 (.dh (.t 1)) (s+10000),q 4 (.dh (.t 26)) (s+10001)]) .ret))))),[(.tmp 4)]⟩
def FC (f:Nat):zd:=let s:=f*1000000
 ⟨12,2,(.seq (.eD false [q 4 (.dh (.k (.int .i64 0))) s]) (.seq (.eD false [q 5 (.dh (.t 1)) (s+1000),q 6 (.dh (.t 0)) (s+1001),q 7 (.len (.t 6)) (s+1002),q 8 (.bin .sub .i64 (.t 5) (.t 7)) (s+1003),q 1 (.dh (.t 8)) (s+1004)]) (.seq (.seq (.eD false [q 9 (.dh (.t 1)) (s+2000),q 10 (.bin .lss .i64 (.t 9) (.k (.int .i64 0))) (s+2001)]) (.cond (.t 10) (.seq (.eD false [q 4 (.dh (.k (.int .i64 (-1)))) (s+3000)]) .ret) .skip)) (.seq (.eD false [q 11 (.dh (.t 1)) (s+4000),q 4 (.dh (.t 11)) (s+4001)]) .ret)))),[(.tmp 4)]⟩
def Bj (f g z:Nat):zd:=let s:=f*1000000
 ⟨27,2,(.seq (.eD false [q 4 (.dh (.k (.bool false))) s]) (.seq (.seq (.eD false [q 6 (.dh (.t 0)) (s+1000),q 7 (.len (.t 6)) (s+1001),q 8 (.dh (.t 1)) (s+1002),q 9 (.len (.t 8)) (s+1003),q 10 (.NT true .tI (.t 7) (.t 9)) (s+1004)]) (.cond (.t 10) (.seq (.eD false [q 4 (.dh (.k (.bool false))) (s+2000)]) .ret) .skip)) (.seq (.seq (.eD false [q 5 (.dh (.k (.int .i64 0))) (s+3000)]) (.block 0 (.loop (.seq (.seq (.eD false [q 11 (.dh (.t 5)) (s+4000),q 12 (.dh (.t 0)) (s+4001),q 13 (.len (.t 12)) (s+4002),q 14 (.bin .lss .i64 (.t 11) (.t 13)) (s+4003)]) (.cond (.t 14) .skip (.exit 0))) (.seq (.block 1 (.seq (.eD true [q 17 (.dh (.t 0)) (s+6000),q 18 (.dh (.t 5)) (s+6001),q 19 (.ec z (.t 17) (.t 18)) (s+6002),q 20 (.load true z (.t 19)) (s+6003),q 21 (.dh (.t 1)) (s+6004),q 22 (.dh (.t 5)) (s+6005),q 23 (.ec z (.t 21) (.t 22)) (s+6006),q 24 (.load true z (.t 23)) (s+6007),q 25 (.call g [(.t 20),(.t 24)]) (s+6008),q 26 (.not (.t 25)) (s+6009)]) (.cond (.t 26) (.seq (.eD false [q 4 (.dh (.k (.bool false))) (s+7000)]) .ret) .skip))) (.eD false [q 15 (.dh (.t 5)) (s+5000),q 16 (.bin .add .i64 (.t 15) (.k (.int .i64 1))) (s+5001),q 5 (.dh (.t 16)) (s+5002)])))))) (.seq (.eD false [q 4 (.dh (.k (.bool true))) (s+8000)]) .ret)))),[(.tmp 4)]⟩
def ML (f:Nat) (t:TS):zd:=let s:=f*1000000
 ⟨26,2,(.seq (.eD false [q 4 (.dh (.k (.bool false))) s]) (.seq (.seq (.eD false [q 6 (.dh (.t 0)) (s+1000),q 7 (.len (.t 6)) (s+1001),q 8 (.dh (.t 1)) (s+1002),q 9 (.len (.t 8)) (s+1003),q 10 (.NT true .tI (.t 7) (.t 9)) (s+1004)]) (.cond (.t 10) (.seq (.eD false [q 4 (.dh (.k (.bool false))) (s+2000)]) .ret) .skip)) (.seq (.seq (.eD false [q 5 (.dh (.k (.int .i64 0))) (s+3000)]) (.block 0 (.loop (.seq (.seq (.eD false [q 11 (.dh (.t 5)) (s+4000),q 12 (.dh (.t 0)) (s+4001),q 13 (.len (.t 12)) (s+4002),q 14 (.bin .lss .i64 (.t 11) (.t 13)) (s+4003)]) (.cond (.t 14) .skip (.exit 0))) (.seq (.block 1 (.seq (.eD true [q 17 (.dh (.t 0)) (s+6000),q 18 (.dh (.t 5)) (s+6001),q 19 (.ec 1 (.t 17) (.t 18)) (s+6002),q 20 (.load false 1 (.t 19)) (s+6003),q 21 (.dh (.t 1)) (s+6004),q 22 (.dh (.t 5)) (s+6005),q 23 (.ec 1 (.t 21) (.t 22)) (s+6006),q 24 (.load false 1 (.t 23)) (s+6007),q 25 (.NT true t (.t 20) (.t 24)) (s+6008)]) (.cond (.t 25) (.seq (.eD false [q 4 (.dh (.k (.bool false))) (s+7000)]) .ret) .skip))) (.eD false [q 15 (.dh (.t 5)) (s+5000),q 16 (.bin .add .i64 (.t 15) (.k (.int .i64 1))) (s+5001),q 5 (.dh (.t 16)) (s+5002)])))))) (.seq (.eD false [q 4 (.dh (.k (.bool true))) (s+8000)]) .ret)))),[(.tmp 4)]⟩
def Cs (f g z:Nat) (zero:List K):zd:=let s:=f*1000000
 ⟨23,1,(.seq (.eD false [q 2 (.dh (.k .cm)) s]) (.seq (.eD false [q 5 (.dh (.t 0)) (s+1000),q 6 (.len (.t 5)) (s+1001),q 7 (.j3 zero (.t 6) (.t 6)) (s+1002),q 3 (.dh (.t 7)) (s+1003)]) (.seq (.seq (.eD false [q 4 (.dh (.k (.int .i64 0))) (s+2000)]) (.block 0 (.loop (.seq (.seq (.eD false [q 8 (.dh (.t 4)) (s+3000),q 9 (.dh (.t 0)) (s+3001),q 10 (.len (.t 9)) (s+3002),q 11 (.bin .lss .i64 (.t 8) (.t 10)) (s+3003)]) (.cond (.t 11) .skip (.exit 0))) (.seq (.block 1 (.eD false [q 14 (.dh (.t 3)) (s+5000),q 15 (.dh (.t 4)) (s+5001),q 16 (.dh (.t 0)) (s+5002),q 17 (.dh (.t 4)) (s+5003),q 18 (.ec z (.t 16) (.t 17)) (s+5004),q 19 (.load true z (.t 18)) (s+5005),q 20 (.call g [(.t 19)]) (s+5006),q 21 (.ec z (.t 14) (.t 15)) (s+5007),⟨none,(.store z (.t 21) (.t 20)),none,(s+5008),[]⟩])) (.eD false [q 12 (.dh (.t 4)) (s+4000),q 13 (.bin .add .i64 (.t 12) (.k (.int .i64 1))) (s+4001),q 4 (.dh (.t 13)) (s+4002)])))))) (.seq (.eD false [q 22 (.dh (.t 3)) (s+6000),q 2 (.dh (.t 22)) (s+6001)]) .ret)))),[(.tmp 2)]⟩
def Nl (f:Nat) (zero:K):zd:=let s:=f*1000000
 ⟨22,1,(.seq (.eD false [q 2 (.dh (.k .cm)) s]) (.seq (.eD false [q 5 (.dh (.t 0)) (s+1000),q 6 (.len (.t 5)) (s+1001),q 7 (.j3 [zero] (.t 6) (.t 6)) (s+1002),q 3 (.dh (.t 7)) (s+1003)]) (.seq (.seq (.eD false [q 4 (.dh (.k (.int .i64 0))) (s+2000)]) (.block 0 (.loop (.seq (.seq (.eD false [q 8 (.dh (.t 4)) (s+3000),q 9 (.dh (.t 0)) (s+3001),q 10 (.len (.t 9)) (s+3002),q 11 (.bin .lss .i64 (.t 8) (.t 10)) (s+3003)]) (.cond (.t 11) .skip (.exit 0))) (.seq (.block 1 (.eD false [q 14 (.dh (.t 3)) (s+5000),q 15 (.dh (.t 4)) (s+5001),q 16 (.dh (.t 0)) (s+5002),q 17 (.dh (.t 4)) (s+5003),q 18 (.ec 1 (.t 16) (.t 17)) (s+5004),q 19 (.load false 1 (.t 18)) (s+5005),q 20 (.ec 1 (.t 14) (.t 15)) (s+5006),⟨none,(.store 1 (.t 20) (.t 19)),none,(s+5007),[]⟩])) (.eD false [q 12 (.dh (.t 4)) (s+4000),q 13 (.bin .add .i64 (.t 12) (.k (.int .i64 1))) (s+4001),q 4 (.dh (.t 13)) (s+4002)])))))) (.seq (.eD false [q 21 (.dh (.t 3)) (s+6000),q 2 (.dh (.t 21)) (s+6001)]) .ret)))),[(.tmp 2)]⟩
def xi (n:Nat) (l:Int):Int:=if (n:Int)<=l then l-n else -1
theorem Ey {fk:Nat} (hc:mU P fk=some (FC fk)) (rows:List (List AV)) (left:Int) (h0:0<=left) (h1:left<=1048576):aj P fk [.sl rows,.int .i64 left] (.int .i64 (xi rows.length left)):=by
 refine aj.body hc rfl fun hl n0=>?_
 try simp only[q]
 have hn:rows.length<=9223372036854775807:=(hl (.sl rows) (by simp)).len
 clear hl
 have hw:IntKind.i64.wrap (left-(rows.length:Int))=left-rows.length:=bU (by omega)
 by_cases hf:(rows.length:Int)<=left
 ·have iP:¬left-(rows.length:Int)<0:=by omega
  (try((repeat(revert hN;revert N;apply Pn.out));refine wk (tw @hw @iP) ?_;(repeat(refine Pn.mk ?_;intro N hN))))
  exact bQ (b:=left-(rows.length:Int)) (.inl rfl) (sd @Nat.zero_add) (by rw[xi,if_pos hf])
 ·have iP:left-(rows.length:Int)<0:=by omega
  (try((repeat(revert hN;revert N;apply Pn.out));refine wk (tw @hw @iP) ?_;(repeat(refine Pn.mk ?_;intro N hN))))
  exact bQ (b:=-1) (.inl rfl) (sd @Nat.zero_add) (by rw[xi,if_neg hf])
def lh {α:Type} (f:α->Nat) (xs:List α) (k:Nat):Nat:=((xs.take k).map f).sum
theorem pM {α:Type} (f:α->Nat) (xs:List α):lh f xs 0=0:=by simp[lh]
theorem J6 {α:Type} (f:α->Nat) (xs:List α):lh f xs xs.length=(xs.map f).sum:=by simp[lh]
theorem Ev {α:Type} (f:α->Nat) {xs:List α} {k:Nat} (hk:k<xs.length):lh f xs (k+1)=lh f xs k+f xs[k]:=by
 unfold lh
 rw[List.take_succ_eq_append_getElem hk,List.map_append,List.sum_append];simp
theorem xK {α:Type} (f:α->Nat) (xs:List α) (k:Nat):lh f xs k<=(xs.map f).sum:=by
 unfold lh
 conv=>rhs;rw[<-List.take_append_drop k xs]
 rw[List.map_append,List.sum_append];omega
theorem Ka {α:Type} {e:α->List AV} {z fk gk:Nat} (wt:α->Nat) (hc:mU P fk=some (J9 fk gk z)) (hz:∀x,(e x).length=z) (CD:∀x g,dc g 6 [.agg (e x)]=some [.agg (e x)]) (xs:List α) (left:Int) (h0:0<=left) (h1:left<=1048576)
  (hg:∀x∈xs,∀l:Int,0<=l->l<=1048576->aj P gk [.agg (e x),.int .i64 l] (.int .i64 (xi (wt x) l))):aj P fk [.sl (xs.map e),.int .i64 left] (.int .i64 (xi (xs.length+(xs.map wt).sum) left)):=by
 refine aj.body hc rfl fun hl n0=>?_
 try simp only[q]
 have hn:xs.length<=9223372036854775807:=by simpa using(hl (.sl (xs.map e)) (by simp)).len
 clear hl
 have hw:IntKind.i64.wrap (left-(xs.length:Int))=left-xs.length:=bU (by omega)
 by_cases hf:(xs.length:Int)<=left
 ·have iP:¬left-(xs.length:Int)<0:=by omega
  (try((repeat(revert hN;revert N;apply Pn.out));refine wk (tw @hw @iP) ?_;(repeat(refine Pn.mk ?_;intro N hN))))
  refine aZ (fun n env st=>∃k:Nat,n=(xs.length)-k/\k<=(xs.length)/\env 5=.int .i64 (k:Int)/\env 1=(.int .i64 (left-xs.length-(lh wt xs k:Nat)))/\(0<=left-xs.length-(lh wt xs k:Nat))) (xs.length) ⟨0,by omega,by omega,sl (tw @pM (tw @Int.natCast_zero @Int.sub_zero)),sl (tw @pM (tw @Int.natCast_zero @Int.sub_zero)),(by rw[pM];omega)⟩ ?_
  rintro n_a env_a st_a ⟨k,rfl,ale,a5,a1,qQ⟩ ez
  have a0:=ez 0 (by kernel_rfl)
  simp only[go_sem, ↓reduceIte,Nat.reduceEqDiff,Nat.reduceAdd,Nat.reduceSub,Nat.reduceLeDiff,reduceCtorEq,pM,Int.natCast_zero,Int.sub_zero]at a0
  clear ez
  by_cases hk:(k:Int)<(xs.length:Int)
  ·have dd:∀{e:Env},(e 5=.int .i64 (IntKind.i64.wrap ((k:Int)+1)))->(e 1=(.int .i64 (left-xs.length-(lh wt xs (k+1):Nat))))->(0<=left-xs.length-(lh wt xs (k+1):Nat))->∃m0,m0<(xs.length)-k/\∃k:Nat,m0=(xs.length)-k/\k<=(xs.length)/\e 5=.int .i64 (k:Int)/\e 1=(.int .i64 (left-xs.length-(lh wt xs k:Nat)))/\(0<=left-xs.length-(lh wt xs k:Nat)):=fun x1 x2 x3=>⟨_,by omega,k+1,rfl,by omega,(by rw[x1,az (by omega)]),x2,x3⟩
   have fm:k<xs.length:=by omega
   have eh:(xs.map e)[k]? =some (e xs[k]):=by simp[fm]
   have xh:=hz xs[k]
   have ht:(e xs[k]).take z=e xs[k]:=by rw[<-xh,List.take_length]
   have hs:=Ev wt fm
   have uC:=xK wt xs (k+1)
   have je:=hg _ (List.getElem_mem fm) (left-xs.length-(lh wt xs k:Nat)) qQ (by omega)
   have lR:dc (dD st_a.get) 6 [.agg (e xs[k]),.int .i64 (left-xs.length-(lh wt xs k:Nat))]=some [.agg (e xs[k]),.int .i64 (left-xs.length-(lh wt xs k:Nat))]:=by
    have q1:=CD xs[k] (dD st_a.get)
    rw[ah,aq]at q1
    rw[ah,ah,aq,aF]
    revert q1
    cases V.fz (dD st_a.get) 6 (.agg (e xs[k]))<;>simp
   by_cases sM:(wt xs[k]:Int)<=left-xs.length-(lh wt xs k:Nat)
   ·rw[xi,if_pos sM]at je
    have xz:¬left-xs.length-(lh wt xs k:Nat)-(wt xs[k]:Int)<0:=by omega
    have qz:left-xs.length-(lh wt xs k:Nat)-(wt xs[k]:Int)=left-xs.length-(lh wt xs (k+1):Nat):=by rw[hs];omega
    generalize hex:e xs[k]=c at je lR eh xh ht
    (try((repeat(revert hN;revert N;apply Pn.out));refine wk (tw @a5 (tw @a1 (tw @a0 (tw @hk (tw @eh (tw @xh (tw @ht @Nat.le_refl))))))) ?_;(repeat(refine Pn.mk ?_;intro N hN))))
    refine .inl ⟨_,aj.x je lR,?_⟩
    refine hN _ _ ?_
    clear hN N
    (try((repeat(revert hN;revert N;apply Pn.out));refine wk (tw @a5 (tw @a1 (tw @a0 @xz))) ?_;(repeat(refine Pn.mk ?_;intro N hN))))
    refine dd ?_ ?_ ((by rw[hs];omega))
    all_goals simp only[go_sem, ↓reduceIte,Nat.reduceEqDiff,Nat.reduceAdd,Nat.reduceSub,Nat.reduceLeDiff,reduceCtorEq,a5,a1,a0,qz]
   ·rw[xi,if_neg sM]at je
    generalize hex:e xs[k]=c at je lR eh xh ht
    (try((repeat(revert hN;revert N;apply Pn.out));refine wk (tw @a5 (tw @a1 (tw @a0 (tw @hk (tw @eh (tw @xh (tw @ht @Nat.le_refl))))))) ?_;(repeat(refine Pn.mk ?_;intro N hN))))
    refine .inl ⟨_,aj.x je lR,?_⟩
    refine hN _ _ ?_
    clear hN N
    (try((repeat(revert hN;revert N;apply Pn.out));refine wk (tw @a5 (tw @a1 @a0)) ?_;(repeat(refine Pn.mk ?_;intro N hN))))
    exact bQ (b:=-1) (.inl rfl) (sd @Nat.zero_add) (by rw[xi,if_neg (by omega)])
  ·(try((repeat(revert hN;revert N;apply Pn.out));refine wk (tw @a5 (tw @a1 (tw @a0 @hk))) ?_;(repeat(refine Pn.mk ?_;intro N hN))))
   have fm:k=xs.length:=by omega
   subst fm
   have PY:=J6 wt xs
   exact bQ (b:=left-xs.length-(lh wt xs xs.length:Nat)) (.inl rfl) (sd (tw @a5 (tw @a1 @a0))) (by rw[xi,if_pos (by omega)];omega)
 ·have iP:left-(xs.length:Int)<0:=by omega
  (try((repeat(revert hN;revert N;apply Pn.out));refine wk (tw @hw @iP) ?_;(repeat(refine Pn.mk ?_;intro N hN))))
  exact bQ (b:=-1) (.inl rfl) (sd @Nat.zero_add) (by rw[xi,if_neg (by omega)])
theorem Ir {α:Type} {xs ys:List α} (hl:xs.length=ys.length) (h:∀j:Nat,j<xs.length->∀(h1:j<xs.length) (h2:j<ys.length),xs[j]=ys[j]):xs=ys:=List.ext_getElem hl fun j h1 h2=>h j h1 h1 h2
theorem zr {α:Type} [DecidableEq α] {e:α->List AV} {z fk gk:Nat} (hc:mU P fk=some (Bj fk gk z)) (hz:∀x,(e x).length=z) (CD:∀x g,dc g 6 [.agg (e x)]=some [.agg (e x)]) (xs ys:List α)
  (hg:∀x y,aj P gk [.agg (e x),.agg (e y)] (.bool (decide (x=y)))):aj P fk [.sl (xs.map e),.sl (ys.map e)] (.bool (decide (xs=ys))):=by
 refine aj.body hc rfl fun hl n0=>?_
 try simp only[q]
 have hn:xs.length<=9223372036854775807:=by simpa using(hl (.sl (xs.map e)) (by simp)).len
 clear hl
 by_cases hlen:xs.length=ys.length
 ·have kT:decide ((xs.length:Int)=(ys.length:Int))=true:=by simp[hlen]
  (try((repeat(revert hN;revert N;apply Pn.out));refine wk @kT ?_;(repeat(refine Pn.mk ?_;intro N hN))))
  refine aZ (fun n env st=>∃k:Nat,n=(xs.length)-k/\k<=(xs.length)/\env 5=.int .i64 (k:Int)/\(∀j:Nat,j<k->∀(h1:j<xs.length) (h2:j<ys.length),xs[j]=ys[j])) (xs.length) ⟨0,by omega,by omega,sl @Nat.zero_add,fun _ h=>absurd h (Nat.not_lt_zero _)⟩ ?_
  rintro n_a env_a st_a ⟨k,rfl,ale,a5,mi⟩ ez
  have a0:=ez 0 (by kernel_rfl);have a1:=ez 1 (by kernel_rfl)
  simp only[go_sem, ↓reduceIte,Nat.reduceEqDiff,Nat.reduceAdd,Nat.reduceSub,Nat.reduceLeDiff,reduceCtorEq]at a0 a1
  clear ez
  by_cases hk:(k:Int)<(xs.length:Int)
  ·have dd:∀{e:Env},(e 5=.int .i64 (IntKind.i64.wrap ((k:Int)+1)))->(∀(h1:k<xs.length) (h2:k<ys.length),xs[k]=ys[k])->∃m0,m0<(xs.length)-k/\∃k:Nat,m0=(xs.length)-k/\k<=(xs.length)/\e 5=.int .i64 (k:Int)/\(∀j:Nat,j<k->∀(h1:j<xs.length) (h2:j<ys.length),xs[j]=ys[j]):=fun x1 x2=>⟨_,by omega,k+1,rfl,by omega,(by rw[x1,az (by omega)]),(all_succ mi x2)⟩
   have fm:k<xs.length:=by omega
   have Oy:k<ys.length:=by omega
   have eh:(xs.map e)[k]? =some (e xs[k]):=by simp[fm]
   have Dw:(ys.map e)[k]? =some (e ys[k]):=by simp[Oy]
   have xh:=hz xs[k]
   have DH:=hz ys[k]
   have ht:(e xs[k]).take z=e xs[k]:=by rw[<-xh,List.take_length]
   have HD:(e ys[k]).take z=e ys[k]:=by rw[<-DH,List.take_length]
   have je:=hg xs[k] ys[k]
   have lR:∀g,dc g 6 [.agg (e xs[k]),.agg (e ys[k])]=some [.agg (e xs[k]),.agg (e ys[k])]:=fun g=>by
    have q1:=CD xs[k] g
    have q2:=CD ys[k] g
    rw[ah,aq]at q1
    rw[ah,q2]
    revert q1
    cases V.fz g 6 (.agg (e xs[k]))<;>simp
   by_cases heq:xs[k]=ys[k]
   ·rw[decide_eq_true heq]at je
    generalize hex:e xs[k]=c at je lR eh xh ht
    generalize hey:e ys[k]=d at je lR Dw DH HD
    (try((repeat(revert hN;revert N;apply Pn.out));refine wk (tw @a5 (tw @a0 (tw @a1 (tw @hk (tw @eh (tw @Dw (tw @xh (tw @DH (tw @ht (tw @HD @Nat.le_refl)))))))))) ?_;(repeat(refine Pn.mk ?_;intro N hN))))
    refine⟨_,aj.x je (lR _),?_⟩
    refine hN _ _ ?_
    clear hN N
    (try((repeat(revert hN;revert N;apply Pn.out));refine wk (tw @a5 (tw @a0 @a1)) ?_;(repeat(refine Pn.mk ?_;intro N hN))))
    exact dd (sd (tw @a5 (tw @a0 @a1))) (fun _ _=>heq)
   ·rw[decide_eq_false heq]at je
    generalize hex:e xs[k]=c at je lR eh xh ht
    generalize hey:e ys[k]=d at je lR Dw DH HD
    (try((repeat(revert hN;revert N;apply Pn.out));refine wk (tw @a5 (tw @a0 (tw @a1 (tw @hk (tw @eh (tw @Dw (tw @xh (tw @DH (tw @ht (tw @HD @Nat.le_refl)))))))))) ?_;(repeat(refine Pn.mk ?_;intro N hN))))
    refine⟨_,aj.x je (lR _),?_⟩
    refine hN _ _ ?_
    clear hN N
    (try((repeat(revert hN;revert N;apply Pn.out));refine wk (tw @a5 (tw @a0 @a1)) ?_;(repeat(refine Pn.mk ?_;intro N hN))))
    exact aM (b:=false) (.inl rfl) (sd @Nat.zero_add) (decide_eq_false fun h=>heq (List.getElem_of_eq h _)).symm
  ·(try((repeat(revert hN;revert N;apply Pn.out));refine wk (tw @a5 (tw @a0 (tw @a1 @hk))) ?_;(repeat(refine Pn.mk ?_;intro N hN))))
   exact aM (b:=true) (.inl rfl) (sd @Nat.zero_add) (decide_eq_true (Ir hlen fun j hj h1 h2=>mi j (by omega) h1 h2)).symm
 ·have kT:decide ((xs.length:Int)=(ys.length:Int))=false:=decide_eq_false fun h=>hlen (by omega)
  (try((repeat(revert hN;revert N;apply Pn.out));refine wk @kT ?_;(repeat(refine Pn.mk ?_;intro N hN))))
  exact aM (b:=false) (.inl rfl) (sd @Nat.zero_add) (decide_eq_false fun h=>hlen (by subst h;rfl)).symm
theorem QC {fk:Nat} (hc:mU P fk=some (ML fk .tI)) (xs ys:List Int):
  aj P fk [.sl (xs.map fun x=>[AV.int .i64 x]),.sl (ys.map fun x=>[AV.int .i64 x])] (.bool (decide (xs=ys))):=by
 refine aj.body hc rfl fun hl n0=>?_
 try simp only[q]
 have hn:xs.length<=9223372036854775807:=by simpa using(hl (.sl (xs.map fun x=>[AV.int .i64 x])) (by simp)).len
 clear hl
 by_cases hlen:xs.length=ys.length
 ·have kT:decide ((xs.length:Int)=(ys.length:Int))=true:=by simp[hlen]
  (try((repeat(revert hN;revert N;apply Pn.out));refine wk @kT ?_;(repeat(refine Pn.mk ?_;intro N hN))))
  refine aZ (fun n env st=>∃k:Nat,n=(xs.length)-k/\k<=(xs.length)/\env 5=.int .i64 (k:Int)/\(∀j:Nat,j<k->∀(h1:j<xs.length) (h2:j<ys.length),xs[j]=ys[j])) (xs.length) ⟨0,by omega,by omega,sl @Nat.zero_add,fun _ h=>absurd h (Nat.not_lt_zero _)⟩ ?_
  rintro n_a env_a st_a ⟨k,rfl,ale,a5,mi⟩ ez
  have a0:=ez 0 (by kernel_rfl);have a1:=ez 1 (by kernel_rfl)
  simp only[go_sem, ↓reduceIte,Nat.reduceEqDiff,Nat.reduceAdd,Nat.reduceSub,Nat.reduceLeDiff,reduceCtorEq]at a0 a1
  clear ez
  by_cases hk:(k:Int)<(xs.length:Int)
  ·have dd:∀{e:Env},(e 5=.int .i64 (IntKind.i64.wrap ((k:Int)+1)))->(∀(h1:k<xs.length) (h2:k<ys.length),xs[k]=ys[k])->∃m0,m0<(xs.length)-k/\∃k:Nat,m0=(xs.length)-k/\k<=(xs.length)/\e 5=.int .i64 (k:Int)/\(∀j:Nat,j<k->∀(h1:j<xs.length) (h2:j<ys.length),xs[j]=ys[j]):=fun x1 x2=>⟨_,by omega,k+1,rfl,by omega,(by rw[x1,az (by omega)]),(all_succ mi x2)⟩
   have fm:k<xs.length:=by omega
   have Oy:k<ys.length:=by omega
   have eh:(xs.map fun x=>[AV.int .i64 x])[k]? =some [.int .i64 xs[k]]:=by simp[fm]
   have Dw:(ys.map fun x=>[AV.int .i64 x])[k]? =some [.int .i64 ys[k]]:=by simp[Oy]
   by_cases heq:xs[k]=ys[k]
   ·have hq:=decide_eq_true heq
    (try((repeat(revert hN;revert N;apply Pn.out));refine wk (tw @a5 (tw @a0 (tw @a1 (tw @hk (tw @eh (tw @Dw @hq)))))) ?_;(repeat(refine Pn.mk ?_;intro N hN))))
    exact dd (sd (tw @a5 (tw @a0 @a1))) (fun _ _=>heq)
   ·have hq:=decide_eq_false heq
    (try((repeat(revert hN;revert N;apply Pn.out));refine wk (tw @a5 (tw @a0 (tw @a1 (tw @hk (tw @eh (tw @Dw @hq)))))) ?_;(repeat(refine Pn.mk ?_;intro N hN))))
    exact aM (b:=false) (.inl rfl) (sd @Nat.zero_add) (decide_eq_false fun h=>heq (List.getElem_of_eq h _)).symm
  ·(try((repeat(revert hN;revert N;apply Pn.out));refine wk (tw @a5 (tw @a0 (tw @a1 @hk))) ?_;(repeat(refine Pn.mk ?_;intro N hN))))
   exact aM (b:=true) (.inl rfl) (sd @Nat.zero_add) (decide_eq_true (Ir hlen fun j hj h1 h2=>mi j (by omega) h1 h2)).symm
 ·have kT:decide ((xs.length:Int)=(ys.length:Int))=false:=decide_eq_false fun h=>hlen (by omega)
  (try((repeat(revert hN;revert N;apply Pn.out));refine wk @kT ?_;(repeat(refine Pn.mk ?_;intro N hN))))
  exact aM (b:=false) (.inl rfl) (sd @Nat.zero_add) (decide_eq_false fun h=>hlen (by subst h;rfl)).symm
theorem C0 (l:List AV):l++[]=l:=List.append_nil l
def iN {α:Type} (e:α->List AV) (zc:List AV) (xs:List α) (k:Nat):List (List AV):=(xs.take k).map e++List.replicate (xs.length-k) zc
theorem tx {α:Type} (e:α->List AV) (zc:List AV) (xs:List α):List.replicate xs.length zc=iN e zc xs 0:=by simp[iN]
theorem vn {α:Type} (e:α->List AV) (zc:List AV) (xs:List α):iN e zc xs xs.length=xs.map e:=by simp[iN]
theorem vp {α:Type} (e:α->List AV) (zc:List AV) (xs:List α) {k:Nat} (hk:k<xs.length):(iN e zc xs k)[k]? =some zc:=by
 have h1:((xs.take k).map e).length=k:=by simp;omega
 rw[iN,List.getElem?_append_right (by omega),h1,Nat.sub_self,List.getElem?_replicate,if_pos (by omega)]
theorem vw {α:Type} (e:α->List AV) (zc:List AV) (xs:List α) {k:Nat} (hk:k<xs.length):(iN e zc xs k).set k (e xs[k])=iN e zc xs (k+1):=by
 have h1:((xs.take k).map e).length=k:=by simp;omega
 rw[iN,List.set_append_right _ _ (by omega),h1,Nat.sub_self,iN,List.take_succ_eq_append_getElem hk,List.map_append,List.append_assoc]
 congr 1
 obtain⟨m,hm⟩:∃m,xs.length-k=m+1:=⟨xs.length-k-1,by omega⟩
 rw[hm,show xs.length-(k+1)=m by omega,List.replicate_succ]
 rfl
theorem Aq {α:Type} {en:α->List AV} {z fk gk:Nat} {zero:List K} (hc:mU P fk=some (Cs fk gk z zero)) (Nb:zero.length=z) (hz:∀x,(en x).length=z) (kp:∀x,(en x).all AV.cell=true) (CD:∀x g,dc g 5 (en x)=some (en x)) (xs:List α) (hlen:xs.length<=1048576)
  (hg:∀x∈xs,l8 P gk [.agg (en x)] (.agg (en x))):l8 P fk [.sl (xs.map en)] (.sl (xs.map en)):=by
 refine l8.body hc rfl fun hl σ=>?_
 try simp only[q]
 clear hl
 have hm:(xs.length:Int)<=((16777216:Nat):Int):=by omega
 have h0:(0:Int)<=(xs.length:Int):=by omega
 (try((repeat(revert hN;revert N;apply Pn.out));refine wk (tw @hm (tw @h0 (tw @Int.le_refl (tw (tx en (zero.map K.av) xs) @Nb)))) ?_;(repeat(refine Pn.mk ?_;intro N hN))))
 refine aZ (fun n env st=>∃k:Nat,n=(xs.length)-k/\k<=(xs.length)/\env 4=.int .i64 (k:Int)/\st.get ⟨fk*1000000+1002,σ.next+1⟩=some ⟨true,z,iN en (zero.map K.av) xs k⟩) (xs.length) ⟨0,by omega,by omega,sl @Nat.zero_add,sl @Nat.zero_add⟩ ?_
 rintro n_a env_a st_a ⟨k,rfl,ale,a4,ag0⟩ ez
 have a0:=ez 0 (by kernel_rfl);have a3:=ez 3 (by kernel_rfl)
 simp only[go_sem, ↓reduceIte,Nat.reduceEqDiff,Nat.reduceAdd,Nat.reduceSub,Nat.reduceLeDiff,reduceCtorEq]at a0 a3
 clear ez
 by_cases hk:(k:Int)<(xs.length:Int)
 ·have dd:∀{e:Env} {gg:Rows},(e 4=.int .i64 (IntKind.i64.wrap ((k:Int)+1)))->(gg ⟨fk*1000000+1002,σ.next+1⟩=some ⟨true,z,iN en (zero.map K.av) xs (k+1)⟩)->∃m0,m0<(xs.length)-k/\∃k:Nat,m0=(xs.length)-k/\k<=(xs.length)/\e 4=.int .i64 (k:Int)/\gg ⟨fk*1000000+1002,σ.next+1⟩=some ⟨true,z,iN en (zero.map K.av) xs k⟩:=fun x1 x2=>⟨_,by omega,k+1,rfl,by omega,(by rw[x1,az (by omega)]),x2⟩
  have fm:k<xs.length:=by omega
  have eh:(xs.map en)[k]? =some (en xs[k]):=by simp[fm]
  have xh:=hz xs[k]
  have KG:=kp xs[k]
  have ht:(en xs[k]).take z=en xs[k]:=by rw[<-xh,List.take_length]
  have je:=hg _ (List.getElem_mem fm)
  have gh:=vp en (zero.map K.av) xs fm
  have fh:=vw en (zero.map K.av) xs fm
  have Q0:(zero.map K.av).drop z=[]:=List.drop_of_length_le (by simp[Nb])
  generalize hex:en xs[k]=c at je eh xh ht KG fh
  (repeat(first|((repeat(revert hN;revert N;apply Pn.out));refine wk (tw @a4 (tw @ag0 (tw @a0 (tw @a3 (tw @hk (tw @eh (tw @xh (tw @ht (tw @Nat.le_refl (tw @gh (tw @fh (tw @Q0 (tw @C0 (tw @KG @Nb)))))))))))))) ?_;(repeat(refine Pn.mk ?_;intro N hN)))|((try apply Or.inl);refine⟨_,l8.x (je) _,?_⟩;refine hN _ _ ?_;clear hN N)))
  refine dd ?_ ?_
  all_goals simp only[go_sem, ↓reduceIte,Nat.reduceEqDiff,Nat.reduceAdd,Nat.reduceSub,Nat.reduceLeDiff,reduceCtorEq,a4,ag0,a0,a3]
 ·(try((repeat(revert hN;revert N;apply Pn.out));refine wk (tw @a4 (tw @ag0 (tw @a0 (tw @a3 @hk)))) ?_;(repeat(refine Pn.mk ?_;intro N hN))))
  have fm:k=xs.length:=by omega
  subst fm
  refine RT (.inl rfl) (r0:=.own ⟨fk*1000000+1002,σ.next+1⟩ 0 xs.length) (sd (tw @a4 (tw @ag0 (tw @a0 @a3)))) ?_
  rw[vn]at ag0
  exact gr ag0 (by simp) fun x=>CD x _
theorem RX {fk:Nat} (hc:mU P fk=some (Nl fk (.int .i64 0))) (xs:List Int) (hlen:xs.length<=1048576):l8 P fk [.sl (xs.map fun x=>[AV.int .i64 x])] (.sl (xs.map fun x=>[AV.int .i64 x])):=by
 refine l8.body hc rfl fun hl σ=>?_
 try simp only[q]
 clear hl
 obtain⟨en,MU⟩:∃en:Int->List AV,en=fun x=>[AV.int .i64 x]:=⟨_,rfl⟩
 rw[<-MU]
 have hm:(xs.length:Int)<=((16777216:Nat):Int):=by omega
 have h0:(0:Int)<=(xs.length:Int):=by omega
 (try((repeat(revert hN;revert N;apply Pn.out));refine wk (tw @hm (tw @h0 (tw @Int.le_refl (tx en [AV.int .i64 0] xs)))) ?_;(repeat(refine Pn.mk ?_;intro N hN))))
 refine aZ (fun n env st=>∃k:Nat,n=(xs.length)-k/\k<=(xs.length)/\env 4=.int .i64 (k:Int)/\st.get ⟨fk*1000000+1002,σ.next+1⟩=some ⟨true,1,iN en [AV.int .i64 0] xs k⟩) (xs.length) ⟨0,by omega,by omega,sl @Nat.zero_add,sl @Nat.zero_add⟩ ?_
 rintro n_a env_a st_a ⟨k,rfl,ale,a4,ag0⟩ ez
 have a0:=ez 0 (by kernel_rfl);have a3:=ez 3 (by kernel_rfl)
 simp only[go_sem, ↓reduceIte,Nat.reduceEqDiff,Nat.reduceAdd,Nat.reduceSub,Nat.reduceLeDiff,reduceCtorEq]at a0 a3
 clear ez
 by_cases hk:(k:Int)<(xs.length:Int)
 ·have dd:∀{e:Env} {gg:Rows},(e 4=.int .i64 (IntKind.i64.wrap ((k:Int)+1)))->(gg ⟨fk*1000000+1002,σ.next+1⟩=some ⟨true,1,iN en [AV.int .i64 0] xs (k+1)⟩)->∃m0,m0<(xs.length)-k/\∃k:Nat,m0=(xs.length)-k/\k<=(xs.length)/\e 4=.int .i64 (k:Int)/\gg ⟨fk*1000000+1002,σ.next+1⟩=some ⟨true,1,iN en [AV.int .i64 0] xs k⟩:=fun x1 x2=>⟨_,by omega,k+1,rfl,by omega,(by rw[x1,az (by omega)]),x2⟩
  have fm:k<xs.length:=by omega
  have eh:(xs.map en)[k]? =some [AV.int .i64 xs[k]]:=by simp[fm,MU]
  have gh:=vp en [AV.int .i64 0] xs fm
  have fh:=vw en [AV.int .i64 0] xs fm
  rw[show en xs[k]=[AV.int .i64 xs[k]] by rw[MU]]at fh
  (try((repeat(revert hN;revert N;apply Pn.out));refine wk (tw @a4 (tw @ag0 (tw @a0 (tw @a3 (tw @hk (tw @eh (tw @gh @fh))))))) ?_;(repeat(refine Pn.mk ?_;intro N hN))))
  refine dd ?_ ?_
  all_goals simp only[go_sem, ↓reduceIte,Nat.reduceEqDiff,Nat.reduceAdd,Nat.reduceSub,Nat.reduceLeDiff,reduceCtorEq,a4,ag0,a0,a3]
 ·(try((repeat(revert hN;revert N;apply Pn.out));refine wk (tw @a4 (tw @ag0 (tw @a0 (tw @a3 @hk)))) ?_;(repeat(refine Pn.mk ?_;intro N hN))))
  have fm:k=xs.length:=by omega
  subst fm
  refine RT (.inl rfl) (r0:=.own ⟨fk*1000000+1002,σ.next+1⟩ 0 xs.length) (sd (tw @a4 (tw @ag0 (tw @a0 @a3)))) ?_
  rw[vn]at ag0
  exact gr ag0 (by simp) fun x=>by simp[MU,ah,aq,aF]
end Go.Proofs.YtgoljkjaameagaaGreat.V

namespace Go.Proofs.YtgoljkjaameagaaGreat.V
open Go.RowKit
attribute [local irreducible] dE wpOps fS Call
attribute [local go_sem] aH fq eG fH fG cX upd bZ K.av cD AV.cells AV.cell rowOf rowsOf part ld rowAt br bP dn dR gK bx cQ eb fD eS di dW cN cL dH dI bD aW cF bB cH cG dU dX dV cE bG cP dS bz aI cJ cq gJ bj cz bE aT de aX dp AV.undef bq bt dL dQ dB dz cw ea ee cj dZ dY cI cK List.getD_cons_zero List.getD_cons_succ List.getD_nil List.all_cons List.all_nil Bool.and_true Bool.true_and Bool.and_self Bool.not_true Bool.not_false Option.map_some Option.map_none Option.bind_some Option.bind_none List.length_cons List.length_nil List.take_succ_cons List.take_zero List.take_nil List.drop_succ_cons List.drop_zero List.drop_nil List.head?_cons List.map_cons List.map_nil List.getElem?_cons_zero List.getElem?_cons_succ List.cons_append List.nil_append List.append_nil List.length_map List.set_cons_zero List.set_cons_succ Nat.reduceMul eq_self Int.toNat_natCast Int.natCast_nonneg and_self true_and and_true decide_true decide_false Bool.false_eq_true Nat.zero_add Nat.add_zero List.contains_cons List.contains_nil Bool.or_false Bool.false_or beq_self_eq_true Nat.reduceBEq ne_eq not_true_eq_false not_false_eq_true Id.mk.injEq false_and and_false Nat.reduceLT Int.reduceLE Int.reduceLT Int.reduceToNat Int.reduceNeg Int.reduceAdd Nat.le_refl List.length_append beq_true beq_false Bool.not_eq_eq_eq_not or_false false_or dD ah aq aF aY bp bK aP bc aN aV cC bF
theorem Bp (x:iq) (g:Rows):dc g 6 [.agg (cU x)]=some [.agg (cU x)]:=by simp[cU,ah,aq,bc,bp,aF]
theorem Br (x:fy) (g:Rows):dc g 6 [.agg (bI x)]=some [.agg (bI x)]:=by simp[bI,ah,aq,bc,bp,bK]
theorem Dl (x:ab) (g:Rows):dc g 6 [.agg (aa x)]=some [.agg (aa x)]:=by simp[aa,ah,aq,bc,aF]
theorem gW {n:Nat} {l:Int} (h:(n:Int)<=l):xi n l=l-n:=if_pos h
theorem ir {n:Nat} {l:Int} (h:¬(n:Int)<=l):xi n l= -1:=if_neg h
def lZ (t:fy):Nat:=t.aL.size+t.cu.length
def w8 (s:ay):Nat:=(s.aE.length+(s.aE.map fun g=>g.aL.size).sum)+(s.ai.length+(s.ai.map lZ).sum)
def qP (s:ax):Nat:=w8 s.aJ+s.aU.ai.length
def gz (s:ay):Prop:=(∀g∈s.aE,g.aL.size<=9223372036854775807)/\∀t∈s.ai,t.aL.size<=9223372036854775807
theorem J7 (g:iq) (l:Int) (h0:0<=l) (h1:l<=1048576) (hs:g.aL.size<=9223372036854775807):aj Tryz.prog 187 [.agg (cU g),.int .i64 l] (.int .i64 (xi g.aL.size l)):=by
 refine aj.body eH rfl fun hl n0=>?_
 clear hl
 have hw:IntKind.i64.wrap (l-(g.aL.size:Int))=l-g.aL.size:=bU (by omega)
 by_cases hf:(g.aL.size:Int)<=l
 ·have iP:¬l-(g.aL.size:Int)<0:=by omega
  (try((repeat(revert hN;revert N;apply Pn.out));refine wk (tw @cU.eq_1 (tw @hw @iP)) ?_;(repeat(refine Pn.mk ?_;intro N hN))))
  exact bQ (b:=l-(g.aL.size:Int)) (.inl rfl) (sd @Nat.zero_add) (gW hf).symm
 ·have iP:l-(g.aL.size:Int)<0:=by omega
  (try((repeat(revert hN;revert N;apply Pn.out));refine wk (tw @cU.eq_1 (tw @hw @iP)) ?_;(repeat(refine Pn.mk ?_;intro N hN))))
  exact bQ (b:=-1) (.inl rfl) (sd @Nat.zero_add) (ir hf).symm
theorem J8 (xs:List Int) (l:Int) (h0:0<=l) (h1:l<=1048576):aj Tryz.prog 140 [.sl (xs.map bJ),.int .i64 l] (.int .i64 (xi xs.length l)):=by
 have h:=Ey (show mU Tryz.prog 140=some (FC 140) by kernel_rfl) (xs.map bJ) l h0 h1
 rwa [List.length_map]at h
theorem Kb (t:fy) (l:Int) (h0:0<=l) (h1:l<=1048576) (hs:t.aL.size<=9223372036854775807):aj Tryz.prog 188 [.agg (bI t),.int .i64 l] (.int .i64 (xi (lZ t) l)):=by
 refine aj.body eH rfl fun hl n0=>?_
 clear hl
 have hw:IntKind.i64.wrap (l-(t.aL.size:Int))=l-t.aL.size:=bU (by omega)
 by_cases hf:(t.aL.size:Int)<=l
 ·have iP:¬l-(t.aL.size:Int)<0:=by omega
  have hc:=J8 t.cu (l-t.aL.size) (by omega) (by omega)
  by_cases hg:(t.cu.length:Int)<=l-t.aL.size
  ·rw[gW hg]at hc
   have qx:¬l-(t.aL.size:Int)-(t.cu.length:Int)<0:=by omega
   (repeat(first|((repeat(revert hN;revert N;apply Pn.out));refine wk (tw @bI.eq_1 (tw @hw (tw @iP @qx))) ?_;(repeat(refine Pn.mk ?_;intro N hN)))|((try apply Or.inl);refine⟨_,aj.x (hc) (sd (tw @bI.eq_1 (tw @hw (tw @iP @qx)))),?_⟩;refine hN _ _ ?_;clear hN N)))
   exact bQ (b:=l-(t.aL.size:Int)-(t.cu.length:Int)) (.inl rfl) (sd @Nat.zero_add) (by rw[gW (by unfold lZ;omega)];unfold lZ;omega)
  ·rw[ir hg]at hc
   (repeat(first|((repeat(revert hN;revert N;apply Pn.out));refine wk (tw @bI.eq_1 (tw @hw @iP)) ?_;(repeat(refine Pn.mk ?_;intro N hN)))|((try apply Or.inl);refine⟨_,aj.x (hc) (sd (tw @bI.eq_1 (tw @hw @iP))),?_⟩;refine hN _ _ ?_;clear hN N)))
   exact bQ (b:=-1) (.inl rfl) (sd @Nat.zero_add) (ir (by unfold lZ;omega)).symm
 ·have iP:l-(t.aL.size:Int)<0:=by omega
  (try((repeat(revert hN;revert N;apply Pn.out));refine wk (tw @bI.eq_1 (tw @hw @iP)) ?_;(repeat(refine Pn.mk ?_;intro N hN))))
  exact bQ (b:=-1) (.inl rfl) (sd @Nat.zero_add) (ir (by unfold lZ;omega)).symm
theorem He (xs:List iq) (l:Int) (h0:0<=l) (h1:l<=1048576) (hs:∀g∈xs,g.aL.size<=9223372036854775807):aj Tryz.prog 120 [.sl (xs.map cU),.int .i64 l] (.int .i64 (xi (xs.length+(xs.map fun g=>g.aL.size).sum) l)):=
 Ka (fun g:iq=>g.aL.size) (show mU Tryz.prog 120=some (J9 120 187 2) by kernel_rfl) (fun _=>rfl) Bp xs l h0 h1 fun x hx l a b=>J7 x l a b (hs x hx)
theorem Hf (xs:List fy) (l:Int) (h0:0<=l) (h1:l<=1048576) (hs:∀t∈xs,t.aL.size<=9223372036854775807):aj Tryz.prog 121 [.sl (xs.map bI),.int .i64 l] (.int .i64 (xi (xs.length+(xs.map lZ).sum) l)):=
 Ka lZ (show mU Tryz.prog 121=some (J9 121 188 2) by kernel_rfl) (fun _=>rfl) Br xs l h0 h1 fun x hx l a b=>Kb x l a b (hs x hx)
theorem Ew (xs:List ab) (l:Int) (h0:0<=l) (h1:l<=1048576):aj Tryz.prog 76 [.sl (xs.map aa),.int .i64 l] (.int .i64 (xi xs.length l)):=by
 have h:=Ey (show mU Tryz.prog 76=some (FC 76) by kernel_rfl) (xs.map aa) l h0 h1
 rwa [List.length_map]at h
theorem Cp (s:ay) (l:Int) (h0:0<=l) (h1:l<=1048576) (hs:gz s):aj Tryz.prog 61 [.agg (ad s),.int .i64 l] (.int .i64 (xi (w8 s) l)):=by
 refine aj.body eH rfl fun hl n0=>?_
 clear hl
 have ha:=He s.aE l h0 h1 hs.1
 have he:w8 s=(s.aE.length+(s.aE.map fun g=>g.aL.size).sum)+(s.ai.length+(s.ai.map lZ).sum):=rfl
 by_cases hf:((s.aE.length+(s.aE.map fun g=>g.aL.size).sum:Nat):Int)<=l
 ·rw[gW hf]at ha
  obtain⟨A,hA⟩:∃A:Int,A=l-((s.aE.length+(s.aE.map fun g=>g.aL.size).sum:Nat):Int):=⟨_,rfl⟩
  rw[<-hA]at ha
  have iP:¬A<0:=by omega
  have hb:=Hf s.ai A (by omega) (by omega) hs.2
  by_cases hg:((s.ai.length+(s.ai.map lZ).sum:Nat):Int)<=A
  ·rw[gW hg]at hb
   obtain⟨B,hB⟩:∃B:Int,B=A-((s.ai.length+(s.ai.map lZ).sum:Nat):Int):=⟨_,rfl⟩
   rw[<-hB]at hb
   have qx:¬B<0:=by omega
   (repeat(first|((repeat(revert hN;revert N;apply Pn.out));refine wk (tw @ad.eq_1 (tw @iP @qx)) ?_;(repeat(refine Pn.mk ?_;intro N hN)))|((try apply Or.inl);refine⟨_,aj.x (ha) (sd (tw @ad.eq_1 (tw @iP @qx))),?_⟩;refine hN _ _ ?_;clear hN N)|((try apply Or.inl);refine⟨_,aj.x (hb) (sd (tw @ad.eq_1 (tw @iP @qx))),?_⟩;refine hN _ _ ?_;clear hN N)))
   exact bQ (b:=B) (.inl rfl) (sd @Nat.zero_add) (by rw[gW (by omega)];omega)
  ·rw[ir hg]at hb
   (repeat(first|((repeat(revert hN;revert N;apply Pn.out));refine wk (tw @ad.eq_1 @iP) ?_;(repeat(refine Pn.mk ?_;intro N hN)))|((try apply Or.inl);refine⟨_,aj.x (ha) (sd (tw @ad.eq_1 @iP)),?_⟩;refine hN _ _ ?_;clear hN N)|((try apply Or.inl);refine⟨_,aj.x (hb) (sd (tw @ad.eq_1 @iP)),?_⟩;refine hN _ _ ?_;clear hN N)))
   exact bQ (b:=-1) (.inl rfl) (sd @Nat.zero_add) (ir (by omega)).symm
 ·rw[ir hf]at ha
  (repeat(first|((repeat(revert hN;revert N;apply Pn.out));refine wk @ad.eq_1 ?_;(repeat(refine Pn.mk ?_;intro N hN)))|((try apply Or.inl);refine⟨_,aj.x (ha) (sd @ad.eq_1),?_⟩;refine hN _ _ ?_;clear hN N)))
  exact bQ (b:=-1) (.inl rfl) (sd @Nat.zero_add) (ir (by omega)).symm
theorem nw (a:eI) (l:Int) (h0:0<=l) (h1:l<=1048576):aj Tryz.prog 14 [.agg (aK a),.int .i64 l] (.int .i64 (xi a.ai.length l)):=by
 refine aj.body eH rfl fun hl n0=>?_
 clear hl
 have ha:=Ew a.ai l h0 h1
 by_cases hf:(a.ai.length:Int)<=l
 ·rw[gW hf]at ha
  have iP:¬l-(a.ai.length:Int)<0:=by omega
  (repeat(first|((repeat(revert hN;revert N;apply Pn.out));refine wk (tw @aK.eq_1 @iP) ?_;(repeat(refine Pn.mk ?_;intro N hN)))|((try apply Or.inl);refine⟨_,aj.x (ha) (sd (tw @aK.eq_1 @iP)),?_⟩;refine hN _ _ ?_;clear hN N)))
  exact bQ (b:=l-(a.ai.length:Int)) (.inl rfl) (sd @Nat.zero_add) (gW hf).symm
 ·rw[ir hf]at ha
  (repeat(first|((repeat(revert hN;revert N;apply Pn.out));refine wk @aK.eq_1 ?_;(repeat(refine Pn.mk ?_;intro N hN)))|((try apply Or.inl);refine⟨_,aj.x (ha) (sd @aK.eq_1),?_⟩;refine hN _ _ ?_;clear hN N)))
  exact bQ (b:=-1) (.inl rfl) (sd @Nat.zero_add) (ir hf).symm
theorem Ez (s:ax) (l:Int) (h0:0<=l) (h1:l<=1048576) (hs:gz s.aJ):aj Tryz.prog 13 [.agg (ar s),.int .i64 l] (.int .i64 (xi (qP s) l)):=by
 refine aj.body eH rfl fun hl n0=>?_
 clear hl
 have ha:=Cp s.aJ l h0 h1 hs
 rw[ad]at ha
 have he:qP s=w8 s.aJ+s.aU.ai.length:=rfl
 by_cases hf:(w8 s.aJ:Int)<=l
 ·rw[gW hf]at ha
  have iP:¬l-(w8 s.aJ:Int)<0:=by omega
  have hb:=nw s.aU (l-w8 s.aJ) (by omega) (by omega)
  rw[aK]at hb
  by_cases hg:(s.aU.ai.length:Int)<=l-w8 s.aJ
  ·rw[gW hg]at hb
   have qx:¬l-(w8 s.aJ:Int)-(s.aU.ai.length:Int)<0:=by omega
   (repeat(first|((repeat(revert hN;revert N;apply Pn.out));refine wk (tw @ar.eq_1 (tw @iP @qx)) ?_;(repeat(refine Pn.mk ?_;intro N hN)))|((try apply Or.inl);refine⟨_,aj.x (ha) (sd (tw @ar.eq_1 (tw @iP @qx))),?_⟩;refine hN _ _ ?_;clear hN N)|((try apply Or.inl);refine⟨_,aj.x (hb) (sd (tw @ar.eq_1 (tw @iP @qx))),?_⟩;refine hN _ _ ?_;clear hN N)))
   exact bQ (b:=l-(w8 s.aJ:Int)-(s.aU.ai.length:Int)) (.inl rfl) (sd @Nat.zero_add) (by rw[gW (by omega)];omega)
  ·rw[ir hg]at hb
   (repeat(first|((repeat(revert hN;revert N;apply Pn.out));refine wk (tw @ar.eq_1 @iP) ?_;(repeat(refine Pn.mk ?_;intro N hN)))|((try apply Or.inl);refine⟨_,aj.x (ha) (sd (tw @ar.eq_1 @iP)),?_⟩;refine hN _ _ ?_;clear hN N)|((try apply Or.inl);refine⟨_,aj.x (hb) (sd (tw @ar.eq_1 @iP)),?_⟩;refine hN _ _ ?_;clear hN N)))
   exact bQ (b:=-1) (.inl rfl) (sd @Nat.zero_add) (ir (by omega)).symm
 ·rw[ir hf]at ha
  (repeat(first|((repeat(revert hN;revert N;apply Pn.out));refine wk @ar.eq_1 ?_;(repeat(refine Pn.mk ?_;intro N hN)))|((try apply Or.inl);refine⟨_,aj.x (ha) (sd @ar.eq_1),?_⟩;refine hN _ _ ?_;clear hN N)))
  exact bQ (b:=-1) (.inl rfl) (sd @Nat.zero_add) (ir (by omega)).symm
def pT (s:ay) (i:Nat):iq:=s.aE.getD i ⟨⟨#[]⟩,0⟩
def pb (s:ay) (i:Nat):fy:=s.ai.getD i zY
def CQ (s:ay) (i:Nat):Prop:=jN (pT s i).aL=true/\jb (pT s i).eK 1 4=true/\∀j,j<i->(pT s j).aL≠(pT s i).aL
def AR (s:ay) (i:Nat):Prop:=jN (pb s i).aL=true/\(pb s i).cu.length=4/\(∀j,j<i->(pb s j).aL≠(pb s i).aL)/\∀g∈(pb s i).cu,jb g 0 s.aE.length=true
structure iA (s:ay):Prop where
 vL:s.aE.length<=200
 some:1<=s.ai.length
 Kh:s.ai.length<=160
 Sm:∀i,i<s.aE.length->CQ s i
 tok:∀i,i<s.ai.length->AR s i
noncomputable def qO (s:ay):Bool:=@decide (iA s) (Classical.propDecidable _)
theorem mK {s:ay}:qO s=true↔iA s:=by simp[qO]
theorem fF {s:ay} (h:¬iA s):false=qO s:=by simp[qO,h]
theorem Ck {s:ay} (h:iA s):true=qO s:=by simp[qO,h]
theorem Ao {s:ay} {i:Nat} (h:i<s.ai.length):(s.ai.map bI)[i]? =some (bI (pb s i)):=getD_map bI h
theorem zy {s:ay} {i:Nat} (h:i<s.aE.length):(s.aE.map cU)[i]? =some (cU (pT s i)):=getD_map cU h
theorem iA.form {s:ay} (h:iA s):kK s:=by
 have key:∀t∈s.ai,∃i,i<s.ai.length/\t=pb s i:=fun t ht=>by
  obtain⟨i,hi,rfl⟩:=List.getElem_of_mem ht
  exact⟨i,hi,by simp[pb,List.getD_eq_getElem?_getD,hi]⟩
 refine⟨fun t ht=>?_,fun t ht g hg=>?_⟩
 ·obtain⟨i,hi,rfl⟩:=key t ht
  exact(h.tok i hi).2.1
 ·obtain⟨i,hi,rfl⟩:=key t ht
  exact ek ((h.tok i hi).2.2.2 g hg)
def dC (l:List ByteArray):List (List AV):=l.map fun n=>[.str n,.bool true]
abbrev mS:MK:=⟨false,[.tS]⟩
theorem yX (n:ByteArray):∀(l:List ByteArray) (i:Nat),∃r,gm mS [.str n] (dC l) i=some r/\((r=none/\n∉l)∨∃j,r=some (i+j)/\n∈l/\(dC l)[j]? =some [.str n,.bool true])
 |[],i=>⟨none,rfl,.inl ⟨rfl,by simp⟩⟩
 |m::l,i=>by
  obtain⟨r,h1,h2⟩:=yX n l (i+1)
  by_cases h:n=m
  ·subst h
   exact⟨some i,by simp[dC,gm,eS,fD,MK.ks],.inr ⟨0,rfl,by simp,rfl⟩⟩
  ·refine⟨r,?_,?_⟩
   ·unfold dC at h1 ⊢
    simp only[List.map_cons,gm,MK.ks,List.length_cons,List.length_nil,Nat.zero_add,List.take_succ_cons,List.take_zero,eS,fD,h,decide_false,Bool.and_true]
    exact h1
   ·rcases h2 with⟨rfl,h2⟩|⟨j,rfl,h2,h3⟩
    ·exact .inl ⟨rfl,by simp[h,h2]⟩
    ·exact .inr ⟨j+1,by congr 1;omega,by simp[h2],by simpa[dC]using h3⟩
theorem wP (n:ByteArray) (l:List ByteArray):(n∉l/\fR mS (.str n) (dC l)=some none)∨∃j,n∈l/\fR mS (.str n) (dC l)=some (some j)/\(dC l)[j]? =some [.str n,.bool true]:=by
 obtain⟨r,h1,h2⟩:=yX n l 0
 have e:fR mS (.str n) (dC l)=some r:=by
  unfold fR
  rw[if_pos ⟨rfl,rfl,rfl⟩];exact h1
 rcases h2 with⟨rfl,h2⟩|⟨j,rfl,h2,h3⟩
 ·exact .inl ⟨h2,e⟩
 ·exact .inr ⟨j,h2,by rw[e,Nat.zero_add],h3⟩
theorem Pc (s:ay) (g:Int):aj Tryz.prog 255 [.int .i64 g,.cR (ad s)] (.bool (!jb g 0 s.aE.length)):=by
 refine aj.body eH rfl fun hl n0=>?_
 clear hl
 have h:=lp g 0 s.aE.length
 (repeat(first|((repeat(revert hN;revert N;apply Pn.out));refine wk @ad.eq_1 ?_;(repeat(refine Pn.mk ?_;intro N hN)))|((try apply Or.inl);refine⟨_,aj.x (h) (sd @ad.eq_1),?_⟩;refine hN _ _ ?_;clear hN N)))
 exact aM (b:= !jb g 0 s.aE.length) (.inl rfl) (sd @Nat.zero_add) rfl
theorem Lf:Qn bJ (fun c=>.int .i64 c) 1 false:=⟨fun _=>rfl,fun _=>rfl,fun x g=>by rw[ah,aF,aq];rfl⟩
theorem Mj (s:ay) (l:List Int) (hl:l.length<=1048576):aj Tryz.prog 226 [.sl (l.map bJ),.fn 255 [.cR (ad s)]] (.bool (l.any fun g=> !jb g 0 s.aE.length)):=
 kQ Lf (show mU Tryz.prog 226=some (zB 226 279) by kernel_rfl)
  (show mU Tryz.prog 279=some (qE 279 1 false) by kernel_rfl) l hl _ _ _ rfl (fun g=>by rw[ah,aN,aq];rfl) (fun x _=>Pc s x) fun g=>by rw[ah,aN,aq];rfl
theorem wq {α:Type} (f:Nat->α) (n k:Nat) (x:α):x∉(List.range k).map f↔∀j,j<k->f j≠x:=by
 constructor
 ·intro h j hj he
  exact h (List.mem_map.2 ⟨j,List.mem_range.2 hj,he⟩)
 ·intro h hm
  obtain⟨j,hj,he⟩:=List.mem_map.1 hm
  exact h j (List.mem_range.1 hj) he
theorem CX (s:ay) (hn:gz s) (hg:s.aE.length<=1048576) (ht:s.ai.length<=1048576) (hs:∀t∈s.ai,t.cu.length<=1048576):aj Tryz.prog 199 [.agg (ad s)] (.bool (qO s)):=by
 refine aj.body eH rfl fun hl n0=>?_
 clear hl
 have Q7:∀i,i<s.aE.length->(pT s i).aL.size<=9223372036854775807:=fun i hi=>hn.1 _ (by simp[pT,List.getD_eq_getElem?_getD,hi])
 have Rr:∀i,i<s.ai.length->(pb s i).aL.size<=9223372036854775807:=fun i hi=>hn.2 _ (by simp[pb,List.getD_eq_getElem?_getD,hi])
 have xE:∀i,i<s.ai.length->(pb s i).cu.length<=1048576:=fun i hi=>hs _ (by simp[pb,List.getD_eq_getElem?_getD,hi])
 have hw:=lp (s.ai.length:Int) 1 160
 by_cases h1:(200:Int)<(s.aE.length:Int)
 ·(try((repeat(revert hN;revert N;apply Pn.out));refine wk (tw @ad.eq_1 @h1) ?_;(repeat(refine Pn.mk ?_;intro N hN))))
  exact aM (b:=false) (.inl rfl) (sd @Nat.zero_add) (fF fun h=>by have:=h.vL;omega)
 by_cases h2:jb (s.ai.length:Int) 1 160=true
 ·have Cz:=ek h2
  rw[h2]at hw
  (repeat(first|((repeat(revert hN;revert N;apply Pn.out));refine wk (tw @ad.eq_1 @h1) ?_;(repeat(refine Pn.mk ?_;intro N hN)))|((try apply Or.inl);refine⟨_,aj.x (hw) (sd (tw @ad.eq_1 @h1)),?_⟩;refine hN _ _ ?_;clear hN N)))
  refine aZ (fun n env st=>∃k:Nat,n=(s.aE.length)-k/\k<=(s.aE.length)/\env 24=.int .i64 (k:Int)/\st.get ⟨199000000,n0⟩=some ⟨true,2,[ad s]⟩/\st.get ⟨199003000,n0+1+1⟩=some ⟨true,mS.pE,dC ((List.range k).map fun i=>(pT s i).aL)⟩/\(∀j:Nat,j<k->CQ s j)) (s.aE.length) ⟨0,by omega,by omega,by(try simp only[go_sem, ↓reduceIte,Nat.reduceEqDiff,Nat.reduceAdd,Nat.reduceSub,Nat.reduceLeDiff,reduceCtorEq,ad,List.range_zero,List.map_nil,dC]);try rfl,by(try simp only[go_sem, ↓reduceIte,Nat.reduceEqDiff,Nat.reduceAdd,Nat.reduceSub,Nat.reduceLeDiff,reduceCtorEq,ad,List.range_zero,List.map_nil,dC]);try rfl,by(try simp only[go_sem, ↓reduceIte,Nat.reduceEqDiff,Nat.reduceAdd,Nat.reduceSub,Nat.reduceLeDiff,reduceCtorEq,ad,List.range_zero,List.map_nil,dC]);try rfl,fun _ h=>absurd h (Nat.not_lt_zero _)⟩ ?_
  rintro n_a env_a st_a ⟨k,rfl,ale,a24,ag0,ag1,mi⟩ ez
  have a1:=ez 1 (by kernel_rfl);have a3:=ez 3 (by kernel_rfl);have a22:=ez 22 (by kernel_rfl);have a23:=ez 23 (by kernel_rfl)
  simp only[go_sem, ↓reduceIte,Nat.reduceEqDiff,Nat.reduceAdd,Nat.reduceSub,Nat.reduceLeDiff,reduceCtorEq,ad,List.range_zero,List.map_nil,dC]at a1 a3 a22 a23
  clear ez
  by_cases hk:(k:Int)<(s.aE.length:Int)
  ·have dd:∀{e:Env} {gg:Rows},(e 24=.int .i64 (IntKind.i64.wrap ((k:Int)+1)))->(gg ⟨199000000,n0⟩=some ⟨true,2,[ad s]⟩)->(gg ⟨199003000,n0+1+1⟩=some ⟨true,mS.pE,dC ((List.range (k+1)).map fun i=>(pT s i).aL)⟩)->(CQ s k)->∃m0,m0<(s.aE.length)-k/\∃k:Nat,m0=(s.aE.length)-k/\k<=(s.aE.length)/\e 24=.int .i64 (k:Int)/\gg ⟨199000000,n0⟩=some ⟨true,2,[ad s]⟩/\gg ⟨199003000,n0+1+1⟩=some ⟨true,mS.pE,dC ((List.range k).map fun i=>(pT s i).aL)⟩/\(∀j:Nat,j<k->CQ s j):=fun x1 x2 x3 x4=>⟨_,by omega,k+1,rfl,by omega,(by rw[x1,az (by omega)]),x2,x3,(all_succ mi x4)⟩
   have fm:k<s.aE.length:=by omega
   have eh:=zy fm
   have sn:=Fo (pT s k).aL (Q7 k fm)
   have KS:=lp (pT s k).eK 1 4
   have BD:=wP (pT s k).aL ((List.range k).map fun i=>(pT s i).aL)
   rw[wq _ k]at BD
   have jH:(¬CQ s k)->¬iA s:=fun h hp=>h (hp.Sm k fm)
   generalize uA:pT s k=gl at *
   cases hb:jN gl.aL
   ·rw[hb]at sn
    (repeat(first|((repeat(revert hN;revert N;apply Pn.out));refine wk (tw @a24 (tw @ag0 (tw @ag1 (tw @a1 (tw @a3 (tw @a22 (tw @a23 (tw @hk (tw @eh (tw @cU.eq_1 @ad.eq_1)))))))))) ?_;(repeat(refine Pn.mk ?_;intro N hN)))|((try apply Or.inl);refine⟨_,aj.x (sn) (sd (tw @a24 (tw @ag0 (tw @ag1 (tw @a1 (tw @a3 (tw @a22 (tw @a23 (tw @hk (tw @eh (tw @cU.eq_1 @ad.eq_1))))))))))),?_⟩;refine hN _ _ ?_;clear hN N)))
    exact aM (b:=false) (.inl rfl) (sd @Nat.zero_add) (fF (jH fun h=>by rw[CQ,uA,hb]at h;cases h.1))
   ·rw[hb]at sn
    rcases BD with⟨Ds,ml⟩|⟨j,fc,ml,gh⟩
    ·cases dK:jb gl.eK 1 4
     ·rw[dK]at KS
      (repeat(first|((repeat(revert hN;revert N;apply Pn.out));refine wk (tw @a24 (tw @ag0 (tw @ag1 (tw @a1 (tw @a3 (tw @a22 (tw @a23 (tw @hk (tw @eh (tw @ml (tw @cU.eq_1 @ad.eq_1))))))))))) ?_;(repeat(refine Pn.mk ?_;intro N hN)))|((try apply Or.inl);refine⟨_,aj.x (sn) (sd (tw @a24 (tw @ag0 (tw @ag1 (tw @a1 (tw @a3 (tw @a22 (tw @a23 (tw @hk (tw @eh (tw @ml (tw @cU.eq_1 @ad.eq_1)))))))))))),?_⟩;refine hN _ _ ?_;clear hN N)|((try apply Or.inl);refine⟨_,aj.x (KS) (sd (tw @a24 (tw @ag0 (tw @ag1 (tw @a1 (tw @a3 (tw @a22 (tw @a23 (tw @hk (tw @eh (tw @ml (tw @cU.eq_1 @ad.eq_1)))))))))))),?_⟩;refine hN _ _ ?_;clear hN N)))
      exact aM (b:=false) (.inl rfl) (sd @Nat.zero_add) (fF (jH fun h=>by rw[CQ,uA,dK]at h;cases h.2.1))
     ·rw[dK]at KS
      have qz:dC ((List.range k).map fun i=>(pT s i).aL)++[[.str gl.aL,.bool true]]=dC (List.map (fun i=>(pT s i).aL) (List.range k++[k])):=by simp[dC,uA]
      (repeat(first|((repeat(revert hN;revert N;apply Pn.out));refine wk (tw @a24 (tw @ag0 (tw @ag1 (tw @a1 (tw @a3 (tw @a22 (tw @a23 (tw @hk (tw @eh (tw @ml (tw @cU.eq_1 @ad.eq_1))))))))))) ?_;(repeat(refine Pn.mk ?_;intro N hN)))|((try apply Or.inl);refine⟨_,aj.x (sn) (sd (tw @a24 (tw @ag0 (tw @ag1 (tw @a1 (tw @a3 (tw @a22 (tw @a23 (tw @hk (tw @eh (tw @ml (tw @cU.eq_1 @ad.eq_1)))))))))))),?_⟩;refine hN _ _ ?_;clear hN N)|((try apply Or.inl);refine⟨_,aj.x (KS) (sd (tw @a24 (tw @ag0 (tw @ag1 (tw @a1 (tw @a3 (tw @a22 (tw @a23 (tw @hk (tw @eh (tw @ml (tw @cU.eq_1 @ad.eq_1)))))))))))),?_⟩;refine hN _ _ ?_;clear hN N)))
      refine dd ?_ ?_ ?_ (⟨by rw[uA];exact hb,by rw[uA];exact dK,fun j hj=>by rw[uA];exact Ds j hj⟩)
      all_goals simp only[go_sem, ↓reduceIte,Nat.reduceEqDiff,Nat.reduceAdd,Nat.reduceSub,Nat.reduceLeDiff,reduceCtorEq,a24,ag0,ag1,a1,a3,a22,a23,ml,qz]
    ·(repeat(first|((repeat(revert hN;revert N;apply Pn.out));refine wk (tw @a24 (tw @ag0 (tw @ag1 (tw @a1 (tw @a3 (tw @a22 (tw @a23 (tw @hk (tw @eh (tw @ml (tw @gh (tw @cU.eq_1 @ad.eq_1)))))))))))) ?_;(repeat(refine Pn.mk ?_;intro N hN)))|((try apply Or.inl);refine⟨_,aj.x (sn) (sd (tw @a24 (tw @ag0 (tw @ag1 (tw @a1 (tw @a3 (tw @a22 (tw @a23 (tw @hk (tw @eh (tw @ml (tw @gh (tw @cU.eq_1 @ad.eq_1))))))))))))),?_⟩;refine hN _ _ ?_;clear hN N)))
     exact aM (b:=false) (.inl rfl) (sd @Nat.zero_add) (fF (jH fun h=>by
      rw[CQ,uA]at h
      obtain⟨i,hi,he⟩:=List.mem_map.1 fc
      exact h.2.2 i (List.mem_range.1 hi) he))
  ·have kq:k=s.aE.length:=by omega
   (try((repeat(revert hN;revert N;apply Pn.out));refine wk (tw @a24 (tw @ag0 (tw @ag1 (tw @a1 (tw @a3 (tw @a22 (tw @a23 (tw @hk @ad.eq_1)))))))) ?_;(repeat(refine Pn.mk ?_;intro N hN))))
   refine aZ (fun n env st=>∃j:Nat,n=(s.ai.length)-j/\j<=(s.ai.length)/\env 52=.int .i64 (j:Int)/\st.get ⟨199000000,n0⟩=some ⟨true,2,[ad s]⟩/\st.get ⟨199011000,st_a.next+1⟩=some ⟨true,mS.pE,dC ((List.range j).map fun i=>(pb s i).aL)⟩/\(∀i:Nat,i<j->AR s i)/\(st_a.next<st.next)) (s.ai.length) ⟨0,by omega,by omega,by(try simp only[go_sem, ↓reduceIte,Nat.reduceEqDiff,Nat.reduceAdd,Nat.reduceSub,Nat.reduceLeDiff,reduceCtorEq,a24,ag0,ag1,a1,a3,a22,a23,ad,List.range_zero,List.map_nil,dC]);try rfl,by(try simp only[go_sem, ↓reduceIte,Nat.reduceEqDiff,Nat.reduceAdd,Nat.reduceSub,Nat.reduceLeDiff,reduceCtorEq,a24,ag0,ag1,a1,a3,a22,a23,ad,List.range_zero,List.map_nil,dC]);try rfl,by(try simp only[go_sem, ↓reduceIte,Nat.reduceEqDiff,Nat.reduceAdd,Nat.reduceSub,Nat.reduceLeDiff,reduceCtorEq,a24,ag0,ag1,a1,a3,a22,a23,ad,List.range_zero,List.map_nil,dC]);try rfl,fun _ h=>absurd h (Nat.not_lt_zero _),(by(try dsimp only);omega)⟩ ?_
   rintro n_b env_b st_b ⟨j,rfl,ble,b52,bg0,bg1,bA0,bI0⟩ fM
   have b1:=fM 1 (by kernel_rfl);have b6:=fM 6 (by kernel_rfl);have C1:=fM 50 (by kernel_rfl);have C2:=fM 51 (by kernel_rfl)
   simp only[go_sem, ↓reduceIte,Nat.reduceEqDiff,Nat.reduceAdd,Nat.reduceSub,Nat.reduceLeDiff,reduceCtorEq,a24,ag0,ag1,a1,a3,a22,a23,ad,List.range_zero,List.map_nil,dC]at b1 b6 C1 C2
   clear fM
   by_cases hj:(j:Int)<(s.ai.length:Int)
   ·have fC:∀{e:Env} {gg:Rows} {nx:Nat},(e 52=.int .i64 (IntKind.i64.wrap ((j:Int)+1)))->(gg ⟨199000000,n0⟩=some ⟨true,2,[ad s]⟩)->(gg ⟨199011000,st_a.next+1⟩=some ⟨true,mS.pE,dC ((List.range (j+1)).map fun i=>(pb s i).aL)⟩)->(AR s j)->(st_a.next<nx)->∃m0,m0<(s.ai.length)-j/\∃j:Nat,m0=(s.ai.length)-j/\j<=(s.ai.length)/\e 52=.int .i64 (j:Int)/\gg ⟨199000000,n0⟩=some ⟨true,2,[ad s]⟩/\gg ⟨199011000,st_a.next+1⟩=some ⟨true,mS.pE,dC ((List.range j).map fun i=>(pb s i).aL)⟩/\(∀i:Nat,i<j->AR s i)/\(st_a.next<nx):=fun x1 x2 x3 x4 x5=>⟨_,by omega,j+1,rfl,by omega,(by rw[x1,az (by omega)]),x2,x3,(all_succ bA0 x4),x5⟩
    have nR:j<s.ai.length:=by omega
    have mm:=Ao nR
    have sn:=Fo (pb s j).aL (Rr j nR)
    have SZ:=Mj s (pb s j).cu (xE j nR)
    have BD:=wP (pb s j).aL ((List.range j).map fun i=>(pb s i).aL)
    rw[wq _ j]at BD
    have jH:(¬AR s j)->¬iA s:=fun h hp=>h (hp.tok j nR)
    have ik:(⟨199011000,st_a.next+1⟩:Id)≠⟨199000000,n0⟩:=by simp
    generalize htd:pb s j=tl at *
    cases hb:jN tl.aL
    ·rw[hb]at sn
     (repeat(first|((repeat(revert hN;revert N;apply Pn.out));refine wk (tw @b52 (tw @bg0 (tw @bg1 (tw @b1 (tw @b6 (tw @C1 (tw @C2 (tw @hj (tw @mm (tw @bI.eq_1 @ad.eq_1)))))))))) ?_;(repeat(refine Pn.mk ?_;intro N hN)))|((try apply Or.inl);refine⟨_,aj.x (sn) (sd (tw @b52 (tw @bg0 (tw @bg1 (tw @b1 (tw @b6 (tw @C1 (tw @C2 (tw @hj (tw @mm (tw @bI.eq_1 @ad.eq_1))))))))))),?_⟩;refine hN _ _ ?_;clear hN N)))
     exact aM (b:=false) (.inl rfl) (sd @Nat.zero_add) (fF (jH fun h=>by rw[AR,htd,hb]at h;cases h.1))
    ·rw[hb]at sn
     rcases BD with⟨Ds,ml⟩|⟨i,fc,ml,gh⟩
     ·by_cases h4:(tl.cu.length:Int)=4
      ·have zz:decide ((tl.cu.length:Int)=4)=true:=decide_eq_true h4
       cases hany:tl.cu.any fun g=> !jb g 0 s.aE.length
       ·rw[hany]at SZ
        have qz:dC ((List.range j).map fun i=>(pb s i).aL)++[[.str tl.aL,.bool true]]=dC (List.map (fun i=>(pb s i).aL) (List.range j++[j])):=by simp[dC,htd]
        (repeat(first|((repeat(revert hN;revert N;apply Pn.out));refine wk (tw @b52 (tw @bg0 (tw @bg1 (tw @b1 (tw @b6 (tw @C1 (tw @C2 (tw @hj (tw @mm (tw @ml (tw @zz (tw @bI.eq_1 @ad.eq_1)))))))))))) ?_;(repeat(refine Pn.mk ?_;intro N hN)))|((try apply Or.inl);refine⟨_,aj.x (sn) (sd (tw @b52 (tw @bg0 (tw @bg1 (tw @b1 (tw @b6 (tw @C1 (tw @C2 (tw @hj (tw @mm (tw @ml (tw @zz (tw @bI.eq_1 @ad.eq_1))))))))))))),?_⟩;refine hN _ _ ?_;clear hN N)|((try apply Or.inl);refine⟨_,aj.x (SZ) (sd (tw @b52 (tw @bg0 (tw @bg1 (tw @b1 (tw @b6 (tw @C1 (tw @C2 (tw @hj (tw @mm (tw @ml (tw @zz (tw @bI.eq_1 @ad.eq_1))))))))))))),?_⟩;refine hN _ _ ?_;clear hN N)))
        refine fC ?_ ?_ ?_ (⟨by rw[htd];exact hb,by rw[htd];omega,fun i hi=>(by rw[htd];exact Ds i hi),fun g hg=>by rw[htd]at hg;have:=List.any_eq_false.1 hany g hg;simpa using this⟩) (by(try dsimp only);omega)
        all_goals simp only[go_sem, ↓reduceIte,Nat.reduceEqDiff,Nat.reduceAdd,Nat.reduceSub,Nat.reduceLeDiff,reduceCtorEq,b52,bg0,bg1,b1,b6,C1,C2,ml,qz]
       ·rw[hany]at SZ
        (repeat(first|((repeat(revert hN;revert N;apply Pn.out));refine wk (tw @b52 (tw @bg0 (tw @bg1 (tw @b1 (tw @b6 (tw @C1 (tw @C2 (tw @hj (tw @mm (tw @ml (tw @zz (tw @bI.eq_1 @ad.eq_1)))))))))))) ?_;(repeat(refine Pn.mk ?_;intro N hN)))|((try apply Or.inl);refine⟨_,aj.x (sn) (sd (tw @b52 (tw @bg0 (tw @bg1 (tw @b1 (tw @b6 (tw @C1 (tw @C2 (tw @hj (tw @mm (tw @ml (tw @zz (tw @bI.eq_1 @ad.eq_1))))))))))))),?_⟩;refine hN _ _ ?_;clear hN N)|((try apply Or.inl);refine⟨_,aj.x (SZ) (sd (tw @b52 (tw @bg0 (tw @bg1 (tw @b1 (tw @b6 (tw @C1 (tw @C2 (tw @hj (tw @mm (tw @ml (tw @zz (tw @bI.eq_1 @ad.eq_1))))))))))))),?_⟩;refine hN _ _ ?_;clear hN N)))
        exact aM (b:=false) (.inl rfl) (sd @Nat.zero_add) (fF (jH fun h=>by
         rw[AR,htd]at h
         obtain⟨g,hg,hq⟩:=List.any_eq_true.1 hany
         have:=h.2.2.2 g hg
         rw[this]at hq;cases hq))
      ·have zz:decide ((tl.cu.length:Int)=4)=false:=decide_eq_false h4
       (repeat(first|((repeat(revert hN;revert N;apply Pn.out));refine wk (tw @b52 (tw @bg0 (tw @bg1 (tw @b1 (tw @b6 (tw @C1 (tw @C2 (tw @hj (tw @mm (tw @ml (tw @zz (tw @bI.eq_1 @ad.eq_1)))))))))))) ?_;(repeat(refine Pn.mk ?_;intro N hN)))|((try apply Or.inl);refine⟨_,aj.x (sn) (sd (tw @b52 (tw @bg0 (tw @bg1 (tw @b1 (tw @b6 (tw @C1 (tw @C2 (tw @hj (tw @mm (tw @ml (tw @zz (tw @bI.eq_1 @ad.eq_1))))))))))))),?_⟩;refine hN _ _ ?_;clear hN N)))
       exact aM (b:=false) (.inl rfl) (sd @Nat.zero_add) (fF (jH fun h=>by rw[AR,htd]at h;have:=h.2.1;omega))
     ·(repeat(first|((repeat(revert hN;revert N;apply Pn.out));refine wk (tw @b52 (tw @bg0 (tw @bg1 (tw @b1 (tw @b6 (tw @C1 (tw @C2 (tw @hj (tw @mm (tw @ml (tw @gh (tw @bI.eq_1 @ad.eq_1)))))))))))) ?_;(repeat(refine Pn.mk ?_;intro N hN)))|((try apply Or.inl);refine⟨_,aj.x (sn) (sd (tw @b52 (tw @bg0 (tw @bg1 (tw @b1 (tw @b6 (tw @C1 (tw @C2 (tw @hj (tw @mm (tw @ml (tw @gh (tw @bI.eq_1 @ad.eq_1))))))))))))),?_⟩;refine hN _ _ ?_;clear hN N)))
      exact aM (b:=false) (.inl rfl) (sd @Nat.zero_add) (fF (jH fun h=>by
       rw[AR,htd]at h
       obtain⟨i,hi,he⟩:=List.mem_map.1 fc
       exact h.2.2.1 i (List.mem_range.1 hi) he))
   ·(try((repeat(revert hN;revert N;apply Pn.out));refine wk (tw @b52 (tw @bg0 (tw @bg1 (tw @b1 (tw @b6 (tw @C1 (tw @C2 (tw @hj @ad.eq_1)))))))) ?_;(repeat(refine Pn.mk ?_;intro N hN))))
    exact aM (b:=true) (.inl rfl) (sd @Nat.zero_add) (Ck ⟨by omega,by omega,by omega,fun i hi=>mi i (by omega),fun i hi=>bA0 i (by omega)⟩)
 ·rw[Bool.not_eq_true]at h2
  rw[h2]at hw
  (repeat(first|((repeat(revert hN;revert N;apply Pn.out));refine wk (tw @ad.eq_1 @h1) ?_;(repeat(refine Pn.mk ?_;intro N hN)))|((try apply Or.inl);refine⟨_,aj.x (hw) (sd (tw @ad.eq_1 @h1)),?_⟩;refine hN _ _ ?_;clear hN N)))
  exact aM (b:=false) (.inl rfl) (sd @Nat.zero_add) (fF fun h=>by
   have h3:=h.some
   have h4:=h.Kh
   rw[kU ⟨by omega,by omega⟩]at h2;cases h2)
theorem uq {α:Type} {p:α->Bool} {xs:List α} {k:Nat} (hk:k<xs.length) (h1:p xs[k]=true) (h2:∀j (h:j<xs.length),j<k->p xs[j]=false):iE p xs=k:=by
 have:xs.findIdx p=k:=by rw[List.findIdx_eq hk];exact⟨h1,fun j hj=>h2 j (by omega) hj⟩
 rw[iE,this,if_pos hk]
theorem ya {α:Type} {p:α->Bool} {xs:List α} (h:∀j (h:j<xs.length),p xs[j]=false):iE p xs= -1:=by
 rw[iE,if_neg]
 rw[List.findIdx_lt_length]
 rintro⟨x,hx,IW⟩
 obtain⟨j,hj,rfl⟩:=List.getElem_of_mem hx
 rw[h j hj]at IW;cases IW
theorem zx {s:ay} {i:Nat} (h:i<s.aE.length):pT s i=s.aE[i]:=by simp[pT,List.getD_eq_getElem?_getD,h]
theorem Am {s:ay} {i:Nat} (h:i<s.ai.length):pb s i=s.ai[i]:=by simp[pb,List.getD_eq_getElem?_getD,h]
def KC (s:ay) (n:ByteArray):Int:=iE (fun g:iq=>decide (g.aL=n)) s.aE
def Nk (s:ay) (n:ByteArray):Int:=iE (fun t:fy=>decide (t.aL=n)) s.ai
theorem GB (s:ay) (nm:ByteArray):aj Tryz.prog 238 [.cR (ad s),.str nm] (.int .i64 (KC s nm+1)):=by
 refine aj.body eH rfl fun hl n0=>?_
 have hlen:s.aE.length<=9223372036854775807:=by
  have h1:=(hl (.cR (ad s)) (by simp)).BO (a:=.sl (s.aE.map cU)) (by simp[ad])
  simpa using h1.len
 clear hl
 (try((repeat(revert hN;revert N;apply Pn.out));refine wk @ad.eq_1 ?_;(repeat(refine Pn.mk ?_;intro N hN))))
 refine aZ (fun n env st=>∃k:Nat,n=(s.aE.length)-k/\k<=(s.aE.length)/\env 5=.int .i64 (k:Int)/\(∀j:Nat,j<k->∀h:j<s.aE.length,decide (s.aE[j].aL=nm)=false)) (s.aE.length) ⟨0,by omega,by omega,sl @ad.eq_1,fun _ h=>absurd h (Nat.not_lt_zero _)⟩ ?_
 rintro n_a env_a st_a ⟨k,rfl,ale,a5,mi⟩ ez
 have a0:=ez 0 (by kernel_rfl);have a1:=ez 1 (by kernel_rfl)
 simp only[go_sem, ↓reduceIte,Nat.reduceEqDiff,Nat.reduceAdd,Nat.reduceSub,Nat.reduceLeDiff,reduceCtorEq,ad]at a0 a1
 clear ez
 by_cases hk:(k:Int)<(s.aE.length:Int)
 ·have dd:∀{e:Env},(e 5=.int .i64 (IntKind.i64.wrap ((k:Int)+1)))->(∀h:k<s.aE.length,decide (s.aE[k].aL=nm)=false)->∃m0,m0<(s.aE.length)-k/\∃k:Nat,m0=(s.aE.length)-k/\k<=(s.aE.length)/\e 5=.int .i64 (k:Int)/\(∀j:Nat,j<k->∀h:j<s.aE.length,decide (s.aE[j].aL=nm)=false):=fun x1 x2=>⟨_,by omega,k+1,rfl,by omega,(by rw[x1,az (by omega)]),(all_succ mi x2)⟩
  have fm:k<s.aE.length:=by omega
  have eh:=zy fm
  have e:=zx fm
  cases hd:decide ((pT s k).aL=nm)
  ·have SD:=of_decide_eq_false hd
   (try((repeat(revert hN;revert N;apply Pn.out));refine wk (tw @a5 (tw @a0 (tw @a1 (tw @hk (tw @eh (tw @SD (tw @hd (tw @cU.eq_1 @ad.eq_1)))))))) ?_;(repeat(refine Pn.mk ?_;intro N hN))))
   exact dd (sd (tw @a5 (tw @a0 @a1))) (fun _=>by rw[e]at hd;exact hd)
  ·have SD:=of_decide_eq_true hd
   have hw:IntKind.i64.wrap ((k:Int)+1)=(k:Int)+1:=bU (by omega)
   (try((repeat(revert hN;revert N;apply Pn.out));refine wk (tw @a5 (tw @a0 (tw @a1 (tw @hk (tw @eh (tw @hd (tw @hw (tw @cU.eq_1 @ad.eq_1)))))))) ?_;(repeat(refine Pn.mk ?_;intro N hN))))
   exact bQ (b:=(k:Int)+1) (.inl rfl) (sd @Nat.zero_add) (by rw[KC,uq fm (by rw[e]at hd;exact hd) fun j h hj=>mi j hj h])
 ·(try((repeat(revert hN;revert N;apply Pn.out));refine wk (tw @a5 (tw @a0 (tw @a1 (tw @hk @ad.eq_1)))) ?_;(repeat(refine Pn.mk ?_;intro N hN))))
  exact bQ (b:=0) (.inl rfl) (sd @Nat.zero_add) (by rw[KC,ya fun j h=>mi j (by omega) h];rfl)
theorem GC (s:ay) (nm:ByteArray):aj Tryz.prog 239 [.cR (ad s),.str nm] (.int .i64 (Nk s nm)):=by
 refine aj.body eH rfl fun hl n0=>?_
 have hlen:s.ai.length<=9223372036854775807:=by
  have h1:=(hl (.cR (ad s)) (by simp)).BO (a:=.sl (s.ai.map bI)) (by simp[ad])
  simpa using h1.len
 clear hl
 (try((repeat(revert hN;revert N;apply Pn.out));refine wk @ad.eq_1 ?_;(repeat(refine Pn.mk ?_;intro N hN))))
 refine aZ (fun n env st=>∃k:Nat,n=(s.ai.length)-k/\k<=(s.ai.length)/\env 5=.int .i64 (k:Int)/\(∀j:Nat,j<k->∀h:j<s.ai.length,decide (s.ai[j].aL=nm)=false)) (s.ai.length) ⟨0,by omega,by omega,sl @ad.eq_1,fun _ h=>absurd h (Nat.not_lt_zero _)⟩ ?_
 rintro n_a env_a st_a ⟨k,rfl,ale,a5,mi⟩ ez
 have a0:=ez 0 (by kernel_rfl);have a1:=ez 1 (by kernel_rfl)
 simp only[go_sem, ↓reduceIte,Nat.reduceEqDiff,Nat.reduceAdd,Nat.reduceSub,Nat.reduceLeDiff,reduceCtorEq,ad]at a0 a1
 clear ez
 by_cases hk:(k:Int)<(s.ai.length:Int)
 ·have dd:∀{e:Env},(e 5=.int .i64 (IntKind.i64.wrap ((k:Int)+1)))->(∀h:k<s.ai.length,decide (s.ai[k].aL=nm)=false)->∃m0,m0<(s.ai.length)-k/\∃k:Nat,m0=(s.ai.length)-k/\k<=(s.ai.length)/\e 5=.int .i64 (k:Int)/\(∀j:Nat,j<k->∀h:j<s.ai.length,decide (s.ai[j].aL=nm)=false):=fun x1 x2=>⟨_,by omega,k+1,rfl,by omega,(by rw[x1,az (by omega)]),(all_succ mi x2)⟩
  have fm:k<s.ai.length:=by omega
  have eh:=Ao fm
  have e:=Am fm
  cases hd:decide ((pb s k).aL=nm)
  ·(try((repeat(revert hN;revert N;apply Pn.out));refine wk (tw @a5 (tw @a0 (tw @a1 (tw @hk (tw @eh (tw @hd (tw @bI.eq_1 @ad.eq_1))))))) ?_;(repeat(refine Pn.mk ?_;intro N hN))))
   exact dd (sd (tw @a5 (tw @a0 @a1))) (fun _=>by rw[e]at hd;exact hd)
  ·(try((repeat(revert hN;revert N;apply Pn.out));refine wk (tw @a5 (tw @a0 (tw @a1 (tw @hk (tw @eh (tw @hd (tw @bI.eq_1 @ad.eq_1))))))) ?_;(repeat(refine Pn.mk ?_;intro N hN))))
   exact bQ (b:=(k:Int)) (.inl rfl) (sd @Nat.zero_add) (by rw[Nk,uq fm (by rw[e]at hd;exact hd) fun j h hj=>mi j hj h])
 ·(try((repeat(revert hN;revert N;apply Pn.out));refine wk (tw @a5 (tw @a0 (tw @a1 (tw @hk @ad.eq_1)))) ?_;(repeat(refine Pn.mk ?_;intro N hN))))
  exact bQ (b:=-1) (.inl rfl) (sd @Nat.zero_add) (by rw[Nk,ya fun j h=>mi j (by omega) h])
theorem NX {s:ay} {i:Nat} (h:i<s.aE.length):KC s (pT s i).aL=i↔∀j,j<i->(pT s j).aL≠(pT s i).aL:=by
 constructor
 ·intro he j hj hc
  have gP:j<s.aE.length:=by omega
  have:s.aE.findIdx (fun g:iq=>decide (g.aL=(pT s i).aL))<=j:=by
   rcases Nat.lt_or_ge j (s.aE.findIdx fun g:iq=>decide (g.aL=(pT s i).aL))with dJ|pq
   ·have:=List.not_of_lt_findIdx dJ
    rw[<-zx gP]at this
    simp[hc]at this
   ·exact pq
  unfold KC iE at he
  split at he<;>omega
 ·intro hd
  exact uq h (by rw[<-zx h];simp) fun j gP hj=>by rw[<-zx gP];simpa using hd j hj
theorem Pj {s:ay} {i:Nat} (h:i<s.ai.length):Nk s (pb s i).aL=i↔∀j,j<i->(pb s j).aL≠(pb s i).aL:=by
 constructor
 ·intro he j hj hc
  have gP:j<s.ai.length:=by omega
  have:s.ai.findIdx (fun g:fy=>decide (g.aL=(pb s i).aL))<=j:=by
   rcases Nat.lt_or_ge j (s.ai.findIdx fun g:fy=>decide (g.aL=(pb s i).aL))with dJ|pq
   ·have:=List.not_of_lt_findIdx dJ
    rw[<-Am gP]at this
    simp[hc]at this
   ·exact pq
  unfold Nk iE at he
  split at he<;>omega
 ·intro hd
  exact uq h (by rw[<-Am h];simp) fun j gP hj=>by rw[<-Am gP];simpa using hd j hj
theorem LP (s:ay) (hn:gz s) (hg:s.aE.length<=1048576) (ht:s.ai.length<=1048576):aj Tryz.prog 167 [.cR (ad s)] (.bool (qO s)):=by
 refine aj.body eH rfl fun hl n0=>?_
 clear hl
 have Q7:∀i,i<s.aE.length->(pT s i).aL.size<=9223372036854775807:=fun i hi=>hn.1 _ (by simp[pT,List.getD_eq_getElem?_getD,hi])
 have Rr:∀i,i<s.ai.length->(pb s i).aL.size<=9223372036854775807:=fun i hi=>hn.2 _ (by simp[pb,List.getD_eq_getElem?_getD,hi])
 by_cases h1:(200:Int)<(s.aE.length:Int)
 ·(try((repeat(revert hN;revert N;apply Pn.out));refine wk (tw @ad.eq_1 @h1) ?_;(repeat(refine Pn.mk ?_;intro N hN))))
  exact aM (b:=false) (.inl rfl) (sd @Nat.zero_add) (fF fun h=>by have:=h.vL;omega)
 by_cases h2:(s.ai.length:Int)<1
 ·(try((repeat(revert hN;revert N;apply Pn.out));refine wk (tw @ad.eq_1 (tw @h1 @h2)) ?_;(repeat(refine Pn.mk ?_;intro N hN))))
  exact aM (b:=false) (.inl rfl) (sd @Nat.zero_add) (fF fun h=>by have:=h.some;omega)
 by_cases h3:(160:Int)<(s.ai.length:Int)
 ·(try((repeat(revert hN;revert N;apply Pn.out));refine wk (tw @ad.eq_1 (tw @h1 (tw @h2 @h3))) ?_;(repeat(refine Pn.mk ?_;intro N hN))))
  exact aM (b:=false) (.inl rfl) (sd @Nat.zero_add) (fF fun h=>by have:=h.Kh;omega)
 (try((repeat(revert hN;revert N;apply Pn.out));refine wk (tw @ad.eq_1 (tw @h1 (tw @h2 @h3))) ?_;(repeat(refine Pn.mk ?_;intro N hN))))
 refine aZ (fun n env st=>∃k:Nat,n=(s.aE.length)-k/\k<=(s.aE.length)/\env 3=.int .i64 (k:Int)/\(∀j:Nat,j<k->CQ s j)) (s.aE.length) ⟨0,by omega,by omega,sl @ad.eq_1,fun _ h=>absurd h (Nat.not_lt_zero _)⟩ ?_
 rintro n_a env_a st_a ⟨k,rfl,ale,a3,mi⟩ ez
 have a0:=ez 0 (by kernel_rfl)
 simp only[go_sem, ↓reduceIte,Nat.reduceEqDiff,Nat.reduceAdd,Nat.reduceSub,Nat.reduceLeDiff,reduceCtorEq,ad]at a0
 clear ez
 by_cases hk:(k:Int)<(s.aE.length:Int)
 ·have dd:∀{e:Env},(e 3=.int .i64 (IntKind.i64.wrap ((k:Int)+1)))->(CQ s k)->∃m0,m0<(s.aE.length)-k/\∃k:Nat,m0=(s.aE.length)-k/\k<=(s.aE.length)/\e 3=.int .i64 (k:Int)/\(∀j:Nat,j<k->CQ s j):=fun x1 x2=>⟨_,by omega,k+1,rfl,by omega,(by rw[x1,az (by omega)]),(all_succ mi x2)⟩
  have fm:k<s.aE.length:=by omega
  have eh:=zy fm
  have sn:=Fz (pT s k).aL (Q7 k fm)
  have KS:=lT (pT s k).eK 1 4
  have Dx:=GB s (pT s k).aL
  have rH:=NX fm
  have jH:(¬CQ s k)->¬iA s:=fun h hp=>h (hp.Sm k fm)
  have hw:IntKind.i64.wrap ((k:Int)+1)=(k:Int)+1:=bU (by omega)
  generalize uA:pT s k=gl at *
  cases hb:jN gl.aL
  ·rw[hb]at sn
   (repeat(first|((repeat(revert hN;revert N;apply Pn.out));refine wk (tw @a3 (tw @a0 (tw @hk (tw @eh (tw @cU.eq_1 @ad.eq_1))))) ?_;(repeat(refine Pn.mk ?_;intro N hN)))|((try apply Or.inl);refine⟨_,aj.x (sn) (sd (tw @a3 (tw @a0 (tw @hk (tw @eh (tw @cU.eq_1 @ad.eq_1)))))),?_⟩;refine hN _ _ ?_;clear hN N)))
   exact aM (b:=false) (.inl rfl) (sd @Nat.zero_add) (fF (jH fun h=>by rw[CQ,uA,hb]at h;cases h.1))
  rw[hb]at sn
  cases dK:jb gl.eK 1 4
  ·rw[dK]at KS
   (repeat(first|((repeat(revert hN;revert N;apply Pn.out));refine wk (tw @a3 (tw @a0 (tw @hk (tw @eh (tw @cU.eq_1 @ad.eq_1))))) ?_;(repeat(refine Pn.mk ?_;intro N hN)))|((try apply Or.inl);refine⟨_,aj.x (sn) (sd (tw @a3 (tw @a0 (tw @hk (tw @eh (tw @cU.eq_1 @ad.eq_1)))))),?_⟩;refine hN _ _ ?_;clear hN N)|((try apply Or.inl);refine⟨_,aj.x (KS) (sd (tw @a3 (tw @a0 (tw @hk (tw @eh (tw @cU.eq_1 @ad.eq_1)))))),?_⟩;refine hN _ _ ?_;clear hN N)))
   exact aM (b:=false) (.inl rfl) (sd @Nat.zero_add) (fF (jH fun h=>by rw[CQ,uA,dK]at h;cases h.2.1))
  rw[dK]at KS
  rw[ad]at Dx
  by_cases hq:KC s gl.aL=(k:Int)
  ·have hd:decide (KC s gl.aL+1=(k:Int)+1)=true:=decide_eq_true (by omega)
   have nQ:decide (KC s gl.aL=(k:Int))=true:=decide_eq_true hq
   (repeat(first|((repeat(revert hN;revert N;apply Pn.out));refine wk (tw @a3 (tw @a0 (tw @hk (tw @eh (tw @hw (tw @hd (tw @nQ (tw @cU.eq_1 @ad.eq_1)))))))) ?_;(repeat(refine Pn.mk ?_;intro N hN)))|((try apply Or.inl);refine⟨_,aj.x (sn) (sd (tw @a3 (tw @a0 (tw @hk (tw @eh (tw @hw (tw @hd (tw @nQ (tw @cU.eq_1 @ad.eq_1))))))))),?_⟩;refine hN _ _ ?_;clear hN N)|((try apply Or.inl);refine⟨_,aj.x (KS) (sd (tw @a3 (tw @a0 (tw @hk (tw @eh (tw @hw (tw @hd (tw @nQ (tw @cU.eq_1 @ad.eq_1))))))))),?_⟩;refine hN _ _ ?_;clear hN N)|((try apply Or.inl);refine⟨_,aj.x (Dx) (sd (tw @a3 (tw @a0 (tw @hk (tw @eh (tw @hw (tw @hd (tw @nQ (tw @cU.eq_1 @ad.eq_1))))))))),?_⟩;refine hN _ _ ?_;clear hN N)))
   exact dd (sd (tw @a3 (tw @a0 @hw))) (⟨by rw[uA];exact hb,by rw[uA];exact dK,fun j hj=>by rw[uA];exact rH.1 hq j hj⟩)
  ·have hd:decide (KC s gl.aL+1=(k:Int)+1)=false:=decide_eq_false (by omega)
   have nQ:decide (KC s gl.aL=(k:Int))=false:=decide_eq_false hq
   (repeat(first|((repeat(revert hN;revert N;apply Pn.out));refine wk (tw @a3 (tw @a0 (tw @hk (tw @eh (tw @hw (tw @hd (tw @nQ (tw @cU.eq_1 @ad.eq_1)))))))) ?_;(repeat(refine Pn.mk ?_;intro N hN)))|((try apply Or.inl);refine⟨_,aj.x (sn) (sd (tw @a3 (tw @a0 (tw @hk (tw @eh (tw @hw (tw @hd (tw @nQ (tw @cU.eq_1 @ad.eq_1))))))))),?_⟩;refine hN _ _ ?_;clear hN N)|((try apply Or.inl);refine⟨_,aj.x (KS) (sd (tw @a3 (tw @a0 (tw @hk (tw @eh (tw @hw (tw @hd (tw @nQ (tw @cU.eq_1 @ad.eq_1))))))))),?_⟩;refine hN _ _ ?_;clear hN N)|((try apply Or.inl);refine⟨_,aj.x (Dx) (sd (tw @a3 (tw @a0 (tw @hk (tw @eh (tw @hw (tw @hd (tw @nQ (tw @cU.eq_1 @ad.eq_1))))))))),?_⟩;refine hN _ _ ?_;clear hN N)))
   exact aM (b:=false) (.inl rfl) (sd @Nat.zero_add) (fF (jH fun h=>by
    rw[CQ,uA]at h
    exact hq (rH.2 h.2.2)))
 ·have kq:k=s.aE.length:=by omega
  (try((repeat(revert hN;revert N;apply Pn.out));refine wk (tw @a3 (tw @a0 (tw @hk @ad.eq_1))) ?_;(repeat(refine Pn.mk ?_;intro N hN))))
  refine aZ (fun n env st=>∃j:Nat,n=(s.ai.length)-j/\j<=(s.ai.length)/\env 5=.int .i64 (j:Int)/\(∀i:Nat,i<j->AR s i)) (s.ai.length) ⟨0,by omega,by omega,sl (tw @a3 (tw @a0 @ad.eq_1)),fun _ h=>absurd h (Nat.not_lt_zero _)⟩ ?_
  rintro n_b env_b st_b ⟨j,rfl,ble,b5,bA0⟩ fM
  have b0:=fM 0 (by kernel_rfl)
  simp only[go_sem, ↓reduceIte,Nat.reduceEqDiff,Nat.reduceAdd,Nat.reduceSub,Nat.reduceLeDiff,reduceCtorEq,a3,a0,ad]at b0
  clear fM
  by_cases hj:(j:Int)<(s.ai.length:Int)
  ·have fC:∀{e:Env},(e 5=.int .i64 (IntKind.i64.wrap ((j:Int)+1)))->(AR s j)->∃m0,m0<(s.ai.length)-j/\∃j:Nat,m0=(s.ai.length)-j/\j<=(s.ai.length)/\e 5=.int .i64 (j:Int)/\(∀i:Nat,i<j->AR s i):=fun x1 x2=>⟨_,by omega,j+1,rfl,by omega,(by rw[x1,az (by omega)]),(all_succ bA0 x2)⟩
   have nR:j<s.ai.length:=by omega
   have mm:=Ao nR
   have sn:=Fz (pb s j).aL (Rr j nR)
   have Dx:=GC s (pb s j).aL
   have rH:=Pj nR
   have jH:(¬AR s j)->¬iA s:=fun h hp=>h (hp.tok j nR)
   generalize htd:pb s j=tl at *
   cases hb:jN tl.aL
   ·rw[hb]at sn
    (repeat(first|((repeat(revert hN;revert N;apply Pn.out));refine wk (tw @b5 (tw @b0 (tw @hj (tw @mm (tw @bI.eq_1 @ad.eq_1))))) ?_;(repeat(refine Pn.mk ?_;intro N hN)))|((try apply Or.inl);refine⟨_,aj.x (sn) (sd (tw @b5 (tw @b0 (tw @hj (tw @mm (tw @bI.eq_1 @ad.eq_1)))))),?_⟩;refine hN _ _ ?_;clear hN N)))
    exact aM (b:=false) (.inl rfl) (sd @Nat.zero_add) (fF (jH fun h=>by rw[AR,htd,hb]at h;cases h.1))
   rw[hb]at sn
   by_cases h4:(tl.cu.length:Int)=4
   ·have zz:decide ((tl.cu.length:Int)=4)=true:=decide_eq_true h4
    rw[ad]at Dx
    by_cases hq:Nk s tl.aL=(j:Int)
    ·have hd:decide (Nk s tl.aL=(j:Int))=true:=decide_eq_true hq
     (repeat(first|((repeat(revert hN;revert N;apply Pn.out));refine wk (tw @b5 (tw @b0 (tw @hj (tw @mm (tw @zz (tw @hd (tw @bI.eq_1 @ad.eq_1))))))) ?_;(repeat(refine Pn.mk ?_;intro N hN)))|((try apply Or.inl);refine⟨_,aj.x (sn) (sd (tw @b5 (tw @b0 (tw @hj (tw @mm (tw @zz (tw @hd (tw @bI.eq_1 @ad.eq_1)))))))),?_⟩;refine hN _ _ ?_;clear hN N)|((try apply Or.inl);refine⟨_,aj.x (Dx) (sd (tw @b5 (tw @b0 (tw @hj (tw @mm (tw @zz (tw @hd (tw @bI.eq_1 @ad.eq_1)))))))),?_⟩;refine hN _ _ ?_;clear hN N)))
     refine aZ (fun n env st=>∃i:Nat,n=(4)-i/\i<=(4)/\env 7=.int .i64 (i:Int)/\st.get ⟨167012007,st_b.next+1⟩=some ⟨true,2,[bI tl]⟩/\(∀x:Nat,x<i->jb (tl.cu.getD x 0) 0 s.aE.length=true)) (4) ⟨0,by omega,by omega,sl (tw @b5 (tw @b0 (tw @bI.eq_1 @ad.eq_1))),sl (tw @b5 (tw @b0 (tw @bI.eq_1 @ad.eq_1))),fun _ h=>absurd h (Nat.not_lt_zero _)⟩ ?_
     rintro n_c env_c st_c ⟨i,rfl,cle,c7,cg0,cA0⟩ cfr
     have c0:=cfr 0 (by kernel_rfl);have c5:=cfr 5 (by kernel_rfl);have c6:=cfr 6 (by kernel_rfl)
     simp only[go_sem, ↓reduceIte,Nat.reduceEqDiff,Nat.reduceAdd,Nat.reduceSub,Nat.reduceLeDiff,reduceCtorEq,b5,b0,bI,ad]at c0 c5 c6
     clear cfr
     by_cases hi:(i:Int)<4
     ·have iw:∀{e:Env} {gg:Rows},(e 7=.int .i64 (IntKind.i64.wrap ((i:Int)+1)))->(gg ⟨167012007,st_b.next+1⟩=some ⟨true,2,[bI tl]⟩)->(jb (tl.cu.getD i 0) 0 s.aE.length=true)->∃m0,m0<(4)-i/\∃i:Nat,m0=(4)-i/\i<=(4)/\e 7=.int .i64 (i:Int)/\gg ⟨167012007,st_b.next+1⟩=some ⟨true,2,[bI tl]⟩/\(∀x:Nat,x<i->jb (tl.cu.getD x 0) 0 s.aE.length=true):=fun x1 x2 x3=>⟨_,by omega,i+1,rfl,by omega,(by rw[x1,az (by omega)]),x2,(all_succ cA0 x3)⟩
      have fc:i<tl.cu.length:=by omega
      have jM:(tl.cu.map bJ)[i]? =some (bJ (tl.cu.getD i 0)):=getD_map bJ fc
      have sO:tl.cu.getD i 0∈tl.cu:=by rw[List.getD_eq_getElem?_getD,List.getElem?_eq_getElem fc];exact List.getElem_mem fc
      have AJ:=lT (tl.cu.getD i 0) 0 s.aE.length
      generalize Ot:tl.cu.getD i 0=gv at *
      cases hv:jb gv 0 s.aE.length
      ·rw[hv]at AJ
       (repeat(first|((repeat(revert hN;revert N;apply Pn.out));refine wk (tw @c7 (tw @cg0 (tw @c0 (tw @c5 (tw @c6 (tw @hi (tw @jM (tw @bJ.eq_1 (tw @bI.eq_1 @ad.eq_1))))))))) ?_;(repeat(refine Pn.mk ?_;intro N hN)))|((try apply Or.inl);refine⟨_,aj.x (AJ) (sd (tw @c7 (tw @cg0 (tw @c0 (tw @c5 (tw @c6 (tw @hi (tw @jM (tw @bJ.eq_1 (tw @bI.eq_1 @ad.eq_1)))))))))),?_⟩;refine hN _ _ ?_;clear hN N)))
       exact aM (b:=false) (.inl rfl) (sd @Nat.zero_add) (fF (jH fun h=>by
        rw[AR,htd]at h
        have:=h.2.2.2 gv sO
        rw[hv]at this;cases this))
      ·rw[hv]at AJ
       (repeat(first|((repeat(revert hN;revert N;apply Pn.out));refine wk (tw @c7 (tw @cg0 (tw @c0 (tw @c5 (tw @c6 (tw @hi (tw @jM (tw @bJ.eq_1 (tw @bI.eq_1 @ad.eq_1))))))))) ?_;(repeat(refine Pn.mk ?_;intro N hN)))|((try apply Or.inl);refine⟨_,aj.x (AJ) (sd (tw @c7 (tw @cg0 (tw @c0 (tw @c5 (tw @c6 (tw @hi (tw @jM (tw @bJ.eq_1 (tw @bI.eq_1 @ad.eq_1)))))))))),?_⟩;refine hN _ _ ?_;clear hN N)))
       refine iw ?_ ?_ (hv)
       all_goals simp only[go_sem, ↓reduceIte,Nat.reduceEqDiff,Nat.reduceAdd,Nat.reduceSub,Nat.reduceLeDiff,reduceCtorEq,c7,cg0,c0,c5,c6]
     ·have hi4:i=4:=by omega
      (try((repeat(revert hN;revert N;apply Pn.out));refine wk (tw @c7 (tw @cg0 (tw @c0 (tw @c5 (tw @c6 (tw @hi (tw @bI.eq_1 @ad.eq_1))))))) ?_;(repeat(refine Pn.mk ?_;intro N hN))))
      exact fC (sd (tw @b5 (tw @b0 (tw @c7 (tw @cg0 (tw @c0 (tw @c5 @c6))))))) (⟨by rw[htd];exact hb,by rw[htd];omega,fun x hx=>(by rw[htd];exact rH.1 hq x hx),fun g hg=>by
       rw[htd]at hg
       obtain⟨x,hx,rfl⟩:=List.getElem_of_mem hg
       have:=cA0 x (by omega)
       rwa [List.getD_eq_getElem?_getD,List.getElem?_eq_getElem hx]at this⟩)
    ·have hd:decide (Nk s tl.aL=(j:Int))=false:=decide_eq_false hq
     (repeat(first|((repeat(revert hN;revert N;apply Pn.out));refine wk (tw @b5 (tw @b0 (tw @hj (tw @mm (tw @zz (tw @hd (tw @bI.eq_1 @ad.eq_1))))))) ?_;(repeat(refine Pn.mk ?_;intro N hN)))|((try apply Or.inl);refine⟨_,aj.x (sn) (sd (tw @b5 (tw @b0 (tw @hj (tw @mm (tw @zz (tw @hd (tw @bI.eq_1 @ad.eq_1)))))))),?_⟩;refine hN _ _ ?_;clear hN N)|((try apply Or.inl);refine⟨_,aj.x (Dx) (sd (tw @b5 (tw @b0 (tw @hj (tw @mm (tw @zz (tw @hd (tw @bI.eq_1 @ad.eq_1)))))))),?_⟩;refine hN _ _ ?_;clear hN N)))
     exact aM (b:=false) (.inl rfl) (sd @Nat.zero_add) (fF (jH fun h=>by
      rw[AR,htd]at h
      exact hq (rH.2 h.2.2.1)))
   ·have zz:decide ((tl.cu.length:Int)=4)=false:=decide_eq_false h4
    (repeat(first|((repeat(revert hN;revert N;apply Pn.out));refine wk (tw @b5 (tw @b0 (tw @hj (tw @mm (tw @zz (tw @bI.eq_1 @ad.eq_1)))))) ?_;(repeat(refine Pn.mk ?_;intro N hN)))|((try apply Or.inl);refine⟨_,aj.x (sn) (sd (tw @b5 (tw @b0 (tw @hj (tw @mm (tw @zz (tw @bI.eq_1 @ad.eq_1))))))),?_⟩;refine hN _ _ ?_;clear hN N)))
    exact aM (b:=false) (.inl rfl) (sd @Nat.zero_add) (fF (jH fun h=>by rw[AR,htd]at h;have:=h.2.1;omega))
  ·(try((repeat(revert hN;revert N;apply Pn.out));refine wk (tw @b5 (tw @b0 (tw @hj @ad.eq_1))) ?_;(repeat(refine Pn.mk ?_;intro N hN))))
   exact aM (b:=true) (.inl rfl) (sd @Nat.zero_add) (Ck ⟨by omega,by omega,by omega,fun i hi=>mi i (by omega),fun i hi=>bA0 i (by omega)⟩)
end Go.Proofs.YtgoljkjaameagaaGreat.V

namespace Go.Proofs.YtgoljkjaameagaaGreat.V
def iI (a b:au):Bool:=decide (a.eO<b.eO)||(decide (a.eO=b.eO)&&decide (a.eT<b.eT))
theorem uG {a b:au}:iI a b=true↔a.eO<b.eO∨(a.eO=b.eO/\a.eT<b.eT):=by simp[iI]
theorem pB {a b:au}:iI a b=false↔¬(a.eO<b.eO∨(a.eO=b.eO/\a.eT<b.eT)):=by rw[<-uG,Bool.not_eq_true]
theorem D8 {a b:au} (h1:a.eT=b.eT) (h2:a.eO=b.eO):a=b:=by cases a;cases b;simp_all
theorem il {a b c:au} (h:iI a b=true) (k:iI b c=true):iI a c=true:=by rw[uG]at *;omega
theorem iF {a:au}:iI a a=false:=by rw[pB];omega
theorem Js {a b:au} (h:iI a b=true):iI b a=false:=by rw[uG]at h;rw[pB];omega
theorem Ft {a b:au} (h:iI a b=false) (ik:a≠b):iI b a=true:=by
 rw[pB]at h;rw[uG]
 by_cases hy:a.eO=b.eO
 ·by_cases hx:a.eT=b.eT
  ·exact absurd (D8 hx hy) ik
  ·omega
 ·omega
def rn (a b:Int):Int:=if a<b then -1 else if b<a then 1 else 0
def L6 (a b:Int):Int:=if a=0 then b else a
def pR (a b:au):Int:=L6 (rn a.eO b.eO) (rn a.eT b.eT)
theorem pj (a b:au):decide (pR a b<0)=iI a b:=by
 unfold pR L6 rn iI
 by_cases h1:a.eO<b.eO
 ·simp[h1]
 ·by_cases h2:b.eO<a.eO
  ·have:¬a.eO=b.eO:=by omega
   simp[h1,h2,this]
  ·have:a.eO=b.eO:=by omega
   by_cases h3:a.eT<b.eT
   ·simp[h1,h2,this,h3]
   ·by_cases h4:b.eT<a.eT<;>simp[h1,h2,this,h3,h4]
theorem x7 (a b:au):(pR a b=0)↔a=b:=by
 cases a;cases b
 unfold pR L6 rn
 simp only[au.mk.injEq]
 split<;>(try split)<;>(try split)<;>(try split)<;>omega
def Jy:ab:=⟨⟨0,0⟩,0⟩
def aD (l:List ab) (i:Nat):ab:=l.getD i Jy
theorem ei {l:List ab} {i:Nat} (h:i<l.length):aD l i=l[i]:=by simp[aD,List.getD_eq_getElem?_getD,h]
theorem fj {l:List ab} {i:Nat} (h:i<l.length):aD l i∈l:=by rw[ei h];exact List.getElem_mem h
def iM (l:List ab):Prop:=∀i j:Nat,i<j->j<l.length->iI (aD l i).aC (aD l j).aC=true
def pW (l:List ab) (p:au):Nat:=l.findIdx fun c=>decide (c.aC=p)
def dm (l:List ab) (p:au):Int:=if pW l p<l.length then(pW l p:Int)else -1
def jy (l:List ab) (p:au):Nat:=l.findIdx fun c=> !iI c.aC p
theorem uE {l:List ab} {p:au} {i:Nat} (hi:i<=l.length) (h1:∀x,x<i->iI (aD l x).aC p=true) (h2:i<l.length->iI (aD l i).aC p=false):jy l p=i:=by
 unfold jy
 by_cases h:i<l.length
 ·rw[List.findIdx_eq h]
  refine⟨by have:=h2 h;rw[ei h]at this;simp[this],fun j hj=>?_⟩
  have:=h1 j hj
  rw[ei (by omega)]at this
  simp[this]
 ·have:i=l.length:=by omega
  subst this
  refine List.findIdx_eq_length_of_false fun x hx=>?_
  obtain⟨j,hj,rfl⟩:=List.getElem_of_mem hx
  have:=h1 j hj
  rw[ei hj]at this
  simp[this]
theorem uF {l:List ab} {p:au} (hR:iM l):dm l p=if jy l p<l.length/\(aD l (jy l p)).aC=p then(jy l p:Int)else -1:=by
 by_cases h:∃i,i<l.length/\(aD l i).aC=p
 ·obtain⟨i,hi,hp⟩:=h
  have h1:jy l p=i:=uE (by omega) (fun x hx=>by rw[<-hp];exact hR x i hx hi) fun _=>by rw[hp];exact iF
  have h2:pW l p=i:=by
   rw[pW,List.findIdx_eq hi]
   refine⟨by rw[ei hi]at hp;simpa using hp,fun j hj=>?_⟩
   have:=hR j i hj hi
   rw[hp,ei (by omega)]at this
   simp only[decide_eq_false_iff_not]
   intro hc
   rw[hc,iF]at this
   cases this
  rw[dm,h1,h2,if_pos hi,if_pos ⟨hi,hp⟩]
 ·have h2:¬pW l p<l.length:=by
   rw[pW,List.findIdx_lt_length]
   rintro⟨c,hc,he⟩
   obtain⟨j,hj,rfl⟩:=List.getElem_of_mem hc
   exact h ⟨j,hj,by rw[ei hj];simpa using he⟩
  rw[dm,if_neg h2,if_neg]
  rintro⟨h3,h4⟩
  exact h ⟨_,h3,h4⟩
theorem gj {l:List ab} {p:au} (h:0<=dm l p):(dm l p).toNat<l.length/\(aD l (dm l p).toNat).aC=p:=by
 unfold dm at h ⊢
 split at h
 ·rename_i hc
  rw[if_pos hc]
  refine⟨by omega,?_⟩
  have:=of_decide_eq_true (List.findIdx_getElem (p:=fun c:ab=>decide (c.aC=p)) (xs:=l) (w:=hc))
  rw[Int.toNat_natCast,ei hc]
  exact this
 ·omega
def fK (l:List ab) (p:au):Int:=if 0<=dm l p then(aD l (dm l p).toNat).aQ else -1
end Go.Proofs.YtgoljkjaameagaaGreat.V

namespace Go.Proofs.YtgoljkjaameagaaGreat.V
open Go.RowKit
attribute [local irreducible] dE wpOps fS Call
attribute [local go_sem] aH fq eG fH fG cX upd bZ K.av cD AV.cells AV.cell rowOf rowsOf part ld rowAt br bP dn dR gK bx cQ eb fD eS di dW cN cL dH dI bD aW cF bB cH cG dU dX dV cE bG cP dS bz aI cJ cq gJ bj cz bE aT de aX dp AV.undef bq bt dL dQ dB dz cw ea ee cj dZ dY cI cK List.getD_cons_zero List.getD_cons_succ List.getD_nil List.all_cons List.all_nil Bool.and_true Bool.true_and Bool.and_self Bool.not_true Bool.not_false Option.map_some Option.map_none Option.bind_some Option.bind_none List.length_cons List.length_nil List.take_succ_cons List.take_zero List.take_nil List.drop_succ_cons List.drop_zero List.drop_nil List.head?_cons List.map_cons List.map_nil List.getElem?_cons_zero List.getElem?_cons_succ List.cons_append List.nil_append List.append_nil List.length_map List.set_cons_zero List.set_cons_succ Nat.reduceMul eq_self Int.toNat_natCast Int.natCast_nonneg and_self true_and and_true decide_true decide_false Bool.false_eq_true Nat.zero_add Nat.add_zero List.contains_cons List.contains_nil Bool.or_false Bool.false_or beq_self_eq_true Nat.reduceBEq ne_eq not_true_eq_false not_false_eq_true Id.mk.injEq false_and and_false Nat.reduceLT Int.reduceLE Int.reduceLT Int.reduceToNat Int.reduceNeg Int.reduceAdd Nat.le_refl List.length_append beq_true beq_false Bool.not_eq_eq_eq_not or_false false_or dD ah aq aF aY bp bK aP bc aN aV cC bF
theorem lH (a b:au):aj Tryz.prog 175 [.agg (ae a),.agg (ae b)] (.bool (iI a b)):=by
 refine aj.body eH rfl fun hl n0=>?_
 clear hl
 by_cases h0:a.eO<b.eO
 ·(try((repeat(revert hN;revert N;apply Pn.out));refine wk (tw @ae.eq_1 @h0) ?_;(repeat(refine Pn.mk ?_;intro N hN))))
  exact aM (b:=true) (.inl rfl) (sd @Nat.zero_add) (by simp[iI,h0])
 ·by_cases h1:a.eO=b.eO
  ·have h2:¬b.eO<b.eO:=by omega
   (try((repeat(revert hN;revert N;apply Pn.out));refine wk (tw @ae.eq_1 (tw @h1 @h2)) ?_;(repeat(refine Pn.mk ?_;intro N hN))))
   exact aM (b:=decide (a.eT<b.eT)) (.inl rfl) (sd @Nat.zero_add) (by simp[iI,h1])
  ·(try((repeat(revert hN;revert N;apply Pn.out));refine wk (tw @ae.eq_1 (tw @h0 @h1)) ?_;(repeat(refine Pn.mk ?_;intro N hN))))
   exact aM (b:=false) (.inl rfl) (sd @Nat.zero_add) (by simp[iI,h0,h1])
theorem fa {l:List ab} {i:Nat} (h:i<l.length):(l.map aa)[i]? =some (aa (aD l i)):=getD_map aa h
def CT (l:List ab) (i:Nat):Prop:=Cb (aD l i).aC=true/\jb (aD l i).aQ 0 159=true/\(0<i->iI (aD l (i-1)).aC (aD l i).aC=true)
structure jI (l:List ab):Prop where
 lL:l.length<=500
 ok:∀i,i<l.length->CT l i
noncomputable def oE (l:List ab):Bool:=@decide (jI l) (Classical.propDecidable _)
theorem sG {l:List ab}:oE l=true↔jI l:=by simp[oE]
theorem j7 {l:List ab} (h:¬jI l):false=oE l:=by simp[oE,h]
theorem yd {l:List ab} (h:jI l):true=oE l:=by simp[oE,h]
theorem jI.uh {l:List ab} (h:jI l):iM l:=by
 intro i j zF hj
 induction j with
 |zero=>omega
 |succ j ih=>
  have h1:=(h.ok (j+1) hj).2.2 (by omega)
  rw[Nat.add_sub_cancel]at h1
  by_cases he:i=j
  ·subst he;exact h1
  ·exact il (ih (by omega) (by omega)) h1
theorem jI.pt {l:List ab} (h:jI l) {i:Nat} (hi:i<l.length):Cb (aD l i).aC=true:=(h.ok i hi).1
theorem s6 {p:au} (h:Cb p=true):iB p.eT/\iB p.eO:=by
 unfold Cb at h
 simp only[Bool.and_eq_true]at h
 have:=ek h.1;have:=ek h.2
 unfold iB;omega
theorem GD (l:List ab):aj Tryz.prog 219 [.cR [.sl (l.map aa)]] (.bool (oE l)):=by
 refine aj.body eH rfl fun hl n0=>?_
 clear hl
 by_cases h1:(500:Int)<(l.length:Int)
 ·(try((repeat(revert hN;revert N;apply Pn.out));refine wk @h1 ?_;(repeat(refine Pn.mk ?_;intro N hN))))
  exact aM (b:=false) (.inl rfl) (sd @Nat.zero_add) (j7 fun h=>by have:=h.lL;omega)
 (try((repeat(revert hN;revert N;apply Pn.out));refine wk @h1 ?_;(repeat(refine Pn.mk ?_;intro N hN))))
 refine aZ (fun n env st=>∃k:Nat,n=(l.length)-k/\k<=(l.length)/\env 3=.int .i64 (k:Int)/\(∀j:Nat,j<k->CT l j)) (l.length) ⟨0,by omega,by omega,sl @Nat.zero_add,fun _ h=>absurd h (Nat.not_lt_zero _)⟩ ?_
 rintro n_a env_a st_a ⟨k,rfl,ale,a3,mi⟩ ez
 have a0:=ez 0 (by kernel_rfl)
 simp only[go_sem, ↓reduceIte,Nat.reduceEqDiff,Nat.reduceAdd,Nat.reduceSub,Nat.reduceLeDiff,reduceCtorEq]at a0
 clear ez
 by_cases hk:(k:Int)<(l.length:Int)
 ·have dd:∀{e:Env},(e 3=.int .i64 (IntKind.i64.wrap ((k:Int)+1)))->(CT l k)->∃m0,m0<(l.length)-k/\∃k:Nat,m0=(l.length)-k/\k<=(l.length)/\e 3=.int .i64 (k:Int)/\(∀j:Nat,j<k->CT l j):=fun x1 x2=>⟨_,by omega,k+1,rfl,by omega,(by rw[x1,az (by omega)]),(all_succ mi x2)⟩
  have fm:k<l.length:=by omega
  have eh:=fa fm
  have jH:(¬CT l k)->¬jI l:=fun h hp=>h (hp.ok k fm)
  have hp:=we (aD l k).aC
  have ht:=lT (aD l k).aQ 0 159
  cases b1:Cb (aD l k).aC
  ·rw[b1]at hp
   (repeat(first|((repeat(revert hN;revert N;apply Pn.out));refine wk (tw @a3 (tw @a0 (tw @hk (tw @eh (tw @aa.eq_1 @ae.eq_1))))) ?_;(repeat(refine Pn.mk ?_;intro N hN)))|((try apply Or.inl);refine⟨_,aj.x (hp) (sd (tw @a3 (tw @a0 (tw @hk (tw @eh (tw @aa.eq_1 @ae.eq_1)))))),?_⟩;refine hN _ _ ?_;clear hN N)))
   exact aM (b:=false) (.inl rfl) (sd @Nat.zero_add) (j7 (jH fun h=>by rw[CT,b1]at h;cases h.1))
  rw[b1]at hp
  cases b2:jb (aD l k).aQ 0 159
  ·rw[b2]at ht
   (repeat(first|((repeat(revert hN;revert N;apply Pn.out));refine wk (tw @a3 (tw @a0 (tw @hk (tw @eh (tw @aa.eq_1 @ae.eq_1))))) ?_;(repeat(refine Pn.mk ?_;intro N hN)))|((try apply Or.inl);refine⟨_,aj.x (hp) (sd (tw @a3 (tw @a0 (tw @hk (tw @eh (tw @aa.eq_1 @ae.eq_1)))))),?_⟩;refine hN _ _ ?_;clear hN N)|((try apply Or.inl);refine⟨_,aj.x (ht) (sd (tw @a3 (tw @a0 (tw @hk (tw @eh (tw @aa.eq_1 @ae.eq_1)))))),?_⟩;refine hN _ _ ?_;clear hN N)))
   exact aM (b:=false) (.inl rfl) (sd @Nat.zero_add) (j7 (jH fun h=>by rw[CT,b2]at h;cases h.2.1))
  rw[b2]at ht
  by_cases h0:(0:Int)<(k:Int)
  ·have vO:=fa (l:=l) (i:=k-1) (by omega)
   have hw:IntKind.i64.wrap ((k:Int)-1)=((k-1:Nat):Int):=by rw[bU (by have:=fm;omega)];omega
   have hq:=lH (aD l (k-1)).aC (aD l k).aC
   cases b3:iI (aD l (k-1)).aC (aD l k).aC
   ·rw[b3]at hq
    (repeat(first|((repeat(revert hN;revert N;apply Pn.out));refine wk (tw @a3 (tw @a0 (tw @hk (tw @eh (tw @vO (tw @h0 (tw @hw (tw @aa.eq_1 @ae.eq_1)))))))) ?_;(repeat(refine Pn.mk ?_;intro N hN)))|((try apply Or.inl);refine⟨_,aj.x (hp) (sd (tw @a3 (tw @a0 (tw @hk (tw @eh (tw @vO (tw @h0 (tw @hw (tw @aa.eq_1 @ae.eq_1))))))))),?_⟩;refine hN _ _ ?_;clear hN N)|((try apply Or.inl);refine⟨_,aj.x (ht) (sd (tw @a3 (tw @a0 (tw @hk (tw @eh (tw @vO (tw @h0 (tw @hw (tw @aa.eq_1 @ae.eq_1))))))))),?_⟩;refine hN _ _ ?_;clear hN N)|((try apply Or.inl);refine⟨_,aj.x (hq) (sd (tw @a3 (tw @a0 (tw @hk (tw @eh (tw @vO (tw @h0 (tw @hw (tw @aa.eq_1 @ae.eq_1))))))))),?_⟩;refine hN _ _ ?_;clear hN N)))
    exact aM (b:=false) (.inl rfl) (sd @Nat.zero_add) (j7 (jH fun h=>by have:=h.2.2 (by omega);rw[b3]at this;cases this))
   ·rw[b3]at hq
    (repeat(first|((repeat(revert hN;revert N;apply Pn.out));refine wk (tw @a3 (tw @a0 (tw @hk (tw @eh (tw @vO (tw @h0 (tw @hw (tw @aa.eq_1 @ae.eq_1)))))))) ?_;(repeat(refine Pn.mk ?_;intro N hN)))|((try apply Or.inl);refine⟨_,aj.x (hp) (sd (tw @a3 (tw @a0 (tw @hk (tw @eh (tw @vO (tw @h0 (tw @hw (tw @aa.eq_1 @ae.eq_1))))))))),?_⟩;refine hN _ _ ?_;clear hN N)|((try apply Or.inl);refine⟨_,aj.x (ht) (sd (tw @a3 (tw @a0 (tw @hk (tw @eh (tw @vO (tw @h0 (tw @hw (tw @aa.eq_1 @ae.eq_1))))))))),?_⟩;refine hN _ _ ?_;clear hN N)|((try apply Or.inl);refine⟨_,aj.x (hq) (sd (tw @a3 (tw @a0 (tw @hk (tw @eh (tw @vO (tw @h0 (tw @hw (tw @aa.eq_1 @ae.eq_1))))))))),?_⟩;refine hN _ _ ?_;clear hN N)))
    exact dd (sd (tw @a3 @a0)) (⟨b1,b2,fun _=>b3⟩)
  ·have lz:k=0:=by omega
   (repeat(first|((repeat(revert hN;revert N;apply Pn.out));refine wk (tw @a3 (tw @a0 (tw @hk (tw @eh (tw @h0 (tw @aa.eq_1 @ae.eq_1)))))) ?_;(repeat(refine Pn.mk ?_;intro N hN)))|((try apply Or.inl);refine⟨_,aj.x (hp) (sd (tw @a3 (tw @a0 (tw @hk (tw @eh (tw @h0 (tw @aa.eq_1 @ae.eq_1))))))),?_⟩;refine hN _ _ ?_;clear hN N)|((try apply Or.inl);refine⟨_,aj.x (ht) (sd (tw @a3 (tw @a0 (tw @hk (tw @eh (tw @h0 (tw @aa.eq_1 @ae.eq_1))))))),?_⟩;refine hN _ _ ?_;clear hN N)))
   exact dd (sd (tw @a3 @a0)) (⟨b1,b2,fun h=>by omega⟩)
 ·(try((repeat(revert hN;revert N;apply Pn.out));refine wk (tw @a3 (tw @a0 @hk)) ?_;(repeat(refine Pn.mk ?_;intro N hN))))
  exact aM (b:=true) (.inl rfl) (sd @Nat.zero_add) (yd ⟨by omega,fun i hi=>mi i (by omega)⟩)
theorem x8 (a b:Int):aj Tryz.prog 210 [.int .i64 a,.int .i64 b] (.int .i64 (rn a b)):=by
 have nan:∀x:Int,aj Tryz.prog 273 [.int .i64 x] (.bool false):=fun x=>by
  refine aj.body eH rfl fun hl n0=>?_
  clear hl
  have e:decide (x=x)=true:=decide_eq_true rfl
  (try((repeat(revert hN;revert N;apply Pn.out));refine wk @e ?_;(repeat(refine Pn.mk ?_;intro N hN))))
  exact aM (b:=false) (.inl rfl) (sd @Nat.zero_add) rfl
 refine aj.body eH rfl fun hl n0=>?_
 clear hl
 have ha:=nan a
 have hb:=nan b
 by_cases h1:a<b
 ·(repeat(first|((repeat(revert hN;revert N;apply Pn.out));refine wk @h1 ?_;(repeat(refine Pn.mk ?_;intro N hN)))|((try apply Or.inl);refine⟨_,aj.x (ha) (sd @h1),?_⟩;refine hN _ _ ?_;clear hN N)|((try apply Or.inl);refine⟨_,aj.x (hb) (sd @h1),?_⟩;refine hN _ _ ?_;clear hN N)))
  exact bQ (b:=-1) (.inl rfl) (sd @Nat.zero_add) (by rw[rn,if_pos h1])
 by_cases h2:b<a
 ·(repeat(first|((repeat(revert hN;revert N;apply Pn.out));refine wk (tw @h1 @h2) ?_;(repeat(refine Pn.mk ?_;intro N hN)))|((try apply Or.inl);refine⟨_,aj.x (ha) (sd (tw @h1 @h2)),?_⟩;refine hN _ _ ?_;clear hN N)|((try apply Or.inl);refine⟨_,aj.x (hb) (sd (tw @h1 @h2)),?_⟩;refine hN _ _ ?_;clear hN N)))
  exact bQ (b:=1) (.inl rfl) (sd @Nat.zero_add) (by rw[rn,if_neg h1,if_pos h2])
 ·(repeat(first|((repeat(revert hN;revert N;apply Pn.out));refine wk (tw @h1 @h2) ?_;(repeat(refine Pn.mk ?_;intro N hN)))|((try apply Or.inl);refine⟨_,aj.x (ha) (sd (tw @h1 @h2)),?_⟩;refine hN _ _ ?_;clear hN N)|((try apply Or.inl);refine⟨_,aj.x (hb) (sd (tw @h1 @h2)),?_⟩;refine hN _ _ ?_;clear hN N)))
  exact bQ (b:=0) (.inl rfl) (sd @Nat.zero_add) (by rw[rn,if_neg h1,if_neg h2])
def HF:List Int->Int
 |[]=>0
 |a::r=>if a=0 then HF r else a
theorem JE:∀{l:List Int} {k:Nat} (hk:k<l.length),l[k]≠0->(∀j (h:j<l.length),j<k->l[j]=0)->HF l=l[k]
 |a::r,0,_,h,_=>by
  have h':a≠0:=h
  rw[HF,if_neg h'];rfl
 |a::r,k+1,hk,h,h0=>by
  have h':a=0:=h0 0 (by simp) (by omega)
  rw[HF,if_pos h',JE (k:=k) (by simpa using hk) h fun j hj yi=>h0 (j+1) (by simpa using hj) (by omega)];rfl
theorem B9:∀{l:List Int},(∀j (h:j<l.length),l[j]=0)->HF l=0
 |[],_=>rfl
 |a::r,h=>by
  have h':a=0:=h 0 (by simp)
  rw[HF,if_pos h',B9 fun j hj=>h (j+1) (by simpa using hj)]
theorem L7 (a b:Int):HF [a,b]=L6 a b:=by
 unfold L6
 by_cases h:a=0
 ·rw[HF,if_pos h,if_pos h,HF,HF];split<;>simp_all
 ·rw[HF,if_neg h,if_neg h]
theorem K7 (l:List Int):aj Tryz.prog 233 [.sl (l.map bJ)] (.int .i64 (HF l)):=by
 refine aj.body eH rfl fun hl n0=>?_
 have hlen:l.length<=9223372036854775807:=by simpa using(hl (.sl (l.map bJ)) (by simp)).len
 clear hl
 (try((repeat(revert hN;revert N;apply Pn.out));refine wk @Nat.zero_add ?_;(repeat(refine Pn.mk ?_;intro N hN))))
 refine aZ (fun n env st=>∃k:Nat,n=(l.length)-k/\k<=(l.length)/\env 8=.int .i64 (k:Int)/\(∀j:Nat,j<k->∀h:j<l.length,l[j]=0)) (l.length) ⟨0,by omega,by omega,sl @Nat.zero_add,fun _ h=>absurd h (Nat.not_lt_zero _)⟩ ?_
 rintro n_a env_a st_a ⟨k,rfl,ale,a8,mi⟩ ez
 have a3:=ez 3 (by kernel_rfl);have a6:=ez 6 (by kernel_rfl);have a7:=ez 7 (by kernel_rfl)
 simp only[go_sem, ↓reduceIte,Nat.reduceEqDiff,Nat.reduceAdd,Nat.reduceSub,Nat.reduceLeDiff,reduceCtorEq]at a3 a6 a7
 clear ez
 by_cases hk:(k:Int)<(l.length:Int)
 ·have dd:∀{e:Env},(e 8=.int .i64 (IntKind.i64.wrap ((k:Int)+1)))->(∀h:k<l.length,l[k]=0)->∃m0,m0<(l.length)-k/\∃k:Nat,m0=(l.length)-k/\k<=(l.length)/\e 8=.int .i64 (k:Int)/\(∀j:Nat,j<k->∀h:j<l.length,l[j]=0):=fun x1 x2=>⟨_,by omega,k+1,rfl,by omega,(by rw[x1,az (by omega)]),(all_succ mi x2)⟩
  have fm:k<l.length:=by omega
  have eh:(l.map bJ)[k]? =some (bJ l[k]):=by simp[fm]
  generalize hv:l[k]=v at eh
  by_cases h0:v=0
  ·have e:decide (v=0)=true:=decide_eq_true h0
   (try((repeat(revert hN;revert N;apply Pn.out));refine wk (tw @a8 (tw @a3 (tw @a6 (tw @a7 (tw @e (tw @hk (tw @eh @bJ.eq_1))))))) ?_;(repeat(refine Pn.mk ?_;intro N hN))))
   exact dd (sd (tw @a8 (tw @a3 (tw @a6 @a7)))) (fun _=>hv.trans h0)
  ·have e:decide (v=0)=false:=decide_eq_false h0
   (try((repeat(revert hN;revert N;apply Pn.out));refine wk (tw @a8 (tw @a3 (tw @a6 (tw @a7 (tw @e (tw @hk (tw @eh @bJ.eq_1))))))) ?_;(repeat(refine Pn.mk ?_;intro N hN))))
   exact bQ (b:=v) (.inl rfl) (sd @Nat.zero_add) (by rw[JE fm (by rw[hv];exact h0) fun j h hj=>mi j hj h,hv])
 ·(try((repeat(revert hN;revert N;apply Pn.out));refine wk (tw @a8 (tw @a3 (tw @a6 (tw @a7 @hk)))) ?_;(repeat(refine Pn.mk ?_;intro N hN))))
  exact bQ (b:=0) (.inl rfl) (sd @Nat.zero_add) (by rw[B9 fun j h=>mi j (by omega) h])
section
attribute [local go_sem] List.drop_zero List.take_succ_cons List.take_zero List.length_cons List.length_nil iv zw oG
theorem hZ (a b:au):aj Tryz.prog 154 [.agg (ae a),.agg (ae b)] (.int .i64 (pR a b)):=by
 refine aj.body eH rfl fun hl n0=>?_
 clear hl
 have h1:=x8 a.eO b.eO
 have h2:=x8 a.eT b.eT
 have h3:=K7 [rn a.eO b.eO,rn a.eT b.eT]
 rw[L7,List.map_cons,List.map_cons,List.map_nil,bJ,bJ]at h3
 (repeat(first|((repeat(revert hN;revert N;apply Pn.out));refine wk @ae.eq_1 ?_;(repeat(refine Pn.mk ?_;intro N hN)))|((try apply Or.inl);refine⟨_,aj.x (h1) (sd @ae.eq_1),?_⟩;refine hN _ _ ?_;clear hN N)|((try apply Or.inl);refine⟨_,aj.x (h2) (sd @ae.eq_1),?_⟩;refine hN _ _ ?_;clear hN N)|((try apply Or.inl);refine⟨_,aj.x (h3) (sd @ae.eq_1),?_⟩;refine hN _ _ ?_;clear hN N)))
 exact bQ (b:=pR a b) (.inl rfl) (by simp only[go_sem, ↓reduceIte,Nat.reduceEqDiff,Nat.reduceAdd,Nat.reduceSub,Nat.reduceLeDiff,reduceCtorEq,pR]) rfl
end
theorem Fm (a b:au):aj Tryz.prog 179 [.agg (ae a),.agg (ae b)] (.bool (iI a b)):=by
 refine aj.body eH rfl fun hl n0=>?_
 clear hl
 have h1:=hZ a b
 rw[ae,ae]at h1
 (repeat(first|((repeat(revert hN;revert N;apply Pn.out));refine wk @ae.eq_1 ?_;(repeat(refine Pn.mk ?_;intro N hN)))|((try apply Or.inl);refine⟨_,aj.x (h1) (sd @ae.eq_1),?_⟩;refine hN _ _ ?_;clear hN N)))
 exact aM (b:=decide (pR a b<0)) (.inl rfl) (sd @Nat.zero_add) (pj a b)
theorem kj (t:ab) (p:au):aj Tryz.prog 164 [.agg (aa t),.agg (ae p)] (.int .i64 (pR t.aC p)):=by
 refine aj.body eH rfl fun hl n0=>?_
 clear hl
 have h1:=hZ t.aC p
 rw[ae,ae]at h1
 (repeat(first|((repeat(revert hN;revert N;apply Pn.out));refine wk (tw @aa.eq_1 @ae.eq_1) ?_;(repeat(refine Pn.mk ?_;intro N hN)))|((try apply Or.inl);refine⟨_,aj.x (h1) (sd (tw @aa.eq_1 @ae.eq_1)),?_⟩;refine hN _ _ ?_;clear hN N)))
 exact bQ (b:=pR t.aC p) (.inl rfl) (sd @Nat.zero_add) rfl
theorem sJ (l:List ab):aj Tryz.prog 200 [.agg [.sl (l.map aa)]] (.bool (oE l)):=by
 refine aj.body eH rfl fun hl n0=>?_
 have hlen:l.length<=9223372036854775807:=by
  have h1:=(hl (.agg [.sl (l.map aa)]) (by simp)).NC (a:=.sl (l.map aa)) (by simp)
  simpa using h1.len
 clear hl
 (try((repeat(revert hN;revert N;apply Pn.out));refine wk @Nat.zero_add ?_;(repeat(refine Pn.mk ?_;intro N hN))))
 refine aZ (fun n env st=>∃k:Nat,n=(l.length)-k/\k<=(l.length)/\env 8=.int .i64 (k:Int)/\st.get ⟨200000000,n0⟩=some ⟨true,1,[[.sl (l.map aa)]]⟩/\(∀j:Nat,j<k->CT l j)) (l.length) ⟨0,by omega,by omega,sl @Nat.zero_add,sl @Nat.zero_add,fun _ h=>absurd h (Nat.not_lt_zero _)⟩ ?_
 rintro n_a env_a st_a ⟨k,rfl,ale,a8,ag0,mi⟩ ez
 have a1:=ez 1 (by kernel_rfl);have a6:=ez 6 (by kernel_rfl);have a7:=ez 7 (by kernel_rfl)
 simp only[go_sem, ↓reduceIte,Nat.reduceEqDiff,Nat.reduceAdd,Nat.reduceSub,Nat.reduceLeDiff,reduceCtorEq]at a1 a6 a7
 clear ez
 by_cases hk:(k:Int)<(l.length:Int)
 ·have dd:∀{e:Env} {gg:Rows},(e 8=.int .i64 (IntKind.i64.wrap ((k:Int)+1)))->(gg ⟨200000000,n0⟩=some ⟨true,1,[[.sl (l.map aa)]]⟩)->(CT l k)->∃m0,m0<(l.length)-k/\∃k:Nat,m0=(l.length)-k/\k<=(l.length)/\e 8=.int .i64 (k:Int)/\gg ⟨200000000,n0⟩=some ⟨true,1,[[.sl (l.map aa)]]⟩/\(∀j:Nat,j<k->CT l j):=fun x1 x2 x3=>⟨_,by omega,k+1,rfl,by omega,(by rw[x1,az (by omega)]),x2,(all_succ mi x3)⟩
  have fm:k<l.length:=by omega
  have eh:=fa fm
  have jH:(¬CT l k)->¬jI l:=fun h hp=>h (hp.ok k fm)
  have hp:=qZ (aD l k).aC
  have ht:=yy (aD l k).aQ 160 (by omega) (by omega)
  rw[show(160:Int)-1=159 from rfl]at ht
  cases b1:Cb (aD l k).aC
  ·rw[b1]at hp
   (repeat(first|((repeat(revert hN;revert N;apply Pn.out));refine wk (tw @a8 (tw @ag0 (tw @a1 (tw @a6 (tw @a7 (tw @hk (tw @eh (tw @aa.eq_1 @ae.eq_1)))))))) ?_;(repeat(refine Pn.mk ?_;intro N hN)))|((try apply Or.inl);refine⟨_,aj.x (hp) (sd (tw @a8 (tw @ag0 (tw @a1 (tw @a6 (tw @a7 (tw @hk (tw @eh (tw @aa.eq_1 @ae.eq_1))))))))),?_⟩;refine hN _ _ ?_;clear hN N)))
   exact aM (b:=false) (.inl rfl) (sd @Nat.zero_add) (j7 (jH fun h=>by rw[CT,b1]at h;cases h.1))
  rw[b1]at hp
  cases b2:jb (aD l k).aQ 0 159
  ·rw[b2]at ht
   (repeat(first|((repeat(revert hN;revert N;apply Pn.out));refine wk (tw @a8 (tw @ag0 (tw @a1 (tw @a6 (tw @a7 (tw @hk (tw @eh (tw @aa.eq_1 @ae.eq_1)))))))) ?_;(repeat(refine Pn.mk ?_;intro N hN)))|((try apply Or.inl);refine⟨_,aj.x (hp) (sd (tw @a8 (tw @ag0 (tw @a1 (tw @a6 (tw @a7 (tw @hk (tw @eh (tw @aa.eq_1 @ae.eq_1))))))))),?_⟩;refine hN _ _ ?_;clear hN N)|((try apply Or.inl);refine⟨_,aj.x (ht) (sd (tw @a8 (tw @ag0 (tw @a1 (tw @a6 (tw @a7 (tw @hk (tw @eh (tw @aa.eq_1 @ae.eq_1))))))))),?_⟩;refine hN _ _ ?_;clear hN N)))
   exact aM (b:=false) (.inl rfl) (sd @Nat.zero_add) (j7 (jH fun h=>by rw[CT,b2]at h;cases h.2.1))
  rw[b2]at ht
  by_cases h0:(0:Int)<(k:Int)
  ·have vO:=fa (l:=l) (i:=k-1) (by omega)
   have hw:IntKind.i64.wrap ((k:Int)-1)=((k-1:Nat):Int):=by rw[bU (by omega)];omega
   have hq:=Fm (aD l (k-1)).aC (aD l k).aC
   cases b3:iI (aD l (k-1)).aC (aD l k).aC
   ·rw[b3]at hq
    (repeat(first|((repeat(revert hN;revert N;apply Pn.out));refine wk (tw @a8 (tw @ag0 (tw @a1 (tw @a6 (tw @a7 (tw @hk (tw @eh (tw @vO (tw @h0 (tw @hw (tw @aa.eq_1 @ae.eq_1))))))))))) ?_;(repeat(refine Pn.mk ?_;intro N hN)))|((try apply Or.inl);refine⟨_,aj.x (hp) (sd (tw @a8 (tw @ag0 (tw @a1 (tw @a6 (tw @a7 (tw @hk (tw @eh (tw @vO (tw @h0 (tw @hw (tw @aa.eq_1 @ae.eq_1)))))))))))),?_⟩;refine hN _ _ ?_;clear hN N)|((try apply Or.inl);refine⟨_,aj.x (ht) (sd (tw @a8 (tw @ag0 (tw @a1 (tw @a6 (tw @a7 (tw @hk (tw @eh (tw @vO (tw @h0 (tw @hw (tw @aa.eq_1 @ae.eq_1)))))))))))),?_⟩;refine hN _ _ ?_;clear hN N)|((try apply Or.inl);refine⟨_,aj.x (hq) (sd (tw @a8 (tw @ag0 (tw @a1 (tw @a6 (tw @a7 (tw @hk (tw @eh (tw @vO (tw @h0 (tw @hw (tw @aa.eq_1 @ae.eq_1)))))))))))),?_⟩;refine hN _ _ ?_;clear hN N)))
    exact aM (b:=false) (.inl rfl) (sd @Nat.zero_add) (j7 (jH fun h=>by have:=h.2.2 (by omega);rw[b3]at this;cases this))
   ·rw[b3]at hq
    (repeat(first|((repeat(revert hN;revert N;apply Pn.out));refine wk (tw @a8 (tw @ag0 (tw @a1 (tw @a6 (tw @a7 (tw @hk (tw @eh (tw @vO (tw @h0 (tw @hw (tw @aa.eq_1 @ae.eq_1))))))))))) ?_;(repeat(refine Pn.mk ?_;intro N hN)))|((try apply Or.inl);refine⟨_,aj.x (hp) (sd (tw @a8 (tw @ag0 (tw @a1 (tw @a6 (tw @a7 (tw @hk (tw @eh (tw @vO (tw @h0 (tw @hw (tw @aa.eq_1 @ae.eq_1)))))))))))),?_⟩;refine hN _ _ ?_;clear hN N)|((try apply Or.inl);refine⟨_,aj.x (ht) (sd (tw @a8 (tw @ag0 (tw @a1 (tw @a6 (tw @a7 (tw @hk (tw @eh (tw @vO (tw @h0 (tw @hw (tw @aa.eq_1 @ae.eq_1)))))))))))),?_⟩;refine hN _ _ ?_;clear hN N)|((try apply Or.inl);refine⟨_,aj.x (hq) (sd (tw @a8 (tw @ag0 (tw @a1 (tw @a6 (tw @a7 (tw @hk (tw @eh (tw @vO (tw @h0 (tw @hw (tw @aa.eq_1 @ae.eq_1)))))))))))),?_⟩;refine hN _ _ ?_;clear hN N)))
    refine dd ?_ ?_ (⟨b1,b2,fun _=>b3⟩)
    all_goals simp only[go_sem, ↓reduceIte,Nat.reduceEqDiff,Nat.reduceAdd,Nat.reduceSub,Nat.reduceLeDiff,reduceCtorEq,a8,ag0,a1,a6,a7]
  ·have lz:k=0:=by omega
   (repeat(first|((repeat(revert hN;revert N;apply Pn.out));refine wk (tw @a8 (tw @ag0 (tw @a1 (tw @a6 (tw @a7 (tw @hk (tw @eh (tw @h0 (tw @aa.eq_1 @ae.eq_1))))))))) ?_;(repeat(refine Pn.mk ?_;intro N hN)))|((try apply Or.inl);refine⟨_,aj.x (hp) (sd (tw @a8 (tw @ag0 (tw @a1 (tw @a6 (tw @a7 (tw @hk (tw @eh (tw @h0 (tw @aa.eq_1 @ae.eq_1)))))))))),?_⟩;refine hN _ _ ?_;clear hN N)|((try apply Or.inl);refine⟨_,aj.x (ht) (sd (tw @a8 (tw @ag0 (tw @a1 (tw @a6 (tw @a7 (tw @hk (tw @eh (tw @h0 (tw @aa.eq_1 @ae.eq_1)))))))))),?_⟩;refine hN _ _ ?_;clear hN N)))
   refine dd ?_ ?_ (⟨b1,b2,fun h=>by omega⟩)
   all_goals simp only[go_sem, ↓reduceIte,Nat.reduceEqDiff,Nat.reduceAdd,Nat.reduceSub,Nat.reduceLeDiff,reduceCtorEq,a8,ag0,a1,a6,a7]
 ·(try((repeat(revert hN;revert N;apply Pn.out));refine wk (tw @a8 (tw @ag0 (tw @a1 (tw @a6 (tw @a7 @hk))))) ?_;(repeat(refine Pn.mk ?_;intro N hN))))
  refine aM (b:=decide ((l.length:Int)<=500)) (.inl rfl) (sd @Nat.zero_add) ?_
  by_cases h5:(l.length:Int)<=500
  ·rw[decide_eq_true h5];exact yd ⟨by omega,fun i hi=>mi i (by omega)⟩
  ·rw[decide_eq_false h5];exact j7 fun h=>by have:=h.lL;omega
theorem xW (cells:List ab) (p:au) (hR:iM cells) (CA:cells.length<=1048576):
  aj Tryz.prog 163 [.sl (cells.map aa),.agg (ae p),.fn 164 []] (.gy [.int .i64 (jy cells p),.bool (decide (jy cells p<cells.length)&&decide ((aD cells (jy cells p)).aC=p))]):=by
 refine aj.body eH rfl fun hl n0=>?_
 clear hl
 (try((repeat(revert hN;revert N;apply Pn.out));refine wk @ae.eq_1 ?_;(repeat(refine Pn.mk ?_;intro N hN))))
 refine aZ (fun n env st=>∃i j:Nat,n=j-i/\i<=j/\j<=cells.length/\(∀x,x<i->iI (aD cells x).aC p=true)/\(∀x,j<=x->x<cells.length->iI (aD cells x).aC p=false)/\env 9=.int .i64 i/\env 10=.int .i64 j/\st.get ⟨163000000,n0⟩=some ⟨true,2,[ae p]⟩) cells.length ⟨0,cells.length,by omega,by omega,by omega,fun x h=>by omega,fun x h1 h2=>by omega,by(simp only[go_sem, ↓reduceIte,Nat.reduceEqDiff,Nat.reduceAdd,Nat.reduceSub,Nat.reduceLeDiff,reduceCtorEq])<;>rfl,sd @Nat.zero_add,sd @ae.eq_1⟩ ?_
 rintro n env st ⟨i,j,rfl,zF,hj,jZ,zC,h9,uu,hg⟩ fr
 have h0:=fr 0 (by kernel_rfl)
 have h2:=fr 2 (by kernel_rfl)
 have h4:=fr 4 (by kernel_rfl)
 have h8:=fr 8 (by kernel_rfl)
 simp only[go_sem, ↓reduceIte,Nat.reduceEqDiff,Nat.reduceAdd,Nat.reduceSub,Nat.reduceLeDiff,reduceCtorEq]at h0 h2 h4 h8
 clear fr
 by_cases dJ:(i:Int)<(j:Int)
 ·have e1:IntKind.i64.wrap ((i:Int)+j)=((i+j:Nat):Int):=by rw[bU (by omega)];rfl
  have hm:(i+j) / 2<cells.length:=by omega
  have fW:(cells.map aa)[(i+j) / 2]? =some (aa (aD cells ((i+j) / 2))):=fa (l:=cells) hm
  have e2:IntKind.i64.wrap ((IntKind.u64.wrap ((i+j:Nat):Int)).fdiv (2 ^ min 1 IntKind.u64.bits))=(((i+j) / 2:Nat):Int):=by
   have h:IntKind.u64.wrap ((i+j:Nat):Int)=((i+j:Nat):Int):=by rw[IntKind.wrap_u64];omega
   rw[h,show min 1 IntKind.u64.bits=1 from rfl,show((2:Int) ^ 1)=2 from rfl,Int.fdiv_eq_ediv_of_nonneg _ (by omega)]
   rw[bU (by omega)];omega
  have Ih:IntKind.i64.wrap ((IntKind.u64.wrap ((i+j:Nat):Int)).fdiv (2 ^ min 1 64))=(((i+j) / 2:Nat):Int):=e2
  have e3:=az (k:=(i+j) / 2) (by omega)
  by_cases hc:pR (aD cells ((i+j) / 2)).aC p<0
  ·have hl:iI (aD cells ((i+j) / 2)).aC p=true:=by rw[<-pj];simpa using hc
   (repeat(first|((repeat(revert hN;revert N;apply Pn.out));refine wk (tw @h0 (tw @h2 (tw @h4 (tw @h8 (tw @h9 (tw @uu (tw @hg (tw @dJ (tw @e1 (tw @e2 (tw @Ih (tw @fW (tw @hc (tw @aa.eq_1 @ae.eq_1)))))))))))))) ?_;(repeat(refine Pn.mk ?_;intro N hN)))|((try apply Or.inl);refine⟨_,aj.x (kj (aD cells ((i+j) / 2)) p) (sd (tw @h0 (tw @h2 (tw @h4 (tw @h8 (tw @h9 (tw @uu (tw @hg (tw @dJ (tw @e1 (tw @e2 (tw @Ih (tw @fW (tw @hc (tw @aa.eq_1 @ae.eq_1))))))))))))))),?_⟩;refine hN _ _ ?_;clear hN N)))
   refine⟨_,?_,(i+j) / 2+1,j,rfl,by omega,hj,fun x hx=>?_,zC,sd @e3,sd @uu,sd (tw @hg @ae.eq_1)⟩
   ·omega
   ·by_cases Jb:x=(i+j) / 2
    ·subst Jb;exact hl
    ·exact il (hR x _ (by omega) hm) hl
  ·have hl:iI (aD cells ((i+j) / 2)).aC p=false:=by rw[<-pj];simpa using hc
   (repeat(first|((repeat(revert hN;revert N;apply Pn.out));refine wk (tw @h0 (tw @h2 (tw @h4 (tw @h8 (tw @h9 (tw @uu (tw @hg (tw @dJ (tw @e1 (tw @e2 (tw @Ih (tw @fW (tw @hc (tw @aa.eq_1 @ae.eq_1)))))))))))))) ?_;(repeat(refine Pn.mk ?_;intro N hN)))|((try apply Or.inl);refine⟨_,aj.x (kj (aD cells ((i+j) / 2)) p) (sd (tw @h0 (tw @h2 (tw @h4 (tw @h8 (tw @h9 (tw @uu (tw @hg (tw @dJ (tw @e1 (tw @e2 (tw @Ih (tw @fW (tw @hc (tw @aa.eq_1 @ae.eq_1))))))))))))))),?_⟩;refine hN _ _ ?_;clear hN N)))
   refine⟨_,?_,i,(i+j) / 2,rfl,by omega,by omega,jZ,fun x h1 h2=>?_,sd @h9,sd (tw @e2 @Ih),sd (tw @hg @ae.eq_1)⟩
   ·omega
   ·by_cases Jb:x=(i+j) / 2
    ·subst Jb;exact hl
    ·rw[Bool.eq_false_iff]
     intro hc
     have h3:=il (hR ((i+j) / 2) x (by omega) h2) hc
     rw[hl]at h3;cases h3
 ·have IM:i=j:=by omega
  subst IM
  have vQ:jy cells p=i:=uE hj jZ fun h=>zC i (Nat.le_refl _) h
  by_cases hn:(i:Int)<(cells.length:Int)
  ·have fc:i<cells.length:=by omega
   have fW:(cells.map aa)[i]? =some (aa (aD cells i)):=fa (l:=cells) fc
   have hd:decide (pR (aD cells i).aC p=0)=decide ((aD cells i).aC=p):=by simp only[x7]
   (repeat(first|((repeat(revert hN;revert N;apply Pn.out));refine wk (tw @h0 (tw @h2 (tw @h4 (tw @h8 (tw @h9 (tw @uu (tw @hg (tw @dJ (tw @hn (tw @fW (tw @aa.eq_1 @ae.eq_1))))))))))) ?_;(repeat(refine Pn.mk ?_;intro N hN)))|((try apply Or.inl);refine⟨_,aj.x (kj (aD cells i) p) (sd (tw @h0 (tw @h2 (tw @h4 (tw @h8 (tw @h9 (tw @uu (tw @hg (tw @dJ (tw @hn (tw @fW (tw @aa.eq_1 @ae.eq_1)))))))))))),?_⟩;refine hN _ _ ?_;clear hN N)))
   refine iW (.inl rfl) (r1:=.int .i64 i) (r2:=.bool (decide ((aD cells i).aC=p))) ?_ ?_ ?_
   ·simp only[go_sem, ↓reduceIte,Nat.reduceEqDiff,Nat.reduceAdd,Nat.reduceSub,Nat.reduceLeDiff,reduceCtorEq]
   ·simp only[go_sem, ↓reduceIte,Nat.reduceEqDiff,Nat.reduceAdd,Nat.reduceSub,Nat.reduceLeDiff,reduceCtorEq,hd]
   ·simp only[dt,aS,bd,dr,eM,Option.map_some,vQ,fc,decide_true,Bool.true_and]
  ·have fc:¬i<cells.length:=by omega
   (try((repeat(revert hN;revert N;apply Pn.out));refine wk (tw @h0 (tw @h2 (tw @h4 (tw @h8 (tw @h9 (tw @uu (tw @hg (tw @dJ (tw @hn (tw @aa.eq_1 @ae.eq_1)))))))))) ?_;(repeat(refine Pn.mk ?_;intro N hN))))
   refine iW (.inl rfl) (r1:=.int .i64 i) (r2:=.bool false) ?_ ?_ ?_
   ·simp only[go_sem, ↓reduceIte,Nat.reduceEqDiff,Nat.reduceAdd,Nat.reduceSub,Nat.reduceLeDiff,reduceCtorEq]
   ·simp only[go_sem, ↓reduceIte,Nat.reduceEqDiff,Nat.reduceAdd,Nat.reduceSub,Nat.reduceLeDiff,reduceCtorEq]
   ·simp only[dt,aS,bd,dr,eM,Option.map_some,vQ,fc,decide_false,Bool.false_and]
theorem GV (l:List ab) (p:au) (hR:iM l) (CA:l.length<=1048576):aj Tryz.prog 303 [.agg [.sl (l.map aa)],.agg (ae p)] (.int .i64 (dm l p)):=by
 refine aj.body eH rfl fun hl n0=>?_
 clear hl
 rw[uF hR]
 have hb:=xW l p hR CA
 rw[ae]at hb
 cases hf:(decide (jy l p<l.length)&&decide ((aD l (jy l p)).aC=p))
 ·rw[hf]at hb
  (repeat(first|((repeat(revert hN;revert N;apply Pn.out));refine wk @ae.eq_1 ?_;(repeat(refine Pn.mk ?_;intro N hN)))|((try apply Or.inl);refine⟨_,aj.x (hb) (sd @ae.eq_1),?_⟩;refine hN _ _ ?_;clear hN N)))
  exact bQ (b:=-1) (.inl rfl) (sd @Nat.zero_add) (by rw[if_neg];intro h;simp[h.1,h.2]at hf)
 ·rw[hf]at hb
  (repeat(first|((repeat(revert hN;revert N;apply Pn.out));refine wk @ae.eq_1 ?_;(repeat(refine Pn.mk ?_;intro N hN)))|((try apply Or.inl);refine⟨_,aj.x (hb) (sd @ae.eq_1),?_⟩;refine hN _ _ ?_;clear hN N)))
  exact bQ (b:=(jy l p:Int)) (.inl rfl) (sd @Nat.zero_add) (by rw[if_pos];simpa using hf)
theorem Qu (l:List ab) (p:au) (hR:iM l) (CA:l.length<=1048576):aj Tryz.prog 244 [.agg [.sl (l.map aa)],.agg (ae p)] (.int .i64 (fK l p)):=by
 refine aj.body eH rfl fun hl n0=>?_
 clear hl
 have hi:=uF (l:=l) (p:=p) hR
 have hb:=xW l p hR CA
 rw[ae]at hb
 cases hf:(decide (jy l p<l.length)&&decide ((aD l (jy l p)).aC=p))
 ·rw[hf]at hb
  (repeat(first|((repeat(revert hN;revert N;apply Pn.out));refine wk @ae.eq_1 ?_;(repeat(refine Pn.mk ?_;intro N hN)))|((try apply Or.inl);refine⟨_,aj.x (hb) (sd @ae.eq_1),?_⟩;refine hN _ _ ?_;clear hN N)))
  exact bQ (b:=-1) (.inl rfl) (sd @Nat.zero_add) (by
   have hx:dm l p= -1:=by rw[hi,if_neg (by intro h;simp[h.1,h.2]at hf)]
   rw[fK,hx];rfl)
 ·rw[hf]at hb
  have hc:jy l p<l.length/\(aD l (jy l p)).aC=p:=by simpa using hf
  have hg:=fa hc.1
  (repeat(first|((repeat(revert hN;revert N;apply Pn.out));refine wk (tw @ae.eq_1 (tw @hg @aa.eq_1)) ?_;(repeat(refine Pn.mk ?_;intro N hN)))|((try apply Or.inl);refine⟨_,aj.x (hb) (sd (tw @ae.eq_1 (tw @hg @aa.eq_1))),?_⟩;refine hN _ _ ?_;clear hN N)))
  exact bQ (b:=(aD l (jy l p)).aQ) (.inl rfl) (sd @Nat.zero_add) (by
   have hx:dm l p=(jy l p:Int):=by rw[hi,if_pos hc]
   rw[fK,hx,if_pos (by omega),Int.toNat_natCast])
theorem kV (l:List ab) (p:au) (hR:iM l) (CA:l.length<=1048576):aj Tryz.prog 173 [.cR [.sl (l.map aa)],.agg (ae p)] (.int .i64 (dm l p)):=by
 refine aj.body eH rfl fun hl n0=>?_
 clear hl
 rw[uF hR]
 (try((repeat(revert hN;revert N;apply Pn.out));refine wk @ae.eq_1 ?_;(repeat(refine Pn.mk ?_;intro N hN))))
 refine aZ (fun n env st=>∃i j:Nat,n=j-i/\i<=j/\j<=l.length/\(∀x,x<i->iI (aD l x).aC p=true)/\(∀x,j<=x->x<l.length->iI (aD l x).aC p=false)/\env 5=.int .i64 i/\env 6=.int .i64 j/\st.get ⟨173000000,n0⟩=some ⟨true,2,[ae p]⟩) l.length ⟨0,l.length,by omega,by omega,by omega,fun x h=>by omega,fun x h1 h2=>by omega,by(simp only[go_sem, ↓reduceIte,Nat.reduceEqDiff,Nat.reduceAdd,Nat.reduceSub,Nat.reduceLeDiff,reduceCtorEq])<;>rfl,sd @Nat.zero_add,sd @ae.eq_1⟩ ?_
 rintro n env st ⟨i,j,rfl,zF,hj,jZ,zC,h5,h6,hg⟩ fr
 have h0:=fr 0 (by kernel_rfl)
 have h3:=fr 3 (by kernel_rfl)
 simp only[go_sem, ↓reduceIte,Nat.reduceEqDiff,Nat.reduceAdd,Nat.reduceSub,Nat.reduceLeDiff,reduceCtorEq]at h0 h3
 clear fr
 by_cases dJ:(i:Int)<(j:Int)
 ·have e1:IntKind.i64.wrap ((i:Int)+j)=((i+j:Nat):Int):=by rw[bU (by omega)];rfl
  have hm:(i+j) / 2<l.length:=by omega
  have fW:=fa hm
  have e2:IntKind.i64.wrap (((i+j:Nat):Int).tdiv 2)=(((i+j) / 2:Nat):Int):=by
   rw[Int.tdiv_eq_ediv_of_nonneg (by omega),bU (by omega)];omega
  have e3:=az (k:=(i+j) / 2) (by omega)
  have hq:=lH (aD l ((i+j) / 2)).aC p
  cases hl:iI (aD l ((i+j) / 2)).aC p
  ·rw[hl]at hq
   (repeat(first|((repeat(revert hN;revert N;apply Pn.out));refine wk (tw @h0 (tw @h3 (tw @h5 (tw @h6 (tw @hg (tw @dJ (tw @e1 (tw @e2 (tw @fW (tw @aa.eq_1 @ae.eq_1)))))))))) ?_;(repeat(refine Pn.mk ?_;intro N hN)))|((try apply Or.inl);refine⟨_,aj.x (hq) (sd (tw @h0 (tw @h3 (tw @h5 (tw @h6 (tw @hg (tw @dJ (tw @e1 (tw @e2 (tw @fW (tw @aa.eq_1 @ae.eq_1))))))))))),?_⟩;refine hN _ _ ?_;clear hN N)))
   refine⟨_,?_,i,(i+j) / 2,rfl,by omega,by omega,jZ,fun x h1 h2=>?_,sd @h5,sd @e2,sd (tw @hg @ae.eq_1)⟩
   ·omega
   ·by_cases Jb:x=(i+j) / 2
    ·subst Jb;exact hl
    ·rw[Bool.eq_false_iff]
     intro hc
     have h3:=il (hR ((i+j) / 2) x (by omega) h2) hc
     rw[hl]at h3;cases h3
  ·rw[hl]at hq
   (repeat(first|((repeat(revert hN;revert N;apply Pn.out));refine wk (tw @h0 (tw @h3 (tw @h5 (tw @h6 (tw @hg (tw @dJ (tw @e1 (tw @e2 (tw @fW (tw @aa.eq_1 @ae.eq_1)))))))))) ?_;(repeat(refine Pn.mk ?_;intro N hN)))|((try apply Or.inl);refine⟨_,aj.x (hq) (sd (tw @h0 (tw @h3 (tw @h5 (tw @h6 (tw @hg (tw @dJ (tw @e1 (tw @e2 (tw @fW (tw @aa.eq_1 @ae.eq_1))))))))))),?_⟩;refine hN _ _ ?_;clear hN N)))
   refine⟨_,?_,(i+j) / 2+1,j,rfl,by omega,hj,fun x hx=>?_,zC,sd @e3,sd @h6,sd (tw @hg @ae.eq_1)⟩
   ·omega
   ·by_cases Jb:x=(i+j) / 2
    ·subst Jb;exact hl
    ·exact il (hR x _ (by omega) hm) hl
 ·have IM:i=j:=by omega
  subst IM
  have vQ:jy l p=i:=uE hj jZ fun h=>zC i (Nat.le_refl _) h
  by_cases hn:(i:Int)<(l.length:Int)
  ·have fc:i<l.length:=by omega
   have fW:=fa fc
   by_cases hp:(aD l i).aC=p
   ·have hx:decide ((aD l i).aC.eT=p.eT)=true:=decide_eq_true (by rw[hp])
    have hy:decide ((aD l i).aC.eO=p.eO)=true:=decide_eq_true (by rw[hp])
    (try((repeat(revert hN;revert N;apply Pn.out));refine wk (tw @h0 (tw @h3 (tw @h5 (tw @h6 (tw @hg (tw @dJ (tw @hn (tw @fW (tw @hx (tw @hy (tw @aa.eq_1 @ae.eq_1))))))))))) ?_;(repeat(refine Pn.mk ?_;intro N hN))))
    exact bQ (b:=(i:Int)) (.inl rfl) (sd @Nat.zero_add) (by rw[vQ,if_pos ⟨fc,hp⟩])
   ·by_cases hx:(aD l i).aC.eT=p.eT
    ·have tJ:decide ((aD l i).aC.eT=p.eT)=true:=decide_eq_true hx
     have hy':decide ((aD l i).aC.eO=p.eO)=false:=decide_eq_false fun h=>hp (D8 hx h)
     (try((repeat(revert hN;revert N;apply Pn.out));refine wk (tw @h0 (tw @h3 (tw @h5 (tw @h6 (tw @hg (tw @dJ (tw @hn (tw @fW (tw @tJ (tw @hy' (tw @aa.eq_1 @ae.eq_1))))))))))) ?_;(repeat(refine Pn.mk ?_;intro N hN))))
     exact bQ (b:=-1) (.inl rfl) (sd @Nat.zero_add) (by rw[vQ,if_neg fun h=>hp h.2])
    ·have tJ:decide ((aD l i).aC.eT=p.eT)=false:=decide_eq_false hx
     (try((repeat(revert hN;revert N;apply Pn.out));refine wk (tw @h0 (tw @h3 (tw @h5 (tw @h6 (tw @hg (tw @dJ (tw @hn (tw @fW (tw @tJ (tw @Bool.false_and (tw @aa.eq_1 @ae.eq_1))))))))))) ?_;(repeat(refine Pn.mk ?_;intro N hN))))
     exact bQ (b:=-1) (.inl rfl) (sd @Nat.zero_add) (by rw[vQ,if_neg fun h=>hp h.2])
  ·have fc:¬i<l.length:=by omega
   (try((repeat(revert hN;revert N;apply Pn.out));refine wk (tw @h0 (tw @h3 (tw @h5 (tw @h6 (tw @hg (tw @dJ (tw @hn (tw @aa.eq_1 @ae.eq_1)))))))) ?_;(repeat(refine Pn.mk ?_;intro N hN))))
   exact bQ (b:=-1) (.inl rfl) (sd @Nat.zero_add) (by rw[vQ,if_neg fun h=>fc h.1])
theorem zM (l:List ab) (p:au) (hR:iM l) (CA:l.length<=1048576):aj Tryz.prog 216 [.cR [.sl (l.map aa)],.agg (ae p)] (.int .i64 (fK l p)):=by
 refine aj.body eH rfl fun hl n0=>?_
 clear hl
 have hb:=kV l p hR CA
 by_cases hi:dm l p<0
 ·rw[ae]at hb
  (repeat(first|((repeat(revert hN;revert N;apply Pn.out));refine wk (tw @ae.eq_1 @hi) ?_;(repeat(refine Pn.mk ?_;intro N hN)))|((try apply Or.inl);refine⟨_,aj.x (hb) (sd (tw @ae.eq_1 @hi)),?_⟩;refine hN _ _ ?_;clear hN N)))
  exact bQ (b:=-1) (.inl rfl) (sd @Nat.zero_add) (by rw[fK,if_neg (by omega)])
 ·have h0:0<=dm l p:=by omega
  have hg:=fa (gj h0).1
  rw[ae]at hb
  (repeat(first|((repeat(revert hN;revert N;apply Pn.out));refine wk (tw @ae.eq_1 (tw @hi (tw @h0 (tw @hg @aa.eq_1)))) ?_;(repeat(refine Pn.mk ?_;intro N hN)))|((try apply Or.inl);refine⟨_,aj.x (hb) (sd (tw @ae.eq_1 (tw @hi (tw @h0 (tw @hg @aa.eq_1))))),?_⟩;refine hN _ _ ?_;clear hN N)))
  exact bQ (b:=(aD l (dm l p).toNat).aQ) (.inl rfl) (sd @Nat.zero_add) (by rw[fK,if_pos h0])
def gL (s:ay) (l:List ab):Prop:=jI l/\∀t∈l,eP s t.aQ=true
noncomputable def kD (s:ay) (l:List ab):Bool:=oE l&&l.all fun t=>eP s t.aQ
theorem fZ {s:ay} {l:List ab}:kD s l=true↔gL s l:=by simp[kD,gL,sG]
theorem qp:Qn aa (fun c=>.agg (aa c)) 3 true:=⟨fun _=>rfl,fun _=>rfl,fun x g=>by simp only[aa,ah,aq,bc,aF,Option.map_some]⟩
theorem GP (s:ay) (t:ab) (hs:s.ai.length<=1048576):aj Tryz.prog 202 [.agg (aa t),.cR (ad s)] (.bool (!eP s t.aQ)):=by
 refine aj.body eH rfl fun hl n0=>?_
 clear hl
 have h:=Jg s t.aQ
 rw[ad]at h
 (repeat(first|((repeat(revert hN;revert N;apply Pn.out));refine wk (tw @aa.eq_1 @ad.eq_1) ?_;(repeat(refine Pn.mk ?_;intro N hN)))|((try apply Or.inl);refine⟨_,aj.x (h) (sd (tw @aa.eq_1 @ad.eq_1)),?_⟩;refine hN _ _ ?_;clear hN N)))
 exact aM (b:= !eP s t.aQ) (.inl rfl) (sd @Nat.zero_add) rfl
theorem Mr (s:ay) (l:List ab) (hs:s.ai.length<=1048576) (hl:l.length<=1048576):aj Tryz.prog 201 [.sl (l.map aa),.fn 202 [.cR (ad s)]] (.bool (l.any fun t=> !eP s t.aQ)):=
 kQ qp (show mU Tryz.prog 201=some (zB 201 247) by kernel_rfl)
  (show mU Tryz.prog 247=some (qE 247 3 true) by kernel_rfl) l hl _ _ _ rfl (fun g=>by rw[ah,aN,aq];rfl) (fun x _=>GP s x hs) fun g=>by rw[ah,aN,aq];rfl
theorem EM {α:Type} (p:α->Bool) (l:List α):(!l.any fun t=> !p t)=l.all p:=by
 induction l with
 |nil=>rfl
 |cons x l ih=>simp only[List.any_cons,List.all_cons,<-ih];cases p x<;>simp
theorem nD (s:ay) (l:List ab) (hn:gz s) (hg:s.aE.length<=1048576) (ht:s.ai.length<=1048576) (hs:∀t∈s.ai,t.cu.length<=1048576) (hl:l.length<=1048576):aj Tryz.prog 131 [.agg (ad s),.agg [.sl (l.map aa)]] (.bool (qO s&&kD s l)):=by
 refine aj.body eH rfl fun hl n0=>?_
 clear hl
 have h1:=CX s hn hg ht hs
 have h2:=sJ l
 have h3:=Mr s l ht hl
 rw[ad]at h1 h3
 cases b1:qO s
 ·rw[b1]at h1
  (repeat(first|((repeat(revert hN;revert N;apply Pn.out));refine wk @ad.eq_1 ?_;(repeat(refine Pn.mk ?_;intro N hN)))|((try apply Or.inl);refine⟨_,aj.x (h1) (sd @ad.eq_1),?_⟩;refine hN _ _ ?_;clear hN N)))
  exact aM (b:=false) (.inl rfl) (sd @Nat.zero_add) rfl
 rw[b1]at h1
 cases b2:oE l
 ·rw[b2]at h2
  (repeat(first|((repeat(revert hN;revert N;apply Pn.out));refine wk @ad.eq_1 ?_;(repeat(refine Pn.mk ?_;intro N hN)))|((try apply Or.inl);refine⟨_,aj.x (h1) (sd @ad.eq_1),?_⟩;refine hN _ _ ?_;clear hN N)|((try apply Or.inl);refine⟨_,aj.x (h2) (sd @ad.eq_1),?_⟩;refine hN _ _ ?_;clear hN N)))
  exact aM (b:=false) (.inl rfl) (sd @Nat.zero_add) (by rw[kD,b2];rfl)
 rw[b2]at h2
 (repeat(first|((repeat(revert hN;revert N;apply Pn.out));refine wk @ad.eq_1 ?_;(repeat(refine Pn.mk ?_;intro N hN)))|((try apply Or.inl);refine⟨_,aj.x (h1) (sd @ad.eq_1),?_⟩;refine hN _ _ ?_;clear hN N)|((try apply Or.inl);refine⟨_,aj.x (h2) (sd @ad.eq_1),?_⟩;refine hN _ _ ?_;clear hN N)|((try apply Or.inl);refine⟨_,aj.x (h3) (sd @ad.eq_1),?_⟩;refine hN _ _ ?_;clear hN N)))
 exact aM (b:= !(l.any fun t=> !eP s t.aQ)) (.inl rfl) (sd @Nat.zero_add) (by rw[EM,kD,b2];rfl)
theorem zN (s:ay) (l:List ab):aj Tryz.prog 146 [.cR (ad s),.cR [.sl (l.map aa)]] (.bool (kD s l)):=by
 refine aj.body eH rfl fun hl n0=>?_
 have hlen:l.length<=9223372036854775807:=by
  have h1:=(hl (.cR [.sl (l.map aa)]) (by simp)).BO (a:=.sl (l.map aa)) (by simp)
  simpa using h1.len
 clear hl
 have h2:=GD l
 cases b2:oE l
 ·rw[b2]at h2
  (repeat(first|((repeat(revert hN;revert N;apply Pn.out));refine wk @Nat.zero_add ?_;(repeat(refine Pn.mk ?_;intro N hN)))|((try apply Or.inl);refine⟨_,aj.x (h2) (sd @Nat.zero_add),?_⟩;refine hN _ _ ?_;clear hN N)))
  exact aM (b:=false) (.inl rfl) (sd @Nat.zero_add) (by rw[kD,b2];rfl)
 rw[b2]at h2
 (repeat(first|((repeat(revert hN;revert N;apply Pn.out));refine wk @Nat.zero_add ?_;(repeat(refine Pn.mk ?_;intro N hN)))|((try apply Or.inl);refine⟨_,aj.x (h2) (sd @Nat.zero_add),?_⟩;refine hN _ _ ?_;clear hN N)))
 refine aZ (fun n env st=>∃k:Nat,n=(l.length)-k/\k<=(l.length)/\env 5=.int .i64 (k:Int)/\(∀j:Nat,j<k->eP s (aD l j).aQ=true)) (l.length) ⟨0,by omega,by omega,sl @Nat.zero_add,fun _ h=>absurd h (Nat.not_lt_zero _)⟩ ?_
 rintro n_a env_a st_a ⟨k,rfl,ale,a5,mi⟩ ez
 have a0:=ez 0 (by kernel_rfl);have a1:=ez 1 (by kernel_rfl)
 simp only[go_sem, ↓reduceIte,Nat.reduceEqDiff,Nat.reduceAdd,Nat.reduceSub,Nat.reduceLeDiff,reduceCtorEq]at a0 a1
 clear ez
 by_cases hk:(k:Int)<(l.length:Int)
 ·have dd:∀{e:Env},(e 5=.int .i64 (IntKind.i64.wrap ((k:Int)+1)))->(eP s (aD l k).aQ=true)->∃m0,m0<(l.length)-k/\∃k:Nat,m0=(l.length)-k/\k<=(l.length)/\e 5=.int .i64 (k:Int)/\(∀j:Nat,j<k->eP s (aD l j).aQ=true):=fun x1 x2=>⟨_,by omega,k+1,rfl,by omega,(by rw[x1,az (by omega)]),(all_succ mi x2)⟩
  have fm:k<l.length:=by omega
  have eh:=fa fm
  have ht:=wg s (aD l k).aQ
  cases b3:eP s (aD l k).aQ
  ·rw[b3]at ht
   (repeat(first|((repeat(revert hN;revert N;apply Pn.out));refine wk (tw @a5 (tw @a0 (tw @a1 (tw @hk (tw @eh @aa.eq_1))))) ?_;(repeat(refine Pn.mk ?_;intro N hN)))|((try apply Or.inl);refine⟨_,aj.x (ht) (sd (tw @a5 (tw @a0 (tw @a1 (tw @hk (tw @eh @aa.eq_1)))))),?_⟩;refine hN _ _ ?_;clear hN N)))
   exact aM (b:=false) (.inl rfl) (sd @Nat.zero_add) (by
    have:l.all (fun t=>eP s t.aQ)=false:=List.all_eq_false.2 ⟨_,fj fm,by rw[b3];simp⟩
    rw[kD,this,Bool.and_false])
  ·rw[b3]at ht
   (repeat(first|((repeat(revert hN;revert N;apply Pn.out));refine wk (tw @a5 (tw @a0 (tw @a1 (tw @hk (tw @eh @aa.eq_1))))) ?_;(repeat(refine Pn.mk ?_;intro N hN)))|((try apply Or.inl);refine⟨_,aj.x (ht) (sd (tw @a5 (tw @a0 (tw @a1 (tw @hk (tw @eh @aa.eq_1)))))),?_⟩;refine hN _ _ ?_;clear hN N)))
   exact dd (sd (tw @a5 (tw @a0 @a1))) (b3)
 ·(try((repeat(revert hN;revert N;apply Pn.out));refine wk (tw @a5 (tw @a0 (tw @a1 @hk))) ?_;(repeat(refine Pn.mk ?_;intro N hN))))
  exact aM (b:=true) (.inl rfl) (sd @Nat.zero_add) (by
   have:l.all (fun t=>eP s t.aQ)=true:=List.all_eq_true.2 fun t ht=>by
    obtain⟨j,hj,rfl⟩:=List.getElem_of_mem ht
    have:=mi j (by omega)
    rwa [ei hj]at this
   rw[kD,b2,this];rfl)
theorem xH (l:List ab) (hF:jI l) (i:Nat) (d:Int) (hi:i<l.length) (hd:jb d 0 3=true):aj Tryz.prog 189 [.cR [.sl (l.map aa)],.int .i64 i,.int .i64 d] (.int .i64 (dm l (dy (aD l i).aC d))):=by
 refine aj.body eH rfl fun hl n0=>?_
 clear hl
 have hg:=fa hi
 have hp:=s6 (hF.pt hi)
 have h1:=yD (aD l i).aC d hd hp.1 hp.2
 have h2:=kV l (dy (aD l i).aC d) hF.uh (by have:=hF.lL;omega)
 rw[ae]at h1 h2
 (repeat(first|((repeat(revert hN;revert N;apply Pn.out));refine wk (tw @aa.eq_1 (tw @hg @ae.eq_1)) ?_;(repeat(refine Pn.mk ?_;intro N hN)))|((try apply Or.inl);refine⟨_,aj.x (h1) (sd (tw @aa.eq_1 (tw @hg @ae.eq_1))),?_⟩;refine hN _ _ ?_;clear hN N)|((try apply Or.inl);refine⟨_,aj.x (h2) (sd (tw @aa.eq_1 (tw @hg @ae.eq_1))),?_⟩;refine hN _ _ ?_;clear hN N)))
 exact bQ (b:=dm l (dy (aD l i).aC d)) (.inl rfl) (sd @Nat.zero_add) rfl
end Go.Proofs.YtgoljkjaameagaaGreat.V

namespace Go.Proofs.YtgoljkjaameagaaGreat.V
open Go.RowKit
def isApp:gC->Bool
 | .append .. =>true
 |_=>false
variable {P:Program} {X:fN} {K:Env->aw->Prop} {env:Env} {σ:aw}
theorem Np {draw:Bool} {o:bh} {r:List bh} (_:isApp o.op=false) (h:∀N:AV->aw->Prop,(∀v s,wpOps X draw r K (upd env o.dst v) s->N v s)->if aH o.guard env then fq X draw o env σ N else N .undef σ):wpOps X draw (o::r) K env σ:=Pu h
end Go.Proofs.YtgoljkjaameagaaGreat.V

namespace Go.Proofs.YtgoljkjaameagaaGreat.V
open Go.RowKit
section
variable {α:Type} {enc:α->List AV} {sz:Nat} {g g':Rows} {a:AV} {xs:List α} {ids:List Id}
end
abbrev Hv (α:Type):=Rows->List AV->α->List Id->Prop
structure y7 {α:Type} (R:Hv α) (sz:Nat):Prop where
 frame:∀{g g':Rows} {cs x ids},R g cs x ids->(∀i∈ids,g' i=g i)->R g' cs x ids
 len:∀{g cs x ids},R g cs x ids->cs.length=sz
 cell:∀{g cs x ids},R g cs x ids->cs.all AV.cell=true
 live:∀{g cs x ids},R g cs x ids->∀i∈ids,∃r,g i=some r/\r.w=true/\r.sz<rS
 small:sz<rS
inductive eU {α:Type} (R:Hv α) (g:Rows):List (List AV)->List α->List Id->Prop
 |nil:eU R g [] [] []
 |cons {cs x i1 rs xs i2}:R g cs x i1->eU R g rs xs i2->eU R g (cs::rs) (x::xs) (i1++i2)
section
variable {α:Type} {R:Hv α} {sz:Nat} {g g':Rows} {rows r1 r2:List (List AV)} {xs x1 x2:List α} {ids i1 i2:List Id}
theorem eU.len (h:eU R g rows xs ids):rows.length=xs.length:=by
 induction h with
 |nil=>rfl
 |cons _ _ ih=>simp[ih]
theorem eU.frame (ok:y7 R sz) (h:eU R g rows xs ids) (hf:∀i∈ids,g' i=g i):eU R g' rows xs ids:=by
 induction h with
 |nil=>exact .nil
 |cons h1 _ ih=>exact .cons (ok.frame h1 fun i hi=>hf i (List.mem_append_left _ hi)) (ih fun i hi=>hf i (List.mem_append_right _ hi))
theorem eU.app (h1:eU R g r1 x1 i1) (h2:eU R g r2 x2 i2):eU R g (r1++r2) (x1++x2) (i1++i2):=by
 induction h1 with
 |nil=>exact h2
 |cons h _ ih=>rw[List.append_assoc];exact .cons h ih
theorem eU.one {cs:List AV} {x:α} (h:R g cs x ids):eU R g [cs] [x] ids:=by
 have:=eU.cons h eU.nil
 rwa [List.append_nil]at this
theorem eU.split (h:eU R g rows xs ids):∀k (hk:k<xs.length),∃r1 cs r2 i1 ic i2,rows=r1++cs::r2/\r1.length=k/\ids=i1++(ic++i2)/\eU R g r1 (xs.take k) i1/\R g cs xs[k] ic/\eU R g r2 (xs.drop (k+1)) i2:=by
 induction h with
 |nil=>intro k hk;simp at hk
 |cons h1 h2 ih=>
  rename_i cs x j1 rs xs j2
  intro k hk
  cases k with
  |zero=>exact⟨[],cs,rs,[],j1,j2,rfl,rfl,rfl,.nil,h1,h2⟩
  |succ k=>
   obtain⟨r1,pS,r2,i1,ic,i2,rfl,hl,rfl,h3,h4,h5⟩:=ih k (by simpa using hk)
   exact⟨cs::r1,pS,r2,j1++i1,ic,i2,rfl,by simp[hl],by rw[List.append_assoc],.cons h1 h3,h4,h5⟩
theorem eU.at_ (h:eU R g rows xs ids) (k:Nat) (hk:k<xs.length):∃cs ic,rows[k]? =some cs/\R g cs xs[k] ic/\∀i∈ic,i∈ids:=by
 obtain⟨r1,cs,r2,i1,ic,i2,rfl,hl,rfl,h3,h4,h5⟩:=h.split k hk
 refine⟨cs,ic,by rw[List.getElem?_append_right (by omega)];simp[hl],h4,fun i hi=>by simp[hi]⟩
theorem eU.fz {n:Nat} {e:α->List AV} (h:eU R g rows xs ids) (hz:∀{cs x ids},R g cs x ids->dc (dD g) n cs=some (e x)):ev (dD g) n rows=some (xs.map e):=by
 induction h with
 |nil=>rw[ev];rfl
 |cons h1 _ ih=>rw[ev,hz h1,ih];rfl
end
section
variable {α:Type} {R:Hv α} {sz:Nat} {g g':Rows} {a:AV} {xs:List α} {ids:List Id}
end
variable {P:Program} {X:fN} {K:Env->aw->Prop} {env:Env} {σ:aw}
def mZ {α:Type} (enc:α->List AV) (sz:Nat) (x:AV) (g:Rows) (S:Id->Prop) (L:List α):Prop:=∃o:Id,S o/\x=.own o 0 L.length/\g o=some ⟨true,sz,L.map enc⟩
section
variable {α:Type} {enc:α->List AV} {sz:Nat} {x:AV} {g g':Rows} {S:Id->Prop} {L L':List α}
theorem mZ.cast (h:mZ enc sz x g S L) (hL:L'=L):mZ enc sz x g S L':=by subst hL;exact h
theorem mZ.frame (h:mZ enc sz x g S L) (hg:∀o:Id,S o->g' o=g o):mZ enc sz x g' S L:=by
 obtain⟨o,h1,h2,h3⟩:=h
 exact⟨o,h1,h2,(hg o h1).trans h3⟩
theorem mZ.app (hz:∀a,(enc a).length=sz/\(enc a).all AV.cell=true) (h:mZ enc sz x g S L) (id:Id) (hid:S id) (M:List α) (hlen:L.length+M.length<=dp):
  ∃v g',aT g id sz x (M.map enc)=some (v,g')/\mZ enc sz v g' S (L++M)/\∀j:Id,¬S j->g' j=g j:=by
 obtain⟨o,h1,rfl,h4⟩:=h
 refine⟨.own id 0 (L.length+(M.map enc).length),br (bP g o) id ⟨true,sz,L.map enc++M.map enc⟩,?_,⟨id,hid,by simp,by simp[br]⟩,fun j hj=>?_⟩
 ·have ha:=all_map (l:=M) hz
  simp only[aT,h4,Option.bind_some]
  rw[if_pos ⟨trivial,trivial,by simp,by simpa using hlen,ha⟩]
 ·have e1:¬j=id:=fun h=>hj (h▸hid)
  have e2:¬j=o:=fun h=>hj (h▸h1)
  simp[br,bP,e1,e2]
theorem Ps {draw:Bool} {o:bh} {r:List bh} {x' y:O} {xv:AV} (M:List α) (ho:o.op=.append sz x' y) (hw:aH o.guard env=true) (hx:cX env x'=xv) (hO:mZ enc sz xv σ.get S L)
  (hy:bj σ.get (cX env y)=some (M.map enc)) (hz:∀a,(enc a).length=sz/\(enc a).all AV.cell=true) (hid:S ⟨o.site,σ.next⟩) (hlen:L.length+M.length<=dp)
  (next:∀v g',mZ enc sz v g' S (L++M)->(∀j:Id,¬S j->g' j=σ.get j)->wpOps X draw r K (upd env o.dst v) ⟨g',σ.next⟩):wpOps X draw (o::r) K env σ:=by
 obtain⟨v,g',h1,h2,h3⟩:=hO.app hz ⟨o.site,σ.next⟩ hid M hlen
 unfold wpOps
 rw[if_pos hw]
 unfold fq
 simp only[ho,fH,hy,hx,Option.bind_some,h1]
 exact next v g' h2 h3
theorem mZ.gD {n:Nat} (h:mZ enc sz x g S L) (he:∀a,eA g n (enc a)=some (enc a)):gD g (n+1) x=some (.sl (L.map enc)):=by
 obtain⟨o,_,rfl,h3⟩:=h
 exact eY h3 rfl he
end
theorem cZ {a b:Id} (h:a.bY<b.bY):(a=b)=False/\(b=a)=False:=by
 constructor<;>(simp only[eq_iff_iff,iff_false];rintro rfl;omega)
theorem Ah {o:Id} {a:Nat} (h:o.site=a) {b v:Nat} (po:(a==b)=false):(o=⟨b,v⟩)=False:=by
 simp only[eq_iff_iff,iff_false]
 rintro rfl
 simp only at h
 subst h
 simp at po
def eN (n:Nat):List AV:=[.int .i64 n]
theorem fzN (g:Rows) (n:Nat) (a:Nat):dc g (n+1) (eN a)=some (eN a):=by simp[eN,ah,aq,aF]
theorem NW (g:Rows) (n:Nat) (a:Nat):eA g (n+1) (eN a)=some (eN a):=by simp[eN,aS,bd,dr]
def PQ:Hv (List Nat):=fun g cs x ids=>∃id,cs=[.own id 0 x.length]/\g id=some ⟨true,1,x.map eN⟩/\ids=[id]
theorem LV:y7 PQ 1 where
 frame:=fun⟨id,h1,h2,h3⟩ hf=>by subst h3;exact⟨id,h1,(hf id (by simp)).trans h2,rfl⟩
 len:=fun⟨id,h1,_⟩=>by subst h1;rfl
 cell:=fun⟨id,h1,_⟩=>by subst h1;rfl
 live:=fun⟨id,h1,h2,h3⟩ i hi=>by
  subst h3
  have:i=id:=by simpa using hi
  subst this
  exact⟨_,h2,rfl,by simp[rS]⟩
 small:=by simp[rS]
def AG (l:List Nat):List AV:=[.sl (l.map eN)]
theorem Jr {g:Rows} {rows:List (List AV)} {xs:List (List Nat)} {ids:List Id} (n:Nat) (h:eU PQ g rows xs ids):iu g (n+2) rows=some (xs.map AG):=by
 induction h with
 |nil=>rw[iu];rfl
 |cons h1 _ ih=>
  obtain⟨id,rfl,h2,_⟩:=h1
  rw[iu,ih,aS,bd,eY (e:=eN) (sz:=1) h2 rfl fun a=>NW g n a];rfl
end Go.Proofs.YtgoljkjaameagaaGreat.V

namespace Go.Proofs.YtgoljkjaameagaaGreat.V
def bi (b:Bool):Int:=if b then 1 else 0
def me (f:Nat->Int):Nat->Int
 |0=>0
 |n+1=>me f n+f n
theorem gu {f g:Nat->Int}:∀{n:Nat},(∀i,i<n->f i=g i)->me f n=me g n
 |0,_=>rfl
 |n+1,h=>by
  simp only[me]
  rw[gu fun i hi=>h i (by omega),h n (by omega)]
theorem r6 {f g:Nat->Int}:∀{n:Nat},(∀i,i<n->f i<=g i)->me f n<=me g n
 |0,_=>Int.le_refl _
 |n+1,h=>by
  simp only[me]
  have:=r6 (n:=n) fun i hi=>h i (by omega)
  have:=h n (by omega)
  omega
theorem jX:∀{n:Nat} {f:Nat->Int},(∀i,i<n->f i=0)->me f n=0
 |0,_,_=>rfl
 |n+1,f,h=>by
  simp only[me]
  rw[jX fun i hi=>h i (by omega),h n (by omega)];rfl
theorem pN {f:Nat->Int} {a:Nat} {d:Int}:∀n,me (fun i=>f i+if i=a then d else 0) n=me f n+if a<n then d else 0
 |0=>by simp[me]
 |n+1=>by
  simp only[me]
  rw[pN n]
  by_cases h:n=a
  ·subst h;simp;omega
  ·rw[if_neg h]
   by_cases h2:a<n
   ·rw[if_pos h2,if_pos (by omega)];omega
   ·rw[if_neg h2,if_neg (by omega)];omega
def mB (n:Nat) (S:Nat->Bool) (f:Nat->Nat->Int):Int:=me (fun u=>me (fun v=>if S u&& !S v then f u v else 0) n) n
def bump (f:Nat->Nat->Int) (a b:Nat) (d:Int):Nat->Nat->Int:=fun u v=>f u v+if u=a/\v=b then d else 0
theorem pk {n:Nat} {S:Nat->Bool} {f:Nat->Nat->Int} {a b:Nat} {d:Int} (ha:a<n) (hb:b<n):mB n S (bump f a b d)=mB n S f+if S a&& !S b then d else 0:=by
 unfold mB
 have h1:∀u,u<n->me (fun v=>if S u&& !S v then bump f a b d u v else 0) n=me (fun v=>if S u&& !S v then f u v else 0) n+if u=a then(if S a&& !S b then d else 0)else 0:=by
  intro u hu
  by_cases h:u=a
  ·subst h
   have h2:∀v,v<n->(if S u&& !S v then bump f u b d u v else 0)=(fun v=>if S u&& !S v then f u v else 0) v+if v=b then(if S u&& !S b then d else 0)else 0:=by
    intro v hv
    unfold bump
    by_cases h3:v=b
    ·subst h3;simp only[and_self,if_true];split<;>omega
    ·simp only[h3,and_false,if_false];split<;>omega
   rw[gu h2,pN,if_pos hb,if_pos rfl]
  ·rw[if_neg h,Int.add_zero]
   refine gu fun v hv=>?_
   unfold bump
   simp[h]
 rw[gu h1,pN,if_pos ha]
theorem Lc {n:Nat} {S:Nat->Bool} {f c:Nat->Nat->Int} (h:∀u v,u<n->v<n->f u v<=c u v):mB n S f<=mB n S c:=
 r6 fun u hu=>r6 fun v hv=>by split;exact h u v hu hv;exact Int.le_refl _
theorem K9 {n:Nat} {S:Nat->Bool} {f c:Nat->Nat->Int} (h:∀u v,u<n->v<n->S u=true->S v=false->f u v=c u v):mB n S f=mB n S c:=
 gu fun u hu=>gu fun v hv=>by
  split
  ·rename_i hc
   simp only[Bool.and_eq_true,Bool.not_eq_true']at hc
   exact h u v hu hv hc.1 hc.2
  ·rfl
def kz (f:Nat->Nat->Int) (a b:Nat):Nat->Nat->Int:=bump (bump f a b 1) b a (-1)
theorem F1 {n:Nat} {S:Nat->Bool} {f:Nat->Nat->Int} {a b:Nat} (ha:a<n) (hb:b<n):mB n S (kz f a b)=mB n S f+bi (S a)-bi (S b):=by
 unfold kz
 rw[pk hb ha,pk ha hb]
 cases S a<;>cases S b<;>simp[bi]<;>omega
def mz (f:Nat->Nat->Int):List Nat->Nat->Nat->Int
 |a::b::r=>mz (kz f a b) (b::r)
 |_=>f
def qV (f c:Nat->Nat->Int):List Nat->Prop
 |a::b::r=>f a b<c a b/\qV f c (b::r)
 |_=>True
theorem AZ {n:Nat} {S:Nat->Bool}:∀(r:List Nat) (a:Nat) (f:Nat->Nat->Int),(∀x∈a::r,x<n)->mB n S (mz f (a::r))=mB n S f+bi (S a)-bi (S ((a::r).getLast (by simp)))
 |[],a,f,_=>by simp[mz]
 |b::r,a,f,h=>by
  rw[mz,AZ r b (kz f a b) fun x hx=>h x (List.mem_cons_of_mem _ hx),F1 (h a (by simp)) (h b (by simp)),List.getLast_cons_cons]
  generalize bi (S b)=q
  omega
theorem qV.less {f g c:Nat->Nat->Int}:∀{p:List Nat},qV f c p->(∀u,u∈p->∀v,g u v<=f u v)->qV g c p
 |[],_,_=>trivial
 |[_],_,_=>trivial
 |a::b::r,h,hl=>⟨Int.lt_of_le_of_lt (hl a (by simp) b) h.1,qV.less (p:=b::r) h.2 fun u hu=>hl u (List.mem_cons_of_mem _ hu)⟩
theorem EN {n:Nat} {c:Nat->Nat->Int}:∀(p:List Nat) (f:Nat->Nat->Int),p.Nodup->qV f c p->(∀u v,u<n->v<n->f u v<=c u v)->∀u v,u<n->v<n->mz f p u v<=c u v
 |[],f,_,_,h=>h
 |[_],f,_,_,h=>h
 |a::b::r,f,hn,hr,h=>by
  rw[mz]
  have po:a∉b::r:=(List.nodup_cons.1 hn).1
  refine EN (b::r) _ (List.nodup_cons.1 hn).2 (hr.2.less fun u hu v=>?_) fun u v hu hv=>?_
  ·unfold kz bump
   have:u≠a:=by rintro rfl;exact po hu
   simp only[this,false_and,if_false]
   split<;>omega
  ·have h0:=h u v hu hv
   have h1:=hr.1
   unfold kz bump
   by_cases e:u=a/\v=b
   ·obtain⟨rfl,rfl⟩:=e
    rw[if_pos ⟨rfl,rfl⟩];split<;>omega
   ·rw[if_neg e];split<;>omega
structure lG (n:Nat) (c f:Nat->Nat->Int) (x y:Nat) (val:Int):Prop where
 le:∀u v,u<n->v<n->f u v<=c u v
 cut:∀S:Nat->Bool,S x=true->S y=false->mB n S f=val
theorem lG.zero {n:Nat} {c:Nat->Nat->Int} {x y:Nat} (h:∀u v,u<n->v<n->0<=c u v):lG n c (fun _ _=>0) x y 0:=
 ⟨h,fun S _ _=>jX fun u hu=>jX fun v hv=>by split<;>rfl⟩
theorem lG.congr {n:Nat} {c f g:Nat->Nat->Int} {x y:Nat} {val:Int} (h:lG n c f x y val) (e:∀u v,u<n->v<n->g u v=f u v):lG n c g x y val:=
 ⟨fun u v hu hv=>by rw[e u v hu hv];exact h.le u v hu hv,fun S hx hy=>by
  rw[<-h.cut S hx hy]
  exact gu fun u hu=>gu fun v hv=>by rw[e u v hu hv]⟩
theorem lG.aug {n:Nat} {c f:Nat->Nat->Int} {x y:Nat} {val:Int} (h:lG n c f x y val) {r:List Nat} (hl:(x::r).getLast (by simp)=y) (hn:(x::r).Nodup) (hr:qV f c (x::r)) (hb:∀v∈x::r,v<n):lG n c (mz f (x::r)) x y (val+1):=
 ⟨EN _ _ hn hr h.le,fun S hx hy=>by rw[AZ r x f hb,hl,h.cut S hx hy,hx,hy];simp[bi]⟩
theorem lG.bound {n:Nat} {c f:Nat->Nat->Int} {x y:Nat} {val:Int} (h:lG n c f x y val) {S:Nat->Bool} (hx:S x=true) (hy:S y=false):val<=mB n S c:=by
 rw[<-h.cut S hx hy];exact Lc h.le
theorem lG.full {n:Nat} {c f:Nat->Nat->Int} {x y:Nat} {val:Int} (h:lG n c f x y val) {S:Nat->Bool} (hx:S x=true) (hy:S y=false) (hS:∀u v,u<n->v<n->S u=true->S v=false->¬f u v<c u v):val=mB n S c:=by
 rw[<-h.cut S hx hy]
 exact K9 fun u v hu hv h1 h2=>by have:=hS u v hu hv h1 h2;have:=h.le u v hu hv;omega
structure PB where
 a:Nat
 b:Nat
 s:Int
 deriving Inhabited
def cr (bs:List PB) (i:Nat):PB:=bs.getD i default
def jh (S:Nat->Bool) (bs:List PB):Int:=(bs.map fun b=>if S b.a=S b.b then 0 else b.s).sum
def nM (c:Nat->Nat->Int) (b:PB):Nat->Nat->Int:=bump (bump c b.a b.b b.s) b.b b.a b.s
def lf (bs:List PB):Nat->Nat->Int:=bs.foldl nM fun _ _=>0
theorem Eg (bs:List PB) (b:PB):lf (bs++[b])=nM (lf bs) b:=by simp[lf]
theorem Bf {n:Nat} {S:Nat->Bool}:∀(bs:List PB) (c:Nat->Nat->Int),(∀b∈bs,b.a<n/\b.b<n)->mB n S (bs.foldl nM c)=mB n S c+jh S bs
 |[],c,_=>by simp[jh]
 |b::bs,c,h=>by
  have hb:=h b (by simp)
  rw[List.foldl_cons,Bf bs _ fun x hx=>h x (List.mem_cons_of_mem _ hx)]
  unfold nM jh
  rw[pk hb.2 hb.1,pk hb.1 hb.2,List.map_cons,List.sum_cons]
  cases S b.a<;>cases S b.b<;>simp<;>omega
theorem Bg {n:Nat} {S:Nat->Bool} {bs:List PB} (h:∀b∈bs,b.a<n/\b.b<n):mB n S (lf bs)=jh S bs:=by
 rw[lf,Bf bs _ h]
 have:mB n S (fun _ _=>0)=0:=jX fun u hu=>jX fun v hv=>by split<;>rfl
 omega
theorem Ad:∀(bs:List PB) (c:Nat->Nat->Int),(∀b∈bs,0<=b.s)->(∀u v,0<=c u v)->∀u v,0<=bs.foldl nM c u v
 |[],c,_,h=>h
 |b::bs,c,hb,h=>by
  rw[List.foldl_cons]
  refine Ad bs _ (fun x hx=>hb x (List.mem_cons_of_mem _ hx)) fun u v=>?_
  have:=hb b (by simp);have:=h u v
  unfold nM bump
  split<;>split<;>omega
theorem room_le:∀(bs:List PB) (c:Nat->Nat->Int) (m:Int),(∀b∈bs,b.s<=4)->(∀u v,c u v<=m)->0<=m->∀u v,bs.foldl nM c u v<=m+8*bs.length
 |[],c,m,_,h,_=>fun u v=>by have:=h u v;simp;omega
 |b::bs,c,m,hb,h,h0=>fun u v=>by
  rw[List.foldl_cons]
  have:=room_le bs (nM c b) (m+8) (fun x hx=>hb x (List.mem_cons_of_mem _ hx)) (fun u v=>by
   have:=hb b (by simp);have:=h u v
   unfold nM bump
   split<;>split<;>omega) (by omega) u v
  simp only[List.length_cons];omega
def kM (n:Nat) (bs:List PB) (t:Int):Prop:=∀S:Nat->Bool,S 0=true->(∃y,y<n/\S y=false)->t<=jh S bs
def FZ (S:Nat->Bool) (bs:List PB) (f:Nat->Int):Int:=me (fun i=>f i*(bi (S (cr bs i).a)-bi (S (cr bs i).b))) bs.length
structure j5 (bs:List PB) (f:Nat->Int) (x y:Nat) (val:Int):Prop where
 le:∀i,i<bs.length->f i<=(cr bs i).s/\-(cr bs i).s<=f i
 cut:∀S:Nat->Bool,S x=true->S y=false->FZ S bs f=val
theorem vh (S:Nat->Bool):∀bs:List PB,jh S bs=me (fun i=>if S (cr bs i).a=S (cr bs i).b then 0 else(cr bs i).s) bs.length:=by
 intro bs
 have key:∀n,n<=bs.length->jh S (bs.take n)=me (fun i=>if S (cr bs i).a=S (cr bs i).b then 0 else(cr bs i).s) n:=by
  intro n
  induction n with
  |zero=>intro _;rfl
  |succ n ih=>
   intro h
   have e:cr bs n=bs[n]:=by simp[cr,List.getD_eq_getElem?_getD,List.getElem?_eq_getElem (show n<bs.length by omega)]
   rw[List.take_succ_eq_append_getElem (by omega),me,<-ih (by omega),e]
   unfold jh
   rw[List.map_append,List.sum_append]
   simp only[List.map_cons,List.map_nil,List.sum_cons,List.sum_nil,Int.add_zero]
 have:=key bs.length (Nat.le_refl _)
 rwa [List.take_length]at this
theorem j5.bound {bs:List PB} {f:Nat->Int} {x y:Nat} {val:Int} (h:j5 bs f x y val) {S:Nat->Bool} (hx:S x=true) (hy:S y=false):val<=jh S bs:=by
 rw[<-h.cut S hx hy,vh]
 refine r6 fun i hi=>?_
 have:=h.le i hi
 cases S (cr bs i).a<;>cases S (cr bs i).b<;>simp[bi]<;>omega
def fJ (bs:List PB) (f:Nat->Int) (i u:Nat):Int:=if (cr bs i).a=u then(cr bs i).s-f i else(cr bs i).s+f i
def bW (bs:List PB) (i u:Nat):Nat:=if (cr bs i).a=u then(cr bs i).b else(cr bs i).a
theorem j5.full {bs:List PB} {f:Nat->Int} {x y:Nat} {val:Int} (h:j5 bs f x y val) {S:Nat->Bool} (hx:S x=true) (hy:S y=false)
  (hS:∀i,i<bs.length->((cr bs i).a≠(cr bs i).b->(S (cr bs i).a=true->S (cr bs i).b=false->¬0<fJ bs f i (cr bs i).a)/\(S (cr bs i).b=true->S (cr bs i).a=false->¬0<fJ bs f i (cr bs i).b))):val=jh S bs:=by
 rw[<-h.cut S hx hy,vh]
 refine gu fun i hi=>?_
 have h1:=h.le i hi
 by_cases po:(cr bs i).a=(cr bs i).b
 ·rw[po];simp
 ·have h2:=hS i hi po
  unfold fJ at h2
  rw[if_pos rfl,if_neg po]at h2
  cases ha:S (cr bs i).a<;>cases hb:S (cr bs i).b<;>rw[ha,hb]at h2<;>simp[bi]at h2 ⊢ <;>omega
def tQ (bs:List PB) (f:Nat->Int) (i u:Nat):Nat->Int:=fun j=>f j+if j=i then(if (cr bs i).a=u then 1 else -1)else 0
theorem F0 {S:Nat->Bool} {bs:List PB} {f:Nat->Int} {i u:Nat} (hi:i<bs.length) (hu:(cr bs i).a=u∨(cr bs i).b=u):FZ S bs (tQ bs f i u)=FZ S bs f+bi (S u)-bi (S (bW bs i u)):=by
 unfold FZ tQ
 have e:∀j,j<bs.length->(f j+if j=i then(if (cr bs i).a=u then 1 else -1)else 0)*(bi (S (cr bs j).a)-bi (S (cr bs j).b))=(fun j=>f j*(bi (S (cr bs j).a)-bi (S (cr bs j).b))) j+if j=i then(if (cr bs i).a=u then 1 else -1)*(bi (S (cr bs i).a)-bi (S (cr bs i).b))else 0:=by
  intro j hj
  by_cases h:j=i
  ·subst h;simp only[if_true];rw[Int.add_mul]
  ·simp only[h,if_false];simp
 rw[gu e,pN,if_pos hi]
 unfold bW
 by_cases ha:(cr bs i).a=u
 ·rw[if_pos ha,if_pos ha,ha];omega
 ·rw[if_neg ha,if_neg ha]
  rcases hu with hu|hu
  ·exact absurd hu ha
  ·rw[hu];omega
theorem oR:∀(n:Nat) (l:List Nat),l.Nodup->(∀x∈l,x<n)->l.length<=n
 |0,l,_,h=>by
  cases l with
  |nil=>simp
  |cons x l=>exact absurd (h x (by simp)) (by omega)
 |n+1,l,hn,h=>by
  have h1:=oR n (l.erase n) (hn.erase _) fun x hx=>by
   have h2:=(hn.mem_erase_iff).1 hx
   have h3:=h x h2.2
   have h4:=h2.1
   omega
  rw[List.length_erase]at h1
  split at h1<;>omega
def eR (L:Nat->Nat) (b:PB):Nat->Nat:=fun k=>if L k=max (L b.a) (L b.b)then min (L b.a) (L b.b)else L k
def eB (bs:List PB):Nat->Nat:=bs.foldl eR id
theorem wh (bs:List PB) (b:PB):eB (bs++[b])=eR (eB bs) b:=by simp[eB]
structure jJ (L:Nat->Nat):Prop where
 le:∀k,L k<=k
 idem:∀k,L (L k)=L k
theorem jJ.step {L:Nat->Nat} (h:jJ L) (b:PB):jJ (eR L b):=by
 have ha:=h.idem b.a
 have hb:=h.idem b.b
 refine⟨fun k=>?_,fun k=>?_⟩
 ·have:=h.le k
  unfold eR
  split<;>omega
 ·have hk:=h.idem k
  have hm:L (min (L b.a) (L b.b))=min (L b.a) (L b.b):=by
   rcases Nat.le_total (L b.a) (L b.b)with h1|h1
   ·rw[Nat.min_eq_left h1,ha]
   ·rw[Nat.min_eq_right h1,hb]
  unfold eR
  by_cases h1:L k=max (L b.a) (L b.b)
  ·rw[if_pos h1,hm];split<;>rfl
  ·rw[if_neg h1,hk,if_neg h1]
theorem wi:∀(bs:List PB) (L:Nat->Nat),jJ L->jJ (bs.foldl eR L)
 |[],_,h=>h
 |b::bs,L,h=>wi bs _ (h.step b)
theorem tL (bs:List PB):jJ (eB bs):=wi bs id ⟨fun _=>Nat.le_refl _,fun _=>rfl⟩
def leads (n:Nat) (L:Nat->Nat):List Nat:=(List.range n).filter fun i=>L i==i
def members (n:Nat) (L:Nat->Nat) (i:Nat):List Nat:=(List.range n).filter fun k=>L k==i
def fB (n:Nat) (L:Nat->Nat):List (List Nat):=(leads n L).map (members n L)
def bV (L:Nat->Nat) (k:Nat):Nat:=(leads (L k) L).length
theorem gS (n:Nat) (L:Nat->Nat):leads (n+1) L=leads n L++if L n=n then[n]else[]:=by
 unfold leads
 rw[List.range_succ,List.filter_append]
 congr 1
 by_cases h:L n=n<;>simp[h]
theorem jz (n:Nat) (L:Nat->Nat) (i:Nat):members (n+1) L i=members n L i++if L n=i then[n]else[]:=by
 unfold members
 rw[List.range_succ,List.filter_append]
 congr 1
 by_cases h:L n=i<;>simp[h]
theorem nk {L:Nat->Nat} (h:jJ L) {n i:Nat} (hn:n<=i):members n L i=[]:=by
 unfold members
 rw[List.filter_eq_nil_iff]
 intro k hk
 have:=h.le k
 have:=List.mem_range.1 hk
 simp;omega
theorem tM (n:Nat) (L:Nat->Nat):(leads n L).Nodup:=List.nodup_range.filter _
theorem yH {n:Nat} {L:Nat->Nat} {i:Nat}:i∈leads n L↔i<n/\L i=i:=by simp[leads]
theorem lV {n:Nat} {L:Nat->Nat} {i k:Nat}:k∈members n L i↔k<n/\L k=i:=by simp[members]
theorem GK {L:Nat->Nat} {m n:Nat} (h:m<=n):∃r,leads n L=leads m L++r:=by
 obtain⟨d,rfl⟩:=Nat.le.dest h
 clear h
 induction d with
 |zero=>exact⟨[],by simp⟩
 |succ d ih=>
  obtain⟨r,hr⟩:=ih
  exact⟨r++if L (m+d)=m+d then[m+d]else[],by rw[<-Nat.add_assoc,gS,hr,List.append_assoc]⟩
theorem pA {L:Nat->Nat} (h:jJ L) {n k:Nat} (hk:k<n):(leads n L)[bV L k]? =some (L k):=by
 have h1:=h.le k
 obtain⟨r,hr⟩:=GK (L:=L) (show L k+1<=n by omega)
 rw[hr,gS,if_pos (h.idem k),List.append_assoc]
 unfold bV
 rw[List.getElem?_append_right (Nat.le_refl _),Nat.sub_self];rfl
theorem kc {L:Nat->Nat} (h:jJ L) {n k:Nat} (hk:k<n):bV L k<(leads n L).length:=(List.getElem?_eq_some_iff.1 (pA h hk)).1
theorem sV {L:Nat->Nat} (h:jJ L) {n k i:Nat} (hk:k<n) (hi:i<(leads n L).length):k∈members n L (leads n L)[i]↔bV L k=i:=by
 rw[lV]
 have h1:=pA h hk
 rw[List.getElem?_eq_getElem (kc h hk)]at h1
 injection h1 with h1
 constructor
 ·rintro⟨_,h2⟩
  rw[<-h1]at h2
  exact(List.getElem_inj (tM n L)).1 h2
 ·rintro rfl
  exact⟨hk,h1.symm⟩
def dv (L:Nat->Nat) (bs:List PB):List PB:=bs.filterMap fun b=>if bV L b.a=bV L b.b then none else some ⟨bV L b.a,bV L b.b,b.s⟩
def eZ (L:Nat->Nat) (bs:List PB):List PB:=bs.filterMap fun b=>if bV L b.a=bV L b.b then none else some ⟨min (bV L b.a) (bV L b.b),max (bV L b.a) (bV L b.b),b.s⟩
theorem Ae (L:Nat->Nat) (bs:List PB) (b:PB):dv L (bs++[b])=dv L bs++if bV L b.a=bV L b.b then[]else[⟨bV L b.a,bV L b.b,b.s⟩]:=by
 unfold dv
 rw[List.filterMap_append]
 congr 1
 by_cases h:bV L b.a=bV L b.b<;>simp[h]
theorem Af (L:Nat->Nat) (bs:List PB) (b:PB):eZ L (bs++[b])=eZ L bs++if bV L b.a=bV L b.b then[]else[⟨min (bV L b.a) (bV L b.b),max (bV L b.a) (bV L b.b),b.s⟩]:=by
 unfold eZ
 rw[List.filterMap_append]
 congr 1
 by_cases h:bV L b.a=bV L b.b<;>simp[h]
theorem sE (S:Nat->Bool) (b:PB) (bs:List PB):jh S (b::bs)=(if S b.a=S b.b then 0 else b.s)+jh S bs:=by simp[jh]
theorem xX (S:Nat->Bool) (L:Nat->Nat):∀bs:List PB,jh S (eZ L bs)=jh S (dv L bs)
 |[]=>rfl
 |b::bs=>by
  have ih:=xX S L bs
  unfold eZ dv at ih ⊢
  rw[List.filterMap_cons,List.filterMap_cons]
  by_cases h:bV L b.a=bV L b.b
  ·simp only[h,if_true];exact ih
  ·simp only[h,if_false]
   rw[sE,sE,ih]
   congr 1
   simp only
   rcases Nat.le_total (bV L b.a) (bV L b.b)with h1|h1
   ·rw[Nat.min_eq_left h1,Nat.max_eq_right h1]
   ·rw[Nat.min_eq_right h1,Nat.max_eq_left h1]
    cases S (bV L b.a)<;>cases S (bV L b.b)<;>rfl
theorem Ek {L:Nat->Nat} (h:jJ L) {n:Nat} {bs:List PB} (hb:∀b∈bs,b.a<n/\b.b<n):∀b∈dv L bs,b.a<(leads n L).length/\b.b<(leads n L).length/\b.a≠b.b/\∃c∈bs,b.s=c.s:=by
 intro b hm
 unfold dv at hm
 obtain⟨c,hc,he⟩:=List.mem_filterMap.1 hm
 split at he
 ·cases he
 ·rename_i ik
  simp only[Option.some.injEq]at he
  subst he
  exact⟨kc h (hb c hc).1,kc h (hb c hc).2,ik,c,hc,rfl⟩
theorem El {L:Nat->Nat} (h:jJ L) {n:Nat} {bs:List PB} (hb:∀b∈bs,b.a<n/\b.b<n):∀b∈eZ L bs,b.a<(leads n L).length/\b.b<(leads n L).length/\b.a≠b.b/\∃c∈bs,b.s=c.s:=by
 intro b hm
 unfold eZ at hm
 obtain⟨c,hc,he⟩:=List.mem_filterMap.1 hm
 split at he
 ·cases he
 ·rename_i ik
  simp only[Option.some.injEq]at he
  subst he
  have h1:=kc h (hb c hc).1
  have h2:=kc h (hb c hc).2
  refine⟨by simp only;omega,by simp only;omega,by simp only;omega,c,hc,rfl⟩
theorem ns (L:Nat->Nat) (bs:List PB):(dv L bs).length<=bs.length/\(eZ L bs).length<=bs.length:=⟨List.length_filterMap_le ..,List.length_filterMap_le ..⟩
theorem jR (n:Nat) (L:Nat->Nat):(leads n L).length<=n:=by
 have:=List.length_filter_le (fun i=>L i==i) (List.range n)
 simpa[leads]using this
def aO (t:Int) (bs:List PB):List PB:=bs.filter fun b=>decide (t<=b.s)
def pg (n:Nat) (bs:List PB) (t:Int):Prop:=
 (leads n (eB (aO t bs))).length<=64/\kM (leads n (eB (aO t bs))).length (dv (eB (aO t bs)) bs) t
theorem Dz {n:Nat} {L:Nat->Nat} {bs:List PB} {t:Int}:kM n (eZ L bs) t↔kM n (dv L bs) t:=by
 unfold kM
 constructor<;>intro h S h0 hy<;>have:=h S h0 hy<;>rw[xX]at *<;>exact this
end Go.Proofs.YtgoljkjaameagaaGreat.V

namespace Go.Proofs.YtgoljkjaameagaaGreat.V
open Go.RowKit
attribute [local irreducible] dE wpOps fS Call
attribute [local go_sem] aH fq eG fH fG cX upd bZ K.av cD AV.cells AV.cell rowOf rowsOf part ld rowAt br bP dn dR gK bx cQ eb fD eS di dW cN cL dH dI bD aW cF bB cH cG dU dX dV cE bG cP dS bz aI cJ cq gJ bj cz bE aT de aX dp AV.undef bq bt dL dQ dB dz cw ea ee cj dZ dY cI cK List.getD_cons_zero List.getD_cons_succ List.getD_nil List.all_cons List.all_nil Bool.and_true Bool.true_and Bool.and_self Bool.not_true Bool.not_false Option.map_some Option.map_none Option.bind_some Option.bind_none List.length_cons List.length_nil List.take_succ_cons List.take_zero List.take_nil List.drop_succ_cons List.drop_zero List.drop_nil List.head?_cons List.map_cons List.map_nil List.getElem?_cons_zero List.getElem?_cons_succ List.cons_append List.nil_append List.append_nil List.length_map List.set_cons_zero List.set_cons_succ Nat.reduceMul eq_self Int.toNat_natCast Int.natCast_nonneg and_self true_and and_true decide_true decide_false Bool.false_eq_true Nat.zero_add Nat.add_zero List.contains_cons List.contains_nil Bool.or_false Bool.false_or beq_self_eq_true Nat.reduceBEq ne_eq not_true_eq_false not_false_eq_true Id.mk.injEq false_and and_false Nat.reduceLT Int.reduceLE Int.reduceLT Int.reduceToNat Int.reduceNeg Int.reduceAdd Nat.le_refl List.length_append beq_true beq_false Bool.not_eq_eq_eq_not or_false false_or dD ah aq aF aY bp bK aP bc aN aV cC bF
def aA (b:PB):List AV:=[.int .i64 b.a,.int .i64 b.b,.int .i64 b.s]
theorem Nr:∀b:PB,(aA b).length=3/\(aA b).all AV.cell=true:=fun _=>⟨rfl,rfl⟩
theorem zu (g:Rows) (n:Nat) (b:PB):dc g (n+1) (aA b)=some (aA b):=by simp[aA,ah,aq,aF]
theorem ur (g:Rows) (n:Nat) (b:PB):eA g (n+1) (aA b)=some (aA b):=by simp[aA,aS,bd,dr]
theorem Ij:Qn aA (fun c=>.agg (aA c)) 3 true:=⟨fun _=>rfl,fun _=>rfl,fun x g=>by simp only[aA,ah,aq,bc,aF,Option.map_some]⟩
def nh (s:ay) (l:List ab) (i:Nat) (d:Int):List PB:=
 if 0<=dm l (dy (aD l i).aC d)/\0<gZ s (aD l i).aQ d (aD l (dm l (dy (aD l i).aC d)).toNat).aQ then
  [⟨i,(dm l (dy (aD l i).aC d)).toNat,gZ s (aD l i).aQ d (aD l (dm l (dy (aD l i).aC d)).toNat).aQ⟩]else[]
def ga (s:ay) (l:List ab) (i m:Nat):List PB:=(List.range m).flatMap fun j:Nat=>nh s l i (1-(j:Int))
def gR (s:ay) (l:List ab) (n:Nat):List PB:=(List.range n).flatMap fun i=>ga s l i 2
def cY (s:ay) (l:List ab):List PB:=gR s l l.length
theorem p9 (s:ay) (l:List ab) (i m:Nat):ga s l i (m+1)=ga s l i m++nh s l i (1-(m:Int)):=by simp[ga,List.range_succ]
theorem re (s:ay) (l:List ab) (n:Nat):gR s l (n+1)=gR s l n++ga s l n 2:=by simp[gR,List.range_succ]
theorem C3 (s:ay) (l:List ab) (i:Nat) (d:Int):(nh s l i d).length<=1:=by unfold nh;split<;>simp
theorem q9 (s:ay) (l:List ab) (i m:Nat):(ga s l i m).length<=m:=by
 induction m with
 |zero=>simp[ga]
 |succ m ih=>rw[p9,List.length_append];have:=C3 s l i (1-(m:Int));omega
theorem tt (s:ay) (l:List ab) (n:Nat):(gR s l n).length<=2*n:=by
 induction n with
 |zero=>simp[gR]
 |succ n ih=>rw[re,List.length_append];have:=q9 s l n 2;omega
def sB:Id->Prop:=fun o=>o.site=124001000∨o.site=124012006
theorem DO (s:ay) (l:List ab) (hS:kK s) (hA:gL s l):aj Tryz.prog 124 [.cR (ad s),.cR [.sl (l.map aa)]] (.sl ((cY s l).map aA)):=by
 refine aj.body eH rfl fun hl n0=>?_
 clear hl
 have hF:=hA.1
 have IH:=hF.lL
 (try((repeat(revert hN;revert N;apply Pn.out));refine wk @Nat.zero_add ?_;(repeat(refine Pn.mk ?_;intro N hN))))
 refine aZ (fun n env st=>∃k:Nat,n=(l.length)-k/\k<=(l.length)/\env 6=.int .i64 (k:Int)/\(mZ aA 3 (env 5) st.get sB (gR s l k))) (l.length) ⟨0,by omega,by omega,sl @Nat.zero_add,⟨⟨124001000,n0+1⟩,.inl rfl,by simp only[go_sem, ↓reduceIte,Nat.reduceEqDiff,Nat.reduceAdd,Nat.reduceSub,Nat.reduceLeDiff,reduceCtorEq];rfl,by simp only[go_sem, ↓reduceIte,Nat.reduceEqDiff,Nat.reduceAdd,Nat.reduceSub,Nat.reduceLeDiff,reduceCtorEq];rfl⟩⟩ ?_
 rintro n_a env_a st_a ⟨k,rfl,ale,a6,qQ⟩ ez
 have a0:=ez 0 (by kernel_rfl);have a1:=ez 1 (by kernel_rfl)
 simp only[go_sem, ↓reduceIte,Nat.reduceEqDiff,Nat.reduceAdd,Nat.reduceSub,Nat.reduceLeDiff,reduceCtorEq]at a0 a1
 clear ez
 by_cases hk:(k:Int)<(l.length:Int)
 ·have dd:∀{e:Env} {gg:Rows},(e 6=.int .i64 (IntKind.i64.wrap ((k:Int)+1)))->(mZ aA 3 (e 5) gg sB (gR s l (k+1)))->∃m0,m0<(l.length)-k/\∃k:Nat,m0=(l.length)-k/\k<=(l.length)/\e 6=.int .i64 (k:Int)/\(mZ aA 3 (e 5) gg sB (gR s l k)):=fun x1 x2=>⟨_,by omega,k+1,rfl,by omega,(by rw[x1,az (by omega)]),x2⟩
  have fm:k<l.length:=by omega
  have eh:=fa fm
  have S4:=tt s l k
  (try((repeat(revert hN;revert N;apply Pn.out));refine wk (tw @a6 (tw @a0 (tw @a1 @hk))) ?_;(repeat(refine Pn.mk ?_;intro N hN))))
  refine aZ (fun n env st=>∃m:Nat,n=(2)-m/\m<=(2)/\env 7=(.int .i64 (1-(m:Int)))/\(mZ aA 3 (env 5) st.get sB (gR s l k++ga s l k m))) (2) ⟨0,by omega,by omega,sl (tw @a6 (tw @a0 @a1)),by(simp only[go_sem, ↓reduceIte,Nat.reduceEqDiff,Nat.reduceAdd,Nat.reduceSub,Nat.reduceLeDiff,reduceCtorEq];exact qQ.cast (by simp[ga]))⟩ ?_
  rintro n_b env_b st_b ⟨m,rfl,ble,b7,bI0⟩ fM
  have b0:=fM 0 (by kernel_rfl);have b1:=fM 1 (by kernel_rfl);have b6:=fM 6 (by kernel_rfl)
  simp only[go_sem, ↓reduceIte,Nat.reduceEqDiff,Nat.reduceAdd,Nat.reduceSub,Nat.reduceLeDiff,reduceCtorEq,a6,a0,a1]at b0 b1 b6
  clear fM
  have SE:=q9 s l k m
  have lQ:=p9 s l k m
  by_cases hm:(m:Int)<2
  ·have fC:∀{e:Env} {gg:Rows},(e 7=(.int .i64 (1-((m+1):Int))))->(mZ aA 3 (e 5) gg sB (gR s l k++ga s l k (m+1)))->∃m0,m0<(2)-m/\∃m:Nat,m0=(2)-m/\m<=(2)/\e 7=(.int .i64 (1-(m:Int)))/\(mZ aA 3 (e 5) gg sB (gR s l k++ga s l k m)):=fun x1 x2=>⟨_,by omega,m+1,rfl,by omega,x1,x2⟩
   have pq:(0:Int)<=1-(m:Int):=by omega
   have hd:jb (1-(m:Int)) 0 3=true:=kU (by omega)
   have hw:IntKind.i64.wrap (1-(m:Int)-1)=1-((m:Int)+1):=by rw[bU (by omega)];omega
   have SQ:=xH l hF k (1-(m:Int)) fm hd
   unfold nh at lQ
   have hT:=hA.2 _ (fj fm)
   generalize Dx:dm l (dy (aD l k).aC (1-(m:Int)))=ix at *
   by_cases hi:ix<0
   ·rw[if_neg (by omega),List.append_nil]at lQ
    (repeat(first|((repeat(revert hN;revert N;apply Pn.out));refine wk (tw @b7 (tw @b0 (tw @b1 (tw @b6 (tw @pq (tw @hw @hi)))))) ?_;(repeat(refine Pn.mk ?_;intro N hN)))|((try apply Or.inl);refine⟨_,aj.x (SQ) (sd (tw @b7 (tw @b0 (tw @b1 (tw @b6 (tw @pq (tw @hw @hi))))))),?_⟩;refine hN _ _ ?_;clear hN N)))
    exact fC (sd (tw @b7 (tw @b0 (tw @b1 (tw @b6 @hw))))) (by(simp only[go_sem, ↓reduceIte,Nat.reduceEqDiff,Nat.reduceAdd,Nat.reduceSub,Nat.reduceLeDiff,reduceCtorEq];exact bI0.cast (by rw[lQ])))
   ·have Hz:0<=ix:=by omega
    have Ow:=gj (l:=l) (p:=dy (aD l k).aC (1-(m:Int))) (by omega)
    rw[Dx]at Ow
    have jM:=fa Ow.1
    have xf:=yE s hS (aD l k).aQ (1-(m:Int)) (aD l ix.toNat).aQ hT (hA.2 _ (fj Ow.1)) hd
    generalize SC:gZ s (aD l k).aQ (1-(m:Int)) (aD l ix.toNat).aQ=bv at *
    by_cases hb:0<bv
    ·rw[if_pos ⟨Hz,hb⟩]at lQ
     (repeat(first|((repeat(revert hN;revert N;apply Pn.out));refine wa (tw @b7 (tw @b0 (tw @b1 (tw @b6 (tw @pq (tw @hw (tw @hi (tw @Hz (tw @eh (tw @jM (tw @hb @aa.eq_1))))))))))) ?_;(repeat(refine Pn.mk ?_;intro N hN)))|((try apply Or.inl);refine⟨_,aj.x (SQ) (sd (tw @b7 (tw @b0 (tw @b1 (tw @b6 (tw @pq (tw @hw (tw @hi (tw @Hz (tw @eh (tw @jM (tw @hb @aa.eq_1)))))))))))),?_⟩;refine hN _ _ ?_;clear hN N)|((try apply Or.inl);refine⟨_,aj.x (xf) (sd (tw @b7 (tw @b0 (tw @b1 (tw @b6 (tw @pq (tw @hw (tw @hi (tw @Hz (tw @eh (tw @jM (tw @hb @aa.eq_1)))))))))))),?_⟩;refine hN _ _ ?_;clear hN N)))
     refine Ps (enc:=aA) (S:=sB) (L:=gR s l k++ga s l k m) (xv:=env_b 5) [⟨k,ix.toNat,bv⟩] rfl rfl (sd @Nat.zero_add) (bI0.frame fun o ho=>by rcases ho with ho|ho<;>simp only[go_sem, ↓reduceIte,Nat.reduceEqDiff,Nat.reduceAdd,Nat.reduceSub,Nat.reduceLeDiff,reduceCtorEq,Ah ho]) (sd (tw @aA.eq_1 (Int.toNat_of_nonneg Hz))) Nr (.inr rfl) (by simp only[dp,List.length_append,List.length_cons,List.length_nil];omega) fun v g' hO jm=>?_
     rw[List.append_assoc,<-lQ]at hO
     clear jm
     (try((repeat(revert hN;revert N;apply Pn.out));refine wk (tw @b7 (tw @b0 (tw @b1 (tw @b6 @hw)))) ?_;(repeat(refine Pn.mk ?_;intro N hN))))
     exact fC (sd (tw @b7 (tw @b0 (tw @b1 (tw @b6 @hw))))) (by(simp only[go_sem, ↓reduceIte,Nat.reduceEqDiff,Nat.reduceAdd,Nat.reduceSub,Nat.reduceLeDiff,reduceCtorEq];exact hO))
    ·rw[if_neg fun h=>hb h.2,List.append_nil]at lQ
     (repeat(first|((repeat(revert hN;revert N;apply Pn.out));refine wk (tw @b7 (tw @b0 (tw @b1 (tw @b6 (tw @pq (tw @hw (tw @hi (tw @Hz (tw @eh (tw @jM (tw @hb @aa.eq_1))))))))))) ?_;(repeat(refine Pn.mk ?_;intro N hN)))|((try apply Or.inl);refine⟨_,aj.x (SQ) (sd (tw @b7 (tw @b0 (tw @b1 (tw @b6 (tw @pq (tw @hw (tw @hi (tw @Hz (tw @eh (tw @jM (tw @hb @aa.eq_1)))))))))))),?_⟩;refine hN _ _ ?_;clear hN N)|((try apply Or.inl);refine⟨_,aj.x (xf) (sd (tw @b7 (tw @b0 (tw @b1 (tw @b6 (tw @pq (tw @hw (tw @hi (tw @Hz (tw @eh (tw @jM (tw @hb @aa.eq_1)))))))))))),?_⟩;refine hN _ _ ?_;clear hN N)))
     exact fC (sd (tw @b7 (tw @b0 (tw @b1 (tw @b6 @hw))))) (by(simp only[go_sem, ↓reduceIte,Nat.reduceEqDiff,Nat.reduceAdd,Nat.reduceSub,Nat.reduceLeDiff,reduceCtorEq];exact bI0.cast (by rw[lQ])))
  ·have KN:m=2:=by omega
   subst KN
   have dJ:¬(0:Int)<=1-((2:Nat):Int):=by omega
   (try((repeat(revert hN;revert N;apply Pn.out));refine wk (tw @b7 (tw @b0 (tw @b1 (tw @b6 @dJ)))) ?_;(repeat(refine Pn.mk ?_;intro N hN))))
   exact dd (sd (tw @a6 (tw @a0 (tw @a1 (tw @b7 (tw @b0 (tw @b1 @b6))))))) (by(simp only[go_sem, ↓reduceIte,Nat.reduceEqDiff,Nat.reduceAdd,Nat.reduceSub,Nat.reduceLeDiff,reduceCtorEq];exact bI0.cast (by rw[re])))
 ·have kq:k=l.length:=by omega
  (try((repeat(revert hN;revert N;apply Pn.out));refine wk (tw @a6 (tw @a0 (tw @a1 @hk))) ?_;(repeat(refine Pn.mk ?_;intro N hN))))
  exact wM (.inl rfl) (by simp only[go_sem, ↓reduceIte,Nat.reduceEqDiff,Nat.reduceAdd,Nat.reduceSub,Nat.reduceLeDiff,reduceCtorEq];rfl) (by rw[kq]at qQ;exact qQ.gD fun b=>ur _ _ b)
theorem BR (a b:Nat):aj Tryz.prog 192 [.int .i64 a,.int .i64 b] (.int .i64 (min a b:Nat)):=by
 refine aj.body eH rfl fun hl n0=>?_
 clear hl
 by_cases h:(a:Int)<(b:Int)
 ·(try((repeat(revert hN;revert N;apply Pn.out));refine wk @h ?_;(repeat(refine Pn.mk ?_;intro N hN))))
  exact bQ (b:=(a:Int)) (.inl rfl) (sd @Nat.zero_add) (by omega)
 ·(try((repeat(revert hN;revert N;apply Pn.out));refine wk @h ?_;(repeat(refine Pn.mk ?_;intro N hN))))
  exact bQ (b:=(b:Int)) (.inl rfl) (sd @Nat.zero_add) (by omega)
theorem BQ (a b:Nat):aj Tryz.prog 191 [.int .i64 a,.int .i64 b] (.int .i64 (max a b:Nat)):=by
 refine aj.body eH rfl fun hl n0=>?_
 clear hl
 by_cases h:(b:Int)<(a:Int)
 ·(try((repeat(revert hN;revert N;apply Pn.out));refine wk @h ?_;(repeat(refine Pn.mk ?_;intro N hN))))
  exact bQ (b:=(a:Int)) (.inl rfl) (sd @Nat.zero_add) (by omega)
 ·(try((repeat(revert hN;revert N;apply Pn.out));refine wk @h ?_;(repeat(refine Pn.mk ?_;intro N hN))))
  exact bQ (b:=(b:Int)) (.inl rfl) (sd @Nat.zero_add) (by omega)
def dO (f:Nat->Nat) (n:Nat):List (List AV):=(List.range n).map fun i=>eN (f i)
theorem gn (f:Nat->Nat) (n:Nat):(dO f n).length=n:=by simp[dO]
theorem fw {f:Nat->Nat} {n i:Nat} (h:i<n):(dO f n)[i]? =some (eN (f i)):=by simp[dO,h]
theorem im {f g:Nat->Nat} {n:Nat} (h:∀i,i<n->f i=g i):dO f n=dO g n:=List.map_congr_left fun i hi=>by rw[h i (List.mem_range.1 hi)]
theorem pO {f g:Nat->Nat} {n k v:Nat} (hk:k<n) (hv:g k=v) (h:∀i,i<n->i≠k->g i=f i):(dO f n).set k (eN v)=dO g n:=by
 refine List.ext_getElem? fun i=>?_
 rw[List.getElem?_set]
 by_cases hi:k=i
 ·subst hi
  rw[if_pos rfl,gn,if_pos hk,fw hk,hv]
 ·rw[if_neg hi]
  by_cases fc:i<n
  ·rw[fw fc,fw fc,h i fc (fun h=>hi h.symm)]
  ·rw[List.getElem?_eq_none (by rw[gn];omega),List.getElem?_eq_none (by rw[gn];omega)]
theorem BT (cnt:Nat) (hn:cnt<=1048576) (bs:List PB) (hb:∀b∈bs,b.a<cnt/\b.b<cnt) (nX:bs.length<=1048576):aj Tryz.prog 125 [.int .i64 cnt,.sl (bs.map aA)] (.sl ((fB cnt (eB bs)).map AG)):=by
 refine aj.body eH rfl fun hl n0=>?_
 clear hl
 (try((repeat(revert hN;revert N;apply Pn.out));refine wk @Nat.zero_add ?_;(repeat(refine Pn.mk ?_;intro N hN))))
 refine aZ (fun n env st=>∃k:Nat,n=(cnt)-k/\k<=(cnt)/\env 6=.int .i64 (k:Int)/\(∃o:Id,env 5=.own o 0 k/\st.get o=some ⟨true,1,dO id k⟩/\o.bY<st.next)) (cnt) ⟨0,by omega,by omega,sl @Nat.zero_add,⟨⟨125001000,n0+1⟩,sd @Nat.zero_add,by simp only[go_sem, ↓reduceIte,Nat.reduceEqDiff,Nat.reduceAdd,Nat.reduceSub,Nat.reduceLeDiff,reduceCtorEq];rfl,by(try dsimp only);omega⟩⟩ ?_
 rintro n_a env_a st_a ⟨k,rfl,ale,a6,qQ⟩ ez
 have a0:=ez 0 (by kernel_rfl);have a1:=ez 1 (by kernel_rfl)
 simp only[go_sem, ↓reduceIte,Nat.reduceEqDiff,Nat.reduceAdd,Nat.reduceSub,Nat.reduceLeDiff,reduceCtorEq]at a0 a1
 clear ez
 obtain⟨o,a5,ag,yl⟩:=qQ
 have tl:=gn id k
 have so:=dP yl
 by_cases hk:(k:Int)<(cnt:Int)
 ·have dd:∀{e:Env} {gg:Rows} {nx:Nat},(e 6=.int .i64 (IntKind.i64.wrap ((k:Int)+1)))->(∃o:Id,e 5=.own o 0 (k+1)/\gg o=some ⟨true,1,dO id (k+1)⟩/\o.bY<nx)->∃m0,m0<(cnt)-k/\∃k:Nat,m0=(cnt)-k/\k<=(cnt)/\e 6=.int .i64 (k:Int)/\(∃o:Id,e 5=.own o 0 k/\gg o=some ⟨true,1,dO id k⟩/\o.bY<nx):=fun x1 x2=>⟨_,by omega,k+1,rfl,by omega,(by rw[x1,az (by omega)]),x2⟩
  have fm:k<cnt:=by omega
  have e1:k+1<=16777216:=by omega
  have sP:dO id k++[[.int .i64 (k:Int)]]=dO id (k+1):=by simp[dO,List.range_succ,eN]
  (try((repeat(revert hN;revert N;apply Pn.out));refine wk (tw @a6 (tw @a0 (tw @a1 (tw @a5 (tw @ag (tw @so (tw @hk (tw @tl (tw @e1 @sP))))))))) ?_;(repeat(refine Pn.mk ?_;intro N hN))))
  exact dd (sd (tw @a6 (tw @a0 @a1))) (⟨⟨125005003,st_a.next+1⟩,sd @Nat.zero_add,sd @sP,by(try dsimp only);omega⟩)
 have kq:k=cnt:=by omega
 subst kq
 have UC:st_a.get o=some ⟨true,1,dO (eB (bs.take 0)) k⟩:=ag
 clear ag
 (try((repeat(revert hN;revert N;apply Pn.out));refine wk (tw @a6 (tw @a0 (tw @a1 @hk))) ?_;(repeat(refine Pn.mk ?_;intro N hN))))
 refine aZ (fun n env st=>∃j:Nat,n=(bs.length)-j/\j<=(bs.length)/\env 7=.int .i64 (j:Int)/\st.get o=some ⟨true,1,dO (eB (bs.take j)) k⟩/\(o.bY<st.next)) (bs.length) ⟨0,by omega,by omega,sl (tw @a6 (tw @a0 (tw @a1 (tw @a5 @UC)))),sl (tw @a6 (tw @a0 (tw @a1 (tw @a5 @UC)))),(by(try dsimp only);omega)⟩ ?_
 rintro n_b env_b st_b ⟨j,rfl,ble,b7,bg0,bI0⟩ fM
 have b0:=fM 0 (by kernel_rfl);have b1:=fM 1 (by kernel_rfl);have b5:=fM 5 (by kernel_rfl)
 simp only[go_sem, ↓reduceIte,Nat.reduceEqDiff,Nat.reduceAdd,Nat.reduceSub,Nat.reduceLeDiff,reduceCtorEq,a6,a0,a1,a5,UC]at b0 b1 b5
 clear fM
 by_cases hj:(j:Int)<(bs.length:Int)
 ·have fC:∀{e:Env} {gg:Rows} {nx:Nat},(e 7=.int .i64 (IntKind.i64.wrap ((j:Int)+1)))->(gg o=some ⟨true,1,dO (eB (bs.take (j+1))) k⟩)->(o.bY<nx)->∃m0,m0<(bs.length)-j/\∃j:Nat,m0=(bs.length)-j/\j<=(bs.length)/\e 7=.int .i64 (j:Int)/\gg o=some ⟨true,1,dO (eB (bs.take j)) k⟩/\(o.bY<nx):=fun x1 x2 x3=>⟨_,by omega,j+1,rfl,by omega,(by rw[x1,az (by omega)]),x2,x3⟩
  have nR:j<bs.length:=by omega
  have E9:(bs.map aA)[j]? =some (aA bs[j]):=by simp[nR]
  have MT:=hb _ (List.getElem_mem nR)
  have mm:bs.take (j+1)=bs.take j++[bs[j]]:=List.take_succ_eq_append_getElem nR
  have lQ:eB (bs.take (j+1))=eR (eB (bs.take j)) bs[j]:=by rw[mm,wh]
  generalize eB (bs.take j)=L at *
  generalize bs[j]=b at *
  have hA:=fw (f:=L) MT.1
  have hB:=fw (f:=L) MT.2
  have Su:=BR (L b.a) (L b.b)
  have Sv:=BQ (L b.a) (L b.b)
  have tl:=gn L k
  have gM:(b.a:Int)<(k:Int):=by omega
  have fV:(b.b:Int)<(k:Int):=by omega
  (try((repeat(revert hN;revert N;apply Pn.out));refine wk (tw @b7 (tw @bg0 (tw @b0 (tw @b1 (tw @b5 (tw @hj (tw @E9 (tw @aA.eq_1 (tw @hA (tw @hB (tw @gM (tw @fV (tw @tl @eN.eq_1))))))))))))) ?_;(repeat(refine Pn.mk ?_;intro N hN))))
  refine aZ (fun n env st=>∃i:Nat,n=(k)-i/\i<=(k)/\env 10=.int .i64 (i:Int)/\st.get o=some ⟨true,1,dO (fun x=>if x<i then eR L b x else L x) k⟩/\(o.bY<st.next)) (k) ⟨0,by omega,by omega,sl (tw @b7 (tw @bg0 (tw @b0 (tw @b1 (tw @b5 @Nat.not_lt_zero))))),sl (tw @b7 (tw @bg0 (tw @b0 (tw @b1 (tw @b5 @Nat.not_lt_zero))))),(by(try dsimp only);omega)⟩ ?_
  rintro n_c env_c st_c ⟨i,rfl,cle,jC,cg0,cI0⟩ cfr
  have c0:=cfr 0 (by kernel_rfl);have c1:=cfr 1 (by kernel_rfl);have c5:=cfr 5 (by kernel_rfl);have c7:=cfr 7 (by kernel_rfl);have c8:=cfr 8 (by kernel_rfl);have c9:=cfr 9 (by kernel_rfl)
  simp only[go_sem, ↓reduceIte,Nat.reduceEqDiff,Nat.reduceAdd,Nat.reduceSub,Nat.reduceLeDiff,reduceCtorEq,b7,bg0,b0,b1,b5,Nat.not_lt_zero]at c0 c1 c5 c7 c8 c9
  clear cfr
  have hC:=fw (f:=fun x=>if x<i then eR L b x else L x) (n:=k) (i:=i)
  have tc:=gn (fun x=>if x<i then eR L b x else L x) k
  by_cases hi:(i:Int)<(k:Int)
  ·have iw:∀{e:Env} {gg:Rows} {nx:Nat},(e 10=.int .i64 (IntKind.i64.wrap ((i:Int)+1)))->(gg o=some ⟨true,1,dO (fun x=>if x<(i+1)then eR L b x else L x) k⟩)->(o.bY<nx)->∃m0,m0<(k)-i/\∃i:Nat,m0=(k)-i/\i<=(k)/\e 10=.int .i64 (i:Int)/\gg o=some ⟨true,1,dO (fun x=>if x<i then eR L b x else L x) k⟩/\(o.bY<nx):=fun x1 x2 x3=>⟨_,by omega,i+1,rfl,by omega,(by rw[x1,az (by omega)]),x2,x3⟩
   have fc:i<k:=by omega
   replace hC:=hC fc
   rw[if_neg (Nat.lt_irrefl i)]at hC
   by_cases he:L i=max (L b.a) (L b.b)
   ·have uz:decide ((L i:Int)=((max (L b.a) (L b.b):Nat):Int))=true:=decide_eq_true (by rw[he])
    have fh:(dO (fun x=>if x<i then eR L b x else L x) k).set i (eN (min (L b.a) (L b.b)))=dO (fun x=>if x<i+1 then eR L b x else L x) k:=pO fc (by rw[if_pos (by omega),eR,if_pos he]) fun x hx CK=>by
     by_cases h:x<i
     ·rw[if_pos h,if_pos (by omega)]
     ·rw[if_neg h,if_neg (by omega)]
    rw[eN]at fh hC
    (repeat(first|((repeat(revert hN;revert N;apply Pn.out));refine wk (tw @jC (tw @cg0 (tw @c0 (tw @c1 (tw @c5 (tw @c7 (tw @c8 (tw @c9 (tw @hi (tw @hC (tw @tc (tw @uz @fh)))))))))))) ?_;(repeat(refine Pn.mk ?_;intro N hN)))|((try apply Or.inl);refine⟨_,aj.x (Su) (sd (tw @jC (tw @cg0 (tw @c0 (tw @c1 (tw @c5 (tw @c7 (tw @c8 (tw @c9 (tw @hi (tw @hC (tw @tc (tw @uz @fh))))))))))))),?_⟩;refine hN _ _ ?_;clear hN N)|((try apply Or.inl);refine⟨_,aj.x (Sv) (sd (tw @jC (tw @cg0 (tw @c0 (tw @c1 (tw @c5 (tw @c7 (tw @c8 (tw @c9 (tw @hi (tw @hC (tw @tc (tw @uz @fh))))))))))))),?_⟩;refine hN _ _ ?_;clear hN N)))
    refine iw ?_ ?_ (by(try dsimp only);omega)
    all_goals simp only[go_sem, ↓reduceIte,Nat.reduceEqDiff,Nat.reduceAdd,Nat.reduceSub,Nat.reduceLeDiff,reduceCtorEq,jC,cg0,c0,c1,c5,c7,c8,c9]
   ·have uz:decide ((L i:Int)=((max (L b.a) (L b.b):Nat):Int))=false:=decide_eq_false fun h=>he (by omega)
    have mD:dO (fun x=>if x<i then eR L b x else L x) k=dO (fun x=>if x<i+1 then eR L b x else L x) k:=im fun x hx=>by
     by_cases h:x<i
     ·rw[if_pos h,if_pos (by omega)]
     ·by_cases CK:x=i
      ·subst CK;rw[if_neg h,if_pos (by omega),eR,if_neg he]
      ·rw[if_neg h,if_neg (by omega)]
    rw[eN]at hC
    (repeat(first|((repeat(revert hN;revert N;apply Pn.out));refine wk (tw @jC (tw @cg0 (tw @c0 (tw @c1 (tw @c5 (tw @c7 (tw @c8 (tw @c9 (tw @hi (tw @hC (tw @tc @uz))))))))))) ?_;(repeat(refine Pn.mk ?_;intro N hN)))|((try apply Or.inl);refine⟨_,aj.x (Su) (sd (tw @jC (tw @cg0 (tw @c0 (tw @c1 (tw @c5 (tw @c7 (tw @c8 (tw @c9 (tw @hi (tw @hC (tw @tc @uz)))))))))))),?_⟩;refine hN _ _ ?_;clear hN N)|((try apply Or.inl);refine⟨_,aj.x (Sv) (sd (tw @jC (tw @cg0 (tw @c0 (tw @c1 (tw @c5 (tw @c7 (tw @c8 (tw @c9 (tw @hi (tw @hC (tw @tc @uz)))))))))))),?_⟩;refine hN _ _ ?_;clear hN N)))
    rw[mD]at cg0
    refine iw ?_ ?_ (by(try dsimp only);omega)
    all_goals simp only[go_sem, ↓reduceIte,Nat.reduceEqDiff,Nat.reduceAdd,Nat.reduceSub,Nat.reduceLeDiff,reduceCtorEq,jC,cg0,c0,c1,c5,c7,c8,c9]
  ·have yh:i=k:=by omega
   subst yh
   have dG:dO (fun x=>if x<i then eR L b x else L x) i=dO (eR L b) i:=im fun x hx=>if_pos hx
   rw[dG]at cg0
   rw[<-lQ]at cg0
   (try((repeat(revert hN;revert N;apply Pn.out));refine wk (tw @jC (tw @cg0 (tw @c0 (tw @c1 (tw @c5 (tw @c7 (tw @c8 (tw @c9 (tw @hi @tc))))))))) ?_;(repeat(refine Pn.mk ?_;intro N hN))))
   refine fC ?_ ?_ (by(try dsimp only);omega)
   all_goals simp only[go_sem, ↓reduceIte,Nat.reduceEqDiff,Nat.reduceAdd,Nat.reduceSub,Nat.reduceLeDiff,reduceCtorEq,b7,bg0,b0,b1,b5,jC,cg0,c0,c1,c5,c7,c8,c9]
 have gP:j=bs.length:=by omega
 subst gP
 rw[List.take_length]at bg0
 have hL:=tL bs
 generalize eB bs=L at *
 have tl:=gn L k
 (try((repeat(revert hN;revert N;apply Pn.out));refine wk (tw @b7 (tw @bg0 (tw @b0 (tw @b1 (tw @b5 @hj))))) ?_;(repeat(refine Pn.mk ?_;intro N hN))))
 have UD:o.bY<st_b.next:=bI0
 refine aZ (fun n env st=>∃i:Nat,n=(k)-i/\i<=(k)/\env 12=.int .i64 (i:Int)/\st.get o=some ⟨true,1,dO L k⟩/\(∃oo rows ids,env 11=.own oo 0 rows.length/\st.get oo=some ⟨true,1,rows⟩/\eU PQ st.get rows ((leads i L).map (members k L)) ids/\(∀x∈oo::ids,st_b.next<=x.bY/\x.bY<st.next)/\st_b.next<=st.next/\oo∉ids)) (k) ⟨0,by omega,by omega,sl (tw @b7 (tw @bg0 (tw @b0 (tw @b1 (tw @b5 (dP UD)))))),sl (tw @b7 (tw @bg0 (tw @b0 (tw @b1 (tw @b5 (dP UD)))))),⟨⟨125016000,st_b.next+1⟩,[],[],by(simp only[go_sem, ↓reduceIte,Nat.reduceEqDiff,Nat.reduceAdd,Nat.reduceSub,Nat.reduceLeDiff,reduceCtorEq])<;>rfl,sd @Nat.zero_add,.nil,fun x hx=>by rw[List.mem_singleton.1 hx];(try dsimp only);omega,by(try dsimp only);omega,by simp⟩⟩ ?_
 rintro n_d env_d st_d ⟨i,rfl,dle,d12,dg0,dI0⟩ dfr
 have d0:=dfr 0 (by kernel_rfl);have d5:=dfr 5 (by kernel_rfl)
 simp only[go_sem, ↓reduceIte,Nat.reduceEqDiff,Nat.reduceAdd,Nat.reduceSub,Nat.reduceLeDiff,reduceCtorEq,b7,bg0,b0,b1,b5,dP UD]at d0 d5
 clear dfr
 obtain⟨oo,rows,ids,d11,dg,hR,nV,hle,rI⟩:=dI0
 have sP:=gS i L
 have tH:=hR.len
 by_cases hi:(i:Int)<(k:Int)
 ·have tO:∀{e:Env} {gg:Rows} {nx:Nat},(e 12=.int .i64 (IntKind.i64.wrap ((i:Int)+1)))->(gg o=some ⟨true,1,dO L k⟩)->(∃oo rows ids,e 11=.own oo 0 rows.length/\gg oo=some ⟨true,1,rows⟩/\eU PQ gg rows ((leads (i+1) L).map (members k L)) ids/\(∀x∈oo::ids,st_b.next<=x.bY/\x.bY<nx)/\st_b.next<=nx/\oo∉ids)->∃m0,m0<(k)-i/\∃i:Nat,m0=(k)-i/\i<=(k)/\e 12=.int .i64 (i:Int)/\gg o=some ⟨true,1,dO L k⟩/\(∃oo rows ids,e 11=.own oo 0 rows.length/\gg oo=some ⟨true,1,rows⟩/\eU PQ gg rows ((leads i L).map (members k L)) ids/\(∀x∈oo::ids,st_b.next<=x.bY/\x.bY<nx)/\st_b.next<=nx/\oo∉ids):=fun x1 x2 x3=>⟨_,by omega,i+1,rfl,by omega,(by rw[x1,az (by omega)]),x2,x3⟩
  have fc:i<k:=by omega
  have hC:=fw (f:=L) fc
  have nI:=dP (i:=o) (n:=st_d.next) (by omega)
  have Rt:=dP (i:=oo) (n:=st_d.next) (nV oo (by simp)).2
  by_cases he:L i=i
  ·rw[if_pos he]at sP
   have uz:decide ((L i:Int)=(i:Int))=true:=decide_eq_true (by rw[he])
   rw[eN]at hC
   (try((repeat(revert hN;revert N;apply Pn.out));refine wk (tw @d12 (tw @dg0 (tw @d0 (tw @d5 (tw @d11 (tw @dg (tw @hi (tw @hC (tw @tl (tw @uz (tw @nI @Rt))))))))))) ?_;(repeat(refine Pn.mk ?_;intro N hN))))
   refine aZ (fun n env st=>∃m:Nat,n=((k-i))-m/\m<=((k-i))/\env 14=(.int .i64 ((i+m:Nat):Int))/\(∃pp:Id,env 13=.own pp 0 (members (i+m) L i).length/\st.get pp=some ⟨true,1,(members (i+m) L i).map eN⟩/\st_d.next<=pp.bY/\pp.bY<st.next/\(∀x:Id,x.bY<st_d.next->st.get x=st_d.get x)/\st_d.next<=st.next)) ((k-i)) ⟨0,by omega,by omega,sl (tw @d12 (tw @dg0 (tw @d0 (tw @d5 @d11)))),⟨⟨125021000,st_d.next+1+1⟩,by rw[show members (i+0) L i=[]from nk hL (Nat.le_refl i)];(simp only[go_sem, ↓reduceIte,Nat.reduceEqDiff,Nat.reduceAdd,Nat.reduceSub,Nat.reduceLeDiff,reduceCtorEq])<;>rfl,by rw[show members (i+0) L i=[]from nk hL (Nat.le_refl i)];(simp only[go_sem, ↓reduceIte,Nat.reduceEqDiff,Nat.reduceAdd,Nat.reduceSub,Nat.reduceLeDiff,reduceCtorEq])<;>rfl,by(try dsimp only);omega,by(try dsimp only);omega,fun x hx=>sd (dP hx),by(try dsimp only);omega⟩⟩ ?_
   rintro n_f env_f st_f ⟨m,rfl,fle,f14,fI0⟩ ffr
   have f0:=ffr 0 (by kernel_rfl);have f5:=ffr 5 (by kernel_rfl);have f11:=ffr 11 (by kernel_rfl);have f12:=ffr 12 (by kernel_rfl)
   simp only[go_sem, ↓reduceIte,Nat.reduceEqDiff,Nat.reduceAdd,Nat.reduceSub,Nat.reduceLeDiff,reduceCtorEq,d12,dg0,d0,d5,d11]at f0 f5 f11 f12
   clear ffr
   obtain⟨pp,f13,fg,OC,IT,jm,qz⟩:=fI0
   have rG:st_f.get o=some ⟨true,1,dO L k⟩:=(jm o (by omega)).trans dg0
   have Ug:st_f.get oo=some ⟨true,1,rows⟩:=(jm oo (nV oo (by simp)).2).trans dg
   have AK:=dP IT
   have BG:=dP (i:=o) (n:=st_f.next) (by omega)
   have Ru:=dP (i:=oo) (n:=st_f.next) (by have:=(nV oo (by simp)).2;omega)
   have P4:members (i+(m+1)) L i=members (i+m) L i++if L (i+m)=i then[i+m]else[]:=jz (i+m) L i
   have Uu:(members (i+m) L i).length<=i+m:=by
    have:=List.length_filter_le (fun k=>L k==i) (List.range (i+m))
    simpa[members]using this
   have x1:=cZ (a:=o) (b:=pp) (by omega)
   have x2:=cZ (a:=oo) (b:=pp) (by have:=(nV oo (by simp)).2;omega)
   have x3:=cZ (a:=o) (b:=oo) (by have:=(nV oo (by simp)).1;omega)
   by_cases hm:m<k-i
   ·have kd:∀{e:Env} {gg:Rows} {nx:Nat},(e 14=(.int .i64 ((i+(m+1):Nat):Int)))->(∃pp:Id,e 13=.own pp 0 (members (i+(m+1)) L i).length/\gg pp=some ⟨true,1,(members (i+(m+1)) L i).map eN⟩/\st_d.next<=pp.bY/\pp.bY<nx/\(∀x:Id,x.bY<st_d.next->gg x=st_d.get x)/\st_d.next<=nx)->∃m0,m0<((k-i))-m/\∃m:Nat,m0=((k-i))-m/\m<=((k-i))/\e 14=(.int .i64 ((i+m:Nat):Int))/\(∃pp:Id,e 13=.own pp 0 (members (i+m) L i).length/\gg pp=some ⟨true,1,(members (i+m) L i).map eN⟩/\st_d.next<=pp.bY/\pp.bY<nx/\(∀x:Id,x.bY<st_d.next->gg x=st_d.get x)/\st_d.next<=nx):=fun x1 x2=>⟨_,by omega,m+1,rfl,by omega,x1,x2⟩
    have SP:((i+m:Nat):Int)<(k:Int):=by omega
    have TD:=fw (f:=L) (show i+m<k by omega)
    have hw:IntKind.i64.wrap (((i+m:Nat):Int)+1)=((i+(m+1):Nat):Int):=by rw[bU (by omega)];omega
    rw[eN]at TD
    by_cases hq:L (i+m)=i
    ·have nQ:decide ((L (i+m):Int)=(i:Int))=true:=decide_eq_true (by rw[hq])
     rw[if_pos hq]at P4
     have e1:(members (i+m) L i).length+1<=16777216:=by omega
     have eF:((members (i+m) L i).map eN).length=(members (i+m) L i).length:=by simp
     (try((repeat(revert hN;revert N;apply Pn.out));refine wk (tw @f14 (tw @f0 (tw @f5 (tw @f11 (tw @f12 (tw @f13 (tw @fg (tw @rG (tw @SP (tw @TD (tw @tl (tw @nQ (tw @AK (tw @BG (tw @x1 (tw @e1 @eF)))))))))))))))) ?_;(repeat(refine Pn.mk ?_;intro N hN))))
     exact kd (sd (tw @f14 (tw @f0 (tw @f5 (tw @f11 (tw @f12 (tw @rG (tw @hw (tw @BG @x1))))))))) (⟨⟨125026003,st_f.next+1+1⟩,by rw[P4,List.length_append];simp only[go_sem, ↓reduceIte,Nat.reduceEqDiff,Nat.reduceAdd,Nat.reduceSub,Nat.reduceLeDiff,reduceCtorEq,List.length_cons,List.length_nil],by rw[P4,List.map_append,List.map_cons,List.map_nil];simp only[go_sem, ↓reduceIte,Nat.reduceEqDiff,Nat.reduceAdd,Nat.reduceSub,Nat.reduceLeDiff,reduceCtorEq,eN],by(try dsimp only);omega,by(try dsimp only);omega,fun x hx=>by
      have y1:=jm x hx
      have y2:=cZ (a:=x) (b:=pp) (by omega)
      simp only[go_sem, ↓reduceIte,Nat.reduceEqDiff,Nat.reduceAdd,Nat.reduceSub,Nat.reduceLeDiff,reduceCtorEq,dP (show x.bY<st_f.next by omega),y1,y2],by(try dsimp only);omega⟩)
    ·have nQ:decide ((L (i+m):Int)=(i:Int))=false:=decide_eq_false fun h=>hq (by omega)
     rw[if_neg hq,List.append_nil]at P4
     (try((repeat(revert hN;revert N;apply Pn.out));refine wk (tw @f14 (tw @f0 (tw @f5 (tw @f11 (tw @f12 (tw @f13 (tw @fg (tw @rG (tw @SP (tw @TD (tw @tl (tw @nQ (tw @AK (tw @BG @x1)))))))))))))) ?_;(repeat(refine Pn.mk ?_;intro N hN))))
     exact kd (sd (tw @f14 (tw @f0 (tw @f5 (tw @f11 (tw @f12 (tw @rG @hw))))))) (⟨pp,by rw[P4];simp only[go_sem, ↓reduceIte,Nat.reduceEqDiff,Nat.reduceAdd,Nat.reduceSub,Nat.reduceLeDiff,reduceCtorEq,f13],by rw[P4];simp only[go_sem, ↓reduceIte,Nat.reduceEqDiff,Nat.reduceAdd,Nat.reduceSub,Nat.reduceLeDiff,reduceCtorEq,fg],OC,by(try dsimp only);omega,jm,by(try dsimp only);omega⟩)
   ·have hmk:i+m=k:=by omega
    have SP:¬((i+m:Nat):Int)<(k:Int):=by omega
    rw[hmk]at f13 fg Uu
    have e1:rows.length+1<=16777216:=by
     have:=jR i L
     rw[tH,List.length_map];omega
    (try((repeat(revert hN;revert N;apply Pn.out));refine wk (tw @f14 (tw @f0 (tw @f5 (tw @f11 (tw @f12 (tw @f13 (tw @fg (tw @rG (tw @Ug (tw @SP (tw @AK (tw @BG (tw @Ru (tw @x1 (tw @x2 @e1))))))))))))))) ?_;(repeat(refine Pn.mk ?_;intro N hN))))
    refine tO ?_ ?_ (⟨⟨125027003,st_f.next+1⟩,rows++[[.own pp 0 (members k L i).length]],ids++[pp],by rw[List.length_append];simp only[go_sem, ↓reduceIte,Nat.reduceEqDiff,Nat.reduceAdd,Nat.reduceSub,Nat.reduceLeDiff,reduceCtorEq,List.length_cons,List.length_nil],sd @Nat.zero_add,by
      rw[sP,List.map_append]
      refine(hR.frame LV fun x hx=>?_).app (.one ⟨pp,rfl,?_,rfl⟩)
      ·have h1:=nV x (by simp[hx])
       have y1:=jm x h1.2
       have y2:=cZ (a:=x) (b:=pp) (by omega)
       have y3:(x=oo)=False:=by
        simp only[eq_iff_iff,iff_false]
        rintro rfl
        exact rI hx
       simp only[go_sem, ↓reduceIte,Nat.reduceEqDiff,Nat.reduceAdd,Nat.reduceSub,Nat.reduceLeDiff,reduceCtorEq,dP (show x.bY<st_f.next by omega),y1,y2,y3]
      ·simp only[go_sem, ↓reduceIte,Nat.reduceEqDiff,Nat.reduceAdd,Nat.reduceSub,Nat.reduceLeDiff,reduceCtorEq,AK,x2,fg],fun x hx=>by
      rcases List.mem_cons.1 hx with rfl|hx
      ·(try dsimp only);omega
      ·rcases List.mem_append.1 hx with hx|hx
       ·have:=nV x (by simp[hx]);(try dsimp only);omega
       ·rw[List.mem_singleton.1 hx];(try dsimp only);omega,by(try dsimp only);omega,fun hc=>by
      rcases List.mem_append.1 hc with hc|hc
      ·have:=(nV _ (List.mem_cons_of_mem _ hc)).2;(try dsimp only at this);omega
      ·have:=List.mem_singleton.1 hc;rw[<-this]at IT;(try dsimp only at IT);omega⟩)
    all_goals simp only[go_sem, ↓reduceIte,Nat.reduceEqDiff,Nat.reduceAdd,Nat.reduceSub,Nat.reduceLeDiff,reduceCtorEq,f14,f0,f5,f11,f12,rG,BG,x3]
  ·rw[if_neg he,List.append_nil]at sP
   have uz:decide ((L i:Int)=(i:Int))=false:=decide_eq_false fun h=>he (by omega)
   rw[eN]at hC
   (try((repeat(revert hN;revert N;apply Pn.out));refine wk (tw @d12 (tw @dg0 (tw @d0 (tw @d5 (tw @d11 (tw @dg (tw @hi (tw @hC (tw @tl (tw @uz (tw @nI @Rt))))))))))) ?_;(repeat(refine Pn.mk ?_;intro N hN))))
   refine tO ?_ ?_ (⟨oo,rows,ids,sd @d11,sd @dg,by rw[sP];exact hR,fun x hx=>by have:=nV x hx;(try dsimp only);omega,by(try dsimp only);omega,rI⟩)
   all_goals simp only[go_sem, ↓reduceIte,Nat.reduceEqDiff,Nat.reduceAdd,Nat.reduceSub,Nat.reduceLeDiff,reduceCtorEq,d12,dg0,d0,d5]
 ·have yh:i=k:=by omega
  (try((repeat(revert hN;revert N;apply Pn.out));refine wk (tw @d12 (tw @dg0 (tw @d0 (tw @d5 (tw @d11 (tw @dg @hi)))))) ?_;(repeat(refine Pn.mk ?_;intro N hN))))
  refine wM (.inl rfl) (by simp only[go_sem, ↓reduceIte,Nat.reduceEqDiff,Nat.reduceAdd,Nat.reduceSub,Nat.reduceLeDiff,reduceCtorEq];rfl) ?_
  rw[rC dg (by simp) (rows':=(fB k L).map AG) (by rw[List.drop_zero,List.take_of_length_le (Nat.le_refl _)];rw[yh]at hR;exact Jr 3 hR)]
theorem wW (n:Nat):List.replicate n [AV.int .i64 0]=dO (fun _=>0) n:=by
 refine List.ext_getElem? fun i=>?_
 by_cases h:i<n
 ·rw[fw h,List.getElem?_replicate,if_pos h];rfl
 ·rw[List.getElem?_eq_none (by simp;omega),List.getElem?_eq_none (by rw[gn];omega)]
def db (cnt:Nat) (L:Nat->Nat) (i m:Nat):Nat->Nat:=fun x=>if bV L x<i then bV L x else if x∈(members cnt L ((leads cnt L).getD i 0)).take m then i else 0
theorem oQ (cnt:Nat) (L:Nat->Nat):db cnt L 0 0=fun _=>0:=by funext x;simp[db]
theorem tU (t:Int) (bs:List PB) (k:Nat) (h:k<bs.length):aO t (bs.take (k+1))=aO t (bs.take k)++if t<=(bs[k]).s then[bs[k]]else[]:=by
 unfold aO
 rw[List.take_succ_eq_append_getElem h,List.filter_append]
 congr 1
 by_cases h:t<=bs[k].s<;>simp[h]
theorem wT {t:Int} {bs:List PB} {b:PB} (h:b∈aO t bs):b∈bs:=(List.mem_filter.1 h).1
theorem nu (t:Int) (bs:List PB):(aO t bs).length<=bs.length:=List.length_filter_le _ _
theorem BV (cnt:Nat) (hn:cnt<=1048576) (bs:List PB) (hb:∀b∈bs,b.a<cnt/\b.b<cnt) (nX:bs.length<=1048576) (t:Int):aj Tryz.prog 240 [.int .i64 cnt,.sl (bs.map aA),.int .i64 t] (.gy [.int .i64 (leads cnt (eB (aO t bs))).length,.sl ((eZ (eB (aO t bs)) bs).map aA)]):=by
 refine aj.body eH rfl fun hl n0=>?_
 clear hl
 (try((repeat(revert hN;revert N;apply Pn.out));refine wk @Nat.zero_add ?_;(repeat(refine Pn.mk ?_;intro N hN))))
 refine aZ (fun n env st=>∃k:Nat,n=(bs.length)-k/\k<=(bs.length)/\env 9=.int .i64 (k:Int)/\(∃o:Id,env 8=.own o 0 (aO t (bs.take k)).length/\st.get o=some ⟨true,3,(aO t (bs.take k)).map aA⟩/\o.bY<st.next)) (bs.length) ⟨0,by omega,by omega,sl @Nat.zero_add,⟨⟨240001000,n0+1⟩,by(simp only[go_sem, ↓reduceIte,Nat.reduceEqDiff,Nat.reduceAdd,Nat.reduceSub,Nat.reduceLeDiff,reduceCtorEq])<;>rfl,by(simp only[go_sem, ↓reduceIte,Nat.reduceEqDiff,Nat.reduceAdd,Nat.reduceSub,Nat.reduceLeDiff,reduceCtorEq])<;>rfl,by(try dsimp only);omega⟩⟩ ?_
 rintro n_a env_a st_a ⟨k,rfl,ale,a9,qQ⟩ ez
 have a0:=ez 0 (by kernel_rfl);have a1:=ez 1 (by kernel_rfl);have a2:=ez 2 (by kernel_rfl)
 simp only[go_sem, ↓reduceIte,Nat.reduceEqDiff,Nat.reduceAdd,Nat.reduceSub,Nat.reduceLeDiff,reduceCtorEq]at a0 a1 a2
 clear ez
 obtain⟨o,a8,ag,yl⟩:=qQ
 have so:=dP yl
 by_cases hk:(k:Int)<(bs.length:Int)
 ·have dd:∀{e:Env} {gg:Rows} {nx:Nat},(e 9=.int .i64 (IntKind.i64.wrap ((k:Int)+1)))->(∃o:Id,e 8=.own o 0 (aO t (bs.take (k+1))).length/\gg o=some ⟨true,3,(aO t (bs.take (k+1))).map aA⟩/\o.bY<nx)->∃m0,m0<(bs.length)-k/\∃k:Nat,m0=(bs.length)-k/\k<=(bs.length)/\e 9=.int .i64 (k:Int)/\(∃o:Id,e 8=.own o 0 (aO t (bs.take k)).length/\gg o=some ⟨true,3,(aO t (bs.take k)).map aA⟩/\o.bY<nx):=fun x1 x2=>⟨_,by omega,k+1,rfl,by omega,(by rw[x1,az (by omega)]),x2⟩
  have fm:k<bs.length:=by omega
  have eh:(bs.map aA)[k]? =some (aA bs[k]):=by simp[fm]
  have hs:=tU t bs k fm
  have uC:=nu t (bs.take k)
  rw[List.length_take]at uC
  by_cases hc:t<=(bs[k]).s
  ·rw[if_pos hc]at hs
   have e1:(aO t (bs.take k)).length+1<=16777216:=by omega
   have eF:((aO t (bs.take k)).map aA).length=(aO t (bs.take k)).length:=by simp
   generalize bs[k]=b at *
   (try((repeat(revert hN;revert N;apply Pn.out));refine wk (tw @a9 (tw @a0 (tw @a1 (tw @a2 (tw @a8 (tw @ag (tw @so (tw @hk (tw @eh (tw @hc (tw @e1 (tw @eF @aA.eq_1)))))))))))) ?_;(repeat(refine Pn.mk ?_;intro N hN))))
   exact dd (sd (tw @a9 (tw @a0 (tw @a1 @a2)))) (⟨⟨240006006,st_a.next+1+1⟩,by rw[hs,List.length_append];simp only[go_sem, ↓reduceIte,Nat.reduceEqDiff,Nat.reduceAdd,Nat.reduceSub,Nat.reduceLeDiff,reduceCtorEq,List.length_cons,List.length_nil],by rw[hs,List.map_append,List.map_cons,List.map_nil];simp only[go_sem, ↓reduceIte,Nat.reduceEqDiff,Nat.reduceAdd,Nat.reduceSub,Nat.reduceLeDiff,reduceCtorEq,aA],by(try dsimp only);omega⟩)
  ·rw[if_neg hc,List.append_nil]at hs
   generalize bs[k]=b at *
   (try((repeat(revert hN;revert N;apply Pn.out));refine wk (tw @a9 (tw @a0 (tw @a1 (tw @a2 (tw @a8 (tw @ag (tw @so (tw @hk (tw @eh (tw @hc @aA.eq_1)))))))))) ?_;(repeat(refine Pn.mk ?_;intro N hN))))
   exact dd (sd (tw @a9 (tw @a0 (tw @a1 @a2)))) (⟨o,by rw[hs];simp only[go_sem, ↓reduceIte,Nat.reduceEqDiff,Nat.reduceAdd,Nat.reduceSub,Nat.reduceLeDiff,reduceCtorEq,a8],by rw[hs];simp only[go_sem, ↓reduceIte,Nat.reduceEqDiff,Nat.reduceAdd,Nat.reduceSub,Nat.reduceLeDiff,reduceCtorEq,ag],by(try dsimp only);omega⟩)
 have kq:k=bs.length:=by omega
 subst kq
 rw[List.take_length]at a8 ag
 have CE:=BT cnt hn (aO t bs) (fun b h=>hb b (wT h)) (by have:=nu t bs;omega)
 have hL:=tL (aO t bs)
 have CD:fz (dD st_a.get) 6 (.own o 0 (aO t bs).length)=some (.sl ((aO t bs).map aA)):=gr (sz:=3) (by simp[dD,ag]) rfl fun b=>zu _ 4 b
 have Ue:∀x,dc (dD st_a.get) 6 [.int .i64 x,.own o 0 (aO t bs).length]=some [.int .i64 x,.sl ((aO t bs).map aA)]:=fun x=>by simp only[ah,aq,aF,CD,Option.map_some]
 (try((repeat(revert hN;revert N;apply Pn.out));refine wk (tw @a9 (tw @a0 (tw @a1 (tw @a2 (tw @a8 @hk))))) ?_;(repeat(refine Pn.mk ?_;intro N hN))))
 refine .inl ⟨_,aj.x CE (Ue _),?_⟩
 refine hN _ _ ?_
 clear hN N
 generalize eB (aO t bs)=L at *
 have sN:((fB cnt L).map AG).length=(leads cnt L).length:=by simp[fB]
 have SL:=jR cnt L
 have jL:(0:Int)<=(cnt:Int):=by omega
 have qa:(cnt:Int)<=((16777216:Nat):Int):=by omega
 have gN:List.replicate cnt [AV.int .i64 0]=dO (db cnt L 0 0) cnt:=by rw[wW,oQ]
 (try((repeat(revert hN;revert N;apply Pn.out));refine wk (tw @a9 (tw @a0 (tw @a1 (tw @a2 (tw @jL (tw @qa @Int.le_refl)))))) ?_;(repeat(refine Pn.mk ?_;intro N hN))))
 refine aZ (fun n env st=>∃i:Nat,n=((leads cnt L).length)-i/\i<=((leads cnt L).length)/\env 12=.int .i64 (i:Int)/\st.get ⟨240008001,st_a.next+1+1⟩=some ⟨true,1,dO (db cnt L i 0) cnt⟩/\(st_a.next+1+1<st.next)) ((leads cnt L).length) ⟨0,by omega,by omega,sl (tw @a9 (tw @a0 (tw @a1 (tw @a2 @gN)))),sl (tw @a9 (tw @a0 (tw @a1 (tw @a2 @gN)))),(by(try dsimp only);omega)⟩ ?_
 rintro n_c env_c st_c ⟨i,rfl,cle,zj,cg0,cI0⟩ cfr
 have c1:=cfr 1 (by kernel_rfl);have jC:=cfr 10 (by kernel_rfl);have nO:=cfr 11 (by kernel_rfl)
 simp only[go_sem, ↓reduceIte,Nat.reduceEqDiff,Nat.reduceAdd,Nat.reduceSub,Nat.reduceLeDiff,reduceCtorEq,a9,a0,a1,a2,gN]at c1 jC nO
 clear cfr
 by_cases hi:(i:Int)<((leads cnt L).length:Int)
 ·have iw:∀{e:Env} {gg:Rows} {nx:Nat},(e 12=.int .i64 (IntKind.i64.wrap ((i:Int)+1)))->(gg ⟨240008001,st_a.next+1+1⟩=some ⟨true,1,dO (db cnt L (i+1) 0) cnt⟩)->(st_a.next+1+1<nx)->∃m0,m0<((leads cnt L).length)-i/\∃i:Nat,m0=((leads cnt L).length)-i/\i<=((leads cnt L).length)/\e 12=.int .i64 (i:Int)/\gg ⟨240008001,st_a.next+1+1⟩=some ⟨true,1,dO (db cnt L i 0) cnt⟩/\(st_a.next+1+1<nx):=fun x1 x2 x3=>⟨_,by omega,i+1,rfl,by omega,(by rw[x1,az (by omega)]),x2,x3⟩
  have fc:i<(leads cnt L).length:=by omega
  have jM:((fB cnt L).map AG)[i]? =some (AG (members cnt L (leads cnt L)[i])):=by simp[fB,fc]
  have uA:(leads cnt L).getD i 0=(leads cnt L)[i]:=by simp[List.getD_eq_getElem?_getD,fc]
  have kr:∀m,db cnt L i m=fun x=>if bV L x<i then bV L x else if x∈(members cnt L (leads cnt L)[i]).take m then i else 0:=fun m=>by unfold db;rw[uA]
  have rH:=fun x (hx:x<cnt)=>sV hL (n:=cnt) (k:=x) (i:=i) hx fc
  have pr:(members cnt L (leads cnt L)[i]).Nodup:=List.nodup_range.filter _
  have KO:∀x∈members cnt L (leads cnt L)[i],x<cnt:=fun x hx=>(lV.1 hx).1
  have hMc:(members cnt L (leads cnt L)[i]).length<=cnt:=by
   have:=List.length_filter_le (fun k=>L k==(leads cnt L)[i]) (List.range cnt)
   simpa[members]using this
  generalize members cnt L (leads cnt L)[i]=M at *
  have CB:(M.map eN).length=M.length:=by simp
  (try((repeat(revert hN;revert N;apply Pn.out));refine wk (tw @zj (tw @cg0 (tw @c1 (tw @jC (tw @nO (tw @hi @sN)))))) ?_;(repeat(refine Pn.mk ?_;intro N hN))))
  refine aZ (fun n env st=>∃m:Nat,n=(M.length)-m/\m<=(M.length)/\env 13=.int .i64 (m:Int)/\st.get ⟨240008001,st_a.next+1+1⟩=some ⟨true,1,dO (db cnt L i m) cnt⟩/\(st_a.next+1+1<st.next)) (M.length) ⟨0,by omega,by omega,sl (tw @zj (tw @cg0 (tw @c1 (tw @jC @nO)))),sl (tw @zj (tw @cg0 (tw @c1 (tw @jC @nO)))),(by(try dsimp only);omega)⟩ ?_
  rintro n_d env_d st_d ⟨m,rfl,dle,d13,dg0,dI0⟩ dfr
  have d1:=dfr 1 (by kernel_rfl);have d10:=dfr 10 (by kernel_rfl);have d11:=dfr 11 (by kernel_rfl);have d12:=dfr 12 (by kernel_rfl)
  simp only[go_sem, ↓reduceIte,Nat.reduceEqDiff,Nat.reduceAdd,Nat.reduceSub,Nat.reduceLeDiff,reduceCtorEq,zj,cg0,c1,jC,nO]at d1 d10 d11 d12
  clear dfr
  have tl:=gn (db cnt L i m) cnt
  by_cases hm:(m:Int)<(M.length:Int)
  ·have tO:∀{e:Env} {gg:Rows} {nx:Nat},(e 13=.int .i64 (IntKind.i64.wrap ((m:Int)+1)))->(gg ⟨240008001,st_a.next+1+1⟩=some ⟨true,1,dO (db cnt L i (m+1)) cnt⟩)->(st_a.next+1+1<nx)->∃m0,m0<(M.length)-m/\∃m:Nat,m0=(M.length)-m/\m<=(M.length)/\e 13=.int .i64 (m:Int)/\gg ⟨240008001,st_a.next+1+1⟩=some ⟨true,1,dO (db cnt L i m) cnt⟩/\(st_a.next+1+1<nx):=fun x1 x2 x3=>⟨_,by omega,m+1,rfl,by omega,(by rw[x1,az (by omega)]),x2,x3⟩
   have zG:m<M.length:=by omega
   have vO:(M.map eN)[m]? =some (eN M[m]):=by simp[zG]
   have vZ:=KO _ (List.getElem_mem zG)
   have CK:(M[m]:Int)<(cnt:Int):=by omega
   have CJ:=fw (f:=db cnt L i m) vZ
   have fh:(dO (db cnt L i m) cnt).set M[m] (eN i)=dO (db cnt L i (m+1)) cnt:=pO vZ (by
    have h1:=(rH _ vZ).1 (List.getElem_mem zG)
    rw[kr]
    simp only[]
    rw[if_neg (by omega),if_pos (by rw[List.take_succ_eq_append_getElem zG];exact List.mem_append_right _ (List.mem_singleton.2 rfl))]) fun x hx ik=>by
    rw[kr,kr]
    simp only[]
    rw[List.take_succ_eq_append_getElem zG]
    simp only[List.mem_append,List.mem_singleton,ik,or_false]
   rw[eN]at fh CJ
   generalize M[m]=xm at *
   (try((repeat(revert hN;revert N;apply Pn.out));refine wk (tw @d13 (tw @dg0 (tw @d1 (tw @d10 (tw @d11 (tw @d12 (tw @hm (tw @hi (tw @jM (tw @sN (tw @vO (tw @CB (tw @CK (tw @CJ (tw @tl (tw @fh (tw @AG.eq_1 @eN.eq_1))))))))))))))))) ?_;(repeat(refine Pn.mk ?_;intro N hN))))
   refine tO ?_ ?_ (by(try dsimp only);omega)
   all_goals simp only[go_sem, ↓reduceIte,Nat.reduceEqDiff,Nat.reduceAdd,Nat.reduceSub,Nat.reduceLeDiff,reduceCtorEq,d13,dg0,d1,d10,d11,d12,fh]
  ·have eF:m=M.length:=by omega
   subst eF
   have qz:dO (db cnt L i M.length) cnt=dO (db cnt L (i+1) 0) cnt:=im fun x hx=>by
    rw[kr,List.take_length]
    simp only[db,List.take_zero,List.not_mem_nil,if_false]
    have h1:=rH x hx
    by_cases h2:bV L x<i
    ·rw[if_pos h2,if_pos (by omega)]
    ·rw[if_neg h2]
     by_cases h3:x∈M
     ·rw[if_pos h3,if_pos (by have:=h1.1 h3;omega),h1.1 h3]
     ·rw[if_neg h3,if_neg fun h4=>h3 (h1.2 (by omega))]
   (try((repeat(revert hN;revert N;apply Pn.out));refine wk (tw @d13 (tw @dg0 (tw @d1 (tw @d10 (tw @d11 (tw @d12 (tw @hm (tw @hi (tw @jM (tw @sN (tw @CB @AG.eq_1))))))))))) ?_;(repeat(refine Pn.mk ?_;intro N hN))))
   refine iw ?_ ?_ (by(try dsimp only);omega)
   all_goals simp only[go_sem, ↓reduceIte,Nat.reduceEqDiff,Nat.reduceAdd,Nat.reduceSub,Nat.reduceLeDiff,reduceCtorEq,zj,cg0,c1,jC,nO,d13,dg0,d1,d10,d11,d12,qz]
 have lO:i=(leads cnt L).length:=by omega
 subst lO
 have rI:dO (db cnt L (leads cnt L).length 0) cnt=dO (bV L) cnt:=im fun x hx=>by rw[db,if_pos (kc hL hx)]
 rw[rI]at cg0
 have tl:=gn (bV L) cnt
 (try((repeat(revert hN;revert N;apply Pn.out));refine wk (tw @zj (tw @cg0 (tw @c1 (tw @jC (tw @nO (tw @hi @sN)))))) ?_;(repeat(refine Pn.mk ?_;intro N hN))))
 have PZ:st_a.next+1+1<st_c.next:=cI0
 refine aZ (fun n env st=>∃j:Nat,n=(bs.length)-j/\j<=(bs.length)/\env 15=.int .i64 (j:Int)/\st.get ⟨240008001,st_a.next+1+1⟩=some ⟨true,1,dO (bV L) cnt⟩/\(∃p:Id,env 14=.own p 0 (eZ L (bs.take j)).length/\st.get p=some ⟨true,3,(eZ L (bs.take j)).map aA⟩/\st_c.next<=p.bY/\p.bY<st.next)) (bs.length) ⟨0,by omega,by omega,sl (tw @zj (tw @cg0 (tw @c1 (tw @jC @nO)))),sl (tw @zj (tw @cg0 (tw @c1 (tw @jC @nO)))),⟨⟨240016000,st_c.next+1⟩,by(simp only[go_sem, ↓reduceIte,Nat.reduceEqDiff,Nat.reduceAdd,Nat.reduceSub,Nat.reduceLeDiff,reduceCtorEq])<;>rfl,by(simp only[go_sem, ↓reduceIte,Nat.reduceEqDiff,Nat.reduceAdd,Nat.reduceSub,Nat.reduceLeDiff,reduceCtorEq])<;>rfl,by(try dsimp only);omega,by(try dsimp only);omega⟩⟩ ?_
 rintro n_f env_f st_f ⟨j,rfl,fle,f15,fg0,fI0⟩ ffr
 have f1:=ffr 1 (by kernel_rfl);have f10:=ffr 10 (by kernel_rfl);have f11:=ffr 11 (by kernel_rfl)
 simp only[go_sem, ↓reduceIte,Nat.reduceEqDiff,Nat.reduceAdd,Nat.reduceSub,Nat.reduceLeDiff,reduceCtorEq,zj,cg0,c1,jC,nO]at f1 f10 f11
 clear ffr
 obtain⟨p,f14,fg,OC,IT⟩:=fI0
 have x1:=cZ (a:=⟨240008001,st_a.next+1+1⟩) (b:=p) (by(try dsimp only);omega)
 have AK:=dP IT
 have hvn:st_a.next+1+1<st_f.next:=by omega
 have I9:=dP (i:=⟨240008001,st_a.next+1+1⟩) (n:=st_f.next) hvn
 have uC:=(ns L (bs.take j)).2
 rw[List.length_take]at uC
 by_cases hj:(j:Int)<(bs.length:Int)
 ·have kd:∀{e:Env} {gg:Rows} {nx:Nat},(e 15=.int .i64 (IntKind.i64.wrap ((j:Int)+1)))->(gg ⟨240008001,st_a.next+1+1⟩=some ⟨true,1,dO (bV L) cnt⟩)->(∃p:Id,e 14=.own p 0 (eZ L (bs.take (j+1))).length/\gg p=some ⟨true,3,(eZ L (bs.take (j+1))).map aA⟩/\st_c.next<=p.bY/\p.bY<nx)->∃m0,m0<(bs.length)-j/\∃j:Nat,m0=(bs.length)-j/\j<=(bs.length)/\e 15=.int .i64 (j:Int)/\gg ⟨240008001,st_a.next+1+1⟩=some ⟨true,1,dO (bV L) cnt⟩/\(∃p:Id,e 14=.own p 0 (eZ L (bs.take j)).length/\gg p=some ⟨true,3,(eZ L (bs.take j)).map aA⟩/\st_c.next<=p.bY/\p.bY<nx):=fun x1 x2 x3=>⟨_,by omega,j+1,rfl,by omega,(by rw[x1,az (by omega)]),x2,x3⟩
  have nR:j<bs.length:=by omega
  have E9:(bs.map aA)[j]? =some (aA bs[j]):=by simp[nR]
  have MT:=hb _ (List.getElem_mem nR)
  have hs:=Af L (bs.take j) bs[j]
  rw[<-List.take_succ_eq_append_getElem nR]at hs
  generalize bs[j]=b at *
  have hA:=fw (f:=bV L) MT.1
  have hB:=fw (f:=bV L) MT.2
  have gM:(b.a:Int)<(cnt:Int):=by omega
  have fV:(b.b:Int)<(cnt:Int):=by omega
  have Su:=BR (bV L b.a) (bV L b.b)
  have Sv:=BQ (bV L b.a) (bV L b.b)
  rw[eN]at hA hB
  by_cases he:bV L b.a=bV L b.b
  ·rw[if_pos he,List.append_nil]at hs
   have uz:decide ((bV L b.a:Int)=(bV L b.b:Int))=true:=decide_eq_true (by rw[he])
   (try((repeat(revert hN;revert N;apply Pn.out));refine wk (tw @f15 (tw @fg0 (tw @f1 (tw @f10 (tw @f11 (tw @f14 (tw @fg (tw @hj (tw @E9 (tw @hA (tw @hB (tw @gM (tw @fV (tw @tl (tw @uz (tw @x1 (tw @AK @aA.eq_1))))))))))))))))) ?_;(repeat(refine Pn.mk ?_;intro N hN))))
   refine kd ?_ ?_ (⟨p,by rw[hs];simp only[go_sem, ↓reduceIte,Nat.reduceEqDiff,Nat.reduceAdd,Nat.reduceSub,Nat.reduceLeDiff,reduceCtorEq,f14],by rw[hs];simp only[go_sem, ↓reduceIte,Nat.reduceEqDiff,Nat.reduceAdd,Nat.reduceSub,Nat.reduceLeDiff,reduceCtorEq,fg],OC,by(try dsimp only);omega⟩)
   all_goals simp only[go_sem, ↓reduceIte,Nat.reduceEqDiff,Nat.reduceAdd,Nat.reduceSub,Nat.reduceLeDiff,reduceCtorEq,f15,fg0,f1,f10,f11]
  ·rw[if_neg he]at hs
   have uz:decide ((bV L b.a:Int)=(bV L b.b:Int))=false:=decide_eq_false fun h=>he (by omega)
   have e1:(eZ L (bs.take j)).length+1<=16777216:=by omega
   have eF:((eZ L (bs.take j)).map aA).length=(eZ L (bs.take j)).length:=by simp
   (repeat(first|((repeat(revert hN;revert N;apply Pn.out));refine wk (tw @f15 (tw @fg0 (tw @f1 (tw @f10 (tw @f11 (tw @f14 (tw @fg (tw @hj (tw @E9 (tw @hA (tw @hB (tw @gM (tw @fV (tw @tl (tw @uz (tw @x1 (tw @AK (tw @I9 (tw @e1 (tw @eF @aA.eq_1)))))))))))))))))))) ?_;(repeat(refine Pn.mk ?_;intro N hN)))|((try apply Or.inl);refine⟨_,aj.x (Su) (sd (tw @f15 (tw @fg0 (tw @f1 (tw @f10 (tw @f11 (tw @f14 (tw @fg (tw @hj (tw @E9 (tw @hA (tw @hB (tw @gM (tw @fV (tw @tl (tw @uz (tw @x1 (tw @AK (tw @I9 (tw @e1 (tw @eF @aA.eq_1))))))))))))))))))))),?_⟩;refine hN _ _ ?_;clear hN N)|((try apply Or.inl);refine⟨_,aj.x (Sv) (sd (tw @f15 (tw @fg0 (tw @f1 (tw @f10 (tw @f11 (tw @f14 (tw @fg (tw @hj (tw @E9 (tw @hA (tw @hB (tw @gM (tw @fV (tw @tl (tw @uz (tw @x1 (tw @AK (tw @I9 (tw @e1 (tw @eF @aA.eq_1))))))))))))))))))))),?_⟩;refine hN _ _ ?_;clear hN N)))
   refine kd ?_ ?_ (⟨⟨240023014,st_f.next+1+1+1+1⟩,by rw[hs,List.length_append];simp only[go_sem, ↓reduceIte,Nat.reduceEqDiff,Nat.reduceAdd,Nat.reduceSub,Nat.reduceLeDiff,reduceCtorEq,List.length_cons,List.length_nil],by rw[hs,List.map_append,List.map_cons,List.map_nil];simp only[go_sem, ↓reduceIte,Nat.reduceEqDiff,Nat.reduceAdd,Nat.reduceSub,Nat.reduceLeDiff,reduceCtorEq,aA],by(try dsimp only);omega,by(try dsimp only);omega⟩)
   all_goals simp only[go_sem, ↓reduceIte,Nat.reduceEqDiff,Nat.reduceAdd,Nat.reduceSub,Nat.reduceLeDiff,reduceCtorEq,f15,fg0,f1,f10,f11,x1,I9]
 ·have gP:j=bs.length:=by omega
  subst gP
  rw[List.take_length]at f14 fg
  (try((repeat(revert hN;revert N;apply Pn.out));refine wk (tw @f15 (tw @fg0 (tw @f1 (tw @f10 (tw @f11 (tw @f14 (tw @hj @sN))))))) ?_;(repeat(refine Pn.mk ?_;intro N hN))))
  refine iW (.inl rfl) (r1:=.int .i64 ((leads cnt L).length:Int)) (sd @Nat.zero_add) (by simp only[go_sem, ↓reduceIte,Nat.reduceEqDiff,Nat.reduceAdd,Nat.reduceSub,Nat.reduceLeDiff,reduceCtorEq];rfl) ?_
  have h1:gD st_f.get 5 (.own p 0 (eZ L bs).length)=some (.sl ((eZ L bs).map aA)):=eY (sz:=3) fg rfl fun b=>ur _ 3 b
  simp only[dt,aS,bd,dr,h1,Option.map_some]
end Go.Proofs.YtgoljkjaameagaaGreat.V

namespace Go.Proofs.YtgoljkjaameagaaGreat.V
def EJ (bs:List PB) (e v:Nat):Prop:=(cr bs e).a=v∨(cr bs e).b=v
def jc (bs:List PB) (m v:Nat):List Nat:=(List.range m).filter fun i=>(cr bs i).a==v||(cr bs i).b==v
theorem rN {bs:List PB} {m v e:Nat}:e∈jc bs m v↔e<m/\EJ bs e v:=by simp[jc,EJ]
theorem Gs (bs:List PB) (m v:Nat):jc bs (m+1) v=jc bs m v++if (cr bs m).a=v∨(cr bs m).b=v then[m]else[]:=by
 unfold jc
 rw[List.range_succ,List.filter_append]
 congr 1
 by_cases h:(cr bs m).a=v<;>by_cases h2:(cr bs m).b=v<;>simp[h,h2]
theorem rM (bs:List PB) (m v:Nat):(jc bs m v).length<=m:=by
 have:=List.length_filter_le (fun i=>(cr bs i).a==v||(cr bs i).b==v) (List.range m)
 simpa[jc]using this
def nB (cnt:Nat) (bs:List PB):Prop:=∀e,e<bs.length->(cr bs e).a<cnt/\(cr bs e).b<cnt/\(cr bs e).a≠(cr bs e).b
theorem oV {cnt:Nat} {bs:List PB} (h:nB cnt bs) {e v:Nat} (he:e<bs.length):bW bs e v<cnt:=by
 have:=h e he;unfold bW;split;exact this.2.1;exact this.1
theorem JF {cnt:Nat} {bs:List PB} (h:nB cnt bs) {e v:Nat} (he:e<bs.length) (hi:EJ bs e v):bW bs e v≠v:=by
 have h1:=(h e he).2.2
 unfold bW
 split
 ·rename_i ha;rw[<-ha];exact fun h=>h1 h.symm
 ·rename_i ha;rcases hi with hi|hi
  ·exact absurd hi ha
  ·rw[<-hi];exact h1
theorem yN {bs:List PB} {e v:Nat}:EJ bs e (bW bs e v):=by
 unfold bW EJ;split
 ·exact .inr rfl
 ·exact .inl rfl
theorem oW {cnt:Nat} {bs:List PB} (h:nB cnt bs) {e v:Nat} (he:e<bs.length) (hi:EJ bs e v):bW bs e (bW bs e v)=v:=by
 have h1:=(h e he).2.2
 unfold bW
 by_cases ha:(cr bs e).a=v
 ·rw[if_pos ha,if_neg h1];exact ha
 ·rw[if_neg ha,if_pos rfl]
  rcases hi with hi|hi
  ·exact absurd hi ha
  ·exact hi
structure za (cnt:Nat) (bs:List PB) (f:Nat->Int) (y:Nat) (out:Nat->Int):Prop where
 lo:∀v,v<cnt->-1<=out v/\out v<=cnt
 first:out y=0
 zero:∀v,v<cnt->out v=0->v=y
 down:∀v,v<cnt->0<out v->∃e,e<bs.length/\EJ bs e v/\0<fJ bs f e v/\out (bW bs e v)=out v-1
 shut:∀e v,e<bs.length->EJ bs e v->0<=out (bW bs e v)->0<fJ bs f e v->0<=out v
structure AD (cnt:Nat) (bs:List PB) (f:Nat->Int) (y:Nat) (out:Nat->Int) (Q:List Nat) (i:Nat):Prop where
 nd:Q.Nodup
 lt:∀x∈Q,x<cnt
 iff:∀v,v<cnt->(0<=out v↔v∈Q)
 lo:∀v,v<cnt->-1<=out v
 first:out y=0
 up:∀j (h:j<Q.length),out Q[j]<=j
 zero:∀v,v<cnt->out v=0->v=y
 down:∀v,v<cnt->0<out v->∃e,e<bs.length/\EJ bs e v/\0<fJ bs f e v/\out (bW bs e v)=out v-1
 shut:∀j (h:j<Q.length),j<i->∀e,e<bs.length->EJ bs e Q[j]->0<fJ bs f e (bW bs e Q[j])->0<=out (bW bs e Q[j])
section
variable {cnt:Nat} {bs:List PB} {f:Nat->Int} {y:Nat} {out:Nat->Int} {Q:List Nat} {i:Nat}
theorem AD.start (hy:y<cnt):AD cnt bs f y (fun v=>if v=y then 0 else -1) [y] 0 where
 nd:=by simp
 lt:=fun x hx=>by rw[List.mem_singleton.1 hx];exact hy
 iff:=fun v _=>by
  by_cases h:v=y<;>simp[h]
 lo:=fun v _=>by split<;>omega
 first:=if_pos rfl
 up:=fun j h=>by
  have:j=0:=by simp at h;omega
  subst this;simp
 zero:=fun v _ h=>by
  by_cases hv:v=y
  ·exact hv
  ·rw[if_neg hv]at h;omega
 down:=fun v _ h=>by
  by_cases hv:v=y
  ·rw[if_pos hv]at h;omega
  ·rw[if_neg hv]at h;omega
 shut:=fun j h hj=>by omega
theorem AD.len (h:AD cnt bs f y out Q i):Q.length<=cnt:=oR cnt Q h.nd h.lt
theorem AD.visit (h:AD cnt bs f y out Q i) (ok:nB cnt bs) (hi:i<Q.length) {e:Nat} (he:e<bs.length) (pV:EJ bs e Q[i]) (j9:out (bW bs e Q[i])<0) (gx:0<fJ bs f e (bW bs e Q[i])):
  AD cnt bs f y (fun v=>if v=bW bs e Q[i]then out Q[i]+1 else out v) (Q++[bW bs e Q[i]]) i:=by
 have M6:0<=out Q[i]:=(h.iff _ (h.lt _ (List.getElem_mem hi))).2 (List.getElem_mem hi)
 have hq:=oV ok (v:=Q[i]) he
 have ik:=JF ok he pV
 have SS:=oW ok he pV
 have Uy:bW bs e Q[i]∉Q:=fun hm=>by have:=(h.iff _ hq).2 hm;omega
 have kr:=h.up i hi
 generalize hw:bW bs e Q[i]=w at *
 have oO:∀v,0<=out v->(if v=w then out Q[i]+1 else out v)=out v:=fun v hv=>by
  rw[if_neg];rintro rfl;omega
 have mono:∀v,0<=out v->0<=(if v=w then out Q[i]+1 else out v):=fun v hv=>by rw[oO v hv];exact hv
 refine⟨?_,?_,?_,?_,?_,?_,?_,?_,?_⟩
 ·rw[List.nodup_append]
  exact⟨h.nd,by simp,fun a ha b hb=>by rw[List.mem_singleton.1 hb];rintro rfl;exact Uy ha⟩
 ·intro x hx
  rcases List.mem_append.1 hx with hx|hx
  ·exact h.lt x hx
  ·rw[List.mem_singleton.1 hx];exact hq
 ·intro v hv
  by_cases HE:v=w
  ·subst HE;simp;omega
  ·rw[if_neg HE,h.iff v hv];simp[HE]
 ·intro v hv
  by_cases HE:v=w
  ·rw[if_pos HE];omega
  ·rw[if_neg HE];exact h.lo v hv
 ·rw[oO y (by rw[h.first];exact Int.le_refl _)];exact h.first
 ·intro j hj
  by_cases gP:j<Q.length
  ·rw[List.getElem_append_left gP,oO _ ((h.iff _ (h.lt _ (List.getElem_mem gP))).2 (List.getElem_mem gP))]
   exact h.up j gP
  ·have HA:j=Q.length:=by simp at hj;omega
   subst HA
   simp
   omega
 ·intro v hv h0
  by_cases HE:v=w
  ·rw[if_pos HE]at h0;omega
  ·rw[if_neg HE]at h0;exact h.zero v hv h0
 ·intro v hv h0
  by_cases HE:v=w
  ·subst HE
   rw[if_pos rfl]
   refine⟨e,he,by rw[<-hw];exact yN,gx,?_⟩
   rw[SS,oO _ M6];omega
  ·rw[if_neg HE]at h0 ⊢
   obtain⟨e',h1,h2,h3,h4⟩:=h.down v hv h0
   exact⟨e',h1,h2,h3,by rw[oO _ (by omega)];exact h4⟩
 ·intro j hj mV e' Ln MY hr
  have gP:j<Q.length:=by omega
  rw[List.getElem_append_left gP]at MY hr ⊢
  exact mono _ (h.shut j gP mV e' Ln MY hr)
theorem AD.next (h:AD cnt bs f y out Q i) (hi:i<Q.length) (hs:∀e∈jc bs bs.length Q[i],0<fJ bs f e (bW bs e Q[i])->0<=out (bW bs e Q[i])):AD cnt bs f y out Q (i+1):=
 ⟨h.nd,h.lt,h.iff,h.lo,h.first,h.up,h.zero,h.down,fun j hj mV e he pV hr=>by
  by_cases HA:j=i
  ·subst HA;exact hs e (rN.2 ⟨he,pV⟩) hr
  ·exact h.shut j hj (by omega) e he pV hr⟩
theorem AD.done (h:AD cnt bs f y out Q i) (ok:nB cnt bs) (hi:Q.length<=i):za cnt bs f y out where
 lo:=fun v hv=>⟨h.lo v hv,by
  by_cases h0:0<=out v
  ·obtain⟨j,hj,rfl⟩:=List.getElem_of_mem ((h.iff v hv).1 h0)
   have:=h.up j hj
   have:=h.len
   omega
  ·omega⟩
 first:=h.first
 zero:=h.zero
 down:=h.down
 shut:=fun e v he pV h0 hr=>by
  obtain⟨j,hj,Lt⟩:=List.getElem_of_mem ((h.iff _ (oV ok he)).1 h0)
  have h2:=h.shut j hj (by omega) e he (by rw[Lt];exact yN)
  rw[Lt,oW ok he pV]at h2
  exact h2 hr
end
end Go.Proofs.YtgoljkjaameagaaGreat.V

namespace Go.Proofs.YtgoljkjaameagaaGreat.V
open Go.RowKit
def AV.clean:AV->Bool
 | .int .. | .bool _| .str _| .cm| .gT| .jd| .jl| .own .. | .ptr .. | .map .. | .rl _=>true
 | .sl l=>l.isEmpty
 |_=>false
def AV.zo:AV->Bool
 | .agg cs=>cs.all AV.clean
 | .gy cs=>cs.all fun a=>match a with
  | .agg cs=>cs.all AV.clean
  |a=>a.clean
 |a=>a.clean
def yZ (ids:List Id) (g g':Rows):Rows:=fun id=>if id∈ids then g' id else g id
theorem r8 {ids:List Id} {g g':Rows} {id:Id} (h:id∈ids):yZ ids g g' id=g' id:=if_pos h
theorem pP {ids:List Id} {g g':Rows} {id:Id} (h:id∉ids):yZ ids g g' id=g id:=if_neg h
section
variable {P:Program} {w w':World} {D D' D1 D2:Nat->Prop} {ι ι1 ι2:Names}
theorem jV {a:AV} {v:Value} (hp:a.clean=true) (h:cW P w D1 ι1 a v):cW P w D2 ι1 a v:=by
 cases h with
 |eQ a v h=>
  cases h with
  |int=>exact .eQ _ _ (.int _ _)
  |bool=>exact .eQ _ _ (.bool _)
  |str=>exact .eQ _ _ (.str _)
  |cm=>exact .eQ _ _ .cm
  |gT=>exact .eQ _ _ .gT
  |jd=>exact .eQ _ _ .jd
  |jl=>exact .eQ _ _ .jl
  |AL a c h=>exact .eQ _ _ (.AL a c h)
  |sl rows b o n c sz vs h1 h2 h3=>
   have:rows=[]:=by simpa[AV.clean]using hp
   subst this
   simp only[List.length_nil]at h1
   subst h1
   exact .eQ _ _ (.AL _ _ h3)
  |cR=>simp[AV.clean]at hp
  |agg=>simp[AV.clean]at hp
  |fn=>simp[AV.clean]at hp
 |own id off len o cap B h1 h2 h3 h4 h5 h6=>exact .own id off len o cap B h1 h2 h3 h4 h5 h6
 |map id m B h1 h2=>exact .map id m B h1 h2
 |rl id c B h1 h2=>exact .rl id c B h1 h2
 |ptr id i off B h1 h2=>exact .ptr id i off B h1 h2
 |agg=>simp[AV.clean]at hp
 |gy=>simp[AV.clean]at hp
 |fn=>simp[AV.clean]at hp
 |tN=>simp[AV.clean]at hp
theorem mb {cs:List AV} {v:Value} (hc:cs.all AV.clean=true) (h:cW P w D1 ι1 (.agg cs) v):cW P w D2 ι1 (.agg cs) v:=by
 obtain⟨vs,f,rfl,h1,h2,h3,h4⟩:=iX h
 rw[List.all_eq_true]at hc
 exact .agg cs vs f h1 h2 h3 fun j a ha=>jV (hc a (List.mem_of_getElem? ha)) (h4 j a ha)
theorem Ec {a:AV} {v:Value} (hp:a.zo=true) (h:cW P w D1 ι1 a v):cW P w D2 ι1 a v:=by
 cases a with
 |agg cs=>exact mb hp h
 |gy cs=>
  obtain⟨vs,f,rfl,h1,h3,h4⟩:=uI h
  simp only[AV.zo,List.all_eq_true]at hp
  refine .gy cs vs f h1 h3 fun j a ha=>?_
  have:=hp a (List.mem_of_getElem? ha)
  split at this
  ·exact mb this (h4 j _ ha)
  ·exact jV this (h4 j _ ha)
 |_=>exact jV hp h
theorem D7 {ag:Bool} {n:Nat} {cs:List AV} {x:AV} {v:Value} (hc:∀a∈cs,a.clean=true) (hp:part ag n cs=some x) (hr:cW P w D1 ι1 x v):cW P w D2 ι1 x v:=by
 unfold part at hp
 split at hp
 ·split at hp
  ·simp only[Option.some.injEq]at hp;subst hp
   exact mb (List.all_eq_true.2 fun a ha=>hc a (List.mem_of_mem_take ha)) hr
  ·cases hp
 ·exact jV (hc x (List.mem_of_mem_head? hp)) hr
theorem gO.clean {B:si} {r:Row} (R:gO P w D1 ι1 B r) (h:∀cs∈r.rows,∀a∈cs,a.clean=true):gO P w D2 ι1 B r:=
 ⟨R.sz,R.flat,fun hk=>⟨R.sz,(R.row hk).xo,(R.row hk).fits,(R.row hk).len,R.flat,fun i j cs a hi hj=>by
  obtain⟨v,q1,q2⟩:=(R.row hk).at_ i j cs a hi hj
  exact⟨v,q1,jV (h cs (List.mem_of_getElem? hi) a (List.mem_of_getElem? hj)) q2⟩⟩,fun m hm=>by
  obtain⟨h1,es,c,h2,h3,h5,h4⟩:=R.map m hm
  refine⟨h1,es,c,h2,h3,h5,fun i cs hi=>?_⟩
  obtain⟨e,kv,vv,q1,q2,q3,q4,q5⟩:=h4 i cs hi
  have hc:=h cs (List.mem_of_getElem? hi)
  exact⟨e,kv,vv,q1,q2,q3,D7 hc q2 q4,jV (hc vv (List.mem_of_getElem? q3)) q5⟩,fun c hc=>by
  obtain⟨h1,buf,s,q,h2,h3,h4⟩:=R.chan c hc
  refine⟨h1,buf,s,q,h2,h3,fun i cs hi=>?_⟩
  obtain⟨a,u,rfl,q2,q3⟩:=h4 i cs hi
  exact⟨a,u,rfl,q2,jV (h [a] (List.mem_of_getElem? hi) a (by simp)) q3⟩⟩
def Handed (ids:List Id) (g:Rows):Prop:=∀id∈ids,∃r,g id=some r/\r.w=true/\∀cs∈r.rows,∀a∈cs,a.clean=true
theorem Ho {f:Nat} {args eC:List AV} {g:Rows} {n:Nat} {K:AV->aw->Prop} (hv:dc (dD g) 6 args=some eC)
  (h:Sound P f eC ⟨fun _=>none,n⟩ fun r σ'=>∃ids,r.zo=true/\Handed ids σ'.get/\K r ⟨yZ ids g σ'.get,σ'.next⟩):Sound P f args ⟨g,n⟩ K:=by
 intro hs D ι w vs S U A
 let E:Nat->Prop:=fun b=>D b∨∃id r B,g id=some r/\ι id=some B/\b=B.b
 have lt:∀id r B,g id=some r->ι id=some B->B.b<w.heap.size:=fun id r B h1 h2=>by
  obtain⟨B',dF,R,_⟩:=S.row id r h1
  rw[h2]at dF;injection dF with dF;subst dF
  exact R.lt
 have S0:gw P w.heap.size E ι (fun _=>none) w:=⟨Nat.le_refl _,fun b hb=>by
  rcases hb with hb|⟨id,r,B,h1,h2,rfl⟩
  ·exact S.dead b hb
  ·exact lt id r B h1 h2,fun id r h=>(by cases h),fun id j0 r r' B B' h=>(by cases h)⟩
 obtain⟨l1,l2⟩:=gG hv
 have A':fA P w E ι eC vs:=⟨by rw[A.1,l1],fun j a hj=>by
  obtain⟨a0,lu,hz⟩:=l2 j a hj
  obtain⟨u,hu,hr⟩:=A.2 j a0 lu
  refine⟨u,hu,(rD (D2:=E) (ι2:=ι) (fun b h=>.inl h) (fun id row hg hw=>?_) 6 a0 u a hr hz).1⟩
  unfold dD at hg
  simp only[Option.map_eq_some_iff]at hg
  obtain⟨r,nY,rfl⟩:=hg
  obtain⟨B,hB,R,_,_⟩:=S.row id r nY
  exact⟨B,hB,R.flag true,.inr ⟨id,r,B,nY,hB,rfl⟩⟩⟩
 refine(h w.heap.size E ι w vs S0 U A').mono ?_
 rintro e w' ⟨r0,g',n',D2,ι1,u,rfl,⟨ids,ly,hid,hK⟩,T,S1,U1,hn,hR⟩
 have hb:∀b,b<w.heap.size->w'.heap[b]? =w.heap[b]? :=T.below.block
 have hz:=T.below.size
 have frame:∀{a v},cW P w D ι a v->cW P w' D ι1 a v:=fun h=>h.frame (fun b hd=>hb b (S.dead b hd)) (fun _ h=>h) T.names
 refine⟨r0,_,n',D,ι1,u,rfl,hK,⟨T.below.mono S.lo,fun b hd=>hb b (S.dead b hd),fun _ h=>h,T.names,fun _ h=>.inl h⟩,⟨Nat.le_trans S.lo hz,fun b hd=>Nat.lt_of_lt_of_le (S.dead b hd) hz,fun id r hr=>?_,fun RD id2 r1 r2 B1 B2 h1 h2 hw AH pU MS=>?_⟩,U1,hn,Ec ly hR⟩
 ·by_cases hi:id∈ids
  ·rw[r8 hi]at hr
   obtain⟨r',nY,hw,hcr⟩:=hid id hi
   rw[hr]at nY;injection nY with nY;subst nY
   obtain⟨B,hB,R,k1,k2⟩:=S1.row id r hr
   have jZ:=k1 hw
   exact⟨B,hB,R.clean hcr,fun _=>Nat.le_trans S.lo jZ,fun _ hd=>Nat.lt_irrefl _ (Nat.lt_of_lt_of_le (S.dead _ hd) jZ)⟩
  ·rw[pP hi]at hr
   obtain⟨B,hB,R,k1,k2⟩:=S.row id r hr
   have Sn:=lt id r B hr hB
   exact⟨B,T.names _ _ hB,R.frame (hb _ Sn) fun a v h=>frame h,k1,k2⟩
 ·have new:∀{id r B},id∈ids->yZ ids g g' id=some r->ι1 id=some B->w.heap.size<=B.b/\g' id=some r/\r.w=true:=fun {id r B} hi hr hB=>by
   rw[r8 hi]at hr
   obtain⟨r',nY,hw,_⟩:=hid id hi
   replace nY:g' id=some r':=nY
   rw[hr]at nY;injection nY with nY;subst nY
   obtain⟨B',dF,_,k1,_⟩:=S1.row id r hr
   rw[hB]at dF;injection dF with dF;subst dF
   exact⟨k1 hw,hr,hw⟩
  have yL:∀{id r B},id∉ids->yZ ids g g' id=some r->ι1 id=some B->B.b<w.heap.size/\g id=some r/\ι id=some B:=fun {id r B} hi hr hB=>by
   rw[pP hi]at hr
   obtain⟨B',dF,_⟩:=S.row id r hr
   have:=T.names _ _ dF
   rw[hB]at this;injection this with this;subst this
   exact⟨lt id r _ hr dF,hr,dF⟩
  by_cases i1:RD∈ids
  ·obtain⟨a1,a2,a3⟩:=new i1 h1 AH
   by_cases i2:id2∈ids
   ·obtain⟨b1,b2,b3⟩:=new i2 h2 pU
    exact S1.inj RD id2 r1 r2 B1 B2 a2 b2 hw AH pU MS
   ·obtain⟨b1,_⟩:=yL i2 h2 pU
    omega
  ·obtain⟨a1,a2,a3⟩:=yL i1 h1 AH
   by_cases i2:id2∈ids
   ·obtain⟨b1,_⟩:=new i2 h2 pU
    omega
   ·obtain⟨b1,b2,b3⟩:=yL i2 h2 pU
    exact S.inj RD id2 r1 r2 B1 B2 a2 b2 hw a3 b3 MS
theorem AM (hm:P.follows .mixedOrders=true) {f:Nat} {args eC:List AV} {σ:aw} {K:AV->aw->Prop} (hv:dc (dD σ.get) 6 args=some eC)
  (h:Call P f eC ⟨fun _=>none,σ.next⟩ fun r σ'=>∃ids,r.zo=true/\Handed ids σ'.get/\K r ⟨yZ ids σ.get σ'.get,σ'.next⟩):Call P f args σ K:=
 gQ (Ho hv (gq hm h))
end
end Go.Proofs.YtgoljkjaameagaaGreat.V

namespace Go.Proofs.YtgoljkjaameagaaGreat.V
open Go.RowKit
attribute [local irreducible] dE wpOps fS Call
attribute [local go_sem] aH fq eG fH fG cX upd bZ K.av cD AV.cells AV.cell rowOf rowsOf part ld rowAt br bP dn dR gK bx cQ eb fD eS di dW cN cL dH dI bD aW cF bB cH cG dU dX dV cE bG cP dS bz aI cJ cq gJ bj cz bE aT de aX dp AV.undef bq bt dL dQ dB dz cw ea ee cj dZ dY cI cK List.getD_cons_zero List.getD_cons_succ List.getD_nil List.all_cons List.all_nil Bool.and_true Bool.true_and Bool.and_self Bool.not_true Bool.not_false Option.map_some Option.map_none Option.bind_some Option.bind_none List.length_cons List.length_nil List.take_succ_cons List.take_zero List.take_nil List.drop_succ_cons List.drop_zero List.drop_nil List.head?_cons List.map_cons List.map_nil List.getElem?_cons_zero List.getElem?_cons_succ List.cons_append List.nil_append List.append_nil List.length_map List.set_cons_zero List.set_cons_succ Nat.reduceMul eq_self Int.toNat_natCast Int.natCast_nonneg and_self true_and and_true decide_true decide_false Bool.false_eq_true Nat.zero_add Nat.add_zero List.contains_cons List.contains_nil Bool.or_false Bool.false_or beq_self_eq_true Nat.reduceBEq ne_eq not_true_eq_false not_false_eq_true Id.mk.injEq false_and and_false Nat.reduceLT Int.reduceLE Int.reduceLT Int.reduceToNat Int.reduceNeg Int.reduceAdd Nat.le_refl List.length_append beq_true beq_false Bool.not_eq_eq_eq_not or_false false_or dD ah aq aF aY bp bK aP bc aN aV cC bF
def mo (P:Program) (f:Nat) (args:List AV) (R:AV->Prop):Prop:=∀n:Nat,Call P f args ⟨fun _=>none,n⟩ fun r0 σ'=>∃r',gD σ'.get 6 r0=some r'/\R r'
theorem aj.r {P:Program} {f:Nat} {args:List AV} {r:AV} (h:aj P f args r):mo P f args (fun r'=>r'=r):=h
theorem Gb {P:Program} {f:Nat} {args eC:List AV} {g:Rows} {n:Nat} {R:AV->Prop} (hv:dc (dD g) 6 args=some eC) (h:Sound P f eC ⟨fun _=>none,n⟩ fun r0 σ'=>∃r',gD σ'.get 6 r0=some r'/\R r'):Sound P f args ⟨g,n⟩ fun r σ'=>R r/\σ'=⟨g,n⟩:=by
 intro hs D ι w vs S U A
 refine(xO (g0:=g) (K:=R) ⟨eC,hv,h⟩ (fun _ _ h=>h) S U A).mono ?_
 rintro e w' ⟨r,D',u,rfl,hR,T,S',hr⟩
 exact⟨r,g,n,D',ι,u,rfl,⟨hR,rfl⟩,T,S',U,Nat.le_refl _,hr⟩
theorem mo.x {P:Program} (hm:P.follows .mixedOrders=true) {f:Nat} {args eC:List AV} {R:AV->Prop} (h:mo P f eC R) {σ:aw} (hv:dc (dD σ.get) 6 args=some eC):Call P f args σ fun r σ'=>R r/\σ'=σ:=
 gQ (Gb hv (gq hm (h σ.next)))
theorem mo.body {P:Program} {f:Nat} {args:List AV} {R:AV->Prop} {nt na:Nat} {body:VC} {res:List nL} (hf:mU P f=some ⟨nt,na,body,res⟩) (ha:na=args.length) (h:(∀a∈args,eE a)->∀n:Nat,dE (Call P) body (kH res fun r0 σ'=>∃r',gD σ'.get 6 r0=some r'/\R r') (bZ args) ⟨fun _=>none,n⟩):mo P f args R:=fun n=>mu hf ha fun hl=>h hl n
def eo (f:Nat->Int) (n:Nat):List (List AV):=(List.range n).map fun i=>bJ (f i)
theorem dM (f:Nat->Int) (n:Nat):(eo f n).length=n:=by simp[eo]
theorem ef {f:Nat->Int} {n i:Nat} (h:i<n):(eo f n)[i]? =some (bJ (f i)):=by simp[eo,h]
theorem ll {f g:Nat->Int} {n k:Nat} {v:Int} (hk:k<n) (hv:g k=v) (h:∀i,i<n->i≠k->g i=f i):(eo f n).set k (bJ v)=eo g n:=by
 refine List.ext_getElem? fun i=>?_
 rw[List.getElem?_set]
 by_cases hi:k=i
 ·subst hi
  rw[if_pos rfl,dM,if_pos hk,ef hk,hv]
 ·rw[if_neg hi]
  by_cases fc:i<n
  ·rw[ef fc,ef fc,h i fc (fun h=>hi h.symm)]
  ·rw[List.getElem?_eq_none (by rw[dM];omega),List.getElem?_eq_none (by rw[dM];omega)]
theorem Hh (f:Nat->Int) (n:Nat):eo f (n+1)=eo f n++[bJ (f n)]:=by simp[eo,List.range_succ]
theorem fzI (g:Rows) (n:Nat) (a:Int):dc g (n+1) (bJ a)=some (bJ a):=by simp[bJ,ah,aq,aF]
theorem Tz (g:Rows) (n:Nat) (a:Int):eA g (n+1) (bJ a)=some (bJ a):=by simp[bJ,aS,bd,dr]
theorem Kd {g:Rows} {f:Nat->Int} {n m:Nat}:iu g (m+1) (eo f n)=some (eo f n):=by
 have:eo f n=((List.range n).map f).map bJ:=by simp[eo]
 rw[this];exact oH fun x=>Tz g m x
theorem Ap {g:Rows} {f:Nat->Int} {n m:Nat}:ev g (m+1) (eo f n)=some (eo f n):=by
 have:eo f n=((List.range n).map f).map bJ:=by simp[eo]
 rw[this];exact ni fun x=>fzI g m x
def Pd (l:List Nat):AV:=if l=[]then .cm else .sl (l.map eN)
def qg (cnt:Nat) (bs:List PB) (m:Nat):List (List AV):=(List.range cnt).map fun v=>[Pd (jc bs m v)]
theorem CZ {cnt:Nat} {bs:List PB} {m v:Nat} (h:v<cnt):(qg cnt bs m)[v]? =some [Pd (jc bs m v)]:=by simp[qg,h]
def fU (cnt:Nat) (bs:List PB) (f:Nat->Int):List AV:=[.int .i64 cnt,.sl (bs.map aA),.sl (qg cnt bs bs.length),.sl (eo f bs.length)]
theorem uk {bs:List PB} {e:Nat} (h:e<bs.length):(bs.map aA)[e]? =some (aA (cr bs e)):=getD_map aA h
def Small (bs:List PB) (f:Nat->Int):Prop:=∀e,e<bs.length->(0<=(cr bs e).s/\(cr bs e).s<=4)/\-4<=f e/\f e<=4
theorem JY (cnt:Nat) (bs:List PB) (f:Nat->Int) (hs:Small bs f) (e v:Nat) (he:e<bs.length):aj Tryz.prog 297 [.cR (fU cnt bs f),.int .i64 v,.int .i64 e] (.gy [.int .i64 (fJ bs f e v),.int .i64 (bW bs e v)]):=by
 refine aj.body eH rfl fun hl n0=>?_
 clear hl
 have hb:=uk he
 have hf:=ef (f:=f) he
 obtain⟨⟨s0,s1⟩,s2,s3⟩:=hs e he
 have w1:IntKind.i64.wrap ((cr bs e).s-f e)=(cr bs e).s-f e:=bU (by omega)
 have w2:IntKind.i64.wrap ((cr bs e).s+f e)=(cr bs e).s+f e:=bU (by omega)
 unfold fJ bW
 generalize cr bs e=b at *
 by_cases h:b.a=v
 ·have hd:decide ((b.a:Int)=(v:Int))=true:=decide_eq_true (by rw[h])
  (try((repeat(revert hN;revert N;apply Pn.out));refine wk (tw @fU.eq_1 (tw @hb (tw @hf (tw @aA.eq_1 (tw @bJ.eq_1 (tw @hd (tw @w1 @w2))))))) ?_;(repeat(refine Pn.mk ?_;intro N hN))))
  refine iW (.inl rfl) (by simp only[go_sem, ↓reduceIte,Nat.reduceEqDiff,Nat.reduceAdd,Nat.reduceSub,Nat.reduceLeDiff,reduceCtorEq];rfl) (by simp only[go_sem, ↓reduceIte,Nat.reduceEqDiff,Nat.reduceAdd,Nat.reduceSub,Nat.reduceLeDiff,reduceCtorEq];rfl) ?_
  simp only[dt,aS,bd,dr,Option.map_some,if_pos h]
 ·have hd:decide ((b.a:Int)=(v:Int))=false:=decide_eq_false fun hc=>h (by omega)
  (try((repeat(revert hN;revert N;apply Pn.out));refine wk (tw @fU.eq_1 (tw @hb (tw @hf (tw @aA.eq_1 (tw @bJ.eq_1 (tw @hd (tw @w1 @w2))))))) ?_;(repeat(refine Pn.mk ?_;intro N hN))))
  refine iW (.inl rfl) (by simp only[go_sem, ↓reduceIte,Nat.reduceEqDiff,Nat.reduceAdd,Nat.reduceSub,Nat.reduceLeDiff,reduceCtorEq];rfl) (by simp only[go_sem, ↓reduceIte,Nat.reduceEqDiff,Nat.reduceAdd,Nat.reduceSub,Nat.reduceLeDiff,reduceCtorEq];rfl) ?_
  simp only[dt,aS,bd,dr,Option.map_some,if_neg h]
theorem FA (cnt:Nat) (hn:cnt<=1048576) (bs:List PB) (ok:nB cnt bs) (nX:bs.length<=1048576) (f:Nat->Int) (hs:Small bs f) (y:Nat) (hy:y<cnt):
  mo Tryz.prog 253 [.cR (fU cnt bs f),.int .i64 y] fun r=>∃out,r=.sl (eo out cnt)/\za cnt bs f y out:=by
 refine mo.body eH rfl fun hl n0=>?_
 clear hl
 (try((repeat(revert hN;revert N;apply Pn.out));refine wk @fU.eq_1 ?_;(repeat(refine Pn.mk ?_;intro N hN))))
 refine aZ (fun n env st=>∃k:Nat,n=(cnt)-k/\k<=(cnt)/\env 6=.int .i64 (k:Int)/\(∃o:Id,env 5=.own o 0 k/\st.get o=some ⟨true,1,eo (fun _=>-1) k⟩/\o.bY<st.next)) (cnt) ⟨0,by omega,by omega,sl @fU.eq_1,⟨⟨253001000,n0+1⟩,by(simp only[go_sem, ↓reduceIte,Nat.reduceEqDiff,Nat.reduceAdd,Nat.reduceSub,Nat.reduceLeDiff,reduceCtorEq])<;>rfl,by(simp only[go_sem, ↓reduceIte,Nat.reduceEqDiff,Nat.reduceAdd,Nat.reduceSub,Nat.reduceLeDiff,reduceCtorEq])<;>rfl,by(try dsimp only);omega⟩⟩ ?_
 rintro n_a env_a st_a ⟨k,rfl,ale,a6,qQ⟩ ez
 have a0:=ez 0 (by kernel_rfl);have a1:=ez 1 (by kernel_rfl)
 simp only[go_sem, ↓reduceIte,Nat.reduceEqDiff,Nat.reduceAdd,Nat.reduceSub,Nat.reduceLeDiff,reduceCtorEq,fU]at a0 a1
 clear ez
 obtain⟨o,a5,ag,yl⟩:=qQ
 have tl:=dM (fun _=>-1) k
 have so:=dP yl
 by_cases hk:(k:Int)<(cnt:Int)
 ·have dd:∀{e:Env} {gg:Rows} {nx:Nat},(e 6=.int .i64 (IntKind.i64.wrap ((k:Int)+1)))->(∃o:Id,e 5=.own o 0 (k+1)/\gg o=some ⟨true,1,eo (fun _=>-1) (k+1)⟩/\o.bY<nx)->∃m0,m0<(cnt)-k/\∃k:Nat,m0=(cnt)-k/\k<=(cnt)/\e 6=.int .i64 (k:Int)/\(∃o:Id,e 5=.own o 0 k/\gg o=some ⟨true,1,eo (fun _=>-1) k⟩/\o.bY<nx):=fun x1 x2=>⟨_,by omega,k+1,rfl,by omega,(by rw[x1,az (by omega)]),x2⟩
  have e1:k+1<=16777216:=by omega
  have sP:eo (fun _=>-1) k++[[.int .i64 (-1)]]=eo (fun _=>-1) (k+1):=(Hh _ _).symm
  (try((repeat(revert hN;revert N;apply Pn.out));refine wk (tw @a6 (tw @a0 (tw @a1 (tw @a5 (tw @ag (tw @so (tw @hk (tw @tl (tw @e1 (tw @sP @fU.eq_1)))))))))) ?_;(repeat(refine Pn.mk ?_;intro N hN))))
  exact dd (sd (tw @a6 (tw @a0 (tw @a1 @fU.eq_1)))) (⟨⟨253005002,st_a.next+1⟩,sd @Nat.zero_add,sd @sP,by(try dsimp only);omega⟩)
 have kq:k=cnt:=by omega
 subst kq
 have S7:(y:Int)<(k:Int):=by omega
 have hym:=ef (f:=fun _=>-1) hy
 have BE:(eo (fun _=>-1) k).set y (bJ 0)=eo (fun v=>if v=y then 0 else -1) k:=ll hy (if_pos rfl) fun i _ hi=>if_neg hi
 rw[bJ]at BE hym
 (try((repeat(revert hN;revert N;apply Pn.out));refine wk (tw @a6 (tw @a0 (tw @a1 (tw @a5 (tw @ag (tw @so (tw @hk (tw @tl (tw @S7 (tw @hym (tw @BE @fU.eq_1))))))))))) ?_;(repeat(refine Pn.mk ?_;intro N hN))))
 refine aZ (fun m env st=>∃(i:Nat) (out:Nat->Int) (Q:List Nat) (p:Id),m=k-i/\env 8=.int .i64 (i:Int)/\env 7=.own p 0 Q.length/\st.get p=some ⟨true,1,Q.map eN⟩/\st.get o=some ⟨true,1,eo out k⟩/\o.bY<p.bY/\p.bY<st.next/\AD k bs f y out Q i/\i<=Q.length) k ⟨0,_,[y],⟨253007001,st_a.next+1+1⟩,by omega,by(simp only[go_sem, ↓reduceIte,Nat.reduceEqDiff,Nat.reduceAdd,Nat.reduceSub,Nat.reduceLeDiff,reduceCtorEq])<;>rfl,by(simp only[go_sem, ↓reduceIte,Nat.reduceEqDiff,Nat.reduceAdd,Nat.reduceSub,Nat.reduceLeDiff,reduceCtorEq])<;>rfl,by(simp only[go_sem, ↓reduceIte,Nat.reduceEqDiff,Nat.reduceAdd,Nat.reduceSub,Nat.reduceLeDiff,reduceCtorEq])<;>rfl,sd @so,by(try dsimp only);omega,by(try dsimp only);omega,AD.start hy,by simp⟩ ?_
 rintro n env_b st_b ⟨i,out,Q,p,rfl,b8,b7,bgp,bgo,ew,hpn,hB,hiq⟩ fM
 have b0:=fM 0 (by kernel_rfl)
 have b5:=fM 5 (by kernel_rfl)
 simp only[go_sem, ↓reduceIte,Nat.reduceEqDiff,Nat.reduceAdd,Nat.reduceSub,Nat.reduceLeDiff,reduceCtorEq,a6,a0,a1,a5,fU]at b0 b5
 clear fM
 have P9:=hB.len
 have Tb:=dM out k
 have hqm:(Q.map eN).length=Q.length:=by simp
 have AK:=dP hpn
 have nI:=dP (i:=o) (n:=st_b.next) (by omega)
 by_cases hi:(i:Int)<(Q.length:Int)
 ·have fc:i<Q.length:=by omega
  have jM:(Q.map eN)[i]? =some (eN Q[i]):=by simp[fc]
  have M6:=hB.lt _ (List.getElem_mem fc)
  obtain⟨vt,OL⟩:∃vt,vt=Q[i]:=⟨_,rfl⟩
  rw[<-OL]at jM M6
  have hA:=CZ (cnt:=k) (bs:=bs) (m:=bs.length) M6
  have LB:(vt:Int)<(k:Int):=by omega
  have lO:=rM bs bs.length vt
  have hme:∀x,x<(jc bs bs.length vt).length->(jc bs bs.length vt).getD x 0<bs.length/\EJ bs ((jc bs bs.length vt).getD x 0) vt:=fun x hx=>by
   rw[List.getD_eq_getElem?_getD,List.getElem?_eq_getElem hx]
   exact rN.1 (List.getElem_mem hx)
  have Re:∀e∈jc bs bs.length vt,∃x,x<(jc bs bs.length vt).length/\(jc bs bs.length vt).getD x 0=e:=fun e he=>by
   obtain⟨x,hx,rfl⟩:=List.getElem_of_mem he
   exact⟨x,hx,by rw[List.getD_eq_getElem?_getD,List.getElem?_eq_getElem hx];rfl⟩
  generalize hIn:jc bs bs.length vt=I at *
  unfold Pd at hA
  by_cases KD:I=[]
  ·rw[if_pos KD]at hA
   have hI1:I.length=0:=by rw[KD];rfl
   (try((repeat(revert hN;revert N;apply Pn.out));refine wk (tw @b0 (tw @b5 (tw @b7 (tw @b8 (tw @bgp (tw @hi (tw @jM (tw @hqm (tw @eN.eq_1 @fU.eq_1))))))))) ?_;(repeat(refine Pn.mk ?_;intro N hN))))
   refine aZ (fun n env st=>∃x:Nat,n=(I.length)-x/\x<=(I.length)/\env 10=.int .i64 (x:Int)/\(∃(iV:Nat->Int) (Q':List Nat) (p':Id),env 7=.own p' 0 Q'.length/\st.get p'=some ⟨true,1,Q'.map eN⟩/\st.get o=some ⟨true,1,eo iV k⟩/\o.bY<p'.bY/\p'.bY<st.next/\AD k bs f y iV Q' i/\(∃h:i<Q'.length,Q'[i]=vt)/\(∀z,z<x->0<fJ bs f (I.getD z 0) (bW bs (I.getD z 0) vt)->0<=iV (bW bs (I.getD z 0) vt)))) (I.length) ⟨0,by omega,by omega,sl (tw @b0 (tw @b5 (tw @b8 @fU.eq_1))),⟨out,Q,p,sd @b7,sd @bgp,sd @bgo,ew,by(try dsimp only);omega,hB,⟨fc,OL.symm⟩,fun z hz=>by omega⟩⟩ ?_
   rintro n_c env_c st_c ⟨x,rfl,cle,jC,cI0⟩ cfr
   have c0:=cfr 0 (by kernel_rfl);have c5:=cfr 5 (by kernel_rfl);have c8:=cfr 8 (by kernel_rfl);have c9:=cfr 9 (by kernel_rfl)
   simp only[go_sem, ↓reduceIte,Nat.reduceEqDiff,Nat.reduceAdd,Nat.reduceSub,Nat.reduceLeDiff,reduceCtorEq,b0,b5,b8,fU]at c0 c5 c8 c9
   clear cfr
   obtain⟨iV,Q',p',c7,Ie,xY,DD,OD,dF,⟨xx,qC⟩,KR⟩:=cI0
   have UL:=dF.len
   have Pm:=dM iV k
   have OE:(Q'.map eN).length=Q'.length:=by simp
   have zI:=dP OD
   have mE:=dP (i:=o) (n:=st_c.next) (by omega)
   have x1:=cZ DD
   have hx:¬(x:Int)<((0:Nat):Int):=by omega
   have hxe:x=I.length:=by omega
   have hw:IntKind.i64.wrap ((i:Int)+1)=((i+1:Nat):Int):=az (by omega)
   (try((repeat(revert hN;revert N;apply Pn.out));refine wk (tw @jC (tw @c0 (tw @c5 (tw @c8 (tw @c9 (tw @c7 (tw @hx (tw @hA (tw @LB @fU.eq_1))))))))) ?_;(repeat(refine Pn.mk ?_;intro N hN))))
   refine⟨_,?_,i+1,iV,Q',p',rfl,sd (tw @jC (tw @c0 (tw @c5 (tw @c8 (tw @c9 @hw))))),sd @c7,sd @Ie,sd @xY,DD,by(try dsimp only);omega,dF.next xx fun e he hr=>?_,by omega⟩
   ·omega
   ·rw[qC,hIn]at he
    rw[qC]at hr ⊢
    obtain⟨z,hz,rfl⟩:=Re e he
    exact KR z (by omega) hr
  ·rw[if_neg KD]at hA
   have qw:(I.map eN).length=I.length:=by simp
   (try((repeat(revert hN;revert N;apply Pn.out));refine wk (tw @b0 (tw @b5 (tw @b7 (tw @b8 (tw @bgp (tw @hi (tw @jM (tw @hqm (tw @eN.eq_1 @fU.eq_1))))))))) ?_;(repeat(refine Pn.mk ?_;intro N hN))))
   refine aZ (fun n env st=>∃x:Nat,n=(I.length)-x/\x<=(I.length)/\env 10=.int .i64 (x:Int)/\(∃(iV:Nat->Int) (Q':List Nat) (p':Id),env 7=.own p' 0 Q'.length/\st.get p'=some ⟨true,1,Q'.map eN⟩/\st.get o=some ⟨true,1,eo iV k⟩/\o.bY<p'.bY/\p'.bY<st.next/\AD k bs f y iV Q' i/\(∃h:i<Q'.length,Q'[i]=vt)/\(∀z,z<x->0<fJ bs f (I.getD z 0) (bW bs (I.getD z 0) vt)->0<=iV (bW bs (I.getD z 0) vt)))) (I.length) ⟨0,by omega,by omega,sl (tw @b0 (tw @b5 (tw @b8 @fU.eq_1))),⟨out,Q,p,sd @b7,sd @bgp,sd @bgo,ew,by(try dsimp only);omega,hB,⟨fc,OL.symm⟩,fun z hz=>by omega⟩⟩ ?_
   rintro n_c env_c st_c ⟨x,rfl,cle,jC,cI0⟩ cfr
   have c0:=cfr 0 (by kernel_rfl);have c5:=cfr 5 (by kernel_rfl);have c8:=cfr 8 (by kernel_rfl);have c9:=cfr 9 (by kernel_rfl)
   simp only[go_sem, ↓reduceIte,Nat.reduceEqDiff,Nat.reduceAdd,Nat.reduceSub,Nat.reduceLeDiff,reduceCtorEq,b0,b5,b8,fU]at c0 c5 c8 c9
   clear cfr
   obtain⟨iV,Q',p',c7,Ie,xY,DD,OD,dF,⟨xx,qC⟩,KR⟩:=cI0
   have UL:=dF.len
   have Pm:=dM iV k
   have OE:(Q'.map eN).length=Q'.length:=by simp
   have zI:=dP OD
   have mE:=dP (i:=o) (n:=st_c.next) (by omega)
   have x1:=cZ DD
   by_cases hx:(x:Int)<(I.length:Int)
   ·have iw:∀{e:Env} {gg:Rows} {nx:Nat},(e 10=.int .i64 (IntKind.i64.wrap ((x:Int)+1)))->(∃(iV:Nat->Int) (Q':List Nat) (p':Id),e 7=.own p' 0 Q'.length/\gg p'=some ⟨true,1,Q'.map eN⟩/\gg o=some ⟨true,1,eo iV k⟩/\o.bY<p'.bY/\p'.bY<nx/\AD k bs f y iV Q' i/\(∃h:i<Q'.length,Q'[i]=vt)/\(∀z,z<(x+1)->0<fJ bs f (I.getD z 0) (bW bs (I.getD z 0) vt)->0<=iV (bW bs (I.getD z 0) vt)))->∃m0,m0<(I.length)-x/\∃x:Nat,m0=(I.length)-x/\x<=(I.length)/\e 10=.int .i64 (x:Int)/\(∃(iV:Nat->Int) (Q':List Nat) (p':Id),e 7=.own p' 0 Q'.length/\gg p'=some ⟨true,1,Q'.map eN⟩/\gg o=some ⟨true,1,eo iV k⟩/\o.bY<p'.bY/\p'.bY<nx/\AD k bs f y iV Q' i/\(∃h:i<Q'.length,Q'[i]=vt)/\(∀z,z<x->0<fJ bs f (I.getD z 0) (bW bs (I.getD z 0) vt)->0<=iV (bW bs (I.getD z 0) vt))):=fun x1 x2=>⟨_,by omega,x+1,rfl,by omega,(by rw[x1,az (by omega)]),x2⟩
    have Qg:x<I.length:=by omega
    have N1:(I.map eN)[x]? =some (eN (I.getD x 0)):=getD_map eN Qg
    obtain⟨he,pV⟩:=hme x Qg
    obtain⟨e,SF⟩:∃e,e=I.getD x 0:=⟨_,rfl⟩
    rw[<-SF]at N1 he pV
    have iR:=uk he
    have hq:=oV ok (v:=vt) he
    have SS:=oW ok he pV
    have KQ:=JY k bs f hs e (bW bs e vt) he
    have Q2:=ok e he
    have mW:IntKind.i64.wrap (((cr bs e).a:Int)+((cr bs e).b:Int))=((cr bs e).a:Int)+((cr bs e).b:Int):=bU (by omega)
    have vY:IntKind.i64.wrap (((cr bs e).a:Int)+((cr bs e).b:Int)-(vt:Int))=(bW bs e vt:Int):=by
     rw[bU (by omega)]
     unfold bW
     rcases pV with h1|h1
     ·rw[if_pos h1];omega
     ·rw[if_neg fun h2=>Q2.2.2 (h2.trans h1.symm)];omega
    have P8:(bW bs e vt:Int)<(k:Int):=by omega
    have Oq:=ef (f:=iV) hq
    have Lq:=ef (f:=iV) M6
    rw[fU]at KQ
    have kr:=dF.up i xx
    rw[qC]at kr
    have jZ:=dF.lo vt M6
    have hw3:IntKind.i64.wrap (iV vt+1)=iV vt+1:=bU (by omega)
    rw[bJ]at Oq Lq
    generalize xf:cr bs e=b at *
    by_cases j9:iV (bW bs e vt)<0
    ·by_cases gx:0<fJ bs f e (bW bs e vt)
     ·have hV:=dF.visit ok xx (e:=e) he (by rw[qC];exact pV) (by rw[qC];exact j9) (by rw[qC];exact gx)
      rw[qC]at hV
      have fh:(eo iV k).set (bW bs e vt) (bJ (iV vt+1))=eo (fun v=>if v=bW bs e vt then iV vt+1 else iV v) k:=ll hq (if_pos rfl) fun v _ hv=>if_neg hv
      rw[bJ]at fh
      have e1:Q'.length+1<=16777216:=by omega
      (repeat(first|((repeat(revert hN;revert N;apply Pn.out));refine wk (tw @jC (tw @c0 (tw @c5 (tw @c8 (tw @c9 (tw @c7 (tw @Ie (tw @xY (tw @hx (tw @hA (tw @qw (tw @N1 (tw @LB (tw @iR (tw @mW (tw @vY (tw @P8 (tw @Oq (tw @Lq (tw @j9 (tw @gx (tw @hw3 (tw @fh (tw @OE (tw @Pm (tw @zI (tw @mE (tw @x1 (tw @e1 (tw @eN.eq_1 (tw @aA.eq_1 @fU.eq_1))))))))))))))))))))))))))))))) ?_;(repeat(refine Pn.mk ?_;intro N hN)))|((try apply Or.inl);refine⟨_,aj.x (KQ) (sd (tw @jC (tw @c0 (tw @c5 (tw @c8 (tw @c9 (tw @c7 (tw @Ie (tw @xY (tw @hx (tw @hA (tw @qw (tw @N1 (tw @LB (tw @iR (tw @mW (tw @vY (tw @P8 (tw @Oq (tw @Lq (tw @j9 (tw @gx (tw @hw3 (tw @fh (tw @OE (tw @Pm (tw @zI (tw @mE (tw @x1 (tw @e1 (tw @eN.eq_1 (tw @aA.eq_1 @fU.eq_1)))))))))))))))))))))))))))))))),?_⟩;refine hN _ _ ?_;clear hN N)))
      exact iw (sd (tw @jC (tw @c0 (tw @c5 (tw @c8 @c9))))) (⟨_,Q'++[bW bs e vt],⟨253020003,st_c.next+1+1+1+1+1+1⟩,by rw[List.length_append];simp only[go_sem, ↓reduceIte,Nat.reduceEqDiff,Nat.reduceAdd,Nat.reduceSub,Nat.reduceLeDiff,reduceCtorEq,List.length_cons,List.length_nil],by rw[List.map_append,List.map_cons,List.map_nil];simp only[go_sem, ↓reduceIte,Nat.reduceEqDiff,Nat.reduceAdd,Nat.reduceSub,Nat.reduceLeDiff,reduceCtorEq,eN],sd (tw @mE @x1),by(try dsimp only);omega,by(try dsimp only);omega,hV,⟨by simp;omega,by rw[List.getElem_append_left xx];exact qC⟩,fun z hz hr=>by
       by_cases RB:z=x
       ·subst RB
        rw[<-SF,if_pos rfl]
        have:=(dF.iff vt M6).2 (by rw[<-qC];exact List.getElem_mem xx)
        omega
       ·have:=KR z (by omega) hr
        split
        ·have:=(dF.iff vt M6).2 (by rw[<-qC];exact List.getElem_mem xx)
         omega
        ·exact this⟩)
     ·(repeat(first|((repeat(revert hN;revert N;apply Pn.out));refine wk (tw @jC (tw @c0 (tw @c5 (tw @c8 (tw @c9 (tw @c7 (tw @Ie (tw @xY (tw @hx (tw @hA (tw @qw (tw @N1 (tw @LB (tw @iR (tw @mW (tw @vY (tw @P8 (tw @Oq (tw @j9 (tw @gx (tw @Pm (tw @zI (tw @mE (tw @x1 (tw @eN.eq_1 (tw @aA.eq_1 @fU.eq_1)))))))))))))))))))))))))) ?_;(repeat(refine Pn.mk ?_;intro N hN)))|((try apply Or.inl);refine⟨_,aj.x (KQ) (sd (tw @jC (tw @c0 (tw @c5 (tw @c8 (tw @c9 (tw @c7 (tw @Ie (tw @xY (tw @hx (tw @hA (tw @qw (tw @N1 (tw @LB (tw @iR (tw @mW (tw @vY (tw @P8 (tw @Oq (tw @j9 (tw @gx (tw @Pm (tw @zI (tw @mE (tw @x1 (tw @eN.eq_1 (tw @aA.eq_1 @fU.eq_1))))))))))))))))))))))))))),?_⟩;refine hN _ _ ?_;clear hN N)))
      exact iw (sd (tw @jC (tw @c0 (tw @c5 (tw @c8 @c9))))) (⟨iV,Q',p',sd @c7,sd (tw @Ie @zI),sd (tw @xY @mE),DD,by(try dsimp only);omega,dF,⟨xx,qC⟩,fun z hz hr=>by
       by_cases RB:z=x
       ·subst RB;rw[<-SF]at hr;exact absurd hr gx
       ·exact KR z (by omega) hr⟩)
    ·(repeat(first|((repeat(revert hN;revert N;apply Pn.out));refine wk (tw @jC (tw @c0 (tw @c5 (tw @c8 (tw @c9 (tw @c7 (tw @Ie (tw @xY (tw @hx (tw @hA (tw @qw (tw @N1 (tw @LB (tw @iR (tw @mW (tw @vY (tw @P8 (tw @Oq (tw @j9 (tw @Pm (tw @zI (tw @mE (tw @x1 (tw @eN.eq_1 (tw @aA.eq_1 @fU.eq_1))))))))))))))))))))))))) ?_;(repeat(refine Pn.mk ?_;intro N hN)))|((try apply Or.inl);refine⟨_,aj.x (KQ) (sd (tw @jC (tw @c0 (tw @c5 (tw @c8 (tw @c9 (tw @c7 (tw @Ie (tw @xY (tw @hx (tw @hA (tw @qw (tw @N1 (tw @LB (tw @iR (tw @mW (tw @vY (tw @P8 (tw @Oq (tw @j9 (tw @Pm (tw @zI (tw @mE (tw @x1 (tw @eN.eq_1 (tw @aA.eq_1 @fU.eq_1)))))))))))))))))))))))))),?_⟩;refine hN _ _ ?_;clear hN N)))
     exact iw (sd (tw @jC (tw @c0 (tw @c5 (tw @c8 @c9))))) (⟨iV,Q',p',sd @c7,sd (tw @Ie @zI),sd (tw @xY @mE),DD,by(try dsimp only);omega,dF,⟨xx,qC⟩,fun z hz hr=>by
      by_cases RB:z=x
      ·subst RB;rw[<-SF];omega
      ·exact KR z (by omega) hr⟩)
   ·have hxe:x=I.length:=by omega
    have hw:IntKind.i64.wrap ((i:Int)+1)=((i+1:Nat):Int):=az (by omega)
    (try((repeat(revert hN;revert N;apply Pn.out));refine wk (tw @jC (tw @c0 (tw @c5 (tw @c8 (tw @c9 (tw @c7 (tw @hx (tw @hA (tw @qw (tw @LB @fU.eq_1)))))))))) ?_;(repeat(refine Pn.mk ?_;intro N hN))))
    refine⟨_,?_,i+1,iV,Q',p',rfl,sd (tw @jC (tw @c0 (tw @c5 (tw @c8 (tw @c9 @hw))))),sd @c7,sd @Ie,sd @xY,DD,by(try dsimp only);omega,dF.next xx fun e he hr=>?_,by omega⟩
    ·omega
    ·rw[qC,hIn]at he
     rw[qC]at hr ⊢
     obtain⟨z,hz,rfl⟩:=Re e he
     exact KR z (by omega) hr
 ·(try((repeat(revert hN;revert N;apply Pn.out));refine wk (tw @b0 (tw @b5 (tw @b7 (tw @b8 (tw @hi @fU.eq_1))))) ?_;(repeat(refine Pn.mk ?_;intro N hN))))
  have sL:gD st_b.get 6 (.own o 0 k)=some (.sl (eo out k)):=rC bgo (by rw[Tb];omega) (by rw[List.drop_zero,List.take_of_length_le (by rw[Tb];omega)];exact Kd)
  exact⟨_,rfl,_,by simp only[go_sem, ↓reduceIte,Nat.reduceEqDiff,Nat.reduceAdd,Nat.reduceSub,Nat.reduceLeDiff,reduceCtorEq,eL];exact sL,out,rfl,hB.done ok (by omega)⟩
end Go.Proofs.YtgoljkjaameagaaGreat.V

namespace Go.Proofs.YtgoljkjaameagaaGreat.V
open Go.RowKit
attribute [local irreducible] dE wpOps fS Call
attribute [local go_sem] aH fq eG fH fG cX upd bZ K.av cD AV.cells AV.cell rowOf rowsOf part ld rowAt br bP dn dR gK bx cQ eb fD eS di dW cN cL dH dI bD aW cF bB cH cG dU dX dV cE bG cP dS bz aI cJ cq gJ bj cz bE aT de aX dp AV.undef bq bt dL dQ dB dz cw ea ee cj dZ dY cI cK List.getD_cons_zero List.getD_cons_succ List.getD_nil List.all_cons List.all_nil Bool.and_true Bool.true_and Bool.and_self Bool.not_true Bool.not_false Option.map_some Option.map_none Option.bind_some Option.bind_none List.length_cons List.length_nil List.take_succ_cons List.take_zero List.take_nil List.drop_succ_cons List.drop_zero List.drop_nil List.head?_cons List.map_cons List.map_nil List.getElem?_cons_zero List.getElem?_cons_succ List.cons_append List.nil_append List.append_nil List.length_map List.set_cons_zero List.set_cons_succ eq_self Int.toNat_natCast Int.natCast_nonneg and_self true_and and_true decide_true decide_false Bool.false_eq_true Nat.zero_add Nat.add_zero List.contains_cons List.contains_nil Bool.or_false Bool.false_or beq_self_eq_true ne_eq not_true_eq_false not_false_eq_true Id.mk.injEq false_and and_false Nat.le_refl List.length_append beq_true beq_false Bool.not_eq_eq_eq_not or_false false_or dD ah aq aF aY bp bK aP bc aN aV cC bF
def PO:Hv (List Nat):=fun g cs x ids=>(x=[]/\cs=[.cm]/\ids=[])∨∃id,cs=[.own id 0 x.length]/\0<x.length/\g id=some ⟨true,1,x.map eN⟩/\ids=[id]
theorem Ng:y7 PO 1 where
 frame:=fun h hf=>by
  rcases h with h|⟨id,h1,h0,h2,h3⟩
  ·exact .inl h
  ·subst h3;exact .inr ⟨id,h1,h0,(hf id (by simp)).trans h2,rfl⟩
 len:=fun h=>by rcases h with⟨_,h,_⟩|⟨id,h,_⟩<;>subst h<;>rfl
 cell:=fun h=>by rcases h with⟨_,h,_⟩|⟨id,h,_⟩<;>subst h<;>rfl
 live:=fun h i hi=>by
  rcases h with⟨_,_,h⟩|⟨id,h1,h0,h2,h3⟩
  ·subst h;cases hi
  ·subst h3
   have:i=id:=by simpa using hi
   subst this
   exact⟨_,h2,rfl,by simp[rS]⟩
 small:=by simp[rS]
theorem OS {g:Rows} {rows:List (List AV)} {xs:List (List Nat)} {ids:List Id} (n:Nat) (h:eU PO g rows xs ids):ev (dD g) (n+2) rows=some (xs.map fun l=>[Pd l]):=
 h.fz (fun {cs x ids} h=>by
  rcases h with⟨h0,h1,_⟩|⟨id,h1,h0,h2,_⟩
  ·subst h0 h1;rw[ah,aq,aP];rfl
  ·have ik:x≠[]:=by rintro rfl;simp at h0
   subst h1
   rw[ah,aq,gr (e:=eN) (sz:=1) (by simp[dD,h2]) rfl fun a=>fzN _ n a]
   simp[Pd,ik])
theorem eU.RS {α:Type} {R:Hv α} {sz:Nat} {g:Rows} {rows:List (List AV)} {xs:List α} {ids:List Id} (ok:y7 R sz) (h:eU R g rows xs ids) (pr:ids.Nodup) (k:Nat) (hk:k<xs.length):
  ∃cs ic,rows[k]? =some cs/\R g cs xs[k] ic/\(∀i∈ic,i∈ids)/\∀(g':Rows) pS x' Qi,R g' pS x' Qi->(∀i∈ids,i∉ic->g' i=g i)->Qi.Nodup->(∀i∈Qi,i∉ids)->∃DI,eU R g' (rows.set k pS) (xs.set k x') DI/\DI.Nodup/\∀i∈DI,i∈Qi∨i∈ids:=by
 obtain⟨r1,cs,r2,i1,ic,i2,rfl,rfl,rfl,h3,h4,h5⟩:=h.split k hk
 obtain⟨n1,n2,n3⟩:=List.nodup_append.1 pr
 obtain⟨nc,n5,n4⟩:=List.nodup_append.1 n2
 refine⟨cs,ic,by simp,h4,fun i hi=>by simp[hi],fun g' pS x' Qi hR hf hn' km=>⟨i1++(Qi++i2),?_,?_,fun i hi=>?_⟩⟩
 ·have e:xs.set r1.length x'=xs.take r1.length++x'::xs.drop (r1.length+1):=by rw[List.set_eq_take_append_cons_drop,if_pos hk]
  have e2:(r1++cs::r2).set r1.length pS=r1++pS::r2:=by simp
  rw[e,e2]
  refine(h3.frame ok fun i hi=>hf i (by simp[hi]) fun hc=>n3 i hi i (by simp[hc]) rfl).app (.cons hR (h5.frame ok fun i hi=>hf i (by simp[hi]) fun hc=>n4 i hc i hi rfl))
 ·rw[List.nodup_append,List.nodup_append]
  refine⟨n1,⟨hn',n5,fun x hx y hy he=>?_⟩,fun x hx y hy he=>?_⟩
  ·subst he;exact km x hx (by simp[hy])
  ·subst he
   rcases List.mem_append.1 hy with hy|hy
   ·exact km x hy (by simp[hx])
   ·exact n3 x hx x (by simp[hy]) rfl
 ·rcases List.mem_append.1 hi with hi|hi
  ·exact .inr (by simp[hi])
  ·rcases List.mem_append.1 hi with hi|hi
   ·exact .inl hi
   ·exact .inr (by simp[hi])
def qU (A:Id) (lo:Nat) (L:List (List Nat)) (g:Rows) (nx:Nat):Prop:=∃rows ids,g A=some ⟨true,1,rows⟩/\eU PO g rows L ids/\ids.Nodup/\∀i∈ids,lo<i.bY/\i.bY<nx
def bH (cnt:Nat) (bs:List PB) (A F:Id):List AV:=[.int .i64 cnt,.sl (bs.map aA),.own A 0 cnt,.own F 0 bs.length]
def lD (cnt:Nat) (bs:List PB) (m:Nat):List (List Nat):=(List.range cnt).map fun v=>jc bs m v
theorem jw (cnt:Nat) (bs:List PB) (m:Nat):(lD cnt bs m).length=cnt:=by simp[lD]
structure oe (cnt:Nat) (bs:List PB) (f:Nat->Int) (X A F:Id) (g:Rows) (nx:Nat):Prop where
 x:g X=some ⟨true,4,[bH cnt bs A F]⟩
 a:qU A F.bY (lD cnt bs bs.length) g nx
 f:g F=some ⟨true,1,eo f bs.length⟩
 xa:X.bY<A.bY
 af:A.bY<F.bY
 fn:F.bY<nx
theorem qU.fz {A:Id} {lo cnt:Nat} {bs:List PB} {m nx n:Nat} {g:Rows} (h:qU A lo (lD cnt bs m) g nx):V.fz (dD g) (n+3) (.own A 0 cnt)=some (.sl (qg cnt bs m)):=by
 obtain⟨rows,ids,h1,h2,_,_⟩:=h
 have hl:=h2.len
 rw[jw]at hl
 rw[iv]
 simp only[dD,h1,Option.map_some,if_true]
 rw[if_pos (by omega),List.drop_zero,List.take_of_length_le (by omega)]
 have:=OS n h2
 rw[this]
 simp[lD,qg]
theorem oe.fz {cnt:Nat} {bs:List PB} {f:Nat->Int} {X A F:Id} {g:Rows} {nx:Nat} (h:oe cnt bs f X A F g nx):V.fz (dD g) 6 (.ptr X 0 0)=some (.cR (fU cnt bs f)):=by
 have hF:dD g F=some ⟨true,1,eo f bs.length⟩:=by simp[dD,h.f]
 have hX:dD g X=some ⟨true,4,[bH cnt bs A F]⟩:=by simp[dD,h.x]
 have hf:V.fz (dD g) 5 (.own F 0 bs.length)=some (.sl (eo f bs.length)):=by
  rw[iv]
  simp only[hF,if_true]
  rw[if_pos (by rw[dM];omega),List.drop_zero,List.take_of_length_le (by rw[dM];omega),Ap];rfl
 have ha:=h.a.fz (n:=2)
 rw[aV]
 simp only[hX,if_true,List.getElem?_cons_zero,List.drop_zero,bH,ah,aq,aF,bK,ha,hf,Option.map_some,fU]
theorem Gr (cnt:Nat) (bs:List PB):lD cnt bs 0=List.replicate cnt []:=by
 refine List.ext_getElem? fun i=>?_
 simp only[lD,List.getElem?_map,List.getElem?_replicate]
 by_cases h:i<cnt
 ·rw[List.getElem?_range h,if_pos h];rfl
 ·rw[List.getElem?_eq_none (by simpa using h),if_neg h];rfl
theorem yW (g:Rows):∀n:Nat,eU PO g (List.replicate n [.cm]) (List.replicate n []) []
 |0=>.nil
 |n+1=>.cons (i1:=[]) (.inl ⟨rfl,rfl,rfl⟩) (yW g n)
def xF (cnt:Nat) (bs:List PB) (m:Nat):List (List Nat):=(lD cnt bs m).set (cr bs m).a (jc bs m (cr bs m).a++[m])
theorem BJ {cnt:Nat} {bs:List PB} {m v:Nat} (hv:v<cnt) (ik:(cr bs m).a≠v):(xF cnt bs m)[v]? =some (jc bs m v):=by
 unfold xF
 rw[List.getElem?_set_ne ik]
 simp[lD,hv]
theorem Gq {cnt:Nat} {bs:List PB} {m:Nat} (ha:(cr bs m).a<cnt) (hb:(cr bs m).b<cnt) (ik:(cr bs m).a≠(cr bs m).b):(xF cnt bs m).set (cr bs m).b (jc bs m (cr bs m).b++[m])=lD cnt bs (m+1):=by
 refine List.ext_getElem? fun i=>?_
 by_cases hi:i<cnt
 ·have hr:(lD cnt bs (m+1))[i]? =some (jc bs (m+1) i):=by simp[lD,hi]
  rw[hr,Gs]
  by_cases h1:(cr bs m).b=i
  ·rw[List.getElem?_set,if_pos h1,if_pos (by simp[xF,jw];omega),if_pos (.inr h1),h1]
  ·rw[List.getElem?_set_ne h1]
   by_cases h2:(cr bs m).a=i
   ·unfold xF
    rw[List.getElem?_set,if_pos h2,if_pos (by rw[jw];omega),if_pos (.inl h2),h2]
   ·rw[BJ hi h2,if_neg (fun h=>h.elim h2 h1),List.append_nil]
 ·rw[List.getElem?_eq_none (by simp[xF,jw];omega),List.getElem?_eq_none (by rw[jw];omega)]
theorem kR {α:Type} {l:List α} {k:Nat} {x:α} (h:l[k]? =some x) (hk:k<l.length):l[k]=x:=by
 rw[List.getElem?_eq_getElem hk]at h;exact Option.some.inj h
theorem Fs {A K:Id} {lo RM nx k j:Nat} {L:List (List Nat)} {La:List Nat} {g:Rows} {rows:List (List AV)} {ids:List Id} (hR:eU PO g rows L ids) (pr:ids.Nodup) (nV:∀i∈ids,lo<i.bY/\i.bY<RM) (hA:A.bY<=lo) (hL:L[k]? =some La) (hK1:RM<=K.bY) (Hy:K.bY<nx) (jZ:lo<RM):
  ∃cs,rows[k]? =some cs/\((La=[]/\cs=[.cm])∨∃id:Id,cs=[.own id 0 La.length]/\0<La.length/\g id=some ⟨true,1,La.map eN⟩/\id.bY<RM/\lo<id.bY)/\
   ∀g':Rows,g' A=some ⟨true,1,rows.set k [.own K 0 (La.length+1)]⟩->g' K=some ⟨true,1,La.map eN++[[.int .i64 j]]⟩->(∀i:Id,i.bY<RM->(i=A)=False->(∀id,cs=[.own id 0 La.length]->(i=id)=False)->g' i=g i)->qU A lo (L.set k (La++[j])) g' nx:=by
 have hk:k<L.length:=(List.getElem?_eq_some_iff.1 hL).1
 have TM:=kR hL hk
 obtain⟨cs,ic,dq,PX,Q8,vV⟩:=hR.RS Ng pr k hk
 rw[TM]at PX
 refine⟨cs,dq,?_,fun g' h1 h2 h3=>?_⟩
 ·rcases PX with⟨h1,h2,_⟩|⟨id,h1,h2,h3,h4⟩
  ·exact .inl ⟨h1,h2⟩
  ·subst h4
   have:=nV id (Q8 id (by simp))
   exact .inr ⟨id,h1,h2,h3,this.2,this.1⟩
 ·obtain⟨DI,q1,q2,q3⟩:=vV g' [.own K 0 (La.length+1)] (La++[j]) [K] (.inr ⟨K,by simp,by simp,by rw[h2];simp[eN],rfl⟩) (fun i hi SR=>by
   refine h3 i (nV i hi).2 ?_ fun id hid=>?_
   ·simp only[eq_iff_iff,iff_false];rintro rfl;have:=nV _ hi;omega
   ·simp only[eq_iff_iff,iff_false]
    rintro rfl
    rcases PX with⟨_,h4,_⟩|⟨j0,h4,_,_,h5⟩
    ·rw[hid]at h4;cases h4
    ·rw[hid]at h4
     simp only[List.cons.injEq,AV.own.injEq,and_true]at h4
     rw[h5,h4]at SR
     exact SR (by simp)) (by simp) fun i hi hc=>by
   rw[List.mem_singleton.1 hi]at hc;have:=nV _ hc;omega
  refine⟨_,DI,h1,q1,q2,fun i hi=>?_⟩
  rcases q3 i hi with h|h
  ·rw[List.mem_singleton.1 h];omega
  ·have:=nV i h;omega
theorem Mu {P:Program} {Q:Ex->Env->aw->Prop} {c:VC} {env:Env} {σ:aw} (I:Env->aw->Prop) (h2:∀e s,I e s->Q .normal e s) (h1:∀N':Env->aw->Prop,(∀e s,I e s->N' e s)->dE (Call P) c (de N' Q) env σ):dE (Call P) c Q env σ:=by
 refine jB (fun _ _ _ _ h=>h) bf c _ _ env σ (fun x e s h=>?_) (h1 I fun _ _ h=>h)
 cases x with
 |normal=>exact h2 e s h
 |exit id=>exact h
 |ret=>exact h
end Go.Proofs.YtgoljkjaameagaaGreat.V
