/- The bonds of an assembly, by the reference. -/
import Derived.Test.YtgoelphibofcmaaGreatInB
import Derived.Test.YtgoelphibofcmaaGreatInC
set_option linter.unusedVariables false
set_option linter.unusedSimpArgs false
set_option maxRecDepth 100000
set_option maxHeartbeats 16000000
namespace Go.Proofs.YtgoelphibofcmaaGreat.V
open Go.RowKit
attribute [local irreducible] dO wpOps gy Call
attribute [local go_sem] aT fK eS ga fZ dj upd cF K.av cP AV.cells AV.cell rowOf rowsOf part ld rowAt bL cD dG ef ik bV de ew fW fe dw ek dc db dU dV cj bl cU b4 cW cV ei eo ej cR cm dd eh bW aV cZ cI ij bx cK ck bd du bj dI AV.undef bH bS dW eb dQ dP cJ ev eE cH er ep cY da List.getD_cons_zero List.getD_cons_succ List.getD_nil List.all_cons List.all_nil Bool.and_true Bool.true_and Bool.and_self Bool.not_true Bool.not_false Option.map_some Option.map_none Option.bind_some Option.bind_none List.length_cons List.length_nil List.take_succ_cons List.take_zero List.take_nil List.drop_succ_cons List.drop_zero List.drop_nil List.head?_cons List.map_cons List.map_nil List.getElem?_cons_zero List.getElem?_cons_succ List.cons_append List.nil_append List.append_nil List.length_map List.set_cons_zero List.set_cons_succ Nat.reduceMul eq_self Int.toNat_natCast Int.natCast_nonneg and_self true_and and_true decide_true decide_false Bool.false_eq_true Nat.zero_add Nat.add_zero List.contains_cons List.contains_nil Bool.or_false Bool.false_or beq_self_eq_true Nat.reduceBEq ne_eq not_true_eq_false not_false_eq_true Id.mk.injEq false_and and_false Nat.reduceLT Int.reduceLE Int.reduceLT Int.reduceToNat Int.reduceNeg Int.reduceAdd Nat.le_refl List.length_append beq_true beq_false Bool.not_eq_eq_eq_not or_false false_or dR ae aj aI bq bG cC aY bh aW bp cQ bJ
def aB (b:PB):List AV:=[.int .i64 b.a,.int .i64 b.b,.int .i64 b.s]
theorem NL:∀b:PB,(aB b).length=3/\(aB b).all AV.cell=true:=fun _=>⟨rfl,rfl⟩
theorem zF (g:Rows) (n:Nat) (b:PB):dn g (n+1) (aB b)=some (aB b):=by simp[aB,ae,aj,aI]
theorem uP (g:Rows) (n:Nat) (b:PB):eD g (n+1) (aB b)=some (aB b):=by simp[aB,bw,cr,eu]
theorem IQ:QN aB (fun c=>.agg (aB c)) 3 true:=⟨fun _=>rfl,fun _=>rfl,fun x g=>by simp only[aB,ae,aj,bh,aI,Option.map_some]⟩
def mY (s:aw) (l:List ad) (i:Nat) (d:Int):List PB:=
 if 0<=eR l (dp (aD l i).aQ d)/\0<gp s (aD l i).aO d (aD l (eR l (dp (aD l i).aQ d)).toNat).aO then
  [⟨i,(eR l (dp (aD l i).aQ d)).toNat,gp s (aD l i).aO d (aD l (eR l (dp (aD l i).aQ d)).toNat).aO⟩]else[]
def gq (s:aw) (l:List ad) (i m:Nat):List PB:=(List.range m).flatMap fun j:Nat=>mY s l i (1-(j:Int))
def gV (s:aw) (l:List ad) (n:Nat):List PB:=(List.range n).flatMap fun i=>gq s l i 2
def dh (s:aw) (l:List ad):List PB:=gV s l l.length
theorem qc (s:aw) (l:List ad) (i m:Nat):gq s l i (m+1)=gq s l i m++mY s l i (1-(m:Int)):=by simp[gq,List.range_succ]
theorem rq (s:aw) (l:List ad) (n:Nat):gV s l (n+1)=gV s l n++gq s l n 2:=by simp[gV,List.range_succ]
theorem Dm (s:aw) (l:List ad) (i:Nat) (d:Int):(mY s l i d).length<=1:=by unfold mY;split<;>simp
theorem rn (s:aw) (l:List ad) (i m:Nat):(gq s l i m).length<=m:=by
 induction m with
 |zero=>simp[gq]
 |succ m ih=>rw[qc,List.length_append];have:=Dm s l i (1-(m:Int));omega
theorem tP (s:aw) (l:List ad) (n:Nat):(gV s l n).length<=2*n:=by
 induction n with
 |zero=>simp[gV]
 |succ n ih=>rw[rq,List.length_append];have:=rn s l n 2;omega
def sB:Id->Prop:=fun o=>o.site=193001000∨o.site=193012006
theorem El (s:aw) (l:List ad) (hS:kM s) (hA:lu s l):aq Tryz.prog 193 [.dq (ab s),.dq [.sl (l.map aa)]] (.sl ((dh s l).map aB)):=by
 refine aq.body eK rfl fun hl n0=>?_
 clear hl
 have hF:=hA.1
 have OF:=hF.xx
 (try((repeat(revert hN;revert N;apply Pn.out));refine wk @Nat.zero_add ?_;(repeat(refine Pn.mk ?_;intro N hN))))
 refine aZ (fun n env st=>∃k:Nat,n=(l.length)-k/\k<=(l.length)/\env 6=.int .i64 (k:Int)/\(mU aB 3 (env 5) st.get sB (gV s l k))) (l.length) ⟨0,by omega,by omega,sl @Nat.zero_add,⟨⟨193001000,n0+1⟩,.inl rfl,by simp only[go_sem, ↓reduceIte,Nat.reduceEqDiff,Nat.reduceAdd,Nat.reduceSub,Nat.reduceLeDiff,reduceCtorEq];rfl,by simp only[go_sem, ↓reduceIte,Nat.reduceEqDiff,Nat.reduceAdd,Nat.reduceSub,Nat.reduceLeDiff,reduceCtorEq];rfl⟩⟩ ?_
 rintro n_a env_a st_a ⟨k,rfl,ale,a6,j4⟩ dx
 have a0:=dx 0 (by kernel_rfl);have a1:=dx 1 (by kernel_rfl)
 simp only[go_sem, ↓reduceIte,Nat.reduceEqDiff,Nat.reduceAdd,Nat.reduceSub,Nat.reduceLeDiff,reduceCtorEq]at a0 a1
 clear dx
 by_cases hk:(k:Int)<(l.length:Int)
 ·have cz:∀{e:Env} {gg:Rows},(e 6=.int .i64 (IntKind.i64.wrap ((k:Int)+1)))->(mU aB 3 (e 5) gg sB (gV s l (k+1)))->∃m0,m0<(l.length)-k/\∃k:Nat,m0=(l.length)-k/\k<=(l.length)/\e 6=.int .i64 (k:Int)/\(mU aB 3 (e 5) gg sB (gV s l k)):=fun x1 x2=>⟨_,by omega,k+1,rfl,by omega,(by rw[x1,aA (by omega)]),x2⟩
  have fM:k<l.length:=by omega
  have e9:=fE fM
  have hul:=tP s l k
  (try((repeat(revert hN;revert N;apply Pn.out));refine wk (tw @a6 (tw @a0 (tw @a1 @hk))) ?_;(repeat(refine Pn.mk ?_;intro N hN))))
  refine aZ (fun n env st=>∃m:Nat,n=(2)-m/\m<=(2)/\env 7=(.int .i64 (1-(m:Int)))/\(mU aB 3 (env 5) st.get sB (gV s l k++gq s l k m))) (2) ⟨0,by omega,by omega,sl (tw @a6 (tw @a0 @a1)),by(simp only[go_sem, ↓reduceIte,Nat.reduceEqDiff,Nat.reduceAdd,Nat.reduceSub,Nat.reduceLeDiff,reduceCtorEq];exact j4.cast (by simp[gq]))⟩ ?_
  rintro n_b env_b st_b ⟨m,rfl,ble,b7,bI0⟩ fU
  have b0:=fU 0 (by kernel_rfl);have b1:=fU 1 (by kernel_rfl);have b6:=fU 6 (by kernel_rfl)
  simp only[go_sem, ↓reduceIte,Nat.reduceEqDiff,Nat.reduceAdd,Nat.reduceSub,Nat.reduceLeDiff,reduceCtorEq,a6,a0,a1]at b0 b1 b6
  clear fU
  have Td:=rn s l k m
  have lJ:=qc s l k m
  by_cases hm:(m:Int)<2
  ·have gj:∀{e:Env} {gg:Rows},(e 7=(.int .i64 (1-((m+1):Int))))->(mU aB 3 (e 5) gg sB (gV s l k++gq s l k (m+1)))->∃m0,m0<(2)-m/\∃m:Nat,m0=(2)-m/\m<=(2)/\e 7=(.int .i64 (1-(m:Int)))/\(mU aB 3 (e 5) gg sB (gV s l k++gq s l k m)):=fun x1 x2=>⟨_,by omega,m+1,rfl,by omega,x1,x2⟩
   have qH:(0:Int)<=1-(m:Int):=by omega
   have hd:jc (1-(m:Int)) 0 3=true:=iN (by omega)
   have hw:IntKind.i64.wrap (1-(m:Int)-1)=1-((m:Int)+1):=by rw[bI (by omega)];omega
   have Tn:=xY l hF k (1-(m:Int)) fM hd
   unfold mY at lJ
   have hT:=hA.2 _ (k8 fM)
   generalize GM:eR l (dp (aD l k).aQ (1-(m:Int)))=ix at *
   by_cases hi:ix<0
   ·rw[if_neg (by omega),List.append_nil]at lJ
    (repeat(first|((repeat(revert hN;revert N;apply Pn.out));refine wk (tw @b7 (tw @b0 (tw @b1 (tw @b6 (tw @qH (tw @hw @hi)))))) ?_;(repeat(refine Pn.mk ?_;intro N hN)))|((try apply Or.inl);refine⟨_,aq.x (Tn) (sd (tw @b7 (tw @b0 (tw @b1 (tw @b6 (tw @qH (tw @hw @hi))))))),?_⟩;refine hN _ _ ?_;clear hN N)))
    exact gj (sd (tw @b7 (tw @b0 (tw @b1 (tw @b6 @hw))))) (by(simp only[go_sem, ↓reduceIte,Nat.reduceEqDiff,Nat.reduceAdd,Nat.reduceSub,Nat.reduceLeDiff,reduceCtorEq];exact bI0.cast (by rw[lJ])))
   ·have BI:0<=ix:=by omega
    have OL:=ni (l:=l) (p:=dp (aD l k).aQ (1-(m:Int))) (by omega)
    rw[GM]at OL
    have jl:=fE OL.1
    have rK:=tg s hS (aD l k).aO (1-(m:Int)) (aD l ix.toNat).aO hT (hA.2 _ (k8 OL.1)) hd
    generalize S9:gp s (aD l k).aO (1-(m:Int)) (aD l ix.toNat).aO=bv at *
    by_cases hb:0<bv
    ·rw[if_pos ⟨BI,hb⟩]at lJ
     (repeat(first|((repeat(revert hN;revert N;apply Pn.out));refine wa (tw @b7 (tw @b0 (tw @b1 (tw @b6 (tw @qH (tw @hw (tw @hi (tw @BI (tw @e9 (tw @jl (tw @hb @aa.eq_1))))))))))) ?_;(repeat(refine Pn.mk ?_;intro N hN)))|((try apply Or.inl);refine⟨_,aq.x (Tn) (sd (tw @b7 (tw @b0 (tw @b1 (tw @b6 (tw @qH (tw @hw (tw @hi (tw @BI (tw @e9 (tw @jl (tw @hb @aa.eq_1)))))))))))),?_⟩;refine hN _ _ ?_;clear hN N)|((try apply Or.inl);refine⟨_,aq.x (rK) (sd (tw @b7 (tw @b0 (tw @b1 (tw @b6 (tw @qH (tw @hw (tw @hi (tw @BI (tw @e9 (tw @jl (tw @hb @aa.eq_1)))))))))))),?_⟩;refine hN _ _ ?_;clear hN N)))
     refine PQ (enc:=aB) (S:=sB) (L:=gV s l k++gq s l k m) (xv:=env_b 5) [⟨k,ix.toNat,bv⟩] rfl rfl (sd @Nat.zero_add) (bI0.frame fun o ho=>by rcases ho with ho|ho<;>simp only[go_sem, ↓reduceIte,Nat.reduceEqDiff,Nat.reduceAdd,Nat.reduceSub,Nat.reduceLeDiff,reduceCtorEq,Ak ho]) (sd (tw @aB.eq_1 (Int.toNat_of_nonneg BI))) NL (.inr rfl) (by simp only[dI,List.length_append,List.length_cons,List.length_nil];omega) fun v g' hO jz=>?_
     rw[List.append_assoc,<-lJ]at hO
     clear jz
     (try((repeat(revert hN;revert N;apply Pn.out));refine wk (tw @b7 (tw @b0 (tw @b1 (tw @b6 @hw)))) ?_;(repeat(refine Pn.mk ?_;intro N hN))))
     exact gj (sd (tw @b7 (tw @b0 (tw @b1 (tw @b6 @hw))))) (by(simp only[go_sem, ↓reduceIte,Nat.reduceEqDiff,Nat.reduceAdd,Nat.reduceSub,Nat.reduceLeDiff,reduceCtorEq];exact hO))
    ·rw[if_neg fun h=>hb h.2,List.append_nil]at lJ
     (repeat(first|((repeat(revert hN;revert N;apply Pn.out));refine wk (tw @b7 (tw @b0 (tw @b1 (tw @b6 (tw @qH (tw @hw (tw @hi (tw @BI (tw @e9 (tw @jl (tw @hb @aa.eq_1))))))))))) ?_;(repeat(refine Pn.mk ?_;intro N hN)))|((try apply Or.inl);refine⟨_,aq.x (Tn) (sd (tw @b7 (tw @b0 (tw @b1 (tw @b6 (tw @qH (tw @hw (tw @hi (tw @BI (tw @e9 (tw @jl (tw @hb @aa.eq_1)))))))))))),?_⟩;refine hN _ _ ?_;clear hN N)|((try apply Or.inl);refine⟨_,aq.x (rK) (sd (tw @b7 (tw @b0 (tw @b1 (tw @b6 (tw @qH (tw @hw (tw @hi (tw @BI (tw @e9 (tw @jl (tw @hb @aa.eq_1)))))))))))),?_⟩;refine hN _ _ ?_;clear hN N)))
     exact gj (sd (tw @b7 (tw @b0 (tw @b1 (tw @b6 @hw))))) (by(simp only[go_sem, ↓reduceIte,Nat.reduceEqDiff,Nat.reduceAdd,Nat.reduceSub,Nat.reduceLeDiff,reduceCtorEq];exact bI0.cast (by rw[lJ])))
  ·have yE:m=2:=by omega
   subst yE
   have dZ:¬(0:Int)<=1-((2:Nat):Int):=by omega
   (try((repeat(revert hN;revert N;apply Pn.out));refine wk (tw @b7 (tw @b0 (tw @b1 (tw @b6 @dZ)))) ?_;(repeat(refine Pn.mk ?_;intro N hN))))
   exact cz (sd (tw @a6 (tw @a0 (tw @a1 (tw @b7 (tw @b0 (tw @b1 @b6))))))) (by(simp only[go_sem, ↓reduceIte,Nat.reduceEqDiff,Nat.reduceAdd,Nat.reduceSub,Nat.reduceLeDiff,reduceCtorEq];exact bI0.cast (by rw[rq])))
 ·have l6:k=l.length:=by omega
  (try((repeat(revert hN;revert N;apply Pn.out));refine wk (tw @a6 (tw @a0 (tw @a1 @hk))) ?_;(repeat(refine Pn.mk ?_;intro N hN))))
  exact xd (.inl rfl) (by simp only[go_sem, ↓reduceIte,Nat.reduceEqDiff,Nat.reduceAdd,Nat.reduceSub,Nat.reduceLeDiff,reduceCtorEq];rfl) (by rw[l6]at j4;exact j4.gG fun b=>uP _ _ b)
end Go.Proofs.YtgoelphibofcmaaGreat.V

namespace Go.Proofs.YtgoelphibofcmaaGreat.V
open Go.RowKit
attribute [local irreducible] dO wpOps gy Call
attribute [local go_sem] aT fK eS ga fZ dj upd cF K.av cP AV.cells AV.cell rowOf rowsOf part ld rowAt bL cD dG ef ik bV de ew fW fe dw ek dc db dU dV cj bl cU b4 cW cV ei eo ej cR cm dd eh bW aV cZ cI ij bx cK ck bd du bj dI AV.undef bH bS dW eb dQ dP cJ ev eE cH er ep cY da List.getD_cons_zero List.getD_cons_succ List.getD_nil List.all_cons List.all_nil Bool.and_true Bool.true_and Bool.and_self Bool.not_true Bool.not_false Option.map_some Option.map_none Option.bind_some Option.bind_none List.length_cons List.length_nil List.take_succ_cons List.take_zero List.take_nil List.drop_succ_cons List.drop_zero List.drop_nil List.head?_cons List.map_cons List.map_nil List.getElem?_cons_zero List.getElem?_cons_succ List.cons_append List.nil_append List.append_nil List.length_map List.set_cons_zero List.set_cons_succ Nat.reduceMul eq_self Int.toNat_natCast Int.natCast_nonneg and_self true_and and_true decide_true decide_false Bool.false_eq_true Nat.zero_add Nat.add_zero List.contains_cons List.contains_nil Bool.or_false Bool.false_or beq_self_eq_true Nat.reduceBEq ne_eq not_true_eq_false not_false_eq_true Id.mk.injEq false_and and_false Nat.reduceLT Int.reduceLE Int.reduceLT Int.reduceToNat Int.reduceNeg Int.reduceAdd Nat.le_refl List.length_append beq_true beq_false Bool.not_eq_eq_eq_not or_false false_or dR ae aj aI bq bG cC aY bh aW bp cQ bJ
theorem B3 (a b:Nat):aq Tryz.prog 215 [.int .i64 a,.int .i64 b] (.int .i64 (min a b:Nat)):=by
 refine aq.body eK rfl fun hl n0=>?_
 clear hl
 by_cases h:(a:Int)<(b:Int)
 ·(try((repeat(revert hN;revert N;apply Pn.out));refine wk @h ?_;(repeat(refine Pn.mk ?_;intro N hN))))
  exact cN (b:=(a:Int)) (.inl rfl) (sd @Nat.zero_add) (by omega)
 ·(try((repeat(revert hN;revert N;apply Pn.out));refine wk @h ?_;(repeat(refine Pn.mk ?_;intro N hN))))
  exact cN (b:=(b:Int)) (.inl rfl) (sd @Nat.zero_add) (by omega)
theorem BZ (a b:Nat):aq Tryz.prog 216 [.int .i64 a,.int .i64 b] (.int .i64 (max a b:Nat)):=by
 refine aq.body eK rfl fun hl n0=>?_
 clear hl
 by_cases h:(b:Int)<(a:Int)
 ·(try((repeat(revert hN;revert N;apply Pn.out));refine wk @h ?_;(repeat(refine Pn.mk ?_;intro N hN))))
  exact cN (b:=(a:Int)) (.inl rfl) (sd @Nat.zero_add) (by omega)
 ·(try((repeat(revert hN;revert N;apply Pn.out));refine wk @h ?_;(repeat(refine Pn.mk ?_;intro N hN))))
  exact cN (b:=(b:Int)) (.inl rfl) (sd @Nat.zero_add) (by omega)
def dM (f:Nat->Nat) (n:Nat):List (List AV):=(List.range n).map fun i=>eN (f i)
theorem gw (f:Nat->Nat) (n:Nat):(dM f n).length=n:=by simp[dM]
theorem fC {f:Nat->Nat} {n i:Nat} (h:i<n):(dM f n)[i]? =some (eN (f i)):=by simp[dM,h]
theorem im {f g:Nat->Nat} {n:Nat} (h:∀i,i<n->f i=g i):dM f n=dM g n:=List.map_congr_left fun i hi=>by rw[h i (List.mem_range.1 hi)]
theorem pO {f g:Nat->Nat} {n k v:Nat} (hk:k<n) (hv:g k=v) (h:∀i,i<n->i≠k->g i=f i):(dM f n).set k (eN v)=dM g n:=by
 refine List.ext_getElem? fun i=>?_
 rw[List.getElem?_set]
 by_cases hi:k=i
 ·subst hi
  rw[if_pos rfl,gw,if_pos hk,fC hk,hv]
 ·rw[if_neg hi]
  by_cases fh:i<n
  ·rw[fC fh,fC fh,h i fh (fun h=>hi h.symm)]
  ·rw[List.getElem?_eq_none (by rw[gw];omega),List.getElem?_eq_none (by rw[gw];omega)]
theorem B6 (cnt:Nat) (hn:cnt<=1048576) (bs:List PB) (hb:∀b∈bs,b.a<cnt/\b.b<cnt) (qe:bs.length<=1048576):aq Tryz.prog 214 [.int .i64 cnt,.sl (bs.map aB)] (.sl ((fF cnt (eJ bs)).map AM)):=by
 refine aq.body eK rfl fun hl n0=>?_
 clear hl
 (try((repeat(revert hN;revert N;apply Pn.out));refine wk @Nat.zero_add ?_;(repeat(refine Pn.mk ?_;intro N hN))))
 refine aZ (fun n env st=>∃k:Nat,n=(cnt)-k/\k<=(cnt)/\env 6=.int .i64 (k:Int)/\(∃o:Id,env 5=.own o 0 k/\st.get o=some ⟨true,1,dM id k⟩/\o.bQ<st.next)) (cnt) ⟨0,by omega,by omega,sl @Nat.zero_add,⟨⟨214001000,n0+1⟩,sd @Nat.zero_add,by simp only[go_sem, ↓reduceIte,Nat.reduceEqDiff,Nat.reduceAdd,Nat.reduceSub,Nat.reduceLeDiff,reduceCtorEq];rfl,by(try dsimp only);omega⟩⟩ ?_
 rintro n_a env_a st_a ⟨k,rfl,ale,a6,j4⟩ dx
 have a0:=dx 0 (by kernel_rfl);have a1:=dx 1 (by kernel_rfl)
 simp only[go_sem, ↓reduceIte,Nat.reduceEqDiff,Nat.reduceAdd,Nat.reduceSub,Nat.reduceLeDiff,reduceCtorEq]at a0 a1
 clear dx
 obtain⟨o,a5,ag,uC⟩:=j4
 have tl:=gw id k
 have sK:=dr uC
 by_cases hk:(k:Int)<(cnt:Int)
 ·have cz:∀{e:Env} {gg:Rows} {nx:Nat},(e 6=.int .i64 (IntKind.i64.wrap ((k:Int)+1)))->(∃o:Id,e 5=.own o 0 (k+1)/\gg o=some ⟨true,1,dM id (k+1)⟩/\o.bQ<nx)->∃m0,m0<(cnt)-k/\∃k:Nat,m0=(cnt)-k/\k<=(cnt)/\e 6=.int .i64 (k:Int)/\(∃o:Id,e 5=.own o 0 k/\gg o=some ⟨true,1,dM id k⟩/\o.bQ<nx):=fun x1 x2=>⟨_,by omega,k+1,rfl,by omega,(by rw[x1,aA (by omega)]),x2⟩
  have fM:k<cnt:=by omega
  have e1:k+1<=16777216:=by omega
  have ta:dM id k++[[.int .i64 (k:Int)]]=dM id (k+1):=by simp[dM,List.range_succ,eN]
  (try((repeat(revert hN;revert N;apply Pn.out));refine wk (tw @a6 (tw @a0 (tw @a1 (tw @a5 (tw @ag (tw @sK (tw @hk (tw @tl (tw @e1 @ta))))))))) ?_;(repeat(refine Pn.mk ?_;intro N hN))))
  exact cz (sd (tw @a6 (tw @a0 @a1))) (⟨⟨214005003,st_a.next+1⟩,sd @Nat.zero_add,sd @ta,by(try dsimp only);omega⟩)
 have l6:k=cnt:=by omega
 subst l6
 have Vj:st_a.get o=some ⟨true,1,dM (eJ (bs.take 0)) k⟩:=ag
 clear ag
 (try((repeat(revert hN;revert N;apply Pn.out));refine wk (tw @a6 (tw @a0 (tw @a1 @hk))) ?_;(repeat(refine Pn.mk ?_;intro N hN))))
 refine aZ (fun n env st=>∃j:Nat,n=(bs.length)-j/\j<=(bs.length)/\env 7=.int .i64 (j:Int)/\st.get o=some ⟨true,1,dM (eJ (bs.take j)) k⟩/\(o.bQ<st.next)) (bs.length) ⟨0,by omega,by omega,sl (tw @a6 (tw @a0 (tw @a1 (tw @a5 @Vj)))),sl (tw @a6 (tw @a0 (tw @a1 (tw @a5 @Vj)))),(by(try dsimp only);omega)⟩ ?_
 rintro n_b env_b st_b ⟨j,rfl,ble,b7,bg0,bI0⟩ fU
 have b0:=fU 0 (by kernel_rfl);have b1:=fU 1 (by kernel_rfl);have b5:=fU 5 (by kernel_rfl)
 simp only[go_sem, ↓reduceIte,Nat.reduceEqDiff,Nat.reduceAdd,Nat.reduceSub,Nat.reduceLeDiff,reduceCtorEq,a6,a0,a1,a5,Vj]at b0 b1 b5
 clear fU
 by_cases hj:(j:Int)<(bs.length:Int)
 ·have gj:∀{e:Env} {gg:Rows} {nx:Nat},(e 7=.int .i64 (IntKind.i64.wrap ((j:Int)+1)))->(gg o=some ⟨true,1,dM (eJ (bs.take (j+1))) k⟩)->(o.bQ<nx)->∃m0,m0<(bs.length)-j/\∃j:Nat,m0=(bs.length)-j/\j<=(bs.length)/\e 7=.int .i64 (j:Int)/\gg o=some ⟨true,1,dM (eJ (bs.take j)) k⟩/\(o.bQ<nx):=fun x1 x2 x3=>⟨_,by omega,j+1,rfl,by omega,(by rw[x1,aA (by omega)]),x2,x3⟩
  have iH:j<bs.length:=by omega
  have HY:(bs.map aB)[j]? =some (aB bs[j]):=by simp[iH]
  have Nd:=hb _ (List.getElem_mem iH)
  have nU:bs.take (j+1)=bs.take j++[bs[j]]:=List.take_succ_eq_append_getElem iH
  have lJ:eJ (bs.take (j+1))=eW (eJ (bs.take j)) bs[j]:=by rw[nU,wO]
  generalize eJ (bs.take j)=L at *
  generalize bs[j]=b at *
  have hA:=fC (f:=L) Nd.1
  have hB:=fC (f:=L) Nd.2
  have SY:=B3 (L b.a) (L b.b)
  have SZ:=BZ (L b.a) (L b.b)
  have tl:=gw L k
  have gR:(b.a:Int)<(k:Int):=by omega
  have fX:(b.b:Int)<(k:Int):=by omega
  (try((repeat(revert hN;revert N;apply Pn.out));refine wk (tw @b7 (tw @bg0 (tw @b0 (tw @b1 (tw @b5 (tw @hj (tw @HY (tw @aB.eq_1 (tw @hA (tw @hB (tw @gR (tw @fX (tw @tl @eN.eq_1))))))))))))) ?_;(repeat(refine Pn.mk ?_;intro N hN))))
  refine aZ (fun n env st=>∃i:Nat,n=(k)-i/\i<=(k)/\env 10=.int .i64 (i:Int)/\st.get o=some ⟨true,1,dM (fun x=>if x<i then eW L b x else L x) k⟩/\(o.bQ<st.next)) (k) ⟨0,by omega,by omega,sl (tw @b7 (tw @bg0 (tw @b0 (tw @b1 (tw @b5 @Nat.not_lt_zero))))),sl (tw @b7 (tw @bg0 (tw @b0 (tw @b1 (tw @b5 @Nat.not_lt_zero))))),(by(try dsimp only);omega)⟩ ?_
  rintro n_c env_c st_c ⟨i,rfl,cle,jG,cg0,cI0⟩ cfr
  have c0:=cfr 0 (by kernel_rfl);have c1:=cfr 1 (by kernel_rfl);have c5:=cfr 5 (by kernel_rfl);have c7:=cfr 7 (by kernel_rfl);have c8:=cfr 8 (by kernel_rfl);have c9:=cfr 9 (by kernel_rfl)
  simp only[go_sem, ↓reduceIte,Nat.reduceEqDiff,Nat.reduceAdd,Nat.reduceSub,Nat.reduceLeDiff,reduceCtorEq,b7,bg0,b0,b1,b5,Nat.not_lt_zero]at c0 c1 c5 c7 c8 c9
  clear cfr
  have hC:=fC (f:=fun x=>if x<i then eW L b x else L x) (n:=k) (i:=i)
  have tc:=gw (fun x=>if x<i then eW L b x else L x) k
  by_cases hi:(i:Int)<(k:Int)
  ·have iv:∀{e:Env} {gg:Rows} {nx:Nat},(e 10=.int .i64 (IntKind.i64.wrap ((i:Int)+1)))->(gg o=some ⟨true,1,dM (fun x=>if x<(i+1)then eW L b x else L x) k⟩)->(o.bQ<nx)->∃m0,m0<(k)-i/\∃i:Nat,m0=(k)-i/\i<=(k)/\e 10=.int .i64 (i:Int)/\gg o=some ⟨true,1,dM (fun x=>if x<i then eW L b x else L x) k⟩/\(o.bQ<nx):=fun x1 x2 x3=>⟨_,by omega,i+1,rfl,by omega,(by rw[x1,aA (by omega)]),x2,x3⟩
   have fh:i<k:=by omega
   replace hC:=hC fh
   rw[if_neg (Nat.lt_irrefl i)]at hC
   by_cases he:L i=max (L b.a) (L b.b)
   ·have uV:decide ((L i:Int)=((max (L b.a) (L b.b):Nat):Int))=true:=decide_eq_true (by rw[he])
    have eH:(dM (fun x=>if x<i then eW L b x else L x) k).set i (eN (min (L b.a) (L b.b)))=dM (fun x=>if x<i+1 then eW L b x else L x) k:=pO fh (by rw[if_pos (by omega),eW,if_pos he]) fun x hx C4=>by
     by_cases h:x<i
     ·rw[if_pos h,if_pos (by omega)]
     ·rw[if_neg h,if_neg (by omega)]
    rw[eN]at eH hC
    (repeat(first|((repeat(revert hN;revert N;apply Pn.out));refine wk (tw @jG (tw @cg0 (tw @c0 (tw @c1 (tw @c5 (tw @c7 (tw @c8 (tw @c9 (tw @hi (tw @hC (tw @tc (tw @uV @eH)))))))))))) ?_;(repeat(refine Pn.mk ?_;intro N hN)))|((try apply Or.inl);refine⟨_,aq.x (SY) (sd (tw @jG (tw @cg0 (tw @c0 (tw @c1 (tw @c5 (tw @c7 (tw @c8 (tw @c9 (tw @hi (tw @hC (tw @tc (tw @uV @eH))))))))))))),?_⟩;refine hN _ _ ?_;clear hN N)|((try apply Or.inl);refine⟨_,aq.x (SZ) (sd (tw @jG (tw @cg0 (tw @c0 (tw @c1 (tw @c5 (tw @c7 (tw @c8 (tw @c9 (tw @hi (tw @hC (tw @tc (tw @uV @eH))))))))))))),?_⟩;refine hN _ _ ?_;clear hN N)))
    refine iv ?_ ?_ (by(try dsimp only);omega)
    all_goals simp only[go_sem, ↓reduceIte,Nat.reduceEqDiff,Nat.reduceAdd,Nat.reduceSub,Nat.reduceLeDiff,reduceCtorEq,jG,cg0,c0,c1,c5,c7,c8,c9]
   ·have uV:decide ((L i:Int)=((max (L b.a) (L b.b):Nat):Int))=false:=decide_eq_false fun h=>he (by omega)
    have mi:dM (fun x=>if x<i then eW L b x else L x) k=dM (fun x=>if x<i+1 then eW L b x else L x) k:=im fun x hx=>by
     by_cases h:x<i
     ·rw[if_pos h,if_pos (by omega)]
     ·by_cases C4:x=i
      ·subst C4;rw[if_neg h,if_pos (by omega),eW,if_neg he]
      ·rw[if_neg h,if_neg (by omega)]
    rw[eN]at hC
    (repeat(first|((repeat(revert hN;revert N;apply Pn.out));refine wk (tw @jG (tw @cg0 (tw @c0 (tw @c1 (tw @c5 (tw @c7 (tw @c8 (tw @c9 (tw @hi (tw @hC (tw @tc @uV))))))))))) ?_;(repeat(refine Pn.mk ?_;intro N hN)))|((try apply Or.inl);refine⟨_,aq.x (SY) (sd (tw @jG (tw @cg0 (tw @c0 (tw @c1 (tw @c5 (tw @c7 (tw @c8 (tw @c9 (tw @hi (tw @hC (tw @tc @uV)))))))))))),?_⟩;refine hN _ _ ?_;clear hN N)|((try apply Or.inl);refine⟨_,aq.x (SZ) (sd (tw @jG (tw @cg0 (tw @c0 (tw @c1 (tw @c5 (tw @c7 (tw @c8 (tw @c9 (tw @hi (tw @hC (tw @tc @uV)))))))))))),?_⟩;refine hN _ _ ?_;clear hN N)))
    rw[mi]at cg0
    refine iv ?_ ?_ (by(try dsimp only);omega)
    all_goals simp only[go_sem, ↓reduceIte,Nat.reduceEqDiff,Nat.reduceAdd,Nat.reduceSub,Nat.reduceLeDiff,reduceCtorEq,jG,cg0,c0,c1,c5,c7,c8,c9]
  ·have yC:i=k:=by omega
   subst yC
   have dC:dM (fun x=>if x<i then eW L b x else L x) i=dM (eW L b) i:=im fun x hx=>if_pos hx
   rw[dC]at cg0
   rw[<-lJ]at cg0
   (try((repeat(revert hN;revert N;apply Pn.out));refine wk (tw @jG (tw @cg0 (tw @c0 (tw @c1 (tw @c5 (tw @c7 (tw @c8 (tw @c9 (tw @hi @tc))))))))) ?_;(repeat(refine Pn.mk ?_;intro N hN))))
   refine gj ?_ ?_ (by(try dsimp only);omega)
   all_goals simp only[go_sem, ↓reduceIte,Nat.reduceEqDiff,Nat.reduceAdd,Nat.reduceSub,Nat.reduceLeDiff,reduceCtorEq,b7,bg0,b0,b1,b5,jG,cg0,c0,c1,c5,c7,c8,c9]
 have iq:j=bs.length:=by omega
 subst iq
 rw[List.take_length]at bg0
 have hL:=uc bs
 generalize eJ bs=L at *
 have tl:=gw L k
 (try((repeat(revert hN;revert N;apply Pn.out));refine wk (tw @b7 (tw @bg0 (tw @b0 (tw @b1 (tw @b5 @hj))))) ?_;(repeat(refine Pn.mk ?_;intro N hN))))
 have Vk:o.bQ<st_b.next:=bI0
 refine aZ (fun n env st=>∃i:Nat,n=(k)-i/\i<=(k)/\env 12=.int .i64 (i:Int)/\st.get o=some ⟨true,1,dM L k⟩/\(∃oo rows ids,env 11=.own oo 0 rows.length/\st.get oo=some ⟨true,1,rows⟩/\eM Qc st.get rows ((leads i L).map (members k L)) ids/\(∀x∈oo::ids,st_b.next<=x.bQ/\x.bQ<st.next)/\st_b.next<=st.next/\oo∉ids)) (k) ⟨0,by omega,by omega,sl (tw @b7 (tw @bg0 (tw @b0 (tw @b1 (tw @b5 (dr Vk)))))),sl (tw @b7 (tw @bg0 (tw @b0 (tw @b1 (tw @b5 (dr Vk)))))),⟨⟨214016000,st_b.next+1⟩,[],[],by(simp only[go_sem, ↓reduceIte,Nat.reduceEqDiff,Nat.reduceAdd,Nat.reduceSub,Nat.reduceLeDiff,reduceCtorEq])<;>rfl,sd @Nat.zero_add,.nil,fun x hx=>by rw[List.mem_singleton.1 hx];(try dsimp only);omega,by(try dsimp only);omega,by simp⟩⟩ ?_
 rintro n_d env_d st_d ⟨i,rfl,dle,d12,dg0,dI0⟩ dfr
 have d0:=dfr 0 (by kernel_rfl);have d5:=dfr 5 (by kernel_rfl)
 simp only[go_sem, ↓reduceIte,Nat.reduceEqDiff,Nat.reduceAdd,Nat.reduceSub,Nat.reduceLeDiff,reduceCtorEq,b7,bg0,b0,b1,b5,dr Vk]at d0 d5
 clear dfr
 obtain⟨oo,rows,ids,d11,dg,hR,nW,hle,uY⟩:=dI0
 have ta:=gZ i L
 have qI:=hR.len
 by_cases hi:(i:Int)<(k:Int)
 ·have uf:∀{e:Env} {gg:Rows} {nx:Nat},(e 12=.int .i64 (IntKind.i64.wrap ((i:Int)+1)))->(gg o=some ⟨true,1,dM L k⟩)->(∃oo rows ids,e 11=.own oo 0 rows.length/\gg oo=some ⟨true,1,rows⟩/\eM Qc gg rows ((leads (i+1) L).map (members k L)) ids/\(∀x∈oo::ids,st_b.next<=x.bQ/\x.bQ<nx)/\st_b.next<=nx/\oo∉ids)->∃m0,m0<(k)-i/\∃i:Nat,m0=(k)-i/\i<=(k)/\e 12=.int .i64 (i:Int)/\gg o=some ⟨true,1,dM L k⟩/\(∃oo rows ids,e 11=.own oo 0 rows.length/\gg oo=some ⟨true,1,rows⟩/\eM Qc gg rows ((leads i L).map (members k L)) ids/\(∀x∈oo::ids,st_b.next<=x.bQ/\x.bQ<nx)/\st_b.next<=nx/\oo∉ids):=fun x1 x2 x3=>⟨_,by omega,i+1,rfl,by omega,(by rw[x1,aA (by omega)]),x2,x3⟩
  have fh:i<k:=by omega
  have hC:=fC (f:=L) fh
  have pW:=dr (i:=o) (n:=st_d.next) (by omega)
  have RU:=dr (i:=oo) (n:=st_d.next) (nW oo (by simp)).2
  by_cases he:L i=i
  ·rw[if_pos he]at ta
   have uV:decide ((L i:Int)=(i:Int))=true:=decide_eq_true (by rw[he])
   rw[eN]at hC
   (try((repeat(revert hN;revert N;apply Pn.out));refine wk (tw @d12 (tw @dg0 (tw @d0 (tw @d5 (tw @d11 (tw @dg (tw @hi (tw @hC (tw @tl (tw @uV (tw @pW @RU))))))))))) ?_;(repeat(refine Pn.mk ?_;intro N hN))))
   refine aZ (fun n env st=>∃m:Nat,n=((k-i))-m/\m<=((k-i))/\env 14=(.int .i64 ((i+m:Nat):Int))/\(∃pp:Id,env 13=.own pp 0 (members (i+m) L i).length/\st.get pp=some ⟨true,1,(members (i+m) L i).map eN⟩/\st_d.next<=pp.bQ/\pp.bQ<st.next/\(∀x:Id,x.bQ<st_d.next->st.get x=st_d.get x)/\st_d.next<=st.next)) ((k-i)) ⟨0,by omega,by omega,sl (tw @d12 (tw @dg0 (tw @d0 (tw @d5 @d11)))),⟨⟨214021000,st_d.next+1+1⟩,by rw[show members (i+0) L i=[]from nk hL (Nat.le_refl i)];(simp only[go_sem, ↓reduceIte,Nat.reduceEqDiff,Nat.reduceAdd,Nat.reduceSub,Nat.reduceLeDiff,reduceCtorEq])<;>rfl,by rw[show members (i+0) L i=[]from nk hL (Nat.le_refl i)];(simp only[go_sem, ↓reduceIte,Nat.reduceEqDiff,Nat.reduceAdd,Nat.reduceSub,Nat.reduceLeDiff,reduceCtorEq])<;>rfl,by(try dsimp only);omega,by(try dsimp only);omega,fun x hx=>sd (dr hx),by(try dsimp only);omega⟩⟩ ?_
   rintro n_f env_f st_f ⟨m,rfl,fle,f14,fI0⟩ ffr
   have f0:=ffr 0 (by kernel_rfl);have f5:=ffr 5 (by kernel_rfl);have f11:=ffr 11 (by kernel_rfl);have f12:=ffr 12 (by kernel_rfl)
   simp only[go_sem, ↓reduceIte,Nat.reduceEqDiff,Nat.reduceAdd,Nat.reduceSub,Nat.reduceLeDiff,reduceCtorEq,d12,dg0,d0,d5,d11]at f0 f5 f11 f12
   clear ffr
   obtain⟨pp,f13,fg,OU,Jq,jz,s9⟩:=fI0
   have xR:st_f.get o=some ⟨true,1,dM L k⟩:=(jz o (by omega)).trans dg0
   have UY:st_f.get oo=some ⟨true,1,rows⟩:=(jz oo (nW oo (by simp)).2).trans dg
   have AP:=dr Jq
   have BR:=dr (i:=o) (n:=st_f.next) (by omega)
   have RV:=dr (i:=oo) (n:=st_f.next) (by have:=(nW oo (by simp)).2;omega)
   have OQ:members (i+(m+1)) L i=members (i+m) L i++if L (i+m)=i then[i+m]else[]:=jB (i+m) L i
   have Vb:(members (i+m) L i).length<=i+m:=by
    have:=List.length_filter_le (fun k=>L k==i) (List.range (i+m))
    simpa[members]using this
   have x1:=bU (a:=o) (b:=pp) (by omega)
   have x2:=bU (a:=oo) (b:=pp) (by have:=(nW oo (by simp)).2;omega)
   have x3:=bU (a:=o) (b:=oo) (by have:=(nW oo (by simp)).1;omega)
   by_cases hm:m<k-i
   ·have r7:∀{e:Env} {gg:Rows} {nx:Nat},(e 14=(.int .i64 ((i+(m+1):Nat):Int)))->(∃pp:Id,e 13=.own pp 0 (members (i+(m+1)) L i).length/\gg pp=some ⟨true,1,(members (i+(m+1)) L i).map eN⟩/\st_d.next<=pp.bQ/\pp.bQ<nx/\(∀x:Id,x.bQ<st_d.next->gg x=st_d.get x)/\st_d.next<=nx)->∃m0,m0<((k-i))-m/\∃m:Nat,m0=((k-i))-m/\m<=((k-i))/\e 14=(.int .i64 ((i+m:Nat):Int))/\(∃pp:Id,e 13=.own pp 0 (members (i+m) L i).length/\gg pp=some ⟨true,1,(members (i+m) L i).map eN⟩/\st_d.next<=pp.bQ/\pp.bQ<nx/\(∀x:Id,x.bQ<st_d.next->gg x=st_d.get x)/\st_d.next<=nx):=fun x1 x2=>⟨_,by omega,m+1,rfl,by omega,x1,x2⟩
    have RB:((i+m:Nat):Int)<(k:Int):=by omega
    have Ui:=fC (f:=L) (show i+m<k by omega)
    have hw:IntKind.i64.wrap (((i+m:Nat):Int)+1)=((i+(m+1):Nat):Int):=by rw[bI (by omega)];omega
    rw[eN]at Ui
    by_cases hq:L (i+m)=i
    ·have me:decide ((L (i+m):Int)=(i:Int))=true:=decide_eq_true (by rw[hq])
     rw[if_pos hq]at OQ
     have e1:(members (i+m) L i).length+1<=16777216:=by omega
     have ke:((members (i+m) L i).map eN).length=(members (i+m) L i).length:=by simp
     (try((repeat(revert hN;revert N;apply Pn.out));refine wk (tw @f14 (tw @f0 (tw @f5 (tw @f11 (tw @f12 (tw @f13 (tw @fg (tw @xR (tw @RB (tw @Ui (tw @tl (tw @me (tw @AP (tw @BR (tw @x1 (tw @e1 @ke)))))))))))))))) ?_;(repeat(refine Pn.mk ?_;intro N hN))))
     exact r7 (sd (tw @f14 (tw @f0 (tw @f5 (tw @f11 (tw @f12 (tw @xR (tw @hw (tw @BR @x1))))))))) (⟨⟨214026003,st_f.next+1+1⟩,by rw[OQ,List.length_append];simp only[go_sem, ↓reduceIte,Nat.reduceEqDiff,Nat.reduceAdd,Nat.reduceSub,Nat.reduceLeDiff,reduceCtorEq,List.length_cons,List.length_nil],by rw[OQ,List.map_append,List.map_cons,List.map_nil];simp only[go_sem, ↓reduceIte,Nat.reduceEqDiff,Nat.reduceAdd,Nat.reduceSub,Nat.reduceLeDiff,reduceCtorEq,eN],by(try dsimp only);omega,by(try dsimp only);omega,fun x hx=>by
      have y1:=jz x hx
      have y2:=bU (a:=x) (b:=pp) (by omega)
      simp only[go_sem, ↓reduceIte,Nat.reduceEqDiff,Nat.reduceAdd,Nat.reduceSub,Nat.reduceLeDiff,reduceCtorEq,dr (show x.bQ<st_f.next by omega),y1,y2],by(try dsimp only);omega⟩)
    ·have me:decide ((L (i+m):Int)=(i:Int))=false:=decide_eq_false fun h=>hq (by omega)
     rw[if_neg hq,List.append_nil]at OQ
     (try((repeat(revert hN;revert N;apply Pn.out));refine wk (tw @f14 (tw @f0 (tw @f5 (tw @f11 (tw @f12 (tw @f13 (tw @fg (tw @xR (tw @RB (tw @Ui (tw @tl (tw @me (tw @AP (tw @BR @x1)))))))))))))) ?_;(repeat(refine Pn.mk ?_;intro N hN))))
     exact r7 (sd (tw @f14 (tw @f0 (tw @f5 (tw @f11 (tw @f12 (tw @xR @hw))))))) (⟨pp,by rw[OQ];simp only[go_sem, ↓reduceIte,Nat.reduceEqDiff,Nat.reduceAdd,Nat.reduceSub,Nat.reduceLeDiff,reduceCtorEq,f13],by rw[OQ];simp only[go_sem, ↓reduceIte,Nat.reduceEqDiff,Nat.reduceAdd,Nat.reduceSub,Nat.reduceLeDiff,reduceCtorEq,fg],OU,by(try dsimp only);omega,jz,by(try dsimp only);omega⟩)
   ·have hmk:i+m=k:=by omega
    have RB:¬((i+m:Nat):Int)<(k:Int):=by omega
    rw[hmk]at f13 fg Vb
    have e1:rows.length+1<=16777216:=by
     have:=jU i L
     rw[qI,List.length_map];omega
    (try((repeat(revert hN;revert N;apply Pn.out));refine wk (tw @f14 (tw @f0 (tw @f5 (tw @f11 (tw @f12 (tw @f13 (tw @fg (tw @xR (tw @UY (tw @RB (tw @AP (tw @BR (tw @RV (tw @x1 (tw @x2 @e1))))))))))))))) ?_;(repeat(refine Pn.mk ?_;intro N hN))))
    refine uf ?_ ?_ (⟨⟨214027003,st_f.next+1⟩,rows++[[.own pp 0 (members k L i).length]],ids++[pp],by rw[List.length_append];simp only[go_sem, ↓reduceIte,Nat.reduceEqDiff,Nat.reduceAdd,Nat.reduceSub,Nat.reduceLeDiff,reduceCtorEq,List.length_cons,List.length_nil],sd @Nat.zero_add,by
      rw[ta,List.map_append]
      refine(hR.frame Mh fun x hx=>?_).app (.one ⟨pp,rfl,?_,rfl⟩)
      ·have h1:=nW x (by simp[hx])
       have y1:=jz x h1.2
       have y2:=bU (a:=x) (b:=pp) (by omega)
       have y3:(x=oo)=False:=by
        simp only[eq_iff_iff,iff_false]
        rintro rfl
        exact uY hx
       simp only[go_sem, ↓reduceIte,Nat.reduceEqDiff,Nat.reduceAdd,Nat.reduceSub,Nat.reduceLeDiff,reduceCtorEq,dr (show x.bQ<st_f.next by omega),y1,y2,y3]
      ·simp only[go_sem, ↓reduceIte,Nat.reduceEqDiff,Nat.reduceAdd,Nat.reduceSub,Nat.reduceLeDiff,reduceCtorEq,AP,x2,fg],fun x hx=>by
      rcases List.mem_cons.1 hx with rfl|hx
      ·(try dsimp only);omega
      ·rcases List.mem_append.1 hx with hx|hx
       ·have:=nW x (by simp[hx]);(try dsimp only);omega
       ·rw[List.mem_singleton.1 hx];(try dsimp only);omega,by(try dsimp only);omega,fun hc=>by
      rcases List.mem_append.1 hc with hc|hc
      ·have:=(nW _ (List.mem_cons_of_mem _ hc)).2;(try dsimp only at this);omega
      ·have:=List.mem_singleton.1 hc;rw[<-this]at Jq;(try dsimp only at Jq);omega⟩)
    all_goals simp only[go_sem, ↓reduceIte,Nat.reduceEqDiff,Nat.reduceAdd,Nat.reduceSub,Nat.reduceLeDiff,reduceCtorEq,f14,f0,f5,f11,f12,xR,BR,x3]
  ·rw[if_neg he,List.append_nil]at ta
   have uV:decide ((L i:Int)=(i:Int))=false:=decide_eq_false fun h=>he (by omega)
   rw[eN]at hC
   (try((repeat(revert hN;revert N;apply Pn.out));refine wk (tw @d12 (tw @dg0 (tw @d0 (tw @d5 (tw @d11 (tw @dg (tw @hi (tw @hC (tw @tl (tw @uV (tw @pW @RU))))))))))) ?_;(repeat(refine Pn.mk ?_;intro N hN))))
   refine uf ?_ ?_ (⟨oo,rows,ids,sd @d11,sd @dg,by rw[ta];exact hR,fun x hx=>by have:=nW x hx;(try dsimp only);omega,by(try dsimp only);omega,uY⟩)
   all_goals simp only[go_sem, ↓reduceIte,Nat.reduceEqDiff,Nat.reduceAdd,Nat.reduceSub,Nat.reduceLeDiff,reduceCtorEq,d12,dg0,d0,d5]
 ·have yC:i=k:=by omega
  (try((repeat(revert hN;revert N;apply Pn.out));refine wk (tw @d12 (tw @dg0 (tw @d0 (tw @d5 (tw @d11 (tw @dg @hi)))))) ?_;(repeat(refine Pn.mk ?_;intro N hN))))
  refine xd (.inl rfl) (by simp only[go_sem, ↓reduceIte,Nat.reduceEqDiff,Nat.reduceAdd,Nat.reduceSub,Nat.reduceLeDiff,reduceCtorEq];rfl) ?_
  rw[uR dg (by simp) (rows':=(fF k L).map AM) (by rw[List.drop_zero,List.take_of_length_le (Nat.le_refl _)];rw[yC]at hR;exact JO 3 hR)]
end Go.Proofs.YtgoelphibofcmaaGreat.V

namespace Go.Proofs.YtgoelphibofcmaaGreat.V
open Go.RowKit
attribute [local irreducible] dO wpOps gy Call
attribute [local go_sem] aT fK eS ga fZ dj upd cF K.av cP AV.cells AV.cell rowOf rowsOf part ld rowAt bL cD dG ef ik bV de ew fW fe dw ek dc db dU dV cj bl cU b4 cW cV ei eo ej cR cm dd eh bW aV cZ cI ij bx cK ck bd du bj dI AV.undef bH bS dW eb dQ dP cJ ev eE cH er ep cY da List.getD_cons_zero List.getD_cons_succ List.getD_nil List.all_cons List.all_nil Bool.and_true Bool.true_and Bool.and_self Bool.not_true Bool.not_false Option.map_some Option.map_none Option.bind_some Option.bind_none List.length_cons List.length_nil List.take_succ_cons List.take_zero List.take_nil List.drop_succ_cons List.drop_zero List.drop_nil List.head?_cons List.map_cons List.map_nil List.getElem?_cons_zero List.getElem?_cons_succ List.cons_append List.nil_append List.append_nil List.length_map List.set_cons_zero List.set_cons_succ Nat.reduceMul eq_self Int.toNat_natCast Int.natCast_nonneg and_self true_and and_true decide_true decide_false Bool.false_eq_true Nat.zero_add Nat.add_zero List.contains_cons List.contains_nil Bool.or_false Bool.false_or beq_self_eq_true Nat.reduceBEq ne_eq not_true_eq_false not_false_eq_true Id.mk.injEq false_and and_false Nat.reduceLT Int.reduceLE Int.reduceLT Int.reduceToNat Int.reduceNeg Int.reduceAdd Nat.le_refl List.length_append beq_true beq_false Bool.not_eq_eq_eq_not or_false false_or dR ae aj aI bq bG cC aY bh aW bp cQ bJ
theorem xp (n:Nat):List.replicate n [AV.int .i64 0]=dM (fun _=>0) n:=by
 refine List.ext_getElem? fun i=>?_
 by_cases h:i<n
 ·rw[fC h,List.getElem?_replicate,if_pos h];rfl
 ·rw[List.getElem?_eq_none (by simp;omega),List.getElem?_eq_none (by rw[gw];omega)]
def dm (cnt:Nat) (L:Nat->Nat) (i m:Nat):Nat->Nat:=fun x=>if cq L x<i then cq L x else if x∈(members cnt L ((leads cnt L).getD i 0)).take m then i else 0
theorem oQ (cnt:Nat) (L:Nat->Nat):dm cnt L 0 0=fun _=>0:=by funext x;simp[dm]
theorem uk (t:Int) (bs:List PB) (k:Nat) (h:k<bs.length):aU t (bs.take (k+1))=aU t (bs.take k)++if t<=(bs[k]).s then[bs[k]]else[]:=by
 unfold aU
 rw[List.take_succ_eq_append_getElem h,List.filter_append]
 congr 1
 by_cases h:t<=bs[k].s<;>simp[h]
theorem xk {t:Int} {bs:List PB} {b:PB} (h:b∈aU t bs):b∈bs:=(List.mem_filter.1 h).1
theorem ns (t:Int) (bs:List PB):(aU t bs).length<=bs.length:=List.length_filter_le _ _
theorem B8 (cnt:Nat) (hn:cnt<=1048576) (bs:List PB) (hb:∀b∈bs,b.a<cnt/\b.b<cnt) (qe:bs.length<=1048576) (t:Int):aq Tryz.prog 192 [.int .i64 cnt,.sl (bs.map aB),.int .i64 t] (.gE [.int .i64 (leads cnt (eJ (aU t bs))).length,.sl ((fj (eJ (aU t bs)) bs).map aB)]):=by
 refine aq.body eK rfl fun hl n0=>?_
 clear hl
 (try((repeat(revert hN;revert N;apply Pn.out));refine wk @Nat.zero_add ?_;(repeat(refine Pn.mk ?_;intro N hN))))
 refine aZ (fun n env st=>∃k:Nat,n=(bs.length)-k/\k<=(bs.length)/\env 9=.int .i64 (k:Int)/\(∃o:Id,env 8=.own o 0 (aU t (bs.take k)).length/\st.get o=some ⟨true,3,(aU t (bs.take k)).map aB⟩/\o.bQ<st.next)) (bs.length) ⟨0,by omega,by omega,sl @Nat.zero_add,⟨⟨192001000,n0+1⟩,by(simp only[go_sem, ↓reduceIte,Nat.reduceEqDiff,Nat.reduceAdd,Nat.reduceSub,Nat.reduceLeDiff,reduceCtorEq])<;>rfl,by(simp only[go_sem, ↓reduceIte,Nat.reduceEqDiff,Nat.reduceAdd,Nat.reduceSub,Nat.reduceLeDiff,reduceCtorEq])<;>rfl,by(try dsimp only);omega⟩⟩ ?_
 rintro n_a env_a st_a ⟨k,rfl,ale,a9,j4⟩ dx
 have a0:=dx 0 (by kernel_rfl);have a1:=dx 1 (by kernel_rfl);have a2:=dx 2 (by kernel_rfl)
 simp only[go_sem, ↓reduceIte,Nat.reduceEqDiff,Nat.reduceAdd,Nat.reduceSub,Nat.reduceLeDiff,reduceCtorEq]at a0 a1 a2
 clear dx
 obtain⟨o,a8,ag,uC⟩:=j4
 have sK:=dr uC
 by_cases hk:(k:Int)<(bs.length:Int)
 ·have cz:∀{e:Env} {gg:Rows} {nx:Nat},(e 9=.int .i64 (IntKind.i64.wrap ((k:Int)+1)))->(∃o:Id,e 8=.own o 0 (aU t (bs.take (k+1))).length/\gg o=some ⟨true,3,(aU t (bs.take (k+1))).map aB⟩/\o.bQ<nx)->∃m0,m0<(bs.length)-k/\∃k:Nat,m0=(bs.length)-k/\k<=(bs.length)/\e 9=.int .i64 (k:Int)/\(∃o:Id,e 8=.own o 0 (aU t (bs.take k)).length/\gg o=some ⟨true,3,(aU t (bs.take k)).map aB⟩/\o.bQ<nx):=fun x1 x2=>⟨_,by omega,k+1,rfl,by omega,(by rw[x1,aA (by omega)]),x2⟩
  have fM:k<bs.length:=by omega
  have e9:(bs.map aB)[k]? =some (aB bs[k]):=by simp[fM]
  have hs:=uk t bs k fM
  have Ea:=ns t (bs.take k)
  rw[List.length_take]at Ea
  by_cases hc:t<=(bs[k]).s
  ·rw[if_pos hc]at hs
   have e1:(aU t (bs.take k)).length+1<=16777216:=by omega
   have ke:((aU t (bs.take k)).map aB).length=(aU t (bs.take k)).length:=by simp
   generalize bs[k]=b at *
   (try((repeat(revert hN;revert N;apply Pn.out));refine wk (tw @a9 (tw @a0 (tw @a1 (tw @a2 (tw @a8 (tw @ag (tw @sK (tw @hk (tw @e9 (tw @hc (tw @e1 (tw @ke @aB.eq_1)))))))))))) ?_;(repeat(refine Pn.mk ?_;intro N hN))))
   exact cz (sd (tw @a9 (tw @a0 (tw @a1 @a2)))) (⟨⟨192006006,st_a.next+1+1⟩,by rw[hs,List.length_append];simp only[go_sem, ↓reduceIte,Nat.reduceEqDiff,Nat.reduceAdd,Nat.reduceSub,Nat.reduceLeDiff,reduceCtorEq,List.length_cons,List.length_nil],by rw[hs,List.map_append,List.map_cons,List.map_nil];simp only[go_sem, ↓reduceIte,Nat.reduceEqDiff,Nat.reduceAdd,Nat.reduceSub,Nat.reduceLeDiff,reduceCtorEq,aB],by(try dsimp only);omega⟩)
  ·rw[if_neg hc,List.append_nil]at hs
   generalize bs[k]=b at *
   (try((repeat(revert hN;revert N;apply Pn.out));refine wk (tw @a9 (tw @a0 (tw @a1 (tw @a2 (tw @a8 (tw @ag (tw @sK (tw @hk (tw @e9 (tw @hc @aB.eq_1)))))))))) ?_;(repeat(refine Pn.mk ?_;intro N hN))))
   exact cz (sd (tw @a9 (tw @a0 (tw @a1 @a2)))) (⟨o,by rw[hs];simp only[go_sem, ↓reduceIte,Nat.reduceEqDiff,Nat.reduceAdd,Nat.reduceSub,Nat.reduceLeDiff,reduceCtorEq,a8],by rw[hs];simp only[go_sem, ↓reduceIte,Nat.reduceEqDiff,Nat.reduceAdd,Nat.reduceSub,Nat.reduceLeDiff,reduceCtorEq,ag],by(try dsimp only);omega⟩)
 have l6:k=bs.length:=by omega
 subst l6
 rw[List.take_length]at a8 ag
 have HZ:=B6 cnt hn (aU t bs) (fun b h=>hb b (xk h)) (by have:=ns t bs;omega)
 have hL:=uc (aU t bs)
 have CX:fz (dR st_a.get) 6 (.own o 0 (aU t bs).length)=some (.sl ((aU t bs).map aB)):=gY (sz:=3) (by simp[dR,ag]) rfl fun b=>zF _ 4 b
 have UX:∀x,dn (dR st_a.get) 6 [.int .i64 x,.own o 0 (aU t bs).length]=some [.int .i64 x,.sl ((aU t bs).map aB)]:=fun x=>by simp only[ae,aj,aI,CX,Option.map_some]
 (try((repeat(revert hN;revert N;apply Pn.out));refine wk (tw @a9 (tw @a0 (tw @a1 (tw @a2 (tw @a8 @hk))))) ?_;(repeat(refine Pn.mk ?_;intro N hN))))
 refine .inl ⟨_,aq.x HZ (UX _),?_⟩
 refine hN _ _ ?_
 clear hN N
 generalize eJ (aU t bs)=L at *
 have s7:((fF cnt L).map AM).length=(leads cnt L).length:=by simp[fF]
 have Tm:=jU cnt L
 have jN:(0:Int)<=(cnt:Int):=by omega
 have mN:(cnt:Int)<=((16777216:Nat):Int):=by omega
 have gS:List.replicate cnt [AV.int .i64 0]=dM (dm cnt L 0 0) cnt:=by rw[xp,oQ]
 (try((repeat(revert hN;revert N;apply Pn.out));refine wk (tw @a9 (tw @a0 (tw @a1 (tw @a2 (tw @jN (tw @mN @Int.le_refl)))))) ?_;(repeat(refine Pn.mk ?_;intro N hN))))
 refine aZ (fun n env st=>∃i:Nat,n=((leads cnt L).length)-i/\i<=((leads cnt L).length)/\env 12=.int .i64 (i:Int)/\st.get ⟨192008001,st_a.next+1+1⟩=some ⟨true,1,dM (dm cnt L i 0) cnt⟩/\(st_a.next+1+1<st.next)) ((leads cnt L).length) ⟨0,by omega,by omega,sl (tw @a9 (tw @a0 (tw @a1 (tw @a2 @gS)))),sl (tw @a9 (tw @a0 (tw @a1 (tw @a2 @gS)))),(by(try dsimp only);omega)⟩ ?_
 rintro n_c env_c st_c ⟨i,rfl,cle,zx,cg0,cI0⟩ cfr
 have c1:=cfr 1 (by kernel_rfl);have jG:=cfr 10 (by kernel_rfl);have nR:=cfr 11 (by kernel_rfl)
 simp only[go_sem, ↓reduceIte,Nat.reduceEqDiff,Nat.reduceAdd,Nat.reduceSub,Nat.reduceLeDiff,reduceCtorEq,a9,a0,a1,a2,gS]at c1 jG nR
 clear cfr
 by_cases hi:(i:Int)<((leads cnt L).length:Int)
 ·have iv:∀{e:Env} {gg:Rows} {nx:Nat},(e 12=.int .i64 (IntKind.i64.wrap ((i:Int)+1)))->(gg ⟨192008001,st_a.next+1+1⟩=some ⟨true,1,dM (dm cnt L (i+1) 0) cnt⟩)->(st_a.next+1+1<nx)->∃m0,m0<((leads cnt L).length)-i/\∃i:Nat,m0=((leads cnt L).length)-i/\i<=((leads cnt L).length)/\e 12=.int .i64 (i:Int)/\gg ⟨192008001,st_a.next+1+1⟩=some ⟨true,1,dM (dm cnt L i 0) cnt⟩/\(st_a.next+1+1<nx):=fun x1 x2 x3=>⟨_,by omega,i+1,rfl,by omega,(by rw[x1,aA (by omega)]),x2,x3⟩
  have fh:i<(leads cnt L).length:=by omega
  have jl:((fF cnt L).map AM)[i]? =some (AM (members cnt L (leads cnt L)[i])):=by simp[fF,fh]
  have sI:(leads cnt L).getD i 0=(leads cnt L)[i]:=by simp[List.getD_eq_getElem?_getD,fh]
  have lr:∀m,dm cnt L i m=fun x=>if cq L x<i then cq L x else if x∈(members cnt L (leads cnt L)[i]).take m then i else 0:=fun m=>by unfold dm;rw[sI]
  have rM:=fun x (hx:x<cnt)=>tj hL (n:=cnt) (k:=x) (i:=i) hx fh
  have mh:(members cnt L (leads cnt L)[i]).Nodup:=List.nodup_range.filter _
  have OP:∀x∈members cnt L (leads cnt L)[i],x<cnt:=fun x hx=>(lL.1 hx).1
  have hMc:(members cnt L (leads cnt L)[i]).length<=cnt:=by
   have:=List.length_filter_le (fun k=>L k==(leads cnt L)[i]) (List.range cnt)
   simpa[members]using this
  generalize members cnt L (leads cnt L)[i]=M at *
  have CU:(M.map eN).length=M.length:=by simp
  (try((repeat(revert hN;revert N;apply Pn.out));refine wk (tw @zx (tw @cg0 (tw @c1 (tw @jG (tw @nR (tw @hi @s7)))))) ?_;(repeat(refine Pn.mk ?_;intro N hN))))
  refine aZ (fun n env st=>∃m:Nat,n=(M.length)-m/\m<=(M.length)/\env 13=.int .i64 (m:Int)/\st.get ⟨192008001,st_a.next+1+1⟩=some ⟨true,1,dM (dm cnt L i m) cnt⟩/\(st_a.next+1+1<st.next)) (M.length) ⟨0,by omega,by omega,sl (tw @zx (tw @cg0 (tw @c1 (tw @jG @nR)))),sl (tw @zx (tw @cg0 (tw @c1 (tw @jG @nR)))),(by(try dsimp only);omega)⟩ ?_
  rintro n_d env_d st_d ⟨m,rfl,dle,d13,dg0,dI0⟩ dfr
  have d1:=dfr 1 (by kernel_rfl);have d10:=dfr 10 (by kernel_rfl);have d11:=dfr 11 (by kernel_rfl);have d12:=dfr 12 (by kernel_rfl)
  simp only[go_sem, ↓reduceIte,Nat.reduceEqDiff,Nat.reduceAdd,Nat.reduceSub,Nat.reduceLeDiff,reduceCtorEq,zx,cg0,c1,jG,nR]at d1 d10 d11 d12
  clear dfr
  have tl:=gw (dm cnt L i m) cnt
  by_cases hm:(m:Int)<(M.length:Int)
  ·have uf:∀{e:Env} {gg:Rows} {nx:Nat},(e 13=.int .i64 (IntKind.i64.wrap ((m:Int)+1)))->(gg ⟨192008001,st_a.next+1+1⟩=some ⟨true,1,dM (dm cnt L i (m+1)) cnt⟩)->(st_a.next+1+1<nx)->∃m0,m0<(M.length)-m/\∃m:Nat,m0=(M.length)-m/\m<=(M.length)/\e 13=.int .i64 (m:Int)/\gg ⟨192008001,st_a.next+1+1⟩=some ⟨true,1,dM (dm cnt L i m) cnt⟩/\(st_a.next+1+1<nx):=fun x1 x2 x3=>⟨_,by omega,m+1,rfl,by omega,(by rw[x1,aA (by omega)]),x2,x3⟩
   have zO:m<M.length:=by omega
   have wH:(M.map eN)[m]? =some (eN M[m]):=by simp[zO]
   have wM:=OP _ (List.getElem_mem zO)
   have C4:(M[m]:Int)<(cnt:Int):=by omega
   have C3:=fC (f:=dm cnt L i m) wM
   have eH:(dM (dm cnt L i m) cnt).set M[m] (eN i)=dM (dm cnt L i (m+1)) cnt:=pO wM (by
    have h1:=(rM _ wM).1 (List.getElem_mem zO)
    rw[lr]
    simp only[]
    rw[if_neg (by omega),if_pos (by rw[List.take_succ_eq_append_getElem zO];exact List.mem_append_right _ (List.mem_singleton.2 rfl))]) fun x hx gP=>by
    rw[lr,lr]
    simp only[]
    rw[List.take_succ_eq_append_getElem zO]
    simp only[List.mem_append,List.mem_singleton,gP,or_false]
   rw[eN]at eH C3
   generalize M[m]=xm at *
   (try((repeat(revert hN;revert N;apply Pn.out));refine wk (tw @d13 (tw @dg0 (tw @d1 (tw @d10 (tw @d11 (tw @d12 (tw @hm (tw @hi (tw @jl (tw @s7 (tw @wH (tw @CU (tw @C4 (tw @C3 (tw @tl (tw @eH (tw @AM.eq_1 @eN.eq_1))))))))))))))))) ?_;(repeat(refine Pn.mk ?_;intro N hN))))
   refine uf ?_ ?_ (by(try dsimp only);omega)
   all_goals simp only[go_sem, ↓reduceIte,Nat.reduceEqDiff,Nat.reduceAdd,Nat.reduceSub,Nat.reduceLeDiff,reduceCtorEq,d13,dg0,d1,d10,d11,d12,eH]
  ·have ke:m=M.length:=by omega
   subst ke
   have s9:dM (dm cnt L i M.length) cnt=dM (dm cnt L (i+1) 0) cnt:=im fun x hx=>by
    rw[lr,List.take_length]
    simp only[dm,List.take_zero,List.not_mem_nil,if_false]
    have h1:=rM x hx
    by_cases h2:cq L x<i
    ·rw[if_pos h2,if_pos (by omega)]
    ·rw[if_neg h2]
     by_cases h3:x∈M
     ·rw[if_pos h3,if_pos (by have:=h1.1 h3;omega),h1.1 h3]
     ·rw[if_neg h3,if_neg fun h4=>h3 (h1.2 (by omega))]
   (try((repeat(revert hN;revert N;apply Pn.out));refine wk (tw @d13 (tw @dg0 (tw @d1 (tw @d10 (tw @d11 (tw @d12 (tw @hm (tw @hi (tw @jl (tw @s7 (tw @CU @AM.eq_1))))))))))) ?_;(repeat(refine Pn.mk ?_;intro N hN))))
   refine iv ?_ ?_ (by(try dsimp only);omega)
   all_goals simp only[go_sem, ↓reduceIte,Nat.reduceEqDiff,Nat.reduceAdd,Nat.reduceSub,Nat.reduceLeDiff,reduceCtorEq,zx,cg0,c1,jG,nR,d13,dg0,d1,d10,d11,d12,s9]
 have kN:i=(leads cnt L).length:=by omega
 subst kN
 have uY:dM (dm cnt L (leads cnt L).length 0) cnt=dM (cq L) cnt:=im fun x hx=>by rw[dm,if_pos (ki hL hx)]
 rw[uY]at cg0
 have tl:=gw (cq L) cnt
 (try((repeat(revert hN;revert N;apply Pn.out));refine wk (tw @zx (tw @cg0 (tw @c1 (tw @jG (tw @nR (tw @hi @s7)))))) ?_;(repeat(refine Pn.mk ?_;intro N hN))))
 have Ta:st_a.next+1+1<st_c.next:=cI0
 refine aZ (fun n env st=>∃j:Nat,n=(bs.length)-j/\j<=(bs.length)/\env 15=.int .i64 (j:Int)/\st.get ⟨192008001,st_a.next+1+1⟩=some ⟨true,1,dM (cq L) cnt⟩/\(∃p:Id,env 14=.own p 0 (fj L (bs.take j)).length/\st.get p=some ⟨true,3,(fj L (bs.take j)).map aB⟩/\st_c.next<=p.bQ/\p.bQ<st.next)) (bs.length) ⟨0,by omega,by omega,sl (tw @zx (tw @cg0 (tw @c1 (tw @jG @nR)))),sl (tw @zx (tw @cg0 (tw @c1 (tw @jG @nR)))),⟨⟨192016000,st_c.next+1⟩,by(simp only[go_sem, ↓reduceIte,Nat.reduceEqDiff,Nat.reduceAdd,Nat.reduceSub,Nat.reduceLeDiff,reduceCtorEq])<;>rfl,by(simp only[go_sem, ↓reduceIte,Nat.reduceEqDiff,Nat.reduceAdd,Nat.reduceSub,Nat.reduceLeDiff,reduceCtorEq])<;>rfl,by(try dsimp only);omega,by(try dsimp only);omega⟩⟩ ?_
 rintro n_f env_f st_f ⟨j,rfl,fle,f15,fg0,fI0⟩ ffr
 have f1:=ffr 1 (by kernel_rfl);have f10:=ffr 10 (by kernel_rfl);have f11:=ffr 11 (by kernel_rfl)
 simp only[go_sem, ↓reduceIte,Nat.reduceEqDiff,Nat.reduceAdd,Nat.reduceSub,Nat.reduceLeDiff,reduceCtorEq,zx,cg0,c1,jG,nR]at f1 f10 f11
 clear ffr
 obtain⟨p,f14,fg,OU,Jq⟩:=fI0
 have x1:=bU (a:=⟨192008001,st_a.next+1+1⟩) (b:=p) (by(try dsimp only);omega)
 have AP:=dr Jq
 have hvn:st_a.next+1+1<st_f.next:=by omega
 have JA:=dr (i:=⟨192008001,st_a.next+1+1⟩) (n:=st_f.next) hvn
 have Ea:=(nr L (bs.take j)).2
 rw[List.length_take]at Ea
 by_cases hj:(j:Int)<(bs.length:Int)
 ·have r7:∀{e:Env} {gg:Rows} {nx:Nat},(e 15=.int .i64 (IntKind.i64.wrap ((j:Int)+1)))->(gg ⟨192008001,st_a.next+1+1⟩=some ⟨true,1,dM (cq L) cnt⟩)->(∃p:Id,e 14=.own p 0 (fj L (bs.take (j+1))).length/\gg p=some ⟨true,3,(fj L (bs.take (j+1))).map aB⟩/\st_c.next<=p.bQ/\p.bQ<nx)->∃m0,m0<(bs.length)-j/\∃j:Nat,m0=(bs.length)-j/\j<=(bs.length)/\e 15=.int .i64 (j:Int)/\gg ⟨192008001,st_a.next+1+1⟩=some ⟨true,1,dM (cq L) cnt⟩/\(∃p:Id,e 14=.own p 0 (fj L (bs.take j)).length/\gg p=some ⟨true,3,(fj L (bs.take j)).map aB⟩/\st_c.next<=p.bQ/\p.bQ<nx):=fun x1 x2 x3=>⟨_,by omega,j+1,rfl,by omega,(by rw[x1,aA (by omega)]),x2,x3⟩
  have iH:j<bs.length:=by omega
  have HY:(bs.map aB)[j]? =some (aB bs[j]):=by simp[iH]
  have Nd:=hb _ (List.getElem_mem iH)
  have hs:=Aj L (bs.take j) bs[j]
  rw[<-List.take_succ_eq_append_getElem iH]at hs
  generalize bs[j]=b at *
  have hA:=fC (f:=cq L) Nd.1
  have hB:=fC (f:=cq L) Nd.2
  have gR:(b.a:Int)<(cnt:Int):=by omega
  have fX:(b.b:Int)<(cnt:Int):=by omega
  have SY:=B3 (cq L b.a) (cq L b.b)
  have SZ:=BZ (cq L b.a) (cq L b.b)
  rw[eN]at hA hB
  by_cases he:cq L b.a=cq L b.b
  ·rw[if_pos he,List.append_nil]at hs
   have uV:decide ((cq L b.a:Int)=(cq L b.b:Int))=true:=decide_eq_true (by rw[he])
   (try((repeat(revert hN;revert N;apply Pn.out));refine wk (tw @f15 (tw @fg0 (tw @f1 (tw @f10 (tw @f11 (tw @f14 (tw @fg (tw @hj (tw @HY (tw @hA (tw @hB (tw @gR (tw @fX (tw @tl (tw @uV (tw @x1 (tw @AP @aB.eq_1))))))))))))))))) ?_;(repeat(refine Pn.mk ?_;intro N hN))))
   refine r7 ?_ ?_ (⟨p,by rw[hs];simp only[go_sem, ↓reduceIte,Nat.reduceEqDiff,Nat.reduceAdd,Nat.reduceSub,Nat.reduceLeDiff,reduceCtorEq,f14],by rw[hs];simp only[go_sem, ↓reduceIte,Nat.reduceEqDiff,Nat.reduceAdd,Nat.reduceSub,Nat.reduceLeDiff,reduceCtorEq,fg],OU,by(try dsimp only);omega⟩)
   all_goals simp only[go_sem, ↓reduceIte,Nat.reduceEqDiff,Nat.reduceAdd,Nat.reduceSub,Nat.reduceLeDiff,reduceCtorEq,f15,fg0,f1,f10,f11]
  ·rw[if_neg he]at hs
   have uV:decide ((cq L b.a:Int)=(cq L b.b:Int))=false:=decide_eq_false fun h=>he (by omega)
   have e1:(fj L (bs.take j)).length+1<=16777216:=by omega
   have ke:((fj L (bs.take j)).map aB).length=(fj L (bs.take j)).length:=by simp
   (repeat(first|((repeat(revert hN;revert N;apply Pn.out));refine wk (tw @f15 (tw @fg0 (tw @f1 (tw @f10 (tw @f11 (tw @f14 (tw @fg (tw @hj (tw @HY (tw @hA (tw @hB (tw @gR (tw @fX (tw @tl (tw @uV (tw @x1 (tw @AP (tw @JA (tw @e1 (tw @ke @aB.eq_1)))))))))))))))))))) ?_;(repeat(refine Pn.mk ?_;intro N hN)))|((try apply Or.inl);refine⟨_,aq.x (SY) (sd (tw @f15 (tw @fg0 (tw @f1 (tw @f10 (tw @f11 (tw @f14 (tw @fg (tw @hj (tw @HY (tw @hA (tw @hB (tw @gR (tw @fX (tw @tl (tw @uV (tw @x1 (tw @AP (tw @JA (tw @e1 (tw @ke @aB.eq_1))))))))))))))))))))),?_⟩;refine hN _ _ ?_;clear hN N)|((try apply Or.inl);refine⟨_,aq.x (SZ) (sd (tw @f15 (tw @fg0 (tw @f1 (tw @f10 (tw @f11 (tw @f14 (tw @fg (tw @hj (tw @HY (tw @hA (tw @hB (tw @gR (tw @fX (tw @tl (tw @uV (tw @x1 (tw @AP (tw @JA (tw @e1 (tw @ke @aB.eq_1))))))))))))))))))))),?_⟩;refine hN _ _ ?_;clear hN N)))
   refine r7 ?_ ?_ (⟨⟨192023014,st_f.next+1+1+1+1⟩,by rw[hs,List.length_append];simp only[go_sem, ↓reduceIte,Nat.reduceEqDiff,Nat.reduceAdd,Nat.reduceSub,Nat.reduceLeDiff,reduceCtorEq,List.length_cons,List.length_nil],by rw[hs,List.map_append,List.map_cons,List.map_nil];simp only[go_sem, ↓reduceIte,Nat.reduceEqDiff,Nat.reduceAdd,Nat.reduceSub,Nat.reduceLeDiff,reduceCtorEq,aB],by(try dsimp only);omega,by(try dsimp only);omega⟩)
   all_goals simp only[go_sem, ↓reduceIte,Nat.reduceEqDiff,Nat.reduceAdd,Nat.reduceSub,Nat.reduceLeDiff,reduceCtorEq,f15,fg0,f1,f10,f11,x1,JA]
 ·have iq:j=bs.length:=by omega
  subst iq
  rw[List.take_length]at f14 fg
  (try((repeat(revert hN;revert N;apply Pn.out));refine wk (tw @f15 (tw @fg0 (tw @f1 (tw @f10 (tw @f11 (tw @f14 (tw @hj @s7))))))) ?_;(repeat(refine Pn.mk ?_;intro N hN))))
  refine jD (.inl rfl) (r1:=.int .i64 ((leads cnt L).length:Int)) (sd @Nat.zero_add) (by simp only[go_sem, ↓reduceIte,Nat.reduceEqDiff,Nat.reduceAdd,Nat.reduceSub,Nat.reduceLeDiff,reduceCtorEq];rfl) ?_
  have h1:gG st_f.get 5 (.own p 0 (fj L bs).length)=some (.sl ((fj L bs).map aB)):=fw (sz:=3) fg rfl fun b=>uP _ 3 b
  simp only[eU,bw,cr,eu,h1,Option.map_some]
end Go.Proofs.YtgoelphibofcmaaGreat.V

namespace Go.Proofs.YtgoelphibofcmaaGreat.V
def Fh (bs:List PB) (e v:Nat):Prop:=(cG bs e).a=v∨(cG bs e).b=v
def jd (bs:List PB) (m v:Nat):List Nat:=(List.range m).filter fun i=>(cG bs i).a==v||(cG bs i).b==v
theorem rR {bs:List PB} {m v e:Nat}:e∈jd bs m v↔e<m/\Fh bs e v:=by simp[jd,Fh]
theorem GX (bs:List PB) (m v:Nat):jd bs (m+1) v=jd bs m v++if (cG bs m).a=v∨(cG bs m).b=v then[m]else[]:=by
 unfold jd
 rw[List.range_succ,List.filter_append]
 congr 1
 by_cases h:(cG bs m).a=v<;>by_cases h2:(cG bs m).b=v<;>simp[h,h2]
theorem rQ (bs:List PB) (m v:Nat):(jd bs m v).length<=m:=by
 have:=List.length_filter_le (fun i=>(cG bs i).a==v||(cG bs i).b==v) (List.range m)
 simpa[jd]using this
def nz (cnt:Nat) (bs:List PB):Prop:=∀e,e<bs.length->(cG bs e).a<cnt/\(cG bs e).b<cnt/\(cG bs e).a≠(cG bs e).b
theorem oV {cnt:Nat} {bs:List PB} (h:nz cnt bs) {e v:Nat} (he:e<bs.length):cw bs e v<cnt:=by
 have:=h e he;unfold cw;split;exact this.2.1;exact this.1
theorem J3 {cnt:Nat} {bs:List PB} (h:nz cnt bs) {e v:Nat} (he:e<bs.length) (hi:Fh bs e v):cw bs e v≠v:=by
 have h1:=(h e he).2.2
 unfold cw
 split
 ·rename_i ha;rw[<-ha];exact fun h=>h1 h.symm
 ·rename_i ha;rcases hi with hi|hi
  ·exact absurd hi ha
  ·rw[<-hi];exact h1
theorem yY {bs:List PB} {e v:Nat}:Fh bs e (cw bs e v):=by
 unfold cw Fh;split
 ·exact .inr rfl
 ·exact .inl rfl
theorem oW {cnt:Nat} {bs:List PB} (h:nz cnt bs) {e v:Nat} (he:e<bs.length) (hi:Fh bs e v):cw bs e (cw bs e v)=v:=by
 have h1:=(h e he).2.2
 unfold cw
 by_cases ha:(cG bs e).a=v
 ·rw[if_pos ha,if_neg h1];exact ha
 ·rw[if_neg ha,if_pos rfl]
  rcases hi with hi|hi
  ·exact absurd hi ha
  ·exact hi
structure zk (cnt:Nat) (bs:List PB) (f:Nat->Int) (y:Nat) (out:Nat->Int):Prop where
 lo:∀v,v<cnt->-1<=out v/\out v<=cnt
 first:out y=0
 zero:∀v,v<cnt->out v=0->v=y
 down:∀v,v<cnt->0<out v->∃e,e<bs.length/\Fh bs e v/\0<fN bs f e v/\out (cw bs e v)=out v-1
 shut:∀e v,e<bs.length->Fh bs e v->0<=out (cw bs e v)->0<fN bs f e v->0<=out v
structure AI (cnt:Nat) (bs:List PB) (f:Nat->Int) (y:Nat) (out:Nat->Int) (Q:List Nat) (i:Nat):Prop where
 nd:Q.Nodup
 lt:∀x∈Q,x<cnt
 iff:∀v,v<cnt->(0<=out v↔v∈Q)
 lo:∀v,v<cnt->-1<=out v
 first:out y=0
 up:∀j (h:j<Q.length),out Q[j]<=j
 zero:∀v,v<cnt->out v=0->v=y
 down:∀v,v<cnt->0<out v->∃e,e<bs.length/\Fh bs e v/\0<fN bs f e v/\out (cw bs e v)=out v-1
 shut:∀j (h:j<Q.length),j<i->∀e,e<bs.length->Fh bs e Q[j]->0<fN bs f e (cw bs e Q[j])->0<=out (cw bs e Q[j])
section
variable {cnt:Nat} {bs:List PB} {f:Nat->Int} {y:Nat} {out:Nat->Int} {Q:List Nat} {i:Nat}
theorem AI.start (hy:y<cnt):AI cnt bs f y (fun v=>if v=y then 0 else -1) [y] 0 where
 nd:=by simp
 lt:=fun x hx=>by rw[List.mem_singleton.1 hx];exact hy
 iff:=fun v _=>by
  by_cases h:v=y<;>simp[h]
 lo:=fun v _=>by split<;>omega
 first:=if_pos rfl
 up:=fun j h=>by
  have:j=0:=by simp at h;omega
  subst this;simp
 zero:=fun v _ h=>by
  by_cases hv:v=y
  ·exact hv
  ·rw[if_neg hv]at h;omega
 down:=fun v _ h=>by
  by_cases hv:v=y
  ·rw[if_pos hv]at h;omega
  ·rw[if_neg hv]at h;omega
 shut:=fun j h hj=>by omega
theorem AI.len (h:AI cnt bs f y out Q i):Q.length<=cnt:=oR cnt Q h.nd h.lt
theorem AI.visit (h:AI cnt bs f y out Q i) (ok:nz cnt bs) (hi:i<Q.length) {e:Nat} (he:e<bs.length) (pV:Fh bs e Q[i]) (kf:out (cw bs e Q[i])<0) (gi:0<fN bs f e (cw bs e Q[i])):
  AI cnt bs f y (fun v=>if v=cw bs e Q[i]then out Q[i]+1 else out v) (Q++[cw bs e Q[i]]) i:=by
 have Ns:0<=out Q[i]:=(h.iff _ (h.lt _ (List.getElem_mem hi))).2 (List.getElem_mem hi)
 have hq:=oV ok (v:=Q[i]) he
 have gP:=J3 ok he pV
 have Tp:=oW ok he pV
 have Vf:cw bs e Q[i]∉Q:=fun hm=>by have:=(h.iff _ hq).2 hm;omega
 have lr:=h.up i hi
 generalize hw:cw bs e Q[i]=w at *
 have qM:∀v,0<=out v->(if v=w then out Q[i]+1 else out v)=out v:=fun v hv=>by
  rw[if_neg];rintro rfl;omega
 have mono:∀v,0<=out v->0<=(if v=w then out Q[i]+1 else out v):=fun v hv=>by rw[qM v hv];exact hv
 refine⟨?_,?_,?_,?_,?_,?_,?_,?_,?_⟩
 ·rw[List.nodup_append]
  exact⟨h.nd,by simp,fun a ha b hb=>by rw[List.mem_singleton.1 hb];rintro rfl;exact Vf ha⟩
 ·intro x hx
  rcases List.mem_append.1 hx with hx|hx
  ·exact h.lt x hx
  ·rw[List.mem_singleton.1 hx];exact hq
 ·intro v hv
  by_cases H6:v=w
  ·subst H6;simp;omega
  ·rw[if_neg H6,h.iff v hv];simp[H6]
 ·intro v hv
  by_cases H6:v=w
  ·rw[if_pos H6];omega
  ·rw[if_neg H6];exact h.lo v hv
 ·rw[qM y (by rw[h.first];exact Int.le_refl _)];exact h.first
 ·intro j hj
  by_cases iq:j<Q.length
  ·rw[List.getElem_append_left iq,qM _ ((h.iff _ (h.lt _ (List.getElem_mem iq))).2 (List.getElem_mem iq))]
   exact h.up j iq
  ·have LQ:j=Q.length:=by simp at hj;omega
   subst LQ
   simp
   omega
 ·intro v hv h0
  by_cases H6:v=w
  ·rw[if_pos H6]at h0;omega
  ·rw[if_neg H6]at h0;exact h.zero v hv h0
 ·intro v hv h0
  by_cases H6:v=w
  ·subst H6
   rw[if_pos rfl]
   refine⟨e,he,by rw[<-hw];exact yY,gi,?_⟩
   rw[Tp,qM _ Ns];omega
  ·rw[if_neg H6]at h0 ⊢
   obtain⟨e',h1,h2,h3,h4⟩:=h.down v hv h0
   exact⟨e',h1,h2,h3,by rw[qM _ (by omega)];exact h4⟩
 ·intro j hj mO e' LL Nj hr
  have iq:j<Q.length:=by omega
  rw[List.getElem_append_left iq]at Nj hr ⊢
  exact mono _ (h.shut j iq mO e' LL Nj hr)
theorem AI.next (h:AI cnt bs f y out Q i) (hi:i<Q.length) (hs:∀e∈jd bs bs.length Q[i],0<fN bs f e (cw bs e Q[i])->0<=out (cw bs e Q[i])):AI cnt bs f y out Q (i+1):=
 ⟨h.nd,h.lt,h.iff,h.lo,h.first,h.up,h.zero,h.down,fun j hj mO e he pV hr=>by
  by_cases LQ:j=i
  ·subst LQ;exact hs e (rR.2 ⟨he,pV⟩) hr
  ·exact h.shut j hj (by omega) e he pV hr⟩
theorem AI.done (h:AI cnt bs f y out Q i) (ok:nz cnt bs) (hi:Q.length<=i):zk cnt bs f y out where
 lo:=fun v hv=>⟨h.lo v hv,by
  by_cases h0:0<=out v
  ·obtain⟨j,hj,rfl⟩:=List.getElem_of_mem ((h.iff v hv).1 h0)
   have:=h.up j hj
   have:=h.len
   omega
  ·omega⟩
 first:=h.first
 zero:=h.zero
 down:=h.down
 shut:=fun e v he pV h0 hr=>by
  obtain⟨j,hj,Qt⟩:=List.getElem_of_mem ((h.iff _ (oV ok he)).1 h0)
  have h2:=h.shut j hj (by omega) e he (by rw[Qt];exact yY)
  rw[Qt,oW ok he pV]at h2
  exact h2 hr
end
end Go.Proofs.YtgoelphibofcmaaGreat.V

namespace Go.Proofs.YtgoelphibofcmaaGreat.V
open Go.RowKit
attribute [local irreducible] dO wpOps gy Call
attribute [local go_sem] aT fK eS ga fZ dj upd cF K.av cP AV.cells AV.cell rowOf rowsOf part ld rowAt bL cD dG ef ik bV de ew fW fe dw ek dc db dU dV cj bl cU b4 cW cV ei eo ej cR cm dd eh bW aV cZ cI ij bx cK ck bd du bj dI AV.undef bH bS dW eb dQ dP cJ ev eE cH er ep cY da List.getD_cons_zero List.getD_cons_succ List.getD_nil List.all_cons List.all_nil Bool.and_true Bool.true_and Bool.and_self Bool.not_true Bool.not_false Option.map_some Option.map_none Option.bind_some Option.bind_none List.length_cons List.length_nil List.take_succ_cons List.take_zero List.take_nil List.drop_succ_cons List.drop_zero List.drop_nil List.head?_cons List.map_cons List.map_nil List.getElem?_cons_zero List.getElem?_cons_succ List.cons_append List.nil_append List.append_nil List.length_map List.set_cons_zero List.set_cons_succ Nat.reduceMul eq_self Int.toNat_natCast Int.natCast_nonneg and_self true_and and_true decide_true decide_false Bool.false_eq_true Nat.zero_add Nat.add_zero List.contains_cons List.contains_nil Bool.or_false Bool.false_or beq_self_eq_true Nat.reduceBEq ne_eq not_true_eq_false not_false_eq_true Id.mk.injEq false_and and_false Nat.reduceLT Int.reduceLE Int.reduceLT Int.reduceToNat Int.reduceNeg Int.reduceAdd Nat.le_refl List.length_append beq_true beq_false Bool.not_eq_eq_eq_not or_false false_or dR ae aj aI bq bG cC aY bh aW bp cQ bJ
def l7 (P:Program) (f:Nat) (args:List AV) (R:AV->Prop):Prop:=∀n:Nat,Call P f args ⟨fun _=>none,n⟩ fun r0 σ'=>∃r',gG σ'.get 6 r0=some r'/\R r'
theorem aq.r {P:Program} {f:Nat} {args:List AV} {r:AV} (h:aq P f args r):l7 P f args (fun r'=>r'=r):=h
theorem GG {P:Program} {f:Nat} {args args':List AV} {g:Rows} {n:Nat} {R:AV->Prop} (hv:dn (dR g) 6 args=some args') (h:Sound P f args' ⟨fun _=>none,n⟩ fun r0 σ'=>∃r',gG σ'.get 6 r0=some r'/\R r'):Sound P f args ⟨g,n⟩ fun r σ'=>R r/\σ'=⟨g,n⟩:=by
 intro hs D ι w vs S U A
 refine(ye (g0:=g) (K:=R) ⟨args',hv,h⟩ (fun _ _ h=>h) S U A).mono ?_
 rintro e w' ⟨r,D',u,rfl,hR,T,S',hr⟩
 exact⟨r,g,n,D',ι,u,rfl,⟨hR,rfl⟩,T,S',U,Nat.le_refl _,hr⟩
theorem l7.x {P:Program} (hm:P.follows .mixedOrders=true) {f:Nat} {args args':List AV} {R:AV->Prop} (h:l7 P f args' R) {σ:ar} (hv:dn (dR σ.get) 6 args=some args'):Call P f args σ fun r σ'=>R r/\σ'=σ:=
 gU (GG hv (gC hm (h σ.next)))
theorem l7.body {P:Program} {f:Nat} {args:List AV} {R:AV->Prop} {nt na:Nat} {body:VC} {res:List nO} (hf:lR P f=some ⟨nt,na,body,res⟩) (ha:na=args.length) (h:(∀a∈args,eL a)->∀n:Nat,dO (Call P) body (kI res fun r0 σ'=>∃r',gG σ'.get 6 r0=some r'/\R r') (cF args) ⟨fun _=>none,n⟩):l7 P f args R:=fun n=>l8 hf ha fun hl=>h hl n
def ee (f:Nat->Int) (n:Nat):List (List AV):=(List.range n).map fun i=>aE (f i)
theorem dL (f:Nat->Int) (n:Nat):(ee f n).length=n:=by simp[ee]
theorem dX {f:Nat->Int} {n i:Nat} (h:i<n):(ee f n)[i]? =some (aE (f i)):=by simp[ee,h]
theorem lk {f g:Nat->Int} {n k:Nat} {v:Int} (hk:k<n) (hv:g k=v) (h:∀i,i<n->i≠k->g i=f i):(ee f n).set k (aE v)=ee g n:=by
 refine List.ext_getElem? fun i=>?_
 rw[List.getElem?_set]
 by_cases hi:k=i
 ·subst hi
  rw[if_pos rfl,dL,if_pos hk,dX hk,hv]
 ·rw[if_neg hi]
  by_cases fh:i<n
  ·rw[dX fh,dX fh,h i fh (fun h=>hi h.symm)]
  ·rw[List.getElem?_eq_none (by rw[dL];omega),List.getElem?_eq_none (by rw[dL];omega)]
theorem HJ (f:Nat->Int) (n:Nat):ee f (n+1)=ee f n++[aE (f n)]:=by simp[ee,List.range_succ]
theorem fzI (g:Rows) (n:Nat) (a:Int):dn g (n+1) (aE a)=some (aE a):=by simp[aE,ae,aj,aI]
theorem Ue (g:Rows) (n:Nat) (a:Int):eD g (n+1) (aE a)=some (aE a):=by simp[aE,bw,cr,eu]
theorem KB {g:Rows} {f:Nat->Int} {n m:Nat}:iu g (m+1) (ee f n)=some (ee f n):=by
 have:ee f n=((List.range n).map f).map aE:=by simp[ee]
 rw[this];exact tW fun x=>Ue g m x
theorem Au {g:Rows} {f:Nat->Int} {n m:Nat}:eC g (m+1) (ee f n)=some (ee f n):=by
 have:ee f n=((List.range n).map f).map aE:=by simp[ee]
 rw[this];exact qz fun x=>fzI g m x
def PF (l:List Nat):AV:=if l=[]then .bE else .sl (l.map eN)
def qk (cnt:Nat) (bs:List PB) (m:Nat):List (List AV):=(List.range cnt).map fun v=>[PF (jd bs m v)]
theorem Dj {cnt:Nat} {bs:List PB} {m v:Nat} (h:v<cnt):(qk cnt bs m)[v]? =some [PF (jd bs m v)]:=by simp[qk,h]
def fV (cnt:Nat) (bs:List PB) (f:Nat->Int):List AV:=[.int .i64 cnt,.sl (bs.map aB),.sl (qk cnt bs bs.length),.sl (ee f bs.length)]
theorem uK {bs:List PB} {e:Nat} (h:e<bs.length):(bs.map aB)[e]? =some (aB (cG bs e)):=getD_map aB h
def Small (bs:List PB) (f:Nat->Int):Prop:=∀e,e<bs.length->(0<=(cG bs e).s/\(cG bs e).s<=4)/\-4<=f e/\f e<=4
theorem Ko (cnt:Nat) (bs:List PB) (f:Nat->Int) (hs:Small bs f) (e v:Nat) (he:e<bs.length):aq Tryz.prog 260 [.dq (fV cnt bs f),.int .i64 v,.int .i64 e] (.gE [.int .i64 (fN bs f e v),.int .i64 (cw bs e v)]):=by
 refine aq.body eK rfl fun hl n0=>?_
 clear hl
 have hb:=uK he
 have hf:=dX (f:=f) he
 obtain⟨⟨s0,s1⟩,s2,s3⟩:=hs e he
 have w1:IntKind.i64.wrap ((cG bs e).s-f e)=(cG bs e).s-f e:=bI (by omega)
 have w2:IntKind.i64.wrap ((cG bs e).s+f e)=(cG bs e).s+f e:=bI (by omega)
 unfold fN cw
 generalize cG bs e=b at *
 by_cases h:b.a=v
 ·have hd:decide ((b.a:Int)=(v:Int))=true:=decide_eq_true (by rw[h])
  (try((repeat(revert hN;revert N;apply Pn.out));refine wk (tw @fV.eq_1 (tw @hb (tw @hf (tw @aB.eq_1 (tw @aE.eq_1 (tw @hd (tw @w1 @w2))))))) ?_;(repeat(refine Pn.mk ?_;intro N hN))))
  refine jD (.inl rfl) (by simp only[go_sem, ↓reduceIte,Nat.reduceEqDiff,Nat.reduceAdd,Nat.reduceSub,Nat.reduceLeDiff,reduceCtorEq];rfl) (by simp only[go_sem, ↓reduceIte,Nat.reduceEqDiff,Nat.reduceAdd,Nat.reduceSub,Nat.reduceLeDiff,reduceCtorEq];rfl) ?_
  simp only[eU,bw,cr,eu,Option.map_some,if_pos h]
 ·have hd:decide ((b.a:Int)=(v:Int))=false:=decide_eq_false fun hc=>h (by omega)
  (try((repeat(revert hN;revert N;apply Pn.out));refine wk (tw @fV.eq_1 (tw @hb (tw @hf (tw @aB.eq_1 (tw @aE.eq_1 (tw @hd (tw @w1 @w2))))))) ?_;(repeat(refine Pn.mk ?_;intro N hN))))
  refine jD (.inl rfl) (by simp only[go_sem, ↓reduceIte,Nat.reduceEqDiff,Nat.reduceAdd,Nat.reduceSub,Nat.reduceLeDiff,reduceCtorEq];rfl) (by simp only[go_sem, ↓reduceIte,Nat.reduceEqDiff,Nat.reduceAdd,Nat.reduceSub,Nat.reduceLeDiff,reduceCtorEq];rfl) ?_
  simp only[eU,bw,cr,eu,Option.map_some,if_neg h]
theorem F5 (cnt:Nat) (hn:cnt<=1048576) (bs:List PB) (ok:nz cnt bs) (qe:bs.length<=1048576) (f:Nat->Int) (hs:Small bs f) (y:Nat) (hy:y<cnt):
  l7 Tryz.prog 239 [.dq (fV cnt bs f),.int .i64 y] fun r=>∃out,r=.sl (ee out cnt)/\zk cnt bs f y out:=by
 refine l7.body eK rfl fun hl n0=>?_
 clear hl
 (try((repeat(revert hN;revert N;apply Pn.out));refine wk @fV.eq_1 ?_;(repeat(refine Pn.mk ?_;intro N hN))))
 refine aZ (fun n env st=>∃k:Nat,n=(cnt)-k/\k<=(cnt)/\env 6=.int .i64 (k:Int)/\(∃o:Id,env 5=.own o 0 k/\st.get o=some ⟨true,1,ee (fun _=>-1) k⟩/\o.bQ<st.next)) (cnt) ⟨0,by omega,by omega,sl @fV.eq_1,⟨⟨239001000,n0+1⟩,by(simp only[go_sem, ↓reduceIte,Nat.reduceEqDiff,Nat.reduceAdd,Nat.reduceSub,Nat.reduceLeDiff,reduceCtorEq])<;>rfl,by(simp only[go_sem, ↓reduceIte,Nat.reduceEqDiff,Nat.reduceAdd,Nat.reduceSub,Nat.reduceLeDiff,reduceCtorEq])<;>rfl,by(try dsimp only);omega⟩⟩ ?_
 rintro n_a env_a st_a ⟨k,rfl,ale,a6,j4⟩ dx
 have a0:=dx 0 (by kernel_rfl);have a1:=dx 1 (by kernel_rfl)
 simp only[go_sem, ↓reduceIte,Nat.reduceEqDiff,Nat.reduceAdd,Nat.reduceSub,Nat.reduceLeDiff,reduceCtorEq,fV]at a0 a1
 clear dx
 obtain⟨o,a5,ag,uC⟩:=j4
 have tl:=dL (fun _=>-1) k
 have sK:=dr uC
 by_cases hk:(k:Int)<(cnt:Int)
 ·have cz:∀{e:Env} {gg:Rows} {nx:Nat},(e 6=.int .i64 (IntKind.i64.wrap ((k:Int)+1)))->(∃o:Id,e 5=.own o 0 (k+1)/\gg o=some ⟨true,1,ee (fun _=>-1) (k+1)⟩/\o.bQ<nx)->∃m0,m0<(cnt)-k/\∃k:Nat,m0=(cnt)-k/\k<=(cnt)/\e 6=.int .i64 (k:Int)/\(∃o:Id,e 5=.own o 0 k/\gg o=some ⟨true,1,ee (fun _=>-1) k⟩/\o.bQ<nx):=fun x1 x2=>⟨_,by omega,k+1,rfl,by omega,(by rw[x1,aA (by omega)]),x2⟩
  have e1:k+1<=16777216:=by omega
  have ta:ee (fun _=>-1) k++[[.int .i64 (-1)]]=ee (fun _=>-1) (k+1):=(HJ _ _).symm
  (try((repeat(revert hN;revert N;apply Pn.out));refine wk (tw @a6 (tw @a0 (tw @a1 (tw @a5 (tw @ag (tw @sK (tw @hk (tw @tl (tw @e1 (tw @ta @fV.eq_1)))))))))) ?_;(repeat(refine Pn.mk ?_;intro N hN))))
  exact cz (sd (tw @a6 (tw @a0 (tw @a1 @fV.eq_1)))) (⟨⟨239005002,st_a.next+1⟩,sd @Nat.zero_add,sd @ta,by(try dsimp only);omega⟩)
 have l6:k=cnt:=by omega
 subst l6
 have TD:(y:Int)<(k:Int):=by omega
 have hym:=dX (f:=fun _=>-1) hy
 have BP:(ee (fun _=>-1) k).set y (aE 0)=ee (fun v=>if v=y then 0 else -1) k:=lk hy (if_pos rfl) fun i _ hi=>if_neg hi
 rw[aE]at BP hym
 (try((repeat(revert hN;revert N;apply Pn.out));refine wk (tw @a6 (tw @a0 (tw @a1 (tw @a5 (tw @ag (tw @sK (tw @hk (tw @tl (tw @TD (tw @hym (tw @BP @fV.eq_1))))))))))) ?_;(repeat(refine Pn.mk ?_;intro N hN))))
 refine aZ (fun m env st=>∃(i:Nat) (out:Nat->Int) (Q:List Nat) (p:Id),m=k-i/\env 8=.int .i64 (i:Int)/\env 7=.own p 0 Q.length/\st.get p=some ⟨true,1,Q.map eN⟩/\st.get o=some ⟨true,1,ee out k⟩/\o.bQ<p.bQ/\p.bQ<st.next/\AI k bs f y out Q i/\i<=Q.length) k ⟨0,_,[y],⟨239007001,st_a.next+1+1⟩,by omega,by(simp only[go_sem, ↓reduceIte,Nat.reduceEqDiff,Nat.reduceAdd,Nat.reduceSub,Nat.reduceLeDiff,reduceCtorEq])<;>rfl,by(simp only[go_sem, ↓reduceIte,Nat.reduceEqDiff,Nat.reduceAdd,Nat.reduceSub,Nat.reduceLeDiff,reduceCtorEq])<;>rfl,by(simp only[go_sem, ↓reduceIte,Nat.reduceEqDiff,Nat.reduceAdd,Nat.reduceSub,Nat.reduceLeDiff,reduceCtorEq])<;>rfl,sd @sK,by(try dsimp only);omega,by(try dsimp only);omega,AI.start hy,by simp⟩ ?_
 rintro n env_b st_b ⟨i,out,Q,p,rfl,b8,b7,bgp,bgo,eF,hpn,hB,hiq⟩ fU
 have b0:=fU 0 (by kernel_rfl)
 have b5:=fU 5 (by kernel_rfl)
 simp only[go_sem, ↓reduceIte,Nat.reduceEqDiff,Nat.reduceAdd,Nat.reduceSub,Nat.reduceLeDiff,reduceCtorEq,a6,a0,a1,a5,fV]at b0 b5
 clear fU
 have hql:=hB.len
 have TJ:=dL out k
 have hqm:(Q.map eN).length=Q.length:=by simp
 have AP:=dr hpn
 have pW:=dr (i:=o) (n:=st_b.next) (by omega)
 by_cases hi:(i:Int)<(Q.length:Int)
 ·have fh:i<Q.length:=by omega
  have jl:(Q.map eN)[i]? =some (eN Q[i]):=by simp[fh]
  have Ns:=hB.lt _ (List.getElem_mem fh)
  obtain⟨vt,O8⟩:∃vt,vt=Q[i]:=⟨_,rfl⟩
  rw[<-O8]at jl Ns
  have hA:=Dj (cnt:=k) (bs:=bs) (m:=bs.length) Ns
  have Eb:(vt:Int)<(k:Int):=by omega
  have kN:=rQ bs bs.length vt
  have hme:∀x,x<(jd bs bs.length vt).length->(jd bs bs.length vt).getD x 0<bs.length/\Fh bs ((jd bs bs.length vt).getD x 0) vt:=fun x hx=>by
   rw[List.getD_eq_getElem?_getD,List.getElem?_eq_getElem hx]
   exact rR.1 (List.getElem_mem hx)
  have RD:∀e∈jd bs bs.length vt,∃x,x<(jd bs bs.length vt).length/\(jd bs bs.length vt).getD x 0=e:=fun e he=>by
   obtain⟨x,hx,rfl⟩:=List.getElem_of_mem he
   exact⟨x,hx,by rw[List.getD_eq_getElem?_getD,List.getElem?_eq_getElem hx];rfl⟩
  generalize hIn:jd bs bs.length vt=I at *
  unfold PF at hA
  by_cases Uu:I=[]
  ·rw[if_pos Uu]at hA
   have hI1:I.length=0:=by rw[Uu];rfl
   (try((repeat(revert hN;revert N;apply Pn.out));refine wk (tw @b0 (tw @b5 (tw @b7 (tw @b8 (tw @bgp (tw @hi (tw @jl (tw @hqm (tw @eN.eq_1 @fV.eq_1))))))))) ?_;(repeat(refine Pn.mk ?_;intro N hN))))
   refine aZ (fun n env st=>∃x:Nat,n=(I.length)-x/\x<=(I.length)/\env 10=.int .i64 (x:Int)/\(∃(iT:Nat->Int) (Q':List Nat) (p':Id),env 7=.own p' 0 Q'.length/\st.get p'=some ⟨true,1,Q'.map eN⟩/\st.get o=some ⟨true,1,ee iT k⟩/\o.bQ<p'.bQ/\p'.bQ<st.next/\AI k bs f y iT Q' i/\(∃h:i<Q'.length,Q'[i]=vt)/\(∀z,z<x->0<fN bs f (I.getD z 0) (cw bs (I.getD z 0) vt)->0<=iT (cw bs (I.getD z 0) vt)))) (I.length) ⟨0,by omega,by omega,sl (tw @b0 (tw @b5 (tw @b8 @fV.eq_1))),⟨out,Q,p,sd @b7,sd @bgp,sd @bgo,eF,by(try dsimp only);omega,hB,⟨fh,O8.symm⟩,fun z hz=>by omega⟩⟩ ?_
   rintro n_c env_c st_c ⟨x,rfl,cle,jG,cI0⟩ cfr
   have c0:=cfr 0 (by kernel_rfl);have c5:=cfr 5 (by kernel_rfl);have c8:=cfr 8 (by kernel_rfl);have c9:=cfr 9 (by kernel_rfl)
   simp only[go_sem, ↓reduceIte,Nat.reduceEqDiff,Nat.reduceAdd,Nat.reduceSub,Nat.reduceLeDiff,reduceCtorEq,b0,b5,b8,fV]at c0 c5 c8 c9
   clear cfr
   obtain⟨iT,Q',p',c7,IK,ym,D6,OV,dH,⟨xS,qK⟩,C2⟩:=cI0
   have Vr:=dH.len
   have PL:=dL iT k
   have OZ:(Q'.map eN).length=Q'.length:=by simp
   have zQ:=dr OV
   have mj:=dr (i:=o) (n:=st_c.next) (by omega)
   have x1:=bU D6
   have hx:¬(x:Int)<((0:Nat):Int):=by omega
   have hxe:x=I.length:=by omega
   have hw:IntKind.i64.wrap ((i:Int)+1)=((i+1:Nat):Int):=aA (by omega)
   (try((repeat(revert hN;revert N;apply Pn.out));refine wk (tw @jG (tw @c0 (tw @c5 (tw @c8 (tw @c9 (tw @c7 (tw @hx (tw @hA (tw @Eb @fV.eq_1))))))))) ?_;(repeat(refine Pn.mk ?_;intro N hN))))
   refine⟨_,?_,i+1,iT,Q',p',rfl,sd (tw @jG (tw @c0 (tw @c5 (tw @c8 (tw @c9 @hw))))),sd @c7,sd @IK,sd @ym,D6,by(try dsimp only);omega,dH.next xS fun e he hr=>?_,by omega⟩
   ·omega
   ·rw[qK,hIn]at he
    rw[qK]at hr ⊢
    obtain⟨z,hz,rfl⟩:=RD e he
    exact C2 z (by omega) hr
  ·rw[if_neg Uu]at hA
   have qE:(I.map eN).length=I.length:=by simp
   (try((repeat(revert hN;revert N;apply Pn.out));refine wk (tw @b0 (tw @b5 (tw @b7 (tw @b8 (tw @bgp (tw @hi (tw @jl (tw @hqm (tw @eN.eq_1 @fV.eq_1))))))))) ?_;(repeat(refine Pn.mk ?_;intro N hN))))
   refine aZ (fun n env st=>∃x:Nat,n=(I.length)-x/\x<=(I.length)/\env 10=.int .i64 (x:Int)/\(∃(iT:Nat->Int) (Q':List Nat) (p':Id),env 7=.own p' 0 Q'.length/\st.get p'=some ⟨true,1,Q'.map eN⟩/\st.get o=some ⟨true,1,ee iT k⟩/\o.bQ<p'.bQ/\p'.bQ<st.next/\AI k bs f y iT Q' i/\(∃h:i<Q'.length,Q'[i]=vt)/\(∀z,z<x->0<fN bs f (I.getD z 0) (cw bs (I.getD z 0) vt)->0<=iT (cw bs (I.getD z 0) vt)))) (I.length) ⟨0,by omega,by omega,sl (tw @b0 (tw @b5 (tw @b8 @fV.eq_1))),⟨out,Q,p,sd @b7,sd @bgp,sd @bgo,eF,by(try dsimp only);omega,hB,⟨fh,O8.symm⟩,fun z hz=>by omega⟩⟩ ?_
   rintro n_c env_c st_c ⟨x,rfl,cle,jG,cI0⟩ cfr
   have c0:=cfr 0 (by kernel_rfl);have c5:=cfr 5 (by kernel_rfl);have c8:=cfr 8 (by kernel_rfl);have c9:=cfr 9 (by kernel_rfl)
   simp only[go_sem, ↓reduceIte,Nat.reduceEqDiff,Nat.reduceAdd,Nat.reduceSub,Nat.reduceLeDiff,reduceCtorEq,b0,b5,b8,fV]at c0 c5 c8 c9
   clear cfr
   obtain⟨iT,Q',p',c7,IK,ym,D6,OV,dH,⟨xS,qK⟩,C2⟩:=cI0
   have Vr:=dH.len
   have PL:=dL iT k
   have OZ:(Q'.map eN).length=Q'.length:=by simp
   have zQ:=dr OV
   have mj:=dr (i:=o) (n:=st_c.next) (by omega)
   have x1:=bU D6
   by_cases hx:(x:Int)<(I.length:Int)
   ·have iv:∀{e:Env} {gg:Rows} {nx:Nat},(e 10=.int .i64 (IntKind.i64.wrap ((x:Int)+1)))->(∃(iT:Nat->Int) (Q':List Nat) (p':Id),e 7=.own p' 0 Q'.length/\gg p'=some ⟨true,1,Q'.map eN⟩/\gg o=some ⟨true,1,ee iT k⟩/\o.bQ<p'.bQ/\p'.bQ<nx/\AI k bs f y iT Q' i/\(∃h:i<Q'.length,Q'[i]=vt)/\(∀z,z<(x+1)->0<fN bs f (I.getD z 0) (cw bs (I.getD z 0) vt)->0<=iT (cw bs (I.getD z 0) vt)))->∃m0,m0<(I.length)-x/\∃x:Nat,m0=(I.length)-x/\x<=(I.length)/\e 10=.int .i64 (x:Int)/\(∃(iT:Nat->Int) (Q':List Nat) (p':Id),e 7=.own p' 0 Q'.length/\gg p'=some ⟨true,1,Q'.map eN⟩/\gg o=some ⟨true,1,ee iT k⟩/\o.bQ<p'.bQ/\p'.bQ<nx/\AI k bs f y iT Q' i/\(∃h:i<Q'.length,Q'[i]=vt)/\(∀z,z<x->0<fN bs f (I.getD z 0) (cw bs (I.getD z 0) vt)->0<=iT (cw bs (I.getD z 0) vt))):=fun x1 x2=>⟨_,by omega,x+1,rfl,by omega,(by rw[x1,aA (by omega)]),x2⟩
    have QH:x<I.length:=by omega
    have Oi:(I.map eN)[x]? =some (eN (I.getD x 0)):=getD_map eN QH
    obtain⟨he,pV⟩:=hme x QH
    obtain⟨e,Te⟩:∃e,e=I.getD x 0:=⟨_,rfl⟩
    rw[<-Te]at Oi he pV
    have iR:=uK he
    have hq:=oV ok (v:=vt) he
    have Tp:=oW ok he pV
    have O2:=Ko k bs f hs e (cw bs e vt) he
    have Rq:=ok e he
    have nH:IntKind.i64.wrap (((cG bs e).a:Int)+((cG bs e).b:Int))=((cG bs e).a:Int)+((cG bs e).b:Int):=bI (by omega)
    have qL:IntKind.i64.wrap (((cG bs e).a:Int)+((cG bs e).b:Int)-(vt:Int))=(cw bs e vt:Int):=by
     rw[bI (by omega)]
     unfold cw
     rcases pV with h1|h1
     ·rw[if_pos h1];omega
     ·rw[if_neg fun h2=>Rq.2.2 (h2.trans h1.symm)];omega
    have QA:(cw bs e vt:Int)<(k:Int):=by omega
    have OG:=dX (f:=iT) hq
    have LN:=dX (f:=iT) Ns
    rw[fV]at O2
    have lr:=dH.up i xS
    rw[qK]at lr
    have kq:=dH.lo vt Ns
    have Nv:IntKind.i64.wrap (iT vt+1)=iT vt+1:=bI (by omega)
    rw[aE]at OG LN
    generalize rK:cG bs e=b at *
    by_cases kf:iT (cw bs e vt)<0
    ·by_cases gi:0<fN bs f e (cw bs e vt)
     ·have hV:=dH.visit ok xS (e:=e) he (by rw[qK];exact pV) (by rw[qK];exact kf) (by rw[qK];exact gi)
      rw[qK]at hV
      have eH:(ee iT k).set (cw bs e vt) (aE (iT vt+1))=ee (fun v=>if v=cw bs e vt then iT vt+1 else iT v) k:=lk hq (if_pos rfl) fun v _ hv=>if_neg hv
      rw[aE]at eH
      have e1:Q'.length+1<=16777216:=by omega
      (repeat(first|((repeat(revert hN;revert N;apply Pn.out));refine wk (tw @jG (tw @c0 (tw @c5 (tw @c8 (tw @c9 (tw @c7 (tw @IK (tw @ym (tw @hx (tw @hA (tw @qE (tw @Oi (tw @Eb (tw @iR (tw @nH (tw @qL (tw @QA (tw @OG (tw @LN (tw @kf (tw @gi (tw @Nv (tw @eH (tw @OZ (tw @PL (tw @zQ (tw @mj (tw @x1 (tw @e1 (tw @eN.eq_1 (tw @aB.eq_1 @fV.eq_1))))))))))))))))))))))))))))))) ?_;(repeat(refine Pn.mk ?_;intro N hN)))|((try apply Or.inl);refine⟨_,aq.x (O2) (sd (tw @jG (tw @c0 (tw @c5 (tw @c8 (tw @c9 (tw @c7 (tw @IK (tw @ym (tw @hx (tw @hA (tw @qE (tw @Oi (tw @Eb (tw @iR (tw @nH (tw @qL (tw @QA (tw @OG (tw @LN (tw @kf (tw @gi (tw @Nv (tw @eH (tw @OZ (tw @PL (tw @zQ (tw @mj (tw @x1 (tw @e1 (tw @eN.eq_1 (tw @aB.eq_1 @fV.eq_1)))))))))))))))))))))))))))))))),?_⟩;refine hN _ _ ?_;clear hN N)))
      exact iv (sd (tw @jG (tw @c0 (tw @c5 (tw @c8 @c9))))) (⟨_,Q'++[cw bs e vt],⟨239020003,st_c.next+1+1+1+1+1+1⟩,by rw[List.length_append];simp only[go_sem, ↓reduceIte,Nat.reduceEqDiff,Nat.reduceAdd,Nat.reduceSub,Nat.reduceLeDiff,reduceCtorEq,List.length_cons,List.length_nil],by rw[List.map_append,List.map_cons,List.map_nil];simp only[go_sem, ↓reduceIte,Nat.reduceEqDiff,Nat.reduceAdd,Nat.reduceSub,Nat.reduceLeDiff,reduceCtorEq,eN],sd (tw @mj @x1),by(try dsimp only);omega,by(try dsimp only);omega,hV,⟨by simp;omega,by rw[List.getElem_append_left xS];exact qK⟩,fun z hz hr=>by
       by_cases R6:z=x
       ·subst R6
        rw[<-Te,if_pos rfl]
        have:=(dH.iff vt Ns).2 (by rw[<-qK];exact List.getElem_mem xS)
        omega
       ·have:=C2 z (by omega) hr
        split
        ·have:=(dH.iff vt Ns).2 (by rw[<-qK];exact List.getElem_mem xS)
         omega
        ·exact this⟩)
     ·(repeat(first|((repeat(revert hN;revert N;apply Pn.out));refine wk (tw @jG (tw @c0 (tw @c5 (tw @c8 (tw @c9 (tw @c7 (tw @IK (tw @ym (tw @hx (tw @hA (tw @qE (tw @Oi (tw @Eb (tw @iR (tw @nH (tw @qL (tw @QA (tw @OG (tw @kf (tw @gi (tw @PL (tw @zQ (tw @mj (tw @x1 (tw @eN.eq_1 (tw @aB.eq_1 @fV.eq_1)))))))))))))))))))))))))) ?_;(repeat(refine Pn.mk ?_;intro N hN)))|((try apply Or.inl);refine⟨_,aq.x (O2) (sd (tw @jG (tw @c0 (tw @c5 (tw @c8 (tw @c9 (tw @c7 (tw @IK (tw @ym (tw @hx (tw @hA (tw @qE (tw @Oi (tw @Eb (tw @iR (tw @nH (tw @qL (tw @QA (tw @OG (tw @kf (tw @gi (tw @PL (tw @zQ (tw @mj (tw @x1 (tw @eN.eq_1 (tw @aB.eq_1 @fV.eq_1))))))))))))))))))))))))))),?_⟩;refine hN _ _ ?_;clear hN N)))
      exact iv (sd (tw @jG (tw @c0 (tw @c5 (tw @c8 @c9))))) (⟨iT,Q',p',sd @c7,sd (tw @IK @zQ),sd (tw @ym @mj),D6,by(try dsimp only);omega,dH,⟨xS,qK⟩,fun z hz hr=>by
       by_cases R6:z=x
       ·subst R6;rw[<-Te]at hr;exact absurd hr gi
       ·exact C2 z (by omega) hr⟩)
    ·(repeat(first|((repeat(revert hN;revert N;apply Pn.out));refine wk (tw @jG (tw @c0 (tw @c5 (tw @c8 (tw @c9 (tw @c7 (tw @IK (tw @ym (tw @hx (tw @hA (tw @qE (tw @Oi (tw @Eb (tw @iR (tw @nH (tw @qL (tw @QA (tw @OG (tw @kf (tw @PL (tw @zQ (tw @mj (tw @x1 (tw @eN.eq_1 (tw @aB.eq_1 @fV.eq_1))))))))))))))))))))))))) ?_;(repeat(refine Pn.mk ?_;intro N hN)))|((try apply Or.inl);refine⟨_,aq.x (O2) (sd (tw @jG (tw @c0 (tw @c5 (tw @c8 (tw @c9 (tw @c7 (tw @IK (tw @ym (tw @hx (tw @hA (tw @qE (tw @Oi (tw @Eb (tw @iR (tw @nH (tw @qL (tw @QA (tw @OG (tw @kf (tw @PL (tw @zQ (tw @mj (tw @x1 (tw @eN.eq_1 (tw @aB.eq_1 @fV.eq_1)))))))))))))))))))))))))),?_⟩;refine hN _ _ ?_;clear hN N)))
     exact iv (sd (tw @jG (tw @c0 (tw @c5 (tw @c8 @c9))))) (⟨iT,Q',p',sd @c7,sd (tw @IK @zQ),sd (tw @ym @mj),D6,by(try dsimp only);omega,dH,⟨xS,qK⟩,fun z hz hr=>by
      by_cases R6:z=x
      ·subst R6;rw[<-Te];omega
      ·exact C2 z (by omega) hr⟩)
   ·have hxe:x=I.length:=by omega
    have hw:IntKind.i64.wrap ((i:Int)+1)=((i+1:Nat):Int):=aA (by omega)
    (try((repeat(revert hN;revert N;apply Pn.out));refine wk (tw @jG (tw @c0 (tw @c5 (tw @c8 (tw @c9 (tw @c7 (tw @hx (tw @hA (tw @qE (tw @Eb @fV.eq_1)))))))))) ?_;(repeat(refine Pn.mk ?_;intro N hN))))
    refine⟨_,?_,i+1,iT,Q',p',rfl,sd (tw @jG (tw @c0 (tw @c5 (tw @c8 (tw @c9 @hw))))),sd @c7,sd @IK,sd @ym,D6,by(try dsimp only);omega,dH.next xS fun e he hr=>?_,by omega⟩
    ·omega
    ·rw[qK,hIn]at he
     rw[qK]at hr ⊢
     obtain⟨z,hz,rfl⟩:=RD e he
     exact C2 z (by omega) hr
 ·(try((repeat(revert hN;revert N;apply Pn.out));refine wk (tw @b0 (tw @b5 (tw @b7 (tw @b8 (tw @hi @fV.eq_1))))) ?_;(repeat(refine Pn.mk ?_;intro N hN))))
  have s6:gG st_b.get 6 (.own o 0 k)=some (.sl (ee out k)):=uR bgo (by rw[TJ];omega) (by rw[List.drop_zero,List.take_of_length_le (by rw[TJ];omega)];exact KB)
  exact⟨_,rfl,_,by simp only[go_sem, ↓reduceIte,Nat.reduceEqDiff,Nat.reduceAdd,Nat.reduceSub,Nat.reduceLeDiff,reduceCtorEq,eY];exact s6,out,rfl,hB.done ok (by omega)⟩
end Go.Proofs.YtgoelphibofcmaaGreat.V

namespace Go.Proofs.YtgoelphibofcmaaGreat.V
open Go.RowKit
attribute [local irreducible] dO wpOps gy Call
attribute [local go_sem] aT fK eS ga fZ dj upd cF K.av cP AV.cells AV.cell rowOf rowsOf part ld rowAt bL cD dG ef ik bV de ew fW fe dw ek dc db dU dV cj bl cU b4 cW cV ei eo ej cR cm dd eh bW aV cZ cI ij bx cK ck bd du bj dI AV.undef bH bS dW eb dQ dP cJ ev eE cH er ep cY da List.getD_cons_zero List.getD_cons_succ List.getD_nil List.all_cons List.all_nil Bool.and_true Bool.true_and Bool.and_self Bool.not_true Bool.not_false Option.map_some Option.map_none Option.bind_some Option.bind_none List.length_cons List.length_nil List.take_succ_cons List.take_zero List.take_nil List.drop_succ_cons List.drop_zero List.drop_nil List.head?_cons List.map_cons List.map_nil List.getElem?_cons_zero List.getElem?_cons_succ List.cons_append List.nil_append List.append_nil List.length_map List.set_cons_zero List.set_cons_succ eq_self Int.toNat_natCast Int.natCast_nonneg and_self true_and and_true decide_true decide_false Bool.false_eq_true Nat.zero_add Nat.add_zero List.contains_cons List.contains_nil Bool.or_false Bool.false_or beq_self_eq_true ne_eq not_true_eq_false not_false_eq_true Id.mk.injEq false_and and_false Nat.le_refl List.length_append beq_true beq_false Bool.not_eq_eq_eq_not or_false false_or dR ae aj aI bq bG cC aY bh aW bp cQ bJ
def Qb:CR (List Nat):=fun g cs x ids=>(x=[]/\cs=[.bE]/\ids=[])∨∃id,cs=[.own id 0 x.length]/\0<x.length/\g id=some ⟨true,1,x.map eN⟩/\ids=[id]
theorem NA:xF Qb 1 where
 frame:=fun h hf=>by
  rcases h with h|⟨id,h1,h0,h2,h3⟩
  ·exact .inl h
  ·subst h3;exact .inr ⟨id,h1,h0,(hf id (by simp)).trans h2,rfl⟩
 len:=fun h=>by rcases h with⟨_,h,_⟩|⟨id,h,_⟩<;>subst h<;>rfl
 cell:=fun h=>by rcases h with⟨_,h,_⟩|⟨id,h,_⟩<;>subst h<;>rfl
 live:=fun h i hi=>by
  rcases h with⟨_,_,h⟩|⟨id,h1,h0,h2,h3⟩
  ·subst h;cases hi
  ·subst h3
   have:i=id:=by simpa using hi
   subst this
   exact⟨_,h2,rfl,by simp[r4]⟩
 small:=by simp[r4]
theorem Ph {g:Rows} {rows:List (List AV)} {xs:List (List Nat)} {ids:List Id} (n:Nat) (h:eM Qb g rows xs ids):eC (dR g) (n+2) rows=some (xs.map fun l=>[PF l]):=
 h.fz (fun {cs x ids} h=>by
  rcases h with⟨h0,h1,_⟩|⟨id,h1,h0,h2,_⟩
  ·subst h0 h1;rw[ae,aj,aY];rfl
  ·have gP:x≠[]:=by rintro rfl;simp at h0
   subst h1
   rw[ae,aj,gY (e:=eN) (sz:=1) (by simp[dR,h2]) rfl fun a=>fzN _ n a]
   simp[PF,gP])
theorem eM.Sm {α:Type} {R:CR α} {sz:Nat} {g:Rows} {rows:List (List AV)} {xs:List α} {ids:List Id} (ok:xF R sz) (h:eM R g rows xs ids) (mh:ids.Nodup) (k:Nat) (hk:k<xs.length):
  ∃cs ic,rows[k]? =some cs/\R g cs xs[k] ic/\(∀i∈ic,i∈ids)/\∀(g':Rows) pS x' QJ,R g' pS x' QJ->(∀i∈ids,i∉ic->g' i=g i)->QJ.Nodup->(∀i∈QJ,i∉ids)->∃Ef,eM R g' (rows.set k pS) (xs.set k x') Ef/\Ef.Nodup/\∀i∈Ef,i∈QJ∨i∈ids:=by
 obtain⟨r1,cs,r2,i1,ic,i2,rfl,rfl,rfl,h3,h4,h5⟩:=h.split k hk
 obtain⟨n1,n2,n3⟩:=List.nodup_append.1 mh
 obtain⟨nc,n5,n4⟩:=List.nodup_append.1 n2
 refine⟨cs,ic,by simp,h4,fun i hi=>by simp[hi],fun g' pS x' QJ hR hf hn' kr=>⟨i1++(QJ++i2),?_,?_,fun i hi=>?_⟩⟩
 ·have e:xs.set r1.length x'=xs.take r1.length++x'::xs.drop (r1.length+1):=by rw[List.set_eq_take_append_cons_drop,if_pos hk]
  have e2:(r1++cs::r2).set r1.length pS=r1++pS::r2:=by simp
  rw[e,e2]
  refine(h3.frame ok fun i hi=>hf i (by simp[hi]) fun hc=>n3 i hi i (by simp[hc]) rfl).app (.cons hR (h5.frame ok fun i hi=>hf i (by simp[hi]) fun hc=>n4 i hc i hi rfl))
 ·rw[List.nodup_append,List.nodup_append]
  refine⟨n1,⟨hn',n5,fun x hx y hy he=>?_⟩,fun x hx y hy he=>?_⟩
  ·subst he;exact kr x hx (by simp[hy])
  ·subst he
   rcases List.mem_append.1 hy with hy|hy
   ·exact kr x hy (by simp[hx])
   ·exact n3 x hx x (by simp[hy]) rfl
 ·rcases List.mem_append.1 hi with hi|hi
  ·exact .inr (by simp[hi])
  ·rcases List.mem_append.1 hi with hi|hi
   ·exact .inl hi
   ·exact .inr (by simp[hi])
def re (A:Id) (lo:Nat) (L:List (List Nat)) (g:Rows) (nx:Nat):Prop:=∃rows ids,g A=some ⟨true,1,rows⟩/\eM Qb g rows L ids/\ids.Nodup/\∀i∈ids,lo<i.bQ/\i.bQ<nx
def bK (cnt:Nat) (bs:List PB) (A F:Id):List AV:=[.int .i64 cnt,.sl (bs.map aB),.own A 0 cnt,.own F 0 bs.length]
def lx (cnt:Nat) (bs:List PB) (m:Nat):List (List Nat):=(List.range cnt).map fun v=>jd bs m v
theorem jA (cnt:Nat) (bs:List PB) (m:Nat):(lx cnt bs m).length=cnt:=by simp[lx]
structure oj (cnt:Nat) (bs:List PB) (f:Nat->Int) (X A F:Id) (g:Rows) (nx:Nat):Prop where
 x:g X=some ⟨true,4,[bK cnt bs A F]⟩
 a:re A F.bQ (lx cnt bs bs.length) g nx
 f:g F=some ⟨true,1,ee f bs.length⟩
 xa:X.bQ<A.bQ
 af:A.bQ<F.bQ
 fn:F.bQ<nx
theorem re.fz {A:Id} {lo cnt:Nat} {bs:List PB} {m nx n:Nat} {g:Rows} (h:re A lo (lx cnt bs m) g nx):V.fz (dR g) (n+3) (.own A 0 cnt)=some (.sl (qk cnt bs m)):=by
 obtain⟨rows,ids,h1,h2,_,_⟩:=h
 have hl:=h2.len
 rw[jA]at hl
 rw[iG]
 simp only[dR,h1,Option.map_some,if_true]
 rw[if_pos (by omega),List.drop_zero,List.take_of_length_le (by omega)]
 have:=Ph n h2
 rw[this]
 simp[lx,qk]
theorem oj.fz {cnt:Nat} {bs:List PB} {f:Nat->Int} {X A F:Id} {g:Rows} {nx:Nat} (h:oj cnt bs f X A F g nx):V.fz (dR g) 6 (.ptr X 0 0)=some (.dq (fV cnt bs f)):=by
 have hF:dR g F=some ⟨true,1,ee f bs.length⟩:=by simp[dR,h.f]
 have hX:dR g X=some ⟨true,4,[bK cnt bs A F]⟩:=by simp[dR,h.x]
 have hf:V.fz (dR g) 5 (.own F 0 bs.length)=some (.sl (ee f bs.length)):=by
  rw[iG]
  simp only[hF,if_true]
  rw[if_pos (by rw[dL];omega),List.drop_zero,List.take_of_length_le (by rw[dL];omega),Au];rfl
 have ha:=h.a.fz (n:=2)
 rw[bp]
 simp only[hX,if_true,List.getElem?_cons_zero,List.drop_zero,bK,ae,aj,aI,cC,ha,hf,Option.map_some,fV]
theorem GW (cnt:Nat) (bs:List PB):lx cnt bs 0=List.replicate cnt []:=by
 refine List.ext_getElem? fun i=>?_
 simp only[lx,List.getElem?_map,List.getElem?_replicate]
 by_cases h:i<cnt
 ·rw[List.getElem?_range h,if_pos h];rfl
 ·rw[List.getElem?_eq_none (by simpa using h),if_neg h];rfl
theorem zd (g:Rows):∀n:Nat,eM Qb g (List.replicate n [.bE]) (List.replicate n []) []
 |0=>.nil
 |n+1=>.cons (i1:=[]) (.inl ⟨rfl,rfl,rfl⟩) (zd g n)
def xW (cnt:Nat) (bs:List PB) (m:Nat):List (List Nat):=(lx cnt bs m).set (cG bs m).a (jd bs m (cG bs m).a++[m])
theorem BV {cnt:Nat} {bs:List PB} {m v:Nat} (hv:v<cnt) (gP:(cG bs m).a≠v):(xW cnt bs m)[v]? =some (jd bs m v):=by
 unfold xW
 rw[List.getElem?_set_ne gP]
 simp[lx,hv]
theorem GV {cnt:Nat} {bs:List PB} {m:Nat} (ha:(cG bs m).a<cnt) (hb:(cG bs m).b<cnt) (gP:(cG bs m).a≠(cG bs m).b):(xW cnt bs m).set (cG bs m).b (jd bs m (cG bs m).b++[m])=lx cnt bs (m+1):=by
 refine List.ext_getElem? fun i=>?_
 by_cases hi:i<cnt
 ·have hr:(lx cnt bs (m+1))[i]? =some (jd bs (m+1) i):=by simp[lx,hi]
  rw[hr,GX]
  by_cases h1:(cG bs m).b=i
  ·rw[List.getElem?_set,if_pos h1,if_pos (by simp[xW,jA];omega),if_pos (.inr h1),h1]
  ·rw[List.getElem?_set_ne h1]
   by_cases h2:(cG bs m).a=i
   ·unfold xW
    rw[List.getElem?_set,if_pos h2,if_pos (by rw[jA];omega),if_pos (.inl h2),h2]
   ·rw[BV hi h2,if_neg (fun h=>h.elim h2 h1),List.append_nil]
 ·rw[List.getElem?_eq_none (by simp[xW,jA];omega),List.getElem?_eq_none (by rw[jA];omega)]
theorem kU {α:Type} {l:List α} {k:Nat} {x:α} (h:l[k]? =some x) (hk:k<l.length):l[k]=x:=by
 rw[List.getElem?_eq_getElem hk]at h;exact Option.some.inj h
theorem FW {A K:Id} {lo Sh nx k j:Nat} {L:List (List Nat)} {La:List Nat} {g:Rows} {rows:List (List AV)} {ids:List Id} (hR:eM Qb g rows L ids) (mh:ids.Nodup) (nW:∀i∈ids,lo<i.bQ/\i.bQ<Sh) (hA:A.bQ<=lo) (hL:L[k]? =some La) (hK1:Sh<=K.bQ) (Oy:K.bQ<nx) (kq:lo<Sh):
  ∃cs,rows[k]? =some cs/\((La=[]/\cs=[.bE])∨∃id:Id,cs=[.own id 0 La.length]/\0<La.length/\g id=some ⟨true,1,La.map eN⟩/\id.bQ<Sh/\lo<id.bQ)/\
   ∀g':Rows,g' A=some ⟨true,1,rows.set k [.own K 0 (La.length+1)]⟩->g' K=some ⟨true,1,La.map eN++[[.int .i64 j]]⟩->(∀i:Id,i.bQ<Sh->(i=A)=False->(∀id,cs=[.own id 0 La.length]->(i=id)=False)->g' i=g i)->re A lo (L.set k (La++[j])) g' nx:=by
 have hk:k<L.length:=(List.getElem?_eq_some_iff.1 hL).1
 have Ux:=kU hL hk
 obtain⟨cs,ic,dy,Qn,Rw,wL⟩:=hR.Sm NA mh k hk
 rw[Ux]at Qn
 refine⟨cs,dy,?_,fun g' h1 h2 h3=>?_⟩
 ·rcases Qn with⟨h1,h2,_⟩|⟨id,h1,h2,h3,h4⟩
  ·exact .inl ⟨h1,h2⟩
  ·subst h4
   have:=nW id (Rw id (by simp))
   exact .inr ⟨id,h1,h2,h3,this.2,this.1⟩
 ·obtain⟨Ef,q1,q2,q3⟩:=wL g' [.own K 0 (La.length+1)] (La++[j]) [K] (.inr ⟨K,by simp,by simp,by rw[h2];simp[eN],rfl⟩) (fun i hi To=>by
   refine h3 i (nW i hi).2 ?_ fun id hid=>?_
   ·simp only[eq_iff_iff,iff_false];rintro rfl;have:=nW _ hi;omega
   ·simp only[eq_iff_iff,iff_false]
    rintro rfl
    rcases Qn with⟨_,h4,_⟩|⟨j5,h4,_,_,h5⟩
    ·rw[hid]at h4;cases h4
    ·rw[hid]at h4
     simp only[List.cons.injEq,AV.own.injEq,and_true]at h4
     rw[h5,h4]at To
     exact To (by simp)) (by simp) fun i hi hc=>by
   rw[List.mem_singleton.1 hi]at hc;have:=nW _ hc;omega
  refine⟨_,Ef,h1,q1,q2,fun i hi=>?_⟩
  rcases q3 i hi with h|h
  ·rw[List.mem_singleton.1 h];omega
  ·have:=nW i h;omega
theorem MT {P:Program} {Q:Ex->Env->ar->Prop} {c:VC} {env:Env} {σ:ar} (I:Env->ar->Prop) (h2:∀e s,I e s->Q .normal e s) (h1:∀N':Env->ar->Prop,(∀e s,I e s->N' e s)->dO (Call P) c (du N' Q) env σ):dO (Call P) c Q env σ:=by
 refine jF (fun _ _ _ _ h=>h) aJ c _ _ env σ (fun x e s h=>?_) (h1 I fun _ _ h=>h)
 cases x with
 |normal=>exact h2 e s h
 |exit id=>exact h
 |ret=>exact h
end Go.Proofs.YtgoelphibofcmaaGreat.V

namespace Go.Proofs.YtgoelphibofcmaaGreat.V
open Go.RowKit
attribute [local irreducible] dO wpOps gy Call
attribute [local go_sem] aT fK eS ga fZ dj upd cF K.av cP AV.cells AV.cell rowOf rowsOf part ld rowAt bL cD dG ef ik bV de ew fW fe dw ek dc db dU dV cj bl cU b4 cW cV ei eo ej cR cm dd eh bW aV cZ cI ij bx cK ck bd du bj dI AV.undef bH bS dW eb dQ dP cJ ev eE cH er ep cY da List.getD_cons_zero List.getD_cons_succ List.getD_nil List.all_cons List.all_nil Bool.and_true Bool.true_and Bool.and_self Bool.not_true Bool.not_false Option.map_some Option.map_none Option.bind_some Option.bind_none List.length_cons List.length_nil List.take_succ_cons List.take_zero List.take_nil List.drop_succ_cons List.drop_zero List.drop_nil List.head?_cons List.map_cons List.map_nil List.getElem?_cons_zero List.getElem?_cons_succ List.cons_append List.nil_append List.append_nil List.length_map List.set_cons_zero List.set_cons_succ Nat.reduceMul eq_self Int.toNat_natCast Int.natCast_nonneg and_self true_and and_true decide_true decide_false Bool.false_eq_true Nat.zero_add Nat.add_zero List.contains_cons List.contains_nil Bool.or_false Bool.false_or beq_self_eq_true Nat.reduceBEq ne_eq not_true_eq_false not_false_eq_true Id.mk.injEq false_and and_false Nat.reduceLT Int.reduceLE Int.reduceLT Int.reduceToNat Int.reduceNeg Int.reduceAdd Nat.le_refl List.length_append beq_true beq_false Bool.not_eq_eq_eq_not or_false false_or dR ae aj aI bq bG cC aY bh aW bp cQ bJ
theorem JG (cnt:Nat) (hn:cnt<=1048576) (bs:List PB) (ok:nz cnt bs) (qe:bs.length<=1048576) (σ:ar):
  Call Tryz.prog 237 [.int .i64 cnt,.sl (bs.map aB)] σ fun r σ'=>∃X A F,r=.ptr X 0 0/\σ.next<=X.bQ/\oj cnt bs (fun _=>0) X A F σ'.get σ'.next:=by
 refine Ig N1 rfl fun hl=>?_
 try simp only[q]
 clear hl
 have jN:(0:Int)<=(cnt:Int):=by omega
 have mN:(cnt:Int)<=((16777216:Nat):Int):=by omega
 have Rg:(0:Int)<=(bs.length:Int):=by omega
 have K2:(bs.length:Int)<=((16777216:Nat):Int):=by omega
 have hz:List.replicate bs.length [AV.int .i64 0]=ee (fun _=>0) bs.length:=by
  refine List.ext_getElem? fun i=>?_
  by_cases h:i<bs.length
  ·rw[dX h,List.getElem?_replicate,if_pos h];rfl
  ·rw[List.getElem?_eq_none (by simp;omega),List.getElem?_eq_none (by rw[dL];omega)]
 (try((repeat(revert hN;revert N;apply Pn.out));refine wk (tw @jN (tw @mN (tw @Rg (tw @K2 (tw @Int.le_refl @hz))))) ?_;(repeat(refine Pn.mk ?_;intro N hN))))
 obtain⟨X,hX⟩:∃X:Id,X=⟨237001003,σ.next+1⟩:=⟨_,rfl⟩
 obtain⟨A,hA⟩:∃X:Id,X=⟨237002002,σ.next+1+1⟩:=⟨_,rfl⟩
 obtain⟨F,hF⟩:∃X:Id,X=⟨237003003,σ.next+1+1+1⟩:=⟨_,rfl⟩
 have hXA:X.bQ<A.bQ:=by rw[hX,hA];(try dsimp only);omega
 have hAF:A.bQ<F.bQ:=by rw[hA,hF];(try dsimp only);omega
 have hXs:σ.next<=X.bQ:=by rw[hX];(try dsimp only);omega
 refine aZ (fun n env st=>∃j:Nat,n=(bs.length)-j/\j<=(bs.length)/\env 6=.int .i64 (j:Int)/\env 5=(.ptr X 0 0)/\st.get X=some ⟨true,4,[bK cnt bs A F]⟩/\st.get F=some ⟨true,1,ee (fun _=>0) bs.length⟩/\(re A F.bQ (lx cnt bs j) st.get st.next/\F.bQ<st.next)) (bs.length) ⟨0,by omega,by omega,by(try simp only[go_sem, ↓reduceIte,Nat.reduceEqDiff,Nat.reduceAdd,Nat.reduceSub,Nat.reduceLeDiff,reduceCtorEq,hX,hF,hA,bK,hz]);try rfl,by(try simp only[go_sem, ↓reduceIte,Nat.reduceEqDiff,Nat.reduceAdd,Nat.reduceSub,Nat.reduceLeDiff,reduceCtorEq,hX,hF,hA,bK,hz]);try rfl,by(try simp only[go_sem, ↓reduceIte,Nat.reduceEqDiff,Nat.reduceAdd,Nat.reduceSub,Nat.reduceLeDiff,reduceCtorEq,hX,hF,hA,bK,hz]);try rfl,by(try simp only[go_sem, ↓reduceIte,Nat.reduceEqDiff,Nat.reduceAdd,Nat.reduceSub,Nat.reduceLeDiff,reduceCtorEq,hX,hF,hA,bK,hz]);try rfl,⟨⟨List.replicate cnt [.bE],[],by rw[hA];(simp only[go_sem, ↓reduceIte,Nat.reduceEqDiff,Nat.reduceAdd,Nat.reduceSub,Nat.reduceLeDiff,reduceCtorEq])<;>rfl,by rw[GW];exact zd _ _,List.nodup_nil,fun i hi=>by cases hi⟩,by rw[hF];(try dsimp only);omega⟩⟩ ?_
 rintro n_a env_a st_a ⟨j,rfl,ale,a6,a5,ag0,ag1,j4⟩ dx
 have a0:=dx 0 (by kernel_rfl);have a1:=dx 1 (by kernel_rfl)
 simp only[go_sem, ↓reduceIte,Nat.reduceEqDiff,Nat.reduceAdd,Nat.reduceSub,Nat.reduceLeDiff,reduceCtorEq,hX,hF,hA,bK,hz]at a0 a1
 clear dx
 obtain⟨⟨rows,ids,ag,hR,mh,nW⟩,hFn⟩:=j4
 have x1:=bU hXA
 have x2:=bU hAF
 have x3:=bU (a:=X) (b:=F) (by omega)
 have vX:=dr (i:=X) (n:=st_a.next) (by omega)
 have vA:=dr (i:=A) (n:=st_a.next) (by omega)
 have vF:=dr (i:=F) (n:=st_a.next) (by omega)
 by_cases hj:(j:Int)<(bs.length:Int)
 ·have cz:∀{e:Env} {gg:Rows} {nx:Nat},(e 6=.int .i64 (IntKind.i64.wrap ((j:Int)+1)))->(e 5=(.ptr X 0 0))->(gg X=some ⟨true,4,[bK cnt bs A F]⟩)->(gg F=some ⟨true,1,ee (fun _=>0) bs.length⟩)->(re A F.bQ (lx cnt bs (j+1)) gg nx/\F.bQ<nx)->∃m0,m0<(bs.length)-j/\∃j:Nat,m0=(bs.length)-j/\j<=(bs.length)/\e 6=.int .i64 (j:Int)/\e 5=(.ptr X 0 0)/\gg X=some ⟨true,4,[bK cnt bs A F]⟩/\gg F=some ⟨true,1,ee (fun _=>0) bs.length⟩/\(re A F.bQ (lx cnt bs j) gg nx/\F.bQ<nx):=fun x1 x2 x3 x4 x5=>⟨_,by omega,j+1,rfl,by omega,(by rw[x1,aA (by omega)]),x2,x3,x4,x5⟩
  have iH:j<bs.length:=by omega
  have iR:=uK iH
  obtain⟨ha1,Rh,gP⟩:=ok j iH
  have gR:((cG bs j).a:Int)<(cnt:Int):=by omega
  have fX:((cG bs j).b:Int)<(cnt:Int):=by omega
  have s9:=GV (m:=j) ha1 Rh gP
  have e1:=rQ bs j (cG bs j).a
  have e2:=rQ bs j (cG bs j).b
  have Ru:(xW cnt bs j)[(cG bs j).b]? =some (jd bs j (cG bs j).b):=BV Rh gP
  have Rt:(lx cnt bs j)[(cG bs j).a]? =some (jd bs j (cG bs j).a):=by simp[lx,ha1]
  have Ug:xW cnt bs j=(lx cnt bs j).set (cG bs j).a (jd bs j (cG bs j).a++[j]):=rfl
  have S6:(xW cnt bs j).length=cnt:=by rw[Ug,List.length_set,jA]
  have jm:=hR.len
  rw[jA]at jm
  obtain⟨cs7,jx,Je,Jr⟩:=FW (A:=A) (K:=⟨237007022,st_a.next+1⟩) (nx:=st_a.next+1+1) (j:=j) hR mh nW (by omega) Rt (by(try dsimp only);omega) (by(try dsimp only);omega) hFn
  rw[<-Ug]at Jr
  obtain⟨c7,rfl⟩:∃c,cs7=[c]:=by
   rcases Je with⟨_,h⟩|⟨id,h,_⟩<;>exact⟨_,h⟩
  generalize jd bs j (cG bs j).a=La at *
  generalize jd bs j (cG bs j).b=Lb at *
  generalize cG bs j=b at *
  generalize xW cnt bs j=LA at *
  clear Ug
  (try((repeat(revert hN;revert N;apply Pn.out));refine wk (tw @a6 (tw @a5 (tw @ag0 (tw @ag1 (tw @a0 (tw @a1 (tw @hj (tw @iR (tw @aB.eq_1 (tw @ag (tw @jx (tw @gR (tw @fX (tw @jm (tw @x1 (tw @x2 (tw @x3 (tw @vX (tw @vA (tw @vF @bK.eq_1)))))))))))))))))))) ?_;(repeat(refine Pn.mk ?_;intro N hN))))
  refine KT (fun e s=>e 0=.int .i64 cnt/\e 1=.sl (bs.map aB)/\e 5=.ptr X 0 0/\e 6=.int .i64 j/\s.get X=some ⟨true,4,[bK cnt bs A F]⟩/\s.get F=some ⟨true,1,ee (fun _=>0) bs.length⟩/\re A F.bQ LA s.get s.next/\F.bQ<s.next) ?_ ?_
  ·rintro e1 s1 ⟨m0,m1,m5,m6,mX,mF,⟨rows1,ids1,mg,mR,mnd,mver⟩,mn⟩
   refine hN _ _ ?_
   clear hN N
   have jn:=mR.len
   rw[S6]at jn
   have wX:=dr (i:=X) (n:=s1.next) (by omega)
   have wA:=dr (i:=A) (n:=s1.next) (by omega)
   have wF:=dr (i:=F) (n:=s1.next) (by omega)
   obtain⟨cs8,jy,Jf,Js⟩:=FW (A:=A) (K:=⟨237008022,s1.next⟩) (nx:=s1.next+1) (j:=j) mR mnd mver (by omega) Ru (by(try dsimp only);omega) (by(try dsimp only);omega) mn
   rw[s9]at Js
   obtain⟨c8,rfl⟩:∃c,cs8=[c]:=by
    rcases Jf with⟨_,h⟩|⟨id,h,_⟩<;>exact⟨_,h⟩
   (try((repeat(revert hN;revert N;apply Pn.out));refine wk (tw @m0 (tw @m1 (tw @m5 (tw @m6 (tw @mX (tw @mF (tw @hj (tw @iR (tw @aB.eq_1 (tw @mg (tw @jy (tw @gR (tw @fX (tw @jn (tw @x1 (tw @x2 (tw @x3 (tw @wX (tw @wA (tw @wF @bK.eq_1)))))))))))))))))))) ?_;(repeat(refine Pn.mk ?_;intro N hN))))
   refine MT (fun e s=>e 0=.int .i64 cnt/\e 1=.sl (bs.map aB)/\e 5=.ptr X 0 0/\e 6=.int .i64 j/\s.get X=some ⟨true,4,[bK cnt bs A F]⟩/\s.get F=some ⟨true,1,ee (fun _=>0) bs.length⟩/\re A F.bQ (lx cnt bs (j+1)) s.get s.next/\F.bQ<s.next) ?_ ?_
   ·rintro e2 s2 ⟨p0,p1,p5,p6,pX,pF,pL,pn⟩
    simp only[du,bj]
    refine hN _ _ ?_
    clear hN N
    (try((repeat(revert hN;revert N;apply Pn.out));refine wk (tw @p0 (tw @p1 (tw @p5 @p6))) ?_;(repeat(refine Pn.mk ?_;intro N hN))))
    refine cz ?_ ?_ ?_ ?_ (⟨by obtain⟨r,i,q1,q2,q3,q4⟩:=pL;exact⟨r,i,sd @q1,q2,q3,fun x hx=>by have:=q4 x hx;(try dsimp only);omega⟩,by(try dsimp only);omega⟩)
    all_goals simp only[go_sem, ↓reduceIte,Nat.reduceEqDiff,Nat.reduceAdd,Nat.reduceSub,Nat.reduceLeDiff,reduceCtorEq,p0,p1,p5,p6,pX,pF]
   ·intro N hN
    rcases Jf with⟨Uw,zL⟩|⟨id,zL,hLp,hid,LO,uW⟩
    ·simp only[List.cons.injEq,and_true]at zL
     subst zL
     subst Uw
     refine fu ?_ ?_<;>(try((repeat(revert hN;revert N;apply Pn.out));refine wk (tw @m0 (tw @m1 (tw @m5 (tw @m6 (tw @mX (tw @mF (tw @hj (tw @iR (tw @aB.eq_1 (tw @mg (tw @jy (tw @gR (tw @fX (tw @jn (tw @x1 (tw @x2 (tw @x3 (tw @wX (tw @wA (tw @wF @bK.eq_1)))))))))))))))))))) ?_;(repeat(refine Pn.mk ?_;intro N hN))))<;>(try refine fu ?_ ?_)<;>(try((repeat(revert hN;revert N;apply Pn.out));refine wk (tw @m0 (tw @m1 (tw @m5 (tw @m6 (tw @mX (tw @mF (tw @hj (tw @iR (tw @aB.eq_1 (tw @mg (tw @jy (tw @gR (tw @fX (tw @jn (tw @x1 (tw @x2 (tw @x3 (tw @wX (tw @wA (tw @wF @bK.eq_1)))))))))))))))))))) ?_;(repeat(refine Pn.mk ?_;intro N hN))))<;>(try refine fu ?_ ?_)<;>(try((repeat(revert hN;revert N;apply Pn.out));refine wk (tw @m0 (tw @m1 (tw @m5 (tw @m6 (tw @mX (tw @mF (tw @hj (tw @iR (tw @aB.eq_1 (tw @mg (tw @jy (tw @gR (tw @fX (tw @jn (tw @x1 (tw @x2 (tw @x3 (tw @wX (tw @wA (tw @wF @bK.eq_1)))))))))))))))))))) ?_;(repeat(refine Pn.mk ?_;intro N hN))))<;>(try refine fu ?_ ?_)<;>(try((repeat(revert hN;revert N;apply Pn.out));refine wk (tw @m0 (tw @m1 (tw @m5 (tw @m6 (tw @mX (tw @mF (tw @hj (tw @iR (tw @aB.eq_1 (tw @mg (tw @jy (tw @gR (tw @fX (tw @jn (tw @x1 (tw @x2 (tw @x3 (tw @wX (tw @wA (tw @wF @bK.eq_1)))))))))))))))))))) ?_;(repeat(refine Pn.mk ?_;intro N hN))))<;>(try refine fu ?_ ?_)<;>(try((repeat(revert hN;revert N;apply Pn.out));refine wk (tw @m0 (tw @m1 (tw @m5 (tw @m6 (tw @mX (tw @mF (tw @hj (tw @iR (tw @aB.eq_1 (tw @mg (tw @jy (tw @gR (tw @fX (tw @jn (tw @x1 (tw @x2 (tw @x3 (tw @wX (tw @wA (tw @wF @bK.eq_1)))))))))))))))))))) ?_;(repeat(refine Pn.mk ?_;intro N hN))))<;>(try refine fu ?_ ?_)<;>(try((repeat(revert hN;revert N;apply Pn.out));refine wk (tw @m0 (tw @m1 (tw @m5 (tw @m6 (tw @mX (tw @mF (tw @hj (tw @iR (tw @aB.eq_1 (tw @mg (tw @jy (tw @gR (tw @fX (tw @jn (tw @x1 (tw @x2 (tw @x3 (tw @wX (tw @wA (tw @wF @bK.eq_1)))))))))))))))))))) ?_;(repeat(refine Pn.mk ?_;intro N hN))))
     all_goals
      refine⟨by simp only[go_sem, ↓reduceIte,Nat.reduceEqDiff,Nat.reduceAdd,Nat.reduceSub,Nat.reduceLeDiff,reduceCtorEq,m0,m1,m5,m6,mX,mF,hj,iR,aB,mg,jy,gR,fX,jn,x1,x2,x3,wX,wA,wF,bK],by simp only[go_sem, ↓reduceIte,Nat.reduceEqDiff,Nat.reduceAdd,Nat.reduceSub,Nat.reduceLeDiff,reduceCtorEq,m0,m1,m5,m6,mX,mF,hj,iR,aB,mg,jy,gR,fX,jn,x1,x2,x3,wX,wA,wF,bK],by simp only[go_sem, ↓reduceIte,Nat.reduceEqDiff,Nat.reduceAdd,Nat.reduceSub,Nat.reduceLeDiff,reduceCtorEq,m0,m1,m5,m6,mX,mF,hj,iR,aB,mg,jy,gR,fX,jn,x1,x2,x3,wX,wA,wF,bK],by simp only[go_sem, ↓reduceIte,Nat.reduceEqDiff,Nat.reduceAdd,Nat.reduceSub,Nat.reduceLeDiff,reduceCtorEq,m0,m1,m5,m6,mX,mF,hj,iR,aB,mg,jy,gR,fX,jn,x1,x2,x3,wX,wA,wF,bK],by simp only[go_sem, ↓reduceIte,Nat.reduceEqDiff,Nat.reduceAdd,Nat.reduceSub,Nat.reduceLeDiff,reduceCtorEq,m0,m1,m5,m6,mX,mF,hj,iR,aB,mg,jy,gR,fX,jn,x1,x2,x3,wX,wA,wF,bK],by simp only[go_sem, ↓reduceIte,Nat.reduceEqDiff,Nat.reduceAdd,Nat.reduceSub,Nat.reduceLeDiff,reduceCtorEq,m0,m1,m5,m6,mX,mF,hj,iR,aB,mg,jy,gR,fX,jn,x1,x2,x3,wX,wA,wF,bK],Js _ (by simp only[go_sem, ↓reduceIte,Nat.reduceEqDiff,Nat.reduceAdd,Nat.reduceSub,Nat.reduceLeDiff,reduceCtorEq,m0,m1,m5,m6,mX,mF,hj,iR,aB,mg,jy,gR,fX,jn,x1,x2,x3,wX,wA,wF,bK,List.length_nil]) (by simp only[go_sem, ↓reduceIte,Nat.reduceEqDiff,Nat.reduceAdd,Nat.reduceSub,Nat.reduceLeDiff,reduceCtorEq,m0,m1,m5,m6,mX,mF,hj,iR,aB,mg,jy,gR,fX,jn,x1,x2,x3,wX,wA,wF,bK,List.map_nil,List.nil_append]) (fun i hi OI fh=>?_),by(try dsimp only);omega⟩
      clear fh
      simp only[go_sem, ↓reduceIte,Nat.reduceEqDiff,Nat.reduceAdd,Nat.reduceSub,Nat.reduceLeDiff,reduceCtorEq,wX,wA,wF,dr hi,OI]
    ·simp only[List.cons.injEq,and_true]at zL
     subst zL
     have sC:=dr LO
     have y1:=bU (a:=A) (b:=id) (by omega)
     have y2:=bU (a:=F) (b:=id) uW
     have y3:=bU (a:=X) (b:=id) (by omega)
     have e3:Lb.length+1<=16777216:=by omega
     have z1:(Lb.map eN).length=Lb.length:=by simp
     refine fu ?_ ?_<;>(try((repeat(revert hN;revert N;apply Pn.out));refine wk (tw @m0 (tw @m1 (tw @m5 (tw @m6 (tw @mX (tw @mF (tw @hj (tw @iR (tw @aB.eq_1 (tw @mg (tw @jy (tw @gR (tw @fX (tw @jn (tw @x1 (tw @x2 (tw @x3 (tw @wX (tw @wA (tw @wF (tw @bK.eq_1 (tw @hid (tw @sC (tw @y1 (tw @y2 (tw @y3 (tw @e3 @z1))))))))))))))))))))))))))) ?_;(repeat(refine Pn.mk ?_;intro N hN))))<;>(try refine fu ?_ ?_)<;>(try((repeat(revert hN;revert N;apply Pn.out));refine wk (tw @m0 (tw @m1 (tw @m5 (tw @m6 (tw @mX (tw @mF (tw @hj (tw @iR (tw @aB.eq_1 (tw @mg (tw @jy (tw @gR (tw @fX (tw @jn (tw @x1 (tw @x2 (tw @x3 (tw @wX (tw @wA (tw @wF (tw @bK.eq_1 (tw @hid (tw @sC (tw @y1 (tw @y2 (tw @y3 (tw @e3 @z1))))))))))))))))))))))))))) ?_;(repeat(refine Pn.mk ?_;intro N hN))))<;>(try refine fu ?_ ?_)<;>(try((repeat(revert hN;revert N;apply Pn.out));refine wk (tw @m0 (tw @m1 (tw @m5 (tw @m6 (tw @mX (tw @mF (tw @hj (tw @iR (tw @aB.eq_1 (tw @mg (tw @jy (tw @gR (tw @fX (tw @jn (tw @x1 (tw @x2 (tw @x3 (tw @wX (tw @wA (tw @wF (tw @bK.eq_1 (tw @hid (tw @sC (tw @y1 (tw @y2 (tw @y3 (tw @e3 @z1))))))))))))))))))))))))))) ?_;(repeat(refine Pn.mk ?_;intro N hN))))<;>(try refine fu ?_ ?_)<;>(try((repeat(revert hN;revert N;apply Pn.out));refine wk (tw @m0 (tw @m1 (tw @m5 (tw @m6 (tw @mX (tw @mF (tw @hj (tw @iR (tw @aB.eq_1 (tw @mg (tw @jy (tw @gR (tw @fX (tw @jn (tw @x1 (tw @x2 (tw @x3 (tw @wX (tw @wA (tw @wF (tw @bK.eq_1 (tw @hid (tw @sC (tw @y1 (tw @y2 (tw @y3 (tw @e3 @z1))))))))))))))))))))))))))) ?_;(repeat(refine Pn.mk ?_;intro N hN))))<;>(try refine fu ?_ ?_)<;>(try((repeat(revert hN;revert N;apply Pn.out));refine wk (tw @m0 (tw @m1 (tw @m5 (tw @m6 (tw @mX (tw @mF (tw @hj (tw @iR (tw @aB.eq_1 (tw @mg (tw @jy (tw @gR (tw @fX (tw @jn (tw @x1 (tw @x2 (tw @x3 (tw @wX (tw @wA (tw @wF (tw @bK.eq_1 (tw @hid (tw @sC (tw @y1 (tw @y2 (tw @y3 (tw @e3 @z1))))))))))))))))))))))))))) ?_;(repeat(refine Pn.mk ?_;intro N hN))))<;>(try refine fu ?_ ?_)<;>(try((repeat(revert hN;revert N;apply Pn.out));refine wk (tw @m0 (tw @m1 (tw @m5 (tw @m6 (tw @mX (tw @mF (tw @hj (tw @iR (tw @aB.eq_1 (tw @mg (tw @jy (tw @gR (tw @fX (tw @jn (tw @x1 (tw @x2 (tw @x3 (tw @wX (tw @wA (tw @wF (tw @bK.eq_1 (tw @hid (tw @sC (tw @y1 (tw @y2 (tw @y3 (tw @e3 @z1))))))))))))))))))))))))))) ?_;(repeat(refine Pn.mk ?_;intro N hN))))
     all_goals
      refine⟨by simp only[go_sem, ↓reduceIte,Nat.reduceEqDiff,Nat.reduceAdd,Nat.reduceSub,Nat.reduceLeDiff,reduceCtorEq,m0,m1,m5,m6,mX,mF,hj,iR,aB,mg,jy,gR,fX,jn,x1,x2,x3,wX,wA,wF,bK,hid,sC,y1,y2,y3,e3,z1],by simp only[go_sem, ↓reduceIte,Nat.reduceEqDiff,Nat.reduceAdd,Nat.reduceSub,Nat.reduceLeDiff,reduceCtorEq,m0,m1,m5,m6,mX,mF,hj,iR,aB,mg,jy,gR,fX,jn,x1,x2,x3,wX,wA,wF,bK,hid,sC,y1,y2,y3,e3,z1],by simp only[go_sem, ↓reduceIte,Nat.reduceEqDiff,Nat.reduceAdd,Nat.reduceSub,Nat.reduceLeDiff,reduceCtorEq,m0,m1,m5,m6,mX,mF,hj,iR,aB,mg,jy,gR,fX,jn,x1,x2,x3,wX,wA,wF,bK,hid,sC,y1,y2,y3,e3,z1],by simp only[go_sem, ↓reduceIte,Nat.reduceEqDiff,Nat.reduceAdd,Nat.reduceSub,Nat.reduceLeDiff,reduceCtorEq,m0,m1,m5,m6,mX,mF,hj,iR,aB,mg,jy,gR,fX,jn,x1,x2,x3,wX,wA,wF,bK,hid,sC,y1,y2,y3,e3,z1],by simp only[go_sem, ↓reduceIte,Nat.reduceEqDiff,Nat.reduceAdd,Nat.reduceSub,Nat.reduceLeDiff,reduceCtorEq,m0,m1,m5,m6,mX,mF,hj,iR,aB,mg,jy,gR,fX,jn,x1,x2,x3,wX,wA,wF,bK,hid,sC,y1,y2,y3,e3,z1],by simp only[go_sem, ↓reduceIte,Nat.reduceEqDiff,Nat.reduceAdd,Nat.reduceSub,Nat.reduceLeDiff,reduceCtorEq,m0,m1,m5,m6,mX,mF,hj,iR,aB,mg,jy,gR,fX,jn,x1,x2,x3,wX,wA,wF,bK,hid,sC,y1,y2,y3,e3,z1],Js _ (by simp only[go_sem, ↓reduceIte,Nat.reduceEqDiff,Nat.reduceAdd,Nat.reduceSub,Nat.reduceLeDiff,reduceCtorEq,m0,m1,m5,m6,mX,mF,hj,iR,aB,mg,jy,gR,fX,jn,x1,x2,x3,wX,wA,wF,bK,hid,sC,y1,y2,y3,e3,z1,List.length_nil]) (by simp only[go_sem, ↓reduceIte,Nat.reduceEqDiff,Nat.reduceAdd,Nat.reduceSub,Nat.reduceLeDiff,reduceCtorEq,m0,m1,m5,m6,mX,mF,hj,iR,aB,mg,jy,gR,fX,jn,x1,x2,x3,wX,wA,wF,bK,hid,sC,y1,y2,y3,e3,z1,List.map_nil,List.nil_append]) (fun i hi OI fh=>?_),by(try dsimp only);omega⟩
      have gP:=fh id rfl
      simp only[go_sem, ↓reduceIte,Nat.reduceEqDiff,Nat.reduceAdd,Nat.reduceSub,Nat.reduceLeDiff,reduceCtorEq,wX,wA,wF,dr hi,OI,gP]
  ·intro N hN
   rcases Je with⟨Uw,zL⟩|⟨id,zL,hLp,hid,LO,uW⟩
   ·simp only[List.cons.injEq,and_true]at zL
    subst zL
    subst Uw
    refine fu ?_ ?_<;>(try((repeat(revert hN;revert N;apply Pn.out));refine wk (tw @a6 (tw @a5 (tw @ag0 (tw @ag1 (tw @a0 (tw @a1 (tw @hj (tw @iR (tw @aB.eq_1 (tw @ag (tw @jx (tw @gR (tw @fX (tw @jm (tw @x1 (tw @x2 (tw @x3 (tw @vX (tw @vA (tw @vF @bK.eq_1)))))))))))))))))))) ?_;(repeat(refine Pn.mk ?_;intro N hN))))<;>(try refine fu ?_ ?_)<;>(try((repeat(revert hN;revert N;apply Pn.out));refine wk (tw @a6 (tw @a5 (tw @ag0 (tw @ag1 (tw @a0 (tw @a1 (tw @hj (tw @iR (tw @aB.eq_1 (tw @ag (tw @jx (tw @gR (tw @fX (tw @jm (tw @x1 (tw @x2 (tw @x3 (tw @vX (tw @vA (tw @vF @bK.eq_1)))))))))))))))))))) ?_;(repeat(refine Pn.mk ?_;intro N hN))))<;>(try refine fu ?_ ?_)<;>(try((repeat(revert hN;revert N;apply Pn.out));refine wk (tw @a6 (tw @a5 (tw @ag0 (tw @ag1 (tw @a0 (tw @a1 (tw @hj (tw @iR (tw @aB.eq_1 (tw @ag (tw @jx (tw @gR (tw @fX (tw @jm (tw @x1 (tw @x2 (tw @x3 (tw @vX (tw @vA (tw @vF @bK.eq_1)))))))))))))))))))) ?_;(repeat(refine Pn.mk ?_;intro N hN))))<;>(try refine fu ?_ ?_)<;>(try((repeat(revert hN;revert N;apply Pn.out));refine wk (tw @a6 (tw @a5 (tw @ag0 (tw @ag1 (tw @a0 (tw @a1 (tw @hj (tw @iR (tw @aB.eq_1 (tw @ag (tw @jx (tw @gR (tw @fX (tw @jm (tw @x1 (tw @x2 (tw @x3 (tw @vX (tw @vA (tw @vF @bK.eq_1)))))))))))))))))))) ?_;(repeat(refine Pn.mk ?_;intro N hN))))<;>(try refine fu ?_ ?_)<;>(try((repeat(revert hN;revert N;apply Pn.out));refine wk (tw @a6 (tw @a5 (tw @ag0 (tw @ag1 (tw @a0 (tw @a1 (tw @hj (tw @iR (tw @aB.eq_1 (tw @ag (tw @jx (tw @gR (tw @fX (tw @jm (tw @x1 (tw @x2 (tw @x3 (tw @vX (tw @vA (tw @vF @bK.eq_1)))))))))))))))))))) ?_;(repeat(refine Pn.mk ?_;intro N hN))))<;>(try refine fu ?_ ?_)<;>(try((repeat(revert hN;revert N;apply Pn.out));refine wk (tw @a6 (tw @a5 (tw @ag0 (tw @ag1 (tw @a0 (tw @a1 (tw @hj (tw @iR (tw @aB.eq_1 (tw @ag (tw @jx (tw @gR (tw @fX (tw @jm (tw @x1 (tw @x2 (tw @x3 (tw @vX (tw @vA (tw @vF @bK.eq_1)))))))))))))))))))) ?_;(repeat(refine Pn.mk ?_;intro N hN))))
    all_goals
     refine⟨by simp only[go_sem, ↓reduceIte,Nat.reduceEqDiff,Nat.reduceAdd,Nat.reduceSub,Nat.reduceLeDiff,reduceCtorEq,a6,a5,ag0,ag1,a0,a1,hj,iR,aB,ag,jx,gR,fX,jm,x1,x2,x3,vX,vA,vF,bK],by simp only[go_sem, ↓reduceIte,Nat.reduceEqDiff,Nat.reduceAdd,Nat.reduceSub,Nat.reduceLeDiff,reduceCtorEq,a6,a5,ag0,ag1,a0,a1,hj,iR,aB,ag,jx,gR,fX,jm,x1,x2,x3,vX,vA,vF,bK],by simp only[go_sem, ↓reduceIte,Nat.reduceEqDiff,Nat.reduceAdd,Nat.reduceSub,Nat.reduceLeDiff,reduceCtorEq,a6,a5,ag0,ag1,a0,a1,hj,iR,aB,ag,jx,gR,fX,jm,x1,x2,x3,vX,vA,vF,bK],by simp only[go_sem, ↓reduceIte,Nat.reduceEqDiff,Nat.reduceAdd,Nat.reduceSub,Nat.reduceLeDiff,reduceCtorEq,a6,a5,ag0,ag1,a0,a1,hj,iR,aB,ag,jx,gR,fX,jm,x1,x2,x3,vX,vA,vF,bK],by simp only[go_sem, ↓reduceIte,Nat.reduceEqDiff,Nat.reduceAdd,Nat.reduceSub,Nat.reduceLeDiff,reduceCtorEq,a6,a5,ag0,ag1,a0,a1,hj,iR,aB,ag,jx,gR,fX,jm,x1,x2,x3,vX,vA,vF,bK],by simp only[go_sem, ↓reduceIte,Nat.reduceEqDiff,Nat.reduceAdd,Nat.reduceSub,Nat.reduceLeDiff,reduceCtorEq,a6,a5,ag0,ag1,a0,a1,hj,iR,aB,ag,jx,gR,fX,jm,x1,x2,x3,vX,vA,vF,bK],Jr _ (by simp only[go_sem, ↓reduceIte,Nat.reduceEqDiff,Nat.reduceAdd,Nat.reduceSub,Nat.reduceLeDiff,reduceCtorEq,a6,a5,ag0,ag1,a0,a1,hj,iR,aB,ag,jx,gR,fX,jm,x1,x2,x3,vX,vA,vF,bK,List.length_nil]) (by simp only[go_sem, ↓reduceIte,Nat.reduceEqDiff,Nat.reduceAdd,Nat.reduceSub,Nat.reduceLeDiff,reduceCtorEq,a6,a5,ag0,ag1,a0,a1,hj,iR,aB,ag,jx,gR,fX,jm,x1,x2,x3,vX,vA,vF,bK,List.map_nil,List.nil_append]) (fun i hi OI fh=>?_),by(try dsimp only);omega⟩
     clear fh
     simp only[go_sem, ↓reduceIte,Nat.reduceEqDiff,Nat.reduceAdd,Nat.reduceSub,Nat.reduceLeDiff,reduceCtorEq,vX,vA,vF,dr hi,OI]
   ·simp only[List.cons.injEq,and_true]at zL
    subst zL
    have sC:=dr LO
    have y1:=bU (a:=A) (b:=id) (by omega)
    have y2:=bU (a:=F) (b:=id) uW
    have y3:=bU (a:=X) (b:=id) (by omega)
    have e3:La.length+1<=16777216:=by omega
    have z1:(La.map eN).length=La.length:=by simp
    refine fu ?_ ?_<;>(try((repeat(revert hN;revert N;apply Pn.out));refine wk (tw @a6 (tw @a5 (tw @ag0 (tw @ag1 (tw @a0 (tw @a1 (tw @hj (tw @iR (tw @aB.eq_1 (tw @ag (tw @jx (tw @gR (tw @fX (tw @jm (tw @x1 (tw @x2 (tw @x3 (tw @vX (tw @vA (tw @vF (tw @bK.eq_1 (tw @hid (tw @sC (tw @y1 (tw @y2 (tw @y3 (tw @e3 @z1))))))))))))))))))))))))))) ?_;(repeat(refine Pn.mk ?_;intro N hN))))<;>(try refine fu ?_ ?_)<;>(try((repeat(revert hN;revert N;apply Pn.out));refine wk (tw @a6 (tw @a5 (tw @ag0 (tw @ag1 (tw @a0 (tw @a1 (tw @hj (tw @iR (tw @aB.eq_1 (tw @ag (tw @jx (tw @gR (tw @fX (tw @jm (tw @x1 (tw @x2 (tw @x3 (tw @vX (tw @vA (tw @vF (tw @bK.eq_1 (tw @hid (tw @sC (tw @y1 (tw @y2 (tw @y3 (tw @e3 @z1))))))))))))))))))))))))))) ?_;(repeat(refine Pn.mk ?_;intro N hN))))<;>(try refine fu ?_ ?_)<;>(try((repeat(revert hN;revert N;apply Pn.out));refine wk (tw @a6 (tw @a5 (tw @ag0 (tw @ag1 (tw @a0 (tw @a1 (tw @hj (tw @iR (tw @aB.eq_1 (tw @ag (tw @jx (tw @gR (tw @fX (tw @jm (tw @x1 (tw @x2 (tw @x3 (tw @vX (tw @vA (tw @vF (tw @bK.eq_1 (tw @hid (tw @sC (tw @y1 (tw @y2 (tw @y3 (tw @e3 @z1))))))))))))))))))))))))))) ?_;(repeat(refine Pn.mk ?_;intro N hN))))<;>(try refine fu ?_ ?_)<;>(try((repeat(revert hN;revert N;apply Pn.out));refine wk (tw @a6 (tw @a5 (tw @ag0 (tw @ag1 (tw @a0 (tw @a1 (tw @hj (tw @iR (tw @aB.eq_1 (tw @ag (tw @jx (tw @gR (tw @fX (tw @jm (tw @x1 (tw @x2 (tw @x3 (tw @vX (tw @vA (tw @vF (tw @bK.eq_1 (tw @hid (tw @sC (tw @y1 (tw @y2 (tw @y3 (tw @e3 @z1))))))))))))))))))))))))))) ?_;(repeat(refine Pn.mk ?_;intro N hN))))<;>(try refine fu ?_ ?_)<;>(try((repeat(revert hN;revert N;apply Pn.out));refine wk (tw @a6 (tw @a5 (tw @ag0 (tw @ag1 (tw @a0 (tw @a1 (tw @hj (tw @iR (tw @aB.eq_1 (tw @ag (tw @jx (tw @gR (tw @fX (tw @jm (tw @x1 (tw @x2 (tw @x3 (tw @vX (tw @vA (tw @vF (tw @bK.eq_1 (tw @hid (tw @sC (tw @y1 (tw @y2 (tw @y3 (tw @e3 @z1))))))))))))))))))))))))))) ?_;(repeat(refine Pn.mk ?_;intro N hN))))<;>(try refine fu ?_ ?_)<;>(try((repeat(revert hN;revert N;apply Pn.out));refine wk (tw @a6 (tw @a5 (tw @ag0 (tw @ag1 (tw @a0 (tw @a1 (tw @hj (tw @iR (tw @aB.eq_1 (tw @ag (tw @jx (tw @gR (tw @fX (tw @jm (tw @x1 (tw @x2 (tw @x3 (tw @vX (tw @vA (tw @vF (tw @bK.eq_1 (tw @hid (tw @sC (tw @y1 (tw @y2 (tw @y3 (tw @e3 @z1))))))))))))))))))))))))))) ?_;(repeat(refine Pn.mk ?_;intro N hN))))
    all_goals
     refine⟨by simp only[go_sem, ↓reduceIte,Nat.reduceEqDiff,Nat.reduceAdd,Nat.reduceSub,Nat.reduceLeDiff,reduceCtorEq,a6,a5,ag0,ag1,a0,a1,hj,iR,aB,ag,jx,gR,fX,jm,x1,x2,x3,vX,vA,vF,bK,hid,sC,y1,y2,y3,e3,z1],by simp only[go_sem, ↓reduceIte,Nat.reduceEqDiff,Nat.reduceAdd,Nat.reduceSub,Nat.reduceLeDiff,reduceCtorEq,a6,a5,ag0,ag1,a0,a1,hj,iR,aB,ag,jx,gR,fX,jm,x1,x2,x3,vX,vA,vF,bK,hid,sC,y1,y2,y3,e3,z1],by simp only[go_sem, ↓reduceIte,Nat.reduceEqDiff,Nat.reduceAdd,Nat.reduceSub,Nat.reduceLeDiff,reduceCtorEq,a6,a5,ag0,ag1,a0,a1,hj,iR,aB,ag,jx,gR,fX,jm,x1,x2,x3,vX,vA,vF,bK,hid,sC,y1,y2,y3,e3,z1],by simp only[go_sem, ↓reduceIte,Nat.reduceEqDiff,Nat.reduceAdd,Nat.reduceSub,Nat.reduceLeDiff,reduceCtorEq,a6,a5,ag0,ag1,a0,a1,hj,iR,aB,ag,jx,gR,fX,jm,x1,x2,x3,vX,vA,vF,bK,hid,sC,y1,y2,y3,e3,z1],by simp only[go_sem, ↓reduceIte,Nat.reduceEqDiff,Nat.reduceAdd,Nat.reduceSub,Nat.reduceLeDiff,reduceCtorEq,a6,a5,ag0,ag1,a0,a1,hj,iR,aB,ag,jx,gR,fX,jm,x1,x2,x3,vX,vA,vF,bK,hid,sC,y1,y2,y3,e3,z1],by simp only[go_sem, ↓reduceIte,Nat.reduceEqDiff,Nat.reduceAdd,Nat.reduceSub,Nat.reduceLeDiff,reduceCtorEq,a6,a5,ag0,ag1,a0,a1,hj,iR,aB,ag,jx,gR,fX,jm,x1,x2,x3,vX,vA,vF,bK,hid,sC,y1,y2,y3,e3,z1],Jr _ (by simp only[go_sem, ↓reduceIte,Nat.reduceEqDiff,Nat.reduceAdd,Nat.reduceSub,Nat.reduceLeDiff,reduceCtorEq,a6,a5,ag0,ag1,a0,a1,hj,iR,aB,ag,jx,gR,fX,jm,x1,x2,x3,vX,vA,vF,bK,hid,sC,y1,y2,y3,e3,z1,List.length_nil]) (by simp only[go_sem, ↓reduceIte,Nat.reduceEqDiff,Nat.reduceAdd,Nat.reduceSub,Nat.reduceLeDiff,reduceCtorEq,a6,a5,ag0,ag1,a0,a1,hj,iR,aB,ag,jx,gR,fX,jm,x1,x2,x3,vX,vA,vF,bK,hid,sC,y1,y2,y3,e3,z1,List.map_nil,List.nil_append]) (fun i hi OI fh=>?_),by(try dsimp only);omega⟩
     have gP:=fh id rfl
     simp only[go_sem, ↓reduceIte,Nat.reduceEqDiff,Nat.reduceAdd,Nat.reduceSub,Nat.reduceLeDiff,reduceCtorEq,vX,vA,vF,dr hi,OI,gP]
 ·have iq:j=bs.length:=by omega
  subst iq
  (try((repeat(revert hN;revert N;apply Pn.out));refine wk (tw @a6 (tw @a5 (tw @ag0 (tw @ag1 (tw @a0 (tw @a1 @hj)))))) ?_;(repeat(refine Pn.mk ?_;intro N hN))))
  exact eX (.inl rfl) (by simp only[fx,iw,go_sem, ↓reduceIte,Nat.reduceEqDiff,Nat.reduceAdd,Nat.reduceSub,Nat.reduceLeDiff,reduceCtorEq];rfl) ⟨X,A,F,rfl,hXs,⟨ag0,⟨rows,ids,ag,hR,mh,fun x hx=>by have:=nW x hx;(try dsimp only);omega⟩,ag1,hXA,hAF,by(try dsimp only);omega⟩⟩
end Go.Proofs.YtgoelphibofcmaaGreat.V

namespace Go.Proofs.YtgoelphibofcmaaGreat.V
open Go.RowKit
attribute [local irreducible] dO wpOps gy Call
attribute [local go_sem] aT fK eS ga fZ dj upd cF K.av cP AV.cells AV.cell rowOf rowsOf part ld rowAt bL cD dG ef ik bV de ew fW fe dw ek dc db dU dV cj bl cU b4 cW cV ei eo ej cR cm dd eh bW aV cZ cI ij bx cK ck bd du bj dI AV.undef bH bS dW eb dQ dP cJ ev eE cH er ep cY da List.getD_cons_zero List.getD_cons_succ List.getD_nil List.all_cons List.all_nil Bool.and_true Bool.true_and Bool.and_self Bool.not_true Bool.not_false Option.map_some Option.map_none Option.bind_some Option.bind_none List.length_cons List.length_nil List.take_succ_cons List.take_zero List.take_nil List.drop_succ_cons List.drop_zero List.drop_nil List.head?_cons List.map_cons List.map_nil List.getElem?_cons_zero List.getElem?_cons_succ List.cons_append List.nil_append List.append_nil List.length_map List.set_cons_zero List.set_cons_succ Nat.reduceMul eq_self Int.toNat_natCast Int.natCast_nonneg and_self true_and and_true decide_true decide_false Bool.false_eq_true Nat.zero_add Nat.add_zero List.contains_cons List.contains_nil Bool.or_false Bool.false_or beq_self_eq_true Nat.reduceBEq ne_eq not_true_eq_false not_false_eq_true Id.mk.injEq false_and and_false Nat.reduceLT Int.reduceLE Int.reduceLT Int.reduceToNat Int.reduceNeg Int.reduceAdd Nat.le_refl List.length_append beq_true beq_false Bool.not_eq_eq_eq_not or_false false_or dR ae aj aI bq bG cC aY bh aW bp cQ bJ
theorem re.frame {A:Id} {lo nx u9:Nat} {L:List (List Nat)} {g g':Rows} (h:re A lo L g nx) (hA:A.bQ<nx) (hf:∀i:Id,i.bQ<nx->lo<i.bQ∨i=A->g' i=g i) (hn:nx<=u9):re A lo L g' u9:=by
 obtain⟨rows,ids,h1,h2,h3,h4⟩:=h
 refine⟨rows,ids,(hf A hA (.inr rfl)).trans h1,h2.frame NA fun i hi=>hf i (h4 i hi).2 (.inl (h4 i hi).1),h3,fun i hi=>?_⟩
 have:=h4 i hi;omega
theorem oj.frame {cnt:Nat} {bs:List PB} {f:Nat->Int} {X A F:Id} {g g':Rows} {nx u9:Nat} (h:oj cnt bs f X A F g nx) (hf:∀i:Id,i.bQ<nx->g' i=g i) (hn:nx<=u9):oj cnt bs f X A F g' u9:=by
 have h1:=h.xa;have h2:=h.af;have h3:=h.fn
 exact⟨(hf X (by omega)).trans h.x,h.a.frame (by omega) (fun i hi _=>hf i hi) hn,(hf F h3).trans h.f,h1,h2,by omega⟩
theorem oj.Q4 {cnt:Nat} {bs:List PB} {f f':Nat->Int} {X A F:Id} {g g':Rows} {nx u9:Nat} (h:oj cnt bs f X A F g nx) (hF:g' F=some ⟨true,1,ee f' bs.length⟩) (hf:∀i:Id,i.bQ<nx->(i=F)=False->g' i=g i) (hn:nx<=u9):oj cnt bs f' X A F g' u9:=by
 have h1:=h.xa;have h2:=h.af;have h3:=h.fn
 refine⟨(hf X (by omega) (bU (by omega)).1).trans h.x,h.a.frame (by omega) (fun i hi kq=>hf i hi ?_) hn,hF,h1,h2,by omega⟩
 rcases kq with kq|rfl
 ·exact(bU kq).2
 ·exact(bU h2).1
theorem Pt (cnt:Nat) (bs:List PB) (f:Nat->Int) (hs:Small bs f) (e v:Nat) (he:e<bs.length) (X A F:Id) (σ:ar) (nx:Nat) (hS:oj cnt bs f X A F σ.get nx) (hn:nx<=σ.next):
  Call Tryz.prog 261 [.ptr X 0 0,.int .i64 v,.int .i64 e] σ fun r σ'=>oj cnt bs (uh bs f e v) X A F σ'.get nx/\σ.next<=σ'.next/\∀i:Id,(i=F)=False->σ'.get i=σ.get i:=by
 refine eQ eK rfl fun hl=>?_
 clear hl
 have hX:=hS.x
 have hF:=hS.f
 have hb:=uK he
 have UT:=dX (f:=f) he
 have tl:=dL f bs.length
 obtain⟨⟨s0,s1⟩,s2,s3⟩:=hs e he
 have hei:(e:Int)<(bs.length:Int):=by omega
 have w1:IntKind.i64.wrap (f e+1)=f e+1:=bI (by omega)
 have w2:IntKind.i64.wrap (f e-1)=f e+-1:=by rw[bI (by omega)];omega
 rw[aE]at UT
 unfold uh
 by_cases h:(cG bs e).a=v
 ·have eH:(ee f bs.length).set e (aE (f e+1))=ee (fun j=>f j+if j=e then(if (cG bs e).a=v then 1 else -1)else 0) bs.length:=lk he (by rw[if_pos rfl,if_pos h]) fun i _ hi=>by rw[if_neg hi,Int.add_zero]
  rw[aE]at eH
  generalize S9:cG bs e=b at *
  have hd:decide ((b.a:Int)=(v:Int))=true:=decide_eq_true (by rw[h])
  (try((repeat(revert hN;revert N;apply Pn.out));refine wk (tw @hX (tw @hF (tw @hb (tw @UT (tw @tl (tw @hei (tw @w1 (tw @eH (tw @hd (tw @aB.eq_1 @bK.eq_1)))))))))) ?_;(repeat(refine Pn.mk ?_;intro N hN))))
  exact eX (.inr rfl) (vs:=[]) rfl ⟨hS.Q4 (sd @Nat.zero_add) (fun i hi gP=>sd @gP) (Nat.le_refl _),by(try dsimp only);omega,fun i gP=>sd @gP⟩
 ·have eH:(ee f bs.length).set e (aE (f e+-1))=ee (fun j=>f j+if j=e then(if (cG bs e).a=v then 1 else -1)else 0) bs.length:=lk he (by rw[if_pos rfl,if_neg h]) fun i _ hi=>by rw[if_neg hi,Int.add_zero]
  rw[aE]at eH
  generalize S9:cG bs e=b at *
  have hd:decide ((b.a:Int)=(v:Int))=false:=decide_eq_false fun hc=>h (by omega)
  (try((repeat(revert hN;revert N;apply Pn.out));refine wk (tw @hX (tw @hF (tw @hb (tw @UT (tw @tl (tw @hei (tw @w2 (tw @eH (tw @hd (tw @aB.eq_1 @bK.eq_1)))))))))) ?_;(repeat(refine Pn.mk ?_;intro N hN))))
  exact eX (.inr rfl) (vs:=[]) rfl ⟨hS.Q4 (sd @Nat.zero_add) (fun i hi gP=>sd @gP) (Nat.le_refl _),by(try dsimp only);omega,fun i gP=>sd @gP⟩
structure om (bs:List PB) (out:Nat->Int) (f f':Nat->Int) (x v:Nat):Prop where
 le:∀i,i<bs.length->f' i<=(cG bs i).s/\-(cG bs i).s<=f' i
 cut:∀S:Nat->Bool,Gu S bs f'=Gu S bs f+bi (S x)-bi (S v)
 yW:∀e,e<bs.length->out (cG bs e).a<=out v->out (cG bs e).b<=out v->f' e=f e
section
variable {cnt:Nat} {bs:List PB} {out:Nat->Int} {f f':Nat->Int} {x v y:Nat}
theorem om.start (h:∀i,i<bs.length->f i<=(cG bs i).s/\-(cG bs i).s<=f i):om bs out f f x x:=⟨h,fun S=>by omega,fun _ _ _ _=>rfl⟩
theorem om.step (h:om bs out f f' x v) {e:Nat} (he:e<bs.length) (hi:Fh bs e v) (hr:0<fN bs f' e v) (hd:out (cw bs e v)=out v-1):om bs out f (uh bs f' e v) x (cw bs e v):=by
 refine⟨fun i kN=>?_,fun S=>?_,fun i kN ha hb=>?_⟩
 ·have h1:=h.le i kN
  unfold uh
  by_cases H0:i=e
  ·subst H0
   rw[if_pos rfl]
   unfold fN at hr
   split at hr<;>rename_i hc
   ·rw[if_pos hc];omega
   ·rw[if_neg hc];omega
  ·rw[if_neg H0];omega
 ·rw[Gv he hi,h.cut S];omega
 ·have H0:i≠e:=by
   rintro rfl
   rcases hi with hi|hi
   ·rw[hi]at ha;omega
   ·rw[hi]at hb;omega
  unfold uh
  rw[if_neg H0,Int.add_zero]
  exact h.yW i kN (by omega) (by omega)
theorem om.goes (h:om bs out f f' x v) (hs:zk cnt bs f y out) (hv:v<cnt) (h0:0<out v):∃e∈jd bs bs.length v,0<fN bs f' e v/\out (cw bs e v)=out v-1:=by
 obtain⟨e,h1,h2,h3,h4⟩:=hs.down v hv h0
 refine⟨e,rR.2 ⟨h1,h2⟩,?_,h4⟩
 have hf:f' e=f e:=by
  refine h.yW e h1 ?_ ?_
  ·unfold cw at h4
   split at h4
   ·rename_i ha;rw[ha];exact Int.le_refl _
   ·omega
  ·unfold cw at h4
   rcases h2 with h2|h2
   ·rw[if_pos h2]at h4;omega
   ·rw[h2];exact Int.le_refl _
 unfold fN at h3 ⊢
 rw[hf];exact h3
theorem om.done {val:Int} (h:om bs out f f' x y) (hf:j8 bs f x y val):j8 bs f' x y (val+1):=
 ⟨h.le,fun S hx hy=>by rw[h.cut S,hf.cut S hx hy,hx,hy];simp[bi]⟩
theorem EU {val:Int} (hs:zk cnt bs f y out) (ok:nz cnt bs) (hf:j8 bs f x y val) (hx:out x<0):∃S:Nat->Bool,S x=true/\S y=false/\val=jj S bs:=by
 refine⟨fun v=>decide (out v<0),decide_eq_true hx,decide_eq_false (by rw[hs.first];omega),hf.full (decide_eq_true hx) (decide_eq_false (by rw[hs.first];omega)) fun i hi qF=>⟨fun h1 h2 hr=>?_,fun h1 h2 hr=>?_⟩⟩
 ·have Oh:=of_decide_eq_true h1
  have CT:=of_decide_eq_false h2
  have:=hs.shut i (cG bs i).a hi (.inl rfl) (by unfold cw;rw[if_pos rfl];omega) hr
  omega
 ·have Oh:=of_decide_eq_true h1
  have CT:=of_decide_eq_false h2
  have:=hs.shut i (cG bs i).b hi (.inr rfl) (by unfold cw;rw[if_neg qF];omega) hr
  omega
end
end Go.Proofs.YtgoelphibofcmaaGreat.V

namespace Go.Proofs.YtgoelphibofcmaaGreat.V
open Go.RowKit
attribute [local irreducible] dO wpOps gy Call
attribute [local go_sem] aT fK eS ga fZ dj upd cF K.av cP AV.cells AV.cell rowOf rowsOf part ld rowAt bL cD dG ef ik bV de ew fW fe dw ek dc db dU dV cj bl cU b4 cW cV ei eo ej cR cm dd eh bW aV cZ cI ij bx cK ck bd du bj dI AV.undef bH bS dW eb dQ dP cJ ev eE cH er ep cY da List.getD_cons_zero List.getD_cons_succ List.getD_nil List.all_cons List.all_nil Bool.and_true Bool.true_and Bool.and_self Bool.not_true Bool.not_false Option.map_some Option.map_none Option.bind_some Option.bind_none List.length_cons List.length_nil List.take_succ_cons List.take_zero List.take_nil List.drop_succ_cons List.drop_zero List.drop_nil List.head?_cons List.map_cons List.map_nil List.getElem?_cons_zero List.getElem?_cons_succ List.cons_append List.nil_append List.append_nil List.length_map List.set_cons_zero List.set_cons_succ Nat.reduceMul eq_self Int.toNat_natCast Int.natCast_nonneg and_self true_and and_true decide_true decide_false Bool.false_eq_true Nat.zero_add Nat.add_zero List.contains_cons List.contains_nil Bool.or_false Bool.false_or beq_self_eq_true Nat.reduceBEq ne_eq not_true_eq_false not_false_eq_true Id.mk.injEq false_and and_false Nat.reduceLT Int.reduceLE Int.reduceLT Int.reduceToNat Int.reduceNeg Int.reduceAdd Nat.le_refl List.length_append beq_true beq_false Bool.not_eq_eq_eq_not or_false false_or dR ae aj aI bq bG cC aY bh aW bp cQ bJ
theorem xj {bs:List PB} {f:Nat->Int} (dK:∀e,e<bs.length->0<=(cG bs e).s/\(cG bs e).s<=4) (h:∀i,i<bs.length->f i<=(cG bs i).s/\-(cG bs i).s<=f i):Small bs f:=fun e he=>by
 have:=dK e he;have:=h e he;omega
theorem re.at_ {A:Id} {lo nx v:Nat} {L:List (List Nat)} {l:List Nat} {g:Rows} (h:re A lo L g nx) (hv:L[v]? =some l) (hl:0<l.length):∃(rows:List (List AV)) (id:Id),g A=some ⟨true,1,rows⟩/\rows.length=L.length/\rows[v]? =some [.own id 0 l.length]/\g id=some ⟨true,1,l.map eN⟩/\lo<id.bQ/\id.bQ<nx:=by
 obtain⟨rows,ids,h1,h2,h3,h4⟩:=h
 have hk:v<L.length:=(List.getElem?_eq_some_iff.1 hv).1
 obtain⟨cs,ic,dy,hR,Rw⟩:=h2.at_ v hk
 rw[kU hv hk]at hR
 rcases hR with⟨h5,_⟩|⟨id,rfl,_,h6,rfl⟩
 ·subst h5;simp at hl
 ·have:=h4 id (Rw id (by simp))
  exact⟨rows,id,h1,h2.len,dy,h6,this.1,this.2⟩
theorem Og (cnt:Nat) (hn:cnt<=1048576) (bs:List PB) (ok:nz cnt bs) (qe:bs.length<=1048576) (dK:∀e,e<bs.length->0<=(cG bs e).s/\(cG bs e).s<=4) (f:Nat->Int) (x y:Nat) (hx:x<cnt) (hy:y<cnt) (R0:x≠y) (val:Int) (hf:j8 bs f x y val)
  (X A F:Id) (σ:ar) (nb:Nat) (hS:oj cnt bs f X A F σ.get nb) (s9:nb<=σ.next):
  Call Tryz.prog 238 [.ptr X 0 0,.int .i64 x,.int .i64 y] σ fun r σ'=>∃b f',r=.bool b/\oj cnt bs f' X A F σ'.get nb/\σ.next<=σ'.next/\(∀i:Id,i.bQ<nb->(i=F)=False->σ'.get i=σ.get i)/\
   (b=false->f'=f/\∃S:Nat->Bool,S x=true/\S y=false/\val=jj S bs)/\(b=true->j8 bs f' x y (val+1)):=by
 refine eQ eK rfl fun hl=>?_
 clear hl
 have C4:(x:Int)<(cnt:Int):=by omega
 have hz:∀(g:Rows),(∀i:Id,i.bQ<nb->g i=σ.get i)->dn (dR g) 6 [.ptr X 0 0,.int .i64 (y:Int)]=some [.dq (fV cnt bs f),.int .i64 y]:=fun g hg=>by
  have:=(hS.frame hg (Nat.le_refl _)).fz
  simp only[ae,aj,this,aI,Option.map_some]
 (try((repeat(revert hN;revert N;apply Pn.out));refine wk @Nat.zero_add ?_;(repeat(refine Pn.mk ?_;intro N hN))))
 refine .inr (aJ _ _ _ _ _ (fun r σ1 hq=>?_) ((F5 cnt hn bs ok qe f (xj dK hf.le) y hy).x mixed (hz _ (fun i hi=>rfl))))
 obtain⟨⟨out,rfl,O4⟩,rfl⟩:=hq
 refine hN _ _ ?_
 clear hN N
 have hox:=dX (f:=out) hx
 have tl:=dL out cnt
 by_cases kf:out x<0
 ·(try((repeat(revert hN;revert N;apply Pn.out));refine wk (tw @hox (tw @kf (tw @C4 (tw @tl @aE.eq_1)))) ?_;(repeat(refine Pn.mk ?_;intro N hN))))
  exact eX (.inl rfl) (vs:=[.bool false]) (sd @Nat.zero_add) ⟨false,f,rfl,hS.frame (fun i hi=>rfl) (Nat.le_refl _),by(try dsimp only);omega,fun i _ _=>rfl,fun _=>⟨rfl,EU O4 ok hf kf⟩,fun h=>by cases h⟩
 (try((repeat(revert hN;revert N;apply Pn.out));refine wk (tw @hox (tw @kf (tw @C4 (tw @tl @aE.eq_1)))) ?_;(repeat(refine Pn.mk ?_;intro N hN))))
 refine aZ (fun m env st=>∃(v:Nat) (f':Nat->Int),m=(out v).toNat/\v<cnt/\0<=out v/\env 8=.int .i64 (v:Int)/\om bs out f f' x v/\oj cnt bs f' X A F st.get nb/\(∀i:Id,i.bQ<nb->(i=F)=False->st.get i=σ.get i)/\σ.next<=st.next) (out x).toNat ⟨x,f,rfl,hx,by omega,by(simp only[go_sem, ↓reduceIte,Nat.reduceEqDiff,Nat.reduceAdd,Nat.reduceSub,Nat.reduceLeDiff,reduceCtorEq]),om.start hf.le,hS.frame (fun i hi=>rfl) (Nat.le_refl _),fun i _ _=>rfl,by(try dsimp only);omega⟩ ?_
 rintro m env_b st_b ⟨v,f',rfl,hv,sK,b8,hW,hN1,jz,hle⟩ fU
 have b0:=fU 0 (by kernel_rfl)
 have b2:=fU 2 (by kernel_rfl)
 have b7:=fU 7 (by kernel_rfl)
 simp only[go_sem, ↓reduceIte,Nat.reduceEqDiff,Nat.reduceAdd,Nat.reduceSub,Nat.reduceLeDiff,reduceCtorEq]at b0 b2 b7
 clear fU
 by_cases Tz:v=y
 ·have hd:decide ((v:Int)=(y:Int))=true:=decide_eq_true (by rw[Tz])
  subst Tz
  (try((repeat(revert hN;revert N;apply Pn.out));refine wk (tw @b0 (tw @b2 (tw @b7 (tw @b8 @hd)))) ?_;(repeat(refine Pn.mk ?_;intro N hN))))
  exact eX (.inl rfl) (vs:=[.bool true]) (sd @Nat.zero_add) ⟨true,f',rfl,hN1,by(try dsimp only);omega,jz,fun h=>(by cases h),fun _=>hW.done hf⟩
 have hd:decide ((v:Int)=(y:Int))=false:=decide_eq_false fun h=>Tz (by omega)
 have AP:0<out v:=by
  have:=O4.zero v hv
  rcases Int.lt_or_eq_of_le sK with h|h
  ·exact h
  ·exact absurd (this h.symm) Tz
 have Nh:=hW.goes O4 hv AP
 have hIm:∀ed∈jd bs bs.length v,ed<bs.length/\Fh bs ed v:=fun ed h=>rR.1 h
 have hIL:(lx cnt bs bs.length)[v]? =some (jd bs bs.length v):=by simp[lx,hv]
 have hIl:=rQ bs bs.length v
 generalize jd bs bs.length v=I at *
 have hIp:0<I.length:=by
  obtain⟨ed,h,_⟩:=Nh
  exact List.length_pos_of_mem h
 obtain⟨rows,id,hgA,qI,lI,hid,hid1,hid2⟩:=hN1.a.at_ hIL hIp
 rw[jA]at qI
 have hgX:=hN1.x
 have Ec:(v:Int)<(cnt:Int):=by omega
 have uC:=dX (f:=out) hv
 have nH:IntKind.i64.wrap (out v-1)=out v-1:=bI (by have:=O4.lo v hv;omega)
 have qE:(I.map eN).length=I.length:=by simp
 have H4:=xj dK hW.le
 have kO:∀(g:Rows),(∀i:Id,i.bQ<nb->g i=st_b.get i)->∀ed:Nat,dn (dR g) 6 [.ptr X 0 0,.int .i64 (v:Int),.int .i64 (ed:Int)]=some [.dq (fV cnt bs f'),.int .i64 v,.int .i64 ed]:=fun g hg ed=>by
  have:=(hN1.frame hg (Nat.le_refl _)).fz
  simp only[ae,aj,this,aI,Option.map_some]
 rw[aE]at uC
 (try((repeat(revert hN;revert N;apply Pn.out));refine wk (tw @b0 (tw @b2 (tw @b7 (tw @b8 @hd)))) ?_;(repeat(refine Pn.mk ?_;intro N hN))))
 refine aZ (fun n env st=>∃k:Nat,n=(I.length)-k/\k<=(I.length)/\env 11=.int .i64 (k:Int)/\(∃(ug Fo:Int),env 9=.int .i64 ug/\env 10=.int .i64 Fo/\((ug<0/\∀z,z<k->¬(0<fN bs f' (I.getD z 0) v/\out (cw bs (I.getD z 0) v)=out v-1))∨∃ed:Nat,ed∈I/\Fo=(ed:Int)/\ug=(cw bs ed v:Int)/\0<fN bs f' ed v/\out (cw bs ed v)=out v-1))/\((∀i:Id,st.get i=st_b.get i)/\st_b.next<=st.next)) (I.length) ⟨0,by omega,by omega,sl (tw @b0 (tw @b2 (tw @b7 @b8))),⟨-1,0,by(simp only[go_sem, ↓reduceIte,Nat.reduceEqDiff,Nat.reduceAdd,Nat.reduceSub,Nat.reduceLeDiff,reduceCtorEq]),by(simp only[go_sem, ↓reduceIte,Nat.reduceEqDiff,Nat.reduceAdd,Nat.reduceSub,Nat.reduceLeDiff,reduceCtorEq]),.inl ⟨by omega,fun z hz=>by omega⟩⟩,⟨fun i=>rfl,by(try dsimp only);omega⟩⟩ ?_
 rintro n_c env_c st_c ⟨k,rfl,cle,nR,cI0,cI1⟩ cfr
 have c0:=cfr 0 (by kernel_rfl);have c2:=cfr 2 (by kernel_rfl);have c7:=cfr 7 (by kernel_rfl);have c8:=cfr 8 (by kernel_rfl)
 simp only[go_sem, ↓reduceIte,Nat.reduceEqDiff,Nat.reduceAdd,Nat.reduceSub,Nat.reduceLeDiff,reduceCtorEq,b0,b2,b7,b8]at c0 c2 c7 c8
 clear cfr
 obtain⟨ug,Fo,c9,jG,Jd⟩:=cI0
 obtain⟨mi,Ta⟩:=cI1
 have DU:=(mi X).trans hgX
 have DT:=(mi A).trans hgA
 have zM:=(mi id).trans hid
 by_cases hk:(k:Int)<(I.length:Int)
 ·have iv:∀{e:Env} {gg:Rows} {nx:Nat},(e 11=.int .i64 (IntKind.i64.wrap ((k:Int)+1)))->(∃(ug Fo:Int),e 9=.int .i64 ug/\e 10=.int .i64 Fo/\((ug<0/\∀z,z<(k+1)->¬(0<fN bs f' (I.getD z 0) v/\out (cw bs (I.getD z 0) v)=out v-1))∨∃ed:Nat,ed∈I/\Fo=(ed:Int)/\ug=(cw bs ed v:Int)/\0<fN bs f' ed v/\out (cw bs ed v)=out v-1))->((∀i:Id,gg i=st_b.get i)/\st_b.next<=nx)->∃m0,m0<(I.length)-k/\∃k:Nat,m0=(I.length)-k/\k<=(I.length)/\e 11=.int .i64 (k:Int)/\(∃(ug Fo:Int),e 9=.int .i64 ug/\e 10=.int .i64 Fo/\((ug<0/\∀z,z<k->¬(0<fN bs f' (I.getD z 0) v/\out (cw bs (I.getD z 0) v)=out v-1))∨∃ed:Nat,ed∈I/\Fo=(ed:Int)/\ug=(cw bs ed v:Int)/\0<fN bs f' ed v/\out (cw bs ed v)=out v-1))/\((∀i:Id,gg i=st_b.get i)/\st_b.next<=nx):=fun x1 x2 x3=>⟨_,by omega,k+1,rfl,by omega,(by rw[x1,aA (by omega)]),x2,x3⟩
  have fM:k<I.length:=by omega
  have e9:(I.map eN)[k]? =some (eN (I.getD k 0)):=getD_map eN fM
  have s8:I.getD k 0∈I:=by rw[List.getD_eq_getElem?_getD,List.getElem?_eq_getElem fM];exact List.getElem_mem fM
  obtain⟨he,pV⟩:=hIm _ s8
  have O2:=Ko cnt bs f' H4 (I.getD k 0) v he
  have tZ:=kO st_c.get (fun i _=>mi i) (I.getD k 0)
  have hq:=oV ok (v:=v) he
  have Qy:=dX (f:=out) hq
  obtain⟨ed,hed⟩:∃ed,ed=I.getD k 0:=⟨_,rfl⟩
  rw[<-hed]at e9 he pV O2 tZ hq Qy s8
  rw[aE]at Qy
  rw[eN]at e9
  (try((repeat(revert hN;revert N;apply Pn.out));refine wk (tw @nR (tw @c0 (tw @c2 (tw @c7 (tw @c8 (tw @c9 (tw @jG (tw @hk (tw @DU (tw @DT (tw @zM (tw @lI (tw @qI (tw @Ec (tw @e9 (tw @qE @bK.eq_1)))))))))))))))) ?_;(repeat(refine Pn.mk ?_;intro N hN))))
  refine .inl ⟨_,aq.x O2 tZ,?_⟩
  refine hN _ _ ?_
  clear hN N
  have stay:∀k',k'=k+1->(¬(0<fN bs f' ed v/\out (cw bs ed v)=out v-1))->((ug<0/\∀z,z<k'->¬(0<fN bs f' (I.getD z 0) v/\out (cw bs (I.getD z 0) v)=out v-1))∨∃ed:Nat,ed∈I/\Fo=(ed:Int)/\ug=(cw bs ed v:Int)/\0<fN bs f' ed v/\out (cw bs ed v)=out v-1):=fun k' GN kg=>by
   rcases Jd with⟨h1,h2⟩|h
   ·refine .inl ⟨h1,fun z hz=>?_⟩
    by_cases Ee:z=k
    ·subst Ee;rw[<-hed];exact kg
    ·exact h2 z (by omega)
   ·exact .inr h
  by_cases hr:0<fN bs f' ed v
  ·by_cases K5:out (cw bs ed v)=out v-1
   ·have me:decide (out (cw bs ed v)=out v-1)=true:=decide_eq_true K5
    have found:∃Q0:Nat,Q0∈I/\(ed:Int)=(Q0:Int)/\(cw bs ed v:Int)=(cw bs Q0 v:Int)/\0<fN bs f' Q0 v/\out (cw bs Q0 v)=out v-1:=⟨ed,s8,rfl,rfl,hr,K5⟩
    by_cases H3:ug<0
    ·(try((repeat(revert hN;revert N;apply Pn.out));refine wk (tw @nR (tw @c0 (tw @c2 (tw @c7 (tw @c8 (tw @c9 (tw @jG (tw @hk (tw @DU (tw @DT (tw @zM (tw @lI (tw @qI (tw @Ec (tw @e9 (tw @qE (tw @hr (tw @Qy (tw @uC (tw @nH (tw @me (tw @H3 @bK.eq_1)))))))))))))))))))))) ?_;(repeat(refine Pn.mk ?_;intro N hN))))
     exact iv (sd (tw @nR (tw @c0 (tw @c2 (tw @c7 @c8))))) (⟨_,_,sd @Nat.zero_add,sd @Nat.zero_add,.inr found⟩) (⟨mi,by(try dsimp only);omega⟩)
    ·by_cases dZ:(cw bs ed v:Int)<ug
     ·(try((repeat(revert hN;revert N;apply Pn.out));refine wk (tw @nR (tw @c0 (tw @c2 (tw @c7 (tw @c8 (tw @c9 (tw @jG (tw @hk (tw @DU (tw @DT (tw @zM (tw @lI (tw @qI (tw @Ec (tw @e9 (tw @qE (tw @hr (tw @Qy (tw @uC (tw @nH (tw @me (tw @H3 (tw @dZ @bK.eq_1))))))))))))))))))))))) ?_;(repeat(refine Pn.mk ?_;intro N hN))))
      exact iv (sd (tw @nR (tw @c0 (tw @c2 (tw @c7 @c8))))) (⟨_,_,sd @Nat.zero_add,sd @Nat.zero_add,.inr found⟩) (⟨mi,by(try dsimp only);omega⟩)
     ·(try((repeat(revert hN;revert N;apply Pn.out));refine wk (tw @nR (tw @c0 (tw @c2 (tw @c7 (tw @c8 (tw @c9 (tw @jG (tw @hk (tw @DU (tw @DT (tw @zM (tw @lI (tw @qI (tw @Ec (tw @e9 (tw @qE (tw @hr (tw @Qy (tw @uC (tw @nH (tw @me (tw @H3 (tw @dZ @bK.eq_1))))))))))))))))))))))) ?_;(repeat(refine Pn.mk ?_;intro N hN))))
      exact iv (sd (tw @nR (tw @c0 (tw @c2 (tw @c7 @c8))))) (⟨ug,Fo,sd @c9,sd @jG,by
       rcases Jd with⟨h1,_⟩|h
       ·exact absurd h1 H3
       ·exact .inr h⟩) (⟨mi,by(try dsimp only);omega⟩)
   ·have me:decide (out (cw bs ed v)=out v-1)=false:=decide_eq_false K5
    (try((repeat(revert hN;revert N;apply Pn.out));refine wk (tw @nR (tw @c0 (tw @c2 (tw @c7 (tw @c8 (tw @c9 (tw @jG (tw @hk (tw @DU (tw @DT (tw @zM (tw @lI (tw @qI (tw @Ec (tw @e9 (tw @qE (tw @hr (tw @Qy (tw @uC (tw @nH (tw @me @bK.eq_1))))))))))))))))))))) ?_;(repeat(refine Pn.mk ?_;intro N hN))))
    exact iv (sd (tw @nR (tw @c0 (tw @c2 (tw @c7 @c8))))) (⟨ug,Fo,sd @c9,sd @jG,stay _ rfl fun h=>K5 h.2⟩) (⟨mi,by(try dsimp only);omega⟩)
  ·(try((repeat(revert hN;revert N;apply Pn.out));refine wk (tw @nR (tw @c0 (tw @c2 (tw @c7 (tw @c8 (tw @c9 (tw @jG (tw @hk (tw @DU (tw @DT (tw @zM (tw @lI (tw @qI (tw @Ec (tw @e9 (tw @qE (tw @hr @bK.eq_1))))))))))))))))) ?_;(repeat(refine Pn.mk ?_;intro N hN))))
   exact iv (sd (tw @nR (tw @c0 (tw @c2 (tw @c7 @c8))))) (⟨ug,Fo,sd @c9,sd @jG,stay _ rfl fun h=>hr h.1⟩) (⟨mi,by(try dsimp only);omega⟩)
 ·have l6:k=I.length:=by omega
  have UU:∃ed:Nat,ed∈I/\Fo=(ed:Int)/\ug=(cw bs ed v:Int)/\0<fN bs f' ed v/\out (cw bs ed v)=out v-1:=by
   rcases Jd with⟨h1,h2⟩|h
   ·exfalso
    obtain⟨ed,he,hq⟩:=Nh
    obtain⟨z,hz,rfl⟩:=List.getElem_of_mem he
    refine h2 z (by omega) ?_
    rw[List.getD_eq_getElem?_getD,List.getElem?_eq_getElem hz];exact hq
   ·exact h
  obtain⟨ed,s8,rfl,rfl,hr,K5⟩:=UU
  obtain⟨he,pV⟩:=hIm _ s8
  (try((repeat(revert hN;revert N;apply Pn.out));refine wk (tw @nR (tw @c0 (tw @c2 (tw @c7 (tw @c8 (tw @c9 (tw @jG (tw @hk (tw @DU (tw @DT (tw @zM (tw @lI (tw @qI (tw @Ec (tw @qE @bK.eq_1))))))))))))))) ?_;(repeat(refine Pn.mk ?_;intro N hN))))
  refine .inr (aJ _ _ _ _ _ (fun r σ1 hq=>?_) (Pt cnt bs f' H4 ed v he X A F ⟨st_c.get,_⟩ nb (hN1.frame (fun i _=>mi i) (Nat.le_refl _)) (by(try dsimp only);omega)))
  obtain⟨S3,nh,DR⟩:=hq
  (try dsimp only at nh DR)
  refine hN _ _ ?_
  clear hN N
  (try((repeat(revert hN;revert N;apply Pn.out));refine wk (tw @nR (tw @c0 (tw @c2 (tw @c7 (tw @c8 @c9))))) ?_;(repeat(refine Pn.mk ?_;intro N hN))))
  refine⟨_,?_,cw bs ed v,uh bs f' ed v,rfl,oV ok he,by omega,sd @Nat.zero_add,hW.step he pV hr K5,S3,fun i hi hF=>by rw[DR i hF,mi i,jz i hi hF],by(try dsimp only);omega⟩
  omega
end Go.Proofs.YtgoelphibofcmaaGreat.V

namespace Go.Proofs.YtgoelphibofcmaaGreat.V
open Go.RowKit
attribute [local irreducible] dO wpOps gy Call
attribute [local go_sem] aT fK eS ga fZ dj upd cF K.av cP AV.cells AV.cell rowOf rowsOf part ld rowAt bL cD dG ef ik bV de ew fW fe dw ek dc db dU dV cj bl cU b4 cW cV ei eo ej cR cm dd eh bW aV cZ cI ij bx cK ck bd du bj dI AV.undef bH bS dW eb dQ dP cJ ev eE cH er ep cY da List.getD_cons_zero List.getD_cons_succ List.getD_nil List.all_cons List.all_nil Bool.and_true Bool.true_and Bool.and_self Bool.not_true Bool.not_false Option.map_some Option.map_none Option.bind_some Option.bind_none List.length_cons List.length_nil List.take_succ_cons List.take_zero List.take_nil List.drop_succ_cons List.drop_zero List.drop_nil List.head?_cons List.map_cons List.map_nil List.getElem?_cons_zero List.getElem?_cons_succ List.cons_append List.nil_append List.append_nil List.length_map List.set_cons_zero List.set_cons_succ Nat.reduceMul eq_self Int.toNat_natCast Int.natCast_nonneg and_self true_and and_true decide_true decide_false Bool.false_eq_true Nat.zero_add Nat.add_zero List.contains_cons List.contains_nil Bool.or_false Bool.false_or beq_self_eq_true Nat.reduceBEq ne_eq not_true_eq_false not_false_eq_true Id.mk.injEq false_and and_false Nat.reduceLT Int.reduceLE Int.reduceLT Int.reduceToNat Int.reduceNeg Int.reduceAdd Nat.le_refl List.length_append beq_true beq_false Bool.not_eq_eq_eq_not or_false false_or dR ae aj aI bq bG cC aY bh aW bp cQ bJ
def tK (P:Program) (f:Nat) (args:List AV) (R:AV->Prop):Prop:=∀σ:ar,Call P f args ⟨V.ro σ.get,σ.next⟩ fun r0 σ'=>∃r',V.fz σ'.get 6 r0=some r'/\R r'
theorem DI {P:Program} {f:Nat} {args:List AV} {g:Rows} {n:Nat} {R:AV->Prop} (h:Sound P f args ⟨V.ro g,n⟩ fun r0 σ'=>∃r',V.fz σ'.get 6 r0=some r'/\R r'):Sound P f args ⟨g,n⟩ fun r σ'=>R r/\σ'=⟨g,n⟩:=by
 intro hs D ι w vs S U A
 refine(AU (g0:=g) (K:=R) h (fun _ _ h=>h) S U A).mono ?_
 rintro e w' ⟨r,D',u,rfl,hR,T,S',hr⟩
 exact⟨r,g,n,D',ι,u,rfl,⟨hR,rfl⟩,T,S',U,Nat.le_refl _,hr⟩
theorem tK.x {P:Program} (hm:P.follows .mixedOrders=true) {f:Nat} {args:List AV} {R:AV->Prop} (h:tK P f args R) {σ:ar}:Call P f args σ fun r σ'=>R r/\σ'=σ:=
 gU (DI (gC hm (h σ)))
theorem tK.body {P:Program} {f:Nat} {args:List AV} {R:AV->Prop} {nt na:Nat} {body:VC} {res:List nO} (hf:lR P f=some ⟨nt,na,body,res⟩) (ha:na=args.length) (h:(∀a∈args,eL a)->∀σ:ar,dO (Call P) body (kI res fun r0 σ'=>∃r',V.fz σ'.get 6 r0=some r'/\R r') (cF args) ⟨V.ro σ.get,σ.next⟩):tK P f args R:=fun σ=>l8 hf ha fun hl=>h hl σ
theorem Mi {g:Rows} {rows:List (List AV)} {xs:List (List Nat)} {ids:List Id} (n:Nat) (h:eM Qb g rows xs ids):eC g (n+2) rows=some (xs.map fun l=>[PF l]):=by
 induction h with
 |nil=>rw[eC];rfl
 |cons h1 _ ih=>
  rename_i x _ _ _ _ _
  rcases h1 with⟨h0,h1,_⟩|⟨id,h1,h0,h2,_⟩
  ·subst h0 h1;rw[eC,ih,ae,aj,aY];rfl
  ·have gP:x≠[]:=by rintro rfl;simp at h0
   subst h1
   rw[eC,ih,ae,aj,gY (e:=eN) (sz:=1) h2 rfl fun a=>fzN _ n a]
   simp[PF,gP]
theorem oj.fz0 {cnt:Nat} {bs:List PB} {f:Nat->Int} {X A F:Id} {g:Rows} {nx:Nat} (h:oj cnt bs f X A F g nx):V.fz g 5 (.ptr X 0 0)=some (.dq (fV cnt bs f)):=by
 have hf:V.fz g 4 (.own F 0 bs.length)=some (.sl (ee f bs.length)):=by
  rw[iG]
  simp only[h.f,if_true]
  rw[if_pos (by rw[dL];omega),List.drop_zero,List.take_of_length_le (by rw[dL];omega),Au];rfl
 have ha:V.fz g 4 (.own A 0 cnt)=some (.sl (qk cnt bs bs.length)):=by
  obtain⟨rows,ids,h1,h2,_,_⟩:=h.a
  have hl:=h2.len
  rw[jA]at hl
  rw[iG]
  simp only[h1,if_true]
  rw[if_pos (by omega),List.drop_zero,List.take_of_length_le (by omega),Mi 1 h2]
  simp[lx,qk]
 rw[bp]
 simp only[h.x,if_true,List.getElem?_cons_zero,List.drop_zero,bK,ae,aj,aI,cC,ha,hf,Option.map_some,fV]
theorem Fp {S:Nat->Bool}:∀bs:List PB,(∀b∈bs,b.s<=4)->jj S bs<=4*bs.length
 |[],_=>by simp[jj]
 |b::bs,h=>by
  rw[sW]
  have:=Fp (S:=S) bs fun x hx=>h x (List.mem_cons_of_mem _ hx)
  have:=h b (by simp)
  simp only[List.length_cons]
  split<;>omega
theorem j8.zero {bs:List PB} {x y:Nat} (h:∀e,e<bs.length->0<=(cG bs e).s/\(cG bs e).s<=4):j8 bs (fun _=>0) x y 0:=
 ⟨fun i hi=>by have:=h i hi;omega,fun S _ _=>jZ fun i _=>by simp⟩
theorem Lo {bs:List PB} {b:PB} (h:b∈bs):∃e,e<bs.length/\cG bs e=b:=by
 obtain⟨e,he,rfl⟩:=List.getElem_of_mem h
 exact⟨e,he,by simp[cG,List.getD_eq_getElem?_getD,he]⟩
theorem G4 (cnt:Nat) (hn:cnt<=1048576) (bs:List PB) (ok:nz cnt bs) (qe:bs.length<=1048576) (dK:∀e,e<bs.length->0<=(cG bs e).s/\(cG bs e).s<=4) (x y:Nat) (hx:x<cnt) (hy:y<cnt) (R0:x≠y):
  tK Tryz.prog 218 [.int .i64 cnt,.sl (bs.map aB),.int .i64 x,.int .i64 y] fun r=>∃f val,r=.gE [.dq (fV cnt bs f),.int .i64 val]/\j8 bs f x y val/\∃S:Nat->Bool,S x=true/\S y=false/\val=jj S bs:=by
 refine tK.body eK rfl fun hl σ=>?_
 clear hl
 (try((repeat(revert hN;revert N;apply Pn.out));refine wk @Nat.zero_add ?_;(repeat(refine Pn.mk ?_;intro N hN))))
 refine .inr (aJ _ _ _ _ _ (fun r σ1 hq=>?_) (JG cnt hn bs ok qe _))
 obtain⟨X,A,F,rfl,hX,hS⟩:=hq
 refine hN _ _ ?_
 clear hN N
 have hS0:∀f val,j8 bs f x y val->val<=jj (fun v=>decide (v=x)) bs:=fun f val hf=>hf.bound (decide_eq_true rfl) (decide_eq_false fun h=>R0 h.symm)
 have htot:=Fp (S:=fun v=>decide (v=x)) bs fun b hb=>by
  obtain⟨e,he,rfl⟩:=Lo hb
  exact(dK e he).2
 generalize jj (fun v=>decide (v=x)) bs=T at *
 (try((repeat(revert hN;revert N;apply Pn.out));refine wk @Nat.zero_add ?_;(repeat(refine Pn.mk ?_;intro N hN))))
 refine aZ (fun m env st=>∃(f:Nat->Int) (val:Int),m=(T-val).toNat/\0<=val/\env 10=.ptr X 0 0/\env 11=.int .i64 val/\j8 bs f x y val/\oj cnt bs f X A F st.get σ1.next/\σ1.next<=st.next) T.toNat ⟨_,0,by simp,by omega,by(simp only[go_sem, ↓reduceIte,Nat.reduceEqDiff,Nat.reduceAdd,Nat.reduceSub,Nat.reduceLeDiff,reduceCtorEq]),by(simp only[go_sem, ↓reduceIte,Nat.reduceEqDiff,Nat.reduceAdd,Nat.reduceSub,Nat.reduceLeDiff,reduceCtorEq]),j8.zero dK,hS.frame (fun i hi=>rfl) (Nat.le_refl _),by(try dsimp only);omega⟩ ?_
 rintro m env_b st_b ⟨f,val,rfl,sK,nB,b11,hf,hN1,hle⟩ fU
 have b2:=fU 2 (by kernel_rfl)
 have b3:=fU 3 (by kernel_rfl)
 simp only[go_sem, ↓reduceIte,Nat.reduceEqDiff,Nat.reduceAdd,Nat.reduceSub,Nat.reduceLeDiff,reduceCtorEq]at b2 b3
 clear fU
 (try((repeat(revert hN;revert N;apply Pn.out));refine wk (tw @b2 (tw @b3 @nB)) ?_;(repeat(refine Pn.mk ?_;intro N hN))))
 refine .inr (aJ _ _ _ _ _ (fun r σ2 hq=>?_) (Og cnt hn bs ok qe dK f x y hx hy R0 val hf X A F ⟨st_b.get,_⟩ σ1.next hN1 (by(try dsimp only);omega)))
 obtain⟨b,f',rfl,S3,nh,_,kg,VD⟩:=hq
 (try dsimp only at nh)
 refine hN _ _ ?_
 clear hN N
 cases b with
 |true=>
  have kG:=VD rfl
  have K2:=hS0 _ _ hf
  have GJ:=hS0 _ _ kG
  have hw:IntKind.i64.wrap (val+1)=val+1:=bI (by omega)
  (try((repeat(revert hN;revert N;apply Pn.out));refine wk (tw @nB (tw @b11 @hw)) ?_;(repeat(refine Pn.mk ?_;intro N hN))))
  exact⟨_,by omega,f',val+1,rfl,by omega,sd @nB,sd (tw @b11 @hw),kG,S3,by(try dsimp only);omega⟩
 |false=>
  obtain⟨rfl,S,h1,h2,h3⟩:=kg rfl
  (try((repeat(revert hN;revert N;apply Pn.out));refine wk (tw @nB @b11) ?_;(repeat(refine Pn.mk ?_;intro N hN))))
  have hz:=S3.fz0
  exact⟨[.ptr X 0 0,.int .i64 val],sd @Nat.zero_add,.gE [.dq (fV cnt bs f'),.int .i64 val],by simp only[eY,bJ,ae,aj,hz,aI,Option.map_some],f',val,rfl,hf,S,h1,h2,h3⟩
theorem G5 (cnt:Nat) (hn:cnt<=1048576) (bs:List PB) (ok:nz cnt bs) (qe:bs.length<=1048576) (f:Nat->Int) (hs:Small bs f) (y:Nat) (hy:y<cnt):
  l7 Tryz.prog 219 [.dq (fV cnt bs f),.int .i64 y] fun r=>∃l:List Nat,r=.sl (l.map eN)/\l.length<=cnt:=by
 refine l7.body eK rfl fun hl n0=>?_
 clear hl
 have hz:∀g:Rows,dn (dR g) 6 [.dq (fV cnt bs f),.int .i64 (y:Int)]=some [.dq (fV cnt bs f),.int .i64 y]:=fun g=>by simp only[ae,aj,aW,aI,Option.map_some]
 (try((repeat(revert hN;revert N;apply Pn.out));refine wk @Nat.zero_add ?_;(repeat(refine Pn.mk ?_;intro N hN))))
 refine .inr (aJ _ _ _ _ _ (fun r σ1 hq=>?_) ((F5 cnt hn bs ok qe f hs y hy).x mixed (hz _)))
 obtain⟨⟨out,rfl,O4⟩,rfl⟩:=hq
 refine hN _ _ ?_
 clear hN N
 (try((repeat(revert hN;revert N;apply Pn.out));refine wk @fV.eq_1 ?_;(repeat(refine Pn.mk ?_;intro N hN))))
 refine aZ (fun n env st=>∃k:Nat,n=(cnt)-k/\k<=(cnt)/\env 7=.int .i64 (k:Int)/\(∃(o:Id) (l:List Nat),env 6=.own o 0 l.length/\st.get o=some ⟨true,1,l.map eN⟩/\o.bQ<st.next/\l.length<=k)) (cnt) ⟨0,by omega,by omega,sl @fV.eq_1,⟨⟨219002000,n0+1+1+1⟩,[],by(simp only[go_sem, ↓reduceIte,Nat.reduceEqDiff,Nat.reduceAdd,Nat.reduceSub,Nat.reduceLeDiff,reduceCtorEq])<;>rfl,by(simp only[go_sem, ↓reduceIte,Nat.reduceEqDiff,Nat.reduceAdd,Nat.reduceSub,Nat.reduceLeDiff,reduceCtorEq])<;>rfl,by(try dsimp only);omega,by simp⟩⟩ ?_
 rintro n_a env_a st_a ⟨k,rfl,ale,a7,j4⟩ dx
 have a0:=dx 0 (by kernel_rfl);have a5:=dx 5 (by kernel_rfl)
 simp only[go_sem, ↓reduceIte,Nat.reduceEqDiff,Nat.reduceAdd,Nat.reduceSub,Nat.reduceLeDiff,reduceCtorEq,fV]at a0 a5
 clear dx
 obtain⟨o,l,a6,ag,uC,FE⟩:=j4
 have sK:=dr uC
 have ke:(l.map eN).length=l.length:=by simp
 by_cases hk:(k:Int)<(cnt:Int)
 ·have cz:∀{e:Env} {gg:Rows} {nx:Nat},(e 7=.int .i64 (IntKind.i64.wrap ((k:Int)+1)))->(∃(o:Id) (l:List Nat),e 6=.own o 0 l.length/\gg o=some ⟨true,1,l.map eN⟩/\o.bQ<nx/\l.length<=(k+1))->∃m0,m0<(cnt)-k/\∃k:Nat,m0=(cnt)-k/\k<=(cnt)/\e 7=.int .i64 (k:Int)/\(∃(o:Id) (l:List Nat),e 6=.own o 0 l.length/\gg o=some ⟨true,1,l.map eN⟩/\o.bQ<nx/\l.length<=k):=fun x1 x2=>⟨_,by omega,k+1,rfl,by omega,(by rw[x1,aA (by omega)]),x2⟩
  have wK:=dX (f:=out) (show k<cnt by omega)
  rw[aE]at wK
  have e1:l.length+1<=16777216:=by omega
  by_cases h0:0<=out k
  ·(try((repeat(revert hN;revert N;apply Pn.out));refine wk (tw @a7 (tw @a0 (tw @a5 (tw @a6 (tw @ag (tw @sK (tw @hk (tw @wK (tw @h0 (tw @e1 (tw @ke @fV.eq_1))))))))))) ?_;(repeat(refine Pn.mk ?_;intro N hN))))
   exact cz (sd (tw @a7 (tw @a0 (tw @a5 @fV.eq_1)))) (⟨⟨219007003,st_a.next+1+1⟩,l++[k],by rw[List.length_append];simp only[go_sem, ↓reduceIte,Nat.reduceEqDiff,Nat.reduceAdd,Nat.reduceSub,Nat.reduceLeDiff,reduceCtorEq,List.length_cons,List.length_nil],by rw[List.map_append,List.map_cons,List.map_nil];simp only[go_sem, ↓reduceIte,Nat.reduceEqDiff,Nat.reduceAdd,Nat.reduceSub,Nat.reduceLeDiff,reduceCtorEq,eN],by(try dsimp only);omega,by simp;omega⟩)
  ·(try((repeat(revert hN;revert N;apply Pn.out));refine wk (tw @a7 (tw @a0 (tw @a5 (tw @a6 (tw @ag (tw @sK (tw @hk (tw @wK (tw @h0 (tw @ke @fV.eq_1)))))))))) ?_;(repeat(refine Pn.mk ?_;intro N hN))))
   exact cz (sd (tw @a7 (tw @a0 (tw @a5 @fV.eq_1)))) (⟨o,l,sd @a6,sd @ag,by(try dsimp only);omega,by omega⟩)
 ·(try((repeat(revert hN;revert N;apply Pn.out));refine wk (tw @a7 (tw @a0 (tw @a5 (tw @a6 (tw @hk @fV.eq_1))))) ?_;(repeat(refine Pn.mk ?_;intro N hN))))
  have s6:gG st_a.get 6 (.own o 0 l.length)=some (.sl (l.map eN)):=fw ag rfl fun b=>Od _ 4 b
  exact⟨_,rfl,_,by simp only[go_sem, ↓reduceIte,Nat.reduceEqDiff,Nat.reduceAdd,Nat.reduceSub,Nat.reduceLeDiff,reduceCtorEq,eY];exact s6,l,rfl,by omega⟩
end Go.Proofs.YtgoelphibofcmaaGreat.V

namespace Go.Proofs.YtgoelphibofcmaaGreat.V
open Go.RowKit
attribute [local irreducible] dO wpOps gy Call
attribute [local go_sem] aT fK eS ga fZ dj upd cF K.av cP AV.cells AV.cell rowOf rowsOf part ld rowAt bL cD dG ef ik bV de ew fW fe dw ek dc db dU dV cj bl cU b4 cW cV ei eo ej cR cm dd eh bW aV cZ cI ij bx cK ck bd du bj dI AV.undef bH bS dW eb dQ dP cJ ev eE cH er ep cY da List.getD_cons_zero List.getD_cons_succ List.getD_nil List.all_cons List.all_nil Bool.and_true Bool.true_and Bool.and_self Bool.not_true Bool.not_false Option.map_some Option.map_none Option.bind_some Option.bind_none List.length_cons List.length_nil List.take_succ_cons List.take_zero List.take_nil List.drop_succ_cons List.drop_zero List.drop_nil List.head?_cons List.map_cons List.map_nil List.getElem?_cons_zero List.getElem?_cons_succ List.cons_append List.nil_append List.append_nil List.length_map List.set_cons_zero List.set_cons_succ Nat.reduceMul eq_self Int.toNat_natCast Int.natCast_nonneg and_self true_and and_true decide_true decide_false Bool.false_eq_true Nat.zero_add Nat.add_zero List.contains_cons List.contains_nil Bool.or_false Bool.false_or beq_self_eq_true Nat.reduceBEq ne_eq not_true_eq_false not_false_eq_true Id.mk.injEq false_and and_false Nat.reduceLT Int.reduceLE Int.reduceLT Int.reduceToNat Int.reduceNeg Int.reduceAdd Nat.le_refl List.length_append beq_true beq_false Bool.not_eq_eq_eq_not or_false false_or dR ae aj aI bq bG cC aY bh aW bp cQ bJ
theorem B7 (v1 v2:Int) (l1 l2:List Nat) (h1:l1.length<=1048576) (h2:l2.length<=1048576):
  l7 Tryz.prog 220 [.int .i64 v1,.sl (l1.map eN),.int .i64 v2,.sl (l2.map eN)] fun r=>∃b,r=.bool b/\(v1<v2->b=true)/\(v2<v1->b=false):=by
 refine l7.body eK rfl fun hl n0=>?_
 clear hl
 have ret:∀{t:Nat} {env:Env} {σ:ar} {b:Bool} {x:Ex},(x=.ret∨x=.normal)->env t=.bool b->((v1<v2->b=true)/\(v2<v1->b=false))->kI [.tmp t] (fun r0 σ'=>∃r',gG σ'.get 6 r0=some r'/\∃b,r'=.bool b/\(v1<v2->b=true)/\(v2<v1->b=false)) x env σ:=by
  intro t env σ b x hx he hb
  have:∃vs,fx env σ.get [.tmp t]=some vs/\∃r',gG σ.get 6 (eY vs)=some r'/\∃b,r'=.bool b/\(v1<v2->b=true)/\(v2<v1->b=false):=⟨[env t],rfl,.bool b,by rw[he];exact fR _ _ _,b,rfl,hb⟩
  rcases hx with rfl|rfl
  ·exact this
  ·exact this
 have m1:(l1.map eN).length=l1.length:=by simp
 have m2:(l2.map eN).length=l2.length:=by simp
 by_cases hv:v1=v2
 ·have hd:decide (v1=v2)=true:=decide_eq_true hv
  by_cases FE:(l1.length:Int)=(l2.length:Int)
  ·have me:decide ((l1.length:Int)=(l2.length:Int))=true:=decide_eq_true FE
   have Rn:decide (l1.length=l2.length)=true:=decide_eq_true (by omega)
   (try((repeat(revert hN;revert N;apply Pn.out));refine wk (tw @hd (tw @me (tw @Rn (tw @m1 @m2)))) ?_;(repeat(refine Pn.mk ?_;intro N hN))))
   refine aZ (fun n env st=>∃k:Nat,n=(l1.length)-k/\k<=(l1.length)/\env 9=.int .i64 (k:Int)) (l1.length) ⟨0,by omega,by omega,sl @Nat.zero_add⟩ ?_
   rintro n_a env_a st_a ⟨k,rfl,ale,a9⟩ dx
   have a1:=dx 1 (by kernel_rfl);have a3:=dx 3 (by kernel_rfl)
   simp only[go_sem, ↓reduceIte,Nat.reduceEqDiff,Nat.reduceAdd,Nat.reduceSub,Nat.reduceLeDiff,reduceCtorEq]at a1 a3
   clear dx
   by_cases hk:(k:Int)<(l1.length:Int)
   ·have cz:∀{e:Env},(e 9=.int .i64 (IntKind.i64.wrap ((k:Int)+1)))->∃m0,m0<(l1.length)-k/\∃k:Nat,m0=(l1.length)-k/\k<=(l1.length)/\e 9=.int .i64 (k:Int):=fun x1=>⟨_,by omega,k+1,rfl,by omega,(by rw[x1,aA (by omega)])⟩
    have g1:(l1.map eN)[k]? =some (eN (l1.getD k 0)):=getD_map eN (by omega)
    have g2:(l2.map eN)[k]? =some (eN (l2.getD k 0)):=getD_map eN (by omega)
    rw[eN]at g1 g2
    by_cases he:((l1.getD k 0:Nat):Int)=((l2.getD k 0:Nat):Int)
    ·have CW:decide (((l1.getD k 0:Nat):Int)=((l2.getD k 0:Nat):Int))=true:=decide_eq_true he
     have OD:decide (l1.getD k 0=l2.getD k 0)=true:=decide_eq_true (by omega)
     (try((repeat(revert hN;revert N;apply Pn.out));refine wk (tw @a9 (tw @a1 (tw @a3 (tw @hk (tw @m1 (tw @g1 (tw @g2 (tw @CW @OD)))))))) ?_;(repeat(refine Pn.mk ?_;intro N hN))))
     exact cz (sd (tw @a9 (tw @a1 @a3)))
    ·have CW:decide (((l1.getD k 0:Nat):Int)=((l2.getD k 0:Nat):Int))=false:=decide_eq_false he
     have OD:decide (l1.getD k 0=l2.getD k 0)=false:=decide_eq_false (by omega)
     (try((repeat(revert hN;revert N;apply Pn.out));refine wk (tw @a9 (tw @a1 (tw @a3 (tw @hk (tw @m1 (tw @g1 (tw @g2 (tw @CW @OD)))))))) ?_;(repeat(refine Pn.mk ?_;intro N hN))))
     exact ret (.inl rfl) (by simp only[go_sem, ↓reduceIte,Nat.reduceEqDiff,Nat.reduceAdd,Nat.reduceSub,Nat.reduceLeDiff,reduceCtorEq];rfl) ⟨fun h=>by omega,fun h=>by omega⟩
   ·(try((repeat(revert hN;revert N;apply Pn.out));refine wk (tw @a9 (tw @a1 (tw @a3 (tw @hk @m1)))) ?_;(repeat(refine Pn.mk ?_;intro N hN))))
    exact ret (b:=false) (.inl rfl) (sd @Nat.zero_add) ⟨fun h=>by omega,fun h=>by omega⟩
  ·have me:decide ((l1.length:Int)=(l2.length:Int))=false:=decide_eq_false FE
   have Rn:decide (l1.length=l2.length)=false:=decide_eq_false (by omega)
   (try((repeat(revert hN;revert N;apply Pn.out));refine wk (tw @hd (tw @me (tw @Rn (tw @m1 @m2)))) ?_;(repeat(refine Pn.mk ?_;intro N hN))))
   exact ret (.inl rfl) (by simp only[go_sem, ↓reduceIte,Nat.reduceEqDiff,Nat.reduceAdd,Nat.reduceSub,Nat.reduceLeDiff,reduceCtorEq];rfl) ⟨fun h=>by omega,fun h=>by omega⟩
 ·have hd:decide (v1=v2)=false:=decide_eq_false hv
  (try((repeat(revert hN;revert N;apply Pn.out));refine wk @hd ?_;(repeat(refine Pn.mk ?_;intro N hN))))
  exact ret (b:=decide (v1<v2)) (.inl rfl) (sd @Nat.zero_add) ⟨fun h=>decide_eq_true h,fun h=>decide_eq_false (by omega)⟩
def vn (bs:List PB) (cnt:Nat) (jt:Int) (k:Nat):Prop:=(k=1/\jt= -1)∨(0<=jt/\(∀z,1<=z->z<k->∀S:Nat->Bool,S 0=true->S z=false->jt<=jj S bs)/\∃S:Nat->Bool,S 0=true/\(∃z,z<cnt/\S z=false)/\jt=jj S bs)
theorem j8.nn {bs:List PB} {val:Int} {S:Nat->Bool} (dK:∀e,e<bs.length->0<=(cG bs e).s/\(cG bs e).s<=4) (h:val=jj S bs):0<=val:=by
 rw[h,v7]
 have:=sq (f:=fun _=>0) (g:=fun i=>if S (cG bs i).a=S (cG bs i).b then 0 else(cG bs i).s) (n:=bs.length) fun i hi=>by
  have:=dK i hi
  split<;>omega
 rw[jZ fun _ _=>rfl]at this
 exact this
theorem vn.done {bs:List PB} {cnt:Nat} {jt:Int} (hc:2<=cnt) (h:vn bs cnt jt cnt) (t:Int):t<=jt↔kR cnt bs t:=by
 rcases h with⟨h,_⟩|⟨_,h1,S,h2,⟨z,hz,kO⟩,h3⟩
 ·omega
 ·constructor
  ·intro ht S h0 ⟨y,hy,hy2⟩
   have:y≠0:=by rintro rfl;rw[h0]at hy2;cases hy2
   have:=h1 y (by omega) hy S h0 hy2
   omega
  ·intro hH
   rw[h3];exact hH S h2 ⟨z,hz,kO⟩
theorem zS (cnt:Nat) (h2:2<=cnt) (hn:cnt<=1048576) (bs:List PB) (ok:nz cnt bs) (qe:bs.length<=1048576) (dK:∀e,e<bs.length->0<=(cG bs e).s/\(cG bs e).s<=4):
  tK Tryz.prog 194 [.int .i64 cnt,.sl (bs.map aB)] fun r=>∃jt p,r=.gE [.int .i64 jt,p]/\∀t:Int,t<=jt↔kR cnt bs t:=by
 refine tK.body eK rfl fun hl σ=>?_
 clear hl
 (try((repeat(revert hN;revert N;apply Pn.out));refine wk @Nat.zero_add ?_;(repeat(refine Pn.mk ?_;intro N hN))))
 have z0:∀(g:Rows) (id:Id),g id=some ⟨true,1,[]⟩->V.fz (dR g) 6 (.own id 0 0)=some (.sl (([]:List Nat).map eN))/\V.fz g 5 (.own id 0 0)=some (.sl (([]:List Nat).map eN)):=fun g id h=>by
  have h':dR g id=some ⟨true,1,[]⟩:=by simp[dR,h]
  constructor
  ·rw[iG];simp only[h',if_true];rw[if_pos (by simp)];simp[oK]
  ·rw[iG];simp only[h,if_true];rw[if_pos (by simp)];simp[oK]
 refine aZ (fun m env st=>∃(k:Nat) (jt:Int) (l:List Nat) (p:AV),m=cnt-k/\1<=k/\k<=cnt/\env 8=.int .i64 (k:Int)/\env 6=.int .i64 jt/\env 7=p/\V.fz (dR st.get) 6 p=some (.sl (l.map eN))/\V.fz st.get 5 p=some (.sl (l.map eN))/\l.length<=cnt/\vn bs cnt jt k) (cnt-1) ⟨1,-1,[],.own ⟨194002000,σ.next+1+1⟩ 0 0,rfl,by omega,by omega,by(simp only[go_sem, ↓reduceIte,Nat.reduceEqDiff,Nat.reduceAdd,Nat.reduceSub,Nat.reduceLeDiff,reduceCtorEq])<;>rfl,by(simp only[go_sem, ↓reduceIte,Nat.reduceEqDiff,Nat.reduceAdd,Nat.reduceSub,Nat.reduceLeDiff,reduceCtorEq])<;>rfl,by(simp only[go_sem, ↓reduceIte,Nat.reduceEqDiff,Nat.reduceAdd,Nat.reduceSub,Nat.reduceLeDiff,reduceCtorEq])<;>rfl,(z0 _ _ (sd @Nat.zero_add)).1,(z0 _ _ (sd @Nat.zero_add)).2,by simp,.inl ⟨rfl,rfl⟩⟩ ?_
 rintro m env_b st_b ⟨k,jt,l,p,rfl,xC,wI,b8,b6,b7,AQ,kO,hl,hB⟩ fU
 have b0:=fU 0 (by kernel_rfl)
 have b1:=fU 1 (by kernel_rfl)
 simp only[go_sem, ↓reduceIte,Nat.reduceEqDiff,Nat.reduceAdd,Nat.reduceSub,Nat.reduceLeDiff,reduceCtorEq]at b0 b1
 clear fU z0
 by_cases hk:(k:Int)<(cnt:Int)
 ·have fM:k<cnt:=by omega
  have hFl:=G4 cnt hn bs ok qe dK 0 k (by omega) fM (by omega)
  rw[show(((0:Nat):Int))=0 from rfl]at hFl
  (try((repeat(revert hN;revert N;apply Pn.out));refine wk (tw @b0 (tw @b1 (tw @b6 (tw @b7 (tw @b8 @hk))))) ?_;(repeat(refine Pn.mk ?_;intro N hN))))
  refine .inr (aJ _ _ _ _ _ (fun r σ1 hq=>?_) (hFl.x mixed))
  obtain⟨⟨f,val,rfl,hf,S,Oz,OA,S4⟩,rfl⟩:=hq
  refine hN _ _ ?_
  clear hN N
  have H4:=xj dK hf.le
  have tb:=j8.nn (val:=val) dK S4
  (try((repeat(revert hN;revert N;apply Pn.out));refine wk (tw @b0 (tw @b1 (tw @b6 (tw @b7 @b8)))) ?_;(repeat(refine Pn.mk ?_;intro N hN))))
  refine .inr (aJ _ _ _ _ _ (fun r σ1 hq=>?_) ((G5 cnt hn bs ok qe f H4 k fM).x mixed (by simp only[ae,aj,aW,aI,Option.map_some])))
  obtain⟨⟨l',rfl,K9⟩,rfl⟩:=hq
  refine hN _ _ ?_
  clear hN N
  have hw:IntKind.i64.wrap ((k:Int)+1)=((k+1:Nat):Int):=aA (by omega)
  have Su:(∀z,1<=z->z<k->∀S:Nat->Bool,S 0=true->S z=false->val<=jj S bs)->vn bs cnt val (k+1):=fun h=>.inr ⟨tb,fun z AQ kO S' h0 h1=>by
   by_cases tZ:z=k
   ·subst tZ;exact hf.bound h0 h1
   ·exact h z AQ (by omega) S' h0 h1,S,Oz,⟨k,fM,OA⟩,S4⟩
  by_cases kf:jt<0
  ·have BC:k=1:=by
    rcases hB with⟨h,_⟩|⟨h,_⟩
    ·exact h
    ·omega
   (try((repeat(revert hN;revert N;apply Pn.out));refine wk (tw @b0 (tw @b1 (tw @b6 (tw @b7 (tw @b8 (tw @kf @hw)))))) ?_;(repeat(refine Pn.mk ?_;intro N hN))))
   refine⟨_,?_,k+1,val,l',.sl (l'.map eN),rfl,by omega,by omega,sd (tw @b8 @hw),sd @Nat.zero_add,sd @Nat.zero_add,cC _ _ _,cC _ _ _,K9,Su fun z h1 h2=>by omega⟩
   omega
  ·have BC:(∀z,1<=z->z<k->∀S:Nat->Bool,S 0=true->S z=false->jt<=jj S bs)/\∃S:Nat->Bool,S 0=true/\(∃z,z<cnt/\S z=false)/\jt=jj S bs:=by
    rcases hB with⟨_,h⟩|⟨_,h⟩
    ·omega
    ·exact h
   (try((repeat(revert hN;revert N;apply Pn.out));refine wk (tw @b0 (tw @b1 (tw @b6 (tw @b7 (tw @b8 (tw @kf @hw)))))) ?_;(repeat(refine Pn.mk ?_;intro N hN))))
   refine .inr (aJ _ _ _ _ _ (fun r σ1 hq=>?_) ((B7 val jt l' l (by omega) (by omega)).x mixed (by simp only[ae,aj,cC,aI,AQ,Option.map_some])))
   obtain⟨⟨b,rfl,K2,GJ⟩,rfl⟩:=hq
   refine hN _ _ ?_
   clear hN N
   cases b with
   |true=>
    have Vy:val<=jt:=by
     rcases Int.lt_or_le jt val with h|h
     ·exact absurd (GJ h) (by simp)
     ·exact h
    (try((repeat(revert hN;revert N;apply Pn.out));refine wk (tw @b0 (tw @b1 (tw @b6 (tw @b7 (tw @b8 @hw))))) ?_;(repeat(refine Pn.mk ?_;intro N hN))))
    refine⟨_,?_,k+1,val,l',.sl (l'.map eN),rfl,by omega,by omega,sd (tw @b8 @hw),sd @Nat.zero_add,sd @Nat.zero_add,cC _ _ _,cC _ _ _,K9,Su fun z h1 h2 S' h3 h4=>by have:=BC.1 z h1 h2 S' h3 h4;omega⟩
    omega
   |false=>
    have Vy:jt<=val:=by
     rcases Int.lt_or_le val jt with h|h
     ·exact absurd (K2 h) (by simp)
     ·exact h
    (try((repeat(revert hN;revert N;apply Pn.out));refine wk (tw @b0 (tw @b1 (tw @b6 (tw @b7 (tw @b8 @hw))))) ?_;(repeat(refine Pn.mk ?_;intro N hN))))
    refine⟨_,?_,k+1,jt,l,p,rfl,by omega,by omega,sd (tw @b8 @hw),sd @b6,sd @b7,AQ,kO,hl,.inr ⟨by omega,fun z h1 h2 S' h3 h4=>?_,BC.2⟩⟩
    ·omega
    ·by_cases tZ:z=k
     ·subst tZ;have:=hf.bound h3 h4;omega
     ·exact BC.1 z h1 (by omega) S' h3 h4
 ·have l6:k=cnt:=by omega
  (try((repeat(revert hN;revert N;apply Pn.out));refine wk (tw @b0 (tw @b1 (tw @b6 (tw @b7 (tw @b8 @hk))))) ?_;(repeat(refine Pn.mk ?_;intro N hN))))
  exact⟨[.int .i64 jt,p],sd @Nat.zero_add,.gE [.int .i64 jt,.sl (l.map eN)],by simp only[eY,bJ,ae,aj,kO,aI,Option.map_some],jt,_,rfl,vn.done h2 (l6▸hB)⟩
end Go.Proofs.YtgoelphibofcmaaGreat.V

namespace Go.Proofs.YtgoelphibofcmaaGreat.V
open Go.RowKit
attribute [local irreducible] dO wpOps gy Call
attribute [local go_sem] aT fK eS ga fZ dj upd cF K.av cP AV.cells AV.cell rowOf rowsOf part ld rowAt bL cD dG ef ik bV de ew fW fe dw ek dc db dU dV cj bl cU b4 cW cV ei eo ej cR cm dd eh bW aV cZ cI ij bx cK ck bd du bj dI AV.undef bH bS dW eb dQ dP cJ ev eE cH er ep cY da List.getD_cons_zero List.getD_cons_succ List.getD_nil List.all_cons List.all_nil Bool.and_true Bool.true_and Bool.and_self Bool.not_true Bool.not_false Option.map_some Option.map_none Option.bind_some Option.bind_none List.length_cons List.length_nil List.take_succ_cons List.take_zero List.take_nil List.drop_succ_cons List.drop_zero List.drop_nil List.head?_cons List.map_cons List.map_nil List.getElem?_cons_zero List.getElem?_cons_succ List.cons_append List.nil_append List.append_nil List.length_map List.set_cons_zero List.set_cons_succ Nat.reduceMul eq_self Int.toNat_natCast Int.natCast_nonneg and_self true_and and_true decide_true decide_false Bool.false_eq_true Nat.zero_add Nat.add_zero List.contains_cons List.contains_nil Bool.or_false Bool.false_or beq_self_eq_true Nat.reduceBEq ne_eq not_true_eq_false not_false_eq_true Id.mk.injEq false_and and_false Nat.reduceLT Int.reduceLE Int.reduceLT Int.reduceToNat Int.reduceNeg Int.reduceAdd Nat.le_refl List.length_append beq_true beq_false Bool.not_eq_eq_eq_not or_false false_or dR ae aj aI bq bG cC aY bh aW bp cQ bJ
theorem MM {s:aw} (hS:iy s) (a d:Int):tD s (dD (dE s a) d)<=4:=by
 have hF:=hS.form
 have fh:dD (dE s a) d=0∨(0<=dD (dE s a) d/\dD (dE s a) d<=s.ax.length):=by
  unfold dD dE
  rw[List.getD_eq_getElem?_getD,List.getD_eq_getElem?_getD]
  rcases ht:s.ai[a.toNat]? with _|t
  ·exact .inl (by simp[z7])
  ·have RQ:=List.mem_of_getElem? ht
   simp only[Option.getD_some]
   rcases hg:t.bD[d.toNat]? with _|g
   ·exact .inl rfl
   ·exact .inr (hF.wC t RQ g (List.mem_of_getElem? hg))
 unfold tD
 by_cases h0:dD (dE s a) d=0
 ·rw[if_pos h0];omega
 ·rw[if_neg h0]
  have hk:(dD (dE s a) d-1).toNat<s.ax.length:=by omega
  have:=eI (hS.SP _ hk).2.1
  unfold pT at this
  unfold qC
  omega
theorem A9 {s:aw} (hS:iy s) (a d b:Int):gp s a d b<=4:=by
 unfold gp
 split
 ·exact MM hS a d
 ·omega
theorem Gp {s:aw} {l:List ad} (hS:iy s) {i:Nat} (hi:i<l.length) {d:Int}:∀b∈mY s l i d,b.a<l.length/\b.b<l.length/\0<=b.s/\b.s<=4:=by
 intro b hb
 unfold mY at hb
 split at hb
 ·rename_i h
  simp only[List.mem_singleton]at hb
  subst hb
  exact⟨hi,(ni h.1).1,by simp only;omega,A9 hS ..⟩
 ·cases hb
theorem yj {s:aw} {l:List ad} (hS:iy s):∀b∈dh s l,b.a<l.length/\b.b<l.length/\0<=b.s/\b.s<=4:=by
 intro b hb
 simp only[dh,gV,gq,List.mem_flatMap,List.mem_range]at hb
 obtain⟨i,hi,j,_,hb⟩:=hb
 exact Gp hS hi b hb
theorem ql {s:aw} {l:List ad} (hF:kQ l):(dh s l).length<=1000:=by
 have:=tP s l l.length
 have:=hF.xx
 rw[dh];omega
theorem IA {bs:List PB} {e:Nat} (h:e<bs.length):cG bs e∈bs:=by
 rw[cG,List.getD_eq_getElem?_getD,List.getElem?_eq_getElem h];exact List.getElem_mem h
theorem GP {n:Nat} {bs:List PB} {t:Int} (h:n<2):kR n bs t:=fun S h0 ⟨y,hy,hf⟩=>by
 have:y=0:=by omega
 subst this;rw[h0]at hf;cases hf
def iE (s:aw) (l:List ad) (t:Int):Nat:=(leads l.length (eJ (aU t (dh s l)))).length
noncomputable def nJ (s:aw) (l:List ad) (t:Int):Bool:=@decide (po l.length (dh s l) t) (Classical.propDecidable _)
def sY (s:aw) (l:List ad) (t:Int):Int:=if 64<iE s l t then 4 else 0
theorem mD {s:aw} {l:List ad} {t:Int} {p:Prop} [Decidable p] (h:p↔po l.length (dh s l) t):decide p=nJ s l t:=by
 letI:=Classical.propDecidable (po l.length (dh s l) t)
 unfold nJ
 by_cases hp:p
 ·rw[decide_eq_true hp];exact(decide_eq_true (h.1 hp)).symm
 ·rw[decide_eq_false hp];exact(decide_eq_false fun k=>hp (h.2 k)).symm
theorem B9 (s:aw) (l:List ad) (t:Int) (hS:iy s) (hA:lu s l):aq Tryz.prog 158 [.dq (ab s),.dq [.sl (l.map aa)],.int .i64 t] (.gE [.bool (nJ s l t),.int .i64 (sY s l t)]):=by
 refine aq.body eK rfl fun hl n0=>?_
 clear hl
 have hb:=yj (l:=l) hS
 have qe:=ql (s:=s) hA.1
 have OF:=hA.1.xx
 have rK:=El s l hS.form hA
 have C2:=B8 l.length (by omega) (dh s l) (fun b h=>⟨(hb b h).1,(hb b h).2.1⟩) (by omega) t
 have hL:=uc (aU t (dh s l))
 have fh:=EO hL (fun b h=>⟨(hb b h).1,(hb b h).2.1⟩)
 have hlen:=(nr (eJ (aU t (dh s l))) (dh s l)).2
 have nf:=jU l.length (eJ (aU t (dh s l)))
 have fY:(l.map aa).length=l.length:=by simp
 by_cases uz:(64:Int)<(iE s l t:Int)
 ·have uA:64<iE s l t:=by omega
  have hd:nJ s l t=false:=(mD (p:=False) ⟨False.elim,fun h=>by have:=h.1;unfold iE at uA;omega⟩).symm.trans (by simp)
  rw[iE]at uz
  (repeat(first|((repeat(revert hN;revert N;apply Pn.out));refine wk (tw @ab.eq_1 (tw @uz @fY)) ?_;(repeat(refine Pn.mk ?_;intro N hN)))|((try apply Or.inl);refine⟨_,aq.x (rK) (sd (tw @ab.eq_1 (tw @uz @fY))),?_⟩;refine hN _ _ ?_;clear hN N)|((try apply Or.inl);refine⟨_,aq.x (C2) (sd (tw @ab.eq_1 (tw @uz @fY))),?_⟩;refine hN _ _ ?_;clear hN N)))
  exact jD (.inl rfl) (r1:=.bool false) (r2:=.int .i64 4) (sd @Nat.zero_add) (sd @Nat.zero_add) (by rw[hd,sY,if_pos uA];simp only[eU,bw,cr,fR,eu,Option.map_some])
 have uA:¬64<iE s l t:=by omega
 have hf:sY s l t=0:=by rw[sY,if_neg uA]
 by_cases h2:(iE s l t:Int)<2
 ·have hd:nJ s l t=true:=(mD (p:=True) ⟨fun _=>⟨by unfold iE at uA;omega,GP (by unfold iE at h2;omega)⟩,fun _=>trivial⟩).symm.trans (by simp)
  rw[iE]at uz h2
  (repeat(first|((repeat(revert hN;revert N;apply Pn.out));refine wk (tw @ab.eq_1 (tw @uz (tw @h2 @fY))) ?_;(repeat(refine Pn.mk ?_;intro N hN)))|((try apply Or.inl);refine⟨_,aq.x (rK) (sd (tw @ab.eq_1 (tw @uz (tw @h2 @fY)))),?_⟩;refine hN _ _ ?_;clear hN N)|((try apply Or.inl);refine⟨_,aq.x (C2) (sd (tw @ab.eq_1 (tw @uz (tw @h2 @fY)))),?_⟩;refine hN _ _ ?_;clear hN N)))
  exact jD (.inl rfl) (r1:=.bool true) (r2:=.int .i64 0) (sd @Nat.zero_add) (sd @Nat.zero_add) (by rw[hd,hf];simp only[eU,bw,cr,fR,eu,Option.map_some])
 have Pb:=zS (iE s l t) (by omega) (by unfold iE;omega) (fj (eJ (aU t (dh s l))) (dh s l)) (fun e he=>by have:=fh _ (IA he);exact⟨this.1,this.2.1,this.2.2.1⟩) (by omega) (fun e he=>by
  obtain⟨_,_,_,c,hc,dy⟩:=fh _ (IA he)
  rw[dy];have:=hb c hc;omega)
 rw[iE]at uz h2 Pb
 (repeat(first|((repeat(revert hN;revert N;apply Pn.out));refine wk (tw @ab.eq_1 (tw @uz (tw @h2 @fY))) ?_;(repeat(refine Pn.mk ?_;intro N hN)))|((try apply Or.inl);refine⟨_,aq.x (rK) (sd (tw @ab.eq_1 (tw @uz (tw @h2 @fY)))),?_⟩;refine hN _ _ ?_;clear hN N)|((try apply Or.inl);refine⟨_,aq.x (C2) (sd (tw @ab.eq_1 (tw @uz (tw @h2 @fY)))),?_⟩;refine hN _ _ ?_;clear hN N)))
 refine .inr (aJ _ _ _ _ _ (fun r σ1 hq=>?_) (Pb.x mixed))
 obtain⟨⟨jt,p,rfl,Ri⟩,rfl⟩:=hq
 refine hN _ _ ?_
 clear hN N
 (try((repeat(revert hN;revert N;apply Pn.out));refine wk @Nat.zero_add ?_;(repeat(refine Pn.mk ?_;intro N hN))))
 exact jD (.inl rfl) (r1:=.bool (decide (t<=jt))) (r2:=.int .i64 0) (sd @Nat.zero_add) (sd @Nat.zero_add) (by
  rw[hf,mD (s:=s) (l:=l) (t:=t) (p:=t<=jt) ((Ri t).trans (D5.trans ⟨fun h=>⟨by unfold iE at uA;omega,h⟩,fun h=>h.2⟩))]
  simp only[eU,bw,cr,fR,eu,Option.map_some])
theorem th (t:Int):aq Tryz.prog 157 [.int .i64 t] (.bool (jc t 1 16)):=by
 refine aq.body eK rfl fun hl n0=>?_
 clear hl
 have h:=lK t 1 16
 (repeat(first|((repeat(revert hN;revert N;apply Pn.out));refine wk @Nat.zero_add ?_;(repeat(refine Pn.mk ?_;intro N hN)))|((try apply Or.inl);refine⟨_,aq.x (h) (sd @Nat.zero_add),?_⟩;refine hN _ _ ?_;clear hN N)))
 exact bc (b:=jc t 1 16) (.inl rfl) (sd @Nat.zero_add) rfl
structure vL (s:az):Prop where
 set:iy s.aH
 x9:lu s.aH s.bf.ai
 some:1<=s.bf.ai.length
 PK:jc s.ay 1 16=true
 holds:po s.bf.ai.length (dh s.aH s.bf.ai) s.ay
noncomputable def nu (s:az):Bool:=@decide (vL s) (Classical.propDecidable _)
theorem sr {s:az}:nu s=true↔vL s:=by simp[nu]
theorem j7 {s:az} (h:¬vL s):false=nu s:=by simp[nu,h]
theorem CF {s:az} (h:vL s):true=nu s:=by simp[nu,h]
theorem pM {s:aw} {l:List ad} {t:Int}:nJ s l t=true↔po l.length (dh s l) t:=by simp[nJ]
theorem Md (s:az) (hn:gn s.aH) (hg:s.aH.ax.length<=1048576) (ht:s.aH.ai.length<=1048576):aq Tryz.prog 96 [.dq (au s)] (.bool (nu s)):=by
 refine aq.body eK rfl fun hl n0=>?_
 clear hl
 have h1:=(Mb s.aH hn hg ht).cut mixed (.ptr _ [.sl (s.bf.ai.map aa),.int .i64 s.ay] .nil)
 by_cases hS:iy s.aH
 ·rw[pb.2 hS]at h1
  have h2:=(Mc s.aH s.bf.ai).cut mixed (.ptr _ [.sl (s.bf.ai.map aa),.int .i64 s.ay] (.ptr _ [.int .i64 s.ay] .nil))
  by_cases hA:lu s.aH s.bf.ai
  ·rw[ox.2 hA]at h2
   by_cases h0:(s.bf.ai.length:Int)=0
   ·have hd:decide ((s.bf.ai.length:Int)=0)=true:=decide_eq_true h0
    have kg:false=nu s:=j7 fun h=>by have:=h.some;omega
    generalize fY:(s.bf.ai.map aa).length=len at *
    (repeat(first|((repeat(revert hN;revert N;apply Pn.out));refine wk (tw @au.eq_1 (tw @ab.eq_1 @hd)) ?_;(repeat(refine Pn.mk ?_;intro N hN)))|((try apply Or.inl);refine⟨_,aq.x (h1) (sd (tw @au.eq_1 (tw @ab.eq_1 @hd))),?_⟩;refine hN _ _ ?_;clear hN N)|((try apply Or.inl);refine⟨_,aq.x (h2) (sd (tw @au.eq_1 (tw @ab.eq_1 @hd))),?_⟩;refine hN _ _ ?_;clear hN N)))
    exact bc (b:=false) (.inl rfl) (sd @Nat.zero_add) kg
   ·have hd:decide ((s.bf.ai.length:Int)=0)=false:=decide_eq_false h0
    have h3:=th s.ay
    cases hT:jc s.ay 1 16
    ·rw[hT]at h3
     (repeat(first|((repeat(revert hN;revert N;apply Pn.out));refine wk (tw @au.eq_1 (tw @ab.eq_1 @hd)) ?_;(repeat(refine Pn.mk ?_;intro N hN)))|((try apply Or.inl);refine⟨_,aq.x (h1) (sd (tw @au.eq_1 (tw @ab.eq_1 @hd))),?_⟩;refine hN _ _ ?_;clear hN N)|((try apply Or.inl);refine⟨_,aq.x (h2) (sd (tw @au.eq_1 (tw @ab.eq_1 @hd))),?_⟩;refine hN _ _ ?_;clear hN N)|((try apply Or.inl);refine⟨_,aq.x (h3) (sd (tw @au.eq_1 (tw @ab.eq_1 @hd))),?_⟩;refine hN _ _ ?_;clear hN N)))
     exact bc (b:=false) (.inl rfl) (sd @Nat.zero_add) (j7 fun h=>by have:=h.PK;rw[hT]at this;cases this)
    ·rw[hT]at h3
     have h4:=(B9 s.aH s.bf.ai s.ay hS hA).cut mixed (.ptr _ [.sl (s.bf.ai.map aa),.int .i64 s.ay] (.ptr _ [.int .i64 s.ay] (.same _ .nil)))
     cases hB:nJ s.aH s.bf.ai s.ay
     ·rw[hB]at h4
      (repeat(first|((repeat(revert hN;revert N;apply Pn.out));refine wk (tw @au.eq_1 (tw @ab.eq_1 @hd)) ?_;(repeat(refine Pn.mk ?_;intro N hN)))|((try apply Or.inl);refine⟨_,aq.x (h1) (sd (tw @au.eq_1 (tw @ab.eq_1 @hd))),?_⟩;refine hN _ _ ?_;clear hN N)|((try apply Or.inl);refine⟨_,aq.x (h2) (sd (tw @au.eq_1 (tw @ab.eq_1 @hd))),?_⟩;refine hN _ _ ?_;clear hN N)|((try apply Or.inl);refine⟨_,aq.x (h3) (sd (tw @au.eq_1 (tw @ab.eq_1 @hd))),?_⟩;refine hN _ _ ?_;clear hN N)|((try apply Or.inl);refine⟨_,aq.x (h4) (sd (tw @au.eq_1 (tw @ab.eq_1 @hd))),?_⟩;refine hN _ _ ?_;clear hN N)))
      exact bc (b:=false) (.inl rfl) (sd @Nat.zero_add) (j7 fun h=>by have:=pM.2 h.holds;rw[hB]at this;cases this)
     ·have hP:=pM.1 hB
      have hf:sY s.aH s.bf.ai s.ay=0:=by
       have:=hP.1
       rw[sY,if_neg (by unfold iE;omega)]
      rw[hB,hf]at h4
      (repeat(first|((repeat(revert hN;revert N;apply Pn.out));refine wk (tw @au.eq_1 (tw @ab.eq_1 @hd)) ?_;(repeat(refine Pn.mk ?_;intro N hN)))|((try apply Or.inl);refine⟨_,aq.x (h1) (sd (tw @au.eq_1 (tw @ab.eq_1 @hd))),?_⟩;refine hN _ _ ?_;clear hN N)|((try apply Or.inl);refine⟨_,aq.x (h2) (sd (tw @au.eq_1 (tw @ab.eq_1 @hd))),?_⟩;refine hN _ _ ?_;clear hN N)|((try apply Or.inl);refine⟨_,aq.x (h3) (sd (tw @au.eq_1 (tw @ab.eq_1 @hd))),?_⟩;refine hN _ _ ?_;clear hN N)|((try apply Or.inl);refine⟨_,aq.x (h4) (sd (tw @au.eq_1 (tw @ab.eq_1 @hd))),?_⟩;refine hN _ _ ?_;clear hN N)))
      exact bc (b:=true) (.inl rfl) (sd @Nat.zero_add) (CF ⟨hS,hA,by omega,hT,hP⟩)
  ·have hb:sQ s.aH s.bf.ai=false:=Bool.eq_false_iff.2 fun h=>hA (ox.1 h)
   rw[hb]at h2
   (repeat(first|((repeat(revert hN;revert N;apply Pn.out));refine wk (tw @au.eq_1 @ab.eq_1) ?_;(repeat(refine Pn.mk ?_;intro N hN)))|((try apply Or.inl);refine⟨_,aq.x (h1) (sd (tw @au.eq_1 @ab.eq_1)),?_⟩;refine hN _ _ ?_;clear hN N)|((try apply Or.inl);refine⟨_,aq.x (h2) (sd (tw @au.eq_1 @ab.eq_1)),?_⟩;refine hN _ _ ?_;clear hN N)))
   exact bc (b:=false) (.inl rfl) (sd @Nat.zero_add) (j7 fun h=>hA h.x9)
 ·have hb:sj s.aH=false:=Bool.eq_false_iff.2 fun h=>hS (pb.1 h)
  rw[hb]at h1
  (repeat(first|((repeat(revert hN;revert N;apply Pn.out));refine wk (tw @au.eq_1 @ab.eq_1) ?_;(repeat(refine Pn.mk ?_;intro N hN)))|((try apply Or.inl);refine⟨_,aq.x (h1) (sd (tw @au.eq_1 @ab.eq_1)),?_⟩;refine hN _ _ ?_;clear hN N)))
  exact bc (b:=false) (.inl rfl) (sd @Nat.zero_add) (j7 fun h=>hS h.set)
end Go.Proofs.YtgoelphibofcmaaGreat.V

namespace Go.Proofs.YtgoelphibofcmaaGreat.V
open Go.RowKit
attribute [local irreducible] dO wpOps gy Call
attribute [local go_sem] aT fK eS ga fZ dj upd cF K.av cP AV.cells AV.cell rowOf rowsOf part ld rowAt bL cD dG ef ik bV de ew fW fe dw ek dc db dU dV cj bl cU b4 cW cV ei eo ej cR cm dd eh bW aV cZ cI ij bx cK ck bd du bj dI AV.undef bH bS dW eb dQ dP cJ ev eE cH er ep cY da List.getD_cons_zero List.getD_cons_succ List.getD_nil List.all_cons List.all_nil Bool.and_true Bool.true_and Bool.and_self Bool.not_true Bool.not_false Option.map_some Option.map_none Option.bind_some Option.bind_none List.length_cons List.length_nil List.take_succ_cons List.take_zero List.take_nil List.drop_succ_cons List.drop_zero List.drop_nil List.head?_cons List.map_cons List.map_nil List.getElem?_cons_zero List.getElem?_cons_succ List.cons_append List.nil_append List.append_nil List.length_map List.set_cons_zero List.set_cons_succ Nat.reduceMul eq_self Int.toNat_natCast Int.natCast_nonneg and_self true_and and_true decide_true decide_false Bool.false_eq_true Nat.zero_add Nat.add_zero List.contains_cons List.contains_nil Bool.or_false Bool.false_or beq_self_eq_true Nat.reduceBEq ne_eq not_true_eq_false not_false_eq_true Id.mk.injEq false_and and_false Nat.reduceLT Int.reduceLE Int.reduceLT Int.reduceToNat Int.reduceNeg Int.reduceAdd Nat.le_refl List.length_append beq_true beq_false Bool.not_eq_eq_eq_not or_false false_or dR ae aj aI bq bG cC aY bh aW bp cQ bJ
theorem MJ {s:aw} (hS:iy s) (a d:Int):0<=tD s (dD (dE s a) d):=by
 have hF:=hS.form
 have fh:dD (dE s a) d=0∨(0<=dD (dE s a) d/\dD (dE s a) d<=s.ax.length):=by
  unfold dD dE
  rw[List.getD_eq_getElem?_getD,List.getD_eq_getElem?_getD]
  rcases ht:s.ai[a.toNat]? with _|t
  ·exact .inl (by simp[z7])
  ·have RQ:=List.mem_of_getElem? ht
   simp only[Option.getD_some]
   rcases hg:t.bD[d.toNat]? with _|g
   ·exact .inl rfl
   ·exact .inr (hF.wC t RQ g (List.mem_of_getElem? hg))
 unfold tD
 by_cases h0:dD (dE s a) d=0
 ·rw[if_pos h0];omega
 ·rw[if_neg h0]
  have hk:(dD (dE s a) d-1).toNat<s.ax.length:=by omega
  have:=eI (hS.SP _ hk).2.1
  unfold pT at this
  unfold qC
  omega
theorem vU {s:aw} (hS:iy s) (a d b:Int):0<=gp s a d b/\gp s a d b<=4:=by
 refine⟨?_,A9 hS a d b⟩
 unfold gp
 split
 ·exact MJ hS a d
 ·omega
def ea (s:aw) (f:aL->Int) (p:aL) (t:Int):Nat->Int
 |0=>0
 |d+1=>ea s f p t d+if 0<=f (dp p d)then gp s t d (f (dp p d))else 0
def qb (s:aw) (f:aL->Int) (p:aL) (t:Int):Int:=ea s f p t 4
theorem lF {s:aw} (hS:iy s) (f:aL->Int) (p:aL) (t:Int):∀d,0<=ea s f p t d/\ea s f p t d<=4*(d:Int)
 |0=>⟨Int.le_refl _,Int.le_refl _⟩
 |d+1=>by
  have:=lF hS f p t d
  have hb:=vU hS t d (f (dp p d))
  simp only[ea]
  split<;>omega
theorem AZ {s:aw} {l:List ad} (hA:lu s l) {p:aL} (h:0<=gQ l p):dY s (gQ l p)=true:=by
 unfold gQ at h ⊢
 split at h
 ·rename_i h0
  rw[if_pos h0]
  exact hA.2 _ (k8 (ni h0).1)
 ·omega
theorem rS (s:aw) (hS:iy s) (l:List ad) (hA:lu s l) (p:aL) (hx:iB p.fb) (hy:iB p.eV) (t:Int) (ht:dY s t=true):aq Tryz.prog 138 [.dq (ab s),.dq [.sl (l.map aa)],.agg (ah p),.int .i64 t] (.int .i64 (qb s (gQ l) p t)):=by
 refine aq.body eK rfl fun hl n0=>?_
 clear hl
 have hR:=hA.1.Kl
 have LH:l.length<=1048576:=by have:=hA.1.xx;omega
 (try((repeat(revert hN;revert N;apply Pn.out));refine wk @ah.eq_1 ?_;(repeat(refine Pn.mk ?_;intro N hN))))
 refine aZ (fun n env st=>∃k:Nat,n=(4)-k/\k<=(4)/\env 10=.int .i64 (k:Int)/\env 9=.int .i64 (ea s (gQ l) p t k)/\st.get ⟨138000000,n0⟩=some ⟨true,2,[ah p]⟩) (4) ⟨0,by omega,by omega,sl @ah.eq_1,sl @ah.eq_1,sl @ah.eq_1⟩ ?_
 rintro n_a env_a st_a ⟨k,rfl,ale,l5,a9,ag0⟩ dx
 have a0:=dx 0 (by kernel_rfl);have a1:=dx 1 (by kernel_rfl);have a3:=dx 3 (by kernel_rfl);have a6:=dx 6 (by kernel_rfl)
 simp only[go_sem, ↓reduceIte,Nat.reduceEqDiff,Nat.reduceAdd,Nat.reduceSub,Nat.reduceLeDiff,reduceCtorEq,ah]at a0 a1 a3 a6
 clear dx
 by_cases hk:(k:Int)<4
 ·have cz:∀{e:Env} {gg:Rows},(e 10=.int .i64 (IntKind.i64.wrap ((k:Int)+1)))->(e 9=.int .i64 (ea s (gQ l) p t (k+1)))->(gg ⟨138000000,n0⟩=some ⟨true,2,[ah p]⟩)->∃m0,m0<(4)-k/\∃k:Nat,m0=(4)-k/\k<=(4)/\e 10=.int .i64 (k:Int)/\e 9=.int .i64 (ea s (gQ l) p t k)/\gg ⟨138000000,n0⟩=some ⟨true,2,[ah p]⟩:=fun x1 x2 x3=>⟨_,by omega,k+1,rfl,by omega,(by rw[x1,aA (by omega)]),x2,x3⟩
  have dK:=tf p k (iN (by omega)) hx hy
  have wE:=FT l (dp p k) hR LH
  have fh:=lF hS (gQ l) p t k
  by_cases h0:0<=gQ l (dp p k)
  ·have rK:=tg s hS.form t k (gQ l (dp p k)) ht (AZ hA h0) (iN (by omega))
   have fX:=vU hS t k (gQ l (dp p k))
   have hw:IntKind.i64.wrap (ea s (gQ l) p t k+gp s t k (gQ l (dp p k)))=ea s (gQ l) p t (k+1):=by
    rw[bI (by omega),ea,if_pos h0]
   (repeat(first|((repeat(revert hN;revert N;apply Pn.out));refine wk (tw @l5 (tw @a9 (tw @ag0 (tw @a0 (tw @a1 (tw @a3 (tw @a6 (tw @hk (tw @h0 @ah.eq_1))))))))) ?_;(repeat(refine Pn.mk ?_;intro N hN)))|((try apply Or.inl);refine⟨_,aq.x (dK) (sd (tw @l5 (tw @a9 (tw @ag0 (tw @a0 (tw @a1 (tw @a3 (tw @a6 (tw @hk (tw @h0 @ah.eq_1)))))))))),?_⟩;refine hN _ _ ?_;clear hN N)|((try apply Or.inl);refine⟨_,aq.x (wE) (sd (tw @l5 (tw @a9 (tw @ag0 (tw @a0 (tw @a1 (tw @a3 (tw @a6 (tw @hk (tw @h0 @ah.eq_1)))))))))),?_⟩;refine hN _ _ ?_;clear hN N)|((try apply Or.inl);refine⟨_,aq.x (rK) (sd (tw @l5 (tw @a9 (tw @ag0 (tw @a0 (tw @a1 (tw @a3 (tw @a6 (tw @hk (tw @h0 @ah.eq_1)))))))))),?_⟩;refine hN _ _ ?_;clear hN N)))
   refine cz ?_ ?_ ?_
   all_goals simp only[go_sem, ↓reduceIte,Nat.reduceEqDiff,Nat.reduceAdd,Nat.reduceSub,Nat.reduceLeDiff,reduceCtorEq,l5,a9,ag0,a0,a1,a3,a6,hw,ah]
  ·have hw:ea s (gQ l) p t (k+1)=ea s (gQ l) p t k:=by rw[ea,if_neg h0,Int.add_zero]
   (repeat(first|((repeat(revert hN;revert N;apply Pn.out));refine wk (tw @l5 (tw @a9 (tw @ag0 (tw @a0 (tw @a1 (tw @a3 (tw @a6 (tw @hk (tw @h0 @ah.eq_1))))))))) ?_;(repeat(refine Pn.mk ?_;intro N hN)))|((try apply Or.inl);refine⟨_,aq.x (dK) (sd (tw @l5 (tw @a9 (tw @ag0 (tw @a0 (tw @a1 (tw @a3 (tw @a6 (tw @hk (tw @h0 @ah.eq_1)))))))))),?_⟩;refine hN _ _ ?_;clear hN N)|((try apply Or.inl);refine⟨_,aq.x (wE) (sd (tw @l5 (tw @a9 (tw @ag0 (tw @a0 (tw @a1 (tw @a3 (tw @a6 (tw @hk (tw @h0 @ah.eq_1)))))))))),?_⟩;refine hN _ _ ?_;clear hN N)))
   refine cz ?_ ?_ ?_
   all_goals simp only[go_sem, ↓reduceIte,Nat.reduceEqDiff,Nat.reduceAdd,Nat.reduceSub,Nat.reduceLeDiff,reduceCtorEq,l5,a9,ag0,a0,a1,a3,a6,hw,ah]
 ·(try((repeat(revert hN;revert N;apply Pn.out));refine wk (tw @l5 (tw @a9 (tw @ag0 (tw @a0 (tw @a1 (tw @a3 (tw @a6 @hk))))))) ?_;(repeat(refine Pn.mk ?_;intro N hN))))
  exact cN (b:=ea s (gQ l) p t k) (.inl rfl) (sd (tw @l5 (tw @a9 (tw @ag0 (tw @a0 (tw @a1 (tw @a3 @a6))))))) (by rw[show k=4 by omega];rfl)
theorem DD {f:Nat->Bool} {n k:Nat} (h1:k<n) (h2:f k=true) (h3:∀j,j<k->f j=false):(List.range n).find? f=some k:=by
 rw[List.find?_range_eq_some]
 exact⟨h2,List.mem_range.2 h1,fun j hj=>by rw[h3 j hj];rfl⟩
theorem uy {f:Nat->Bool} {n:Nat} (h:∀j,j<n->f j=false):(List.range n).find? f=none:=by
 rw[List.find?_range_eq_none]
 exact fun j hj=>by rw[h j hj];rfl
theorem KD {s:aw} {k:Nat} (h:k<s.ai.length):dY s k=true:=by
 unfold dY;exact iN (by omega)
theorem zr {s:aw} {l:List ad} (hA:lu s l) (p:aL):gQ l p<0↔eR l p<0:=by
 constructor
 ·intro h
  rcases Int.lt_or_le (eR l p) 0 with h0|h0
  ·exact h0
  ·exfalso
   obtain⟨h1,_⟩:=ni h0
   have h2:=(eI (hA.2 _ (k8 h1))).1
   rw[gQ,if_pos h0]at h
   omega
 ·intro h
  rw[gQ,if_neg (by omega)];omega
end Go.Proofs.YtgoelphibofcmaaGreat.V

namespace Go.Proofs.YtgoelphibofcmaaGreat.V
open Go.RowKit
attribute [local irreducible] dO wpOps gy Call
attribute [local go_sem] aT fK eS ga fZ dj upd cF K.av cP AV.cells AV.cell rowOf rowsOf part ld rowAt bL cD dG ef ik bV de ew fW fe dw ek dc db dU dV cj bl cU b4 cW cV ei eo ej cR cm dd eh bW aV cZ cI ij bx cK ck bd du bj dI AV.undef bH bS dW eb dQ dP cJ ev eE cH er ep cY da List.getD_cons_zero List.getD_cons_succ List.getD_nil List.all_cons List.all_nil Bool.and_true Bool.true_and Bool.and_self Bool.not_true Bool.not_false Option.map_some Option.map_none Option.bind_some Option.bind_none List.length_cons List.length_nil List.take_succ_cons List.take_zero List.take_nil List.drop_succ_cons List.drop_zero List.drop_nil List.head?_cons List.map_cons List.map_nil List.getElem?_cons_zero List.getElem?_cons_succ List.cons_append List.nil_append List.append_nil List.length_map List.set_cons_zero List.set_cons_succ Nat.reduceMul eq_self Int.toNat_natCast Int.natCast_nonneg and_self true_and and_true decide_true decide_false Bool.false_eq_true Nat.zero_add Nat.add_zero List.contains_cons List.contains_nil Bool.or_false Bool.false_or beq_self_eq_true Nat.reduceBEq ne_eq not_true_eq_false not_false_eq_true Id.mk.injEq false_and and_false Nat.reduceLT Int.reduceLE Int.reduceLT Int.reduceToNat Int.reduceNeg Int.reduceAdd Nat.le_refl List.length_append beq_true beq_false Bool.not_eq_eq_eq_not or_false false_or dR ae aj aI bq bG cC aY bh aW bp cQ bJ
abbrev mP:MK:=⟨true,[.tI,.tI]⟩
theorem Ci (p:aL):∀(ts:List ad) (i:Nat),gu mP (ah p) (ts.map aa) i=some (if pY ts p<ts.length then some (i+pY ts p)else none)
 |[],i=>by simp[gu,pY]
 |t::ts,i=>by
  have e:fe mP.ts (ah p) ((aa t).take mP.ks)=some (decide (p=t.aQ)):=by
   have h:(p=t.aQ)↔(p.fb=t.aQ.fb/\p.eV=t.aQ.eV):=⟨fun h=>by rw[h];exact⟨rfl,rfl⟩,fun h=>EE h.1 h.2⟩
   simp[MK.ks,ah,aa,fe,fW,h]
  have ih:=Ci p ts (i+1)
  rw[List.map_cons]
  unfold gu
  rw[e]
  by_cases h:p=t.aQ
  ·rw[decide_eq_true h]
   have h0:pY (t::ts) p=0:=by simp[pY,List.findIdx_cons,h]
   simp[h0]
  ·rw[decide_eq_false h]
   have h0:pY (t::ts) p=pY ts p+1:=by
    simp[pY,List.findIdx_cons,Ne.symm h]
   simp only[ih,h0,List.length_cons,Nat.add_lt_add_iff_right]
   congr 1
   split<;>simp;omega
theorem yR (ts:List ad) (p:aL):fS mP (.agg [.int .i64 p.fb,.int .i64 p.eV]) (ts.map aa)=some (if 0<=eR ts p then some (eR ts p).toNat else none):=by
 have h:=Ci p ts 0
 unfold fS
 rw[if_pos ⟨rfl,rfl,rfl⟩]
 show gu mP (ah p) _ 0= _
 rw[h]
 unfold eR
 split<;>simp
theorem Hh {ts:List ad} {p:aL} (h:0<=eR ts p):fS mP (.agg [.int .i64 p.fb,.int .i64 p.eV]) (ts.map aa)=some (some (eR ts p).toNat):=by rw[yR,if_pos h]
theorem qT {ts:List ad} {p:aL} (h:eR ts p<0):fS mP (.agg [.int .i64 p.fb,.int .i64 p.eV]) (ts.map aa)=some none:=by rw[yR,if_neg (by omega)]
structure AS (g:Rows) (n:Nat) (c T O:Id) (s:az) (ts:List ad):Prop where
 row:∃b,g c=some ⟨b,6,[[.sl (s.aH.ax.map bR),.sl (s.aH.ai.map bB),.sl (s.bf.ai.map aa),.int .i64 s.ay,.map T mP,.map O mP]]⟩
 tl:∃b,g T=some ⟨b,mP.pG,ts.map aa⟩
 cv:c.bQ<n
 tv:T.bQ<n
 ov:O.bQ<n
theorem AS.ro {g:Rows} {n:Nat} {c T O:Id} {s:az} {ts:List ad} (h:AS g n c T O s ts):AS (V.ro g) n c T O s ts:=by
 obtain⟨b,h1⟩:=h.row
 obtain⟨b2,h2⟩:=h.tl
 exact⟨⟨false,by simp[V.ro,h1]⟩,⟨false,by simp[V.ro,h2]⟩,h.cv,h.tv,h.ov⟩
theorem AS.frame {g g':Rows} {n n':Nat} {c T O:Id} {s:az} {ts:List ad} (h:AS g n c T O s ts) (hn:n<=n') (hc:g' c=g c) (hT:g' T=g T):AS g' n' c T O s ts:=
 ⟨by rw[hc];exact h.row,by rw[hT];exact h.tl,Nat.lt_of_lt_of_le h.cv hn,Nat.lt_of_lt_of_le h.tv hn,Nat.lt_of_lt_of_le h.ov hn⟩
theorem T7 {σ:ar} {c T O:Id} {s:az} {ts:List ad} (h:AS σ.get σ.next c T O s ts) (p:aL):Call Tryz.prog 121 [.ptr c 0 0,.agg (ah p)] σ (fun r _=>r=.int .i64 (gQ ts p)):=by
 refine eQ eK rfl fun kd=>?_
 clear kd
 obtain⟨b,h1⟩:=h.row
 obtain⟨b2,h2⟩:=h.tl
 have v1:=dr h.cv
 have v2:=dr h.tv
 by_cases h0:0<=eR ts p
 ·have hm:=Hh h0
  have hg:=fE (ni h0).1
  have ho:(some (eR ts p).toNat).isSome=true:=rfl
  (try((repeat(revert hN;revert N;apply Pn.out));refine wk (tw @h1 (tw @h2 (tw @v1 (tw @v2 (tw @hm (tw @hg (tw @ho (tw @ah.eq_1 @aa.eq_1)))))))) ?_;(repeat(refine Pn.mk ?_;intro N hN))))
  exact eX (.inl rfl) (vs:=[.int .i64 (aD ts (eR ts p).toNat).aO]) (sd @Nat.zero_add) (by rw[gQ,if_pos h0];rfl)
 ·have hm:=qT (ts:=ts) (p:=p) (by omega)
  have ho:(none:Option Nat).isSome=false:=rfl
  (try((repeat(revert hN;revert N;apply Pn.out));refine wk (tw @h1 (tw @h2 (tw @v1 (tw @v2 (tw @hm (tw @ho @ah.eq_1)))))) ?_;(repeat(refine Pn.mk ?_;intro N hN))))
  exact eX (.inl rfl) (vs:=[.int .i64 (-1)]) (sd @Nat.zero_add) (by rw[gQ,if_neg h0];rfl)
theorem Lm {σ:ar} {c T O:Id} {s:az} {ts:List ad} (h:AS σ.get σ.next c T O s ts) (p:aL):gy (Call Tryz.prog) 121 [.ptr c 0 0,.agg (ah p)] σ (fun r=>r=.int .i64 (gQ ts p)):=by
 unfold gy PC
 exact Or.inl (aJ _ _ _ _ _ (fun r σ' hr=>⟨_,by rw[hr];exact aI _ _ _ _,rfl⟩) (T7 (σ:=⟨V.ro σ.get,σ.next⟩) h.ro p))
theorem Gm {σ:ar} (s:aw) (hS:iy s) (F:aL->Int) (hF:∀q,0<=F q->dY s (F q)=true) (p:aL) (hx:iB p.fb) (hy:iB p.eV) (t:Int) (ht:dY s t=true) (f:Nat) (first:List AV)
  (wE:∀σ':ar,σ.next<=σ'.next->(∀x:Id,x.bQ<σ.next->σ'.get x=σ.get x)->∀q,gy (Call Tryz.prog) f (first++[.agg (ah q)]) σ' (fun r=>r=.int .i64 (F q))):
  Call Tryz.prog 120 [.agg (ab s),.agg (ah p),.int .i64 t,.ue f first] σ (fun r _=>r=.int .i64 (qb s F p t)):=by
 refine eQ eK rfl fun kd=>?_
 clear kd
 (try((repeat(revert hN;revert N;apply Pn.out));refine wk (tw @ah.eq_1 @ab.eq_1) ?_;(repeat(refine Pn.mk ?_;intro N hN))))
 refine aZ (fun n env st=>∃k:Nat,n=(4)-k/\k<=(4)/\env 12=.int .i64 (k:Int)/\env 9=.int .i64 (ea s F p t k)/\st.get ⟨120000000,σ.next⟩=some ⟨true,2,[ab s]⟩/\st.get ⟨120000001,σ.next⟩=some ⟨true,2,[ah p]⟩/\(σ.next<st.next/\∀x:Id,x.bQ<σ.next->st.get x=σ.get x)) (4) ⟨0,by omega,by omega,sl (tw @ah.eq_1 @ab.eq_1),sl (tw @ah.eq_1 @ab.eq_1),sl (tw @ah.eq_1 @ab.eq_1),sl (tw @ah.eq_1 @ab.eq_1),⟨by(try dsimp only);omega,fun x hx=>by
  have:=dr hx
  simp only[go_sem, ↓reduceIte,Nat.reduceEqDiff,Nat.reduceAdd,Nat.reduceSub,Nat.reduceLeDiff,reduceCtorEq,this]⟩⟩ ?_
 rintro n_a env_a st_a ⟨k,rfl,ale,a12,a9,ag0,ag1,j4⟩ dx
 have a2:=dx 2 (by kernel_rfl);have a3:=dx 3 (by kernel_rfl);have a4:=dx 4 (by kernel_rfl);have a5:=dx 5 (by kernel_rfl)
 simp only[go_sem, ↓reduceIte,Nat.reduceEqDiff,Nat.reduceAdd,Nat.reduceSub,Nat.reduceLeDiff,reduceCtorEq,ah,ab]at a2 a3 a4 a5
 clear dx
 obtain⟨an,dx⟩:=j4
 by_cases hk:(k:Int)<4
 ·have cz:∀{e:Env} {gg:Rows} {nx:Nat},(e 12=.int .i64 (IntKind.i64.wrap ((k:Int)+1)))->(e 9=.int .i64 (ea s F p t (k+1)))->(gg ⟨120000000,σ.next⟩=some ⟨true,2,[ab s]⟩)->(gg ⟨120000001,σ.next⟩=some ⟨true,2,[ah p]⟩)->(σ.next<nx/\∀x:Id,x.bQ<σ.next->gg x=σ.get x)->∃m0,m0<(4)-k/\∃k:Nat,m0=(4)-k/\k<=(4)/\e 12=.int .i64 (k:Int)/\e 9=.int .i64 (ea s F p t k)/\gg ⟨120000000,σ.next⟩=some ⟨true,2,[ab s]⟩/\gg ⟨120000001,σ.next⟩=some ⟨true,2,[ah p]⟩/\(σ.next<nx/\∀x:Id,x.bQ<σ.next->gg x=σ.get x):=fun x1 x2 x3 x4 x5=>⟨_,by omega,k+1,rfl,by omega,(by rw[x1,aA (by omega)]),x2,x3,x4,x5⟩
  have dK:=Ap p k (iN (by omega)) hx hy
  have fh:=lF hS F p t k
  (repeat(first|((repeat(revert hN;revert N;apply Pn.out));refine wk (tw @a12 (tw @a9 (tw @ag0 (tw @ag1 (tw @a2 (tw @a3 (tw @a4 (tw @a5 (tw @hk @ah.eq_1))))))))) ?_;(repeat(refine Pn.mk ?_;intro N hN)))|((try apply Or.inl);refine⟨_,aq.x (dK) (sd (tw @a12 (tw @a9 (tw @ag0 (tw @ag1 (tw @a2 (tw @a3 (tw @a4 (tw @a5 (tw @hk @ah.eq_1)))))))))),?_⟩;refine hN _ _ ?_;clear hN N)))
  refine .inl ⟨_,wE _ (by(try dsimp only);omega) (fun x hx=>sd (dx x hx)) (dp p k),?_⟩
  refine hN _ _ ?_
  clear hN N
  by_cases h0:0<=F (dp p k)
  ·have rK:=Dn s hS.form t k (F (dp p k)) ht (hF _ h0) (iN (by omega))
   have fX:=vU hS t k (F (dp p k))
   have hw:IntKind.i64.wrap (ea s F p t k+gp s t k (F (dp p k)))=ea s F p t (k+1):=by
    rw[bI (by omega),ea,if_pos h0]
   rw[ab]at rK
   (repeat(first|((repeat(revert hN;revert N;apply Pn.out));refine wk (tw @a12 (tw @a9 (tw @ag0 (tw @ag1 (tw @a2 (tw @a3 (tw @a4 (tw @a5 (tw @h0 @ab.eq_1))))))))) ?_;(repeat(refine Pn.mk ?_;intro N hN)))|((try apply Or.inl);refine⟨_,aq.x (rK) (sd (tw @a12 (tw @a9 (tw @ag0 (tw @ag1 (tw @a2 (tw @a3 (tw @a4 (tw @a5 (tw @h0 @ab.eq_1)))))))))),?_⟩;refine hN _ _ ?_;clear hN N)))
   refine cz ?_ ?_ ?_ ?_ (⟨by(try dsimp only);omega,fun x hx=>by
    have h1:=dx x hx
    simp only[go_sem, ↓reduceIte,Nat.reduceEqDiff,Nat.reduceAdd,Nat.reduceSub,Nat.reduceLeDiff,reduceCtorEq,h1]⟩)
   all_goals simp only[go_sem, ↓reduceIte,Nat.reduceEqDiff,Nat.reduceAdd,Nat.reduceSub,Nat.reduceLeDiff,reduceCtorEq,a12,a9,ag0,ag1,a2,a3,a4,a5,hw,ah,ab]
  ·have hw:ea s F p t (k+1)=ea s F p t k:=by rw[ea,if_neg h0,Int.add_zero]
   (try((repeat(revert hN;revert N;apply Pn.out));refine wk (tw @a12 (tw @a9 (tw @ag0 (tw @ag1 (tw @a2 (tw @a3 (tw @a4 (tw @a5 @h0)))))))) ?_;(repeat(refine Pn.mk ?_;intro N hN))))
   refine cz ?_ ?_ ?_ ?_ (⟨by(try dsimp only);omega,fun x hx=>by
    have h1:=dx x hx
    simp only[go_sem, ↓reduceIte,Nat.reduceEqDiff,Nat.reduceAdd,Nat.reduceSub,Nat.reduceLeDiff,reduceCtorEq,h1]⟩)
   all_goals simp only[go_sem, ↓reduceIte,Nat.reduceEqDiff,Nat.reduceAdd,Nat.reduceSub,Nat.reduceLeDiff,reduceCtorEq,a12,a9,ag0,ag1,a2,a3,a4,a5,hw,ah,ab]
 ·(try((repeat(revert hN;revert N;apply Pn.out));refine wk (tw @a12 (tw @a9 (tw @ag0 (tw @ag1 (tw @a2 (tw @a3 (tw @a4 (tw @a5 @hk)))))))) ?_;(repeat(refine Pn.mk ?_;intro N hN))))
  exact eX (.inl rfl) (vs:=[.int .i64 (ea s F p t k)]) (sd (tw @a12 (tw @a9 (tw @ag0 (tw @ag1 (tw @a2 (tw @a3 (tw @a4 @a5)))))))) (by rw[show k=4 by omega];rfl)
end Go.Proofs.YtgoelphibofcmaaGreat.V

namespace Go.Proofs.YtgoelphibofcmaaGreat.V
open Go.RowKit
attribute [local irreducible] dO wpOps gy Call
attribute [local go_sem] aT fK eS ga fZ dj upd cF K.av cP AV.cells AV.cell rowOf rowsOf part ld rowAt bL cD dG ef ik bV de ew fW fe dw ek dc db dU dV cj bl cU b4 cW cV ei eo ej cR cm dd eh bW aV cZ cI ij bx cK ck bd du bj dI AV.undef bH bS dW eb dQ dP cJ ev eE cH er ep cY da List.getD_cons_zero List.getD_cons_succ List.getD_nil List.all_cons List.all_nil Bool.and_true Bool.true_and Bool.and_self Bool.not_true Bool.not_false Option.map_some Option.map_none Option.bind_some Option.bind_none List.length_cons List.length_nil List.take_succ_cons List.take_zero List.take_nil List.drop_succ_cons List.drop_zero List.drop_nil List.head?_cons List.map_cons List.map_nil List.getElem?_cons_zero List.getElem?_cons_succ List.cons_append List.nil_append List.append_nil List.length_map List.set_cons_zero List.set_cons_succ Nat.reduceMul eq_self Int.toNat_natCast Int.natCast_nonneg and_self true_and and_true decide_true decide_false Bool.false_eq_true Nat.zero_add Nat.add_zero List.contains_cons List.contains_nil Bool.or_false Bool.false_or beq_self_eq_true Nat.reduceBEq ne_eq not_true_eq_false not_false_eq_true Id.mk.injEq false_and and_false Nat.reduceLT Int.reduceLE Int.reduceLT Int.reduceToNat Int.reduceNeg Int.reduceAdd Nat.le_refl List.length_append beq_true beq_false Bool.not_eq_eq_eq_not or_false false_or dR ae aj aI bq bG cC aY bh aW bp cQ bJ
noncomputable def iC (s:az) (ts:List ad) (p:aL) (t:Int):Bool:=x7 p&&decide (gQ ts p<0)&&decide (s.ay<=qb s.aH (gQ ts) p t)
theorem Gn {σ:ar} {c T O:Id} {s:az} {ts:List ad} (h:AS σ.get σ.next c T O s ts) (hS:iy s.aH) (hF:∀q,0<=gQ ts q->dY s.aH (gQ ts q)=true) (p:aL) (hx:iB p.fb) (hy:iB p.eV) (t:Int) (ht:dY s.aH t=true):
  gy (Call Tryz.prog) 120 [.agg (ab s.aH),.agg (ah p),.int .i64 t,.ue 121 [.ptr c 0 0]] σ (fun r=>r=.int .i64 (qb s.aH (gQ ts) p t)):=by
 unfold gy PC
 exact Or.inl (aJ _ _ _ _ _ (fun r σ' hr=>⟨_,by rw[hr];exact aI _ _ _ _,rfl⟩) (Gm (σ:=⟨V.ro σ.get,σ.next⟩) s.aH hS (gQ ts) hF p hx hy t ht _ _
  (fun σ' hn hk q=>Lm (h.ro.frame hn (hk _ h.cv) (hk _ h.tv)) q)))
theorem Oa {σ:ar} {c T O:Id} {s:az} {ts:List ad} (h:AS σ.get σ.next c T O s ts) (hS:iy s.aH) (hF:∀q,0<=gQ ts q->dY s.aH (gQ ts q)=true) (p:aL) (t:Int) (ht:dY s.aH t=true):
  Call Tryz.prog 133 [.ptr c 0 0,.agg (ah p),.int .i64 t] σ (fun r _=>r=.bool (iC s ts p t)):=by
 refine eQ eK rfl fun kd=>?_
 clear kd
 obtain⟨b,h1⟩:=h.row
 have v1:=dr h.cv
 have hw:=rm p
 have v2:=dr h.tv
 by_cases h0:x7 p=true
 ·rw[h0]at hw
  obtain⟨hx,hy⟩:=oZ h0
  by_cases h2:gQ ts p<0
  ·(repeat(first|((repeat(revert hN;revert N;apply Pn.out));refine wk (tw @h1 (tw @v1 (tw @h2 @ah.eq_1))) ?_;(repeat(refine Pn.mk ?_;intro N hN)))|((try apply Or.inl);refine⟨_,aq.x (hw) (sd (tw @h1 (tw @v1 (tw @h2 @ah.eq_1)))),?_⟩;refine hN _ _ ?_;clear hN N)))
   refine⟨_,Lm (h.frame (by(try dsimp only);omega) (sd @v1) (sd @v2)) p,?_⟩
   refine hN _ _ ?_
   clear hN N
   (repeat(first|((repeat(revert hN;revert N;apply Pn.out));refine wk (tw @h1 (tw @v1 (tw @h2 (tw @ah.eq_1 @ab.eq_1)))) ?_;(repeat(refine Pn.mk ?_;intro N hN)))|((try apply Or.inl);refine⟨_,aq.x (hw) (sd (tw @h1 (tw @v1 (tw @h2 (tw @ah.eq_1 @ab.eq_1))))),?_⟩;refine hN _ _ ?_;clear hN N)))
   refine⟨_,Gn (h.frame (by(try dsimp only);omega) (sd @v1) (sd @v2)) hS hF p hx hy t ht,?_⟩
   refine hN _ _ ?_
   clear hN N
   have hb:=lF hS (gQ ts) p t 4
   (repeat(first|((repeat(revert hN;revert N;apply Pn.out));refine wk (tw @h1 (tw @v1 (tw @h2 (tw @ah.eq_1 @ab.eq_1)))) ?_;(repeat(refine Pn.mk ?_;intro N hN)))|((try apply Or.inl);refine⟨_,aq.x (hw) (sd (tw @h1 (tw @v1 (tw @h2 (tw @ah.eq_1 @ab.eq_1))))),?_⟩;refine hN _ _ ?_;clear hN N)))
   exact eX (.inl rfl) (vs:=[.bool (decide (s.ay<=qb s.aH (gQ ts) p t))]) (sd @Nat.zero_add) (by rw[show iC s ts p t=decide (s.ay<=qb s.aH (gQ ts) p t) by simp[iC,h0,h2]];rfl)
  ·(repeat(first|((repeat(revert hN;revert N;apply Pn.out));refine wk (tw @h1 (tw @v1 (tw @h2 @ah.eq_1))) ?_;(repeat(refine Pn.mk ?_;intro N hN)))|((try apply Or.inl);refine⟨_,aq.x (hw) (sd (tw @h1 (tw @v1 (tw @h2 @ah.eq_1)))),?_⟩;refine hN _ _ ?_;clear hN N)))
   refine⟨_,Lm (h.frame (by(try dsimp only);omega) (sd @v1) (sd @v2)) p,?_⟩
   refine hN _ _ ?_
   clear hN N
   (repeat(first|((repeat(revert hN;revert N;apply Pn.out));refine wk (tw @h1 (tw @v1 (tw @h2 @ah.eq_1))) ?_;(repeat(refine Pn.mk ?_;intro N hN)))|((try apply Or.inl);refine⟨_,aq.x (hw) (sd (tw @h1 (tw @v1 (tw @h2 @ah.eq_1)))),?_⟩;refine hN _ _ ?_;clear hN N)))
   exact eX (.inl rfl) (vs:=[.bool false]) (sd @Nat.zero_add) (by rw[show iC s ts p t=false by simp[iC,h2]];rfl)
 ·rw[Bool.not_eq_true]at h0
  rw[h0]at hw
  (repeat(first|((repeat(revert hN;revert N;apply Pn.out));refine wk (tw @h1 (tw @v1 @ah.eq_1)) ?_;(repeat(refine Pn.mk ?_;intro N hN)))|((try apply Or.inl);refine⟨_,aq.x (hw) (sd (tw @h1 (tw @v1 @ah.eq_1))),?_⟩;refine hN _ _ ?_;clear hN N)))
  exact eX (.inl rfl) (vs:=[.bool false]) (sd @Nat.zero_add) (by rw[show iC s ts p t=false by simp[iC,h0]];rfl)
end Go.Proofs.YtgoelphibofcmaaGreat.V

namespace Go.Proofs.YtgoelphibofcmaaGreat.V
open Go.RowKit
attribute [local irreducible] dO wpOps gy Call
attribute [local go_sem] aT fK eS ga fZ dj upd cF K.av cP AV.cells AV.cell rowOf rowsOf part ld rowAt bL cD dG ef ik bV de ew fW fe dw ek dc db dU dV cj bl cU b4 cW cV ei eo ej cR cm dd eh bW aV cZ cI ij bx cK ck bd du bj dI AV.undef bH bS dW eb dQ dP cJ ev eE cH er ep cY da List.getD_cons_zero List.getD_cons_succ List.getD_nil List.all_cons List.all_nil Bool.and_true Bool.true_and Bool.and_self Bool.not_true Bool.not_false Option.map_some Option.map_none Option.bind_some Option.bind_none List.length_cons List.length_nil List.take_succ_cons List.take_zero List.take_nil List.drop_succ_cons List.drop_zero List.drop_nil List.head?_cons List.map_cons List.map_nil List.getElem?_cons_zero List.getElem?_cons_succ List.cons_append List.nil_append List.append_nil List.length_map List.set_cons_zero List.set_cons_succ Nat.reduceMul eq_self Int.toNat_natCast Int.natCast_nonneg and_self true_and and_true decide_true decide_false Bool.false_eq_true Nat.zero_add Nat.add_zero List.contains_cons List.contains_nil Bool.or_false Bool.false_or beq_self_eq_true Nat.reduceBEq ne_eq not_true_eq_false not_false_eq_true Id.mk.injEq false_and and_false Nat.reduceLT Int.reduceLE Int.reduceLT Int.reduceToNat Int.reduceNeg Int.reduceAdd Nat.le_refl List.length_append beq_true beq_false Bool.not_eq_eq_eq_not or_false false_or dR ae aj aI bq bG cC aY bh aW bp cQ bJ
def OW (rows:List (List AV)):Prop:=∀r∈rows,∃(x y:Int) (v:AV),r=[.int .i64 x,.int .i64 y,v]
theorem F0 (x y:Int):∀(rows:List (List AV)) (i:Nat),OW rows->∃fi,gu mP [.int .i64 x,.int .i64 y] rows i=some fi
 |[],i,_=>⟨none,by simp[gu]⟩
 |r::rs,i,h=>by
  obtain⟨fi,hf⟩:=F0 x y rs (i+1) fun r hr=>h r (by simp[hr])
  obtain⟨x',y',v,rfl⟩:=h r (by simp)
  unfold gu
  have e:fe mP.ts [.int .i64 x,.int .i64 y] (([.int .i64 x',.int .i64 y',v]:List AV).take mP.ks)=some (decide (x=x')&&decide (y=y')):=by
   simp[MK.ks,fe,fW]
  rw[e]
  cases decide (x=x')&&decide (y=y')
  ·exact⟨fi,hf⟩
  ·exact⟨some i,rfl⟩
theorem Cs {rows:List (List AV)} (h:OW rows) (x y:Int):∃fi,fS mP (.agg [.int .i64 x,.int .i64 y]) rows=some fi:=by
 unfold fS
 rw[if_pos ⟨rfl,rfl,rfl⟩]
 exact F0 x y rows 0 h
theorem Pr {rows:List (List AV)} (h:OW rows) (x y:Int) (v:AV) (fi:Option Nat):OW (dQ rows [.int .i64 x,.int .i64 y,v] fi):=by
 intro r hr
 cases fi with
 |none=>
  rcases List.mem_append.1 (show r∈rows++[_]from hr)with h1|h1
  ·exact h r h1
  ·simp at h1;exact⟨x,y,v,h1⟩
 |some i=>
  rcases List.mem_or_eq_of_mem_set (show r∈rows.set i _ from hr)with h1|h1
  ·exact h r h1
  ·exact⟨x,y,v,h1⟩
theorem J6 {rows:List (List AV)} (h:OW rows) (fi:Option Nat):OW (dP rows fi):=by
 intro r hr
 cases fi with
 |none=>exact h r (by simpa[dP]using hr)
 |some i=>exact h r (List.mem_of_mem_eraseIdx (by simpa[dP]using hr))
def iQ (σ:ar) (O:Id) (g:Rows) (n:Nat):Prop:=σ.next<=n/\(∀x:Id,x.bQ<σ.next->x≠O->g x=σ.get x)/\∃rows,g O=some ⟨true,mP.pG,rows⟩/\OW rows
theorem iQ.Dt {σ:ar} {g:Rows} {n:Nat} {c T O:Id} {s:az} {ts:List ad} (h:AS σ.get σ.next c T O s ts) (hc:c≠O) (hT:T≠O) (k:iQ σ O g n):AS g n c T O s ts:=
 h.frame k.1 (k.2.1 _ h.cv hc) (k.2.1 _ h.tv hT)
theorem iQ.trans {a b:ar} {O:Id} {g:Rows} {n:Nat} (h:iQ a O b.get b.next) (k:iQ b O g n):iQ a O g n:=
 ⟨Nat.le_trans h.1 k.1,fun x hx hO=>(k.2.1 x (Nat.lt_of_lt_of_le hx h.1) hO).trans (h.2.1 x hx hO),k.2.2⟩
theorem iQ.frame {a:ar} {O:Id} {g g':Rows} {n n' m:Nat} (h:iQ a O g n) (ha:a.next<=m) (ho:O.bQ<m) (hn:n<=n') (hf:∀x:Id,x.bQ<m->g' x=g x):iQ a O g' n':=by
 refine⟨Nat.le_trans h.1 hn,fun x hx hO=>(hf x (Nat.lt_of_lt_of_le hx ha)).trans (h.2.1 x hx hO),?_⟩
 obtain⟨rows,h1,h2⟩:=h.2.2
 exact⟨rows,(hf O ho).trans h1,h2⟩
theorem iQ.write {a:ar} {O:Id} {g g':Rows} {n n':Nat} (h:iQ a O g n) (hn:n<=n') (hf:∀x:Id,x.bQ<a.next->x≠O->g' x=g x) {rows:List (List AV)} (ho:g' O=some ⟨true,mP.pG,rows⟩) (hw:OW rows):iQ a O g' n':=
 ⟨Nat.le_trans h.1 hn,fun x hx hO=>(hf x hx hO).trans (h.2.1 x hx hO),rows,ho,hw⟩
theorem I3 {σ:ar} {c T O:Id} {s:az} {ts:List ad} (h:AS σ.get σ.next c T O s ts) (hS:iy s.aH) (hF:∀q,0<=gQ ts q->dY s.aH (gQ ts q)=true) (p:aL) (t:Int) (ht:dY s.aH t=true):
  gy (Call Tryz.prog) 133 [.ptr c 0 0,.agg (ah p),.int .i64 t] σ (fun r=>r=.bool (iC s ts p t)):=by
 unfold gy PC
 exact Or.inl (aJ _ _ _ _ _ (fun r σ' hr=>⟨_,by rw[hr];exact bq _ _ _,rfl⟩) (Oa (σ:=⟨V.ro σ.get,σ.next⟩) h.ro hS hF p t ht))
theorem rV {σ:ar} {c T O:Id} {s:az} {ts:List ad} (h:AS σ.get σ.next c T O s ts) (hc:c≠O) (hT:T≠O) (hO:∃rows,σ.get O=some ⟨true,mP.pG,rows⟩/\OW rows) (hS:iy s.aH) (hF:∀q,0<=gQ ts q->dY s.aH (gQ ts q)=true) (p:aL) (hx:iB p.fb) (hy:iB p.eV):
  Call Tryz.prog 127 [.ptr c 0 0,.agg (ah p)] σ (fun r σ'=>r=.gE []/\iQ σ O σ'.get σ'.next):=by
 refine eQ eK rfl fun kd=>?_
 clear kd
 have FK:=hS.F9
 have h0:iQ σ O σ.get σ.next:=⟨Nat.le_refl _,fun _ _ _=>rfl,hO⟩
 (try((repeat(revert hN;revert N;apply Pn.out));refine wk @ah.eq_1 ?_;(repeat(refine Pn.mk ?_;intro N hN))))
 refine aZ (fun n env st=>∃k:Nat,n=(4)-k/\k<=(4)/\env 8=.int .i64 (k:Int)/\st.get ⟨127000000,σ.next⟩=some ⟨true,2,[ah p]⟩/\(σ.next<st.next/\iQ σ O st.get st.next)) (4) ⟨0,by omega,by omega,sl @ah.eq_1,sl @ah.eq_1,⟨by(try dsimp only);omega,h0.frame (Nat.le_refl _) h.ov (by(try dsimp only);omega) fun x hx=>by
  have:=dr hx
  simp only[go_sem, ↓reduceIte,Nat.reduceEqDiff,Nat.reduceAdd,Nat.reduceSub,Nat.reduceLeDiff,reduceCtorEq,this]⟩⟩ ?_
 rintro n_a env_a st_a ⟨k,rfl,ale,a8,ag0,j4⟩ dx
 have a0:=dx 0 (by kernel_rfl);have a3:=dx 3 (by kernel_rfl)
 simp only[go_sem, ↓reduceIte,Nat.reduceEqDiff,Nat.reduceAdd,Nat.reduceSub,Nat.reduceLeDiff,reduceCtorEq,ah]at a0 a3
 clear dx
 obtain⟨an,ak⟩:=j4
 have ha:=ak.Dt h hc hT
 by_cases hk:(k:Int)<4
 ·have cz:∀{e:Env} {gg:Rows} {nx:Nat},(e 8=.int .i64 (IntKind.i64.wrap ((k:Int)+1)))->(gg ⟨127000000,σ.next⟩=some ⟨true,2,[ah p]⟩)->(σ.next<nx/\iQ σ O gg nx)->∃m0,m0<(4)-k/\∃k:Nat,m0=(4)-k/\k<=(4)/\e 8=.int .i64 (k:Int)/\gg ⟨127000000,σ.next⟩=some ⟨true,2,[ah p]⟩/\(σ.next<nx/\iQ σ O gg nx):=fun x1 x2 x3=>⟨_,by omega,k+1,rfl,by omega,(by rw[x1,aA (by omega)]),x2,x3⟩
  have dK:=Ap p k (iN (by omega)) hx hy
  obtain⟨b,h1⟩:=ha.row
  have v1:=dr ha.cv
  (repeat(first|((repeat(revert hN;revert N;apply Pn.out));refine wk (tw @a8 (tw @ag0 (tw @a0 (tw @a3 (tw @hk (tw @h1 (tw @v1 @ah.eq_1))))))) ?_;(repeat(refine Pn.mk ?_;intro N hN)))|((try apply Or.inl);refine⟨_,aq.x (dK) (sd (tw @a8 (tw @ag0 (tw @a0 (tw @a3 (tw @hk (tw @h1 (tw @v1 @ah.eq_1)))))))),?_⟩;refine hN _ _ ?_;clear hN N)))
  refine aZ (fun n env st=>∃t:Nat,n=(s.aH.ai.length)-t/\t<=(s.aH.ai.length)/\env 21=.int .i64 (t:Int)/\st.get ⟨127000000,σ.next⟩=some ⟨true,2,[ah p]⟩/\st.get ⟨127004003,st_a.next+1+1⟩=some ⟨true,2,[ah (dp p k)]⟩/\(st_a.next+3<=st.next/\iQ σ O st.get st.next/\(env 6=.bE∨∃(o:Id) (n:Nat) (rows:List (List AV)),env 6=.own o 0 n/\st.get o=some ⟨true,1,rows⟩/\rows.length=n/\0<n/\n<=t/\st_a.next+3<=o.bQ/\o.bQ<st.next))) (s.aH.ai.length) ⟨0,by omega,by omega,sl (tw @a8 (tw @ag0 (tw @a0 (tw @a3 @ah.eq_1)))),sl (tw @a8 (tw @ag0 (tw @a0 (tw @a3 @ah.eq_1)))),sl (tw @a8 (tw @ag0 (tw @a0 (tw @a3 @ah.eq_1)))),⟨by(try dsimp only);omega,ak.frame ak.1 ha.ov (by(try dsimp only);omega) fun x hx=>(by
   have:=dr hx
   simp only[go_sem, ↓reduceIte,Nat.reduceEqDiff,Nat.reduceAdd,Nat.reduceSub,Nat.reduceLeDiff,reduceCtorEq,this]),.inl (sd @Nat.zero_add)⟩⟩ ?_
  rintro n_b env_b st_b ⟨t,rfl,ble,b21,bg0,bg1,bI0⟩ fU
  have b0:=fU 0 (by kernel_rfl);have b3:=fU 3 (by kernel_rfl);have b5:=fU 5 (by kernel_rfl);have b8:=fU 8 (by kernel_rfl);have HW:=fU 20 (by kernel_rfl)
  simp only[go_sem, ↓reduceIte,Nat.reduceEqDiff,Nat.reduceAdd,Nat.reduceSub,Nat.reduceLeDiff,reduceCtorEq,a8,ag0,a0,a3,ah]at b0 b3 b5 b8 HW
  clear fU
  obtain⟨bn,bk,b6⟩:=bI0
  have OC:=bk.Dt h hc hT
  obtain⟨b2,h2⟩:=OC.row
  have v2:=dr OC.cv
  have vt:=dr (i:=⟨127000000,σ.next⟩) (n:=st_b.next) (by(try dsimp only);omega)
  have vq:=dr (i:=⟨127004003,st_a.next+1+1⟩) (n:=st_b.next) (by(try dsimp only);omega)
  by_cases ht:(t:Int)<(s.aH.ai.length:Int)
  ·have gj:∀{e:Env} {gg:Rows} {nx:Nat},(e 21=.int .i64 (IntKind.i64.wrap ((t:Int)+1)))->(gg ⟨127000000,σ.next⟩=some ⟨true,2,[ah p]⟩)->(gg ⟨127004003,st_a.next+1+1⟩=some ⟨true,2,[ah (dp p k)]⟩)->(st_a.next+3<=nx/\iQ σ O gg nx/\(e 6=.bE∨∃(o:Id) (n:Nat) (rows:List (List AV)),e 6=.own o 0 n/\gg o=some ⟨true,1,rows⟩/\rows.length=n/\0<n/\n<=(t+1)/\st_a.next+3<=o.bQ/\o.bQ<nx))->∃m0,m0<(s.aH.ai.length)-t/\∃t:Nat,m0=(s.aH.ai.length)-t/\t<=(s.aH.ai.length)/\e 21=.int .i64 (t:Int)/\gg ⟨127000000,σ.next⟩=some ⟨true,2,[ah p]⟩/\gg ⟨127004003,st_a.next+1+1⟩=some ⟨true,2,[ah (dp p k)]⟩/\(st_a.next+3<=nx/\iQ σ O gg nx/\(e 6=.bE∨∃(o:Id) (n:Nat) (rows:List (List AV)),e 6=.own o 0 n/\gg o=some ⟨true,1,rows⟩/\rows.length=n/\0<n/\n<=t/\st_a.next+3<=o.bQ/\o.bQ<nx)):=fun x1 x2 x3 x4=>⟨_,by omega,t+1,rfl,by omega,(by rw[x1,aA (by omega)]),x2,x3,x4⟩
   have RS:t<s.aH.ai.length:=by omega
   (try((repeat(revert hN;revert N;apply Pn.out));refine wk (tw @b21 (tw @bg0 (tw @bg1 (tw @b0 (tw @b3 (tw @b5 (tw @b8 (tw @HW (tw @ht (tw @h2 (tw @v2 (tw @vt (tw @vq @ah.eq_1))))))))))))) ?_;(repeat(refine Pn.mk ?_;intro N hN))))
   refine .inl ⟨_,I3 (OC.frame (by(try dsimp only);omega) (sd @v2) (by(have:=dr OC.tv);simp only[go_sem, ↓reduceIte,Nat.reduceEqDiff,Nat.reduceAdd,Nat.reduceSub,Nat.reduceLeDiff,reduceCtorEq,this])) hS hF (dp p k) t (KD RS),?_⟩
   refine hN _ _ ?_
   clear hN N
   have jz:∀x:Id,x.bQ<st_b.next->x≠⟨127010002,st_b.next+1+1+1⟩:=fun x hx h=>by rw[h]at hx;(try dsimp only at hx);omega
   cases hb:iC s ts (dp p k) t
   ·(try((repeat(revert hN;revert N;apply Pn.out));refine wk (tw @b21 (tw @bg0 (tw @bg1 (tw @b0 (tw @b3 (tw @b5 (tw @b8 (tw @HW @hb)))))))) ?_;(repeat(refine Pn.mk ?_;intro N hN))))
    refine gj ?_ ?_ ?_ (by(try dsimp only);exact⟨by omega,bk.frame bk.1 OC.ov (by omega) (fun x hx=>by
      have h1:=dr (i:=x) (n:=st_b.next) (by omega)
      simp only[go_sem, ↓reduceIte,Nat.reduceEqDiff,Nat.reduceAdd,Nat.reduceSub,Nat.reduceLeDiff,reduceCtorEq,h1]),by
     rcases b6 with h|⟨o,n,rows,h1,h2,h3,h4,h5,h6,h7⟩
     ·exact .inl (sd @h)
     ·have h8:=dr h7
      exact .inr ⟨o,n,rows,sd @h1,sd (tw @h2 @h8),h3,h4,by omega,h6,by omega⟩⟩)
    all_goals simp only[go_sem, ↓reduceIte,Nat.reduceEqDiff,Nat.reduceAdd,Nat.reduceSub,Nat.reduceLeDiff,reduceCtorEq,b21,bg0,bg1,b0,b3,b5,b8,HW,ah,vt,vq]
   ·rcases b6 with b6|⟨o,n,rows,b6,bo,o3,o4,o5,o6,o7⟩
    ·(try((repeat(revert hN;revert N;apply Pn.out));refine wk (tw @b21 (tw @bg0 (tw @bg1 (tw @b0 (tw @b3 (tw @b5 (tw @b8 (tw @HW (tw @b6 @hb))))))))) ?_;(repeat(refine Pn.mk ?_;intro N hN))))
     refine gj ?_ ?_ ?_ (by(try dsimp only);exact⟨by omega,bk.frame (m:=st_a.next) ak.1 ha.ov (by omega) (fun x hx=>by
      have h1:=dr (i:=x) (n:=st_b.next) (by omega)
      simp only[go_sem, ↓reduceIte,Nat.reduceEqDiff,Nat.reduceAdd,Nat.reduceSub,Nat.reduceLeDiff,reduceCtorEq,h1]),.inr ⟨⟨127010003,st_b.next+1+1+1⟩,1,[[.int .i64 t]],sl @Nat.zero_add,sd @Nat.zero_add,rfl,by omega,by omega,by(try dsimp only);omega,by(try dsimp only);omega⟩⟩)
     all_goals simp only[go_sem, ↓reduceIte,Nat.reduceEqDiff,Nat.reduceAdd,Nat.reduceSub,Nat.reduceLeDiff,reduceCtorEq,b21,bg0,bg1,b0,b3,b5,b8,HW,ah,vt,vq]
    ·subst o3
     have e1:rows.length<=16777215:=by omega
     have vo:=dr o7
     have vto:=bU (a:=⟨127000000,σ.next⟩) (b:=o) (by(try dsimp only);omega)
     have vqo:=bU (a:=⟨127004003,st_a.next+1+1⟩) (b:=o) (by(try dsimp only);omega)
     (try((repeat(revert hN;revert N;apply Pn.out));refine wk (tw @b21 (tw @bg0 (tw @bg1 (tw @b0 (tw @b3 (tw @b5 (tw @b8 (tw @HW (tw @b6 (tw @bo (tw @hb (tw @e1 @vo)))))))))))) ?_;(repeat(refine Pn.mk ?_;intro N hN))))
     refine gj ?_ ?_ ?_ (by(try dsimp only);exact⟨by omega,bk.frame (m:=st_a.next) ak.1 ha.ov (by omega) (fun x hx=>by
      have h1:=dr (i:=x) (n:=st_b.next) (by omega)
      have h2:=bU (a:=x) (b:=o) (by omega)
      simp only[go_sem, ↓reduceIte,Nat.reduceEqDiff,Nat.reduceAdd,Nat.reduceSub,Nat.reduceLeDiff,reduceCtorEq,h1,h2]),.inr ⟨⟨127010003,st_b.next+1+1+1⟩,rows.length+1,rows++[[.int .i64 t]],sl @Nat.zero_add,sd @Nat.zero_add,by simp,by omega,by omega,by(try dsimp only);omega,by(try dsimp only);omega⟩⟩)
     all_goals simp only[go_sem, ↓reduceIte,Nat.reduceEqDiff,Nat.reduceAdd,Nat.reduceSub,Nat.reduceLeDiff,reduceCtorEq,b21,bg0,bg1,b0,b3,b5,b8,HW,ah,vt,vq,vto,vqo]
  ·obtain⟨rows,hg,Vo⟩:=bk.2.2
   have vo:=dr OC.ov
   obtain⟨fi,BG⟩:=Cs Vo (dp p k).fb (dp p k).eV
   have hq:((⟨127000000,σ.next⟩:Id)=O)=False:=(bU (a:=O) (b:=⟨127000000,σ.next⟩) (by have:=h.ov;(try dsimp only);omega)).2
   rcases b6 with b6|⟨o,n,NC,b6,bo,o3,o4,o5,o6,o7⟩
   ·have d0:decide ((0:Int)<((0:Nat):Int))=false:=rfl
    (try((repeat(revert hN;revert N;apply Pn.out));refine wk (tw @b21 (tw @bg0 (tw @bg1 (tw @b0 (tw @b3 (tw @b5 (tw @b8 (tw @HW (tw @b6 (tw @ht (tw @h2 (tw @v2 (tw @vt (tw @vq (tw @vo (tw @hg (tw @BG (tw @ah.eq_1 @d0)))))))))))))))))) ?_;(repeat(refine Pn.mk ?_;intro N hN))))
    refine cz ?_ ?_ (by(try dsimp only);exact⟨by omega,bk.write (by omega) (fun x hx Nw=>by
     have h1:=dr (i:=x) (n:=st_b.next) (by omega)
     have h2:(x=O)=False:=eq_false Nw
     simp only[go_sem, ↓reduceIte,Nat.reduceEqDiff,Nat.reduceAdd,Nat.reduceSub,Nat.reduceLeDiff,reduceCtorEq,h1,h2]) (sl @Nat.zero_add) (J6 Vo _)⟩)
    all_goals simp only[go_sem, ↓reduceIte,Nat.reduceEqDiff,Nat.reduceAdd,Nat.reduceSub,Nat.reduceLeDiff,reduceCtorEq,a8,ag0,a0,a3,b21,bg0,bg1,b0,b3,b5,b8,HW,ah,vt,vo,hq]
   ·have d1:decide ((0:Int)<(n:Int))=true:=decide_eq_true (by omega)
    (try((repeat(revert hN;revert N;apply Pn.out));refine wk (tw @b21 (tw @bg0 (tw @bg1 (tw @b0 (tw @b3 (tw @b5 (tw @b8 (tw @HW (tw @b6 (tw @ht (tw @h2 (tw @v2 (tw @vt (tw @vq (tw @vo (tw @hg (tw @BG (tw @ah.eq_1 @d1)))))))))))))))))) ?_;(repeat(refine Pn.mk ?_;intro N hN))))
    refine cz ?_ ?_ (by(try dsimp only);exact⟨by omega,bk.write (by omega) (fun x hx Nw=>by
     have h1:=dr (i:=x) (n:=st_b.next) (by omega)
     have h2:(x=O)=False:=eq_false Nw
     simp only[go_sem, ↓reduceIte,Nat.reduceEqDiff,Nat.reduceAdd,Nat.reduceSub,Nat.reduceLeDiff,reduceCtorEq,h1,h2]) (sl @Nat.zero_add) (Pr Vo _ _ _ _)⟩)
    all_goals simp only[go_sem, ↓reduceIte,Nat.reduceEqDiff,Nat.reduceAdd,Nat.reduceSub,Nat.reduceLeDiff,reduceCtorEq,a8,ag0,a0,a3,b21,bg0,bg1,b0,b3,b5,b8,HW,ah,vt,vo,hq]
 ·(try((repeat(revert hN;revert N;apply Pn.out));refine wk (tw @a8 (tw @ag0 (tw @a0 (tw @a3 @hk)))) ?_;(repeat(refine Pn.mk ?_;intro N hN))))
  exact eX (.inr rfl) (vs:=[]) rfl ⟨rfl,ak.frame ak.1 ha.ov (by(try dsimp only);omega) (fun x hx=>rfl)⟩
end Go.Proofs.YtgoelphibofcmaaGreat.V

namespace Go.Proofs.YtgoelphibofcmaaGreat.V
open Go.RowKit
attribute [local irreducible] dO wpOps gy Call
attribute [local go_sem] aT fK eS ga fZ dj upd cF K.av cP AV.cells AV.cell rowOf rowsOf part ld rowAt bL cD dG ef ik bV de ew fW fe dw ek dc db dU dV cj bl cU b4 cW cV ei eo ej cR cm dd eh bW aV cZ cI ij bx cK ck bd du bj dI AV.undef bH bS dW eb dQ dP cJ ev eE cH er ep cY da List.getD_cons_zero List.getD_cons_succ List.getD_nil List.all_cons List.all_nil Bool.and_true Bool.true_and Bool.and_self Bool.not_true Bool.not_false Option.map_some Option.map_none Option.bind_some Option.bind_none List.length_cons List.length_nil List.take_succ_cons List.take_zero List.take_nil List.drop_succ_cons List.drop_zero List.drop_nil List.head?_cons List.map_cons List.map_nil List.getElem?_cons_zero List.getElem?_cons_succ List.cons_append List.nil_append List.append_nil List.length_map List.set_cons_zero List.set_cons_succ Nat.reduceMul eq_self Int.toNat_natCast Int.natCast_nonneg and_self true_and and_true decide_true decide_false Bool.false_eq_true Nat.zero_add Nat.add_zero List.contains_cons List.contains_nil Bool.or_false Bool.false_or beq_self_eq_true Nat.reduceBEq ne_eq not_true_eq_false not_false_eq_true Id.mk.injEq false_and and_false Nat.reduceLT Int.reduceLE Int.reduceLT Int.reduceToNat Int.reduceNeg Int.reduceAdd Nat.le_refl List.length_append beq_true beq_false Bool.not_eq_eq_eq_not or_false false_or dR ae aj aI bq bG cC aY bh aW bp cQ bJ
structure jH (g:Rows) (n:Nat) (c T O:Id) (s:az) (ts:List ad):Prop where
 row:g c=some ⟨true,6,[[.sl (s.aH.ax.map bR),.sl (s.aH.ai.map bB),.sl (s.bf.ai.map aa),.int .i64 s.ay,.map T mP,.map O mP]]⟩
 tl:g T=some ⟨true,mP.pG,ts.map aa⟩
 op:∃rows,g O=some ⟨true,mP.pG,rows⟩/\OW rows
 cv:c.bQ<n
 tv:T.bQ<n
 ov:O.bQ<n
 cT:c≠T
 cO:c≠O
 TO:T≠O
theorem jH.Dt {g:Rows} {n:Nat} {c T O:Id} {s:az} {ts:List ad} (h:jH g n c T O s ts):AS g n c T O s ts:=⟨⟨_,h.row⟩,⟨_,h.tl⟩,h.cv,h.tv,h.ov⟩
theorem jH.look {σ:ar} {g:Rows} {n:Nat} {c T O:Id} {s:az} {ts:List ad} (h:jH σ.get σ.next c T O s ts) (k:iQ σ O g n):jH g n c T O s ts:=
 ⟨(k.2.1 _ h.cv h.cO).trans h.row,(k.2.1 _ h.tv h.TO).trans h.tl,k.2.2,Nat.lt_of_lt_of_le h.cv k.1,Nat.lt_of_lt_of_le h.tv k.1,Nat.lt_of_lt_of_le h.ov k.1,h.cT,h.cO,h.TO⟩
theorem jH.frame {g g':Rows} {n n':Nat} {c T O:Id} {s:az} {ts:List ad} (h:jH g n c T O s ts) (hn:n<=n') (hf:∀x:Id,x.bQ<n->g' x=g x):jH g' n' c T O s ts:=
 ⟨(hf _ h.cv).trans h.row,(hf _ h.tv).trans h.tl,by rw[hf _ h.ov];exact h.op,Nat.lt_of_lt_of_le h.cv hn,Nat.lt_of_lt_of_le h.tv hn,Nat.lt_of_lt_of_le h.ov hn,h.cT,h.cO,h.TO⟩
def TV (σ:ar) (s:az) (ts:List ad) (r:AV) (σ':ar):Prop:=
 ∃c T O:Id,r=.ptr c 0 0/\jH σ'.get σ'.next c T O s ts/\σ.next<=c.bQ/\σ.next<=T.bQ/\σ.next<=O.bQ/\σ.next<=σ'.next/\∀x:Id,x.bQ<σ.next->σ'.get x=σ.get x
theorem BT {l:List ad} {p:aL}:eR l p<0↔∀t∈l,t.aQ≠p:=by
 unfold eR pY
 by_cases h:(l.findIdx fun c=>decide (c.aQ=p))<l.length
 ·rw[if_pos h]
  obtain⟨t,ht,h2⟩:=List.findIdx_lt_length.1 h
  exact⟨fun h=>by omega,fun h=>absurd (by simpa using h2) (h t ht)⟩
 ·rw[if_neg h]
  exact⟨fun _ t ht e=>h (List.findIdx_lt_length.2 ⟨t,ht,by simp[e]⟩),fun _=>by omega⟩
theorem KC {l:List ad} (h:pR l) {k:Nat} (hk:k<l.length):eR (l.take k) (aD l k).aQ<0:=by
 rw[BT]
 intro t ht e
 obtain⟨j,hj,rfl⟩:=List.getElem_of_mem ht
 have K7:j<k:=by rw[List.length_take]at hj;omega
 have:=h j k K7 hk
 rw[List.getElem_take]at e
 have e2:aD l j=l[j]'(by omega):=by unfold aD;rw[List.getD_eq_getElem?_getD,List.getElem?_eq_getElem (by omega)];rfl
 rw[e2,e]at this
 simp[jO]at this
theorem MO {l:List ad} {k:Nat} (hk:k<l.length):(l.take k).map aa++[[.int .i64 (aD l k).aQ.fb,.int .i64 (aD l k).aQ.eV,.int .i64 (aD l k).aO]]=(l.take (k+1)).map aa:=by
 have e2:aD l k=l[k]:=by unfold aD;rw[List.getD_eq_getElem?_getD,List.getElem?_eq_getElem hk];rfl
 rw[List.take_succ_eq_append_getElem hk,List.map_append,e2]
 rfl
theorem iy.A4 {s:aw} {l:List ad} (hA:lu s l):∀q,0<=gQ l q->dY s (gQ l q)=true:=fun _ h=>AZ hA h
theorem r6 (s:az) (hS:iy s.aH) (l:List ad) (hA:lu s.aH l) (σ:ar):Call Tryz.prog 73 [.agg (au s),.agg [.sl (l.map aa)]] σ (TV σ s l):=by
 refine eQ eK rfl fun kd=>?_
 clear kd
 have OF:=hA.1.xx
 (try((repeat(revert hN;revert N;apply Pn.out));refine wk @au.eq_1 ?_;(repeat(refine Pn.mk ?_;intro N hN))))
 refine aZ (fun n env st=>∃k:Nat,n=(l.length)-k/\k<=(l.length)/\env 18=.int .i64 (k:Int)/\st.get ⟨73001004,σ.next+1⟩=some ⟨true,6,[[.sl (s.aH.ax.map bR),.sl (s.aH.ai.map bB),.sl (s.bf.ai.map aa),.int .i64 s.ay,.map ⟨73001001,σ.next+1⟩ mP,.map ⟨73001002,σ.next+1⟩ mP]]⟩/\st.get ⟨73001001,σ.next+1⟩=some ⟨true,mP.pG,(l.take k).map aa⟩/\st.get ⟨73001002,σ.next+1⟩=some ⟨true,mP.pG,[]⟩/\st.get ⟨73000001,σ.next⟩=some ⟨true,1,[[.sl (l.map aa)]]⟩/\(σ.next+3<=st.next/\∀x:Id,x.bQ<σ.next->st.get x=σ.get x)) (l.length) ⟨0,by omega,by omega,sl @Nat.zero_add,sl @Nat.zero_add,sl @Nat.zero_add,sl @Nat.zero_add,sl @Nat.zero_add,⟨by(try dsimp only);omega,fun x hx=>by
  have:=dr hx
  simp only[go_sem, ↓reduceIte,Nat.reduceEqDiff,Nat.reduceAdd,Nat.reduceSub,Nat.reduceLeDiff,reduceCtorEq,this]⟩⟩ ?_
 rintro n_a env_a st_a ⟨k,rfl,ale,a18,ag0,ag1,ag2,ag3,j4⟩ dx
 have a3:=dx 3 (by kernel_rfl);have a5:=dx 5 (by kernel_rfl);have Qf:=dx 16 (by kernel_rfl);have a17:=dx 17 (by kernel_rfl)
 simp only[go_sem, ↓reduceIte,Nat.reduceEqDiff,Nat.reduceAdd,Nat.reduceSub,Nat.reduceLeDiff,reduceCtorEq]at a3 a5 Qf a17
 clear dx
 obtain⟨an,dx⟩:=j4
 have v1:=dr (i:=⟨73001004,σ.next+1⟩) (n:=st_a.next) (by(try dsimp only);omega)
 have v2:=dr (i:=⟨73001001,σ.next+1⟩) (n:=st_a.next) (by(try dsimp only);omega)
 have v3:=dr (i:=⟨73001002,σ.next+1⟩) (n:=st_a.next) (by(try dsimp only);omega)
 have v4:=dr (i:=⟨73000001,σ.next⟩) (n:=st_a.next) (by(try dsimp only);omega)
 by_cases hk:(k:Int)<(l.length:Int)
 ·have cz:∀{e:Env} {gg:Rows} {nx:Nat},(e 18=.int .i64 (IntKind.i64.wrap ((k:Int)+1)))->(gg ⟨73001004,σ.next+1⟩=some ⟨true,6,[[.sl (s.aH.ax.map bR),.sl (s.aH.ai.map bB),.sl (s.bf.ai.map aa),.int .i64 s.ay,.map ⟨73001001,σ.next+1⟩ mP,.map ⟨73001002,σ.next+1⟩ mP]]⟩)->(gg ⟨73001001,σ.next+1⟩=some ⟨true,mP.pG,(l.take (k+1)).map aa⟩)->(gg ⟨73001002,σ.next+1⟩=some ⟨true,mP.pG,[]⟩)->(gg ⟨73000001,σ.next⟩=some ⟨true,1,[[.sl (l.map aa)]]⟩)->(σ.next+3<=nx/\∀x:Id,x.bQ<σ.next->gg x=σ.get x)->∃m0,m0<(l.length)-k/\∃k:Nat,m0=(l.length)-k/\k<=(l.length)/\e 18=.int .i64 (k:Int)/\gg ⟨73001004,σ.next+1⟩=some ⟨true,6,[[.sl (s.aH.ax.map bR),.sl (s.aH.ai.map bB),.sl (s.bf.ai.map aa),.int .i64 s.ay,.map ⟨73001001,σ.next+1⟩ mP,.map ⟨73001002,σ.next+1⟩ mP]]⟩/\gg ⟨73001001,σ.next+1⟩=some ⟨true,mP.pG,(l.take k).map aa⟩/\gg ⟨73001002,σ.next+1⟩=some ⟨true,mP.pG,[]⟩/\gg ⟨73000001,σ.next⟩=some ⟨true,1,[[.sl (l.map aa)]]⟩/\(σ.next+3<=nx/\∀x:Id,x.bQ<σ.next->gg x=σ.get x):=fun x1 x2 x3 x4 x5 x6=>⟨_,by omega,k+1,rfl,by omega,(by rw[x1,aA (by omega)]),x2,x3,x4,x5,x6⟩
  have fM:k<l.length:=by omega
  have hg:=fE fM
  have hm:=qT (KC hA.1.Kl fM)
  have s9:=MO fM
  (try((repeat(revert hN;revert N;apply Pn.out));refine wk (tw @a18 (tw @ag0 (tw @ag1 (tw @ag2 (tw @ag3 (tw @a3 (tw @a5 (tw @Qf (tw @a17 (tw @hk (tw @hg (tw @hm (tw @v1 (tw @v2 (tw @v3 (tw @v4 @aa.eq_1)))))))))))))))) ?_;(repeat(refine Pn.mk ?_;intro N hN))))
  refine cz ?_ ?_ ?_ ?_ ?_ (by(try dsimp only);exact⟨by omega,fun x hx=>by
   have h1:=dr (i:=x) (n:=st_a.next) (by omega)
   have h2:=bU (a:=x) (b:=⟨73001001,σ.next+1⟩) (by(try dsimp only);omega)
   have h3:=dx x hx
   simp only[go_sem, ↓reduceIte,Nat.reduceEqDiff,Nat.reduceAdd,Nat.reduceSub,Nat.reduceLeDiff,reduceCtorEq,h1,h2,h3]⟩)
  all_goals simp only[go_sem, ↓reduceIte,Nat.reduceEqDiff,Nat.reduceAdd,Nat.reduceSub,Nat.reduceLeDiff,reduceCtorEq,a18,ag0,ag1,ag2,ag3,a3,a5,Qf,a17,aa,v1,v2,v3,v4,s9]
 ·have l6:k=l.length:=by omega
  subst l6
  have nU:l.take l.length=l:=List.take_length
  (try((repeat(revert hN;revert N;apply Pn.out));refine wk (tw @a18 (tw @ag0 (tw @ag1 (tw @ag2 (tw @ag3 (tw @a3 (tw @a5 (tw @Qf (tw @a17 (tw @hk (tw @v1 (tw @v2 (tw @v3 @v4))))))))))))) ?_;(repeat(refine Pn.mk ?_;intro N hN))))
  refine aZ (fun n env st=>∃j:Nat,n=(l.length)-j/\j<=(l.length)/\env 34=.int .i64 (j:Int)/\(σ.next+3<=st.next/\jH st.get st.next ⟨73001004,σ.next+1⟩ ⟨73001001,σ.next+1⟩ ⟨73001002,σ.next+1⟩ s l/\∀x:Id,x.bQ<σ.next->st.get x=σ.get x)) (l.length) ⟨0,by omega,by omega,sl (tw @a18 (tw @ag0 (tw @ag1 (tw @ag2 (tw @ag3 (tw @a3 (tw @a5 (tw @Qf @a17)))))))),by(try dsimp only);exact⟨by omega,⟨sd @ag0,sd (tw @ag1 @nU),⟨[],sd @ag2,by intro r hr;cases hr⟩,by(try dsimp only);omega,by(try dsimp only);omega,by(try dsimp only);omega,(by intro e;injection e with e1 e2;revert e1;decide),(by intro e;injection e with e1 e2;revert e1;decide),(by intro e;injection e with e1 e2;revert e1;decide)⟩,fun x hx=>by
   have h3:=dx x hx
   simp only[go_sem, ↓reduceIte,Nat.reduceEqDiff,Nat.reduceAdd,Nat.reduceSub,Nat.reduceLeDiff,reduceCtorEq,h3]⟩⟩ ?_
  rintro n_b env_b st_b ⟨j,rfl,ble,b34,bI0⟩ fU
  have b5:=fU 5 (by kernel_rfl);have tO:=fU 32 (by kernel_rfl);have ur:=fU 33 (by kernel_rfl)
  simp only[go_sem, ↓reduceIte,Nat.reduceEqDiff,Nat.reduceAdd,Nat.reduceSub,Nat.reduceLeDiff,reduceCtorEq,a18,ag0,ag1,ag2,ag3,a3,a5,Qf,a17]at b5 tO ur
  clear fU
  obtain⟨bn,bC,fU⟩:=bI0
  by_cases hj:(j:Int)<(l.length:Int)
  ·have gj:∀{e:Env} {gg:Rows} {nx:Nat},(e 34=.int .i64 (IntKind.i64.wrap ((j:Int)+1)))->(σ.next+3<=nx/\jH gg nx ⟨73001004,σ.next+1⟩ ⟨73001001,σ.next+1⟩ ⟨73001002,σ.next+1⟩ s l/\∀x:Id,x.bQ<σ.next->gg x=σ.get x)->∃m0,m0<(l.length)-j/\∃j:Nat,m0=(l.length)-j/\j<=(l.length)/\e 34=.int .i64 (j:Int)/\(σ.next+3<=nx/\jH gg nx ⟨73001004,σ.next+1⟩ ⟨73001001,σ.next+1⟩ ⟨73001002,σ.next+1⟩ s l/\∀x:Id,x.bQ<σ.next->gg x=σ.get x):=fun x1 x2=>⟨_,by omega,j+1,rfl,by omega,(by rw[x1,aA (by omega)]),x2⟩
   have iH:j<l.length:=by omega
   have hg:=fE iH
   have D7:=oZ (hA.1.pt iH)
   (try((repeat(revert hN;revert N;apply Pn.out));refine wk (tw @b34 (tw @b5 (tw @tO (tw @ur (tw @hj (tw @hg @aa.eq_1)))))) ?_;(repeat(refine Pn.mk ?_;intro N hN))))
   have Q6:jH (bL (bL st_b.get ⟨73009002,st_b.next+1⟩ ⟨true,3,[[.int .i64 0,.int .i64 0,.int .i64 0]]⟩) ⟨73009002,st_b.next+1⟩ ⟨true,3,[[.int .i64 (aD l j).aQ.fb,.int .i64 (aD l j).aQ.eV,.int .i64 (aD l j).aO]]⟩) (st_b.next+1+1+1) ⟨73001004,σ.next+1⟩ ⟨73001001,σ.next+1⟩ ⟨73001002,σ.next+1⟩ s l:=bC.frame (by omega) fun x hx=>by
    have h1:=dr hx
    simp only[go_sem, ↓reduceIte,Nat.reduceEqDiff,Nat.reduceAdd,Nat.reduceSub,Nat.reduceLeDiff,reduceCtorEq,h1]
   refine .inr (aJ _ _ _ _ _ (fun r σ1 hq=>?_) (rV (σ:=⟨bL (bL st_b.get ⟨73009002,st_b.next+1⟩ ⟨true,3,[[.int .i64 0,.int .i64 0,.int .i64 0]]⟩) ⟨73009002,st_b.next+1⟩ ⟨true,3,[[.int .i64 (aD l j).aQ.fb,.int .i64 (aD l j).aQ.eV,.int .i64 (aD l j).aO]]⟩,st_b.next+1+1+1⟩) Q6.Dt Q6.cO Q6.TO Q6.op hS (iy.A4 hA) (aD l j).aQ D7.1 D7.2))
   obtain⟨g1,x1⟩:=σ1
   obtain⟨rfl,hL⟩:=hq
   (try dsimp only at hL)
   have DN:=Q6.look hL
   have hLn:=hL.1
   have hLf:=hL.2.1
   (try dsimp only at hLn hLf)
   refine hN _ _ ?_
   clear hN N
   (try((repeat(revert hN;revert N;apply Pn.out));refine wk (tw @b34 (tw @b5 (tw @tO @ur))) ?_;(repeat(refine Pn.mk ?_;intro N hN))))
   exact gj (sd (tw @b34 (tw @b5 (tw @tO @ur)))) (by(try dsimp only);exact⟨by omega,DN.frame (by omega) (fun x hx=>rfl),fun x hx=>by
    have h1:=dr (i:=x) (n:=st_b.next) (by omega)
    have h2:=hLf x (by omega) (fun e=>by rw[e]at hx;(try dsimp only at hx);omega)
    have h3:=fU x hx
    simp only[h2]
    simp only[go_sem, ↓reduceIte,Nat.reduceEqDiff,Nat.reduceAdd,Nat.reduceSub,Nat.reduceLeDiff,reduceCtorEq,h1,h3]⟩)
  ·(try((repeat(revert hN;revert N;apply Pn.out));refine wk (tw @b34 (tw @b5 (tw @tO (tw @ur @hj)))) ?_;(repeat(refine Pn.mk ?_;intro N hN))))
   exact eX (.inl rfl) (vs:=[.ptr ⟨73001004,σ.next+1⟩ 0 0]) (sd @Nat.zero_add) ⟨_,_,_,rfl,bC.frame (by(try dsimp only);omega) (fun x hx=>rfl),by(try dsimp only);omega,by(try dsimp only);omega,by(try dsimp only);omega,by(try dsimp only);omega,fU⟩
end Go.Proofs.YtgoelphibofcmaaGreat.V

namespace Go.Proofs.YtgoelphibofcmaaGreat.V
open Go.RowKit
def iz:List ad->ad->List ad
 |[],q=>[q]
 |x::r,q=>if jO q.aQ x.aQ=true then q::x::r else x::iz r q
theorem oO {q x:ad}:∀{l:List ad},x∈iz l q↔x=q∨x∈l
 |[]=>by simp[iz]
 |y::r=>by
  have ih:=@oO q x r
  rw[iz]
  split
  ·simp
  ·simp only[List.mem_cons,ih]
   constructor
   ·rintro(h|h|h)<;>simp[h]
   ·rintro(h|h|h)<;>simp[h]
theorem o8 (q:ad):∀l:List ad,(iz l q).length=l.length+1
 |[]=>rfl
 |y::r=>by
  have ih:=o8 q r
  rw[iz]
  split
  ·simp
  ·simp[ih]
theorem sb {l:List ad}:pR l↔l.Pairwise fun a b=>jO a.aQ b.aQ=true:=by
 rw[List.pairwise_iff_getElem]
 constructor
 ·intro h i j hi hj DW
  have:=h i j DW hj
  rwa [fH hi,fH hj]at this
 ·intro h i j DW hj
  have:=h i j (by omega) hj DW
  rwa [fH (by omega),fH hj]
theorem pw {l:List ad} {p:aL}:eR l p<0↔∀t∈l,t.aQ≠p:=BT
theorem Cu {q:ad}:∀{l:List ad},pR l->eR l q.aQ<0->pR (iz l q):=by
 intro l
 rw[sb,sb,pw]
 induction l with
 |nil=>intro _ _;exact List.pairwise_singleton _ _
 |cons y r ih=>
  intro h hn
  obtain⟨h1,h2⟩:=List.pairwise_cons.1 h
  rw[iz]
  split
  ·rename_i hl
   refine List.pairwise_cons.2 ⟨fun x hx=>?_,h⟩
   rcases List.mem_cons.1 hx with rfl|hx
   ·exact hl
   ·exact jV hl (h1 x hx)
  ·rename_i hl
   rw[Bool.not_eq_true]at hl
   refine List.pairwise_cons.2 ⟨fun x hx=>?_,ih h2 fun t ht=>hn t (by simp[ht])⟩
   rcases oO.1 hx with rfl|hx
   ·exact FX hl fun e=>hn y (by simp) e.symm
   ·exact h1 x hx
theorem jT (x:ad) (r:List ad) (p:aL):gQ (x::r) p=if x.aQ=p then x.aO else gQ r p:=by
 unfold gQ eR pY
 rw[List.findIdx_cons]
 by_cases h:x.aQ=p
 ·simp[h,aD]
 ·simp only[h,decide_false,cond_false,List.length_cons,Nat.add_lt_add_iff_right,if_false]
  by_cases hl:(r.findIdx fun c=>decide (c.aQ=p))<r.length
  ·rw[if_pos hl,if_pos hl,if_pos (by omega),if_pos (by omega)]
   simp[aD]
  ·rw[if_neg hl,if_neg hl];rfl
theorem AY {q:ad} (p:aL):∀{l:List ad},(∀t∈l,t.aQ≠q.aQ)->gQ (iz l q) p=if q.aQ=p then q.aO else gQ l p
 |[],_=>by rw[iz,jT]
 |x::r,h=>by
  have ih:=@AY q p r fun t ht=>h t (by simp[ht])
  rw[iz]
  split
  ·rw[jT]
  ·rw[jT,ih,jT]
   by_cases h1:x.aQ=p
   ·have h2:q.aQ≠p:=fun e=>h x (by simp) (h1.trans e.symm)
    rw[if_pos h1,if_neg h2,if_pos h1]
   ·rw[if_neg h1,if_neg h1]
theorem zq {q:ad} (p:aL):∀{l:List ad},(∀t∈l,t.aQ≠q.aQ)->gQ (l++[q]) p=if q.aQ=p then q.aO else gQ l p
 |[],_=>by rw[List.nil_append,jT]
 |x::r,h=>by
  have ih:=@zq q p r fun t ht=>h t (by simp[ht])
  rw[List.cons_append,jT,ih,jT]
  by_cases h1:x.aQ=p
  ·have h2:q.aQ≠p:=fun e=>h x (by simp) (h1.trans e.symm)
   rw[if_pos h1,if_neg h2,if_pos h1]
  ·rw[if_neg h1,if_neg h1]
theorem yV {α:Type} [DecidableEq α]:∀{xs ys:List α},xs.Nodup->(∀x∈xs,x∈ys)->xs.length<=ys.length
 |[],_,_,_=>Nat.zero_le _
 |x::xs,ys,hn,h=>by
  obtain⟨h1,h2⟩:=List.nodup_cons.1 hn
  have hx:=h x (by simp)
  have:=@yV α _ xs (ys.erase x) h2 fun y hy=>(List.mem_erase_of_ne fun e=>h1 (by rw[<-e];exact hy)).2 (h y (by simp[hy]))
  rw[List.length_erase_of_mem hx]at this
  have:=List.length_pos_of_mem hx
  rw[List.length_cons];omega
theorem Hv {l:List ad} (h:pR l):l.Nodup:=by
 rw[sb]at h
 refine List.Pairwise.imp (fun {a b} qF e=>?_) h
 rw[e,nj]at qF;cases qF
abbrev sN:=List ad×List ad
noncomputable def FQ (s:az) (st:sN) (x:ad):sN:=if iC s st.2 x.aQ x.aO=true then(st.1++[x],iz st.2 x)else st
structure Ik (s:az) (l:List ad) (st:sN):Prop where
 Kl:pR st.2
 sub:∀x∈st.2,x∈l
 done:∀x∈st.1,x∈l
 len:st.2.length=s.bf.ai.length+st.1.length
theorem Ik.xx {s:az} {l:List ad} {st:sN} (h:Ik s l st):st.2.length<=l.length:=by
 classical
 exact yV (Hv h.Kl) h.sub
theorem I0 {s:az} {l:List ad} (hA:lu s.aH l) {now:List ad} (hs:∀x∈now,x∈l) {p:aL} {t:Int} (h:iC s now p t=true):eR now p<0:=by
 rcases Int.lt_or_le (eR now p) 0 with h0|h0
 ·exact h0
 ·exfalso
  obtain⟨h1,_⟩:=ni h0
  have h2:=(eI (hA.2 _ (hs _ (k8 h1)))).1
  simp[iC,gQ,h0]at h
  omega
theorem Ik.step {s:az} {l:List ad} {st:sN} (h:Ik s l st) (hA:lu s.aH l) {x:ad} (hx:x∈l):Ik s l (FQ s st x):=by
 unfold FQ
 split
 ·rename_i hf
  have h0:=I0 hA h.sub hf
  exact⟨Cu h.Kl h0,fun y hy=>by rcases oO.1 hy with rfl|hy;exact hx;exact h.sub y hy,fun y hy=>by
   rcases List.mem_append.1 hy with hy|hy
   ·exact h.done y hy
   ·rw[List.mem_singleton.1 hy];exact hx,by rw[o8,List.length_append,List.length_singleton,h.len];omega⟩
 ·exact h
end Go.Proofs.YtgoelphibofcmaaGreat.V

namespace Go.Proofs.YtgoelphibofcmaaGreat.V
open Go.RowKit
attribute [local irreducible] dO wpOps gy Call
attribute [local go_sem] aT fK eS ga fZ dj upd cF K.av cP AV.cells AV.cell rowOf rowsOf part ld rowAt bL cD dG ef ik bV de ew fW fe dw ek dc db dU dV cj bl cU b4 cW cV ei eo ej cR cm dd eh bW aV cZ cI ij bx cK ck bd du bj dI AV.undef bH bS dW eb dQ dP cJ ev eE cH er ep cY da List.getD_cons_zero List.getD_cons_succ List.getD_nil List.all_cons List.all_nil Bool.and_true Bool.true_and Bool.and_self Bool.not_true Bool.not_false Option.map_some Option.map_none Option.bind_some Option.bind_none List.length_cons List.length_nil List.take_succ_cons List.take_zero List.take_nil List.drop_succ_cons List.drop_zero List.drop_nil List.head?_cons List.map_cons List.map_nil List.getElem?_cons_zero List.getElem?_cons_succ List.cons_append List.nil_append List.append_nil List.length_map List.set_cons_zero List.set_cons_succ Nat.reduceMul eq_self Int.toNat_natCast Int.natCast_nonneg and_self true_and and_true decide_true decide_false Bool.false_eq_true Nat.zero_add Nat.add_zero List.contains_cons List.contains_nil Bool.or_false Bool.false_or beq_self_eq_true Nat.reduceBEq ne_eq not_true_eq_false not_false_eq_true Id.mk.injEq false_and and_false Nat.reduceLT Int.reduceLE Int.reduceLT Int.reduceToNat Int.reduceNeg Int.reduceAdd Nat.le_refl List.length_append beq_true beq_false Bool.not_eq_eq_eq_not or_false false_or dR ae aj aI bq bG cC aY bh aW bp cQ bJ
theorem Q5 (g:Rows) (n:Nat) (x:ad):eD g (n+1) (aa x)=some (aa x):=by simp[aa,bw,cr,eu]
def Lh (n:Nat) (L:List ad) (r:AV) (σ':ar):Prop:=∃o:Id,r=.agg [.own o 0 L.length]/\σ'.get o=some ⟨true,3,L.map aa⟩/\n<=o.bQ/\o.bQ<σ'.next
theorem Lh.val {f:Nat} {args args':List AV} {L:List ad} {σ:ar} (h:∀n,Call Tryz.prog f args' ⟨fun _=>none,n⟩ (Lh n L)) (hv:dn (dR σ.get) 6 args=some args'):Call Tryz.prog f args σ (fun r σ'=>Lh σ.next L r σ'/\Kept σ σ'):=by
 refine vw mixed hv (aJ _ _ _ _ _ (fun r σ' hq=>?_) (sM mixed (h σ.next)))
 obtain⟨⟨o,rfl,h2,h3,h4⟩,hn⟩:=hq
 refine⟨[o],rfl,fun i hi=>?_,⟨o,rfl,(pf (by simp)).trans h2,h3,h4⟩,hn,fun j hj=>kP fun hc=>?_⟩
 ·rw[List.mem_singleton.1 hi]
  exact⟨_,h2,rfl,fun cs dy a ha=>by
   obtain⟨x,_,rfl⟩:=List.mem_map.1 dy
   simp[aa]at ha
   rcases ha with rfl|rfl|rfl<;>rfl⟩
 ·rw[List.mem_singleton.1 hc]at hj;omega
theorem B4 (l:List ad) (hl:l.length<=1048576) (n0:Nat):Call Tryz.prog 99 [.dq [.sl (l.map aa)]] ⟨fun _=>none,n0⟩ (Lh n0 l):=by
 refine eQ eK rfl fun kd=>?_
 clear kd
 have DX:(l.map aa).length<=16777216:=by simp;omega
 have dC:(l.map aa).all (fun c=>c.length==3&&c.all AV.cell)=true:=all_map fun x=>⟨rfl,rfl⟩
 have FE:(l.map aa).length=l.length:=by simp
 generalize oM:l.map aa=rows at DX dC FE
 (try((repeat(revert hN;revert N;apply Pn.out));refine wk (tw @DX @dC) ?_;(repeat(refine Pn.mk ?_;intro N hN))))
 exact eX (.inl rfl) (vs:=[.agg [.own ⟨99001005,n0+1⟩ 0 rows.length]]) (sd @Nat.zero_add) ⟨⟨99001005,n0+1⟩,by rw[FE];rfl,by rw[oM];simp only[go_sem, ↓reduceIte,Nat.reduceEqDiff,Nat.reduceAdd,Nat.reduceSub,Nat.reduceLeDiff,reduceCtorEq],by(try dsimp only);omega,by(try dsimp only);omega⟩
def ux (q:ad) (l:List ad):Bool:=l.any fun x=>jO q.aQ x.aQ
theorem Ct {q:ad}:∀{l:List ad},ux q l=false->iz l q=l++[q]
 |[],_=>rfl
 |x::l,h=>by
  unfold ux at h
  rw[List.any_cons,Bool.or_eq_false_iff]at h
  rw[iz,if_neg (by rw[h.1];simp),Ct h.2];rfl
theorem y6 {q y:ad}:∀{l:List ad},ux q l=true->iz (l++[y]) q=iz l q++[y]
 |x::l,h=>by
  unfold ux at h
  rw[List.any_cons]at h
  rw[List.cons_append,iz,iz]
  cases hx:jO q.aQ x.aQ
  ·rw[hx,Bool.false_or]at h
   rw[if_neg (by simp),if_neg (by simp),y6 h];rfl
  ·simp
theorem y4 {q y:ad}:∀{l:List ad},ux q l=false->jO q.aQ y.aQ=true->iz (l++[y]) q=l++[q]++[y]
 |[],_,hy=>by simp[iz,hy]
 |x::l,h,hy=>by
  unfold ux at h
  rw[List.any_cons,Bool.or_eq_false_iff]at h
  rw[List.cons_append,iz,if_neg (by rw[h.1];simp),y4 h.2 hy];rfl
def jh (q:ad) (l:List ad):List ad:=if ux q l=true then iz l q else l
theorem wc (q:ad) (l:List ad) (y:ad):ux q (l++[y])=(ux q l||jO q.aQ y.aQ):=by simp[ux]
theorem Hn (q:ad) (l:List ad):(jh q l).length<=l.length+1:=by
 unfold jh
 split
 ·rw[o8];omega
 ·omega
theorem J5 {q y:ad} {l:List ad} (h:ux q l=true∨jO q.aQ y.aQ=false):jh q (l++[y])=jh q l++[y]:=by
 unfold jh
 rw[wc]
 cases hd:ux q l
 ·rw[hd]at h
  have h2:jO q.aQ y.aQ=false:=by rcases h with h|h;cases h;exact h
  simp[h2]
 ·simp[y6 hd]
theorem J4 {q y:ad} {l:List ad} (h:ux q l=false) (hy:jO q.aQ y.aQ=true):jh q (l++[y])=jh q l++[q]++[y]:=by
 unfold jh
 rw[wc,h,hy]
 simp[y4 h hy]
def TQ (m:Nat) (L:List ad) (v:AV) (g:Rows) (n:Nat):Prop:=(L=[]/\v=.bE)∨∃o:Id,v=.own o 0 L.length/\g o=some ⟨true,3,L.map aa⟩/\m<=o.bQ/\o.bQ<n
theorem mJ {l:List ad} {k:Nat} (hk:k<l.length):l.take (k+1)=l.take k++[aD l k]:=by rw[List.take_succ_eq_append_getElem hk,fH hk]
theorem Cd (L:List ad) (q:ad):(L++[q]).map aa=L.map aa++[[.int .i64 q.aQ.fb,.int .i64 q.aQ.eV,.int .i64 q.aO]]:=by rw[List.map_append];rfl
theorem rU (L:List ad) (q:ad):(L++[q]).length=L.length+1:=by rw[List.length_append];rfl
theorem B5 (l:List ad) (hl:l.length<=1048576) (p:aL) (t:Int) (n0:Nat):Call Tryz.prog 101 [.dq [.sl (l.map aa)],.agg (ah p),.int .i64 t] ⟨fun _=>none,n0⟩ (Lh n0 (iz l ⟨p,t⟩)):=by
 refine eQ eK rfl fun kd=>?_
 clear kd
 obtain⟨q,hq⟩:∃q:ad,q=⟨p,t⟩:=⟨_,rfl⟩
 (try((repeat(revert hN;revert N;apply Pn.out));refine wk @ah.eq_1 ?_;(repeat(refine Pn.mk ?_;intro N hN))))
 refine aZ (fun n env st=>∃i:Nat,n=(l.length)-i/\i<=(l.length)/\env 9=.int .i64 (i:Int)/\env 8=.bool (ux q (l.take i))/\st.get ⟨101000000,n0⟩=some ⟨true,2,[ah p]⟩/\st.get ⟨101000001,n0⟩=some ⟨true,1,[[.bE]]⟩/\(n0+2<=st.next/\∃v,st.get ⟨101001001,n0+1⟩=some ⟨true,1,[[v]]⟩/\TQ (n0+2) (jh q (l.take i)) v st.get st.next)) (l.length) ⟨0,by omega,by omega,sl @ah.eq_1,sl @ah.eq_1,sl @ah.eq_1,sl @ah.eq_1,by(try dsimp only);exact⟨by omega,.bE,sd @Nat.zero_add,.inl ⟨rfl,rfl⟩⟩⟩ ?_
 rintro n_a env_a st_a ⟨i,rfl,ale,a9,a8,ag0,ag1,j4⟩ dx
 have a0:=dx 0 (by kernel_rfl);have a2:=dx 2 (by kernel_rfl);have a4:=dx 4 (by kernel_rfl);have a6:=dx 6 (by kernel_rfl);have a7:=dx 7 (by kernel_rfl)
 simp only[go_sem, ↓reduceIte,Nat.reduceEqDiff,Nat.reduceAdd,Nat.reduceSub,Nat.reduceLeDiff,reduceCtorEq,ah]at a0 a2 a4 a6 a7
 clear dx
 obtain⟨an,v,av,aG⟩:=j4
 have vA:=dr (i:=⟨101000000,n0⟩) (n:=st_a.next) (by(try dsimp only);omega)
 have vB:=dr (i:=⟨101000001,n0⟩) (n:=st_a.next) (by(try dsimp only);omega)
 have vC:=dr (i:=⟨101001001,n0+1⟩) (n:=st_a.next) (by(try dsimp only);omega)
 have LU:=Hn q (l.take i)
 rw[List.length_take]at LU
 by_cases hi:(i:Int)<(l.length:Int)
 ·have cz:∀{e:Env} {gg:Rows} {nx:Nat},(e 9=.int .i64 (IntKind.i64.wrap ((i:Int)+1)))->(e 8=.bool (ux q (l.take (i+1))))->(gg ⟨101000000,n0⟩=some ⟨true,2,[ah p]⟩)->(gg ⟨101000001,n0⟩=some ⟨true,1,[[.bE]]⟩)->(n0+2<=nx/\∃v,gg ⟨101001001,n0+1⟩=some ⟨true,1,[[v]]⟩/\TQ (n0+2) (jh q (l.take (i+1))) v gg nx)->∃m0,m0<(l.length)-i/\∃i:Nat,m0=(l.length)-i/\i<=(l.length)/\e 9=.int .i64 (i:Int)/\e 8=.bool (ux q (l.take i))/\gg ⟨101000000,n0⟩=some ⟨true,2,[ah p]⟩/\gg ⟨101000001,n0⟩=some ⟨true,1,[[.bE]]⟩/\(n0+2<=nx/\∃v,gg ⟨101001001,n0+1⟩=some ⟨true,1,[[v]]⟩/\TQ (n0+2) (jh q (l.take i)) v gg nx):=fun x1 x2 x3 x4 x5=>⟨_,by omega,i+1,rfl,by omega,(by rw[x1,aA (by omega)]),x2,x3,x4,x5⟩
  have fh:i<l.length:=by omega
  have jl:=fE fh
  have dZ:=oi p (aD l i).aQ
  have nU:=mJ fh
  have Vq:jO q.aQ (aD l i).aQ=jO p (aD l i).aQ:=by rw[hq]
  have ke:(l.map aa).length=l.length:=by simp
  have K5:=wc q (l.take i) (aD l i)
  rw[<-nU,Vq]at K5
  rw[ah,ah]at dZ
  by_cases hc:ux q (l.take i)=true∨jO p (aD l i).aQ=false
  ·have lr:=J5 (q:=q) (y:=aD l i) (l:=l.take i) (by rw[Vq];exact hc)
   rw[<-nU]at lr
   generalize jh q (l.take i)=L at aG lr LU
   have CZ:=rU L (aD l i)
   have uY:=Cd L (aD l i)
   have me:ux q (l.take (i+1))=ux q (l.take i):=by
    rw[K5]
    rcases hc with h|h<;>rw[h]<;>simp
   rcases aG with⟨hL,rfl⟩|⟨o,rfl,ao,aon,zo⟩
   ·subst hL
    cases hd:ux q (l.take i)
    ·have h2:jO p (aD l i).aQ=false:=by rcases hc with h|h;rw[hd]at h;cases h;exact h
     rw[h2]at dZ
     rw[hd]at a8 me
     (repeat(first|((repeat(revert hN;revert N;apply Pn.out));refine wk (tw @a9 (tw @a8 (tw @ag0 (tw @ag1 (tw @a0 (tw @a2 (tw @a4 (tw @a6 (tw @a7 (tw @hi (tw @jl (tw @vA (tw @vB (tw @vC (tw @av (tw @ke (tw @ah.eq_1 @aa.eq_1))))))))))))))))) ?_;(repeat(refine Pn.mk ?_;intro N hN)))|((try apply Or.inl);refine⟨_,aq.x (dZ) (sd (tw @a9 (tw @a8 (tw @ag0 (tw @ag1 (tw @a0 (tw @a2 (tw @a4 (tw @a6 (tw @a7 (tw @hi (tw @jl (tw @vA (tw @vB (tw @vC (tw @av (tw @ke (tw @ah.eq_1 @aa.eq_1)))))))))))))))))),?_⟩;refine hN _ _ ?_;clear hN N)))
     refine cz ?_ ?_ ?_ ?_ (by(try dsimp only);exact⟨by omega,_,sl @Nat.zero_add,.inr ⟨⟨101009010,st_a.next+1+1⟩,by rw[lr,CZ]<;>(simp only[go_sem, ↓reduceIte,Nat.reduceEqDiff,Nat.reduceAdd,Nat.reduceSub,Nat.reduceLeDiff,reduceCtorEq]<;>rfl),by rw[lr,uY]<;>(simp only[go_sem, ↓reduceIte,Nat.reduceEqDiff,Nat.reduceAdd,Nat.reduceSub,Nat.reduceLeDiff,reduceCtorEq]<;>rfl),by(try dsimp only);omega,by(try dsimp only);omega⟩⟩)
     all_goals simp only[go_sem, ↓reduceIte,Nat.reduceEqDiff,Nat.reduceAdd,Nat.reduceSub,Nat.reduceLeDiff,reduceCtorEq,a9,a8,ag0,ag1,a0,a2,a4,a6,a7,me,vA,vB,vC,ah]
    ·rw[hd]at a8 me
     (try((repeat(revert hN;revert N;apply Pn.out));refine wk (tw @a9 (tw @a8 (tw @ag0 (tw @ag1 (tw @a0 (tw @a2 (tw @a4 (tw @a6 (tw @a7 (tw @hi (tw @jl (tw @vA (tw @vB (tw @vC (tw @av (tw @ke (tw @ah.eq_1 @aa.eq_1))))))))))))))))) ?_;(repeat(refine Pn.mk ?_;intro N hN))))
     refine cz ?_ ?_ ?_ ?_ (by(try dsimp only);exact⟨by omega,_,sl @Nat.zero_add,.inr ⟨⟨101009010,st_a.next+1+1⟩,by rw[lr,CZ]<;>(simp only[go_sem, ↓reduceIte,Nat.reduceEqDiff,Nat.reduceAdd,Nat.reduceSub,Nat.reduceLeDiff,reduceCtorEq]<;>rfl),by rw[lr,uY]<;>(simp only[go_sem, ↓reduceIte,Nat.reduceEqDiff,Nat.reduceAdd,Nat.reduceSub,Nat.reduceLeDiff,reduceCtorEq]<;>rfl),by(try dsimp only);omega,by(try dsimp only);omega⟩⟩)
     all_goals simp only[go_sem, ↓reduceIte,Nat.reduceEqDiff,Nat.reduceAdd,Nat.reduceSub,Nat.reduceLeDiff,reduceCtorEq,a9,a8,ag0,ag1,a0,a2,a4,a6,a7,me,vA,vB,vC,ah]
   ·have vo:=dr zo
    have oA:=bU (a:=⟨101000000,n0⟩) (b:=o) (by(try dsimp only);omega)
    have oB:=bU (a:=⟨101000001,n0⟩) (b:=o) (by(try dsimp only);omega)
    have oC:=bU (a:=⟨101001001,n0+1⟩) (b:=o) (by(try dsimp only);omega)
    have I9:(L.map aa).length=L.length:=by simp
    have Nb:L.length<=16777215:=by omega
    cases hd:ux q (l.take i)
    ·have h2:jO p (aD l i).aQ=false:=by rcases hc with h|h;rw[hd]at h;cases h;exact h
     rw[h2]at dZ
     rw[hd]at a8 me
     (repeat(first|((repeat(revert hN;revert N;apply Pn.out));refine wk (tw @a9 (tw @a8 (tw @ag0 (tw @ag1 (tw @a0 (tw @a2 (tw @a4 (tw @a6 (tw @a7 (tw @hi (tw @jl (tw @vA (tw @vB (tw @vC (tw @vo (tw @oA (tw @oB (tw @oC (tw @ao (tw @av (tw @ke (tw @I9 (tw @Nb (tw @ah.eq_1 @aa.eq_1)))))))))))))))))))))))) ?_;(repeat(refine Pn.mk ?_;intro N hN)))|((try apply Or.inl);refine⟨_,aq.x (dZ) (sd (tw @a9 (tw @a8 (tw @ag0 (tw @ag1 (tw @a0 (tw @a2 (tw @a4 (tw @a6 (tw @a7 (tw @hi (tw @jl (tw @vA (tw @vB (tw @vC (tw @vo (tw @oA (tw @oB (tw @oC (tw @ao (tw @av (tw @ke (tw @I9 (tw @Nb (tw @ah.eq_1 @aa.eq_1))))))))))))))))))))))))),?_⟩;refine hN _ _ ?_;clear hN N)))
     refine cz ?_ ?_ ?_ ?_ (by(try dsimp only);exact⟨by omega,_,sl @Nat.zero_add,.inr ⟨⟨101009010,st_a.next+1+1⟩,by rw[lr,CZ]<;>(simp only[go_sem, ↓reduceIte,Nat.reduceEqDiff,Nat.reduceAdd,Nat.reduceSub,Nat.reduceLeDiff,reduceCtorEq]<;>rfl),by rw[lr,uY]<;>(simp only[go_sem, ↓reduceIte,Nat.reduceEqDiff,Nat.reduceAdd,Nat.reduceSub,Nat.reduceLeDiff,reduceCtorEq]<;>rfl),by(try dsimp only);omega,by(try dsimp only);omega⟩⟩)
     all_goals simp only[go_sem, ↓reduceIte,Nat.reduceEqDiff,Nat.reduceAdd,Nat.reduceSub,Nat.reduceLeDiff,reduceCtorEq,a9,a8,ag0,ag1,a0,a2,a4,a6,a7,me,vA,vB,vC,oA,oB,oC,ah]
    ·rw[hd]at a8 me
     (try((repeat(revert hN;revert N;apply Pn.out));refine wk (tw @a9 (tw @a8 (tw @ag0 (tw @ag1 (tw @a0 (tw @a2 (tw @a4 (tw @a6 (tw @a7 (tw @hi (tw @jl (tw @vA (tw @vB (tw @vC (tw @vo (tw @oA (tw @oB (tw @oC (tw @ao (tw @av (tw @ke (tw @I9 (tw @Nb (tw @ah.eq_1 @aa.eq_1)))))))))))))))))))))))) ?_;(repeat(refine Pn.mk ?_;intro N hN))))
     refine cz ?_ ?_ ?_ ?_ (by(try dsimp only);exact⟨by omega,_,sl @Nat.zero_add,.inr ⟨⟨101009010,st_a.next+1+1⟩,by rw[lr,CZ]<;>(simp only[go_sem, ↓reduceIte,Nat.reduceEqDiff,Nat.reduceAdd,Nat.reduceSub,Nat.reduceLeDiff,reduceCtorEq]<;>rfl),by rw[lr,uY]<;>(simp only[go_sem, ↓reduceIte,Nat.reduceEqDiff,Nat.reduceAdd,Nat.reduceSub,Nat.reduceLeDiff,reduceCtorEq]<;>rfl),by(try dsimp only);omega,by(try dsimp only);omega⟩⟩)
     all_goals simp only[go_sem, ↓reduceIte,Nat.reduceEqDiff,Nat.reduceAdd,Nat.reduceSub,Nat.reduceLeDiff,reduceCtorEq,a9,a8,ag0,ag1,a0,a2,a4,a6,a7,me,vA,vB,vC,oA,oB,oC,ah]
  ·have hd:ux q (l.take i)=false:=by
    cases h:ux q (l.take i)
    ·rfl
    ·exact absurd (.inl h) hc
   have h2:jO p (aD l i).aQ=true:=by
    cases h:jO p (aD l i).aQ
    ·exact absurd (.inr h) hc
    ·rfl
   have lr:=J4 (q:=q) (y:=aD l i) hd (by rw[Vq];exact h2)
   rw[<-nU]at lr
   have me:ux q (l.take (i+1))=true:=by rw[K5,h2];simp
   rw[hd]at a8
   rw[h2]at dZ
   have Tr:aa q=[.int .i64 p.fb,.int .i64 p.eV,.int .i64 t]:=by rw[hq];rfl
   generalize jh q (l.take i)=L at aG lr LU
   have CZ:=rU (L++[q]) (aD l i)
   have uY:=Cd (L++[q]) (aD l i)
   have Vg:=rU L q
   have Vh:(L++[q]).map aa=L.map aa++[[.int .i64 p.fb,.int .i64 p.eV,.int .i64 t]]:=by rw[List.map_append,List.map_singleton,Tr]
   rw[Vg]at CZ
   rw[Vh]at uY
   rcases aG with⟨hL,rfl⟩|⟨o,rfl,ao,aon,zo⟩
   ·subst hL
    (repeat(first|((repeat(revert hN;revert N;apply Pn.out));refine wk (tw @a9 (tw @a8 (tw @ag0 (tw @ag1 (tw @a0 (tw @a2 (tw @a4 (tw @a6 (tw @a7 (tw @hi (tw @jl (tw @vA (tw @vB (tw @vC (tw @av (tw @ke (tw @ah.eq_1 @aa.eq_1))))))))))))))))) ?_;(repeat(refine Pn.mk ?_;intro N hN)))|((try apply Or.inl);refine⟨_,aq.x (dZ) (sd (tw @a9 (tw @a8 (tw @ag0 (tw @ag1 (tw @a0 (tw @a2 (tw @a4 (tw @a6 (tw @a7 (tw @hi (tw @jl (tw @vA (tw @vB (tw @vC (tw @av (tw @ke (tw @ah.eq_1 @aa.eq_1)))))))))))))))))),?_⟩;refine hN _ _ ?_;clear hN N)))
    refine cz ?_ ?_ ?_ ?_ (by(try dsimp only);exact⟨by omega,_,sl @Nat.zero_add,.inr ⟨⟨101009010,st_a.next+1+1+1+1⟩,by rw[lr,CZ]<;>(simp only[go_sem, ↓reduceIte,Nat.reduceEqDiff,Nat.reduceAdd,Nat.reduceSub,Nat.reduceLeDiff,reduceCtorEq]<;>rfl),by rw[lr,uY]<;>(simp only[go_sem, ↓reduceIte,Nat.reduceEqDiff,Nat.reduceAdd,Nat.reduceSub,Nat.reduceLeDiff,reduceCtorEq]<;>rfl),by(try dsimp only);omega,by(try dsimp only);omega⟩⟩)
    all_goals simp only[go_sem, ↓reduceIte,Nat.reduceEqDiff,Nat.reduceAdd,Nat.reduceSub,Nat.reduceLeDiff,reduceCtorEq,a9,a8,ag0,ag1,a0,a2,a4,a6,a7,me,vA,vB,vC,ah]
   ·have vo:=dr zo
    have oA:=bU (a:=⟨101000000,n0⟩) (b:=o) (by(try dsimp only);omega)
    have oB:=bU (a:=⟨101000001,n0⟩) (b:=o) (by(try dsimp only);omega)
    have oC:=bU (a:=⟨101001001,n0+1⟩) (b:=o) (by(try dsimp only);omega)
    have I9:(L.map aa).length=L.length:=by simp
    have Nb:L.length<=16777214:=by omega
    have Ra:L.length<=16777215:=by omega
    (repeat(first|((repeat(revert hN;revert N;apply Pn.out));refine wk (tw @a9 (tw @a8 (tw @ag0 (tw @ag1 (tw @a0 (tw @a2 (tw @a4 (tw @a6 (tw @a7 (tw @hi (tw @jl (tw @vA (tw @vB (tw @vC (tw @vo (tw @oA (tw @oB (tw @oC (tw @ao (tw @av (tw @ke (tw @I9 (tw @Nb (tw @Ra (tw @ah.eq_1 @aa.eq_1))))))))))))))))))))))))) ?_;(repeat(refine Pn.mk ?_;intro N hN)))|((try apply Or.inl);refine⟨_,aq.x (dZ) (sd (tw @a9 (tw @a8 (tw @ag0 (tw @ag1 (tw @a0 (tw @a2 (tw @a4 (tw @a6 (tw @a7 (tw @hi (tw @jl (tw @vA (tw @vB (tw @vC (tw @vo (tw @oA (tw @oB (tw @oC (tw @ao (tw @av (tw @ke (tw @I9 (tw @Nb (tw @Ra (tw @ah.eq_1 @aa.eq_1)))))))))))))))))))))))))),?_⟩;refine hN _ _ ?_;clear hN N)))
    refine cz ?_ ?_ ?_ ?_ (by(try dsimp only);exact⟨by omega,_,sl @Nat.zero_add,.inr ⟨⟨101009010,st_a.next+1+1+1+1⟩,by rw[lr,CZ]<;>(simp only[go_sem, ↓reduceIte,Nat.reduceEqDiff,Nat.reduceAdd,Nat.reduceSub,Nat.reduceLeDiff,reduceCtorEq]<;>rfl),by rw[lr,uY]<;>(simp only[go_sem, ↓reduceIte,Nat.reduceEqDiff,Nat.reduceAdd,Nat.reduceSub,Nat.reduceLeDiff,reduceCtorEq]<;>rfl),by(try dsimp only);omega,by(try dsimp only);omega⟩⟩)
    all_goals simp only[go_sem, ↓reduceIte,Nat.reduceEqDiff,Nat.reduceAdd,Nat.reduceSub,Nat.reduceLeDiff,reduceCtorEq,a9,a8,ag0,ag1,a0,a2,a4,a6,a7,me,vA,vB,vC,oA,oB,oC,ah]
 ·have kN:i=l.length:=by omega
  subst kN
  rw[List.take_length]at a8 aG LU
  cases hd:ux q l
  ·rw[hd]at a8
   have lr:iz l ⟨p,t⟩=jh q l++[q]:=by rw[<-hq,Ct hd,jh,hd];simp
   have Tr:aa q=[.int .i64 p.fb,.int .i64 p.eV,.int .i64 t]:=by rw[hq];rfl
   generalize jh q l=L at aG LU lr
   have CZ:=rU L q
   have uY:(L++[q]).map aa=L.map aa++[[.int .i64 p.fb,.int .i64 p.eV,.int .i64 t]]:=by rw[List.map_append,List.map_singleton,Tr]
   rcases aG with⟨hL,rfl⟩|⟨o,rfl,ao,aon,zo⟩
   ·subst hL
    (try((repeat(revert hN;revert N;apply Pn.out));refine wk (tw @a9 (tw @a8 (tw @ag0 (tw @ag1 (tw @a0 (tw @a2 (tw @a4 (tw @a6 (tw @a7 (tw @hi (tw @vA (tw @vB (tw @vC (tw @av (tw @ah.eq_1 @aa.eq_1))))))))))))))) ?_;(repeat(refine Pn.mk ?_;intro N hN))))
    exact eX (.inl rfl) (vs:=[.agg [.own ⟨101011006,st_a.next+1+1⟩ 0 1]]) (sd (tw @a9 (tw @a8 (tw @ag0 (tw @ag1 (tw @a0 (tw @a2 (tw @a4 (tw @a6 (tw @a7 @vB)))))))))) ⟨⟨101011006,st_a.next+1+1⟩,by rw[lr];rfl,by rw[lr];simp only[go_sem, ↓reduceIte,Nat.reduceEqDiff,Nat.reduceAdd,Nat.reduceSub,Nat.reduceLeDiff,reduceCtorEq,vB];rw[Tr],by(try dsimp only);omega,by(try dsimp only);omega⟩
   ·have vo:=dr zo
    have oA:=bU (a:=⟨101000000,n0⟩) (b:=o) (by(try dsimp only);omega)
    have oB:=bU (a:=⟨101000001,n0⟩) (b:=o) (by(try dsimp only);omega)
    have oC:=bU (a:=⟨101001001,n0+1⟩) (b:=o) (by(try dsimp only);omega)
    have I9:(L.map aa).length=L.length:=by simp
    have Nb:L.length<=16777215:=by omega
    (try((repeat(revert hN;revert N;apply Pn.out));refine wk (tw @a9 (tw @a8 (tw @ag0 (tw @ag1 (tw @a0 (tw @a2 (tw @a4 (tw @a6 (tw @a7 (tw @hi (tw @vA (tw @vB (tw @vC (tw @vo (tw @oA (tw @oB (tw @oC (tw @ao (tw @av (tw @I9 (tw @Nb (tw @ah.eq_1 @aa.eq_1)))))))))))))))))))))) ?_;(repeat(refine Pn.mk ?_;intro N hN))))
    exact eX (.inl rfl) (vs:=[.agg [.own ⟨101011006,st_a.next+1+1⟩ 0 (L.length+1)]]) (sd (tw @a9 (tw @a8 (tw @ag0 (tw @ag1 (tw @a0 (tw @a2 (tw @a4 (tw @a6 (tw @a7 @vB)))))))))) ⟨⟨101011006,st_a.next+1+1⟩,by rw[lr,CZ];rfl,by rw[lr,uY];simp only[go_sem, ↓reduceIte,Nat.reduceEqDiff,Nat.reduceAdd,Nat.reduceSub,Nat.reduceLeDiff,reduceCtorEq,vB],by(try dsimp only);omega,by(try dsimp only);omega⟩
  ·rw[hd]at a8
   have lr:iz l ⟨p,t⟩=jh q l:=by rw[<-hq,jh,hd];simp
   have kz:0<(jh q l).length:=by rw[<-lr,o8];omega
   generalize jh q l=L at aG LU kz lr
   rcases aG with⟨hL,rfl⟩|⟨o,rfl,ao,aon,zo⟩
   ·subst hL;cases kz
   ·have vo:=dr zo
    have oB:=bU (a:=⟨101000001,n0⟩) (b:=o) (by(try dsimp only);omega)
    (try((repeat(revert hN;revert N;apply Pn.out));refine wk (tw @a9 (tw @a8 (tw @ag0 (tw @ag1 (tw @a0 (tw @a2 (tw @a4 (tw @a6 (tw @a7 (tw @hi (tw @vA (tw @vB (tw @vC (tw @vo (tw @ao (tw @av (tw @ah.eq_1 @aa.eq_1))))))))))))))))) ?_;(repeat(refine Pn.mk ?_;intro N hN))))
    exact eX (.inl rfl) (vs:=[.agg [.own o 0 L.length]]) (sd (tw @a9 (tw @a8 (tw @ag0 (tw @ag1 (tw @a0 (tw @a2 (tw @a4 (tw @a6 (tw @a7 @vB)))))))))) ⟨o,by rw[lr];rfl,by rw[lr];simp only[go_sem, ↓reduceIte,Nat.reduceEqDiff,Nat.reduceAdd,Nat.reduceSub,Nat.reduceLeDiff,reduceCtorEq,vB,oB,ao],by(try dsimp only);omega,by(try dsimp only);omega⟩
theorem JI (s:az) (hP:vL s) (l:List ad) (hA:lu s.aH l) (p:aL) (t:Int) (ht:dY s.aH t=true):aq Tryz.prog 100 [.dq (au s),.dq [.sl (l.map aa)],.agg [.int .i64 p.fb,.int .i64 p.eV,.int .i64 t]] (.bool (iC s l p t)):=by
 refine aq.body eK rfl fun kd n0=>?_
 clear kd
 have h1:=qO p
 have h2:=(qP s.aH t).cut mixed (.ptr _ [.sl (s.bf.ai.map aa),.int .i64 s.ay] (.same _ .nil))
 have h3:=qQ l p hA.1.Kl (by have:=hA.1.xx;omega)
 rw[ht]at h2
 by_cases h0:x7 p=true
 ·rw[h0]at h1
  obtain⟨hx,hy⟩:=oZ h0
  by_cases hi:eR l p<0
  ·have h4:=(rS s.aH hP.set l hA p hx hy t ht).cut mixed (.ptr _ [.sl (s.bf.ai.map aa),.int .i64 s.ay] (.same _ (.same _ (.same _ .nil))))
   have e:iC s l p t=decide (s.ay<=qb s.aH (gQ l) p t):=by simp[iC,h0,(zr hA p).2 hi]
   rw[e]
   (repeat(first|((repeat(revert hN;revert N;apply Pn.out));refine wk (tw @au.eq_1 (tw @ab.eq_1 (tw @ah.eq_1 @hi))) ?_;(repeat(refine Pn.mk ?_;intro N hN)))|((try apply Or.inl);refine⟨_,aq.x (h1) (sd (tw @au.eq_1 (tw @ab.eq_1 (tw @ah.eq_1 @hi)))),?_⟩;refine hN _ _ ?_;clear hN N)|((try apply Or.inl);refine⟨_,aq.x (h2) (sd (tw @au.eq_1 (tw @ab.eq_1 (tw @ah.eq_1 @hi)))),?_⟩;refine hN _ _ ?_;clear hN N)|((try apply Or.inl);refine⟨_,aq.x (h3) (sd (tw @au.eq_1 (tw @ab.eq_1 (tw @ah.eq_1 @hi)))),?_⟩;refine hN _ _ ?_;clear hN N)|((try apply Or.inl);refine⟨_,aq.x (h4) (sd (tw @au.eq_1 (tw @ab.eq_1 (tw @ah.eq_1 @hi)))),?_⟩;refine hN _ _ ?_;clear hN N)))
   exact bc (b:=decide (s.ay<=qb s.aH (gQ l) p t)) (.inl rfl) (sd @Nat.zero_add) rfl
  ·have e:iC s l p t=false:=by
    have:¬gQ l p<0:=fun h=>hi ((zr hA p).1 h)
    simp[iC,this]
   rw[e]
   (repeat(first|((repeat(revert hN;revert N;apply Pn.out));refine wk (tw @au.eq_1 (tw @ab.eq_1 (tw @ah.eq_1 @hi))) ?_;(repeat(refine Pn.mk ?_;intro N hN)))|((try apply Or.inl);refine⟨_,aq.x (h1) (sd (tw @au.eq_1 (tw @ab.eq_1 (tw @ah.eq_1 @hi)))),?_⟩;refine hN _ _ ?_;clear hN N)|((try apply Or.inl);refine⟨_,aq.x (h2) (sd (tw @au.eq_1 (tw @ab.eq_1 (tw @ah.eq_1 @hi)))),?_⟩;refine hN _ _ ?_;clear hN N)|((try apply Or.inl);refine⟨_,aq.x (h3) (sd (tw @au.eq_1 (tw @ab.eq_1 (tw @ah.eq_1 @hi)))),?_⟩;refine hN _ _ ?_;clear hN N)))
   exact bc (b:=false) (.inl rfl) (sd @Nat.zero_add) rfl
 ·rw[Bool.not_eq_true]at h0
  rw[h0]at h1
  have e:iC s l p t=false:=by simp[iC,h0]
  rw[e]
  (repeat(first|((repeat(revert hN;revert N;apply Pn.out));refine wk (tw @au.eq_1 (tw @ab.eq_1 @ah.eq_1)) ?_;(repeat(refine Pn.mk ?_;intro N hN)))|((try apply Or.inl);refine⟨_,aq.x (h1) (sd (tw @au.eq_1 (tw @ab.eq_1 @ah.eq_1))),?_⟩;refine hN _ _ ?_;clear hN N)))
  exact bc (b:=false) (.inl rfl) (sd @Nat.zero_add) rfl
end Go.Proofs.YtgoelphibofcmaaGreat.V

namespace Go.Proofs.YtgoelphibofcmaaGreat.V
open Go.RowKit
attribute [local irreducible] dO wpOps gy Call
attribute [local go_sem] aT fK eS ga fZ dj upd cF K.av cP AV.cells AV.cell rowOf rowsOf part ld rowAt bL cD dG ef ik bV de ew fW fe dw ek dc db dU dV cj bl cU b4 cW cV ei eo ej cR cm dd eh bW aV cZ cI ij bx cK ck bd du bj dI AV.undef bH bS dW eb dQ dP cJ ev eE cH er ep cY da List.getD_cons_zero List.getD_cons_succ List.getD_nil List.all_cons List.all_nil Bool.and_true Bool.true_and Bool.and_self Bool.not_true Bool.not_false Option.map_some Option.map_none Option.bind_some Option.bind_none List.length_cons List.length_nil List.take_succ_cons List.take_zero List.take_nil List.drop_succ_cons List.drop_zero List.drop_nil List.head?_cons List.map_cons List.map_nil List.getElem?_cons_zero List.getElem?_cons_succ List.cons_append List.nil_append List.append_nil List.length_map List.set_cons_zero List.set_cons_succ Nat.reduceMul eq_self Int.toNat_natCast Int.natCast_nonneg and_self true_and and_true decide_true decide_false Bool.false_eq_true Nat.zero_add Nat.add_zero List.contains_cons List.contains_nil Bool.or_false Bool.false_or beq_self_eq_true Nat.reduceBEq ne_eq not_true_eq_false not_false_eq_true Id.mk.injEq false_and and_false Nat.reduceLT Int.reduceLE Int.reduceLT Int.reduceToNat Int.reduceNeg Int.reduceAdd Nat.le_refl List.length_append beq_true beq_false Bool.not_eq_eq_eq_not or_false false_or dR ae aj aI bq bG cC aY bh aW bp cQ bJ
theorem r9 {g:Rows} {X o:Id} {L:List ad} (hX:g X=some ⟨true,1,[[.own o 0 L.length]]⟩) (ho:g o=some ⟨true,3,L.map aa⟩):fz (dR g) 6 (.ptr X 0 0)=some (.dq [.sl (L.map aa)]):=by
 have h1:fz (dR g) 5 (.own o 0 L.length)=some (.sl (L.map aa)):=gY (e:=aa) (sz:=3) (by simp[dR,ho]) rfl fun x=>by simp[aa,ae,aj,aI]
 exact wq (n:=5) (sz:=1) (rows:=[[.own o 0 L.length]]) (cs:=[.own o 0 L.length]) (by simp[dR,hX]) rfl (by simp[ae,aj,h1])
def TR (X:Id) (st:sN) (e7:AV) (g:Rows) (n:Nat):Prop:=∃o u:Id,g X=some ⟨true,1,[[.own o 0 st.2.length]]⟩/\g o=some ⟨true,3,st.2.map aa⟩/\e7=.own u 0 st.1.length/\g u=some ⟨true,3,st.1.map aa⟩/\o.bQ<u.bQ/\X.bQ<u.bQ/\u.bQ<n/\o≠X
theorem TR.frame {X:Id} {st:sN} {e7 M6:AV} {g g':Rows} {n n':Nat} (h:TR X st e7 g n) (he:M6=e7) (hn:n<=n') (hf:∀x:Id,x.bQ<n->g' x=g x):TR X st M6 g' n':=by
 obtain⟨o,u,h1,h2,h3,h4,h5,h6,h7,h8⟩:=h
 exact⟨o,u,(hf X (by omega)).trans h1,(hf o (by omega)).trans h2,he.trans h3,(hf u h7).trans h4,h5,h6,by omega,h8⟩
end Go.Proofs.YtgoelphibofcmaaGreat.V
