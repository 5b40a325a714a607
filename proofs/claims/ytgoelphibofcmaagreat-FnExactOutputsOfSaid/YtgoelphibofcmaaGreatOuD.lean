/- The bonds of an assembly, by the reference. -/
import Derived.Test.YtgoelphibofcmaaGreatOuB
import Derived.Test.YtgoelphibofcmaaGreatOuC
set_option linter.unusedVariables false
set_option linter.unusedSimpArgs false
set_option maxRecDepth 100000
set_option maxHeartbeats 16000000
namespace Go.Proofs.YtgoelphibofcmaaGreat.V
open Go.RowKit
attribute [local irreducible] dQ wpOps fX Call
attribute [local go_sem] aQ fM eU fY fW dm upd cG K.av cQ AV.cells AV.cell rowOf rowsOf part ld rowAt bQ cC dE ea gZ bS dh eo fV fj dB ef dd dc dS dU b4 bj cV bW cY cW ec eh ee cU ck de eb bV aU da cK gY bx cP cj bd dv bl dG AV.undef bH bK dW dZ dO dL cN ek eu cJ ej ei cZ db List.getD_cons_zero List.getD_cons_succ List.getD_nil List.all_cons List.all_nil Bool.and_true Bool.true_and Bool.and_self Bool.not_true Bool.not_false Option.map_some Option.map_none Option.bind_some Option.bind_none List.length_cons List.length_nil List.take_succ_cons List.take_zero List.take_nil List.drop_succ_cons List.drop_zero List.drop_nil List.head?_cons List.map_cons List.map_nil List.getElem?_cons_zero List.getElem?_cons_succ List.cons_append List.nil_append List.append_nil List.length_map List.set_cons_zero List.set_cons_succ Nat.reduceMul eq_self Int.toNat_natCast Int.natCast_nonneg and_self true_and and_true decide_true decide_false Bool.false_eq_true Nat.zero_add Nat.add_zero List.contains_cons List.contains_nil Bool.or_false Bool.false_or beq_self_eq_true Nat.reduceBEq ne_eq not_true_eq_false not_false_eq_true Id.mk.injEq false_and and_false Nat.reduceLT Int.reduceLE Int.reduceLT Int.reduceToNat Int.reduceNeg Int.reduceAdd Nat.le_refl List.length_append beq_true beq_false Bool.not_eq_eq_eq_not or_false false_or dX ae aj aJ bq bG cr aY bf aW bp cR bB
def aH (b:PB):List AV:=[.int .i64 b.a,.int .i64 b.b,.int .i64 b.s]
theorem OY:∀b:PB,(aH b).length=3/\(aH b).all AV.cell=true:=fun _=>⟨rfl,rfl⟩
theorem Au (g:Rows) (n:Nat) (b:PB):dt g (n+1) (aH b)=some (aH b):=by simp[aH,ae,aj,aJ]
theorem vJ (g:Rows) (n:Nat) (b:PB):eI g (n+1) (aH b)=some (aH b):=by simp[aH,bt,cz,er]
theorem JI:Rh aH (fun c=>.agg (aH c)) 3 true:=⟨fun _=>rfl,fun _=>rfl,fun x g=>by simp only[aH,ae,aj,bf,aJ,Option.map_some]⟩
def nE (s:ax) (l:List ab) (i:Nat) (d:Int):List PB:=
 if 0<=eY l (cH (aA l i).aL d)/\0<gw s (aA l i).aT d (aA l (eY l (cH (aA l i).aL d)).toNat).aT then
  [⟨i,(eY l (cH (aA l i).aL d)).toNat,gw s (aA l i).aT d (aA l (eY l (cH (aA l i).aL d)).toNat).aT⟩]else[]
def gx (s:ax) (l:List ab) (i m:Nat):List PB:=(List.range m).flatMap fun j:Nat=>nE s l i (1-(j:Int))
def ij (s:ax) (l:List ab) (n:Nat):List PB:=(List.range n).flatMap fun i=>gx s l i 2
def dn (s:ax) (l:List ab):List PB:=ij s l l.length
theorem qD (s:ax) (l:List ab) (i m:Nat):gx s l i (m+1)=gx s l i m++nE s l i (1-(m:Int)):=by simp[gx,List.range_succ]
theorem rY (s:ax) (l:List ab) (n:Nat):ij s l (n+1)=ij s l n++gx s l n 2:=by simp[ij,List.range_succ]
theorem El (s:ax) (l:List ab) (i:Nat) (d:Int):(nE s l i d).length<=1:=by unfold nE;split<;>simp
theorem rX (s:ax) (l:List ab) (i m:Nat):(gx s l i m).length<=m:=by
 induction m with
 |zero=>simp[gx]
 |succ m ih=>rw[qD,List.length_append];have:=El s l i (1-(m:Int));omega
theorem uk (s:ax) (l:List ab) (n:Nat):(ij s l n).length<=2*n:=by
 induction n with
 |zero=>simp[ij]
 |succ n ih=>rw[rY,List.length_append];have:=rX s l n 2;omega
def sB:Id->Prop:=fun o=>o.site=193001000∨o.site=193012006
theorem Fe (s:ax) (l:List ab) (hS:kZ s) (hA:lN s l):aq Tryz.prog 193 [.du (ad s),.du [.sl (l.map aa)]] (.sl ((dn s l).map aH)):=by
 refine aq.body eF rfl fun hl n0=>?_
 clear hl
 have hF:=hA.1
 have PX:=hF.yi
 (try((repeat(revert hN;revert N;apply Pn.out));refine wk @Nat.zero_add ?_;(repeat(refine Pn.mk ?_;intro N hN))))
 refine aZ (fun n env st=>∃k:Nat,n=(l.length)-k/\k<=(l.length)/\env 6=.int .i64 (k:Int)/\(nB aH 3 (env 5) st.get sB (ij s l k))) (l.length) ⟨0,by omega,by omega,sl @Nat.zero_add,⟨⟨193001000,n0+1⟩,.inl rfl,by simp only[go_sem, ↓reduceIte,Nat.reduceEqDiff,Nat.reduceAdd,Nat.reduceSub,Nat.reduceLeDiff,reduceCtorEq];rfl,by simp only[go_sem, ↓reduceIte,Nat.reduceEqDiff,Nat.reduceAdd,Nat.reduceSub,Nat.reduceLeDiff,reduceCtorEq];rfl⟩⟩ ?_
 rintro n_a env_a st_a ⟨k,rfl,ale,a6,jO⟩ dy
 have a0:=dy 0 (by kernel_rfl);have a1:=dy 1 (by kernel_rfl)
 simp only[go_sem, ↓reduceIte,Nat.reduceEqDiff,Nat.reduceAdd,Nat.reduceSub,Nat.reduceLeDiff,reduceCtorEq]at a0 a1
 clear dy
 by_cases hk:(k:Int)<(l.length:Int)
 ·have cw:∀{e:Env} {gg:Rows},(e 6=.int .i64 (IntKind.i64.wrap ((k:Int)+1)))->(nB aH 3 (e 5) gg sB (ij s l (k+1)))->∃m0,m0<(l.length)-k/\∃k:Nat,m0=(l.length)-k/\k<=(l.length)/\e 6=.int .i64 (k:Int)/\(nB aH 3 (e 5) gg sB (ij s l k)):=fun x1 x2=>⟨_,by omega,k+1,rfl,by omega,(by rw[x1,aD (by omega)]),x2⟩
  have fP:k<l.length:=by omega
  have eX:=fw fP
  have hul:=uk s l k
  (try((repeat(revert hN;revert N;apply Pn.out));refine wk (tw @a6 (tw @a0 (tw @a1 @hk))) ?_;(repeat(refine Pn.mk ?_;intro N hN))))
  refine aZ (fun n env st=>∃m:Nat,n=(2)-m/\m<=(2)/\env 7=(.int .i64 (1-(m:Int)))/\(nB aH 3 (env 5) st.get sB (ij s l k++gx s l k m))) (2) ⟨0,by omega,by omega,sl (tw @a6 (tw @a0 @a1)),by(simp only[go_sem, ↓reduceIte,Nat.reduceEqDiff,Nat.reduceAdd,Nat.reduceSub,Nat.reduceLeDiff,reduceCtorEq];exact jO.cast (by simp[gx]))⟩ ?_
  rintro n_b env_b st_b ⟨m,rfl,ble,b7,bI0⟩ fK
  have b0:=fK 0 (by kernel_rfl);have b1:=fK 1 (by kernel_rfl);have b6:=fK 6 (by kernel_rfl)
  simp only[go_sem, ↓reduceIte,Nat.reduceEqDiff,Nat.reduceAdd,Nat.reduceSub,Nat.reduceLeDiff,reduceCtorEq,a6,a0,a1]at b0 b1 b6
  clear fK
  have Ut:=rX s l k m
  have l5:=qD s l k m
  by_cases hm:(m:Int)<2
  ·have fE:∀{e:Env} {gg:Rows},(e 7=(.int .i64 (1-((m+1):Int))))->(nB aH 3 (e 5) gg sB (ij s l k++gx s l k (m+1)))->∃m0,m0<(2)-m/\∃m:Nat,m0=(2)-m/\m<=(2)/\e 7=(.int .i64 (1-(m:Int)))/\(nB aH 3 (e 5) gg sB (ij s l k++gx s l k m)):=fun x1 x2=>⟨_,by omega,m+1,rfl,by omega,x1,x2⟩
   have rl:(0:Int)<=1-(m:Int):=by omega
   have hd:jl (1-(m:Int)) 0 3=true:=gr (by omega)
   have hw:IntKind.i64.wrap (1-(m:Int)-1)=1-((m:Int)+1):=by rw[bI (by omega)];omega
   have UE:=yQ l hF k (1-(m:Int)) fP hd
   unfold nE at l5
   have hT:=hA.2 _ (lv fP)
   generalize BI:eY l (cH (aA l k).aL (1-(m:Int)))=ix at *
   by_cases hi:ix<0
   ·rw[if_neg (by omega),List.append_nil]at l5
    (repeat(first|((repeat(revert hN;revert N;apply Pn.out));refine wk (tw @b7 (tw @b0 (tw @b1 (tw @b6 (tw @rl (tw @hw @hi)))))) ?_;(repeat(refine Pn.mk ?_;intro N hN)))|((try apply Or.inl);refine⟨_,aq.x (UE) (sd (tw @b7 (tw @b0 (tw @b1 (tw @b6 (tw @rl (tw @hw @hi))))))),?_⟩;refine hN _ _ ?_;clear hN N)))
    exact fE (sd (tw @b7 (tw @b0 (tw @b1 (tw @b6 @hw))))) (by(simp only[go_sem, ↓reduceIte,Nat.reduceEqDiff,Nat.reduceAdd,Nat.reduceSub,Nat.reduceLeDiff,reduceCtorEq];exact bI0.cast (by rw[l5])))
   ·have uZ:0<=ix:=by omega
    have P5:=nI (l:=l) (p:=cH (aA l k).aL (1-(m:Int))) (by omega)
    rw[BI]at P5
    have iV:=fw P5.1
    have om:=tP s hS (aA l k).aT (1-(m:Int)) (aA l ix.toNat).aT hT (hA.2 _ (lv P5.1)) hd
    generalize Up:gw s (aA l k).aT (1-(m:Int)) (aA l ix.toNat).aT=bv at *
    by_cases hb:0<bv
    ·rw[if_pos ⟨uZ,hb⟩]at l5
     (repeat(first|((repeat(revert hN;revert N;apply Pn.out));refine wa (tw @b7 (tw @b0 (tw @b1 (tw @b6 (tw @rl (tw @hw (tw @hi (tw @uZ (tw @eX (tw @iV (tw @hb @aa.eq_1))))))))))) ?_;(repeat(refine Pn.mk ?_;intro N hN)))|((try apply Or.inl);refine⟨_,aq.x (UE) (sd (tw @b7 (tw @b0 (tw @b1 (tw @b6 (tw @rl (tw @hw (tw @hi (tw @uZ (tw @eX (tw @iV (tw @hb @aa.eq_1)))))))))))),?_⟩;refine hN _ _ ?_;clear hN N)|((try apply Or.inl);refine⟨_,aq.x (om) (sd (tw @b7 (tw @b0 (tw @b1 (tw @b6 (tw @rl (tw @hw (tw @hi (tw @uZ (tw @eX (tw @iV (tw @hb @aa.eq_1)))))))))))),?_⟩;refine hN _ _ ?_;clear hN N)))
     refine QX (enc:=aH) (S:=sB) (L:=ij s l k++gx s l k m) (xv:=env_b 5) [⟨k,ix.toNat,bv⟩] rfl rfl (sd @Nat.zero_add) (bI0.frame fun o ho=>by rcases ho with ho|ho<;>simp only[go_sem, ↓reduceIte,Nat.reduceEqDiff,Nat.reduceAdd,Nat.reduceSub,Nat.reduceLeDiff,reduceCtorEq,Bb ho]) (sd (tw @aH.eq_1 (Int.toNat_of_nonneg uZ))) OY (.inr rfl) (by simp only[dG,List.length_append,List.length_cons,List.length_nil];omega) fun v g' hO jH=>?_
     rw[List.append_assoc,<-l5]at hO
     clear jH
     (try((repeat(revert hN;revert N;apply Pn.out));refine wk (tw @b7 (tw @b0 (tw @b1 (tw @b6 @hw)))) ?_;(repeat(refine Pn.mk ?_;intro N hN))))
     exact fE (sd (tw @b7 (tw @b0 (tw @b1 (tw @b6 @hw))))) (by(simp only[go_sem, ↓reduceIte,Nat.reduceEqDiff,Nat.reduceAdd,Nat.reduceSub,Nat.reduceLeDiff,reduceCtorEq];exact hO))
    ·rw[if_neg fun h=>hb h.2,List.append_nil]at l5
     (repeat(first|((repeat(revert hN;revert N;apply Pn.out));refine wk (tw @b7 (tw @b0 (tw @b1 (tw @b6 (tw @rl (tw @hw (tw @hi (tw @uZ (tw @eX (tw @iV (tw @hb @aa.eq_1))))))))))) ?_;(repeat(refine Pn.mk ?_;intro N hN)))|((try apply Or.inl);refine⟨_,aq.x (UE) (sd (tw @b7 (tw @b0 (tw @b1 (tw @b6 (tw @rl (tw @hw (tw @hi (tw @uZ (tw @eX (tw @iV (tw @hb @aa.eq_1)))))))))))),?_⟩;refine hN _ _ ?_;clear hN N)|((try apply Or.inl);refine⟨_,aq.x (om) (sd (tw @b7 (tw @b0 (tw @b1 (tw @b6 (tw @rl (tw @hw (tw @hi (tw @uZ (tw @eX (tw @iV (tw @hb @aa.eq_1)))))))))))),?_⟩;refine hN _ _ ?_;clear hN N)))
     exact fE (sd (tw @b7 (tw @b0 (tw @b1 (tw @b6 @hw))))) (by(simp only[go_sem, ↓reduceIte,Nat.reduceEqDiff,Nat.reduceAdd,Nat.reduceSub,Nat.reduceLeDiff,reduceCtorEq];exact bI0.cast (by rw[l5])))
  ·have uy:m=2:=by omega
   subst uy
   have ew:¬(0:Int)<=1-((2:Nat):Int):=by omega
   (try((repeat(revert hN;revert N;apply Pn.out));refine wk (tw @b7 (tw @b0 (tw @b1 (tw @b6 @ew)))) ?_;(repeat(refine Pn.mk ?_;intro N hN))))
   exact cw (sd (tw @a6 (tw @a0 (tw @a1 (tw @b7 (tw @b0 (tw @b1 @b6))))))) (by(simp only[go_sem, ↓reduceIte,Nat.reduceEqDiff,Nat.reduceAdd,Nat.reduceSub,Nat.reduceLeDiff,reduceCtorEq];exact bI0.cast (by rw[rY])))
 ·have kT:k=l.length:=by omega
  (try((repeat(revert hN;revert N;apply Pn.out));refine wk (tw @a6 (tw @a0 (tw @a1 @hk))) ?_;(repeat(refine Pn.mk ?_;intro N hN))))
  exact xQ (.inl rfl) (by simp only[go_sem, ↓reduceIte,Nat.reduceEqDiff,Nat.reduceAdd,Nat.reduceSub,Nat.reduceLeDiff,reduceCtorEq];rfl) (by rw[kT]at jO;exact jO.gK fun b=>vJ _ _ b)
end Go.Proofs.YtgoelphibofcmaaGreat.V

namespace Go.Proofs.YtgoelphibofcmaaGreat.V
open Go.RowKit
attribute [local irreducible] dQ wpOps fX Call
attribute [local go_sem] aQ fM eU fY fW dm upd cG K.av cQ AV.cells AV.cell rowOf rowsOf part ld rowAt bQ cC dE ea gZ bS dh eo fV fj dB ef dd dc dS dU b4 bj cV bW cY cW ec eh ee cU ck de eb bV aU da cK gY bx cP cj bd dv bl dG AV.undef bH bK dW dZ dO dL cN ek eu cJ ej ei cZ db List.getD_cons_zero List.getD_cons_succ List.getD_nil List.all_cons List.all_nil Bool.and_true Bool.true_and Bool.and_self Bool.not_true Bool.not_false Option.map_some Option.map_none Option.bind_some Option.bind_none List.length_cons List.length_nil List.take_succ_cons List.take_zero List.take_nil List.drop_succ_cons List.drop_zero List.drop_nil List.head?_cons List.map_cons List.map_nil List.getElem?_cons_zero List.getElem?_cons_succ List.cons_append List.nil_append List.append_nil List.length_map List.set_cons_zero List.set_cons_succ Nat.reduceMul eq_self Int.toNat_natCast Int.natCast_nonneg and_self true_and and_true decide_true decide_false Bool.false_eq_true Nat.zero_add Nat.add_zero List.contains_cons List.contains_nil Bool.or_false Bool.false_or beq_self_eq_true Nat.reduceBEq ne_eq not_true_eq_false not_false_eq_true Id.mk.injEq false_and and_false Nat.reduceLT Int.reduceLE Int.reduceLT Int.reduceToNat Int.reduceNeg Int.reduceAdd Nat.le_refl List.length_append beq_true beq_false Bool.not_eq_eq_eq_not or_false false_or dX ae aj aJ bq bG cr aY bf aW bp cR bB
theorem CT (a b:Nat):aq Tryz.prog 215 [.int .i64 a,.int .i64 b] (.int .i64 (min a b:Nat)):=by
 refine aq.body eF rfl fun hl n0=>?_
 clear hl
 by_cases h:(a:Int)<(b:Int)
 ·(try((repeat(revert hN;revert N;apply Pn.out));refine wk @h ?_;(repeat(refine Pn.mk ?_;intro N hN))))
  exact dj (b:=(a:Int)) (.inl rfl) (sd @Nat.zero_add) (by omega)
 ·(try((repeat(revert hN;revert N;apply Pn.out));refine wk @h ?_;(repeat(refine Pn.mk ?_;intro N hN))))
  exact dj (b:=(b:Int)) (.inl rfl) (sd @Nat.zero_add) (by omega)
theorem CR (a b:Nat):aq Tryz.prog 216 [.int .i64 a,.int .i64 b] (.int .i64 (max a b:Nat)):=by
 refine aq.body eF rfl fun hl n0=>?_
 clear hl
 by_cases h:(b:Int)<(a:Int)
 ·(try((repeat(revert hN;revert N;apply Pn.out));refine wk @h ?_;(repeat(refine Pn.mk ?_;intro N hN))))
  exact dj (b:=(a:Int)) (.inl rfl) (sd @Nat.zero_add) (by omega)
 ·(try((repeat(revert hN;revert N;apply Pn.out));refine wk @h ?_;(repeat(refine Pn.mk ?_;intro N hN))))
  exact dj (b:=(b:Int)) (.inl rfl) (sd @Nat.zero_add) (by omega)
def dV (f:Nat->Nat) (n:Nat):List (List AV):=(List.range n).map fun i=>eN (f i)
theorem gC (f:Nat->Nat) (n:Nat):(dV f n).length=n:=by simp[dV]
theorem fJ {f:Nat->Nat} {n i:Nat} (h:i<n):(dV f n)[i]? =some (eN (f i)):=by simp[dV,h]
theorem iC {f g:Nat->Nat} {n:Nat} (h:∀i,i<n->f i=g i):dV f n=dV g n:=List.map_congr_left fun i hi=>by rw[h i (List.mem_range.1 hi)]
theorem ql {f g:Nat->Nat} {n k v:Nat} (hk:k<n) (hv:g k=v) (h:∀i,i<n->i≠k->g i=f i):(dV f n).set k (eN v)=dV g n:=by
 refine List.ext_getElem? fun i=>?_
 rw[List.getElem?_set]
 by_cases hi:k=i
 ·subst hi
  rw[if_pos rfl,gC,if_pos hk,fJ hk,hv]
 ·rw[if_neg hi]
  by_cases fe:i<n
  ·rw[fJ fe,fJ fe,h i fe (fun h=>hi h.symm)]
  ·rw[List.getElem?_eq_none (by rw[gC];omega),List.getElem?_eq_none (by rw[gC];omega)]
theorem CW (cnt:Nat) (hn:cnt<=1048576) (bs:List PB) (hb:∀b∈bs,b.a<cnt/\b.b<cnt) (qE:bs.length<=1048576):aq Tryz.prog 214 [.int .i64 cnt,.sl (bs.map aH)] (.sl ((fN cnt (eO bs)).map BC)):=by
 refine aq.body eF rfl fun hl n0=>?_
 clear hl
 (try((repeat(revert hN;revert N;apply Pn.out));refine wk @Nat.zero_add ?_;(repeat(refine Pn.mk ?_;intro N hN))))
 refine aZ (fun n env st=>∃k:Nat,n=(cnt)-k/\k<=(cnt)/\env 6=.int .i64 (k:Int)/\(∃o:Id,env 5=.own o 0 k/\st.get o=some ⟨true,1,dV id k⟩/\o.bE<st.next)) (cnt) ⟨0,by omega,by omega,sl @Nat.zero_add,⟨⟨214001000,n0+1⟩,sd @Nat.zero_add,by simp only[go_sem, ↓reduceIte,Nat.reduceEqDiff,Nat.reduceAdd,Nat.reduceSub,Nat.reduceLeDiff,reduceCtorEq];rfl,by(try dsimp only);omega⟩⟩ ?_
 rintro n_a env_a st_a ⟨k,rfl,ale,a6,jO⟩ dy
 have a0:=dy 0 (by kernel_rfl);have a1:=dy 1 (by kernel_rfl)
 simp only[go_sem, ↓reduceIte,Nat.reduceEqDiff,Nat.reduceAdd,Nat.reduceSub,Nat.reduceLeDiff,reduceCtorEq]at a0 a1
 clear dy
 obtain⟨o,a5,ag,u7⟩:=jO
 have tl:=gC id k
 have tf:=dr u7
 by_cases hk:(k:Int)<(cnt:Int)
 ·have cw:∀{e:Env} {gg:Rows} {nx:Nat},(e 6=.int .i64 (IntKind.i64.wrap ((k:Int)+1)))->(∃o:Id,e 5=.own o 0 (k+1)/\gg o=some ⟨true,1,dV id (k+1)⟩/\o.bE<nx)->∃m0,m0<(cnt)-k/\∃k:Nat,m0=(cnt)-k/\k<=(cnt)/\e 6=.int .i64 (k:Int)/\(∃o:Id,e 5=.own o 0 k/\gg o=some ⟨true,1,dV id k⟩/\o.bE<nx):=fun x1 x2=>⟨_,by omega,k+1,rfl,by omega,(by rw[x1,aD (by omega)]),x2⟩
  have fP:k<cnt:=by omega
  have e1:k+1<=16777216:=by omega
  have tL:dV id k++[[.int .i64 (k:Int)]]=dV id (k+1):=by simp[dV,List.range_succ,eN]
  (try((repeat(revert hN;revert N;apply Pn.out));refine wk (tw @a6 (tw @a0 (tw @a1 (tw @a5 (tw @ag (tw @tf (tw @hk (tw @tl (tw @e1 @tL))))))))) ?_;(repeat(refine Pn.mk ?_;intro N hN))))
  exact cw (sd (tw @a6 (tw @a0 @a1))) (⟨⟨214005003,st_a.next+1⟩,sd @Nat.zero_add,sd @tL,by(try dsimp only);omega⟩)
 have kT:k=cnt:=by omega
 subst kT
 have Wn:st_a.get o=some ⟨true,1,dV (eO (bs.take 0)) k⟩:=ag
 clear ag
 (try((repeat(revert hN;revert N;apply Pn.out));refine wk (tw @a6 (tw @a0 (tw @a1 @hk))) ?_;(repeat(refine Pn.mk ?_;intro N hN))))
 refine aZ (fun n env st=>∃j:Nat,n=(bs.length)-j/\j<=(bs.length)/\env 7=.int .i64 (j:Int)/\st.get o=some ⟨true,1,dV (eO (bs.take j)) k⟩/\(o.bE<st.next)) (bs.length) ⟨0,by omega,by omega,sl (tw @a6 (tw @a0 (tw @a1 (tw @a5 @Wn)))),sl (tw @a6 (tw @a0 (tw @a1 (tw @a5 @Wn)))),(by(try dsimp only);omega)⟩ ?_
 rintro n_b env_b st_b ⟨j,rfl,ble,b7,bg0,bI0⟩ fK
 have b0:=fK 0 (by kernel_rfl);have b1:=fK 1 (by kernel_rfl);have b5:=fK 5 (by kernel_rfl)
 simp only[go_sem, ↓reduceIte,Nat.reduceEqDiff,Nat.reduceAdd,Nat.reduceSub,Nat.reduceLeDiff,reduceCtorEq,a6,a0,a1,a5,Wn]at b0 b1 b5
 clear fK
 by_cases hj:(j:Int)<(bs.length:Int)
 ·have fE:∀{e:Env} {gg:Rows} {nx:Nat},(e 7=.int .i64 (IntKind.i64.wrap ((j:Int)+1)))->(gg o=some ⟨true,1,dV (eO (bs.take (j+1))) k⟩)->(o.bE<nx)->∃m0,m0<(bs.length)-j/\∃j:Nat,m0=(bs.length)-j/\j<=(bs.length)/\e 7=.int .i64 (j:Int)/\gg o=some ⟨true,1,dV (eO (bs.take j)) k⟩/\(o.bE<nx):=fun x1 x2 x3=>⟨_,by omega,j+1,rfl,by omega,(by rw[x1,aD (by omega)]),x2,x3⟩
  have iK:j<bs.length:=by omega
  have BH:(bs.map aH)[j]? =some (aH bs[j]):=by simp[iK]
  have Oh:=hb _ (List.getElem_mem iK)
  have oH:bs.take (j+1)=bs.take j++[bs[j]]:=List.take_succ_eq_append_getElem iK
  have l5:eO (bs.take (j+1))=fa (eO (bs.take j)) bs[j]:=by rw[oH,xr]
  generalize eO (bs.take j)=L at *
  generalize bs[j]=b at *
  have hA:=fJ (f:=L) Oh.1
  have hB:=fJ (f:=L) Oh.2
  have Uh:=CT (L b.a) (L b.b)
  have Ui:=CR (L b.a) (L b.b)
  have tl:=gC L k
  have gW:(b.a:Int)<(k:Int):=by omega
  have gm:(b.b:Int)<(k:Int):=by omega
  (try((repeat(revert hN;revert N;apply Pn.out));refine wk (tw @b7 (tw @bg0 (tw @b0 (tw @b1 (tw @b5 (tw @hj (tw @BH (tw @aH.eq_1 (tw @hA (tw @hB (tw @gW (tw @gm (tw @tl @eN.eq_1))))))))))))) ?_;(repeat(refine Pn.mk ?_;intro N hN))))
  refine aZ (fun n env st=>∃i:Nat,n=(k)-i/\i<=(k)/\env 10=.int .i64 (i:Int)/\st.get o=some ⟨true,1,dV (fun x=>if x<i then fa L b x else L x) k⟩/\(o.bE<st.next)) (k) ⟨0,by omega,by omega,sl (tw @b7 (tw @bg0 (tw @b0 (tw @b1 (tw @b5 @Nat.not_lt_zero))))),sl (tw @b7 (tw @bg0 (tw @b0 (tw @b1 (tw @b5 @Nat.not_lt_zero))))),(by(try dsimp only);omega)⟩ ?_
  rintro n_c env_c st_c ⟨i,rfl,cle,jP,cg0,cI0⟩ cfr
  have c0:=cfr 0 (by kernel_rfl);have c1:=cfr 1 (by kernel_rfl);have c5:=cfr 5 (by kernel_rfl);have c7:=cfr 7 (by kernel_rfl);have c8:=cfr 8 (by kernel_rfl);have c9:=cfr 9 (by kernel_rfl)
  simp only[go_sem, ↓reduceIte,Nat.reduceEqDiff,Nat.reduceAdd,Nat.reduceSub,Nat.reduceLeDiff,reduceCtorEq,b7,bg0,b0,b1,b5,Nat.not_lt_zero]at c0 c1 c5 c7 c8 c9
  clear cfr
  have hC:=fJ (f:=fun x=>if x<i then fa L b x else L x) (n:=k) (i:=i)
  have tc:=gC (fun x=>if x<i then fa L b x else L x) k
  by_cases hi:(i:Int)<(k:Int)
  ·have iF:∀{e:Env} {gg:Rows} {nx:Nat},(e 10=.int .i64 (IntKind.i64.wrap ((i:Int)+1)))->(gg o=some ⟨true,1,dV (fun x=>if x<(i+1)then fa L b x else L x) k⟩)->(o.bE<nx)->∃m0,m0<(k)-i/\∃i:Nat,m0=(k)-i/\i<=(k)/\e 10=.int .i64 (i:Int)/\gg o=some ⟨true,1,dV (fun x=>if x<i then fa L b x else L x) k⟩/\(o.bE<nx):=fun x1 x2 x3=>⟨_,by omega,i+1,rfl,by omega,(by rw[x1,aD (by omega)]),x2,x3⟩
   have fe:i<k:=by omega
   replace hC:=hC fe
   rw[if_neg (Nat.lt_irrefl i)]at hC
   by_cases he:L i=max (L b.a) (L b.b)
   ·have vQ:decide ((L i:Int)=((max (L b.a) (L b.b):Nat):Int))=true:=decide_eq_true (by rw[he])
    have eL:(dV (fun x=>if x<i then fa L b x else L x) k).set i (eN (min (L b.a) (L b.b)))=dV (fun x=>if x<i+1 then fa L b x else L x) k:=ql fe (by rw[if_pos (by omega),fa,if_pos he]) fun x hx DY=>by
     by_cases h:x<i
     ·rw[if_pos h,if_pos (by omega)]
     ·rw[if_neg h,if_neg (by omega)]
    rw[eN]at eL hC
    (repeat(first|((repeat(revert hN;revert N;apply Pn.out));refine wk (tw @jP (tw @cg0 (tw @c0 (tw @c1 (tw @c5 (tw @c7 (tw @c8 (tw @c9 (tw @hi (tw @hC (tw @tc (tw @vQ @eL)))))))))))) ?_;(repeat(refine Pn.mk ?_;intro N hN)))|((try apply Or.inl);refine⟨_,aq.x (Uh) (sd (tw @jP (tw @cg0 (tw @c0 (tw @c1 (tw @c5 (tw @c7 (tw @c8 (tw @c9 (tw @hi (tw @hC (tw @tc (tw @vQ @eL))))))))))))),?_⟩;refine hN _ _ ?_;clear hN N)|((try apply Or.inl);refine⟨_,aq.x (Ui) (sd (tw @jP (tw @cg0 (tw @c0 (tw @c1 (tw @c5 (tw @c7 (tw @c8 (tw @c9 (tw @hi (tw @hC (tw @tc (tw @vQ @eL))))))))))))),?_⟩;refine hN _ _ ?_;clear hN N)))
    refine iF ?_ ?_ (by(try dsimp only);omega)
    all_goals simp only[go_sem, ↓reduceIte,Nat.reduceEqDiff,Nat.reduceAdd,Nat.reduceSub,Nat.reduceLeDiff,reduceCtorEq,jP,cg0,c0,c1,c5,c7,c8,c9]
   ·have vQ:decide ((L i:Int)=((max (L b.a) (L b.b):Nat):Int))=false:=decide_eq_false fun h=>he (by omega)
    have mU:dV (fun x=>if x<i then fa L b x else L x) k=dV (fun x=>if x<i+1 then fa L b x else L x) k:=iC fun x hx=>by
     by_cases h:x<i
     ·rw[if_pos h,if_pos (by omega)]
     ·by_cases DY:x=i
      ·subst DY;rw[if_neg h,if_pos (by omega),fa,if_neg he]
      ·rw[if_neg h,if_neg (by omega)]
    rw[eN]at hC
    (repeat(first|((repeat(revert hN;revert N;apply Pn.out));refine wk (tw @jP (tw @cg0 (tw @c0 (tw @c1 (tw @c5 (tw @c7 (tw @c8 (tw @c9 (tw @hi (tw @hC (tw @tc @vQ))))))))))) ?_;(repeat(refine Pn.mk ?_;intro N hN)))|((try apply Or.inl);refine⟨_,aq.x (Uh) (sd (tw @jP (tw @cg0 (tw @c0 (tw @c1 (tw @c5 (tw @c7 (tw @c8 (tw @c9 (tw @hi (tw @hC (tw @tc @vQ)))))))))))),?_⟩;refine hN _ _ ?_;clear hN N)|((try apply Or.inl);refine⟨_,aq.x (Ui) (sd (tw @jP (tw @cg0 (tw @c0 (tw @c1 (tw @c5 (tw @c7 (tw @c8 (tw @c9 (tw @hi (tw @hC (tw @tc @vQ)))))))))))),?_⟩;refine hN _ _ ?_;clear hN N)))
    rw[mU]at cg0
    refine iF ?_ ?_ (by(try dsimp only);omega)
    all_goals simp only[go_sem, ↓reduceIte,Nat.reduceEqDiff,Nat.reduceAdd,Nat.reduceSub,Nat.reduceLeDiff,reduceCtorEq,jP,cg0,c0,c1,c5,c7,c8,c9]
  ·have zk:i=k:=by omega
   subst zk
   have dx:dV (fun x=>if x<i then fa L b x else L x) i=dV (fa L b) i:=iC fun x hx=>if_pos hx
   rw[dx]at cg0
   rw[<-l5]at cg0
   (try((repeat(revert hN;revert N;apply Pn.out));refine wk (tw @jP (tw @cg0 (tw @c0 (tw @c1 (tw @c5 (tw @c7 (tw @c8 (tw @c9 (tw @hi @tc))))))))) ?_;(repeat(refine Pn.mk ?_;intro N hN))))
   refine fE ?_ ?_ (by(try dsimp only);omega)
   all_goals simp only[go_sem, ↓reduceIte,Nat.reduceEqDiff,Nat.reduceAdd,Nat.reduceSub,Nat.reduceLeDiff,reduceCtorEq,b7,bg0,b0,b1,b5,jP,cg0,c0,c1,c5,c7,c8,c9]
 have iA:j=bs.length:=by omega
 subst iA
 rw[List.take_length]at bg0
 have hL:=uC bs
 generalize eO bs=L at *
 have tl:=gC L k
 (try((repeat(revert hN;revert N;apply Pn.out));refine wk (tw @b7 (tw @bg0 (tw @b0 (tw @b1 (tw @b5 @hj))))) ?_;(repeat(refine Pn.mk ?_;intro N hN))))
 have Wo:o.bE<st_b.next:=bI0
 refine aZ (fun n env st=>∃i:Nat,n=(k)-i/\i<=(k)/\env 12=.int .i64 (i:Int)/\st.get o=some ⟨true,1,dV L k⟩/\(∃oo rows ids,env 11=.own oo 0 rows.length/\st.get oo=some ⟨true,1,rows⟩/\eQ Rj st.get rows ((leads i L).map (members k L)) ids/\(∀x∈oo::ids,st_b.next<=x.bE/\x.bE<st.next)/\st_b.next<=st.next/\oo∉ids)) (k) ⟨0,by omega,by omega,sl (tw @b7 (tw @bg0 (tw @b0 (tw @b1 (tw @b5 (dr Wo)))))),sl (tw @b7 (tw @bg0 (tw @b0 (tw @b1 (tw @b5 (dr Wo)))))),⟨⟨214016000,st_b.next+1⟩,[],[],by(simp only[go_sem, ↓reduceIte,Nat.reduceEqDiff,Nat.reduceAdd,Nat.reduceSub,Nat.reduceLeDiff,reduceCtorEq])<;>rfl,sd @Nat.zero_add,.nil,fun x hx=>by rw[List.mem_singleton.1 hx];(try dsimp only);omega,by(try dsimp only);omega,by simp⟩⟩ ?_
 rintro n_d env_d st_d ⟨i,rfl,dle,d12,dg0,dI0⟩ dfr
 have d0:=dfr 0 (by kernel_rfl);have d5:=dfr 5 (by kernel_rfl)
 simp only[go_sem, ↓reduceIte,Nat.reduceEqDiff,Nat.reduceAdd,Nat.reduceSub,Nat.reduceLeDiff,reduceCtorEq,b7,bg0,b0,b1,b5,dr Wo]at d0 d5
 clear dfr
 obtain⟨oo,rows,ids,d11,dg,hR,oJ,hle,vW⟩:=dI0
 have tL:=im i L
 have rn:=hR.len
 by_cases hi:(i:Int)<(k:Int)
 ·have uF:∀{e:Env} {gg:Rows} {nx:Nat},(e 12=.int .i64 (IntKind.i64.wrap ((i:Int)+1)))->(gg o=some ⟨true,1,dV L k⟩)->(∃oo rows ids,e 11=.own oo 0 rows.length/\gg oo=some ⟨true,1,rows⟩/\eQ Rj gg rows ((leads (i+1) L).map (members k L)) ids/\(∀x∈oo::ids,st_b.next<=x.bE/\x.bE<nx)/\st_b.next<=nx/\oo∉ids)->∃m0,m0<(k)-i/\∃i:Nat,m0=(k)-i/\i<=(k)/\e 12=.int .i64 (i:Int)/\gg o=some ⟨true,1,dV L k⟩/\(∃oo rows ids,e 11=.own oo 0 rows.length/\gg oo=some ⟨true,1,rows⟩/\eQ Rj gg rows ((leads i L).map (members k L)) ids/\(∀x∈oo::ids,st_b.next<=x.bE/\x.bE<nx)/\st_b.next<=nx/\oo∉ids):=fun x1 x2 x3=>⟨_,by omega,i+1,rfl,by omega,(by rw[x1,aD (by omega)]),x2,x3⟩
  have fe:i<k:=by omega
  have hC:=fJ (f:=L) fe
  have qv:=dr (i:=o) (n:=st_d.next) (by omega)
  have Tb:=dr (i:=oo) (n:=st_d.next) (oJ oo (by simp)).2
  by_cases he:L i=i
  ·rw[if_pos he]at tL
   have vQ:decide ((L i:Int)=(i:Int))=true:=decide_eq_true (by rw[he])
   rw[eN]at hC
   (try((repeat(revert hN;revert N;apply Pn.out));refine wk (tw @d12 (tw @dg0 (tw @d0 (tw @d5 (tw @d11 (tw @dg (tw @hi (tw @hC (tw @tl (tw @vQ (tw @qv @Tb))))))))))) ?_;(repeat(refine Pn.mk ?_;intro N hN))))
   refine aZ (fun n env st=>∃m:Nat,n=((k-i))-m/\m<=((k-i))/\env 14=(.int .i64 ((i+m:Nat):Int))/\(∃pp:Id,env 13=.own pp 0 (members (i+m) L i).length/\st.get pp=some ⟨true,1,(members (i+m) L i).map eN⟩/\st_d.next<=pp.bE/\pp.bE<st.next/\(∀x:Id,x.bE<st_d.next->st.get x=st_d.get x)/\st_d.next<=st.next)) ((k-i)) ⟨0,by omega,by omega,sl (tw @d12 (tw @dg0 (tw @d0 (tw @d5 @d11)))),⟨⟨214021000,st_d.next+1+1⟩,by rw[show members (i+0) L i=[]from nL hL (Nat.le_refl i)];(simp only[go_sem, ↓reduceIte,Nat.reduceEqDiff,Nat.reduceAdd,Nat.reduceSub,Nat.reduceLeDiff,reduceCtorEq])<;>rfl,by rw[show members (i+0) L i=[]from nL hL (Nat.le_refl i)];(simp only[go_sem, ↓reduceIte,Nat.reduceEqDiff,Nat.reduceAdd,Nat.reduceSub,Nat.reduceLeDiff,reduceCtorEq])<;>rfl,by(try dsimp only);omega,by(try dsimp only);omega,fun x hx=>sd (dr hx),by(try dsimp only);omega⟩⟩ ?_
   rintro n_f env_f st_f ⟨m,rfl,fle,f14,fI0⟩ ffr
   have f0:=ffr 0 (by kernel_rfl);have f5:=ffr 5 (by kernel_rfl);have f11:=ffr 11 (by kernel_rfl);have f12:=ffr 12 (by kernel_rfl)
   simp only[go_sem, ↓reduceIte,Nat.reduceEqDiff,Nat.reduceAdd,Nat.reduceSub,Nat.reduceLeDiff,reduceCtorEq,d12,dg0,d0,d5,d11]at f0 f5 f11 f12
   clear ffr
   obtain⟨pp,f13,fg,Qb,Kk,jH,tK⟩:=fI0
   have yH:st_f.get o=some ⟨true,1,dV L k⟩:=(jH o (by omega)).trans dg0
   have V2:st_f.get oo=some ⟨true,1,rows⟩:=(jH oo (oJ oo (by simp)).2).trans dg
   have BJ:=dr Kk
   have CI:=dr (i:=o) (n:=st_f.next) (by omega)
   have Td:=dr (i:=oo) (n:=st_f.next) (by have:=(oJ oo (by simp)).2;omega)
   have Ot:members (i+(m+1)) L i=members (i+m) L i++if L (i+m)=i then[i+m]else[]:=jJ (i+m) L i
   have We:(members (i+m) L i).length<=i+m:=by
    have:=List.length_filter_le (fun k=>L k==i) (List.range (i+m))
    simpa[members]using this
   have x1:=cm (a:=o) (b:=pp) (by omega)
   have x2:=cm (a:=oo) (b:=pp) (by have:=(oJ oo (by simp)).2;omega)
   have x3:=cm (a:=o) (b:=oo) (by have:=(oJ oo (by simp)).1;omega)
   by_cases hm:m<k-i
   ·have sH:∀{e:Env} {gg:Rows} {nx:Nat},(e 14=(.int .i64 ((i+(m+1):Nat):Int)))->(∃pp:Id,e 13=.own pp 0 (members (i+(m+1)) L i).length/\gg pp=some ⟨true,1,(members (i+(m+1)) L i).map eN⟩/\st_d.next<=pp.bE/\pp.bE<nx/\(∀x:Id,x.bE<st_d.next->gg x=st_d.get x)/\st_d.next<=nx)->∃m0,m0<((k-i))-m/\∃m:Nat,m0=((k-i))-m/\m<=((k-i))/\e 14=(.int .i64 ((i+m:Nat):Int))/\(∃pp:Id,e 13=.own pp 0 (members (i+m) L i).length/\gg pp=some ⟨true,1,(members (i+m) L i).map eN⟩/\st_d.next<=pp.bE/\pp.bE<nx/\(∀x:Id,x.bE<st_d.next->gg x=st_d.get x)/\st_d.next<=nx):=fun x1 x2=>⟨_,by omega,m+1,rfl,by omega,x1,x2⟩
    have SS:((i+m:Nat):Int)<(k:Int):=by omega
    have Vo:=fJ (f:=L) (show i+m<k by omega)
    have hw:IntKind.i64.wrap (((i+m:Nat):Int)+1)=((i+(m+1):Nat):Int):=by rw[bI (by omega)];omega
    rw[eN]at Vo
    by_cases hq:L (i+m)=i
    ·have mT:decide ((L (i+m):Int)=(i:Int))=true:=decide_eq_true (by rw[hq])
     rw[if_pos hq]at Ot
     have e1:(members (i+m) L i).length+1<=16777216:=by omega
     have jc:((members (i+m) L i).map eN).length=(members (i+m) L i).length:=by simp
     (try((repeat(revert hN;revert N;apply Pn.out));refine wk (tw @f14 (tw @f0 (tw @f5 (tw @f11 (tw @f12 (tw @f13 (tw @fg (tw @yH (tw @SS (tw @Vo (tw @tl (tw @mT (tw @BJ (tw @CI (tw @x1 (tw @e1 @jc)))))))))))))))) ?_;(repeat(refine Pn.mk ?_;intro N hN))))
     exact sH (sd (tw @f14 (tw @f0 (tw @f5 (tw @f11 (tw @f12 (tw @yH (tw @hw (tw @CI @x1))))))))) (⟨⟨214026003,st_f.next+1+1⟩,by rw[Ot,List.length_append];simp only[go_sem, ↓reduceIte,Nat.reduceEqDiff,Nat.reduceAdd,Nat.reduceSub,Nat.reduceLeDiff,reduceCtorEq,List.length_cons,List.length_nil],by rw[Ot,List.map_append,List.map_cons,List.map_nil];simp only[go_sem, ↓reduceIte,Nat.reduceEqDiff,Nat.reduceAdd,Nat.reduceSub,Nat.reduceLeDiff,reduceCtorEq,eN],by(try dsimp only);omega,by(try dsimp only);omega,fun x hx=>by
      have y1:=jH x hx
      have y2:=cm (a:=x) (b:=pp) (by omega)
      simp only[go_sem, ↓reduceIte,Nat.reduceEqDiff,Nat.reduceAdd,Nat.reduceSub,Nat.reduceLeDiff,reduceCtorEq,dr (show x.bE<st_f.next by omega),y1,y2],by(try dsimp only);omega⟩)
    ·have mT:decide ((L (i+m):Int)=(i:Int))=false:=decide_eq_false fun h=>hq (by omega)
     rw[if_neg hq,List.append_nil]at Ot
     (try((repeat(revert hN;revert N;apply Pn.out));refine wk (tw @f14 (tw @f0 (tw @f5 (tw @f11 (tw @f12 (tw @f13 (tw @fg (tw @yH (tw @SS (tw @Vo (tw @tl (tw @mT (tw @BJ (tw @CI @x1)))))))))))))) ?_;(repeat(refine Pn.mk ?_;intro N hN))))
     exact sH (sd (tw @f14 (tw @f0 (tw @f5 (tw @f11 (tw @f12 (tw @yH @hw))))))) (⟨pp,by rw[Ot];simp only[go_sem, ↓reduceIte,Nat.reduceEqDiff,Nat.reduceAdd,Nat.reduceSub,Nat.reduceLeDiff,reduceCtorEq,f13],by rw[Ot];simp only[go_sem, ↓reduceIte,Nat.reduceEqDiff,Nat.reduceAdd,Nat.reduceSub,Nat.reduceLeDiff,reduceCtorEq,fg],Qb,by(try dsimp only);omega,jH,by(try dsimp only);omega⟩)
   ·have hmk:i+m=k:=by omega
    have SS:¬((i+m:Nat):Int)<(k:Int):=by omega
    rw[hmk]at f13 fg We
    have e1:rows.length+1<=16777216:=by
     have:=j7 i L
     rw[rn,List.length_map];omega
    (try((repeat(revert hN;revert N;apply Pn.out));refine wk (tw @f14 (tw @f0 (tw @f5 (tw @f11 (tw @f12 (tw @f13 (tw @fg (tw @yH (tw @V2 (tw @SS (tw @BJ (tw @CI (tw @Td (tw @x1 (tw @x2 @e1))))))))))))))) ?_;(repeat(refine Pn.mk ?_;intro N hN))))
    refine uF ?_ ?_ (⟨⟨214027003,st_f.next+1⟩,rows++[[.own pp 0 (members k L i).length]],ids++[pp],by rw[List.length_append];simp only[go_sem, ↓reduceIte,Nat.reduceEqDiff,Nat.reduceAdd,Nat.reduceSub,Nat.reduceLeDiff,reduceCtorEq,List.length_cons,List.length_nil],sd @Nat.zero_add,by
      rw[tL,List.map_append]
      refine(hR.frame Ns fun x hx=>?_).app (.one ⟨pp,rfl,?_,rfl⟩)
      ·have h1:=oJ x (by simp[hx])
       have y1:=jH x h1.2
       have y2:=cm (a:=x) (b:=pp) (by omega)
       have y3:(x=oo)=False:=by
        simp only[eq_iff_iff,iff_false]
        rintro rfl
        exact vW hx
       simp only[go_sem, ↓reduceIte,Nat.reduceEqDiff,Nat.reduceAdd,Nat.reduceSub,Nat.reduceLeDiff,reduceCtorEq,dr (show x.bE<st_f.next by omega),y1,y2,y3]
      ·simp only[go_sem, ↓reduceIte,Nat.reduceEqDiff,Nat.reduceAdd,Nat.reduceSub,Nat.reduceLeDiff,reduceCtorEq,BJ,x2,fg],fun x hx=>by
      rcases List.mem_cons.1 hx with rfl|hx
      ·(try dsimp only);omega
      ·rcases List.mem_append.1 hx with hx|hx
       ·have:=oJ x (by simp[hx]);(try dsimp only);omega
       ·rw[List.mem_singleton.1 hx];(try dsimp only);omega,by(try dsimp only);omega,fun hc=>by
      rcases List.mem_append.1 hc with hc|hc
      ·have:=(oJ _ (List.mem_cons_of_mem _ hc)).2;(try dsimp only at this);omega
      ·have:=List.mem_singleton.1 hc;rw[<-this]at Kk;(try dsimp only at Kk);omega⟩)
    all_goals simp only[go_sem, ↓reduceIte,Nat.reduceEqDiff,Nat.reduceAdd,Nat.reduceSub,Nat.reduceLeDiff,reduceCtorEq,f14,f0,f5,f11,f12,yH,CI,x3]
  ·rw[if_neg he,List.append_nil]at tL
   have vQ:decide ((L i:Int)=(i:Int))=false:=decide_eq_false fun h=>he (by omega)
   rw[eN]at hC
   (try((repeat(revert hN;revert N;apply Pn.out));refine wk (tw @d12 (tw @dg0 (tw @d0 (tw @d5 (tw @d11 (tw @dg (tw @hi (tw @hC (tw @tl (tw @vQ (tw @qv @Tb))))))))))) ?_;(repeat(refine Pn.mk ?_;intro N hN))))
   refine uF ?_ ?_ (⟨oo,rows,ids,sd @d11,sd @dg,by rw[tL];exact hR,fun x hx=>by have:=oJ x hx;(try dsimp only);omega,by(try dsimp only);omega,vW⟩)
   all_goals simp only[go_sem, ↓reduceIte,Nat.reduceEqDiff,Nat.reduceAdd,Nat.reduceSub,Nat.reduceLeDiff,reduceCtorEq,d12,dg0,d0,d5]
 ·have zk:i=k:=by omega
  (try((repeat(revert hN;revert N;apply Pn.out));refine wk (tw @d12 (tw @dg0 (tw @d0 (tw @d5 (tw @d11 (tw @dg @hi)))))) ?_;(repeat(refine Pn.mk ?_;intro N hN))))
  refine xQ (.inl rfl) (by simp only[go_sem, ↓reduceIte,Nat.reduceEqDiff,Nat.reduceAdd,Nat.reduceSub,Nat.reduceLeDiff,reduceCtorEq];rfl) ?_
  rw[vL dg (by simp) (rows':=(fN k L).map BC) (by rw[List.drop_zero,List.take_of_length_le (Nat.le_refl _)];rw[zk]at hR;exact KM 3 hR)]
end Go.Proofs.YtgoelphibofcmaaGreat.V

namespace Go.Proofs.YtgoelphibofcmaaGreat.V
open Go.RowKit
attribute [local irreducible] dQ wpOps fX Call
attribute [local go_sem] aQ fM eU fY fW dm upd cG K.av cQ AV.cells AV.cell rowOf rowsOf part ld rowAt bQ cC dE ea gZ bS dh eo fV fj dB ef dd dc dS dU b4 bj cV bW cY cW ec eh ee cU ck de eb bV aU da cK gY bx cP cj bd dv bl dG AV.undef bH bK dW dZ dO dL cN ek eu cJ ej ei cZ db List.getD_cons_zero List.getD_cons_succ List.getD_nil List.all_cons List.all_nil Bool.and_true Bool.true_and Bool.and_self Bool.not_true Bool.not_false Option.map_some Option.map_none Option.bind_some Option.bind_none List.length_cons List.length_nil List.take_succ_cons List.take_zero List.take_nil List.drop_succ_cons List.drop_zero List.drop_nil List.head?_cons List.map_cons List.map_nil List.getElem?_cons_zero List.getElem?_cons_succ List.cons_append List.nil_append List.append_nil List.length_map List.set_cons_zero List.set_cons_succ Nat.reduceMul eq_self Int.toNat_natCast Int.natCast_nonneg and_self true_and and_true decide_true decide_false Bool.false_eq_true Nat.zero_add Nat.add_zero List.contains_cons List.contains_nil Bool.or_false Bool.false_or beq_self_eq_true Nat.reduceBEq ne_eq not_true_eq_false not_false_eq_true Id.mk.injEq false_and and_false Nat.reduceLT Int.reduceLE Int.reduceLT Int.reduceToNat Int.reduceNeg Int.reduceAdd Nat.le_refl List.length_append beq_true beq_false Bool.not_eq_eq_eq_not or_false false_or dX ae aj aJ bq bG cr aY bf aW bp cR bB
theorem ya (n:Nat):List.replicate n [AV.int .i64 0]=dV (fun _=>0) n:=by
 refine List.ext_getElem? fun i=>?_
 by_cases h:i<n
 ·rw[fJ h,List.getElem?_replicate,if_pos h];rfl
 ·rw[List.getElem?_eq_none (by simp;omega),List.getElem?_eq_none (by rw[gC];omega)]
def dq (cnt:Nat) (L:Nat->Nat) (i m:Nat):Nat->Nat:=fun x=>if cD L x<i then cD L x else if x∈(members cnt L ((leads cnt L).getD i 0)).take m then i else 0
theorem pr (cnt:Nat) (L:Nat->Nat):dq cnt L 0 0=fun _=>0:=by funext x;simp[dq]
theorem uK (t:Int) (bs:List PB) (k:Nat) (h:k<bs.length):aV t (bs.take (k+1))=aV t (bs.take k)++if t<=(bs[k]).s then[bs[k]]else[]:=by
 unfold aV
 rw[List.take_succ_eq_append_getElem h,List.filter_append]
 congr 1
 by_cases h:t<=bs[k].s<;>simp[h]
theorem xY {t:Int} {bs:List PB} {b:PB} (h:b∈aV t bs):b∈bs:=(List.mem_filter.1 h).1
theorem nS (t:Int) (bs:List PB):(aV t bs).length<=bs.length:=List.length_filter_le _ _
theorem CY (cnt:Nat) (hn:cnt<=1048576) (bs:List PB) (hb:∀b∈bs,b.a<cnt/\b.b<cnt) (qE:bs.length<=1048576) (t:Int):aq Tryz.prog 192 [.int .i64 cnt,.sl (bs.map aH),.int .i64 t] (.gD [.int .i64 (leads cnt (eO (aV t bs))).length,.sl ((fy (eO (aV t bs)) bs).map aH)]):=by
 refine aq.body eF rfl fun hl n0=>?_
 clear hl
 (try((repeat(revert hN;revert N;apply Pn.out));refine wk @Nat.zero_add ?_;(repeat(refine Pn.mk ?_;intro N hN))))
 refine aZ (fun n env st=>∃k:Nat,n=(bs.length)-k/\k<=(bs.length)/\env 9=.int .i64 (k:Int)/\(∃o:Id,env 8=.own o 0 (aV t (bs.take k)).length/\st.get o=some ⟨true,3,(aV t (bs.take k)).map aH⟩/\o.bE<st.next)) (bs.length) ⟨0,by omega,by omega,sl @Nat.zero_add,⟨⟨192001000,n0+1⟩,by(simp only[go_sem, ↓reduceIte,Nat.reduceEqDiff,Nat.reduceAdd,Nat.reduceSub,Nat.reduceLeDiff,reduceCtorEq])<;>rfl,by(simp only[go_sem, ↓reduceIte,Nat.reduceEqDiff,Nat.reduceAdd,Nat.reduceSub,Nat.reduceLeDiff,reduceCtorEq])<;>rfl,by(try dsimp only);omega⟩⟩ ?_
 rintro n_a env_a st_a ⟨k,rfl,ale,a9,jO⟩ dy
 have a0:=dy 0 (by kernel_rfl);have a1:=dy 1 (by kernel_rfl);have a2:=dy 2 (by kernel_rfl)
 simp only[go_sem, ↓reduceIte,Nat.reduceEqDiff,Nat.reduceAdd,Nat.reduceSub,Nat.reduceLeDiff,reduceCtorEq]at a0 a1 a2
 clear dy
 obtain⟨o,a8,ag,u7⟩:=jO
 have tf:=dr u7
 by_cases hk:(k:Int)<(bs.length:Int)
 ·have cw:∀{e:Env} {gg:Rows} {nx:Nat},(e 9=.int .i64 (IntKind.i64.wrap ((k:Int)+1)))->(∃o:Id,e 8=.own o 0 (aV t (bs.take (k+1))).length/\gg o=some ⟨true,3,(aV t (bs.take (k+1))).map aH⟩/\o.bE<nx)->∃m0,m0<(bs.length)-k/\∃k:Nat,m0=(bs.length)-k/\k<=(bs.length)/\e 9=.int .i64 (k:Int)/\(∃o:Id,e 8=.own o 0 (aV t (bs.take k)).length/\gg o=some ⟨true,3,(aV t (bs.take k)).map aH⟩/\o.bE<nx):=fun x1 x2=>⟨_,by omega,k+1,rfl,by omega,(by rw[x1,aD (by omega)]),x2⟩
  have fP:k<bs.length:=by omega
  have eX:(bs.map aH)[k]? =some (aH bs[k]):=by simp[fP]
  have hs:=uK t bs k fP
  have E0:=nS t (bs.take k)
  rw[List.length_take]at E0
  by_cases hc:t<=(bs[k]).s
  ·rw[if_pos hc]at hs
   have e1:(aV t (bs.take k)).length+1<=16777216:=by omega
   have jc:((aV t (bs.take k)).map aH).length=(aV t (bs.take k)).length:=by simp
   generalize bs[k]=b at *
   (try((repeat(revert hN;revert N;apply Pn.out));refine wk (tw @a9 (tw @a0 (tw @a1 (tw @a2 (tw @a8 (tw @ag (tw @tf (tw @hk (tw @eX (tw @hc (tw @e1 (tw @jc @aH.eq_1)))))))))))) ?_;(repeat(refine Pn.mk ?_;intro N hN))))
   exact cw (sd (tw @a9 (tw @a0 (tw @a1 @a2)))) (⟨⟨192006006,st_a.next+1+1⟩,by rw[hs,List.length_append];simp only[go_sem, ↓reduceIte,Nat.reduceEqDiff,Nat.reduceAdd,Nat.reduceSub,Nat.reduceLeDiff,reduceCtorEq,List.length_cons,List.length_nil],by rw[hs,List.map_append,List.map_cons,List.map_nil];simp only[go_sem, ↓reduceIte,Nat.reduceEqDiff,Nat.reduceAdd,Nat.reduceSub,Nat.reduceLeDiff,reduceCtorEq,aH],by(try dsimp only);omega⟩)
  ·rw[if_neg hc,List.append_nil]at hs
   generalize bs[k]=b at *
   (try((repeat(revert hN;revert N;apply Pn.out));refine wk (tw @a9 (tw @a0 (tw @a1 (tw @a2 (tw @a8 (tw @ag (tw @tf (tw @hk (tw @eX (tw @hc @aH.eq_1)))))))))) ?_;(repeat(refine Pn.mk ?_;intro N hN))))
   exact cw (sd (tw @a9 (tw @a0 (tw @a1 @a2)))) (⟨o,by rw[hs];simp only[go_sem, ↓reduceIte,Nat.reduceEqDiff,Nat.reduceAdd,Nat.reduceSub,Nat.reduceLeDiff,reduceCtorEq,a8],by rw[hs];simp only[go_sem, ↓reduceIte,Nat.reduceEqDiff,Nat.reduceAdd,Nat.reduceSub,Nat.reduceLeDiff,reduceCtorEq,ag],by(try dsimp only);omega⟩)
 have kT:k=bs.length:=by omega
 subst kT
 rw[List.take_length]at a8 ag
 have IW:=CW cnt hn (aV t bs) (fun b h=>hb b (xY h)) (by have:=nS t bs;omega)
 have hL:=uC (aV t bs)
 have Cz:fz (dX st_a.get) 6 (.own o 0 (aV t bs).length)=some (.sl ((aV t bs).map aH)):=il (sz:=3) (by simp[dX,ag]) rfl fun b=>Au _ 4 b
 have V1:∀x,dt (dX st_a.get) 6 [.int .i64 x,.own o 0 (aV t bs).length]=some [.int .i64 x,.sl ((aV t bs).map aH)]:=fun x=>by simp only[ae,aj,aJ,Cz,Option.map_some]
 (try((repeat(revert hN;revert N;apply Pn.out));refine wk (tw @a9 (tw @a0 (tw @a1 (tw @a2 (tw @a8 @hk))))) ?_;(repeat(refine Pn.mk ?_;intro N hN))))
 refine .inl ⟨_,aq.x IW (V1 _),?_⟩
 refine hN _ _ ?_
 clear hN N
 generalize eO (aV t bs)=L at *
 have tH:((fN cnt L).map BC).length=(leads cnt L).length:=by simp[fN]
 have UD:=j7 cnt L
 have jW:(0:Int)<=(cnt:Int):=by omega
 have nw:(cnt:Int)<=((16777216:Nat):Int):=by omega
 have gH:List.replicate cnt [AV.int .i64 0]=dV (dq cnt L 0 0) cnt:=by rw[ya,pr]
 (try((repeat(revert hN;revert N;apply Pn.out));refine wk (tw @a9 (tw @a0 (tw @a1 (tw @a2 (tw @jW (tw @nw @Int.le_refl)))))) ?_;(repeat(refine Pn.mk ?_;intro N hN))))
 refine aZ (fun n env st=>∃i:Nat,n=((leads cnt L).length)-i/\i<=((leads cnt L).length)/\env 12=.int .i64 (i:Int)/\st.get ⟨192008001,st_a.next+1+1⟩=some ⟨true,1,dV (dq cnt L i 0) cnt⟩/\(st_a.next+1+1<st.next)) ((leads cnt L).length) ⟨0,by omega,by omega,sl (tw @a9 (tw @a0 (tw @a1 (tw @a2 @gH)))),sl (tw @a9 (tw @a0 (tw @a1 (tw @a2 @gH)))),(by(try dsimp only);omega)⟩ ?_
 rintro n_c env_c st_c ⟨i,rfl,cle,Al,cg0,cI0⟩ cfr
 have c1:=cfr 1 (by kernel_rfl);have jP:=cfr 10 (by kernel_rfl);have oE:=cfr 11 (by kernel_rfl)
 simp only[go_sem, ↓reduceIte,Nat.reduceEqDiff,Nat.reduceAdd,Nat.reduceSub,Nat.reduceLeDiff,reduceCtorEq,a9,a0,a1,a2,gH]at c1 jP oE
 clear cfr
 by_cases hi:(i:Int)<((leads cnt L).length:Int)
 ·have iF:∀{e:Env} {gg:Rows} {nx:Nat},(e 12=.int .i64 (IntKind.i64.wrap ((i:Int)+1)))->(gg ⟨192008001,st_a.next+1+1⟩=some ⟨true,1,dV (dq cnt L (i+1) 0) cnt⟩)->(st_a.next+1+1<nx)->∃m0,m0<((leads cnt L).length)-i/\∃i:Nat,m0=((leads cnt L).length)-i/\i<=((leads cnt L).length)/\e 12=.int .i64 (i:Int)/\gg ⟨192008001,st_a.next+1+1⟩=some ⟨true,1,dV (dq cnt L i 0) cnt⟩/\(st_a.next+1+1<nx):=fun x1 x2 x3=>⟨_,by omega,i+1,rfl,by omega,(by rw[x1,aD (by omega)]),x2,x3⟩
  have fe:i<(leads cnt L).length:=by omega
  have iV:((fN cnt L).map BC)[i]? =some (BC (members cnt L (leads cnt L)[i])):=by simp[fN,fe]
  have tb:(leads cnt L).getD i 0=(leads cnt L)[i]:=by simp[List.getD_eq_getElem?_getD,fe]
  have lL:∀m,dq cnt L i m=fun x=>if cD L x<i then cD L x else if x∈(members cnt L (leads cnt L)[i]).take m then i else 0:=fun m=>by unfold dq;rw[tb]
  have sg:=fun x (hx:x<cnt)=>tR hL (n:=cnt) (k:=x) (i:=i) hx fe
  have mE:(members cnt L (leads cnt L)[i]).Nodup:=List.nodup_range.filter _
  have P8:∀x∈members cnt L (leads cnt L)[i],x<cnt:=fun x hx=>(l7.1 hx).1
  have hMc:(members cnt L (leads cnt L)[i]).length<=cnt:=by
   have:=List.length_filter_le (fun k=>L k==(leads cnt L)[i]) (List.range cnt)
   simpa[members]using this
  generalize members cnt L (leads cnt L)[i]=M at *
  have DR:(M.map eN).length=M.length:=by simp
  (try((repeat(revert hN;revert N;apply Pn.out));refine wk (tw @Al (tw @cg0 (tw @c1 (tw @jP (tw @oE (tw @hi @tH)))))) ?_;(repeat(refine Pn.mk ?_;intro N hN))))
  refine aZ (fun n env st=>∃m:Nat,n=(M.length)-m/\m<=(M.length)/\env 13=.int .i64 (m:Int)/\st.get ⟨192008001,st_a.next+1+1⟩=some ⟨true,1,dV (dq cnt L i m) cnt⟩/\(st_a.next+1+1<st.next)) (M.length) ⟨0,by omega,by omega,sl (tw @Al (tw @cg0 (tw @c1 (tw @jP @oE)))),sl (tw @Al (tw @cg0 (tw @c1 (tw @jP @oE)))),(by(try dsimp only);omega)⟩ ?_
  rintro n_d env_d st_d ⟨m,rfl,dle,d13,dg0,dI0⟩ dfr
  have d1:=dfr 1 (by kernel_rfl);have d10:=dfr 10 (by kernel_rfl);have d11:=dfr 11 (by kernel_rfl);have d12:=dfr 12 (by kernel_rfl)
  simp only[go_sem, ↓reduceIte,Nat.reduceEqDiff,Nat.reduceAdd,Nat.reduceSub,Nat.reduceLeDiff,reduceCtorEq,Al,cg0,c1,jP,oE]at d1 d10 d11 d12
  clear dfr
  have tl:=gC (dq cnt L i m) cnt
  by_cases hm:(m:Int)<(M.length:Int)
  ·have uF:∀{e:Env} {gg:Rows} {nx:Nat},(e 13=.int .i64 (IntKind.i64.wrap ((m:Int)+1)))->(gg ⟨192008001,st_a.next+1+1⟩=some ⟨true,1,dV (dq cnt L i (m+1)) cnt⟩)->(st_a.next+1+1<nx)->∃m0,m0<(M.length)-m/\∃m:Nat,m0=(M.length)-m/\m<=(M.length)/\e 13=.int .i64 (m:Int)/\gg ⟨192008001,st_a.next+1+1⟩=some ⟨true,1,dV (dq cnt L i m) cnt⟩/\(st_a.next+1+1<nx):=fun x1 x2 x3=>⟨_,by omega,m+1,rfl,by omega,(by rw[x1,aD (by omega)]),x2,x3⟩
   have AE:m<M.length:=by omega
   have xh:(M.map eN)[m]? =some (eN M[m]):=by simp[AE]
   have xp:=P8 _ (List.getElem_mem AE)
   have DY:(M[m]:Int)<(cnt:Int):=by omega
   have DX:=fJ (f:=dq cnt L i m) xp
   have eL:(dV (dq cnt L i m) cnt).set M[m] (eN i)=dV (dq cnt L i (m+1)) cnt:=ql xp (by
    have h1:=(sg _ xp).1 (List.getElem_mem AE)
    rw[lL]
    simp only[]
    rw[if_neg (by omega),if_pos (by rw[List.take_succ_eq_append_getElem AE];exact List.mem_append_right _ (List.mem_singleton.2 rfl))]) fun x hx gM=>by
    rw[lL,lL]
    simp only[]
    rw[List.take_succ_eq_append_getElem AE]
    simp only[List.mem_append,List.mem_singleton,gM,or_false]
   rw[eN]at eL DX
   generalize M[m]=xm at *
   (try((repeat(revert hN;revert N;apply Pn.out));refine wk (tw @d13 (tw @dg0 (tw @d1 (tw @d10 (tw @d11 (tw @d12 (tw @hm (tw @hi (tw @iV (tw @tH (tw @xh (tw @DR (tw @DY (tw @DX (tw @tl (tw @eL (tw @BC.eq_1 @eN.eq_1))))))))))))))))) ?_;(repeat(refine Pn.mk ?_;intro N hN))))
   refine uF ?_ ?_ (by(try dsimp only);omega)
   all_goals simp only[go_sem, ↓reduceIte,Nat.reduceEqDiff,Nat.reduceAdd,Nat.reduceSub,Nat.reduceLeDiff,reduceCtorEq,d13,dg0,d1,d10,d11,d12,eL]
  ·have jc:m=M.length:=by omega
   subst jc
   have tK:dV (dq cnt L i M.length) cnt=dV (dq cnt L (i+1) 0) cnt:=iC fun x hx=>by
    rw[lL,List.take_length]
    simp only[dq,List.take_zero,List.not_mem_nil,if_false]
    have h1:=sg x hx
    by_cases h2:cD L x<i
    ·rw[if_pos h2,if_pos (by omega)]
    ·rw[if_neg h2]
     by_cases h3:x∈M
     ·rw[if_pos h3,if_pos (by have:=h1.1 h3;omega),h1.1 h3]
     ·rw[if_neg h3,if_neg fun h4=>h3 (h1.2 (by omega))]
   (try((repeat(revert hN;revert N;apply Pn.out));refine wk (tw @d13 (tw @dg0 (tw @d1 (tw @d10 (tw @d11 (tw @d12 (tw @hm (tw @hi (tw @iV (tw @tH (tw @DR @BC.eq_1))))))))))) ?_;(repeat(refine Pn.mk ?_;intro N hN))))
   refine iF ?_ ?_ (by(try dsimp only);omega)
   all_goals simp only[go_sem, ↓reduceIte,Nat.reduceEqDiff,Nat.reduceAdd,Nat.reduceSub,Nat.reduceLeDiff,reduceCtorEq,Al,cg0,c1,jP,oE,d13,dg0,d1,d10,d11,d12,tK]
 have kF:i=(leads cnt L).length:=by omega
 subst kF
 have vW:dV (dq cnt L (leads cnt L).length 0) cnt=dV (cD L) cnt:=iC fun x hx=>by rw[dq,if_pos (kB hL hx)]
 rw[vW]at cg0
 have tl:=gC (cD L) cnt
 (try((repeat(revert hN;revert N;apply Pn.out));refine wk (tw @Al (tw @cg0 (tw @c1 (tw @jP (tw @oE (tw @hi @tH)))))) ?_;(repeat(refine Pn.mk ?_;intro N hN))))
 have Uq:st_a.next+1+1<st_c.next:=cI0
 refine aZ (fun n env st=>∃j:Nat,n=(bs.length)-j/\j<=(bs.length)/\env 15=.int .i64 (j:Int)/\st.get ⟨192008001,st_a.next+1+1⟩=some ⟨true,1,dV (cD L) cnt⟩/\(∃p:Id,env 14=.own p 0 (fy L (bs.take j)).length/\st.get p=some ⟨true,3,(fy L (bs.take j)).map aH⟩/\st_c.next<=p.bE/\p.bE<st.next)) (bs.length) ⟨0,by omega,by omega,sl (tw @Al (tw @cg0 (tw @c1 (tw @jP @oE)))),sl (tw @Al (tw @cg0 (tw @c1 (tw @jP @oE)))),⟨⟨192016000,st_c.next+1⟩,by(simp only[go_sem, ↓reduceIte,Nat.reduceEqDiff,Nat.reduceAdd,Nat.reduceSub,Nat.reduceLeDiff,reduceCtorEq])<;>rfl,by(simp only[go_sem, ↓reduceIte,Nat.reduceEqDiff,Nat.reduceAdd,Nat.reduceSub,Nat.reduceLeDiff,reduceCtorEq])<;>rfl,by(try dsimp only);omega,by(try dsimp only);omega⟩⟩ ?_
 rintro n_f env_f st_f ⟨j,rfl,fle,f15,fg0,fI0⟩ ffr
 have f1:=ffr 1 (by kernel_rfl);have f10:=ffr 10 (by kernel_rfl);have f11:=ffr 11 (by kernel_rfl)
 simp only[go_sem, ↓reduceIte,Nat.reduceEqDiff,Nat.reduceAdd,Nat.reduceSub,Nat.reduceLeDiff,reduceCtorEq,Al,cg0,c1,jP,oE]at f1 f10 f11
 clear ffr
 obtain⟨p,f14,fg,Qb,Kk⟩:=fI0
 have x1:=cm (a:=⟨192008001,st_a.next+1+1⟩) (b:=p) (by(try dsimp only);omega)
 have BJ:=dr Kk
 have hvn:st_a.next+1+1<st_f.next:=by omega
 have Kw:=dr (i:=⟨192008001,st_a.next+1+1⟩) (n:=st_f.next) hvn
 have E0:=(nR L (bs.take j)).2
 rw[List.length_take]at E0
 by_cases hj:(j:Int)<(bs.length:Int)
 ·have sH:∀{e:Env} {gg:Rows} {nx:Nat},(e 15=.int .i64 (IntKind.i64.wrap ((j:Int)+1)))->(gg ⟨192008001,st_a.next+1+1⟩=some ⟨true,1,dV (cD L) cnt⟩)->(∃p:Id,e 14=.own p 0 (fy L (bs.take (j+1))).length/\gg p=some ⟨true,3,(fy L (bs.take (j+1))).map aH⟩/\st_c.next<=p.bE/\p.bE<nx)->∃m0,m0<(bs.length)-j/\∃j:Nat,m0=(bs.length)-j/\j<=(bs.length)/\e 15=.int .i64 (j:Int)/\gg ⟨192008001,st_a.next+1+1⟩=some ⟨true,1,dV (cD L) cnt⟩/\(∃p:Id,e 14=.own p 0 (fy L (bs.take j)).length/\gg p=some ⟨true,3,(fy L (bs.take j)).map aH⟩/\st_c.next<=p.bE/\p.bE<nx):=fun x1 x2 x3=>⟨_,by omega,j+1,rfl,by omega,(by rw[x1,aD (by omega)]),x2,x3⟩
  have iK:j<bs.length:=by omega
  have BH:(bs.map aH)[j]? =some (aH bs[j]):=by simp[iK]
  have Oh:=hb _ (List.getElem_mem iK)
  have hs:=A9 L (bs.take j) bs[j]
  rw[<-List.take_succ_eq_append_getElem iK]at hs
  generalize bs[j]=b at *
  have hA:=fJ (f:=cD L) Oh.1
  have hB:=fJ (f:=cD L) Oh.2
  have gW:(b.a:Int)<(cnt:Int):=by omega
  have gm:(b.b:Int)<(cnt:Int):=by omega
  have Uh:=CT (cD L b.a) (cD L b.b)
  have Ui:=CR (cD L b.a) (cD L b.b)
  rw[eN]at hA hB
  by_cases he:cD L b.a=cD L b.b
  ·rw[if_pos he,List.append_nil]at hs
   have vQ:decide ((cD L b.a:Int)=(cD L b.b:Int))=true:=decide_eq_true (by rw[he])
   (try((repeat(revert hN;revert N;apply Pn.out));refine wk (tw @f15 (tw @fg0 (tw @f1 (tw @f10 (tw @f11 (tw @f14 (tw @fg (tw @hj (tw @BH (tw @hA (tw @hB (tw @gW (tw @gm (tw @tl (tw @vQ (tw @x1 (tw @BJ @aH.eq_1))))))))))))))))) ?_;(repeat(refine Pn.mk ?_;intro N hN))))
   refine sH ?_ ?_ (⟨p,by rw[hs];simp only[go_sem, ↓reduceIte,Nat.reduceEqDiff,Nat.reduceAdd,Nat.reduceSub,Nat.reduceLeDiff,reduceCtorEq,f14],by rw[hs];simp only[go_sem, ↓reduceIte,Nat.reduceEqDiff,Nat.reduceAdd,Nat.reduceSub,Nat.reduceLeDiff,reduceCtorEq,fg],Qb,by(try dsimp only);omega⟩)
   all_goals simp only[go_sem, ↓reduceIte,Nat.reduceEqDiff,Nat.reduceAdd,Nat.reduceSub,Nat.reduceLeDiff,reduceCtorEq,f15,fg0,f1,f10,f11]
  ·rw[if_neg he]at hs
   have vQ:decide ((cD L b.a:Int)=(cD L b.b:Int))=false:=decide_eq_false fun h=>he (by omega)
   have e1:(fy L (bs.take j)).length+1<=16777216:=by omega
   have jc:((fy L (bs.take j)).map aH).length=(fy L (bs.take j)).length:=by simp
   (repeat(first|((repeat(revert hN;revert N;apply Pn.out));refine wk (tw @f15 (tw @fg0 (tw @f1 (tw @f10 (tw @f11 (tw @f14 (tw @fg (tw @hj (tw @BH (tw @hA (tw @hB (tw @gW (tw @gm (tw @tl (tw @vQ (tw @x1 (tw @BJ (tw @Kw (tw @e1 (tw @jc @aH.eq_1)))))))))))))))))))) ?_;(repeat(refine Pn.mk ?_;intro N hN)))|((try apply Or.inl);refine⟨_,aq.x (Uh) (sd (tw @f15 (tw @fg0 (tw @f1 (tw @f10 (tw @f11 (tw @f14 (tw @fg (tw @hj (tw @BH (tw @hA (tw @hB (tw @gW (tw @gm (tw @tl (tw @vQ (tw @x1 (tw @BJ (tw @Kw (tw @e1 (tw @jc @aH.eq_1))))))))))))))))))))),?_⟩;refine hN _ _ ?_;clear hN N)|((try apply Or.inl);refine⟨_,aq.x (Ui) (sd (tw @f15 (tw @fg0 (tw @f1 (tw @f10 (tw @f11 (tw @f14 (tw @fg (tw @hj (tw @BH (tw @hA (tw @hB (tw @gW (tw @gm (tw @tl (tw @vQ (tw @x1 (tw @BJ (tw @Kw (tw @e1 (tw @jc @aH.eq_1))))))))))))))))))))),?_⟩;refine hN _ _ ?_;clear hN N)))
   refine sH ?_ ?_ (⟨⟨192023014,st_f.next+1+1+1+1⟩,by rw[hs,List.length_append];simp only[go_sem, ↓reduceIte,Nat.reduceEqDiff,Nat.reduceAdd,Nat.reduceSub,Nat.reduceLeDiff,reduceCtorEq,List.length_cons,List.length_nil],by rw[hs,List.map_append,List.map_cons,List.map_nil];simp only[go_sem, ↓reduceIte,Nat.reduceEqDiff,Nat.reduceAdd,Nat.reduceSub,Nat.reduceLeDiff,reduceCtorEq,aH],by(try dsimp only);omega,by(try dsimp only);omega⟩)
   all_goals simp only[go_sem, ↓reduceIte,Nat.reduceEqDiff,Nat.reduceAdd,Nat.reduceSub,Nat.reduceLeDiff,reduceCtorEq,f15,fg0,f1,f10,f11,x1,Kw]
 ·have iA:j=bs.length:=by omega
  subst iA
  rw[List.take_length]at f14 fg
  (try((repeat(revert hN;revert N;apply Pn.out));refine wk (tw @f15 (tw @fg0 (tw @f1 (tw @f10 (tw @f11 (tw @f14 (tw @hj @tH))))))) ?_;(repeat(refine Pn.mk ?_;intro N hN))))
  refine jL (.inl rfl) (r1:=.int .i64 ((leads cnt L).length:Int)) (sd @Nat.zero_add) (by simp only[go_sem, ↓reduceIte,Nat.reduceEqDiff,Nat.reduceAdd,Nat.reduceSub,Nat.reduceLeDiff,reduceCtorEq];rfl) ?_
  have h1:gK st_f.get 5 (.own p 0 (fy L bs).length)=some (.sl ((fy L bs).map aH)):=fu (sz:=3) fg rfl fun b=>vJ _ 3 b
  simp only[e9,bt,cz,er,h1,Option.map_some]
end Go.Proofs.YtgoelphibofcmaaGreat.V

namespace Go.Proofs.YtgoelphibofcmaaGreat.V
def F3 (bs:List PB) (e v:Nat):Prop:=(cL bs e).a=v∨(cL bs e).b=v
def jm (bs:List PB) (m v:Nat):List Nat:=(List.range m).filter fun i=>(cL bs i).a==v||(cL bs i).b==v
theorem sn {bs:List PB} {m v e:Nat}:e∈jm bs m v↔e<m/\F3 bs e v:=by simp[jm,F3]
theorem HM (bs:List PB) (m v:Nat):jm bs (m+1) v=jm bs m v++if (cL bs m).a=v∨(cL bs m).b=v then[m]else[]:=by
 unfold jm
 rw[List.range_succ,List.filter_append]
 congr 1
 by_cases h:(cL bs m).a=v<;>by_cases h2:(cL bs m).b=v<;>simp[h,h2]
theorem sk (bs:List PB) (m v:Nat):(jm bs m v).length<=m:=by
 have:=List.length_filter_le (fun i=>(cL bs i).a==v||(cL bs i).b==v) (List.range m)
 simpa[jm]using this
def nW (cnt:Nat) (bs:List PB):Prop:=∀e,e<bs.length->(cL bs e).a<cnt/\(cL bs e).b<cnt/\(cL bs e).a≠(cL bs e).b
theorem pB {cnt:Nat} {bs:List PB} (h:nW cnt bs) {e v:Nat} (he:e<bs.length):cE bs e v<cnt:=by
 have:=h e he;unfold cE;split;exact this.2.1;exact this.1
theorem KZ {cnt:Nat} {bs:List PB} (h:nW cnt bs) {e v:Nat} (he:e<bs.length) (hi:F3 bs e v):cE bs e v≠v:=by
 have h1:=(h e he).2.2
 unfold cE
 split
 ·rename_i ha;rw[<-ha];exact fun h=>h1 h.symm
 ·rename_i ha;rcases hi with hi|hi
  ·exact absurd hi ha
  ·rw[<-hi];exact h1
theorem zK {bs:List PB} {e v:Nat}:F3 bs e (cE bs e v):=by
 unfold cE F3;split
 ·exact .inr rfl
 ·exact .inl rfl
theorem pC {cnt:Nat} {bs:List PB} (h:nW cnt bs) {e v:Nat} (he:e<bs.length) (hi:F3 bs e v):cE bs e (cE bs e v)=v:=by
 have h1:=(h e he).2.2
 unfold cE
 by_cases ha:(cL bs e).a=v
 ·rw[if_pos ha,if_neg h1];exact ha
 ·rw[if_neg ha,if_pos rfl]
  rcases hi with hi|hi
  ·exact absurd hi ha
  ·exact hi
structure Ab (cnt:Nat) (bs:List PB) (f:Nat->Int) (y:Nat) (out:Nat->Int):Prop where
 lo:∀v,v<cnt->-1<=out v/\out v<=cnt
 first:out y=0
 zero:∀v,v<cnt->out v=0->v=y
 down:∀v,v<cnt->0<out v->∃e,e<bs.length/\F3 bs e v/\0<fU bs f e v/\out (cE bs e v)=out v-1
 shut:∀e v,e<bs.length->F3 bs e v->0<=out (cE bs e v)->0<fU bs f e v->0<=out v
structure By (cnt:Nat) (bs:List PB) (f:Nat->Int) (y:Nat) (out:Nat->Int) (Q:List Nat) (i:Nat):Prop where
 nd:Q.Nodup
 lt:∀x∈Q,x<cnt
 iff:∀v,v<cnt->(0<=out v↔v∈Q)
 lo:∀v,v<cnt->-1<=out v
 first:out y=0
 up:∀j (h:j<Q.length),out Q[j]<=j
 zero:∀v,v<cnt->out v=0->v=y
 down:∀v,v<cnt->0<out v->∃e,e<bs.length/\F3 bs e v/\0<fU bs f e v/\out (cE bs e v)=out v-1
 shut:∀j (h:j<Q.length),j<i->∀e,e<bs.length->F3 bs e Q[j]->0<fU bs f e (cE bs e Q[j])->0<=out (cE bs e Q[j])
section
variable {cnt:Nat} {bs:List PB} {f:Nat->Int} {y:Nat} {out:Nat->Int} {Q:List Nat} {i:Nat}
theorem By.start (hy:y<cnt):By cnt bs f y (fun v=>if v=y then 0 else -1) [y] 0 where
 nd:=by simp
 lt:=fun x hx=>by rw[List.mem_singleton.1 hx];exact hy
 iff:=fun v _=>by
  by_cases h:v=y<;>simp[h]
 lo:=fun v _=>by split<;>omega
 first:=if_pos rfl
 up:=fun j h=>by
  have:j=0:=by simp at h;omega
  subst this;simp
 zero:=fun v _ h=>by
  by_cases hv:v=y
  ·exact hv
  ·rw[if_neg hv]at h;omega
 down:=fun v _ h=>by
  by_cases hv:v=y
  ·rw[if_pos hv]at h;omega
  ·rw[if_neg hv]at h;omega
 shut:=fun j h hj=>by omega
theorem By.len (h:By cnt bs f y out Q i):Q.length<=cnt:=pw cnt Q h.nd h.lt
theorem By.visit (h:By cnt bs f y out Q i) (ok:nW cnt bs) (hi:i<Q.length) {e:Nat} (he:e<bs.length) (qu:F3 bs e Q[i]) (kp:out (cE bs e Q[i])<0) (gq:0<fU bs f e (cE bs e Q[i])):
  By cnt bs f y (fun v=>if v=cE bs e Q[i]then out Q[i]+1 else out v) (Q++[cE bs e Q[i]]) i:=by
 have OB:0<=out Q[i]:=(h.iff _ (h.lt _ (List.getElem_mem hi))).2 (List.getElem_mem hi)
 have hq:=pB ok (v:=Q[i]) he
 have gM:=KZ ok he qu
 have UG:=pC ok he qu
 have Wi:cE bs e Q[i]∉Q:=fun hm=>by have:=(h.iff _ hq).2 hm;omega
 have lL:=h.up i hi
 generalize hw:cE bs e Q[i]=w at *
 have rE:∀v,0<=out v->(if v=w then out Q[i]+1 else out v)=out v:=fun v hv=>by
  rw[if_neg];rintro rfl;omega
 have mono:∀v,0<=out v->0<=(if v=w then out Q[i]+1 else out v):=fun v hv=>by rw[rE v hv];exact hv
 refine⟨?_,?_,?_,?_,?_,?_,?_,?_,?_⟩
 ·rw[List.nodup_append]
  exact⟨h.nd,by simp,fun a ha b hb=>by rw[List.mem_singleton.1 hb];rintro rfl;exact Wi ha⟩
 ·intro x hx
  rcases List.mem_append.1 hx with hx|hx
  ·exact h.lt x hx
  ·rw[List.mem_singleton.1 hx];exact hq
 ·intro v hv
  by_cases I3:v=w
  ·subst I3;simp;omega
  ·rw[if_neg I3,h.iff v hv];simp[I3]
 ·intro v hv
  by_cases I3:v=w
  ·rw[if_pos I3];omega
  ·rw[if_neg I3];exact h.lo v hv
 ·rw[rE y (by rw[h.first];exact Int.le_refl _)];exact h.first
 ·intro j hj
  by_cases iA:j<Q.length
  ·rw[List.getElem_append_left iA,rE _ ((h.iff _ (h.lt _ (List.getElem_mem iA))).2 (List.getElem_mem iA))]
   exact h.up j iA
  ·have Kd:j=Q.length:=by simp at hj;omega
   subst Kd
   simp
   omega
 ·intro v hv h0
  by_cases I3:v=w
  ·rw[if_pos I3]at h0;omega
  ·rw[if_neg I3]at h0;exact h.zero v hv h0
 ·intro v hv h0
  by_cases I3:v=w
  ·subst I3
   rw[if_pos rfl]
   refine⟨e,he,by rw[<-hw];exact zK,gq,?_⟩
   rw[UG,rE _ OB];omega
  ·rw[if_neg I3]at h0 ⊢
   obtain⟨e',h1,h2,h3,h4⟩:=h.down v hv h0
   exact⟨e',h1,h2,h3,by rw[rE _ (by omega)];exact h4⟩
 ·intro j hj ny e' MT Oo hr
  have iA:j<Q.length:=by omega
  rw[List.getElem_append_left iA]at Oo hr ⊢
  exact mono _ (h.shut j iA ny e' MT Oo hr)
theorem By.next (h:By cnt bs f y out Q i) (hi:i<Q.length) (hs:∀e∈jm bs bs.length Q[i],0<fU bs f e (cE bs e Q[i])->0<=out (cE bs e Q[i])):By cnt bs f y out Q (i+1):=
 ⟨h.nd,h.lt,h.iff,h.lo,h.first,h.up,h.zero,h.down,fun j hj ny e he qu hr=>by
  by_cases Kd:j=i
  ·subst Kd;exact hs e (sn.2 ⟨he,qu⟩) hr
  ·exact h.shut j hj (by omega) e he qu hr⟩
theorem By.done (h:By cnt bs f y out Q i) (ok:nW cnt bs) (hi:Q.length<=i):Ab cnt bs f y out where
 lo:=fun v hv=>⟨h.lo v hv,by
  by_cases h0:0<=out v
  ·obtain⟨j,hj,rfl⟩:=List.getElem_of_mem ((h.iff v hv).1 h0)
   have:=h.up j hj
   have:=h.len
   omega
  ·omega⟩
 first:=h.first
 zero:=h.zero
 down:=h.down
 shut:=fun e v he qu h0 hr=>by
  obtain⟨j,hj,Rw⟩:=List.getElem_of_mem ((h.iff _ (pB ok he)).1 h0)
  have h2:=h.shut j hj (by omega) e he (by rw[Rw];exact zK)
  rw[Rw,pC ok he qu]at h2
  exact h2 hr
end
end Go.Proofs.YtgoelphibofcmaaGreat.V

namespace Go.Proofs.YtgoelphibofcmaaGreat.V
open Go.RowKit
attribute [local irreducible] dQ wpOps fX Call
attribute [local go_sem] aQ fM eU fY fW dm upd cG K.av cQ AV.cells AV.cell rowOf rowsOf part ld rowAt bQ cC dE ea gZ bS dh eo fV fj dB ef dd dc dS dU b4 bj cV bW cY cW ec eh ee cU ck de eb bV aU da cK gY bx cP cj bd dv bl dG AV.undef bH bK dW dZ dO dL cN ek eu cJ ej ei cZ db List.getD_cons_zero List.getD_cons_succ List.getD_nil List.all_cons List.all_nil Bool.and_true Bool.true_and Bool.and_self Bool.not_true Bool.not_false Option.map_some Option.map_none Option.bind_some Option.bind_none List.length_cons List.length_nil List.take_succ_cons List.take_zero List.take_nil List.drop_succ_cons List.drop_zero List.drop_nil List.head?_cons List.map_cons List.map_nil List.getElem?_cons_zero List.getElem?_cons_succ List.cons_append List.nil_append List.append_nil List.length_map List.set_cons_zero List.set_cons_succ Nat.reduceMul eq_self Int.toNat_natCast Int.natCast_nonneg and_self true_and and_true decide_true decide_false Bool.false_eq_true Nat.zero_add Nat.add_zero List.contains_cons List.contains_nil Bool.or_false Bool.false_or beq_self_eq_true Nat.reduceBEq ne_eq not_true_eq_false not_false_eq_true Id.mk.injEq false_and and_false Nat.reduceLT Int.reduceLE Int.reduceLT Int.reduceToNat Int.reduceNeg Int.reduceAdd Nat.le_refl List.length_append beq_true beq_false Bool.not_eq_eq_eq_not or_false false_or dX ae aj aJ bq bG cr aY bf aW bp cR bB
def mH (P:Program) (f:Nat) (args:List AV) (R:AV->Prop):Prop:=∀n:Nat,Call P f args ⟨fun _=>none,n⟩ fun r0 σ'=>∃r',gK σ'.get 6 r0=some r'/\R r'
theorem aq.r {P:Program} {f:Nat} {args:List AV} {r:AV} (h:aq P f args r):mH P f args (fun r'=>r'=r):=h
theorem Hv {P:Program} {f:Nat} {args args':List AV} {g:Rows} {n:Nat} {R:AV->Prop} (hv:dt (dX g) 6 args=some args') (h:Sound P f args' ⟨fun _=>none,n⟩ fun r0 σ'=>∃r',gK σ'.get 6 r0=some r'/\R r'):Sound P f args ⟨g,n⟩ fun r σ'=>R r/\σ'=⟨g,n⟩:=by
 intro hs D ι w vs S U A
 refine(yY (g0:=g) (K:=R) ⟨args',hv,h⟩ (fun _ _ h=>h) S U A).mono ?_
 rintro e w' ⟨r,D',u,rfl,hR,T,S',hr⟩
 exact⟨r,g,n,D',ι,u,rfl,⟨hR,rfl⟩,T,S',U,Nat.le_refl _,hr⟩
theorem mH.x {P:Program} (hm:P.follows .mixedOrders=true) {f:Nat} {args args':List AV} {R:AV->Prop} (h:mH P f args' R) {σ:au} (hv:dt (dX σ.get) 6 args=some args'):Call P f args σ fun r σ'=>R r/\σ'=σ:=
 ig (Hv hv (gG hm (h σ.next)))
theorem mH.body {P:Program} {f:Nat} {args:List AV} {R:AV->Prop} {nt na:Nat} {body:VC} {res:List ox} (hf:lV P f=some ⟨nt,na,body,res⟩) (ha:na=args.length) (h:(∀a∈args,eP a)->∀n:Nat,dQ (Call P) body (kV res fun r0 σ'=>∃r',gK σ'.get 6 r0=some r'/\R r') (cG args) ⟨fun _=>none,n⟩):mH P f args R:=fun n=>mJ hf ha fun hl=>h hl n
def eC (f:Nat->Int) (n:Nat):List (List AV):=(List.range n).map fun i=>az (f i)
theorem dR (f:Nat->Int) (n:Nat):(eC f n).length=n:=by simp[eC]
theorem ep {f:Nat->Int} {n i:Nat} (h:i<n):(eC f n)[i]? =some (az (f i)):=by simp[eC,h]
theorem lH {f g:Nat->Int} {n k:Nat} {v:Int} (hk:k<n) (hv:g k=v) (h:∀i,i<n->i≠k->g i=f i):(eC f n).set k (az v)=eC g n:=by
 refine List.ext_getElem? fun i=>?_
 rw[List.getElem?_set]
 by_cases hi:k=i
 ·subst hi
  rw[if_pos rfl,dR,if_pos hk,ep hk,hv]
 ·rw[if_neg hi]
  by_cases fe:i<n
  ·rw[ep fe,ep fe,h i fe (fun h=>hi h.symm)]
  ·rw[List.getElem?_eq_none (by rw[dR];omega),List.getElem?_eq_none (by rw[dR];omega)]
theorem IE (f:Nat->Int) (n:Nat):eC f (n+1)=eC f n++[az (f n)]:=by simp[eC,List.range_succ]
theorem fzI (g:Rows) (n:Nat) (a:Int):dt g (n+1) (az a)=some (az a):=by simp[az,ae,aj,aJ]
theorem Vk (g:Rows) (n:Nat) (a:Int):eI g (n+1) (az a)=some (az a):=by simp[az,bt,cz,er]
theorem LF {g:Rows} {f:Nat->Int} {n m:Nat}:iE g (m+1) (eC f n)=some (eC f n):=by
 have:eC f n=((List.range n).map f).map az:=by simp[eC]
 rw[this];exact uv fun x=>Vk g m x
theorem Bj {g:Rows} {f:Nat->Int} {n m:Nat}:eH g (m+1) (eC f n)=some (eC f n):=by
 have:eC f n=((List.range n).map f).map az:=by simp[eC]
 rw[this];exact qY fun x=>fzI g m x
def QN (l:List Nat):AV:=if l=[]then .bD else .sl (l.map eN)
def qK (cnt:Nat) (bs:List PB) (m:Nat):List (List AV):=(List.range cnt).map fun v=>[QN (jm bs m v)]
theorem Ei {cnt:Nat} {bs:List PB} {m v:Nat} (h:v<cnt):(qK cnt bs m)[v]? =some [QN (jm bs m v)]:=by simp[qK,h]
def gj (cnt:Nat) (bs:List PB) (f:Nat->Int):List AV:=[.int .i64 cnt,.sl (bs.map aH),.sl (qK cnt bs bs.length),.sl (eC f bs.length)]
theorem vw {bs:List PB} {e:Nat} (h:e<bs.length):(bs.map aH)[e]? =some (aH (cL bs e)):=getD_map aH h
def Small (bs:List PB) (f:Nat->Int):Prop:=∀e,e<bs.length->(0<=(cL bs e).s/\(cL bs e).s<=4)/\-4<=f e/\f e<=4
theorem Lr (cnt:Nat) (bs:List PB) (f:Nat->Int) (hs:Small bs f) (e v:Nat) (he:e<bs.length):aq Tryz.prog 260 [.du (gj cnt bs f),.int .i64 v,.int .i64 e] (.gD [.int .i64 (fU bs f e v),.int .i64 (cE bs e v)]):=by
 refine aq.body eF rfl fun hl n0=>?_
 clear hl
 have hb:=vw he
 have hf:=ep (f:=f) he
 obtain⟨⟨s0,s1⟩,s2,s3⟩:=hs e he
 have w1:IntKind.i64.wrap ((cL bs e).s-f e)=(cL bs e).s-f e:=bI (by omega)
 have w2:IntKind.i64.wrap ((cL bs e).s+f e)=(cL bs e).s+f e:=bI (by omega)
 unfold fU cE
 generalize cL bs e=b at *
 by_cases h:b.a=v
 ·have hd:decide ((b.a:Int)=(v:Int))=true:=decide_eq_true (by rw[h])
  (try((repeat(revert hN;revert N;apply Pn.out));refine wk (tw @gj.eq_1 (tw @hb (tw @hf (tw @aH.eq_1 (tw @az.eq_1 (tw @hd (tw @w1 @w2))))))) ?_;(repeat(refine Pn.mk ?_;intro N hN))))
  refine jL (.inl rfl) (by simp only[go_sem, ↓reduceIte,Nat.reduceEqDiff,Nat.reduceAdd,Nat.reduceSub,Nat.reduceLeDiff,reduceCtorEq];rfl) (by simp only[go_sem, ↓reduceIte,Nat.reduceEqDiff,Nat.reduceAdd,Nat.reduceSub,Nat.reduceLeDiff,reduceCtorEq];rfl) ?_
  simp only[e9,bt,cz,er,Option.map_some,if_pos h]
 ·have hd:decide ((b.a:Int)=(v:Int))=false:=decide_eq_false fun hc=>h (by omega)
  (try((repeat(revert hN;revert N;apply Pn.out));refine wk (tw @gj.eq_1 (tw @hb (tw @hf (tw @aH.eq_1 (tw @az.eq_1 (tw @hd (tw @w1 @w2))))))) ?_;(repeat(refine Pn.mk ?_;intro N hN))))
  refine jL (.inl rfl) (by simp only[go_sem, ↓reduceIte,Nat.reduceEqDiff,Nat.reduceAdd,Nat.reduceSub,Nat.reduceLeDiff,reduceCtorEq];rfl) (by simp only[go_sem, ↓reduceIte,Nat.reduceEqDiff,Nat.reduceAdd,Nat.reduceSub,Nat.reduceLeDiff,reduceCtorEq];rfl) ?_
  simp only[e9,bt,cz,er,Option.map_some,if_neg h]
theorem GV (cnt:Nat) (hn:cnt<=1048576) (bs:List PB) (ok:nW cnt bs) (qE:bs.length<=1048576) (f:Nat->Int) (hs:Small bs f) (y:Nat) (hy:y<cnt):
  mH Tryz.prog 239 [.du (gj cnt bs f),.int .i64 y] fun r=>∃out,r=.sl (eC out cnt)/\Ab cnt bs f y out:=by
 refine mH.body eF rfl fun hl n0=>?_
 clear hl
 (try((repeat(revert hN;revert N;apply Pn.out));refine wk @gj.eq_1 ?_;(repeat(refine Pn.mk ?_;intro N hN))))
 refine aZ (fun n env st=>∃k:Nat,n=(cnt)-k/\k<=(cnt)/\env 6=.int .i64 (k:Int)/\(∃o:Id,env 5=.own o 0 k/\st.get o=some ⟨true,1,eC (fun _=>-1) k⟩/\o.bE<st.next)) (cnt) ⟨0,by omega,by omega,sl @gj.eq_1,⟨⟨239001000,n0+1⟩,by(simp only[go_sem, ↓reduceIte,Nat.reduceEqDiff,Nat.reduceAdd,Nat.reduceSub,Nat.reduceLeDiff,reduceCtorEq])<;>rfl,by(simp only[go_sem, ↓reduceIte,Nat.reduceEqDiff,Nat.reduceAdd,Nat.reduceSub,Nat.reduceLeDiff,reduceCtorEq])<;>rfl,by(try dsimp only);omega⟩⟩ ?_
 rintro n_a env_a st_a ⟨k,rfl,ale,a6,jO⟩ dy
 have a0:=dy 0 (by kernel_rfl);have a1:=dy 1 (by kernel_rfl)
 simp only[go_sem, ↓reduceIte,Nat.reduceEqDiff,Nat.reduceAdd,Nat.reduceSub,Nat.reduceLeDiff,reduceCtorEq,gj]at a0 a1
 clear dy
 obtain⟨o,a5,ag,u7⟩:=jO
 have tl:=dR (fun _=>-1) k
 have tf:=dr u7
 by_cases hk:(k:Int)<(cnt:Int)
 ·have cw:∀{e:Env} {gg:Rows} {nx:Nat},(e 6=.int .i64 (IntKind.i64.wrap ((k:Int)+1)))->(∃o:Id,e 5=.own o 0 (k+1)/\gg o=some ⟨true,1,eC (fun _=>-1) (k+1)⟩/\o.bE<nx)->∃m0,m0<(cnt)-k/\∃k:Nat,m0=(cnt)-k/\k<=(cnt)/\e 6=.int .i64 (k:Int)/\(∃o:Id,e 5=.own o 0 k/\gg o=some ⟨true,1,eC (fun _=>-1) k⟩/\o.bE<nx):=fun x1 x2=>⟨_,by omega,k+1,rfl,by omega,(by rw[x1,aD (by omega)]),x2⟩
  have e1:k+1<=16777216:=by omega
  have tL:eC (fun _=>-1) k++[[.int .i64 (-1)]]=eC (fun _=>-1) (k+1):=(IE _ _).symm
  (try((repeat(revert hN;revert N;apply Pn.out));refine wk (tw @a6 (tw @a0 (tw @a1 (tw @a5 (tw @ag (tw @tf (tw @hk (tw @tl (tw @e1 (tw @tL @gj.eq_1)))))))))) ?_;(repeat(refine Pn.mk ?_;intro N hN))))
  exact cw (sd (tw @a6 (tw @a0 (tw @a1 @gj.eq_1)))) (⟨⟨239005002,st_a.next+1⟩,sd @Nat.zero_add,sd @tL,by(try dsimp only);omega⟩)
 have kT:k=cnt:=by omega
 subst kT
 have UP:(y:Int)<(k:Int):=by omega
 have hym:=ep (f:=fun _=>-1) hy
 have CF:(eC (fun _=>-1) k).set y (az 0)=eC (fun v=>if v=y then 0 else -1) k:=lH hy (if_pos rfl) fun i _ hi=>if_neg hi
 rw[az]at CF hym
 (try((repeat(revert hN;revert N;apply Pn.out));refine wk (tw @a6 (tw @a0 (tw @a1 (tw @a5 (tw @ag (tw @tf (tw @hk (tw @tl (tw @UP (tw @hym (tw @CF @gj.eq_1))))))))))) ?_;(repeat(refine Pn.mk ?_;intro N hN))))
 refine aZ (fun m env st=>∃(i:Nat) (out:Nat->Int) (Q:List Nat) (p:Id),m=k-i/\env 8=.int .i64 (i:Int)/\env 7=.own p 0 Q.length/\st.get p=some ⟨true,1,Q.map eN⟩/\st.get o=some ⟨true,1,eC out k⟩/\o.bE<p.bE/\p.bE<st.next/\By k bs f y out Q i/\i<=Q.length) k ⟨0,_,[y],⟨239007001,st_a.next+1+1⟩,by omega,by(simp only[go_sem, ↓reduceIte,Nat.reduceEqDiff,Nat.reduceAdd,Nat.reduceSub,Nat.reduceLeDiff,reduceCtorEq])<;>rfl,by(simp only[go_sem, ↓reduceIte,Nat.reduceEqDiff,Nat.reduceAdd,Nat.reduceSub,Nat.reduceLeDiff,reduceCtorEq])<;>rfl,by(simp only[go_sem, ↓reduceIte,Nat.reduceEqDiff,Nat.reduceAdd,Nat.reduceSub,Nat.reduceLeDiff,reduceCtorEq])<;>rfl,sd @tf,by(try dsimp only);omega,by(try dsimp only);omega,By.start hy,by simp⟩ ?_
 rintro n env_b st_b ⟨i,out,Q,p,rfl,b8,b7,bgp,bgo,eA,hpn,hB,hiq⟩ fK
 have b0:=fK 0 (by kernel_rfl)
 have b5:=fK 5 (by kernel_rfl)
 simp only[go_sem, ↓reduceIte,Nat.reduceEqDiff,Nat.reduceAdd,Nat.reduceSub,Nat.reduceLeDiff,reduceCtorEq,a6,a0,a1,a5,gj]at b0 b5
 clear fK
 have hql:=hB.len
 have UW:=dR out k
 have hqm:(Q.map eN).length=Q.length:=by simp
 have BJ:=dr hpn
 have qv:=dr (i:=o) (n:=st_b.next) (by omega)
 by_cases hi:(i:Int)<(Q.length:Int)
 ·have fe:i<Q.length:=by omega
  have iV:(Q.map eN)[i]? =some (eN Q[i]):=by simp[fe]
  have OB:=hB.lt _ (List.getElem_mem fe)
  obtain⟨vt,Qm⟩:∃vt,vt=Q[i]:=⟨_,rfl⟩
  rw[<-Qm]at iV OB
  have hA:=Ei (cnt:=k) (bs:=bs) (m:=bs.length) OB
  have E4:(vt:Int)<(k:Int):=by omega
  have kF:=sk bs bs.length vt
  have hme:∀x,x<(jm bs bs.length vt).length->(jm bs bs.length vt).getD x 0<bs.length/\F3 bs ((jm bs bs.length vt).getD x 0) vt:=fun x hx=>by
   rw[List.getD_eq_getElem?_getD,List.getElem?_eq_getElem hx]
   exact sn.1 (List.getElem_mem hx)
  have SU:∀e∈jm bs bs.length vt,∃x,x<(jm bs bs.length vt).length/\(jm bs bs.length vt).getD x 0=e:=fun e he=>by
   obtain⟨x,hx,rfl⟩:=List.getElem_of_mem he
   exact⟨x,hx,by rw[List.getD_eq_getElem?_getD,List.getElem?_eq_getElem hx];rfl⟩
  generalize hIn:jm bs bs.length vt=I at *
  unfold QN at hA
  by_cases Vz:I=[]
  ·rw[if_pos Vz]at hA
   have hI1:I.length=0:=by rw[Vz];rfl
   (try((repeat(revert hN;revert N;apply Pn.out));refine wk (tw @b0 (tw @b5 (tw @b7 (tw @b8 (tw @bgp (tw @hi (tw @iV (tw @hqm (tw @eN.eq_1 @gj.eq_1))))))))) ?_;(repeat(refine Pn.mk ?_;intro N hN))))
   refine aZ (fun n env st=>∃x:Nat,n=(I.length)-x/\x<=(I.length)/\env 10=.int .i64 (x:Int)/\(∃(je:Nat->Int) (Q':List Nat) (p':Id),env 7=.own p' 0 Q'.length/\st.get p'=some ⟨true,1,Q'.map eN⟩/\st.get o=some ⟨true,1,eC je k⟩/\o.bE<p'.bE/\p'.bE<st.next/\By k bs f y je Q' i/\(∃h:i<Q'.length,Q'[i]=vt)/\(∀z,z<x->0<fU bs f (I.getD z 0) (cE bs (I.getD z 0) vt)->0<=je (cE bs (I.getD z 0) vt)))) (I.length) ⟨0,by omega,by omega,sl (tw @b0 (tw @b5 (tw @b8 @gj.eq_1))),⟨out,Q,p,sd @b7,sd @bgp,sd @bgo,eA,by(try dsimp only);omega,hB,⟨fe,Qm.symm⟩,fun z hz=>by omega⟩⟩ ?_
   rintro n_c env_c st_c ⟨x,rfl,cle,jP,cI0⟩ cfr
   have c0:=cfr 0 (by kernel_rfl);have c5:=cfr 5 (by kernel_rfl);have c8:=cfr 8 (by kernel_rfl);have c9:=cfr 9 (by kernel_rfl)
   simp only[go_sem, ↓reduceIte,Nat.reduceEqDiff,Nat.reduceAdd,Nat.reduceSub,Nat.reduceLeDiff,reduceCtorEq,b0,b5,b8,gj]at c0 c5 c8 c9
   clear cfr
   obtain⟨je,Q',p',c7,JE,za,EW,Qc,dM,⟨yI,rz⟩,te⟩:=cI0
   have Wv:=dM.len
   have QT:=dR je k
   have Qe:(Q'.map eN).length=Q'.length:=by simp
   have AG:=dr Qc
   have mV:=dr (i:=o) (n:=st_c.next) (by omega)
   have x1:=cm EW
   have hx:¬(x:Int)<((0:Nat):Int):=by omega
   have hxe:x=I.length:=by omega
   have hw:IntKind.i64.wrap ((i:Int)+1)=((i+1:Nat):Int):=aD (by omega)
   (try((repeat(revert hN;revert N;apply Pn.out));refine wk (tw @jP (tw @c0 (tw @c5 (tw @c8 (tw @c9 (tw @c7 (tw @hx (tw @hA (tw @E4 @gj.eq_1))))))))) ?_;(repeat(refine Pn.mk ?_;intro N hN))))
   refine⟨_,?_,i+1,je,Q',p',rfl,sd (tw @jP (tw @c0 (tw @c5 (tw @c8 (tw @c9 @hw))))),sd @c7,sd @JE,sd @za,EW,by(try dsimp only);omega,dM.next yI fun e he hr=>?_,by omega⟩
   ·omega
   ·rw[rz,hIn]at he
    rw[rz]at hr ⊢
    obtain⟨z,hz,rfl⟩:=SU e he
    exact te z (by omega) hr
  ·rw[if_neg Vz]at hA
   have rf:(I.map eN).length=I.length:=by simp
   (try((repeat(revert hN;revert N;apply Pn.out));refine wk (tw @b0 (tw @b5 (tw @b7 (tw @b8 (tw @bgp (tw @hi (tw @iV (tw @hqm (tw @eN.eq_1 @gj.eq_1))))))))) ?_;(repeat(refine Pn.mk ?_;intro N hN))))
   refine aZ (fun n env st=>∃x:Nat,n=(I.length)-x/\x<=(I.length)/\env 10=.int .i64 (x:Int)/\(∃(je:Nat->Int) (Q':List Nat) (p':Id),env 7=.own p' 0 Q'.length/\st.get p'=some ⟨true,1,Q'.map eN⟩/\st.get o=some ⟨true,1,eC je k⟩/\o.bE<p'.bE/\p'.bE<st.next/\By k bs f y je Q' i/\(∃h:i<Q'.length,Q'[i]=vt)/\(∀z,z<x->0<fU bs f (I.getD z 0) (cE bs (I.getD z 0) vt)->0<=je (cE bs (I.getD z 0) vt)))) (I.length) ⟨0,by omega,by omega,sl (tw @b0 (tw @b5 (tw @b8 @gj.eq_1))),⟨out,Q,p,sd @b7,sd @bgp,sd @bgo,eA,by(try dsimp only);omega,hB,⟨fe,Qm.symm⟩,fun z hz=>by omega⟩⟩ ?_
   rintro n_c env_c st_c ⟨x,rfl,cle,jP,cI0⟩ cfr
   have c0:=cfr 0 (by kernel_rfl);have c5:=cfr 5 (by kernel_rfl);have c8:=cfr 8 (by kernel_rfl);have c9:=cfr 9 (by kernel_rfl)
   simp only[go_sem, ↓reduceIte,Nat.reduceEqDiff,Nat.reduceAdd,Nat.reduceSub,Nat.reduceLeDiff,reduceCtorEq,b0,b5,b8,gj]at c0 c5 c8 c9
   clear cfr
   obtain⟨je,Q',p',c7,JE,za,EW,Qc,dM,⟨yI,rz⟩,te⟩:=cI0
   have Wv:=dM.len
   have QT:=dR je k
   have Qe:(Q'.map eN).length=Q'.length:=by simp
   have AG:=dr Qc
   have mV:=dr (i:=o) (n:=st_c.next) (by omega)
   have x1:=cm EW
   by_cases hx:(x:Int)<(I.length:Int)
   ·have iF:∀{e:Env} {gg:Rows} {nx:Nat},(e 10=.int .i64 (IntKind.i64.wrap ((x:Int)+1)))->(∃(je:Nat->Int) (Q':List Nat) (p':Id),e 7=.own p' 0 Q'.length/\gg p'=some ⟨true,1,Q'.map eN⟩/\gg o=some ⟨true,1,eC je k⟩/\o.bE<p'.bE/\p'.bE<nx/\By k bs f y je Q' i/\(∃h:i<Q'.length,Q'[i]=vt)/\(∀z,z<(x+1)->0<fU bs f (I.getD z 0) (cE bs (I.getD z 0) vt)->0<=je (cE bs (I.getD z 0) vt)))->∃m0,m0<(I.length)-x/\∃x:Nat,m0=(I.length)-x/\x<=(I.length)/\e 10=.int .i64 (x:Int)/\(∃(je:Nat->Int) (Q':List Nat) (p':Id),e 7=.own p' 0 Q'.length/\gg p'=some ⟨true,1,Q'.map eN⟩/\gg o=some ⟨true,1,eC je k⟩/\o.bE<p'.bE/\p'.bE<nx/\By k bs f y je Q' i/\(∃h:i<Q'.length,Q'[i]=vt)/\(∀z,z<x->0<fU bs f (I.getD z 0) (cE bs (I.getD z 0) vt)->0<=je (cE bs (I.getD z 0) vt))):=fun x1 x2=>⟨_,by omega,x+1,rfl,by omega,(by rw[x1,aD (by omega)]),x2⟩
    have RM:x<I.length:=by omega
    have Py:(I.map eN)[x]? =some (eN (I.getD x 0)):=getD_map eN RM
    obtain⟨he,qu⟩:=hme x RM
    obtain⟨e,Uu⟩:∃e,e=I.getD x 0:=⟨_,rfl⟩
    rw[<-Uu]at Py he qu
    have jb:=vw he
    have hq:=pB ok (v:=vt) he
    have UG:=pC ok he qu
    have Qh:=Lr k bs f hs e (cE bs e vt) he
    have SH:=ok e he
    have oq:IntKind.i64.wrap (((cL bs e).a:Int)+((cL bs e).b:Int))=((cL bs e).a:Int)+((cL bs e).b:Int):=bI (by omega)
    have rD:IntKind.i64.wrap (((cL bs e).a:Int)+((cL bs e).b:Int)-(vt:Int))=(cE bs e vt:Int):=by
     rw[bI (by omega)]
     unfold cE
     rcases qu with h1|h1
     ·rw[if_pos h1];omega
     ·rw[if_neg fun h2=>SH.2.2 (h2.trans h1.symm)];omega
    have RE:(cE bs e vt:Int)<(k:Int):=by omega
    have PY:=ep (f:=je) hq
    have MV:=ep (f:=je) OB
    rw[gj]at Qh
    have lL:=dM.up i yI
    rw[rz]at lL
    have kI:=dM.lo vt OB
    have OD:IntKind.i64.wrap (je vt+1)=je vt+1:=bI (by omega)
    rw[az]at PY MV
    generalize om:cL bs e=b at *
    by_cases kp:je (cE bs e vt)<0
    ·by_cases gq:0<fU bs f e (cE bs e vt)
     ·have hV:=dM.visit ok yI (e:=e) he (by rw[rz];exact qu) (by rw[rz];exact kp) (by rw[rz];exact gq)
      rw[rz]at hV
      have eL:(eC je k).set (cE bs e vt) (az (je vt+1))=eC (fun v=>if v=cE bs e vt then je vt+1 else je v) k:=lH hq (if_pos rfl) fun v _ hv=>if_neg hv
      rw[az]at eL
      have e1:Q'.length+1<=16777216:=by omega
      (repeat(first|((repeat(revert hN;revert N;apply Pn.out));refine wk (tw @jP (tw @c0 (tw @c5 (tw @c8 (tw @c9 (tw @c7 (tw @JE (tw @za (tw @hx (tw @hA (tw @rf (tw @Py (tw @E4 (tw @jb (tw @oq (tw @rD (tw @RE (tw @PY (tw @MV (tw @kp (tw @gq (tw @OD (tw @eL (tw @Qe (tw @QT (tw @AG (tw @mV (tw @x1 (tw @e1 (tw @eN.eq_1 (tw @aH.eq_1 @gj.eq_1))))))))))))))))))))))))))))))) ?_;(repeat(refine Pn.mk ?_;intro N hN)))|((try apply Or.inl);refine⟨_,aq.x (Qh) (sd (tw @jP (tw @c0 (tw @c5 (tw @c8 (tw @c9 (tw @c7 (tw @JE (tw @za (tw @hx (tw @hA (tw @rf (tw @Py (tw @E4 (tw @jb (tw @oq (tw @rD (tw @RE (tw @PY (tw @MV (tw @kp (tw @gq (tw @OD (tw @eL (tw @Qe (tw @QT (tw @AG (tw @mV (tw @x1 (tw @e1 (tw @eN.eq_1 (tw @aH.eq_1 @gj.eq_1)))))))))))))))))))))))))))))))),?_⟩;refine hN _ _ ?_;clear hN N)))
      exact iF (sd (tw @jP (tw @c0 (tw @c5 (tw @c8 @c9))))) (⟨_,Q'++[cE bs e vt],⟨239020003,st_c.next+1+1+1+1+1+1⟩,by rw[List.length_append];simp only[go_sem, ↓reduceIte,Nat.reduceEqDiff,Nat.reduceAdd,Nat.reduceSub,Nat.reduceLeDiff,reduceCtorEq,List.length_cons,List.length_nil],by rw[List.map_append,List.map_cons,List.map_nil];simp only[go_sem, ↓reduceIte,Nat.reduceEqDiff,Nat.reduceAdd,Nat.reduceSub,Nat.reduceLeDiff,reduceCtorEq,eN],sd (tw @mV @x1),by(try dsimp only);omega,by(try dsimp only);omega,hV,⟨by simp;omega,by rw[List.getElem_append_left yI];exact rz⟩,fun z hz hr=>by
       by_cases Tl:z=x
       ·subst Tl
        rw[<-Uu,if_pos rfl]
        have:=(dM.iff vt OB).2 (by rw[<-rz];exact List.getElem_mem yI)
        omega
       ·have:=te z (by omega) hr
        split
        ·have:=(dM.iff vt OB).2 (by rw[<-rz];exact List.getElem_mem yI)
         omega
        ·exact this⟩)
     ·(repeat(first|((repeat(revert hN;revert N;apply Pn.out));refine wk (tw @jP (tw @c0 (tw @c5 (tw @c8 (tw @c9 (tw @c7 (tw @JE (tw @za (tw @hx (tw @hA (tw @rf (tw @Py (tw @E4 (tw @jb (tw @oq (tw @rD (tw @RE (tw @PY (tw @kp (tw @gq (tw @QT (tw @AG (tw @mV (tw @x1 (tw @eN.eq_1 (tw @aH.eq_1 @gj.eq_1)))))))))))))))))))))))))) ?_;(repeat(refine Pn.mk ?_;intro N hN)))|((try apply Or.inl);refine⟨_,aq.x (Qh) (sd (tw @jP (tw @c0 (tw @c5 (tw @c8 (tw @c9 (tw @c7 (tw @JE (tw @za (tw @hx (tw @hA (tw @rf (tw @Py (tw @E4 (tw @jb (tw @oq (tw @rD (tw @RE (tw @PY (tw @kp (tw @gq (tw @QT (tw @AG (tw @mV (tw @x1 (tw @eN.eq_1 (tw @aH.eq_1 @gj.eq_1))))))))))))))))))))))))))),?_⟩;refine hN _ _ ?_;clear hN N)))
      exact iF (sd (tw @jP (tw @c0 (tw @c5 (tw @c8 @c9))))) (⟨je,Q',p',sd @c7,sd (tw @JE @AG),sd (tw @za @mV),EW,by(try dsimp only);omega,dM,⟨yI,rz⟩,fun z hz hr=>by
       by_cases Tl:z=x
       ·subst Tl;rw[<-Uu]at hr;exact absurd hr gq
       ·exact te z (by omega) hr⟩)
    ·(repeat(first|((repeat(revert hN;revert N;apply Pn.out));refine wk (tw @jP (tw @c0 (tw @c5 (tw @c8 (tw @c9 (tw @c7 (tw @JE (tw @za (tw @hx (tw @hA (tw @rf (tw @Py (tw @E4 (tw @jb (tw @oq (tw @rD (tw @RE (tw @PY (tw @kp (tw @QT (tw @AG (tw @mV (tw @x1 (tw @eN.eq_1 (tw @aH.eq_1 @gj.eq_1))))))))))))))))))))))))) ?_;(repeat(refine Pn.mk ?_;intro N hN)))|((try apply Or.inl);refine⟨_,aq.x (Qh) (sd (tw @jP (tw @c0 (tw @c5 (tw @c8 (tw @c9 (tw @c7 (tw @JE (tw @za (tw @hx (tw @hA (tw @rf (tw @Py (tw @E4 (tw @jb (tw @oq (tw @rD (tw @RE (tw @PY (tw @kp (tw @QT (tw @AG (tw @mV (tw @x1 (tw @eN.eq_1 (tw @aH.eq_1 @gj.eq_1)))))))))))))))))))))))))),?_⟩;refine hN _ _ ?_;clear hN N)))
     exact iF (sd (tw @jP (tw @c0 (tw @c5 (tw @c8 @c9))))) (⟨je,Q',p',sd @c7,sd (tw @JE @AG),sd (tw @za @mV),EW,by(try dsimp only);omega,dM,⟨yI,rz⟩,fun z hz hr=>by
      by_cases Tl:z=x
      ·subst Tl;rw[<-Uu];omega
      ·exact te z (by omega) hr⟩)
   ·have hxe:x=I.length:=by omega
    have hw:IntKind.i64.wrap ((i:Int)+1)=((i+1:Nat):Int):=aD (by omega)
    (try((repeat(revert hN;revert N;apply Pn.out));refine wk (tw @jP (tw @c0 (tw @c5 (tw @c8 (tw @c9 (tw @c7 (tw @hx (tw @hA (tw @rf (tw @E4 @gj.eq_1)))))))))) ?_;(repeat(refine Pn.mk ?_;intro N hN))))
    refine⟨_,?_,i+1,je,Q',p',rfl,sd (tw @jP (tw @c0 (tw @c5 (tw @c8 (tw @c9 @hw))))),sd @c7,sd @JE,sd @za,EW,by(try dsimp only);omega,dM.next yI fun e he hr=>?_,by omega⟩
    ·omega
    ·rw[rz,hIn]at he
     rw[rz]at hr ⊢
     obtain⟨z,hz,rfl⟩:=SU e he
     exact te z (by omega) hr
 ·(try((repeat(revert hN;revert N;apply Pn.out));refine wk (tw @b0 (tw @b5 (tw @b7 (tw @b8 (tw @hi @gj.eq_1))))) ?_;(repeat(refine Pn.mk ?_;intro N hN))))
  have tG:gK st_b.get 6 (.own o 0 k)=some (.sl (eC out k)):=vL bgo (by rw[UW];omega) (by rw[List.drop_zero,List.take_of_length_le (by rw[UW];omega)];exact LF)
  exact⟨_,rfl,_,by simp only[go_sem, ↓reduceIte,Nat.reduceEqDiff,Nat.reduceAdd,Nat.reduceSub,Nat.reduceLeDiff,reduceCtorEq,eW];exact tG,out,rfl,hB.done ok (by omega)⟩
end Go.Proofs.YtgoelphibofcmaaGreat.V

namespace Go.Proofs.YtgoelphibofcmaaGreat.V
open Go.RowKit
attribute [local irreducible] dQ wpOps fX Call
attribute [local go_sem] aQ fM eU fY fW dm upd cG K.av cQ AV.cells AV.cell rowOf rowsOf part ld rowAt bQ cC dE ea gZ bS dh eo fV fj dB ef dd dc dS dU b4 bj cV bW cY cW ec eh ee cU ck de eb bV aU da cK gY bx cP cj bd dv bl dG AV.undef bH bK dW dZ dO dL cN ek eu cJ ej ei cZ db List.getD_cons_zero List.getD_cons_succ List.getD_nil List.all_cons List.all_nil Bool.and_true Bool.true_and Bool.and_self Bool.not_true Bool.not_false Option.map_some Option.map_none Option.bind_some Option.bind_none List.length_cons List.length_nil List.take_succ_cons List.take_zero List.take_nil List.drop_succ_cons List.drop_zero List.drop_nil List.head?_cons List.map_cons List.map_nil List.getElem?_cons_zero List.getElem?_cons_succ List.cons_append List.nil_append List.append_nil List.length_map List.set_cons_zero List.set_cons_succ eq_self Int.toNat_natCast Int.natCast_nonneg and_self true_and and_true decide_true decide_false Bool.false_eq_true Nat.zero_add Nat.add_zero List.contains_cons List.contains_nil Bool.or_false Bool.false_or beq_self_eq_true ne_eq not_true_eq_false not_false_eq_true Id.mk.injEq false_and and_false Nat.le_refl List.length_append beq_true beq_false Bool.not_eq_eq_eq_not or_false false_or dX ae aj aJ bq bG cr aY bf aW bp cR bB
def Ri:DP (List Nat):=fun g cs x ids=>(x=[]/\cs=[.bD]/\ids=[])∨∃id,cs=[.own id 0 x.length]/\0<x.length/\g id=some ⟨true,1,x.map eN⟩/\ids=[id]
theorem OJ:yn Ri 1 where
 frame:=fun h hf=>by
  rcases h with h|⟨id,h1,h0,h2,h3⟩
  ·exact .inl h
  ·subst h3;exact .inr ⟨id,h1,h0,(hf id (by simp)).trans h2,rfl⟩
 len:=fun h=>by rcases h with⟨_,h,_⟩|⟨id,h,_⟩<;>subst h<;>rfl
 cell:=fun h=>by rcases h with⟨_,h,_⟩|⟨id,h,_⟩<;>subst h<;>rfl
 live:=fun h i hi=>by
  rcases h with⟨_,_,h⟩|⟨id,h1,h0,h2,h3⟩
  ·subst h;cases hi
  ·subst h3
   have:i=id:=by simpa using hi
   subst this
   exact⟨_,h2,rfl,by simp[sE]⟩
 small:=by simp[sE]
theorem Qw {g:Rows} {rows:List (List AV)} {xs:List (List Nat)} {ids:List Id} (n:Nat) (h:eQ Ri g rows xs ids):eH (dX g) (n+2) rows=some (xs.map fun l=>[QN l]):=
 h.fz (fun {cs x ids} h=>by
  rcases h with⟨h0,h1,_⟩|⟨id,h1,h0,h2,_⟩
  ·subst h0 h1;rw[ae,aj,aY];rfl
  ·have gM:x≠[]:=by rintro rfl;simp at h0
   subst h1
   rw[ae,aj,il (e:=eN) (sz:=1) (by simp[dX,h2]) rfl fun a=>fzN _ n a]
   simp[QN,gM])
theorem eQ.TD {α:Type} {R:DP α} {sz:Nat} {g:Rows} {rows:List (List AV)} {xs:List α} {ids:List Id} (ok:yn R sz) (h:eQ R g rows xs ids) (mE:ids.Nodup) (k:Nat) (hk:k<xs.length):
  ∃cs ic,rows[k]? =some cs/\R g cs xs[k] ic/\(∀i∈ic,i∈ids)/\∀(g':Rows) qp x' RQ,R g' qp x' RQ->(∀i∈ids,i∉ic->g' i=g i)->RQ.Nodup->(∀i∈RQ,i∉ids)->∃E8,eQ R g' (rows.set k qp) (xs.set k x') E8/\E8.Nodup/\∀i∈E8,i∈RQ∨i∈ids:=by
 obtain⟨r1,cs,r2,i1,ic,i2,rfl,rfl,rfl,h3,h4,h5⟩:=h.split k hk
 obtain⟨n1,n2,n3⟩:=List.nodup_append.1 mE
 obtain⟨nc,n5,n4⟩:=List.nodup_append.1 n2
 refine⟨cs,ic,by simp,h4,fun i hi=>by simp[hi],fun g' qp x' RQ hR hf hn' kJ=>⟨i1++(RQ++i2),?_,?_,fun i hi=>?_⟩⟩
 ·have e:xs.set r1.length x'=xs.take r1.length++x'::xs.drop (r1.length+1):=by rw[List.set_eq_take_append_cons_drop,if_pos hk]
  have e2:(r1++cs::r2).set r1.length qp=r1++qp::r2:=by simp
  rw[e,e2]
  refine(h3.frame ok fun i hi=>hf i (by simp[hi]) fun hc=>n3 i hi i (by simp[hc]) rfl).app (.cons hR (h5.frame ok fun i hi=>hf i (by simp[hi]) fun hc=>n4 i hc i hi rfl))
 ·rw[List.nodup_append,List.nodup_append]
  refine⟨n1,⟨hn',n5,fun x hx y hy he=>?_⟩,fun x hx y hy he=>?_⟩
  ·subst he;exact kJ x hx (by simp[hy])
  ·subst he
   rcases List.mem_append.1 hy with hy|hy
   ·exact kJ x hy (by simp[hx])
   ·exact n3 x hx x (by simp[hy]) rfl
 ·rcases List.mem_append.1 hi with hi|hi
  ·exact .inr (by simp[hi])
  ·rcases List.mem_append.1 hi with hi|hi
   ·exact .inl hi
   ·exact .inr (by simp[hi])
def rU (A:Id) (lo:Nat) (L:List (List Nat)) (g:Rows) (nx:Nat):Prop:=∃rows ids,g A=some ⟨true,1,rows⟩/\eQ Ri g rows L ids/\ids.Nodup/\∀i∈ids,lo<i.bE/\i.bE<nx
def bR (cnt:Nat) (bs:List PB) (A F:Id):List AV:=[.int .i64 cnt,.sl (bs.map aH),.own A 0 cnt,.own F 0 bs.length]
def lP (cnt:Nat) (bs:List PB) (m:Nat):List (List Nat):=(List.range cnt).map fun v=>jm bs m v
theorem jI (cnt:Nat) (bs:List PB) (m:Nat):(lP cnt bs m).length=cnt:=by simp[lP]
structure oO (cnt:Nat) (bs:List PB) (f:Nat->Int) (X A F:Id) (g:Rows) (nx:Nat):Prop where
 x:g X=some ⟨true,4,[bR cnt bs A F]⟩
 a:rU A F.bE (lP cnt bs bs.length) g nx
 f:g F=some ⟨true,1,eC f bs.length⟩
 xa:X.bE<A.bE
 af:A.bE<F.bE
 fn:F.bE<nx
theorem rU.fz {A:Id} {lo cnt:Nat} {bs:List PB} {m nx n:Nat} {g:Rows} (h:rU A lo (lP cnt bs m) g nx):V.fz (dX g) (n+3) (.own A 0 cnt)=some (.sl (qK cnt bs m)):=by
 obtain⟨rows,ids,h1,h2,_,_⟩:=h
 have hl:=h2.len
 rw[jI]at hl
 rw[iP]
 simp only[dX,h1,Option.map_some,if_true]
 rw[if_pos (by omega),List.drop_zero,List.take_of_length_le (by omega)]
 have:=Qw n h2
 rw[this]
 simp[lP,qK]
theorem oO.fz {cnt:Nat} {bs:List PB} {f:Nat->Int} {X A F:Id} {g:Rows} {nx:Nat} (h:oO cnt bs f X A F g nx):V.fz (dX g) 6 (.ptr X 0 0)=some (.du (gj cnt bs f)):=by
 have hF:dX g F=some ⟨true,1,eC f bs.length⟩:=by simp[dX,h.f]
 have hX:dX g X=some ⟨true,4,[bR cnt bs A F]⟩:=by simp[dX,h.x]
 have hf:V.fz (dX g) 5 (.own F 0 bs.length)=some (.sl (eC f bs.length)):=by
  rw[iP]
  simp only[hF,if_true]
  rw[if_pos (by rw[dR];omega),List.drop_zero,List.take_of_length_le (by rw[dR];omega),Bj];rfl
 have ha:=h.a.fz (n:=2)
 rw[bp]
 simp only[hX,if_true,List.getElem?_cons_zero,List.drop_zero,bR,ae,aj,aJ,cr,ha,hf,Option.map_some,gj]
theorem HL (cnt:Nat) (bs:List PB):lP cnt bs 0=List.replicate cnt []:=by
 refine List.ext_getElem? fun i=>?_
 simp only[lP,List.getElem?_map,List.getElem?_replicate]
 by_cases h:i<cnt
 ·rw[List.getElem?_range h,if_pos h];rfl
 ·rw[List.getElem?_eq_none (by simpa using h),if_neg h];rfl
theorem zV (g:Rows):∀n:Nat,eQ Ri g (List.replicate n [.bD]) (List.replicate n []) []
 |0=>.nil
 |n+1=>.cons (i1:=[]) (.inl ⟨rfl,rfl,rfl⟩) (zV g n)
def yO (cnt:Nat) (bs:List PB) (m:Nat):List (List Nat):=(lP cnt bs m).set (cL bs m).a (jm bs m (cL bs m).a++[m])
theorem CN {cnt:Nat} {bs:List PB} {m v:Nat} (hv:v<cnt) (gM:(cL bs m).a≠v):(yO cnt bs m)[v]? =some (jm bs m v):=by
 unfold yO
 rw[List.getElem?_set_ne gM]
 simp[lP,hv]
theorem HK {cnt:Nat} {bs:List PB} {m:Nat} (ha:(cL bs m).a<cnt) (hb:(cL bs m).b<cnt) (gM:(cL bs m).a≠(cL bs m).b):(yO cnt bs m).set (cL bs m).b (jm bs m (cL bs m).b++[m])=lP cnt bs (m+1):=by
 refine List.ext_getElem? fun i=>?_
 by_cases hi:i<cnt
 ·have hr:(lP cnt bs (m+1))[i]? =some (jm bs (m+1) i):=by simp[lP,hi]
  rw[hr,HM]
  by_cases h1:(cL bs m).b=i
  ·rw[List.getElem?_set,if_pos h1,if_pos (by simp[yO,jI];omega),if_pos (.inr h1),h1]
  ·rw[List.getElem?_set_ne h1]
   by_cases h2:(cL bs m).a=i
   ·unfold yO
    rw[List.getElem?_set,if_pos h2,if_pos (by rw[jI];omega),if_pos (.inl h2),h2]
   ·rw[CN hi h2,if_neg (fun h=>h.elim h2 h1),List.append_nil]
 ·rw[List.getElem?_eq_none (by simp[yO,jI];omega),List.getElem?_eq_none (by rw[jI];omega)]
theorem lj {α:Type} {l:List α} {k:Nat} {x:α} (h:l[k]? =some x) (hk:k<l.length):l[k]=x:=by
 rw[List.getElem?_eq_getElem hk]at h;exact Option.some.inj h
theorem GH {A K:Id} {lo Ty nx k j:Nat} {L:List (List Nat)} {La:List Nat} {g:Rows} {rows:List (List AV)} {ids:List Id} (hR:eQ Ri g rows L ids) (mE:ids.Nodup) (oJ:∀i∈ids,lo<i.bE/\i.bE<Ty) (hA:A.bE<=lo) (hL:L[k]? =some La) (hK1:Ty<=K.bE) (PL:K.bE<nx) (kI:lo<Ty):
  ∃cs,rows[k]? =some cs/\((La=[]/\cs=[.bD])∨∃id:Id,cs=[.own id 0 La.length]/\0<La.length/\g id=some ⟨true,1,La.map eN⟩/\id.bE<Ty/\lo<id.bE)/\
   ∀g':Rows,g' A=some ⟨true,1,rows.set k [.own K 0 (La.length+1)]⟩->g' K=some ⟨true,1,La.map eN++[[.int .i64 j]]⟩->(∀i:Id,i.bE<Ty->(i=A)=False->(∀id,cs=[.own id 0 La.length]->(i=id)=False)->g' i=g i)->rU A lo (L.set k (La++[j])) g' nx:=by
 have hk:k<L.length:=(List.getElem?_eq_some_iff.1 hL).1
 have VB:=lj hL hk
 obtain⟨cs,ic,dC,Rq,SO,xo⟩:=hR.TD OJ mE k hk
 rw[VB]at Rq
 refine⟨cs,dC,?_,fun g' h1 h2 h3=>?_⟩
 ·rcases Rq with⟨h1,h2,_⟩|⟨id,h1,h2,h3,h4⟩
  ·exact .inl ⟨h1,h2⟩
  ·subst h4
   have:=oJ id (SO id (by simp))
   exact .inr ⟨id,h1,h2,h3,this.2,this.1⟩
 ·obtain⟨E8,q1,q2,q3⟩:=xo g' [.own K 0 (La.length+1)] (La++[j]) [K] (.inr ⟨K,by simp,by simp,by rw[h2];simp[eN],rfl⟩) (fun i hi UF=>by
   refine h3 i (oJ i hi).2 ?_ fun id hid=>?_
   ·simp only[eq_iff_iff,iff_false];rintro rfl;have:=oJ _ hi;omega
   ·simp only[eq_iff_iff,iff_false]
    rintro rfl
    rcases Rq with⟨_,h4,_⟩|⟨kf,h4,_,_,h5⟩
    ·rw[hid]at h4;cases h4
    ·rw[hid]at h4
     simp only[List.cons.injEq,AV.own.injEq,and_true]at h4
     rw[h5,h4]at UF
     exact UF (by simp)) (by simp) fun i hi hc=>by
   rw[List.mem_singleton.1 hi]at hc;have:=oJ _ hc;omega
  refine⟨_,E8,h1,q1,q2,fun i hi=>?_⟩
  rcases q3 i hi with h|h
  ·rw[List.mem_singleton.1 h];omega
  ·have:=oJ i h;omega
theorem NZ {P:Program} {Q:Ex->Env->au->Prop} {c:VC} {env:Env} {σ:au} (I:Env->au->Prop) (h2:∀e s,I e s->Q .normal e s) (h1:∀N':Env->au->Prop,(∀e s,I e s->N' e s)->dQ (Call P) c (dv N' Q) env σ):dQ (Call P) c Q env σ:=by
 refine jN (fun _ _ _ _ h=>h) aE c _ _ env σ (fun x e s h=>?_) (h1 I fun _ _ h=>h)
 cases x with
 |normal=>exact h2 e s h
 |exit id=>exact h
 |ret=>exact h
end Go.Proofs.YtgoelphibofcmaaGreat.V

namespace Go.Proofs.YtgoelphibofcmaaGreat.V
open Go.RowKit
attribute [local irreducible] dQ wpOps fX Call
attribute [local go_sem] aQ fM eU fY fW dm upd cG K.av cQ AV.cells AV.cell rowOf rowsOf part ld rowAt bQ cC dE ea gZ bS dh eo fV fj dB ef dd dc dS dU b4 bj cV bW cY cW ec eh ee cU ck de eb bV aU da cK gY bx cP cj bd dv bl dG AV.undef bH bK dW dZ dO dL cN ek eu cJ ej ei cZ db List.getD_cons_zero List.getD_cons_succ List.getD_nil List.all_cons List.all_nil Bool.and_true Bool.true_and Bool.and_self Bool.not_true Bool.not_false Option.map_some Option.map_none Option.bind_some Option.bind_none List.length_cons List.length_nil List.take_succ_cons List.take_zero List.take_nil List.drop_succ_cons List.drop_zero List.drop_nil List.head?_cons List.map_cons List.map_nil List.getElem?_cons_zero List.getElem?_cons_succ List.cons_append List.nil_append List.append_nil List.length_map List.set_cons_zero List.set_cons_succ Nat.reduceMul eq_self Int.toNat_natCast Int.natCast_nonneg and_self true_and and_true decide_true decide_false Bool.false_eq_true Nat.zero_add Nat.add_zero List.contains_cons List.contains_nil Bool.or_false Bool.false_or beq_self_eq_true Nat.reduceBEq ne_eq not_true_eq_false not_false_eq_true Id.mk.injEq false_and and_false Nat.reduceLT Int.reduceLE Int.reduceLT Int.reduceToNat Int.reduceNeg Int.reduceAdd Nat.le_refl List.length_append beq_true beq_false Bool.not_eq_eq_eq_not or_false false_or dX ae aj aJ bq bG cr aY bf aW bp cR bB
theorem KB (cnt:Nat) (hn:cnt<=1048576) (bs:List PB) (ok:nW cnt bs) (qE:bs.length<=1048576) (σ:au):
  Call Tryz.prog 237 [.int .i64 cnt,.sl (bs.map aH)] σ fun r σ'=>∃X A F,r=.ptr X 0 0/\σ.next<=X.bE/\oO cnt bs (fun _=>0) X A F σ'.get σ'.next:=by
 refine Jb Pe rfl fun hl=>?_
 try simp only[q]
 clear hl
 have jW:(0:Int)<=(cnt:Int):=by omega
 have nw:(cnt:Int)<=((16777216:Nat):Int):=by omega
 have Sx:(0:Int)<=(bs.length:Int):=by omega
 have L8:(bs.length:Int)<=((16777216:Nat):Int):=by omega
 have hz:List.replicate bs.length [AV.int .i64 0]=eC (fun _=>0) bs.length:=by
  refine List.ext_getElem? fun i=>?_
  by_cases h:i<bs.length
  ·rw[ep h,List.getElem?_replicate,if_pos h];rfl
  ·rw[List.getElem?_eq_none (by simp;omega),List.getElem?_eq_none (by rw[dR];omega)]
 (try((repeat(revert hN;revert N;apply Pn.out));refine wk (tw @jW (tw @nw (tw @Sx (tw @L8 (tw @Int.le_refl @hz))))) ?_;(repeat(refine Pn.mk ?_;intro N hN))))
 obtain⟨X,hX⟩:∃X:Id,X=⟨237001003,σ.next+1⟩:=⟨_,rfl⟩
 obtain⟨A,hA⟩:∃X:Id,X=⟨237002002,σ.next+1+1⟩:=⟨_,rfl⟩
 obtain⟨F,hF⟩:∃X:Id,X=⟨237003003,σ.next+1+1+1⟩:=⟨_,rfl⟩
 have hXA:X.bE<A.bE:=by rw[hX,hA];(try dsimp only);omega
 have hAF:A.bE<F.bE:=by rw[hA,hF];(try dsimp only);omega
 have hXs:σ.next<=X.bE:=by rw[hX];(try dsimp only);omega
 refine aZ (fun n env st=>∃j:Nat,n=(bs.length)-j/\j<=(bs.length)/\env 6=.int .i64 (j:Int)/\env 5=(.ptr X 0 0)/\st.get X=some ⟨true,4,[bR cnt bs A F]⟩/\st.get F=some ⟨true,1,eC (fun _=>0) bs.length⟩/\(rU A F.bE (lP cnt bs j) st.get st.next/\F.bE<st.next)) (bs.length) ⟨0,by omega,by omega,by(try simp only[go_sem, ↓reduceIte,Nat.reduceEqDiff,Nat.reduceAdd,Nat.reduceSub,Nat.reduceLeDiff,reduceCtorEq,hX,hF,hA,bR,hz]);try rfl,by(try simp only[go_sem, ↓reduceIte,Nat.reduceEqDiff,Nat.reduceAdd,Nat.reduceSub,Nat.reduceLeDiff,reduceCtorEq,hX,hF,hA,bR,hz]);try rfl,by(try simp only[go_sem, ↓reduceIte,Nat.reduceEqDiff,Nat.reduceAdd,Nat.reduceSub,Nat.reduceLeDiff,reduceCtorEq,hX,hF,hA,bR,hz]);try rfl,by(try simp only[go_sem, ↓reduceIte,Nat.reduceEqDiff,Nat.reduceAdd,Nat.reduceSub,Nat.reduceLeDiff,reduceCtorEq,hX,hF,hA,bR,hz]);try rfl,⟨⟨List.replicate cnt [.bD],[],by rw[hA];(simp only[go_sem, ↓reduceIte,Nat.reduceEqDiff,Nat.reduceAdd,Nat.reduceSub,Nat.reduceLeDiff,reduceCtorEq])<;>rfl,by rw[HL];exact zV _ _,List.nodup_nil,fun i hi=>by cases hi⟩,by rw[hF];(try dsimp only);omega⟩⟩ ?_
 rintro n_a env_a st_a ⟨j,rfl,ale,a6,a5,ag0,ag1,jO⟩ dy
 have a0:=dy 0 (by kernel_rfl);have a1:=dy 1 (by kernel_rfl)
 simp only[go_sem, ↓reduceIte,Nat.reduceEqDiff,Nat.reduceAdd,Nat.reduceSub,Nat.reduceLeDiff,reduceCtorEq,hX,hF,hA,bR,hz]at a0 a1
 clear dy
 obtain⟨⟨rows,ids,ag,hR,mE,oJ⟩,hFn⟩:=jO
 have x1:=cm hXA
 have x2:=cm hAF
 have x3:=cm (a:=X) (b:=F) (by omega)
 have vX:=dr (i:=X) (n:=st_a.next) (by omega)
 have vA:=dr (i:=A) (n:=st_a.next) (by omega)
 have vF:=dr (i:=F) (n:=st_a.next) (by omega)
 by_cases hj:(j:Int)<(bs.length:Int)
 ·have cw:∀{e:Env} {gg:Rows} {nx:Nat},(e 6=.int .i64 (IntKind.i64.wrap ((j:Int)+1)))->(e 5=(.ptr X 0 0))->(gg X=some ⟨true,4,[bR cnt bs A F]⟩)->(gg F=some ⟨true,1,eC (fun _=>0) bs.length⟩)->(rU A F.bE (lP cnt bs (j+1)) gg nx/\F.bE<nx)->∃m0,m0<(bs.length)-j/\∃j:Nat,m0=(bs.length)-j/\j<=(bs.length)/\e 6=.int .i64 (j:Int)/\e 5=(.ptr X 0 0)/\gg X=some ⟨true,4,[bR cnt bs A F]⟩/\gg F=some ⟨true,1,eC (fun _=>0) bs.length⟩/\(rU A F.bE (lP cnt bs j) gg nx/\F.bE<nx):=fun x1 x2 x3 x4 x5=>⟨_,by omega,j+1,rfl,by omega,(by rw[x1,aD (by omega)]),x2,x3,x4,x5⟩
  have iK:j<bs.length:=by omega
  have jb:=vw iK
  obtain⟨ha1,Sy,gM⟩:=ok j iK
  have gW:((cL bs j).a:Int)<(cnt:Int):=by omega
  have gm:((cL bs j).b:Int)<(cnt:Int):=by omega
  have tK:=HK (m:=j) ha1 Sy gM
  have e1:=sk bs j (cL bs j).a
  have e2:=sk bs j (cL bs j).b
  have SM:(yO cnt bs j)[(cL bs j).b]? =some (jm bs j (cL bs j).b):=CN Sy gM
  have SK:(lP cnt bs j)[(cL bs j).a]? =some (jm bs j (cL bs j).a):=by simp[lP,ha1]
  have Vm:yO cnt bs j=(lP cnt bs j).set (cL bs j).a (jm bs j (cL bs j).a++[j]):=rfl
  have Um:(yO cnt bs j).length=cnt:=by rw[Vm,List.length_set,jI]
  have jv:=hR.len
  rw[jI]at jv
  obtain⟨cs7,jF,J6,Km⟩:=GH (A:=A) (K:=⟨237007022,st_a.next+1⟩) (nx:=st_a.next+1+1) (j:=j) hR mE oJ (by omega) SK (by(try dsimp only);omega) (by(try dsimp only);omega) hFn
  rw[<-Vm]at Km
  obtain⟨c7,rfl⟩:∃c,cs7=[c]:=by
   rcases J6 with⟨_,h⟩|⟨id,h,_⟩<;>exact⟨_,h⟩
  generalize jm bs j (cL bs j).a=La at *
  generalize jm bs j (cL bs j).b=Lb at *
  generalize cL bs j=b at *
  generalize yO cnt bs j=LA at *
  clear Vm
  (try((repeat(revert hN;revert N;apply Pn.out));refine wk (tw @a6 (tw @a5 (tw @ag0 (tw @ag1 (tw @a0 (tw @a1 (tw @hj (tw @jb (tw @aH.eq_1 (tw @ag (tw @jF (tw @gW (tw @gm (tw @jv (tw @x1 (tw @x2 (tw @x3 (tw @vX (tw @vA (tw @vF @bR.eq_1)))))))))))))))))))) ?_;(repeat(refine Pn.mk ?_;intro N hN))))
  refine LW (fun e s=>e 0=.int .i64 cnt/\e 1=.sl (bs.map aH)/\e 5=.ptr X 0 0/\e 6=.int .i64 j/\s.get X=some ⟨true,4,[bR cnt bs A F]⟩/\s.get F=some ⟨true,1,eC (fun _=>0) bs.length⟩/\rU A F.bE LA s.get s.next/\F.bE<s.next) ?_ ?_
  ·rintro e1 s1 ⟨m0,m1,m5,m6,mX,mF,⟨rows1,ids1,mg,mR,mnd,mver⟩,mn⟩
   refine hN _ _ ?_
   clear hN N
   have jw:=mR.len
   rw[Um]at jw
   have wX:=dr (i:=X) (n:=s1.next) (by omega)
   have wA:=dr (i:=A) (n:=s1.next) (by omega)
   have wF:=dr (i:=F) (n:=s1.next) (by omega)
   obtain⟨cs8,jG,J7,Kn⟩:=GH (A:=A) (K:=⟨237008022,s1.next⟩) (nx:=s1.next+1) (j:=j) mR mnd mver (by omega) SM (by(try dsimp only);omega) (by(try dsimp only);omega) mn
   rw[tK]at Kn
   obtain⟨c8,rfl⟩:∃c,cs8=[c]:=by
    rcases J7 with⟨_,h⟩|⟨id,h,_⟩<;>exact⟨_,h⟩
   (try((repeat(revert hN;revert N;apply Pn.out));refine wk (tw @m0 (tw @m1 (tw @m5 (tw @m6 (tw @mX (tw @mF (tw @hj (tw @jb (tw @aH.eq_1 (tw @mg (tw @jG (tw @gW (tw @gm (tw @jw (tw @x1 (tw @x2 (tw @x3 (tw @wX (tw @wA (tw @wF @bR.eq_1)))))))))))))))))))) ?_;(repeat(refine Pn.mk ?_;intro N hN))))
   refine NZ (fun e s=>e 0=.int .i64 cnt/\e 1=.sl (bs.map aH)/\e 5=.ptr X 0 0/\e 6=.int .i64 j/\s.get X=some ⟨true,4,[bR cnt bs A F]⟩/\s.get F=some ⟨true,1,eC (fun _=>0) bs.length⟩/\rU A F.bE (lP cnt bs (j+1)) s.get s.next/\F.bE<s.next) ?_ ?_
   ·rintro e2 s2 ⟨p0,p1,p5,p6,pX,pF,pL,pn⟩
    simp only[dv,bl]
    refine hN _ _ ?_
    clear hN N
    (try((repeat(revert hN;revert N;apply Pn.out));refine wk (tw @p0 (tw @p1 (tw @p5 @p6))) ?_;(repeat(refine Pn.mk ?_;intro N hN))))
    refine cw ?_ ?_ ?_ ?_ (⟨by obtain⟨r,i,q1,q2,q3,q4⟩:=pL;exact⟨r,i,sd @q1,q2,q3,fun x hx=>by have:=q4 x hx;(try dsimp only);omega⟩,by(try dsimp only);omega⟩)
    all_goals simp only[go_sem, ↓reduceIte,Nat.reduceEqDiff,Nat.reduceAdd,Nat.reduceSub,Nat.reduceLeDiff,reduceCtorEq,p0,p1,p5,p6,pX,pF]
   ·intro N hN
    rcases J7 with⟨VA,AA⟩|⟨id,AA,hLp,hid,MX,vV⟩
    ·simp only[List.cons.injEq,and_true]at AA
     subst AA
     subst VA
     refine fD ?_ ?_<;>(try((repeat(revert hN;revert N;apply Pn.out));refine wk (tw @m0 (tw @m1 (tw @m5 (tw @m6 (tw @mX (tw @mF (tw @hj (tw @jb (tw @aH.eq_1 (tw @mg (tw @jG (tw @gW (tw @gm (tw @jw (tw @x1 (tw @x2 (tw @x3 (tw @wX (tw @wA (tw @wF @bR.eq_1)))))))))))))))))))) ?_;(repeat(refine Pn.mk ?_;intro N hN))))<;>(try refine fD ?_ ?_)<;>(try((repeat(revert hN;revert N;apply Pn.out));refine wk (tw @m0 (tw @m1 (tw @m5 (tw @m6 (tw @mX (tw @mF (tw @hj (tw @jb (tw @aH.eq_1 (tw @mg (tw @jG (tw @gW (tw @gm (tw @jw (tw @x1 (tw @x2 (tw @x3 (tw @wX (tw @wA (tw @wF @bR.eq_1)))))))))))))))))))) ?_;(repeat(refine Pn.mk ?_;intro N hN))))<;>(try refine fD ?_ ?_)<;>(try((repeat(revert hN;revert N;apply Pn.out));refine wk (tw @m0 (tw @m1 (tw @m5 (tw @m6 (tw @mX (tw @mF (tw @hj (tw @jb (tw @aH.eq_1 (tw @mg (tw @jG (tw @gW (tw @gm (tw @jw (tw @x1 (tw @x2 (tw @x3 (tw @wX (tw @wA (tw @wF @bR.eq_1)))))))))))))))))))) ?_;(repeat(refine Pn.mk ?_;intro N hN))))<;>(try refine fD ?_ ?_)<;>(try((repeat(revert hN;revert N;apply Pn.out));refine wk (tw @m0 (tw @m1 (tw @m5 (tw @m6 (tw @mX (tw @mF (tw @hj (tw @jb (tw @aH.eq_1 (tw @mg (tw @jG (tw @gW (tw @gm (tw @jw (tw @x1 (tw @x2 (tw @x3 (tw @wX (tw @wA (tw @wF @bR.eq_1)))))))))))))))))))) ?_;(repeat(refine Pn.mk ?_;intro N hN))))<;>(try refine fD ?_ ?_)<;>(try((repeat(revert hN;revert N;apply Pn.out));refine wk (tw @m0 (tw @m1 (tw @m5 (tw @m6 (tw @mX (tw @mF (tw @hj (tw @jb (tw @aH.eq_1 (tw @mg (tw @jG (tw @gW (tw @gm (tw @jw (tw @x1 (tw @x2 (tw @x3 (tw @wX (tw @wA (tw @wF @bR.eq_1)))))))))))))))))))) ?_;(repeat(refine Pn.mk ?_;intro N hN))))<;>(try refine fD ?_ ?_)<;>(try((repeat(revert hN;revert N;apply Pn.out));refine wk (tw @m0 (tw @m1 (tw @m5 (tw @m6 (tw @mX (tw @mF (tw @hj (tw @jb (tw @aH.eq_1 (tw @mg (tw @jG (tw @gW (tw @gm (tw @jw (tw @x1 (tw @x2 (tw @x3 (tw @wX (tw @wA (tw @wF @bR.eq_1)))))))))))))))))))) ?_;(repeat(refine Pn.mk ?_;intro N hN))))
     all_goals
      refine⟨by simp only[go_sem, ↓reduceIte,Nat.reduceEqDiff,Nat.reduceAdd,Nat.reduceSub,Nat.reduceLeDiff,reduceCtorEq,m0,m1,m5,m6,mX,mF,hj,jb,aH,mg,jG,gW,gm,jw,x1,x2,x3,wX,wA,wF,bR],by simp only[go_sem, ↓reduceIte,Nat.reduceEqDiff,Nat.reduceAdd,Nat.reduceSub,Nat.reduceLeDiff,reduceCtorEq,m0,m1,m5,m6,mX,mF,hj,jb,aH,mg,jG,gW,gm,jw,x1,x2,x3,wX,wA,wF,bR],by simp only[go_sem, ↓reduceIte,Nat.reduceEqDiff,Nat.reduceAdd,Nat.reduceSub,Nat.reduceLeDiff,reduceCtorEq,m0,m1,m5,m6,mX,mF,hj,jb,aH,mg,jG,gW,gm,jw,x1,x2,x3,wX,wA,wF,bR],by simp only[go_sem, ↓reduceIte,Nat.reduceEqDiff,Nat.reduceAdd,Nat.reduceSub,Nat.reduceLeDiff,reduceCtorEq,m0,m1,m5,m6,mX,mF,hj,jb,aH,mg,jG,gW,gm,jw,x1,x2,x3,wX,wA,wF,bR],by simp only[go_sem, ↓reduceIte,Nat.reduceEqDiff,Nat.reduceAdd,Nat.reduceSub,Nat.reduceLeDiff,reduceCtorEq,m0,m1,m5,m6,mX,mF,hj,jb,aH,mg,jG,gW,gm,jw,x1,x2,x3,wX,wA,wF,bR],by simp only[go_sem, ↓reduceIte,Nat.reduceEqDiff,Nat.reduceAdd,Nat.reduceSub,Nat.reduceLeDiff,reduceCtorEq,m0,m1,m5,m6,mX,mF,hj,jb,aH,mg,jG,gW,gm,jw,x1,x2,x3,wX,wA,wF,bR],Kn _ (by simp only[go_sem, ↓reduceIte,Nat.reduceEqDiff,Nat.reduceAdd,Nat.reduceSub,Nat.reduceLeDiff,reduceCtorEq,m0,m1,m5,m6,mX,mF,hj,jb,aH,mg,jG,gW,gm,jw,x1,x2,x3,wX,wA,wF,bR,List.length_nil]) (by simp only[go_sem, ↓reduceIte,Nat.reduceEqDiff,Nat.reduceAdd,Nat.reduceSub,Nat.reduceLeDiff,reduceCtorEq,m0,m1,m5,m6,mX,mF,hj,jb,aH,mg,jG,gW,gm,jw,x1,x2,x3,wX,wA,wF,bR,List.map_nil,List.nil_append]) (fun i hi P0 fe=>?_),by(try dsimp only);omega⟩
      clear fe
      simp only[go_sem, ↓reduceIte,Nat.reduceEqDiff,Nat.reduceAdd,Nat.reduceSub,Nat.reduceLeDiff,reduceCtorEq,wX,wA,wF,dr hi,P0]
    ·simp only[List.cons.injEq,and_true]at AA
     subst AA
     have s5:=dr MX
     have y1:=cm (a:=A) (b:=id) (by omega)
     have y2:=cm (a:=F) (b:=id) vV
     have y3:=cm (a:=X) (b:=id) (by omega)
     have e3:Lb.length+1<=16777216:=by omega
     have z1:(Lb.map eN).length=Lb.length:=by simp
     refine fD ?_ ?_<;>(try((repeat(revert hN;revert N;apply Pn.out));refine wk (tw @m0 (tw @m1 (tw @m5 (tw @m6 (tw @mX (tw @mF (tw @hj (tw @jb (tw @aH.eq_1 (tw @mg (tw @jG (tw @gW (tw @gm (tw @jw (tw @x1 (tw @x2 (tw @x3 (tw @wX (tw @wA (tw @wF (tw @bR.eq_1 (tw @hid (tw @s5 (tw @y1 (tw @y2 (tw @y3 (tw @e3 @z1))))))))))))))))))))))))))) ?_;(repeat(refine Pn.mk ?_;intro N hN))))<;>(try refine fD ?_ ?_)<;>(try((repeat(revert hN;revert N;apply Pn.out));refine wk (tw @m0 (tw @m1 (tw @m5 (tw @m6 (tw @mX (tw @mF (tw @hj (tw @jb (tw @aH.eq_1 (tw @mg (tw @jG (tw @gW (tw @gm (tw @jw (tw @x1 (tw @x2 (tw @x3 (tw @wX (tw @wA (tw @wF (tw @bR.eq_1 (tw @hid (tw @s5 (tw @y1 (tw @y2 (tw @y3 (tw @e3 @z1))))))))))))))))))))))))))) ?_;(repeat(refine Pn.mk ?_;intro N hN))))<;>(try refine fD ?_ ?_)<;>(try((repeat(revert hN;revert N;apply Pn.out));refine wk (tw @m0 (tw @m1 (tw @m5 (tw @m6 (tw @mX (tw @mF (tw @hj (tw @jb (tw @aH.eq_1 (tw @mg (tw @jG (tw @gW (tw @gm (tw @jw (tw @x1 (tw @x2 (tw @x3 (tw @wX (tw @wA (tw @wF (tw @bR.eq_1 (tw @hid (tw @s5 (tw @y1 (tw @y2 (tw @y3 (tw @e3 @z1))))))))))))))))))))))))))) ?_;(repeat(refine Pn.mk ?_;intro N hN))))<;>(try refine fD ?_ ?_)<;>(try((repeat(revert hN;revert N;apply Pn.out));refine wk (tw @m0 (tw @m1 (tw @m5 (tw @m6 (tw @mX (tw @mF (tw @hj (tw @jb (tw @aH.eq_1 (tw @mg (tw @jG (tw @gW (tw @gm (tw @jw (tw @x1 (tw @x2 (tw @x3 (tw @wX (tw @wA (tw @wF (tw @bR.eq_1 (tw @hid (tw @s5 (tw @y1 (tw @y2 (tw @y3 (tw @e3 @z1))))))))))))))))))))))))))) ?_;(repeat(refine Pn.mk ?_;intro N hN))))<;>(try refine fD ?_ ?_)<;>(try((repeat(revert hN;revert N;apply Pn.out));refine wk (tw @m0 (tw @m1 (tw @m5 (tw @m6 (tw @mX (tw @mF (tw @hj (tw @jb (tw @aH.eq_1 (tw @mg (tw @jG (tw @gW (tw @gm (tw @jw (tw @x1 (tw @x2 (tw @x3 (tw @wX (tw @wA (tw @wF (tw @bR.eq_1 (tw @hid (tw @s5 (tw @y1 (tw @y2 (tw @y3 (tw @e3 @z1))))))))))))))))))))))))))) ?_;(repeat(refine Pn.mk ?_;intro N hN))))<;>(try refine fD ?_ ?_)<;>(try((repeat(revert hN;revert N;apply Pn.out));refine wk (tw @m0 (tw @m1 (tw @m5 (tw @m6 (tw @mX (tw @mF (tw @hj (tw @jb (tw @aH.eq_1 (tw @mg (tw @jG (tw @gW (tw @gm (tw @jw (tw @x1 (tw @x2 (tw @x3 (tw @wX (tw @wA (tw @wF (tw @bR.eq_1 (tw @hid (tw @s5 (tw @y1 (tw @y2 (tw @y3 (tw @e3 @z1))))))))))))))))))))))))))) ?_;(repeat(refine Pn.mk ?_;intro N hN))))
     all_goals
      refine⟨by simp only[go_sem, ↓reduceIte,Nat.reduceEqDiff,Nat.reduceAdd,Nat.reduceSub,Nat.reduceLeDiff,reduceCtorEq,m0,m1,m5,m6,mX,mF,hj,jb,aH,mg,jG,gW,gm,jw,x1,x2,x3,wX,wA,wF,bR,hid,s5,y1,y2,y3,e3,z1],by simp only[go_sem, ↓reduceIte,Nat.reduceEqDiff,Nat.reduceAdd,Nat.reduceSub,Nat.reduceLeDiff,reduceCtorEq,m0,m1,m5,m6,mX,mF,hj,jb,aH,mg,jG,gW,gm,jw,x1,x2,x3,wX,wA,wF,bR,hid,s5,y1,y2,y3,e3,z1],by simp only[go_sem, ↓reduceIte,Nat.reduceEqDiff,Nat.reduceAdd,Nat.reduceSub,Nat.reduceLeDiff,reduceCtorEq,m0,m1,m5,m6,mX,mF,hj,jb,aH,mg,jG,gW,gm,jw,x1,x2,x3,wX,wA,wF,bR,hid,s5,y1,y2,y3,e3,z1],by simp only[go_sem, ↓reduceIte,Nat.reduceEqDiff,Nat.reduceAdd,Nat.reduceSub,Nat.reduceLeDiff,reduceCtorEq,m0,m1,m5,m6,mX,mF,hj,jb,aH,mg,jG,gW,gm,jw,x1,x2,x3,wX,wA,wF,bR,hid,s5,y1,y2,y3,e3,z1],by simp only[go_sem, ↓reduceIte,Nat.reduceEqDiff,Nat.reduceAdd,Nat.reduceSub,Nat.reduceLeDiff,reduceCtorEq,m0,m1,m5,m6,mX,mF,hj,jb,aH,mg,jG,gW,gm,jw,x1,x2,x3,wX,wA,wF,bR,hid,s5,y1,y2,y3,e3,z1],by simp only[go_sem, ↓reduceIte,Nat.reduceEqDiff,Nat.reduceAdd,Nat.reduceSub,Nat.reduceLeDiff,reduceCtorEq,m0,m1,m5,m6,mX,mF,hj,jb,aH,mg,jG,gW,gm,jw,x1,x2,x3,wX,wA,wF,bR,hid,s5,y1,y2,y3,e3,z1],Kn _ (by simp only[go_sem, ↓reduceIte,Nat.reduceEqDiff,Nat.reduceAdd,Nat.reduceSub,Nat.reduceLeDiff,reduceCtorEq,m0,m1,m5,m6,mX,mF,hj,jb,aH,mg,jG,gW,gm,jw,x1,x2,x3,wX,wA,wF,bR,hid,s5,y1,y2,y3,e3,z1,List.length_nil]) (by simp only[go_sem, ↓reduceIte,Nat.reduceEqDiff,Nat.reduceAdd,Nat.reduceSub,Nat.reduceLeDiff,reduceCtorEq,m0,m1,m5,m6,mX,mF,hj,jb,aH,mg,jG,gW,gm,jw,x1,x2,x3,wX,wA,wF,bR,hid,s5,y1,y2,y3,e3,z1,List.map_nil,List.nil_append]) (fun i hi P0 fe=>?_),by(try dsimp only);omega⟩
      have gM:=fe id rfl
      simp only[go_sem, ↓reduceIte,Nat.reduceEqDiff,Nat.reduceAdd,Nat.reduceSub,Nat.reduceLeDiff,reduceCtorEq,wX,wA,wF,dr hi,P0,gM]
  ·intro N hN
   rcases J6 with⟨VA,AA⟩|⟨id,AA,hLp,hid,MX,vV⟩
   ·simp only[List.cons.injEq,and_true]at AA
    subst AA
    subst VA
    refine fD ?_ ?_<;>(try((repeat(revert hN;revert N;apply Pn.out));refine wk (tw @a6 (tw @a5 (tw @ag0 (tw @ag1 (tw @a0 (tw @a1 (tw @hj (tw @jb (tw @aH.eq_1 (tw @ag (tw @jF (tw @gW (tw @gm (tw @jv (tw @x1 (tw @x2 (tw @x3 (tw @vX (tw @vA (tw @vF @bR.eq_1)))))))))))))))))))) ?_;(repeat(refine Pn.mk ?_;intro N hN))))<;>(try refine fD ?_ ?_)<;>(try((repeat(revert hN;revert N;apply Pn.out));refine wk (tw @a6 (tw @a5 (tw @ag0 (tw @ag1 (tw @a0 (tw @a1 (tw @hj (tw @jb (tw @aH.eq_1 (tw @ag (tw @jF (tw @gW (tw @gm (tw @jv (tw @x1 (tw @x2 (tw @x3 (tw @vX (tw @vA (tw @vF @bR.eq_1)))))))))))))))))))) ?_;(repeat(refine Pn.mk ?_;intro N hN))))<;>(try refine fD ?_ ?_)<;>(try((repeat(revert hN;revert N;apply Pn.out));refine wk (tw @a6 (tw @a5 (tw @ag0 (tw @ag1 (tw @a0 (tw @a1 (tw @hj (tw @jb (tw @aH.eq_1 (tw @ag (tw @jF (tw @gW (tw @gm (tw @jv (tw @x1 (tw @x2 (tw @x3 (tw @vX (tw @vA (tw @vF @bR.eq_1)))))))))))))))))))) ?_;(repeat(refine Pn.mk ?_;intro N hN))))<;>(try refine fD ?_ ?_)<;>(try((repeat(revert hN;revert N;apply Pn.out));refine wk (tw @a6 (tw @a5 (tw @ag0 (tw @ag1 (tw @a0 (tw @a1 (tw @hj (tw @jb (tw @aH.eq_1 (tw @ag (tw @jF (tw @gW (tw @gm (tw @jv (tw @x1 (tw @x2 (tw @x3 (tw @vX (tw @vA (tw @vF @bR.eq_1)))))))))))))))))))) ?_;(repeat(refine Pn.mk ?_;intro N hN))))<;>(try refine fD ?_ ?_)<;>(try((repeat(revert hN;revert N;apply Pn.out));refine wk (tw @a6 (tw @a5 (tw @ag0 (tw @ag1 (tw @a0 (tw @a1 (tw @hj (tw @jb (tw @aH.eq_1 (tw @ag (tw @jF (tw @gW (tw @gm (tw @jv (tw @x1 (tw @x2 (tw @x3 (tw @vX (tw @vA (tw @vF @bR.eq_1)))))))))))))))))))) ?_;(repeat(refine Pn.mk ?_;intro N hN))))<;>(try refine fD ?_ ?_)<;>(try((repeat(revert hN;revert N;apply Pn.out));refine wk (tw @a6 (tw @a5 (tw @ag0 (tw @ag1 (tw @a0 (tw @a1 (tw @hj (tw @jb (tw @aH.eq_1 (tw @ag (tw @jF (tw @gW (tw @gm (tw @jv (tw @x1 (tw @x2 (tw @x3 (tw @vX (tw @vA (tw @vF @bR.eq_1)))))))))))))))))))) ?_;(repeat(refine Pn.mk ?_;intro N hN))))
    all_goals
     refine⟨by simp only[go_sem, ↓reduceIte,Nat.reduceEqDiff,Nat.reduceAdd,Nat.reduceSub,Nat.reduceLeDiff,reduceCtorEq,a6,a5,ag0,ag1,a0,a1,hj,jb,aH,ag,jF,gW,gm,jv,x1,x2,x3,vX,vA,vF,bR],by simp only[go_sem, ↓reduceIte,Nat.reduceEqDiff,Nat.reduceAdd,Nat.reduceSub,Nat.reduceLeDiff,reduceCtorEq,a6,a5,ag0,ag1,a0,a1,hj,jb,aH,ag,jF,gW,gm,jv,x1,x2,x3,vX,vA,vF,bR],by simp only[go_sem, ↓reduceIte,Nat.reduceEqDiff,Nat.reduceAdd,Nat.reduceSub,Nat.reduceLeDiff,reduceCtorEq,a6,a5,ag0,ag1,a0,a1,hj,jb,aH,ag,jF,gW,gm,jv,x1,x2,x3,vX,vA,vF,bR],by simp only[go_sem, ↓reduceIte,Nat.reduceEqDiff,Nat.reduceAdd,Nat.reduceSub,Nat.reduceLeDiff,reduceCtorEq,a6,a5,ag0,ag1,a0,a1,hj,jb,aH,ag,jF,gW,gm,jv,x1,x2,x3,vX,vA,vF,bR],by simp only[go_sem, ↓reduceIte,Nat.reduceEqDiff,Nat.reduceAdd,Nat.reduceSub,Nat.reduceLeDiff,reduceCtorEq,a6,a5,ag0,ag1,a0,a1,hj,jb,aH,ag,jF,gW,gm,jv,x1,x2,x3,vX,vA,vF,bR],by simp only[go_sem, ↓reduceIte,Nat.reduceEqDiff,Nat.reduceAdd,Nat.reduceSub,Nat.reduceLeDiff,reduceCtorEq,a6,a5,ag0,ag1,a0,a1,hj,jb,aH,ag,jF,gW,gm,jv,x1,x2,x3,vX,vA,vF,bR],Km _ (by simp only[go_sem, ↓reduceIte,Nat.reduceEqDiff,Nat.reduceAdd,Nat.reduceSub,Nat.reduceLeDiff,reduceCtorEq,a6,a5,ag0,ag1,a0,a1,hj,jb,aH,ag,jF,gW,gm,jv,x1,x2,x3,vX,vA,vF,bR,List.length_nil]) (by simp only[go_sem, ↓reduceIte,Nat.reduceEqDiff,Nat.reduceAdd,Nat.reduceSub,Nat.reduceLeDiff,reduceCtorEq,a6,a5,ag0,ag1,a0,a1,hj,jb,aH,ag,jF,gW,gm,jv,x1,x2,x3,vX,vA,vF,bR,List.map_nil,List.nil_append]) (fun i hi P0 fe=>?_),by(try dsimp only);omega⟩
     clear fe
     simp only[go_sem, ↓reduceIte,Nat.reduceEqDiff,Nat.reduceAdd,Nat.reduceSub,Nat.reduceLeDiff,reduceCtorEq,vX,vA,vF,dr hi,P0]
   ·simp only[List.cons.injEq,and_true]at AA
    subst AA
    have s5:=dr MX
    have y1:=cm (a:=A) (b:=id) (by omega)
    have y2:=cm (a:=F) (b:=id) vV
    have y3:=cm (a:=X) (b:=id) (by omega)
    have e3:La.length+1<=16777216:=by omega
    have z1:(La.map eN).length=La.length:=by simp
    refine fD ?_ ?_<;>(try((repeat(revert hN;revert N;apply Pn.out));refine wk (tw @a6 (tw @a5 (tw @ag0 (tw @ag1 (tw @a0 (tw @a1 (tw @hj (tw @jb (tw @aH.eq_1 (tw @ag (tw @jF (tw @gW (tw @gm (tw @jv (tw @x1 (tw @x2 (tw @x3 (tw @vX (tw @vA (tw @vF (tw @bR.eq_1 (tw @hid (tw @s5 (tw @y1 (tw @y2 (tw @y3 (tw @e3 @z1))))))))))))))))))))))))))) ?_;(repeat(refine Pn.mk ?_;intro N hN))))<;>(try refine fD ?_ ?_)<;>(try((repeat(revert hN;revert N;apply Pn.out));refine wk (tw @a6 (tw @a5 (tw @ag0 (tw @ag1 (tw @a0 (tw @a1 (tw @hj (tw @jb (tw @aH.eq_1 (tw @ag (tw @jF (tw @gW (tw @gm (tw @jv (tw @x1 (tw @x2 (tw @x3 (tw @vX (tw @vA (tw @vF (tw @bR.eq_1 (tw @hid (tw @s5 (tw @y1 (tw @y2 (tw @y3 (tw @e3 @z1))))))))))))))))))))))))))) ?_;(repeat(refine Pn.mk ?_;intro N hN))))<;>(try refine fD ?_ ?_)<;>(try((repeat(revert hN;revert N;apply Pn.out));refine wk (tw @a6 (tw @a5 (tw @ag0 (tw @ag1 (tw @a0 (tw @a1 (tw @hj (tw @jb (tw @aH.eq_1 (tw @ag (tw @jF (tw @gW (tw @gm (tw @jv (tw @x1 (tw @x2 (tw @x3 (tw @vX (tw @vA (tw @vF (tw @bR.eq_1 (tw @hid (tw @s5 (tw @y1 (tw @y2 (tw @y3 (tw @e3 @z1))))))))))))))))))))))))))) ?_;(repeat(refine Pn.mk ?_;intro N hN))))<;>(try refine fD ?_ ?_)<;>(try((repeat(revert hN;revert N;apply Pn.out));refine wk (tw @a6 (tw @a5 (tw @ag0 (tw @ag1 (tw @a0 (tw @a1 (tw @hj (tw @jb (tw @aH.eq_1 (tw @ag (tw @jF (tw @gW (tw @gm (tw @jv (tw @x1 (tw @x2 (tw @x3 (tw @vX (tw @vA (tw @vF (tw @bR.eq_1 (tw @hid (tw @s5 (tw @y1 (tw @y2 (tw @y3 (tw @e3 @z1))))))))))))))))))))))))))) ?_;(repeat(refine Pn.mk ?_;intro N hN))))<;>(try refine fD ?_ ?_)<;>(try((repeat(revert hN;revert N;apply Pn.out));refine wk (tw @a6 (tw @a5 (tw @ag0 (tw @ag1 (tw @a0 (tw @a1 (tw @hj (tw @jb (tw @aH.eq_1 (tw @ag (tw @jF (tw @gW (tw @gm (tw @jv (tw @x1 (tw @x2 (tw @x3 (tw @vX (tw @vA (tw @vF (tw @bR.eq_1 (tw @hid (tw @s5 (tw @y1 (tw @y2 (tw @y3 (tw @e3 @z1))))))))))))))))))))))))))) ?_;(repeat(refine Pn.mk ?_;intro N hN))))<;>(try refine fD ?_ ?_)<;>(try((repeat(revert hN;revert N;apply Pn.out));refine wk (tw @a6 (tw @a5 (tw @ag0 (tw @ag1 (tw @a0 (tw @a1 (tw @hj (tw @jb (tw @aH.eq_1 (tw @ag (tw @jF (tw @gW (tw @gm (tw @jv (tw @x1 (tw @x2 (tw @x3 (tw @vX (tw @vA (tw @vF (tw @bR.eq_1 (tw @hid (tw @s5 (tw @y1 (tw @y2 (tw @y3 (tw @e3 @z1))))))))))))))))))))))))))) ?_;(repeat(refine Pn.mk ?_;intro N hN))))
    all_goals
     refine⟨by simp only[go_sem, ↓reduceIte,Nat.reduceEqDiff,Nat.reduceAdd,Nat.reduceSub,Nat.reduceLeDiff,reduceCtorEq,a6,a5,ag0,ag1,a0,a1,hj,jb,aH,ag,jF,gW,gm,jv,x1,x2,x3,vX,vA,vF,bR,hid,s5,y1,y2,y3,e3,z1],by simp only[go_sem, ↓reduceIte,Nat.reduceEqDiff,Nat.reduceAdd,Nat.reduceSub,Nat.reduceLeDiff,reduceCtorEq,a6,a5,ag0,ag1,a0,a1,hj,jb,aH,ag,jF,gW,gm,jv,x1,x2,x3,vX,vA,vF,bR,hid,s5,y1,y2,y3,e3,z1],by simp only[go_sem, ↓reduceIte,Nat.reduceEqDiff,Nat.reduceAdd,Nat.reduceSub,Nat.reduceLeDiff,reduceCtorEq,a6,a5,ag0,ag1,a0,a1,hj,jb,aH,ag,jF,gW,gm,jv,x1,x2,x3,vX,vA,vF,bR,hid,s5,y1,y2,y3,e3,z1],by simp only[go_sem, ↓reduceIte,Nat.reduceEqDiff,Nat.reduceAdd,Nat.reduceSub,Nat.reduceLeDiff,reduceCtorEq,a6,a5,ag0,ag1,a0,a1,hj,jb,aH,ag,jF,gW,gm,jv,x1,x2,x3,vX,vA,vF,bR,hid,s5,y1,y2,y3,e3,z1],by simp only[go_sem, ↓reduceIte,Nat.reduceEqDiff,Nat.reduceAdd,Nat.reduceSub,Nat.reduceLeDiff,reduceCtorEq,a6,a5,ag0,ag1,a0,a1,hj,jb,aH,ag,jF,gW,gm,jv,x1,x2,x3,vX,vA,vF,bR,hid,s5,y1,y2,y3,e3,z1],by simp only[go_sem, ↓reduceIte,Nat.reduceEqDiff,Nat.reduceAdd,Nat.reduceSub,Nat.reduceLeDiff,reduceCtorEq,a6,a5,ag0,ag1,a0,a1,hj,jb,aH,ag,jF,gW,gm,jv,x1,x2,x3,vX,vA,vF,bR,hid,s5,y1,y2,y3,e3,z1],Km _ (by simp only[go_sem, ↓reduceIte,Nat.reduceEqDiff,Nat.reduceAdd,Nat.reduceSub,Nat.reduceLeDiff,reduceCtorEq,a6,a5,ag0,ag1,a0,a1,hj,jb,aH,ag,jF,gW,gm,jv,x1,x2,x3,vX,vA,vF,bR,hid,s5,y1,y2,y3,e3,z1,List.length_nil]) (by simp only[go_sem, ↓reduceIte,Nat.reduceEqDiff,Nat.reduceAdd,Nat.reduceSub,Nat.reduceLeDiff,reduceCtorEq,a6,a5,ag0,ag1,a0,a1,hj,jb,aH,ag,jF,gW,gm,jv,x1,x2,x3,vX,vA,vF,bR,hid,s5,y1,y2,y3,e3,z1,List.map_nil,List.nil_append]) (fun i hi P0 fe=>?_),by(try dsimp only);omega⟩
     have gM:=fe id rfl
     simp only[go_sem, ↓reduceIte,Nat.reduceEqDiff,Nat.reduceAdd,Nat.reduceSub,Nat.reduceLeDiff,reduceCtorEq,vX,vA,vF,dr hi,P0,gM]
 ·have iA:j=bs.length:=by omega
  subst iA
  (try((repeat(revert hN;revert N;apply Pn.out));refine wk (tw @a6 (tw @a5 (tw @ag0 (tw @ag1 (tw @a0 (tw @a1 @hj)))))) ?_;(repeat(refine Pn.mk ?_;intro N hN))))
  exact eV (.inl rfl) (by simp only[fG,iG,go_sem, ↓reduceIte,Nat.reduceEqDiff,Nat.reduceAdd,Nat.reduceSub,Nat.reduceLeDiff,reduceCtorEq];rfl) ⟨X,A,F,rfl,hXs,⟨ag0,⟨rows,ids,ag,hR,mE,fun x hx=>by have:=oJ x hx;(try dsimp only);omega⟩,ag1,hXA,hAF,by(try dsimp only);omega⟩⟩
end Go.Proofs.YtgoelphibofcmaaGreat.V

namespace Go.Proofs.YtgoelphibofcmaaGreat.V
open Go.RowKit
attribute [local irreducible] dQ wpOps fX Call
attribute [local go_sem] aQ fM eU fY fW dm upd cG K.av cQ AV.cells AV.cell rowOf rowsOf part ld rowAt bQ cC dE ea gZ bS dh eo fV fj dB ef dd dc dS dU b4 bj cV bW cY cW ec eh ee cU ck de eb bV aU da cK gY bx cP cj bd dv bl dG AV.undef bH bK dW dZ dO dL cN ek eu cJ ej ei cZ db List.getD_cons_zero List.getD_cons_succ List.getD_nil List.all_cons List.all_nil Bool.and_true Bool.true_and Bool.and_self Bool.not_true Bool.not_false Option.map_some Option.map_none Option.bind_some Option.bind_none List.length_cons List.length_nil List.take_succ_cons List.take_zero List.take_nil List.drop_succ_cons List.drop_zero List.drop_nil List.head?_cons List.map_cons List.map_nil List.getElem?_cons_zero List.getElem?_cons_succ List.cons_append List.nil_append List.append_nil List.length_map List.set_cons_zero List.set_cons_succ Nat.reduceMul eq_self Int.toNat_natCast Int.natCast_nonneg and_self true_and and_true decide_true decide_false Bool.false_eq_true Nat.zero_add Nat.add_zero List.contains_cons List.contains_nil Bool.or_false Bool.false_or beq_self_eq_true Nat.reduceBEq ne_eq not_true_eq_false not_false_eq_true Id.mk.injEq false_and and_false Nat.reduceLT Int.reduceLE Int.reduceLT Int.reduceToNat Int.reduceNeg Int.reduceAdd Nat.le_refl List.length_append beq_true beq_false Bool.not_eq_eq_eq_not or_false false_or dX ae aj aJ bq bG cr aY bf aW bp cR bB
theorem rU.frame {A:Id} {lo nx v7:Nat} {L:List (List Nat)} {g g':Rows} (h:rU A lo L g nx) (hA:A.bE<nx) (hf:∀i:Id,i.bE<nx->lo<i.bE∨i=A->g' i=g i) (hn:nx<=v7):rU A lo L g' v7:=by
 obtain⟨rows,ids,h1,h2,h3,h4⟩:=h
 refine⟨rows,ids,(hf A hA (.inr rfl)).trans h1,h2.frame OJ fun i hi=>hf i (h4 i hi).2 (.inl (h4 i hi).1),h3,fun i hi=>?_⟩
 have:=h4 i hi;omega
theorem oO.frame {cnt:Nat} {bs:List PB} {f:Nat->Int} {X A F:Id} {g g':Rows} {nx v7:Nat} (h:oO cnt bs f X A F g nx) (hf:∀i:Id,i.bE<nx->g' i=g i) (hn:nx<=v7):oO cnt bs f X A F g' v7:=by
 have h1:=h.xa;have h2:=h.af;have h3:=h.fn
 exact⟨(hf X (by omega)).trans h.x,h.a.frame (by omega) (fun i hi _=>hf i hi) hn,(hf F h3).trans h.f,h1,h2,by omega⟩
theorem oO.Sd {cnt:Nat} {bs:List PB} {f f':Nat->Int} {X A F:Id} {g g':Rows} {nx v7:Nat} (h:oO cnt bs f X A F g nx) (hF:g' F=some ⟨true,1,eC f' bs.length⟩) (hf:∀i:Id,i.bE<nx->(i=F)=False->g' i=g i) (hn:nx<=v7):oO cnt bs f' X A F g' v7:=by
 have h1:=h.xa;have h2:=h.af;have h3:=h.fn
 refine⟨(hf X (by omega) (cm (by omega)).1).trans h.x,h.a.frame (by omega) (fun i hi kI=>hf i hi ?_) hn,hF,h1,h2,by omega⟩
 rcases kI with kI|rfl
 ·exact(cm kI).2
 ·exact(cm h2).1
theorem QE (cnt:Nat) (bs:List PB) (f:Nat->Int) (hs:Small bs f) (e v:Nat) (he:e<bs.length) (X A F:Id) (σ:au) (nx:Nat) (hS:oO cnt bs f X A F σ.get nx) (hn:nx<=σ.next):
  Call Tryz.prog 261 [.ptr X 0 0,.int .i64 v,.int .i64 e] σ fun r σ'=>oO cnt bs (uH bs f e v) X A F σ'.get nx/\σ.next<=σ'.next/\∀i:Id,(i=F)=False->σ'.get i=σ.get i:=by
 refine eJ eF rfl fun hl=>?_
 clear hl
 have hX:=hS.x
 have hF:=hS.f
 have hb:=vw he
 have VY:=ep (f:=f) he
 have tl:=dR f bs.length
 obtain⟨⟨s0,s1⟩,s2,s3⟩:=hs e he
 have hei:(e:Int)<(bs.length:Int):=by omega
 have w1:IntKind.i64.wrap (f e+1)=f e+1:=bI (by omega)
 have w2:IntKind.i64.wrap (f e-1)=f e+-1:=by rw[bI (by omega)];omega
 rw[az]at VY
 unfold uH
 by_cases h:(cL bs e).a=v
 ·have eL:(eC f bs.length).set e (az (f e+1))=eC (fun j=>f j+if j=e then(if (cL bs e).a=v then 1 else -1)else 0) bs.length:=lH he (by rw[if_pos rfl,if_pos h]) fun i _ hi=>by rw[if_neg hi,Int.add_zero]
  rw[az]at eL
  generalize Up:cL bs e=b at *
  have hd:decide ((b.a:Int)=(v:Int))=true:=decide_eq_true (by rw[h])
  (try((repeat(revert hN;revert N;apply Pn.out));refine wk (tw @hX (tw @hF (tw @hb (tw @VY (tw @tl (tw @hei (tw @w1 (tw @eL (tw @hd (tw @aH.eq_1 @bR.eq_1)))))))))) ?_;(repeat(refine Pn.mk ?_;intro N hN))))
  exact eV (.inr rfl) (vs:=[]) rfl ⟨hS.Sd (sd @Nat.zero_add) (fun i hi gM=>sd @gM) (Nat.le_refl _),by(try dsimp only);omega,fun i gM=>sd @gM⟩
 ·have eL:(eC f bs.length).set e (az (f e+-1))=eC (fun j=>f j+if j=e then(if (cL bs e).a=v then 1 else -1)else 0) bs.length:=lH he (by rw[if_pos rfl,if_neg h]) fun i _ hi=>by rw[if_neg hi,Int.add_zero]
  rw[az]at eL
  generalize Up:cL bs e=b at *
  have hd:decide ((b.a:Int)=(v:Int))=false:=decide_eq_false fun hc=>h (by omega)
  (try((repeat(revert hN;revert N;apply Pn.out));refine wk (tw @hX (tw @hF (tw @hb (tw @VY (tw @tl (tw @hei (tw @w2 (tw @eL (tw @hd (tw @aH.eq_1 @bR.eq_1)))))))))) ?_;(repeat(refine Pn.mk ?_;intro N hN))))
  exact eV (.inr rfl) (vs:=[]) rfl ⟨hS.Sd (sd @Nat.zero_add) (fun i hi gM=>sd @gM) (Nat.le_refl _),by(try dsimp only);omega,fun i gM=>sd @gM⟩
structure oP (bs:List PB) (out:Nat->Int) (f f':Nat->Int) (x v:Nat):Prop where
 le:∀i,i<bs.length->f' i<=(cL bs i).s/\-(cL bs i).s<=f' i
 cut:∀S:Nat->Bool,Hk S bs f'=Hk S bs f+bi (S x)-bi (S v)
 zI:∀e,e<bs.length->out (cL bs e).a<=out v->out (cL bs e).b<=out v->f' e=f e
section
variable {cnt:Nat} {bs:List PB} {out:Nat->Int} {f f':Nat->Int} {x v y:Nat}
theorem oP.start (h:∀i,i<bs.length->f i<=(cL bs i).s/\-(cL bs i).s<=f i):oP bs out f f x x:=⟨h,fun S=>by omega,fun _ _ _ _=>rfl⟩
theorem oP.step (h:oP bs out f f' x v) {e:Nat} (he:e<bs.length) (hi:F3 bs e v) (hr:0<fU bs f' e v) (hd:out (cE bs e v)=out v-1):oP bs out f (uH bs f' e v) x (cE bs e v):=by
 refine⟨fun i kF=>?_,fun S=>?_,fun i kF ha hb=>?_⟩
 ·have h1:=h.le i kF
  unfold uH
  by_cases IX:i=e
  ·subst IX
   rw[if_pos rfl]
   unfold fU at hr
   split at hr<;>rename_i hc
   ·rw[if_pos hc];omega
   ·rw[if_neg hc];omega
  ·rw[if_neg IX];omega
 ·rw[Hl he hi,h.cut S];omega
 ·have IX:i≠e:=by
   rintro rfl
   rcases hi with hi|hi
   ·rw[hi]at ha;omega
   ·rw[hi]at hb;omega
  unfold uH
  rw[if_neg IX,Int.add_zero]
  exact h.zI i kF (by omega) (by omega)
theorem oP.goes (h:oP bs out f f' x v) (hs:Ab cnt bs f y out) (hv:v<cnt) (h0:0<out v):∃e∈jm bs bs.length v,0<fU bs f' e v/\out (cE bs e v)=out v-1:=by
 obtain⟨e,h1,h2,h3,h4⟩:=hs.down v hv h0
 refine⟨e,sn.2 ⟨h1,h2⟩,?_,h4⟩
 have hf:f' e=f e:=by
  refine h.zI e h1 ?_ ?_
  ·unfold cE at h4
   split at h4
   ·rename_i ha;rw[ha];exact Int.le_refl _
   ·omega
  ·unfold cE at h4
   rcases h2 with h2|h2
   ·rw[if_pos h2]at h4;omega
   ·rw[h2];exact Int.le_refl _
 unfold fU at h3 ⊢
 rw[hf];exact h3
theorem oP.done {val:Int} (h:oP bs out f f' x y) (hf:ki bs f x y val):ki bs f' x y (val+1):=
 ⟨h.le,fun S hx hy=>by rw[h.cut S,hf.cut S hx hy,hx,hy];simp[bi]⟩
theorem FM {val:Int} (hs:Ab cnt bs f y out) (ok:nW cnt bs) (hf:ki bs f x y val) (hx:out x<0):∃S:Nat->Bool,S x=true/\S y=false/\val=jt S bs:=by
 refine⟨fun v=>decide (out v<0),decide_eq_true hx,decide_eq_false (by rw[hs.first];omega),hf.full (decide_eq_true hx) (decide_eq_false (by rw[hs.first];omega)) fun i hi rh=>⟨fun h1 h2 hr=>?_,fun h1 h2 hr=>?_⟩⟩
 ·have Px:=of_decide_eq_true h1
  have DQ:=of_decide_eq_false h2
  have:=hs.shut i (cL bs i).a hi (.inl rfl) (by unfold cE;rw[if_pos rfl];omega) hr
  omega
 ·have Px:=of_decide_eq_true h1
  have DQ:=of_decide_eq_false h2
  have:=hs.shut i (cL bs i).b hi (.inr rfl) (by unfold cE;rw[if_neg rh];omega) hr
  omega
end
end Go.Proofs.YtgoelphibofcmaaGreat.V

namespace Go.Proofs.YtgoelphibofcmaaGreat.V
open Go.RowKit
attribute [local irreducible] dQ wpOps fX Call
attribute [local go_sem] aQ fM eU fY fW dm upd cG K.av cQ AV.cells AV.cell rowOf rowsOf part ld rowAt bQ cC dE ea gZ bS dh eo fV fj dB ef dd dc dS dU b4 bj cV bW cY cW ec eh ee cU ck de eb bV aU da cK gY bx cP cj bd dv bl dG AV.undef bH bK dW dZ dO dL cN ek eu cJ ej ei cZ db List.getD_cons_zero List.getD_cons_succ List.getD_nil List.all_cons List.all_nil Bool.and_true Bool.true_and Bool.and_self Bool.not_true Bool.not_false Option.map_some Option.map_none Option.bind_some Option.bind_none List.length_cons List.length_nil List.take_succ_cons List.take_zero List.take_nil List.drop_succ_cons List.drop_zero List.drop_nil List.head?_cons List.map_cons List.map_nil List.getElem?_cons_zero List.getElem?_cons_succ List.cons_append List.nil_append List.append_nil List.length_map List.set_cons_zero List.set_cons_succ Nat.reduceMul eq_self Int.toNat_natCast Int.natCast_nonneg and_self true_and and_true decide_true decide_false Bool.false_eq_true Nat.zero_add Nat.add_zero List.contains_cons List.contains_nil Bool.or_false Bool.false_or beq_self_eq_true Nat.reduceBEq ne_eq not_true_eq_false not_false_eq_true Id.mk.injEq false_and and_false Nat.reduceLT Int.reduceLE Int.reduceLT Int.reduceToNat Int.reduceNeg Int.reduceAdd Nat.le_refl List.length_append beq_true beq_false Bool.not_eq_eq_eq_not or_false false_or dX ae aj aJ bq bG cr aY bf aW bp cR bB
theorem xW {bs:List PB} {f:Nat->Int} (dJ:∀e,e<bs.length->0<=(cL bs e).s/\(cL bs e).s<=4) (h:∀i,i<bs.length->f i<=(cL bs i).s/\-(cL bs i).s<=f i):Small bs f:=fun e he=>by
 have:=dJ e he;have:=h e he;omega
theorem rU.at_ {A:Id} {lo nx v:Nat} {L:List (List Nat)} {l:List Nat} {g:Rows} (h:rU A lo L g nx) (hv:L[v]? =some l) (hl:0<l.length):∃(rows:List (List AV)) (id:Id),g A=some ⟨true,1,rows⟩/\rows.length=L.length/\rows[v]? =some [.own id 0 l.length]/\g id=some ⟨true,1,l.map eN⟩/\lo<id.bE/\id.bE<nx:=by
 obtain⟨rows,ids,h1,h2,h3,h4⟩:=h
 have hk:v<L.length:=(List.getElem?_eq_some_iff.1 hv).1
 obtain⟨cs,ic,dC,hR,SO⟩:=h2.at_ v hk
 rw[lj hv hk]at hR
 rcases hR with⟨h5,_⟩|⟨id,rfl,_,h6,rfl⟩
 ·subst h5;simp at hl
 ·have:=h4 id (SO id (by simp))
  exact⟨rows,id,h1,h2.len,dC,h6,this.1,this.2⟩
theorem Pw (cnt:Nat) (hn:cnt<=1048576) (bs:List PB) (ok:nW cnt bs) (qE:bs.length<=1048576) (dJ:∀e,e<bs.length->0<=(cL bs e).s/\(cL bs e).s<=4) (f:Nat->Int) (x y:Nat) (hx:x<cnt) (hy:y<cnt) (Th:x≠y) (val:Int) (hf:ki bs f x y val)
  (X A F:Id) (σ:au) (nb:Nat) (hS:oO cnt bs f X A F σ.get nb) (tK:nb<=σ.next):
  Call Tryz.prog 238 [.ptr X 0 0,.int .i64 x,.int .i64 y] σ fun r σ'=>∃b f',r=.bool b/\oO cnt bs f' X A F σ'.get nb/\σ.next<=σ'.next/\(∀i:Id,i.bE<nb->(i=F)=False->σ'.get i=σ.get i)/\
   (b=false->f'=f/\∃S:Nat->Bool,S x=true/\S y=false/\val=jt S bs)/\(b=true->ki bs f' x y (val+1)):=by
 refine eJ eF rfl fun hl=>?_
 clear hl
 have DY:(x:Int)<(cnt:Int):=by omega
 have hz:∀(g:Rows),(∀i:Id,i.bE<nb->g i=σ.get i)->dt (dX g) 6 [.ptr X 0 0,.int .i64 (y:Int)]=some [.du (gj cnt bs f),.int .i64 y]:=fun g hg=>by
  have:=(hS.frame hg (Nat.le_refl _)).fz
  simp only[ae,aj,this,aJ,Option.map_some]
 (try((repeat(revert hN;revert N;apply Pn.out));refine wk @Nat.zero_add ?_;(repeat(refine Pn.mk ?_;intro N hN))))
 refine .inr (aE _ _ _ _ _ (fun r σ1 hq=>?_) ((GV cnt hn bs ok qE f (xW dJ hf.le) y hy).x mixed (hz _ (fun i hi=>rfl))))
 obtain⟨⟨out,rfl,Qj⟩,rfl⟩:=hq
 refine hN _ _ ?_
 clear hN N
 have hox:=ep (f:=out) hx
 have tl:=dR out cnt
 by_cases kp:out x<0
 ·(try((repeat(revert hN;revert N;apply Pn.out));refine wk (tw @hox (tw @kp (tw @DY (tw @tl @az.eq_1)))) ?_;(repeat(refine Pn.mk ?_;intro N hN))))
  exact eV (.inl rfl) (vs:=[.bool false]) (sd @Nat.zero_add) ⟨false,f,rfl,hS.frame (fun i hi=>rfl) (Nat.le_refl _),by(try dsimp only);omega,fun i _ _=>rfl,fun _=>⟨rfl,FM Qj ok hf kp⟩,fun h=>by cases h⟩
 (try((repeat(revert hN;revert N;apply Pn.out));refine wk (tw @hox (tw @kp (tw @DY (tw @tl @az.eq_1)))) ?_;(repeat(refine Pn.mk ?_;intro N hN))))
 refine aZ (fun m env st=>∃(v:Nat) (f':Nat->Int),m=(out v).toNat/\v<cnt/\0<=out v/\env 8=.int .i64 (v:Int)/\oP bs out f f' x v/\oO cnt bs f' X A F st.get nb/\(∀i:Id,i.bE<nb->(i=F)=False->st.get i=σ.get i)/\σ.next<=st.next) (out x).toNat ⟨x,f,rfl,hx,by omega,by(simp only[go_sem, ↓reduceIte,Nat.reduceEqDiff,Nat.reduceAdd,Nat.reduceSub,Nat.reduceLeDiff,reduceCtorEq]),oP.start hf.le,hS.frame (fun i hi=>rfl) (Nat.le_refl _),fun i _ _=>rfl,by(try dsimp only);omega⟩ ?_
 rintro m env_b st_b ⟨v,f',rfl,hv,tf,b8,hW,hN1,jH,hle⟩ fK
 have b0:=fK 0 (by kernel_rfl)
 have b2:=fK 2 (by kernel_rfl)
 have b7:=fK 7 (by kernel_rfl)
 simp only[go_sem, ↓reduceIte,Nat.reduceEqDiff,Nat.reduceAdd,Nat.reduceSub,Nat.reduceLeDiff,reduceCtorEq]at b0 b2 b7
 clear fK
 by_cases UN:v=y
 ·have hd:decide ((v:Int)=(y:Int))=true:=decide_eq_true (by rw[UN])
  subst UN
  (try((repeat(revert hN;revert N;apply Pn.out));refine wk (tw @b0 (tw @b2 (tw @b7 (tw @b8 @hd)))) ?_;(repeat(refine Pn.mk ?_;intro N hN))))
  exact eV (.inl rfl) (vs:=[.bool true]) (sd @Nat.zero_add) ⟨true,f',rfl,hN1,by(try dsimp only);omega,jH,fun h=>(by cases h),fun _=>hW.done hf⟩
 have hd:decide ((v:Int)=(y:Int))=false:=decide_eq_false fun h=>UN (by omega)
 have BJ:0<out v:=by
  have:=Qj.zero v hv
  rcases Int.lt_or_eq_of_le tf with h|h
  ·exact h
  ·exact absurd (this h.symm) UN
 have Ol:=hW.goes Qj hv BJ
 have hIm:∀ed∈jm bs bs.length v,ed<bs.length/\F3 bs ed v:=fun ed h=>sn.1 h
 have hIL:(lP cnt bs bs.length)[v]? =some (jm bs bs.length v):=by simp[lP,hv]
 have hIl:=sk bs bs.length v
 generalize jm bs bs.length v=I at *
 have hIp:0<I.length:=by
  obtain⟨ed,h,_⟩:=Ol
  exact List.length_pos_of_mem h
 obtain⟨rows,id,hgA,rn,lZ,hid,hid1,hid2⟩:=hN1.a.at_ hIL hIp
 rw[jI]at rn
 have hgX:=hN1.x
 have E5:(v:Int)<(cnt:Int):=by omega
 have u7:=ep (f:=out) hv
 have oq:IntKind.i64.wrap (out v-1)=out v-1:=bI (by have:=Qj.lo v hv;omega)
 have rf:(I.map eN).length=I.length:=by simp
 have IZ:=xW dJ hW.le
 have k6:∀(g:Rows),(∀i:Id,i.bE<nb->g i=st_b.get i)->∀ed:Nat,dt (dX g) 6 [.ptr X 0 0,.int .i64 (v:Int),.int .i64 (ed:Int)]=some [.du (gj cnt bs f'),.int .i64 v,.int .i64 ed]:=fun g hg ed=>by
  have:=(hN1.frame hg (Nat.le_refl _)).fz
  simp only[ae,aj,this,aJ,Option.map_some]
 rw[az]at u7
 (try((repeat(revert hN;revert N;apply Pn.out));refine wk (tw @b0 (tw @b2 (tw @b7 (tw @b8 @hd)))) ?_;(repeat(refine Pn.mk ?_;intro N hN))))
 refine aZ (fun n env st=>∃k:Nat,n=(I.length)-k/\k<=(I.length)/\env 11=.int .i64 (k:Int)/\(∃(uG F9:Int),env 9=.int .i64 uG/\env 10=.int .i64 F9/\((uG<0/\∀z,z<k->¬(0<fU bs f' (I.getD z 0) v/\out (cE bs (I.getD z 0) v)=out v-1))∨∃ed:Nat,ed∈I/\F9=(ed:Int)/\uG=(cE bs ed v:Int)/\0<fU bs f' ed v/\out (cE bs ed v)=out v-1))/\((∀i:Id,st.get i=st_b.get i)/\st_b.next<=st.next)) (I.length) ⟨0,by omega,by omega,sl (tw @b0 (tw @b2 (tw @b7 @b8))),⟨-1,0,by(simp only[go_sem, ↓reduceIte,Nat.reduceEqDiff,Nat.reduceAdd,Nat.reduceSub,Nat.reduceLeDiff,reduceCtorEq]),by(simp only[go_sem, ↓reduceIte,Nat.reduceEqDiff,Nat.reduceAdd,Nat.reduceSub,Nat.reduceLeDiff,reduceCtorEq]),.inl ⟨by omega,fun z hz=>by omega⟩⟩,⟨fun i=>rfl,by(try dsimp only);omega⟩⟩ ?_
 rintro n_c env_c st_c ⟨k,rfl,cle,oE,cI0,cI1⟩ cfr
 have c0:=cfr 0 (by kernel_rfl);have c2:=cfr 2 (by kernel_rfl);have c7:=cfr 7 (by kernel_rfl);have c8:=cfr 8 (by kernel_rfl)
 simp only[go_sem, ↓reduceIte,Nat.reduceEqDiff,Nat.reduceAdd,Nat.reduceSub,Nat.reduceLeDiff,reduceCtorEq,b0,b2,b7,b8]at c0 c2 c7 c8
 clear cfr
 obtain⟨uG,F9,c9,jP,J5⟩:=cI0
 obtain⟨mU,Uq⟩:=cI1
 have EP:=(mU X).trans hgX
 have EO:=(mU A).trans hgA
 have AB:=(mU id).trans hid
 by_cases hk:(k:Int)<(I.length:Int)
 ·have iF:∀{e:Env} {gg:Rows} {nx:Nat},(e 11=.int .i64 (IntKind.i64.wrap ((k:Int)+1)))->(∃(uG F9:Int),e 9=.int .i64 uG/\e 10=.int .i64 F9/\((uG<0/\∀z,z<(k+1)->¬(0<fU bs f' (I.getD z 0) v/\out (cE bs (I.getD z 0) v)=out v-1))∨∃ed:Nat,ed∈I/\F9=(ed:Int)/\uG=(cE bs ed v:Int)/\0<fU bs f' ed v/\out (cE bs ed v)=out v-1))->((∀i:Id,gg i=st_b.get i)/\st_b.next<=nx)->∃m0,m0<(I.length)-k/\∃k:Nat,m0=(I.length)-k/\k<=(I.length)/\e 11=.int .i64 (k:Int)/\(∃(uG F9:Int),e 9=.int .i64 uG/\e 10=.int .i64 F9/\((uG<0/\∀z,z<k->¬(0<fU bs f' (I.getD z 0) v/\out (cE bs (I.getD z 0) v)=out v-1))∨∃ed:Nat,ed∈I/\F9=(ed:Int)/\uG=(cE bs ed v:Int)/\0<fU bs f' ed v/\out (cE bs ed v)=out v-1))/\((∀i:Id,gg i=st_b.get i)/\st_b.next<=nx):=fun x1 x2 x3=>⟨_,by omega,k+1,rfl,by omega,(by rw[x1,aD (by omega)]),x2,x3⟩
  have fP:k<I.length:=by omega
  have eX:(I.map eN)[k]? =some (eN (I.getD k 0)):=getD_map eN fP
  have tJ:I.getD k 0∈I:=by rw[List.getD_eq_getElem?_getD,List.getElem?_eq_getElem fP];exact List.getElem_mem fP
  obtain⟨he,qu⟩:=hIm _ tJ
  have Qh:=Lr cnt bs f' IZ (I.getD k 0) v he
  have uA:=k6 st_c.get (fun i _=>mU i) (I.getD k 0)
  have hq:=pB ok (v:=v) he
  have RB:=ep (f:=out) hq
  obtain⟨ed,hed⟩:∃ed,ed=I.getD k 0:=⟨_,rfl⟩
  rw[<-hed]at eX he qu Qh uA hq RB tJ
  rw[az]at RB
  rw[eN]at eX
  (try((repeat(revert hN;revert N;apply Pn.out));refine wk (tw @oE (tw @c0 (tw @c2 (tw @c7 (tw @c8 (tw @c9 (tw @jP (tw @hk (tw @EP (tw @EO (tw @AB (tw @lZ (tw @rn (tw @E5 (tw @eX (tw @rf @bR.eq_1)))))))))))))))) ?_;(repeat(refine Pn.mk ?_;intro N hN))))
  refine .inl ⟨_,aq.x Qh uA,?_⟩
  refine hN _ _ ?_
  clear hN N
  have stay:∀k',k'=k+1->(¬(0<fU bs f' ed v/\out (cE bs ed v)=out v-1))->((uG<0/\∀z,z<k'->¬(0<fU bs f' (I.getD z 0) v/\out (cE bs (I.getD z 0) v)=out v-1))∨∃ed:Nat,ed∈I/\F9=(ed:Int)/\uG=(cE bs ed v:Int)/\0<fU bs f' ed v/\out (cE bs ed v)=out v-1):=fun k' HE kq=>by
   rcases J5 with⟨h1,h2⟩|h
   ·refine .inl ⟨h1,fun z hz=>?_⟩
    by_cases E7:z=k
    ·subst E7;rw[<-hed];exact kq
    ·exact h2 z (by omega)
   ·exact .inr h
  by_cases hr:0<fU bs f' ed v
  ·by_cases Mb:out (cE bs ed v)=out v-1
   ·have mT:decide (out (cE bs ed v)=out v-1)=true:=decide_eq_true Mb
    have found:∃R9:Nat,R9∈I/\(ed:Int)=(R9:Int)/\(cE bs ed v:Int)=(cE bs R9 v:Int)/\0<fU bs f' R9 v/\out (cE bs R9 v)=out v-1:=⟨ed,tJ,rfl,rfl,hr,Mb⟩
    by_cases IY:uG<0
    ·(try((repeat(revert hN;revert N;apply Pn.out));refine wk (tw @oE (tw @c0 (tw @c2 (tw @c7 (tw @c8 (tw @c9 (tw @jP (tw @hk (tw @EP (tw @EO (tw @AB (tw @lZ (tw @rn (tw @E5 (tw @eX (tw @rf (tw @hr (tw @RB (tw @u7 (tw @oq (tw @mT (tw @IY @bR.eq_1)))))))))))))))))))))) ?_;(repeat(refine Pn.mk ?_;intro N hN))))
     exact iF (sd (tw @oE (tw @c0 (tw @c2 (tw @c7 @c8))))) (⟨_,_,sd @Nat.zero_add,sd @Nat.zero_add,.inr found⟩) (⟨mU,by(try dsimp only);omega⟩)
    ·by_cases ew:(cE bs ed v:Int)<uG
     ·(try((repeat(revert hN;revert N;apply Pn.out));refine wk (tw @oE (tw @c0 (tw @c2 (tw @c7 (tw @c8 (tw @c9 (tw @jP (tw @hk (tw @EP (tw @EO (tw @AB (tw @lZ (tw @rn (tw @E5 (tw @eX (tw @rf (tw @hr (tw @RB (tw @u7 (tw @oq (tw @mT (tw @IY (tw @ew @bR.eq_1))))))))))))))))))))))) ?_;(repeat(refine Pn.mk ?_;intro N hN))))
      exact iF (sd (tw @oE (tw @c0 (tw @c2 (tw @c7 @c8))))) (⟨_,_,sd @Nat.zero_add,sd @Nat.zero_add,.inr found⟩) (⟨mU,by(try dsimp only);omega⟩)
     ·(try((repeat(revert hN;revert N;apply Pn.out));refine wk (tw @oE (tw @c0 (tw @c2 (tw @c7 (tw @c8 (tw @c9 (tw @jP (tw @hk (tw @EP (tw @EO (tw @AB (tw @lZ (tw @rn (tw @E5 (tw @eX (tw @rf (tw @hr (tw @RB (tw @u7 (tw @oq (tw @mT (tw @IY (tw @ew @bR.eq_1))))))))))))))))))))))) ?_;(repeat(refine Pn.mk ?_;intro N hN))))
      exact iF (sd (tw @oE (tw @c0 (tw @c2 (tw @c7 @c8))))) (⟨uG,F9,sd @c9,sd @jP,by
       rcases J5 with⟨h1,_⟩|h
       ·exact absurd h1 IY
       ·exact .inr h⟩) (⟨mU,by(try dsimp only);omega⟩)
   ·have mT:decide (out (cE bs ed v)=out v-1)=false:=decide_eq_false Mb
    (try((repeat(revert hN;revert N;apply Pn.out));refine wk (tw @oE (tw @c0 (tw @c2 (tw @c7 (tw @c8 (tw @c9 (tw @jP (tw @hk (tw @EP (tw @EO (tw @AB (tw @lZ (tw @rn (tw @E5 (tw @eX (tw @rf (tw @hr (tw @RB (tw @u7 (tw @oq (tw @mT @bR.eq_1))))))))))))))))))))) ?_;(repeat(refine Pn.mk ?_;intro N hN))))
    exact iF (sd (tw @oE (tw @c0 (tw @c2 (tw @c7 @c8))))) (⟨uG,F9,sd @c9,sd @jP,stay _ rfl fun h=>Mb h.2⟩) (⟨mU,by(try dsimp only);omega⟩)
  ·(try((repeat(revert hN;revert N;apply Pn.out));refine wk (tw @oE (tw @c0 (tw @c2 (tw @c7 (tw @c8 (tw @c9 (tw @jP (tw @hk (tw @EP (tw @EO (tw @AB (tw @lZ (tw @rn (tw @E5 (tw @eX (tw @rf (tw @hr @bR.eq_1))))))))))))))))) ?_;(repeat(refine Pn.mk ?_;intro N hN))))
   exact iF (sd (tw @oE (tw @c0 (tw @c2 (tw @c7 @c8))))) (⟨uG,F9,sd @c9,sd @jP,stay _ rfl fun h=>hr h.1⟩) (⟨mU,by(try dsimp only);omega⟩)
 ·have kT:k=I.length:=by omega
  have VZ:∃ed:Nat,ed∈I/\F9=(ed:Int)/\uG=(cE bs ed v:Int)/\0<fU bs f' ed v/\out (cE bs ed v)=out v-1:=by
   rcases J5 with⟨h1,h2⟩|h
   ·exfalso
    obtain⟨ed,he,hq⟩:=Ol
    obtain⟨z,hz,rfl⟩:=List.getElem_of_mem he
    refine h2 z (by omega) ?_
    rw[List.getD_eq_getElem?_getD,List.getElem?_eq_getElem hz];exact hq
   ·exact h
  obtain⟨ed,tJ,rfl,rfl,hr,Mb⟩:=VZ
  obtain⟨he,qu⟩:=hIm _ tJ
  (try((repeat(revert hN;revert N;apply Pn.out));refine wk (tw @oE (tw @c0 (tw @c2 (tw @c7 (tw @c8 (tw @c9 (tw @jP (tw @hk (tw @EP (tw @EO (tw @AB (tw @lZ (tw @rn (tw @E5 (tw @rf @bR.eq_1))))))))))))))) ?_;(repeat(refine Pn.mk ?_;intro N hN))))
  refine .inr (aE _ _ _ _ _ (fun r σ1 hq=>?_) (QE cnt bs f' IZ ed v he X A F ⟨st_c.get,_⟩ nb (hN1.frame (fun i _=>mU i) (Nat.le_refl _)) (by(try dsimp only);omega)))
  obtain⟨Uj,nH,EM⟩:=hq
  (try dsimp only at nH EM)
  refine hN _ _ ?_
  clear hN N
  (try((repeat(revert hN;revert N;apply Pn.out));refine wk (tw @oE (tw @c0 (tw @c2 (tw @c7 (tw @c8 @c9))))) ?_;(repeat(refine Pn.mk ?_;intro N hN))))
  refine⟨_,?_,cE bs ed v,uH bs f' ed v,rfl,pB ok he,by omega,sd @Nat.zero_add,hW.step he qu hr Mb,Uj,fun i hi hF=>by rw[EM i hF,mU i,jH i hi hF],by(try dsimp only);omega⟩
  omega
end Go.Proofs.YtgoelphibofcmaaGreat.V

namespace Go.Proofs.YtgoelphibofcmaaGreat.V
open Go.RowKit
attribute [local irreducible] dQ wpOps fX Call
attribute [local go_sem] aQ fM eU fY fW dm upd cG K.av cQ AV.cells AV.cell rowOf rowsOf part ld rowAt bQ cC dE ea gZ bS dh eo fV fj dB ef dd dc dS dU b4 bj cV bW cY cW ec eh ee cU ck de eb bV aU da cK gY bx cP cj bd dv bl dG AV.undef bH bK dW dZ dO dL cN ek eu cJ ej ei cZ db List.getD_cons_zero List.getD_cons_succ List.getD_nil List.all_cons List.all_nil Bool.and_true Bool.true_and Bool.and_self Bool.not_true Bool.not_false Option.map_some Option.map_none Option.bind_some Option.bind_none List.length_cons List.length_nil List.take_succ_cons List.take_zero List.take_nil List.drop_succ_cons List.drop_zero List.drop_nil List.head?_cons List.map_cons List.map_nil List.getElem?_cons_zero List.getElem?_cons_succ List.cons_append List.nil_append List.append_nil List.length_map List.set_cons_zero List.set_cons_succ Nat.reduceMul eq_self Int.toNat_natCast Int.natCast_nonneg and_self true_and and_true decide_true decide_false Bool.false_eq_true Nat.zero_add Nat.add_zero List.contains_cons List.contains_nil Bool.or_false Bool.false_or beq_self_eq_true Nat.reduceBEq ne_eq not_true_eq_false not_false_eq_true Id.mk.injEq false_and and_false Nat.reduceLT Int.reduceLE Int.reduceLT Int.reduceToNat Int.reduceNeg Int.reduceAdd Nat.le_refl List.length_append beq_true beq_false Bool.not_eq_eq_eq_not or_false false_or dX ae aj aJ bq bG cr aY bf aW bp cR bB
def ug (P:Program) (f:Nat) (args:List AV) (R:AV->Prop):Prop:=∀σ:au,Call P f args ⟨V.ro σ.get,σ.next⟩ fun r0 σ'=>∃r',V.fz σ'.get 6 r0=some r'/\R r'
theorem ED {P:Program} {f:Nat} {args:List AV} {g:Rows} {n:Nat} {R:AV->Prop} (h:Sound P f args ⟨V.ro g,n⟩ fun r0 σ'=>∃r',V.fz σ'.get 6 r0=some r'/\R r'):Sound P f args ⟨g,n⟩ fun r σ'=>R r/\σ'=⟨g,n⟩:=by
 intro hs D ι w vs S U A
 refine(BR (g0:=g) (K:=R) h (fun _ _ h=>h) S U A).mono ?_
 rintro e w' ⟨r,D',u,rfl,hR,T,S',hr⟩
 exact⟨r,g,n,D',ι,u,rfl,⟨hR,rfl⟩,T,S',U,Nat.le_refl _,hr⟩
theorem ug.x {P:Program} (hm:P.follows .mixedOrders=true) {f:Nat} {args:List AV} {R:AV->Prop} (h:ug P f args R) {σ:au}:Call P f args σ fun r σ'=>R r/\σ'=σ:=
 ig (ED (gG hm (h σ)))
theorem ug.body {P:Program} {f:Nat} {args:List AV} {R:AV->Prop} {nt na:Nat} {body:VC} {res:List ox} (hf:lV P f=some ⟨nt,na,body,res⟩) (ha:na=args.length) (h:(∀a∈args,eP a)->∀σ:au,dQ (Call P) body (kV res fun r0 σ'=>∃r',V.fz σ'.get 6 r0=some r'/\R r') (cG args) ⟨V.ro σ.get,σ.next⟩):ug P f args R:=fun σ=>mJ hf ha fun hl=>h hl σ
theorem Nt {g:Rows} {rows:List (List AV)} {xs:List (List Nat)} {ids:List Id} (n:Nat) (h:eQ Ri g rows xs ids):eH g (n+2) rows=some (xs.map fun l=>[QN l]):=by
 induction h with
 |nil=>rw[eH];rfl
 |cons h1 _ ih=>
  rename_i x _ _ _ _ _
  rcases h1 with⟨h0,h1,_⟩|⟨id,h1,h0,h2,_⟩
  ·subst h0 h1;rw[eH,ih,ae,aj,aY];rfl
  ·have gM:x≠[]:=by rintro rfl;simp at h0
   subst h1
   rw[eH,ih,ae,aj,il (e:=eN) (sz:=1) h2 rfl fun a=>fzN _ n a]
   simp[QN,gM]
theorem oO.fz0 {cnt:Nat} {bs:List PB} {f:Nat->Int} {X A F:Id} {g:Rows} {nx:Nat} (h:oO cnt bs f X A F g nx):V.fz g 5 (.ptr X 0 0)=some (.du (gj cnt bs f)):=by
 have hf:V.fz g 4 (.own F 0 bs.length)=some (.sl (eC f bs.length)):=by
  rw[iP]
  simp only[h.f,if_true]
  rw[if_pos (by rw[dR];omega),List.drop_zero,List.take_of_length_le (by rw[dR];omega),Bj];rfl
 have ha:V.fz g 4 (.own A 0 cnt)=some (.sl (qK cnt bs bs.length)):=by
  obtain⟨rows,ids,h1,h2,_,_⟩:=h.a
  have hl:=h2.len
  rw[jI]at hl
  rw[iP]
  simp only[h1,if_true]
  rw[if_pos (by omega),List.drop_zero,List.take_of_length_le (by omega),Nt 1 h2]
  simp[lP,qK]
 rw[bp]
 simp only[h.x,if_true,List.getElem?_cons_zero,List.drop_zero,bR,ae,aj,aJ,cr,ha,hf,Option.map_some,gj]
theorem Ga {S:Nat->Bool}:∀bs:List PB,(∀b∈bs,b.s<=4)->jt S bs<=4*bs.length
 |[],_=>by simp[jt]
 |b::bs,h=>by
  rw[tz]
  have:=Ga (S:=S) bs fun x hx=>h x (List.mem_cons_of_mem _ hx)
  have:=h b (by simp)
  simp only[List.length_cons]
  split<;>omega
theorem ki.zero {bs:List PB} {x y:Nat} (h:∀e,e<bs.length->0<=(cL bs e).s/\(cL bs e).s<=4):ki bs (fun _=>0) x y 0:=
 ⟨fun i hi=>by have:=h i hi;omega,fun S _ _=>kd fun i _=>by simp⟩
theorem Mt {bs:List PB} {b:PB} (h:b∈bs):∃e,e<bs.length/\cL bs e=b:=by
 obtain⟨e,he,rfl⟩:=List.getElem_of_mem h
 exact⟨e,he,by simp[cL,List.getD_eq_getElem?_getD,he]⟩
theorem HV (cnt:Nat) (hn:cnt<=1048576) (bs:List PB) (ok:nW cnt bs) (qE:bs.length<=1048576) (dJ:∀e,e<bs.length->0<=(cL bs e).s/\(cL bs e).s<=4) (x y:Nat) (hx:x<cnt) (hy:y<cnt) (Th:x≠y):
  ug Tryz.prog 218 [.int .i64 cnt,.sl (bs.map aH),.int .i64 x,.int .i64 y] fun r=>∃f val,r=.gD [.du (gj cnt bs f),.int .i64 val]/\ki bs f x y val/\∃S:Nat->Bool,S x=true/\S y=false/\val=jt S bs:=by
 refine ug.body eF rfl fun hl σ=>?_
 clear hl
 (try((repeat(revert hN;revert N;apply Pn.out));refine wk @Nat.zero_add ?_;(repeat(refine Pn.mk ?_;intro N hN))))
 refine .inr (aE _ _ _ _ _ (fun r σ1 hq=>?_) (KB cnt hn bs ok qE _))
 obtain⟨X,A,F,rfl,hX,hS⟩:=hq
 refine hN _ _ ?_
 clear hN N
 have hS0:∀f val,ki bs f x y val->val<=jt (fun v=>decide (v=x)) bs:=fun f val hf=>hf.bound (decide_eq_true rfl) (decide_eq_false fun h=>Th h.symm)
 have htot:=Ga (S:=fun v=>decide (v=x)) bs fun b hb=>by
  obtain⟨e,he,rfl⟩:=Mt hb
  exact(dJ e he).2
 generalize jt (fun v=>decide (v=x)) bs=T at *
 (try((repeat(revert hN;revert N;apply Pn.out));refine wk @Nat.zero_add ?_;(repeat(refine Pn.mk ?_;intro N hN))))
 refine aZ (fun m env st=>∃(f:Nat->Int) (val:Int),m=(T-val).toNat/\0<=val/\env 10=.ptr X 0 0/\env 11=.int .i64 val/\ki bs f x y val/\oO cnt bs f X A F st.get σ1.next/\σ1.next<=st.next) T.toNat ⟨_,0,by simp,by omega,by(simp only[go_sem, ↓reduceIte,Nat.reduceEqDiff,Nat.reduceAdd,Nat.reduceSub,Nat.reduceLeDiff,reduceCtorEq]),by(simp only[go_sem, ↓reduceIte,Nat.reduceEqDiff,Nat.reduceAdd,Nat.reduceSub,Nat.reduceLeDiff,reduceCtorEq]),ki.zero dJ,hS.frame (fun i hi=>rfl) (Nat.le_refl _),by(try dsimp only);omega⟩ ?_
 rintro m env_b st_b ⟨f,val,rfl,tf,od,b11,hf,hN1,hle⟩ fK
 have b2:=fK 2 (by kernel_rfl)
 have b3:=fK 3 (by kernel_rfl)
 simp only[go_sem, ↓reduceIte,Nat.reduceEqDiff,Nat.reduceAdd,Nat.reduceSub,Nat.reduceLeDiff,reduceCtorEq]at b2 b3
 clear fK
 (try((repeat(revert hN;revert N;apply Pn.out));refine wk (tw @b2 (tw @b3 @od)) ?_;(repeat(refine Pn.mk ?_;intro N hN))))
 refine .inr (aE _ _ _ _ _ (fun r σ2 hq=>?_) (Pw cnt hn bs ok qE dJ f x y hx hy Th val hf X A F ⟨st_b.get,_⟩ σ1.next hN1 (by(try dsimp only);omega)))
 obtain⟨b,f',rfl,Uj,nH,_,kq,WI⟩:=hq
 (try dsimp only at nH)
 refine hN _ _ ?_
 clear hN N
 cases b with
 |true=>
  have jX:=WI rfl
  have L8:=hS0 _ _ hf
  have BE:=hS0 _ _ jX
  have hw:IntKind.i64.wrap (val+1)=val+1:=bI (by omega)
  (try((repeat(revert hN;revert N;apply Pn.out));refine wk (tw @od (tw @b11 @hw)) ?_;(repeat(refine Pn.mk ?_;intro N hN))))
  exact⟨_,by omega,f',val+1,rfl,by omega,sd @od,sd (tw @b11 @hw),jX,Uj,by(try dsimp only);omega⟩
 |false=>
  obtain⟨rfl,S,h1,h2,h3⟩:=kq rfl
  (try((repeat(revert hN;revert N;apply Pn.out));refine wk (tw @od @b11) ?_;(repeat(refine Pn.mk ?_;intro N hN))))
  have hz:=Uj.fz0
  exact⟨[.ptr X 0 0,.int .i64 val],sd @Nat.zero_add,.gD [.du (gj cnt bs f'),.int .i64 val],by simp only[eW,bB,ae,aj,hz,aJ,Option.map_some],f',val,rfl,hf,S,h1,h2,h3⟩
theorem HW (cnt:Nat) (hn:cnt<=1048576) (bs:List PB) (ok:nW cnt bs) (qE:bs.length<=1048576) (f:Nat->Int) (hs:Small bs f) (y:Nat) (hy:y<cnt):
  mH Tryz.prog 219 [.du (gj cnt bs f),.int .i64 y] fun r=>∃l:List Nat,r=.sl (l.map eN)/\l.length<=cnt:=by
 refine mH.body eF rfl fun hl n0=>?_
 clear hl
 have hz:∀g:Rows,dt (dX g) 6 [.du (gj cnt bs f),.int .i64 (y:Int)]=some [.du (gj cnt bs f),.int .i64 y]:=fun g=>by simp only[ae,aj,aW,aJ,Option.map_some]
 (try((repeat(revert hN;revert N;apply Pn.out));refine wk @Nat.zero_add ?_;(repeat(refine Pn.mk ?_;intro N hN))))
 refine .inr (aE _ _ _ _ _ (fun r σ1 hq=>?_) ((GV cnt hn bs ok qE f hs y hy).x mixed (hz _)))
 obtain⟨⟨out,rfl,Qj⟩,rfl⟩:=hq
 refine hN _ _ ?_
 clear hN N
 (try((repeat(revert hN;revert N;apply Pn.out));refine wk @gj.eq_1 ?_;(repeat(refine Pn.mk ?_;intro N hN))))
 refine aZ (fun n env st=>∃k:Nat,n=(cnt)-k/\k<=(cnt)/\env 7=.int .i64 (k:Int)/\(∃(o:Id) (l:List Nat),env 6=.own o 0 l.length/\st.get o=some ⟨true,1,l.map eN⟩/\o.bE<st.next/\l.length<=k)) (cnt) ⟨0,by omega,by omega,sl @gj.eq_1,⟨⟨219002000,n0+1+1+1⟩,[],by(simp only[go_sem, ↓reduceIte,Nat.reduceEqDiff,Nat.reduceAdd,Nat.reduceSub,Nat.reduceLeDiff,reduceCtorEq])<;>rfl,by(simp only[go_sem, ↓reduceIte,Nat.reduceEqDiff,Nat.reduceAdd,Nat.reduceSub,Nat.reduceLeDiff,reduceCtorEq])<;>rfl,by(try dsimp only);omega,by simp⟩⟩ ?_
 rintro n_a env_a st_a ⟨k,rfl,ale,a7,jO⟩ dy
 have a0:=dy 0 (by kernel_rfl);have a5:=dy 5 (by kernel_rfl)
 simp only[go_sem, ↓reduceIte,Nat.reduceEqDiff,Nat.reduceAdd,Nat.reduceSub,Nat.reduceLeDiff,reduceCtorEq,gj]at a0 a5
 clear dy
 obtain⟨o,l,a6,ag,u7,Gn⟩:=jO
 have tf:=dr u7
 have jc:(l.map eN).length=l.length:=by simp
 by_cases hk:(k:Int)<(cnt:Int)
 ·have cw:∀{e:Env} {gg:Rows} {nx:Nat},(e 7=.int .i64 (IntKind.i64.wrap ((k:Int)+1)))->(∃(o:Id) (l:List Nat),e 6=.own o 0 l.length/\gg o=some ⟨true,1,l.map eN⟩/\o.bE<nx/\l.length<=(k+1))->∃m0,m0<(cnt)-k/\∃k:Nat,m0=(cnt)-k/\k<=(cnt)/\e 7=.int .i64 (k:Int)/\(∃(o:Id) (l:List Nat),e 6=.own o 0 l.length/\gg o=some ⟨true,1,l.map eN⟩/\o.bE<nx/\l.length<=k):=fun x1 x2=>⟨_,by omega,k+1,rfl,by omega,(by rw[x1,aD (by omega)]),x2⟩
  have xn:=ep (f:=out) (show k<cnt by omega)
  rw[az]at xn
  have e1:l.length+1<=16777216:=by omega
  by_cases h0:0<=out k
  ·(try((repeat(revert hN;revert N;apply Pn.out));refine wk (tw @a7 (tw @a0 (tw @a5 (tw @a6 (tw @ag (tw @tf (tw @hk (tw @xn (tw @h0 (tw @e1 (tw @jc @gj.eq_1))))))))))) ?_;(repeat(refine Pn.mk ?_;intro N hN))))
   exact cw (sd (tw @a7 (tw @a0 (tw @a5 @gj.eq_1)))) (⟨⟨219007003,st_a.next+1+1⟩,l++[k],by rw[List.length_append];simp only[go_sem, ↓reduceIte,Nat.reduceEqDiff,Nat.reduceAdd,Nat.reduceSub,Nat.reduceLeDiff,reduceCtorEq,List.length_cons,List.length_nil],by rw[List.map_append,List.map_cons,List.map_nil];simp only[go_sem, ↓reduceIte,Nat.reduceEqDiff,Nat.reduceAdd,Nat.reduceSub,Nat.reduceLeDiff,reduceCtorEq,eN],by(try dsimp only);omega,by simp;omega⟩)
  ·(try((repeat(revert hN;revert N;apply Pn.out));refine wk (tw @a7 (tw @a0 (tw @a5 (tw @a6 (tw @ag (tw @tf (tw @hk (tw @xn (tw @h0 (tw @jc @gj.eq_1)))))))))) ?_;(repeat(refine Pn.mk ?_;intro N hN))))
   exact cw (sd (tw @a7 (tw @a0 (tw @a5 @gj.eq_1)))) (⟨o,l,sd @a6,sd @ag,by(try dsimp only);omega,by omega⟩)
 ·(try((repeat(revert hN;revert N;apply Pn.out));refine wk (tw @a7 (tw @a0 (tw @a5 (tw @a6 (tw @hk @gj.eq_1))))) ?_;(repeat(refine Pn.mk ?_;intro N hN))))
  have tG:gK st_a.get 6 (.own o 0 l.length)=some (.sl (l.map eN)):=fu ag rfl fun b=>Pt _ 4 b
  exact⟨_,rfl,_,by simp only[go_sem, ↓reduceIte,Nat.reduceEqDiff,Nat.reduceAdd,Nat.reduceSub,Nat.reduceLeDiff,reduceCtorEq,eW];exact tG,l,rfl,by omega⟩
end Go.Proofs.YtgoelphibofcmaaGreat.V

namespace Go.Proofs.YtgoelphibofcmaaGreat.V
open Go.RowKit
attribute [local irreducible] dQ wpOps fX Call
attribute [local go_sem] aQ fM eU fY fW dm upd cG K.av cQ AV.cells AV.cell rowOf rowsOf part ld rowAt bQ cC dE ea gZ bS dh eo fV fj dB ef dd dc dS dU b4 bj cV bW cY cW ec eh ee cU ck de eb bV aU da cK gY bx cP cj bd dv bl dG AV.undef bH bK dW dZ dO dL cN ek eu cJ ej ei cZ db List.getD_cons_zero List.getD_cons_succ List.getD_nil List.all_cons List.all_nil Bool.and_true Bool.true_and Bool.and_self Bool.not_true Bool.not_false Option.map_some Option.map_none Option.bind_some Option.bind_none List.length_cons List.length_nil List.take_succ_cons List.take_zero List.take_nil List.drop_succ_cons List.drop_zero List.drop_nil List.head?_cons List.map_cons List.map_nil List.getElem?_cons_zero List.getElem?_cons_succ List.cons_append List.nil_append List.append_nil List.length_map List.set_cons_zero List.set_cons_succ Nat.reduceMul eq_self Int.toNat_natCast Int.natCast_nonneg and_self true_and and_true decide_true decide_false Bool.false_eq_true Nat.zero_add Nat.add_zero List.contains_cons List.contains_nil Bool.or_false Bool.false_or beq_self_eq_true Nat.reduceBEq ne_eq not_true_eq_false not_false_eq_true Id.mk.injEq false_and and_false Nat.reduceLT Int.reduceLE Int.reduceLT Int.reduceToNat Int.reduceNeg Int.reduceAdd Nat.le_refl List.length_append beq_true beq_false Bool.not_eq_eq_eq_not or_false false_or dX ae aj aJ bq bG cr aY bf aW bp cR bB
theorem CX (v1 v2:Int) (l1 l2:List Nat) (h1:l1.length<=1048576) (h2:l2.length<=1048576):
  mH Tryz.prog 220 [.int .i64 v1,.sl (l1.map eN),.int .i64 v2,.sl (l2.map eN)] fun r=>∃b,r=.bool b/\(v1<v2->b=true)/\(v2<v1->b=false):=by
 refine mH.body eF rfl fun hl n0=>?_
 clear hl
 have ret:∀{t:Nat} {env:Env} {σ:au} {b:Bool} {x:Ex},(x=.ret∨x=.normal)->env t=.bool b->((v1<v2->b=true)/\(v2<v1->b=false))->kV [.tmp t] (fun r0 σ'=>∃r',gK σ'.get 6 r0=some r'/\∃b,r'=.bool b/\(v1<v2->b=true)/\(v2<v1->b=false)) x env σ:=by
  intro t env σ b x hx he hb
  have:∃vs,fG env σ.get [.tmp t]=some vs/\∃r',gK σ.get 6 (eW vs)=some r'/\∃b,r'=.bool b/\(v1<v2->b=true)/\(v2<v1->b=false):=⟨[env t],rfl,.bool b,by rw[he];exact gh _ _ _,b,rfl,hb⟩
  rcases hx with rfl|rfl
  ·exact this
  ·exact this
 have m1:(l1.map eN).length=l1.length:=by simp
 have m2:(l2.map eN).length=l2.length:=by simp
 by_cases hv:v1=v2
 ·have hd:decide (v1=v2)=true:=decide_eq_true hv
  by_cases Gn:(l1.length:Int)=(l2.length:Int)
  ·have mT:decide ((l1.length:Int)=(l2.length:Int))=true:=decide_eq_true Gn
   have SE:decide (l1.length=l2.length)=true:=decide_eq_true (by omega)
   (try((repeat(revert hN;revert N;apply Pn.out));refine wk (tw @hd (tw @mT (tw @SE (tw @m1 @m2)))) ?_;(repeat(refine Pn.mk ?_;intro N hN))))
   refine aZ (fun n env st=>∃k:Nat,n=(l1.length)-k/\k<=(l1.length)/\env 9=.int .i64 (k:Int)) (l1.length) ⟨0,by omega,by omega,sl @Nat.zero_add⟩ ?_
   rintro n_a env_a st_a ⟨k,rfl,ale,a9⟩ dy
   have a1:=dy 1 (by kernel_rfl);have a3:=dy 3 (by kernel_rfl)
   simp only[go_sem, ↓reduceIte,Nat.reduceEqDiff,Nat.reduceAdd,Nat.reduceSub,Nat.reduceLeDiff,reduceCtorEq]at a1 a3
   clear dy
   by_cases hk:(k:Int)<(l1.length:Int)
   ·have cw:∀{e:Env},(e 9=.int .i64 (IntKind.i64.wrap ((k:Int)+1)))->∃m0,m0<(l1.length)-k/\∃k:Nat,m0=(l1.length)-k/\k<=(l1.length)/\e 9=.int .i64 (k:Int):=fun x1=>⟨_,by omega,k+1,rfl,by omega,(by rw[x1,aD (by omega)])⟩
    have g1:(l1.map eN)[k]? =some (eN (l1.getD k 0)):=getD_map eN (by omega)
    have g2:(l2.map eN)[k]? =some (eN (l2.getD k 0)):=getD_map eN (by omega)
    rw[eN]at g1 g2
    by_cases he:((l1.getD k 0:Nat):Int)=((l2.getD k 0:Nat):Int)
    ·have ux:decide (((l1.getD k 0:Nat):Int)=((l2.getD k 0:Nat):Int))=true:=decide_eq_true he
     have PV:decide (l1.getD k 0=l2.getD k 0)=true:=decide_eq_true (by omega)
     (try((repeat(revert hN;revert N;apply Pn.out));refine wk (tw @a9 (tw @a1 (tw @a3 (tw @hk (tw @m1 (tw @g1 (tw @g2 (tw @ux @PV)))))))) ?_;(repeat(refine Pn.mk ?_;intro N hN))))
     exact cw (sd (tw @a9 (tw @a1 @a3)))
    ·have ux:decide (((l1.getD k 0:Nat):Int)=((l2.getD k 0:Nat):Int))=false:=decide_eq_false he
     have PV:decide (l1.getD k 0=l2.getD k 0)=false:=decide_eq_false (by omega)
     (try((repeat(revert hN;revert N;apply Pn.out));refine wk (tw @a9 (tw @a1 (tw @a3 (tw @hk (tw @m1 (tw @g1 (tw @g2 (tw @ux @PV)))))))) ?_;(repeat(refine Pn.mk ?_;intro N hN))))
     exact ret (.inl rfl) (by simp only[go_sem, ↓reduceIte,Nat.reduceEqDiff,Nat.reduceAdd,Nat.reduceSub,Nat.reduceLeDiff,reduceCtorEq];rfl) ⟨fun h=>by omega,fun h=>by omega⟩
   ·(try((repeat(revert hN;revert N;apply Pn.out));refine wk (tw @a9 (tw @a1 (tw @a3 (tw @hk @m1)))) ?_;(repeat(refine Pn.mk ?_;intro N hN))))
    exact ret (b:=false) (.inl rfl) (sd @Nat.zero_add) ⟨fun h=>by omega,fun h=>by omega⟩
  ·have mT:decide ((l1.length:Int)=(l2.length:Int))=false:=decide_eq_false Gn
   have SE:decide (l1.length=l2.length)=false:=decide_eq_false (by omega)
   (try((repeat(revert hN;revert N;apply Pn.out));refine wk (tw @hd (tw @mT (tw @SE (tw @m1 @m2)))) ?_;(repeat(refine Pn.mk ?_;intro N hN))))
   exact ret (.inl rfl) (by simp only[go_sem, ↓reduceIte,Nat.reduceEqDiff,Nat.reduceAdd,Nat.reduceSub,Nat.reduceLeDiff,reduceCtorEq];rfl) ⟨fun h=>by omega,fun h=>by omega⟩
 ·have hd:decide (v1=v2)=false:=decide_eq_false hv
  (try((repeat(revert hN;revert N;apply Pn.out));refine wk @hd ?_;(repeat(refine Pn.mk ?_;intro N hN))))
  exact ret (b:=decide (v1<v2)) (.inl rfl) (sd @Nat.zero_add) ⟨fun h=>decide_eq_true h,fun h=>decide_eq_false (by omega)⟩
def wh (bs:List PB) (cnt:Nat) (jB:Int) (k:Nat):Prop:=(k=1/\jB= -1)∨(0<=jB/\(∀z,1<=z->z<k->∀S:Nat->Bool,S 0=true->S z=false->jB<=jt S bs)/\∃S:Nat->Bool,S 0=true/\(∃z,z<cnt/\S z=false)/\jB=jt S bs)
theorem ki.nn {bs:List PB} {val:Int} {S:Nat->Bool} (dJ:∀e,e<bs.length->0<=(cL bs e).s/\(cL bs e).s<=4) (h:val=jt S bs):0<=val:=by
 rw[h,wS]
 have:=sW (f:=fun _=>0) (g:=fun i=>if S (cL bs i).a=S (cL bs i).b then 0 else(cL bs i).s) (n:=bs.length) fun i hi=>by
  have:=dJ i hi
  split<;>omega
 rw[kd fun _ _=>rfl]at this
 exact this
theorem wh.done {bs:List PB} {cnt:Nat} {jB:Int} (hc:2<=cnt) (h:wh bs cnt jB cnt) (t:Int):t<=jB↔la cnt bs t:=by
 rcases h with⟨h,_⟩|⟨_,h1,S,h2,⟨z,hz,k6⟩,h3⟩
 ·omega
 ·constructor
  ·intro ht S h0 ⟨y,hy,hy2⟩
   have:y≠0:=by rintro rfl;rw[h0]at hy2;cases hy2
   have:=h1 y (by omega) hy S h0 hy2
   omega
  ·intro hH
   rw[h3];exact hH S h2 ⟨z,hz,k6⟩
theorem AI (cnt:Nat) (h2:2<=cnt) (hn:cnt<=1048576) (bs:List PB) (ok:nW cnt bs) (qE:bs.length<=1048576) (dJ:∀e,e<bs.length->0<=(cL bs e).s/\(cL bs e).s<=4):
  ug Tryz.prog 194 [.int .i64 cnt,.sl (bs.map aH)] fun r=>∃jB p,r=.gD [.int .i64 jB,p]/\∀t:Int,t<=jB↔la cnt bs t:=by
 refine ug.body eF rfl fun hl σ=>?_
 clear hl
 (try((repeat(revert hN;revert N;apply Pn.out));refine wk @Nat.zero_add ?_;(repeat(refine Pn.mk ?_;intro N hN))))
 have z0:∀(g:Rows) (id:Id),g id=some ⟨true,1,[]⟩->V.fz (dX g) 6 (.own id 0 0)=some (.sl (([]:List Nat).map eN))/\V.fz g 5 (.own id 0 0)=some (.sl (([]:List Nat).map eN)):=fun g id h=>by
  have h':dX g id=some ⟨true,1,[]⟩:=by simp[dX,h]
  constructor
  ·rw[iP];simp only[h',if_true];rw[if_pos (by simp)];simp[pf]
  ·rw[iP];simp only[h,if_true];rw[if_pos (by simp)];simp[pf]
 refine aZ (fun m env st=>∃(k:Nat) (jB:Int) (l:List Nat) (p:AV),m=cnt-k/\1<=k/\k<=cnt/\env 8=.int .i64 (k:Int)/\env 6=.int .i64 jB/\env 7=p/\V.fz (dX st.get) 6 p=some (.sl (l.map eN))/\V.fz st.get 5 p=some (.sl (l.map eN))/\l.length<=cnt/\wh bs cnt jB k) (cnt-1) ⟨1,-1,[],.own ⟨194002000,σ.next+1+1⟩ 0 0,rfl,by omega,by omega,by(simp only[go_sem, ↓reduceIte,Nat.reduceEqDiff,Nat.reduceAdd,Nat.reduceSub,Nat.reduceLeDiff,reduceCtorEq])<;>rfl,by(simp only[go_sem, ↓reduceIte,Nat.reduceEqDiff,Nat.reduceAdd,Nat.reduceSub,Nat.reduceLeDiff,reduceCtorEq])<;>rfl,by(simp only[go_sem, ↓reduceIte,Nat.reduceEqDiff,Nat.reduceAdd,Nat.reduceSub,Nat.reduceLeDiff,reduceCtorEq])<;>rfl,(z0 _ _ (sd @Nat.zero_add)).1,(z0 _ _ (sd @Nat.zero_add)).2,by simp,.inl ⟨rfl,rfl⟩⟩ ?_
 rintro m env_b st_b ⟨k,jB,l,p,rfl,yk,xk,b8,b6,b7,BL,k6,hl,hB⟩ fK
 have b0:=fK 0 (by kernel_rfl)
 have b1:=fK 1 (by kernel_rfl)
 simp only[go_sem, ↓reduceIte,Nat.reduceEqDiff,Nat.reduceAdd,Nat.reduceSub,Nat.reduceLeDiff,reduceCtorEq]at b0 b1
 clear fK z0
 by_cases hk:(k:Int)<(cnt:Int)
 ·have fP:k<cnt:=by omega
  have hFl:=HV cnt hn bs ok qE dJ 0 k (by omega) fP (by omega)
  rw[show(((0:Nat):Int))=0 from rfl]at hFl
  (try((repeat(revert hN;revert N;apply Pn.out));refine wk (tw @b0 (tw @b1 (tw @b6 (tw @b7 (tw @b8 @hk))))) ?_;(repeat(refine Pn.mk ?_;intro N hN))))
  refine .inr (aE _ _ _ _ _ (fun r σ1 hq=>?_) (hFl.x mixed))
  obtain⟨⟨f,val,rfl,hf,S,PM,PN,Uk⟩,rfl⟩:=hq
  refine hN _ _ ?_
  clear hN N
  have IZ:=xW dJ hf.le
  have pj:=ki.nn (val:=val) dJ Uk
  (try((repeat(revert hN;revert N;apply Pn.out));refine wk (tw @b0 (tw @b1 (tw @b6 (tw @b7 @b8)))) ?_;(repeat(refine Pn.mk ?_;intro N hN))))
  refine .inr (aE _ _ _ _ _ (fun r σ1 hq=>?_) ((HW cnt hn bs ok qE f IZ k fP).x mixed (by simp only[ae,aj,aW,aJ,Option.map_some])))
  obtain⟨⟨l',rfl,Mf⟩,rfl⟩:=hq
  refine hN _ _ ?_
  clear hN N
  have hw:IntKind.i64.wrap ((k:Int)+1)=((k+1:Nat):Int):=aD (by omega)
  have TJ:(∀z,1<=z->z<k->∀S:Nat->Bool,S 0=true->S z=false->val<=jt S bs)->wh bs cnt val (k+1):=fun h=>.inr ⟨pj,fun z BL k6 S' h0 h1=>by
   by_cases uA:z=k
   ·subst uA;exact hf.bound h0 h1
   ·exact h z BL (by omega) S' h0 h1,S,PM,⟨k,fP,PN⟩,Uk⟩
  by_cases kp:jB<0
  ·have Cu:k=1:=by
    rcases hB with⟨h,_⟩|⟨h,_⟩
    ·exact h
    ·omega
   (try((repeat(revert hN;revert N;apply Pn.out));refine wk (tw @b0 (tw @b1 (tw @b6 (tw @b7 (tw @b8 (tw @kp @hw)))))) ?_;(repeat(refine Pn.mk ?_;intro N hN))))
   refine⟨_,?_,k+1,val,l',.sl (l'.map eN),rfl,by omega,by omega,sd (tw @b8 @hw),sd @Nat.zero_add,sd @Nat.zero_add,cr _ _ _,cr _ _ _,Mf,TJ fun z h1 h2=>by omega⟩
   omega
  ·have Cu:(∀z,1<=z->z<k->∀S:Nat->Bool,S 0=true->S z=false->jB<=jt S bs)/\∃S:Nat->Bool,S 0=true/\(∃z,z<cnt/\S z=false)/\jB=jt S bs:=by
    rcases hB with⟨_,h⟩|⟨_,h⟩
    ·omega
    ·exact h
   (try((repeat(revert hN;revert N;apply Pn.out));refine wk (tw @b0 (tw @b1 (tw @b6 (tw @b7 (tw @b8 (tw @kp @hw)))))) ?_;(repeat(refine Pn.mk ?_;intro N hN))))
   refine .inr (aE _ _ _ _ _ (fun r σ1 hq=>?_) ((CX val jB l' l (by omega) (by omega)).x mixed (by simp only[ae,aj,cr,aJ,BL,Option.map_some])))
   obtain⟨⟨b,rfl,L8,BE⟩,rfl⟩:=hq
   refine hN _ _ ?_
   clear hN N
   cases b with
   |true=>
    have WD:val<=jB:=by
     rcases Int.lt_or_le jB val with h|h
     ·exact absurd (BE h) (by simp)
     ·exact h
    (try((repeat(revert hN;revert N;apply Pn.out));refine wk (tw @b0 (tw @b1 (tw @b6 (tw @b7 (tw @b8 @hw))))) ?_;(repeat(refine Pn.mk ?_;intro N hN))))
    refine⟨_,?_,k+1,val,l',.sl (l'.map eN),rfl,by omega,by omega,sd (tw @b8 @hw),sd @Nat.zero_add,sd @Nat.zero_add,cr _ _ _,cr _ _ _,Mf,TJ fun z h1 h2 S' h3 h4=>by have:=Cu.1 z h1 h2 S' h3 h4;omega⟩
    omega
   |false=>
    have WD:jB<=val:=by
     rcases Int.lt_or_le val jB with h|h
     ·exact absurd (L8 h) (by simp)
     ·exact h
    (try((repeat(revert hN;revert N;apply Pn.out));refine wk (tw @b0 (tw @b1 (tw @b6 (tw @b7 (tw @b8 @hw))))) ?_;(repeat(refine Pn.mk ?_;intro N hN))))
    refine⟨_,?_,k+1,jB,l,p,rfl,by omega,by omega,sd (tw @b8 @hw),sd @b6,sd @b7,BL,k6,hl,.inr ⟨by omega,fun z h1 h2 S' h3 h4=>?_,Cu.2⟩⟩
    ·omega
    ·by_cases uA:z=k
     ·subst uA;have:=hf.bound h3 h4;omega
     ·exact Cu.1 z h1 (by omega) S' h3 h4
 ·have kT:k=cnt:=by omega
  (try((repeat(revert hN;revert N;apply Pn.out));refine wk (tw @b0 (tw @b1 (tw @b6 (tw @b7 (tw @b8 @hk))))) ?_;(repeat(refine Pn.mk ?_;intro N hN))))
  exact⟨[.int .i64 jB,p],sd @Nat.zero_add,.gD [.int .i64 jB,.sl (l.map eN)],by simp only[eW,bB,ae,aj,k6,aJ,Option.map_some],jB,_,rfl,wh.done h2 (kT▸hB)⟩
end Go.Proofs.YtgoelphibofcmaaGreat.V

namespace Go.Proofs.YtgoelphibofcmaaGreat.V
open Go.RowKit
attribute [local irreducible] dQ wpOps fX Call
attribute [local go_sem] aQ fM eU fY fW dm upd cG K.av cQ AV.cells AV.cell rowOf rowsOf part ld rowAt bQ cC dE ea gZ bS dh eo fV fj dB ef dd dc dS dU b4 bj cV bW cY cW ec eh ee cU ck de eb bV aU da cK gY bx cP cj bd dv bl dG AV.undef bH bK dW dZ dO dL cN ek eu cJ ej ei cZ db List.getD_cons_zero List.getD_cons_succ List.getD_nil List.all_cons List.all_nil Bool.and_true Bool.true_and Bool.and_self Bool.not_true Bool.not_false Option.map_some Option.map_none Option.bind_some Option.bind_none List.length_cons List.length_nil List.take_succ_cons List.take_zero List.take_nil List.drop_succ_cons List.drop_zero List.drop_nil List.head?_cons List.map_cons List.map_nil List.getElem?_cons_zero List.getElem?_cons_succ List.cons_append List.nil_append List.append_nil List.length_map List.set_cons_zero List.set_cons_succ Nat.reduceMul eq_self Int.toNat_natCast Int.natCast_nonneg and_self true_and and_true decide_true decide_false Bool.false_eq_true Nat.zero_add Nat.add_zero List.contains_cons List.contains_nil Bool.or_false Bool.false_or beq_self_eq_true Nat.reduceBEq ne_eq not_true_eq_false not_false_eq_true Id.mk.injEq false_and and_false Nat.reduceLT Int.reduceLE Int.reduceLT Int.reduceToNat Int.reduceNeg Int.reduceAdd Nat.le_refl List.length_append beq_true beq_false Bool.not_eq_eq_eq_not or_false false_or dX ae aj aJ bq bG cr aY bf aW bp cR bB
theorem NU {s:ax} (hS:iH s) (a d:Int):ua s (dH (dI s a) d)<=4:=by
 have hF:=hS.form
 have fe:dH (dI s a) d=0∨(0<=dH (dI s a) d/\dH (dI s a) d<=s.aB.length):=by
  unfold dH dI
  rw[List.getD_eq_getElem?_getD,List.getD_eq_getElem?_getD]
  rcases ht:s.ai[a.toNat]? with _|t
  ·exact .inl (by simp[AS])
  ·have S8:=List.mem_of_getElem? ht
   simp only[Option.getD_some]
   rcases hg:t.bL[d.toNat]? with _|g
   ·exact .inl rfl
   ·exact .inr (hF.xd t S8 g (List.mem_of_getElem? hg))
 unfold ua
 by_cases h0:dH (dI s a) d=0
 ·rw[if_pos h0];omega
 ·rw[if_neg h0]
  have hk:(dH (dI s a) d-1).toNat<s.aB.length:=by omega
  have:=eM (hS.Uc _ hk).2.1
  unfold qq at this
  unfold qZ
  omega
theorem B4 {s:ax} (hS:iH s) (a d b:Int):gw s a d b<=4:=by
 unfold gw
 split
 ·exact NU hS a d
 ·omega
theorem Hf {s:ax} {l:List ab} (hS:iH s) {i:Nat} (hi:i<l.length) {d:Int}:∀b∈nE s l i d,b.a<l.length/\b.b<l.length/\0<=b.s/\b.s<=4:=by
 intro b hb
 unfold nE at hb
 split at hb
 ·rename_i h
  simp only[List.mem_singleton]at hb
  subst hb
  exact⟨hi,(nI h.1).1,by simp only;omega,B4 hS ..⟩
 ·cases hb
theorem y7 {s:ax} {l:List ab} (hS:iH s):∀b∈dn s l,b.a<l.length/\b.b<l.length/\0<=b.s/\b.s<=4:=by
 intro b hb
 simp only[dn,ij,gx,List.mem_flatMap,List.mem_range]at hb
 obtain⟨i,hi,j,_,hb⟩:=hb
 exact Hf hS hi b hb
theorem qL {s:ax} {l:List ab} (hF:k9 l):(dn s l).length<=1000:=by
 have:=uk s l l.length
 have:=hF.yi
 rw[dn];omega
theorem Jt {bs:List PB} {e:Nat} (h:e<bs.length):cL bs e∈bs:=by
 rw[cL,List.getD_eq_getElem?_getD,List.getElem?_eq_getElem h];exact List.getElem_mem h
theorem HG {n:Nat} {bs:List PB} {t:Int} (h:n<2):la n bs t:=fun S h0 ⟨y,hy,hf⟩=>by
 have:y=0:=by omega
 subst this;rw[h0]at hf;cases hf
def iN (s:ax) (l:List ab) (t:Int):Nat:=(leads l.length (eO (aV t (dn s l)))).length
noncomputable def ot (s:ax) (l:List ab) (t:Int):Bool:=@decide (pU l.length (dn s l) t) (Classical.propDecidable _)
def tC (s:ax) (l:List ab) (t:Int):Int:=if 64<iN s l t then 4 else 0
theorem nj {s:ax} {l:List ab} {t:Int} {p:Prop} [Decidable p] (h:p↔pU l.length (dn s l) t):decide p=ot s l t:=by
 letI:=Classical.propDecidable (pU l.length (dn s l) t)
 unfold ot
 by_cases hp:p
 ·rw[decide_eq_true hp];exact(decide_eq_true (h.1 hp)).symm
 ·rw[decide_eq_false hp];exact(decide_eq_false fun k=>hp (h.2 k)).symm
theorem CZ (s:ax) (l:List ab) (t:Int) (hS:iH s) (hA:lN s l):aq Tryz.prog 158 [.du (ad s),.du [.sl (l.map aa)],.int .i64 t] (.gD [.bool (ot s l t),.int .i64 (tC s l t)]):=by
 refine aq.body eF rfl fun hl n0=>?_
 clear hl
 have hb:=y7 (l:=l) hS
 have qE:=qL (s:=s) hA.1
 have PX:=hA.1.yi
 have om:=Fe s l hS.form hA
 have te:=CY l.length (by omega) (dn s l) (fun b h=>⟨(hb b h).1,(hb b h).2.1⟩) (by omega) t
 have hL:=uC (aV t (dn s l))
 have fe:=FH hL (fun b h=>⟨(hb b h).1,(hb b h).2.1⟩)
 have hlen:=(nR (eO (aV t (dn s l))) (dn s l)).2
 have nG:=j7 l.length (eO (aV t (dn s l)))
 have gn:(l.map aa).length=l.length:=by simp
 by_cases uV:(64:Int)<(iN s l t:Int)
 ·have uW:64<iN s l t:=by omega
  have hd:ot s l t=false:=(nj (p:=False) ⟨False.elim,fun h=>by have:=h.1;unfold iN at uW;omega⟩).symm.trans (by simp)
  rw[iN]at uV
  (repeat(first|((repeat(revert hN;revert N;apply Pn.out));refine wk (tw @ad.eq_1 (tw @uV @gn)) ?_;(repeat(refine Pn.mk ?_;intro N hN)))|((try apply Or.inl);refine⟨_,aq.x (om) (sd (tw @ad.eq_1 (tw @uV @gn))),?_⟩;refine hN _ _ ?_;clear hN N)|((try apply Or.inl);refine⟨_,aq.x (te) (sd (tw @ad.eq_1 (tw @uV @gn))),?_⟩;refine hN _ _ ?_;clear hN N)))
  exact jL (.inl rfl) (r1:=.bool false) (r2:=.int .i64 4) (sd @Nat.zero_add) (sd @Nat.zero_add) (by rw[hd,tC,if_pos uW];simp only[e9,bt,cz,gh,er,Option.map_some])
 have uW:¬64<iN s l t:=by omega
 have hf:tC s l t=0:=by rw[tC,if_neg uW]
 by_cases h2:(iN s l t:Int)<2
 ·have hd:ot s l t=true:=(nj (p:=True) ⟨fun _=>⟨by unfold iN at uW;omega,HG (by unfold iN at h2;omega)⟩,fun _=>trivial⟩).symm.trans (by simp)
  rw[iN]at uV h2
  (repeat(first|((repeat(revert hN;revert N;apply Pn.out));refine wk (tw @ad.eq_1 (tw @uV (tw @h2 @gn))) ?_;(repeat(refine Pn.mk ?_;intro N hN)))|((try apply Or.inl);refine⟨_,aq.x (om) (sd (tw @ad.eq_1 (tw @uV (tw @h2 @gn)))),?_⟩;refine hN _ _ ?_;clear hN N)|((try apply Or.inl);refine⟨_,aq.x (te) (sd (tw @ad.eq_1 (tw @uV (tw @h2 @gn)))),?_⟩;refine hN _ _ ?_;clear hN N)))
  exact jL (.inl rfl) (r1:=.bool true) (r2:=.int .i64 0) (sd @Nat.zero_add) (sd @Nat.zero_add) (by rw[hd,hf];simp only[e9,bt,cz,gh,er,Option.map_some])
 have Qq:=AI (iN s l t) (by omega) (by unfold iN;omega) (fy (eO (aV t (dn s l))) (dn s l)) (fun e he=>by have:=fe _ (Jt he);exact⟨this.1,this.2.1,this.2.2.1⟩) (by omega) (fun e he=>by
  obtain⟨_,_,_,c,hc,dC⟩:=fe _ (Jt he)
  rw[dC];have:=hb c hc;omega)
 rw[iN]at uV h2 Qq
 (repeat(first|((repeat(revert hN;revert N;apply Pn.out));refine wk (tw @ad.eq_1 (tw @uV (tw @h2 @gn))) ?_;(repeat(refine Pn.mk ?_;intro N hN)))|((try apply Or.inl);refine⟨_,aq.x (om) (sd (tw @ad.eq_1 (tw @uV (tw @h2 @gn)))),?_⟩;refine hN _ _ ?_;clear hN N)|((try apply Or.inl);refine⟨_,aq.x (te) (sd (tw @ad.eq_1 (tw @uV (tw @h2 @gn)))),?_⟩;refine hN _ _ ?_;clear hN N)))
 refine .inr (aE _ _ _ _ _ (fun r σ1 hq=>?_) (Qq.x mixed))
 obtain⟨⟨jB,p,rfl,Sz⟩,rfl⟩:=hq
 refine hN _ _ ?_
 clear hN N
 (try((repeat(revert hN;revert N;apply Pn.out));refine wk @Nat.zero_add ?_;(repeat(refine Pn.mk ?_;intro N hN))))
 exact jL (.inl rfl) (r1:=.bool (decide (t<=jB))) (r2:=.int .i64 0) (sd @Nat.zero_add) (sd @Nat.zero_add) (by
  rw[hf,nj (s:=s) (l:=l) (t:=t) (p:=t<=jB) ((Sz t).trans (EV.trans ⟨fun h=>⟨by unfold iN at uW;omega,h⟩,fun h=>h.2⟩))]
  simp only[e9,bt,cz,gh,er,Option.map_some])
theorem tQ (t:Int):aq Tryz.prog 157 [.int .i64 t] (.bool (jl t 1 16)):=by
 refine aq.body eF rfl fun hl n0=>?_
 clear hl
 have h:=l6 t 1 16
 (repeat(first|((repeat(revert hN;revert N;apply Pn.out));refine wk @Nat.zero_add ?_;(repeat(refine Pn.mk ?_;intro N hN)))|((try apply Or.inl);refine⟨_,aq.x (h) (sd @Nat.zero_add),?_⟩;refine hN _ _ ?_;clear hN N)))
 exact bc (b:=jl t 1 16) (.inl rfl) (sd @Nat.zero_add) rfl
structure uN (s:aw):Prop where
 set:iH s.aI
 yU:lN s.aI s.bh.ai
 some:1<=s.bh.ai.length
 QS:jl s.ay 1 16=true
 holds:pU s.bh.ai.length (dn s.aI s.bh.ai) s.ay
noncomputable def nT (s:aw):Bool:=@decide (uN s) (Classical.propDecidable _)
theorem sY {s:aw}:nT s=true↔uN s:=by simp[nT]
theorem kh {s:aw} (h:¬uN s):false=nT s:=by simp[nT,h]
theorem Dy {s:aw} (h:uN s):true=nT s:=by simp[nT,h]
theorem qj {s:ax} {l:List ab} {t:Int}:ot s l t=true↔pU l.length (dn s l) t:=by simp[ot]
theorem Nn (s:aw) (hn:fm s.aI) (hg:s.aI.aB.length<=1048576) (ht:s.aI.ai.length<=1048576):aq Tryz.prog 96 [.du (ar s)] (.bool (nT s)):=by
 refine aq.body eF rfl fun hl n0=>?_
 clear hl
 have h1:=(Nk s.aI hn hg ht).cut mixed (.ptr _ [.sl (s.bh.ai.map aa),.int .i64 s.ay] .nil)
 by_cases hS:iH s.aI
 ·rw[pI.2 hS]at h1
  have h2:=(Nl s.aI s.bh.ai).cut mixed (.ptr _ [.sl (s.bh.ai.map aa),.int .i64 s.ay] (.ptr _ [.int .i64 s.ay] .nil))
  by_cases hA:lN s.aI s.bh.ai
  ·rw[oY.2 hA]at h2
   by_cases h0:(s.bh.ai.length:Int)=0
   ·have hd:decide ((s.bh.ai.length:Int)=0)=true:=decide_eq_true h0
    have kq:false=nT s:=kh fun h=>by have:=h.some;omega
    generalize gn:(s.bh.ai.map aa).length=len at *
    (repeat(first|((repeat(revert hN;revert N;apply Pn.out));refine wk (tw @ar.eq_1 (tw @ad.eq_1 @hd)) ?_;(repeat(refine Pn.mk ?_;intro N hN)))|((try apply Or.inl);refine⟨_,aq.x (h1) (sd (tw @ar.eq_1 (tw @ad.eq_1 @hd))),?_⟩;refine hN _ _ ?_;clear hN N)|((try apply Or.inl);refine⟨_,aq.x (h2) (sd (tw @ar.eq_1 (tw @ad.eq_1 @hd))),?_⟩;refine hN _ _ ?_;clear hN N)))
    exact bc (b:=false) (.inl rfl) (sd @Nat.zero_add) kq
   ·have hd:decide ((s.bh.ai.length:Int)=0)=false:=decide_eq_false h0
    have h3:=tQ s.ay
    cases hT:jl s.ay 1 16
    ·rw[hT]at h3
     (repeat(first|((repeat(revert hN;revert N;apply Pn.out));refine wk (tw @ar.eq_1 (tw @ad.eq_1 @hd)) ?_;(repeat(refine Pn.mk ?_;intro N hN)))|((try apply Or.inl);refine⟨_,aq.x (h1) (sd (tw @ar.eq_1 (tw @ad.eq_1 @hd))),?_⟩;refine hN _ _ ?_;clear hN N)|((try apply Or.inl);refine⟨_,aq.x (h2) (sd (tw @ar.eq_1 (tw @ad.eq_1 @hd))),?_⟩;refine hN _ _ ?_;clear hN N)|((try apply Or.inl);refine⟨_,aq.x (h3) (sd (tw @ar.eq_1 (tw @ad.eq_1 @hd))),?_⟩;refine hN _ _ ?_;clear hN N)))
     exact bc (b:=false) (.inl rfl) (sd @Nat.zero_add) (kh fun h=>by have:=h.QS;rw[hT]at this;cases this)
    ·rw[hT]at h3
     have h4:=(CZ s.aI s.bh.ai s.ay hS hA).cut mixed (.ptr _ [.sl (s.bh.ai.map aa),.int .i64 s.ay] (.ptr _ [.int .i64 s.ay] (.same _ .nil)))
     cases hB:ot s.aI s.bh.ai s.ay
     ·rw[hB]at h4
      (repeat(first|((repeat(revert hN;revert N;apply Pn.out));refine wk (tw @ar.eq_1 (tw @ad.eq_1 @hd)) ?_;(repeat(refine Pn.mk ?_;intro N hN)))|((try apply Or.inl);refine⟨_,aq.x (h1) (sd (tw @ar.eq_1 (tw @ad.eq_1 @hd))),?_⟩;refine hN _ _ ?_;clear hN N)|((try apply Or.inl);refine⟨_,aq.x (h2) (sd (tw @ar.eq_1 (tw @ad.eq_1 @hd))),?_⟩;refine hN _ _ ?_;clear hN N)|((try apply Or.inl);refine⟨_,aq.x (h3) (sd (tw @ar.eq_1 (tw @ad.eq_1 @hd))),?_⟩;refine hN _ _ ?_;clear hN N)|((try apply Or.inl);refine⟨_,aq.x (h4) (sd (tw @ar.eq_1 (tw @ad.eq_1 @hd))),?_⟩;refine hN _ _ ?_;clear hN N)))
      exact bc (b:=false) (.inl rfl) (sd @Nat.zero_add) (kh fun h=>by have:=qj.2 h.holds;rw[hB]at this;cases this)
     ·have hP:=qj.1 hB
      have hf:tC s.aI s.bh.ai s.ay=0:=by
       have:=hP.1
       rw[tC,if_neg (by unfold iN;omega)]
      rw[hB,hf]at h4
      (repeat(first|((repeat(revert hN;revert N;apply Pn.out));refine wk (tw @ar.eq_1 (tw @ad.eq_1 @hd)) ?_;(repeat(refine Pn.mk ?_;intro N hN)))|((try apply Or.inl);refine⟨_,aq.x (h1) (sd (tw @ar.eq_1 (tw @ad.eq_1 @hd))),?_⟩;refine hN _ _ ?_;clear hN N)|((try apply Or.inl);refine⟨_,aq.x (h2) (sd (tw @ar.eq_1 (tw @ad.eq_1 @hd))),?_⟩;refine hN _ _ ?_;clear hN N)|((try apply Or.inl);refine⟨_,aq.x (h3) (sd (tw @ar.eq_1 (tw @ad.eq_1 @hd))),?_⟩;refine hN _ _ ?_;clear hN N)|((try apply Or.inl);refine⟨_,aq.x (h4) (sd (tw @ar.eq_1 (tw @ad.eq_1 @hd))),?_⟩;refine hN _ _ ?_;clear hN N)))
      exact bc (b:=true) (.inl rfl) (sd @Nat.zero_add) (Dy ⟨hS,hA,by omega,hT,hP⟩)
  ·have hb:tp s.aI s.bh.ai=false:=Bool.eq_false_iff.2 fun h=>hA (oY.1 h)
   rw[hb]at h2
   (repeat(first|((repeat(revert hN;revert N;apply Pn.out));refine wk (tw @ar.eq_1 @ad.eq_1) ?_;(repeat(refine Pn.mk ?_;intro N hN)))|((try apply Or.inl);refine⟨_,aq.x (h1) (sd (tw @ar.eq_1 @ad.eq_1)),?_⟩;refine hN _ _ ?_;clear hN N)|((try apply Or.inl);refine⟨_,aq.x (h2) (sd (tw @ar.eq_1 @ad.eq_1)),?_⟩;refine hN _ _ ?_;clear hN N)))
   exact bc (b:=false) (.inl rfl) (sd @Nat.zero_add) (kh fun h=>hA h.yU)
 ·have hb:sR s.aI=false:=Bool.eq_false_iff.2 fun h=>hS (pI.1 h)
  rw[hb]at h1
  (repeat(first|((repeat(revert hN;revert N;apply Pn.out));refine wk (tw @ar.eq_1 @ad.eq_1) ?_;(repeat(refine Pn.mk ?_;intro N hN)))|((try apply Or.inl);refine⟨_,aq.x (h1) (sd (tw @ar.eq_1 @ad.eq_1)),?_⟩;refine hN _ _ ?_;clear hN N)))
  exact bc (b:=false) (.inl rfl) (sd @Nat.zero_add) (kh fun h=>hS h.set)
end Go.Proofs.YtgoelphibofcmaaGreat.V

namespace Go.Proofs.YtgoelphibofcmaaGreat.V
open Go.RowKit
attribute [local irreducible] dQ wpOps fX Call
attribute [local go_sem] aQ fM eU fY fW dm upd cG K.av cQ AV.cells AV.cell rowOf rowsOf part ld rowAt bQ cC dE ea gZ bS dh eo fV fj dB ef dd dc dS dU b4 bj cV bW cY cW ec eh ee cU ck de eb bV aU da cK gY bx cP cj bd dv bl dG AV.undef bH bK dW dZ dO dL cN ek eu cJ ej ei cZ db List.getD_cons_zero List.getD_cons_succ List.getD_nil List.all_cons List.all_nil Bool.and_true Bool.true_and Bool.and_self Bool.not_true Bool.not_false Option.map_some Option.map_none Option.bind_some Option.bind_none List.length_cons List.length_nil List.take_succ_cons List.take_zero List.take_nil List.drop_succ_cons List.drop_zero List.drop_nil List.head?_cons List.map_cons List.map_nil List.getElem?_cons_zero List.getElem?_cons_succ List.cons_append List.nil_append List.append_nil List.length_map List.set_cons_zero List.set_cons_succ Nat.reduceMul eq_self Int.toNat_natCast Int.natCast_nonneg and_self true_and and_true decide_true decide_false Bool.false_eq_true Nat.zero_add Nat.add_zero List.contains_cons List.contains_nil Bool.or_false Bool.false_or beq_self_eq_true Nat.reduceBEq ne_eq not_true_eq_false not_false_eq_true Id.mk.injEq false_and and_false Nat.reduceLT Int.reduceLE Int.reduceLT Int.reduceToNat Int.reduceNeg Int.reduceAdd Nat.le_refl List.length_append beq_true beq_false Bool.not_eq_eq_eq_not or_false false_or dX ae aj aJ bq bG cr aY bf aW bp cR bB
theorem NT {s:ax} (hS:iH s) (a d:Int):0<=ua s (dH (dI s a) d):=by
 have hF:=hS.form
 have fe:dH (dI s a) d=0∨(0<=dH (dI s a) d/\dH (dI s a) d<=s.aB.length):=by
  unfold dH dI
  rw[List.getD_eq_getElem?_getD,List.getD_eq_getElem?_getD]
  rcases ht:s.ai[a.toNat]? with _|t
  ·exact .inl (by simp[AS])
  ·have S8:=List.mem_of_getElem? ht
   simp only[Option.getD_some]
   rcases hg:t.bL[d.toNat]? with _|g
   ·exact .inl rfl
   ·exact .inr (hF.xd t S8 g (List.mem_of_getElem? hg))
 unfold ua
 by_cases h0:dH (dI s a) d=0
 ·rw[if_pos h0];omega
 ·rw[if_neg h0]
  have hk:(dH (dI s a) d-1).toNat<s.aB.length:=by omega
  have:=eM (hS.Uc _ hk).2.1
  unfold qq at this
  unfold qZ
  omega
theorem wN {s:ax} (hS:iH s) (a d b:Int):0<=gw s a d b/\gw s a d b<=4:=by
 refine⟨?_,B4 hS a d b⟩
 unfold gw
 split
 ·exact NT hS a d
 ·omega
def eB (s:ax) (f:aM->Int) (p:aM) (t:Int):Nat->Int
 |0=>0
 |d+1=>eB s f p t d+if 0<=f (cH p d)then gw s t d (f (cH p d))else 0
def qC (s:ax) (f:aM->Int) (p:aM) (t:Int):Int:=eB s f p t 4
theorem lU {s:ax} (hS:iH s) (f:aM->Int) (p:aM) (t:Int):∀d,0<=eB s f p t d/\eB s f p t d<=4*(d:Int)
 |0=>⟨Int.le_refl _,Int.le_refl _⟩
 |d+1=>by
  have:=lU hS f p t d
  have hb:=wN hS t d (f (cH p d))
  simp only[eB]
  split<;>omega
theorem BV {s:ax} {l:List ab} (hA:lN s l) {p:aM} (h:0<=gV l p):ev s (gV l p)=true:=by
 unfold gV at h ⊢
 split at h
 ·rename_i h0
  rw[if_pos h0]
  exact hA.2 _ (lv (nI h0).1)
 ·omega
theorem so (s:ax) (hS:iH s) (l:List ab) (hA:lN s l) (p:aM) (hx:iB p.fc) (hy:iB p.eR) (t:Int) (ht:ev s t=true):aq Tryz.prog 138 [.du (ad s),.du [.sl (l.map aa)],.agg (ah p),.int .i64 t] (.int .i64 (qC s (gV l) p t)):=by
 refine aq.body eF rfl fun hl n0=>?_
 clear hl
 have hR:=hA.1.Lo
 have MM:l.length<=1048576:=by have:=hA.1.yi;omega
 (try((repeat(revert hN;revert N;apply Pn.out));refine wk @ah.eq_1 ?_;(repeat(refine Pn.mk ?_;intro N hN))))
 refine aZ (fun n env st=>∃k:Nat,n=(4)-k/\k<=(4)/\env 10=.int .i64 (k:Int)/\env 9=.int .i64 (eB s (gV l) p t k)/\st.get ⟨138000000,n0⟩=some ⟨true,2,[ah p]⟩) (4) ⟨0,by omega,by omega,sl @ah.eq_1,sl @ah.eq_1,sl @ah.eq_1⟩ ?_
 rintro n_a env_a st_a ⟨k,rfl,ale,mD,a9,ag0⟩ dy
 have a0:=dy 0 (by kernel_rfl);have a1:=dy 1 (by kernel_rfl);have a3:=dy 3 (by kernel_rfl);have a6:=dy 6 (by kernel_rfl)
 simp only[go_sem, ↓reduceIte,Nat.reduceEqDiff,Nat.reduceAdd,Nat.reduceSub,Nat.reduceLeDiff,reduceCtorEq,ah]at a0 a1 a3 a6
 clear dy
 by_cases hk:(k:Int)<4
 ·have cw:∀{e:Env} {gg:Rows},(e 10=.int .i64 (IntKind.i64.wrap ((k:Int)+1)))->(e 9=.int .i64 (eB s (gV l) p t (k+1)))->(gg ⟨138000000,n0⟩=some ⟨true,2,[ah p]⟩)->∃m0,m0<(4)-k/\∃k:Nat,m0=(4)-k/\k<=(4)/\e 10=.int .i64 (k:Int)/\e 9=.int .i64 (eB s (gV l) p t k)/\gg ⟨138000000,n0⟩=some ⟨true,2,[ah p]⟩:=fun x1 x2 x3=>⟨_,by omega,k+1,rfl,by omega,(by rw[x1,aD (by omega)]),x2,x3⟩
  have dJ:=pY p k (gr (by omega)) hx hy
  have xf:=GD l (cH p k) hR MM
  have fe:=lU hS (gV l) p t k
  by_cases h0:0<=gV l (cH p k)
  ·have om:=tP s hS.form t k (gV l (cH p k)) ht (BV hA h0) (gr (by omega))
   have gm:=wN hS t k (gV l (cH p k))
   have hw:IntKind.i64.wrap (eB s (gV l) p t k+gw s t k (gV l (cH p k)))=eB s (gV l) p t (k+1):=by
    rw[bI (by omega),eB,if_pos h0]
   (repeat(first|((repeat(revert hN;revert N;apply Pn.out));refine wk (tw @mD (tw @a9 (tw @ag0 (tw @a0 (tw @a1 (tw @a3 (tw @a6 (tw @hk (tw @h0 @ah.eq_1))))))))) ?_;(repeat(refine Pn.mk ?_;intro N hN)))|((try apply Or.inl);refine⟨_,aq.x (dJ) (sd (tw @mD (tw @a9 (tw @ag0 (tw @a0 (tw @a1 (tw @a3 (tw @a6 (tw @hk (tw @h0 @ah.eq_1)))))))))),?_⟩;refine hN _ _ ?_;clear hN N)|((try apply Or.inl);refine⟨_,aq.x (xf) (sd (tw @mD (tw @a9 (tw @ag0 (tw @a0 (tw @a1 (tw @a3 (tw @a6 (tw @hk (tw @h0 @ah.eq_1)))))))))),?_⟩;refine hN _ _ ?_;clear hN N)|((try apply Or.inl);refine⟨_,aq.x (om) (sd (tw @mD (tw @a9 (tw @ag0 (tw @a0 (tw @a1 (tw @a3 (tw @a6 (tw @hk (tw @h0 @ah.eq_1)))))))))),?_⟩;refine hN _ _ ?_;clear hN N)))
   refine cw ?_ ?_ ?_
   all_goals simp only[go_sem, ↓reduceIte,Nat.reduceEqDiff,Nat.reduceAdd,Nat.reduceSub,Nat.reduceLeDiff,reduceCtorEq,mD,a9,ag0,a0,a1,a3,a6,hw,ah]
  ·have hw:eB s (gV l) p t (k+1)=eB s (gV l) p t k:=by rw[eB,if_neg h0,Int.add_zero]
   (repeat(first|((repeat(revert hN;revert N;apply Pn.out));refine wk (tw @mD (tw @a9 (tw @ag0 (tw @a0 (tw @a1 (tw @a3 (tw @a6 (tw @hk (tw @h0 @ah.eq_1))))))))) ?_;(repeat(refine Pn.mk ?_;intro N hN)))|((try apply Or.inl);refine⟨_,aq.x (dJ) (sd (tw @mD (tw @a9 (tw @ag0 (tw @a0 (tw @a1 (tw @a3 (tw @a6 (tw @hk (tw @h0 @ah.eq_1)))))))))),?_⟩;refine hN _ _ ?_;clear hN N)|((try apply Or.inl);refine⟨_,aq.x (xf) (sd (tw @mD (tw @a9 (tw @ag0 (tw @a0 (tw @a1 (tw @a3 (tw @a6 (tw @hk (tw @h0 @ah.eq_1)))))))))),?_⟩;refine hN _ _ ?_;clear hN N)))
   refine cw ?_ ?_ ?_
   all_goals simp only[go_sem, ↓reduceIte,Nat.reduceEqDiff,Nat.reduceAdd,Nat.reduceSub,Nat.reduceLeDiff,reduceCtorEq,mD,a9,ag0,a0,a1,a3,a6,hw,ah]
 ·(try((repeat(revert hN;revert N;apply Pn.out));refine wk (tw @mD (tw @a9 (tw @ag0 (tw @a0 (tw @a1 (tw @a3 (tw @a6 @hk))))))) ?_;(repeat(refine Pn.mk ?_;intro N hN))))
  exact dj (b:=eB s (gV l) p t k) (.inl rfl) (sd (tw @mD (tw @a9 (tw @ag0 (tw @a0 (tw @a1 (tw @a3 @a6))))))) (by rw[show k=4 by omega];rfl)
theorem Ey {f:Nat->Bool} {n k:Nat} (h1:k<n) (h2:f k=true) (h3:∀j,j<k->f j=false):(List.range n).find? f=some k:=by
 rw[List.find?_range_eq_some]
 exact⟨h2,List.mem_range.2 h1,fun j hj=>by rw[h3 j hj];rfl⟩
theorem uU {f:Nat->Bool} {n:Nat} (h:∀j,j<n->f j=false):(List.range n).find? f=none:=by
 rw[List.find?_range_eq_none]
 exact fun j hj=>by rw[h j hj];rfl
theorem LH {s:ax} {k:Nat} (h:k<s.ai.length):ev s k=true:=by
 unfold ev;exact gr (by omega)
theorem Ai {s:ax} {l:List ab} (hA:lN s l) (p:aM):gV l p<0↔eY l p<0:=by
 constructor
 ·intro h
  rcases Int.lt_or_le (eY l p) 0 with h0|h0
  ·exact h0
  ·exfalso
   obtain⟨h1,_⟩:=nI h0
   have h2:=(eM (hA.2 _ (lv h1))).1
   rw[gV,if_pos h0]at h
   omega
 ·intro h
  rw[gV,if_neg (by omega)];omega
end Go.Proofs.YtgoelphibofcmaaGreat.V

namespace Go.Proofs.YtgoelphibofcmaaGreat.V
open Go.RowKit
attribute [local irreducible] dQ wpOps fX Call
attribute [local go_sem] aQ fM eU fY fW dm upd cG K.av cQ AV.cells AV.cell rowOf rowsOf part ld rowAt bQ cC dE ea gZ bS dh eo fV fj dB ef dd dc dS dU b4 bj cV bW cY cW ec eh ee cU ck de eb bV aU da cK gY bx cP cj bd dv bl dG AV.undef bH bK dW dZ dO dL cN ek eu cJ ej ei cZ db List.getD_cons_zero List.getD_cons_succ List.getD_nil List.all_cons List.all_nil Bool.and_true Bool.true_and Bool.and_self Bool.not_true Bool.not_false Option.map_some Option.map_none Option.bind_some Option.bind_none List.length_cons List.length_nil List.take_succ_cons List.take_zero List.take_nil List.drop_succ_cons List.drop_zero List.drop_nil List.head?_cons List.map_cons List.map_nil List.getElem?_cons_zero List.getElem?_cons_succ List.cons_append List.nil_append List.append_nil List.length_map List.set_cons_zero List.set_cons_succ Nat.reduceMul eq_self Int.toNat_natCast Int.natCast_nonneg and_self true_and and_true decide_true decide_false Bool.false_eq_true Nat.zero_add Nat.add_zero List.contains_cons List.contains_nil Bool.or_false Bool.false_or beq_self_eq_true Nat.reduceBEq ne_eq not_true_eq_false not_false_eq_true Id.mk.injEq false_and and_false Nat.reduceLT Int.reduceLE Int.reduceLT Int.reduceToNat Int.reduceNeg Int.reduceAdd Nat.le_refl List.length_append beq_true beq_false Bool.not_eq_eq_eq_not or_false false_or dX ae aj aJ bq bG cr aY bf aW bp cR bB
abbrev mP:MK:=⟨true,[.tI,.tI]⟩
theorem C7 (p:aM):∀(ts:List ab) (i:Nat),gz mP (ah p) (ts.map aa) i=some (if qw ts p<ts.length then some (i+qw ts p)else none)
 |[],i=>by simp[gz,qw]
 |t::ts,i=>by
  have e:fj mP.ts (ah p) ((aa t).take mP.ks)=some (decide (p=t.aL)):=by
   have h:(p=t.aL)↔(p.fc=t.aL.fc/\p.eR=t.aL.eR):=⟨fun h=>by rw[h];exact⟨rfl,rfl⟩,fun h=>Fx h.1 h.2⟩
   simp[MK.ks,ah,aa,fj,fV,h]
  have ih:=C7 p ts (i+1)
  rw[List.map_cons]
  unfold gz
  rw[e]
  by_cases h:p=t.aL
  ·rw[decide_eq_true h]
   have h0:qw (t::ts) p=0:=by simp[qw,List.findIdx_cons,h]
   simp[h0]
  ·rw[decide_eq_false h]
   have h0:qw (t::ts) p=qw ts p+1:=by
    simp[qw,List.findIdx_cons,Ne.symm h]
   simp only[ih,h0,List.length_cons,Nat.add_lt_add_iff_right]
   congr 1
   split<;>simp;omega
theorem zC (ts:List ab) (p:aM):gi mP (.agg [.int .i64 p.fc,.int .i64 p.eR]) (ts.map aa)=some (if 0<=eY ts p then some (eY ts p).toNat else none):=by
 have h:=C7 p ts 0
 unfold gi
 rw[if_pos ⟨rfl,rfl,rfl⟩]
 show gz mP (ah p) _ 0= _
 rw[h]
 unfold eY
 split<;>simp
theorem H9 {ts:List ab} {p:aM} (h:0<=eY ts p):gi mP (.agg [.int .i64 p.fc,.int .i64 p.eR]) (ts.map aa)=some (some (eY ts p).toNat):=by rw[zC,if_pos h]
theorem rL {ts:List ab} {p:aM} (h:eY ts p<0):gi mP (.agg [.int .i64 p.fc,.int .i64 p.eR]) (ts.map aa)=some none:=by rw[zC,if_neg (by omega)]
structure BO (g:Rows) (n:Nat) (c T O:Id) (s:aw) (ts:List ab):Prop where
 row:∃b,g c=some ⟨b,6,[[.sl (s.aI.aB.map cq),.sl (s.aI.ai.map bJ),.sl (s.bh.ai.map aa),.int .i64 s.ay,.map T mP,.map O mP]]⟩
 tl:∃b,g T=some ⟨b,mP.qe,ts.map aa⟩
 cv:c.bE<n
 tv:T.bE<n
 ov:O.bE<n
theorem BO.ro {g:Rows} {n:Nat} {c T O:Id} {s:aw} {ts:List ab} (h:BO g n c T O s ts):BO (V.ro g) n c T O s ts:=by
 obtain⟨b,h1⟩:=h.row
 obtain⟨b2,h2⟩:=h.tl
 exact⟨⟨false,by simp[V.ro,h1]⟩,⟨false,by simp[V.ro,h2]⟩,h.cv,h.tv,h.ov⟩
theorem BO.frame {g g':Rows} {n n':Nat} {c T O:Id} {s:aw} {ts:List ab} (h:BO g n c T O s ts) (hn:n<=n') (hc:g' c=g c) (hT:g' T=g T):BO g' n' c T O s ts:=
 ⟨by rw[hc];exact h.row,by rw[hT];exact h.tl,Nat.lt_of_lt_of_le h.cv hn,Nat.lt_of_lt_of_le h.tv hn,Nat.lt_of_lt_of_le h.ov hn⟩
theorem Vd {σ:au} {c T O:Id} {s:aw} {ts:List ab} (h:BO σ.get σ.next c T O s ts) (p:aM):Call Tryz.prog 121 [.ptr c 0 0,.agg (ah p)] σ (fun r _=>r=.int .i64 (gV ts p)):=by
 refine eJ eF rfl fun iQ=>?_
 clear iQ
 obtain⟨b,h1⟩:=h.row
 obtain⟨b2,h2⟩:=h.tl
 have v1:=dr h.cv
 have v2:=dr h.tv
 by_cases h0:0<=eY ts p
 ·have hm:=H9 h0
  have hg:=fw (nI h0).1
  have ho:(some (eY ts p).toNat).isSome=true:=rfl
  (try((repeat(revert hN;revert N;apply Pn.out));refine wk (tw @h1 (tw @h2 (tw @v1 (tw @v2 (tw @hm (tw @hg (tw @ho (tw @ah.eq_1 @aa.eq_1)))))))) ?_;(repeat(refine Pn.mk ?_;intro N hN))))
  exact eV (.inl rfl) (vs:=[.int .i64 (aA ts (eY ts p).toNat).aT]) (sd @Nat.zero_add) (by rw[gV,if_pos h0];rfl)
 ·have hm:=rL (ts:=ts) (p:=p) (by omega)
  have ho:(none:Option Nat).isSome=false:=rfl
  (try((repeat(revert hN;revert N;apply Pn.out));refine wk (tw @h1 (tw @h2 (tw @v1 (tw @v2 (tw @hm (tw @ho @ah.eq_1)))))) ?_;(repeat(refine Pn.mk ?_;intro N hN))))
  exact eV (.inl rfl) (vs:=[.int .i64 (-1)]) (sd @Nat.zero_add) (by rw[gV,if_neg h0];rfl)
theorem Mr {σ:au} {c T O:Id} {s:aw} {ts:List ab} (h:BO σ.get σ.next c T O s ts) (p:aM):fX (Call Tryz.prog) 121 [.ptr c 0 0,.agg (ah p)] σ (fun r=>r=.int .i64 (gV ts p)):=by
 unfold fX PC
 exact Or.inl (aE _ _ _ _ _ (fun r σ' hr=>⟨_,by rw[hr];exact aJ _ _ _ _,rfl⟩) (Vd (σ:=⟨V.ro σ.get,σ.next⟩) h.ro p))
theorem Hd {σ:au} (s:ax) (hS:iH s) (F:aM->Int) (hF:∀q,0<=F q->ev s (F q)=true) (p:aM) (hx:iB p.fc) (hy:iB p.eR) (t:Int) (ht:ev s t=true) (f:Nat) (first:List AV)
  (xf:∀σ':au,σ.next<=σ'.next->(∀x:Id,x.bE<σ.next->σ'.get x=σ.get x)->∀q,fX (Call Tryz.prog) f (first++[.agg (ah q)]) σ' (fun r=>r=.int .i64 (F q))):
  Call Tryz.prog 120 [.agg (ad s),.agg (ah p),.int .i64 t,.uE f first] σ (fun r _=>r=.int .i64 (qC s F p t)):=by
 refine eJ eF rfl fun iQ=>?_
 clear iQ
 (try((repeat(revert hN;revert N;apply Pn.out));refine wk (tw @ah.eq_1 @ad.eq_1) ?_;(repeat(refine Pn.mk ?_;intro N hN))))
 refine aZ (fun n env st=>∃k:Nat,n=(4)-k/\k<=(4)/\env 12=.int .i64 (k:Int)/\env 9=.int .i64 (eB s F p t k)/\st.get ⟨120000000,σ.next⟩=some ⟨true,2,[ad s]⟩/\st.get ⟨120000001,σ.next⟩=some ⟨true,2,[ah p]⟩/\(σ.next<st.next/\∀x:Id,x.bE<σ.next->st.get x=σ.get x)) (4) ⟨0,by omega,by omega,sl (tw @ah.eq_1 @ad.eq_1),sl (tw @ah.eq_1 @ad.eq_1),sl (tw @ah.eq_1 @ad.eq_1),sl (tw @ah.eq_1 @ad.eq_1),⟨by(try dsimp only);omega,fun x hx=>by
  have:=dr hx
  simp only[go_sem, ↓reduceIte,Nat.reduceEqDiff,Nat.reduceAdd,Nat.reduceSub,Nat.reduceLeDiff,reduceCtorEq,this]⟩⟩ ?_
 rintro n_a env_a st_a ⟨k,rfl,ale,a12,a9,ag0,ag1,jO⟩ dy
 have a2:=dy 2 (by kernel_rfl);have a3:=dy 3 (by kernel_rfl);have a4:=dy 4 (by kernel_rfl);have a5:=dy 5 (by kernel_rfl)
 simp only[go_sem, ↓reduceIte,Nat.reduceEqDiff,Nat.reduceAdd,Nat.reduceSub,Nat.reduceLeDiff,reduceCtorEq,ah,ad]at a2 a3 a4 a5
 clear dy
 obtain⟨an,dy⟩:=jO
 by_cases hk:(k:Int)<4
 ·have cw:∀{e:Env} {gg:Rows} {nx:Nat},(e 12=.int .i64 (IntKind.i64.wrap ((k:Int)+1)))->(e 9=.int .i64 (eB s F p t (k+1)))->(gg ⟨120000000,σ.next⟩=some ⟨true,2,[ad s]⟩)->(gg ⟨120000001,σ.next⟩=some ⟨true,2,[ah p]⟩)->(σ.next<nx/\∀x:Id,x.bE<σ.next->gg x=σ.get x)->∃m0,m0<(4)-k/\∃k:Nat,m0=(4)-k/\k<=(4)/\e 12=.int .i64 (k:Int)/\e 9=.int .i64 (eB s F p t k)/\gg ⟨120000000,σ.next⟩=some ⟨true,2,[ad s]⟩/\gg ⟨120000001,σ.next⟩=some ⟨true,2,[ah p]⟩/\(σ.next<nx/\∀x:Id,x.bE<σ.next->gg x=σ.get x):=fun x1 x2 x3 x4 x5=>⟨_,by omega,k+1,rfl,by omega,(by rw[x1,aD (by omega)]),x2,x3,x4,x5⟩
  have dJ:=xX p k (gr (by omega)) hx hy
  have fe:=lU hS F p t k
  (repeat(first|((repeat(revert hN;revert N;apply Pn.out));refine wk (tw @a12 (tw @a9 (tw @ag0 (tw @ag1 (tw @a2 (tw @a3 (tw @a4 (tw @a5 (tw @hk @ah.eq_1))))))))) ?_;(repeat(refine Pn.mk ?_;intro N hN)))|((try apply Or.inl);refine⟨_,aq.x (dJ) (sd (tw @a12 (tw @a9 (tw @ag0 (tw @ag1 (tw @a2 (tw @a3 (tw @a4 (tw @a5 (tw @hk @ah.eq_1)))))))))),?_⟩;refine hN _ _ ?_;clear hN N)))
  refine .inl ⟨_,xf _ (by(try dsimp only);omega) (fun x hx=>sd (dy x hx)) (cH p k),?_⟩
  refine hN _ _ ?_
  clear hN N
  by_cases h0:0<=F (cH p k)
  ·have om:=Em s hS.form t k (F (cH p k)) ht (hF _ h0) (gr (by omega))
   have gm:=wN hS t k (F (cH p k))
   have hw:IntKind.i64.wrap (eB s F p t k+gw s t k (F (cH p k)))=eB s F p t (k+1):=by
    rw[bI (by omega),eB,if_pos h0]
   rw[ad]at om
   (repeat(first|((repeat(revert hN;revert N;apply Pn.out));refine wk (tw @a12 (tw @a9 (tw @ag0 (tw @ag1 (tw @a2 (tw @a3 (tw @a4 (tw @a5 (tw @h0 @ad.eq_1))))))))) ?_;(repeat(refine Pn.mk ?_;intro N hN)))|((try apply Or.inl);refine⟨_,aq.x (om) (sd (tw @a12 (tw @a9 (tw @ag0 (tw @ag1 (tw @a2 (tw @a3 (tw @a4 (tw @a5 (tw @h0 @ad.eq_1)))))))))),?_⟩;refine hN _ _ ?_;clear hN N)))
   refine cw ?_ ?_ ?_ ?_ (⟨by(try dsimp only);omega,fun x hx=>by
    have h1:=dy x hx
    simp only[go_sem, ↓reduceIte,Nat.reduceEqDiff,Nat.reduceAdd,Nat.reduceSub,Nat.reduceLeDiff,reduceCtorEq,h1]⟩)
   all_goals simp only[go_sem, ↓reduceIte,Nat.reduceEqDiff,Nat.reduceAdd,Nat.reduceSub,Nat.reduceLeDiff,reduceCtorEq,a12,a9,ag0,ag1,a2,a3,a4,a5,hw,ah,ad]
  ·have hw:eB s F p t (k+1)=eB s F p t k:=by rw[eB,if_neg h0,Int.add_zero]
   (try((repeat(revert hN;revert N;apply Pn.out));refine wk (tw @a12 (tw @a9 (tw @ag0 (tw @ag1 (tw @a2 (tw @a3 (tw @a4 (tw @a5 @h0)))))))) ?_;(repeat(refine Pn.mk ?_;intro N hN))))
   refine cw ?_ ?_ ?_ ?_ (⟨by(try dsimp only);omega,fun x hx=>by
    have h1:=dy x hx
    simp only[go_sem, ↓reduceIte,Nat.reduceEqDiff,Nat.reduceAdd,Nat.reduceSub,Nat.reduceLeDiff,reduceCtorEq,h1]⟩)
   all_goals simp only[go_sem, ↓reduceIte,Nat.reduceEqDiff,Nat.reduceAdd,Nat.reduceSub,Nat.reduceLeDiff,reduceCtorEq,a12,a9,ag0,ag1,a2,a3,a4,a5,hw,ah,ad]
 ·(try((repeat(revert hN;revert N;apply Pn.out));refine wk (tw @a12 (tw @a9 (tw @ag0 (tw @ag1 (tw @a2 (tw @a3 (tw @a4 (tw @a5 @hk)))))))) ?_;(repeat(refine Pn.mk ?_;intro N hN))))
  exact eV (.inl rfl) (vs:=[.int .i64 (eB s F p t k)]) (sd (tw @a12 (tw @a9 (tw @ag0 (tw @ag1 (tw @a2 (tw @a3 (tw @a4 @a5)))))))) (by rw[show k=4 by omega];rfl)
end Go.Proofs.YtgoelphibofcmaaGreat.V

namespace Go.Proofs.YtgoelphibofcmaaGreat.V
open Go.RowKit
attribute [local irreducible] dQ wpOps fX Call
attribute [local go_sem] aQ fM eU fY fW dm upd cG K.av cQ AV.cells AV.cell rowOf rowsOf part ld rowAt bQ cC dE ea gZ bS dh eo fV fj dB ef dd dc dS dU b4 bj cV bW cY cW ec eh ee cU ck de eb bV aU da cK gY bx cP cj bd dv bl dG AV.undef bH bK dW dZ dO dL cN ek eu cJ ej ei cZ db List.getD_cons_zero List.getD_cons_succ List.getD_nil List.all_cons List.all_nil Bool.and_true Bool.true_and Bool.and_self Bool.not_true Bool.not_false Option.map_some Option.map_none Option.bind_some Option.bind_none List.length_cons List.length_nil List.take_succ_cons List.take_zero List.take_nil List.drop_succ_cons List.drop_zero List.drop_nil List.head?_cons List.map_cons List.map_nil List.getElem?_cons_zero List.getElem?_cons_succ List.cons_append List.nil_append List.append_nil List.length_map List.set_cons_zero List.set_cons_succ Nat.reduceMul eq_self Int.toNat_natCast Int.natCast_nonneg and_self true_and and_true decide_true decide_false Bool.false_eq_true Nat.zero_add Nat.add_zero List.contains_cons List.contains_nil Bool.or_false Bool.false_or beq_self_eq_true Nat.reduceBEq ne_eq not_true_eq_false not_false_eq_true Id.mk.injEq false_and and_false Nat.reduceLT Int.reduceLE Int.reduceLT Int.reduceToNat Int.reduceNeg Int.reduceAdd Nat.le_refl List.length_append beq_true beq_false Bool.not_eq_eq_eq_not or_false false_or dX ae aj aJ bq bG cr aY bf aW bp cR bB
noncomputable def iI (s:aw) (ts:List ab) (p:aM) (t:Int):Bool:=vk p&&decide (gV ts p<0)&&decide (s.ay<=qC s.aI (gV ts) p t)
theorem He {σ:au} {c T O:Id} {s:aw} {ts:List ab} (h:BO σ.get σ.next c T O s ts) (hS:iH s.aI) (hF:∀q,0<=gV ts q->ev s.aI (gV ts q)=true) (p:aM) (hx:iB p.fc) (hy:iB p.eR) (t:Int) (ht:ev s.aI t=true):
  fX (Call Tryz.prog) 120 [.agg (ad s.aI),.agg (ah p),.int .i64 t,.uE 121 [.ptr c 0 0]] σ (fun r=>r=.int .i64 (qC s.aI (gV ts) p t)):=by
 unfold fX PC
 exact Or.inl (aE _ _ _ _ _ (fun r σ' hr=>⟨_,by rw[hr];exact aJ _ _ _ _,rfl⟩) (Hd (σ:=⟨V.ro σ.get,σ.next⟩) s.aI hS (gV ts) hF p hx hy t ht _ _
  (fun σ' hn hk q=>Mr (h.ro.frame hn (hk _ h.cv) (hk _ h.tv)) q)))
theorem Pr {σ:au} {c T O:Id} {s:aw} {ts:List ab} (h:BO σ.get σ.next c T O s ts) (hS:iH s.aI) (hF:∀q,0<=gV ts q->ev s.aI (gV ts q)=true) (p:aM) (t:Int) (ht:ev s.aI t=true):
  Call Tryz.prog 133 [.ptr c 0 0,.agg (ah p),.int .i64 t] σ (fun r _=>r=.bool (iI s ts p t)):=by
 refine eJ eF rfl fun iQ=>?_
 clear iQ
 obtain⟨b,h1⟩:=h.row
 have v1:=dr h.cv
 have hw:=rW p
 have v2:=dr h.tv
 by_cases h0:vk p=true
 ·rw[h0]at hw
  obtain⟨hx,hy⟩:=ml h0
  by_cases h2:gV ts p<0
  ·(repeat(first|((repeat(revert hN;revert N;apply Pn.out));refine wk (tw @h1 (tw @v1 (tw @h2 @ah.eq_1))) ?_;(repeat(refine Pn.mk ?_;intro N hN)))|((try apply Or.inl);refine⟨_,aq.x (hw) (sd (tw @h1 (tw @v1 (tw @h2 @ah.eq_1)))),?_⟩;refine hN _ _ ?_;clear hN N)))
   refine⟨_,Mr (h.frame (by(try dsimp only);omega) (sd @v1) (sd @v2)) p,?_⟩
   refine hN _ _ ?_
   clear hN N
   (repeat(first|((repeat(revert hN;revert N;apply Pn.out));refine wk (tw @h1 (tw @v1 (tw @h2 (tw @ah.eq_1 @ad.eq_1)))) ?_;(repeat(refine Pn.mk ?_;intro N hN)))|((try apply Or.inl);refine⟨_,aq.x (hw) (sd (tw @h1 (tw @v1 (tw @h2 (tw @ah.eq_1 @ad.eq_1))))),?_⟩;refine hN _ _ ?_;clear hN N)))
   refine⟨_,He (h.frame (by(try dsimp only);omega) (sd @v1) (sd @v2)) hS hF p hx hy t ht,?_⟩
   refine hN _ _ ?_
   clear hN N
   have hb:=lU hS (gV ts) p t 4
   (repeat(first|((repeat(revert hN;revert N;apply Pn.out));refine wk (tw @h1 (tw @v1 (tw @h2 (tw @ah.eq_1 @ad.eq_1)))) ?_;(repeat(refine Pn.mk ?_;intro N hN)))|((try apply Or.inl);refine⟨_,aq.x (hw) (sd (tw @h1 (tw @v1 (tw @h2 (tw @ah.eq_1 @ad.eq_1))))),?_⟩;refine hN _ _ ?_;clear hN N)))
   exact eV (.inl rfl) (vs:=[.bool (decide (s.ay<=qC s.aI (gV ts) p t))]) (sd @Nat.zero_add) (by rw[show iI s ts p t=decide (s.ay<=qC s.aI (gV ts) p t) by simp[iI,h0,h2]];rfl)
  ·(repeat(first|((repeat(revert hN;revert N;apply Pn.out));refine wk (tw @h1 (tw @v1 (tw @h2 @ah.eq_1))) ?_;(repeat(refine Pn.mk ?_;intro N hN)))|((try apply Or.inl);refine⟨_,aq.x (hw) (sd (tw @h1 (tw @v1 (tw @h2 @ah.eq_1)))),?_⟩;refine hN _ _ ?_;clear hN N)))
   refine⟨_,Mr (h.frame (by(try dsimp only);omega) (sd @v1) (sd @v2)) p,?_⟩
   refine hN _ _ ?_
   clear hN N
   (repeat(first|((repeat(revert hN;revert N;apply Pn.out));refine wk (tw @h1 (tw @v1 (tw @h2 @ah.eq_1))) ?_;(repeat(refine Pn.mk ?_;intro N hN)))|((try apply Or.inl);refine⟨_,aq.x (hw) (sd (tw @h1 (tw @v1 (tw @h2 @ah.eq_1)))),?_⟩;refine hN _ _ ?_;clear hN N)))
   exact eV (.inl rfl) (vs:=[.bool false]) (sd @Nat.zero_add) (by rw[show iI s ts p t=false by simp[iI,h2]];rfl)
 ·rw[Bool.not_eq_true]at h0
  rw[h0]at hw
  (repeat(first|((repeat(revert hN;revert N;apply Pn.out));refine wk (tw @h1 (tw @v1 @ah.eq_1)) ?_;(repeat(refine Pn.mk ?_;intro N hN)))|((try apply Or.inl);refine⟨_,aq.x (hw) (sd (tw @h1 (tw @v1 @ah.eq_1))),?_⟩;refine hN _ _ ?_;clear hN N)))
  exact eV (.inl rfl) (vs:=[.bool false]) (sd @Nat.zero_add) (by rw[show iI s ts p t=false by simp[iI,h0]];rfl)
end Go.Proofs.YtgoelphibofcmaaGreat.V

namespace Go.Proofs.YtgoelphibofcmaaGreat.V
open Go.RowKit
attribute [local irreducible] dQ wpOps fX Call
attribute [local go_sem] aQ fM eU fY fW dm upd cG K.av cQ AV.cells AV.cell rowOf rowsOf part ld rowAt bQ cC dE ea gZ bS dh eo fV fj dB ef dd dc dS dU b4 bj cV bW cY cW ec eh ee cU ck de eb bV aU da cK gY bx cP cj bd dv bl dG AV.undef bH bK dW dZ dO dL cN ek eu cJ ej ei cZ db List.getD_cons_zero List.getD_cons_succ List.getD_nil List.all_cons List.all_nil Bool.and_true Bool.true_and Bool.and_self Bool.not_true Bool.not_false Option.map_some Option.map_none Option.bind_some Option.bind_none List.length_cons List.length_nil List.take_succ_cons List.take_zero List.take_nil List.drop_succ_cons List.drop_zero List.drop_nil List.head?_cons List.map_cons List.map_nil List.getElem?_cons_zero List.getElem?_cons_succ List.cons_append List.nil_append List.append_nil List.length_map List.set_cons_zero List.set_cons_succ Nat.reduceMul eq_self Int.toNat_natCast Int.natCast_nonneg and_self true_and and_true decide_true decide_false Bool.false_eq_true Nat.zero_add Nat.add_zero List.contains_cons List.contains_nil Bool.or_false Bool.false_or beq_self_eq_true Nat.reduceBEq ne_eq not_true_eq_false not_false_eq_true Id.mk.injEq false_and and_false Nat.reduceLT Int.reduceLE Int.reduceLT Int.reduceToNat Int.reduceNeg Int.reduceAdd Nat.le_refl List.length_append beq_true beq_false Bool.not_eq_eq_eq_not or_false false_or dX ae aj aJ bq bG cr aY bf aW bp cR bB
def OW (rows:List (List AV)):Prop:=∀r∈rows,∃(x y:Int) (v:AV),r=[.int .i64 x,.int .i64 y,v]
theorem GN (x y:Int):∀(rows:List (List AV)) (i:Nat),OW rows->∃fi,gz mP [.int .i64 x,.int .i64 y] rows i=some fi
 |[],i,_=>⟨none,by simp[gz]⟩
 |r::rs,i,h=>by
  obtain⟨fi,hf⟩:=GN x y rs (i+1) fun r hr=>h r (by simp[hr])
  obtain⟨x',y',v,rfl⟩:=h r (by simp)
  unfold gz
  have e:fj mP.ts [.int .i64 x,.int .i64 y] (([.int .i64 x',.int .i64 y',v]:List AV).take mP.ks)=some (decide (x=x')&&decide (y=y')):=by
   simp[MK.ks,fj,fV]
  rw[e]
  cases decide (x=x')&&decide (y=y')
  ·exact⟨fi,hf⟩
  ·exact⟨some i,rfl⟩
theorem Dj {rows:List (List AV)} (h:OW rows) (x y:Int):∃fi,gi mP (.agg [.int .i64 x,.int .i64 y]) rows=some fi:=by
 unfold gi
 rw[if_pos ⟨rfl,rfl,rfl⟩]
 exact GN x y rows 0 h
theorem QD {rows:List (List AV)} (h:OW rows) (x y:Int) (v:AV) (fi:Option Nat):OW (dO rows [.int .i64 x,.int .i64 y,v] fi):=by
 intro r hr
 cases fi with
 |none=>
  rcases List.mem_append.1 (show r∈rows++[_]from hr)with h1|h1
  ·exact h r h1
  ·simp at h1;exact⟨x,y,v,h1⟩
 |some i=>
  rcases List.mem_or_eq_of_mem_set (show r∈rows.set i _ from hr)with h1|h1
  ·exact h r h1
  ·exact⟨x,y,v,h1⟩
theorem K5 {rows:List (List AV)} (h:OW rows) (fi:Option Nat):OW (dL rows fi):=by
 intro r hr
 cases fi with
 |none=>exact h r (by simpa[dL]using hr)
 |some i=>exact h r (List.mem_of_mem_eraseIdx (by simpa[dL]using hr))
def ja (σ:au) (O:Id) (g:Rows) (n:Nat):Prop:=σ.next<=n/\(∀x:Id,x.bE<σ.next->x≠O->g x=σ.get x)/\∃rows,g O=some ⟨true,mP.qe,rows⟩/\OW rows
theorem ja.Es {σ:au} {g:Rows} {n:Nat} {c T O:Id} {s:aw} {ts:List ab} (h:BO σ.get σ.next c T O s ts) (hc:c≠O) (hT:T≠O) (k:ja σ O g n):BO g n c T O s ts:=
 h.frame k.1 (k.2.1 _ h.cv hc) (k.2.1 _ h.tv hT)
theorem ja.trans {a b:au} {O:Id} {g:Rows} {n:Nat} (h:ja a O b.get b.next) (k:ja b O g n):ja a O g n:=
 ⟨Nat.le_trans h.1 k.1,fun x hx hO=>(k.2.1 x (Nat.lt_of_lt_of_le hx h.1) hO).trans (h.2.1 x hx hO),k.2.2⟩
theorem ja.frame {a:au} {O:Id} {g g':Rows} {n n' m:Nat} (h:ja a O g n) (ha:a.next<=m) (ho:O.bE<m) (hn:n<=n') (hf:∀x:Id,x.bE<m->g' x=g x):ja a O g' n':=by
 refine⟨Nat.le_trans h.1 hn,fun x hx hO=>(hf x (Nat.lt_of_lt_of_le hx ha)).trans (h.2.1 x hx hO),?_⟩
 obtain⟨rows,h1,h2⟩:=h.2.2
 exact⟨rows,(hf O ho).trans h1,h2⟩
theorem ja.write {a:au} {O:Id} {g g':Rows} {n n':Nat} (h:ja a O g n) (hn:n<=n') (hf:∀x:Id,x.bE<a.next->x≠O->g' x=g x) {rows:List (List AV)} (ho:g' O=some ⟨true,mP.qe,rows⟩) (hw:OW rows):ja a O g' n':=
 ⟨Nat.le_trans h.1 hn,fun x hx hO=>(hf x hx hO).trans (h.2.1 x hx hO),rows,ho,hw⟩
theorem JS {σ:au} {c T O:Id} {s:aw} {ts:List ab} (h:BO σ.get σ.next c T O s ts) (hS:iH s.aI) (hF:∀q,0<=gV ts q->ev s.aI (gV ts q)=true) (p:aM) (t:Int) (ht:ev s.aI t=true):
  fX (Call Tryz.prog) 133 [.ptr c 0 0,.agg (ah p),.int .i64 t] σ (fun r=>r=.bool (iI s ts p t)):=by
 unfold fX PC
 exact Or.inl (aE _ _ _ _ _ (fun r σ' hr=>⟨_,by rw[hr];exact bq _ _ _,rfl⟩) (Pr (σ:=⟨V.ro σ.get,σ.next⟩) h.ro hS hF p t ht))
theorem sr {σ:au} {c T O:Id} {s:aw} {ts:List ab} (h:BO σ.get σ.next c T O s ts) (hc:c≠O) (hT:T≠O) (hO:∃rows,σ.get O=some ⟨true,mP.qe,rows⟩/\OW rows) (hS:iH s.aI) (hF:∀q,0<=gV ts q->ev s.aI (gV ts q)=true) (p:aM) (hx:iB p.fc) (hy:iB p.eR):
  Call Tryz.prog 127 [.ptr c 0 0,.agg (ah p)] σ (fun r σ'=>r=.gD []/\ja σ O σ'.get σ'.next):=by
 refine eJ eF rfl fun iQ=>?_
 clear iQ
 have Gu:=hS.G0
 have h0:ja σ O σ.get σ.next:=⟨Nat.le_refl _,fun _ _ _=>rfl,hO⟩
 (try((repeat(revert hN;revert N;apply Pn.out));refine wk @ah.eq_1 ?_;(repeat(refine Pn.mk ?_;intro N hN))))
 refine aZ (fun n env st=>∃k:Nat,n=(4)-k/\k<=(4)/\env 8=.int .i64 (k:Int)/\st.get ⟨127000000,σ.next⟩=some ⟨true,2,[ah p]⟩/\(σ.next<st.next/\ja σ O st.get st.next)) (4) ⟨0,by omega,by omega,sl @ah.eq_1,sl @ah.eq_1,⟨by(try dsimp only);omega,h0.frame (Nat.le_refl _) h.ov (by(try dsimp only);omega) fun x hx=>by
  have:=dr hx
  simp only[go_sem, ↓reduceIte,Nat.reduceEqDiff,Nat.reduceAdd,Nat.reduceSub,Nat.reduceLeDiff,reduceCtorEq,this]⟩⟩ ?_
 rintro n_a env_a st_a ⟨k,rfl,ale,a8,ag0,jO⟩ dy
 have a0:=dy 0 (by kernel_rfl);have a3:=dy 3 (by kernel_rfl)
 simp only[go_sem, ↓reduceIte,Nat.reduceEqDiff,Nat.reduceAdd,Nat.reduceSub,Nat.reduceLeDiff,reduceCtorEq,ah]at a0 a3
 clear dy
 obtain⟨an,ak⟩:=jO
 have ha:=ak.Es h hc hT
 by_cases hk:(k:Int)<4
 ·have cw:∀{e:Env} {gg:Rows} {nx:Nat},(e 8=.int .i64 (IntKind.i64.wrap ((k:Int)+1)))->(gg ⟨127000000,σ.next⟩=some ⟨true,2,[ah p]⟩)->(σ.next<nx/\ja σ O gg nx)->∃m0,m0<(4)-k/\∃k:Nat,m0=(4)-k/\k<=(4)/\e 8=.int .i64 (k:Int)/\gg ⟨127000000,σ.next⟩=some ⟨true,2,[ah p]⟩/\(σ.next<nx/\ja σ O gg nx):=fun x1 x2 x3=>⟨_,by omega,k+1,rfl,by omega,(by rw[x1,aD (by omega)]),x2,x3⟩
  have dJ:=xX p k (gr (by omega)) hx hy
  obtain⟨b,h1⟩:=ha.row
  have v1:=dr ha.cv
  (repeat(first|((repeat(revert hN;revert N;apply Pn.out));refine wk (tw @a8 (tw @ag0 (tw @a0 (tw @a3 (tw @hk (tw @h1 (tw @v1 @ah.eq_1))))))) ?_;(repeat(refine Pn.mk ?_;intro N hN)))|((try apply Or.inl);refine⟨_,aq.x (dJ) (sd (tw @a8 (tw @ag0 (tw @a0 (tw @a3 (tw @hk (tw @h1 (tw @v1 @ah.eq_1)))))))),?_⟩;refine hN _ _ ?_;clear hN N)))
  refine aZ (fun n env st=>∃t:Nat,n=(s.aI.ai.length)-t/\t<=(s.aI.ai.length)/\env 21=.int .i64 (t:Int)/\st.get ⟨127000000,σ.next⟩=some ⟨true,2,[ah p]⟩/\st.get ⟨127004003,st_a.next+1+1⟩=some ⟨true,2,[ah (cH p k)]⟩/\(st_a.next+3<=st.next/\ja σ O st.get st.next/\(env 6=.bD∨∃(o:Id) (n:Nat) (rows:List (List AV)),env 6=.own o 0 n/\st.get o=some ⟨true,1,rows⟩/\rows.length=n/\0<n/\n<=t/\st_a.next+3<=o.bE/\o.bE<st.next))) (s.aI.ai.length) ⟨0,by omega,by omega,sl (tw @a8 (tw @ag0 (tw @a0 (tw @a3 @ah.eq_1)))),sl (tw @a8 (tw @ag0 (tw @a0 (tw @a3 @ah.eq_1)))),sl (tw @a8 (tw @ag0 (tw @a0 (tw @a3 @ah.eq_1)))),⟨by(try dsimp only);omega,ak.frame ak.1 ha.ov (by(try dsimp only);omega) fun x hx=>(by
   have:=dr hx
   simp only[go_sem, ↓reduceIte,Nat.reduceEqDiff,Nat.reduceAdd,Nat.reduceSub,Nat.reduceLeDiff,reduceCtorEq,this]),.inl (sd @Nat.zero_add)⟩⟩ ?_
  rintro n_b env_b st_b ⟨t,rfl,ble,b21,bg0,bg1,bI0⟩ fK
  have b0:=fK 0 (by kernel_rfl);have b3:=fK 3 (by kernel_rfl);have b5:=fK 5 (by kernel_rfl);have b8:=fK 8 (by kernel_rfl);have IU:=fK 20 (by kernel_rfl)
  simp only[go_sem, ↓reduceIte,Nat.reduceEqDiff,Nat.reduceAdd,Nat.reduceSub,Nat.reduceLeDiff,reduceCtorEq,a8,ag0,a0,a3,ah]at b0 b3 b5 b8 IU
  clear fK
  obtain⟨bn,bk,b6⟩:=bI0
  have PU:=bk.Es h hc hT
  obtain⟨b2,h2⟩:=PU.row
  have v2:=dr PU.cv
  have vt:=dr (i:=⟨127000000,σ.next⟩) (n:=st_b.next) (by(try dsimp only);omega)
  have vq:=dr (i:=⟨127004003,st_a.next+1+1⟩) (n:=st_b.next) (by(try dsimp only);omega)
  by_cases ht:(t:Int)<(s.aI.ai.length:Int)
  ·have fE:∀{e:Env} {gg:Rows} {nx:Nat},(e 21=.int .i64 (IntKind.i64.wrap ((t:Int)+1)))->(gg ⟨127000000,σ.next⟩=some ⟨true,2,[ah p]⟩)->(gg ⟨127004003,st_a.next+1+1⟩=some ⟨true,2,[ah (cH p k)]⟩)->(st_a.next+3<=nx/\ja σ O gg nx/\(e 6=.bD∨∃(o:Id) (n:Nat) (rows:List (List AV)),e 6=.own o 0 n/\gg o=some ⟨true,1,rows⟩/\rows.length=n/\0<n/\n<=(t+1)/\st_a.next+3<=o.bE/\o.bE<nx))->∃m0,m0<(s.aI.ai.length)-t/\∃t:Nat,m0=(s.aI.ai.length)-t/\t<=(s.aI.ai.length)/\e 21=.int .i64 (t:Int)/\gg ⟨127000000,σ.next⟩=some ⟨true,2,[ah p]⟩/\gg ⟨127004003,st_a.next+1+1⟩=some ⟨true,2,[ah (cH p k)]⟩/\(st_a.next+3<=nx/\ja σ O gg nx/\(e 6=.bD∨∃(o:Id) (n:Nat) (rows:List (List AV)),e 6=.own o 0 n/\gg o=some ⟨true,1,rows⟩/\rows.length=n/\0<n/\n<=t/\st_a.next+3<=o.bE/\o.bE<nx)):=fun x1 x2 x3 x4=>⟨_,by omega,t+1,rfl,by omega,(by rw[x1,aD (by omega)]),x2,x3,x4⟩
   have S9:t<s.aI.ai.length:=by omega
   (try((repeat(revert hN;revert N;apply Pn.out));refine wk (tw @b21 (tw @bg0 (tw @bg1 (tw @b0 (tw @b3 (tw @b5 (tw @b8 (tw @IU (tw @ht (tw @h2 (tw @v2 (tw @vt (tw @vq @ah.eq_1))))))))))))) ?_;(repeat(refine Pn.mk ?_;intro N hN))))
   refine .inl ⟨_,JS (PU.frame (by(try dsimp only);omega) (sd @v2) (by(have:=dr PU.tv);simp only[go_sem, ↓reduceIte,Nat.reduceEqDiff,Nat.reduceAdd,Nat.reduceSub,Nat.reduceLeDiff,reduceCtorEq,this])) hS hF (cH p k) t (LH S9),?_⟩
   refine hN _ _ ?_
   clear hN N
   have jH:∀x:Id,x.bE<st_b.next->x≠⟨127010002,st_b.next+1+1+1⟩:=fun x hx h=>by rw[h]at hx;(try dsimp only at hx);omega
   cases hb:iI s ts (cH p k) t
   ·(try((repeat(revert hN;revert N;apply Pn.out));refine wk (tw @b21 (tw @bg0 (tw @bg1 (tw @b0 (tw @b3 (tw @b5 (tw @b8 (tw @IU @hb)))))))) ?_;(repeat(refine Pn.mk ?_;intro N hN))))
    refine fE ?_ ?_ ?_ (by(try dsimp only);exact⟨by omega,bk.frame bk.1 PU.ov (by omega) (fun x hx=>by
      have h1:=dr (i:=x) (n:=st_b.next) (by omega)
      simp only[go_sem, ↓reduceIte,Nat.reduceEqDiff,Nat.reduceAdd,Nat.reduceSub,Nat.reduceLeDiff,reduceCtorEq,h1]),by
     rcases b6 with h|⟨o,n,rows,h1,h2,h3,h4,h5,h6,h7⟩
     ·exact .inl (sd @h)
     ·have h8:=dr h7
      exact .inr ⟨o,n,rows,sd @h1,sd (tw @h2 @h8),h3,h4,by omega,h6,by omega⟩⟩)
    all_goals simp only[go_sem, ↓reduceIte,Nat.reduceEqDiff,Nat.reduceAdd,Nat.reduceSub,Nat.reduceLeDiff,reduceCtorEq,b21,bg0,bg1,b0,b3,b5,b8,IU,ah,vt,vq]
   ·rcases b6 with b6|⟨o,n,rows,b6,bo,o3,o4,o5,o6,o7⟩
    ·(try((repeat(revert hN;revert N;apply Pn.out));refine wk (tw @b21 (tw @bg0 (tw @bg1 (tw @b0 (tw @b3 (tw @b5 (tw @b8 (tw @IU (tw @b6 @hb))))))))) ?_;(repeat(refine Pn.mk ?_;intro N hN))))
     refine fE ?_ ?_ ?_ (by(try dsimp only);exact⟨by omega,bk.frame (m:=st_a.next) ak.1 ha.ov (by omega) (fun x hx=>by
      have h1:=dr (i:=x) (n:=st_b.next) (by omega)
      simp only[go_sem, ↓reduceIte,Nat.reduceEqDiff,Nat.reduceAdd,Nat.reduceSub,Nat.reduceLeDiff,reduceCtorEq,h1]),.inr ⟨⟨127010003,st_b.next+1+1+1⟩,1,[[.int .i64 t]],sl @Nat.zero_add,sd @Nat.zero_add,rfl,by omega,by omega,by(try dsimp only);omega,by(try dsimp only);omega⟩⟩)
     all_goals simp only[go_sem, ↓reduceIte,Nat.reduceEqDiff,Nat.reduceAdd,Nat.reduceSub,Nat.reduceLeDiff,reduceCtorEq,b21,bg0,bg1,b0,b3,b5,b8,IU,ah,vt,vq]
    ·subst o3
     have e1:rows.length<=16777215:=by omega
     have vo:=dr o7
     have vto:=cm (a:=⟨127000000,σ.next⟩) (b:=o) (by(try dsimp only);omega)
     have vqo:=cm (a:=⟨127004003,st_a.next+1+1⟩) (b:=o) (by(try dsimp only);omega)
     (try((repeat(revert hN;revert N;apply Pn.out));refine wk (tw @b21 (tw @bg0 (tw @bg1 (tw @b0 (tw @b3 (tw @b5 (tw @b8 (tw @IU (tw @b6 (tw @bo (tw @hb (tw @e1 @vo)))))))))))) ?_;(repeat(refine Pn.mk ?_;intro N hN))))
     refine fE ?_ ?_ ?_ (by(try dsimp only);exact⟨by omega,bk.frame (m:=st_a.next) ak.1 ha.ov (by omega) (fun x hx=>by
      have h1:=dr (i:=x) (n:=st_b.next) (by omega)
      have h2:=cm (a:=x) (b:=o) (by omega)
      simp only[go_sem, ↓reduceIte,Nat.reduceEqDiff,Nat.reduceAdd,Nat.reduceSub,Nat.reduceLeDiff,reduceCtorEq,h1,h2]),.inr ⟨⟨127010003,st_b.next+1+1+1⟩,rows.length+1,rows++[[.int .i64 t]],sl @Nat.zero_add,sd @Nat.zero_add,by simp,by omega,by omega,by(try dsimp only);omega,by(try dsimp only);omega⟩⟩)
     all_goals simp only[go_sem, ↓reduceIte,Nat.reduceEqDiff,Nat.reduceAdd,Nat.reduceSub,Nat.reduceLeDiff,reduceCtorEq,b21,bg0,bg1,b0,b3,b5,b8,IU,ah,vt,vq,vto,vqo]
  ·obtain⟨rows,hg,Ws⟩:=bk.2.2
   have vo:=dr PU.ov
   obtain⟨fi,Cx⟩:=Dj Ws (cH p k).fc (cH p k).eR
   have hq:((⟨127000000,σ.next⟩:Id)=O)=False:=(cm (a:=O) (b:=⟨127000000,σ.next⟩) (by have:=h.ov;(try dsimp only);omega)).2
   rcases b6 with b6|⟨o,n,OO,b6,bo,o3,o4,o5,o6,o7⟩
   ·have d0:decide ((0:Int)<((0:Nat):Int))=false:=rfl
    (try((repeat(revert hN;revert N;apply Pn.out));refine wk (tw @b21 (tw @bg0 (tw @bg1 (tw @b0 (tw @b3 (tw @b5 (tw @b8 (tw @IU (tw @b6 (tw @ht (tw @h2 (tw @v2 (tw @vt (tw @vq (tw @vo (tw @hg (tw @Cx (tw @ah.eq_1 @d0)))))))))))))))))) ?_;(repeat(refine Pn.mk ?_;intro N hN))))
    refine cw ?_ ?_ (by(try dsimp only);exact⟨by omega,bk.write (by omega) (fun x hx OF=>by
     have h1:=dr (i:=x) (n:=st_b.next) (by omega)
     have h2:(x=O)=False:=eq_false OF
     simp only[go_sem, ↓reduceIte,Nat.reduceEqDiff,Nat.reduceAdd,Nat.reduceSub,Nat.reduceLeDiff,reduceCtorEq,h1,h2]) (sl @Nat.zero_add) (K5 Ws _)⟩)
    all_goals simp only[go_sem, ↓reduceIte,Nat.reduceEqDiff,Nat.reduceAdd,Nat.reduceSub,Nat.reduceLeDiff,reduceCtorEq,a8,ag0,a0,a3,b21,bg0,bg1,b0,b3,b5,b8,IU,ah,vt,vo,hq]
   ·have d1:decide ((0:Int)<(n:Int))=true:=decide_eq_true (by omega)
    (try((repeat(revert hN;revert N;apply Pn.out));refine wk (tw @b21 (tw @bg0 (tw @bg1 (tw @b0 (tw @b3 (tw @b5 (tw @b8 (tw @IU (tw @b6 (tw @ht (tw @h2 (tw @v2 (tw @vt (tw @vq (tw @vo (tw @hg (tw @Cx (tw @ah.eq_1 @d1)))))))))))))))))) ?_;(repeat(refine Pn.mk ?_;intro N hN))))
    refine cw ?_ ?_ (by(try dsimp only);exact⟨by omega,bk.write (by omega) (fun x hx OF=>by
     have h1:=dr (i:=x) (n:=st_b.next) (by omega)
     have h2:(x=O)=False:=eq_false OF
     simp only[go_sem, ↓reduceIte,Nat.reduceEqDiff,Nat.reduceAdd,Nat.reduceSub,Nat.reduceLeDiff,reduceCtorEq,h1,h2]) (sl @Nat.zero_add) (QD Ws _ _ _ _)⟩)
    all_goals simp only[go_sem, ↓reduceIte,Nat.reduceEqDiff,Nat.reduceAdd,Nat.reduceSub,Nat.reduceLeDiff,reduceCtorEq,a8,ag0,a0,a3,b21,bg0,bg1,b0,b3,b5,b8,IU,ah,vt,vo,hq]
 ·(try((repeat(revert hN;revert N;apply Pn.out));refine wk (tw @a8 (tw @ag0 (tw @a0 (tw @a3 @hk)))) ?_;(repeat(refine Pn.mk ?_;intro N hN))))
  exact eV (.inr rfl) (vs:=[]) rfl ⟨rfl,ak.frame ak.1 ha.ov (by(try dsimp only);omega) (fun x hx=>rfl)⟩
end Go.Proofs.YtgoelphibofcmaaGreat.V

namespace Go.Proofs.YtgoelphibofcmaaGreat.V
open Go.RowKit
attribute [local irreducible] dQ wpOps fX Call
attribute [local go_sem] aQ fM eU fY fW dm upd cG K.av cQ AV.cells AV.cell rowOf rowsOf part ld rowAt bQ cC dE ea gZ bS dh eo fV fj dB ef dd dc dS dU b4 bj cV bW cY cW ec eh ee cU ck de eb bV aU da cK gY bx cP cj bd dv bl dG AV.undef bH bK dW dZ dO dL cN ek eu cJ ej ei cZ db List.getD_cons_zero List.getD_cons_succ List.getD_nil List.all_cons List.all_nil Bool.and_true Bool.true_and Bool.and_self Bool.not_true Bool.not_false Option.map_some Option.map_none Option.bind_some Option.bind_none List.length_cons List.length_nil List.take_succ_cons List.take_zero List.take_nil List.drop_succ_cons List.drop_zero List.drop_nil List.head?_cons List.map_cons List.map_nil List.getElem?_cons_zero List.getElem?_cons_succ List.cons_append List.nil_append List.append_nil List.length_map List.set_cons_zero List.set_cons_succ Nat.reduceMul eq_self Int.toNat_natCast Int.natCast_nonneg and_self true_and and_true decide_true decide_false Bool.false_eq_true Nat.zero_add Nat.add_zero List.contains_cons List.contains_nil Bool.or_false Bool.false_or beq_self_eq_true Nat.reduceBEq ne_eq not_true_eq_false not_false_eq_true Id.mk.injEq false_and and_false Nat.reduceLT Int.reduceLE Int.reduceLT Int.reduceToNat Int.reduceNeg Int.reduceAdd Nat.le_refl List.length_append beq_true beq_false Bool.not_eq_eq_eq_not or_false false_or dX ae aj aJ bq bG cr aY bf aW bp cR bB
structure jQ (g:Rows) (n:Nat) (c T O:Id) (s:aw) (ts:List ab):Prop where
 row:g c=some ⟨true,6,[[.sl (s.aI.aB.map cq),.sl (s.aI.ai.map bJ),.sl (s.bh.ai.map aa),.int .i64 s.ay,.map T mP,.map O mP]]⟩
 tl:g T=some ⟨true,mP.qe,ts.map aa⟩
 op:∃rows,g O=some ⟨true,mP.qe,rows⟩/\OW rows
 cv:c.bE<n
 tv:T.bE<n
 ov:O.bE<n
 cT:c≠T
 cO:c≠O
 TO:T≠O
theorem jQ.Es {g:Rows} {n:Nat} {c T O:Id} {s:aw} {ts:List ab} (h:jQ g n c T O s ts):BO g n c T O s ts:=⟨⟨_,h.row⟩,⟨_,h.tl⟩,h.cv,h.tv,h.ov⟩
theorem jQ.look {σ:au} {g:Rows} {n:Nat} {c T O:Id} {s:aw} {ts:List ab} (h:jQ σ.get σ.next c T O s ts) (k:ja σ O g n):jQ g n c T O s ts:=
 ⟨(k.2.1 _ h.cv h.cO).trans h.row,(k.2.1 _ h.tv h.TO).trans h.tl,k.2.2,Nat.lt_of_lt_of_le h.cv k.1,Nat.lt_of_lt_of_le h.tv k.1,Nat.lt_of_lt_of_le h.ov k.1,h.cT,h.cO,h.TO⟩
theorem jQ.frame {g g':Rows} {n n':Nat} {c T O:Id} {s:aw} {ts:List ab} (h:jQ g n c T O s ts) (hn:n<=n') (hf:∀x:Id,x.bE<n->g' x=g x):jQ g' n' c T O s ts:=
 ⟨(hf _ h.cv).trans h.row,(hf _ h.tv).trans h.tl,by rw[hf _ h.ov];exact h.op,Nat.lt_of_lt_of_le h.cv hn,Nat.lt_of_lt_of_le h.tv hn,Nat.lt_of_lt_of_le h.ov hn,h.cT,h.cO,h.TO⟩
def U7 (σ:au) (s:aw) (ts:List ab) (r:AV) (σ':au):Prop:=
 ∃c T O:Id,r=.ptr c 0 0/\jQ σ'.get σ'.next c T O s ts/\σ.next<=c.bE/\σ.next<=T.bE/\σ.next<=O.bE/\σ.next<=σ'.next/\∀x:Id,x.bE<σ.next->σ'.get x=σ.get x
theorem CK {l:List ab} {p:aM}:eY l p<0↔∀t∈l,t.aL≠p:=by
 unfold eY qw
 by_cases h:(l.findIdx fun c=>decide (c.aL=p))<l.length
 ·rw[if_pos h]
  obtain⟨t,ht,h2⟩:=List.findIdx_lt_length.1 h
  exact⟨fun h=>by omega,fun h=>absurd (by simpa using h2) (h t ht)⟩
 ·rw[if_neg h]
  exact⟨fun _ t ht e=>h (List.findIdx_lt_length.2 ⟨t,ht,by simp[e]⟩),fun _=>by omega⟩
theorem LG {l:List ab} (h:qo l) {k:Nat} (hk:k<l.length):eY (l.take k) (aA l k).aL<0:=by
 rw[CK]
 intro t ht e
 obtain⟨j,hj,rfl⟩:=List.getElem_of_mem ht
 have Md:j<k:=by rw[List.length_take]at hj;omega
 have:=h j k Md hk
 rw[List.getElem_take]at e
 have e2:aA l j=l[j]'(by omega):=by unfold aA;rw[List.getD_eq_getElem?_getD,List.getElem?_eq_getElem (by omega)];rfl
 rw[e2,e]at this
 simp[jY]at this
theorem NV {l:List ab} {k:Nat} (hk:k<l.length):(l.take k).map aa++[[.int .i64 (aA l k).aL.fc,.int .i64 (aA l k).aL.eR,.int .i64 (aA l k).aT]]=(l.take (k+1)).map aa:=by
 have e2:aA l k=l[k]:=by unfold aA;rw[List.getD_eq_getElem?_getD,List.getElem?_eq_getElem hk];rfl
 rw[List.take_succ_eq_append_getElem hk,List.map_append,e2]
 rfl
theorem iH.BW {s:ax} {l:List ab} (hA:lN s l):∀q,0<=gV l q->ev s (gV l q)=true:=fun _ h=>BV hA h
theorem sG (s:aw) (hS:iH s.aI) (l:List ab) (hA:lN s.aI l) (σ:au):Call Tryz.prog 73 [.agg (ar s),.agg [.sl (l.map aa)]] σ (U7 σ s l):=by
 refine eJ eF rfl fun iQ=>?_
 clear iQ
 have PX:=hA.1.yi
 (try((repeat(revert hN;revert N;apply Pn.out));refine wk @ar.eq_1 ?_;(repeat(refine Pn.mk ?_;intro N hN))))
 refine aZ (fun n env st=>∃k:Nat,n=(l.length)-k/\k<=(l.length)/\env 18=.int .i64 (k:Int)/\st.get ⟨73001004,σ.next+1⟩=some ⟨true,6,[[.sl (s.aI.aB.map cq),.sl (s.aI.ai.map bJ),.sl (s.bh.ai.map aa),.int .i64 s.ay,.map ⟨73001001,σ.next+1⟩ mP,.map ⟨73001002,σ.next+1⟩ mP]]⟩/\st.get ⟨73001001,σ.next+1⟩=some ⟨true,mP.qe,(l.take k).map aa⟩/\st.get ⟨73001002,σ.next+1⟩=some ⟨true,mP.qe,[]⟩/\st.get ⟨73000001,σ.next⟩=some ⟨true,1,[[.sl (l.map aa)]]⟩/\(σ.next+3<=st.next/\∀x:Id,x.bE<σ.next->st.get x=σ.get x)) (l.length) ⟨0,by omega,by omega,sl @Nat.zero_add,sl @Nat.zero_add,sl @Nat.zero_add,sl @Nat.zero_add,sl @Nat.zero_add,⟨by(try dsimp only);omega,fun x hx=>by
  have:=dr hx
  simp only[go_sem, ↓reduceIte,Nat.reduceEqDiff,Nat.reduceAdd,Nat.reduceSub,Nat.reduceLeDiff,reduceCtorEq,this]⟩⟩ ?_
 rintro n_a env_a st_a ⟨k,rfl,ale,a18,ag0,ag1,ag2,ag3,jO⟩ dy
 have a3:=dy 3 (by kernel_rfl);have a5:=dy 5 (by kernel_rfl);have Rm:=dy 16 (by kernel_rfl);have a17:=dy 17 (by kernel_rfl)
 simp only[go_sem, ↓reduceIte,Nat.reduceEqDiff,Nat.reduceAdd,Nat.reduceSub,Nat.reduceLeDiff,reduceCtorEq]at a3 a5 Rm a17
 clear dy
 obtain⟨an,dy⟩:=jO
 have v1:=dr (i:=⟨73001004,σ.next+1⟩) (n:=st_a.next) (by(try dsimp only);omega)
 have v2:=dr (i:=⟨73001001,σ.next+1⟩) (n:=st_a.next) (by(try dsimp only);omega)
 have v3:=dr (i:=⟨73001002,σ.next+1⟩) (n:=st_a.next) (by(try dsimp only);omega)
 have v4:=dr (i:=⟨73000001,σ.next⟩) (n:=st_a.next) (by(try dsimp only);omega)
 by_cases hk:(k:Int)<(l.length:Int)
 ·have cw:∀{e:Env} {gg:Rows} {nx:Nat},(e 18=.int .i64 (IntKind.i64.wrap ((k:Int)+1)))->(gg ⟨73001004,σ.next+1⟩=some ⟨true,6,[[.sl (s.aI.aB.map cq),.sl (s.aI.ai.map bJ),.sl (s.bh.ai.map aa),.int .i64 s.ay,.map ⟨73001001,σ.next+1⟩ mP,.map ⟨73001002,σ.next+1⟩ mP]]⟩)->(gg ⟨73001001,σ.next+1⟩=some ⟨true,mP.qe,(l.take (k+1)).map aa⟩)->(gg ⟨73001002,σ.next+1⟩=some ⟨true,mP.qe,[]⟩)->(gg ⟨73000001,σ.next⟩=some ⟨true,1,[[.sl (l.map aa)]]⟩)->(σ.next+3<=nx/\∀x:Id,x.bE<σ.next->gg x=σ.get x)->∃m0,m0<(l.length)-k/\∃k:Nat,m0=(l.length)-k/\k<=(l.length)/\e 18=.int .i64 (k:Int)/\gg ⟨73001004,σ.next+1⟩=some ⟨true,6,[[.sl (s.aI.aB.map cq),.sl (s.aI.ai.map bJ),.sl (s.bh.ai.map aa),.int .i64 s.ay,.map ⟨73001001,σ.next+1⟩ mP,.map ⟨73001002,σ.next+1⟩ mP]]⟩/\gg ⟨73001001,σ.next+1⟩=some ⟨true,mP.qe,(l.take k).map aa⟩/\gg ⟨73001002,σ.next+1⟩=some ⟨true,mP.qe,[]⟩/\gg ⟨73000001,σ.next⟩=some ⟨true,1,[[.sl (l.map aa)]]⟩/\(σ.next+3<=nx/\∀x:Id,x.bE<σ.next->gg x=σ.get x):=fun x1 x2 x3 x4 x5 x6=>⟨_,by omega,k+1,rfl,by omega,(by rw[x1,aD (by omega)]),x2,x3,x4,x5,x6⟩
  have fP:k<l.length:=by omega
  have hg:=fw fP
  have hm:=rL (LG hA.1.Lo fP)
  have tK:=NV fP
  (try((repeat(revert hN;revert N;apply Pn.out));refine wk (tw @a18 (tw @ag0 (tw @ag1 (tw @ag2 (tw @ag3 (tw @a3 (tw @a5 (tw @Rm (tw @a17 (tw @hk (tw @hg (tw @hm (tw @v1 (tw @v2 (tw @v3 (tw @v4 @aa.eq_1)))))))))))))))) ?_;(repeat(refine Pn.mk ?_;intro N hN))))
  refine cw ?_ ?_ ?_ ?_ ?_ (by(try dsimp only);exact⟨by omega,fun x hx=>by
   have h1:=dr (i:=x) (n:=st_a.next) (by omega)
   have h2:=cm (a:=x) (b:=⟨73001001,σ.next+1⟩) (by(try dsimp only);omega)
   have h3:=dy x hx
   simp only[go_sem, ↓reduceIte,Nat.reduceEqDiff,Nat.reduceAdd,Nat.reduceSub,Nat.reduceLeDiff,reduceCtorEq,h1,h2,h3]⟩)
  all_goals simp only[go_sem, ↓reduceIte,Nat.reduceEqDiff,Nat.reduceAdd,Nat.reduceSub,Nat.reduceLeDiff,reduceCtorEq,a18,ag0,ag1,ag2,ag3,a3,a5,Rm,a17,aa,v1,v2,v3,v4,tK]
 ·have kT:k=l.length:=by omega
  subst kT
  have oH:l.take l.length=l:=List.take_length
  (try((repeat(revert hN;revert N;apply Pn.out));refine wk (tw @a18 (tw @ag0 (tw @ag1 (tw @ag2 (tw @ag3 (tw @a3 (tw @a5 (tw @Rm (tw @a17 (tw @hk (tw @v1 (tw @v2 (tw @v3 @v4))))))))))))) ?_;(repeat(refine Pn.mk ?_;intro N hN))))
  refine aZ (fun n env st=>∃j:Nat,n=(l.length)-j/\j<=(l.length)/\env 34=.int .i64 (j:Int)/\(σ.next+3<=st.next/\jQ st.get st.next ⟨73001004,σ.next+1⟩ ⟨73001001,σ.next+1⟩ ⟨73001002,σ.next+1⟩ s l/\∀x:Id,x.bE<σ.next->st.get x=σ.get x)) (l.length) ⟨0,by omega,by omega,sl (tw @a18 (tw @ag0 (tw @ag1 (tw @ag2 (tw @ag3 (tw @a3 (tw @a5 (tw @Rm @a17)))))))),by(try dsimp only);exact⟨by omega,⟨sd @ag0,sd (tw @ag1 @oH),⟨[],sd @ag2,by intro r hr;cases hr⟩,by(try dsimp only);omega,by(try dsimp only);omega,by(try dsimp only);omega,(by intro e;injection e with e1 e2;revert e1;decide),(by intro e;injection e with e1 e2;revert e1;decide),(by intro e;injection e with e1 e2;revert e1;decide)⟩,fun x hx=>by
   have h3:=dy x hx
   simp only[go_sem, ↓reduceIte,Nat.reduceEqDiff,Nat.reduceAdd,Nat.reduceSub,Nat.reduceLeDiff,reduceCtorEq,h3]⟩⟩ ?_
  rintro n_b env_b st_b ⟨j,rfl,ble,b34,bI0⟩ fK
  have b5:=fK 5 (by kernel_rfl);have uj:=fK 32 (by kernel_rfl);have uP:=fK 33 (by kernel_rfl)
  simp only[go_sem, ↓reduceIte,Nat.reduceEqDiff,Nat.reduceAdd,Nat.reduceSub,Nat.reduceLeDiff,reduceCtorEq,a18,ag0,ag1,ag2,ag3,a3,a5,Rm,a17]at b5 uj uP
  clear fK
  obtain⟨bn,bC,fK⟩:=bI0
  by_cases hj:(j:Int)<(l.length:Int)
  ·have fE:∀{e:Env} {gg:Rows} {nx:Nat},(e 34=.int .i64 (IntKind.i64.wrap ((j:Int)+1)))->(σ.next+3<=nx/\jQ gg nx ⟨73001004,σ.next+1⟩ ⟨73001001,σ.next+1⟩ ⟨73001002,σ.next+1⟩ s l/\∀x:Id,x.bE<σ.next->gg x=σ.get x)->∃m0,m0<(l.length)-j/\∃j:Nat,m0=(l.length)-j/\j<=(l.length)/\e 34=.int .i64 (j:Int)/\(σ.next+3<=nx/\jQ gg nx ⟨73001004,σ.next+1⟩ ⟨73001001,σ.next+1⟩ ⟨73001002,σ.next+1⟩ s l/\∀x:Id,x.bE<σ.next->gg x=σ.get x):=fun x1 x2=>⟨_,by omega,j+1,rfl,by omega,(by rw[x1,aD (by omega)]),x2⟩
   have iK:j<l.length:=by omega
   have hg:=fw iK
   have EX:=ml (hA.1.pt iK)
   (try((repeat(revert hN;revert N;apply Pn.out));refine wk (tw @b34 (tw @b5 (tw @uj (tw @uP (tw @hj (tw @hg @aa.eq_1)))))) ?_;(repeat(refine Pn.mk ?_;intro N hN))))
   have Sh:jQ (bQ (bQ st_b.get ⟨73009002,st_b.next+1⟩ ⟨true,3,[[.int .i64 0,.int .i64 0,.int .i64 0]]⟩) ⟨73009002,st_b.next+1⟩ ⟨true,3,[[.int .i64 (aA l j).aL.fc,.int .i64 (aA l j).aL.eR,.int .i64 (aA l j).aT]]⟩) (st_b.next+1+1+1) ⟨73001004,σ.next+1⟩ ⟨73001001,σ.next+1⟩ ⟨73001002,σ.next+1⟩ s l:=bC.frame (by omega) fun x hx=>by
    have h1:=dr hx
    simp only[go_sem, ↓reduceIte,Nat.reduceEqDiff,Nat.reduceAdd,Nat.reduceSub,Nat.reduceLeDiff,reduceCtorEq,h1]
   refine .inr (aE _ _ _ _ _ (fun r σ1 hq=>?_) (sr (σ:=⟨bQ (bQ st_b.get ⟨73009002,st_b.next+1⟩ ⟨true,3,[[.int .i64 0,.int .i64 0,.int .i64 0]]⟩) ⟨73009002,st_b.next+1⟩ ⟨true,3,[[.int .i64 (aA l j).aL.fc,.int .i64 (aA l j).aL.eR,.int .i64 (aA l j).aT]]⟩,st_b.next+1+1+1⟩) Sh.Es Sh.cO Sh.TO Sh.op hS (iH.BW hA) (aA l j).aL EX.1 EX.2))
   obtain⟨g1,x1⟩:=σ1
   obtain⟨rfl,hL⟩:=hq
   (try dsimp only at hL)
   have EI:=Sh.look hL
   have hLn:=hL.1
   have hLf:=hL.2.1
   (try dsimp only at hLn hLf)
   refine hN _ _ ?_
   clear hN N
   (try((repeat(revert hN;revert N;apply Pn.out));refine wk (tw @b34 (tw @b5 (tw @uj @uP))) ?_;(repeat(refine Pn.mk ?_;intro N hN))))
   exact fE (sd (tw @b34 (tw @b5 (tw @uj @uP)))) (by(try dsimp only);exact⟨by omega,EI.frame (by omega) (fun x hx=>rfl),fun x hx=>by
    have h1:=dr (i:=x) (n:=st_b.next) (by omega)
    have h2:=hLf x (by omega) (fun e=>by rw[e]at hx;(try dsimp only at hx);omega)
    have h3:=fK x hx
    simp only[h2]
    simp only[go_sem, ↓reduceIte,Nat.reduceEqDiff,Nat.reduceAdd,Nat.reduceSub,Nat.reduceLeDiff,reduceCtorEq,h1,h3]⟩)
  ·(try((repeat(revert hN;revert N;apply Pn.out));refine wk (tw @b34 (tw @b5 (tw @uj (tw @uP @hj)))) ?_;(repeat(refine Pn.mk ?_;intro N hN))))
   exact eV (.inl rfl) (vs:=[.ptr ⟨73001004,σ.next+1⟩ 0 0]) (sd @Nat.zero_add) ⟨_,_,_,rfl,bC.frame (by(try dsimp only);omega) (fun x hx=>rfl),by(try dsimp only);omega,by(try dsimp only);omega,by(try dsimp only);omega,by(try dsimp only);omega,fK⟩
end Go.Proofs.YtgoelphibofcmaaGreat.V

namespace Go.Proofs.YtgoelphibofcmaaGreat.V
open Go.RowKit
def iJ:List ab->ab->List ab
 |[],q=>[q]
 |x::r,q=>if jY q.aL x.aL=true then q::x::r else x::iJ r q
theorem lr {q x:ab}:∀{l:List ab},x∈iJ l q↔x=q∨x∈l
 |[]=>by simp[iJ]
 |y::r=>by
  have ih:=@lr q x r
  rw[iJ]
  split
  ·simp
  ·simp only[List.mem_cons,ih]
   constructor
   ·rintro(h|h|h)<;>simp[h]
   ·rintro(h|h|h)<;>simp[h]
theorem pE (q:ab):∀l:List ab,(iJ l q).length=l.length+1
 |[]=>rfl
 |y::r=>by
  have ih:=pE q r
  rw[iJ]
  split
  ·simp
  ·simp[ih]
theorem sM {l:List ab}:qo l↔l.Pairwise fun a b=>jY a.aL b.aL=true:=by
 rw[List.pairwise_iff_getElem]
 constructor
 ·intro h i j hi hj xi
  have:=h i j xi hj
  rwa [fx hi,fx hj]at this
 ·intro h i j xi hj
  have:=h i j (by omega) hj xi
  rwa [fx (by omega),fx hj]
theorem nJ {l:List ab} {p:aM}:eY l p<0↔∀t∈l,t.aL≠p:=CK
theorem Dm {q:ab}:∀{l:List ab},qo l->eY l q.aL<0->qo (iJ l q):=by
 intro l
 rw[sM,sM,nJ]
 induction l with
 |nil=>intro _ _;exact List.pairwise_singleton _ _
 |cons y r ih=>
  intro h hn
  obtain⟨h1,h2⟩:=List.pairwise_cons.1 h
  rw[iJ]
  split
  ·rename_i hl
   refine List.pairwise_cons.2 ⟨fun x hx=>?_,h⟩
   rcases List.mem_cons.1 hx with rfl|hx
   ·exact hl
   ·exact j8 hl (h1 x hx)
  ·rename_i hl
   rw[Bool.not_eq_true]at hl
   refine List.pairwise_cons.2 ⟨fun x hx=>?_,ih h2 fun t ht=>hn t (by simp[ht])⟩
   rcases lr.1 hx with rfl|hx
   ·exact GI hl fun e=>hn y (by simp) e.symm
   ·exact h1 x hx
theorem j6 (x:ab) (r:List ab) (p:aM):gV (x::r) p=if x.aL=p then x.aT else gV r p:=by
 unfold gV eY qw
 rw[List.findIdx_cons]
 by_cases h:x.aL=p
 ·simp[h,aA]
 ·simp only[h,decide_false,cond_false,List.length_cons,Nat.add_lt_add_iff_right,if_false]
  by_cases hl:(r.findIdx fun c=>decide (c.aL=p))<r.length
  ·rw[if_pos hl,if_pos hl,if_pos (by omega),if_pos (by omega)]
   simp[aA]
  ·rw[if_neg hl,if_neg hl];rfl
theorem BU {q:ab} (p:aM):∀{l:List ab},(∀t∈l,t.aL≠q.aL)->gV (iJ l q) p=if q.aL=p then q.aT else gV l p
 |[],_=>by rw[iJ,j6]
 |x::r,h=>by
  have ih:=@BU q p r fun t ht=>h t (by simp[ht])
  rw[iJ]
  split
  ·rw[j6]
  ·rw[j6,ih,j6]
   by_cases h1:x.aL=p
   ·have h2:q.aL≠p:=fun e=>h x (by simp) (h1.trans e.symm)
    rw[if_pos h1,if_neg h2,if_pos h1]
   ·rw[if_neg h1,if_neg h1]
theorem Ah {q:ab} (p:aM):∀{l:List ab},(∀t∈l,t.aL≠q.aL)->gV (l++[q]) p=if q.aL=p then q.aT else gV l p
 |[],_=>by rw[List.nil_append,j6]
 |x::r,h=>by
  have ih:=@Ah q p r fun t ht=>h t (by simp[ht])
  rw[List.cons_append,j6,ih,j6]
  by_cases h1:x.aL=p
  ·have h2:q.aL≠p:=fun e=>h x (by simp) (h1.trans e.symm)
   rw[if_pos h1,if_neg h2,if_pos h1]
  ·rw[if_neg h1,if_neg h1]
theorem zG {α:Type} [DecidableEq α]:∀{xs ys:List α},xs.Nodup->(∀x∈xs,x∈ys)->xs.length<=ys.length
 |[],_,_,_=>Nat.zero_le _
 |x::xs,ys,hn,h=>by
  obtain⟨h1,h2⟩:=List.nodup_cons.1 hn
  have hx:=h x (by simp)
  have:=@zG α _ xs (ys.erase x) h2 fun y hy=>(List.mem_erase_of_ne fun e=>h1 (by rw[<-e];exact hy)).2 (h y (by simp[hy]))
  rw[List.length_erase_of_mem hx]at this
  have:=List.length_pos_of_mem hx
  rw[List.length_cons];omega
theorem Is {l:List ab} (h:qo l):l.Nodup:=by
 rw[sM]at h
 refine List.Pairwise.imp (fun {a b} rh e=>?_) h
 rw[e,nK]at rh;cases rh
abbrev tj:=List ab×List ab
noncomputable def GB (s:aw) (st:tj) (x:ab):tj:=if iI s st.2 x.aL x.aT=true then(st.1++[x],iJ st.2 x)else st
structure Je (s:aw) (l:List ab) (st:tj):Prop where
 Lo:qo st.2
 sub:∀x∈st.2,x∈l
 done:∀x∈st.1,x∈l
 len:st.2.length=s.bh.ai.length+st.1.length
theorem Je.yi {s:aw} {l:List ab} {st:tj} (h:Je s l st):st.2.length<=l.length:=by
 classical
 exact zG (Is h.Lo) h.sub
theorem JR {s:aw} {l:List ab} (hA:lN s.aI l) {now:List ab} (hs:∀x∈now,x∈l) {p:aM} {t:Int} (h:iI s now p t=true):eY now p<0:=by
 rcases Int.lt_or_le (eY now p) 0 with h0|h0
 ·exact h0
 ·exfalso
  obtain⟨h1,_⟩:=nI h0
  have h2:=(eM (hA.2 _ (hs _ (lv h1)))).1
  simp[iI,gV,h0]at h
  omega
theorem Je.step {s:aw} {l:List ab} {st:tj} (h:Je s l st) (hA:lN s.aI l) {x:ab} (hx:x∈l):Je s l (GB s st x):=by
 unfold GB
 split
 ·rename_i hf
  have h0:=JR hA h.sub hf
  exact⟨Dm h.Lo h0,fun y hy=>by rcases lr.1 hy with rfl|hy;exact hx;exact h.sub y hy,fun y hy=>by
   rcases List.mem_append.1 hy with hy|hy
   ·exact h.done y hy
   ·rw[List.mem_singleton.1 hy];exact hx,by rw[pE,List.length_append,List.length_singleton,h.len];omega⟩
 ·exact h
end Go.Proofs.YtgoelphibofcmaaGreat.V

namespace Go.Proofs.YtgoelphibofcmaaGreat.V
open Go.RowKit
attribute [local irreducible] dQ wpOps fX Call
attribute [local go_sem] aQ fM eU fY fW dm upd cG K.av cQ AV.cells AV.cell rowOf rowsOf part ld rowAt bQ cC dE ea gZ bS dh eo fV fj dB ef dd dc dS dU b4 bj cV bW cY cW ec eh ee cU ck de eb bV aU da cK gY bx cP cj bd dv bl dG AV.undef bH bK dW dZ dO dL cN ek eu cJ ej ei cZ db List.getD_cons_zero List.getD_cons_succ List.getD_nil List.all_cons List.all_nil Bool.and_true Bool.true_and Bool.and_self Bool.not_true Bool.not_false Option.map_some Option.map_none Option.bind_some Option.bind_none List.length_cons List.length_nil List.take_succ_cons List.take_zero List.take_nil List.drop_succ_cons List.drop_zero List.drop_nil List.head?_cons List.map_cons List.map_nil List.getElem?_cons_zero List.getElem?_cons_succ List.cons_append List.nil_append List.append_nil List.length_map List.set_cons_zero List.set_cons_succ Nat.reduceMul eq_self Int.toNat_natCast Int.natCast_nonneg and_self true_and and_true decide_true decide_false Bool.false_eq_true Nat.zero_add Nat.add_zero List.contains_cons List.contains_nil Bool.or_false Bool.false_or beq_self_eq_true Nat.reduceBEq ne_eq not_true_eq_false not_false_eq_true Id.mk.injEq false_and and_false Nat.reduceLT Int.reduceLE Int.reduceLT Int.reduceToNat Int.reduceNeg Int.reduceAdd Nat.le_refl List.length_append beq_true beq_false Bool.not_eq_eq_eq_not or_false false_or dX ae aj aJ bq bG cr aY bf aW bp cR bB
theorem Sf (g:Rows) (n:Nat) (x:ab):eI g (n+1) (aa x)=some (aa x):=by simp[aa,bt,cz,er]
def Mm (n:Nat) (L:List ab) (r:AV) (σ':au):Prop:=∃o:Id,r=.agg [.own o 0 L.length]/\σ'.get o=some ⟨true,3,L.map aa⟩/\n<=o.bE/\o.bE<σ'.next
theorem Mm.val {f:Nat} {args args':List AV} {L:List ab} {σ:au} (h:∀n,Call Tryz.prog f args' ⟨fun _=>none,n⟩ (Mm n L)) (hv:dt (dX σ.get) 6 args=some args'):Call Tryz.prog f args σ (fun r σ'=>Mm σ.next L r σ'/\Kept σ σ'):=by
 refine wj mixed hv (aE _ _ _ _ _ (fun r σ' hq=>?_) (th mixed (h σ.next)))
 obtain⟨⟨o,rfl,h2,h3,h4⟩,hn⟩:=hq
 refine⟨[o],rfl,fun i hi=>?_,⟨o,rfl,(pN (by simp)).trans h2,h3,h4⟩,hn,fun j hj=>k8 fun hc=>?_⟩
 ·rw[List.mem_singleton.1 hi]
  exact⟨_,h2,rfl,fun cs dC a ha=>by
   obtain⟨x,_,rfl⟩:=List.mem_map.1 dC
   simp[aa]at ha
   rcases ha with rfl|rfl|rfl<;>rfl⟩
 ·rw[List.mem_singleton.1 hc]at hj;omega
theorem CU (l:List ab) (hl:l.length<=1048576) (n0:Nat):Call Tryz.prog 99 [.du [.sl (l.map aa)]] ⟨fun _=>none,n0⟩ (Mm n0 l):=by
 refine eJ eF rfl fun iQ=>?_
 clear iQ
 have yJ:(l.map aa).length<=16777216:=by simp;omega
 have dx:(l.map aa).all (fun c=>c.length==3&&c.all AV.cell)=true:=all_map fun x=>⟨rfl,rfl⟩
 have Gn:(l.map aa).length=l.length:=by simp
 generalize ph:l.map aa=rows at yJ dx Gn
 (try((repeat(revert hN;revert N;apply Pn.out));refine wk (tw @yJ @dx) ?_;(repeat(refine Pn.mk ?_;intro N hN))))
 exact eV (.inl rfl) (vs:=[.agg [.own ⟨99001005,n0+1⟩ 0 rows.length]]) (sd @Nat.zero_add) ⟨⟨99001005,n0+1⟩,by rw[Gn];rfl,by rw[ph];simp only[go_sem, ↓reduceIte,Nat.reduceEqDiff,Nat.reduceAdd,Nat.reduceSub,Nat.reduceLeDiff,reduceCtorEq],by(try dsimp only);omega,by(try dsimp only);omega⟩
def uT (q:ab) (l:List ab):Bool:=l.any fun x=>jY q.aL x.aL
theorem Dl {q:ab}:∀{l:List ab},uT q l=false->iJ l q=l++[q]
 |[],_=>rfl
 |x::l,h=>by
  unfold uT at h
  rw[List.any_cons,Bool.or_eq_false_iff]at h
  rw[iJ,if_neg (by rw[h.1];simp),Dl h.2];rfl
theorem zP {q y:ab}:∀{l:List ab},uT q l=true->iJ (l++[y]) q=iJ l q++[y]
 |x::l,h=>by
  unfold uT at h
  rw[List.any_cons]at h
  rw[List.cons_append,iJ,iJ]
  cases hx:jY q.aL x.aL
  ·rw[hx,Bool.false_or]at h
   rw[if_neg (by simp),if_neg (by simp),zP h];rfl
  ·simp
theorem zN {q y:ab}:∀{l:List ab},uT q l=false->jY q.aL y.aL=true->iJ (l++[y]) q=l++[q]++[y]
 |[],_,hy=>by simp[iJ,hy]
 |x::l,h,hy=>by
  unfold uT at h
  rw[List.any_cons,Bool.or_eq_false_iff]at h
  rw[List.cons_append,iJ,if_neg (by rw[h.1];simp),zN h.2 hy];rfl
def jr (q:ab) (l:List ab):List ab:=if uT q l=true then iJ l q else l
theorem wV (q:ab) (l:List ab) (y:ab):uT q (l++[y])=(uT q l||jY q.aL y.aL):=by simp[uT]
theorem Ih (q:ab) (l:List ab):(jr q l).length<=l.length+1:=by
 unfold jr
 split
 ·rw[pE];omega
 ·omega
theorem K3 {q y:ab} {l:List ab} (h:uT q l=true∨jY q.aL y.aL=false):jr q (l++[y])=jr q l++[y]:=by
 unfold jr
 rw[wV]
 cases hd:uT q l
 ·rw[hd]at h
  have h2:jY q.aL y.aL=false:=by rcases h with h|h;cases h;exact h
  simp[h2]
 ·simp[zP hd]
theorem K2 {q y:ab} {l:List ab} (h:uT q l=false) (hy:jY q.aL y.aL=true):jr q (l++[y])=jr q l++[q]++[y]:=by
 unfold jr
 rw[wV,h,hy]
 simp[zN h hy]
def U4 (m:Nat) (L:List ab) (v:AV) (g:Rows) (n:Nat):Prop:=(L=[]/\v=.bD)∨∃o:Id,v=.own o 0 L.length/\g o=some ⟨true,3,L.map aa⟩/\m<=o.bE/\o.bE<n
theorem nq {l:List ab} {k:Nat} (hk:k<l.length):l.take (k+1)=l.take k++[aA l k]:=by rw[List.take_succ_eq_append_getElem hk,fx hk]
theorem C1 (L:List ab) (q:ab):(L++[q]).map aa=L.map aa++[[.int .i64 q.aL.fc,.int .i64 q.aL.eR,.int .i64 q.aT]]:=by rw[List.map_append];rfl
theorem sq (L:List ab) (q:ab):(L++[q]).length=L.length+1:=by rw[List.length_append];rfl
theorem CV (l:List ab) (hl:l.length<=1048576) (p:aM) (t:Int) (n0:Nat):Call Tryz.prog 101 [.du [.sl (l.map aa)],.agg (ah p),.int .i64 t] ⟨fun _=>none,n0⟩ (Mm n0 (iJ l ⟨p,t⟩)):=by
 refine eJ eF rfl fun iQ=>?_
 clear iQ
 obtain⟨q,hq⟩:∃q:ab,q=⟨p,t⟩:=⟨_,rfl⟩
 (try((repeat(revert hN;revert N;apply Pn.out));refine wk @ah.eq_1 ?_;(repeat(refine Pn.mk ?_;intro N hN))))
 refine aZ (fun n env st=>∃i:Nat,n=(l.length)-i/\i<=(l.length)/\env 9=.int .i64 (i:Int)/\env 8=.bool (uT q (l.take i))/\st.get ⟨101000000,n0⟩=some ⟨true,2,[ah p]⟩/\st.get ⟨101000001,n0⟩=some ⟨true,1,[[.bD]]⟩/\(n0+2<=st.next/\∃v,st.get ⟨101001001,n0+1⟩=some ⟨true,1,[[v]]⟩/\U4 (n0+2) (jr q (l.take i)) v st.get st.next)) (l.length) ⟨0,by omega,by omega,sl @ah.eq_1,sl @ah.eq_1,sl @ah.eq_1,sl @ah.eq_1,by(try dsimp only);exact⟨by omega,.bD,sd @Nat.zero_add,.inl ⟨rfl,rfl⟩⟩⟩ ?_
 rintro n_a env_a st_a ⟨i,rfl,ale,a9,a8,ag0,ag1,jO⟩ dy
 have a0:=dy 0 (by kernel_rfl);have a2:=dy 2 (by kernel_rfl);have a4:=dy 4 (by kernel_rfl);have a6:=dy 6 (by kernel_rfl);have a7:=dy 7 (by kernel_rfl)
 simp only[go_sem, ↓reduceIte,Nat.reduceEqDiff,Nat.reduceAdd,Nat.reduceSub,Nat.reduceLeDiff,reduceCtorEq,ah]at a0 a2 a4 a6 a7
 clear dy
 obtain⟨an,v,av,aG⟩:=jO
 have vA:=dr (i:=⟨101000000,n0⟩) (n:=st_a.next) (by(try dsimp only);omega)
 have vB:=dr (i:=⟨101000001,n0⟩) (n:=st_a.next) (by(try dsimp only);omega)
 have vC:=dr (i:=⟨101001001,n0+1⟩) (n:=st_a.next) (by(try dsimp only);omega)
 have M1:=Ih q (l.take i)
 rw[List.length_take]at M1
 by_cases hi:(i:Int)<(l.length:Int)
 ·have cw:∀{e:Env} {gg:Rows} {nx:Nat},(e 9=.int .i64 (IntKind.i64.wrap ((i:Int)+1)))->(e 8=.bool (uT q (l.take (i+1))))->(gg ⟨101000000,n0⟩=some ⟨true,2,[ah p]⟩)->(gg ⟨101000001,n0⟩=some ⟨true,1,[[.bD]]⟩)->(n0+2<=nx/\∃v,gg ⟨101001001,n0+1⟩=some ⟨true,1,[[v]]⟩/\U4 (n0+2) (jr q (l.take (i+1))) v gg nx)->∃m0,m0<(l.length)-i/\∃i:Nat,m0=(l.length)-i/\i<=(l.length)/\e 9=.int .i64 (i:Int)/\e 8=.bool (uT q (l.take i))/\gg ⟨101000000,n0⟩=some ⟨true,2,[ah p]⟩/\gg ⟨101000001,n0⟩=some ⟨true,1,[[.bD]]⟩/\(n0+2<=nx/\∃v,gg ⟨101001001,n0+1⟩=some ⟨true,1,[[v]]⟩/\U4 (n0+2) (jr q (l.take i)) v gg nx):=fun x1 x2 x3 x4 x5=>⟨_,by omega,i+1,rfl,by omega,(by rw[x1,aD (by omega)]),x2,x3,x4,x5⟩
  have fe:i<l.length:=by omega
  have iV:=fw fe
  have ew:=oN p (aA l i).aL
  have oH:=nq fe
  have Wu:jY q.aL (aA l i).aL=jY p (aA l i).aL:=by rw[hq]
  have jc:(l.map aa).length=l.length:=by simp
  have Mb:=wV q (l.take i) (aA l i)
  rw[<-oH,Wu]at Mb
  rw[ah,ah]at ew
  by_cases hc:uT q (l.take i)=true∨jY p (aA l i).aL=false
  ·have lL:=K3 (q:=q) (y:=aA l i) (l:=l.take i) (by rw[Wu];exact hc)
   rw[<-oH]at lL
   generalize jr q (l.take i)=L at aG lL M1
   have DU:=sq L (aA l i)
   have vW:=C1 L (aA l i)
   have mT:uT q (l.take (i+1))=uT q (l.take i):=by
    rw[Mb]
    rcases hc with h|h<;>rw[h]<;>simp
   rcases aG with⟨hL,rfl⟩|⟨o,rfl,ao,aon,Ae⟩
   ·subst hL
    cases hd:uT q (l.take i)
    ·have h2:jY p (aA l i).aL=false:=by rcases hc with h|h;rw[hd]at h;cases h;exact h
     rw[h2]at ew
     rw[hd]at a8 mT
     (repeat(first|((repeat(revert hN;revert N;apply Pn.out));refine wk (tw @a9 (tw @a8 (tw @ag0 (tw @ag1 (tw @a0 (tw @a2 (tw @a4 (tw @a6 (tw @a7 (tw @hi (tw @iV (tw @vA (tw @vB (tw @vC (tw @av (tw @jc (tw @ah.eq_1 @aa.eq_1))))))))))))))))) ?_;(repeat(refine Pn.mk ?_;intro N hN)))|((try apply Or.inl);refine⟨_,aq.x (ew) (sd (tw @a9 (tw @a8 (tw @ag0 (tw @ag1 (tw @a0 (tw @a2 (tw @a4 (tw @a6 (tw @a7 (tw @hi (tw @iV (tw @vA (tw @vB (tw @vC (tw @av (tw @jc (tw @ah.eq_1 @aa.eq_1)))))))))))))))))),?_⟩;refine hN _ _ ?_;clear hN N)))
     refine cw ?_ ?_ ?_ ?_ (by(try dsimp only);exact⟨by omega,_,sl @Nat.zero_add,.inr ⟨⟨101009010,st_a.next+1+1⟩,by rw[lL,DU]<;>(simp only[go_sem, ↓reduceIte,Nat.reduceEqDiff,Nat.reduceAdd,Nat.reduceSub,Nat.reduceLeDiff,reduceCtorEq]<;>rfl),by rw[lL,vW]<;>(simp only[go_sem, ↓reduceIte,Nat.reduceEqDiff,Nat.reduceAdd,Nat.reduceSub,Nat.reduceLeDiff,reduceCtorEq]<;>rfl),by(try dsimp only);omega,by(try dsimp only);omega⟩⟩)
     all_goals simp only[go_sem, ↓reduceIte,Nat.reduceEqDiff,Nat.reduceAdd,Nat.reduceSub,Nat.reduceLeDiff,reduceCtorEq,a9,a8,ag0,ag1,a0,a2,a4,a6,a7,mT,vA,vB,vC,ah]
    ·rw[hd]at a8 mT
     (try((repeat(revert hN;revert N;apply Pn.out));refine wk (tw @a9 (tw @a8 (tw @ag0 (tw @ag1 (tw @a0 (tw @a2 (tw @a4 (tw @a6 (tw @a7 (tw @hi (tw @iV (tw @vA (tw @vB (tw @vC (tw @av (tw @jc (tw @ah.eq_1 @aa.eq_1))))))))))))))))) ?_;(repeat(refine Pn.mk ?_;intro N hN))))
     refine cw ?_ ?_ ?_ ?_ (by(try dsimp only);exact⟨by omega,_,sl @Nat.zero_add,.inr ⟨⟨101009010,st_a.next+1+1⟩,by rw[lL,DU]<;>(simp only[go_sem, ↓reduceIte,Nat.reduceEqDiff,Nat.reduceAdd,Nat.reduceSub,Nat.reduceLeDiff,reduceCtorEq]<;>rfl),by rw[lL,vW]<;>(simp only[go_sem, ↓reduceIte,Nat.reduceEqDiff,Nat.reduceAdd,Nat.reduceSub,Nat.reduceLeDiff,reduceCtorEq]<;>rfl),by(try dsimp only);omega,by(try dsimp only);omega⟩⟩)
     all_goals simp only[go_sem, ↓reduceIte,Nat.reduceEqDiff,Nat.reduceAdd,Nat.reduceSub,Nat.reduceLeDiff,reduceCtorEq,a9,a8,ag0,ag1,a0,a2,a4,a6,a7,mT,vA,vB,vC,ah]
   ·have vo:=dr Ae
    have oA:=cm (a:=⟨101000000,n0⟩) (b:=o) (by(try dsimp only);omega)
    have oB:=cm (a:=⟨101000001,n0⟩) (b:=o) (by(try dsimp only);omega)
    have oC:=cm (a:=⟨101001001,n0+1⟩) (b:=o) (by(try dsimp only);omega)
    have JZ:(L.map aa).length=L.length:=by simp
    have Of:L.length<=16777215:=by omega
    cases hd:uT q (l.take i)
    ·have h2:jY p (aA l i).aL=false:=by rcases hc with h|h;rw[hd]at h;cases h;exact h
     rw[h2]at ew
     rw[hd]at a8 mT
     (repeat(first|((repeat(revert hN;revert N;apply Pn.out));refine wk (tw @a9 (tw @a8 (tw @ag0 (tw @ag1 (tw @a0 (tw @a2 (tw @a4 (tw @a6 (tw @a7 (tw @hi (tw @iV (tw @vA (tw @vB (tw @vC (tw @vo (tw @oA (tw @oB (tw @oC (tw @ao (tw @av (tw @jc (tw @JZ (tw @Of (tw @ah.eq_1 @aa.eq_1)))))))))))))))))))))))) ?_;(repeat(refine Pn.mk ?_;intro N hN)))|((try apply Or.inl);refine⟨_,aq.x (ew) (sd (tw @a9 (tw @a8 (tw @ag0 (tw @ag1 (tw @a0 (tw @a2 (tw @a4 (tw @a6 (tw @a7 (tw @hi (tw @iV (tw @vA (tw @vB (tw @vC (tw @vo (tw @oA (tw @oB (tw @oC (tw @ao (tw @av (tw @jc (tw @JZ (tw @Of (tw @ah.eq_1 @aa.eq_1))))))))))))))))))))))))),?_⟩;refine hN _ _ ?_;clear hN N)))
     refine cw ?_ ?_ ?_ ?_ (by(try dsimp only);exact⟨by omega,_,sl @Nat.zero_add,.inr ⟨⟨101009010,st_a.next+1+1⟩,by rw[lL,DU]<;>(simp only[go_sem, ↓reduceIte,Nat.reduceEqDiff,Nat.reduceAdd,Nat.reduceSub,Nat.reduceLeDiff,reduceCtorEq]<;>rfl),by rw[lL,vW]<;>(simp only[go_sem, ↓reduceIte,Nat.reduceEqDiff,Nat.reduceAdd,Nat.reduceSub,Nat.reduceLeDiff,reduceCtorEq]<;>rfl),by(try dsimp only);omega,by(try dsimp only);omega⟩⟩)
     all_goals simp only[go_sem, ↓reduceIte,Nat.reduceEqDiff,Nat.reduceAdd,Nat.reduceSub,Nat.reduceLeDiff,reduceCtorEq,a9,a8,ag0,ag1,a0,a2,a4,a6,a7,mT,vA,vB,vC,oA,oB,oC,ah]
    ·rw[hd]at a8 mT
     (try((repeat(revert hN;revert N;apply Pn.out));refine wk (tw @a9 (tw @a8 (tw @ag0 (tw @ag1 (tw @a0 (tw @a2 (tw @a4 (tw @a6 (tw @a7 (tw @hi (tw @iV (tw @vA (tw @vB (tw @vC (tw @vo (tw @oA (tw @oB (tw @oC (tw @ao (tw @av (tw @jc (tw @JZ (tw @Of (tw @ah.eq_1 @aa.eq_1)))))))))))))))))))))))) ?_;(repeat(refine Pn.mk ?_;intro N hN))))
     refine cw ?_ ?_ ?_ ?_ (by(try dsimp only);exact⟨by omega,_,sl @Nat.zero_add,.inr ⟨⟨101009010,st_a.next+1+1⟩,by rw[lL,DU]<;>(simp only[go_sem, ↓reduceIte,Nat.reduceEqDiff,Nat.reduceAdd,Nat.reduceSub,Nat.reduceLeDiff,reduceCtorEq]<;>rfl),by rw[lL,vW]<;>(simp only[go_sem, ↓reduceIte,Nat.reduceEqDiff,Nat.reduceAdd,Nat.reduceSub,Nat.reduceLeDiff,reduceCtorEq]<;>rfl),by(try dsimp only);omega,by(try dsimp only);omega⟩⟩)
     all_goals simp only[go_sem, ↓reduceIte,Nat.reduceEqDiff,Nat.reduceAdd,Nat.reduceSub,Nat.reduceLeDiff,reduceCtorEq,a9,a8,ag0,ag1,a0,a2,a4,a6,a7,mT,vA,vB,vC,oA,oB,oC,ah]
  ·have hd:uT q (l.take i)=false:=by
    cases h:uT q (l.take i)
    ·rfl
    ·exact absurd (.inl h) hc
   have h2:jY p (aA l i).aL=true:=by
    cases h:jY p (aA l i).aL
    ·exact absurd (.inr h) hc
    ·rfl
   have lL:=K2 (q:=q) (y:=aA l i) hd (by rw[Wu];exact h2)
   rw[<-oH]at lL
   have mT:uT q (l.take (i+1))=true:=by rw[Mb,h2];simp
   rw[hd]at a8
   rw[h2]at ew
   have UI:aa q=[.int .i64 p.fc,.int .i64 p.eR,.int .i64 t]:=by rw[hq];rfl
   generalize jr q (l.take i)=L at aG lL M1
   have DU:=sq (L++[q]) (aA l i)
   have vW:=C1 (L++[q]) (aA l i)
   have Wj:=sq L q
   have Wk:(L++[q]).map aa=L.map aa++[[.int .i64 p.fc,.int .i64 p.eR,.int .i64 t]]:=by rw[List.map_append,List.map_singleton,UI]
   rw[Wj]at DU
   rw[Wk]at vW
   rcases aG with⟨hL,rfl⟩|⟨o,rfl,ao,aon,Ae⟩
   ·subst hL
    (repeat(first|((repeat(revert hN;revert N;apply Pn.out));refine wk (tw @a9 (tw @a8 (tw @ag0 (tw @ag1 (tw @a0 (tw @a2 (tw @a4 (tw @a6 (tw @a7 (tw @hi (tw @iV (tw @vA (tw @vB (tw @vC (tw @av (tw @jc (tw @ah.eq_1 @aa.eq_1))))))))))))))))) ?_;(repeat(refine Pn.mk ?_;intro N hN)))|((try apply Or.inl);refine⟨_,aq.x (ew) (sd (tw @a9 (tw @a8 (tw @ag0 (tw @ag1 (tw @a0 (tw @a2 (tw @a4 (tw @a6 (tw @a7 (tw @hi (tw @iV (tw @vA (tw @vB (tw @vC (tw @av (tw @jc (tw @ah.eq_1 @aa.eq_1)))))))))))))))))),?_⟩;refine hN _ _ ?_;clear hN N)))
    refine cw ?_ ?_ ?_ ?_ (by(try dsimp only);exact⟨by omega,_,sl @Nat.zero_add,.inr ⟨⟨101009010,st_a.next+1+1+1+1⟩,by rw[lL,DU]<;>(simp only[go_sem, ↓reduceIte,Nat.reduceEqDiff,Nat.reduceAdd,Nat.reduceSub,Nat.reduceLeDiff,reduceCtorEq]<;>rfl),by rw[lL,vW]<;>(simp only[go_sem, ↓reduceIte,Nat.reduceEqDiff,Nat.reduceAdd,Nat.reduceSub,Nat.reduceLeDiff,reduceCtorEq]<;>rfl),by(try dsimp only);omega,by(try dsimp only);omega⟩⟩)
    all_goals simp only[go_sem, ↓reduceIte,Nat.reduceEqDiff,Nat.reduceAdd,Nat.reduceSub,Nat.reduceLeDiff,reduceCtorEq,a9,a8,ag0,ag1,a0,a2,a4,a6,a7,mT,vA,vB,vC,ah]
   ·have vo:=dr Ae
    have oA:=cm (a:=⟨101000000,n0⟩) (b:=o) (by(try dsimp only);omega)
    have oB:=cm (a:=⟨101000001,n0⟩) (b:=o) (by(try dsimp only);omega)
    have oC:=cm (a:=⟨101001001,n0+1⟩) (b:=o) (by(try dsimp only);omega)
    have JZ:(L.map aa).length=L.length:=by simp
    have Of:L.length<=16777214:=by omega
    have Sn:L.length<=16777215:=by omega
    (repeat(first|((repeat(revert hN;revert N;apply Pn.out));refine wk (tw @a9 (tw @a8 (tw @ag0 (tw @ag1 (tw @a0 (tw @a2 (tw @a4 (tw @a6 (tw @a7 (tw @hi (tw @iV (tw @vA (tw @vB (tw @vC (tw @vo (tw @oA (tw @oB (tw @oC (tw @ao (tw @av (tw @jc (tw @JZ (tw @Of (tw @Sn (tw @ah.eq_1 @aa.eq_1))))))))))))))))))))))))) ?_;(repeat(refine Pn.mk ?_;intro N hN)))|((try apply Or.inl);refine⟨_,aq.x (ew) (sd (tw @a9 (tw @a8 (tw @ag0 (tw @ag1 (tw @a0 (tw @a2 (tw @a4 (tw @a6 (tw @a7 (tw @hi (tw @iV (tw @vA (tw @vB (tw @vC (tw @vo (tw @oA (tw @oB (tw @oC (tw @ao (tw @av (tw @jc (tw @JZ (tw @Of (tw @Sn (tw @ah.eq_1 @aa.eq_1)))))))))))))))))))))))))),?_⟩;refine hN _ _ ?_;clear hN N)))
    refine cw ?_ ?_ ?_ ?_ (by(try dsimp only);exact⟨by omega,_,sl @Nat.zero_add,.inr ⟨⟨101009010,st_a.next+1+1+1+1⟩,by rw[lL,DU]<;>(simp only[go_sem, ↓reduceIte,Nat.reduceEqDiff,Nat.reduceAdd,Nat.reduceSub,Nat.reduceLeDiff,reduceCtorEq]<;>rfl),by rw[lL,vW]<;>(simp only[go_sem, ↓reduceIte,Nat.reduceEqDiff,Nat.reduceAdd,Nat.reduceSub,Nat.reduceLeDiff,reduceCtorEq]<;>rfl),by(try dsimp only);omega,by(try dsimp only);omega⟩⟩)
    all_goals simp only[go_sem, ↓reduceIte,Nat.reduceEqDiff,Nat.reduceAdd,Nat.reduceSub,Nat.reduceLeDiff,reduceCtorEq,a9,a8,ag0,ag1,a0,a2,a4,a6,a7,mT,vA,vB,vC,oA,oB,oC,ah]
 ·have kF:i=l.length:=by omega
  subst kF
  rw[List.take_length]at a8 aG M1
  cases hd:uT q l
  ·rw[hd]at a8
   have lL:iJ l ⟨p,t⟩=jr q l++[q]:=by rw[<-hq,Dl hd,jr,hd];simp
   have UI:aa q=[.int .i64 p.fc,.int .i64 p.eR,.int .i64 t]:=by rw[hq];rfl
   generalize jr q l=L at aG M1 lL
   have DU:=sq L q
   have vW:(L++[q]).map aa=L.map aa++[[.int .i64 p.fc,.int .i64 p.eR,.int .i64 t]]:=by rw[List.map_append,List.map_singleton,UI]
   rcases aG with⟨hL,rfl⟩|⟨o,rfl,ao,aon,Ae⟩
   ·subst hL
    (try((repeat(revert hN;revert N;apply Pn.out));refine wk (tw @a9 (tw @a8 (tw @ag0 (tw @ag1 (tw @a0 (tw @a2 (tw @a4 (tw @a6 (tw @a7 (tw @hi (tw @vA (tw @vB (tw @vC (tw @av (tw @ah.eq_1 @aa.eq_1))))))))))))))) ?_;(repeat(refine Pn.mk ?_;intro N hN))))
    exact eV (.inl rfl) (vs:=[.agg [.own ⟨101011006,st_a.next+1+1⟩ 0 1]]) (sd (tw @a9 (tw @a8 (tw @ag0 (tw @ag1 (tw @a0 (tw @a2 (tw @a4 (tw @a6 (tw @a7 @vB)))))))))) ⟨⟨101011006,st_a.next+1+1⟩,by rw[lL];rfl,by rw[lL];simp only[go_sem, ↓reduceIte,Nat.reduceEqDiff,Nat.reduceAdd,Nat.reduceSub,Nat.reduceLeDiff,reduceCtorEq,vB];rw[UI],by(try dsimp only);omega,by(try dsimp only);omega⟩
   ·have vo:=dr Ae
    have oA:=cm (a:=⟨101000000,n0⟩) (b:=o) (by(try dsimp only);omega)
    have oB:=cm (a:=⟨101000001,n0⟩) (b:=o) (by(try dsimp only);omega)
    have oC:=cm (a:=⟨101001001,n0+1⟩) (b:=o) (by(try dsimp only);omega)
    have JZ:(L.map aa).length=L.length:=by simp
    have Of:L.length<=16777215:=by omega
    (try((repeat(revert hN;revert N;apply Pn.out));refine wk (tw @a9 (tw @a8 (tw @ag0 (tw @ag1 (tw @a0 (tw @a2 (tw @a4 (tw @a6 (tw @a7 (tw @hi (tw @vA (tw @vB (tw @vC (tw @vo (tw @oA (tw @oB (tw @oC (tw @ao (tw @av (tw @JZ (tw @Of (tw @ah.eq_1 @aa.eq_1)))))))))))))))))))))) ?_;(repeat(refine Pn.mk ?_;intro N hN))))
    exact eV (.inl rfl) (vs:=[.agg [.own ⟨101011006,st_a.next+1+1⟩ 0 (L.length+1)]]) (sd (tw @a9 (tw @a8 (tw @ag0 (tw @ag1 (tw @a0 (tw @a2 (tw @a4 (tw @a6 (tw @a7 @vB)))))))))) ⟨⟨101011006,st_a.next+1+1⟩,by rw[lL,DU];rfl,by rw[lL,vW];simp only[go_sem, ↓reduceIte,Nat.reduceEqDiff,Nat.reduceAdd,Nat.reduceSub,Nat.reduceLeDiff,reduceCtorEq,vB],by(try dsimp only);omega,by(try dsimp only);omega⟩
  ·rw[hd]at a8
   have lL:iJ l ⟨p,t⟩=jr q l:=by rw[<-hq,jr,hd];simp
   have kK:0<(jr q l).length:=by rw[<-lL,pE];omega
   generalize jr q l=L at aG M1 kK lL
   rcases aG with⟨hL,rfl⟩|⟨o,rfl,ao,aon,Ae⟩
   ·subst hL;cases kK
   ·have vo:=dr Ae
    have oB:=cm (a:=⟨101000001,n0⟩) (b:=o) (by(try dsimp only);omega)
    (try((repeat(revert hN;revert N;apply Pn.out));refine wk (tw @a9 (tw @a8 (tw @ag0 (tw @ag1 (tw @a0 (tw @a2 (tw @a4 (tw @a6 (tw @a7 (tw @hi (tw @vA (tw @vB (tw @vC (tw @vo (tw @ao (tw @av (tw @ah.eq_1 @aa.eq_1))))))))))))))))) ?_;(repeat(refine Pn.mk ?_;intro N hN))))
    exact eV (.inl rfl) (vs:=[.agg [.own o 0 L.length]]) (sd (tw @a9 (tw @a8 (tw @ag0 (tw @ag1 (tw @a0 (tw @a2 (tw @a4 (tw @a6 (tw @a7 @vB)))))))))) ⟨o,by rw[lL];rfl,by rw[lL];simp only[go_sem, ↓reduceIte,Nat.reduceEqDiff,Nat.reduceAdd,Nat.reduceSub,Nat.reduceLeDiff,reduceCtorEq,vB,oB,ao],by(try dsimp only);omega,by(try dsimp only);omega⟩
theorem KD (s:aw) (hP:uN s) (l:List ab) (hA:lN s.aI l) (p:aM) (t:Int) (ht:ev s.aI t=true):aq Tryz.prog 100 [.du (ar s),.du [.sl (l.map aa)],.agg [.int .i64 p.fc,.int .i64 p.eR,.int .i64 t]] (.bool (iI s l p t)):=by
 refine aq.body eF rfl fun iQ n0=>?_
 clear iQ
 have h1:=rG p
 have h2:=(rH s.aI t).cut mixed (.ptr _ [.sl (s.bh.ai.map aa),.int .i64 s.ay] (.same _ .nil))
 have h3:=rI l p hA.1.Lo (by have:=hA.1.yi;omega)
 rw[ht]at h2
 by_cases h0:vk p=true
 ·rw[h0]at h1
  obtain⟨hx,hy⟩:=ml h0
  by_cases hi:eY l p<0
  ·have h4:=(so s.aI hP.set l hA p hx hy t ht).cut mixed (.ptr _ [.sl (s.bh.ai.map aa),.int .i64 s.ay] (.same _ (.same _ (.same _ .nil))))
   have e:iI s l p t=decide (s.ay<=qC s.aI (gV l) p t):=by simp[iI,h0,(Ai hA p).2 hi]
   rw[e]
   (repeat(first|((repeat(revert hN;revert N;apply Pn.out));refine wk (tw @ar.eq_1 (tw @ad.eq_1 (tw @ah.eq_1 @hi))) ?_;(repeat(refine Pn.mk ?_;intro N hN)))|((try apply Or.inl);refine⟨_,aq.x (h1) (sd (tw @ar.eq_1 (tw @ad.eq_1 (tw @ah.eq_1 @hi)))),?_⟩;refine hN _ _ ?_;clear hN N)|((try apply Or.inl);refine⟨_,aq.x (h2) (sd (tw @ar.eq_1 (tw @ad.eq_1 (tw @ah.eq_1 @hi)))),?_⟩;refine hN _ _ ?_;clear hN N)|((try apply Or.inl);refine⟨_,aq.x (h3) (sd (tw @ar.eq_1 (tw @ad.eq_1 (tw @ah.eq_1 @hi)))),?_⟩;refine hN _ _ ?_;clear hN N)|((try apply Or.inl);refine⟨_,aq.x (h4) (sd (tw @ar.eq_1 (tw @ad.eq_1 (tw @ah.eq_1 @hi)))),?_⟩;refine hN _ _ ?_;clear hN N)))
   exact bc (b:=decide (s.ay<=qC s.aI (gV l) p t)) (.inl rfl) (sd @Nat.zero_add) rfl
  ·have e:iI s l p t=false:=by
    have:¬gV l p<0:=fun h=>hi ((Ai hA p).1 h)
    simp[iI,this]
   rw[e]
   (repeat(first|((repeat(revert hN;revert N;apply Pn.out));refine wk (tw @ar.eq_1 (tw @ad.eq_1 (tw @ah.eq_1 @hi))) ?_;(repeat(refine Pn.mk ?_;intro N hN)))|((try apply Or.inl);refine⟨_,aq.x (h1) (sd (tw @ar.eq_1 (tw @ad.eq_1 (tw @ah.eq_1 @hi)))),?_⟩;refine hN _ _ ?_;clear hN N)|((try apply Or.inl);refine⟨_,aq.x (h2) (sd (tw @ar.eq_1 (tw @ad.eq_1 (tw @ah.eq_1 @hi)))),?_⟩;refine hN _ _ ?_;clear hN N)|((try apply Or.inl);refine⟨_,aq.x (h3) (sd (tw @ar.eq_1 (tw @ad.eq_1 (tw @ah.eq_1 @hi)))),?_⟩;refine hN _ _ ?_;clear hN N)))
   exact bc (b:=false) (.inl rfl) (sd @Nat.zero_add) rfl
 ·rw[Bool.not_eq_true]at h0
  rw[h0]at h1
  have e:iI s l p t=false:=by simp[iI,h0]
  rw[e]
  (repeat(first|((repeat(revert hN;revert N;apply Pn.out));refine wk (tw @ar.eq_1 (tw @ad.eq_1 @ah.eq_1)) ?_;(repeat(refine Pn.mk ?_;intro N hN)))|((try apply Or.inl);refine⟨_,aq.x (h1) (sd (tw @ar.eq_1 (tw @ad.eq_1 @ah.eq_1))),?_⟩;refine hN _ _ ?_;clear hN N)))
  exact bc (b:=false) (.inl rfl) (sd @Nat.zero_add) rfl
end Go.Proofs.YtgoelphibofcmaaGreat.V

namespace Go.Proofs.YtgoelphibofcmaaGreat.V
open Go.RowKit
attribute [local irreducible] dQ wpOps fX Call
attribute [local go_sem] aQ fM eU fY fW dm upd cG K.av cQ AV.cells AV.cell rowOf rowsOf part ld rowAt bQ cC dE ea gZ bS dh eo fV fj dB ef dd dc dS dU b4 bj cV bW cY cW ec eh ee cU ck de eb bV aU da cK gY bx cP cj bd dv bl dG AV.undef bH bK dW dZ dO dL cN ek eu cJ ej ei cZ db List.getD_cons_zero List.getD_cons_succ List.getD_nil List.all_cons List.all_nil Bool.and_true Bool.true_and Bool.and_self Bool.not_true Bool.not_false Option.map_some Option.map_none Option.bind_some Option.bind_none List.length_cons List.length_nil List.take_succ_cons List.take_zero List.take_nil List.drop_succ_cons List.drop_zero List.drop_nil List.head?_cons List.map_cons List.map_nil List.getElem?_cons_zero List.getElem?_cons_succ List.cons_append List.nil_append List.append_nil List.length_map List.set_cons_zero List.set_cons_succ Nat.reduceMul eq_self Int.toNat_natCast Int.natCast_nonneg and_self true_and and_true decide_true decide_false Bool.false_eq_true Nat.zero_add Nat.add_zero List.contains_cons List.contains_nil Bool.or_false Bool.false_or beq_self_eq_true Nat.reduceBEq ne_eq not_true_eq_false not_false_eq_true Id.mk.injEq false_and and_false Nat.reduceLT Int.reduceLE Int.reduceLT Int.reduceToNat Int.reduceNeg Int.reduceAdd Nat.le_refl List.length_append beq_true beq_false Bool.not_eq_eq_eq_not or_false false_or dX ae aj aJ bq bG cr aY bf aW bp cR bB
theorem sK {g:Rows} {X o:Id} {L:List ab} (hX:g X=some ⟨true,1,[[.own o 0 L.length]]⟩) (ho:g o=some ⟨true,3,L.map aa⟩):fz (dX g) 6 (.ptr X 0 0)=some (.du [.sl (L.map aa)]):=by
 have h1:fz (dX g) 5 (.own o 0 L.length)=some (.sl (L.map aa)):=il (e:=aa) (sz:=3) (by simp[dX,ho]) rfl fun x=>by simp[aa,ae,aj,aJ]
 exact xb (n:=5) (sz:=1) (rows:=[[.own o 0 L.length]]) (cs:=[.own o 0 L.length]) (by simp[dX,hX]) rfl (by simp[ae,aj,h1])
def U5 (X:Id) (st:tj) (e7:AV) (g:Rows) (n:Nat):Prop:=∃o u:Id,g X=some ⟨true,1,[[.own o 0 st.2.length]]⟩/\g o=some ⟨true,3,st.2.map aa⟩/\e7=.own u 0 st.1.length/\g u=some ⟨true,3,st.1.map aa⟩/\o.bE<u.bE/\X.bE<u.bE/\u.bE<n/\o≠X
theorem U5.frame {X:Id} {st:tj} {e7 Oa:AV} {g g':Rows} {n n':Nat} (h:U5 X st e7 g n) (he:Oa=e7) (hn:n<=n') (hf:∀x:Id,x.bE<n->g' x=g x):U5 X st Oa g' n':=by
 obtain⟨o,u,h1,h2,h3,h4,h5,h6,h7,h8⟩:=h
 exact⟨o,u,(hf X (by omega)).trans h1,(hf o (by omega)).trans h2,he.trans h3,(hf u h7).trans h4,h5,h6,by omega,h8⟩
end Go.Proofs.YtgoelphibofcmaaGreat.V
