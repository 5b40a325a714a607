/- The bonds of an assembly, by the reference. -/
import Derived.Test.YtgoelphibofcmaaGreatSqB
import Derived.Test.YtgoelphibofcmaaGreatSqC
set_option linter.unusedVariables false
set_option linter.unusedSimpArgs false
set_option maxRecDepth 100000
set_option maxHeartbeats 16000000
namespace Go.Proofs.YtgoelphibofcmaaGreat.V
open Go.RowKit
attribute [local irreducible] dI wpOps gD Call
attribute [local go_sem] aM fM eP gp gm cN upd cD K.av cR AV.cells AV.cell rowOf rowsOf part ld rowAt bz cu dG ef ik bQ dh eA gj e9 dq ek dd dc dU dV bW bf cW bV cY cX ei eo ej cV ck de eh bU aT da cG ij bx cQ b4 aY dn bc dH AV.undef bF bI eb ee dP dM cJ ez eE cF er ep cZ db List.getD_cons_zero List.getD_cons_succ List.getD_nil List.all_cons List.all_nil Bool.and_true Bool.true_and Bool.and_self Bool.not_true Bool.not_false Option.map_some Option.map_none Option.bind_some Option.bind_none List.length_cons List.length_nil List.take_succ_cons List.take_zero List.take_nil List.drop_succ_cons List.drop_zero List.drop_nil List.head?_cons List.map_cons List.map_nil List.getElem?_cons_zero List.getElem?_cons_succ List.cons_append List.nil_append List.append_nil List.length_map List.set_cons_zero List.set_cons_succ Nat.reduceMul eq_self Int.toNat_natCast Int.natCast_nonneg and_self true_and and_true decide_true decide_false Bool.false_eq_true Nat.zero_add Nat.add_zero List.contains_cons List.contains_nil Bool.or_false Bool.false_or beq_self_eq_true Nat.reduceBEq ne_eq not_true_eq_false not_false_eq_true Id.mk.injEq false_and and_false Nat.reduceLT Int.reduceLE Int.reduceLT Int.reduceToNat Int.reduceNeg Int.reduceAdd Nat.le_refl List.length_append beq_true beq_false Bool.not_eq_eq_eq_not or_false false_or dO ai aj aH bp bE cz aX bl aW bj cU bH
def ay (b:PB):List AV:=[.int .i64 b.a,.int .i64 b.b,.int .i64 b.s]
theorem M3:∀b:PB,(ay b).length=3/\(ay b).all AV.cell=true:=fun _=>⟨rfl,rfl⟩
theorem zt (g:Rows) (n:Nat) (b:PB):cP g (n+1) (ay b)=some (ay b):=by simp[ay,ai,aj,aH]
theorem uy (g:Rows) (n:Nat) (b:PB):ea g (n+1) (ay b)=some (ay b):=by simp[ay,bD,cE,eM]
theorem H0:PW ay (fun c=>.agg (ay c)) 3 true:=⟨fun _=>rfl,fun _=>rfl,fun x g=>by simp only[ay,ai,aj,bl,aH,Option.map_some]⟩
def mQ (s:au) (l:List ad) (i:Nat) (d:Int):List PB:=
 if 0<=eD l (dx (aI l i).aO d)/\0<gT s (aI l i).aQ d (aI l (eD l (dx (aI l i).aO d)).toNat).aQ then
  [⟨i,(eD l (dx (aI l i).aO d)).toNat,gT s (aI l i).aQ d (aI l (eD l (dx (aI l i).aO d)).toNat).aQ⟩]else[]
def fX (s:au) (l:List ad) (i m:Nat):List PB:=(List.range m).flatMap fun j:Nat=>mQ s l i (1-(j:Int))
def gN (s:au) (l:List ad) (n:Nat):List PB:=(List.range n).flatMap fun i=>fX s l i 2
def cI (s:au) (l:List ad):List PB:=gN s l l.length
theorem pU (s:au) (l:List ad) (i m:Nat):fX s l i (m+1)=fX s l i m++mQ s l i (1-(m:Int)):=by simp[fX,List.range_succ]
theorem qZ (s:au) (l:List ad) (n:Nat):gN s l (n+1)=gN s l n++fX s l n 2:=by simp[gN,List.range_succ]
theorem CX (s:au) (l:List ad) (i:Nat) (d:Int):(mQ s l i d).length<=1:=by unfold mQ;split<;>simp
theorem qY (s:au) (l:List ad) (i m:Nat):(fX s l i m).length<=m:=by
 induction m with
 |zero=>simp[fX]
 |succ m ih=>rw[pU,List.length_append];have:=CX s l i (1-(m:Int));omega
theorem tu (s:au) (l:List ad) (n:Nat):(gN s l n).length<=2*n:=by
 induction n with
 |zero=>simp[gN]
 |succ n ih=>rw[qZ,List.length_append];have:=qY s l n 2;omega
def sB:Id->Prop:=fun o=>o.site=193001000∨o.site=193012006
theorem Dz (s:au) (l:List ad) (hS:kE s) (hA:jl s l):aq Tryz.prog 193 [.di (ab s),.di [.sl (l.map aa)]] (.sl ((cI s l).map ay)):=by
 refine aq.body eB rfl fun hl n0=>?_
 clear hl
 have hF:=hA.1
 have Iu:=hF.rn
 (try((repeat(revert hN;revert N;apply Pn.out));refine wk @Nat.zero_add ?_;(repeat(refine Pn.mk ?_;intro N hN))))
 refine aV (fun n env st=>∃k:Nat,n=(l.length)-k/\k<=(l.length)/\env 6=.int .i64 (k:Int)/\(mM ay 3 (env 5) st.get sB (gN s l k))) (l.length) ⟨0,by omega,by omega,sl @Nat.zero_add,⟨⟨193001000,n0+1⟩,.inl rfl,by simp only[go_sem, ↓reduceIte,Nat.reduceEqDiff,Nat.reduceAdd,Nat.reduceSub,Nat.reduceLeDiff,reduceCtorEq];rfl,by simp only[go_sem, ↓reduceIte,Nat.reduceEqDiff,Nat.reduceAdd,Nat.reduceSub,Nat.reduceLeDiff,reduceCtorEq];rfl⟩⟩ ?_
 rintro n_a env_a st_a ⟨k,rfl,ale,a6,lQ⟩ dD
 have a0:=dD 0 (by kernel_rfl);have a1:=dD 1 (by kernel_rfl)
 simp only[go_sem, ↓reduceIte,Nat.reduceEqDiff,Nat.reduceAdd,Nat.reduceSub,Nat.reduceLeDiff,reduceCtorEq]at a0 a1
 clear dD
 by_cases hk:(k:Int)<(l.length:Int)
 ·have cC:∀{e:Env} {gg:Rows},(e 6=.int .i64 (IntKind.i64.wrap ((k:Int)+1)))->(mM ay 3 (e 5) gg sB (gN s l (k+1)))->∃m0,m0<(l.length)-k/\∃k:Nat,m0=(l.length)-k/\k<=(l.length)/\e 6=.int .i64 (k:Int)/\(mM ay 3 (e 5) gg sB (gN s l k)):=fun x1 x2=>⟨_,by omega,k+1,rfl,by omega,(by rw[x1,az (by omega)]),x2⟩
  have fy:k<l.length:=by omega
  have eQ:=fu fy
  have SG:=tu s l k
  (try((repeat(revert hN;revert N;apply Pn.out));refine wk (tw @a6 (tw @a0 (tw @a1 @hk))) ?_;(repeat(refine Pn.mk ?_;intro N hN))))
  refine aV (fun n env st=>∃m:Nat,n=(2)-m/\m<=(2)/\env 7=(.int .i64 (1-(m:Int)))/\(mM ay 3 (env 5) st.get sB (gN s l k++fX s l k m))) (2) ⟨0,by omega,by omega,sl (tw @a6 (tw @a0 @a1)),by(simp only[go_sem, ↓reduceIte,Nat.reduceEqDiff,Nat.reduceAdd,Nat.reduceSub,Nat.reduceLeDiff,reduceCtorEq];exact lQ.cast (by simp[fX]))⟩ ?_
  rintro n_b env_b st_b ⟨m,rfl,ble,b7,bI0⟩ fW
  have b0:=fW 0 (by kernel_rfl);have b1:=fW 1 (by kernel_rfl);have b6:=fW 6 (by kernel_rfl)
  simp only[go_sem, ↓reduceIte,Nat.reduceEqDiff,Nat.reduceAdd,Nat.reduceSub,Nat.reduceLeDiff,reduceCtorEq,a6,a0,a1]at b0 b1 b6
  clear fW
  have Sk:=qY s l k m
  have lG:=pU s l k m
  by_cases hm:(m:Int)<2
  ·have ga:∀{e:Env} {gg:Rows},(e 7=(.int .i64 (1-((m+1):Int))))->(mM ay 3 (e 5) gg sB (gN s l k++fX s l k (m+1)))->∃m0,m0<(2)-m/\∃m:Nat,m0=(2)-m/\m<=(2)/\e 7=(.int .i64 (1-(m:Int)))/\(mM ay 3 (e 5) gg sB (gN s l k++fX s l k m)):=fun x1 x2=>⟨_,by omega,m+1,rfl,by omega,x1,x2⟩
   have qw:(0:Int)<=1-(m:Int):=by omega
   have hd:jc (1-(m:Int)) 0 3=true:=kO (by omega)
   have hw:IntKind.i64.wrap (1-(m:Int)-1)=1-((m:Int)+1):=by rw[bt (by omega)];omega
   have Sy:=xG l hF k (1-(m:Int)) fy hd
   unfold mQ at lG
   have hT:=hA.2 _ (gG fy)
   generalize Ga:eD l (dx (aI l k).aO (1-(m:Int)))=ix at *
   by_cases hi:ix<0
   ·rw[if_neg (by omega),List.append_nil]at lG
    (repeat(first|((repeat(revert hN;revert N;apply Pn.out));refine wk (tw @b7 (tw @b0 (tw @b1 (tw @b6 (tw @qw (tw @hw @hi)))))) ?_;(repeat(refine Pn.mk ?_;intro N hN)))|((try apply Or.inl);refine⟨_,aq.x (Sy) (sd (tw @b7 (tw @b0 (tw @b1 (tw @b6 (tw @qw (tw @hw @hi))))))),?_⟩;refine hN _ _ ?_;clear hN N)))
    exact ga (sd (tw @b7 (tw @b0 (tw @b1 (tw @b6 @hw))))) (by(simp only[go_sem, ↓reduceIte,Nat.reduceEqDiff,Nat.reduceAdd,Nat.reduceSub,Nat.reduceLeDiff,reduceCtorEq];exact bI0.cast (by rw[lG])))
   ·have Hk:0<=ix:=by omega
    have N2:=lH (l:=l) (p:=dx (aI l k).aO (1-(m:Int))) (by omega)
    rw[Ga]at N2
    have j6:=fu N2.1
    have xd:=yC s hS (aI l k).aQ (1-(m:Int)) (aI l ix.toNat).aQ hT (hA.2 _ (gG N2.1)) hd
    generalize Sg:gT s (aI l k).aQ (1-(m:Int)) (aI l ix.toNat).aQ=bv at *
    by_cases hb:0<bv
    ·rw[if_pos ⟨Hk,hb⟩]at lG
     (repeat(first|((repeat(revert hN;revert N;apply Pn.out));refine wa (tw @b7 (tw @b0 (tw @b1 (tw @b6 (tw @qw (tw @hw (tw @hi (tw @Hk (tw @eQ (tw @j6 (tw @hb @aa.eq_1))))))))))) ?_;(repeat(refine Pn.mk ?_;intro N hN)))|((try apply Or.inl);refine⟨_,aq.x (Sy) (sd (tw @b7 (tw @b0 (tw @b1 (tw @b6 (tw @qw (tw @hw (tw @hi (tw @Hk (tw @eQ (tw @j6 (tw @hb @aa.eq_1)))))))))))),?_⟩;refine hN _ _ ?_;clear hN N)|((try apply Or.inl);refine⟨_,aq.x (xd) (sd (tw @b7 (tw @b0 (tw @b1 (tw @b6 (tw @qw (tw @hw (tw @hi (tw @Hk (tw @eQ (tw @j6 (tw @hb @aa.eq_1)))))))))))),?_⟩;refine hN _ _ ?_;clear hN N)))
     refine O3 (enc:=ay) (S:=sB) (L:=gN s l k++fX s l k m) (xv:=env_b 5) [⟨k,ix.toNat,bv⟩] rfl rfl (sd @Nat.zero_add) (bI0.frame fun o ho=>by rcases ho with ho|ho<;>simp only[go_sem, ↓reduceIte,Nat.reduceEqDiff,Nat.reduceAdd,Nat.reduceSub,Nat.reduceLeDiff,reduceCtorEq,Ac ho]) (sd (tw @ay.eq_1 (Int.toNat_of_nonneg Hk))) M3 (.inr rfl) (by simp only[dH,List.length_append,List.length_cons,List.length_nil];omega) fun v g' hO jB=>?_
     rw[List.append_assoc,<-lG]at hO
     clear jB
     (try((repeat(revert hN;revert N;apply Pn.out));refine wk (tw @b7 (tw @b0 (tw @b1 (tw @b6 @hw)))) ?_;(repeat(refine Pn.mk ?_;intro N hN))))
     exact ga (sd (tw @b7 (tw @b0 (tw @b1 (tw @b6 @hw))))) (by(simp only[go_sem, ↓reduceIte,Nat.reduceEqDiff,Nat.reduceAdd,Nat.reduceSub,Nat.reduceLeDiff,reduceCtorEq];exact hO))
    ·rw[if_neg fun h=>hb h.2,List.append_nil]at lG
     (repeat(first|((repeat(revert hN;revert N;apply Pn.out));refine wk (tw @b7 (tw @b0 (tw @b1 (tw @b6 (tw @qw (tw @hw (tw @hi (tw @Hk (tw @eQ (tw @j6 (tw @hb @aa.eq_1))))))))))) ?_;(repeat(refine Pn.mk ?_;intro N hN)))|((try apply Or.inl);refine⟨_,aq.x (Sy) (sd (tw @b7 (tw @b0 (tw @b1 (tw @b6 (tw @qw (tw @hw (tw @hi (tw @Hk (tw @eQ (tw @j6 (tw @hb @aa.eq_1)))))))))))),?_⟩;refine hN _ _ ?_;clear hN N)|((try apply Or.inl);refine⟨_,aq.x (xd) (sd (tw @b7 (tw @b0 (tw @b1 (tw @b6 (tw @qw (tw @hw (tw @hi (tw @Hk (tw @eQ (tw @j6 (tw @hb @aa.eq_1)))))))))))),?_⟩;refine hN _ _ ?_;clear hN N)))
     exact ga (sd (tw @b7 (tw @b0 (tw @b1 (tw @b6 @hw))))) (by(simp only[go_sem, ↓reduceIte,Nat.reduceEqDiff,Nat.reduceAdd,Nat.reduceSub,Nat.reduceLeDiff,reduceCtorEq];exact bI0.cast (by rw[lG])))
  ·have Hm:m=2:=by omega
   subst Hm
   have dQ:¬(0:Int)<=1-((2:Nat):Int):=by omega
   (try((repeat(revert hN;revert N;apply Pn.out));refine wk (tw @b7 (tw @b0 (tw @b1 (tw @b6 @dQ)))) ?_;(repeat(refine Pn.mk ?_;intro N hN))))
   exact cC (sd (tw @a6 (tw @a0 (tw @a1 (tw @b7 (tw @b0 (tw @b1 @b6))))))) (by(simp only[go_sem, ↓reduceIte,Nat.reduceEqDiff,Nat.reduceAdd,Nat.reduceSub,Nat.reduceLeDiff,reduceCtorEq];exact bI0.cast (by rw[qZ])))
 ·have l6:k=l.length:=by omega
  (try((repeat(revert hN;revert N;apply Pn.out));refine wk (tw @a6 (tw @a0 (tw @a1 @hk))) ?_;(repeat(refine Pn.mk ?_;intro N hN))))
  exact wM (.inl rfl) (by simp only[go_sem, ↓reduceIte,Nat.reduceEqDiff,Nat.reduceAdd,Nat.reduceSub,Nat.reduceLeDiff,reduceCtorEq];rfl) (by rw[l6]at lQ;exact lQ.gu fun b=>uy _ _ b)
end Go.Proofs.YtgoelphibofcmaaGreat.V

namespace Go.Proofs.YtgoelphibofcmaaGreat.V
open Go.RowKit
attribute [local irreducible] dI wpOps gD Call
attribute [local go_sem] aM fM eP gp gm cN upd cD K.av cR AV.cells AV.cell rowOf rowsOf part ld rowAt bz cu dG ef ik bQ dh eA gj e9 dq ek dd dc dU dV bW bf cW bV cY cX ei eo ej cV ck de eh bU aT da cG ij bx cQ b4 aY dn bc dH AV.undef bF bI eb ee dP dM cJ ez eE cF er ep cZ db List.getD_cons_zero List.getD_cons_succ List.getD_nil List.all_cons List.all_nil Bool.and_true Bool.true_and Bool.and_self Bool.not_true Bool.not_false Option.map_some Option.map_none Option.bind_some Option.bind_none List.length_cons List.length_nil List.take_succ_cons List.take_zero List.take_nil List.drop_succ_cons List.drop_zero List.drop_nil List.head?_cons List.map_cons List.map_nil List.getElem?_cons_zero List.getElem?_cons_succ List.cons_append List.nil_append List.append_nil List.length_map List.set_cons_zero List.set_cons_succ Nat.reduceMul eq_self Int.toNat_natCast Int.natCast_nonneg and_self true_and and_true decide_true decide_false Bool.false_eq_true Nat.zero_add Nat.add_zero List.contains_cons List.contains_nil Bool.or_false Bool.false_or beq_self_eq_true Nat.reduceBEq ne_eq not_true_eq_false not_false_eq_true Id.mk.injEq false_and and_false Nat.reduceLT Int.reduceLE Int.reduceLT Int.reduceToNat Int.reduceNeg Int.reduceAdd Nat.le_refl List.length_append beq_true beq_false Bool.not_eq_eq_eq_not or_false false_or dO ai aj aH bp bE cz aX bl aW bj cU bH
theorem BJ (a b:Nat):aq Tryz.prog 215 [.int .i64 a,.int .i64 b] (.int .i64 (min a b:Nat)):=by
 refine aq.body eB rfl fun hl n0=>?_
 clear hl
 by_cases h:(a:Int)<(b:Int)
 ·(try((repeat(revert hN;revert N;apply Pn.out));refine wk @h ?_;(repeat(refine Pn.mk ?_;intro N hN))))
  exact cj (b:=(a:Int)) (.inl rfl) (sd @Nat.zero_add) (by omega)
 ·(try((repeat(revert hN;revert N;apply Pn.out));refine wk @h ?_;(repeat(refine Pn.mk ?_;intro N hN))))
  exact cj (b:=(b:Int)) (.inl rfl) (sd @Nat.zero_add) (by omega)
theorem BI (a b:Nat):aq Tryz.prog 216 [.int .i64 a,.int .i64 b] (.int .i64 (max a b:Nat)):=by
 refine aq.body eB rfl fun hl n0=>?_
 clear hl
 by_cases h:(b:Int)<(a:Int)
 ·(try((repeat(revert hN;revert N;apply Pn.out));refine wk @h ?_;(repeat(refine Pn.mk ?_;intro N hN))))
  exact cj (b:=(a:Int)) (.inl rfl) (sd @Nat.zero_add) (by omega)
 ·(try((repeat(revert hN;revert N;apply Pn.out));refine wk @h ?_;(repeat(refine Pn.mk ?_;intro N hN))))
  exact cj (b:=(b:Int)) (.inl rfl) (sd @Nat.zero_add) (by omega)
def dC (f:Nat->Nat) (n:Nat):List (List AV):=(List.range n).map fun i=>eN (f i)
theorem gh (f:Nat->Nat) (n:Nat):(dC f n).length=n:=by simp[dC]
theorem fo {f:Nat->Nat} {n i:Nat} (h:i<n):(dC f n)[i]? =some (eN (f i)):=by simp[dC,h]
theorem gY {f g:Nat->Nat} {n:Nat} (h:∀i,i<n->f i=g i):dC f n=dC g n:=List.map_congr_left fun i hi=>by rw[h i (List.mem_range.1 hi)]
theorem pG {f g:Nat->Nat} {n k v:Nat} (hk:k<n) (hv:g k=v) (h:∀i,i<n->i≠k->g i=f i):(dC f n).set k (eN v)=dC g n:=by
 refine List.ext_getElem? fun i=>?_
 rw[List.getElem?_set]
 by_cases hi:k=i
 ·subst hi
  rw[if_pos rfl,gh,if_pos hk,fo hk,hv]
 ·rw[if_neg hi]
  by_cases ft:i<n
  ·rw[fo ft,fo ft,h i ft (fun h=>hi h.symm)]
  ·rw[List.getElem?_eq_none (by rw[gh];omega),List.getElem?_eq_none (by rw[gh];omega)]
theorem BM (cnt:Nat) (hn:cnt<=1048576) (bs:List PB) (hb:∀b∈bs,b.a<cnt/\b.b<cnt) (pW:bs.length<=1048576):aq Tryz.prog 214 [.int .i64 cnt,.sl (bs.map ay)] (.sl ((fx cnt (ew bs)).map AA)):=by
 refine aq.body eB rfl fun hl n0=>?_
 clear hl
 (try((repeat(revert hN;revert N;apply Pn.out));refine wk @Nat.zero_add ?_;(repeat(refine Pn.mk ?_;intro N hN))))
 refine aV (fun n env st=>∃k:Nat,n=(cnt)-k/\k<=(cnt)/\env 6=.int .i64 (k:Int)/\(∃o:Id,env 5=.own o 0 k/\st.get o=some ⟨true,1,dC id k⟩/\o.bP<st.next)) (cnt) ⟨0,by omega,by omega,sl @Nat.zero_add,⟨⟨214001000,n0+1⟩,sd @Nat.zero_add,by simp only[go_sem, ↓reduceIte,Nat.reduceEqDiff,Nat.reduceAdd,Nat.reduceSub,Nat.reduceLeDiff,reduceCtorEq];rfl,by(try dsimp only);omega⟩⟩ ?_
 rintro n_a env_a st_a ⟨k,rfl,ale,a6,lQ⟩ dD
 have a0:=dD 0 (by kernel_rfl);have a1:=dD 1 (by kernel_rfl)
 simp only[go_sem, ↓reduceIte,Nat.reduceEqDiff,Nat.reduceAdd,Nat.reduceSub,Nat.reduceLeDiff,reduceCtorEq]at a0 a1
 clear dD
 obtain⟨o,a5,ag,uF⟩:=lQ
 have tl:=gh id k
 have so:=dw uF
 by_cases hk:(k:Int)<(cnt:Int)
 ·have cC:∀{e:Env} {gg:Rows} {nx:Nat},(e 6=.int .i64 (IntKind.i64.wrap ((k:Int)+1)))->(∃o:Id,e 5=.own o 0 (k+1)/\gg o=some ⟨true,1,dC id (k+1)⟩/\o.bP<nx)->∃m0,m0<(cnt)-k/\∃k:Nat,m0=(cnt)-k/\k<=(cnt)/\e 6=.int .i64 (k:Int)/\(∃o:Id,e 5=.own o 0 k/\gg o=some ⟨true,1,dC id k⟩/\o.bP<nx):=fun x1 x2=>⟨_,by omega,k+1,rfl,by omega,(by rw[x1,az (by omega)]),x2⟩
  have fy:k<cnt:=by omega
  have e1:k+1<=16777216:=by omega
  have sQ:dC id k++[[.int .i64 (k:Int)]]=dC id (k+1):=by simp[dC,List.range_succ,eN]
  (try((repeat(revert hN;revert N;apply Pn.out));refine wk (tw @a6 (tw @a0 (tw @a1 (tw @a5 (tw @ag (tw @so (tw @hk (tw @tl (tw @e1 @sQ))))))))) ?_;(repeat(refine Pn.mk ?_;intro N hN))))
  exact cC (sd (tw @a6 (tw @a0 @a1))) (⟨⟨214005003,st_a.next+1⟩,sd @Nat.zero_add,sd @sQ,by(try dsimp only);omega⟩)
 have l6:k=cnt:=by omega
 subst l6
 have Ur:st_a.get o=some ⟨true,1,dC (ew (bs.take 0)) k⟩:=ag
 clear ag
 (try((repeat(revert hN;revert N;apply Pn.out));refine wk (tw @a6 (tw @a0 (tw @a1 @hk))) ?_;(repeat(refine Pn.mk ?_;intro N hN))))
 refine aV (fun n env st=>∃j:Nat,n=(bs.length)-j/\j<=(bs.length)/\env 7=.int .i64 (j:Int)/\st.get o=some ⟨true,1,dC (ew (bs.take j)) k⟩/\(o.bP<st.next)) (bs.length) ⟨0,by omega,by omega,sl (tw @a6 (tw @a0 (tw @a1 (tw @a5 @Ur)))),sl (tw @a6 (tw @a0 (tw @a1 (tw @a5 @Ur)))),(by(try dsimp only);omega)⟩ ?_
 rintro n_b env_b st_b ⟨j,rfl,ble,b7,bg0,bI0⟩ fW
 have b0:=fW 0 (by kernel_rfl);have b1:=fW 1 (by kernel_rfl);have b5:=fW 5 (by kernel_rfl)
 simp only[go_sem, ↓reduceIte,Nat.reduceEqDiff,Nat.reduceAdd,Nat.reduceSub,Nat.reduceLeDiff,reduceCtorEq,a6,a0,a1,a5,Ur]at b0 b1 b5
 clear fW
 by_cases hj:(j:Int)<(bs.length:Int)
 ·have ga:∀{e:Env} {gg:Rows} {nx:Nat},(e 7=.int .i64 (IntKind.i64.wrap ((j:Int)+1)))->(gg o=some ⟨true,1,dC (ew (bs.take (j+1))) k⟩)->(o.bP<nx)->∃m0,m0<(bs.length)-j/\∃j:Nat,m0=(bs.length)-j/\j<=(bs.length)/\e 7=.int .i64 (j:Int)/\gg o=some ⟨true,1,dC (ew (bs.take j)) k⟩/\(o.bP<nx):=fun x1 x2 x3=>⟨_,by omega,j+1,rfl,by omega,(by rw[x1,az (by omega)]),x2,x3⟩
  have iO:j<bs.length:=by omega
  have Hj:(bs.map ay)[j]? =some (ay bs[j]):=by simp[iO]
  have MA:=hb _ (List.getElem_mem iO)
  have nQ:bs.take (j+1)=bs.take j++[bs[j]]:=List.take_succ_eq_append_getElem iO
  have lG:ew (bs.take (j+1))=eO (ew (bs.take j)) bs[j]:=by rw[nQ,we]
  generalize ew (bs.take j)=L at *
  generalize bs[j]=b at *
  have hA:=fo (f:=L) MA.1
  have hB:=fo (f:=L) MA.2
  have R7:=BJ (L b.a) (L b.b)
  have R8:=BI (L b.a) (L b.b)
  have tl:=gh L k
  have gI:(b.a:Int)<(k:Int):=by omega
  have fP:(b.b:Int)<(k:Int):=by omega
  (try((repeat(revert hN;revert N;apply Pn.out));refine wk (tw @b7 (tw @bg0 (tw @b0 (tw @b1 (tw @b5 (tw @hj (tw @Hj (tw @ay.eq_1 (tw @hA (tw @hB (tw @gI (tw @fP (tw @tl @eN.eq_1))))))))))))) ?_;(repeat(refine Pn.mk ?_;intro N hN))))
  refine aV (fun n env st=>∃i:Nat,n=(k)-i/\i<=(k)/\env 10=.int .i64 (i:Int)/\st.get o=some ⟨true,1,dC (fun x=>if x<i then eO L b x else L x) k⟩/\(o.bP<st.next)) (k) ⟨0,by omega,by omega,sl (tw @b7 (tw @bg0 (tw @b0 (tw @b1 (tw @b5 @Nat.not_lt_zero))))),sl (tw @b7 (tw @bg0 (tw @b0 (tw @b1 (tw @b5 @Nat.not_lt_zero))))),(by(try dsimp only);omega)⟩ ?_
  rintro n_c env_c st_c ⟨i,rfl,cle,jA,cg0,cI0⟩ cfr
  have c0:=cfr 0 (by kernel_rfl);have c1:=cfr 1 (by kernel_rfl);have c5:=cfr 5 (by kernel_rfl);have c7:=cfr 7 (by kernel_rfl);have c8:=cfr 8 (by kernel_rfl);have c9:=cfr 9 (by kernel_rfl)
  simp only[go_sem, ↓reduceIte,Nat.reduceEqDiff,Nat.reduceAdd,Nat.reduceSub,Nat.reduceLeDiff,reduceCtorEq,b7,bg0,b0,b1,b5,Nat.not_lt_zero]at c0 c1 c5 c7 c8 c9
  clear cfr
  have hC:=fo (f:=fun x=>if x<i then eO L b x else L x) (n:=k) (i:=i)
  have tc:=gh (fun x=>if x<i then eO L b x else L x) k
  by_cases hi:(i:Int)<(k:Int)
  ·have ig:∀{e:Env} {gg:Rows} {nx:Nat},(e 10=.int .i64 (IntKind.i64.wrap ((i:Int)+1)))->(gg o=some ⟨true,1,dC (fun x=>if x<(i+1)then eO L b x else L x) k⟩)->(o.bP<nx)->∃m0,m0<(k)-i/\∃i:Nat,m0=(k)-i/\i<=(k)/\e 10=.int .i64 (i:Int)/\gg o=some ⟨true,1,dC (fun x=>if x<i then eO L b x else L x) k⟩/\(o.bP<nx):=fun x1 x2 x3=>⟨_,by omega,i+1,rfl,by omega,(by rw[x1,az (by omega)]),x2,x3⟩
   have ft:i<k:=by omega
   replace hC:=hC ft
   rw[if_neg (Nat.lt_irrefl i)]at hC
   by_cases he:L i=max (L b.a) (L b.b)
   ·have uD:decide ((L i:Int)=((max (L b.a) (L b.b):Nat):Int))=true:=decide_eq_true (by rw[he])
    have eC:(dC (fun x=>if x<i then eO L b x else L x) k).set i (eN (min (L b.a) (L b.b)))=dC (fun x=>if x<i+1 then eO L b x else L x) k:=pG ft (by rw[if_pos (by omega),eO,if_pos he]) fun x hx CH=>by
     by_cases h:x<i
     ·rw[if_pos h,if_pos (by omega)]
     ·rw[if_neg h,if_neg (by omega)]
    rw[eN]at eC hC
    (repeat(first|((repeat(revert hN;revert N;apply Pn.out));refine wk (tw @jA (tw @cg0 (tw @c0 (tw @c1 (tw @c5 (tw @c7 (tw @c8 (tw @c9 (tw @hi (tw @hC (tw @tc (tw @uD @eC)))))))))))) ?_;(repeat(refine Pn.mk ?_;intro N hN)))|((try apply Or.inl);refine⟨_,aq.x (R7) (sd (tw @jA (tw @cg0 (tw @c0 (tw @c1 (tw @c5 (tw @c7 (tw @c8 (tw @c9 (tw @hi (tw @hC (tw @tc (tw @uD @eC))))))))))))),?_⟩;refine hN _ _ ?_;clear hN N)|((try apply Or.inl);refine⟨_,aq.x (R8) (sd (tw @jA (tw @cg0 (tw @c0 (tw @c1 (tw @c5 (tw @c7 (tw @c8 (tw @c9 (tw @hi (tw @hC (tw @tc (tw @uD @eC))))))))))))),?_⟩;refine hN _ _ ?_;clear hN N)))
    refine ig ?_ ?_ (by(try dsimp only);omega)
    all_goals simp only[go_sem, ↓reduceIte,Nat.reduceEqDiff,Nat.reduceAdd,Nat.reduceSub,Nat.reduceLeDiff,reduceCtorEq,jA,cg0,c0,c1,c5,c7,c8,c9]
   ·have uD:decide ((L i:Int)=((max (L b.a) (L b.b):Nat):Int))=false:=decide_eq_false fun h=>he (by omega)
    have mj:dC (fun x=>if x<i then eO L b x else L x) k=dC (fun x=>if x<i+1 then eO L b x else L x) k:=gY fun x hx=>by
     by_cases h:x<i
     ·rw[if_pos h,if_pos (by omega)]
     ·by_cases CH:x=i
      ·subst CH;rw[if_neg h,if_pos (by omega),eO,if_neg he]
      ·rw[if_neg h,if_neg (by omega)]
    rw[eN]at hC
    (repeat(first|((repeat(revert hN;revert N;apply Pn.out));refine wk (tw @jA (tw @cg0 (tw @c0 (tw @c1 (tw @c5 (tw @c7 (tw @c8 (tw @c9 (tw @hi (tw @hC (tw @tc @uD))))))))))) ?_;(repeat(refine Pn.mk ?_;intro N hN)))|((try apply Or.inl);refine⟨_,aq.x (R7) (sd (tw @jA (tw @cg0 (tw @c0 (tw @c1 (tw @c5 (tw @c7 (tw @c8 (tw @c9 (tw @hi (tw @hC (tw @tc @uD)))))))))))),?_⟩;refine hN _ _ ?_;clear hN N)|((try apply Or.inl);refine⟨_,aq.x (R8) (sd (tw @jA (tw @cg0 (tw @c0 (tw @c1 (tw @c5 (tw @c7 (tw @c8 (tw @c9 (tw @hi (tw @hC (tw @tc @uD)))))))))))),?_⟩;refine hN _ _ ?_;clear hN N)))
    rw[mj]at cg0
    refine ig ?_ ?_ (by(try dsimp only);omega)
    all_goals simp only[go_sem, ↓reduceIte,Nat.reduceEqDiff,Nat.reduceAdd,Nat.reduceSub,Nat.reduceLeDiff,reduceCtorEq,jA,cg0,c0,c1,c5,c7,c8,c9]
  ·have yh:i=k:=by omega
   subst yh
   have dF:dC (fun x=>if x<i then eO L b x else L x) i=dC (eO L b) i:=gY fun x hx=>if_pos hx
   rw[dF]at cg0
   rw[<-lG]at cg0
   (try((repeat(revert hN;revert N;apply Pn.out));refine wk (tw @jA (tw @cg0 (tw @c0 (tw @c1 (tw @c5 (tw @c7 (tw @c8 (tw @c9 (tw @hi @tc))))))))) ?_;(repeat(refine Pn.mk ?_;intro N hN))))
   refine ga ?_ ?_ (by(try dsimp only);omega)
   all_goals simp only[go_sem, ↓reduceIte,Nat.reduceEqDiff,Nat.reduceAdd,Nat.reduceSub,Nat.reduceLeDiff,reduceCtorEq,b7,bg0,b0,b1,b5,jA,cg0,c0,c1,c5,c7,c8,c9]
 have gZ:j=bs.length:=by omega
 subst gZ
 rw[List.take_length]at bg0
 have hL:=tM bs
 generalize ew bs=L at *
 have tl:=gh L k
 (try((repeat(revert hN;revert N;apply Pn.out));refine wk (tw @b7 (tw @bg0 (tw @b0 (tw @b1 (tw @b5 @hj))))) ?_;(repeat(refine Pn.mk ?_;intro N hN))))
 have Ut:o.bP<st_b.next:=bI0
 refine aV (fun n env st=>∃i:Nat,n=(k)-i/\i<=(k)/\env 12=.int .i64 (i:Int)/\st.get o=some ⟨true,1,dC L k⟩/\(∃oo rows ids,env 11=.own oo 0 rows.length/\st.get oo=some ⟨true,1,rows⟩/\eH Pq st.get rows ((leads i L).map (members k L)) ids/\(∀x∈oo::ids,st_b.next<=x.bP/\x.bP<st.next)/\st_b.next<=st.next/\oo∉ids)) (k) ⟨0,by omega,by omega,sl (tw @b7 (tw @bg0 (tw @b0 (tw @b1 (tw @b5 (dw Ut)))))),sl (tw @b7 (tw @bg0 (tw @b0 (tw @b1 (tw @b5 (dw Ut)))))),⟨⟨214016000,st_b.next+1⟩,[],[],by(simp only[go_sem, ↓reduceIte,Nat.reduceEqDiff,Nat.reduceAdd,Nat.reduceSub,Nat.reduceLeDiff,reduceCtorEq])<;>rfl,sd @Nat.zero_add,.nil,fun x hx=>by rw[List.mem_singleton.1 hx];(try dsimp only);omega,by(try dsimp only);omega,by simp⟩⟩ ?_
 rintro n_d env_d st_d ⟨i,rfl,dle,d12,dg0,dI0⟩ dfr
 have d0:=dfr 0 (by kernel_rfl);have d5:=dfr 5 (by kernel_rfl)
 simp only[go_sem, ↓reduceIte,Nat.reduceEqDiff,Nat.reduceAdd,Nat.reduceSub,Nat.reduceLeDiff,reduceCtorEq,b7,bg0,b0,b1,b5,dw Ut]at d0 d5
 clear dfr
 obtain⟨oo,rows,ids,d11,dg,hR,nS,hle,rE⟩:=dI0
 have sQ:=gQ i L
 have sn:=hR.len
 by_cases hi:(i:Int)<(k:Int)
 ·have tP:∀{e:Env} {gg:Rows} {nx:Nat},(e 12=.int .i64 (IntKind.i64.wrap ((i:Int)+1)))->(gg o=some ⟨true,1,dC L k⟩)->(∃oo rows ids,e 11=.own oo 0 rows.length/\gg oo=some ⟨true,1,rows⟩/\eH Pq gg rows ((leads (i+1) L).map (members k L)) ids/\(∀x∈oo::ids,st_b.next<=x.bP/\x.bP<nx)/\st_b.next<=nx/\oo∉ids)->∃m0,m0<(k)-i/\∃i:Nat,m0=(k)-i/\i<=(k)/\e 12=.int .i64 (i:Int)/\gg o=some ⟨true,1,dC L k⟩/\(∃oo rows ids,e 11=.own oo 0 rows.length/\gg oo=some ⟨true,1,rows⟩/\eH Pq gg rows ((leads i L).map (members k L)) ids/\(∀x∈oo::ids,st_b.next<=x.bP/\x.bP<nx)/\st_b.next<=nx/\oo∉ids):=fun x1 x2 x3=>⟨_,by omega,i+1,rfl,by omega,(by rw[x1,az (by omega)]),x2,x3⟩
  have ft:i<k:=by omega
  have hC:=fo (f:=L) ft
  have pP:=dw (i:=o) (n:=st_d.next) (by omega)
  have Q3:=dw (i:=oo) (n:=st_d.next) (nS oo (by simp)).2
  by_cases he:L i=i
  ·rw[if_pos he]at sQ
   have uD:decide ((L i:Int)=(i:Int))=true:=decide_eq_true (by rw[he])
   rw[eN]at hC
   (try((repeat(revert hN;revert N;apply Pn.out));refine wk (tw @d12 (tw @dg0 (tw @d0 (tw @d5 (tw @d11 (tw @dg (tw @hi (tw @hC (tw @tl (tw @uD (tw @pP @Q3))))))))))) ?_;(repeat(refine Pn.mk ?_;intro N hN))))
   refine aV (fun n env st=>∃m:Nat,n=((k-i))-m/\m<=((k-i))/\env 14=(.int .i64 ((i+m:Nat):Int))/\(∃pp:Id,env 13=.own pp 0 (members (i+m) L i).length/\st.get pp=some ⟨true,1,(members (i+m) L i).map eN⟩/\st_d.next<=pp.bP/\pp.bP<st.next/\(∀x:Id,x.bP<st_d.next->st.get x=st_d.get x)/\st_d.next<=st.next)) ((k-i)) ⟨0,by omega,by omega,sl (tw @d12 (tw @dg0 (tw @d0 (tw @d5 @d11)))),⟨⟨214021000,st_d.next+1+1⟩,by rw[show members (i+0) L i=[]from mZ hL (Nat.le_refl i)];(simp only[go_sem, ↓reduceIte,Nat.reduceEqDiff,Nat.reduceAdd,Nat.reduceSub,Nat.reduceLeDiff,reduceCtorEq])<;>rfl,by rw[show members (i+0) L i=[]from mZ hL (Nat.le_refl i)];(simp only[go_sem, ↓reduceIte,Nat.reduceEqDiff,Nat.reduceAdd,Nat.reduceSub,Nat.reduceLeDiff,reduceCtorEq])<;>rfl,by(try dsimp only);omega,by(try dsimp only);omega,fun x hx=>sd (dw hx),by(try dsimp only);omega⟩⟩ ?_
   rintro n_f env_f st_f ⟨m,rfl,fle,f14,fI0⟩ ffr
   have f0:=ffr 0 (by kernel_rfl);have f5:=ffr 5 (by kernel_rfl);have f11:=ffr 11 (by kernel_rfl);have f12:=ffr 12 (by kernel_rfl)
   simp only[go_sem, ↓reduceIte,Nat.reduceEqDiff,Nat.reduceAdd,Nat.reduceSub,Nat.reduceLeDiff,reduceCtorEq,d12,dg0,d0,d5,d11]at f0 f5 f11 f12
   clear ffr
   obtain⟨pp,f13,fg,N9,IE,jB,qx⟩:=fI0
   have rC:st_f.get o=some ⟨true,1,dC L k⟩:=(jB o (by omega)).trans dg0
   have T6:st_f.get oo=some ⟨true,1,rows⟩:=(jB oo (nS oo (by simp)).2).trans dg
   have AF:=dw IE
   have Bz:=dw (i:=o) (n:=st_f.next) (by omega)
   have Q4:=dw (i:=oo) (n:=st_f.next) (by have:=(nS oo (by simp)).2;omega)
   have N6:members (i+(m+1)) L i=members (i+m) L i++if L (i+m)=i then[i+m]else[]:=jw (i+m) L i
   have Uh:(members (i+m) L i).length<=i+m:=by
    have:=List.length_filter_le (fun k=>L k==i) (List.range (i+m))
    simpa[members]using this
   have x1:=cr (a:=o) (b:=pp) (by omega)
   have x2:=cr (a:=oo) (b:=pp) (by have:=(nS oo (by simp)).2;omega)
   have x3:=cr (a:=o) (b:=oo) (by have:=(nS oo (by simp)).1;omega)
   by_cases hm:m<k-i
   ·have rP:∀{e:Env} {gg:Rows} {nx:Nat},(e 14=(.int .i64 ((i+(m+1):Nat):Int)))->(∃pp:Id,e 13=.own pp 0 (members (i+(m+1)) L i).length/\gg pp=some ⟨true,1,(members (i+(m+1)) L i).map eN⟩/\st_d.next<=pp.bP/\pp.bP<nx/\(∀x:Id,x.bP<st_d.next->gg x=st_d.get x)/\st_d.next<=nx)->∃m0,m0<((k-i))-m/\∃m:Nat,m0=((k-i))-m/\m<=((k-i))/\e 14=(.int .i64 ((i+m:Nat):Int))/\(∃pp:Id,e 13=.own pp 0 (members (i+m) L i).length/\gg pp=some ⟨true,1,(members (i+m) L i).map eN⟩/\st_d.next<=pp.bP/\pp.bP<nx/\(∀x:Id,x.bP<st_d.next->gg x=st_d.get x)/\st_d.next<=nx):=fun x1 x2=>⟨_,by omega,m+1,rfl,by omega,x1,x2⟩
    have QO:((i+m:Nat):Int)<(k:Int):=by omega
    have Tn:=fo (f:=L) (show i+m<k by omega)
    have hw:IntKind.i64.wrap (((i+m:Nat):Int)+1)=((i+(m+1):Nat):Int):=by rw[bt (by omega)];omega
    rw[eN]at Tn
    by_cases hq:L (i+m)=i
    ·have nO:decide ((L (i+m):Int)=(i:Int))=true:=decide_eq_true (by rw[hq])
     rw[if_pos hq]at N6
     have e1:(members (i+m) L i).length+1<=16777216:=by omega
     have lE:((members (i+m) L i).map eN).length=(members (i+m) L i).length:=by simp
     (try((repeat(revert hN;revert N;apply Pn.out));refine wk (tw @f14 (tw @f0 (tw @f5 (tw @f11 (tw @f12 (tw @f13 (tw @fg (tw @rC (tw @QO (tw @Tn (tw @tl (tw @nO (tw @AF (tw @Bz (tw @x1 (tw @e1 @lE)))))))))))))))) ?_;(repeat(refine Pn.mk ?_;intro N hN))))
     exact rP (sd (tw @f14 (tw @f0 (tw @f5 (tw @f11 (tw @f12 (tw @rC (tw @hw (tw @Bz @x1))))))))) (⟨⟨214026003,st_f.next+1+1⟩,by rw[N6,List.length_append];simp only[go_sem, ↓reduceIte,Nat.reduceEqDiff,Nat.reduceAdd,Nat.reduceSub,Nat.reduceLeDiff,reduceCtorEq,List.length_cons,List.length_nil],by rw[N6,List.map_append,List.map_cons,List.map_nil];simp only[go_sem, ↓reduceIte,Nat.reduceEqDiff,Nat.reduceAdd,Nat.reduceSub,Nat.reduceLeDiff,reduceCtorEq,eN],by(try dsimp only);omega,by(try dsimp only);omega,fun x hx=>by
      have y1:=jB x hx
      have y2:=cr (a:=x) (b:=pp) (by omega)
      simp only[go_sem, ↓reduceIte,Nat.reduceEqDiff,Nat.reduceAdd,Nat.reduceSub,Nat.reduceLeDiff,reduceCtorEq,dw (show x.bP<st_f.next by omega),y1,y2],by(try dsimp only);omega⟩)
    ·have nO:decide ((L (i+m):Int)=(i:Int))=false:=decide_eq_false fun h=>hq (by omega)
     rw[if_neg hq,List.append_nil]at N6
     (try((repeat(revert hN;revert N;apply Pn.out));refine wk (tw @f14 (tw @f0 (tw @f5 (tw @f11 (tw @f12 (tw @f13 (tw @fg (tw @rC (tw @QO (tw @Tn (tw @tl (tw @nO (tw @AF (tw @Bz @x1)))))))))))))) ?_;(repeat(refine Pn.mk ?_;intro N hN))))
     exact rP (sd (tw @f14 (tw @f0 (tw @f5 (tw @f11 (tw @f12 (tw @rC @hw))))))) (⟨pp,by rw[N6];simp only[go_sem, ↓reduceIte,Nat.reduceEqDiff,Nat.reduceAdd,Nat.reduceSub,Nat.reduceLeDiff,reduceCtorEq,f13],by rw[N6];simp only[go_sem, ↓reduceIte,Nat.reduceEqDiff,Nat.reduceAdd,Nat.reduceSub,Nat.reduceLeDiff,reduceCtorEq,fg],N9,by(try dsimp only);omega,jB,by(try dsimp only);omega⟩)
   ·have hmk:i+m=k:=by omega
    have QO:¬((i+m:Nat):Int)<(k:Int):=by omega
    rw[hmk]at f13 fg Uh
    have e1:rows.length+1<=16777216:=by
     have:=jP i L
     rw[sn,List.length_map];omega
    (try((repeat(revert hN;revert N;apply Pn.out));refine wk (tw @f14 (tw @f0 (tw @f5 (tw @f11 (tw @f12 (tw @f13 (tw @fg (tw @rC (tw @T6 (tw @QO (tw @AF (tw @Bz (tw @Q4 (tw @x1 (tw @x2 @e1))))))))))))))) ?_;(repeat(refine Pn.mk ?_;intro N hN))))
    refine tP ?_ ?_ (⟨⟨214027003,st_f.next+1⟩,rows++[[.own pp 0 (members k L i).length]],ids++[pp],by rw[List.length_append];simp only[go_sem, ↓reduceIte,Nat.reduceEqDiff,Nat.reduceAdd,Nat.reduceSub,Nat.reduceLeDiff,reduceCtorEq,List.length_cons,List.length_nil],sd @Nat.zero_add,by
      rw[sQ,List.map_append]
      refine(hR.frame LD fun x hx=>?_).app (.one ⟨pp,rfl,?_,rfl⟩)
      ·have h1:=nS x (by simp[hx])
       have y1:=jB x h1.2
       have y2:=cr (a:=x) (b:=pp) (by omega)
       have y3:(x=oo)=False:=by
        simp only[eq_iff_iff,iff_false]
        rintro rfl
        exact rE hx
       simp only[go_sem, ↓reduceIte,Nat.reduceEqDiff,Nat.reduceAdd,Nat.reduceSub,Nat.reduceLeDiff,reduceCtorEq,dw (show x.bP<st_f.next by omega),y1,y2,y3]
      ·simp only[go_sem, ↓reduceIte,Nat.reduceEqDiff,Nat.reduceAdd,Nat.reduceSub,Nat.reduceLeDiff,reduceCtorEq,AF,x2,fg],fun x hx=>by
      rcases List.mem_cons.1 hx with rfl|hx
      ·(try dsimp only);omega
      ·rcases List.mem_append.1 hx with hx|hx
       ·have:=nS x (by simp[hx]);(try dsimp only);omega
       ·rw[List.mem_singleton.1 hx];(try dsimp only);omega,by(try dsimp only);omega,fun hc=>by
      rcases List.mem_append.1 hc with hc|hc
      ·have:=(nS _ (List.mem_cons_of_mem _ hc)).2;(try dsimp only at this);omega
      ·have:=List.mem_singleton.1 hc;rw[<-this]at IE;(try dsimp only at IE);omega⟩)
    all_goals simp only[go_sem, ↓reduceIte,Nat.reduceEqDiff,Nat.reduceAdd,Nat.reduceSub,Nat.reduceLeDiff,reduceCtorEq,f14,f0,f5,f11,f12,rC,Bz,x3]
  ·rw[if_neg he,List.append_nil]at sQ
   have uD:decide ((L i:Int)=(i:Int))=false:=decide_eq_false fun h=>he (by omega)
   rw[eN]at hC
   (try((repeat(revert hN;revert N;apply Pn.out));refine wk (tw @d12 (tw @dg0 (tw @d0 (tw @d5 (tw @d11 (tw @dg (tw @hi (tw @hC (tw @tl (tw @uD (tw @pP @Q3))))))))))) ?_;(repeat(refine Pn.mk ?_;intro N hN))))
   refine tP ?_ ?_ (⟨oo,rows,ids,sd @d11,sd @dg,by rw[sQ];exact hR,fun x hx=>by have:=nS x hx;(try dsimp only);omega,by(try dsimp only);omega,rE⟩)
   all_goals simp only[go_sem, ↓reduceIte,Nat.reduceEqDiff,Nat.reduceAdd,Nat.reduceSub,Nat.reduceLeDiff,reduceCtorEq,d12,dg0,d0,d5]
 ·have yh:i=k:=by omega
  (try((repeat(revert hN;revert N;apply Pn.out));refine wk (tw @d12 (tw @dg0 (tw @d0 (tw @d5 (tw @d11 (tw @dg @hi)))))) ?_;(repeat(refine Pn.mk ?_;intro N hN))))
  refine wM (.inl rfl) (by simp only[go_sem, ↓reduceIte,Nat.reduceEqDiff,Nat.reduceAdd,Nat.reduceSub,Nat.reduceLeDiff,reduceCtorEq];rfl) ?_
  rw[uz dg (by simp) (rows':=(fx k L).map AA) (by rw[List.drop_zero,List.take_of_length_le (Nat.le_refl _)];rw[yh]at hR;exact Ja 3 hR)]
end Go.Proofs.YtgoelphibofcmaaGreat.V

namespace Go.Proofs.YtgoelphibofcmaaGreat.V
open Go.RowKit
attribute [local irreducible] dI wpOps gD Call
attribute [local go_sem] aM fM eP gp gm cN upd cD K.av cR AV.cells AV.cell rowOf rowsOf part ld rowAt bz cu dG ef ik bQ dh eA gj e9 dq ek dd dc dU dV bW bf cW bV cY cX ei eo ej cV ck de eh bU aT da cG ij bx cQ b4 aY dn bc dH AV.undef bF bI eb ee dP dM cJ ez eE cF er ep cZ db List.getD_cons_zero List.getD_cons_succ List.getD_nil List.all_cons List.all_nil Bool.and_true Bool.true_and Bool.and_self Bool.not_true Bool.not_false Option.map_some Option.map_none Option.bind_some Option.bind_none List.length_cons List.length_nil List.take_succ_cons List.take_zero List.take_nil List.drop_succ_cons List.drop_zero List.drop_nil List.head?_cons List.map_cons List.map_nil List.getElem?_cons_zero List.getElem?_cons_succ List.cons_append List.nil_append List.append_nil List.length_map List.set_cons_zero List.set_cons_succ Nat.reduceMul eq_self Int.toNat_natCast Int.natCast_nonneg and_self true_and and_true decide_true decide_false Bool.false_eq_true Nat.zero_add Nat.add_zero List.contains_cons List.contains_nil Bool.or_false Bool.false_or beq_self_eq_true Nat.reduceBEq ne_eq not_true_eq_false not_false_eq_true Id.mk.injEq false_and and_false Nat.reduceLT Int.reduceLE Int.reduceLT Int.reduceToNat Int.reduceNeg Int.reduceAdd Nat.le_refl List.length_append beq_true beq_false Bool.not_eq_eq_eq_not or_false false_or dO ai aj aH bp bE cz aX bl aW bj cU bH
theorem wZ (n:Nat):List.replicate n [AV.int .i64 0]=dC (fun _=>0) n:=by
 refine List.ext_getElem? fun i=>?_
 by_cases h:i<n
 ·rw[fo h,List.getElem?_replicate,if_pos h];rfl
 ·rw[List.getElem?_eq_none (by simp;omega),List.getElem?_eq_none (by rw[gh];omega)]
def cL (cnt:Nat) (L:Nat->Nat) (i m:Nat):Nat->Nat:=fun x=>if bJ L x<i then bJ L x else if x∈(members cnt L ((leads cnt L).getD i 0)).take m then i else 0
theorem oO (cnt:Nat) (L:Nat->Nat):cL cnt L 0 0=fun _=>0:=by funext x;simp[cL]
theorem tV (t:Int) (bs:List PB) (k:Nat) (h:k<bs.length):aL t (bs.take (k+1))=aL t (bs.take k)++if t<=(bs[k]).s then[bs[k]]else[]:=by
 unfold aL
 rw[List.take_succ_eq_append_getElem h,List.filter_append]
 congr 1
 by_cases h:t<=bs[k].s<;>simp[h]
theorem wT {t:Int} {bs:List PB} {b:PB} (h:b∈aL t bs):b∈bs:=(List.mem_filter.1 h).1
theorem np (t:Int) (bs:List PB):(aL t bs).length<=bs.length:=List.length_filter_le _ _
theorem BO (cnt:Nat) (hn:cnt<=1048576) (bs:List PB) (hb:∀b∈bs,b.a<cnt/\b.b<cnt) (pW:bs.length<=1048576) (t:Int):aq Tryz.prog 192 [.int .i64 cnt,.sl (bs.map ay),.int .i64 t] (.gK [.int .i64 (leads cnt (ew (aL t bs))).length,.sl ((eX (ew (aL t bs)) bs).map ay)]):=by
 refine aq.body eB rfl fun hl n0=>?_
 clear hl
 (try((repeat(revert hN;revert N;apply Pn.out));refine wk @Nat.zero_add ?_;(repeat(refine Pn.mk ?_;intro N hN))))
 refine aV (fun n env st=>∃k:Nat,n=(bs.length)-k/\k<=(bs.length)/\env 9=.int .i64 (k:Int)/\(∃o:Id,env 8=.own o 0 (aL t (bs.take k)).length/\st.get o=some ⟨true,3,(aL t (bs.take k)).map ay⟩/\o.bP<st.next)) (bs.length) ⟨0,by omega,by omega,sl @Nat.zero_add,⟨⟨192001000,n0+1⟩,by(simp only[go_sem, ↓reduceIte,Nat.reduceEqDiff,Nat.reduceAdd,Nat.reduceSub,Nat.reduceLeDiff,reduceCtorEq])<;>rfl,by(simp only[go_sem, ↓reduceIte,Nat.reduceEqDiff,Nat.reduceAdd,Nat.reduceSub,Nat.reduceLeDiff,reduceCtorEq])<;>rfl,by(try dsimp only);omega⟩⟩ ?_
 rintro n_a env_a st_a ⟨k,rfl,ale,a9,lQ⟩ dD
 have a0:=dD 0 (by kernel_rfl);have a1:=dD 1 (by kernel_rfl);have a2:=dD 2 (by kernel_rfl)
 simp only[go_sem, ↓reduceIte,Nat.reduceEqDiff,Nat.reduceAdd,Nat.reduceSub,Nat.reduceLeDiff,reduceCtorEq]at a0 a1 a2
 clear dD
 obtain⟨o,a8,ag,uF⟩:=lQ
 have so:=dw uF
 by_cases hk:(k:Int)<(bs.length:Int)
 ·have cC:∀{e:Env} {gg:Rows} {nx:Nat},(e 9=.int .i64 (IntKind.i64.wrap ((k:Int)+1)))->(∃o:Id,e 8=.own o 0 (aL t (bs.take (k+1))).length/\gg o=some ⟨true,3,(aL t (bs.take (k+1))).map ay⟩/\o.bP<nx)->∃m0,m0<(bs.length)-k/\∃k:Nat,m0=(bs.length)-k/\k<=(bs.length)/\e 9=.int .i64 (k:Int)/\(∃o:Id,e 8=.own o 0 (aL t (bs.take k)).length/\gg o=some ⟨true,3,(aL t (bs.take k)).map ay⟩/\o.bP<nx):=fun x1 x2=>⟨_,by omega,k+1,rfl,by omega,(by rw[x1,az (by omega)]),x2⟩
  have fy:k<bs.length:=by omega
  have eQ:(bs.map ay)[k]? =some (ay bs[k]):=by simp[fy]
  have hs:=tV t bs k fy
  have CF:=np t (bs.take k)
  rw[List.length_take]at CF
  by_cases hc:t<=(bs[k]).s
  ·rw[if_pos hc]at hs
   have e1:(aL t (bs.take k)).length+1<=16777216:=by omega
   have lE:((aL t (bs.take k)).map ay).length=(aL t (bs.take k)).length:=by simp
   generalize bs[k]=b at *
   (try((repeat(revert hN;revert N;apply Pn.out));refine wk (tw @a9 (tw @a0 (tw @a1 (tw @a2 (tw @a8 (tw @ag (tw @so (tw @hk (tw @eQ (tw @hc (tw @e1 (tw @lE @ay.eq_1)))))))))))) ?_;(repeat(refine Pn.mk ?_;intro N hN))))
   exact cC (sd (tw @a9 (tw @a0 (tw @a1 @a2)))) (⟨⟨192006006,st_a.next+1+1⟩,by rw[hs,List.length_append];simp only[go_sem, ↓reduceIte,Nat.reduceEqDiff,Nat.reduceAdd,Nat.reduceSub,Nat.reduceLeDiff,reduceCtorEq,List.length_cons,List.length_nil],by rw[hs,List.map_append,List.map_cons,List.map_nil];simp only[go_sem, ↓reduceIte,Nat.reduceEqDiff,Nat.reduceAdd,Nat.reduceSub,Nat.reduceLeDiff,reduceCtorEq,ay],by(try dsimp only);omega⟩)
  ·rw[if_neg hc,List.append_nil]at hs
   generalize bs[k]=b at *
   (try((repeat(revert hN;revert N;apply Pn.out));refine wk (tw @a9 (tw @a0 (tw @a1 (tw @a2 (tw @a8 (tw @ag (tw @so (tw @hk (tw @eQ (tw @hc @ay.eq_1)))))))))) ?_;(repeat(refine Pn.mk ?_;intro N hN))))
   exact cC (sd (tw @a9 (tw @a0 (tw @a1 @a2)))) (⟨o,by rw[hs];simp only[go_sem, ↓reduceIte,Nat.reduceEqDiff,Nat.reduceAdd,Nat.reduceSub,Nat.reduceLeDiff,reduceCtorEq,a8],by rw[hs];simp only[go_sem, ↓reduceIte,Nat.reduceEqDiff,Nat.reduceAdd,Nat.reduceSub,Nat.reduceLeDiff,reduceCtorEq,ag],by(try dsimp only);omega⟩)
 have l6:k=bs.length:=by omega
 subst l6
 rw[List.take_length]at a8 ag
 have CC:=BM cnt hn (aL t bs) (fun b h=>hb b (wT h)) (by have:=np t bs;omega)
 have hL:=tM (aL t bs)
 have CB:fz (dO st_a.get) 6 (.own o 0 (aL t bs).length)=some (.sl ((aL t bs).map ay)):=gP (sz:=3) (by simp[dO,ag]) rfl fun b=>zt _ 4 b
 have T5:∀x,cP (dO st_a.get) 6 [.int .i64 x,.own o 0 (aL t bs).length]=some [.int .i64 x,.sl ((aL t bs).map ay)]:=fun x=>by simp only[ai,aj,aH,CB,Option.map_some]
 (try((repeat(revert hN;revert N;apply Pn.out));refine wk (tw @a9 (tw @a0 (tw @a1 (tw @a2 (tw @a8 @hk))))) ?_;(repeat(refine Pn.mk ?_;intro N hN))))
 refine .inl ⟨_,aq.x CC (T5 _),?_⟩
 refine hN _ _ ?_
 clear hN N
 generalize ew (aL t bs)=L at *
 have sO:((fx cnt L).map AA).length=(leads cnt L).length:=by simp[fx]
 have Sw:=jP cnt L
 have jJ:(0:Int)<=(cnt:Int):=by omega
 have pZ:(cnt:Int)<=((16777216:Nat):Int):=by omega
 have gJ:List.replicate cnt [AV.int .i64 0]=dC (cL cnt L 0 0) cnt:=by rw[wZ,oO]
 (try((repeat(revert hN;revert N;apply Pn.out));refine wk (tw @a9 (tw @a0 (tw @a1 (tw @a2 (tw @jJ (tw @pZ @Int.le_refl)))))) ?_;(repeat(refine Pn.mk ?_;intro N hN))))
 refine aV (fun n env st=>∃i:Nat,n=((leads cnt L).length)-i/\i<=((leads cnt L).length)/\env 12=.int .i64 (i:Int)/\st.get ⟨192008001,st_a.next+1+1⟩=some ⟨true,1,dC (cL cnt L i 0) cnt⟩/\(st_a.next+1+1<st.next)) ((leads cnt L).length) ⟨0,by omega,by omega,sl (tw @a9 (tw @a0 (tw @a1 (tw @a2 @gJ)))),sl (tw @a9 (tw @a0 (tw @a1 (tw @a2 @gJ)))),(by(try dsimp only);omega)⟩ ?_
 rintro n_c env_c st_c ⟨i,rfl,cle,zi,cg0,cI0⟩ cfr
 have c1:=cfr 1 (by kernel_rfl);have jA:=cfr 10 (by kernel_rfl);have nK:=cfr 11 (by kernel_rfl)
 simp only[go_sem, ↓reduceIte,Nat.reduceEqDiff,Nat.reduceAdd,Nat.reduceSub,Nat.reduceLeDiff,reduceCtorEq,a9,a0,a1,a2,gJ]at c1 jA nK
 clear cfr
 by_cases hi:(i:Int)<((leads cnt L).length:Int)
 ·have ig:∀{e:Env} {gg:Rows} {nx:Nat},(e 12=.int .i64 (IntKind.i64.wrap ((i:Int)+1)))->(gg ⟨192008001,st_a.next+1+1⟩=some ⟨true,1,dC (cL cnt L (i+1) 0) cnt⟩)->(st_a.next+1+1<nx)->∃m0,m0<((leads cnt L).length)-i/\∃i:Nat,m0=((leads cnt L).length)-i/\i<=((leads cnt L).length)/\e 12=.int .i64 (i:Int)/\gg ⟨192008001,st_a.next+1+1⟩=some ⟨true,1,dC (cL cnt L i 0) cnt⟩/\(st_a.next+1+1<nx):=fun x1 x2 x3=>⟨_,by omega,i+1,rfl,by omega,(by rw[x1,az (by omega)]),x2,x3⟩
  have ft:i<(leads cnt L).length:=by omega
  have j6:((fx cnt L).map AA)[i]? =some (AA (members cnt L (leads cnt L)[i])):=by simp[fx,ft]
  have uE:(leads cnt L).getD i 0=(leads cnt L)[i]:=by simp[List.getD_eq_getElem?_getD,ft]
  have lf:∀m,cL cnt L i m=fun x=>if bJ L x<i then bJ L x else if x∈(members cnt L (leads cnt L)[i]).take m then i else 0:=fun m=>by unfold cL;rw[uE]
  have rD:=fun x (hx:x<cnt)=>sZ hL (n:=cnt) (k:=x) (i:=i) hx ft
  have mi:(members cnt L (leads cnt L)[i]).Nodup:=List.nodup_range.filter _
  have N5:∀x∈members cnt L (leads cnt L)[i],x<cnt:=fun x hx=>(lK.1 hx).1
  have hMc:(members cnt L (leads cnt L)[i]).length<=cnt:=by
   have:=List.length_filter_le (fun k=>L k==(leads cnt L)[i]) (List.range cnt)
   simpa[members]using this
  generalize members cnt L (leads cnt L)[i]=M at *
  have CA:(M.map eN).length=M.length:=by simp
  (try((repeat(revert hN;revert N;apply Pn.out));refine wk (tw @zi (tw @cg0 (tw @c1 (tw @jA (tw @nK (tw @hi @sO)))))) ?_;(repeat(refine Pn.mk ?_;intro N hN))))
  refine aV (fun n env st=>∃m:Nat,n=(M.length)-m/\m<=(M.length)/\env 13=.int .i64 (m:Int)/\st.get ⟨192008001,st_a.next+1+1⟩=some ⟨true,1,dC (cL cnt L i m) cnt⟩/\(st_a.next+1+1<st.next)) (M.length) ⟨0,by omega,by omega,sl (tw @zi (tw @cg0 (tw @c1 (tw @jA @nK)))),sl (tw @zi (tw @cg0 (tw @c1 (tw @jA @nK)))),(by(try dsimp only);omega)⟩ ?_
  rintro n_d env_d st_d ⟨m,rfl,dle,d13,dg0,dI0⟩ dfr
  have d1:=dfr 1 (by kernel_rfl);have d10:=dfr 10 (by kernel_rfl);have d11:=dfr 11 (by kernel_rfl);have d12:=dfr 12 (by kernel_rfl)
  simp only[go_sem, ↓reduceIte,Nat.reduceEqDiff,Nat.reduceAdd,Nat.reduceSub,Nat.reduceLeDiff,reduceCtorEq,zi,cg0,c1,jA,nK]at d1 d10 d11 d12
  clear dfr
  have tl:=gh (cL cnt L i m) cnt
  by_cases hm:(m:Int)<(M.length:Int)
  ·have tP:∀{e:Env} {gg:Rows} {nx:Nat},(e 13=.int .i64 (IntKind.i64.wrap ((m:Int)+1)))->(gg ⟨192008001,st_a.next+1+1⟩=some ⟨true,1,dC (cL cnt L i (m+1)) cnt⟩)->(st_a.next+1+1<nx)->∃m0,m0<(M.length)-m/\∃m:Nat,m0=(M.length)-m/\m<=(M.length)/\e 13=.int .i64 (m:Int)/\gg ⟨192008001,st_a.next+1+1⟩=some ⟨true,1,dC (cL cnt L i m) cnt⟩/\(st_a.next+1+1<nx):=fun x1 x2 x3=>⟨_,by omega,m+1,rfl,by omega,(by rw[x1,az (by omega)]),x2,x3⟩
   have zF:m<M.length:=by omega
   have vQ:(M.map eN)[m]? =some (eN M[m]):=by simp[zF]
   have vZ:=N5 _ (List.getElem_mem zF)
   have CH:(M[m]:Int)<(cnt:Int):=by omega
   have CG:=fo (f:=cL cnt L i m) vZ
   have eC:(dC (cL cnt L i m) cnt).set M[m] (eN i)=dC (cL cnt L i (m+1)) cnt:=pG vZ (by
    have h1:=(rD _ vZ).1 (List.getElem_mem zF)
    rw[lf]
    simp only[]
    rw[if_neg (by omega),if_pos (by rw[List.take_succ_eq_append_getElem zF];exact List.mem_append_right _ (List.mem_singleton.2 rfl))]) fun x hx gW=>by
    rw[lf,lf]
    simp only[]
    rw[List.take_succ_eq_append_getElem zF]
    simp only[List.mem_append,List.mem_singleton,gW,or_false]
   rw[eN]at eC CG
   generalize M[m]=xm at *
   (try((repeat(revert hN;revert N;apply Pn.out));refine wk (tw @d13 (tw @dg0 (tw @d1 (tw @d10 (tw @d11 (tw @d12 (tw @hm (tw @hi (tw @j6 (tw @sO (tw @vQ (tw @CA (tw @CH (tw @CG (tw @tl (tw @eC (tw @AA.eq_1 @eN.eq_1))))))))))))))))) ?_;(repeat(refine Pn.mk ?_;intro N hN))))
   refine tP ?_ ?_ (by(try dsimp only);omega)
   all_goals simp only[go_sem, ↓reduceIte,Nat.reduceEqDiff,Nat.reduceAdd,Nat.reduceSub,Nat.reduceLeDiff,reduceCtorEq,d13,dg0,d1,d10,d11,d12,eC]
  ·have lE:m=M.length:=by omega
   subst lE
   have qx:dC (cL cnt L i M.length) cnt=dC (cL cnt L (i+1) 0) cnt:=gY fun x hx=>by
    rw[lf,List.take_length]
    simp only[cL,List.take_zero,List.not_mem_nil,if_false]
    have h1:=rD x hx
    by_cases h2:bJ L x<i
    ·rw[if_pos h2,if_pos (by omega)]
    ·rw[if_neg h2]
     by_cases h3:x∈M
     ·rw[if_pos h3,if_pos (by have:=h1.1 h3;omega),h1.1 h3]
     ·rw[if_neg h3,if_neg fun h4=>h3 (h1.2 (by omega))]
   (try((repeat(revert hN;revert N;apply Pn.out));refine wk (tw @d13 (tw @dg0 (tw @d1 (tw @d10 (tw @d11 (tw @d12 (tw @hm (tw @hi (tw @j6 (tw @sO (tw @CA @AA.eq_1))))))))))) ?_;(repeat(refine Pn.mk ?_;intro N hN))))
   refine ig ?_ ?_ (by(try dsimp only);omega)
   all_goals simp only[go_sem, ↓reduceIte,Nat.reduceEqDiff,Nat.reduceAdd,Nat.reduceSub,Nat.reduceLeDiff,reduceCtorEq,zi,cg0,c1,jA,nK,d13,dg0,d1,d10,d11,d12,qx]
 have lD:i=(leads cnt L).length:=by omega
 subst lD
 have rE:dC (cL cnt L (leads cnt L).length 0) cnt=dC (bJ L) cnt:=gY fun x hx=>by rw[cL,if_pos (j9 hL hx)]
 rw[rE]at cg0
 have tl:=gh (bJ L) cnt
 (try((repeat(revert hN;revert N;apply Pn.out));refine wk (tw @zi (tw @cg0 (tw @c1 (tw @jA (tw @nK (tw @hi @sO)))))) ?_;(repeat(refine Pn.mk ?_;intro N hN))))
 have Sh:st_a.next+1+1<st_c.next:=cI0
 refine aV (fun n env st=>∃j:Nat,n=(bs.length)-j/\j<=(bs.length)/\env 15=.int .i64 (j:Int)/\st.get ⟨192008001,st_a.next+1+1⟩=some ⟨true,1,dC (bJ L) cnt⟩/\(∃p:Id,env 14=.own p 0 (eX L (bs.take j)).length/\st.get p=some ⟨true,3,(eX L (bs.take j)).map ay⟩/\st_c.next<=p.bP/\p.bP<st.next)) (bs.length) ⟨0,by omega,by omega,sl (tw @zi (tw @cg0 (tw @c1 (tw @jA @nK)))),sl (tw @zi (tw @cg0 (tw @c1 (tw @jA @nK)))),⟨⟨192016000,st_c.next+1⟩,by(simp only[go_sem, ↓reduceIte,Nat.reduceEqDiff,Nat.reduceAdd,Nat.reduceSub,Nat.reduceLeDiff,reduceCtorEq])<;>rfl,by(simp only[go_sem, ↓reduceIte,Nat.reduceEqDiff,Nat.reduceAdd,Nat.reduceSub,Nat.reduceLeDiff,reduceCtorEq])<;>rfl,by(try dsimp only);omega,by(try dsimp only);omega⟩⟩ ?_
 rintro n_f env_f st_f ⟨j,rfl,fle,f15,fg0,fI0⟩ ffr
 have f1:=ffr 1 (by kernel_rfl);have f10:=ffr 10 (by kernel_rfl);have f11:=ffr 11 (by kernel_rfl)
 simp only[go_sem, ↓reduceIte,Nat.reduceEqDiff,Nat.reduceAdd,Nat.reduceSub,Nat.reduceLeDiff,reduceCtorEq,zi,cg0,c1,jA,nK]at f1 f10 f11
 clear ffr
 obtain⟨p,f14,fg,N9,IE⟩:=fI0
 have x1:=cr (a:=⟨192008001,st_a.next+1+1⟩) (b:=p) (by(try dsimp only);omega)
 have AF:=dw IE
 have hvn:st_a.next+1+1<st_f.next:=by omega
 have IQ:=dw (i:=⟨192008001,st_a.next+1+1⟩) (n:=st_f.next) hvn
 have CF:=(nk L (bs.take j)).2
 rw[List.length_take]at CF
 by_cases hj:(j:Int)<(bs.length:Int)
 ·have rP:∀{e:Env} {gg:Rows} {nx:Nat},(e 15=.int .i64 (IntKind.i64.wrap ((j:Int)+1)))->(gg ⟨192008001,st_a.next+1+1⟩=some ⟨true,1,dC (bJ L) cnt⟩)->(∃p:Id,e 14=.own p 0 (eX L (bs.take (j+1))).length/\gg p=some ⟨true,3,(eX L (bs.take (j+1))).map ay⟩/\st_c.next<=p.bP/\p.bP<nx)->∃m0,m0<(bs.length)-j/\∃j:Nat,m0=(bs.length)-j/\j<=(bs.length)/\e 15=.int .i64 (j:Int)/\gg ⟨192008001,st_a.next+1+1⟩=some ⟨true,1,dC (bJ L) cnt⟩/\(∃p:Id,e 14=.own p 0 (eX L (bs.take j)).length/\gg p=some ⟨true,3,(eX L (bs.take j)).map ay⟩/\st_c.next<=p.bP/\p.bP<nx):=fun x1 x2 x3=>⟨_,by omega,j+1,rfl,by omega,(by rw[x1,az (by omega)]),x2,x3⟩
  have iO:j<bs.length:=by omega
  have Hj:(bs.map ay)[j]? =some (ay bs[j]):=by simp[iO]
  have MA:=hb _ (List.getElem_mem iO)
  have hs:=Ab L (bs.take j) bs[j]
  rw[<-List.take_succ_eq_append_getElem iO]at hs
  generalize bs[j]=b at *
  have hA:=fo (f:=bJ L) MA.1
  have hB:=fo (f:=bJ L) MA.2
  have gI:(b.a:Int)<(cnt:Int):=by omega
  have fP:(b.b:Int)<(cnt:Int):=by omega
  have R7:=BJ (bJ L b.a) (bJ L b.b)
  have R8:=BI (bJ L b.a) (bJ L b.b)
  rw[eN]at hA hB
  by_cases he:bJ L b.a=bJ L b.b
  ·rw[if_pos he,List.append_nil]at hs
   have uD:decide ((bJ L b.a:Int)=(bJ L b.b:Int))=true:=decide_eq_true (by rw[he])
   (try((repeat(revert hN;revert N;apply Pn.out));refine wk (tw @f15 (tw @fg0 (tw @f1 (tw @f10 (tw @f11 (tw @f14 (tw @fg (tw @hj (tw @Hj (tw @hA (tw @hB (tw @gI (tw @fP (tw @tl (tw @uD (tw @x1 (tw @AF @ay.eq_1))))))))))))))))) ?_;(repeat(refine Pn.mk ?_;intro N hN))))
   refine rP ?_ ?_ (⟨p,by rw[hs];simp only[go_sem, ↓reduceIte,Nat.reduceEqDiff,Nat.reduceAdd,Nat.reduceSub,Nat.reduceLeDiff,reduceCtorEq,f14],by rw[hs];simp only[go_sem, ↓reduceIte,Nat.reduceEqDiff,Nat.reduceAdd,Nat.reduceSub,Nat.reduceLeDiff,reduceCtorEq,fg],N9,by(try dsimp only);omega⟩)
   all_goals simp only[go_sem, ↓reduceIte,Nat.reduceEqDiff,Nat.reduceAdd,Nat.reduceSub,Nat.reduceLeDiff,reduceCtorEq,f15,fg0,f1,f10,f11]
  ·rw[if_neg he]at hs
   have uD:decide ((bJ L b.a:Int)=(bJ L b.b:Int))=false:=decide_eq_false fun h=>he (by omega)
   have e1:(eX L (bs.take j)).length+1<=16777216:=by omega
   have lE:((eX L (bs.take j)).map ay).length=(eX L (bs.take j)).length:=by simp
   (repeat(first|((repeat(revert hN;revert N;apply Pn.out));refine wk (tw @f15 (tw @fg0 (tw @f1 (tw @f10 (tw @f11 (tw @f14 (tw @fg (tw @hj (tw @Hj (tw @hA (tw @hB (tw @gI (tw @fP (tw @tl (tw @uD (tw @x1 (tw @AF (tw @IQ (tw @e1 (tw @lE @ay.eq_1)))))))))))))))))))) ?_;(repeat(refine Pn.mk ?_;intro N hN)))|((try apply Or.inl);refine⟨_,aq.x (R7) (sd (tw @f15 (tw @fg0 (tw @f1 (tw @f10 (tw @f11 (tw @f14 (tw @fg (tw @hj (tw @Hj (tw @hA (tw @hB (tw @gI (tw @fP (tw @tl (tw @uD (tw @x1 (tw @AF (tw @IQ (tw @e1 (tw @lE @ay.eq_1))))))))))))))))))))),?_⟩;refine hN _ _ ?_;clear hN N)|((try apply Or.inl);refine⟨_,aq.x (R8) (sd (tw @f15 (tw @fg0 (tw @f1 (tw @f10 (tw @f11 (tw @f14 (tw @fg (tw @hj (tw @Hj (tw @hA (tw @hB (tw @gI (tw @fP (tw @tl (tw @uD (tw @x1 (tw @AF (tw @IQ (tw @e1 (tw @lE @ay.eq_1))))))))))))))))))))),?_⟩;refine hN _ _ ?_;clear hN N)))
   refine rP ?_ ?_ (⟨⟨192023014,st_f.next+1+1+1+1⟩,by rw[hs,List.length_append];simp only[go_sem, ↓reduceIte,Nat.reduceEqDiff,Nat.reduceAdd,Nat.reduceSub,Nat.reduceLeDiff,reduceCtorEq,List.length_cons,List.length_nil],by rw[hs,List.map_append,List.map_cons,List.map_nil];simp only[go_sem, ↓reduceIte,Nat.reduceEqDiff,Nat.reduceAdd,Nat.reduceSub,Nat.reduceLeDiff,reduceCtorEq,ay],by(try dsimp only);omega,by(try dsimp only);omega⟩)
   all_goals simp only[go_sem, ↓reduceIte,Nat.reduceEqDiff,Nat.reduceAdd,Nat.reduceSub,Nat.reduceLeDiff,reduceCtorEq,f15,fg0,f1,f10,f11,x1,IQ]
 ·have gZ:j=bs.length:=by omega
  subst gZ
  rw[List.take_length]at f14 fg
  (try((repeat(revert hN;revert N;apply Pn.out));refine wk (tw @f15 (tw @fg0 (tw @f1 (tw @f10 (tw @f11 (tw @f14 (tw @hj @sO))))))) ?_;(repeat(refine Pn.mk ?_;intro N hN))))
  refine jx (.inl rfl) (r1:=.int .i64 ((leads cnt L).length:Int)) (sd @Nat.zero_add) (by simp only[go_sem, ↓reduceIte,Nat.reduceEqDiff,Nat.reduceAdd,Nat.reduceSub,Nat.reduceLeDiff,reduceCtorEq];rfl) ?_
  have h1:gu st_f.get 5 (.own p 0 (eX L bs).length)=some (.sl ((eX L bs).map ay)):=fD (sz:=3) fg rfl fun b=>uy _ 3 b
  simp only[eW,bD,cE,eM,h1,Option.map_some]
end Go.Proofs.YtgoelphibofcmaaGreat.V

namespace Go.Proofs.YtgoelphibofcmaaGreat.V
def Ey (bs:List PB) (e v:Nat):Prop:=(cw bs e).a=v∨(cw bs e).b=v
def iV (bs:List PB) (m v:Nat):List Nat:=(List.range m).filter fun i=>(cw bs i).a==v||(cw bs i).b==v
theorem rI {bs:List PB} {m v e:Nat}:e∈iV bs m v↔e<m/\Ey bs e v:=by simp[iV,Ey]
theorem Gj (bs:List PB) (m v:Nat):iV bs (m+1) v=iV bs m v++if (cw bs m).a=v∨(cw bs m).b=v then[m]else[]:=by
 unfold iV
 rw[List.range_succ,List.filter_append]
 congr 1
 by_cases h:(cw bs m).a=v<;>by_cases h2:(cw bs m).b=v<;>simp[h,h2]
theorem rH (bs:List PB) (m v:Nat):(iV bs m v).length<=m:=by
 have:=List.length_filter_le (fun i=>(cw bs i).a==v||(cw bs i).b==v) (List.range m)
 simpa[iV]using this
def nu (cnt:Nat) (bs:List PB):Prop:=∀e,e<bs.length->(cw bs e).a<cnt/\(cw bs e).b<cnt/\(cw bs e).a≠(cw bs e).b
theorem oR {cnt:Nat} {bs:List PB} (h:nu cnt bs) {e v:Nat} (he:e<bs.length):bK bs e v<cnt:=by
 have:=h e he;unfold bK;split;exact this.2.1;exact this.1
theorem Jm {cnt:Nat} {bs:List PB} (h:nu cnt bs) {e v:Nat} (he:e<bs.length) (hi:Ey bs e v):bK bs e v≠v:=by
 have h1:=(h e he).2.2
 unfold bK
 split
 ·rename_i ha;rw[<-ha];exact fun h=>h1 h.symm
 ·rename_i ha;rcases hi with hi|hi
  ·exact absurd hi ha
  ·rw[<-hi];exact h1
theorem yN {bs:List PB} {e v:Nat}:Ey bs e (bK bs e v):=by
 unfold bK Ey;split
 ·exact .inr rfl
 ·exact .inl rfl
theorem oU {cnt:Nat} {bs:List PB} (h:nu cnt bs) {e v:Nat} (he:e<bs.length) (hi:Ey bs e v):bK bs e (bK bs e v)=v:=by
 have h1:=(h e he).2.2
 unfold bK
 by_cases ha:(cw bs e).a=v
 ·rw[if_pos ha,if_neg h1];exact ha
 ·rw[if_neg ha,if_pos rfl]
  rcases hi with hi|hi
  ·exact absurd hi ha
  ·exact hi
structure za (cnt:Nat) (bs:List PB) (f:Nat->Int) (y:Nat) (out:Nat->Int):Prop where
 lo:∀v,v<cnt->-1<=out v/\out v<=cnt
 first:out y=0
 zero:∀v,v<cnt->out v=0->v=y
 down:∀v,v<cnt->0<out v->∃e,e<bs.length/\Ey bs e v/\0<fE bs f e v/\out (bK bs e v)=out v-1
 shut:∀e v,e<bs.length->Ey bs e v->0<=out (bK bs e v)->0<fE bs f e v->0<=out v
structure Aw (cnt:Nat) (bs:List PB) (f:Nat->Int) (y:Nat) (out:Nat->Int) (Q:List Nat) (i:Nat):Prop where
 nd:Q.Nodup
 lt:∀x∈Q,x<cnt
 iff:∀v,v<cnt->(0<=out v↔v∈Q)
 lo:∀v,v<cnt->-1<=out v
 first:out y=0
 up:∀j (h:j<Q.length),out Q[j]<=j
 zero:∀v,v<cnt->out v=0->v=y
 down:∀v,v<cnt->0<out v->∃e,e<bs.length/\Ey bs e v/\0<fE bs f e v/\out (bK bs e v)=out v-1
 shut:∀j (h:j<Q.length),j<i->∀e,e<bs.length->Ey bs e Q[j]->0<fE bs f e (bK bs e Q[j])->0<=out (bK bs e Q[j])
section
variable {cnt:Nat} {bs:List PB} {f:Nat->Int} {y:Nat} {out:Nat->Int} {Q:List Nat} {i:Nat}
theorem Aw.start (hy:y<cnt):Aw cnt bs f y (fun v=>if v=y then 0 else -1) [y] 0 where
 nd:=by simp
 lt:=fun x hx=>by rw[List.mem_singleton.1 hx];exact hy
 iff:=fun v _=>by
  by_cases h:v=y<;>simp[h]
 lo:=fun v _=>by split<;>omega
 first:=if_pos rfl
 up:=fun j h=>by
  have:j=0:=by simp at h;omega
  subst this;simp
 zero:=fun v _ h=>by
  by_cases hv:v=y
  ·exact hv
  ·rw[if_neg hv]at h;omega
 down:=fun v _ h=>by
  by_cases hv:v=y
  ·rw[if_pos hv]at h;omega
  ·rw[if_neg hv]at h;omega
 shut:=fun j h hj=>by omega
theorem Aw.len (h:Aw cnt bs f y out Q i):Q.length<=cnt:=oP cnt Q h.nd h.lt
theorem Aw.visit (h:Aw cnt bs f y out Q i) (ok:nu cnt bs) (hi:i<Q.length) {e:Nat} (he:e<bs.length) (pO:Ey bs e Q[i]) (j7:out (bK bs e Q[i])<0) (fS:0<fE bs f e (bK bs e Q[i])):
  Aw cnt bs f y (fun v=>if v=bK bs e Q[i]then out Q[i]+1 else out v) (Q++[bK bs e Q[i]]) i:=by
 have ML:0<=out Q[i]:=(h.iff _ (h.lt _ (List.getElem_mem hi))).2 (List.getElem_mem hi)
 have hq:=oR ok (v:=Q[i]) he
 have gW:=Jm ok he pO
 have SA:=oU ok he pO
 have Ul:bK bs e Q[i]∉Q:=fun hm=>by have:=(h.iff _ hq).2 hm;omega
 have lf:=h.up i hi
 generalize hw:bK bs e Q[i]=w at *
 have qD:∀v,0<=out v->(if v=w then out Q[i]+1 else out v)=out v:=fun v hv=>by
  rw[if_neg];rintro rfl;omega
 have mono:∀v,0<=out v->0<=(if v=w then out Q[i]+1 else out v):=fun v hv=>by rw[qD v hv];exact hv
 refine⟨?_,?_,?_,?_,?_,?_,?_,?_,?_⟩
 ·rw[List.nodup_append]
  exact⟨h.nd,by simp,fun a ha b hb=>by rw[List.mem_singleton.1 hb];rintro rfl;exact Ul ha⟩
 ·intro x hx
  rcases List.mem_append.1 hx with hx|hx
  ·exact h.lt x hx
  ·rw[List.mem_singleton.1 hx];exact hq
 ·intro v hv
  by_cases Hp:v=w
  ·subst Hp;simp;omega
  ·rw[if_neg Hp,h.iff v hv];simp[Hp]
 ·intro v hv
  by_cases Hp:v=w
  ·rw[if_pos Hp];omega
  ·rw[if_neg Hp];exact h.lo v hv
 ·rw[qD y (by rw[h.first];exact Int.le_refl _)];exact h.first
 ·intro j hj
  by_cases gZ:j<Q.length
  ·rw[List.getElem_append_left gZ,qD _ ((h.iff _ (h.lt _ (List.getElem_mem gZ))).2 (List.getElem_mem gZ))]
   exact h.up j gZ
  ·have K9:j=Q.length:=by simp at hj;omega
   subst K9
   simp
   omega
 ·intro v hv h0
  by_cases Hp:v=w
  ·rw[if_pos Hp]at h0;omega
  ·rw[if_neg Hp]at h0;exact h.zero v hv h0
 ·intro v hv h0
  by_cases Hp:v=w
  ·subst Hp
   rw[if_pos rfl]
   refine⟨e,he,by rw[<-hw];exact yN,fS,?_⟩
   rw[SA,qD _ ML];omega
  ·rw[if_neg Hp]at h0 ⊢
   obtain⟨e',h1,h2,h3,h4⟩:=h.down v hv h0
   exact⟨e',h1,h2,h3,by rw[qD _ (by omega)];exact h4⟩
 ·intro j hj mK e' K4 ME hr
  have gZ:j<Q.length:=by omega
  rw[List.getElem_append_left gZ]at ME hr ⊢
  exact mono _ (h.shut j gZ mK e' K4 ME hr)
theorem Aw.next (h:Aw cnt bs f y out Q i) (hi:i<Q.length) (hs:∀e∈iV bs bs.length Q[i],0<fE bs f e (bK bs e Q[i])->0<=out (bK bs e Q[i])):Aw cnt bs f y out Q (i+1):=
 ⟨h.nd,h.lt,h.iff,h.lo,h.first,h.up,h.zero,h.down,fun j hj mK e he pO hr=>by
  by_cases K9:j=i
  ·subst K9;exact hs e (rI.2 ⟨he,pO⟩) hr
  ·exact h.shut j hj (by omega) e he pO hr⟩
theorem Aw.done (h:Aw cnt bs f y out Q i) (ok:nu cnt bs) (hi:Q.length<=i):za cnt bs f y out where
 lo:=fun v hv=>⟨h.lo v hv,by
  by_cases h0:0<=out v
  ·obtain⟨j,hj,rfl⟩:=List.getElem_of_mem ((h.iff v hv).1 h0)
   have:=h.up j hj
   have:=h.len
   omega
  ·omega⟩
 first:=h.first
 zero:=h.zero
 down:=h.down
 shut:=fun e v he pO h0 hr=>by
  obtain⟨j,hj,PA⟩:=List.getElem_of_mem ((h.iff _ (oR ok he)).1 h0)
  have h2:=h.shut j hj (by omega) e he (by rw[PA];exact yN)
  rw[PA,oU ok he pO]at h2
  exact h2 hr
end
end Go.Proofs.YtgoelphibofcmaaGreat.V

namespace Go.Proofs.YtgoelphibofcmaaGreat.V
open Go.RowKit
attribute [local irreducible] dI wpOps gD Call
attribute [local go_sem] aM fM eP gp gm cN upd cD K.av cR AV.cells AV.cell rowOf rowsOf part ld rowAt bz cu dG ef ik bQ dh eA gj e9 dq ek dd dc dU dV bW bf cW bV cY cX ei eo ej cV ck de eh bU aT da cG ij bx cQ b4 aY dn bc dH AV.undef bF bI eb ee dP dM cJ ez eE cF er ep cZ db List.getD_cons_zero List.getD_cons_succ List.getD_nil List.all_cons List.all_nil Bool.and_true Bool.true_and Bool.and_self Bool.not_true Bool.not_false Option.map_some Option.map_none Option.bind_some Option.bind_none List.length_cons List.length_nil List.take_succ_cons List.take_zero List.take_nil List.drop_succ_cons List.drop_zero List.drop_nil List.head?_cons List.map_cons List.map_nil List.getElem?_cons_zero List.getElem?_cons_succ List.cons_append List.nil_append List.append_nil List.length_map List.set_cons_zero List.set_cons_succ Nat.reduceMul eq_self Int.toNat_natCast Int.natCast_nonneg and_self true_and and_true decide_true decide_false Bool.false_eq_true Nat.zero_add Nat.add_zero List.contains_cons List.contains_nil Bool.or_false Bool.false_or beq_self_eq_true Nat.reduceBEq ne_eq not_true_eq_false not_false_eq_true Id.mk.injEq false_and and_false Nat.reduceLT Int.reduceLE Int.reduceLT Int.reduceToNat Int.reduceNeg Int.reduceAdd Nat.le_refl List.length_append beq_true beq_false Bool.not_eq_eq_eq_not or_false false_or dO ai aj aH bp bE cz aX bl aW bj cU bH
def l8 (P:Program) (f:Nat) (args:List AV) (R:AV->Prop):Prop:=∀n:Nat,Call P f args ⟨fun _=>none,n⟩ fun r0 σ'=>∃r',gu σ'.get 6 r0=some r'/\R r'
theorem aq.r {P:Program} {f:Nat} {args:List AV} {r:AV} (h:aq P f args r):l8 P f args (fun r'=>r'=r):=h
theorem F2 {P:Program} {f:Nat} {args eF:List AV} {g:Rows} {n:Nat} {R:AV->Prop} (hv:cP (dO g) 6 args=some eF) (h:Sound P f eF ⟨fun _=>none,n⟩ fun r0 σ'=>∃r',gu σ'.get 6 r0=some r'/\R r'):Sound P f args ⟨g,n⟩ fun r σ'=>R r/\σ'=⟨g,n⟩:=by
 intro hs D ι w vs S U A
 refine(xO (g0:=g) (K:=R) ⟨eF,hv,h⟩ (fun _ _ h=>h) S U A).mono ?_
 rintro e w' ⟨r,D',u,rfl,hR,T,S',hr⟩
 exact⟨r,g,n,D',ι,u,rfl,⟨hR,rfl⟩,T,S',U,Nat.le_refl _,hr⟩
theorem l8.x {P:Program} (hm:P.follows .mixedOrders=true) {f:Nat} {args eF:List AV} {R:AV->Prop} (h:l8 P f eF R) {σ:ar} (hv:cP (dO σ.get) 6 args=some eF):Call P f args σ fun r σ'=>R r/\σ'=σ:=
 gM (F2 hv (gn hm (h σ.next)))
theorem l8.body {P:Program} {f:Nat} {args:List AV} {R:AV->Prop} {nt na:Nat} {body:VC} {res:List nH} (hf:l5 P f=some ⟨nt,na,body,res⟩) (ha:na=args.length) (h:(∀a∈args,eG a)->∀n:Nat,dI (Call P) body (kz res fun r0 σ'=>∃r',gu σ'.get 6 r0=some r'/\R r') (cD args) ⟨fun _=>none,n⟩):l8 P f args R:=fun n=>l9 hf ha fun hl=>h hl n
def dS (f:Nat->Int) (n:Nat):List (List AV):=(List.range n).map fun i=>bq (f i)
theorem dB (f:Nat->Int) (n:Nat):(dS f n).length=n:=by simp[dS]
theorem dK {f:Nat->Int} {n i:Nat} (h:i<n):(dS f n)[i]? =some (bq (f i)):=by simp[dS,h]
theorem k6 {f g:Nat->Int} {n k:Nat} {v:Int} (hk:k<n) (hv:g k=v) (h:∀i,i<n->i≠k->g i=f i):(dS f n).set k (bq v)=dS g n:=by
 refine List.ext_getElem? fun i=>?_
 rw[List.getElem?_set]
 by_cases hi:k=i
 ·subst hi
  rw[if_pos rfl,dB,if_pos hk,dK hk,hv]
 ·rw[if_neg hi]
  by_cases ft:i<n
  ·rw[dK ft,dK ft,h i ft (fun h=>hi h.symm)]
  ·rw[List.getElem?_eq_none (by rw[dB];omega),List.getElem?_eq_none (by rw[dB];omega)]
theorem G5 (f:Nat->Int) (n:Nat):dS f (n+1)=dS f n++[bq (f n)]:=by simp[dS,List.range_succ]
theorem fzI (g:Rows) (n:Nat) (a:Int):cP g (n+1) (bq a)=some (bq a):=by simp[bq,ai,aj,aH]
theorem Tj (g:Rows) (n:Nat) (a:Int):ea g (n+1) (bq a)=some (bq a):=by simp[bq,bD,cE,eM]
theorem JW {g:Rows} {f:Nat->Int} {n m:Nat}:ib g (m+1) (dS f n)=some (dS f n):=by
 have:dS f n=((List.range n).map f).map bq:=by simp[dS]
 rw[this];exact tF fun x=>Tj g m x
theorem Ak {g:Rows} {f:Nat->Int} {n m:Nat}:dZ g (m+1) (dS f n)=some (dS f n):=by
 have:dS f n=((List.range n).map f).map bq:=by simp[dS]
 rw[this];exact qp fun x=>fzI g m x
def OQ (l:List Nat):AV:=if l=[]then .cq else .sl (l.map eN)
def qc (cnt:Nat) (bs:List PB) (m:Nat):List (List AV):=(List.range cnt).map fun v=>[OQ (iV bs m v)]
theorem CU {cnt:Nat} {bs:List PB} {m v:Nat} (h:v<cnt):(qc cnt bs m)[v]? =some [OQ (iV bs m v)]:=by simp[qc,h]
def fN (cnt:Nat) (bs:List PB) (f:Nat->Int):List AV:=[.int .i64 cnt,.sl (bs.map ay),.sl (qc cnt bs bs.length),.sl (dS f bs.length)]
theorem ur {bs:List PB} {e:Nat} (h:e<bs.length):(bs.map ay)[e]? =some (ay (cw bs e)):=getD_map ay h
def Small (bs:List PB) (f:Nat->Int):Prop:=∀e,e<bs.length->(0<=(cw bs e).s/\(cw bs e).s<=4)/\-4<=f e/\f e<=4
theorem JG (cnt:Nat) (bs:List PB) (f:Nat->Int) (hs:Small bs f) (e v:Nat) (he:e<bs.length):aq Tryz.prog 260 [.di (fN cnt bs f),.int .i64 v,.int .i64 e] (.gK [.int .i64 (fE bs f e v),.int .i64 (bK bs e v)]):=by
 refine aq.body eB rfl fun hl n0=>?_
 clear hl
 have hb:=ur he
 have hf:=dK (f:=f) he
 obtain⟨⟨s0,s1⟩,s2,s3⟩:=hs e he
 have w1:IntKind.i64.wrap ((cw bs e).s-f e)=(cw bs e).s-f e:=bt (by omega)
 have w2:IntKind.i64.wrap ((cw bs e).s+f e)=(cw bs e).s+f e:=bt (by omega)
 unfold fE bK
 generalize cw bs e=b at *
 by_cases h:b.a=v
 ·have hd:decide ((b.a:Int)=(v:Int))=true:=decide_eq_true (by rw[h])
  (try((repeat(revert hN;revert N;apply Pn.out));refine wk (tw @fN.eq_1 (tw @hb (tw @hf (tw @ay.eq_1 (tw @bq.eq_1 (tw @hd (tw @w1 @w2))))))) ?_;(repeat(refine Pn.mk ?_;intro N hN))))
  refine jx (.inl rfl) (by simp only[go_sem, ↓reduceIte,Nat.reduceEqDiff,Nat.reduceAdd,Nat.reduceSub,Nat.reduceLeDiff,reduceCtorEq];rfl) (by simp only[go_sem, ↓reduceIte,Nat.reduceEqDiff,Nat.reduceAdd,Nat.reduceSub,Nat.reduceLeDiff,reduceCtorEq];rfl) ?_
  simp only[eW,bD,cE,eM,Option.map_some,if_pos h]
 ·have hd:decide ((b.a:Int)=(v:Int))=false:=decide_eq_false fun hc=>h (by omega)
  (try((repeat(revert hN;revert N;apply Pn.out));refine wk (tw @fN.eq_1 (tw @hb (tw @hf (tw @ay.eq_1 (tw @bq.eq_1 (tw @hd (tw @w1 @w2))))))) ?_;(repeat(refine Pn.mk ?_;intro N hN))))
  refine jx (.inl rfl) (by simp only[go_sem, ↓reduceIte,Nat.reduceEqDiff,Nat.reduceAdd,Nat.reduceSub,Nat.reduceLeDiff,reduceCtorEq];rfl) (by simp only[go_sem, ↓reduceIte,Nat.reduceEqDiff,Nat.reduceAdd,Nat.reduceSub,Nat.reduceLeDiff,reduceCtorEq];rfl) ?_
  simp only[eW,bD,cE,eM,Option.map_some,if_neg h]
theorem Fv (cnt:Nat) (hn:cnt<=1048576) (bs:List PB) (ok:nu cnt bs) (pW:bs.length<=1048576) (f:Nat->Int) (hs:Small bs f) (y:Nat) (hy:y<cnt):
  l8 Tryz.prog 239 [.di (fN cnt bs f),.int .i64 y] fun r=>∃out,r=.sl (dS out cnt)/\za cnt bs f y out:=by
 refine l8.body eB rfl fun hl n0=>?_
 clear hl
 (try((repeat(revert hN;revert N;apply Pn.out));refine wk @fN.eq_1 ?_;(repeat(refine Pn.mk ?_;intro N hN))))
 refine aV (fun n env st=>∃k:Nat,n=(cnt)-k/\k<=(cnt)/\env 6=.int .i64 (k:Int)/\(∃o:Id,env 5=.own o 0 k/\st.get o=some ⟨true,1,dS (fun _=>-1) k⟩/\o.bP<st.next)) (cnt) ⟨0,by omega,by omega,sl @fN.eq_1,⟨⟨239001000,n0+1⟩,by(simp only[go_sem, ↓reduceIte,Nat.reduceEqDiff,Nat.reduceAdd,Nat.reduceSub,Nat.reduceLeDiff,reduceCtorEq])<;>rfl,by(simp only[go_sem, ↓reduceIte,Nat.reduceEqDiff,Nat.reduceAdd,Nat.reduceSub,Nat.reduceLeDiff,reduceCtorEq])<;>rfl,by(try dsimp only);omega⟩⟩ ?_
 rintro n_a env_a st_a ⟨k,rfl,ale,a6,lQ⟩ dD
 have a0:=dD 0 (by kernel_rfl);have a1:=dD 1 (by kernel_rfl)
 simp only[go_sem, ↓reduceIte,Nat.reduceEqDiff,Nat.reduceAdd,Nat.reduceSub,Nat.reduceLeDiff,reduceCtorEq,fN]at a0 a1
 clear dD
 obtain⟨o,a5,ag,uF⟩:=lQ
 have tl:=dB (fun _=>-1) k
 have so:=dw uF
 by_cases hk:(k:Int)<(cnt:Int)
 ·have cC:∀{e:Env} {gg:Rows} {nx:Nat},(e 6=.int .i64 (IntKind.i64.wrap ((k:Int)+1)))->(∃o:Id,e 5=.own o 0 (k+1)/\gg o=some ⟨true,1,dS (fun _=>-1) (k+1)⟩/\o.bP<nx)->∃m0,m0<(cnt)-k/\∃k:Nat,m0=(cnt)-k/\k<=(cnt)/\e 6=.int .i64 (k:Int)/\(∃o:Id,e 5=.own o 0 k/\gg o=some ⟨true,1,dS (fun _=>-1) k⟩/\o.bP<nx):=fun x1 x2=>⟨_,by omega,k+1,rfl,by omega,(by rw[x1,az (by omega)]),x2⟩
  have e1:k+1<=16777216:=by omega
  have sQ:dS (fun _=>-1) k++[[.int .i64 (-1)]]=dS (fun _=>-1) (k+1):=(G5 _ _).symm
  (try((repeat(revert hN;revert N;apply Pn.out));refine wk (tw @a6 (tw @a0 (tw @a1 (tw @a5 (tw @ag (tw @so (tw @hk (tw @tl (tw @e1 (tw @sQ @fN.eq_1)))))))))) ?_;(repeat(refine Pn.mk ?_;intro N hN))))
  exact cC (sd (tw @a6 (tw @a0 (tw @a1 @fN.eq_1)))) (⟨⟨239005002,st_a.next+1⟩,sd @Nat.zero_add,sd @sQ,by(try dsimp only);omega⟩)
 have l6:k=cnt:=by omega
 subst l6
 have SL:(y:Int)<(k:Int):=by omega
 have hym:=dK (f:=fun _=>-1) hy
 have Bw:(dS (fun _=>-1) k).set y (bq 0)=dS (fun v=>if v=y then 0 else -1) k:=k6 hy (if_pos rfl) fun i _ hi=>if_neg hi
 rw[bq]at Bw hym
 (try((repeat(revert hN;revert N;apply Pn.out));refine wk (tw @a6 (tw @a0 (tw @a1 (tw @a5 (tw @ag (tw @so (tw @hk (tw @tl (tw @SL (tw @hym (tw @Bw @fN.eq_1))))))))))) ?_;(repeat(refine Pn.mk ?_;intro N hN))))
 refine aV (fun m env st=>∃(i:Nat) (out:Nat->Int) (Q:List Nat) (p:Id),m=k-i/\env 8=.int .i64 (i:Int)/\env 7=.own p 0 Q.length/\st.get p=some ⟨true,1,Q.map eN⟩/\st.get o=some ⟨true,1,dS out k⟩/\o.bP<p.bP/\p.bP<st.next/\Aw k bs f y out Q i/\i<=Q.length) k ⟨0,_,[y],⟨239007001,st_a.next+1+1⟩,by omega,by(simp only[go_sem, ↓reduceIte,Nat.reduceEqDiff,Nat.reduceAdd,Nat.reduceSub,Nat.reduceLeDiff,reduceCtorEq])<;>rfl,by(simp only[go_sem, ↓reduceIte,Nat.reduceEqDiff,Nat.reduceAdd,Nat.reduceSub,Nat.reduceLeDiff,reduceCtorEq])<;>rfl,by(simp only[go_sem, ↓reduceIte,Nat.reduceEqDiff,Nat.reduceAdd,Nat.reduceSub,Nat.reduceLeDiff,reduceCtorEq])<;>rfl,sd @so,by(try dsimp only);omega,by(try dsimp only);omega,Aw.start hy,by simp⟩ ?_
 rintro n env_b st_b ⟨i,out,Q,p,rfl,b8,b7,bgp,bgo,ec,hpn,hB,hiq⟩ fW
 have b0:=fW 0 (by kernel_rfl)
 have b5:=fW 5 (by kernel_rfl)
 simp only[go_sem, ↓reduceIte,Nat.reduceEqDiff,Nat.reduceAdd,Nat.reduceSub,Nat.reduceLeDiff,reduceCtorEq,a6,a0,a1,a5,fN]at b0 b5
 clear fW
 have hql:=hB.len
 have SR:=dB out k
 have hqm:(Q.map eN).length=Q.length:=by simp
 have AF:=dw hpn
 have pP:=dw (i:=o) (n:=st_b.next) (by omega)
 by_cases hi:(i:Int)<(Q.length:Int)
 ·have ft:i<Q.length:=by omega
  have j6:(Q.map eN)[i]? =some (eN Q[i]):=by simp[ft]
  have ML:=hB.lt _ (List.getElem_mem ft)
  obtain⟨vt,On⟩:∃vt,vt=Q[i]:=⟨_,rfl⟩
  rw[<-On]at j6 ML
  have hA:=CU (cnt:=k) (bs:=bs) (m:=bs.length) ML
  have Lo:(vt:Int)<(k:Int):=by omega
  have lD:=rH bs bs.length vt
  have hme:∀x,x<(iV bs bs.length vt).length->(iV bs bs.length vt).getD x 0<bs.length/\Ey bs ((iV bs bs.length vt).getD x 0) vt:=fun x hx=>by
   rw[List.getD_eq_getElem?_getD,List.getElem?_eq_getElem hx]
   exact rI.1 (List.getElem_mem hx)
  have QP:∀e∈iV bs bs.length vt,∃x,x<(iV bs bs.length vt).length/\(iV bs bs.length vt).getD x 0=e:=fun e he=>by
   obtain⟨x,hx,rfl⟩:=List.getElem_of_mem he
   exact⟨x,hx,by rw[List.getD_eq_getElem?_getD,List.getElem?_eq_getElem hx];rfl⟩
  generalize hIn:iV bs bs.length vt=I at *
  unfold OQ at hA
  by_cases K2:I=[]
  ·rw[if_pos K2]at hA
   have hI1:I.length=0:=by rw[K2];rfl
   (try((repeat(revert hN;revert N;apply Pn.out));refine wk (tw @b0 (tw @b5 (tw @b7 (tw @b8 (tw @bgp (tw @hi (tw @j6 (tw @hqm (tw @eN.eq_1 @fN.eq_1))))))))) ?_;(repeat(refine Pn.mk ?_;intro N hN))))
   refine aV (fun n env st=>∃x:Nat,n=(I.length)-x/\x<=(I.length)/\env 10=.int .i64 (x:Int)/\(∃(iN:Nat->Int) (Q':List Nat) (p':Id),env 7=.own p' 0 Q'.length/\st.get p'=some ⟨true,1,Q'.map eN⟩/\st.get o=some ⟨true,1,dS iN k⟩/\o.bP<p'.bP/\p'.bP<st.next/\Aw k bs f y iN Q' i/\(∃h:i<Q'.length,Q'[i]=vt)/\(∀z,z<x->0<fE bs f (I.getD z 0) (bK bs (I.getD z 0) vt)->0<=iN (bK bs (I.getD z 0) vt)))) (I.length) ⟨0,by omega,by omega,sl (tw @b0 (tw @b5 (tw @b8 @fN.eq_1))),⟨out,Q,p,sd @b7,sd @bgp,sd @bgo,ec,by(try dsimp only);omega,hB,⟨ft,On.symm⟩,fun z hz=>by omega⟩⟩ ?_
   rintro n_c env_c st_c ⟨x,rfl,cle,jA,cI0⟩ cfr
   have c0:=cfr 0 (by kernel_rfl);have c5:=cfr 5 (by kernel_rfl);have c8:=cfr 8 (by kernel_rfl);have c9:=cfr 9 (by kernel_rfl)
   simp only[go_sem, ↓reduceIte,Nat.reduceEqDiff,Nat.reduceAdd,Nat.reduceSub,Nat.reduceLeDiff,reduceCtorEq,b0,b5,b8,fN]at c0 c5 c8 c9
   clear cfr
   obtain⟨iN,Q',p',c7,HV,xY,Dn,Oa,dz,⟨xu,qz⟩,Kz⟩:=cI0
   have UA:=dz.len
   have OY:=dB iN k
   have Ob:(Q'.map eN).length=Q'.length:=by simp
   have zH:=dw Oa
   have ml:=dw (i:=o) (n:=st_c.next) (by omega)
   have x1:=cr Dn
   have hx:¬(x:Int)<((0:Nat):Int):=by omega
   have hxe:x=I.length:=by omega
   have hw:IntKind.i64.wrap ((i:Int)+1)=((i+1:Nat):Int):=az (by omega)
   (try((repeat(revert hN;revert N;apply Pn.out));refine wk (tw @jA (tw @c0 (tw @c5 (tw @c8 (tw @c9 (tw @c7 (tw @hx (tw @hA (tw @Lo @fN.eq_1))))))))) ?_;(repeat(refine Pn.mk ?_;intro N hN))))
   refine⟨_,?_,i+1,iN,Q',p',rfl,sd (tw @jA (tw @c0 (tw @c5 (tw @c8 (tw @c9 @hw))))),sd @c7,sd @HV,sd @xY,Dn,by(try dsimp only);omega,dz.next xu fun e he hr=>?_,by omega⟩
   ·omega
   ·rw[qz,hIn]at he
    rw[qz]at hr ⊢
    obtain⟨z,hz,rfl⟩:=QP e he
    exact Kz z (by omega) hr
  ·rw[if_neg K2]at hA
   have qu:(I.map eN).length=I.length:=by simp
   (try((repeat(revert hN;revert N;apply Pn.out));refine wk (tw @b0 (tw @b5 (tw @b7 (tw @b8 (tw @bgp (tw @hi (tw @j6 (tw @hqm (tw @eN.eq_1 @fN.eq_1))))))))) ?_;(repeat(refine Pn.mk ?_;intro N hN))))
   refine aV (fun n env st=>∃x:Nat,n=(I.length)-x/\x<=(I.length)/\env 10=.int .i64 (x:Int)/\(∃(iN:Nat->Int) (Q':List Nat) (p':Id),env 7=.own p' 0 Q'.length/\st.get p'=some ⟨true,1,Q'.map eN⟩/\st.get o=some ⟨true,1,dS iN k⟩/\o.bP<p'.bP/\p'.bP<st.next/\Aw k bs f y iN Q' i/\(∃h:i<Q'.length,Q'[i]=vt)/\(∀z,z<x->0<fE bs f (I.getD z 0) (bK bs (I.getD z 0) vt)->0<=iN (bK bs (I.getD z 0) vt)))) (I.length) ⟨0,by omega,by omega,sl (tw @b0 (tw @b5 (tw @b8 @fN.eq_1))),⟨out,Q,p,sd @b7,sd @bgp,sd @bgo,ec,by(try dsimp only);omega,hB,⟨ft,On.symm⟩,fun z hz=>by omega⟩⟩ ?_
   rintro n_c env_c st_c ⟨x,rfl,cle,jA,cI0⟩ cfr
   have c0:=cfr 0 (by kernel_rfl);have c5:=cfr 5 (by kernel_rfl);have c8:=cfr 8 (by kernel_rfl);have c9:=cfr 9 (by kernel_rfl)
   simp only[go_sem, ↓reduceIte,Nat.reduceEqDiff,Nat.reduceAdd,Nat.reduceSub,Nat.reduceLeDiff,reduceCtorEq,b0,b5,b8,fN]at c0 c5 c8 c9
   clear cfr
   obtain⟨iN,Q',p',c7,HV,xY,Dn,Oa,dz,⟨xu,qz⟩,Kz⟩:=cI0
   have UA:=dz.len
   have OY:=dB iN k
   have Ob:(Q'.map eN).length=Q'.length:=by simp
   have zH:=dw Oa
   have ml:=dw (i:=o) (n:=st_c.next) (by omega)
   have x1:=cr Dn
   by_cases hx:(x:Int)<(I.length:Int)
   ·have ig:∀{e:Env} {gg:Rows} {nx:Nat},(e 10=.int .i64 (IntKind.i64.wrap ((x:Int)+1)))->(∃(iN:Nat->Int) (Q':List Nat) (p':Id),e 7=.own p' 0 Q'.length/\gg p'=some ⟨true,1,Q'.map eN⟩/\gg o=some ⟨true,1,dS iN k⟩/\o.bP<p'.bP/\p'.bP<nx/\Aw k bs f y iN Q' i/\(∃h:i<Q'.length,Q'[i]=vt)/\(∀z,z<(x+1)->0<fE bs f (I.getD z 0) (bK bs (I.getD z 0) vt)->0<=iN (bK bs (I.getD z 0) vt)))->∃m0,m0<(I.length)-x/\∃x:Nat,m0=(I.length)-x/\x<=(I.length)/\e 10=.int .i64 (x:Int)/\(∃(iN:Nat->Int) (Q':List Nat) (p':Id),e 7=.own p' 0 Q'.length/\gg p'=some ⟨true,1,Q'.map eN⟩/\gg o=some ⟨true,1,dS iN k⟩/\o.bP<p'.bP/\p'.bP<nx/\Aw k bs f y iN Q' i/\(∃h:i<Q'.length,Q'[i]=vt)/\(∀z,z<x->0<fE bs f (I.getD z 0) (bK bs (I.getD z 0) vt)->0<=iN (bK bs (I.getD z 0) vt))):=fun x1 x2=>⟨_,by omega,x+1,rfl,by omega,(by rw[x1,az (by omega)]),x2⟩
    have PQ:x<I.length:=by omega
    have NG:(I.map eN)[x]? =some (eN (I.getD x 0)):=getD_map eN PQ
    obtain⟨he,pO⟩:=hme x PQ
    obtain⟨e,Sm⟩:∃e,e=I.getD x 0:=⟨_,rfl⟩
    rw[<-Sm]at NG he pO
    have iK:=ur he
    have hq:=oR ok (v:=vt) he
    have SA:=oU ok he pO
    have Of:=JG k bs f hs e (bK bs e vt) he
    have QC:=ok e he
    have nU:IntKind.i64.wrap (((cw bs e).a:Int)+((cw bs e).b:Int))=((cw bs e).a:Int)+((cw bs e).b:Int):=bt (by omega)
    have pQ:IntKind.i64.wrap (((cw bs e).a:Int)+((cw bs e).b:Int)-(vt:Int))=(bK bs e vt:Int):=by
     rw[bt (by omega)]
     unfold bK
     rcases pO with h1|h1
     ·rw[if_pos h1];omega
     ·rw[if_neg fun h2=>QC.2.2 (h2.trans h1.symm)];omega
    have PI:(bK bs e vt:Int)<(k:Int):=by omega
    have NX:=dK (f:=iN) hq
    have K6:=dK (f:=iN) ML
    rw[fN]at Of
    have lf:=dz.up i xu
    rw[qz]at lf
    have kh:=dz.lo vt ML
    have IS:IntKind.i64.wrap (iN vt+1)=iN vt+1:=bt (by omega)
    rw[bq]at NX K6
    generalize xd:cw bs e=b at *
    by_cases j7:iN (bK bs e vt)<0
    ·by_cases fS:0<fE bs f e (bK bs e vt)
     ·have hV:=dz.visit ok xu (e:=e) he (by rw[qz];exact pO) (by rw[qz];exact j7) (by rw[qz];exact fS)
      rw[qz]at hV
      have eC:(dS iN k).set (bK bs e vt) (bq (iN vt+1))=dS (fun v=>if v=bK bs e vt then iN vt+1 else iN v) k:=k6 hq (if_pos rfl) fun v _ hv=>if_neg hv
      rw[bq]at eC
      have e1:Q'.length+1<=16777216:=by omega
      (repeat(first|((repeat(revert hN;revert N;apply Pn.out));refine wk (tw @jA (tw @c0 (tw @c5 (tw @c8 (tw @c9 (tw @c7 (tw @HV (tw @xY (tw @hx (tw @hA (tw @qu (tw @NG (tw @Lo (tw @iK (tw @nU (tw @pQ (tw @PI (tw @NX (tw @K6 (tw @j7 (tw @fS (tw @IS (tw @eC (tw @Ob (tw @OY (tw @zH (tw @ml (tw @x1 (tw @e1 (tw @eN.eq_1 (tw @ay.eq_1 @fN.eq_1))))))))))))))))))))))))))))))) ?_;(repeat(refine Pn.mk ?_;intro N hN)))|((try apply Or.inl);refine⟨_,aq.x (Of) (sd (tw @jA (tw @c0 (tw @c5 (tw @c8 (tw @c9 (tw @c7 (tw @HV (tw @xY (tw @hx (tw @hA (tw @qu (tw @NG (tw @Lo (tw @iK (tw @nU (tw @pQ (tw @PI (tw @NX (tw @K6 (tw @j7 (tw @fS (tw @IS (tw @eC (tw @Ob (tw @OY (tw @zH (tw @ml (tw @x1 (tw @e1 (tw @eN.eq_1 (tw @ay.eq_1 @fN.eq_1)))))))))))))))))))))))))))))))),?_⟩;refine hN _ _ ?_;clear hN N)))
      exact ig (sd (tw @jA (tw @c0 (tw @c5 (tw @c8 @c9))))) (⟨_,Q'++[bK bs e vt],⟨239020003,st_c.next+1+1+1+1+1+1⟩,by rw[List.length_append];simp only[go_sem, ↓reduceIte,Nat.reduceEqDiff,Nat.reduceAdd,Nat.reduceSub,Nat.reduceLeDiff,reduceCtorEq,List.length_cons,List.length_nil],by rw[List.map_append,List.map_cons,List.map_nil];simp only[go_sem, ↓reduceIte,Nat.reduceEqDiff,Nat.reduceAdd,Nat.reduceSub,Nat.reduceLeDiff,reduceCtorEq,eN],sd (tw @ml @x1),by(try dsimp only);omega,by(try dsimp only);omega,hV,⟨by simp;omega,by rw[List.getElem_append_left xu];exact qz⟩,fun z hz hr=>by
       by_cases Re:z=x
       ·subst Re
        rw[<-Sm,if_pos rfl]
        have:=(dz.iff vt ML).2 (by rw[<-qz];exact List.getElem_mem xu)
        omega
       ·have:=Kz z (by omega) hr
        split
        ·have:=(dz.iff vt ML).2 (by rw[<-qz];exact List.getElem_mem xu)
         omega
        ·exact this⟩)
     ·(repeat(first|((repeat(revert hN;revert N;apply Pn.out));refine wk (tw @jA (tw @c0 (tw @c5 (tw @c8 (tw @c9 (tw @c7 (tw @HV (tw @xY (tw @hx (tw @hA (tw @qu (tw @NG (tw @Lo (tw @iK (tw @nU (tw @pQ (tw @PI (tw @NX (tw @j7 (tw @fS (tw @OY (tw @zH (tw @ml (tw @x1 (tw @eN.eq_1 (tw @ay.eq_1 @fN.eq_1)))))))))))))))))))))))))) ?_;(repeat(refine Pn.mk ?_;intro N hN)))|((try apply Or.inl);refine⟨_,aq.x (Of) (sd (tw @jA (tw @c0 (tw @c5 (tw @c8 (tw @c9 (tw @c7 (tw @HV (tw @xY (tw @hx (tw @hA (tw @qu (tw @NG (tw @Lo (tw @iK (tw @nU (tw @pQ (tw @PI (tw @NX (tw @j7 (tw @fS (tw @OY (tw @zH (tw @ml (tw @x1 (tw @eN.eq_1 (tw @ay.eq_1 @fN.eq_1))))))))))))))))))))))))))),?_⟩;refine hN _ _ ?_;clear hN N)))
      exact ig (sd (tw @jA (tw @c0 (tw @c5 (tw @c8 @c9))))) (⟨iN,Q',p',sd @c7,sd (tw @HV @zH),sd (tw @xY @ml),Dn,by(try dsimp only);omega,dz,⟨xu,qz⟩,fun z hz hr=>by
       by_cases Re:z=x
       ·subst Re;rw[<-Sm]at hr;exact absurd hr fS
       ·exact Kz z (by omega) hr⟩)
    ·(repeat(first|((repeat(revert hN;revert N;apply Pn.out));refine wk (tw @jA (tw @c0 (tw @c5 (tw @c8 (tw @c9 (tw @c7 (tw @HV (tw @xY (tw @hx (tw @hA (tw @qu (tw @NG (tw @Lo (tw @iK (tw @nU (tw @pQ (tw @PI (tw @NX (tw @j7 (tw @OY (tw @zH (tw @ml (tw @x1 (tw @eN.eq_1 (tw @ay.eq_1 @fN.eq_1))))))))))))))))))))))))) ?_;(repeat(refine Pn.mk ?_;intro N hN)))|((try apply Or.inl);refine⟨_,aq.x (Of) (sd (tw @jA (tw @c0 (tw @c5 (tw @c8 (tw @c9 (tw @c7 (tw @HV (tw @xY (tw @hx (tw @hA (tw @qu (tw @NG (tw @Lo (tw @iK (tw @nU (tw @pQ (tw @PI (tw @NX (tw @j7 (tw @OY (tw @zH (tw @ml (tw @x1 (tw @eN.eq_1 (tw @ay.eq_1 @fN.eq_1)))))))))))))))))))))))))),?_⟩;refine hN _ _ ?_;clear hN N)))
     exact ig (sd (tw @jA (tw @c0 (tw @c5 (tw @c8 @c9))))) (⟨iN,Q',p',sd @c7,sd (tw @HV @zH),sd (tw @xY @ml),Dn,by(try dsimp only);omega,dz,⟨xu,qz⟩,fun z hz hr=>by
      by_cases Re:z=x
      ·subst Re;rw[<-Sm];omega
      ·exact Kz z (by omega) hr⟩)
   ·have hxe:x=I.length:=by omega
    have hw:IntKind.i64.wrap ((i:Int)+1)=((i+1:Nat):Int):=az (by omega)
    (try((repeat(revert hN;revert N;apply Pn.out));refine wk (tw @jA (tw @c0 (tw @c5 (tw @c8 (tw @c9 (tw @c7 (tw @hx (tw @hA (tw @qu (tw @Lo @fN.eq_1)))))))))) ?_;(repeat(refine Pn.mk ?_;intro N hN))))
    refine⟨_,?_,i+1,iN,Q',p',rfl,sd (tw @jA (tw @c0 (tw @c5 (tw @c8 (tw @c9 @hw))))),sd @c7,sd @HV,sd @xY,Dn,by(try dsimp only);omega,dz.next xu fun e he hr=>?_,by omega⟩
    ·omega
    ·rw[qz,hIn]at he
     rw[qz]at hr ⊢
     obtain⟨z,hz,rfl⟩:=QP e he
     exact Kz z (by omega) hr
 ·(try((repeat(revert hN;revert N;apply Pn.out));refine wk (tw @b0 (tw @b5 (tw @b7 (tw @b8 (tw @hi @fN.eq_1))))) ?_;(repeat(refine Pn.mk ?_;intro N hN))))
  have sM:gu st_b.get 6 (.own o 0 k)=some (.sl (dS out k)):=uz bgo (by rw[SR];omega) (by rw[List.drop_zero,List.take_of_length_le (by rw[SR];omega)];exact JW)
  exact⟨_,rfl,_,by simp only[go_sem, ↓reduceIte,Nat.reduceEqDiff,Nat.reduceAdd,Nat.reduceSub,Nat.reduceLeDiff,reduceCtorEq,fe];exact sM,out,rfl,hB.done ok (by omega)⟩
end Go.Proofs.YtgoelphibofcmaaGreat.V

namespace Go.Proofs.YtgoelphibofcmaaGreat.V
open Go.RowKit
attribute [local irreducible] dI wpOps gD Call
attribute [local go_sem] aM fM eP gp gm cN upd cD K.av cR AV.cells AV.cell rowOf rowsOf part ld rowAt bz cu dG ef ik bQ dh eA gj e9 dq ek dd dc dU dV bW bf cW bV cY cX ei eo ej cV ck de eh bU aT da cG ij bx cQ b4 aY dn bc dH AV.undef bF bI eb ee dP dM cJ ez eE cF er ep cZ db List.getD_cons_zero List.getD_cons_succ List.getD_nil List.all_cons List.all_nil Bool.and_true Bool.true_and Bool.and_self Bool.not_true Bool.not_false Option.map_some Option.map_none Option.bind_some Option.bind_none List.length_cons List.length_nil List.take_succ_cons List.take_zero List.take_nil List.drop_succ_cons List.drop_zero List.drop_nil List.head?_cons List.map_cons List.map_nil List.getElem?_cons_zero List.getElem?_cons_succ List.cons_append List.nil_append List.append_nil List.length_map List.set_cons_zero List.set_cons_succ eq_self Int.toNat_natCast Int.natCast_nonneg and_self true_and and_true decide_true decide_false Bool.false_eq_true Nat.zero_add Nat.add_zero List.contains_cons List.contains_nil Bool.or_false Bool.false_or beq_self_eq_true ne_eq not_true_eq_false not_false_eq_true Id.mk.injEq false_and and_false Nat.le_refl List.length_append beq_true beq_false Bool.not_eq_eq_eq_not or_false false_or dO ai aj aH bp bE cz aX bl aW bj cU bH
def Pp:Cy (List Nat):=fun g cs x ids=>(x=[]/\cs=[.cq]/\ids=[])∨∃id,cs=[.own id 0 x.length]/\0<x.length/\g id=some ⟨true,1,x.map eN⟩/\ids=[id]
theorem MT:xh Pp 1 where
 frame:=fun h hf=>by
  rcases h with h|⟨id,h1,h0,h2,h3⟩
  ·exact .inl h
  ·subst h3;exact .inr ⟨id,h1,h0,(hf id (by simp)).trans h2,rfl⟩
 len:=fun h=>by rcases h with⟨_,h,_⟩|⟨id,h,_⟩<;>subst h<;>rfl
 cell:=fun h=>by rcases h with⟨_,h,_⟩|⟨id,h,_⟩<;>subst h<;>rfl
 live:=fun h i hi=>by
  rcases h with⟨_,_,h⟩|⟨id,h1,h0,h2,h3⟩
  ·subst h;cases hi
  ·subst h3
   have:i=id:=by simpa using hi
   subst this
   exact⟨_,h2,rfl,by simp[rN]⟩
 small:=by simp[rN]
theorem Oz {g:Rows} {rows:List (List AV)} {xs:List (List Nat)} {ids:List Id} (n:Nat) (h:eH Pp g rows xs ids):dZ (dO g) (n+2) rows=some (xs.map fun l=>[OQ l]):=
 h.fz (fun {cs x ids} h=>by
  rcases h with⟨h0,h1,_⟩|⟨id,h1,h0,h2,_⟩
  ·subst h0 h1;rw[ai,aj,aX];rfl
  ·have gW:x≠[]:=by rintro rfl;simp at h0
   subst h1
   rw[ai,aj,gP (e:=eN) (sz:=1) (by simp[dO,h2]) rfl fun a=>fzN _ n a]
   simp[OQ,gW])
theorem eH.Rs {α:Type} {R:Cy α} {sz:Nat} {g:Rows} {rows:List (List AV)} {xs:List α} {ids:List Id} (ok:xh R sz) (h:eH R g rows xs ids) (mi:ids.Nodup) (k:Nat) (hk:k<xs.length):
  ∃cs ic,rows[k]? =some cs/\R g cs xs[k] ic/\(∀i∈ic,i∈ids)/\∀(g':Rows) pV x' PS,R g' pV x' PS->(∀i∈ids,i∉ic->g' i=g i)->PS.Nodup->(∀i∈PS,i∉ids)->∃Dv,eH R g' (rows.set k pV) (xs.set k x') Dv/\Dv.Nodup/\∀i∈Dv,i∈PS∨i∈ids:=by
 obtain⟨r1,cs,r2,i1,ic,i2,rfl,rfl,rfl,h3,h4,h5⟩:=h.split k hk
 obtain⟨n1,n2,n3⟩:=List.nodup_append.1 mi
 obtain⟨nc,n5,n4⟩:=List.nodup_append.1 n2
 refine⟨cs,ic,by simp,h4,fun i hi=>by simp[hi],fun g' pV x' PS hR hf hn' ki=>⟨i1++(PS++i2),?_,?_,fun i hi=>?_⟩⟩
 ·have e:xs.set r1.length x'=xs.take r1.length++x'::xs.drop (r1.length+1):=by rw[List.set_eq_take_append_cons_drop,if_pos hk]
  have e2:(r1++cs::r2).set r1.length pV=r1++pV::r2:=by simp
  rw[e,e2]
  refine(h3.frame ok fun i hi=>hf i (by simp[hi]) fun hc=>n3 i hi i (by simp[hc]) rfl).app (.cons hR (h5.frame ok fun i hi=>hf i (by simp[hi]) fun hc=>n4 i hc i hi rfl))
 ·rw[List.nodup_append,List.nodup_append]
  refine⟨n1,⟨hn',n5,fun x hx y hy he=>?_⟩,fun x hx y hy he=>?_⟩
  ·subst he;exact ki x hx (by simp[hy])
  ·subst he
   rcases List.mem_append.1 hy with hy|hy
   ·exact ki x hy (by simp[hx])
   ·exact n3 x hx x (by simp[hy]) rfl
 ·rcases List.mem_append.1 hi with hi|hi
  ·exact .inr (by simp[hi])
  ·rcases List.mem_append.1 hi with hi|hi
   ·exact .inl hi
   ·exact .inr (by simp[hi])
def qP (A:Id) (lo:Nat) (L:List (List Nat)) (g:Rows) (nx:Nat):Prop:=∃rows ids,g A=some ⟨true,1,rows⟩/\eH Pp g rows L ids/\ids.Nodup/\∀i∈ids,lo<i.bP/\i.bP<nx
def bw (cnt:Nat) (bs:List PB) (A F:Id):List AV:=[.int .i64 cnt,.sl (bs.map ay),.own A 0 cnt,.own F 0 bs.length]
def ll (cnt:Nat) (bs:List PB) (m:Nat):List (List Nat):=(List.range cnt).map fun v=>iV bs m v
theorem ju (cnt:Nat) (bs:List PB) (m:Nat):(ll cnt bs m).length=cnt:=by simp[ll]
structure oe (cnt:Nat) (bs:List PB) (f:Nat->Int) (X A F:Id) (g:Rows) (nx:Nat):Prop where
 x:g X=some ⟨true,4,[bw cnt bs A F]⟩
 a:qP A F.bP (ll cnt bs bs.length) g nx
 f:g F=some ⟨true,1,dS f bs.length⟩
 xa:X.bP<A.bP
 af:A.bP<F.bP
 fn:F.bP<nx
theorem qP.fz {A:Id} {lo cnt:Nat} {bs:List PB} {m nx n:Nat} {g:Rows} (h:qP A lo (ll cnt bs m) g nx):V.fz (dO g) (n+3) (.own A 0 cnt)=some (.sl (qc cnt bs m)):=by
 obtain⟨rows,ids,h1,h2,_,_⟩:=h
 have hl:=h2.len
 rw[ju]at hl
 rw[iw]
 simp only[dO,h1,Option.map_some,if_true]
 rw[if_pos (by omega),List.drop_zero,List.take_of_length_le (by omega)]
 have:=Oz n h2
 rw[this]
 simp[ll,qc]
theorem oe.fz {cnt:Nat} {bs:List PB} {f:Nat->Int} {X A F:Id} {g:Rows} {nx:Nat} (h:oe cnt bs f X A F g nx):V.fz (dO g) 6 (.ptr X 0 0)=some (.di (fN cnt bs f)):=by
 have hF:dO g F=some ⟨true,1,dS f bs.length⟩:=by simp[dO,h.f]
 have hX:dO g X=some ⟨true,4,[bw cnt bs A F]⟩:=by simp[dO,h.x]
 have hf:V.fz (dO g) 5 (.own F 0 bs.length)=some (.sl (dS f bs.length)):=by
  rw[iw]
  simp only[hF,if_true]
  rw[if_pos (by rw[dB];omega),List.drop_zero,List.take_of_length_le (by rw[dB];omega),Ak];rfl
 have ha:=h.a.fz (n:=2)
 rw[bj]
 simp only[hX,if_true,List.getElem?_cons_zero,List.drop_zero,bw,ai,aj,aH,cz,ha,hf,Option.map_some,fN]
theorem Gi (cnt:Nat) (bs:List PB):ll cnt bs 0=List.replicate cnt []:=by
 refine List.ext_getElem? fun i=>?_
 simp only[ll,List.getElem?_map,List.getElem?_replicate]
 by_cases h:i<cnt
 ·rw[List.getElem?_range h,if_pos h];rfl
 ·rw[List.getElem?_eq_none (by simpa using h),if_neg h];rfl
theorem yV (g:Rows):∀n:Nat,eH Pp g (List.replicate n [.cq]) (List.replicate n []) []
 |0=>.nil
 |n+1=>.cons (i1:=[]) (.inl ⟨rfl,rfl,rfl⟩) (yV g n)
def xE (cnt:Nat) (bs:List PB) (m:Nat):List (List Nat):=(ll cnt bs m).set (cw bs m).a (iV bs m (cw bs m).a++[m])
theorem BD {cnt:Nat} {bs:List PB} {m v:Nat} (hv:v<cnt) (gW:(cw bs m).a≠v):(xE cnt bs m)[v]? =some (iV bs m v):=by
 unfold xE
 rw[List.getElem?_set_ne gW]
 simp[ll,hv]
theorem Gh {cnt:Nat} {bs:List PB} {m:Nat} (ha:(cw bs m).a<cnt) (hb:(cw bs m).b<cnt) (gW:(cw bs m).a≠(cw bs m).b):(xE cnt bs m).set (cw bs m).b (iV bs m (cw bs m).b++[m])=ll cnt bs (m+1):=by
 refine List.ext_getElem? fun i=>?_
 by_cases hi:i<cnt
 ·have hr:(ll cnt bs (m+1))[i]? =some (iV bs (m+1) i):=by simp[ll,hi]
  rw[hr,Gj]
  by_cases h1:(cw bs m).b=i
  ·rw[List.getElem?_set,if_pos h1,if_pos (by simp[xE,ju];omega),if_pos (.inr h1),h1]
  ·rw[List.getElem?_set_ne h1]
   by_cases h2:(cw bs m).a=i
   ·unfold xE
    rw[List.getElem?_set,if_pos h2,if_pos (by rw[ju];omega),if_pos (.inl h2),h2]
   ·rw[BD hi h2,if_neg (fun h=>h.elim h2 h1),List.append_nil]
 ·rw[List.getElem?_eq_none (by simp[xE,ju];omega),List.getElem?_eq_none (by rw[ju];omega)]
theorem kK {α:Type} {l:List α} {k:Nat} {x:α} (h:l[k]? =some x) (hk:k<l.length):l[k]=x:=by
 rw[List.getElem?_eq_getElem hk]at h;exact Option.some.inj h
theorem Fj {A K:Id} {lo Ro nx k j:Nat} {L:List (List Nat)} {La:List Nat} {g:Rows} {rows:List (List AV)} {ids:List Id} (hR:eH Pp g rows L ids) (mi:ids.Nodup) (nS:∀i∈ids,lo<i.bP/\i.bP<Ro) (hA:A.bP<=lo) (hL:L[k]? =some La) (hK1:Ro<=K.bP) (NQ:K.bP<nx) (kh:lo<Ro):
  ∃cs,rows[k]? =some cs/\((La=[]/\cs=[.cq])∨∃id:Id,cs=[.own id 0 La.length]/\0<La.length/\g id=some ⟨true,1,La.map eN⟩/\id.bP<Ro/\lo<id.bP)/\
   ∀g':Rows,g' A=some ⟨true,1,rows.set k [.own K 0 (La.length+1)]⟩->g' K=some ⟨true,1,La.map eN++[[.int .i64 j]]⟩->(∀i:Id,i.bP<Ro->(i=A)=False->(∀id,cs=[.own id 0 La.length]->(i=id)=False)->g' i=g i)->qP A lo (L.set k (La++[j])) g' nx:=by
 have hk:k<L.length:=(List.getElem?_eq_some_iff.1 hL).1
 have TA:=kK hL hk
 obtain⟨cs,ic,dt,Px,QJ,vY⟩:=hR.Rs MT mi k hk
 rw[TA]at Px
 refine⟨cs,dt,?_,fun g' h1 h2 h3=>?_⟩
 ·rcases Px with⟨h1,h2,_⟩|⟨id,h1,h2,h3,h4⟩
  ·exact .inl ⟨h1,h2⟩
  ·subst h4
   have:=nS id (QJ id (by simp))
   exact .inr ⟨id,h1,h2,h3,this.2,this.1⟩
 ·obtain⟨Dv,q1,q2,q3⟩:=vY g' [.own K 0 (La.length+1)] (La++[j]) [K] (.inr ⟨K,by simp,by simp,by rw[h2];simp[eN],rfl⟩) (fun i hi Sz=>by
   refine h3 i (nS i hi).2 ?_ fun id hid=>?_
   ·simp only[eq_iff_iff,iff_false];rintro rfl;have:=nS _ hi;omega
   ·simp only[eq_iff_iff,iff_false]
    rintro rfl
    rcases Px with⟨_,h4,_⟩|⟨jW,h4,_,_,h5⟩
    ·rw[hid]at h4;cases h4
    ·rw[hid]at h4
     simp only[List.cons.injEq,AV.own.injEq,and_true]at h4
     rw[h5,h4]at Sz
     exact Sz (by simp)) (by simp) fun i hi hc=>by
   rw[List.mem_singleton.1 hi]at hc;have:=nS _ hc;omega
  refine⟨_,Dv,h1,q1,q2,fun i hi=>?_⟩
  rcases q3 i hi with h|h
  ·rw[List.mem_singleton.1 h];omega
  ·have:=nS i h;omega
theorem Me {P:Program} {Q:Ex->Env->ar->Prop} {c:VC} {env:Env} {σ:ar} (I:Env->ar->Prop) (h2:∀e s,I e s->Q .normal e s) (h1:∀N':Env->ar->Prop,(∀e s,I e s->N' e s)->dI (Call P) c (dn N' Q) env σ):dI (Call P) c Q env σ:=by
 refine jz (fun _ _ _ _ h=>h) aJ c _ _ env σ (fun x e s h=>?_) (h1 I fun _ _ h=>h)
 cases x with
 |normal=>exact h2 e s h
 |exit id=>exact h
 |ret=>exact h
end Go.Proofs.YtgoelphibofcmaaGreat.V

namespace Go.Proofs.YtgoelphibofcmaaGreat.V
open Go.RowKit
attribute [local irreducible] dI wpOps gD Call
attribute [local go_sem] aM fM eP gp gm cN upd cD K.av cR AV.cells AV.cell rowOf rowsOf part ld rowAt bz cu dG ef ik bQ dh eA gj e9 dq ek dd dc dU dV bW bf cW bV cY cX ei eo ej cV ck de eh bU aT da cG ij bx cQ b4 aY dn bc dH AV.undef bF bI eb ee dP dM cJ ez eE cF er ep cZ db List.getD_cons_zero List.getD_cons_succ List.getD_nil List.all_cons List.all_nil Bool.and_true Bool.true_and Bool.and_self Bool.not_true Bool.not_false Option.map_some Option.map_none Option.bind_some Option.bind_none List.length_cons List.length_nil List.take_succ_cons List.take_zero List.take_nil List.drop_succ_cons List.drop_zero List.drop_nil List.head?_cons List.map_cons List.map_nil List.getElem?_cons_zero List.getElem?_cons_succ List.cons_append List.nil_append List.append_nil List.length_map List.set_cons_zero List.set_cons_succ Nat.reduceMul eq_self Int.toNat_natCast Int.natCast_nonneg and_self true_and and_true decide_true decide_false Bool.false_eq_true Nat.zero_add Nat.add_zero List.contains_cons List.contains_nil Bool.or_false Bool.false_or beq_self_eq_true Nat.reduceBEq ne_eq not_true_eq_false not_false_eq_true Id.mk.injEq false_and and_false Nat.reduceLT Int.reduceLE Int.reduceLT Int.reduceToNat Int.reduceNeg Int.reduceAdd Nat.le_refl List.length_append beq_true beq_false Bool.not_eq_eq_eq_not or_false false_or dO ai aj aH bp bE cz aX bl aW bj cU bH
theorem I3 (cnt:Nat) (hn:cnt<=1048576) (bs:List PB) (ok:nu cnt bs) (pW:bs.length<=1048576) (σ:ar):
  Call Tryz.prog 237 [.int .i64 cnt,.sl (bs.map ay)] σ fun r σ'=>∃X A F,r=.ptr X 0 0/\σ.next<=X.bP/\oe cnt bs (fun _=>0) X A F σ'.get σ'.next:=by
 refine Hv Np rfl fun hl=>?_
 try simp only[q]
 clear hl
 have jJ:(0:Int)<=(cnt:Int):=by omega
 have pZ:(cnt:Int)<=((16777216:Nat):Int):=by omega
 have Qq:(0:Int)<=(bs.length:Int):=by omega
 have Ko:(bs.length:Int)<=((16777216:Nat):Int):=by omega
 have hz:List.replicate bs.length [AV.int .i64 0]=dS (fun _=>0) bs.length:=by
  refine List.ext_getElem? fun i=>?_
  by_cases h:i<bs.length
  ·rw[dK h,List.getElem?_replicate,if_pos h];rfl
  ·rw[List.getElem?_eq_none (by simp;omega),List.getElem?_eq_none (by rw[dB];omega)]
 (try((repeat(revert hN;revert N;apply Pn.out));refine wk (tw @jJ (tw @pZ (tw @Qq (tw @Ko (tw @Int.le_refl @hz))))) ?_;(repeat(refine Pn.mk ?_;intro N hN))))
 obtain⟨X,hX⟩:∃X:Id,X=⟨237001003,σ.next+1⟩:=⟨_,rfl⟩
 obtain⟨A,hA⟩:∃X:Id,X=⟨237002002,σ.next+1+1⟩:=⟨_,rfl⟩
 obtain⟨F,hF⟩:∃X:Id,X=⟨237003003,σ.next+1+1+1⟩:=⟨_,rfl⟩
 have hXA:X.bP<A.bP:=by rw[hX,hA];(try dsimp only);omega
 have hAF:A.bP<F.bP:=by rw[hA,hF];(try dsimp only);omega
 have hXs:σ.next<=X.bP:=by rw[hX];(try dsimp only);omega
 refine aV (fun n env st=>∃j:Nat,n=(bs.length)-j/\j<=(bs.length)/\env 6=.int .i64 (j:Int)/\env 5=(.ptr X 0 0)/\st.get X=some ⟨true,4,[bw cnt bs A F]⟩/\st.get F=some ⟨true,1,dS (fun _=>0) bs.length⟩/\(qP A F.bP (ll cnt bs j) st.get st.next/\F.bP<st.next)) (bs.length) ⟨0,by omega,by omega,by(try simp only[go_sem, ↓reduceIte,Nat.reduceEqDiff,Nat.reduceAdd,Nat.reduceSub,Nat.reduceLeDiff,reduceCtorEq,hX,hF,hA,bw,hz]);try rfl,by(try simp only[go_sem, ↓reduceIte,Nat.reduceEqDiff,Nat.reduceAdd,Nat.reduceSub,Nat.reduceLeDiff,reduceCtorEq,hX,hF,hA,bw,hz]);try rfl,by(try simp only[go_sem, ↓reduceIte,Nat.reduceEqDiff,Nat.reduceAdd,Nat.reduceSub,Nat.reduceLeDiff,reduceCtorEq,hX,hF,hA,bw,hz]);try rfl,by(try simp only[go_sem, ↓reduceIte,Nat.reduceEqDiff,Nat.reduceAdd,Nat.reduceSub,Nat.reduceLeDiff,reduceCtorEq,hX,hF,hA,bw,hz]);try rfl,⟨⟨List.replicate cnt [.cq],[],by rw[hA];(simp only[go_sem, ↓reduceIte,Nat.reduceEqDiff,Nat.reduceAdd,Nat.reduceSub,Nat.reduceLeDiff,reduceCtorEq])<;>rfl,by rw[Gi];exact yV _ _,List.nodup_nil,fun i hi=>by cases hi⟩,by rw[hF];(try dsimp only);omega⟩⟩ ?_
 rintro n_a env_a st_a ⟨j,rfl,ale,a6,a5,ag0,ag1,lQ⟩ dD
 have a0:=dD 0 (by kernel_rfl);have a1:=dD 1 (by kernel_rfl)
 simp only[go_sem, ↓reduceIte,Nat.reduceEqDiff,Nat.reduceAdd,Nat.reduceSub,Nat.reduceLeDiff,reduceCtorEq,hX,hF,hA,bw,hz]at a0 a1
 clear dD
 obtain⟨⟨rows,ids,ag,hR,mi,nS⟩,hFn⟩:=lQ
 have x1:=cr hXA
 have x2:=cr hAF
 have x3:=cr (a:=X) (b:=F) (by omega)
 have vX:=dw (i:=X) (n:=st_a.next) (by omega)
 have vA:=dw (i:=A) (n:=st_a.next) (by omega)
 have vF:=dw (i:=F) (n:=st_a.next) (by omega)
 by_cases hj:(j:Int)<(bs.length:Int)
 ·have cC:∀{e:Env} {gg:Rows} {nx:Nat},(e 6=.int .i64 (IntKind.i64.wrap ((j:Int)+1)))->(e 5=(.ptr X 0 0))->(gg X=some ⟨true,4,[bw cnt bs A F]⟩)->(gg F=some ⟨true,1,dS (fun _=>0) bs.length⟩)->(qP A F.bP (ll cnt bs (j+1)) gg nx/\F.bP<nx)->∃m0,m0<(bs.length)-j/\∃j:Nat,m0=(bs.length)-j/\j<=(bs.length)/\e 6=.int .i64 (j:Int)/\e 5=(.ptr X 0 0)/\gg X=some ⟨true,4,[bw cnt bs A F]⟩/\gg F=some ⟨true,1,dS (fun _=>0) bs.length⟩/\(qP A F.bP (ll cnt bs j) gg nx/\F.bP<nx):=fun x1 x2 x3 x4 x5=>⟨_,by omega,j+1,rfl,by omega,(by rw[x1,az (by omega)]),x2,x3,x4,x5⟩
  have iO:j<bs.length:=by omega
  have iK:=ur iO
  obtain⟨ha1,Qr,gW⟩:=ok j iO
  have gI:((cw bs j).a:Int)<(cnt:Int):=by omega
  have fP:((cw bs j).b:Int)<(cnt:Int):=by omega
  have qx:=Gh (m:=j) ha1 Qr gW
  have e1:=rH bs j (cw bs j).a
  have e2:=rH bs j (cw bs j).b
  have QH:(xE cnt bs j)[(cw bs j).b]? =some (iV bs j (cw bs j).b):=BD Qr gW
  have QG:(ll cnt bs j)[(cw bs j).a]? =some (iV bs j (cw bs j).a):=by simp[ll,ha1]
  have Tl:xE cnt bs j=(ll cnt bs j).set (cw bs j).a (iV bs j (cw bs j).a++[j]):=rfl
  have Sd:(xE cnt bs j).length=cnt:=by rw[Tl,List.length_set,ju]
  have ji:=hR.len
  rw[ju]at ji
  obtain⟨cs7,js,Iq,IF⟩:=Fj (A:=A) (K:=⟨237007022,st_a.next+1⟩) (nx:=st_a.next+1+1) (j:=j) hR mi nS (by omega) QG (by(try dsimp only);omega) (by(try dsimp only);omega) hFn
  rw[<-Tl]at IF
  obtain⟨c7,rfl⟩:∃c,cs7=[c]:=by
   rcases Iq with⟨_,h⟩|⟨id,h,_⟩<;>exact⟨_,h⟩
  generalize iV bs j (cw bs j).a=La at *
  generalize iV bs j (cw bs j).b=Lb at *
  generalize cw bs j=b at *
  generalize xE cnt bs j=LA at *
  clear Tl
  (try((repeat(revert hN;revert N;apply Pn.out));refine wk (tw @a6 (tw @a5 (tw @ag0 (tw @ag1 (tw @a0 (tw @a1 (tw @hj (tw @iK (tw @ay.eq_1 (tw @ag (tw @js (tw @gI (tw @fP (tw @ji (tw @x1 (tw @x2 (tw @x3 (tw @vX (tw @vA (tw @vF @bw.eq_1)))))))))))))))))))) ?_;(repeat(refine Pn.mk ?_;intro N hN))))
  refine Ke (fun e s=>e 0=.int .i64 cnt/\e 1=.sl (bs.map ay)/\e 5=.ptr X 0 0/\e 6=.int .i64 j/\s.get X=some ⟨true,4,[bw cnt bs A F]⟩/\s.get F=some ⟨true,1,dS (fun _=>0) bs.length⟩/\qP A F.bP LA s.get s.next/\F.bP<s.next) ?_ ?_
  ·rintro e1 s1 ⟨m0,m1,m5,m6,mX,mF,⟨rows1,ids1,mg,mR,mnd,mver⟩,mn⟩
   refine hN _ _ ?_
   clear hN N
   have jj:=mR.len
   rw[Sd]at jj
   have wX:=dw (i:=X) (n:=s1.next) (by omega)
   have wA:=dw (i:=A) (n:=s1.next) (by omega)
   have wF:=dw (i:=F) (n:=s1.next) (by omega)
   obtain⟨cs8,jt,Ir,IG⟩:=Fj (A:=A) (K:=⟨237008022,s1.next⟩) (nx:=s1.next+1) (j:=j) mR mnd mver (by omega) QH (by(try dsimp only);omega) (by(try dsimp only);omega) mn
   rw[qx]at IG
   obtain⟨c8,rfl⟩:∃c,cs8=[c]:=by
    rcases Ir with⟨_,h⟩|⟨id,h,_⟩<;>exact⟨_,h⟩
   (try((repeat(revert hN;revert N;apply Pn.out));refine wk (tw @m0 (tw @m1 (tw @m5 (tw @m6 (tw @mX (tw @mF (tw @hj (tw @iK (tw @ay.eq_1 (tw @mg (tw @jt (tw @gI (tw @fP (tw @jj (tw @x1 (tw @x2 (tw @x3 (tw @wX (tw @wA (tw @wF @bw.eq_1)))))))))))))))))))) ?_;(repeat(refine Pn.mk ?_;intro N hN))))
   refine Me (fun e s=>e 0=.int .i64 cnt/\e 1=.sl (bs.map ay)/\e 5=.ptr X 0 0/\e 6=.int .i64 j/\s.get X=some ⟨true,4,[bw cnt bs A F]⟩/\s.get F=some ⟨true,1,dS (fun _=>0) bs.length⟩/\qP A F.bP (ll cnt bs (j+1)) s.get s.next/\F.bP<s.next) ?_ ?_
   ·rintro e2 s2 ⟨p0,p1,p5,p6,pX,pF,pL,pn⟩
    simp only[dn,bc]
    refine hN _ _ ?_
    clear hN N
    (try((repeat(revert hN;revert N;apply Pn.out));refine wk (tw @p0 (tw @p1 (tw @p5 @p6))) ?_;(repeat(refine Pn.mk ?_;intro N hN))))
    refine cC ?_ ?_ ?_ ?_ (⟨by obtain⟨r,i,q1,q2,q3,q4⟩:=pL;exact⟨r,i,sd @q1,q2,q3,fun x hx=>by have:=q4 x hx;(try dsimp only);omega⟩,by(try dsimp only);omega⟩)
    all_goals simp only[go_sem, ↓reduceIte,Nat.reduceEqDiff,Nat.reduceAdd,Nat.reduceSub,Nat.reduceLeDiff,reduceCtorEq,p0,p1,p5,p6,pX,pF]
   ·intro N hN
    rcases Ir with⟨Tz,zC⟩|⟨id,zC,hLp,hid,K7,yg⟩
    ·simp only[List.cons.injEq,and_true]at zC
     subst zC
     subst Tz
     refine fa ?_ ?_<;>(try((repeat(revert hN;revert N;apply Pn.out));refine wk (tw @m0 (tw @m1 (tw @m5 (tw @m6 (tw @mX (tw @mF (tw @hj (tw @iK (tw @ay.eq_1 (tw @mg (tw @jt (tw @gI (tw @fP (tw @jj (tw @x1 (tw @x2 (tw @x3 (tw @wX (tw @wA (tw @wF @bw.eq_1)))))))))))))))))))) ?_;(repeat(refine Pn.mk ?_;intro N hN))))<;>(try refine fa ?_ ?_)<;>(try((repeat(revert hN;revert N;apply Pn.out));refine wk (tw @m0 (tw @m1 (tw @m5 (tw @m6 (tw @mX (tw @mF (tw @hj (tw @iK (tw @ay.eq_1 (tw @mg (tw @jt (tw @gI (tw @fP (tw @jj (tw @x1 (tw @x2 (tw @x3 (tw @wX (tw @wA (tw @wF @bw.eq_1)))))))))))))))))))) ?_;(repeat(refine Pn.mk ?_;intro N hN))))<;>(try refine fa ?_ ?_)<;>(try((repeat(revert hN;revert N;apply Pn.out));refine wk (tw @m0 (tw @m1 (tw @m5 (tw @m6 (tw @mX (tw @mF (tw @hj (tw @iK (tw @ay.eq_1 (tw @mg (tw @jt (tw @gI (tw @fP (tw @jj (tw @x1 (tw @x2 (tw @x3 (tw @wX (tw @wA (tw @wF @bw.eq_1)))))))))))))))))))) ?_;(repeat(refine Pn.mk ?_;intro N hN))))<;>(try refine fa ?_ ?_)<;>(try((repeat(revert hN;revert N;apply Pn.out));refine wk (tw @m0 (tw @m1 (tw @m5 (tw @m6 (tw @mX (tw @mF (tw @hj (tw @iK (tw @ay.eq_1 (tw @mg (tw @jt (tw @gI (tw @fP (tw @jj (tw @x1 (tw @x2 (tw @x3 (tw @wX (tw @wA (tw @wF @bw.eq_1)))))))))))))))))))) ?_;(repeat(refine Pn.mk ?_;intro N hN))))<;>(try refine fa ?_ ?_)<;>(try((repeat(revert hN;revert N;apply Pn.out));refine wk (tw @m0 (tw @m1 (tw @m5 (tw @m6 (tw @mX (tw @mF (tw @hj (tw @iK (tw @ay.eq_1 (tw @mg (tw @jt (tw @gI (tw @fP (tw @jj (tw @x1 (tw @x2 (tw @x3 (tw @wX (tw @wA (tw @wF @bw.eq_1)))))))))))))))))))) ?_;(repeat(refine Pn.mk ?_;intro N hN))))<;>(try refine fa ?_ ?_)<;>(try((repeat(revert hN;revert N;apply Pn.out));refine wk (tw @m0 (tw @m1 (tw @m5 (tw @m6 (tw @mX (tw @mF (tw @hj (tw @iK (tw @ay.eq_1 (tw @mg (tw @jt (tw @gI (tw @fP (tw @jj (tw @x1 (tw @x2 (tw @x3 (tw @wX (tw @wA (tw @wF @bw.eq_1)))))))))))))))))))) ?_;(repeat(refine Pn.mk ?_;intro N hN))))
     all_goals
      refine⟨by simp only[go_sem, ↓reduceIte,Nat.reduceEqDiff,Nat.reduceAdd,Nat.reduceSub,Nat.reduceLeDiff,reduceCtorEq,m0,m1,m5,m6,mX,mF,hj,iK,ay,mg,jt,gI,fP,jj,x1,x2,x3,wX,wA,wF,bw],by simp only[go_sem, ↓reduceIte,Nat.reduceEqDiff,Nat.reduceAdd,Nat.reduceSub,Nat.reduceLeDiff,reduceCtorEq,m0,m1,m5,m6,mX,mF,hj,iK,ay,mg,jt,gI,fP,jj,x1,x2,x3,wX,wA,wF,bw],by simp only[go_sem, ↓reduceIte,Nat.reduceEqDiff,Nat.reduceAdd,Nat.reduceSub,Nat.reduceLeDiff,reduceCtorEq,m0,m1,m5,m6,mX,mF,hj,iK,ay,mg,jt,gI,fP,jj,x1,x2,x3,wX,wA,wF,bw],by simp only[go_sem, ↓reduceIte,Nat.reduceEqDiff,Nat.reduceAdd,Nat.reduceSub,Nat.reduceLeDiff,reduceCtorEq,m0,m1,m5,m6,mX,mF,hj,iK,ay,mg,jt,gI,fP,jj,x1,x2,x3,wX,wA,wF,bw],by simp only[go_sem, ↓reduceIte,Nat.reduceEqDiff,Nat.reduceAdd,Nat.reduceSub,Nat.reduceLeDiff,reduceCtorEq,m0,m1,m5,m6,mX,mF,hj,iK,ay,mg,jt,gI,fP,jj,x1,x2,x3,wX,wA,wF,bw],by simp only[go_sem, ↓reduceIte,Nat.reduceEqDiff,Nat.reduceAdd,Nat.reduceSub,Nat.reduceLeDiff,reduceCtorEq,m0,m1,m5,m6,mX,mF,hj,iK,ay,mg,jt,gI,fP,jj,x1,x2,x3,wX,wA,wF,bw],IG _ (by simp only[go_sem, ↓reduceIte,Nat.reduceEqDiff,Nat.reduceAdd,Nat.reduceSub,Nat.reduceLeDiff,reduceCtorEq,m0,m1,m5,m6,mX,mF,hj,iK,ay,mg,jt,gI,fP,jj,x1,x2,x3,wX,wA,wF,bw,List.length_nil]) (by simp only[go_sem, ↓reduceIte,Nat.reduceEqDiff,Nat.reduceAdd,Nat.reduceSub,Nat.reduceLeDiff,reduceCtorEq,m0,m1,m5,m6,mX,mF,hj,iK,ay,mg,jt,gI,fP,jj,x1,x2,x3,wX,wA,wF,bw,List.map_nil,List.nil_append]) (fun i hi NZ ft=>?_),by(try dsimp only);omega⟩
      clear ft
      simp only[go_sem, ↓reduceIte,Nat.reduceEqDiff,Nat.reduceAdd,Nat.reduceSub,Nat.reduceLeDiff,reduceCtorEq,wX,wA,wF,dw hi,NZ]
    ·simp only[List.cons.injEq,and_true]at zC
     subst zC
     have sb:=dw K7
     have y1:=cr (a:=A) (b:=id) (by omega)
     have y2:=cr (a:=F) (b:=id) yg
     have y3:=cr (a:=X) (b:=id) (by omega)
     have e3:Lb.length+1<=16777216:=by omega
     have z1:(Lb.map eN).length=Lb.length:=by simp
     refine fa ?_ ?_<;>(try((repeat(revert hN;revert N;apply Pn.out));refine wk (tw @m0 (tw @m1 (tw @m5 (tw @m6 (tw @mX (tw @mF (tw @hj (tw @iK (tw @ay.eq_1 (tw @mg (tw @jt (tw @gI (tw @fP (tw @jj (tw @x1 (tw @x2 (tw @x3 (tw @wX (tw @wA (tw @wF (tw @bw.eq_1 (tw @hid (tw @sb (tw @y1 (tw @y2 (tw @y3 (tw @e3 @z1))))))))))))))))))))))))))) ?_;(repeat(refine Pn.mk ?_;intro N hN))))<;>(try refine fa ?_ ?_)<;>(try((repeat(revert hN;revert N;apply Pn.out));refine wk (tw @m0 (tw @m1 (tw @m5 (tw @m6 (tw @mX (tw @mF (tw @hj (tw @iK (tw @ay.eq_1 (tw @mg (tw @jt (tw @gI (tw @fP (tw @jj (tw @x1 (tw @x2 (tw @x3 (tw @wX (tw @wA (tw @wF (tw @bw.eq_1 (tw @hid (tw @sb (tw @y1 (tw @y2 (tw @y3 (tw @e3 @z1))))))))))))))))))))))))))) ?_;(repeat(refine Pn.mk ?_;intro N hN))))<;>(try refine fa ?_ ?_)<;>(try((repeat(revert hN;revert N;apply Pn.out));refine wk (tw @m0 (tw @m1 (tw @m5 (tw @m6 (tw @mX (tw @mF (tw @hj (tw @iK (tw @ay.eq_1 (tw @mg (tw @jt (tw @gI (tw @fP (tw @jj (tw @x1 (tw @x2 (tw @x3 (tw @wX (tw @wA (tw @wF (tw @bw.eq_1 (tw @hid (tw @sb (tw @y1 (tw @y2 (tw @y3 (tw @e3 @z1))))))))))))))))))))))))))) ?_;(repeat(refine Pn.mk ?_;intro N hN))))<;>(try refine fa ?_ ?_)<;>(try((repeat(revert hN;revert N;apply Pn.out));refine wk (tw @m0 (tw @m1 (tw @m5 (tw @m6 (tw @mX (tw @mF (tw @hj (tw @iK (tw @ay.eq_1 (tw @mg (tw @jt (tw @gI (tw @fP (tw @jj (tw @x1 (tw @x2 (tw @x3 (tw @wX (tw @wA (tw @wF (tw @bw.eq_1 (tw @hid (tw @sb (tw @y1 (tw @y2 (tw @y3 (tw @e3 @z1))))))))))))))))))))))))))) ?_;(repeat(refine Pn.mk ?_;intro N hN))))<;>(try refine fa ?_ ?_)<;>(try((repeat(revert hN;revert N;apply Pn.out));refine wk (tw @m0 (tw @m1 (tw @m5 (tw @m6 (tw @mX (tw @mF (tw @hj (tw @iK (tw @ay.eq_1 (tw @mg (tw @jt (tw @gI (tw @fP (tw @jj (tw @x1 (tw @x2 (tw @x3 (tw @wX (tw @wA (tw @wF (tw @bw.eq_1 (tw @hid (tw @sb (tw @y1 (tw @y2 (tw @y3 (tw @e3 @z1))))))))))))))))))))))))))) ?_;(repeat(refine Pn.mk ?_;intro N hN))))<;>(try refine fa ?_ ?_)<;>(try((repeat(revert hN;revert N;apply Pn.out));refine wk (tw @m0 (tw @m1 (tw @m5 (tw @m6 (tw @mX (tw @mF (tw @hj (tw @iK (tw @ay.eq_1 (tw @mg (tw @jt (tw @gI (tw @fP (tw @jj (tw @x1 (tw @x2 (tw @x3 (tw @wX (tw @wA (tw @wF (tw @bw.eq_1 (tw @hid (tw @sb (tw @y1 (tw @y2 (tw @y3 (tw @e3 @z1))))))))))))))))))))))))))) ?_;(repeat(refine Pn.mk ?_;intro N hN))))
     all_goals
      refine⟨by simp only[go_sem, ↓reduceIte,Nat.reduceEqDiff,Nat.reduceAdd,Nat.reduceSub,Nat.reduceLeDiff,reduceCtorEq,m0,m1,m5,m6,mX,mF,hj,iK,ay,mg,jt,gI,fP,jj,x1,x2,x3,wX,wA,wF,bw,hid,sb,y1,y2,y3,e3,z1],by simp only[go_sem, ↓reduceIte,Nat.reduceEqDiff,Nat.reduceAdd,Nat.reduceSub,Nat.reduceLeDiff,reduceCtorEq,m0,m1,m5,m6,mX,mF,hj,iK,ay,mg,jt,gI,fP,jj,x1,x2,x3,wX,wA,wF,bw,hid,sb,y1,y2,y3,e3,z1],by simp only[go_sem, ↓reduceIte,Nat.reduceEqDiff,Nat.reduceAdd,Nat.reduceSub,Nat.reduceLeDiff,reduceCtorEq,m0,m1,m5,m6,mX,mF,hj,iK,ay,mg,jt,gI,fP,jj,x1,x2,x3,wX,wA,wF,bw,hid,sb,y1,y2,y3,e3,z1],by simp only[go_sem, ↓reduceIte,Nat.reduceEqDiff,Nat.reduceAdd,Nat.reduceSub,Nat.reduceLeDiff,reduceCtorEq,m0,m1,m5,m6,mX,mF,hj,iK,ay,mg,jt,gI,fP,jj,x1,x2,x3,wX,wA,wF,bw,hid,sb,y1,y2,y3,e3,z1],by simp only[go_sem, ↓reduceIte,Nat.reduceEqDiff,Nat.reduceAdd,Nat.reduceSub,Nat.reduceLeDiff,reduceCtorEq,m0,m1,m5,m6,mX,mF,hj,iK,ay,mg,jt,gI,fP,jj,x1,x2,x3,wX,wA,wF,bw,hid,sb,y1,y2,y3,e3,z1],by simp only[go_sem, ↓reduceIte,Nat.reduceEqDiff,Nat.reduceAdd,Nat.reduceSub,Nat.reduceLeDiff,reduceCtorEq,m0,m1,m5,m6,mX,mF,hj,iK,ay,mg,jt,gI,fP,jj,x1,x2,x3,wX,wA,wF,bw,hid,sb,y1,y2,y3,e3,z1],IG _ (by simp only[go_sem, ↓reduceIte,Nat.reduceEqDiff,Nat.reduceAdd,Nat.reduceSub,Nat.reduceLeDiff,reduceCtorEq,m0,m1,m5,m6,mX,mF,hj,iK,ay,mg,jt,gI,fP,jj,x1,x2,x3,wX,wA,wF,bw,hid,sb,y1,y2,y3,e3,z1,List.length_nil]) (by simp only[go_sem, ↓reduceIte,Nat.reduceEqDiff,Nat.reduceAdd,Nat.reduceSub,Nat.reduceLeDiff,reduceCtorEq,m0,m1,m5,m6,mX,mF,hj,iK,ay,mg,jt,gI,fP,jj,x1,x2,x3,wX,wA,wF,bw,hid,sb,y1,y2,y3,e3,z1,List.map_nil,List.nil_append]) (fun i hi NZ ft=>?_),by(try dsimp only);omega⟩
      have gW:=ft id rfl
      simp only[go_sem, ↓reduceIte,Nat.reduceEqDiff,Nat.reduceAdd,Nat.reduceSub,Nat.reduceLeDiff,reduceCtorEq,wX,wA,wF,dw hi,NZ,gW]
  ·intro N hN
   rcases Iq with⟨Tz,zC⟩|⟨id,zC,hLp,hid,K7,yg⟩
   ·simp only[List.cons.injEq,and_true]at zC
    subst zC
    subst Tz
    refine fa ?_ ?_<;>(try((repeat(revert hN;revert N;apply Pn.out));refine wk (tw @a6 (tw @a5 (tw @ag0 (tw @ag1 (tw @a0 (tw @a1 (tw @hj (tw @iK (tw @ay.eq_1 (tw @ag (tw @js (tw @gI (tw @fP (tw @ji (tw @x1 (tw @x2 (tw @x3 (tw @vX (tw @vA (tw @vF @bw.eq_1)))))))))))))))))))) ?_;(repeat(refine Pn.mk ?_;intro N hN))))<;>(try refine fa ?_ ?_)<;>(try((repeat(revert hN;revert N;apply Pn.out));refine wk (tw @a6 (tw @a5 (tw @ag0 (tw @ag1 (tw @a0 (tw @a1 (tw @hj (tw @iK (tw @ay.eq_1 (tw @ag (tw @js (tw @gI (tw @fP (tw @ji (tw @x1 (tw @x2 (tw @x3 (tw @vX (tw @vA (tw @vF @bw.eq_1)))))))))))))))))))) ?_;(repeat(refine Pn.mk ?_;intro N hN))))<;>(try refine fa ?_ ?_)<;>(try((repeat(revert hN;revert N;apply Pn.out));refine wk (tw @a6 (tw @a5 (tw @ag0 (tw @ag1 (tw @a0 (tw @a1 (tw @hj (tw @iK (tw @ay.eq_1 (tw @ag (tw @js (tw @gI (tw @fP (tw @ji (tw @x1 (tw @x2 (tw @x3 (tw @vX (tw @vA (tw @vF @bw.eq_1)))))))))))))))))))) ?_;(repeat(refine Pn.mk ?_;intro N hN))))<;>(try refine fa ?_ ?_)<;>(try((repeat(revert hN;revert N;apply Pn.out));refine wk (tw @a6 (tw @a5 (tw @ag0 (tw @ag1 (tw @a0 (tw @a1 (tw @hj (tw @iK (tw @ay.eq_1 (tw @ag (tw @js (tw @gI (tw @fP (tw @ji (tw @x1 (tw @x2 (tw @x3 (tw @vX (tw @vA (tw @vF @bw.eq_1)))))))))))))))))))) ?_;(repeat(refine Pn.mk ?_;intro N hN))))<;>(try refine fa ?_ ?_)<;>(try((repeat(revert hN;revert N;apply Pn.out));refine wk (tw @a6 (tw @a5 (tw @ag0 (tw @ag1 (tw @a0 (tw @a1 (tw @hj (tw @iK (tw @ay.eq_1 (tw @ag (tw @js (tw @gI (tw @fP (tw @ji (tw @x1 (tw @x2 (tw @x3 (tw @vX (tw @vA (tw @vF @bw.eq_1)))))))))))))))))))) ?_;(repeat(refine Pn.mk ?_;intro N hN))))<;>(try refine fa ?_ ?_)<;>(try((repeat(revert hN;revert N;apply Pn.out));refine wk (tw @a6 (tw @a5 (tw @ag0 (tw @ag1 (tw @a0 (tw @a1 (tw @hj (tw @iK (tw @ay.eq_1 (tw @ag (tw @js (tw @gI (tw @fP (tw @ji (tw @x1 (tw @x2 (tw @x3 (tw @vX (tw @vA (tw @vF @bw.eq_1)))))))))))))))))))) ?_;(repeat(refine Pn.mk ?_;intro N hN))))
    all_goals
     refine⟨by simp only[go_sem, ↓reduceIte,Nat.reduceEqDiff,Nat.reduceAdd,Nat.reduceSub,Nat.reduceLeDiff,reduceCtorEq,a6,a5,ag0,ag1,a0,a1,hj,iK,ay,ag,js,gI,fP,ji,x1,x2,x3,vX,vA,vF,bw],by simp only[go_sem, ↓reduceIte,Nat.reduceEqDiff,Nat.reduceAdd,Nat.reduceSub,Nat.reduceLeDiff,reduceCtorEq,a6,a5,ag0,ag1,a0,a1,hj,iK,ay,ag,js,gI,fP,ji,x1,x2,x3,vX,vA,vF,bw],by simp only[go_sem, ↓reduceIte,Nat.reduceEqDiff,Nat.reduceAdd,Nat.reduceSub,Nat.reduceLeDiff,reduceCtorEq,a6,a5,ag0,ag1,a0,a1,hj,iK,ay,ag,js,gI,fP,ji,x1,x2,x3,vX,vA,vF,bw],by simp only[go_sem, ↓reduceIte,Nat.reduceEqDiff,Nat.reduceAdd,Nat.reduceSub,Nat.reduceLeDiff,reduceCtorEq,a6,a5,ag0,ag1,a0,a1,hj,iK,ay,ag,js,gI,fP,ji,x1,x2,x3,vX,vA,vF,bw],by simp only[go_sem, ↓reduceIte,Nat.reduceEqDiff,Nat.reduceAdd,Nat.reduceSub,Nat.reduceLeDiff,reduceCtorEq,a6,a5,ag0,ag1,a0,a1,hj,iK,ay,ag,js,gI,fP,ji,x1,x2,x3,vX,vA,vF,bw],by simp only[go_sem, ↓reduceIte,Nat.reduceEqDiff,Nat.reduceAdd,Nat.reduceSub,Nat.reduceLeDiff,reduceCtorEq,a6,a5,ag0,ag1,a0,a1,hj,iK,ay,ag,js,gI,fP,ji,x1,x2,x3,vX,vA,vF,bw],IF _ (by simp only[go_sem, ↓reduceIte,Nat.reduceEqDiff,Nat.reduceAdd,Nat.reduceSub,Nat.reduceLeDiff,reduceCtorEq,a6,a5,ag0,ag1,a0,a1,hj,iK,ay,ag,js,gI,fP,ji,x1,x2,x3,vX,vA,vF,bw,List.length_nil]) (by simp only[go_sem, ↓reduceIte,Nat.reduceEqDiff,Nat.reduceAdd,Nat.reduceSub,Nat.reduceLeDiff,reduceCtorEq,a6,a5,ag0,ag1,a0,a1,hj,iK,ay,ag,js,gI,fP,ji,x1,x2,x3,vX,vA,vF,bw,List.map_nil,List.nil_append]) (fun i hi NZ ft=>?_),by(try dsimp only);omega⟩
     clear ft
     simp only[go_sem, ↓reduceIte,Nat.reduceEqDiff,Nat.reduceAdd,Nat.reduceSub,Nat.reduceLeDiff,reduceCtorEq,vX,vA,vF,dw hi,NZ]
   ·simp only[List.cons.injEq,and_true]at zC
    subst zC
    have sb:=dw K7
    have y1:=cr (a:=A) (b:=id) (by omega)
    have y2:=cr (a:=F) (b:=id) yg
    have y3:=cr (a:=X) (b:=id) (by omega)
    have e3:La.length+1<=16777216:=by omega
    have z1:(La.map eN).length=La.length:=by simp
    refine fa ?_ ?_<;>(try((repeat(revert hN;revert N;apply Pn.out));refine wk (tw @a6 (tw @a5 (tw @ag0 (tw @ag1 (tw @a0 (tw @a1 (tw @hj (tw @iK (tw @ay.eq_1 (tw @ag (tw @js (tw @gI (tw @fP (tw @ji (tw @x1 (tw @x2 (tw @x3 (tw @vX (tw @vA (tw @vF (tw @bw.eq_1 (tw @hid (tw @sb (tw @y1 (tw @y2 (tw @y3 (tw @e3 @z1))))))))))))))))))))))))))) ?_;(repeat(refine Pn.mk ?_;intro N hN))))<;>(try refine fa ?_ ?_)<;>(try((repeat(revert hN;revert N;apply Pn.out));refine wk (tw @a6 (tw @a5 (tw @ag0 (tw @ag1 (tw @a0 (tw @a1 (tw @hj (tw @iK (tw @ay.eq_1 (tw @ag (tw @js (tw @gI (tw @fP (tw @ji (tw @x1 (tw @x2 (tw @x3 (tw @vX (tw @vA (tw @vF (tw @bw.eq_1 (tw @hid (tw @sb (tw @y1 (tw @y2 (tw @y3 (tw @e3 @z1))))))))))))))))))))))))))) ?_;(repeat(refine Pn.mk ?_;intro N hN))))<;>(try refine fa ?_ ?_)<;>(try((repeat(revert hN;revert N;apply Pn.out));refine wk (tw @a6 (tw @a5 (tw @ag0 (tw @ag1 (tw @a0 (tw @a1 (tw @hj (tw @iK (tw @ay.eq_1 (tw @ag (tw @js (tw @gI (tw @fP (tw @ji (tw @x1 (tw @x2 (tw @x3 (tw @vX (tw @vA (tw @vF (tw @bw.eq_1 (tw @hid (tw @sb (tw @y1 (tw @y2 (tw @y3 (tw @e3 @z1))))))))))))))))))))))))))) ?_;(repeat(refine Pn.mk ?_;intro N hN))))<;>(try refine fa ?_ ?_)<;>(try((repeat(revert hN;revert N;apply Pn.out));refine wk (tw @a6 (tw @a5 (tw @ag0 (tw @ag1 (tw @a0 (tw @a1 (tw @hj (tw @iK (tw @ay.eq_1 (tw @ag (tw @js (tw @gI (tw @fP (tw @ji (tw @x1 (tw @x2 (tw @x3 (tw @vX (tw @vA (tw @vF (tw @bw.eq_1 (tw @hid (tw @sb (tw @y1 (tw @y2 (tw @y3 (tw @e3 @z1))))))))))))))))))))))))))) ?_;(repeat(refine Pn.mk ?_;intro N hN))))<;>(try refine fa ?_ ?_)<;>(try((repeat(revert hN;revert N;apply Pn.out));refine wk (tw @a6 (tw @a5 (tw @ag0 (tw @ag1 (tw @a0 (tw @a1 (tw @hj (tw @iK (tw @ay.eq_1 (tw @ag (tw @js (tw @gI (tw @fP (tw @ji (tw @x1 (tw @x2 (tw @x3 (tw @vX (tw @vA (tw @vF (tw @bw.eq_1 (tw @hid (tw @sb (tw @y1 (tw @y2 (tw @y3 (tw @e3 @z1))))))))))))))))))))))))))) ?_;(repeat(refine Pn.mk ?_;intro N hN))))<;>(try refine fa ?_ ?_)<;>(try((repeat(revert hN;revert N;apply Pn.out));refine wk (tw @a6 (tw @a5 (tw @ag0 (tw @ag1 (tw @a0 (tw @a1 (tw @hj (tw @iK (tw @ay.eq_1 (tw @ag (tw @js (tw @gI (tw @fP (tw @ji (tw @x1 (tw @x2 (tw @x3 (tw @vX (tw @vA (tw @vF (tw @bw.eq_1 (tw @hid (tw @sb (tw @y1 (tw @y2 (tw @y3 (tw @e3 @z1))))))))))))))))))))))))))) ?_;(repeat(refine Pn.mk ?_;intro N hN))))
    all_goals
     refine⟨by simp only[go_sem, ↓reduceIte,Nat.reduceEqDiff,Nat.reduceAdd,Nat.reduceSub,Nat.reduceLeDiff,reduceCtorEq,a6,a5,ag0,ag1,a0,a1,hj,iK,ay,ag,js,gI,fP,ji,x1,x2,x3,vX,vA,vF,bw,hid,sb,y1,y2,y3,e3,z1],by simp only[go_sem, ↓reduceIte,Nat.reduceEqDiff,Nat.reduceAdd,Nat.reduceSub,Nat.reduceLeDiff,reduceCtorEq,a6,a5,ag0,ag1,a0,a1,hj,iK,ay,ag,js,gI,fP,ji,x1,x2,x3,vX,vA,vF,bw,hid,sb,y1,y2,y3,e3,z1],by simp only[go_sem, ↓reduceIte,Nat.reduceEqDiff,Nat.reduceAdd,Nat.reduceSub,Nat.reduceLeDiff,reduceCtorEq,a6,a5,ag0,ag1,a0,a1,hj,iK,ay,ag,js,gI,fP,ji,x1,x2,x3,vX,vA,vF,bw,hid,sb,y1,y2,y3,e3,z1],by simp only[go_sem, ↓reduceIte,Nat.reduceEqDiff,Nat.reduceAdd,Nat.reduceSub,Nat.reduceLeDiff,reduceCtorEq,a6,a5,ag0,ag1,a0,a1,hj,iK,ay,ag,js,gI,fP,ji,x1,x2,x3,vX,vA,vF,bw,hid,sb,y1,y2,y3,e3,z1],by simp only[go_sem, ↓reduceIte,Nat.reduceEqDiff,Nat.reduceAdd,Nat.reduceSub,Nat.reduceLeDiff,reduceCtorEq,a6,a5,ag0,ag1,a0,a1,hj,iK,ay,ag,js,gI,fP,ji,x1,x2,x3,vX,vA,vF,bw,hid,sb,y1,y2,y3,e3,z1],by simp only[go_sem, ↓reduceIte,Nat.reduceEqDiff,Nat.reduceAdd,Nat.reduceSub,Nat.reduceLeDiff,reduceCtorEq,a6,a5,ag0,ag1,a0,a1,hj,iK,ay,ag,js,gI,fP,ji,x1,x2,x3,vX,vA,vF,bw,hid,sb,y1,y2,y3,e3,z1],IF _ (by simp only[go_sem, ↓reduceIte,Nat.reduceEqDiff,Nat.reduceAdd,Nat.reduceSub,Nat.reduceLeDiff,reduceCtorEq,a6,a5,ag0,ag1,a0,a1,hj,iK,ay,ag,js,gI,fP,ji,x1,x2,x3,vX,vA,vF,bw,hid,sb,y1,y2,y3,e3,z1,List.length_nil]) (by simp only[go_sem, ↓reduceIte,Nat.reduceEqDiff,Nat.reduceAdd,Nat.reduceSub,Nat.reduceLeDiff,reduceCtorEq,a6,a5,ag0,ag1,a0,a1,hj,iK,ay,ag,js,gI,fP,ji,x1,x2,x3,vX,vA,vF,bw,hid,sb,y1,y2,y3,e3,z1,List.map_nil,List.nil_append]) (fun i hi NZ ft=>?_),by(try dsimp only);omega⟩
     have gW:=ft id rfl
     simp only[go_sem, ↓reduceIte,Nat.reduceEqDiff,Nat.reduceAdd,Nat.reduceSub,Nat.reduceLeDiff,reduceCtorEq,vX,vA,vF,dw hi,NZ,gW]
 ·have gZ:j=bs.length:=by omega
  subst gZ
  (try((repeat(revert hN;revert N;apply Pn.out));refine wk (tw @a6 (tw @a5 (tw @ag0 (tw @ag1 (tw @a0 (tw @a1 @hj)))))) ?_;(repeat(refine Pn.mk ?_;intro N hN))))
  exact fw (.inl rfl) (by simp only[fq,iq,go_sem, ↓reduceIte,Nat.reduceEqDiff,Nat.reduceAdd,Nat.reduceSub,Nat.reduceLeDiff,reduceCtorEq];rfl) ⟨X,A,F,rfl,hXs,⟨ag0,⟨rows,ids,ag,hR,mi,fun x hx=>by have:=nS x hx;(try dsimp only);omega⟩,ag1,hXA,hAF,by(try dsimp only);omega⟩⟩
end Go.Proofs.YtgoelphibofcmaaGreat.V

namespace Go.Proofs.YtgoelphibofcmaaGreat.V
open Go.RowKit
attribute [local irreducible] dI wpOps gD Call
attribute [local go_sem] aM fM eP gp gm cN upd cD K.av cR AV.cells AV.cell rowOf rowsOf part ld rowAt bz cu dG ef ik bQ dh eA gj e9 dq ek dd dc dU dV bW bf cW bV cY cX ei eo ej cV ck de eh bU aT da cG ij bx cQ b4 aY dn bc dH AV.undef bF bI eb ee dP dM cJ ez eE cF er ep cZ db List.getD_cons_zero List.getD_cons_succ List.getD_nil List.all_cons List.all_nil Bool.and_true Bool.true_and Bool.and_self Bool.not_true Bool.not_false Option.map_some Option.map_none Option.bind_some Option.bind_none List.length_cons List.length_nil List.take_succ_cons List.take_zero List.take_nil List.drop_succ_cons List.drop_zero List.drop_nil List.head?_cons List.map_cons List.map_nil List.getElem?_cons_zero List.getElem?_cons_succ List.cons_append List.nil_append List.append_nil List.length_map List.set_cons_zero List.set_cons_succ Nat.reduceMul eq_self Int.toNat_natCast Int.natCast_nonneg and_self true_and and_true decide_true decide_false Bool.false_eq_true Nat.zero_add Nat.add_zero List.contains_cons List.contains_nil Bool.or_false Bool.false_or beq_self_eq_true Nat.reduceBEq ne_eq not_true_eq_false not_false_eq_true Id.mk.injEq false_and and_false Nat.reduceLT Int.reduceLE Int.reduceLT Int.reduceToNat Int.reduceNeg Int.reduceAdd Nat.le_refl List.length_append beq_true beq_false Bool.not_eq_eq_eq_not or_false false_or dO ai aj aH bp bE cz aX bl aW bj cU bH
theorem qP.frame {A:Id} {lo nx uJ:Nat} {L:List (List Nat)} {g g':Rows} (h:qP A lo L g nx) (hA:A.bP<nx) (hf:∀i:Id,i.bP<nx->lo<i.bP∨i=A->g' i=g i) (hn:nx<=uJ):qP A lo L g' uJ:=by
 obtain⟨rows,ids,h1,h2,h3,h4⟩:=h
 refine⟨rows,ids,(hf A hA (.inr rfl)).trans h1,h2.frame MT fun i hi=>hf i (h4 i hi).2 (.inl (h4 i hi).1),h3,fun i hi=>?_⟩
 have:=h4 i hi;omega
theorem oe.frame {cnt:Nat} {bs:List PB} {f:Nat->Int} {X A F:Id} {g g':Rows} {nx uJ:Nat} (h:oe cnt bs f X A F g nx) (hf:∀i:Id,i.bP<nx->g' i=g i) (hn:nx<=uJ):oe cnt bs f X A F g' uJ:=by
 have h1:=h.xa;have h2:=h.af;have h3:=h.fn
 exact⟨(hf X (by omega)).trans h.x,h.a.frame (by omega) (fun i hi _=>hf i hi) hn,(hf F h3).trans h.f,h1,h2,by omega⟩
theorem oe.Qg {cnt:Nat} {bs:List PB} {f f':Nat->Int} {X A F:Id} {g g':Rows} {nx uJ:Nat} (h:oe cnt bs f X A F g nx) (hF:g' F=some ⟨true,1,dS f' bs.length⟩) (hf:∀i:Id,i.bP<nx->(i=F)=False->g' i=g i) (hn:nx<=uJ):oe cnt bs f' X A F g' uJ:=by
 have h1:=h.xa;have h2:=h.af;have h3:=h.fn
 refine⟨(hf X (by omega) (cr (by omega)).1).trans h.x,h.a.frame (by omega) (fun i hi kh=>hf i hi ?_) hn,hF,h1,h2,by omega⟩
 rcases kh with kh|rfl
 ·exact(cr kh).2
 ·exact(cr h2).1
theorem OH (cnt:Nat) (bs:List PB) (f:Nat->Int) (hs:Small bs f) (e v:Nat) (he:e<bs.length) (X A F:Id) (σ:ar) (nx:Nat) (hS:oe cnt bs f X A F σ.get nx) (hn:nx<=σ.next):
  Call Tryz.prog 261 [.ptr X 0 0,.int .i64 v,.int .i64 e] σ fun r σ'=>oe cnt bs (tR bs f e v) X A F σ'.get nx/\σ.next<=σ'.next/\∀i:Id,(i=F)=False->σ'.get i=σ.get i:=by
 refine eT eB rfl fun hl=>?_
 clear hl
 have hX:=hS.x
 have hF:=hS.f
 have hb:=ur he
 have Sp:=dK (f:=f) he
 have tl:=dB f bs.length
 obtain⟨⟨s0,s1⟩,s2,s3⟩:=hs e he
 have hei:(e:Int)<(bs.length:Int):=by omega
 have w1:IntKind.i64.wrap (f e+1)=f e+1:=bt (by omega)
 have w2:IntKind.i64.wrap (f e-1)=f e+-1:=by rw[bt (by omega)];omega
 rw[bq]at Sp
 unfold tR
 by_cases h:(cw bs e).a=v
 ·have eC:(dS f bs.length).set e (bq (f e+1))=dS (fun j=>f j+if j=e then(if (cw bs e).a=v then 1 else -1)else 0) bs.length:=k6 he (by rw[if_pos rfl,if_pos h]) fun i _ hi=>by rw[if_neg hi,Int.add_zero]
  rw[bq]at eC
  generalize Sg:cw bs e=b at *
  have hd:decide ((b.a:Int)=(v:Int))=true:=decide_eq_true (by rw[h])
  (try((repeat(revert hN;revert N;apply Pn.out));refine wk (tw @hX (tw @hF (tw @hb (tw @Sp (tw @tl (tw @hei (tw @w1 (tw @eC (tw @hd (tw @ay.eq_1 @bw.eq_1)))))))))) ?_;(repeat(refine Pn.mk ?_;intro N hN))))
  exact fw (.inr rfl) (vs:=[]) rfl ⟨hS.Qg (sd @Nat.zero_add) (fun i hi gW=>sd @gW) (Nat.le_refl _),by(try dsimp only);omega,fun i gW=>sd @gW⟩
 ·have eC:(dS f bs.length).set e (bq (f e+-1))=dS (fun j=>f j+if j=e then(if (cw bs e).a=v then 1 else -1)else 0) bs.length:=k6 he (by rw[if_pos rfl,if_neg h]) fun i _ hi=>by rw[if_neg hi,Int.add_zero]
  rw[bq]at eC
  generalize Sg:cw bs e=b at *
  have hd:decide ((b.a:Int)=(v:Int))=false:=decide_eq_false fun hc=>h (by omega)
  (try((repeat(revert hN;revert N;apply Pn.out));refine wk (tw @hX (tw @hF (tw @hb (tw @Sp (tw @tl (tw @hei (tw @w2 (tw @eC (tw @hd (tw @ay.eq_1 @bw.eq_1)))))))))) ?_;(repeat(refine Pn.mk ?_;intro N hN))))
  exact fw (.inr rfl) (vs:=[]) rfl ⟨hS.Qg (sd @Nat.zero_add) (fun i hi gW=>sd @gW) (Nat.le_refl _),by(try dsimp only);omega,fun i gW=>sd @gW⟩
structure oh (bs:List PB) (out:Nat->Int) (f f':Nat->Int) (x v:Nat):Prop where
 le:∀i,i<bs.length->f' i<=(cw bs i).s/\-(cw bs i).s<=f' i
 cut:∀S:Nat->Bool,FQ S bs f'=FQ S bs f+bi (S x)-bi (S v)
 yL:∀e,e<bs.length->out (cw bs e).a<=out v->out (cw bs e).b<=out v->f' e=f e
section
variable {cnt:Nat} {bs:List PB} {out:Nat->Int} {f f':Nat->Int} {x v y:Nat}
theorem oh.start (h:∀i,i<bs.length->f i<=(cw bs i).s/\-(cw bs i).s<=f i):oh bs out f f x x:=⟨h,fun S=>by omega,fun _ _ _ _=>rfl⟩
theorem oh.step (h:oh bs out f f' x v) {e:Nat} (he:e<bs.length) (hi:Ey bs e v) (hr:0<fE bs f' e v) (hd:out (bK bs e v)=out v-1):oh bs out f (tR bs f' e v) x (bK bs e v):=by
 refine⟨fun i lD=>?_,fun S=>?_,fun i lD ha hb=>?_⟩
 ·have h1:=h.le i lD
  unfold tR
  by_cases Hl:i=e
  ·subst Hl
   rw[if_pos rfl]
   unfold fE at hr
   split at hr<;>rename_i hc
   ·rw[if_pos hc];omega
   ·rw[if_neg hc];omega
  ·rw[if_neg Hl];omega
 ·rw[FR he hi,h.cut S];omega
 ·have Hl:i≠e:=by
   rintro rfl
   rcases hi with hi|hi
   ·rw[hi]at ha;omega
   ·rw[hi]at hb;omega
  unfold tR
  rw[if_neg Hl,Int.add_zero]
  exact h.yL i lD (by omega) (by omega)
theorem oh.goes (h:oh bs out f f' x v) (hs:za cnt bs f y out) (hv:v<cnt) (h0:0<out v):∃e∈iV bs bs.length v,0<fE bs f' e v/\out (bK bs e v)=out v-1:=by
 obtain⟨e,h1,h2,h3,h4⟩:=hs.down v hv h0
 refine⟨e,rI.2 ⟨h1,h2⟩,?_,h4⟩
 have hf:f' e=f e:=by
  refine h.yL e h1 ?_ ?_
  ·unfold bK at h4
   split at h4
   ·rename_i ha;rw[ha];exact Int.le_refl _
   ·omega
  ·unfold bK at h4
   rcases h2 with h2|h2
   ·rw[if_pos h2]at h4;omega
   ·rw[h2];exact Int.le_refl _
 unfold fE at h3 ⊢
 rw[hf];exact h3
theorem oh.done {val:Int} (h:oh bs out f f' x y) (hf:jZ bs f x y val):jZ bs f' x y (val+1):=
 ⟨h.le,fun S hx hy=>by rw[h.cut S,hf.cut S hx hy,hx,hy];simp[bi]⟩
theorem Ef {val:Int} (hs:za cnt bs f y out) (ok:nu cnt bs) (hf:jZ bs f x y val) (hx:out x<0):∃S:Nat->Bool,S x=true/\S y=false/\val=jg S bs:=by
 refine⟨fun v=>decide (out v<0),decide_eq_true hx,decide_eq_false (by rw[hs.first];omega),hf.full (decide_eq_true hx) (decide_eq_false (by rw[hs.first];omega)) fun i hi qv=>⟨fun h1 h2 hr=>?_,fun h1 h2 hr=>?_⟩⟩
 ·have NF:=of_decide_eq_true h1
  have Cz:=of_decide_eq_false h2
  have:=hs.shut i (cw bs i).a hi (.inl rfl) (by unfold bK;rw[if_pos rfl];omega) hr
  omega
 ·have NF:=of_decide_eq_true h1
  have Cz:=of_decide_eq_false h2
  have:=hs.shut i (cw bs i).b hi (.inr rfl) (by unfold bK;rw[if_neg qv];omega) hr
  omega
end
end Go.Proofs.YtgoelphibofcmaaGreat.V

namespace Go.Proofs.YtgoelphibofcmaaGreat.V
open Go.RowKit
attribute [local irreducible] dI wpOps gD Call
attribute [local go_sem] aM fM eP gp gm cN upd cD K.av cR AV.cells AV.cell rowOf rowsOf part ld rowAt bz cu dG ef ik bQ dh eA gj e9 dq ek dd dc dU dV bW bf cW bV cY cX ei eo ej cV ck de eh bU aT da cG ij bx cQ b4 aY dn bc dH AV.undef bF bI eb ee dP dM cJ ez eE cF er ep cZ db List.getD_cons_zero List.getD_cons_succ List.getD_nil List.all_cons List.all_nil Bool.and_true Bool.true_and Bool.and_self Bool.not_true Bool.not_false Option.map_some Option.map_none Option.bind_some Option.bind_none List.length_cons List.length_nil List.take_succ_cons List.take_zero List.take_nil List.drop_succ_cons List.drop_zero List.drop_nil List.head?_cons List.map_cons List.map_nil List.getElem?_cons_zero List.getElem?_cons_succ List.cons_append List.nil_append List.append_nil List.length_map List.set_cons_zero List.set_cons_succ Nat.reduceMul eq_self Int.toNat_natCast Int.natCast_nonneg and_self true_and and_true decide_true decide_false Bool.false_eq_true Nat.zero_add Nat.add_zero List.contains_cons List.contains_nil Bool.or_false Bool.false_or beq_self_eq_true Nat.reduceBEq ne_eq not_true_eq_false not_false_eq_true Id.mk.injEq false_and and_false Nat.reduceLT Int.reduceLE Int.reduceLT Int.reduceToNat Int.reduceNeg Int.reduceAdd Nat.le_refl List.length_append beq_true beq_false Bool.not_eq_eq_eq_not or_false false_or dO ai aj aH bp bE cz aX bl aW bj cU bH
theorem wS {bs:List PB} {f:Nat->Int} (dE:∀e,e<bs.length->0<=(cw bs e).s/\(cw bs e).s<=4) (h:∀i,i<bs.length->f i<=(cw bs i).s/\-(cw bs i).s<=f i):Small bs f:=fun e he=>by
 have:=dE e he;have:=h e he;omega
theorem qP.at_ {A:Id} {lo nx v:Nat} {L:List (List Nat)} {l:List Nat} {g:Rows} (h:qP A lo L g nx) (hv:L[v]? =some l) (hl:0<l.length):∃(rows:List (List AV)) (id:Id),g A=some ⟨true,1,rows⟩/\rows.length=L.length/\rows[v]? =some [.own id 0 l.length]/\g id=some ⟨true,1,l.map eN⟩/\lo<id.bP/\id.bP<nx:=by
 obtain⟨rows,ids,h1,h2,h3,h4⟩:=h
 have hk:v<L.length:=(List.getElem?_eq_some_iff.1 hv).1
 obtain⟨cs,ic,dt,hR,QJ⟩:=h2.at_ v hk
 rw[kK hv hk]at hR
 rcases hR with⟨h5,_⟩|⟨id,rfl,_,h6,rfl⟩
 ·subst h5;simp at hl
 ·have:=h4 id (QJ id (by simp))
  exact⟨rows,id,h1,h2.len,dt,h6,this.1,this.2⟩
theorem ND (cnt:Nat) (hn:cnt<=1048576) (bs:List PB) (ok:nu cnt bs) (pW:bs.length<=1048576) (dE:∀e,e<bs.length->0<=(cw bs e).s/\(cw bs e).s<=4) (f:Nat->Int) (x y:Nat) (hx:x<cnt) (hy:y<cnt) (Q8:x≠y) (val:Int) (hf:jZ bs f x y val)
  (X A F:Id) (σ:ar) (nb:Nat) (hS:oe cnt bs f X A F σ.get nb) (qx:nb<=σ.next):
  Call Tryz.prog 238 [.ptr X 0 0,.int .i64 x,.int .i64 y] σ fun r σ'=>∃b f',r=.bool b/\oe cnt bs f' X A F σ'.get nb/\σ.next<=σ'.next/\(∀i:Id,i.bP<nb->(i=F)=False->σ'.get i=σ.get i)/\
   (b=false->f'=f/\∃S:Nat->Bool,S x=true/\S y=false/\val=jg S bs)/\(b=true->jZ bs f' x y (val+1)):=by
 refine eT eB rfl fun hl=>?_
 clear hl
 have CH:(x:Int)<(cnt:Int):=by omega
 have hz:∀(g:Rows),(∀i:Id,i.bP<nb->g i=σ.get i)->cP (dO g) 6 [.ptr X 0 0,.int .i64 (y:Int)]=some [.di (fN cnt bs f),.int .i64 y]:=fun g hg=>by
  have:=(hS.frame hg (Nat.le_refl _)).fz
  simp only[ai,aj,this,aH,Option.map_some]
 (try((repeat(revert hN;revert N;apply Pn.out));refine wk @Nat.zero_add ?_;(repeat(refine Pn.mk ?_;intro N hN))))
 refine .inr (aJ _ _ _ _ _ (fun r σ1 hq=>?_) ((Fv cnt hn bs ok pW f (wS dE hf.le) y hy).x mixed (hz _ (fun i hi=>rfl))))
 obtain⟨⟨out,rfl,Oh⟩,rfl⟩:=hq
 refine hN _ _ ?_
 clear hN N
 have hox:=dK (f:=out) hx
 have tl:=dB out cnt
 by_cases j7:out x<0
 ·(try((repeat(revert hN;revert N;apply Pn.out));refine wk (tw @hox (tw @j7 (tw @CH (tw @tl @bq.eq_1)))) ?_;(repeat(refine Pn.mk ?_;intro N hN))))
  exact fw (.inl rfl) (vs:=[.bool false]) (sd @Nat.zero_add) ⟨false,f,rfl,hS.frame (fun i hi=>rfl) (Nat.le_refl _),by(try dsimp only);omega,fun i _ _=>rfl,fun _=>⟨rfl,Ef Oh ok hf j7⟩,fun h=>by cases h⟩
 (try((repeat(revert hN;revert N;apply Pn.out));refine wk (tw @hox (tw @j7 (tw @CH (tw @tl @bq.eq_1)))) ?_;(repeat(refine Pn.mk ?_;intro N hN))))
 refine aV (fun m env st=>∃(v:Nat) (f':Nat->Int),m=(out v).toNat/\v<cnt/\0<=out v/\env 8=.int .i64 (v:Int)/\oh bs out f f' x v/\oe cnt bs f' X A F st.get nb/\(∀i:Id,i.bP<nb->(i=F)=False->st.get i=σ.get i)/\σ.next<=st.next) (out x).toNat ⟨x,f,rfl,hx,by omega,by(simp only[go_sem, ↓reduceIte,Nat.reduceEqDiff,Nat.reduceAdd,Nat.reduceSub,Nat.reduceLeDiff,reduceCtorEq]),oh.start hf.le,hS.frame (fun i hi=>rfl) (Nat.le_refl _),fun i _ _=>rfl,by(try dsimp only);omega⟩ ?_
 rintro m env_b st_b ⟨v,f',rfl,hv,so,b8,hW,hN1,jB,hle⟩ fW
 have b0:=fW 0 (by kernel_rfl)
 have b2:=fW 2 (by kernel_rfl)
 have b7:=fW 7 (by kernel_rfl)
 simp only[go_sem, ↓reduceIte,Nat.reduceEqDiff,Nat.reduceAdd,Nat.reduceSub,Nat.reduceLeDiff,reduceCtorEq]at b0 b2 b7
 clear fW
 by_cases SI:v=y
 ·have hd:decide ((v:Int)=(y:Int))=true:=decide_eq_true (by rw[SI])
  subst SI
  (try((repeat(revert hN;revert N;apply Pn.out));refine wk (tw @b0 (tw @b2 (tw @b7 (tw @b8 @hd)))) ?_;(repeat(refine Pn.mk ?_;intro N hN))))
  exact fw (.inl rfl) (vs:=[.bool true]) (sd @Nat.zero_add) ⟨true,f',rfl,hN1,by(try dsimp only);omega,jB,fun h=>(by cases h),fun _=>hW.done hf⟩
 have hd:decide ((v:Int)=(y:Int))=false:=decide_eq_false fun h=>SI (by omega)
 have AF:0<out v:=by
  have:=Oh.zero v hv
  rcases Int.lt_or_eq_of_le so with h|h
  ·exact h
  ·exact absurd (this h.symm) SI
 have MC:=hW.goes Oh hv AF
 have hIm:∀ed∈iV bs bs.length v,ed<bs.length/\Ey bs ed v:=fun ed h=>rI.1 h
 have hIL:(ll cnt bs bs.length)[v]? =some (iV bs bs.length v):=by simp[ll,hv]
 have hIl:=rH bs bs.length v
 generalize iV bs bs.length v=I at *
 have hIp:0<I.length:=by
  obtain⟨ed,h,_⟩:=MC
  exact List.length_pos_of_mem h
 obtain⟨rows,id,hgA,sn,lF,hid,hid1,hid2⟩:=hN1.a.at_ hIL hIp
 rw[ju]at sn
 have hgX:=hN1.x
 have Ds:(v:Int)<(cnt:Int):=by omega
 have uF:=dK (f:=out) hv
 have nU:IntKind.i64.wrap (out v-1)=out v-1:=bt (by have:=Oh.lo v hv;omega)
 have qu:(I.map eN).length=I.length:=by simp
 have Ln:=wS dE hW.le
 have lg:∀(g:Rows),(∀i:Id,i.bP<nb->g i=st_b.get i)->∀ed:Nat,cP (dO g) 6 [.ptr X 0 0,.int .i64 (v:Int),.int .i64 (ed:Int)]=some [.di (fN cnt bs f'),.int .i64 v,.int .i64 ed]:=fun g hg ed=>by
  have:=(hN1.frame hg (Nat.le_refl _)).fz
  simp only[ai,aj,this,aH,Option.map_some]
 rw[bq]at uF
 (try((repeat(revert hN;revert N;apply Pn.out));refine wk (tw @b0 (tw @b2 (tw @b7 (tw @b8 @hd)))) ?_;(repeat(refine Pn.mk ?_;intro N hN))))
 refine aV (fun n env st=>∃k:Nat,n=(I.length)-k/\k<=(I.length)/\env 11=.int .i64 (k:Int)/\(∃(tQ EF:Int),env 9=.int .i64 tQ/\env 10=.int .i64 EF/\((tQ<0/\∀z,z<k->¬(0<fE bs f' (I.getD z 0) v/\out (bK bs (I.getD z 0) v)=out v-1))∨∃ed:Nat,ed∈I/\EF=(ed:Int)/\tQ=(bK bs ed v:Int)/\0<fE bs f' ed v/\out (bK bs ed v)=out v-1))/\((∀i:Id,st.get i=st_b.get i)/\st_b.next<=st.next)) (I.length) ⟨0,by omega,by omega,sl (tw @b0 (tw @b2 (tw @b7 @b8))),⟨-1,0,by(simp only[go_sem, ↓reduceIte,Nat.reduceEqDiff,Nat.reduceAdd,Nat.reduceSub,Nat.reduceLeDiff,reduceCtorEq]),by(simp only[go_sem, ↓reduceIte,Nat.reduceEqDiff,Nat.reduceAdd,Nat.reduceSub,Nat.reduceLeDiff,reduceCtorEq]),.inl ⟨by omega,fun z hz=>by omega⟩⟩,⟨fun i=>rfl,by(try dsimp only);omega⟩⟩ ?_
 rintro n_c env_c st_c ⟨k,rfl,cle,nK,cI0,cI1⟩ cfr
 have c0:=cfr 0 (by kernel_rfl);have c2:=cfr 2 (by kernel_rfl);have c7:=cfr 7 (by kernel_rfl);have c8:=cfr 8 (by kernel_rfl)
 simp only[go_sem, ↓reduceIte,Nat.reduceEqDiff,Nat.reduceAdd,Nat.reduceSub,Nat.reduceLeDiff,reduceCtorEq,b0,b2,b7,b8]at c0 c2 c7 c8
 clear cfr
 obtain⟨tQ,EF,c9,jA,Ip⟩:=cI0
 obtain⟨mj,Sh⟩:=cI1
 have Dj:=(mj X).trans hgX
 have Di:=(mj A).trans hgA
 have zD:=(mj id).trans hid
 by_cases hk:(k:Int)<(I.length:Int)
 ·have ig:∀{e:Env} {gg:Rows} {nx:Nat},(e 11=.int .i64 (IntKind.i64.wrap ((k:Int)+1)))->(∃(tQ EF:Int),e 9=.int .i64 tQ/\e 10=.int .i64 EF/\((tQ<0/\∀z,z<(k+1)->¬(0<fE bs f' (I.getD z 0) v/\out (bK bs (I.getD z 0) v)=out v-1))∨∃ed:Nat,ed∈I/\EF=(ed:Int)/\tQ=(bK bs ed v:Int)/\0<fE bs f' ed v/\out (bK bs ed v)=out v-1))->((∀i:Id,gg i=st_b.get i)/\st_b.next<=nx)->∃m0,m0<(I.length)-k/\∃k:Nat,m0=(I.length)-k/\k<=(I.length)/\e 11=.int .i64 (k:Int)/\(∃(tQ EF:Int),e 9=.int .i64 tQ/\e 10=.int .i64 EF/\((tQ<0/\∀z,z<k->¬(0<fE bs f' (I.getD z 0) v/\out (bK bs (I.getD z 0) v)=out v-1))∨∃ed:Nat,ed∈I/\EF=(ed:Int)/\tQ=(bK bs ed v:Int)/\0<fE bs f' ed v/\out (bK bs ed v)=out v-1))/\((∀i:Id,gg i=st_b.get i)/\st_b.next<=nx):=fun x1 x2 x3=>⟨_,by omega,k+1,rfl,by omega,(by rw[x1,az (by omega)]),x2,x3⟩
  have fy:k<I.length:=by omega
  have eQ:(I.map eN)[k]? =some (eN (I.getD k 0)):=getD_map eN fy
  have sP:I.getD k 0∈I:=by rw[List.getD_eq_getElem?_getD,List.getElem?_eq_getElem fy];exact List.getElem_mem fy
  obtain⟨he,pO⟩:=hIm _ sP
  have Of:=JG cnt bs f' Ln (I.getD k 0) v he
  have tJ:=lg st_c.get (fun i _=>mj i) (I.getD k 0)
  have hq:=oR ok (v:=v) he
  have PG:=dK (f:=out) hq
  obtain⟨ed,hed⟩:∃ed,ed=I.getD k 0:=⟨_,rfl⟩
  rw[<-hed]at eQ he pO Of tJ hq PG sP
  rw[bq]at PG
  rw[eN]at eQ
  (try((repeat(revert hN;revert N;apply Pn.out));refine wk (tw @nK (tw @c0 (tw @c2 (tw @c7 (tw @c8 (tw @c9 (tw @jA (tw @hk (tw @Dj (tw @Di (tw @zD (tw @lF (tw @sn (tw @Ds (tw @eQ (tw @qu @bw.eq_1)))))))))))))))) ?_;(repeat(refine Pn.mk ?_;intro N hN))))
  refine .inl ⟨_,aq.x Of tJ,?_⟩
  refine hN _ _ ?_
  clear hN N
  have stay:∀k',k'=k+1->(¬(0<fE bs f' ed v/\out (bK bs ed v)=out v-1))->((tQ<0/\∀z,z<k'->¬(0<fE bs f' (I.getD z 0) v/\out (bK bs (I.getD z 0) v)=out v-1))∨∃ed:Nat,ed∈I/\EF=(ed:Int)/\tQ=(bK bs ed v:Int)/\0<fE bs f' ed v/\out (bK bs ed v)=out v-1):=fun k' Gb lk=>by
   rcases Ip with⟨h1,h2⟩|h
   ·refine .inl ⟨h1,fun z hz=>?_⟩
    by_cases Du:z=k
    ·subst Du;rw[<-hed];exact lk
    ·exact h2 z (by omega)
   ·exact .inr h
  by_cases hr:0<fE bs f' ed v
  ·by_cases Kr:out (bK bs ed v)=out v-1
   ·have nO:decide (out (bK bs ed v)=out v-1)=true:=decide_eq_true Kr
    have found:∃Qc:Nat,Qc∈I/\(ed:Int)=(Qc:Int)/\(bK bs ed v:Int)=(bK bs Qc v:Int)/\0<fE bs f' Qc v/\out (bK bs Qc v)=out v-1:=⟨ed,sP,rfl,rfl,hr,Kr⟩
    by_cases Hn:tQ<0
    ·(try((repeat(revert hN;revert N;apply Pn.out));refine wk (tw @nK (tw @c0 (tw @c2 (tw @c7 (tw @c8 (tw @c9 (tw @jA (tw @hk (tw @Dj (tw @Di (tw @zD (tw @lF (tw @sn (tw @Ds (tw @eQ (tw @qu (tw @hr (tw @PG (tw @uF (tw @nU (tw @nO (tw @Hn @bw.eq_1)))))))))))))))))))))) ?_;(repeat(refine Pn.mk ?_;intro N hN))))
     exact ig (sd (tw @nK (tw @c0 (tw @c2 (tw @c7 @c8))))) (⟨_,_,sd @Nat.zero_add,sd @Nat.zero_add,.inr found⟩) (⟨mj,by(try dsimp only);omega⟩)
    ·by_cases dQ:(bK bs ed v:Int)<tQ
     ·(try((repeat(revert hN;revert N;apply Pn.out));refine wk (tw @nK (tw @c0 (tw @c2 (tw @c7 (tw @c8 (tw @c9 (tw @jA (tw @hk (tw @Dj (tw @Di (tw @zD (tw @lF (tw @sn (tw @Ds (tw @eQ (tw @qu (tw @hr (tw @PG (tw @uF (tw @nU (tw @nO (tw @Hn (tw @dQ @bw.eq_1))))))))))))))))))))))) ?_;(repeat(refine Pn.mk ?_;intro N hN))))
      exact ig (sd (tw @nK (tw @c0 (tw @c2 (tw @c7 @c8))))) (⟨_,_,sd @Nat.zero_add,sd @Nat.zero_add,.inr found⟩) (⟨mj,by(try dsimp only);omega⟩)
     ·(try((repeat(revert hN;revert N;apply Pn.out));refine wk (tw @nK (tw @c0 (tw @c2 (tw @c7 (tw @c8 (tw @c9 (tw @jA (tw @hk (tw @Dj (tw @Di (tw @zD (tw @lF (tw @sn (tw @Ds (tw @eQ (tw @qu (tw @hr (tw @PG (tw @uF (tw @nU (tw @nO (tw @Hn (tw @dQ @bw.eq_1))))))))))))))))))))))) ?_;(repeat(refine Pn.mk ?_;intro N hN))))
      exact ig (sd (tw @nK (tw @c0 (tw @c2 (tw @c7 @c8))))) (⟨tQ,EF,sd @c9,sd @jA,by
       rcases Ip with⟨h1,_⟩|h
       ·exact absurd h1 Hn
       ·exact .inr h⟩) (⟨mj,by(try dsimp only);omega⟩)
   ·have nO:decide (out (bK bs ed v)=out v-1)=false:=decide_eq_false Kr
    (try((repeat(revert hN;revert N;apply Pn.out));refine wk (tw @nK (tw @c0 (tw @c2 (tw @c7 (tw @c8 (tw @c9 (tw @jA (tw @hk (tw @Dj (tw @Di (tw @zD (tw @lF (tw @sn (tw @Ds (tw @eQ (tw @qu (tw @hr (tw @PG (tw @uF (tw @nU (tw @nO @bw.eq_1))))))))))))))))))))) ?_;(repeat(refine Pn.mk ?_;intro N hN))))
    exact ig (sd (tw @nK (tw @c0 (tw @c2 (tw @c7 @c8))))) (⟨tQ,EF,sd @c9,sd @jA,stay _ rfl fun h=>Kr h.2⟩) (⟨mj,by(try dsimp only);omega⟩)
  ·(try((repeat(revert hN;revert N;apply Pn.out));refine wk (tw @nK (tw @c0 (tw @c2 (tw @c7 (tw @c8 (tw @c9 (tw @jA (tw @hk (tw @Dj (tw @Di (tw @zD (tw @lF (tw @sn (tw @Ds (tw @eQ (tw @qu (tw @hr @bw.eq_1))))))))))))))))) ?_;(repeat(refine Pn.mk ?_;intro N hN))))
   exact ig (sd (tw @nK (tw @c0 (tw @c2 (tw @c7 @c8))))) (⟨tQ,EF,sd @c9,sd @jA,stay _ rfl fun h=>hr h.1⟩) (⟨mj,by(try dsimp only);omega⟩)
 ·have l6:k=I.length:=by omega
  have TZ:∃ed:Nat,ed∈I/\EF=(ed:Int)/\tQ=(bK bs ed v:Int)/\0<fE bs f' ed v/\out (bK bs ed v)=out v-1:=by
   rcases Ip with⟨h1,h2⟩|h
   ·exfalso
    obtain⟨ed,he,hq⟩:=MC
    obtain⟨z,hz,rfl⟩:=List.getElem_of_mem he
    refine h2 z (by omega) ?_
    rw[List.getD_eq_getElem?_getD,List.getElem?_eq_getElem hz];exact hq
   ·exact h
  obtain⟨ed,sP,rfl,rfl,hr,Kr⟩:=TZ
  obtain⟨he,pO⟩:=hIm _ sP
  (try((repeat(revert hN;revert N;apply Pn.out));refine wk (tw @nK (tw @c0 (tw @c2 (tw @c7 (tw @c8 (tw @c9 (tw @jA (tw @hk (tw @Dj (tw @Di (tw @zD (tw @lF (tw @sn (tw @Ds (tw @qu @bw.eq_1))))))))))))))) ?_;(repeat(refine Pn.mk ?_;intro N hN))))
  refine .inr (aJ _ _ _ _ _ (fun r σ1 hq=>?_) (OH cnt bs f' Ln ed v he X A F ⟨st_c.get,_⟩ nb (hN1.frame (fun i _=>mj i) (Nat.le_refl _)) (by(try dsimp only);omega)))
  obtain⟨R9,mV,Iw⟩:=hq
  (try dsimp only at mV Iw)
  refine hN _ _ ?_
  clear hN N
  (try((repeat(revert hN;revert N;apply Pn.out));refine wk (tw @nK (tw @c0 (tw @c2 (tw @c7 (tw @c8 @c9))))) ?_;(repeat(refine Pn.mk ?_;intro N hN))))
  refine⟨_,?_,bK bs ed v,tR bs f' ed v,rfl,oR ok he,by omega,sd @Nat.zero_add,hW.step he pO hr Kr,R9,fun i hi hF=>by rw[Iw i hF,mj i,jB i hi hF],by(try dsimp only);omega⟩
  omega
end Go.Proofs.YtgoelphibofcmaaGreat.V

namespace Go.Proofs.YtgoelphibofcmaaGreat.V
open Go.RowKit
attribute [local irreducible] dI wpOps gD Call
attribute [local go_sem] aM fM eP gp gm cN upd cD K.av cR AV.cells AV.cell rowOf rowsOf part ld rowAt bz cu dG ef ik bQ dh eA gj e9 dq ek dd dc dU dV bW bf cW bV cY cX ei eo ej cV ck de eh bU aT da cG ij bx cQ b4 aY dn bc dH AV.undef bF bI eb ee dP dM cJ ez eE cF er ep cZ db List.getD_cons_zero List.getD_cons_succ List.getD_nil List.all_cons List.all_nil Bool.and_true Bool.true_and Bool.and_self Bool.not_true Bool.not_false Option.map_some Option.map_none Option.bind_some Option.bind_none List.length_cons List.length_nil List.take_succ_cons List.take_zero List.take_nil List.drop_succ_cons List.drop_zero List.drop_nil List.head?_cons List.map_cons List.map_nil List.getElem?_cons_zero List.getElem?_cons_succ List.cons_append List.nil_append List.append_nil List.length_map List.set_cons_zero List.set_cons_succ Nat.reduceMul eq_self Int.toNat_natCast Int.natCast_nonneg and_self true_and and_true decide_true decide_false Bool.false_eq_true Nat.zero_add Nat.add_zero List.contains_cons List.contains_nil Bool.or_false Bool.false_or beq_self_eq_true Nat.reduceBEq ne_eq not_true_eq_false not_false_eq_true Id.mk.injEq false_and and_false Nat.reduceLT Int.reduceLE Int.reduceLT Int.reduceToNat Int.reduceNeg Int.reduceAdd Nat.le_refl List.length_append beq_true beq_false Bool.not_eq_eq_eq_not or_false false_or dO ai aj aH bp bE cz aX bl aW bj cU bH
def tn (P:Program) (f:Nat) (args:List AV) (R:AV->Prop):Prop:=∀σ:ar,Call P f args ⟨V.ro σ.get,σ.next⟩ fun r0 σ'=>∃r',V.fz σ'.get 6 r0=some r'/\R r'
theorem Da {P:Program} {f:Nat} {args:List AV} {g:Rows} {n:Nat} {R:AV->Prop} (h:Sound P f args ⟨V.ro g,n⟩ fun r0 σ'=>∃r',V.fz σ'.get 6 r0=some r'/\R r'):Sound P f args ⟨g,n⟩ fun r σ'=>R r/\σ'=⟨g,n⟩:=by
 intro hs D ι w vs S U A
 refine(AJ (g0:=g) (K:=R) h (fun _ _ h=>h) S U A).mono ?_
 rintro e w' ⟨r,D',u,rfl,hR,T,S',hr⟩
 exact⟨r,g,n,D',ι,u,rfl,⟨hR,rfl⟩,T,S',U,Nat.le_refl _,hr⟩
theorem tn.x {P:Program} (hm:P.follows .mixedOrders=true) {f:Nat} {args:List AV} {R:AV->Prop} (h:tn P f args R) {σ:ar}:Call P f args σ fun r σ'=>R r/\σ'=σ:=
 gM (Da (gn hm (h σ)))
theorem tn.body {P:Program} {f:Nat} {args:List AV} {R:AV->Prop} {nt na:Nat} {body:VC} {res:List nH} (hf:l5 P f=some ⟨nt,na,body,res⟩) (ha:na=args.length) (h:(∀a∈args,eG a)->∀σ:ar,dI (Call P) body (kz res fun r0 σ'=>∃r',V.fz σ'.get 6 r0=some r'/\R r') (cD args) ⟨V.ro σ.get,σ.next⟩):tn P f args R:=fun σ=>l9 hf ha fun hl=>h hl σ
theorem LF {g:Rows} {rows:List (List AV)} {xs:List (List Nat)} {ids:List Id} (n:Nat) (h:eH Pp g rows xs ids):dZ g (n+2) rows=some (xs.map fun l=>[OQ l]):=by
 induction h with
 |nil=>rw[dZ];rfl
 |cons h1 _ ih=>
  rename_i x _ _ _ _ _
  rcases h1 with⟨h0,h1,_⟩|⟨id,h1,h0,h2,_⟩
  ·subst h0 h1;rw[dZ,ih,ai,aj,aX];rfl
  ·have gW:x≠[]:=by rintro rfl;simp at h0
   subst h1
   rw[dZ,ih,ai,aj,gP (e:=eN) (sz:=1) h2 rfl fun a=>fzN _ n a]
   simp[OQ,gW]
theorem oe.fz0 {cnt:Nat} {bs:List PB} {f:Nat->Int} {X A F:Id} {g:Rows} {nx:Nat} (h:oe cnt bs f X A F g nx):V.fz g 5 (.ptr X 0 0)=some (.di (fN cnt bs f)):=by
 have hf:V.fz g 4 (.own F 0 bs.length)=some (.sl (dS f bs.length)):=by
  rw[iw]
  simp only[h.f,if_true]
  rw[if_pos (by rw[dB];omega),List.drop_zero,List.take_of_length_le (by rw[dB];omega),Ak];rfl
 have ha:V.fz g 4 (.own A 0 cnt)=some (.sl (qc cnt bs bs.length)):=by
  obtain⟨rows,ids,h1,h2,_,_⟩:=h.a
  have hl:=h2.len
  rw[ju]at hl
  rw[iw]
  simp only[h1,if_true]
  rw[if_pos (by omega),List.drop_zero,List.take_of_length_le (by omega),LF 1 h2]
  simp[ll,qc]
 rw[bj]
 simp only[h.x,if_true,List.getElem?_cons_zero,List.drop_zero,bw,ai,aj,aH,cz,ha,hf,Option.map_some,fN]
theorem EG {S:Nat->Bool}:∀bs:List PB,(∀b∈bs,b.s<=4)->jg S bs<=4*bs.length
 |[],_=>by simp[jg]
 |b::bs,h=>by
  rw[sF]
  have:=EG (S:=S) bs fun x hx=>h x (List.mem_cons_of_mem _ hx)
  have:=h b (by simp)
  simp only[List.length_cons]
  split<;>omega
theorem jZ.zero {bs:List PB} {x y:Nat} (h:∀e,e<bs.length->0<=(cw bs e).s/\(cw bs e).s<=4):jZ bs (fun _=>0) x y 0:=
 ⟨fun i hi=>by have:=h i hi;omega,fun S _ _=>jU fun i _=>by simp⟩
theorem KJ {bs:List PB} {b:PB} (h:b∈bs):∃e,e<bs.length/\cw bs e=b:=by
 obtain⟨e,he,rfl⟩:=List.getElem_of_mem h
 exact⟨e,he,by simp[cw,List.getD_eq_getElem?_getD,he]⟩
theorem Gr (cnt:Nat) (hn:cnt<=1048576) (bs:List PB) (ok:nu cnt bs) (pW:bs.length<=1048576) (dE:∀e,e<bs.length->0<=(cw bs e).s/\(cw bs e).s<=4) (x y:Nat) (hx:x<cnt) (hy:y<cnt) (Q8:x≠y):
  tn Tryz.prog 218 [.int .i64 cnt,.sl (bs.map ay),.int .i64 x,.int .i64 y] fun r=>∃f val,r=.gK [.di (fN cnt bs f),.int .i64 val]/\jZ bs f x y val/\∃S:Nat->Bool,S x=true/\S y=false/\val=jg S bs:=by
 refine tn.body eB rfl fun hl σ=>?_
 clear hl
 (try((repeat(revert hN;revert N;apply Pn.out));refine wk @Nat.zero_add ?_;(repeat(refine Pn.mk ?_;intro N hN))))
 refine .inr (aJ _ _ _ _ _ (fun r σ1 hq=>?_) (I3 cnt hn bs ok pW _))
 obtain⟨X,A,F,rfl,hX,hS⟩:=hq
 refine hN _ _ ?_
 clear hN N
 have hS0:∀f val,jZ bs f x y val->val<=jg (fun v=>decide (v=x)) bs:=fun f val hf=>hf.bound (decide_eq_true rfl) (decide_eq_false fun h=>Q8 h.symm)
 have htot:=EG (S:=fun v=>decide (v=x)) bs fun b hb=>by
  obtain⟨e,he,rfl⟩:=KJ hb
  exact(dE e he).2
 generalize jg (fun v=>decide (v=x)) bs=T at *
 (try((repeat(revert hN;revert N;apply Pn.out));refine wk @Nat.zero_add ?_;(repeat(refine Pn.mk ?_;intro N hN))))
 refine aV (fun m env st=>∃(f:Nat->Int) (val:Int),m=(T-val).toNat/\0<=val/\env 10=.ptr X 0 0/\env 11=.int .i64 val/\jZ bs f x y val/\oe cnt bs f X A F st.get σ1.next/\σ1.next<=st.next) T.toNat ⟨_,0,by simp,by omega,by(simp only[go_sem, ↓reduceIte,Nat.reduceEqDiff,Nat.reduceAdd,Nat.reduceSub,Nat.reduceLeDiff,reduceCtorEq]),by(simp only[go_sem, ↓reduceIte,Nat.reduceEqDiff,Nat.reduceAdd,Nat.reduceSub,Nat.reduceLeDiff,reduceCtorEq]),jZ.zero dE,hS.frame (fun i hi=>rfl) (Nat.le_refl _),by(try dsimp only);omega⟩ ?_
 rintro m env_b st_b ⟨f,val,rfl,so,b10,b11,hf,hN1,hle⟩ fW
 have b2:=fW 2 (by kernel_rfl)
 have b3:=fW 3 (by kernel_rfl)
 simp only[go_sem, ↓reduceIte,Nat.reduceEqDiff,Nat.reduceAdd,Nat.reduceSub,Nat.reduceLeDiff,reduceCtorEq]at b2 b3
 clear fW
 (try((repeat(revert hN;revert N;apply Pn.out));refine wk (tw @b2 (tw @b3 @b10)) ?_;(repeat(refine Pn.mk ?_;intro N hN))))
 refine .inr (aJ _ _ _ _ _ (fun r σ2 hq=>?_) (ND cnt hn bs ok pW dE f x y hx hy Q8 val hf X A F ⟨st_b.get,_⟩ σ1.next hN1 (by(try dsimp only);omega)))
 obtain⟨b,f',rfl,R9,mV,_,lk,UM⟩:=hq
 (try dsimp only at mV)
 refine hN _ _ ?_
 clear hN N
 cases b with
 |true=>
  have kr:=UM rfl
  have Ko:=hS0 _ _ hf
  have F5:=hS0 _ _ kr
  have hw:IntKind.i64.wrap (val+1)=val+1:=bt (by omega)
  (try((repeat(revert hN;revert N;apply Pn.out));refine wk (tw @b10 (tw @b11 @hw)) ?_;(repeat(refine Pn.mk ?_;intro N hN))))
  exact⟨_,by omega,f',val+1,rfl,by omega,sd @b10,sd (tw @b11 @hw),kr,R9,by(try dsimp only);omega⟩
 |false=>
  obtain⟨rfl,S,h1,h2,h3⟩:=lk rfl
  (try((repeat(revert hN;revert N;apply Pn.out));refine wk (tw @b10 @b11) ?_;(repeat(refine Pn.mk ?_;intro N hN))))
  have hz:=R9.fz0
  exact⟨[.ptr X 0 0,.int .i64 val],sd @Nat.zero_add,.gK [.di (fN cnt bs f'),.int .i64 val],by simp only[fe,bH,ai,aj,hz,aH,Option.map_some],f',val,rfl,hf,S,h1,h2,h3⟩
theorem Gs (cnt:Nat) (hn:cnt<=1048576) (bs:List PB) (ok:nu cnt bs) (pW:bs.length<=1048576) (f:Nat->Int) (hs:Small bs f) (y:Nat) (hy:y<cnt):
  l8 Tryz.prog 219 [.di (fN cnt bs f),.int .i64 y] fun r=>∃l:List Nat,r=.sl (l.map eN)/\l.length<=cnt:=by
 refine l8.body eB rfl fun hl n0=>?_
 clear hl
 have hz:∀g:Rows,cP (dO g) 6 [.di (fN cnt bs f),.int .i64 (y:Int)]=some [.di (fN cnt bs f),.int .i64 y]:=fun g=>by simp only[ai,aj,aW,aH,Option.map_some]
 (try((repeat(revert hN;revert N;apply Pn.out));refine wk @Nat.zero_add ?_;(repeat(refine Pn.mk ?_;intro N hN))))
 refine .inr (aJ _ _ _ _ _ (fun r σ1 hq=>?_) ((Fv cnt hn bs ok pW f hs y hy).x mixed (hz _)))
 obtain⟨⟨out,rfl,Oh⟩,rfl⟩:=hq
 refine hN _ _ ?_
 clear hN N
 (try((repeat(revert hN;revert N;apply Pn.out));refine wk @fN.eq_1 ?_;(repeat(refine Pn.mk ?_;intro N hN))))
 refine aV (fun n env st=>∃k:Nat,n=(cnt)-k/\k<=(cnt)/\env 7=.int .i64 (k:Int)/\(∃(o:Id) (l:List Nat),env 6=.own o 0 l.length/\st.get o=some ⟨true,1,l.map eN⟩/\o.bP<st.next/\l.length<=k)) (cnt) ⟨0,by omega,by omega,sl @fN.eq_1,⟨⟨219002000,n0+1+1+1⟩,[],by(simp only[go_sem, ↓reduceIte,Nat.reduceEqDiff,Nat.reduceAdd,Nat.reduceSub,Nat.reduceLeDiff,reduceCtorEq])<;>rfl,by(simp only[go_sem, ↓reduceIte,Nat.reduceEqDiff,Nat.reduceAdd,Nat.reduceSub,Nat.reduceLeDiff,reduceCtorEq])<;>rfl,by(try dsimp only);omega,by simp⟩⟩ ?_
 rintro n_a env_a st_a ⟨k,rfl,ale,a7,lQ⟩ dD
 have a0:=dD 0 (by kernel_rfl);have a5:=dD 5 (by kernel_rfl)
 simp only[go_sem, ↓reduceIte,Nat.reduceEqDiff,Nat.reduceAdd,Nat.reduceSub,Nat.reduceLeDiff,reduceCtorEq,fN]at a0 a5
 clear dD
 obtain⟨o,l,a6,ag,uF,E4⟩:=lQ
 have so:=dw uF
 have lE:(l.map eN).length=l.length:=by simp
 by_cases hk:(k:Int)<(cnt:Int)
 ·have cC:∀{e:Env} {gg:Rows} {nx:Nat},(e 7=.int .i64 (IntKind.i64.wrap ((k:Int)+1)))->(∃(o:Id) (l:List Nat),e 6=.own o 0 l.length/\gg o=some ⟨true,1,l.map eN⟩/\o.bP<nx/\l.length<=(k+1))->∃m0,m0<(cnt)-k/\∃k:Nat,m0=(cnt)-k/\k<=(cnt)/\e 7=.int .i64 (k:Int)/\(∃(o:Id) (l:List Nat),e 6=.own o 0 l.length/\gg o=some ⟨true,1,l.map eN⟩/\o.bP<nx/\l.length<=k):=fun x1 x2=>⟨_,by omega,k+1,rfl,by omega,(by rw[x1,az (by omega)]),x2⟩
  have vW:=dK (f:=out) (show k<cnt by omega)
  rw[bq]at vW
  have e1:l.length+1<=16777216:=by omega
  by_cases h0:0<=out k
  ·(try((repeat(revert hN;revert N;apply Pn.out));refine wk (tw @a7 (tw @a0 (tw @a5 (tw @a6 (tw @ag (tw @so (tw @hk (tw @vW (tw @h0 (tw @e1 (tw @lE @fN.eq_1))))))))))) ?_;(repeat(refine Pn.mk ?_;intro N hN))))
   exact cC (sd (tw @a7 (tw @a0 (tw @a5 @fN.eq_1)))) (⟨⟨219007003,st_a.next+1+1⟩,l++[k],by rw[List.length_append];simp only[go_sem, ↓reduceIte,Nat.reduceEqDiff,Nat.reduceAdd,Nat.reduceSub,Nat.reduceLeDiff,reduceCtorEq,List.length_cons,List.length_nil],by rw[List.map_append,List.map_cons,List.map_nil];simp only[go_sem, ↓reduceIte,Nat.reduceEqDiff,Nat.reduceAdd,Nat.reduceSub,Nat.reduceLeDiff,reduceCtorEq,eN],by(try dsimp only);omega,by simp;omega⟩)
  ·(try((repeat(revert hN;revert N;apply Pn.out));refine wk (tw @a7 (tw @a0 (tw @a5 (tw @a6 (tw @ag (tw @so (tw @hk (tw @vW (tw @h0 (tw @lE @fN.eq_1)))))))))) ?_;(repeat(refine Pn.mk ?_;intro N hN))))
   exact cC (sd (tw @a7 (tw @a0 (tw @a5 @fN.eq_1)))) (⟨o,l,sd @a6,sd @ag,by(try dsimp only);omega,by omega⟩)
 ·(try((repeat(revert hN;revert N;apply Pn.out));refine wk (tw @a7 (tw @a0 (tw @a5 (tw @a6 (tw @hk @fN.eq_1))))) ?_;(repeat(refine Pn.mk ?_;intro N hN))))
  have sM:gu st_a.get 6 (.own o 0 l.length)=some (.sl (l.map eN)):=fD ag rfl fun b=>NA _ 4 b
  exact⟨_,rfl,_,by simp only[go_sem, ↓reduceIte,Nat.reduceEqDiff,Nat.reduceAdd,Nat.reduceSub,Nat.reduceLeDiff,reduceCtorEq,fe];exact sM,l,rfl,by omega⟩
end Go.Proofs.YtgoelphibofcmaaGreat.V

namespace Go.Proofs.YtgoelphibofcmaaGreat.V
open Go.RowKit
attribute [local irreducible] dI wpOps gD Call
attribute [local go_sem] aM fM eP gp gm cN upd cD K.av cR AV.cells AV.cell rowOf rowsOf part ld rowAt bz cu dG ef ik bQ dh eA gj e9 dq ek dd dc dU dV bW bf cW bV cY cX ei eo ej cV ck de eh bU aT da cG ij bx cQ b4 aY dn bc dH AV.undef bF bI eb ee dP dM cJ ez eE cF er ep cZ db List.getD_cons_zero List.getD_cons_succ List.getD_nil List.all_cons List.all_nil Bool.and_true Bool.true_and Bool.and_self Bool.not_true Bool.not_false Option.map_some Option.map_none Option.bind_some Option.bind_none List.length_cons List.length_nil List.take_succ_cons List.take_zero List.take_nil List.drop_succ_cons List.drop_zero List.drop_nil List.head?_cons List.map_cons List.map_nil List.getElem?_cons_zero List.getElem?_cons_succ List.cons_append List.nil_append List.append_nil List.length_map List.set_cons_zero List.set_cons_succ Nat.reduceMul eq_self Int.toNat_natCast Int.natCast_nonneg and_self true_and and_true decide_true decide_false Bool.false_eq_true Nat.zero_add Nat.add_zero List.contains_cons List.contains_nil Bool.or_false Bool.false_or beq_self_eq_true Nat.reduceBEq ne_eq not_true_eq_false not_false_eq_true Id.mk.injEq false_and and_false Nat.reduceLT Int.reduceLE Int.reduceLT Int.reduceToNat Int.reduceNeg Int.reduceAdd Nat.le_refl List.length_append beq_true beq_false Bool.not_eq_eq_eq_not or_false false_or dO ai aj aH bp bE cz aX bl aW bj cU bH
theorem BN (v1 v2:Int) (l1 l2:List Nat) (h1:l1.length<=1048576) (h2:l2.length<=1048576):
  l8 Tryz.prog 220 [.int .i64 v1,.sl (l1.map eN),.int .i64 v2,.sl (l2.map eN)] fun r=>∃b,r=.bool b/\(v1<v2->b=true)/\(v2<v1->b=false):=by
 refine l8.body eB rfl fun hl n0=>?_
 clear hl
 have ret:∀{t:Nat} {env:Env} {σ:ar} {b:Bool} {x:Ex},(x=.ret∨x=.normal)->env t=.bool b->((v1<v2->b=true)/\(v2<v1->b=false))->kz [.tmp t] (fun r0 σ'=>∃r',gu σ'.get 6 r0=some r'/\∃b,r'=.bool b/\(v1<v2->b=true)/\(v2<v1->b=false)) x env σ:=by
  intro t env σ b x hx he hb
  have:∃vs,fq env σ.get [.tmp t]=some vs/\∃r',gu σ.get 6 (fe vs)=some r'/\∃b,r'=.bool b/\(v1<v2->b=true)/\(v2<v1->b=false):=⟨[env t],rfl,.bool b,by rw[he];exact fI _ _ _,b,rfl,hb⟩
  rcases hx with rfl|rfl
  ·exact this
  ·exact this
 have m1:(l1.map eN).length=l1.length:=by simp
 have m2:(l2.map eN).length=l2.length:=by simp
 by_cases hv:v1=v2
 ·have hd:decide (v1=v2)=true:=decide_eq_true hv
  by_cases E4:(l1.length:Int)=(l2.length:Int)
  ·have nO:decide ((l1.length:Int)=(l2.length:Int))=true:=decide_eq_true E4
   have Qy:decide (l1.length=l2.length)=true:=decide_eq_true (by omega)
   (try((repeat(revert hN;revert N;apply Pn.out));refine wk (tw @hd (tw @nO (tw @Qy (tw @m1 @m2)))) ?_;(repeat(refine Pn.mk ?_;intro N hN))))
   refine aV (fun n env st=>∃k:Nat,n=(l1.length)-k/\k<=(l1.length)/\env 9=.int .i64 (k:Int)) (l1.length) ⟨0,by omega,by omega,sl @Nat.zero_add⟩ ?_
   rintro n_a env_a st_a ⟨k,rfl,ale,a9⟩ dD
   have a1:=dD 1 (by kernel_rfl);have a3:=dD 3 (by kernel_rfl)
   simp only[go_sem, ↓reduceIte,Nat.reduceEqDiff,Nat.reduceAdd,Nat.reduceSub,Nat.reduceLeDiff,reduceCtorEq]at a1 a3
   clear dD
   by_cases hk:(k:Int)<(l1.length:Int)
   ·have cC:∀{e:Env},(e 9=.int .i64 (IntKind.i64.wrap ((k:Int)+1)))->∃m0,m0<(l1.length)-k/\∃k:Nat,m0=(l1.length)-k/\k<=(l1.length)/\e 9=.int .i64 (k:Int):=fun x1=>⟨_,by omega,k+1,rfl,by omega,(by rw[x1,az (by omega)])⟩
    have g1:(l1.map eN)[k]? =some (eN (l1.getD k 0)):=getD_map eN (by omega)
    have g2:(l2.map eN)[k]? =some (eN (l2.getD k 0)):=getD_map eN (by omega)
    rw[eN]at g1 g2
    by_cases he:((l1.getD k 0:Nat):Int)=((l2.getD k 0:Nat):Int)
    ·have Qz:decide (((l1.getD k 0:Nat):Int)=((l2.getD k 0:Nat):Int))=true:=decide_eq_true he
     have TR:decide (l1.getD k 0=l2.getD k 0)=true:=decide_eq_true (by omega)
     (try((repeat(revert hN;revert N;apply Pn.out));refine wk (tw @a9 (tw @a1 (tw @a3 (tw @hk (tw @m1 (tw @g1 (tw @g2 (tw @Qz @TR)))))))) ?_;(repeat(refine Pn.mk ?_;intro N hN))))
     exact cC (sd (tw @a9 (tw @a1 @a3)))
    ·have Qz:decide (((l1.getD k 0:Nat):Int)=((l2.getD k 0:Nat):Int))=false:=decide_eq_false he
     have TR:decide (l1.getD k 0=l2.getD k 0)=false:=decide_eq_false (by omega)
     (try((repeat(revert hN;revert N;apply Pn.out));refine wk (tw @a9 (tw @a1 (tw @a3 (tw @hk (tw @m1 (tw @g1 (tw @g2 (tw @Qz @TR)))))))) ?_;(repeat(refine Pn.mk ?_;intro N hN))))
     exact ret (.inl rfl) (by simp only[go_sem, ↓reduceIte,Nat.reduceEqDiff,Nat.reduceAdd,Nat.reduceSub,Nat.reduceLeDiff,reduceCtorEq];rfl) ⟨fun h=>by omega,fun h=>by omega⟩
   ·(try((repeat(revert hN;revert N;apply Pn.out));refine wk (tw @a9 (tw @a1 (tw @a3 (tw @hk @m1)))) ?_;(repeat(refine Pn.mk ?_;intro N hN))))
    exact ret (b:=false) (.inl rfl) (sd @Nat.zero_add) ⟨fun h=>by omega,fun h=>by omega⟩
  ·have nO:decide ((l1.length:Int)=(l2.length:Int))=false:=decide_eq_false E4
   have Qy:decide (l1.length=l2.length)=false:=decide_eq_false (by omega)
   (try((repeat(revert hN;revert N;apply Pn.out));refine wk (tw @hd (tw @nO (tw @Qy (tw @m1 @m2)))) ?_;(repeat(refine Pn.mk ?_;intro N hN))))
   exact ret (.inl rfl) (by simp only[go_sem, ↓reduceIte,Nat.reduceEqDiff,Nat.reduceAdd,Nat.reduceSub,Nat.reduceLeDiff,reduceCtorEq];rfl) ⟨fun h=>by omega,fun h=>by omega⟩
 ·have hd:decide (v1=v2)=false:=decide_eq_false hv
  (try((repeat(revert hN;revert N;apply Pn.out));refine wk @hd ?_;(repeat(refine Pn.mk ?_;intro N hN))))
  exact ret (b:=decide (v1<v2)) (.inl rfl) (sd @Nat.zero_add) ⟨fun h=>decide_eq_true h,fun h=>decide_eq_false (by omega)⟩
def uP (bs:List PB) (cnt:Nat) (jo:Int) (k:Nat):Prop:=(k=1/\jo= -1)∨(0<=jo/\(∀z,1<=z->z<k->∀S:Nat->Bool,S 0=true->S z=false->jo<=jg S bs)/\∃S:Nat->Bool,S 0=true/\(∃z,z<cnt/\S z=false)/\jo=jg S bs)
theorem jZ.nn {bs:List PB} {val:Int} {S:Nat->Bool} (dE:∀e,e<bs.length->0<=(cw bs e).s/\(cw bs e).s<=4) (h:val=jg S bs):0<=val:=by
 rw[h,vk]
 have:=r4 (f:=fun _=>0) (g:=fun i=>if S (cw bs i).a=S (cw bs i).b then 0 else(cw bs i).s) (n:=bs.length) fun i hi=>by
  have:=dE i hi
  split<;>omega
 rw[jU fun _ _=>rfl]at this
 exact this
theorem uP.done {bs:List PB} {cnt:Nat} {jo:Int} (hc:2<=cnt) (h:uP bs cnt jo cnt) (t:Int):t<=jo↔kF cnt bs t:=by
 rcases h with⟨h,_⟩|⟨_,h1,S,h2,⟨z,hz,lg⟩,h3⟩
 ·omega
 ·constructor
  ·intro ht S h0 ⟨y,hy,hy2⟩
   have:y≠0:=by rintro rfl;rw[h0]at hy2;cases hy2
   have:=h1 y (by omega) hy S h0 hy2
   omega
  ·intro hH
   rw[h3];exact hH S h2 ⟨z,hz,lg⟩
theorem zL (cnt:Nat) (h2:2<=cnt) (hn:cnt<=1048576) (bs:List PB) (ok:nu cnt bs) (pW:bs.length<=1048576) (dE:∀e,e<bs.length->0<=(cw bs e).s/\(cw bs e).s<=4):
  tn Tryz.prog 194 [.int .i64 cnt,.sl (bs.map ay)] fun r=>∃jo p,r=.gK [.int .i64 jo,p]/\∀t:Int,t<=jo↔kF cnt bs t:=by
 refine tn.body eB rfl fun hl σ=>?_
 clear hl
 (try((repeat(revert hN;revert N;apply Pn.out));refine wk @Nat.zero_add ?_;(repeat(refine Pn.mk ?_;intro N hN))))
 have z0:∀(g:Rows) (id:Id),g id=some ⟨true,1,[]⟩->V.fz (dO g) 6 (.own id 0 0)=some (.sl (([]:List Nat).map eN))/\V.fz g 5 (.own id 0 0)=some (.sl (([]:List Nat).map eN)):=fun g id h=>by
  have h':dO g id=some ⟨true,1,[]⟩:=by simp[dO,h]
  constructor
  ·rw[iw];simp only[h',if_true];rw[if_pos (by simp)];simp[oI]
  ·rw[iw];simp only[h,if_true];rw[if_pos (by simp)];simp[oI]
 refine aV (fun m env st=>∃(k:Nat) (jo:Int) (l:List Nat) (p:AV),m=cnt-k/\1<=k/\k<=cnt/\env 8=.int .i64 (k:Int)/\env 6=.int .i64 jo/\env 7=p/\V.fz (dO st.get) 6 p=some (.sl (l.map eN))/\V.fz st.get 5 p=some (.sl (l.map eN))/\l.length<=cnt/\uP bs cnt jo k) (cnt-1) ⟨1,-1,[],.own ⟨194002000,σ.next+1+1⟩ 0 0,rfl,by omega,by omega,by(simp only[go_sem, ↓reduceIte,Nat.reduceEqDiff,Nat.reduceAdd,Nat.reduceSub,Nat.reduceLeDiff,reduceCtorEq])<;>rfl,by(simp only[go_sem, ↓reduceIte,Nat.reduceEqDiff,Nat.reduceAdd,Nat.reduceSub,Nat.reduceLeDiff,reduceCtorEq])<;>rfl,by(simp only[go_sem, ↓reduceIte,Nat.reduceEqDiff,Nat.reduceAdd,Nat.reduceSub,Nat.reduceLeDiff,reduceCtorEq])<;>rfl,(z0 _ _ (sd @Nat.zero_add)).1,(z0 _ _ (sd @Nat.zero_add)).2,by simp,.inl ⟨rfl,rfl⟩⟩ ?_
 rintro m env_b st_b ⟨k,jo,l,p,rfl,xf,vU,b8,b6,b7,AG,lg,hl,hB⟩ fW
 have b0:=fW 0 (by kernel_rfl)
 have b1:=fW 1 (by kernel_rfl)
 simp only[go_sem, ↓reduceIte,Nat.reduceEqDiff,Nat.reduceAdd,Nat.reduceSub,Nat.reduceLeDiff,reduceCtorEq]at b0 b1
 clear fW z0
 by_cases hk:(k:Int)<(cnt:Int)
 ·have fy:k<cnt:=by omega
  have hFl:=Gr cnt hn bs ok pW dE 0 k (by omega) fy (by omega)
  rw[show(((0:Nat):Int))=0 from rfl]at hFl
  (try((repeat(revert hN;revert N;apply Pn.out));refine wk (tw @b0 (tw @b1 (tw @b6 (tw @b7 (tw @b8 @hk))))) ?_;(repeat(refine Pn.mk ?_;intro N hN))))
  refine .inr (aJ _ _ _ _ _ (fun r σ1 hq=>?_) (hFl.x mixed))
  obtain⟨⟨f,val,rfl,hf,S,NS,NT,Sa⟩,rfl⟩:=hq
  refine hN _ _ ?_
  clear hN N
  have Ln:=wS dE hf.le
  have sR:=jZ.nn (val:=val) dE Sa
  (try((repeat(revert hN;revert N;apply Pn.out));refine wk (tw @b0 (tw @b1 (tw @b6 (tw @b7 @b8)))) ?_;(repeat(refine Pn.mk ?_;intro N hN))))
  refine .inr (aJ _ _ _ _ _ (fun r σ1 hq=>?_) ((Gs cnt hn bs ok pW f Ln k fy).x mixed (by simp only[ai,aj,aW,aH,Option.map_some])))
  obtain⟨⟨l',rfl,Kw⟩,rfl⟩:=hq
  refine hN _ _ ?_
  clear hN N
  have hw:IntKind.i64.wrap ((k:Int)+1)=((k+1:Nat):Int):=az (by omega)
  have Ry:(∀z,1<=z->z<k->∀S:Nat->Bool,S 0=true->S z=false->val<=jg S bs)->uP bs cnt val (k+1):=fun h=>.inr ⟨sR,fun z AG lg S' h0 h1=>by
   by_cases tJ:z=k
   ·subst tJ;exact hf.bound h0 h1
   ·exact h z AG (by omega) S' h0 h1,S,NS,⟨k,fy,NT⟩,Sa⟩
  by_cases j7:jo<0
  ·have Bl:k=1:=by
    rcases hB with⟨h,_⟩|⟨h,_⟩
    ·exact h
    ·omega
   (try((repeat(revert hN;revert N;apply Pn.out));refine wk (tw @b0 (tw @b1 (tw @b6 (tw @b7 (tw @b8 (tw @j7 @hw)))))) ?_;(repeat(refine Pn.mk ?_;intro N hN))))
   refine⟨_,?_,k+1,val,l',.sl (l'.map eN),rfl,by omega,by omega,sd (tw @b8 @hw),sd @Nat.zero_add,sd @Nat.zero_add,cz _ _ _,cz _ _ _,Kw,Ry fun z h1 h2=>by omega⟩
   omega
  ·have Bl:(∀z,1<=z->z<k->∀S:Nat->Bool,S 0=true->S z=false->jo<=jg S bs)/\∃S:Nat->Bool,S 0=true/\(∃z,z<cnt/\S z=false)/\jo=jg S bs:=by
    rcases hB with⟨_,h⟩|⟨_,h⟩
    ·omega
    ·exact h
   (try((repeat(revert hN;revert N;apply Pn.out));refine wk (tw @b0 (tw @b1 (tw @b6 (tw @b7 (tw @b8 (tw @j7 @hw)))))) ?_;(repeat(refine Pn.mk ?_;intro N hN))))
   refine .inr (aJ _ _ _ _ _ (fun r σ1 hq=>?_) ((BN val jo l' l (by omega) (by omega)).x mixed (by simp only[ai,aj,cz,aH,AG,Option.map_some])))
   obtain⟨⟨b,rfl,Ko,F5⟩,rfl⟩:=hq
   refine hN _ _ ?_
   clear hN N
   cases b with
   |true=>
    have UI:val<=jo:=by
     rcases Int.lt_or_le jo val with h|h
     ·exact absurd (F5 h) (by simp)
     ·exact h
    (try((repeat(revert hN;revert N;apply Pn.out));refine wk (tw @b0 (tw @b1 (tw @b6 (tw @b7 (tw @b8 @hw))))) ?_;(repeat(refine Pn.mk ?_;intro N hN))))
    refine⟨_,?_,k+1,val,l',.sl (l'.map eN),rfl,by omega,by omega,sd (tw @b8 @hw),sd @Nat.zero_add,sd @Nat.zero_add,cz _ _ _,cz _ _ _,Kw,Ry fun z h1 h2 S' h3 h4=>by have:=Bl.1 z h1 h2 S' h3 h4;omega⟩
    omega
   |false=>
    have UI:jo<=val:=by
     rcases Int.lt_or_le val jo with h|h
     ·exact absurd (Ko h) (by simp)
     ·exact h
    (try((repeat(revert hN;revert N;apply Pn.out));refine wk (tw @b0 (tw @b1 (tw @b6 (tw @b7 (tw @b8 @hw))))) ?_;(repeat(refine Pn.mk ?_;intro N hN))))
    refine⟨_,?_,k+1,jo,l,p,rfl,by omega,by omega,sd (tw @b8 @hw),sd @b6,sd @b7,AG,lg,hl,.inr ⟨by omega,fun z h1 h2 S' h3 h4=>?_,Bl.2⟩⟩
    ·omega
    ·by_cases tJ:z=k
     ·subst tJ;have:=hf.bound h3 h4;omega
     ·exact Bl.1 z h1 (by omega) S' h3 h4
 ·have l6:k=cnt:=by omega
  (try((repeat(revert hN;revert N;apply Pn.out));refine wk (tw @b0 (tw @b1 (tw @b6 (tw @b7 (tw @b8 @hk))))) ?_;(repeat(refine Pn.mk ?_;intro N hN))))
  exact⟨[.int .i64 jo,p],sd @Nat.zero_add,.gK [.int .i64 jo,.sl (l.map eN)],by simp only[fe,bH,ai,aj,lg,aH,Option.map_some],jo,_,rfl,uP.done h2 (l6▸hB)⟩
end Go.Proofs.YtgoelphibofcmaaGreat.V

namespace Go.Proofs.YtgoelphibofcmaaGreat.V
open Go.RowKit
attribute [local irreducible] dI wpOps gD Call
attribute [local go_sem] aM fM eP gp gm cN upd cD K.av cR AV.cells AV.cell rowOf rowsOf part ld rowAt bz cu dG ef ik bQ dh eA gj e9 dq ek dd dc dU dV bW bf cW bV cY cX ei eo ej cV ck de eh bU aT da cG ij bx cQ b4 aY dn bc dH AV.undef bF bI eb ee dP dM cJ ez eE cF er ep cZ db List.getD_cons_zero List.getD_cons_succ List.getD_nil List.all_cons List.all_nil Bool.and_true Bool.true_and Bool.and_self Bool.not_true Bool.not_false Option.map_some Option.map_none Option.bind_some Option.bind_none List.length_cons List.length_nil List.take_succ_cons List.take_zero List.take_nil List.drop_succ_cons List.drop_zero List.drop_nil List.head?_cons List.map_cons List.map_nil List.getElem?_cons_zero List.getElem?_cons_succ List.cons_append List.nil_append List.append_nil List.length_map List.set_cons_zero List.set_cons_succ Nat.reduceMul eq_self Int.toNat_natCast Int.natCast_nonneg and_self true_and and_true decide_true decide_false Bool.false_eq_true Nat.zero_add Nat.add_zero List.contains_cons List.contains_nil Bool.or_false Bool.false_or beq_self_eq_true Nat.reduceBEq ne_eq not_true_eq_false not_false_eq_true Id.mk.injEq false_and and_false Nat.reduceLT Int.reduceLE Int.reduceLT Int.reduceToNat Int.reduceNeg Int.reduceAdd Nat.le_refl List.length_append beq_true beq_false Bool.not_eq_eq_eq_not or_false false_or dO ai aj aH bp bE cz aX bl aW bj cU bH
theorem L8 {s:au} (hS:iF s) (a d:Int):te s (du (dv s a) d)<=4:=by
 have hF:=hS.form
 have ft:du (dv s a) d=0∨(0<=du (dv s a) d/\du (dv s a) d<=s.ax.length):=by
  unfold du dv
  rw[List.getD_eq_getElem?_getD,List.getD_eq_getElem?_getD]
  rcases ht:s.ah[a.toNat]? with _|t
  ·exact .inl (by simp[zV])
  ·have Q0:=List.mem_of_getElem? ht
   simp only[Option.getD_some]
   rcases hg:t.br[d.toNat]? with _|g
   ·exact .inl rfl
   ·exact .inr (hF.vM t Q0 g (List.mem_of_getElem? hg))
 unfold te
 by_cases h0:du (dv s a) d=0
 ·rw[if_pos h0];omega
 ·rw[if_neg h0]
  have hk:(du (dv s a) d-1).toNat<s.ax.length:=by omega
  have:=ev (hS.RY _ hk).2.1
  unfold pM at this
  unfold qq
  omega
theorem AS {s:au} (hS:iF s) (a d b:Int):gT s a d b<=4:=by
 unfold gT
 split
 ·exact L8 hS a d
 ·omega
theorem FM {s:au} {l:List ad} (hS:iF s) {i:Nat} (hi:i<l.length) {d:Int}:∀b∈mQ s l i d,b.a<l.length/\b.b<l.length/\0<=b.s/\b.s<=4:=by
 intro b hb
 unfold mQ at hb
 split at hb
 ·rename_i h
  simp only[List.mem_singleton]at hb
  subst hb
  exact⟨hi,(lH h.1).1,by simp only;omega,AS hS ..⟩
 ·cases hb
theorem xU {s:au} {l:List ad} (hS:iF s):∀b∈cI s l,b.a<l.length/\b.b<l.length/\0<=b.s/\b.s<=4:=by
 intro b hb
 simp only[cI,gN,fX,List.mem_flatMap,List.mem_range]at hb
 obtain⟨i,hi,j,_,hb⟩:=hb
 exact FM hS hi b hb
theorem qd {s:au} {l:List ad} (hF:jF l):(cI s l).length<=1000:=by
 have:=tu s l l.length
 have:=hF.rn
 rw[cI];omega
theorem HK {bs:List PB} {e:Nat} (h:e<bs.length):cw bs e∈bs:=by
 rw[cw,List.getD_eq_getElem?_getD,List.getElem?_eq_getElem h];exact List.getElem_mem h
theorem Gd {n:Nat} {bs:List PB} {t:Int} (h:n<2):kF n bs t:=fun S h0 ⟨y,hy,hf⟩=>by
 have:y=0:=by omega
 subst this;rw[h0]at hf;cases hf
def iu (s:au) (l:List ad) (t:Int):Nat:=(leads l.length (ew (aL t (cI s l)))).length
noncomputable def nE (s:au) (l:List ad) (t:Int):Bool:=@decide (pd l.length (cI s l) t) (Classical.propDecidable _)
def sH (s:au) (l:List ad) (t:Int):Int:=if 64<iu s l t then 4 else 0
theorem mC {s:au} {l:List ad} {t:Int} {p:Prop} [Decidable p] (h:p↔pd l.length (cI s l) t):decide p=nE s l t:=by
 letI:=Classical.propDecidable (pd l.length (cI s l) t)
 unfold nE
 by_cases hp:p
 ·rw[decide_eq_true hp];exact(decide_eq_true (h.1 hp)).symm
 ·rw[decide_eq_false hp];exact(decide_eq_false fun k=>hp (h.2 k)).symm
theorem BP (s:au) (l:List ad) (t:Int) (hS:iF s) (hA:jl s l):aq Tryz.prog 158 [.di (ab s),.di [.sl (l.map aa)],.int .i64 t] (.gK [.bool (nE s l t),.int .i64 (sH s l t)]):=by
 refine aq.body eB rfl fun hl n0=>?_
 clear hl
 have hb:=xU (l:=l) hS
 have pW:=qd (s:=s) hA.1
 have Iu:=hA.1.rn
 have xd:=Dz s l hS.form hA
 have Kz:=BO l.length (by omega) (cI s l) (fun b h=>⟨(hb b h).1,(hb b h).2.1⟩) (by omega) t
 have hL:=tM (aL t (cI s l))
 have ft:=D9 hL (fun b h=>⟨(hb b h).1,(hb b h).2.1⟩)
 have hlen:=(nk (ew (aL t (cI s l))) (cI s l)).2
 have mU:=jP l.length (ew (aL t (cI s l)))
 have fQ:(l.map aa).length=l.length:=by simp
 by_cases uf:(64:Int)<(iu s l t:Int)
 ·have ug:64<iu s l t:=by omega
  have hd:nE s l t=false:=(mC (p:=False) ⟨False.elim,fun h=>by have:=h.1;unfold iu at ug;omega⟩).symm.trans (by simp)
  rw[iu]at uf
  (repeat(first|((repeat(revert hN;revert N;apply Pn.out));refine wk (tw @ab.eq_1 (tw @uf @fQ)) ?_;(repeat(refine Pn.mk ?_;intro N hN)))|((try apply Or.inl);refine⟨_,aq.x (xd) (sd (tw @ab.eq_1 (tw @uf @fQ))),?_⟩;refine hN _ _ ?_;clear hN N)|((try apply Or.inl);refine⟨_,aq.x (Kz) (sd (tw @ab.eq_1 (tw @uf @fQ))),?_⟩;refine hN _ _ ?_;clear hN N)))
  exact jx (.inl rfl) (r1:=.bool false) (r2:=.int .i64 4) (sd @Nat.zero_add) (sd @Nat.zero_add) (by rw[hd,sH,if_pos ug];simp only[eW,bD,cE,fI,eM,Option.map_some])
 have ug:¬64<iu s l t:=by omega
 have hf:sH s l t=0:=by rw[sH,if_neg ug]
 by_cases h2:(iu s l t:Int)<2
 ·have hd:nE s l t=true:=(mC (p:=True) ⟨fun _=>⟨by unfold iu at ug;omega,Gd (by unfold iu at h2;omega)⟩,fun _=>trivial⟩).symm.trans (by simp)
  rw[iu]at uf h2
  (repeat(first|((repeat(revert hN;revert N;apply Pn.out));refine wk (tw @ab.eq_1 (tw @uf (tw @h2 @fQ))) ?_;(repeat(refine Pn.mk ?_;intro N hN)))|((try apply Or.inl);refine⟨_,aq.x (xd) (sd (tw @ab.eq_1 (tw @uf (tw @h2 @fQ)))),?_⟩;refine hN _ _ ?_;clear hN N)|((try apply Or.inl);refine⟨_,aq.x (Kz) (sd (tw @ab.eq_1 (tw @uf (tw @h2 @fQ)))),?_⟩;refine hN _ _ ?_;clear hN N)))
  exact jx (.inl rfl) (r1:=.bool true) (r2:=.int .i64 0) (sd @Nat.zero_add) (sd @Nat.zero_add) (by rw[hd,hf];simp only[eW,bD,cE,fI,eM,Option.map_some])
 have Oq:=zL (iu s l t) (by omega) (by unfold iu;omega) (eX (ew (aL t (cI s l))) (cI s l)) (fun e he=>by have:=ft _ (HK he);exact⟨this.1,this.2.1,this.2.2.1⟩) (by omega) (fun e he=>by
  obtain⟨_,_,_,c,hc,dt⟩:=ft _ (HK he)
  rw[dt];have:=hb c hc;omega)
 rw[iu]at uf h2 Oq
 (repeat(first|((repeat(revert hN;revert N;apply Pn.out));refine wk (tw @ab.eq_1 (tw @uf (tw @h2 @fQ))) ?_;(repeat(refine Pn.mk ?_;intro N hN)))|((try apply Or.inl);refine⟨_,aq.x (xd) (sd (tw @ab.eq_1 (tw @uf (tw @h2 @fQ)))),?_⟩;refine hN _ _ ?_;clear hN N)|((try apply Or.inl);refine⟨_,aq.x (Kz) (sd (tw @ab.eq_1 (tw @uf (tw @h2 @fQ)))),?_⟩;refine hN _ _ ?_;clear hN N)))
 refine .inr (aJ _ _ _ _ _ (fun r σ1 hq=>?_) (Oq.x mixed))
 obtain⟨⟨jo,p,rfl,Qs⟩,rfl⟩:=hq
 refine hN _ _ ?_
 clear hN N
 (try((repeat(revert hN;revert N;apply Pn.out));refine wk @Nat.zero_add ?_;(repeat(refine Pn.mk ?_;intro N hN))))
 exact jx (.inl rfl) (r1:=.bool (decide (t<=jo))) (r2:=.int .i64 0) (sd @Nat.zero_add) (sd @Nat.zero_add) (by
  rw[hf,mC (s:=s) (l:=l) (t:=t) (p:=t<=jo) ((Qs t).trans (Dm.trans ⟨fun h=>⟨by unfold iu at ug;omega,h⟩,fun h=>h.2⟩))]
  simp only[eW,bD,cE,fI,eM,Option.map_some])
theorem sY (t:Int):aq Tryz.prog 157 [.int .i64 t] (.bool (jc t 1 16)):=by
 refine aq.body eB rfl fun hl n0=>?_
 clear hl
 have h:=lJ t 1 16
 (repeat(first|((repeat(revert hN;revert N;apply Pn.out));refine wk @Nat.zero_add ?_;(repeat(refine Pn.mk ?_;intro N hN)))|((try apply Or.inl);refine⟨_,aq.x (h) (sd @Nat.zero_add),?_⟩;refine hN _ _ ?_;clear hN N)))
 exact aU (b:=jc t 1 16) (.inl rfl) (sd @Nat.zero_add) rfl
structure uW (s:aA):Prop where
 set:iF s.aE
 z8:jl s.aE s.aZ.ah
 some:1<=s.aZ.ah.length
 OX:jc s.aB 1 16=true
 holds:pd s.aZ.ah.length (cI s.aE s.aZ.ah) s.aB
noncomputable def nq (s:aA):Bool:=@decide (uW s) (Classical.propDecidable _)
theorem wV {s:aA}:nq s=true↔uW s:=by simp[nq]
theorem jY {s:aA} (h:¬uW s):false=nq s:=by simp[nq,h]
theorem Cm {s:aA} (h:uW s):true=nq s:=by simp[nq,h]
theorem pD {s:au} {l:List ad} {t:Int}:nE s l t=true↔pd l.length (cI s l) t:=by simp[nE]
theorem Ly (s:aA) (hn:fV s.aE) (hg:s.aE.ax.length<=1048576) (ht:s.aE.ah.length<=1048576):aq Tryz.prog 96 [.di (aw s)] (.bool (nq s)):=by
 refine aq.body eB rfl fun hl n0=>?_
 clear hl
 have h1:=(Lx s.aE hn hg ht).cut mixed (.ptr _ [.sl (s.aZ.ah.map aa),.int .i64 s.aB] .nil)
 by_cases hS:iF s.aE
 ·rw[mz.2 hS]at h1
  have h2:=(Fh s.aE s.aZ.ah).cut mixed (.ptr _ [.sl (s.aZ.ah.map aa),.int .i64 s.aB] (.ptr _ [.int .i64 s.aB] .nil))
  by_cases hA:jl s.aE s.aZ.ah
  ·rw[mb.2 hA]at h2
   by_cases h0:(s.aZ.ah.length:Int)=0
   ·have hd:decide ((s.aZ.ah.length:Int)=0)=true:=decide_eq_true h0
    have lk:false=nq s:=jY fun h=>by have:=h.some;omega
    generalize fQ:(s.aZ.ah.map aa).length=len at *
    (repeat(first|((repeat(revert hN;revert N;apply Pn.out));refine wk (tw @aw.eq_1 (tw @ab.eq_1 @hd)) ?_;(repeat(refine Pn.mk ?_;intro N hN)))|((try apply Or.inl);refine⟨_,aq.x (h1) (sd (tw @aw.eq_1 (tw @ab.eq_1 @hd))),?_⟩;refine hN _ _ ?_;clear hN N)|((try apply Or.inl);refine⟨_,aq.x (h2) (sd (tw @aw.eq_1 (tw @ab.eq_1 @hd))),?_⟩;refine hN _ _ ?_;clear hN N)))
    exact aU (b:=false) (.inl rfl) (sd @Nat.zero_add) lk
   ·have hd:decide ((s.aZ.ah.length:Int)=0)=false:=decide_eq_false h0
    have h3:=sY s.aB
    cases hT:jc s.aB 1 16
    ·rw[hT]at h3
     (repeat(first|((repeat(revert hN;revert N;apply Pn.out));refine wk (tw @aw.eq_1 (tw @ab.eq_1 @hd)) ?_;(repeat(refine Pn.mk ?_;intro N hN)))|((try apply Or.inl);refine⟨_,aq.x (h1) (sd (tw @aw.eq_1 (tw @ab.eq_1 @hd))),?_⟩;refine hN _ _ ?_;clear hN N)|((try apply Or.inl);refine⟨_,aq.x (h2) (sd (tw @aw.eq_1 (tw @ab.eq_1 @hd))),?_⟩;refine hN _ _ ?_;clear hN N)|((try apply Or.inl);refine⟨_,aq.x (h3) (sd (tw @aw.eq_1 (tw @ab.eq_1 @hd))),?_⟩;refine hN _ _ ?_;clear hN N)))
     exact aU (b:=false) (.inl rfl) (sd @Nat.zero_add) (jY fun h=>by have:=h.OX;rw[hT]at this;cases this)
    ·rw[hT]at h3
     have h4:=(BP s.aE s.aZ.ah s.aB hS hA).cut mixed (.ptr _ [.sl (s.aZ.ah.map aa),.int .i64 s.aB] (.ptr _ [.int .i64 s.aB] (.same _ .nil)))
     cases hB:nE s.aE s.aZ.ah s.aB
     ·rw[hB]at h4
      (repeat(first|((repeat(revert hN;revert N;apply Pn.out));refine wk (tw @aw.eq_1 (tw @ab.eq_1 @hd)) ?_;(repeat(refine Pn.mk ?_;intro N hN)))|((try apply Or.inl);refine⟨_,aq.x (h1) (sd (tw @aw.eq_1 (tw @ab.eq_1 @hd))),?_⟩;refine hN _ _ ?_;clear hN N)|((try apply Or.inl);refine⟨_,aq.x (h2) (sd (tw @aw.eq_1 (tw @ab.eq_1 @hd))),?_⟩;refine hN _ _ ?_;clear hN N)|((try apply Or.inl);refine⟨_,aq.x (h3) (sd (tw @aw.eq_1 (tw @ab.eq_1 @hd))),?_⟩;refine hN _ _ ?_;clear hN N)|((try apply Or.inl);refine⟨_,aq.x (h4) (sd (tw @aw.eq_1 (tw @ab.eq_1 @hd))),?_⟩;refine hN _ _ ?_;clear hN N)))
      exact aU (b:=false) (.inl rfl) (sd @Nat.zero_add) (jY fun h=>by have:=pD.2 h.holds;rw[hB]at this;cases this)
     ·have hP:=pD.1 hB
      have hf:sH s.aE s.aZ.ah s.aB=0:=by
       have:=hP.1
       rw[sH,if_neg (by unfold iu;omega)]
      rw[hB,hf]at h4
      (repeat(first|((repeat(revert hN;revert N;apply Pn.out));refine wk (tw @aw.eq_1 (tw @ab.eq_1 @hd)) ?_;(repeat(refine Pn.mk ?_;intro N hN)))|((try apply Or.inl);refine⟨_,aq.x (h1) (sd (tw @aw.eq_1 (tw @ab.eq_1 @hd))),?_⟩;refine hN _ _ ?_;clear hN N)|((try apply Or.inl);refine⟨_,aq.x (h2) (sd (tw @aw.eq_1 (tw @ab.eq_1 @hd))),?_⟩;refine hN _ _ ?_;clear hN N)|((try apply Or.inl);refine⟨_,aq.x (h3) (sd (tw @aw.eq_1 (tw @ab.eq_1 @hd))),?_⟩;refine hN _ _ ?_;clear hN N)|((try apply Or.inl);refine⟨_,aq.x (h4) (sd (tw @aw.eq_1 (tw @ab.eq_1 @hd))),?_⟩;refine hN _ _ ?_;clear hN N)))
      exact aU (b:=true) (.inl rfl) (sd @Nat.zero_add) (Cm ⟨hS,hA,by omega,hT,hP⟩)
  ·have hb:pK s.aE s.aZ.ah=false:=Bool.eq_false_iff.2 fun h=>hA (mb.1 h)
   rw[hb]at h2
   (repeat(first|((repeat(revert hN;revert N;apply Pn.out));refine wk (tw @aw.eq_1 @ab.eq_1) ?_;(repeat(refine Pn.mk ?_;intro N hN)))|((try apply Or.inl);refine⟨_,aq.x (h1) (sd (tw @aw.eq_1 @ab.eq_1)),?_⟩;refine hN _ _ ?_;clear hN N)|((try apply Or.inl);refine⟨_,aq.x (h2) (sd (tw @aw.eq_1 @ab.eq_1)),?_⟩;refine hN _ _ ?_;clear hN N)))
   exact aU (b:=false) (.inl rfl) (sd @Nat.zero_add) (jY fun h=>hA h.z8)
 ·have hb:qL s.aE=false:=Bool.eq_false_iff.2 fun h=>hS (mz.1 h)
  rw[hb]at h1
  (repeat(first|((repeat(revert hN;revert N;apply Pn.out));refine wk (tw @aw.eq_1 @ab.eq_1) ?_;(repeat(refine Pn.mk ?_;intro N hN)))|((try apply Or.inl);refine⟨_,aq.x (h1) (sd (tw @aw.eq_1 @ab.eq_1)),?_⟩;refine hN _ _ ?_;clear hN N)))
  exact aU (b:=false) (.inl rfl) (sd @Nat.zero_add) (jY fun h=>hS h.set)
end Go.Proofs.YtgoelphibofcmaaGreat.V

namespace Go.Proofs.YtgoelphibofcmaaGreat.V
open Go.RowKit
attribute [local irreducible] dI wpOps gD Call
attribute [local go_sem] aM fM eP gp gm cN upd cD K.av cR AV.cells AV.cell rowOf rowsOf part ld rowAt bz cu dG ef ik bQ dh eA gj e9 dq ek dd dc dU dV bW bf cW bV cY cX ei eo ej cV ck de eh bU aT da cG ij bx cQ b4 aY dn bc dH AV.undef bF bI eb ee dP dM cJ ez eE cF er ep cZ db List.getD_cons_zero List.getD_cons_succ List.getD_nil List.all_cons List.all_nil Bool.and_true Bool.true_and Bool.and_self Bool.not_true Bool.not_false Option.map_some Option.map_none Option.bind_some Option.bind_none List.length_cons List.length_nil List.take_succ_cons List.take_zero List.take_nil List.drop_succ_cons List.drop_zero List.drop_nil List.head?_cons List.map_cons List.map_nil List.getElem?_cons_zero List.getElem?_cons_succ List.cons_append List.nil_append List.append_nil List.length_map List.set_cons_zero List.set_cons_succ Nat.reduceMul eq_self Int.toNat_natCast Int.natCast_nonneg and_self true_and and_true decide_true decide_false Bool.false_eq_true Nat.zero_add Nat.add_zero List.contains_cons List.contains_nil Bool.or_false Bool.false_or beq_self_eq_true Nat.reduceBEq ne_eq not_true_eq_false not_false_eq_true Id.mk.injEq false_and and_false Nat.reduceLT Int.reduceLE Int.reduceLT Int.reduceToNat Int.reduceNeg Int.reduceAdd Nat.le_refl List.length_append beq_true beq_false Bool.not_eq_eq_eq_not or_false false_or dO ai aj aH bp bE cz aX bl aW bj cU bH
theorem L7 {s:au} (hS:iF s) (a d:Int):0<=te s (du (dv s a) d):=by
 have hF:=hS.form
 have ft:du (dv s a) d=0∨(0<=du (dv s a) d/\du (dv s a) d<=s.ax.length):=by
  unfold du dv
  rw[List.getD_eq_getElem?_getD,List.getD_eq_getElem?_getD]
  rcases ht:s.ah[a.toNat]? with _|t
  ·exact .inl (by simp[zV])
  ·have Q0:=List.mem_of_getElem? ht
   simp only[Option.getD_some]
   rcases hg:t.br[d.toNat]? with _|g
   ·exact .inl rfl
   ·exact .inr (hF.vM t Q0 g (List.mem_of_getElem? hg))
 unfold te
 by_cases h0:du (dv s a) d=0
 ·rw[if_pos h0];omega
 ·rw[if_neg h0]
  have hk:(du (dv s a) d-1).toNat<s.ax.length:=by omega
  have:=ev (hS.RY _ hk).2.1
  unfold pM at this
  unfold qq
  omega
theorem u9 {s:au} (hS:iF s) (a d b:Int):0<=gT s a d b/\gT s a d b<=4:=by
 refine⟨?_,AS hS a d b⟩
 unfold gT
 split
 ·exact L7 hS a d
 ·omega
def dR (s:au) (f:aD->Int) (p:aD) (t:Int):Nat->Int
 |0=>0
 |d+1=>dR s f p t d+if 0<=f (dx p d)then gT s t d (f (dx p d))else 0
def tt (s:au) (f:aD->Int) (p:aD) (t:Int):Int:=dR s f p t 4
theorem lx {s:au} (hS:iF s) (f:aD->Int) (p:aD) (t:Int):∀d,0<=dR s f p t d/\dR s f p t d<=4*(d:Int)
 |0=>⟨Int.le_refl _,Int.le_refl _⟩
 |d+1=>by
  have:=lx hS f p t d
  have hb:=u9 hS t d (f (dx p d))
  simp only[dR]
  split<;>omega
theorem AO {s:au} {l:List ad} (hA:jl s l) {p:aD} (h:0<=gx l p):eK s (gx l p)=true:=by
 unfold gx at h ⊢
 split at h
 ·rename_i h0
  rw[if_pos h0]
  exact hA.2 _ (gG (lH h0).1)
 ·omega
theorem zK (s:au) (hS:iF s) (l:List ad) (hA:jl s l) (p:aD) (hx:iB p.eY) (hy:iB p.eS) (t:Int) (ht:eK s t=true):aq Tryz.prog 138 [.di (ab s),.di [.sl (l.map aa)],.agg (ae p),.int .i64 t] (.int .i64 (tt s (gx l) p t)):=by
 refine aq.body eB rfl fun hl n0=>?_
 clear hl
 have hR:=hA.1.GP
 have F4:l.length<=1048576:=by have:=hA.1.rn;omega
 (try((repeat(revert hN;revert N;apply Pn.out));refine wk @ae.eq_1 ?_;(repeat(refine Pn.mk ?_;intro N hN))))
 refine aV (fun n env st=>∃k:Nat,n=(4)-k/\k<=(4)/\env 10=.int .i64 (k:Int)/\env 9=.int .i64 (dR s (gx l) p t k)/\st.get ⟨138000000,n0⟩=some ⟨true,2,[ae p]⟩) (4) ⟨0,by omega,by omega,sl @ae.eq_1,sl @ae.eq_1,sl @ae.eq_1⟩ ?_
 rintro n_a env_a st_a ⟨k,rfl,ale,xP,a9,ag0⟩ dD
 have a0:=dD 0 (by kernel_rfl);have a1:=dD 1 (by kernel_rfl);have a3:=dD 3 (by kernel_rfl);have a6:=dD 6 (by kernel_rfl)
 simp only[go_sem, ↓reduceIte,Nat.reduceEqDiff,Nat.reduceAdd,Nat.reduceSub,Nat.reduceLeDiff,reduceCtorEq,ae]at a0 a1 a3 a6
 clear dD
 by_cases hk:(k:Int)<4
 ·have cC:∀{e:Env} {gg:Rows},(e 10=.int .i64 (IntKind.i64.wrap ((k:Int)+1)))->(e 9=.int .i64 (dR s (gx l) p t (k+1)))->(gg ⟨138000000,n0⟩=some ⟨true,2,[ae p]⟩)->∃m0,m0<(4)-k/\∃k:Nat,m0=(4)-k/\k<=(4)/\e 10=.int .i64 (k:Int)/\e 9=.int .i64 (dR s (gx l) p t k)/\gg ⟨138000000,n0⟩=some ⟨true,2,[ae p]⟩:=fun x1 x2 x3=>⟨_,by omega,k+1,rfl,by omega,(by rw[x1,az (by omega)]),x2,x3⟩
  have dE:=yz p k (kO (by omega)) hx hy
  have EV:=Fg l (dx p k) hR F4
  have ft:=lx hS (gx l) p t k
  by_cases h0:0<=gx l (dx p k)
  ·have xd:=yC s hS.form t k (gx l (dx p k)) ht (AO hA h0) (kO (by omega))
   have fP:=u9 hS t k (gx l (dx p k))
   have hw:IntKind.i64.wrap (dR s (gx l) p t k+gT s t k (gx l (dx p k)))=dR s (gx l) p t (k+1):=by
    rw[bt (by omega),dR,if_pos h0]
   (repeat(first|((repeat(revert hN;revert N;apply Pn.out));refine wk (tw @xP (tw @a9 (tw @ag0 (tw @a0 (tw @a1 (tw @a3 (tw @a6 (tw @hk (tw @h0 @ae.eq_1))))))))) ?_;(repeat(refine Pn.mk ?_;intro N hN)))|((try apply Or.inl);refine⟨_,aq.x (dE) (sd (tw @xP (tw @a9 (tw @ag0 (tw @a0 (tw @a1 (tw @a3 (tw @a6 (tw @hk (tw @h0 @ae.eq_1)))))))))),?_⟩;refine hN _ _ ?_;clear hN N)|((try apply Or.inl);refine⟨_,aq.x (EV) (sd (tw @xP (tw @a9 (tw @ag0 (tw @a0 (tw @a1 (tw @a3 (tw @a6 (tw @hk (tw @h0 @ae.eq_1)))))))))),?_⟩;refine hN _ _ ?_;clear hN N)|((try apply Or.inl);refine⟨_,aq.x (xd) (sd (tw @xP (tw @a9 (tw @ag0 (tw @a0 (tw @a1 (tw @a3 (tw @a6 (tw @hk (tw @h0 @ae.eq_1)))))))))),?_⟩;refine hN _ _ ?_;clear hN N)))
   refine cC ?_ ?_ ?_
   all_goals simp only[go_sem, ↓reduceIte,Nat.reduceEqDiff,Nat.reduceAdd,Nat.reduceSub,Nat.reduceLeDiff,reduceCtorEq,xP,a9,ag0,a0,a1,a3,a6,hw,ae]
  ·have hw:dR s (gx l) p t (k+1)=dR s (gx l) p t k:=by rw[dR,if_neg h0,Int.add_zero]
   (repeat(first|((repeat(revert hN;revert N;apply Pn.out));refine wk (tw @xP (tw @a9 (tw @ag0 (tw @a0 (tw @a1 (tw @a3 (tw @a6 (tw @hk (tw @h0 @ae.eq_1))))))))) ?_;(repeat(refine Pn.mk ?_;intro N hN)))|((try apply Or.inl);refine⟨_,aq.x (dE) (sd (tw @xP (tw @a9 (tw @ag0 (tw @a0 (tw @a1 (tw @a3 (tw @a6 (tw @hk (tw @h0 @ae.eq_1)))))))))),?_⟩;refine hN _ _ ?_;clear hN N)|((try apply Or.inl);refine⟨_,aq.x (EV) (sd (tw @xP (tw @a9 (tw @ag0 (tw @a0 (tw @a1 (tw @a3 (tw @a6 (tw @hk (tw @h0 @ae.eq_1)))))))))),?_⟩;refine hN _ _ ?_;clear hN N)))
   refine cC ?_ ?_ ?_
   all_goals simp only[go_sem, ↓reduceIte,Nat.reduceEqDiff,Nat.reduceAdd,Nat.reduceSub,Nat.reduceLeDiff,reduceCtorEq,xP,a9,ag0,a0,a1,a3,a6,hw,ae]
 ·(try((repeat(revert hN;revert N;apply Pn.out));refine wk (tw @xP (tw @a9 (tw @ag0 (tw @a0 (tw @a1 (tw @a3 (tw @a6 @hk))))))) ?_;(repeat(refine Pn.mk ?_;intro N hN))))
  exact cj (b:=dR s (gx l) p t k) (.inl rfl) (sd (tw @xP (tw @a9 (tw @ag0 (tw @a0 (tw @a1 (tw @a3 @a6))))))) (by rw[show k=4 by omega];rfl)
def iR (la lb:List ad):Bool:=la.all fun t=>decide (gx lb t.aO=t.aQ)
theorem BL (la lb:List ad) (hR:nG lb) (F4:lb.length<=1048576) (h81:la.length<=1048576):aq Tryz.prog 59 [.di [.sl (la.map aa)],.di [.sl (lb.map aa)]] (.bool (iR la lb)):=by
 refine aq.body eB rfl fun hl n0=>?_
 clear hl
 (try((repeat(revert hN;revert N;apply Pn.out));refine wk @Nat.zero_add ?_;(repeat(refine Pn.mk ?_;intro N hN))))
 refine aV (fun n env st=>∃k:Nat,n=(la.length)-k/\k<=(la.length)/\env 5=.int .i64 (k:Int)/\(∀j:Nat,j<k->gx lb (aI la j).aO=(aI la j).aQ)) (la.length) ⟨0,by omega,by omega,sl @Nat.zero_add,fun _ h=>absurd h (Nat.not_lt_zero _)⟩ ?_
 rintro n_a env_a st_a ⟨k,rfl,ale,a5,lZ⟩ dD
 have a0:=dD 0 (by kernel_rfl);have a1:=dD 1 (by kernel_rfl)
 simp only[go_sem, ↓reduceIte,Nat.reduceEqDiff,Nat.reduceAdd,Nat.reduceSub,Nat.reduceLeDiff,reduceCtorEq]at a0 a1
 clear dD
 by_cases hk:(k:Int)<(la.length:Int)
 ·have cC:∀{e:Env},(e 5=.int .i64 (IntKind.i64.wrap ((k:Int)+1)))->(gx lb (aI la k).aO=(aI la k).aQ)->∃m0,m0<(la.length)-k/\∃k:Nat,m0=(la.length)-k/\k<=(la.length)/\e 5=.int .i64 (k:Int)/\(∀j:Nat,j<k->gx lb (aI la j).aO=(aI la j).aQ):=fun x1 x2=>⟨_,by omega,k+1,rfl,by omega,(by rw[x1,az (by omega)]),(all_succ lZ x2)⟩
  have fy:k<la.length:=by omega
  have eQ:=fu fy
  have EV:=Fg lb (aI la k).aO hR F4
  by_cases h0:gx lb (aI la k).aO=(aI la k).aQ
  ·have hd:decide (gx lb (aI la k).aO=(aI la k).aQ)=true:=decide_eq_true h0
   (repeat(first|((repeat(revert hN;revert N;apply Pn.out));refine wk (tw @a5 (tw @a0 (tw @a1 (tw @hk (tw @eQ (tw @hd (tw @aa.eq_1 @ae.eq_1))))))) ?_;(repeat(refine Pn.mk ?_;intro N hN)))|((try apply Or.inl);refine⟨_,aq.x (EV) (sd (tw @a5 (tw @a0 (tw @a1 (tw @hk (tw @eQ (tw @hd (tw @aa.eq_1 @ae.eq_1)))))))),?_⟩;refine hN _ _ ?_;clear hN N)))
   exact cC (sd (tw @a5 (tw @a0 @a1))) (h0)
  ·have hd:decide (gx lb (aI la k).aO=(aI la k).aQ)=false:=decide_eq_false h0
   (repeat(first|((repeat(revert hN;revert N;apply Pn.out));refine wk (tw @a5 (tw @a0 (tw @a1 (tw @hk (tw @eQ (tw @hd (tw @aa.eq_1 @ae.eq_1))))))) ?_;(repeat(refine Pn.mk ?_;intro N hN)))|((try apply Or.inl);refine⟨_,aq.x (EV) (sd (tw @a5 (tw @a0 (tw @a1 (tw @hk (tw @eQ (tw @hd (tw @aa.eq_1 @ae.eq_1)))))))),?_⟩;refine hN _ _ ?_;clear hN N)))
   exact aU (b:=false) (.inl rfl) (sd @Nat.zero_add) (List.all_eq_false.2 ⟨_,gG fy,by rw[hd];simp⟩).symm
 ·(try((repeat(revert hN;revert N;apply Pn.out));refine wk (tw @a5 (tw @a0 (tw @a1 @hk))) ?_;(repeat(refine Pn.mk ?_;intro N hN))))
  exact aU (b:=true) (.inl rfl) (sd @Nat.zero_add) (List.all_eq_true.2 fun t ht=>by
   obtain⟨j,hj,rfl⟩:=List.getElem_of_mem ht
   have:=lZ j (by omega)
   rw[fb hj]at this
   exact decide_eq_true this).symm
noncomputable def qV (s:aA) (l:List ad):Bool:=nq s&&pK s.aE l
theorem DD (s:aA) (l:List ad) (hn:fV s.aE) (hg:s.aE.ax.length<=1048576) (ht:s.aE.ah.length<=1048576):aq Tryz.prog 58 [.di (aw s),.di [.sl (l.map aa)]] (.int .i64 (if qV s l then 0 else 1)):=by
 refine aq.body eB rfl fun hl n0=>?_
 clear hl
 have h1:=Ly s hn hg ht
 have h2:=(Fh s.aE l).cut mixed (.ptr _ [.sl (s.aZ.ah.map aa),.int .i64 s.aB] (.same _ .nil))
 cases b1:nq s
 ·rw[b1]at h1
  (repeat(first|((repeat(revert hN;revert N;apply Pn.out));refine wk @Nat.zero_add ?_;(repeat(refine Pn.mk ?_;intro N hN)))|((try apply Or.inl);refine⟨_,aq.x (h1) (sd @Nat.zero_add),?_⟩;refine hN _ _ ?_;clear hN N)))
  exact cj (b:=1) (.inl rfl) (sd @Nat.zero_add) (by rw[qV,b1];rfl)
 rw[b1]at h1
 rw[aw]at h1 ⊢
 cases b2:pK s.aE l
 ·rw[b2]at h2
  (repeat(first|((repeat(revert hN;revert N;apply Pn.out));refine wk @ab.eq_1 ?_;(repeat(refine Pn.mk ?_;intro N hN)))|((try apply Or.inl);refine⟨_,aq.x (h1) (sd @ab.eq_1),?_⟩;refine hN _ _ ?_;clear hN N)|((try apply Or.inl);refine⟨_,aq.x (h2) (sd @ab.eq_1),?_⟩;refine hN _ _ ?_;clear hN N)))
  exact cj (b:=1) (.inl rfl) (sd @Nat.zero_add) (by rw[qV,b1,b2];rfl)
 ·rw[b2]at h2
  (repeat(first|((repeat(revert hN;revert N;apply Pn.out));refine wk @ab.eq_1 ?_;(repeat(refine Pn.mk ?_;intro N hN)))|((try apply Or.inl);refine⟨_,aq.x (h1) (sd @ab.eq_1),?_⟩;refine hN _ _ ?_;clear hN N)|((try apply Or.inl);refine⟨_,aq.x (h2) (sd @ab.eq_1),?_⟩;refine hN _ _ ?_;clear hN N)))
  exact cj (b:=0) (.inl rfl) (sd @Nat.zero_add) (by rw[qV,b1,b2];rfl)
theorem qW {s:aA} {l:List ad}:qV s l=true↔uW s/\jl s.aE l:=by simp[qV,wV,mb]
noncomputable def je (s:aA) (l:List ad):Int:=if qV s l then(if iR s.aZ.ah l then 0 else 2)else 1
theorem Gt (s:aA) (l:List ad) (hn:fV s.aE) (hg:s.aE.ax.length<=1048576) (ht:s.aE.ah.length<=1048576):aq Tryz.prog 67 [.di (aw s),.di [.sl (l.map aa)]] (.int .i64 (je s l)):=by
 refine aq.body eB rfl fun hl n0=>?_
 clear hl
 have h1:=DD s l hn hg ht
 cases b1:qV s l
 ·rw[b1]at h1
  (repeat(first|((repeat(revert hN;revert N;apply Pn.out));refine wk @Nat.zero_add ?_;(repeat(refine Pn.mk ?_;intro N hN)))|((try apply Or.inl);refine⟨_,aq.x (h1) (sd @Nat.zero_add),?_⟩;refine hN _ _ ?_;clear hN N)))
  exact cj (b:=1) (.inl rfl) (sd @Nat.zero_add) (by rw[je,b1];rfl)
 obtain⟨hP,hA⟩:=qW.1 b1
 have h2:=(BL s.aZ.ah l hA.1.GP (by have:=hA.1.rn;omega) (by have:=hP.z8.1.rn;omega)).cut mixed (.ptr _ [.int .i64 s.aB] (.same _ .nil))
 rw[b1]at h1
 rw[aw]at h1 ⊢
 cases b2:iR s.aZ.ah l
 ·rw[b2]at h2
  (repeat(first|((repeat(revert hN;revert N;apply Pn.out));refine wk @Nat.zero_add ?_;(repeat(refine Pn.mk ?_;intro N hN)))|((try apply Or.inl);refine⟨_,aq.x (h1) (sd @Nat.zero_add),?_⟩;refine hN _ _ ?_;clear hN N)|((try apply Or.inl);refine⟨_,aq.x (h2) (sd @Nat.zero_add),?_⟩;refine hN _ _ ?_;clear hN N)))
  exact cj (b:=2) (.inl rfl) (sd @Nat.zero_add) (by rw[je,b1,b2];rfl)
 ·rw[b2]at h2
  (repeat(first|((repeat(revert hN;revert N;apply Pn.out));refine wk @Nat.zero_add ?_;(repeat(refine Pn.mk ?_;intro N hN)))|((try apply Or.inl);refine⟨_,aq.x (h1) (sd @Nat.zero_add),?_⟩;refine hN _ _ ?_;clear hN N)|((try apply Or.inl);refine⟨_,aq.x (h2) (sd @Nat.zero_add),?_⟩;refine hN _ _ ?_;clear hN N)))
  exact cj (b:=0) (.inl rfl) (sd @Nat.zero_add) (by rw[je,b1,b2];rfl)
theorem JZ {s:au} {k:Nat} (h:k<s.ah.length):eK s k=true:=by
 unfold eK;exact kO (by omega)
theorem HJ {s:au} {l:List ad} (hA:jl s l) (p:aD):gx l p<0↔eD l p<0:=by
 constructor
 ·intro h
  rcases Int.lt_or_le (eD l p) 0 with h0|h0
  ·exact h0
  ·exfalso
   obtain⟨h1,_⟩:=lH h0
   have h2:=(ev (hA.2 _ (gG h1))).1
   rw[gx,if_pos h0]at h
   omega
 ·intro h
  rw[gx,if_neg (by omega)];omega
end Go.Proofs.YtgoelphibofcmaaGreat.V

namespace Go.Proofs.YtgoelphibofcmaaGreat.V
open Go.RowKit
attribute [local irreducible] dI wpOps gD Call
attribute [local go_sem] aM fM eP gp gm cN upd cD K.av cR AV.cells AV.cell rowOf rowsOf part ld rowAt bz cu dG ef ik bQ dh eA gj e9 dq ek dd dc dU dV bW bf cW bV cY cX ei eo ej cV ck de eh bU aT da cG ij bx cQ b4 aY dn bc dH AV.undef bF bI eb ee dP dM cJ ez eE cF er ep cZ db List.getD_cons_zero List.getD_cons_succ List.getD_nil List.all_cons List.all_nil Bool.and_true Bool.true_and Bool.and_self Bool.not_true Bool.not_false Option.map_some Option.map_none Option.bind_some Option.bind_none List.length_cons List.length_nil List.take_succ_cons List.take_zero List.take_nil List.drop_succ_cons List.drop_zero List.drop_nil List.head?_cons List.map_cons List.map_nil List.getElem?_cons_zero List.getElem?_cons_succ List.cons_append List.nil_append List.append_nil List.length_map List.set_cons_zero List.set_cons_succ Nat.reduceMul eq_self Int.toNat_natCast Int.natCast_nonneg and_self true_and and_true decide_true decide_false Bool.false_eq_true Nat.zero_add Nat.add_zero List.contains_cons List.contains_nil Bool.or_false Bool.false_or beq_self_eq_true Nat.reduceBEq ne_eq not_true_eq_false not_false_eq_true Id.mk.injEq false_and and_false Nat.reduceLT Int.reduceLE Int.reduceLT Int.reduceToNat Int.reduceNeg Int.reduceAdd Nat.le_refl List.length_append beq_true beq_false Bool.not_eq_eq_eq_not or_false false_or dO ai aj aH bp bE cz aX bl aW bj cU bH
abbrev mP:MK:=⟨true,[.tI,.tI]⟩
theorem BW (p:aD):∀(ts:List ad) (i:Nat),fZ mP (ae p) (ts.map aa) i=some (if pR ts p<ts.length then some (i+pR ts p)else none)
 |[],i=>by simp[fZ,pR]
 |t::ts,i=>by
  have e:e9 mP.ts (ae p) ((aa t).take mP.ks)=some (decide (p=t.aO)):=by
   have h:(p=t.aO)↔(p.eY=t.aO.eY/\p.eS=t.aO.eS):=⟨fun h=>by rw[h];exact⟨rfl,rfl⟩,fun h=>DT h.1 h.2⟩
   simp[MK.ks,ae,aa,e9,gj,h]
  have ih:=BW p ts (i+1)
  rw[List.map_cons]
  unfold fZ
  rw[e]
  by_cases h:p=t.aO
  ·rw[decide_eq_true h]
   have h0:pR (t::ts) p=0:=by simp[pR,List.findIdx_cons,h]
   simp[h0]
  ·rw[decide_eq_false h]
   have h0:pR (t::ts) p=pR ts p+1:=by
    simp[pR,List.findIdx_cons,Ne.symm h]
   simp only[ih,h0,List.length_cons,Nat.add_lt_add_iff_right]
   congr 1
   split<;>simp;omega
theorem yH (ts:List ad) (p:aD):fK mP (.agg [.int .i64 p.eY,.int .i64 p.eS]) (ts.map aa)=some (if 0<=eD ts p then some (eD ts p).toNat else none):=by
 have h:=BW p ts 0
 unfold fK
 rw[if_pos ⟨rfl,rfl,rfl⟩]
 show fZ mP (ae p) _ 0= _
 rw[h]
 unfold eD
 split<;>simp
theorem GB {ts:List ad} {p:aD} (h:0<=eD ts p):fK mP (.agg [.int .i64 p.eY,.int .i64 p.eS]) (ts.map aa)=some (some (eD ts p).toNat):=by rw[yH,if_pos h]
theorem qI {ts:List ad} {p:aD} (h:eD ts p<0):fK mP (.agg [.int .i64 p.eY,.int .i64 p.eS]) (ts.map aa)=some none:=by rw[yH,if_neg (by omega)]
structure Cx (g:Rows) (n:Nat) (c T O:Id) (s:aA) (ts:List ad):Prop where
 row:∃b,g c=some ⟨b,6,[[.sl (s.aE.ax.map bG),.sl (s.aE.ah.map bB),.sl (s.aZ.ah.map aa),.int .i64 s.aB,.map T mP,.map O mP]]⟩
 tl:∃b,g T=some ⟨b,mP.pq,ts.map aa⟩
 cv:c.bP<n
 tv:T.bP<n
 ov:O.bP<n
theorem Cx.ro {g:Rows} {n:Nat} {c T O:Id} {s:aA} {ts:List ad} (h:Cx g n c T O s ts):Cx (V.ro g) n c T O s ts:=by
 obtain⟨b,h1⟩:=h.row
 obtain⟨b2,h2⟩:=h.tl
 exact⟨⟨false,by simp[V.ro,h1]⟩,⟨false,by simp[V.ro,h2]⟩,h.cv,h.tv,h.ov⟩
theorem Cx.frame {g g':Rows} {n n':Nat} {c T O:Id} {s:aA} {ts:List ad} (h:Cx g n c T O s ts) (hn:n<=n') (hc:g' c=g c) (hT:g' T=g T):Cx g' n' c T O s ts:=
 ⟨by rw[hc];exact h.row,by rw[hT];exact h.tl,Nat.lt_of_lt_of_le h.cv hn,Nat.lt_of_lt_of_le h.tv hn,Nat.lt_of_lt_of_le h.ov hn⟩
theorem S9 {σ:ar} {c T O:Id} {s:aA} {ts:List ad} (h:Cx σ.get σ.next c T O s ts) (p:aD):Call Tryz.prog 121 [.ptr c 0 0,.agg (ae p)] σ (fun r _=>r=.int .i64 (gx ts p)):=by
 refine eT eB rfl fun lj=>?_
 clear lj
 obtain⟨b,h1⟩:=h.row
 obtain⟨b2,h2⟩:=h.tl
 have v1:=dw h.cv
 have v2:=dw h.tv
 by_cases h0:0<=eD ts p
 ·have hm:=GB h0
  have hg:=fu (lH h0).1
  have ho:(some (eD ts p).toNat).isSome=true:=rfl
  (try((repeat(revert hN;revert N;apply Pn.out));refine wk (tw @h1 (tw @h2 (tw @v1 (tw @v2 (tw @hm (tw @hg (tw @ho (tw @ae.eq_1 @aa.eq_1)))))))) ?_;(repeat(refine Pn.mk ?_;intro N hN))))
  exact fw (.inl rfl) (vs:=[.int .i64 (aI ts (eD ts p).toNat).aQ]) (sd @Nat.zero_add) (by rw[gx,if_pos h0];rfl)
 ·have hm:=qI (ts:=ts) (p:=p) (by omega)
  have ho:(none:Option Nat).isSome=false:=rfl
  (try((repeat(revert hN;revert N;apply Pn.out));refine wk (tw @h1 (tw @h2 (tw @v1 (tw @v2 (tw @hm (tw @ho @ae.eq_1)))))) ?_;(repeat(refine Pn.mk ?_;intro N hN))))
  exact fw (.inl rfl) (vs:=[.int .i64 (-1)]) (sd @Nat.zero_add) (by rw[gx,if_neg h0];rfl)
theorem Ni {σ:ar} {c T O:Id} {s:aA} {ts:List ad} (h:Cx σ.get σ.next c T O s ts) (p:aD):gD (Call Tryz.prog) 121 [.ptr c 0 0,.agg (ae p)] σ (fun r=>r=.int .i64 (gx ts p)):=by
 unfold gD PC
 exact Or.inl (aJ _ _ _ _ _ (fun r σ' hr=>⟨_,by rw[hr];exact aH _ _ _ _,rfl⟩) (S9 (σ:=⟨V.ro σ.get,σ.next⟩) h.ro p))
theorem FK {σ:ar} (s:au) (hS:iF s) (F:aD->Int) (hF:∀q,0<=F q->eK s (F q)=true) (p:aD) (hx:iB p.eY) (hy:iB p.eS) (t:Int) (ht:eK s t=true) (f:Nat) (first:List AV)
  (EV:∀σ':ar,σ.next<=σ'.next->(∀x:Id,x.bP<σ.next->σ'.get x=σ.get x)->∀q,gD (Call Tryz.prog) f (first++[.agg (ae q)]) σ' (fun r=>r=.int .i64 (F q))):
  Call Tryz.prog 120 [.agg (ab s),.agg (ae p),.int .i64 t,.tO f first] σ (fun r _=>r=.int .i64 (tt s F p t)):=by
 refine eT eB rfl fun lj=>?_
 clear lj
 (try((repeat(revert hN;revert N;apply Pn.out));refine wk (tw @ae.eq_1 @ab.eq_1) ?_;(repeat(refine Pn.mk ?_;intro N hN))))
 refine aV (fun n env st=>∃k:Nat,n=(4)-k/\k<=(4)/\env 12=.int .i64 (k:Int)/\env 9=.int .i64 (dR s F p t k)/\st.get ⟨120000000,σ.next⟩=some ⟨true,2,[ab s]⟩/\st.get ⟨120000001,σ.next⟩=some ⟨true,2,[ae p]⟩/\(σ.next<st.next/\∀x:Id,x.bP<σ.next->st.get x=σ.get x)) (4) ⟨0,by omega,by omega,sl (tw @ae.eq_1 @ab.eq_1),sl (tw @ae.eq_1 @ab.eq_1),sl (tw @ae.eq_1 @ab.eq_1),sl (tw @ae.eq_1 @ab.eq_1),⟨by(try dsimp only);omega,fun x hx=>by
  have:=dw hx
  simp only[go_sem, ↓reduceIte,Nat.reduceEqDiff,Nat.reduceAdd,Nat.reduceSub,Nat.reduceLeDiff,reduceCtorEq,this]⟩⟩ ?_
 rintro n_a env_a st_a ⟨k,rfl,ale,a12,a9,ag0,ag1,lQ⟩ dD
 have a2:=dD 2 (by kernel_rfl);have a3:=dD 3 (by kernel_rfl);have a4:=dD 4 (by kernel_rfl);have a5:=dD 5 (by kernel_rfl)
 simp only[go_sem, ↓reduceIte,Nat.reduceEqDiff,Nat.reduceAdd,Nat.reduceSub,Nat.reduceLeDiff,reduceCtorEq,ae,ab]at a2 a3 a4 a5
 clear dD
 obtain⟨an,dD⟩:=lQ
 by_cases hk:(k:Int)<4
 ·have cC:∀{e:Env} {gg:Rows} {nx:Nat},(e 12=.int .i64 (IntKind.i64.wrap ((k:Int)+1)))->(e 9=.int .i64 (dR s F p t (k+1)))->(gg ⟨120000000,σ.next⟩=some ⟨true,2,[ab s]⟩)->(gg ⟨120000001,σ.next⟩=some ⟨true,2,[ae p]⟩)->(σ.next<nx/\∀x:Id,x.bP<σ.next->gg x=σ.get x)->∃m0,m0<(4)-k/\∃k:Nat,m0=(4)-k/\k<=(4)/\e 12=.int .i64 (k:Int)/\e 9=.int .i64 (dR s F p t k)/\gg ⟨120000000,σ.next⟩=some ⟨true,2,[ab s]⟩/\gg ⟨120000001,σ.next⟩=some ⟨true,2,[ae p]⟩/\(σ.next<nx/\∀x:Id,x.bP<σ.next->gg x=σ.get x):=fun x1 x2 x3 x4 x5=>⟨_,by omega,k+1,rfl,by omega,(by rw[x1,az (by omega)]),x2,x3,x4,x5⟩
  have dE:=Ee p k (kO (by omega)) hx hy
  have ft:=lx hS F p t k
  (repeat(first|((repeat(revert hN;revert N;apply Pn.out));refine wk (tw @a12 (tw @a9 (tw @ag0 (tw @ag1 (tw @a2 (tw @a3 (tw @a4 (tw @a5 (tw @hk @ae.eq_1))))))))) ?_;(repeat(refine Pn.mk ?_;intro N hN)))|((try apply Or.inl);refine⟨_,aq.x (dE) (sd (tw @a12 (tw @a9 (tw @ag0 (tw @ag1 (tw @a2 (tw @a3 (tw @a4 (tw @a5 (tw @hk @ae.eq_1)))))))))),?_⟩;refine hN _ _ ?_;clear hN N)))
  refine .inl ⟨_,EV _ (by(try dsimp only);omega) (fun x hx=>sd (dD x hx)) (dx p k),?_⟩
  refine hN _ _ ?_
  clear hN N
  by_cases h0:0<=F (dx p k)
  ·have xd:=HR s hS.form t k (F (dx p k)) ht (hF _ h0) (kO (by omega))
   have fP:=u9 hS t k (F (dx p k))
   have hw:IntKind.i64.wrap (dR s F p t k+gT s t k (F (dx p k)))=dR s F p t (k+1):=by
    rw[bt (by omega),dR,if_pos h0]
   rw[ab]at xd
   (repeat(first|((repeat(revert hN;revert N;apply Pn.out));refine wk (tw @a12 (tw @a9 (tw @ag0 (tw @ag1 (tw @a2 (tw @a3 (tw @a4 (tw @a5 (tw @h0 @ab.eq_1))))))))) ?_;(repeat(refine Pn.mk ?_;intro N hN)))|((try apply Or.inl);refine⟨_,aq.x (xd) (sd (tw @a12 (tw @a9 (tw @ag0 (tw @ag1 (tw @a2 (tw @a3 (tw @a4 (tw @a5 (tw @h0 @ab.eq_1)))))))))),?_⟩;refine hN _ _ ?_;clear hN N)))
   refine cC ?_ ?_ ?_ ?_ (⟨by(try dsimp only);omega,fun x hx=>by
    have h1:=dD x hx
    simp only[go_sem, ↓reduceIte,Nat.reduceEqDiff,Nat.reduceAdd,Nat.reduceSub,Nat.reduceLeDiff,reduceCtorEq,h1]⟩)
   all_goals simp only[go_sem, ↓reduceIte,Nat.reduceEqDiff,Nat.reduceAdd,Nat.reduceSub,Nat.reduceLeDiff,reduceCtorEq,a12,a9,ag0,ag1,a2,a3,a4,a5,hw,ae,ab]
  ·have hw:dR s F p t (k+1)=dR s F p t k:=by rw[dR,if_neg h0,Int.add_zero]
   (try((repeat(revert hN;revert N;apply Pn.out));refine wk (tw @a12 (tw @a9 (tw @ag0 (tw @ag1 (tw @a2 (tw @a3 (tw @a4 (tw @a5 @h0)))))))) ?_;(repeat(refine Pn.mk ?_;intro N hN))))
   refine cC ?_ ?_ ?_ ?_ (⟨by(try dsimp only);omega,fun x hx=>by
    have h1:=dD x hx
    simp only[go_sem, ↓reduceIte,Nat.reduceEqDiff,Nat.reduceAdd,Nat.reduceSub,Nat.reduceLeDiff,reduceCtorEq,h1]⟩)
   all_goals simp only[go_sem, ↓reduceIte,Nat.reduceEqDiff,Nat.reduceAdd,Nat.reduceSub,Nat.reduceLeDiff,reduceCtorEq,a12,a9,ag0,ag1,a2,a3,a4,a5,hw,ae,ab]
 ·(try((repeat(revert hN;revert N;apply Pn.out));refine wk (tw @a12 (tw @a9 (tw @ag0 (tw @ag1 (tw @a2 (tw @a3 (tw @a4 (tw @a5 @hk)))))))) ?_;(repeat(refine Pn.mk ?_;intro N hN))))
  exact fw (.inl rfl) (vs:=[.int .i64 (dR s F p t k)]) (sd (tw @a12 (tw @a9 (tw @ag0 (tw @ag1 (tw @a2 (tw @a3 (tw @a4 @a5)))))))) (by rw[show k=4 by omega];rfl)
end Go.Proofs.YtgoelphibofcmaaGreat.V

namespace Go.Proofs.YtgoelphibofcmaaGreat.V
open Go.RowKit
attribute [local irreducible] dI wpOps gD Call
attribute [local go_sem] aM fM eP gp gm cN upd cD K.av cR AV.cells AV.cell rowOf rowsOf part ld rowAt bz cu dG ef ik bQ dh eA gj e9 dq ek dd dc dU dV bW bf cW bV cY cX ei eo ej cV ck de eh bU aT da cG ij bx cQ b4 aY dn bc dH AV.undef bF bI eb ee dP dM cJ ez eE cF er ep cZ db List.getD_cons_zero List.getD_cons_succ List.getD_nil List.all_cons List.all_nil Bool.and_true Bool.true_and Bool.and_self Bool.not_true Bool.not_false Option.map_some Option.map_none Option.bind_some Option.bind_none List.length_cons List.length_nil List.take_succ_cons List.take_zero List.take_nil List.drop_succ_cons List.drop_zero List.drop_nil List.head?_cons List.map_cons List.map_nil List.getElem?_cons_zero List.getElem?_cons_succ List.cons_append List.nil_append List.append_nil List.length_map List.set_cons_zero List.set_cons_succ Nat.reduceMul eq_self Int.toNat_natCast Int.natCast_nonneg and_self true_and and_true decide_true decide_false Bool.false_eq_true Nat.zero_add Nat.add_zero List.contains_cons List.contains_nil Bool.or_false Bool.false_or beq_self_eq_true Nat.reduceBEq ne_eq not_true_eq_false not_false_eq_true Id.mk.injEq false_and and_false Nat.reduceLT Int.reduceLE Int.reduceLT Int.reduceToNat Int.reduceNeg Int.reduceAdd Nat.le_refl List.length_append beq_true beq_false Bool.not_eq_eq_eq_not or_false false_or dO ai aj aH bp bE cz aX bl aW bj cU bH
noncomputable def j4 (s:aA) (ts:List ad) (p:aD) (t:Int):Bool:=Cb p&&decide (gx ts p<0)&&decide (s.aB<=tt s.aE (gx ts) p t)
theorem FL {σ:ar} {c T O:Id} {s:aA} {ts:List ad} (h:Cx σ.get σ.next c T O s ts) (hS:iF s.aE) (hF:∀q,0<=gx ts q->eK s.aE (gx ts q)=true) (p:aD) (hx:iB p.eY) (hy:iB p.eS) (t:Int) (ht:eK s.aE t=true):
  gD (Call Tryz.prog) 120 [.agg (ab s.aE),.agg (ae p),.int .i64 t,.tO 121 [.ptr c 0 0]] σ (fun r=>r=.int .i64 (tt s.aE (gx ts) p t)):=by
 unfold gD PC
 exact Or.inl (aJ _ _ _ _ _ (fun r σ' hr=>⟨_,by rw[hr];exact aH _ _ _ _,rfl⟩) (FK (σ:=⟨V.ro σ.get,σ.next⟩) s.aE hS (gx ts) hF p hx hy t ht _ _
  (fun σ' hn hk q=>Ni (h.ro.frame hn (hk _ h.cv) (hk _ h.tv)) q)))
theorem Ny {σ:ar} {c T O:Id} {s:aA} {ts:List ad} (h:Cx σ.get σ.next c T O s ts) (hS:iF s.aE) (hF:∀q,0<=gx ts q->eK s.aE (gx ts q)=true) (p:aD) (t:Int) (ht:eK s.aE t=true):
  Call Tryz.prog 133 [.ptr c 0 0,.agg (ae p),.int .i64 t] σ (fun r _=>r=.bool (j4 s ts p t)):=by
 refine eT eB rfl fun lj=>?_
 clear lj
 obtain⟨b,h1⟩:=h.row
 have v1:=dw h.cv
 have hw:=qU p
 have v2:=dw h.tv
 by_cases h0:Cb p=true
 ·rw[h0]at hw
  obtain⟨hx,hy⟩:=s7 h0
  by_cases h2:gx ts p<0
  ·(repeat(first|((repeat(revert hN;revert N;apply Pn.out));refine wk (tw @h1 (tw @v1 (tw @h2 @ae.eq_1))) ?_;(repeat(refine Pn.mk ?_;intro N hN)))|((try apply Or.inl);refine⟨_,aq.x (hw) (sd (tw @h1 (tw @v1 (tw @h2 @ae.eq_1)))),?_⟩;refine hN _ _ ?_;clear hN N)))
   refine⟨_,Ni (h.frame (by(try dsimp only);omega) (sd @v1) (sd @v2)) p,?_⟩
   refine hN _ _ ?_
   clear hN N
   (repeat(first|((repeat(revert hN;revert N;apply Pn.out));refine wk (tw @h1 (tw @v1 (tw @h2 (tw @ae.eq_1 @ab.eq_1)))) ?_;(repeat(refine Pn.mk ?_;intro N hN)))|((try apply Or.inl);refine⟨_,aq.x (hw) (sd (tw @h1 (tw @v1 (tw @h2 (tw @ae.eq_1 @ab.eq_1))))),?_⟩;refine hN _ _ ?_;clear hN N)))
   refine⟨_,FL (h.frame (by(try dsimp only);omega) (sd @v1) (sd @v2)) hS hF p hx hy t ht,?_⟩
   refine hN _ _ ?_
   clear hN N
   have hb:=lx hS (gx ts) p t 4
   (repeat(first|((repeat(revert hN;revert N;apply Pn.out));refine wk (tw @h1 (tw @v1 (tw @h2 (tw @ae.eq_1 @ab.eq_1)))) ?_;(repeat(refine Pn.mk ?_;intro N hN)))|((try apply Or.inl);refine⟨_,aq.x (hw) (sd (tw @h1 (tw @v1 (tw @h2 (tw @ae.eq_1 @ab.eq_1))))),?_⟩;refine hN _ _ ?_;clear hN N)))
   exact fw (.inl rfl) (vs:=[.bool (decide (s.aB<=tt s.aE (gx ts) p t))]) (sd @Nat.zero_add) (by rw[show j4 s ts p t=decide (s.aB<=tt s.aE (gx ts) p t) by simp[j4,h0,h2]];rfl)
  ·(repeat(first|((repeat(revert hN;revert N;apply Pn.out));refine wk (tw @h1 (tw @v1 (tw @h2 @ae.eq_1))) ?_;(repeat(refine Pn.mk ?_;intro N hN)))|((try apply Or.inl);refine⟨_,aq.x (hw) (sd (tw @h1 (tw @v1 (tw @h2 @ae.eq_1)))),?_⟩;refine hN _ _ ?_;clear hN N)))
   refine⟨_,Ni (h.frame (by(try dsimp only);omega) (sd @v1) (sd @v2)) p,?_⟩
   refine hN _ _ ?_
   clear hN N
   (repeat(first|((repeat(revert hN;revert N;apply Pn.out));refine wk (tw @h1 (tw @v1 (tw @h2 @ae.eq_1))) ?_;(repeat(refine Pn.mk ?_;intro N hN)))|((try apply Or.inl);refine⟨_,aq.x (hw) (sd (tw @h1 (tw @v1 (tw @h2 @ae.eq_1)))),?_⟩;refine hN _ _ ?_;clear hN N)))
   exact fw (.inl rfl) (vs:=[.bool false]) (sd @Nat.zero_add) (by rw[show j4 s ts p t=false by simp[j4,h2]];rfl)
 ·rw[Bool.not_eq_true]at h0
  rw[h0]at hw
  (repeat(first|((repeat(revert hN;revert N;apply Pn.out));refine wk (tw @h1 (tw @v1 @ae.eq_1)) ?_;(repeat(refine Pn.mk ?_;intro N hN)))|((try apply Or.inl);refine⟨_,aq.x (hw) (sd (tw @h1 (tw @v1 @ae.eq_1))),?_⟩;refine hN _ _ ?_;clear hN N)))
  exact fw (.inl rfl) (vs:=[.bool false]) (sd @Nat.zero_add) (by rw[show j4 s ts p t=false by simp[j4,h0]];rfl)
end Go.Proofs.YtgoelphibofcmaaGreat.V

namespace Go.Proofs.YtgoelphibofcmaaGreat.V
open Go.RowKit
attribute [local irreducible] dI wpOps gD Call
attribute [local go_sem] aM fM eP gp gm cN upd cD K.av cR AV.cells AV.cell rowOf rowsOf part ld rowAt bz cu dG ef ik bQ dh eA gj e9 dq ek dd dc dU dV bW bf cW bV cY cX ei eo ej cV ck de eh bU aT da cG ij bx cQ b4 aY dn bc dH AV.undef bF bI eb ee dP dM cJ ez eE cF er ep cZ db List.getD_cons_zero List.getD_cons_succ List.getD_nil List.all_cons List.all_nil Bool.and_true Bool.true_and Bool.and_self Bool.not_true Bool.not_false Option.map_some Option.map_none Option.bind_some Option.bind_none List.length_cons List.length_nil List.take_succ_cons List.take_zero List.take_nil List.drop_succ_cons List.drop_zero List.drop_nil List.head?_cons List.map_cons List.map_nil List.getElem?_cons_zero List.getElem?_cons_succ List.cons_append List.nil_append List.append_nil List.length_map List.set_cons_zero List.set_cons_succ Nat.reduceMul eq_self Int.toNat_natCast Int.natCast_nonneg and_self true_and and_true decide_true decide_false Bool.false_eq_true Nat.zero_add Nat.add_zero List.contains_cons List.contains_nil Bool.or_false Bool.false_or beq_self_eq_true Nat.reduceBEq ne_eq not_true_eq_false not_false_eq_true Id.mk.injEq false_and and_false Nat.reduceLT Int.reduceLE Int.reduceLT Int.reduceToNat Int.reduceNeg Int.reduceAdd Nat.le_refl List.length_append beq_true beq_false Bool.not_eq_eq_eq_not or_false false_or dO ai aj aH bp bE cz aX bl aW bj cU bH
def OW (rows:List (List AV)):Prop:=∀r∈rows,∃(x y:Int) (v:AV),r=[.int .i64 x,.int .i64 y,v]
theorem Fp (x y:Int):∀(rows:List (List AV)) (i:Nat),OW rows->∃fi,fZ mP [.int .i64 x,.int .i64 y] rows i=some fi
 |[],i,_=>⟨none,by simp[fZ]⟩
 |r::rs,i,h=>by
  obtain⟨fi,hf⟩:=Fp x y rs (i+1) fun r hr=>h r (by simp[hr])
  obtain⟨x',y',v,rfl⟩:=h r (by simp)
  unfold fZ
  have e:e9 mP.ts [.int .i64 x,.int .i64 y] (([.int .i64 x',.int .i64 y',v]:List AV).take mP.ks)=some (decide (x=x')&&decide (y=y')):=by
   simp[MK.ks,e9,gj]
  rw[e]
  cases decide (x=x')&&decide (y=y')
  ·exact⟨fi,hf⟩
  ·exact⟨some i,rfl⟩
theorem Ca {rows:List (List AV)} (h:OW rows) (x y:Int):∃fi,fK mP (.agg [.int .i64 x,.int .i64 y]) rows=some fi:=by
 unfold fK
 rw[if_pos ⟨rfl,rfl,rfl⟩]
 exact Fp x y rows 0 h
theorem OG {rows:List (List AV)} (h:OW rows) (x y:Int) (v:AV) (fi:Option Nat):OW (dP rows [.int .i64 x,.int .i64 y,v] fi):=by
 intro r hr
 cases fi with
 |none=>
  rcases List.mem_append.1 (show r∈rows++[_]from hr)with h1|h1
  ·exact h r h1
  ·simp at h1;exact⟨x,y,v,h1⟩
 |some i=>
  rcases List.mem_or_eq_of_mem_set (show r∈rows.set i _ from hr)with h1|h1
  ·exact h r h1
  ·exact⟨x,y,v,h1⟩
theorem Jp {rows:List (List AV)} (h:OW rows) (fi:Option Nat):OW (dM rows fi):=by
 intro r hr
 cases fi with
 |none=>exact h r (by simpa[dM]using hr)
 |some i=>exact h r (List.mem_of_mem_eraseIdx (by simpa[dM]using hr))
def iJ (σ:ar) (O:Id) (g:Rows) (n:Nat):Prop:=σ.next<=n/\(∀x:Id,x.bP<σ.next->x≠O->g x=σ.get x)/\∃rows,g O=some ⟨true,mP.pq,rows⟩/\OW rows
theorem iJ.xc {σ:ar} {g:Rows} {n:Nat} {c T O:Id} {s:aA} {ts:List ad} (h:Cx σ.get σ.next c T O s ts) (hc:c≠O) (hT:T≠O) (k:iJ σ O g n):Cx g n c T O s ts:=
 h.frame k.1 (k.2.1 _ h.cv hc) (k.2.1 _ h.tv hT)
theorem iJ.trans {a b:ar} {O:Id} {g:Rows} {n:Nat} (h:iJ a O b.get b.next) (k:iJ b O g n):iJ a O g n:=
 ⟨Nat.le_trans h.1 k.1,fun x hx hO=>(k.2.1 x (Nat.lt_of_lt_of_le hx h.1) hO).trans (h.2.1 x hx hO),k.2.2⟩
theorem iJ.frame {a:ar} {O:Id} {g g':Rows} {n n' m:Nat} (h:iJ a O g n) (ha:a.next<=m) (ho:O.bP<m) (hn:n<=n') (hf:∀x:Id,x.bP<m->g' x=g x):iJ a O g' n':=by
 refine⟨Nat.le_trans h.1 hn,fun x hx hO=>(hf x (Nat.lt_of_lt_of_le hx ha)).trans (h.2.1 x hx hO),?_⟩
 obtain⟨rows,h1,h2⟩:=h.2.2
 exact⟨rows,(hf O ho).trans h1,h2⟩
theorem iJ.write {a:ar} {O:Id} {g g':Rows} {n n':Nat} (h:iJ a O g n) (hn:n<=n') (hf:∀x:Id,x.bP<a.next->x≠O->g' x=g x) {rows:List (List AV)} (ho:g' O=some ⟨true,mP.pq,rows⟩) (hw:OW rows):iJ a O g' n':=
 ⟨Nat.le_trans h.1 hn,fun x hx hO=>(hf x hx hO).trans (h.2.1 x hx hO),rows,ho,hw⟩
theorem Ic {σ:ar} {c T O:Id} {s:aA} {ts:List ad} (h:Cx σ.get σ.next c T O s ts) (hS:iF s.aE) (hF:∀q,0<=gx ts q->eK s.aE (gx ts q)=true) (p:aD) (t:Int) (ht:eK s.aE t=true):
  gD (Call Tryz.prog) 133 [.ptr c 0 0,.agg (ae p),.int .i64 t] σ (fun r=>r=.bool (j4 s ts p t)):=by
 unfold gD PC
 exact Or.inl (aJ _ _ _ _ _ (fun r σ' hr=>⟨_,by rw[hr];exact bp _ _ _,rfl⟩) (Ny (σ:=⟨V.ro σ.get,σ.next⟩) h.ro hS hF p t ht))
theorem rJ {σ:ar} {c T O:Id} {s:aA} {ts:List ad} (h:Cx σ.get σ.next c T O s ts) (hc:c≠O) (hT:T≠O) (hO:∃rows,σ.get O=some ⟨true,mP.pq,rows⟩/\OW rows) (hS:iF s.aE) (hF:∀q,0<=gx ts q->eK s.aE (gx ts q)=true) (p:aD) (hx:iB p.eY) (hy:iB p.eS):
  Call Tryz.prog 127 [.ptr c 0 0,.agg (ae p)] σ (fun r σ'=>r=.gK []/\iJ σ O σ'.get σ'.next):=by
 refine eT eB rfl fun lj=>?_
 clear lj
 have Om:=hS.J0
 have h0:iJ σ O σ.get σ.next:=⟨Nat.le_refl _,fun _ _ _=>rfl,hO⟩
 (try((repeat(revert hN;revert N;apply Pn.out));refine wk @ae.eq_1 ?_;(repeat(refine Pn.mk ?_;intro N hN))))
 refine aV (fun n env st=>∃k:Nat,n=(4)-k/\k<=(4)/\env 8=.int .i64 (k:Int)/\st.get ⟨127000000,σ.next⟩=some ⟨true,2,[ae p]⟩/\(σ.next<st.next/\iJ σ O st.get st.next)) (4) ⟨0,by omega,by omega,sl @ae.eq_1,sl @ae.eq_1,⟨by(try dsimp only);omega,h0.frame (Nat.le_refl _) h.ov (by(try dsimp only);omega) fun x hx=>by
  have:=dw hx
  simp only[go_sem, ↓reduceIte,Nat.reduceEqDiff,Nat.reduceAdd,Nat.reduceSub,Nat.reduceLeDiff,reduceCtorEq,this]⟩⟩ ?_
 rintro n_a env_a st_a ⟨k,rfl,ale,a8,ag0,lQ⟩ dD
 have a0:=dD 0 (by kernel_rfl);have a3:=dD 3 (by kernel_rfl)
 simp only[go_sem, ↓reduceIte,Nat.reduceEqDiff,Nat.reduceAdd,Nat.reduceSub,Nat.reduceLeDiff,reduceCtorEq,ae]at a0 a3
 clear dD
 obtain⟨an,ak⟩:=lQ
 have ha:=ak.xc h hc hT
 by_cases hk:(k:Int)<4
 ·have cC:∀{e:Env} {gg:Rows} {nx:Nat},(e 8=.int .i64 (IntKind.i64.wrap ((k:Int)+1)))->(gg ⟨127000000,σ.next⟩=some ⟨true,2,[ae p]⟩)->(σ.next<nx/\iJ σ O gg nx)->∃m0,m0<(4)-k/\∃k:Nat,m0=(4)-k/\k<=(4)/\e 8=.int .i64 (k:Int)/\gg ⟨127000000,σ.next⟩=some ⟨true,2,[ae p]⟩/\(σ.next<nx/\iJ σ O gg nx):=fun x1 x2 x3=>⟨_,by omega,k+1,rfl,by omega,(by rw[x1,az (by omega)]),x2,x3⟩
  have dE:=Ee p k (kO (by omega)) hx hy
  obtain⟨b,h1⟩:=ha.row
  have v1:=dw ha.cv
  (repeat(first|((repeat(revert hN;revert N;apply Pn.out));refine wk (tw @a8 (tw @ag0 (tw @a0 (tw @a3 (tw @hk (tw @h1 (tw @v1 @ae.eq_1))))))) ?_;(repeat(refine Pn.mk ?_;intro N hN)))|((try apply Or.inl);refine⟨_,aq.x (dE) (sd (tw @a8 (tw @ag0 (tw @a0 (tw @a3 (tw @hk (tw @h1 (tw @v1 @ae.eq_1)))))))),?_⟩;refine hN _ _ ?_;clear hN N)))
  refine aV (fun n env st=>∃t:Nat,n=(s.aE.ah.length)-t/\t<=(s.aE.ah.length)/\env 21=.int .i64 (t:Int)/\st.get ⟨127000000,σ.next⟩=some ⟨true,2,[ae p]⟩/\st.get ⟨127004003,st_a.next+1+1⟩=some ⟨true,2,[ae (dx p k)]⟩/\(st_a.next+3<=st.next/\iJ σ O st.get st.next/\(env 6=.cq∨∃(o:Id) (n:Nat) (rows:List (List AV)),env 6=.own o 0 n/\st.get o=some ⟨true,1,rows⟩/\rows.length=n/\0<n/\n<=t/\st_a.next+3<=o.bP/\o.bP<st.next))) (s.aE.ah.length) ⟨0,by omega,by omega,sl (tw @a8 (tw @ag0 (tw @a0 (tw @a3 @ae.eq_1)))),sl (tw @a8 (tw @ag0 (tw @a0 (tw @a3 @ae.eq_1)))),sl (tw @a8 (tw @ag0 (tw @a0 (tw @a3 @ae.eq_1)))),⟨by(try dsimp only);omega,ak.frame ak.1 ha.ov (by(try dsimp only);omega) fun x hx=>(by
   have:=dw hx
   simp only[go_sem, ↓reduceIte,Nat.reduceEqDiff,Nat.reduceAdd,Nat.reduceSub,Nat.reduceLeDiff,reduceCtorEq,this]),.inl (sd @Nat.zero_add)⟩⟩ ?_
  rintro n_b env_b st_b ⟨t,rfl,ble,b21,bg0,bg1,bI0⟩ fW
  have b0:=fW 0 (by kernel_rfl);have b3:=fW 3 (by kernel_rfl);have b5:=fW 5 (by kernel_rfl);have b8:=fW 8 (by kernel_rfl);have Hh:=fW 20 (by kernel_rfl)
  simp only[go_sem, ↓reduceIte,Nat.reduceEqDiff,Nat.reduceAdd,Nat.reduceSub,Nat.reduceLeDiff,reduceCtorEq,a8,ag0,a0,a3,ae]at b0 b3 b5 b8 Hh
  clear fW
  obtain⟨bn,bk,b6⟩:=bI0
  have NV:=bk.xc h hc hT
  obtain⟨b2,h2⟩:=NV.row
  have v2:=dw NV.cv
  have vt:=dw (i:=⟨127000000,σ.next⟩) (n:=st_b.next) (by(try dsimp only);omega)
  have vq:=dw (i:=⟨127004003,st_a.next+1+1⟩) (n:=st_b.next) (by(try dsimp only);omega)
  by_cases ht:(t:Int)<(s.aE.ah.length:Int)
  ·have ga:∀{e:Env} {gg:Rows} {nx:Nat},(e 21=.int .i64 (IntKind.i64.wrap ((t:Int)+1)))->(gg ⟨127000000,σ.next⟩=some ⟨true,2,[ae p]⟩)->(gg ⟨127004003,st_a.next+1+1⟩=some ⟨true,2,[ae (dx p k)]⟩)->(st_a.next+3<=nx/\iJ σ O gg nx/\(e 6=.cq∨∃(o:Id) (n:Nat) (rows:List (List AV)),e 6=.own o 0 n/\gg o=some ⟨true,1,rows⟩/\rows.length=n/\0<n/\n<=(t+1)/\st_a.next+3<=o.bP/\o.bP<nx))->∃m0,m0<(s.aE.ah.length)-t/\∃t:Nat,m0=(s.aE.ah.length)-t/\t<=(s.aE.ah.length)/\e 21=.int .i64 (t:Int)/\gg ⟨127000000,σ.next⟩=some ⟨true,2,[ae p]⟩/\gg ⟨127004003,st_a.next+1+1⟩=some ⟨true,2,[ae (dx p k)]⟩/\(st_a.next+3<=nx/\iJ σ O gg nx/\(e 6=.cq∨∃(o:Id) (n:Nat) (rows:List (List AV)),e 6=.own o 0 n/\gg o=some ⟨true,1,rows⟩/\rows.length=n/\0<n/\n<=t/\st_a.next+3<=o.bP/\o.bP<nx)):=fun x1 x2 x3 x4=>⟨_,by omega,t+1,rfl,by omega,(by rw[x1,az (by omega)]),x2,x3,x4⟩
   have Q1:t<s.aE.ah.length:=by omega
   (try((repeat(revert hN;revert N;apply Pn.out));refine wk (tw @b21 (tw @bg0 (tw @bg1 (tw @b0 (tw @b3 (tw @b5 (tw @b8 (tw @Hh (tw @ht (tw @h2 (tw @v2 (tw @vt (tw @vq @ae.eq_1))))))))))))) ?_;(repeat(refine Pn.mk ?_;intro N hN))))
   refine .inl ⟨_,Ic (NV.frame (by(try dsimp only);omega) (sd @v2) (by(have:=dw NV.tv);simp only[go_sem, ↓reduceIte,Nat.reduceEqDiff,Nat.reduceAdd,Nat.reduceSub,Nat.reduceLeDiff,reduceCtorEq,this])) hS hF (dx p k) t (JZ Q1),?_⟩
   refine hN _ _ ?_
   clear hN N
   have jB:∀x:Id,x.bP<st_b.next->x≠⟨127010002,st_b.next+1+1+1⟩:=fun x hx h=>by rw[h]at hx;(try dsimp only at hx);omega
   cases hb:j4 s ts (dx p k) t
   ·(try((repeat(revert hN;revert N;apply Pn.out));refine wk (tw @b21 (tw @bg0 (tw @bg1 (tw @b0 (tw @b3 (tw @b5 (tw @b8 (tw @Hh @hb)))))))) ?_;(repeat(refine Pn.mk ?_;intro N hN))))
    refine ga ?_ ?_ ?_ (by(try dsimp only);exact⟨by omega,bk.frame bk.1 NV.ov (by omega) (fun x hx=>by
      have h1:=dw (i:=x) (n:=st_b.next) (by omega)
      simp only[go_sem, ↓reduceIte,Nat.reduceEqDiff,Nat.reduceAdd,Nat.reduceSub,Nat.reduceLeDiff,reduceCtorEq,h1]),by
     rcases b6 with h|⟨o,n,rows,h1,h2,h3,h4,h5,h6,h7⟩
     ·exact .inl (sd @h)
     ·have h8:=dw h7
      exact .inr ⟨o,n,rows,sd @h1,sd (tw @h2 @h8),h3,h4,by omega,h6,by omega⟩⟩)
    all_goals simp only[go_sem, ↓reduceIte,Nat.reduceEqDiff,Nat.reduceAdd,Nat.reduceSub,Nat.reduceLeDiff,reduceCtorEq,b21,bg0,bg1,b0,b3,b5,b8,Hh,ae,vt,vq]
   ·rcases b6 with b6|⟨o,n,rows,b6,bo,o3,o4,o5,o6,o7⟩
    ·(try((repeat(revert hN;revert N;apply Pn.out));refine wk (tw @b21 (tw @bg0 (tw @bg1 (tw @b0 (tw @b3 (tw @b5 (tw @b8 (tw @Hh (tw @b6 @hb))))))))) ?_;(repeat(refine Pn.mk ?_;intro N hN))))
     refine ga ?_ ?_ ?_ (by(try dsimp only);exact⟨by omega,bk.frame (m:=st_a.next) ak.1 ha.ov (by omega) (fun x hx=>by
      have h1:=dw (i:=x) (n:=st_b.next) (by omega)
      simp only[go_sem, ↓reduceIte,Nat.reduceEqDiff,Nat.reduceAdd,Nat.reduceSub,Nat.reduceLeDiff,reduceCtorEq,h1]),.inr ⟨⟨127010003,st_b.next+1+1+1⟩,1,[[.int .i64 t]],sl @Nat.zero_add,sd @Nat.zero_add,rfl,by omega,by omega,by(try dsimp only);omega,by(try dsimp only);omega⟩⟩)
     all_goals simp only[go_sem, ↓reduceIte,Nat.reduceEqDiff,Nat.reduceAdd,Nat.reduceSub,Nat.reduceLeDiff,reduceCtorEq,b21,bg0,bg1,b0,b3,b5,b8,Hh,ae,vt,vq]
    ·subst o3
     have e1:rows.length<=16777215:=by omega
     have vo:=dw o7
     have vto:=cr (a:=⟨127000000,σ.next⟩) (b:=o) (by(try dsimp only);omega)
     have vqo:=cr (a:=⟨127004003,st_a.next+1+1⟩) (b:=o) (by(try dsimp only);omega)
     (try((repeat(revert hN;revert N;apply Pn.out));refine wk (tw @b21 (tw @bg0 (tw @bg1 (tw @b0 (tw @b3 (tw @b5 (tw @b8 (tw @Hh (tw @b6 (tw @bo (tw @hb (tw @e1 @vo)))))))))))) ?_;(repeat(refine Pn.mk ?_;intro N hN))))
     refine ga ?_ ?_ ?_ (by(try dsimp only);exact⟨by omega,bk.frame (m:=st_a.next) ak.1 ha.ov (by omega) (fun x hx=>by
      have h1:=dw (i:=x) (n:=st_b.next) (by omega)
      have h2:=cr (a:=x) (b:=o) (by omega)
      simp only[go_sem, ↓reduceIte,Nat.reduceEqDiff,Nat.reduceAdd,Nat.reduceSub,Nat.reduceLeDiff,reduceCtorEq,h1,h2]),.inr ⟨⟨127010003,st_b.next+1+1+1⟩,rows.length+1,rows++[[.int .i64 t]],sl @Nat.zero_add,sd @Nat.zero_add,by simp,by omega,by omega,by(try dsimp only);omega,by(try dsimp only);omega⟩⟩)
     all_goals simp only[go_sem, ↓reduceIte,Nat.reduceEqDiff,Nat.reduceAdd,Nat.reduceSub,Nat.reduceLeDiff,reduceCtorEq,b21,bg0,bg1,b0,b3,b5,b8,Hh,ae,vt,vq,vto,vqo]
  ·obtain⟨rows,hg,Ux⟩:=bk.2.2
   have vo:=dw NV.ov
   obtain⟨fi,F9⟩:=Ca Ux (dx p k).eY (dx p k).eS
   have hq:((⟨127000000,σ.next⟩:Id)=O)=False:=(cr (a:=O) (b:=⟨127000000,σ.next⟩) (by have:=h.ov;(try dsimp only);omega)).2
   rcases b6 with b6|⟨o,n,MU,b6,bo,o3,o4,o5,o6,o7⟩
   ·have d0:decide ((0:Int)<((0:Nat):Int))=false:=rfl
    (try((repeat(revert hN;revert N;apply Pn.out));refine wk (tw @b21 (tw @bg0 (tw @bg1 (tw @b0 (tw @b3 (tw @b5 (tw @b8 (tw @Hh (tw @b6 (tw @ht (tw @h2 (tw @v2 (tw @vt (tw @vq (tw @vo (tw @hg (tw @F9 (tw @ae.eq_1 @d0)))))))))))))))))) ?_;(repeat(refine Pn.mk ?_;intro N hN))))
    refine cC ?_ ?_ (by(try dsimp only);exact⟨by omega,bk.write (by omega) (fun x hx MO=>by
     have h1:=dw (i:=x) (n:=st_b.next) (by omega)
     have h2:(x=O)=False:=eq_false MO
     simp only[go_sem, ↓reduceIte,Nat.reduceEqDiff,Nat.reduceAdd,Nat.reduceSub,Nat.reduceLeDiff,reduceCtorEq,h1,h2]) (sl @Nat.zero_add) (Jp Ux _)⟩)
    all_goals simp only[go_sem, ↓reduceIte,Nat.reduceEqDiff,Nat.reduceAdd,Nat.reduceSub,Nat.reduceLeDiff,reduceCtorEq,a8,ag0,a0,a3,b21,bg0,bg1,b0,b3,b5,b8,Hh,ae,vt,vo,hq]
   ·have d1:decide ((0:Int)<(n:Int))=true:=decide_eq_true (by omega)
    (try((repeat(revert hN;revert N;apply Pn.out));refine wk (tw @b21 (tw @bg0 (tw @bg1 (tw @b0 (tw @b3 (tw @b5 (tw @b8 (tw @Hh (tw @b6 (tw @ht (tw @h2 (tw @v2 (tw @vt (tw @vq (tw @vo (tw @hg (tw @F9 (tw @ae.eq_1 @d1)))))))))))))))))) ?_;(repeat(refine Pn.mk ?_;intro N hN))))
    refine cC ?_ ?_ (by(try dsimp only);exact⟨by omega,bk.write (by omega) (fun x hx MO=>by
     have h1:=dw (i:=x) (n:=st_b.next) (by omega)
     have h2:(x=O)=False:=eq_false MO
     simp only[go_sem, ↓reduceIte,Nat.reduceEqDiff,Nat.reduceAdd,Nat.reduceSub,Nat.reduceLeDiff,reduceCtorEq,h1,h2]) (sl @Nat.zero_add) (OG Ux _ _ _ _)⟩)
    all_goals simp only[go_sem, ↓reduceIte,Nat.reduceEqDiff,Nat.reduceAdd,Nat.reduceSub,Nat.reduceLeDiff,reduceCtorEq,a8,ag0,a0,a3,b21,bg0,bg1,b0,b3,b5,b8,Hh,ae,vt,vo,hq]
 ·(try((repeat(revert hN;revert N;apply Pn.out));refine wk (tw @a8 (tw @ag0 (tw @a0 (tw @a3 @hk)))) ?_;(repeat(refine Pn.mk ?_;intro N hN))))
  exact fw (.inr rfl) (vs:=[]) rfl ⟨rfl,ak.frame ak.1 ha.ov (by(try dsimp only);omega) (fun x hx=>rfl)⟩
end Go.Proofs.YtgoelphibofcmaaGreat.V

namespace Go.Proofs.YtgoelphibofcmaaGreat.V
open Go.RowKit
attribute [local irreducible] dI wpOps gD Call
attribute [local go_sem] aM fM eP gp gm cN upd cD K.av cR AV.cells AV.cell rowOf rowsOf part ld rowAt bz cu dG ef ik bQ dh eA gj e9 dq ek dd dc dU dV bW bf cW bV cY cX ei eo ej cV ck de eh bU aT da cG ij bx cQ b4 aY dn bc dH AV.undef bF bI eb ee dP dM cJ ez eE cF er ep cZ db List.getD_cons_zero List.getD_cons_succ List.getD_nil List.all_cons List.all_nil Bool.and_true Bool.true_and Bool.and_self Bool.not_true Bool.not_false Option.map_some Option.map_none Option.bind_some Option.bind_none List.length_cons List.length_nil List.take_succ_cons List.take_zero List.take_nil List.drop_succ_cons List.drop_zero List.drop_nil List.head?_cons List.map_cons List.map_nil List.getElem?_cons_zero List.getElem?_cons_succ List.cons_append List.nil_append List.append_nil List.length_map List.set_cons_zero List.set_cons_succ Nat.reduceMul eq_self Int.toNat_natCast Int.natCast_nonneg and_self true_and and_true decide_true decide_false Bool.false_eq_true Nat.zero_add Nat.add_zero List.contains_cons List.contains_nil Bool.or_false Bool.false_or beq_self_eq_true Nat.reduceBEq ne_eq not_true_eq_false not_false_eq_true Id.mk.injEq false_and and_false Nat.reduceLT Int.reduceLE Int.reduceLT Int.reduceToNat Int.reduceNeg Int.reduceAdd Nat.le_refl List.length_append beq_true beq_false Bool.not_eq_eq_eq_not or_false false_or dO ai aj aH bp bE cz aX bl aW bj cU bH
structure lP (g:Rows) (n:Nat) (c T O:Id) (s:aA) (ts:List ad):Prop where
 row:g c=some ⟨true,6,[[.sl (s.aE.ax.map bG),.sl (s.aE.ah.map bB),.sl (s.aZ.ah.map aa),.int .i64 s.aB,.map T mP,.map O mP]]⟩
 tl:g T=some ⟨true,mP.pq,ts.map aa⟩
 op:∃rows,g O=some ⟨true,mP.pq,rows⟩/\OW rows
 cv:c.bP<n
 tv:T.bP<n
 ov:O.bP<n
 cT:c≠T
 cO:c≠O
 TO:T≠O
theorem lP.xc {g:Rows} {n:Nat} {c T O:Id} {s:aA} {ts:List ad} (h:lP g n c T O s ts):Cx g n c T O s ts:=⟨⟨_,h.row⟩,⟨_,h.tl⟩,h.cv,h.tv,h.ov⟩
theorem lP.look {σ:ar} {g:Rows} {n:Nat} {c T O:Id} {s:aA} {ts:List ad} (h:lP σ.get σ.next c T O s ts) (k:iJ σ O g n):lP g n c T O s ts:=
 ⟨(k.2.1 _ h.cv h.cO).trans h.row,(k.2.1 _ h.tv h.TO).trans h.tl,k.2.2,Nat.lt_of_lt_of_le h.cv k.1,Nat.lt_of_lt_of_le h.tv k.1,Nat.lt_of_lt_of_le h.ov k.1,h.cT,h.cO,h.TO⟩
theorem lP.frame {g g':Rows} {n n':Nat} {c T O:Id} {s:aA} {ts:List ad} (h:lP g n c T O s ts) (hn:n<=n') (hf:∀x:Id,x.bP<n->g' x=g x):lP g' n' c T O s ts:=
 ⟨(hf _ h.cv).trans h.row,(hf _ h.tv).trans h.tl,by rw[hf _ h.ov];exact h.op,Nat.lt_of_lt_of_le h.cv hn,Nat.lt_of_lt_of_le h.tv hn,Nat.lt_of_lt_of_le h.ov hn,h.cT,h.cO,h.TO⟩
def S4 (σ:ar) (s:aA) (ts:List ad) (r:AV) (σ':ar):Prop:=
 ∃c T O:Id,r=.ptr c 0 0/\lP σ'.get σ'.next c T O s ts/\σ.next<=c.bP/\σ.next<=T.bP/\σ.next<=O.bP/\σ.next<=σ'.next/\∀x:Id,x.bP<σ.next->σ'.get x=σ.get x
theorem BB {l:List ad} {p:aD}:eD l p<0↔∀t∈l,t.aO≠p:=by
 unfold eD pR
 by_cases h:(l.findIdx fun c=>decide (c.aO=p))<l.length
 ·rw[if_pos h]
  obtain⟨t,ht,h2⟩:=List.findIdx_lt_length.1 h
  exact⟨fun h=>by omega,fun h=>absurd (by simpa using h2) (h t ht)⟩
 ·rw[if_neg h]
  exact⟨fun _ t ht e=>h (List.findIdx_lt_length.2 ⟨t,ht,by simp[e]⟩),fun _=>by omega⟩
theorem JX {l:List ad} (h:nG l) {k:Nat} (hk:k<l.length):eD (l.take k) (aI l k).aO<0:=by
 rw[BB]
 intro t ht e
 obtain⟨j,hj,rfl⟩:=List.getElem_of_mem ht
 have Ku:j<k:=by rw[List.length_take]at hj;omega
 have:=h j k Ku hk
 rw[List.getElem_take]at e
 have e2:aI l j=l[j]'(by omega):=by unfold aI;rw[List.getD_eq_getElem?_getD,List.getElem?_eq_getElem (by omega)];rfl
 rw[e2,e]at this
 simp[jK]at this
theorem Ma {l:List ad} {k:Nat} (hk:k<l.length):(l.take k).map aa++[[.int .i64 (aI l k).aO.eY,.int .i64 (aI l k).aO.eS,.int .i64 (aI l k).aQ]]=(l.take (k+1)).map aa:=by
 have e2:aI l k=l[k]:=by unfold aI;rw[List.getD_eq_getElem?_getD,List.getElem?_eq_getElem hk];rfl
 rw[List.take_succ_eq_append_getElem hk,List.map_append,e2]
 rfl
theorem iF.Mp {s:au} {l:List ad} (hA:jl s l):∀q,0<=gx l q->eK s (gx l q)=true:=fun _ h=>AO hA h
theorem zU (s:aA) (hS:iF s.aE) (l:List ad) (hA:jl s.aE l) (σ:ar):Call Tryz.prog 73 [.agg (aw s),.agg [.sl (l.map aa)]] σ (S4 σ s l):=by
 refine eT eB rfl fun lj=>?_
 clear lj
 have Iu:=hA.1.rn
 (try((repeat(revert hN;revert N;apply Pn.out));refine wk @aw.eq_1 ?_;(repeat(refine Pn.mk ?_;intro N hN))))
 refine aV (fun n env st=>∃k:Nat,n=(l.length)-k/\k<=(l.length)/\env 18=.int .i64 (k:Int)/\st.get ⟨73001004,σ.next+1⟩=some ⟨true,6,[[.sl (s.aE.ax.map bG),.sl (s.aE.ah.map bB),.sl (s.aZ.ah.map aa),.int .i64 s.aB,.map ⟨73001001,σ.next+1⟩ mP,.map ⟨73001002,σ.next+1⟩ mP]]⟩/\st.get ⟨73001001,σ.next+1⟩=some ⟨true,mP.pq,(l.take k).map aa⟩/\st.get ⟨73001002,σ.next+1⟩=some ⟨true,mP.pq,[]⟩/\st.get ⟨73000001,σ.next⟩=some ⟨true,1,[[.sl (l.map aa)]]⟩/\(σ.next+3<=st.next/\∀x:Id,x.bP<σ.next->st.get x=σ.get x)) (l.length) ⟨0,by omega,by omega,sl @Nat.zero_add,sl @Nat.zero_add,sl @Nat.zero_add,sl @Nat.zero_add,sl @Nat.zero_add,⟨by(try dsimp only);omega,fun x hx=>by
  have:=dw hx
  simp only[go_sem, ↓reduceIte,Nat.reduceEqDiff,Nat.reduceAdd,Nat.reduceSub,Nat.reduceLeDiff,reduceCtorEq,this]⟩⟩ ?_
 rintro n_a env_a st_a ⟨k,rfl,ale,a18,ag0,ag1,ag2,ag3,lQ⟩ dD
 have a3:=dD 3 (by kernel_rfl);have a5:=dD 5 (by kernel_rfl);have Ps:=dD 16 (by kernel_rfl);have a17:=dD 17 (by kernel_rfl)
 simp only[go_sem, ↓reduceIte,Nat.reduceEqDiff,Nat.reduceAdd,Nat.reduceSub,Nat.reduceLeDiff,reduceCtorEq]at a3 a5 Ps a17
 clear dD
 obtain⟨an,dD⟩:=lQ
 have v1:=dw (i:=⟨73001004,σ.next+1⟩) (n:=st_a.next) (by(try dsimp only);omega)
 have v2:=dw (i:=⟨73001001,σ.next+1⟩) (n:=st_a.next) (by(try dsimp only);omega)
 have v3:=dw (i:=⟨73001002,σ.next+1⟩) (n:=st_a.next) (by(try dsimp only);omega)
 have v4:=dw (i:=⟨73000001,σ.next⟩) (n:=st_a.next) (by(try dsimp only);omega)
 by_cases hk:(k:Int)<(l.length:Int)
 ·have cC:∀{e:Env} {gg:Rows} {nx:Nat},(e 18=.int .i64 (IntKind.i64.wrap ((k:Int)+1)))->(gg ⟨73001004,σ.next+1⟩=some ⟨true,6,[[.sl (s.aE.ax.map bG),.sl (s.aE.ah.map bB),.sl (s.aZ.ah.map aa),.int .i64 s.aB,.map ⟨73001001,σ.next+1⟩ mP,.map ⟨73001002,σ.next+1⟩ mP]]⟩)->(gg ⟨73001001,σ.next+1⟩=some ⟨true,mP.pq,(l.take (k+1)).map aa⟩)->(gg ⟨73001002,σ.next+1⟩=some ⟨true,mP.pq,[]⟩)->(gg ⟨73000001,σ.next⟩=some ⟨true,1,[[.sl (l.map aa)]]⟩)->(σ.next+3<=nx/\∀x:Id,x.bP<σ.next->gg x=σ.get x)->∃m0,m0<(l.length)-k/\∃k:Nat,m0=(l.length)-k/\k<=(l.length)/\e 18=.int .i64 (k:Int)/\gg ⟨73001004,σ.next+1⟩=some ⟨true,6,[[.sl (s.aE.ax.map bG),.sl (s.aE.ah.map bB),.sl (s.aZ.ah.map aa),.int .i64 s.aB,.map ⟨73001001,σ.next+1⟩ mP,.map ⟨73001002,σ.next+1⟩ mP]]⟩/\gg ⟨73001001,σ.next+1⟩=some ⟨true,mP.pq,(l.take k).map aa⟩/\gg ⟨73001002,σ.next+1⟩=some ⟨true,mP.pq,[]⟩/\gg ⟨73000001,σ.next⟩=some ⟨true,1,[[.sl (l.map aa)]]⟩/\(σ.next+3<=nx/\∀x:Id,x.bP<σ.next->gg x=σ.get x):=fun x1 x2 x3 x4 x5 x6=>⟨_,by omega,k+1,rfl,by omega,(by rw[x1,az (by omega)]),x2,x3,x4,x5,x6⟩
  have fy:k<l.length:=by omega
  have hg:=fu fy
  have hm:=qI (JX hA.1.GP fy)
  have qx:=Ma fy
  (try((repeat(revert hN;revert N;apply Pn.out));refine wk (tw @a18 (tw @ag0 (tw @ag1 (tw @ag2 (tw @ag3 (tw @a3 (tw @a5 (tw @Ps (tw @a17 (tw @hk (tw @hg (tw @hm (tw @v1 (tw @v2 (tw @v3 (tw @v4 @aa.eq_1)))))))))))))))) ?_;(repeat(refine Pn.mk ?_;intro N hN))))
  refine cC ?_ ?_ ?_ ?_ ?_ (by(try dsimp only);exact⟨by omega,fun x hx=>by
   have h1:=dw (i:=x) (n:=st_a.next) (by omega)
   have h2:=cr (a:=x) (b:=⟨73001001,σ.next+1⟩) (by(try dsimp only);omega)
   have h3:=dD x hx
   simp only[go_sem, ↓reduceIte,Nat.reduceEqDiff,Nat.reduceAdd,Nat.reduceSub,Nat.reduceLeDiff,reduceCtorEq,h1,h2,h3]⟩)
  all_goals simp only[go_sem, ↓reduceIte,Nat.reduceEqDiff,Nat.reduceAdd,Nat.reduceSub,Nat.reduceLeDiff,reduceCtorEq,a18,ag0,ag1,ag2,ag3,a3,a5,Ps,a17,aa,v1,v2,v3,v4,qx]
 ·have l6:k=l.length:=by omega
  subst l6
  have nQ:l.take l.length=l:=List.take_length
  (try((repeat(revert hN;revert N;apply Pn.out));refine wk (tw @a18 (tw @ag0 (tw @ag1 (tw @ag2 (tw @ag3 (tw @a3 (tw @a5 (tw @Ps (tw @a17 (tw @hk (tw @v1 (tw @v2 (tw @v3 @v4))))))))))))) ?_;(repeat(refine Pn.mk ?_;intro N hN))))
  refine aV (fun n env st=>∃j:Nat,n=(l.length)-j/\j<=(l.length)/\env 34=.int .i64 (j:Int)/\(σ.next+3<=st.next/\lP st.get st.next ⟨73001004,σ.next+1⟩ ⟨73001001,σ.next+1⟩ ⟨73001002,σ.next+1⟩ s l/\∀x:Id,x.bP<σ.next->st.get x=σ.get x)) (l.length) ⟨0,by omega,by omega,sl (tw @a18 (tw @ag0 (tw @ag1 (tw @ag2 (tw @ag3 (tw @a3 (tw @a5 (tw @Ps @a17)))))))),by(try dsimp only);exact⟨by omega,⟨sd @ag0,sd (tw @ag1 @nQ),⟨[],sd @ag2,by intro r hr;cases hr⟩,by(try dsimp only);omega,by(try dsimp only);omega,by(try dsimp only);omega,(by intro e;injection e with e1 e2;revert e1;decide),(by intro e;injection e with e1 e2;revert e1;decide),(by intro e;injection e with e1 e2;revert e1;decide)⟩,fun x hx=>by
   have h3:=dD x hx
   simp only[go_sem, ↓reduceIte,Nat.reduceEqDiff,Nat.reduceAdd,Nat.reduceSub,Nat.reduceLeDiff,reduceCtorEq,h3]⟩⟩ ?_
  rintro n_b env_b st_b ⟨j,rfl,ble,b34,bI0⟩ fW
  have b5:=fW 5 (by kernel_rfl);have tr:=fW 32 (by kernel_rfl);have tZ:=fW 33 (by kernel_rfl)
  simp only[go_sem, ↓reduceIte,Nat.reduceEqDiff,Nat.reduceAdd,Nat.reduceSub,Nat.reduceLeDiff,reduceCtorEq,a18,ag0,ag1,ag2,ag3,a3,a5,Ps,a17]at b5 tr tZ
  clear fW
  obtain⟨bn,bC,fW⟩:=bI0
  by_cases hj:(j:Int)<(l.length:Int)
  ·have ga:∀{e:Env} {gg:Rows} {nx:Nat},(e 34=.int .i64 (IntKind.i64.wrap ((j:Int)+1)))->(σ.next+3<=nx/\lP gg nx ⟨73001004,σ.next+1⟩ ⟨73001001,σ.next+1⟩ ⟨73001002,σ.next+1⟩ s l/\∀x:Id,x.bP<σ.next->gg x=σ.get x)->∃m0,m0<(l.length)-j/\∃j:Nat,m0=(l.length)-j/\j<=(l.length)/\e 34=.int .i64 (j:Int)/\(σ.next+3<=nx/\lP gg nx ⟨73001004,σ.next+1⟩ ⟨73001001,σ.next+1⟩ ⟨73001002,σ.next+1⟩ s l/\∀x:Id,x.bP<σ.next->gg x=σ.get x):=fun x1 x2=>⟨_,by omega,j+1,rfl,by omega,(by rw[x1,az (by omega)]),x2⟩
   have iO:j<l.length:=by omega
   have hg:=fu iO
   have QT:=s7 (hA.1.pt iO)
   (try((repeat(revert hN;revert N;apply Pn.out));refine wk (tw @b34 (tw @b5 (tw @tr (tw @tZ (tw @hj (tw @hg @aa.eq_1)))))) ?_;(repeat(refine Pn.mk ?_;intro N hN))))
   have Qh:lP (bz (bz st_b.get ⟨73009002,st_b.next+1⟩ ⟨true,3,[[.int .i64 0,.int .i64 0,.int .i64 0]]⟩) ⟨73009002,st_b.next+1⟩ ⟨true,3,[[.int .i64 (aI l j).aO.eY,.int .i64 (aI l j).aO.eS,.int .i64 (aI l j).aQ]]⟩) (st_b.next+1+1+1) ⟨73001004,σ.next+1⟩ ⟨73001001,σ.next+1⟩ ⟨73001002,σ.next+1⟩ s l:=bC.frame (by omega) fun x hx=>by
    have h1:=dw hx
    simp only[go_sem, ↓reduceIte,Nat.reduceEqDiff,Nat.reduceAdd,Nat.reduceSub,Nat.reduceLeDiff,reduceCtorEq,h1]
   refine .inr (aJ _ _ _ _ _ (fun r σ1 hq=>?_) (rJ (σ:=⟨bz (bz st_b.get ⟨73009002,st_b.next+1⟩ ⟨true,3,[[.int .i64 0,.int .i64 0,.int .i64 0]]⟩) ⟨73009002,st_b.next+1⟩ ⟨true,3,[[.int .i64 (aI l j).aO.eY,.int .i64 (aI l j).aO.eS,.int .i64 (aI l j).aQ]]⟩,st_b.next+1+1+1⟩) Qh.xc Qh.cO Qh.TO Qh.op hS (iF.Mp hA) (aI l j).aO QT.1 QT.2))
   obtain⟨g1,x1⟩:=σ1
   obtain⟨rfl,hL⟩:=hq
   (try dsimp only at hL)
   have Ik:=Qh.look hL
   have R6:=hL.1
   have hLf:=hL.2.1
   (try dsimp only at R6 hLf)
   refine hN _ _ ?_
   clear hN N
   (try((repeat(revert hN;revert N;apply Pn.out));refine wk (tw @b34 (tw @b5 (tw @tr @tZ))) ?_;(repeat(refine Pn.mk ?_;intro N hN))))
   exact ga (sd (tw @b34 (tw @b5 (tw @tr @tZ)))) (by(try dsimp only);exact⟨by omega,Ik.frame (by omega) (fun x hx=>rfl),fun x hx=>by
    have h1:=dw (i:=x) (n:=st_b.next) (by omega)
    have h2:=hLf x (by omega) (fun e=>by rw[e]at hx;(try dsimp only at hx);omega)
    have h3:=fW x hx
    simp only[h2]
    simp only[go_sem, ↓reduceIte,Nat.reduceEqDiff,Nat.reduceAdd,Nat.reduceSub,Nat.reduceLeDiff,reduceCtorEq,h1,h3]⟩)
  ·(try((repeat(revert hN;revert N;apply Pn.out));refine wk (tw @b34 (tw @b5 (tw @tr (tw @tZ @hj)))) ?_;(repeat(refine Pn.mk ?_;intro N hN))))
   exact fw (.inl rfl) (vs:=[.ptr ⟨73001004,σ.next+1⟩ 0 0]) (sd @Nat.zero_add) ⟨_,_,_,rfl,bC.frame (by(try dsimp only);omega) (fun x hx=>rfl),by(try dsimp only);omega,by(try dsimp only);omega,by(try dsimp only);omega,by(try dsimp only);omega,fW⟩
end Go.Proofs.YtgoelphibofcmaaGreat.V

namespace Go.Proofs.YtgoelphibofcmaaGreat.V
open Go.RowKit
def iz:List ad->ad->List ad
 |[],q=>[q]
 |x::r,q=>if jK q.aO x.aO=true then q::x::r else x::iz r q
theorem oM {q x:ad}:∀{l:List ad},x∈iz l q↔x=q∨x∈l
 |[]=>by simp[iz]
 |y::r=>by
  have ih:=@oM q x r
  rw[iz]
  split
  ·simp
  ·simp only[List.mem_cons,ih]
   constructor
   ·rintro(h|h|h)<;>simp[h]
   ·rintro(h|h|h)<;>simp[h]
theorem oV (q:ad):∀l:List ad,(iz l q).length=l.length+1
 |[]=>rfl
 |y::r=>by
  have ih:=oV q r
  rw[iz]
  split
  ·simp
  ·simp[ih]
theorem rS {l:List ad}:nG l↔l.Pairwise fun a b=>jK a.aO b.aO=true:=by
 rw[List.pairwise_iff_getElem]
 constructor
 ·intro h i j hi hj Dl
  have:=h i j Dl hj
  rwa [fb hi,fb hj]at this
 ·intro h i j Dl hj
  have:=h i j (by omega) hj Dl
  rwa [fb (by omega),fb hj]
theorem lI {l:List ad} {p:aD}:eD l p<0↔∀t∈l,t.aO≠p:=BB
theorem Jt {q:ad}:∀{l:List ad},nG l->eD l q.aO<0->nG (iz l q):=by
 intro l
 rw[rS,rS,lI]
 induction l with
 |nil=>intro _ _;exact List.pairwise_singleton _ _
 |cons y r ih=>
  intro h hn
  obtain⟨h1,h2⟩:=List.pairwise_cons.1 h
  rw[iz]
  split
  ·rename_i hl
   refine List.pairwise_cons.2 ⟨fun x hx=>?_,h⟩
   rcases List.mem_cons.1 hx with rfl|hx
   ·exact hl
   ·exact jQ hl (h1 x hx)
  ·rename_i hl
   rw[Bool.not_eq_true]at hl
   refine List.pairwise_cons.2 ⟨fun x hx=>?_,ih h2 fun t ht=>hn t (by simp[ht])⟩
   rcases oM.1 hx with rfl|hx
   ·exact Fk hl fun e=>hn y (by simp) e.symm
   ·exact h1 x hx
theorem jO (x:ad) (r:List ad) (p:aD):gx (x::r) p=if x.aO=p then x.aQ else gx r p:=by
 unfold gx eD pR
 rw[List.findIdx_cons]
 by_cases h:x.aO=p
 ·simp[h,aI]
 ·simp only[h,decide_false,cond_false,List.length_cons,Nat.add_lt_add_iff_right,if_false]
  by_cases hl:(r.findIdx fun c=>decide (c.aO=p))<r.length
  ·rw[if_pos hl,if_pos hl,if_pos (by omega),if_pos (by omega)]
   simp[aI]
  ·rw[if_neg hl,if_neg hl];rfl
theorem AN {q:ad} (p:aD):∀{l:List ad},(∀t∈l,t.aO≠q.aO)->gx (iz l q) p=if q.aO=p then q.aQ else gx l p
 |[],_=>by rw[iz,jO]
 |x::r,h=>by
  have ih:=@AN q p r fun t ht=>h t (by simp[ht])
  rw[iz]
  split
  ·rw[jO]
  ·rw[jO,ih,jO]
   by_cases h1:x.aO=p
   ·have h2:q.aO≠p:=fun e=>h x (by simp) (h1.trans e.symm)
    rw[if_pos h1,if_neg h2,if_pos h1]
   ·rw[if_neg h1,if_neg h1]
theorem zf {q:ad} (p:aD):∀{l:List ad},(∀t∈l,t.aO≠q.aO)->gx (l++[q]) p=if q.aO=p then q.aQ else gx l p
 |[],_=>by rw[List.nil_append,jO]
 |x::r,h=>by
  have ih:=@zf q p r fun t ht=>h t (by simp[ht])
  rw[List.cons_append,jO,ih,jO]
  by_cases h1:x.aO=p
  ·have h2:q.aO≠p:=fun e=>h x (by simp) (h1.trans e.symm)
   rw[if_pos h1,if_neg h2,if_pos h1]
  ·rw[if_neg h1,if_neg h1]
theorem yK {α:Type} [DecidableEq α]:∀{xs ys:List α},xs.Nodup->(∀x∈xs,x∈ys)->xs.length<=ys.length
 |[],_,_,_=>Nat.zero_le _
 |x::xs,ys,hn,h=>by
  obtain⟨h1,h2⟩:=List.nodup_cons.1 hn
  have hx:=h x (by simp)
  have:=@yK α _ xs (ys.erase x) h2 fun y hy=>(List.mem_erase_of_ne fun e=>h1 (by rw[<-e];exact hy)).2 (h y (by simp[hy]))
  rw[List.length_erase_of_mem hx]at this
  have:=List.length_pos_of_mem hx
  rw[List.length_cons];omega
theorem GQ {l:List ad} (h:nG l):l.Nodup:=by
 rw[rS]at h
 refine List.Pairwise.imp (fun {a b} qv e=>?_) h
 rw[e,mW]at qv;cases qv
abbrev iS:=List ad×List ad
noncomputable def jv (s:aA) (st:iS) (x:ad):iS:=if j4 s st.2 x.aO x.aQ=true then(st.1++[x],iz st.2 x)else st
noncomputable def gy (s:aA) (l:List ad) (st:iS):iS:=l.foldl (jv s) st
noncomputable def v7 (s:aA) (l:List ad):Nat->iS->iS
 |0,st=>st
 |n+1,st=>if (gy s l st).1.length=st.1.length then gy s l st else v7 s l n (gy s l st)
noncomputable def iW (s:aA) (l:List ad):iS:=v7 s l (l.length+1) ([],s.aZ.ah)
def oH (l now:List ad):Nat:=(l.filter fun x=>decide (eD now x.aO<0)).length
theorem filter_lt {α:Type} {p q:α->Bool} (hpq:∀x,q x=true->p x=true) {x:α} (hp:p x=true) (hq:q x=false):∀{l:List α},x∈l->(l.filter q).length<(l.filter p).length:=by
 have le:∀l:List α,(l.filter q).length<=(l.filter p).length:=fun l=>by
  induction l with
  |nil=>exact Nat.le_refl _
  |cons y r ih=>
   rw[List.filter_cons,List.filter_cons]
   cases h1:q y
   ·cases h2:p y<;>simp<;>omega
   ·rw[hpq y h1];simp;omega
 intro l hl
 induction l with
 |nil=>cases hl
 |cons y r ih=>
  rcases List.mem_cons.1 hl with rfl|hl
  ·have:=le r
   rw[List.filter_cons,List.filter_cons,hp,hq];simp;omega
  ·have:=ih hl
   rw[List.filter_cons,List.filter_cons]
   cases h1:q y
   ·cases h2:p y<;>simp<;>omega
   ·rw[hpq y h1];simp;omega
structure n9 (s:aA) (l:List ad) (st:iS):Prop where
 GP:nG st.2
 sub:∀x∈st.2,x∈l
 done:∀x∈st.1,x∈l
 len:st.2.length=s.aZ.ah.length+st.1.length
theorem n9.rn {s:aA} {l:List ad} {st:iS} (h:n9 s l st):st.2.length<=l.length:=by
 classical
 exact yK (GQ h.GP) h.sub
theorem n9.asm {s:aA} {l:List ad} {st:iS} (h:n9 s l st) (hA:jl s.aE l):jl s.aE st.2:=by
 refine⟨⟨Nat.le_trans h.rn hA.1.rn,fun i hi=>?_⟩,fun t ht=>hA.2 t (h.sub t ht)⟩
 obtain⟨j,hj,gZ⟩:=List.getElem_of_mem (h.sub _ (gG hi))
 have h1:=hA.1.ok j hj
 rw[EA,fb hj,gZ]at h1
 exact⟨h1.1,h1.2.1,fun h0=>h.GP _ _ (by omega) hi⟩
theorem oF {s:aA} {l:List ad} (hA:jl s.aE l) {now:List ad} (hs:∀x∈now,x∈l) {p:aD} {t:Int} (h:j4 s now p t=true):eD now p<0:=by
 rcases Int.lt_or_le (eD now p) 0 with h0|h0
 ·exact h0
 ·exfalso
  obtain⟨h1,_⟩:=lH h0
  have h2:=(ev (hA.2 _ (hs _ (gG h1)))).1
  simp[j4,gx,h0]at h
  omega
theorem n9.step {s:aA} {l:List ad} {st:iS} (h:n9 s l st) (hA:jl s.aE l) {x:ad} (hx:x∈l):n9 s l (jv s st x):=by
 unfold jv
 split
 ·rename_i hf
  have h0:=oF hA h.sub hf
  exact⟨Jt h.GP h0,fun y hy=>by rcases oM.1 hy with rfl|hy;exact hx;exact h.sub y hy,fun y hy=>by
   rcases List.mem_append.1 hy with hy|hy
   ·exact h.done y hy
   ·rw[List.mem_singleton.1 hy];exact hx,by rw[oV,List.length_append,List.length_singleton,h.len];omega⟩
 ·exact h
theorem F1 {s:aA} {l:List ad} {st:iS} (h:n9 s l st) (hA:jl s.aE l) {x:ad} (hx:x∈l):oH l (jv s st x).2+(jv s st x).1.length<=oH l st.2+st.1.length:=by
 unfold jv
 split
 ·rename_i hf
  have h0:=oF hA h.sub hf
  have:oH l (iz st.2 x)<oH l st.2:=filter_lt (x:=x) (fun y hy=>by
   simp only[decide_eq_true_eq,lI]at hy ⊢
   exact fun t ht=>hy t (oM.2 (.inr ht))) (by simpa using h0) (by
   simp only[decide_eq_false_iff_not,lI]
   exact fun h=>h x (oM.2 (.inl rfl)) rfl) hx
  simp only[List.length_append,List.length_singleton]
  omega
 ·exact Nat.le_refl _
noncomputable def fJ (s:aA) (l:List ad) (st:iS) (i:Nat):iS:=(l.take i).foldl (jv s) st
theorem qC (s:aA) (l:List ad) (st:iS) {i:Nat} (hi:i<l.length):fJ s l st (i+1)=jv s (fJ s l st i) (aI l i):=by
 unfold fJ
 rw[List.take_succ_eq_append_getElem hi,List.foldl_append,fb hi];rfl
theorem pg (s:aA) (l:List ad) (st:iS):fJ s l st l.length=gy s l st:=by rw[fJ,List.take_length];rfl
theorem w6 {s:aA} {l:List ad} {st:iS} (h:n9 s l st) (hA:jl s.aE l):∀i,i<=l.length->n9 s l (fJ s l st i)/\oH l (fJ s l st i).2+(fJ s l st i).1.length<=oH l st.2+st.1.length/\st.1.length<=(fJ s l st i).1.length
 |0,_=>by simp[fJ];exact h
 |i+1,hi=>by
  obtain⟨h1,h2,h3⟩:=w6 h hA i (by omega)
  rw[qC s l st hi]
  refine⟨h1.step hA (gG hi),Nat.le_trans (F1 h1 hA (gG hi)) h2,Nat.le_trans h3 ?_⟩
  unfold jv
  split
  ·simp
  ·exact Nat.le_refl _
theorem ES (l now:List ad):oH l now<=l.length:=List.length_filter_le _ _
theorem sV {s:aA} {l:List ad} (hP:uW s) (hA:jl s.aE l) (hW:iR s.aZ.ah l=true):n9 s l ([],s.aZ.ah):=by
 refine⟨hP.z8.1.GP,fun x hx=>?_,fun x hx=>by(cases hx),rfl⟩
 unfold iR at hW
 rw[List.all_eq_true]at hW
 have h1:=of_decide_eq_true (hW x hx)
 have h2:=(ev (hP.z8.2 x hx)).1
 have h0:0<=eD l x.aO:=by
  rcases Int.lt_or_le (eD l x.aO) 0 with h0|h0
  ·rw[gx,if_neg (by omega)]at h1;omega
  ·exact h0
 obtain⟨h3,h4⟩:=lH h0
 rw[gx,if_pos h0]at h1
 have:x=aI l (eD l x.aO).toNat:=by
  cases uG:aI l (eD l x.aO).toNat with
  |mk a t=>rw[uG]at h1 h4;cases x;simp_all
 rw[this];exact gG h3
theorem yv {s:aA} {l:List ad} {st:iS} (h:n9 s l st) (hA:jl s.aE l) {n:Nat} (hn:oH l st.2<n):
  ((gy s l st).1.length=st.1.length->v7 s l n st=gy s l st)/\
  ((gy s l st).1.length≠st.1.length->∃m,n=m+1/\v7 s l n st=v7 s l m (gy s l st)/\oH l (gy s l st).2<m):=by
 obtain⟨m,rfl⟩:∃m,n=m+1:=⟨n-1,by omega⟩
 obtain⟨h1,h2,h3⟩:=w6 h hA l.length (Nat.le_refl _)
 rw[pg]at h1 h2 h3
 refine⟨fun e=>by rw[v7,if_pos e],fun e=>⟨m,rfl,by rw[v7,if_neg e],by omega⟩⟩
end Go.Proofs.YtgoelphibofcmaaGreat.V

namespace Go.Proofs.YtgoelphibofcmaaGreat.V
open Go.RowKit
attribute [local irreducible] dI wpOps gD Call
attribute [local go_sem] aM fM eP gp gm cN upd cD K.av cR AV.cells AV.cell rowOf rowsOf part ld rowAt bz cu dG ef ik bQ dh eA gj e9 dq ek dd dc dU dV bW bf cW bV cY cX ei eo ej cV ck de eh bU aT da cG ij bx cQ b4 aY dn bc dH AV.undef bF bI eb ee dP dM cJ ez eE cF er ep cZ db List.getD_cons_zero List.getD_cons_succ List.getD_nil List.all_cons List.all_nil Bool.and_true Bool.true_and Bool.and_self Bool.not_true Bool.not_false Option.map_some Option.map_none Option.bind_some Option.bind_none List.length_cons List.length_nil List.take_succ_cons List.take_zero List.take_nil List.drop_succ_cons List.drop_zero List.drop_nil List.head?_cons List.map_cons List.map_nil List.getElem?_cons_zero List.getElem?_cons_succ List.cons_append List.nil_append List.append_nil List.length_map List.set_cons_zero List.set_cons_succ Nat.reduceMul eq_self Int.toNat_natCast Int.natCast_nonneg and_self true_and and_true decide_true decide_false Bool.false_eq_true Nat.zero_add Nat.add_zero List.contains_cons List.contains_nil Bool.or_false Bool.false_or beq_self_eq_true Nat.reduceBEq ne_eq not_true_eq_false not_false_eq_true Id.mk.injEq false_and and_false Nat.reduceLT Int.reduceLE Int.reduceLT Int.reduceToNat Int.reduceNeg Int.reduceAdd Nat.le_refl List.length_append beq_true beq_false Bool.not_eq_eq_eq_not or_false false_or dO ai aj aH bp bE cz aX bl aW bj cU bH
theorem Mt (g:Rows) (n:Nat) (x:ad):ea g (n+1) (aa x)=some (aa x):=by simp[aa,bD,cE,eM]
def M7 (n:Nat) (L:List ad) (r:AV) (σ':ar):Prop:=∃o:Id,r=.agg [.own o 0 L.length]/\σ'.get o=some ⟨true,3,L.map aa⟩/\n<=o.bP/\o.bP<σ'.next
theorem M7.val {f:Nat} {args eF:List AV} {L:List ad} {σ:ar} (h:∀n,Call Tryz.prog f eF ⟨fun _=>none,n⟩ (M7 n L)) (hv:cP (dO σ.get) 6 args=some eF):Call Tryz.prog f args σ (fun r σ'=>M7 σ.next L r σ'/\Kept σ σ'):=by
 refine AI mixed hv (aJ _ _ _ _ _ (fun r σ' hq=>?_) (xM mixed (h σ.next)))
 obtain⟨⟨o,rfl,h2,h3,h4⟩,hn⟩:=hq
 refine⟨[o],rfl,fun i hi=>?_,⟨o,rfl,(r7 (by simp)).trans h2,h3,h4⟩,hn,fun j hj=>pH fun hc=>?_⟩
 ·rw[List.mem_singleton.1 hi]
  exact⟨_,h2,rfl,fun cs dt a ha=>by
   obtain⟨x,_,rfl⟩:=List.mem_map.1 dt
   simp[aa]at ha
   rcases ha with rfl|rfl|rfl<;>rfl⟩
 ·rw[List.mem_singleton.1 hc]at hj;omega
theorem IZ (l:List ad) (hl:l.length<=1048576) (n0:Nat):Call Tryz.prog 99 [.di [.sl (l.map aa)]] ⟨fun _=>none,n0⟩ (M7 n0 l):=by
 refine eT eB rfl fun lj=>?_
 clear lj
 have Ld:(l.map aa).length<=16777216:=by simp;omega
 have dF:(l.map aa).all (fun c=>c.length==3&&c.all AV.cell)=true:=all_map fun x=>⟨rfl,rfl⟩
 have E4:(l.map aa).length=l.length:=by simp
 generalize oK:l.map aa=rows at Ld dF E4
 (try((repeat(revert hN;revert N;apply Pn.out));refine wk (tw @Ld @dF) ?_;(repeat(refine Pn.mk ?_;intro N hN))))
 exact fw (.inl rfl) (vs:=[.agg [.own ⟨99001005,n0+1⟩ 0 rows.length]]) (sd @Nat.zero_add) ⟨⟨99001005,n0+1⟩,by rw[E4];rfl,by rw[oK];simp only[go_sem, ↓reduceIte,Nat.reduceEqDiff,Nat.reduceAdd,Nat.reduceSub,Nat.reduceLeDiff,reduceCtorEq],by(try dsimp only);omega,by(try dsimp only);omega⟩
def ue (q:ad) (l:List ad):Bool:=l.any fun x=>jK q.aO x.aO
theorem Cc {q:ad}:∀{l:List ad},ue q l=false->iz l q=l++[q]
 |[],_=>rfl
 |x::l,h=>by
  unfold ue at h
  rw[List.any_cons,Bool.or_eq_false_iff]at h
  rw[iz,if_neg (by rw[h.1];simp),Cc h.2];rfl
theorem yQ {q y:ad}:∀{l:List ad},ue q l=true->iz (l++[y]) q=iz l q++[y]
 |x::l,h=>by
  unfold ue at h
  rw[List.any_cons]at h
  rw[List.cons_append,iz,iz]
  cases hx:jK q.aO x.aO
  ·rw[hx,Bool.false_or]at h
   rw[if_neg (by simp),if_neg (by simp),yQ h];rfl
  ·simp
theorem yO {q y:ad}:∀{l:List ad},ue q l=false->jK q.aO y.aO=true->iz (l++[y]) q=l++[q]++[y]
 |[],_,hy=>by simp[iz,hy]
 |x::l,h,hy=>by
  unfold ue at h
  rw[List.any_cons,Bool.or_eq_false_iff]at h
  rw[List.cons_append,iz,if_neg (by rw[h.1];simp),yO h.2 hy];rfl
def jd (q:ad) (l:List ad):List ad:=if ue q l=true then iz l q else l
theorem vp (q:ad) (l:List ad) (y:ad):ue q (l++[y])=(ue q l||jK q.aO y.aO):=by simp[ue]
theorem GH (q:ad) (l:List ad):(jd q l).length<=l.length+1:=by
 unfold jd
 split
 ·rw[oV];omega
 ·omega
theorem Jo {q y:ad} {l:List ad} (h:ue q l=true∨jK q.aO y.aO=false):jd q (l++[y])=jd q l++[y]:=by
 unfold jd
 rw[vp]
 cases hd:ue q l
 ·rw[hd]at h
  have h2:jK q.aO y.aO=false:=by rcases h with h|h;cases h;exact h
  simp[h2]
 ·simp[yQ hd]
theorem Jn {q y:ad} {l:List ad} (h:ue q l=false) (hy:jK q.aO y.aO=true):jd q (l++[y])=jd q l++[q]++[y]:=by
 unfold jd
 rw[vp,h,hy]
 simp[yO h hy]
def S3 (m:Nat) (L:List ad) (v:AV) (g:Rows) (n:Nat):Prop:=(L=[]/\v=.cq)∨∃o:Id,v=.own o 0 L.length/\g o=some ⟨true,3,L.map aa⟩/\m<=o.bP/\o.bP<n
theorem JY {l:List ad} {k:Nat} (hk:k<l.length):l.take (k+1)=l.take k++[aI l k]:=by rw[List.take_succ_eq_append_getElem hk,fb hk]
theorem rM (L:List ad) (q:ad):(L++[q]).map aa=L.map aa++[[.int .i64 q.aO.eY,.int .i64 q.aO.eS,.int .i64 q.aQ]]:=by rw[List.map_append];rfl
theorem iM (L:List ad) (q:ad):(L++[q]).length=L.length+1:=by rw[List.length_append];rfl
theorem I0 (l:List ad) (hl:l.length<=1048576) (p:aD) (t:Int) (n0:Nat):Call Tryz.prog 101 [.di [.sl (l.map aa)],.agg (ae p),.int .i64 t] ⟨fun _=>none,n0⟩ (M7 n0 (iz l ⟨p,t⟩)):=by
 refine eT eB rfl fun lj=>?_
 clear lj
 obtain⟨q,hq⟩:∃q:ad,q=⟨p,t⟩:=⟨_,rfl⟩
 (try((repeat(revert hN;revert N;apply Pn.out));refine wk @ae.eq_1 ?_;(repeat(refine Pn.mk ?_;intro N hN))))
 refine aV (fun n env st=>∃i:Nat,n=(l.length)-i/\i<=(l.length)/\env 9=.int .i64 (i:Int)/\env 8=.bool (ue q (l.take i))/\st.get ⟨101000000,n0⟩=some ⟨true,2,[ae p]⟩/\st.get ⟨101000001,n0⟩=some ⟨true,1,[[.cq]]⟩/\(n0+2<=st.next/\∃v,st.get ⟨101001001,n0+1⟩=some ⟨true,1,[[v]]⟩/\S3 (n0+2) (jd q (l.take i)) v st.get st.next)) (l.length) ⟨0,by omega,by omega,sl @ae.eq_1,sl @ae.eq_1,sl @ae.eq_1,sl @ae.eq_1,by(try dsimp only);exact⟨by omega,.cq,sd @Nat.zero_add,.inl ⟨rfl,rfl⟩⟩⟩ ?_
 rintro n_a env_a st_a ⟨i,rfl,ale,a9,a8,ag0,ag1,lQ⟩ dD
 have a0:=dD 0 (by kernel_rfl);have a2:=dD 2 (by kernel_rfl);have a4:=dD 4 (by kernel_rfl);have a6:=dD 6 (by kernel_rfl);have a7:=dD 7 (by kernel_rfl)
 simp only[go_sem, ↓reduceIte,Nat.reduceEqDiff,Nat.reduceAdd,Nat.reduceSub,Nat.reduceLeDiff,reduceCtorEq,ae]at a0 a2 a4 a6 a7
 clear dD
 obtain⟨an,v,av,aG⟩:=lQ
 have vA:=dw (i:=⟨101000000,n0⟩) (n:=st_a.next) (by(try dsimp only);omega)
 have vB:=dw (i:=⟨101000001,n0⟩) (n:=st_a.next) (by(try dsimp only);omega)
 have vC:=dw (i:=⟨101001001,n0+1⟩) (n:=st_a.next) (by(try dsimp only);omega)
 have Lg:=GH q (l.take i)
 rw[List.length_take]at Lg
 by_cases hi:(i:Int)<(l.length:Int)
 ·have cC:∀{e:Env} {gg:Rows} {nx:Nat},(e 9=.int .i64 (IntKind.i64.wrap ((i:Int)+1)))->(e 8=.bool (ue q (l.take (i+1))))->(gg ⟨101000000,n0⟩=some ⟨true,2,[ae p]⟩)->(gg ⟨101000001,n0⟩=some ⟨true,1,[[.cq]]⟩)->(n0+2<=nx/\∃v,gg ⟨101001001,n0+1⟩=some ⟨true,1,[[v]]⟩/\S3 (n0+2) (jd q (l.take (i+1))) v gg nx)->∃m0,m0<(l.length)-i/\∃i:Nat,m0=(l.length)-i/\i<=(l.length)/\e 9=.int .i64 (i:Int)/\e 8=.bool (ue q (l.take i))/\gg ⟨101000000,n0⟩=some ⟨true,2,[ae p]⟩/\gg ⟨101000001,n0⟩=some ⟨true,1,[[.cq]]⟩/\(n0+2<=nx/\∃v,gg ⟨101001001,n0+1⟩=some ⟨true,1,[[v]]⟩/\S3 (n0+2) (jd q (l.take i)) v gg nx):=fun x1 x2 x3 x4 x5=>⟨_,by omega,i+1,rfl,by omega,(by rw[x1,az (by omega)]),x2,x3,x4,x5⟩
  have ft:i<l.length:=by omega
  have j6:=fu ft
  have dQ:=od p (aI l i).aO
  have nQ:=JY ft
  have Uz:jK q.aO (aI l i).aO=jK p (aI l i).aO:=by rw[hq]
  have lE:(l.map aa).length=l.length:=by simp
  have Kr:=vp q (l.take i) (aI l i)
  rw[<-nQ,Uz]at Kr
  rw[ae,ae]at dQ
  by_cases hc:ue q (l.take i)=true∨jK p (aI l i).aO=false
  ·have lf:=Jo (q:=q) (y:=aI l i) (l:=l.take i) (by rw[Uz];exact hc)
   rw[<-nQ]at lf
   generalize jd q (l.take i)=L at aG lf Lg
   have xx:=iM L (aI l i)
   have rE:=rM L (aI l i)
   have nO:ue q (l.take (i+1))=ue q (l.take i):=by
    rw[Kr]
    rcases hc with h|h<;>rw[h]<;>simp
   rcases aG with⟨hL,rfl⟩|⟨o,rfl,ao,aon,aov⟩
   ·subst hL
    cases hd:ue q (l.take i)
    ·have h2:jK p (aI l i).aO=false:=by rcases hc with h|h;rw[hd]at h;cases h;exact h
     rw[h2]at dQ
     rw[hd]at a8 nO
     (repeat(first|((repeat(revert hN;revert N;apply Pn.out));refine wk (tw @a9 (tw @a8 (tw @ag0 (tw @ag1 (tw @a0 (tw @a2 (tw @a4 (tw @a6 (tw @a7 (tw @hi (tw @j6 (tw @vA (tw @vB (tw @vC (tw @av (tw @lE (tw @ae.eq_1 @aa.eq_1))))))))))))))))) ?_;(repeat(refine Pn.mk ?_;intro N hN)))|((try apply Or.inl);refine⟨_,aq.x (dQ) (sd (tw @a9 (tw @a8 (tw @ag0 (tw @ag1 (tw @a0 (tw @a2 (tw @a4 (tw @a6 (tw @a7 (tw @hi (tw @j6 (tw @vA (tw @vB (tw @vC (tw @av (tw @lE (tw @ae.eq_1 @aa.eq_1)))))))))))))))))),?_⟩;refine hN _ _ ?_;clear hN N)))
     refine cC ?_ ?_ ?_ ?_ (by(try dsimp only);exact⟨by omega,_,sl @Nat.zero_add,.inr ⟨⟨101009010,st_a.next+1+1⟩,by rw[lf,xx]<;>(simp only[go_sem, ↓reduceIte,Nat.reduceEqDiff,Nat.reduceAdd,Nat.reduceSub,Nat.reduceLeDiff,reduceCtorEq]<;>rfl),by rw[lf,rE]<;>(simp only[go_sem, ↓reduceIte,Nat.reduceEqDiff,Nat.reduceAdd,Nat.reduceSub,Nat.reduceLeDiff,reduceCtorEq]<;>rfl),by(try dsimp only);omega,by(try dsimp only);omega⟩⟩)
     all_goals simp only[go_sem, ↓reduceIte,Nat.reduceEqDiff,Nat.reduceAdd,Nat.reduceSub,Nat.reduceLeDiff,reduceCtorEq,a9,a8,ag0,ag1,a0,a2,a4,a6,a7,nO,vA,vB,vC,ae]
    ·rw[hd]at a8 nO
     (try((repeat(revert hN;revert N;apply Pn.out));refine wk (tw @a9 (tw @a8 (tw @ag0 (tw @ag1 (tw @a0 (tw @a2 (tw @a4 (tw @a6 (tw @a7 (tw @hi (tw @j6 (tw @vA (tw @vB (tw @vC (tw @av (tw @lE (tw @ae.eq_1 @aa.eq_1))))))))))))))))) ?_;(repeat(refine Pn.mk ?_;intro N hN))))
     refine cC ?_ ?_ ?_ ?_ (by(try dsimp only);exact⟨by omega,_,sl @Nat.zero_add,.inr ⟨⟨101009010,st_a.next+1+1⟩,by rw[lf,xx]<;>(simp only[go_sem, ↓reduceIte,Nat.reduceEqDiff,Nat.reduceAdd,Nat.reduceSub,Nat.reduceLeDiff,reduceCtorEq]<;>rfl),by rw[lf,rE]<;>(simp only[go_sem, ↓reduceIte,Nat.reduceEqDiff,Nat.reduceAdd,Nat.reduceSub,Nat.reduceLeDiff,reduceCtorEq]<;>rfl),by(try dsimp only);omega,by(try dsimp only);omega⟩⟩)
     all_goals simp only[go_sem, ↓reduceIte,Nat.reduceEqDiff,Nat.reduceAdd,Nat.reduceSub,Nat.reduceLeDiff,reduceCtorEq,a9,a8,ag0,ag1,a0,a2,a4,a6,a7,nO,vA,vB,vC,ae]
   ·have vo:=dw aov
    have oA:=cr (a:=⟨101000000,n0⟩) (b:=o) (by(try dsimp only);omega)
    have oB:=cr (a:=⟨101000001,n0⟩) (b:=o) (by(try dsimp only);omega)
    have oC:=cr (a:=⟨101001001,n0+1⟩) (b:=o) (by(try dsimp only);omega)
    have My:(L.map aa).length=L.length:=by simp
    have Mx:L.length<=16777215:=by omega
    cases hd:ue q (l.take i)
    ·have h2:jK p (aI l i).aO=false:=by rcases hc with h|h;rw[hd]at h;cases h;exact h
     rw[h2]at dQ
     rw[hd]at a8 nO
     (repeat(first|((repeat(revert hN;revert N;apply Pn.out));refine wk (tw @a9 (tw @a8 (tw @ag0 (tw @ag1 (tw @a0 (tw @a2 (tw @a4 (tw @a6 (tw @a7 (tw @hi (tw @j6 (tw @vA (tw @vB (tw @vC (tw @vo (tw @oA (tw @oB (tw @oC (tw @ao (tw @av (tw @lE (tw @My (tw @Mx (tw @ae.eq_1 @aa.eq_1)))))))))))))))))))))))) ?_;(repeat(refine Pn.mk ?_;intro N hN)))|((try apply Or.inl);refine⟨_,aq.x (dQ) (sd (tw @a9 (tw @a8 (tw @ag0 (tw @ag1 (tw @a0 (tw @a2 (tw @a4 (tw @a6 (tw @a7 (tw @hi (tw @j6 (tw @vA (tw @vB (tw @vC (tw @vo (tw @oA (tw @oB (tw @oC (tw @ao (tw @av (tw @lE (tw @My (tw @Mx (tw @ae.eq_1 @aa.eq_1))))))))))))))))))))))))),?_⟩;refine hN _ _ ?_;clear hN N)))
     refine cC ?_ ?_ ?_ ?_ (by(try dsimp only);exact⟨by omega,_,sl @Nat.zero_add,.inr ⟨⟨101009010,st_a.next+1+1⟩,by rw[lf,xx]<;>(simp only[go_sem, ↓reduceIte,Nat.reduceEqDiff,Nat.reduceAdd,Nat.reduceSub,Nat.reduceLeDiff,reduceCtorEq]<;>rfl),by rw[lf,rE]<;>(simp only[go_sem, ↓reduceIte,Nat.reduceEqDiff,Nat.reduceAdd,Nat.reduceSub,Nat.reduceLeDiff,reduceCtorEq]<;>rfl),by(try dsimp only);omega,by(try dsimp only);omega⟩⟩)
     all_goals simp only[go_sem, ↓reduceIte,Nat.reduceEqDiff,Nat.reduceAdd,Nat.reduceSub,Nat.reduceLeDiff,reduceCtorEq,a9,a8,ag0,ag1,a0,a2,a4,a6,a7,nO,vA,vB,vC,oA,oB,oC,ae]
    ·rw[hd]at a8 nO
     (try((repeat(revert hN;revert N;apply Pn.out));refine wk (tw @a9 (tw @a8 (tw @ag0 (tw @ag1 (tw @a0 (tw @a2 (tw @a4 (tw @a6 (tw @a7 (tw @hi (tw @j6 (tw @vA (tw @vB (tw @vC (tw @vo (tw @oA (tw @oB (tw @oC (tw @ao (tw @av (tw @lE (tw @My (tw @Mx (tw @ae.eq_1 @aa.eq_1)))))))))))))))))))))))) ?_;(repeat(refine Pn.mk ?_;intro N hN))))
     refine cC ?_ ?_ ?_ ?_ (by(try dsimp only);exact⟨by omega,_,sl @Nat.zero_add,.inr ⟨⟨101009010,st_a.next+1+1⟩,by rw[lf,xx]<;>(simp only[go_sem, ↓reduceIte,Nat.reduceEqDiff,Nat.reduceAdd,Nat.reduceSub,Nat.reduceLeDiff,reduceCtorEq]<;>rfl),by rw[lf,rE]<;>(simp only[go_sem, ↓reduceIte,Nat.reduceEqDiff,Nat.reduceAdd,Nat.reduceSub,Nat.reduceLeDiff,reduceCtorEq]<;>rfl),by(try dsimp only);omega,by(try dsimp only);omega⟩⟩)
     all_goals simp only[go_sem, ↓reduceIte,Nat.reduceEqDiff,Nat.reduceAdd,Nat.reduceSub,Nat.reduceLeDiff,reduceCtorEq,a9,a8,ag0,ag1,a0,a2,a4,a6,a7,nO,vA,vB,vC,oA,oB,oC,ae]
  ·have hd:ue q (l.take i)=false:=by
    cases h:ue q (l.take i)
    ·rfl
    ·exact absurd (.inl h) hc
   have h2:jK p (aI l i).aO=true:=by
    cases h:jK p (aI l i).aO
    ·exact absurd (.inr h) hc
    ·rfl
   have lf:=Jn (q:=q) (y:=aI l i) hd (by rw[Uz];exact h2)
   rw[<-nQ]at lf
   have nO:ue q (l.take (i+1))=true:=by rw[Kr,h2];simp
   rw[hd]at a8
   rw[h2]at dQ
   have SC:aa q=[.int .i64 p.eY,.int .i64 p.eS,.int .i64 t]:=by rw[hq];rfl
   generalize jd q (l.take i)=L at aG lf Lg
   have xx:=iM (L++[q]) (aI l i)
   have rE:=rM (L++[q]) (aI l i)
   have Um:=iM L q
   have Un:(L++[q]).map aa=L.map aa++[[.int .i64 p.eY,.int .i64 p.eS,.int .i64 t]]:=by rw[List.map_append,List.map_singleton,SC]
   rw[Um]at xx
   rw[Un]at rE
   rcases aG with⟨hL,rfl⟩|⟨o,rfl,ao,aon,aov⟩
   ·subst hL
    (repeat(first|((repeat(revert hN;revert N;apply Pn.out));refine wk (tw @a9 (tw @a8 (tw @ag0 (tw @ag1 (tw @a0 (tw @a2 (tw @a4 (tw @a6 (tw @a7 (tw @hi (tw @j6 (tw @vA (tw @vB (tw @vC (tw @av (tw @lE (tw @ae.eq_1 @aa.eq_1))))))))))))))))) ?_;(repeat(refine Pn.mk ?_;intro N hN)))|((try apply Or.inl);refine⟨_,aq.x (dQ) (sd (tw @a9 (tw @a8 (tw @ag0 (tw @ag1 (tw @a0 (tw @a2 (tw @a4 (tw @a6 (tw @a7 (tw @hi (tw @j6 (tw @vA (tw @vB (tw @vC (tw @av (tw @lE (tw @ae.eq_1 @aa.eq_1)))))))))))))))))),?_⟩;refine hN _ _ ?_;clear hN N)))
    refine cC ?_ ?_ ?_ ?_ (by(try dsimp only);exact⟨by omega,_,sl @Nat.zero_add,.inr ⟨⟨101009010,st_a.next+1+1+1+1⟩,by rw[lf,xx]<;>(simp only[go_sem, ↓reduceIte,Nat.reduceEqDiff,Nat.reduceAdd,Nat.reduceSub,Nat.reduceLeDiff,reduceCtorEq]<;>rfl),by rw[lf,rE]<;>(simp only[go_sem, ↓reduceIte,Nat.reduceEqDiff,Nat.reduceAdd,Nat.reduceSub,Nat.reduceLeDiff,reduceCtorEq]<;>rfl),by(try dsimp only);omega,by(try dsimp only);omega⟩⟩)
    all_goals simp only[go_sem, ↓reduceIte,Nat.reduceEqDiff,Nat.reduceAdd,Nat.reduceSub,Nat.reduceLeDiff,reduceCtorEq,a9,a8,ag0,ag1,a0,a2,a4,a6,a7,nO,vA,vB,vC,ae]
   ·have vo:=dw aov
    have oA:=cr (a:=⟨101000000,n0⟩) (b:=o) (by(try dsimp only);omega)
    have oB:=cr (a:=⟨101000001,n0⟩) (b:=o) (by(try dsimp only);omega)
    have oC:=cr (a:=⟨101001001,n0+1⟩) (b:=o) (by(try dsimp only);omega)
    have My:(L.map aa).length=L.length:=by simp
    have Mx:L.length<=16777214:=by omega
    have Ql:L.length<=16777215:=by omega
    (repeat(first|((repeat(revert hN;revert N;apply Pn.out));refine wk (tw @a9 (tw @a8 (tw @ag0 (tw @ag1 (tw @a0 (tw @a2 (tw @a4 (tw @a6 (tw @a7 (tw @hi (tw @j6 (tw @vA (tw @vB (tw @vC (tw @vo (tw @oA (tw @oB (tw @oC (tw @ao (tw @av (tw @lE (tw @My (tw @Mx (tw @Ql (tw @ae.eq_1 @aa.eq_1))))))))))))))))))))))))) ?_;(repeat(refine Pn.mk ?_;intro N hN)))|((try apply Or.inl);refine⟨_,aq.x (dQ) (sd (tw @a9 (tw @a8 (tw @ag0 (tw @ag1 (tw @a0 (tw @a2 (tw @a4 (tw @a6 (tw @a7 (tw @hi (tw @j6 (tw @vA (tw @vB (tw @vC (tw @vo (tw @oA (tw @oB (tw @oC (tw @ao (tw @av (tw @lE (tw @My (tw @Mx (tw @Ql (tw @ae.eq_1 @aa.eq_1)))))))))))))))))))))))))),?_⟩;refine hN _ _ ?_;clear hN N)))
    refine cC ?_ ?_ ?_ ?_ (by(try dsimp only);exact⟨by omega,_,sl @Nat.zero_add,.inr ⟨⟨101009010,st_a.next+1+1+1+1⟩,by rw[lf,xx]<;>(simp only[go_sem, ↓reduceIte,Nat.reduceEqDiff,Nat.reduceAdd,Nat.reduceSub,Nat.reduceLeDiff,reduceCtorEq]<;>rfl),by rw[lf,rE]<;>(simp only[go_sem, ↓reduceIte,Nat.reduceEqDiff,Nat.reduceAdd,Nat.reduceSub,Nat.reduceLeDiff,reduceCtorEq]<;>rfl),by(try dsimp only);omega,by(try dsimp only);omega⟩⟩)
    all_goals simp only[go_sem, ↓reduceIte,Nat.reduceEqDiff,Nat.reduceAdd,Nat.reduceSub,Nat.reduceLeDiff,reduceCtorEq,a9,a8,ag0,ag1,a0,a2,a4,a6,a7,nO,vA,vB,vC,oA,oB,oC,ae]
 ·have lD:i=l.length:=by omega
  subst lD
  rw[List.take_length]at a8 aG Lg
  cases hd:ue q l
  ·rw[hd]at a8
   have lf:iz l ⟨p,t⟩=jd q l++[q]:=by rw[<-hq,Cc hd,jd,hd];simp
   have SC:aa q=[.int .i64 p.eY,.int .i64 p.eS,.int .i64 t]:=by rw[hq];rfl
   generalize jd q l=L at aG Lg lf
   have xx:=iM L q
   have rE:(L++[q]).map aa=L.map aa++[[.int .i64 p.eY,.int .i64 p.eS,.int .i64 t]]:=by rw[List.map_append,List.map_singleton,SC]
   rcases aG with⟨hL,rfl⟩|⟨o,rfl,ao,aon,aov⟩
   ·subst hL
    (try((repeat(revert hN;revert N;apply Pn.out));refine wk (tw @a9 (tw @a8 (tw @ag0 (tw @ag1 (tw @a0 (tw @a2 (tw @a4 (tw @a6 (tw @a7 (tw @hi (tw @vA (tw @vB (tw @vC (tw @av (tw @ae.eq_1 @aa.eq_1))))))))))))))) ?_;(repeat(refine Pn.mk ?_;intro N hN))))
    exact fw (.inl rfl) (vs:=[.agg [.own ⟨101011006,st_a.next+1+1⟩ 0 1]]) (sd (tw @a9 (tw @a8 (tw @ag0 (tw @ag1 (tw @a0 (tw @a2 (tw @a4 (tw @a6 (tw @a7 @vB)))))))))) ⟨⟨101011006,st_a.next+1+1⟩,by rw[lf];rfl,by rw[lf];simp only[go_sem, ↓reduceIte,Nat.reduceEqDiff,Nat.reduceAdd,Nat.reduceSub,Nat.reduceLeDiff,reduceCtorEq,vB];rw[SC],by(try dsimp only);omega,by(try dsimp only);omega⟩
   ·have vo:=dw aov
    have oA:=cr (a:=⟨101000000,n0⟩) (b:=o) (by(try dsimp only);omega)
    have oB:=cr (a:=⟨101000001,n0⟩) (b:=o) (by(try dsimp only);omega)
    have oC:=cr (a:=⟨101001001,n0+1⟩) (b:=o) (by(try dsimp only);omega)
    have My:(L.map aa).length=L.length:=by simp
    have Mx:L.length<=16777215:=by omega
    (try((repeat(revert hN;revert N;apply Pn.out));refine wk (tw @a9 (tw @a8 (tw @ag0 (tw @ag1 (tw @a0 (tw @a2 (tw @a4 (tw @a6 (tw @a7 (tw @hi (tw @vA (tw @vB (tw @vC (tw @vo (tw @oA (tw @oB (tw @oC (tw @ao (tw @av (tw @My (tw @Mx (tw @ae.eq_1 @aa.eq_1)))))))))))))))))))))) ?_;(repeat(refine Pn.mk ?_;intro N hN))))
    exact fw (.inl rfl) (vs:=[.agg [.own ⟨101011006,st_a.next+1+1⟩ 0 (L.length+1)]]) (sd (tw @a9 (tw @a8 (tw @ag0 (tw @ag1 (tw @a0 (tw @a2 (tw @a4 (tw @a6 (tw @a7 @vB)))))))))) ⟨⟨101011006,st_a.next+1+1⟩,by rw[lf,xx];rfl,by rw[lf,rE];simp only[go_sem, ↓reduceIte,Nat.reduceEqDiff,Nat.reduceAdd,Nat.reduceSub,Nat.reduceLeDiff,reduceCtorEq,vB],by(try dsimp only);omega,by(try dsimp only);omega⟩
  ·rw[hd]at a8
   have lf:iz l ⟨p,t⟩=jd q l:=by rw[<-hq,jd,hd];simp
   have kj:0<(jd q l).length:=by rw[<-lf,oV];omega
   generalize jd q l=L at aG Lg kj lf
   rcases aG with⟨hL,rfl⟩|⟨o,rfl,ao,aon,aov⟩
   ·subst hL;cases kj
   ·have vo:=dw aov
    have oB:=cr (a:=⟨101000001,n0⟩) (b:=o) (by(try dsimp only);omega)
    (try((repeat(revert hN;revert N;apply Pn.out));refine wk (tw @a9 (tw @a8 (tw @ag0 (tw @ag1 (tw @a0 (tw @a2 (tw @a4 (tw @a6 (tw @a7 (tw @hi (tw @vA (tw @vB (tw @vC (tw @vo (tw @ao (tw @av (tw @ae.eq_1 @aa.eq_1))))))))))))))))) ?_;(repeat(refine Pn.mk ?_;intro N hN))))
    exact fw (.inl rfl) (vs:=[.agg [.own o 0 L.length]]) (sd (tw @a9 (tw @a8 (tw @ag0 (tw @ag1 (tw @a0 (tw @a2 (tw @a4 (tw @a6 (tw @a7 @vB)))))))))) ⟨o,by rw[lf];rfl,by rw[lf];simp only[go_sem, ↓reduceIte,Nat.reduceEqDiff,Nat.reduceAdd,Nat.reduceSub,Nat.reduceLeDiff,reduceCtorEq,vB,oB,ao],by(try dsimp only);omega,by(try dsimp only);omega⟩
theorem I4 (s:aA) (hP:uW s) (l:List ad) (hA:jl s.aE l) (p:aD) (t:Int) (ht:eK s.aE t=true):aq Tryz.prog 100 [.di (aw s),.di [.sl (l.map aa)],.agg [.int .i64 p.eY,.int .i64 p.eS,.int .i64 t]] (.bool (j4 s l p t)):=by
 refine aq.body eB rfl fun lj n0=>?_
 clear lj
 have h1:=wb p
 have h2:=(wc s.aE t).cut mixed (.ptr _ [.sl (s.aZ.ah.map aa),.int .i64 s.aB] (.same _ .nil))
 have h3:=qF l p hA.1.GP (by have:=hA.1.rn;omega)
 rw[ht]at h2
 by_cases h0:Cb p=true
 ·rw[h0]at h1
  obtain⟨hx,hy⟩:=s7 h0
  by_cases hi:eD l p<0
  ·have h4:=(zK s.aE hP.set l hA p hx hy t ht).cut mixed (.ptr _ [.sl (s.aZ.ah.map aa),.int .i64 s.aB] (.same _ (.same _ (.same _ .nil))))
   have e:j4 s l p t=decide (s.aB<=tt s.aE (gx l) p t):=by simp[j4,h0,(HJ hA p).2 hi]
   rw[e]
   (repeat(first|((repeat(revert hN;revert N;apply Pn.out));refine wk (tw @aw.eq_1 (tw @ab.eq_1 (tw @ae.eq_1 @hi))) ?_;(repeat(refine Pn.mk ?_;intro N hN)))|((try apply Or.inl);refine⟨_,aq.x (h1) (sd (tw @aw.eq_1 (tw @ab.eq_1 (tw @ae.eq_1 @hi)))),?_⟩;refine hN _ _ ?_;clear hN N)|((try apply Or.inl);refine⟨_,aq.x (h2) (sd (tw @aw.eq_1 (tw @ab.eq_1 (tw @ae.eq_1 @hi)))),?_⟩;refine hN _ _ ?_;clear hN N)|((try apply Or.inl);refine⟨_,aq.x (h3) (sd (tw @aw.eq_1 (tw @ab.eq_1 (tw @ae.eq_1 @hi)))),?_⟩;refine hN _ _ ?_;clear hN N)|((try apply Or.inl);refine⟨_,aq.x (h4) (sd (tw @aw.eq_1 (tw @ab.eq_1 (tw @ae.eq_1 @hi)))),?_⟩;refine hN _ _ ?_;clear hN N)))
   exact aU (b:=decide (s.aB<=tt s.aE (gx l) p t)) (.inl rfl) (sd @Nat.zero_add) rfl
  ·have e:j4 s l p t=false:=by
    have:¬gx l p<0:=fun h=>hi ((HJ hA p).1 h)
    simp[j4,this]
   rw[e]
   (repeat(first|((repeat(revert hN;revert N;apply Pn.out));refine wk (tw @aw.eq_1 (tw @ab.eq_1 (tw @ae.eq_1 @hi))) ?_;(repeat(refine Pn.mk ?_;intro N hN)))|((try apply Or.inl);refine⟨_,aq.x (h1) (sd (tw @aw.eq_1 (tw @ab.eq_1 (tw @ae.eq_1 @hi)))),?_⟩;refine hN _ _ ?_;clear hN N)|((try apply Or.inl);refine⟨_,aq.x (h2) (sd (tw @aw.eq_1 (tw @ab.eq_1 (tw @ae.eq_1 @hi)))),?_⟩;refine hN _ _ ?_;clear hN N)|((try apply Or.inl);refine⟨_,aq.x (h3) (sd (tw @aw.eq_1 (tw @ab.eq_1 (tw @ae.eq_1 @hi)))),?_⟩;refine hN _ _ ?_;clear hN N)))
   exact aU (b:=false) (.inl rfl) (sd @Nat.zero_add) rfl
 ·rw[Bool.not_eq_true]at h0
  rw[h0]at h1
  have e:j4 s l p t=false:=by simp[j4,h0]
  rw[e]
  (repeat(first|((repeat(revert hN;revert N;apply Pn.out));refine wk (tw @aw.eq_1 (tw @ab.eq_1 @ae.eq_1)) ?_;(repeat(refine Pn.mk ?_;intro N hN)))|((try apply Or.inl);refine⟨_,aq.x (h1) (sd (tw @aw.eq_1 (tw @ab.eq_1 @ae.eq_1))),?_⟩;refine hN _ _ ?_;clear hN N)))
  exact aU (b:=false) (.inl rfl) (sd @Nat.zero_add) rfl
end Go.Proofs.YtgoelphibofcmaaGreat.V
